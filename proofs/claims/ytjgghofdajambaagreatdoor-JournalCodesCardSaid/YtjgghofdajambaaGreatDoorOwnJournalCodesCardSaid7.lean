/- What the functions that JournalCodesCardSaid reaches compute: part 7. -/
import Derived.Test.YtjgghofdajambaaGreatDoorOwnJournalCodesCardSaid6
import Derived.Test.YtjgghofdajambaaGreatDoorRows
import Derived.Test.YtjgghofdajambaaGreatDoorCards
import Derived.Test.YtjgghofdajambaaGreatDoorTie
import Derived.SevenTiedAt
import Derived.ProofKit
import Derived.LaidMore
import Derived.LaidHandle
import Derived.LaidLaws
import Derived.Handed
import Derived.Lay
import Derived.OpenShut
import Derived.Stop.Joined
set_option linter.unusedVariables false
set_option linter.unusedSimpArgs false
namespace Go.Proofs.YtjgghofdajambaaGreatDoor
open Go Go.AE Go.Proofs.R7J Go.Proofs.R7 Go.RowKit
theorem journalCodesOwn : ownKnob Tryz.prog.godebug = none := by kernel_rfl
theorem journalCodesLaid : laidOutB Tryz.prog = true := by kernel_rfl
theorem journalCodesEv (x : TysT [.int .i64, .list (.int .i64), .str]) (hw : TysWf _ x) :
    ∃ n H', fnE Tryz.tab envq24 noHint 0 n 8 Tryz.f8.ntmps Tryz.f8.results.toList annq24 bq24 (TysEnc _ x) [] (fun v H => some (v, H)) = some (.bool true, H') := by
  obtain ⟨a, l, t, ⟨⟩⟩ := x
  exact ⟨70, [], (fnq24_ok (a, l, t) _).trans ((fnq24_nat (a, l, t) _).trans (by rw [JournalCodes_true a l t]; rfl))⟩
set_option maxRecDepth 100000 in
theorem journalCodesContract (H : Type) (enc : TypeId × Value → H) (W : World) (base : Nat) (args : Array Value) (ds gs : List (DataW H)) (before : List MemPlace)
    (hval : ∀ (j : Nat) t v, Tryz.f8.params[j]? = some t → args[j]? = some v → Value.okWide Tryz.prog W .any base t v)
    (hW : DataW.Whole enc Tryz.prog Tryz.f8.params.toList Rows.journalCodesSpec.vars false W args.toList ds gs before) :
    Calls Tryz.prog 8 args W fun e W' => ∃ v, e = .returned v ∧ Rows.journalCodesSpec.post enc Tryz.prog Tryz.f8 false true false false W args v W' :=
  law_contract (hint := noHint) (d := 0) mixed tabOk envq24Ok journalCodesLaid Tryz.func8 (bodySome (by kernel_rfl)) (by kernel_rfl) (tb := 4) (by kernel_rfl) (by kernel_rfl)
    (ys := [.int .i64, .list (.int .i64), .str]) (by kernel_rfl) annq24_ok journalCodesEv (s := Rows.journalCodesSpec) rfl
    (fun ds h => match ds, h with | [_, _, _], _ => rfl) hval hW
noncomputable def journalCodesWorld (os : Os) : World :=
  let w0 := World.holding Tryz.prog os ⟨#[], #[], []⟩
  { w0 with heap := w0.heap.modify ((Tryz.prog.globalNamed "errors.errorType").getD 0) fun
      | .cells _ t frozen => .cells #[.iface 304 (.agg #[typeHandle Tryz.prog 156])] t frozen
      | o => o }
theorem journalCodesWorld_met (os : Os) (args : Array Value) : laidMetH Tryz.prog Rows.journalCodesRow.laid ((journalCodesWorld os).forCall (fun _ _ => 0) ⟨#[], args, []⟩).memory :=
  laidMetH_of_parts (laidMet_nil _ _) (by kernel_rfl)
set_option maxRecDepth 100000 in
theorem journalCodesLifted (os : Os) (started : os.Started) (H : Type) (enc : TypeId × Value → H) :
    ReturnsInHanded {} Tryz.checked os 8 .any (fun w args => (Rows.journalCodesSpec.pre enc Tryz.prog Tryz.f8 Rows.journalCodesRow.domain false w args ∧ laidMetH Tryz.prog Rows.journalCodesRow.laid w) ∧ sizedMet enc Tryz.prog Tryz.f8 (OpenSpec.ofChange Rows.journalCodesSpec) false w args)
      (Rows.journalCodesSpec.post enc Tryz.prog Tryz.f8 false true false false) :=
  returnsInHanded_of_change_and (C := Tryz.checked) (X := fun w _ => laidMetH Tryz.prog Rows.journalCodesRow.laid w) (fun _ _ _ hh h => h.of_heap hh) journalCodesOwn started (by kernel_rfl) Tryz.func8
    (ChangeSpec.witness_at (enc := enc) (C := Tryz.checked) (os := os) (X := fun w _ => laidMetH Tryz.prog Rows.journalCodesRow.laid w) false (journalCodesWorld os) #[.int .i64 0, .slice none 0 0, .string ⟨#[]⟩] 8 rfl (by kernel_rfl) (by kernel_rfl) (by kernel_rfl) (by kernel_rfl) (by kernel_rfl) (journalCodesWorld_met os _))
    fun W base args ds gs before hval hW _ _ _ _ => journalCodesContract H enc W base args ds gs before hval hW
theorem journalCodesFacts : joinedFacts Tryz.prog 8 Tryz.f8 Rows.journalCodesSpec Rows.journalCodesRow = true := by kernel_rfl
theorem journalCodes_holds : Rows.JournalCodesSaid :=
  OpenClaim.holds_of_wide 8 Tryz.f8 rfl rfl rfl rfl rfl rfl rfl ⟨rfl, rfl, rfl, rfl, rfl⟩ rfl rfl rfl rfl rfl (by kernel_rfl) Tryz.func8 journalCodesFacts
    (of_decide_eq_true (by kernel_rfl)) (by unfold Func.isWrapper; first | (rw [if_pos (by decide +kernel)]; kernel_rfl) | (rw [if_neg (by decide +kernel)]; exact ⟨rfl, rfl⟩))
    (fun os started H enc _ => journalCodesLifted os started H enc)
end Go.Proofs.YtjgghofdajambaaGreatDoor
