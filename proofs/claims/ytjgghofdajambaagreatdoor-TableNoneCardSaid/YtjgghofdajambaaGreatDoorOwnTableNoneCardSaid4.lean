/- What the functions that TableNoneCardSaid reaches compute: part 4. -/
import Derived.Test.YtjgghofdajambaaGreatDoorOwnTableNoneCardSaid3
import Derived.Test.YtjgghofdajambaaGreatDoorRows
import Derived.Test.YtjgghofdajambaaGreatDoorCards
import Derived.Test.YtjgghofdajambaaGreatDoorTie
import Derived.SevenTiedAt
import Derived.ProofKit
import Derived.LaidMore
import Derived.LaidHandle
import Derived.LaidLaws
import Derived.Handed
import Derived.Lay
import Derived.OpenShut
import Derived.Stop.Joined
set_option linter.unusedVariables false
set_option linter.unusedSimpArgs false
namespace Go.Proofs.YtjgghofdajambaaGreatDoor
open Go Go.AE Go.Proofs.R7T Go.Proofs.R7 Go.RowKit
theorem tableNoneOwn : ownKnob Tryz.prog.godebug = none := by kernel_rfl
theorem tableNoneLaid : laidOutB Tryz.prog = true := by kernel_rfl
theorem tableNoneEv (x : TysT [.st (.pair (.int .i64) (.pair (.int .i64) (.int .i64))), .int .i64, .st (.pair (.pair (.int .i64) (.int .i64)) (.int .i64))]) (hw : TysWf _ x) :
    ∃ n H', fnE Tryz.tab envq21 noHint 0 n 9 Tryz.f9.ntmps Tryz.f9.results.toList annq21 bq21 (TysEnc _ x) [] (fun v H => some (v, H)) = some (.bool true, H') := by
  obtain ⟨⟨a, b, c⟩, n, ⟨⟨v, w⟩, s⟩, ⟨⟩⟩ := x
  exact ⟨70, [], (fnq21_ok (a, b, c, n, v, w, s) _).trans ((fnq21_nat (a, b, c, n, v, w, s) _).trans (by rw [TableNone_true]; rfl))⟩
set_option maxRecDepth 100000 in
theorem tableNoneContract (H : Type) (enc : TypeId × Value → H) (W : World) (base : Nat) (args : Array Value) (ds gs : List (DataW H)) (before : List MemPlace)
    (hval : ∀ (j : Nat) t v, Tryz.f9.params[j]? = some t → args[j]? = some v → Value.okWide Tryz.prog W .any base t v)
    (hW : DataW.Whole enc Tryz.prog Tryz.f9.params.toList Rows.tableNoneSpec.vars false W args.toList ds gs before) :
    Calls Tryz.prog 9 args W fun e W' => ∃ v, e = .returned v ∧ Rows.tableNoneSpec.post enc Tryz.prog Tryz.f9 false true false false W args v W' :=
  law_contract (hint := noHint) (d := 0) mixed tabOk envq21Ok tableNoneLaid Tryz.func9 (bodySome (by kernel_rfl)) (by kernel_rfl) (tb := 4) (by kernel_rfl) (by kernel_rfl)
    (ys := [.st (.pair (.int .i64) (.pair (.int .i64) (.int .i64))), .int .i64, .st (.pair (.pair (.int .i64) (.int .i64)) (.int .i64))]) (by kernel_rfl) annq21_ok tableNoneEv (s := Rows.tableNoneSpec) rfl
    (fun ds h => match ds, h with | [_, _, _], _ => rfl) hval hW
/-- A world in which the variable holds the handle of the type error. -/
noncomputable def tableNoneWorld (os : Os) : World :=
  let w0 := World.holding Tryz.prog os ⟨#[], #[], []⟩
  { w0 with heap := w0.heap.modify ((Tryz.prog.globalNamed "errors.errorType").getD 0) fun
      | .cells _ t frozen => .cells #[.iface 304 (.agg #[typeHandle Tryz.prog 156])] t frozen
      | o => o }
theorem tableNoneWorld_met (os : Os) (args : Array Value) : laidMetH Tryz.prog Rows.tableNoneRow.laid ((tableNoneWorld os).forCall (fun _ _ => 0) ⟨#[], args, []⟩).memory :=
  laidMetH_of_parts (laidMet_nil _ _) (by kernel_rfl)
set_option maxRecDepth 100000 in
theorem tableNoneLifted (os : Os) (started : os.Started) (H : Type) (enc : TypeId × Value → H) :
    ReturnsInHanded {} Tryz.checked os 9 .any (fun w args => (Rows.tableNoneSpec.pre enc Tryz.prog Tryz.f9 Rows.tableNoneRow.domain false w args ∧ laidMetH Tryz.prog Rows.tableNoneRow.laid w) ∧ sizedMet enc Tryz.prog Tryz.f9 (OpenSpec.ofChange Rows.tableNoneSpec) false w args)
      (Rows.tableNoneSpec.post enc Tryz.prog Tryz.f9 false true false false) :=
  returnsInHanded_of_change_and (C := Tryz.checked) (X := fun w _ => laidMetH Tryz.prog Rows.tableNoneRow.laid w) (fun _ _ _ hh h => h.of_heap hh) tableNoneOwn started (by kernel_rfl) Tryz.func9
    (ChangeSpec.witness_at (enc := enc) (C := Tryz.checked) (os := os) (X := fun w _ => laidMetH Tryz.prog Rows.tableNoneRow.laid w) false (tableNoneWorld os) #[.agg #[.int .i64 0, .int .i64 0, .int .i64 0], .int .i64 0, .agg #[.int .i64 0, .int .i64 0, .int .i64 0]] 8 rfl (by kernel_rfl) (by kernel_rfl) (by kernel_rfl) (by kernel_rfl) (by kernel_rfl) (tableNoneWorld_met os _))
    fun W base args ds gs before hval hW _ _ _ _ => tableNoneContract H enc W base args ds gs before hval hW
theorem tableNoneFacts : joinedFacts Tryz.prog 9 Tryz.f9 Rows.tableNoneSpec Rows.tableNoneRow = true := by kernel_rfl
theorem tableNone_holds : Rows.TableNoneSaid :=
  OpenClaim.holds_of_wide 9 Tryz.f9 rfl rfl rfl rfl rfl rfl rfl ⟨rfl, rfl, rfl, rfl, rfl⟩ rfl rfl rfl rfl rfl (by kernel_rfl) Tryz.func9 tableNoneFacts
    (of_decide_eq_true (by kernel_rfl)) (by unfold Func.isWrapper; first | (rw [if_pos (by decide +kernel)]; kernel_rfl) | (rw [if_neg (by decide +kernel)]; exact ⟨rfl, rfl⟩))
    (fun os started H enc _ => tableNoneLifted os started H enc)
end Go.Proofs.YtjgghofdajambaaGreatDoor
