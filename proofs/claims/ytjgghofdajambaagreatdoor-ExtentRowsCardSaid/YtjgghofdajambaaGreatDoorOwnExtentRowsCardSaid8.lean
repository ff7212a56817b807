/- What the functions that ExtentRowsCardSaid reaches compute: part 8. -/
import Derived.Test.YtjgghofdajambaaGreatDoorOwnExtentRowsCardSaid7
import Derived.Test.YtjgghofdajambaaGreatDoorRows
import Derived.Test.YtjgghofdajambaaGreatDoorCards
import Derived.Test.YtjgghofdajambaaGreatDoorTie
import Derived.SevenTiedAt
import Derived.ProofKit
import Derived.LaidMore
import Derived.LaidHandle
import Derived.LaidLaws
import Derived.Handed
import Derived.Lay
import Derived.OpenShut
import Derived.Stop.Joined
set_option linter.unusedVariables false
set_option linter.unusedSimpArgs false
namespace Go.Proofs.YtjgghofdajambaaGreatDoor
open Go Go.AE Go.Proofs.R7R Go.Proofs.R7 Go.RowKit
theorem extentRowsOwn : ownKnob Tryz.prog.godebug = none := by kernel_rfl
theorem extentRowsLaid : laidOutB Tryz.prog = true := by kernel_rfl
theorem extentRowsEv (x : TysT [.int .i64, .str, .int .i64]) (hw : TysWf _ x) :
    ∃ n H', fnE Tryz.tab envq23 noHint 0 n 4 Tryz.f4.ntmps Tryz.f4.results.toList annq23 bq23 (TysEnc _ x) [] (fun v H => some (v, H)) = some (.bool true, H') := by
  obtain ⟨a, d, k, ⟨⟩⟩ := x
  obtain ⟨ha, _⟩ := hw
  have hb : -9223372036854775808 ≤ a ∧ a ≤ 9223372036854775807 := ha
  exact ⟨70, [], (fnq23_ok (a, d, k) _).trans ((fnq23_nat (a, d, k) _).trans (by rw [ExtentRows_true a d k hb]; rfl))⟩
set_option maxRecDepth 100000 in
theorem extentRowsContract (H : Type) (enc : TypeId × Value → H) (W : World) (base : Nat) (args : Array Value) (ds gs : List (DataW H)) (before : List MemPlace)
    (hval : ∀ (j : Nat) t v, Tryz.f4.params[j]? = some t → args[j]? = some v → Value.okWide Tryz.prog W .any base t v)
    (hW : DataW.Whole enc Tryz.prog Tryz.f4.params.toList Rows.extentRowsSpec.vars false W args.toList ds gs before) :
    Calls Tryz.prog 4 args W fun e W' => ∃ v, e = .returned v ∧ Rows.extentRowsSpec.post enc Tryz.prog Tryz.f4 false true false false W args v W' :=
  law_contract (hint := noHint) (d := 0) mixed tabOk envq23Ok extentRowsLaid Tryz.func4 (bodySome (by kernel_rfl)) (by kernel_rfl) (tb := 4) (by kernel_rfl) (by kernel_rfl)
    (ys := [.int .i64, .str, .int .i64]) (by kernel_rfl) annq23_ok extentRowsEv (s := Rows.extentRowsSpec) rfl
    (fun ds h => match ds, h with | [_, _, _], _ => rfl) hval hW
/-- A world in which the variable holds the handle of the type error. -/
noncomputable def extentRowsWorld (os : Os) : World :=
  let w0 := World.holding Tryz.prog os ⟨#[], #[], []⟩
  { w0 with heap := w0.heap.modify ((Tryz.prog.globalNamed "errors.errorType").getD 0) fun
      | .cells _ t frozen => .cells #[.iface 304 (.agg #[typeHandle Tryz.prog 156])] t frozen
      | o => o }
theorem extentRowsWorld_met (os : Os) (args : Array Value) : laidMetH Tryz.prog Rows.extentRowsRow.laid ((extentRowsWorld os).forCall (fun _ _ => 0) ⟨#[], args, []⟩).memory :=
  laidMetH_of_parts (laidMet_nil _ _) (by kernel_rfl)
set_option maxRecDepth 100000 in
theorem extentRowsLifted (os : Os) (started : os.Started) (H : Type) (enc : TypeId × Value → H) :
    ReturnsInHanded {} Tryz.checked os 4 .any (fun w args => (Rows.extentRowsSpec.pre enc Tryz.prog Tryz.f4 Rows.extentRowsRow.domain false w args ∧ laidMetH Tryz.prog Rows.extentRowsRow.laid w) ∧ sizedMet enc Tryz.prog Tryz.f4 (OpenSpec.ofChange Rows.extentRowsSpec) false w args)
      (Rows.extentRowsSpec.post enc Tryz.prog Tryz.f4 false true false false) :=
  returnsInHanded_of_change_and (C := Tryz.checked) (X := fun w _ => laidMetH Tryz.prog Rows.extentRowsRow.laid w) (fun _ _ _ hh h => h.of_heap hh) extentRowsOwn started (by kernel_rfl) Tryz.func4
    (ChangeSpec.witness_at (enc := enc) (C := Tryz.checked) (os := os) (X := fun w _ => laidMetH Tryz.prog Rows.extentRowsRow.laid w) false (extentRowsWorld os) #[.int .i64 0, .string ⟨#[]⟩, .int .i64 0] 8 rfl (by kernel_rfl) (by kernel_rfl) (by kernel_rfl) (by kernel_rfl) (by kernel_rfl) (extentRowsWorld_met os _))
    fun W base args ds gs before hval hW _ _ _ _ => extentRowsContract H enc W base args ds gs before hval hW
theorem extentRowsFacts : joinedFacts Tryz.prog 4 Tryz.f4 Rows.extentRowsSpec Rows.extentRowsRow = true := by kernel_rfl
theorem extentRows_holds : Rows.ExtentRowsSaid :=
  OpenClaim.holds_of_wide 4 Tryz.f4 rfl rfl rfl rfl rfl rfl rfl ⟨rfl, rfl, rfl, rfl, rfl⟩ rfl rfl rfl rfl rfl (by kernel_rfl) Tryz.func4 extentRowsFacts
    (of_decide_eq_true (by kernel_rfl)) (by unfold Func.isWrapper; first | (rw [if_pos (by decide +kernel)]; kernel_rfl) | (rw [if_neg (by decide +kernel)]; exact ⟨rfl, rfl⟩))
    (fun os started H enc _ => extentRowsLifted os started H enc)
end Go.Proofs.YtjgghofdajambaaGreatDoor
