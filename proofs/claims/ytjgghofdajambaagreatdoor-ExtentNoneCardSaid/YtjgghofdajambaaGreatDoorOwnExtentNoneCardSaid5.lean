/- What the functions that ExtentNoneCardSaid reaches compute: part 5. -/
import Derived.Test.YtjgghofdajambaaGreatDoorOwnExtentNoneCardSaid4
import Derived.Test.YtjgghofdajambaaGreatDoorRows
import Derived.Test.YtjgghofdajambaaGreatDoorCards
import Derived.Test.YtjgghofdajambaaGreatDoorTie
import Derived.SevenTiedAt
import Derived.ProofKit
import Derived.LaidMore
import Derived.LaidHandle
import Derived.LaidLaws
import Derived.Handed
import Derived.Lay
import Derived.OpenShut
import Derived.Stop.Joined
set_option linter.unusedVariables false
set_option linter.unusedSimpArgs false
namespace Go.Proofs.YtjgghofdajambaaGreatDoor
open Go Go.AE Go.Proofs.R7E Go.Proofs.R7 Go.RowKit
theorem extentNoneOwn : ownKnob Tryz.prog.godebug = none := by kernel_rfl
theorem extentNoneLaid : laidOutB Tryz.prog = true := by kernel_rfl
theorem extentNoneEv (x : TysT [.st (.pair (.int .i64) (.pair (.int .i64) (.int .i64))), .int .i64, .str]) (hw : TysWf _ x) :
    ∃ n H', fnE Tryz.tab envq25 noHint 0 n 5 Tryz.f5.ntmps Tryz.f5.results.toList annq25 bq25 (TysEnc _ x) [] (fun v H => some (v, H)) = some (.bool true, H') := by
  obtain ⟨⟨a, b, c⟩, n, t, ⟨⟩⟩ := x
  exact ⟨70, [], (fnq25_ok (a, b, c, n, t) _).trans ((fnq25_nat (a, b, c, n, t) _).trans (by rw [ExtentNone_true]; rfl))⟩
set_option maxRecDepth 100000 in
theorem extentNoneContract (H : Type) (enc : TypeId × Value → H) (W : World) (base : Nat) (args : Array Value) (ds gs : List (DataW H)) (before : List MemPlace)
    (hval : ∀ (j : Nat) t v, Tryz.f5.params[j]? = some t → args[j]? = some v → Value.okWide Tryz.prog W .any base t v)
    (hW : DataW.Whole enc Tryz.prog Tryz.f5.params.toList Rows.extentNoneSpec.vars false W args.toList ds gs before) :
    Calls Tryz.prog 5 args W fun e W' => ∃ v, e = .returned v ∧ Rows.extentNoneSpec.post enc Tryz.prog Tryz.f5 false true false false W args v W' :=
  law_contract (hint := noHint) (d := 0) mixed tabOk envq25Ok extentNoneLaid Tryz.func5 (bodySome (by kernel_rfl)) (by kernel_rfl) (tb := 4) (by kernel_rfl) (by kernel_rfl)
    (ys := [.st (.pair (.int .i64) (.pair (.int .i64) (.int .i64))), .int .i64, .str]) (by kernel_rfl) annq25_ok extentNoneEv (s := Rows.extentNoneSpec) rfl
    (fun ds h => match ds, h with | [_, _, _], _ => rfl) hval hW
/-- A world in which the variable holds the handle of the type error. -/
noncomputable def extentNoneWorld (os : Os) : World :=
  let w0 := World.holding Tryz.prog os ⟨#[], #[], []⟩
  { w0 with heap := w0.heap.modify ((Tryz.prog.globalNamed "errors.errorType").getD 0) fun
      | .cells _ t frozen => .cells #[.iface 304 (.agg #[typeHandle Tryz.prog 156])] t frozen
      | o => o }
theorem extentNoneWorld_met (os : Os) (args : Array Value) : laidMetH Tryz.prog Rows.extentNoneRow.laid ((extentNoneWorld os).forCall (fun _ _ => 0) ⟨#[], args, []⟩).memory :=
  laidMetH_of_parts (laidMet_nil _ _) (by kernel_rfl)
set_option maxRecDepth 100000 in
theorem extentNoneLifted (os : Os) (started : os.Started) (H : Type) (enc : TypeId × Value → H) :
    ReturnsInHanded {} Tryz.checked os 5 .any (fun w args => (Rows.extentNoneSpec.pre enc Tryz.prog Tryz.f5 Rows.extentNoneRow.domain false w args ∧ laidMetH Tryz.prog Rows.extentNoneRow.laid w) ∧ sizedMet enc Tryz.prog Tryz.f5 (OpenSpec.ofChange Rows.extentNoneSpec) false w args)
      (Rows.extentNoneSpec.post enc Tryz.prog Tryz.f5 false true false false) :=
  returnsInHanded_of_change_and (C := Tryz.checked) (X := fun w _ => laidMetH Tryz.prog Rows.extentNoneRow.laid w) (fun _ _ _ hh h => h.of_heap hh) extentNoneOwn started (by kernel_rfl) Tryz.func5
    (ChangeSpec.witness_at (enc := enc) (C := Tryz.checked) (os := os) (X := fun w _ => laidMetH Tryz.prog Rows.extentNoneRow.laid w) false (extentNoneWorld os) #[.agg #[.int .i64 0, .int .i64 0, .int .i64 0], .int .i64 0, .string ⟨#[]⟩] 8 rfl (by kernel_rfl) (by kernel_rfl) (by kernel_rfl) (by kernel_rfl) (by kernel_rfl) (extentNoneWorld_met os _))
    fun W base args ds gs before hval hW _ _ _ _ => extentNoneContract H enc W base args ds gs before hval hW
theorem extentNoneFacts : joinedFacts Tryz.prog 5 Tryz.f5 Rows.extentNoneSpec Rows.extentNoneRow = true := by kernel_rfl
theorem extentNone_holds : Rows.ExtentNoneSaid :=
  OpenClaim.holds_of_wide 5 Tryz.f5 rfl rfl rfl rfl rfl rfl rfl ⟨rfl, rfl, rfl, rfl, rfl⟩ rfl rfl rfl rfl rfl (by kernel_rfl) Tryz.func5 extentNoneFacts
    (of_decide_eq_true (by kernel_rfl)) (by unfold Func.isWrapper; first | (rw [if_pos (by decide +kernel)]; kernel_rfl) | (rw [if_neg (by decide +kernel)]; exact ⟨rfl, rfl⟩))
    (fun os started H enc _ => extentNoneLifted os started H enc)
end Go.Proofs.YtjgghofdajambaaGreatDoor
