/- What the functions that SuperGetsCardSaid reaches compute: part 5. -/
import Derived.Test.YtjgghofdajambaaGreatDoorOwnSuperGetsCardSaid4
import Derived.Test.YtjgghofdajambaaGreatDoorRows
import Derived.Test.YtjgghofdajambaaGreatDoorCards
import Derived.Test.YtjgghofdajambaaGreatDoorTie
import Derived.SevenTiedAt
import Derived.ProofKit
import Derived.LaidMore
import Derived.LaidHandle
import Derived.LaidLaws
import Derived.Handed
import Derived.Lay
import Derived.OpenShut
import Derived.Stop.Joined
set_option linter.unusedVariables false
set_option linter.unusedSimpArgs false
namespace Go.Proofs.YtjgghofdajambaaGreatDoor
open Go Go.AE Go.Proofs.R7 Go.RowKit
theorem superGetsOwn : ownKnob Tryz.prog.godebug = none := by kernel_rfl
theorem superGetsLaid : laidOutB Tryz.prog = true := by kernel_rfl
theorem superGetsEv (x : TysT [.str]) (hw : TysWf _ x) :
    ∃ n H', fnE Tryz.tab envq21 noHint 0 n 7 Tryz.f7.ntmps Tryz.f7.results.toList annq21 bq21 (TysEnc _ x) [] (fun v H => some (v, H)) = some (.bool true, H') := by
  obtain ⟨t, ⟨⟩⟩ := x
  exact ⟨70, [], (fnq21_ok t _).trans ((fnq21_nat t _).trans (by rw [SuperGets_true]; rfl))⟩
set_option maxRecDepth 100000 in
theorem superGetsContract (H : Type) (enc : TypeId × Value → H) (W : World) (base : Nat) (args : Array Value) (ds gs : List (DataW H)) (before : List MemPlace)
    (hval : ∀ (j : Nat) t v, Tryz.f7.params[j]? = some t → args[j]? = some v → Value.okWide Tryz.prog W .any base t v)
    (hW : DataW.Whole enc Tryz.prog Tryz.f7.params.toList Rows.superGetsSpec.vars false W args.toList ds gs before) :
    Calls Tryz.prog 7 args W fun e W' => ∃ v, e = .returned v ∧ Rows.superGetsSpec.post enc Tryz.prog Tryz.f7 false true false false W args v W' :=
  law_contract (hint := noHint) (d := 0) mixed tabOk envq21Ok superGetsLaid Tryz.func7 (bodySome (by kernel_rfl)) (by kernel_rfl) (tb := 4) (by kernel_rfl) (by kernel_rfl)
    (ys := [.str]) (by kernel_rfl) annq21_ok superGetsEv (s := Rows.superGetsSpec) rfl
    (fun ds h => match ds, h with | [_], _ => rfl) hval hW
/-- A world in which the variable holds the handle of the type error. -/
noncomputable def superGetsWorld (os : Os) : World :=
  let w0 := World.holding Tryz.prog os ⟨#[], #[], []⟩
  { w0 with heap := w0.heap.modify ((Tryz.prog.globalNamed "errors.errorType").getD 0) fun
      | .cells _ t frozen => .cells #[.iface 304 (.agg #[typeHandle Tryz.prog 156])] t frozen
      | o => o }
theorem superGetsWorld_met (os : Os) (args : Array Value) : laidMetH Tryz.prog Rows.superGetsRow.laid ((superGetsWorld os).forCall (fun _ _ => 0) ⟨#[], args, []⟩).memory :=
  laidMetH_of_parts (laidMet_nil _ _) (by kernel_rfl)
set_option maxRecDepth 100000 in
theorem superGetsLifted (os : Os) (started : os.Started) (H : Type) (enc : TypeId × Value → H) :
    ReturnsInHanded {} Tryz.checked os 7 .any (fun w args => (Rows.superGetsSpec.pre enc Tryz.prog Tryz.f7 Rows.superGetsRow.domain false w args ∧ laidMetH Tryz.prog Rows.superGetsRow.laid w) ∧ sizedMet enc Tryz.prog Tryz.f7 (OpenSpec.ofChange Rows.superGetsSpec) false w args)
      (Rows.superGetsSpec.post enc Tryz.prog Tryz.f7 false true false false) :=
  returnsInHanded_of_change_and (C := Tryz.checked) (X := fun w _ => laidMetH Tryz.prog Rows.superGetsRow.laid w) (fun _ _ _ hh h => h.of_heap hh) superGetsOwn started (by kernel_rfl) Tryz.func7
    (ChangeSpec.witness_at (enc := enc) (C := Tryz.checked) (os := os) (X := fun w _ => laidMetH Tryz.prog Rows.superGetsRow.laid w) false (superGetsWorld os) #[.string ⟨#[]⟩] 8 rfl (by kernel_rfl) (by kernel_rfl) (by kernel_rfl) (by kernel_rfl) (by kernel_rfl) (superGetsWorld_met os _))
    fun W base args ds gs before hval hW _ _ _ _ => superGetsContract H enc W base args ds gs before hval hW
theorem superGetsFacts : joinedFacts Tryz.prog 7 Tryz.f7 Rows.superGetsSpec Rows.superGetsRow = true := by kernel_rfl
theorem superGets_holds : Rows.SuperGetsSaid :=
  OpenClaim.holds_of_wide 7 Tryz.f7 rfl rfl rfl rfl rfl rfl rfl ⟨rfl, rfl, rfl, rfl, rfl⟩ rfl rfl rfl rfl rfl (by kernel_rfl) Tryz.func7 superGetsFacts
    (of_decide_eq_true (by kernel_rfl)) (by unfold Func.isWrapper; first | (rw [if_pos (by decide +kernel)]; kernel_rfl) | (rw [if_neg (by decide +kernel)]; exact ⟨rfl, rfl⟩))
    (fun os started H enc _ => superGetsLifted os started H enc)
end Go.Proofs.YtjgghofdajambaaGreatDoor
