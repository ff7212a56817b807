/- What the functions that SuperPutsCardSaid reaches compute: part 5. -/
import Derived.Test.YtjgghofdajambaaGreatDoorOwnSuperPutsCardSaid4
import Derived.Test.YtjgghofdajambaaGreatDoorRows
import Derived.Test.YtjgghofdajambaaGreatDoorCards
import Derived.Test.YtjgghofdajambaaGreatDoorTie
import Derived.SevenTiedAt
import Derived.ProofKit
import Derived.LaidMore
import Derived.LaidHandle
import Derived.LaidLaws
import Derived.Handed
import Derived.Lay
import Derived.OpenShut
import Derived.Stop.Joined
set_option linter.unusedVariables false
set_option linter.unusedSimpArgs false
namespace Go.Proofs.YtjgghofdajambaaGreatDoor
open Go Go.AE Go.Proofs.R7 Go.RowKit
theorem superPutsOwn : ownKnob Tryz.prog.godebug = none := by kernel_rfl
theorem superPutsLaid : laidOutB Tryz.prog = true := by kernel_rfl
theorem superPutsEv (x : TysT [.st (.pair (.int .i64) (.pair (.int .i64) (.pair (.int .i64) (.pair (.int .i64) (.pair (.int .i64) (.pair (.int .i64) (.int .i64)))))))]) (hw : TysWf _ x) :
    ∃ n H', fnE Tryz.tab envq22 noHint 0 n 6 Tryz.f6.ntmps Tryz.f6.results.toList annq22 bq22 (TysEnc _ x) [] (fun v H => some (v, H)) = some (.bool true, H') := by
  obtain ⟨⟨n, r, b, c, e, s, l⟩, ⟨⟩⟩ := x
  exact ⟨70, [], (fnq22_ok (n, r, b, c, e, s, l) _).trans ((fnq22_nat (n, r, b, c, e, s, l) _).trans (by rw [SuperPuts_true]; rfl))⟩
set_option maxRecDepth 100000 in
theorem superPutsContract (H : Type) (enc : TypeId × Value → H) (W : World) (base : Nat) (args : Array Value) (ds gs : List (DataW H)) (before : List MemPlace)
    (hval : ∀ (j : Nat) t v, Tryz.f6.params[j]? = some t → args[j]? = some v → Value.okWide Tryz.prog W .any base t v)
    (hW : DataW.Whole enc Tryz.prog Tryz.f6.params.toList Rows.superPutsSpec.vars false W args.toList ds gs before) :
    Calls Tryz.prog 6 args W fun e W' => ∃ v, e = .returned v ∧ Rows.superPutsSpec.post enc Tryz.prog Tryz.f6 false true false false W args v W' :=
  law_contract (hint := noHint) (d := 0) mixed tabOk envq22Ok superPutsLaid Tryz.func6 (bodySome (by kernel_rfl)) (by kernel_rfl) (tb := 4) (by kernel_rfl) (by kernel_rfl)
    (ys := [.st (.pair (.int .i64) (.pair (.int .i64) (.pair (.int .i64) (.pair (.int .i64) (.pair (.int .i64) (.pair (.int .i64) (.int .i64)))))))]) (by kernel_rfl) annq22_ok superPutsEv (s := Rows.superPutsSpec) rfl
    (fun ds h => match ds, h with | [_], _ => rfl) hval hW
/-- A world in which the variable holds the handle of the type error. -/
noncomputable def superPutsWorld (os : Os) : World :=
  let w0 := World.holding Tryz.prog os ⟨#[], #[], []⟩
  { w0 with heap := w0.heap.modify ((Tryz.prog.globalNamed "errors.errorType").getD 0) fun
      | .cells _ t frozen => .cells #[.iface 304 (.agg #[typeHandle Tryz.prog 156])] t frozen
      | o => o }
theorem superPutsWorld_met (os : Os) (args : Array Value) : laidMetH Tryz.prog Rows.superPutsRow.laid ((superPutsWorld os).forCall (fun _ _ => 0) ⟨#[], args, []⟩).memory :=
  laidMetH_of_parts (laidMet_nil _ _) (by kernel_rfl)
set_option maxRecDepth 100000 in
theorem superPutsLifted (os : Os) (started : os.Started) (H : Type) (enc : TypeId × Value → H) :
    ReturnsInHanded {} Tryz.checked os 6 .any (fun w args => (Rows.superPutsSpec.pre enc Tryz.prog Tryz.f6 Rows.superPutsRow.domain false w args ∧ laidMetH Tryz.prog Rows.superPutsRow.laid w) ∧ sizedMet enc Tryz.prog Tryz.f6 (OpenSpec.ofChange Rows.superPutsSpec) false w args)
      (Rows.superPutsSpec.post enc Tryz.prog Tryz.f6 false true false false) :=
  returnsInHanded_of_change_and (C := Tryz.checked) (X := fun w _ => laidMetH Tryz.prog Rows.superPutsRow.laid w) (fun _ _ _ hh h => h.of_heap hh) superPutsOwn started (by kernel_rfl) Tryz.func6
    (ChangeSpec.witness_at (enc := enc) (C := Tryz.checked) (os := os) (X := fun w _ => laidMetH Tryz.prog Rows.superPutsRow.laid w) false (superPutsWorld os) #[.agg #[.int .i64 0, .int .i64 0, .int .i64 0, .int .i64 0, .int .i64 0, .int .i64 0, .int .i64 0]] 8 rfl (by kernel_rfl) (by kernel_rfl) (by kernel_rfl) (by kernel_rfl) (by kernel_rfl) (superPutsWorld_met os _))
    fun W base args ds gs before hval hW _ _ _ _ => superPutsContract H enc W base args ds gs before hval hW
theorem superPutsFacts : joinedFacts Tryz.prog 6 Tryz.f6 Rows.superPutsSpec Rows.superPutsRow = true := by kernel_rfl
theorem superPuts_holds : Rows.SuperPutsSaid :=
  OpenClaim.holds_of_wide 6 Tryz.f6 rfl rfl rfl rfl rfl rfl rfl ⟨rfl, rfl, rfl, rfl, rfl⟩ rfl rfl rfl rfl rfl (by kernel_rfl) Tryz.func6 superPutsFacts
    (of_decide_eq_true (by kernel_rfl)) (by unfold Func.isWrapper; first | (rw [if_pos (by decide +kernel)]; kernel_rfl) | (rw [if_neg (by decide +kernel)]; exact ⟨rfl, rfl⟩))
    (fun os started H enc _ => superPutsLifted os started H enc)
end Go.Proofs.YtjgghofdajambaaGreatDoor
