/- What is put behind a Keep, and taken back, leaves all that is seen as it was: ShadowBack returns true at every input. No condition. -/
import Derived.Test.YtnbfmphfgipcaaaOwnShadowBackSaid1
import Derived.Test.YtnbfmphfgipcaaaRows
set_option linter.unusedVariables false
set_option linter.unusedSimpArgs false
namespace Go.Proofs.Ytnbfmphfgipcaaa
open Go Go.AE Go.Proofs.R6
theorem shadowBackOwn : ownKnob Try.prog.godebug = none := by kernel_rfl
theorem shadowBackLaid : laidOutB Try.prog = true := by kernel_rfl
theorem shadowBackEv (x : TysT [.list .str, .list .str, .int .i64]) (hw : TysWf _ x) :
    ∃ n H', fnE Try.tab envlaw13_ShadowBack noHint 0 n 3 Try.f3.ntmps Try.f3.results.toList annlaw13_ShadowBack blaw13_ShadowBack (TysEnc _ x) [] (fun v H => some (v, H)) = some (.bool true, H') := by
  obtain ⟨a, b, c, ⟨⟩⟩ := x
  exact ⟨70, [], (fnlaw13_ShadowBack_ok (a, b, c) _).trans ((fnlaw13_ShadowBack_nat (a, b, c) _).trans (by rw [ShadowBack_true a b c]; rfl))⟩
set_option maxRecDepth 100000 in
theorem shadowBackContract (H : Type) (enc : TypeId × Value → H) (W : World) (base : Nat) (args : Array Value) (ds gs : List (DataW H)) (before : List MemPlace)
    (hval : ∀ (j : Nat) t v, Try.f3.params[j]? = some t → args[j]? = some v → Value.okWide Try.prog W .any base t v)
    (hW : DataW.Whole enc Try.prog Try.f3.params.toList Rows.shadowBackSpec.vars false W args.toList ds gs before) :
    Calls Try.prog 3 args W fun e W' => ∃ v, e = .returned v ∧ Rows.shadowBackSpec.post enc Try.prog Try.f3 false true false false W args v W' :=
  law_contract (hint := noHint) (d := 0) mixed tabOk envlaw13_ShadowBackOk shadowBackLaid Try.func3 (bodySome (by kernel_rfl)) (by kernel_rfl) (tb := 4) (by kernel_rfl) (by kernel_rfl)
    (ys := [.list .str, .list .str, .int .i64]) (by kernel_rfl) annlaw13_ShadowBack_ok shadowBackEv (s := Rows.shadowBackSpec) rfl
    (fun ds h => match ds, h with | [_, _, _], _ => rfl) hval hW
set_option maxRecDepth 100000 in
theorem shadowBackLifted (os : Os) (started : os.Started) (H : Type) (enc : TypeId × Value → H) :
    ReturnsInHanded {} Try.checked os 3 .any (Rows.shadowBackSpec.pre6 enc Try.prog Try.f3 Rows.shadowBackRow.domain false) (Rows.shadowBackSpec.post enc Try.prog Try.f3 false true false false) :=
  returnsInHanded_of_change_sized (C := Try.checked) shadowBackOwn started (by kernel_rfl) Try.func3
    (ChangeSpec.witness6 (enc := enc) (C := Try.checked) false ⟨#[], #[.slice none 0 0, .slice none 0 0, .int .i64 0], []⟩ 8 (by kernel_rfl) (by kernel_rfl) (by kernel_rfl) (by kernel_rfl))
    fun W base args ds gs before hval hW _ _ _ => shadowBackContract H enc W base args ds gs before hval hW
theorem shadowBack_holds : Rows.ShadowBackSaid :=
  OpenClaim.holds_of_wide 3 Try.f3 rfl rfl rfl rfl rfl rfl rfl ⟨rfl, rfl, rfl, rfl, rfl⟩ rfl rfl rfl rfl rfl (by kernel_rfl) Try.func3 (by kernel_rfl)
    (of_decide_eq_true (by kernel_rfl)) (by unfold Func.isWrapper; first | (rw [if_pos (by decide +kernel)]; kernel_rfl) | (rw [if_neg (by decide +kernel)]; exact ⟨rfl, rfl⟩))
    (fun os started H enc _ => shadowBackLifted os started H enc)
#print axioms shadowBack_holds
end Go.Proofs.Ytnbfmphfgipcaaa
