/- A shadow does as a plain list kept in order does, whatever is asked of it: ShadowDoes returns true at every input. No condition. -/
import Derived.Test.YtnbfmphfgipcaaaOwnShadowDoesSaid2
import Derived.Test.YtnbfmphfgipcaaaRows
set_option linter.unusedVariables false
set_option linter.unusedSimpArgs false
namespace Go.Proofs.Ytnbfmphfgipcaaa
open Go Go.AE Go.Proofs.R6
theorem shadowDoesOwn : ownKnob Try.prog.godebug = none := by kernel_rfl
theorem shadowDoesLaid : laidOutB Try.prog = true := by kernel_rfl
theorem shadowDoesEv (x : TysT [.list (.st (.pair (.int .i64) (.pair (.int .i64) (.int .i64)))), .int .i64]) (hw : TysWf _ x) :
    ∃ n H', fnE Try.tab envlaw13_ShadowDoes noHint 0 n 4 Try.f4.ntmps Try.f4.results.toList annlaw13_ShadowDoes blaw13_ShadowDoes (TysEnc _ x) [] (fun v H => some (v, H)) = some (.bool true, H') := by
  obtain ⟨a, b, ⟨⟩⟩ := x
  exact ⟨70, [], (fnlaw13_ShadowDoes_ok (a, b) _).trans ((fnlaw13_ShadowDoes_nat (a, b) _).trans (by rw [ShadowDoes_true a b]; rfl))⟩
set_option maxRecDepth 100000 in
theorem shadowDoesContract (H : Type) (enc : TypeId × Value → H) (W : World) (base : Nat) (args : Array Value) (ds gs : List (DataW H)) (before : List MemPlace)
    (hval : ∀ (j : Nat) t v, Try.f4.params[j]? = some t → args[j]? = some v → Value.okWide Try.prog W .any base t v)
    (hW : DataW.Whole enc Try.prog Try.f4.params.toList Rows.shadowDoesSpec.vars false W args.toList ds gs before) :
    Calls Try.prog 4 args W fun e W' => ∃ v, e = .returned v ∧ Rows.shadowDoesSpec.post enc Try.prog Try.f4 false true false false W args v W' :=
  law_contract (hint := noHint) (d := 0) mixed tabOk envlaw13_ShadowDoesOk shadowDoesLaid Try.func4 (bodySome (by kernel_rfl)) (by kernel_rfl) (tb := 4) (by kernel_rfl) (by kernel_rfl)
    (ys := [.list (.st (.pair (.int .i64) (.pair (.int .i64) (.int .i64)))), .int .i64]) (by kernel_rfl) annlaw13_ShadowDoes_ok shadowDoesEv (s := Rows.shadowDoesSpec) rfl
    (fun ds h => match ds, h with | [_, _], _ => rfl) hval hW
set_option maxRecDepth 100000 in
theorem shadowDoesLifted (os : Os) (started : os.Started) (H : Type) (enc : TypeId × Value → H) :
    ReturnsInHanded {} Try.checked os 4 .any (Rows.shadowDoesSpec.pre6 enc Try.prog Try.f4 Rows.shadowDoesRow.domain false) (Rows.shadowDoesSpec.post enc Try.prog Try.f4 false true false false) :=
  returnsInHanded_of_change_sized (C := Try.checked) shadowDoesOwn started (by kernel_rfl) Try.func4
    (ChangeSpec.witness6 (enc := enc) (C := Try.checked) false ⟨#[], #[.slice none 0 0, .int .i64 0], []⟩ 8 (by kernel_rfl) (by kernel_rfl) (by kernel_rfl) (by kernel_rfl))
    fun W base args ds gs before hval hW _ _ _ => shadowDoesContract H enc W base args ds gs before hval hW
theorem shadowDoes_holds : Rows.ShadowDoesSaid :=
  OpenClaim.holds_of_wide 4 Try.f4 rfl rfl rfl rfl rfl rfl rfl ⟨rfl, rfl, rfl, rfl, rfl⟩ rfl rfl rfl rfl rfl (by kernel_rfl) Try.func4 (by kernel_rfl)
    (of_decide_eq_true (by kernel_rfl)) (by unfold Func.isWrapper; first | (rw [if_pos (by decide +kernel)]; kernel_rfl) | (rw [if_neg (by decide +kernel)]; exact ⟨rfl, rfl⟩))
    (fun os started H enc _ => shadowDoesLifted os started H enc)
#print axioms shadowDoes_holds
end Go.Proofs.Ytnbfmphfgipcaaa
