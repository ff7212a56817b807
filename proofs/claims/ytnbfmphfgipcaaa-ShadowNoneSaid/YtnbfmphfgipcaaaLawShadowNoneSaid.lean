/- A shadow that is not there says nothing and holds nothing: ShadowNone returns true at every input. No condition. -/
import Derived.Test.YtnbfmphfgipcaaaOwnShadowNoneSaid2
import Derived.Test.YtnbfmphfgipcaaaRows
set_option linter.unusedVariables false
set_option linter.unusedSimpArgs false
namespace Go.Proofs.Ytnbfmphfgipcaaa
open Go Go.AE Go.Proofs.R6
theorem shadowNoneOwn : ownKnob Try.prog.godebug = none := by kernel_rfl
theorem shadowNoneLaid : laidOutB Try.prog = true := by kernel_rfl
theorem shadowNoneEv (x : TysT [.int .i64, .int .i64]) (hw : TysWf _ x) :
    ∃ n H', fnE Try.tab envlaw13_ShadowNone noHint 0 n 5 Try.f5.ntmps Try.f5.results.toList annlaw13_ShadowNone blaw13_ShadowNone (TysEnc _ x) [] (fun v H => some (v, H)) = some (.bool true, H') := by
  obtain ⟨a, b, ⟨⟩⟩ := x
  exact ⟨70, [], (fnlaw13_ShadowNone_ok (a, b) _).trans ((fnlaw13_ShadowNone_nat (a, b) _).trans (by rw [ShadowNone_true a b]; rfl))⟩
set_option maxRecDepth 100000 in
theorem shadowNoneContract (H : Type) (enc : TypeId × Value → H) (W : World) (base : Nat) (args : Array Value) (ds gs : List (DataW H)) (before : List MemPlace)
    (hval : ∀ (j : Nat) t v, Try.f5.params[j]? = some t → args[j]? = some v → Value.okWide Try.prog W .any base t v)
    (hW : DataW.Whole enc Try.prog Try.f5.params.toList Rows.shadowNoneSpec.vars false W args.toList ds gs before) :
    Calls Try.prog 5 args W fun e W' => ∃ v, e = .returned v ∧ Rows.shadowNoneSpec.post enc Try.prog Try.f5 false true false false W args v W' :=
  law_contract (hint := noHint) (d := 0) mixed tabOk envlaw13_ShadowNoneOk shadowNoneLaid Try.func5 (bodySome (by kernel_rfl)) (by kernel_rfl) (tb := 4) (by kernel_rfl) (by kernel_rfl)
    (ys := [.int .i64, .int .i64]) (by kernel_rfl) annlaw13_ShadowNone_ok shadowNoneEv (s := Rows.shadowNoneSpec) rfl
    (fun ds h => match ds, h with | [_, _], _ => rfl) hval hW
set_option maxRecDepth 100000 in
theorem shadowNoneLifted (os : Os) (started : os.Started) (H : Type) (enc : TypeId × Value → H) :
    ReturnsInHanded {} Try.checked os 5 .any (Rows.shadowNoneSpec.pre6 enc Try.prog Try.f5 Rows.shadowNoneRow.domain false) (Rows.shadowNoneSpec.post enc Try.prog Try.f5 false true false false) :=
  returnsInHanded_of_change_sized (C := Try.checked) shadowNoneOwn started (by kernel_rfl) Try.func5
    (ChangeSpec.witness6 (enc := enc) (C := Try.checked) false ⟨#[], #[.int .i64 0, .int .i64 0], []⟩ 8 (by kernel_rfl) (by kernel_rfl) (by kernel_rfl) (by kernel_rfl))
    fun W base args ds gs before hval hW _ _ _ => shadowNoneContract H enc W base args ds gs before hval hW
theorem shadowNone_holds : Rows.ShadowNoneSaid :=
  OpenClaim.holds_of_wide 5 Try.f5 rfl rfl rfl rfl rfl rfl rfl ⟨rfl, rfl, rfl, rfl, rfl⟩ rfl rfl rfl rfl rfl (by kernel_rfl) Try.func5 (by kernel_rfl)
    (of_decide_eq_true (by kernel_rfl)) (by unfold Func.isWrapper; first | (rw [if_pos (by decide +kernel)]; kernel_rfl) | (rw [if_neg (by decide +kernel)]; exact ⟨rfl, rfl⟩))
    (fun os started H enc _ => shadowNoneLifted os started H enc)
#print axioms shadowNone_holds
end Go.Proofs.Ytnbfmphfgipcaaa
