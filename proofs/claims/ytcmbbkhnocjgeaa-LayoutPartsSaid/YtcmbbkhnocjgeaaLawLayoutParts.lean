/- For every volume and every number, the places that layout tells are those of the reference: LayoutParts returns true at every input. No condition. -/
import Derived.Test.YtcmbbkhnocjgeaaOwnLayoutParts1
import Derived.Test.YtcmbbkhnocjgeaaRows
set_option linter.unusedVariables false
set_option linter.unusedSimpArgs false
namespace Go.Proofs.Ytcmbbkhnocjgeaa
open Go Go.AE Go.Proofs.R1
theorem lpOwn : ownKnob Try.prog.godebug = none := by kernel_rfl
theorem lpLaid : laidOutB Try.prog = true := by kernel_rfl
theorem lpEv (x : TysT [.st (.pair (.int .i64) (.pair (.int .i64) (.int .i64))), .int .i64]) (hw : TysWf _ x) :
    ∃ n H', fnE Try.tab env4 Try.hint 4 n 3 Try.f3.ntmps Try.f3.results.toList ann3 b3 (TysEnc _ x) [] (fun v H => some (v, H)) = some (.bool true, H') := by
  obtain ⟨⟨a, b, c⟩, n, ⟨⟩⟩ := x
  obtain ⟨_, hn, _⟩ := hw
  refine ⟨70, [], (fn3_ok (a, b, c, n) _).trans (fn3_true a b c n ?_ ?_ _)⟩
  · exact hn.1
  · exact hn.2
theorem lpContract (H : Type) (enc : TypeId × Value → H) (W : World) (base : Nat) (args : Array Value) (ds gs : List (DataW H)) (before : List MemPlace)
    (hval : ∀ (j : Nat) t v, Try.f3.params[j]? = some t → args[j]? = some v → Value.okWide Try.prog W .any base t v)
    (hW : DataW.Whole enc Try.prog Try.f3.params.toList Rows.layoutPartsSpec.vars false W args.toList ds gs before) :
    Calls Try.prog 3 args W fun e W' => ∃ v, e = .returned v ∧ Rows.layoutPartsSpec.post enc Try.prog Try.f3 false true false false W args v W' :=
  law_contract (hint := Try.hint) (d := 4) mixed tabOk env4Ok lpLaid Try.func3 (bodySome (by kernel_rfl)) (by kernel_rfl) (tb := 4) (by kernel_rfl) (by kernel_rfl)
    (ys := [.st (.pair (.int .i64) (.pair (.int .i64) (.int .i64))), .int .i64]) (by kernel_rfl) ann3_ok lpEv (s := Rows.layoutPartsSpec) rfl
    (fun ds h => match ds, h with | [_, _], _ => rfl) hval hW
theorem lpLifted (os : Os) (started : os.Started) (H : Type) (enc : TypeId × Value → H) :
    ReturnsInHanded {} Try.checked os 3 .any (Rows.layoutPartsSpec.pre6 enc Try.prog Try.f3 Rows.layoutPartsRow.domain false) (Rows.layoutPartsSpec.post enc Try.prog Try.f3 false true false false) :=
  returnsInHanded_of_change_sized (C := Try.checked) lpOwn started (by kernel_rfl) Try.func3
    (ChangeSpec.witness6 (enc := enc) (C := Try.checked) false ⟨#[], #[.agg #[.int .i64 0, .int .i64 0, .int .i64 0], .int .i64 0], []⟩ 8 (by kernel_rfl) (by kernel_rfl) (by kernel_rfl) (by kernel_rfl))
    fun W base args ds gs before hval hW _ _ _ => lpContract H enc W base args ds gs before hval hW
theorem layoutParts_holds : Rows.LayoutPartsSaid :=
  OpenClaim.holds_of_wide 3 Try.f3 rfl rfl rfl rfl rfl rfl rfl ⟨rfl, rfl, rfl, rfl, rfl⟩ rfl rfl rfl rfl rfl (by kernel_rfl) Try.func3 (by kernel_rfl)
    (of_decide_eq_true (by kernel_rfl)) (by unfold Func.isWrapper; first | (rw [if_pos (by decide +kernel)]; kernel_rfl) | (rw [if_neg (by decide +kernel)]; exact ⟨rfl, rfl⟩))
    (fun os started H enc _ => lpLifted os started H enc)
#print axioms layoutParts_holds
end Go.Proofs.Ytcmbbkhnocjgeaa
