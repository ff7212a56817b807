/- A head is read as it was; of a sector of which some bytes that stand within four in a row are turned nothing is read, and then the other one counts: LogheadBack returns true at every input. No condition. -/
import Derived.Test.YtbhnbhhlmfdepaaOwnLogheadBackSaid2
import Derived.Test.YtbhnbhhlmfdepaaRows
set_option linter.unusedVariables false
set_option linter.unusedSimpArgs false
namespace Go.Proofs.Ytbhnbhhlmfdepaa
open Go Go.AE Go.Proofs.R2
theorem logheadBackOwn : ownKnob Try.prog.godebug = none := by kernel_rfl
theorem logheadBackLaid : laidOutB Try.prog = true := by kernel_rfl
theorem logheadBackEv (x : TysT [.st (.pair (.int .i64) (.pair (.int .i64) (.int .i64))), .st (.pair (.int .i64) (.pair (.int .i64) (.int .i64))), .int .i64, .st (.pair (.int .u8) (.pair (.int .u8) (.pair (.int .u8) (.int .u8))))]) (hw : TysWf _ x) :
    ∃ n H', fnE Try.tab envlaw10_LogheadBack noHint 0 n 8 Try.f8.ntmps Try.f8.results.toList annlaw10_LogheadBack blaw10_LogheadBack (TysEnc _ x) [] (fun v H => some (v, H)) = some (.bool true, H') := by
  obtain ⟨⟨g, s, a⟩, ⟨g', s', a'⟩, k, ⟨b0, b1, b2, b3⟩, ⟨⟩⟩ := x
  exact ⟨70, [], (fnlaw10_LogheadBack_ok (g, s, a, g', s', a', k, b0, b1, b2, b3) _).trans ((fnlaw10_LogheadBack_nat (g, s, a, g', s', a', k, b0, b1, b2, b3) _).trans (by rw [LogheadBack_true]; rfl))⟩
set_option maxRecDepth 100000 in
theorem logheadBackContract (H : Type) (enc : TypeId × Value → H) (W : World) (base : Nat) (args : Array Value) (ds gs : List (DataW H)) (before : List MemPlace)
    (hval : ∀ (j : Nat) t v, Try.f8.params[j]? = some t → args[j]? = some v → Value.okWide Try.prog W .any base t v)
    (hW : DataW.Whole enc Try.prog Try.f8.params.toList Rows.logheadBackSpec.vars false W args.toList ds gs before) :
    Calls Try.prog 8 args W fun e W' => ∃ v, e = .returned v ∧ Rows.logheadBackSpec.post enc Try.prog Try.f8 false true false false W args v W' :=
  law_contract (hint := noHint) (d := 0) mixed tabOk envlaw10_LogheadBackOk logheadBackLaid Try.func8 (bodySome (by kernel_rfl)) (by kernel_rfl) (tb := 4) (by kernel_rfl) (by kernel_rfl)
    (ys := [.st (.pair (.int .i64) (.pair (.int .i64) (.int .i64))), .st (.pair (.int .i64) (.pair (.int .i64) (.int .i64))), .int .i64, .st (.pair (.int .u8) (.pair (.int .u8) (.pair (.int .u8) (.int .u8))))]) (by kernel_rfl) annlaw10_LogheadBack_ok logheadBackEv (s := Rows.logheadBackSpec) rfl
    (fun ds h => match ds, h with | [_, _, _, _], _ => rfl) hval hW
set_option maxRecDepth 100000 in
theorem logheadBackLifted (os : Os) (started : os.Started) (H : Type) (enc : TypeId × Value → H) :
    ReturnsInHanded {} Try.checked os 8 .any (Rows.logheadBackSpec.pre6 enc Try.prog Try.f8 Rows.logheadBackRow.domain false) (Rows.logheadBackSpec.post enc Try.prog Try.f8 false true false false) :=
  returnsInHanded_of_change_sized (C := Try.checked) logheadBackOwn started (by kernel_rfl) Try.func8
    (ChangeSpec.witness6 (enc := enc) (C := Try.checked) false ⟨#[], #[.agg #[.int .i64 0, .int .i64 0, .int .i64 0], .agg #[.int .i64 0, .int .i64 0, .int .i64 0], .int .i64 0, .agg #[.int .u8 0, .int .u8 0, .int .u8 0, .int .u8 0]], []⟩ 8 (by kernel_rfl) (by kernel_rfl) (by kernel_rfl) (by kernel_rfl))
    fun W base args ds gs before hval hW _ _ _ => logheadBackContract H enc W base args ds gs before hval hW
theorem logheadBack_holds : Rows.LogheadBackSaid :=
  OpenClaim.holds_of_wide 8 Try.f8 rfl rfl rfl rfl rfl rfl rfl ⟨rfl, rfl, rfl, rfl, rfl⟩ rfl rfl rfl rfl rfl (by kernel_rfl) Try.func8 (by kernel_rfl)
    (of_decide_eq_true (by kernel_rfl)) (by unfold Func.isWrapper; first | (rw [if_pos (by decide +kernel)]; kernel_rfl) | (rw [if_neg (by decide +kernel)]; exact ⟨rfl, rfl⟩))
    (fun os started H enc _ => logheadBackLifted os started H enc)
#print axioms logheadBack_holds
end Go.Proofs.Ytbhnbhhlmfdepaa
