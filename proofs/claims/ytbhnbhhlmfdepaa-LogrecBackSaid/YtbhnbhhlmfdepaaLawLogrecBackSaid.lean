/- A transaction is read as it was, and of a record of which some bytes within four in a row are turned nothing is read: LogrecBack returns true at every input. No condition. -/
import Derived.Test.YtbhnbhhlmfdepaaOwnLogrecBackSaid4
import Derived.Test.YtbhnbhhlmfdepaaRows
set_option linter.unusedVariables false
set_option linter.unusedSimpArgs false
namespace Go.Proofs.Ytbhnbhhlmfdepaa
open Go Go.AE Go.Proofs.R2
theorem logrecBackOwn : ownKnob Try.prog.godebug = none := by kernel_rfl
theorem logrecBackLaid : laidOutB Try.prog = true := by kernel_rfl
theorem logrecBackEv (x : TysT [.int .i64, .list (.st (.pair (.int .i64) .str)), .int .i64, .st (.pair (.int .u8) (.pair (.int .u8) (.pair (.int .u8) (.int .u8))))]) (hw : TysWf _ x) :
    ∃ n H', fnE Try.tab envlaw11_LogrecBack noHint 0 n 11 Try.f11.ntmps Try.f11.results.toList annlaw11_LogrecBack blaw11_LogrecBack (TysEnc _ x) [] (fun v H => some (v, H)) = some (.bool true, H') := by
  obtain ⟨a, b, c, ⟨d0, d1, d2, d3⟩, ⟨⟩⟩ := x
  obtain ⟨h1, h2, _⟩ := hw
  exact ⟨70, [], (fnlaw11_LogrecBack_ok (a, b, c, d0, d1, d2, d3) _).trans ((fnlaw11_LogrecBack_nat (a, b, c, d0, d1, d2, d3) _).trans (by rw [LogrecBack_true a b c d0 d1 d2 d3 (show b.length ≤ 9223372036854775807 from h2.1)]; rfl))⟩
set_option maxRecDepth 100000 in
theorem logrecBackContract (H : Type) (enc : TypeId × Value → H) (W : World) (base : Nat) (args : Array Value) (ds gs : List (DataW H)) (before : List MemPlace)
    (hval : ∀ (j : Nat) t v, Try.f11.params[j]? = some t → args[j]? = some v → Value.okWide Try.prog W .any base t v)
    (hW : DataW.Whole enc Try.prog Try.f11.params.toList Rows.logrecBackSpec.vars false W args.toList ds gs before) :
    Calls Try.prog 11 args W fun e W' => ∃ v, e = .returned v ∧ Rows.logrecBackSpec.post enc Try.prog Try.f11 false true false false W args v W' :=
  law_contract (hint := noHint) (d := 0) mixed tabOk envlaw11_LogrecBackOk logrecBackLaid Try.func11 (bodySome (by kernel_rfl)) (by kernel_rfl) (tb := 4) (by kernel_rfl) (by kernel_rfl)
    (ys := [.int .i64, .list (.st (.pair (.int .i64) .str)), .int .i64, .st (.pair (.int .u8) (.pair (.int .u8) (.pair (.int .u8) (.int .u8))))]) (by kernel_rfl) annlaw11_LogrecBack_ok logrecBackEv (s := Rows.logrecBackSpec) rfl
    (fun ds h => match ds, h with | [_, _, _, _], _ => rfl) hval hW
set_option maxRecDepth 100000 in
theorem logrecBackLifted (os : Os) (started : os.Started) (H : Type) (enc : TypeId × Value → H) :
    ReturnsInHanded {} Try.checked os 11 .any (Rows.logrecBackSpec.pre6 enc Try.prog Try.f11 Rows.logrecBackRow.domain false) (Rows.logrecBackSpec.post enc Try.prog Try.f11 false true false false) :=
  returnsInHanded_of_change_sized (C := Try.checked) logrecBackOwn started (by kernel_rfl) Try.func11
    (ChangeSpec.witness6 (enc := enc) (C := Try.checked) false ⟨#[], #[.int .i64 0, .slice none 0 0, .int .i64 0, .agg #[.int .u8 0, .int .u8 0, .int .u8 0, .int .u8 0]], []⟩ 8 (by kernel_rfl) (by kernel_rfl) (by kernel_rfl) (by kernel_rfl))
    fun W base args ds gs before hval hW _ _ _ => logrecBackContract H enc W base args ds gs before hval hW
theorem logrecBack_holds : Rows.LogrecBackSaid :=
  OpenClaim.holds_of_wide 11 Try.f11 rfl rfl rfl rfl rfl rfl rfl ⟨rfl, rfl, rfl, rfl, rfl⟩ rfl rfl rfl rfl rfl (by kernel_rfl) Try.func11 (by kernel_rfl)
    (of_decide_eq_true (by kernel_rfl)) (by unfold Func.isWrapper; first | (rw [if_pos (by decide +kernel)]; kernel_rfl) | (rw [if_neg (by decide +kernel)]; exact ⟨rfl, rfl⟩))
    (fun os started H enc _ => logrecBackLifted os started H enc)
#print axioms logrecBack_holds
end Go.Proofs.Ytbhnbhhlmfdepaa
