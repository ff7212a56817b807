/- Any transaction as a record, of any number, or what is wrong with it, is as the reference says: LogrecPuts returns true at every input. No condition. -/
import Derived.Test.YtbhnbhhlmfdepaaOwnLogrecPutsSaid4
import Derived.Test.YtbhnbhhlmfdepaaRows
set_option linter.unusedVariables false
set_option linter.unusedSimpArgs false
namespace Go.Proofs.Ytbhnbhhlmfdepaa
open Go Go.AE Go.Proofs.R2
theorem logrecPutsOwn : ownKnob Try.prog.godebug = none := by kernel_rfl
theorem logrecPutsLaid : laidOutB Try.prog = true := by kernel_rfl
theorem logrecPutsEv (x : TysT [.int .i64, .list (.st (.pair (.int .i64) .str))]) (hw : TysWf _ x) :
    ∃ n H', fnE Try.tab envlaw11_LogrecPuts noHint 0 n 9 Try.f9.ntmps Try.f9.results.toList annlaw11_LogrecPuts blaw11_LogrecPuts (TysEnc _ x) [] (fun v H => some (v, H)) = some (.bool true, H') := by
  obtain ⟨a, b, ⟨⟩⟩ := x
  obtain ⟨h1, h2, _⟩ := hw
  exact ⟨70, [], (fnlaw11_LogrecPuts_ok (a, b) _).trans ((fnlaw11_LogrecPuts_nat (a, b) _).trans (by rw [LogrecPuts_true a b (show b.length ≤ 9223372036854775807 from h2.1)]; rfl))⟩
set_option maxRecDepth 100000 in
theorem logrecPutsContract (H : Type) (enc : TypeId × Value → H) (W : World) (base : Nat) (args : Array Value) (ds gs : List (DataW H)) (before : List MemPlace)
    (hval : ∀ (j : Nat) t v, Try.f9.params[j]? = some t → args[j]? = some v → Value.okWide Try.prog W .any base t v)
    (hW : DataW.Whole enc Try.prog Try.f9.params.toList Rows.logrecPutsSpec.vars false W args.toList ds gs before) :
    Calls Try.prog 9 args W fun e W' => ∃ v, e = .returned v ∧ Rows.logrecPutsSpec.post enc Try.prog Try.f9 false true false false W args v W' :=
  law_contract (hint := noHint) (d := 0) mixed tabOk envlaw11_LogrecPutsOk logrecPutsLaid Try.func9 (bodySome (by kernel_rfl)) (by kernel_rfl) (tb := 4) (by kernel_rfl) (by kernel_rfl)
    (ys := [.int .i64, .list (.st (.pair (.int .i64) .str))]) (by kernel_rfl) annlaw11_LogrecPuts_ok logrecPutsEv (s := Rows.logrecPutsSpec) rfl
    (fun ds h => match ds, h with | [_, _], _ => rfl) hval hW
set_option maxRecDepth 100000 in
theorem logrecPutsLifted (os : Os) (started : os.Started) (H : Type) (enc : TypeId × Value → H) :
    ReturnsInHanded {} Try.checked os 9 .any (Rows.logrecPutsSpec.pre6 enc Try.prog Try.f9 Rows.logrecPutsRow.domain false) (Rows.logrecPutsSpec.post enc Try.prog Try.f9 false true false false) :=
  returnsInHanded_of_change_sized (C := Try.checked) logrecPutsOwn started (by kernel_rfl) Try.func9
    (ChangeSpec.witness6 (enc := enc) (C := Try.checked) false ⟨#[], #[.int .i64 0, .slice none 0 0], []⟩ 8 (by kernel_rfl) (by kernel_rfl) (by kernel_rfl) (by kernel_rfl))
    fun W base args ds gs before hval hW _ _ _ => logrecPutsContract H enc W base args ds gs before hval hW
theorem logrecPuts_holds : Rows.LogrecPutsSaid :=
  OpenClaim.holds_of_wide 9 Try.f9 rfl rfl rfl rfl rfl rfl rfl ⟨rfl, rfl, rfl, rfl, rfl⟩ rfl rfl rfl rfl rfl (by kernel_rfl) Try.func9 (by kernel_rfl)
    (of_decide_eq_true (by kernel_rfl)) (by unfold Func.isWrapper; first | (rw [if_pos (by decide +kernel)]; kernel_rfl) | (rw [if_neg (by decide +kernel)]; exact ⟨rfl, rfl⟩))
    (fun os started H enc _ => logrecPutsLifted os started H enc)
#print axioms logrecPuts_holds
end Go.Proofs.Ytbhnbhhlmfdepaa
