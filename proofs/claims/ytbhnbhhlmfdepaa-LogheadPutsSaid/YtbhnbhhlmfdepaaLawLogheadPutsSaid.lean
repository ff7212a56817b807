/- Any head as a sector, or that it may not be, is as the reference says: LogheadPuts returns true at every input. No condition. -/
import Derived.Test.YtbhnbhhlmfdepaaOwnLogheadPutsSaid2
import Derived.Test.YtbhnbhhlmfdepaaRows
set_option linter.unusedVariables false
set_option linter.unusedSimpArgs false
namespace Go.Proofs.Ytbhnbhhlmfdepaa
open Go Go.AE Go.Proofs.R2
theorem logheadPutsOwn : ownKnob Try.prog.godebug = none := by kernel_rfl
theorem logheadPutsLaid : laidOutB Try.prog = true := by kernel_rfl
theorem logheadPutsEv (x : TysT [.st (.pair (.int .i64) (.pair (.int .i64) (.int .i64)))]) (hw : TysWf _ x) :
    ∃ n H', fnE Try.tab envlaw10_LogheadPuts noHint 0 n 6 Try.f6.ntmps Try.f6.results.toList annlaw10_LogheadPuts blaw10_LogheadPuts (TysEnc _ x) [] (fun v H => some (v, H)) = some (.bool true, H') := by
  obtain ⟨⟨g, s, a⟩, ⟨⟩⟩ := x
  obtain ⟨⟨h1, h2, h3⟩, _⟩ := hw
  exact ⟨70, [], (fnlaw10_LogheadPuts_ok (g, s, a) _).trans ((fnlaw10_LogheadPuts_nat (g, s, a) _).trans (by rw [LogheadPuts_true g s a h1 h2 h3]; rfl))⟩
set_option maxRecDepth 100000 in
theorem logheadPutsContract (H : Type) (enc : TypeId × Value → H) (W : World) (base : Nat) (args : Array Value) (ds gs : List (DataW H)) (before : List MemPlace)
    (hval : ∀ (j : Nat) t v, Try.f6.params[j]? = some t → args[j]? = some v → Value.okWide Try.prog W .any base t v)
    (hW : DataW.Whole enc Try.prog Try.f6.params.toList Rows.logheadPutsSpec.vars false W args.toList ds gs before) :
    Calls Try.prog 6 args W fun e W' => ∃ v, e = .returned v ∧ Rows.logheadPutsSpec.post enc Try.prog Try.f6 false true false false W args v W' :=
  law_contract (hint := noHint) (d := 0) mixed tabOk envlaw10_LogheadPutsOk logheadPutsLaid Try.func6 (bodySome (by kernel_rfl)) (by kernel_rfl) (tb := 4) (by kernel_rfl) (by kernel_rfl)
    (ys := [.st (.pair (.int .i64) (.pair (.int .i64) (.int .i64)))]) (by kernel_rfl) annlaw10_LogheadPuts_ok logheadPutsEv (s := Rows.logheadPutsSpec) rfl
    (fun ds h => match ds, h with | [_], _ => rfl) hval hW
set_option maxRecDepth 100000 in
theorem logheadPutsLifted (os : Os) (started : os.Started) (H : Type) (enc : TypeId × Value → H) :
    ReturnsInHanded {} Try.checked os 6 .any (Rows.logheadPutsSpec.pre6 enc Try.prog Try.f6 Rows.logheadPutsRow.domain false) (Rows.logheadPutsSpec.post enc Try.prog Try.f6 false true false false) :=
  returnsInHanded_of_change_sized (C := Try.checked) logheadPutsOwn started (by kernel_rfl) Try.func6
    (ChangeSpec.witness6 (enc := enc) (C := Try.checked) false ⟨#[], #[.agg #[.int .i64 0, .int .i64 0, .int .i64 0]], []⟩ 8 (by kernel_rfl) (by kernel_rfl) (by kernel_rfl) (by kernel_rfl))
    fun W base args ds gs before hval hW _ _ _ => logheadPutsContract H enc W base args ds gs before hval hW
theorem logheadPuts_holds : Rows.LogheadPutsSaid :=
  OpenClaim.holds_of_wide 6 Try.f6 rfl rfl rfl rfl rfl rfl rfl ⟨rfl, rfl, rfl, rfl, rfl⟩ rfl rfl rfl rfl rfl (by kernel_rfl) Try.func6 (by kernel_rfl)
    (of_decide_eq_true (by kernel_rfl)) (by unfold Func.isWrapper; first | (rw [if_pos (by decide +kernel)]; kernel_rfl) | (rw [if_neg (by decide +kernel)]; exact ⟨rfl, rfl⟩))
    (fun os started H enc _ => logheadPutsLifted os started H enc)
#print axioms logheadPuts_holds
end Go.Proofs.Ytbhnbhhlmfdepaa
