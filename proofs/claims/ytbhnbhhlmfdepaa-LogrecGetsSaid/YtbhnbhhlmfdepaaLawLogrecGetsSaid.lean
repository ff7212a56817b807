/- The transaction that any bytes say, of how many sectors it is, or what is wrong, are as the reference says: LogrecGets returns true at every input. No condition. -/
import Derived.Test.YtbhnbhhlmfdepaaOwnLogrecGetsSaid4
import Derived.Test.YtbhnbhhlmfdepaaRows
set_option linter.unusedVariables false
set_option linter.unusedSimpArgs false
namespace Go.Proofs.Ytbhnbhhlmfdepaa
open Go Go.AE Go.Proofs.R2
theorem logrecGetsOwn : ownKnob Try.prog.godebug = none := by kernel_rfl
theorem logrecGetsLaid : laidOutB Try.prog = true := by kernel_rfl
theorem logrecGetsEv (x : TysT [.str, .int .i64]) (hw : TysWf _ x) :
    ∃ n H', fnE Try.tab envlaw11_LogrecGets noHint 0 n 10 Try.f10.ntmps Try.f10.results.toList annlaw11_LogrecGets blaw11_LogrecGets (TysEnc _ x) [] (fun v H => some (v, H)) = some (.bool true, H') := by
  obtain ⟨a, b, ⟨⟩⟩ := x
  obtain ⟨h1, h2, _⟩ := hw
  exact ⟨70, [], (fnlaw11_LogrecGets_ok (a, b) _).trans ((fnlaw11_LogrecGets_nat (a, b) _).trans (by rw [LogrecGets_true a b h2]; rfl))⟩
set_option maxRecDepth 100000 in
theorem logrecGetsContract (H : Type) (enc : TypeId × Value → H) (W : World) (base : Nat) (args : Array Value) (ds gs : List (DataW H)) (before : List MemPlace)
    (hval : ∀ (j : Nat) t v, Try.f10.params[j]? = some t → args[j]? = some v → Value.okWide Try.prog W .any base t v)
    (hW : DataW.Whole enc Try.prog Try.f10.params.toList Rows.logrecGetsSpec.vars false W args.toList ds gs before) :
    Calls Try.prog 10 args W fun e W' => ∃ v, e = .returned v ∧ Rows.logrecGetsSpec.post enc Try.prog Try.f10 false true false false W args v W' :=
  law_contract (hint := noHint) (d := 0) mixed tabOk envlaw11_LogrecGetsOk logrecGetsLaid Try.func10 (bodySome (by kernel_rfl)) (by kernel_rfl) (tb := 4) (by kernel_rfl) (by kernel_rfl)
    (ys := [.str, .int .i64]) (by kernel_rfl) annlaw11_LogrecGets_ok logrecGetsEv (s := Rows.logrecGetsSpec) rfl
    (fun ds h => match ds, h with | [_, _], _ => rfl) hval hW
set_option maxRecDepth 100000 in
theorem logrecGetsLifted (os : Os) (started : os.Started) (H : Type) (enc : TypeId × Value → H) :
    ReturnsInHanded {} Try.checked os 10 .any (Rows.logrecGetsSpec.pre6 enc Try.prog Try.f10 Rows.logrecGetsRow.domain false) (Rows.logrecGetsSpec.post enc Try.prog Try.f10 false true false false) :=
  returnsInHanded_of_change_sized (C := Try.checked) logrecGetsOwn started (by kernel_rfl) Try.func10
    (ChangeSpec.witness6 (enc := enc) (C := Try.checked) false ⟨#[], #[.string ⟨#[]⟩, .int .i64 0], []⟩ 8 (by kernel_rfl) (by kernel_rfl) (by kernel_rfl) (by kernel_rfl))
    fun W base args ds gs before hval hW _ _ _ => logrecGetsContract H enc W base args ds gs before hval hW
theorem logrecGets_holds : Rows.LogrecGetsSaid :=
  OpenClaim.holds_of_wide 10 Try.f10 rfl rfl rfl rfl rfl rfl rfl ⟨rfl, rfl, rfl, rfl, rfl⟩ rfl rfl rfl rfl rfl (by kernel_rfl) Try.func10 (by kernel_rfl)
    (of_decide_eq_true (by kernel_rfl)) (by unfold Func.isWrapper; first | (rw [if_pos (by decide +kernel)]; kernel_rfl) | (rw [if_neg (by decide +kernel)]; exact ⟨rfl, rfl⟩))
    (fun os started H enc _ => logrecGetsLifted os started H enc)
#print axioms logrecGets_holds
end Go.Proofs.Ytbhnbhhlmfdepaa
