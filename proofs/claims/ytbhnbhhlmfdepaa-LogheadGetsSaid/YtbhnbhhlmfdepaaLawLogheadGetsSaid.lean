/- The head that any bytes say, and which one of two counts, or what is wrong, are as the reference says: LogheadGets returns true at every input. No condition. -/
import Derived.Test.YtbhnbhhlmfdepaaOwnLogheadGetsSaid2
import Derived.Test.YtbhnbhhlmfdepaaRows
set_option linter.unusedVariables false
set_option linter.unusedSimpArgs false
namespace Go.Proofs.Ytbhnbhhlmfdepaa
open Go Go.AE Go.Proofs.R2
theorem logheadGetsOwn : ownKnob Try.prog.godebug = none := by kernel_rfl
theorem logheadGetsLaid : laidOutB Try.prog = true := by kernel_rfl
theorem logheadGetsEv (x : TysT [.str, .str]) (hw : TysWf _ x) :
    ∃ n H', fnE Try.tab envlaw10_LogheadGets noHint 0 n 7 Try.f7.ntmps Try.f7.results.toList annlaw10_LogheadGets blaw10_LogheadGets (TysEnc _ x) [] (fun v H => some (v, H)) = some (.bool true, H') := by
  obtain ⟨a, b, ⟨⟩⟩ := x
  obtain ⟨h1, h2, _⟩ := hw
  exact ⟨70, [], (fnlaw10_LogheadGets_ok (a, b) _).trans ((fnlaw10_LogheadGets_nat (a, b) _).trans (by rw [LogheadGets_true a b h1 h2]; rfl))⟩
set_option maxRecDepth 100000 in
theorem logheadGetsContract (H : Type) (enc : TypeId × Value → H) (W : World) (base : Nat) (args : Array Value) (ds gs : List (DataW H)) (before : List MemPlace)
    (hval : ∀ (j : Nat) t v, Try.f7.params[j]? = some t → args[j]? = some v → Value.okWide Try.prog W .any base t v)
    (hW : DataW.Whole enc Try.prog Try.f7.params.toList Rows.logheadGetsSpec.vars false W args.toList ds gs before) :
    Calls Try.prog 7 args W fun e W' => ∃ v, e = .returned v ∧ Rows.logheadGetsSpec.post enc Try.prog Try.f7 false true false false W args v W' :=
  law_contract (hint := noHint) (d := 0) mixed tabOk envlaw10_LogheadGetsOk logheadGetsLaid Try.func7 (bodySome (by kernel_rfl)) (by kernel_rfl) (tb := 4) (by kernel_rfl) (by kernel_rfl)
    (ys := [.str, .str]) (by kernel_rfl) annlaw10_LogheadGets_ok logheadGetsEv (s := Rows.logheadGetsSpec) rfl
    (fun ds h => match ds, h with | [_, _], _ => rfl) hval hW
set_option maxRecDepth 100000 in
theorem logheadGetsLifted (os : Os) (started : os.Started) (H : Type) (enc : TypeId × Value → H) :
    ReturnsInHanded {} Try.checked os 7 .any (Rows.logheadGetsSpec.pre6 enc Try.prog Try.f7 Rows.logheadGetsRow.domain false) (Rows.logheadGetsSpec.post enc Try.prog Try.f7 false true false false) :=
  returnsInHanded_of_change_sized (C := Try.checked) logheadGetsOwn started (by kernel_rfl) Try.func7
    (ChangeSpec.witness6 (enc := enc) (C := Try.checked) false ⟨#[], #[.string ⟨#[]⟩, .string ⟨#[]⟩], []⟩ 8 (by kernel_rfl) (by kernel_rfl) (by kernel_rfl) (by kernel_rfl))
    fun W base args ds gs before hval hW _ _ _ => logheadGetsContract H enc W base args ds gs before hval hW
theorem logheadGets_holds : Rows.LogheadGetsSaid :=
  OpenClaim.holds_of_wide 7 Try.f7 rfl rfl rfl rfl rfl rfl rfl ⟨rfl, rfl, rfl, rfl, rfl⟩ rfl rfl rfl rfl rfl (by kernel_rfl) Try.func7 (by kernel_rfl)
    (of_decide_eq_true (by kernel_rfl)) (by unfold Func.isWrapper; first | (rw [if_pos (by decide +kernel)]; kernel_rfl) | (rw [if_neg (by decide +kernel)]; exact ⟨rfl, rfl⟩))
    (fun os started H enc _ => logheadGetsLifted os started H enc)
#print axioms logheadGets_holds
end Go.Proofs.Ytbhnbhhlmfdepaa
