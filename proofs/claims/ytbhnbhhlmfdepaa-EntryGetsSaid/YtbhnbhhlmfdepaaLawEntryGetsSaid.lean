/- The entries that any sector says, or what is wrong, are as the reference says: EntryGets returns true at every input. No condition. -/
import Derived.Test.YtbhnbhhlmfdepaaOwnEntryGetsSaid2
import Derived.Test.YtbhnbhhlmfdepaaRows
set_option linter.unusedVariables false
set_option linter.unusedSimpArgs false
namespace Go.Proofs.Ytbhnbhhlmfdepaa
open Go Go.AE Go.Proofs.R2
theorem entryGetsOwn : ownKnob Try.prog.godebug = none := by kernel_rfl
theorem entryGetsLaid : laidOutB Try.prog = true := by kernel_rfl
theorem entryGetsEv (x : TysT [.str]) (hw : TysWf _ x) :
    ∃ n H', fnE Try.tab envlaw17_EntryGets noHint 0 n 4 Try.f4.ntmps Try.f4.results.toList annlaw17_EntryGets blaw17_EntryGets (TysEnc _ x) [] (fun v H => some (v, H)) = some (.bool true, H') := by
  obtain ⟨a, ⟨⟩⟩ := x
  exact ⟨70, [], (fnlaw17_EntryGets_ok a _).trans ((fnlaw17_EntryGets_nat a _).trans (by rw [EntryGets_true a hw.1]; rfl))⟩
set_option maxRecDepth 100000 in
theorem entryGetsContract (H : Type) (enc : TypeId × Value → H) (W : World) (base : Nat) (args : Array Value) (ds gs : List (DataW H)) (before : List MemPlace)
    (hval : ∀ (j : Nat) t v, Try.f4.params[j]? = some t → args[j]? = some v → Value.okWide Try.prog W .any base t v)
    (hW : DataW.Whole enc Try.prog Try.f4.params.toList Rows.entryGetsSpec.vars false W args.toList ds gs before) :
    Calls Try.prog 4 args W fun e W' => ∃ v, e = .returned v ∧ Rows.entryGetsSpec.post enc Try.prog Try.f4 false true false false W args v W' :=
  law_contract (hint := noHint) (d := 0) mixed tabOk envlaw17_EntryGetsOk entryGetsLaid Try.func4 (bodySome (by kernel_rfl)) (by kernel_rfl) (tb := 4) (by kernel_rfl) (by kernel_rfl)
    (ys := [.str]) (by kernel_rfl) annlaw17_EntryGets_ok entryGetsEv (s := Rows.entryGetsSpec) rfl
    (fun ds h => match ds, h with | [_], _ => rfl) hval hW
set_option maxRecDepth 100000 in
theorem entryGetsLifted (os : Os) (started : os.Started) (H : Type) (enc : TypeId × Value → H) :
    ReturnsInHanded {} Try.checked os 4 .any (Rows.entryGetsSpec.pre6 enc Try.prog Try.f4 Rows.entryGetsRow.domain false) (Rows.entryGetsSpec.post enc Try.prog Try.f4 false true false false) :=
  returnsInHanded_of_change_sized (C := Try.checked) entryGetsOwn started (by kernel_rfl) Try.func4
    (ChangeSpec.witness6 (enc := enc) (C := Try.checked) false ⟨#[], #[.string ⟨#[]⟩], []⟩ 8 (by kernel_rfl) (by kernel_rfl) (by kernel_rfl) (by kernel_rfl))
    fun W base args ds gs before hval hW _ _ _ => entryGetsContract H enc W base args ds gs before hval hW
theorem entryGets_holds : Rows.EntryGetsSaid :=
  OpenClaim.holds_of_wide 4 Try.f4 rfl rfl rfl rfl rfl rfl rfl ⟨rfl, rfl, rfl, rfl, rfl⟩ rfl rfl rfl rfl rfl (by kernel_rfl) Try.func4 (by kernel_rfl)
    (of_decide_eq_true (by kernel_rfl)) (by unfold Func.isWrapper; first | (rw [if_pos (by decide +kernel)]; kernel_rfl) | (rw [if_neg (by decide +kernel)]; exact ⟨rfl, rfl⟩))
    (fun os started H enc _ => entryGetsLifted os started H enc)
#print axioms entryGets_holds
end Go.Proofs.Ytbhnbhhlmfdepaa
