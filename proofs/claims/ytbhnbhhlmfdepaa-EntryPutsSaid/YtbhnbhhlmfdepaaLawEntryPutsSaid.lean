/- Any two entries as a sector, or what is wrong, are as the reference says: EntryPuts returns true at every input. No condition. -/
import Derived.Test.YtbhnbhhlmfdepaaOwnEntryPutsSaid2
import Derived.Test.YtbhnbhhlmfdepaaRows
set_option linter.unusedVariables false
set_option linter.unusedSimpArgs false
namespace Go.Proofs.Ytbhnbhhlmfdepaa
open Go Go.AE Go.Proofs.R2
theorem entryPutsOwn : ownKnob Try.prog.godebug = none := by kernel_rfl
theorem entryPutsLaid : laidOutB Try.prog = true := by kernel_rfl
theorem entryPutsEv (x : TysT [.st (.pair (.pair (.pair (.int .i64) (.int .i64)) (.int .i64)) (.pair (.pair (.int .i64) (.int .i64)) (.int .i64)))]) (hw : TysWf _ x) :
    ∃ n H', fnE Try.tab envlaw17_EntryPuts noHint 0 n 3 Try.f3.ntmps Try.f3.results.toList annlaw17_EntryPuts blaw17_EntryPuts (TysEnc _ x) [] (fun v H => some (v, H)) = some (.bool true, H') := by
  obtain ⟨⟨⟨⟨a, b⟩, k⟩, ⟨c, d⟩, l⟩, ⟨⟩⟩ := x
  exact ⟨70, [], (fnlaw17_EntryPuts_ok (a, b, k, c, d, l) _).trans ((fnlaw17_EntryPuts_nat (a, b, k, c, d, l) _).trans (by rw [EntryPuts_true]; rfl))⟩
set_option maxRecDepth 100000 in
theorem entryPutsContract (H : Type) (enc : TypeId × Value → H) (W : World) (base : Nat) (args : Array Value) (ds gs : List (DataW H)) (before : List MemPlace)
    (hval : ∀ (j : Nat) t v, Try.f3.params[j]? = some t → args[j]? = some v → Value.okWide Try.prog W .any base t v)
    (hW : DataW.Whole enc Try.prog Try.f3.params.toList Rows.entryPutsSpec.vars false W args.toList ds gs before) :
    Calls Try.prog 3 args W fun e W' => ∃ v, e = .returned v ∧ Rows.entryPutsSpec.post enc Try.prog Try.f3 false true false false W args v W' :=
  law_contract (hint := noHint) (d := 0) mixed tabOk envlaw17_EntryPutsOk entryPutsLaid Try.func3 (bodySome (by kernel_rfl)) (by kernel_rfl) (tb := 4) (by kernel_rfl) (by kernel_rfl)
    (ys := [.st (.pair (.pair (.pair (.int .i64) (.int .i64)) (.int .i64)) (.pair (.pair (.int .i64) (.int .i64)) (.int .i64)))]) (by kernel_rfl) annlaw17_EntryPuts_ok entryPutsEv (s := Rows.entryPutsSpec) rfl
    (fun ds h => match ds, h with | [_], _ => rfl) hval hW
set_option maxRecDepth 100000 in
theorem entryPutsLifted (os : Os) (started : os.Started) (H : Type) (enc : TypeId × Value → H) :
    ReturnsInHanded {} Try.checked os 3 .any (Rows.entryPutsSpec.pre6 enc Try.prog Try.f3 Rows.entryPutsRow.domain false) (Rows.entryPutsSpec.post enc Try.prog Try.f3 false true false false) :=
  returnsInHanded_of_change_sized (C := Try.checked) entryPutsOwn started (by kernel_rfl) Try.func3
    (ChangeSpec.witness6 (enc := enc) (C := Try.checked) false ⟨#[], #[.agg #[.int .i64 0, .int .i64 0, .int .i64 0, .int .i64 0, .int .i64 0, .int .i64 0]], []⟩ 8 (by kernel_rfl) (by kernel_rfl) (by kernel_rfl) (by kernel_rfl))
    fun W base args ds gs before hval hW _ _ _ => entryPutsContract H enc W base args ds gs before hval hW
theorem entryPuts_holds : Rows.EntryPutsSaid :=
  OpenClaim.holds_of_wide 3 Try.f3 rfl rfl rfl rfl rfl rfl rfl ⟨rfl, rfl, rfl, rfl, rfl⟩ rfl rfl rfl rfl rfl (by kernel_rfl) Try.func3 (by kernel_rfl)
    (of_decide_eq_true (by kernel_rfl)) (by unfold Func.isWrapper; first | (rw [if_pos (by decide +kernel)]; kernel_rfl) | (rw [if_neg (by decide +kernel)]; exact ⟨rfl, rfl⟩))
    (fun os started H enc _ => entryPutsLifted os started H enc)
#print axioms entryPuts_holds
end Go.Proofs.Ytbhnbhhlmfdepaa
