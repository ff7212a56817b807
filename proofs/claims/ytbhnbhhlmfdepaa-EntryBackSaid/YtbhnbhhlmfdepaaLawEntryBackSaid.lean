/- Entries are read as they were; of a sector of which some bytes that stand within four in a row are turned nothing is read; and what is read is just its sector: EntryBack returns true at every input. No condition. -/
import Derived.Test.YtbhnbhhlmfdepaaOwnEntryBackSaid3
import Derived.Test.YtbhnbhhlmfdepaaRows
set_option linter.unusedVariables false
set_option linter.unusedSimpArgs false
namespace Go.Proofs.Ytbhnbhhlmfdepaa
open Go Go.AE Go.Proofs.R2
theorem entryBackOwn : ownKnob Try.prog.godebug = none := by kernel_rfl
theorem entryBackLaid : laidOutB Try.prog = true := by kernel_rfl
theorem entryBackEv (x : TysT [.st (.pair (.pair (.pair (.int .i64) (.int .i64)) (.int .i64)) (.pair (.pair (.int .i64) (.int .i64)) (.int .i64))), .int .i64, .st (.pair (.int .u8) (.pair (.int .u8) (.pair (.int .u8) (.int .u8)))), .str]) (hw : TysWf _ x) :
    ∃ n H', fnE Try.tab envlaw17_EntryBack noHint 0 n 5 Try.f5.ntmps Try.f5.results.toList annlaw17_EntryBack blaw17_EntryBack (TysEnc _ x) [] (fun v H => some (v, H)) = some (.bool true, H') := by
  obtain ⟨⟨⟨⟨a, b⟩, k⟩, ⟨c, d⟩, l⟩, j, ⟨b0, b1, b2, b3⟩, t, ⟨⟩⟩ := x
  obtain ⟨_, _, _, ht, _⟩ := hw
  exact ⟨70, [], (fnlaw17_EntryBack_ok (a, b, k, c, d, l, j, b0, b1, b2, b3, t) _).trans ((fnlaw17_EntryBack_nat (a, b, k, c, d, l, j, b0, b1, b2, b3, t) _).trans (by rw [EntryBack_true a b k c d l j b0 b1 b2 b3 t ht]; rfl))⟩
set_option maxRecDepth 100000 in
theorem entryBackContract (H : Type) (enc : TypeId × Value → H) (W : World) (base : Nat) (args : Array Value) (ds gs : List (DataW H)) (before : List MemPlace)
    (hval : ∀ (j : Nat) t v, Try.f5.params[j]? = some t → args[j]? = some v → Value.okWide Try.prog W .any base t v)
    (hW : DataW.Whole enc Try.prog Try.f5.params.toList Rows.entryBackSpec.vars false W args.toList ds gs before) :
    Calls Try.prog 5 args W fun e W' => ∃ v, e = .returned v ∧ Rows.entryBackSpec.post enc Try.prog Try.f5 false true false false W args v W' :=
  law_contract (hint := noHint) (d := 0) mixed tabOk envlaw17_EntryBackOk entryBackLaid Try.func5 (bodySome (by kernel_rfl)) (by kernel_rfl) (tb := 4) (by kernel_rfl) (by kernel_rfl)
    (ys := [.st (.pair (.pair (.pair (.int .i64) (.int .i64)) (.int .i64)) (.pair (.pair (.int .i64) (.int .i64)) (.int .i64))), .int .i64, .st (.pair (.int .u8) (.pair (.int .u8) (.pair (.int .u8) (.int .u8)))), .str]) (by kernel_rfl) annlaw17_EntryBack_ok entryBackEv (s := Rows.entryBackSpec) rfl
    (fun ds h => match ds, h with | [_, _, _, _], _ => rfl) hval hW
set_option maxRecDepth 100000 in
theorem entryBackLifted (os : Os) (started : os.Started) (H : Type) (enc : TypeId × Value → H) :
    ReturnsInHanded {} Try.checked os 5 .any (Rows.entryBackSpec.pre6 enc Try.prog Try.f5 Rows.entryBackRow.domain false) (Rows.entryBackSpec.post enc Try.prog Try.f5 false true false false) :=
  returnsInHanded_of_change_sized (C := Try.checked) entryBackOwn started (by kernel_rfl) Try.func5
    (ChangeSpec.witness6 (enc := enc) (C := Try.checked) false ⟨#[], #[.agg #[.int .i64 0, .int .i64 0, .int .i64 0, .int .i64 0, .int .i64 0, .int .i64 0], .int .i64 0, .agg #[.int .u8 0, .int .u8 0, .int .u8 0, .int .u8 0], .string ⟨#[]⟩], []⟩ 8 (by kernel_rfl) (by kernel_rfl) (by kernel_rfl) (by kernel_rfl))
    fun W base args ds gs before hval hW _ _ _ => entryBackContract H enc W base args ds gs before hval hW
theorem entryBack_holds : Rows.EntryBackSaid :=
  OpenClaim.holds_of_wide 5 Try.f5 rfl rfl rfl rfl rfl rfl rfl ⟨rfl, rfl, rfl, rfl, rfl⟩ rfl rfl rfl rfl rfl (by kernel_rfl) Try.func5 (by kernel_rfl)
    (of_decide_eq_true (by kernel_rfl)) (by unfold Func.isWrapper; first | (rw [if_pos (by decide +kernel)]; kernel_rfl) | (rw [if_neg (by decide +kernel)]; exact ⟨rfl, rfl⟩))
    (fun os started H enc _ => entryBackLifted os started H enc)
#print axioms entryBack_holds
end Go.Proofs.Ytbhnbhhlmfdepaa
