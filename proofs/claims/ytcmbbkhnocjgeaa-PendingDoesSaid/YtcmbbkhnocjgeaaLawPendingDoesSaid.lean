/- Whatever operations are added, done or let go alone, in any order, the program's set of waiting operations answers as the reference does: PendingDoes returns true at every input. No condition. -/
import Derived.Test.YtcmbbkhnocjgeaaOwnPendingDoesSaid2
import Derived.Test.YtcmbbkhnocjgeaaRows
set_option linter.unusedVariables false
set_option linter.unusedSimpArgs false
namespace Go.Proofs.Ytcmbbkhnocjgeaa
open Go Go.AE Go.Proofs.R1
theorem pendingDoesOwn : ownKnob Try.prog.godebug = none := by kernel_rfl
theorem pendingDoesLaid : laidOutB Try.prog = true := by kernel_rfl
theorem pendingDoesEv (x : TysT [.list (.st (.pair (.int .i64) (.pair (.int .i64) (.list (.int .i64)))))]) (hw : TysWf _ x) :
    ∃ n H', fnE Try.tab envlaw30_PendingDoes noHint 0 n 6 Try.f6.ntmps Try.f6.results.toList annlaw30_PendingDoes blaw30_PendingDoes (TysEnc _ x) [] (fun v H => some (v, H)) = some (.bool true, H') := by
  obtain ⟨l, ⟨⟩⟩ := x
  have hl : l.length ≤ 9223372036854775807 := Nat.le_trans hw.1.1 (by decide)
  exact ⟨70, [], (fnlaw30_PendingDoes_ok l _).trans ((fnlaw30_PendingDoes_nat l _).trans (by rw [pendingDoes_true l hl]; rfl))⟩
theorem pendingDoesContract (H : Type) (enc : TypeId × Value → H) (W : World) (base : Nat) (args : Array Value) (ds gs : List (DataW H)) (before : List MemPlace)
    (hval : ∀ (j : Nat) t v, Try.f6.params[j]? = some t → args[j]? = some v → Value.okWide Try.prog W .any base t v)
    (hW : DataW.Whole enc Try.prog Try.f6.params.toList Rows.pendingDoesSpec.vars false W args.toList ds gs before) :
    Calls Try.prog 6 args W fun e W' => ∃ v, e = .returned v ∧ Rows.pendingDoesSpec.post enc Try.prog Try.f6 false true false false W args v W' :=
  law_contract (hint := noHint) (d := 0) mixed tabOk envlaw30_PendingDoesOk pendingDoesLaid Try.func6 (bodySome (by kernel_rfl)) (by kernel_rfl) (tb := 4) (by kernel_rfl) (by kernel_rfl)
    (ys := [.list (.st (.pair (.int .i64) (.pair (.int .i64) (.list (.int .i64)))))]) (by kernel_rfl) annlaw30_PendingDoes_ok pendingDoesEv (s := Rows.pendingDoesSpec) rfl
    (fun ds h => match ds, h with | [_], _ => rfl) hval hW
theorem pendingDoesLifted (os : Os) (started : os.Started) (H : Type) (enc : TypeId × Value → H) :
    ReturnsInHanded {} Try.checked os 6 .any (Rows.pendingDoesSpec.pre6 enc Try.prog Try.f6 Rows.pendingDoesRow.domain false) (Rows.pendingDoesSpec.post enc Try.prog Try.f6 false true false false) :=
  returnsInHanded_of_change_sized (C := Try.checked) pendingDoesOwn started (by kernel_rfl) Try.func6
    (ChangeSpec.witness6 (enc := enc) (C := Try.checked) false ⟨#[], #[.slice none 0 0], []⟩ 8 (by kernel_rfl) (by kernel_rfl) (by kernel_rfl) (by kernel_rfl))
    fun W base args ds gs before hval hW _ _ _ => pendingDoesContract H enc W base args ds gs before hval hW
theorem pendingDoes_holds : Rows.PendingDoesSaid :=
  OpenClaim.holds_of_wide 6 Try.f6 rfl rfl rfl rfl rfl rfl rfl ⟨rfl, rfl, rfl, rfl, rfl⟩ rfl rfl rfl rfl rfl (by kernel_rfl) Try.func6 (by kernel_rfl)
    (of_decide_eq_true (by kernel_rfl)) (by unfold Func.isWrapper; first | (rw [if_pos (by decide +kernel)]; kernel_rfl) | (rw [if_neg (by decide +kernel)]; exact ⟨rfl, rfl⟩))
    (fun os started H enc _ => pendingDoesLifted os started H enc)
#print axioms pendingDoes_holds
end Go.Proofs.Ytcmbbkhnocjgeaa
