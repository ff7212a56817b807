/- Whatever operations wait for whatever texts, and in whatever order these are done, each operation comes out once and none waits in the end: PendingOnce returns true at every input. No condition. -/
import Derived.Test.YtcmbbkhnocjgeaaOwnPendingOnce1
import Derived.Test.YtcmbbkhnocjgeaaRows
set_option linter.unusedVariables false
set_option linter.unusedSimpArgs false
namespace Go.Proofs.Ytcmbbkhnocjgeaa
open Go Go.AE Go.Proofs.R1
theorem pendingOnceOwn : ownKnob Try.prog.godebug = none := by kernel_rfl
theorem pendingOnceLaid : laidOutB Try.prog = true := by kernel_rfl
theorem pendingOnceEv (x : TysT [.list (.list .str), .list .str]) (hw : TysWf _ x) :
    ∃ n H', fnE Try.tab envO Try.hint 2 n 5 Try.f5.ntmps Try.f5.results.toList ann5 b5 (TysEnc _ x) [] (fun v H => some (v, H)) = some (.bool true, H') := by
  obtain ⟨l, d, ⟨⟩⟩ := x
  exact ⟨70, [], (fn5_ok (l, d) _).trans (fn5_true l d _)⟩
theorem pendingOnceContract (H : Type) (enc : TypeId × Value → H) (W : World) (base : Nat) (args : Array Value) (ds gs : List (DataW H)) (before : List MemPlace)
    (hval : ∀ (j : Nat) t v, Try.f5.params[j]? = some t → args[j]? = some v → Value.okWide Try.prog W .any base t v)
    (hW : DataW.Whole enc Try.prog Try.f5.params.toList Rows.pendingOnceSpec.vars false W args.toList ds gs before) :
    Calls Try.prog 5 args W fun e W' => ∃ v, e = .returned v ∧ Rows.pendingOnceSpec.post enc Try.prog Try.f5 false true false false W args v W' :=
  law_contract (hint := Try.hint) (d := 2) mixed tabOk envOOk pendingOnceLaid Try.func5 (bodySome (by kernel_rfl)) (by kernel_rfl) (tb := 4) (by kernel_rfl) (by kernel_rfl)
    (ys := [.list (.list .str), .list .str]) (by kernel_rfl) ann5_ok pendingOnceEv (s := Rows.pendingOnceSpec) rfl
    (fun ds h => match ds, h with | [_, _], _ => rfl) hval hW
theorem pendingOnceLifted (os : Os) (started : os.Started) (H : Type) (enc : TypeId × Value → H) :
    ReturnsInHanded {} Try.checked os 5 .any (Rows.pendingOnceSpec.pre6 enc Try.prog Try.f5 Rows.pendingOnceRow.domain false) (Rows.pendingOnceSpec.post enc Try.prog Try.f5 false true false false) :=
  returnsInHanded_of_change_sized (C := Try.checked) pendingOnceOwn started (by kernel_rfl) Try.func5
    (ChangeSpec.witness6 (enc := enc) (C := Try.checked) false ⟨#[], #[.slice none 0 0, .slice none 0 0], []⟩ 8 (by kernel_rfl) (by kernel_rfl) (by kernel_rfl) (by kernel_rfl))
    fun W base args ds gs before hval hW _ _ _ => pendingOnceContract H enc W base args ds gs before hval hW
theorem pendingOnce_holds : Rows.PendingOnceSaid :=
  OpenClaim.holds_of_wide 5 Try.f5 rfl rfl rfl rfl rfl rfl rfl ⟨rfl, rfl, rfl, rfl, rfl⟩ rfl rfl rfl rfl rfl (by kernel_rfl) Try.func5 (by kernel_rfl)
    (of_decide_eq_true (by kernel_rfl)) (by unfold Func.isWrapper; first | (rw [if_pos (by decide +kernel)]; kernel_rfl) | (rw [if_neg (by decide +kernel)]; exact ⟨rfl, rfl⟩))
    (fun os started H enc _ => pendingOnceLifted os started H enc)
#print axioms pendingOnce_holds
end Go.Proofs.Ytcmbbkhnocjgeaa
