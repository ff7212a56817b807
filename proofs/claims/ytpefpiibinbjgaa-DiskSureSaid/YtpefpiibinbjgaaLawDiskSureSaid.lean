/- Behind a flush each sector has what was sure, or one of the writes behind it, whole: DiskSure returns true at every input. No condition. -/
import Derived.Test.YtpefpiibinbjgaaOwnDiskSureSaid4
import Derived.Test.YtpefpiibinbjgaaRows
set_option linter.unusedVariables false
set_option linter.unusedSimpArgs false
namespace Go.Proofs.Ytpefpiibinbjgaa
open Go Go.AE Go.Proofs.R3
theorem diskSureOwn : ownKnob Try.prog.godebug = none := by kernel_rfl
theorem diskSureLaid : laidOutB Try.prog = true := by kernel_rfl
theorem diskSureEv (x : TysT [.list (.st (.pair (.int .i64) .str)), .list (.st (.pair (.int .i64) .str)), .list (.int .i64)]) (hw : TysWf _ x) :
    ∃ n H', fnE Try.tab envlaw08_DiskSure noHint 0 n 3 Try.f3.ntmps Try.f3.results.toList annlaw08_DiskSure blaw08_DiskSure (TysEnc _ x) [] (fun v H => some (v, H)) = some (.bool true, H') := by
  obtain ⟨a, b, c, ⟨⟩⟩ := x
  obtain ⟨_, _, hc, _⟩ := hw
  exact ⟨70, [], (fnlaw08_DiskSure_ok (a, b, c) _).trans ((fnlaw08_DiskSure_nat (a, b, c) _).trans (by rw [DiskSure_true a b c (show c.length ≤ 9223372036854775807 from hc.1)]; rfl))⟩
set_option maxRecDepth 100000 in
theorem diskSureContract (H : Type) (enc : TypeId × Value → H) (W : World) (base : Nat) (args : Array Value) (ds gs : List (DataW H)) (before : List MemPlace)
    (hval : ∀ (j : Nat) t v, Try.f3.params[j]? = some t → args[j]? = some v → Value.okWide Try.prog W .any base t v)
    (hW : DataW.Whole enc Try.prog Try.f3.params.toList Rows.diskSureSpec.vars false W args.toList ds gs before) :
    Calls Try.prog 3 args W fun e W' => ∃ v, e = .returned v ∧ Rows.diskSureSpec.post enc Try.prog Try.f3 false true false false W args v W' :=
  law_contract (hint := noHint) (d := 0) mixed tabOk envlaw08_DiskSureOk diskSureLaid Try.func3 (bodySome (by kernel_rfl)) (by kernel_rfl) (tb := 4) (by kernel_rfl) (by kernel_rfl)
    (ys := [.list (.st (.pair (.int .i64) .str)), .list (.st (.pair (.int .i64) .str)), .list (.int .i64)]) (by kernel_rfl) annlaw08_DiskSure_ok diskSureEv (s := Rows.diskSureSpec) rfl
    (fun ds h => match ds, h with | [_, _, _], _ => rfl) hval hW
set_option maxRecDepth 100000 in
theorem diskSureLifted (os : Os) (started : os.Started) (H : Type) (enc : TypeId × Value → H) :
    ReturnsInHanded {} Try.checked os 3 .any (Rows.diskSureSpec.pre6 enc Try.prog Try.f3 Rows.diskSureRow.domain false) (Rows.diskSureSpec.post enc Try.prog Try.f3 false true false false) :=
  returnsInHanded_of_change_sized (C := Try.checked) diskSureOwn started (by kernel_rfl) Try.func3
    (ChangeSpec.witness6 (enc := enc) (C := Try.checked) false ⟨#[], #[.slice none 0 0, .slice none 0 0, .slice none 0 0], []⟩ 8 (by kernel_rfl) (by kernel_rfl) (by kernel_rfl) (by kernel_rfl))
    fun W base args ds gs before hval hW _ _ _ => diskSureContract H enc W base args ds gs before hval hW
theorem diskSure_holds : Rows.DiskSureSaid :=
  OpenClaim.holds_of_wide 3 Try.f3 rfl rfl rfl rfl rfl rfl rfl ⟨rfl, rfl, rfl, rfl, rfl⟩ rfl rfl rfl rfl rfl (by kernel_rfl) Try.func3 (by kernel_rfl)
    (of_decide_eq_true (by kernel_rfl)) (by unfold Func.isWrapper; first | (rw [if_pos (by decide +kernel)]; kernel_rfl) | (rw [if_neg (by decide +kernel)]; exact ⟨rfl, rfl⟩))
    (fun os started H enc _ => diskSureLifted os started H enc)
#print axioms diskSure_holds
end Go.Proofs.Ytpefpiibinbjgaa
