/- A disk that is none has nothing, and is down: DiskNone returns true at every input. No condition. -/
import Derived.Test.YtpefpiibinbjgaaOwnDiskNoneSaid1
import Derived.Test.YtpefpiibinbjgaaRows
set_option linter.unusedVariables false
set_option linter.unusedSimpArgs false
namespace Go.Proofs.Ytpefpiibinbjgaa
open Go Go.AE Go.Proofs.R3
theorem diskNoneOwn : ownKnob Try.prog.godebug = none := by kernel_rfl
theorem diskNoneLaid : laidOutB Try.prog = true := by kernel_rfl
theorem diskNoneEv (x : TysT [.int .i64, .str, .list (.int .i64)]) (hw : TysWf _ x) :
    ∃ n H', fnE Try.tab envlaw08_DiskNone noHint 0 n 5 Try.f5.ntmps Try.f5.results.toList annlaw08_DiskNone blaw08_DiskNone (TysEnc _ x) [] (fun v H => some (v, H)) = some (.bool true, H') := by
  obtain ⟨a, s, l, ⟨⟩⟩ := x
  exact ⟨70, [], (fnlaw08_DiskNone_ok (a, s, l) _).trans ((fnlaw08_DiskNone_nat (a, s, l) _).trans (by rw [DiskNone_true]; rfl))⟩
set_option maxRecDepth 100000 in
theorem diskNoneContract (H : Type) (enc : TypeId × Value → H) (W : World) (base : Nat) (args : Array Value) (ds gs : List (DataW H)) (before : List MemPlace)
    (hval : ∀ (j : Nat) t v, Try.f5.params[j]? = some t → args[j]? = some v → Value.okWide Try.prog W .any base t v)
    (hW : DataW.Whole enc Try.prog Try.f5.params.toList Rows.diskNoneSpec.vars false W args.toList ds gs before) :
    Calls Try.prog 5 args W fun e W' => ∃ v, e = .returned v ∧ Rows.diskNoneSpec.post enc Try.prog Try.f5 false true false false W args v W' :=
  law_contract (hint := noHint) (d := 0) mixed tabOk envlaw08_DiskNoneOk diskNoneLaid Try.func5 (bodySome (by kernel_rfl)) (by kernel_rfl) (tb := 4) (by kernel_rfl) (by kernel_rfl)
    (ys := [.int .i64, .str, .list (.int .i64)]) (by kernel_rfl) annlaw08_DiskNone_ok diskNoneEv (s := Rows.diskNoneSpec) rfl
    (fun ds h => match ds, h with | [_, _, _], _ => rfl) hval hW
set_option maxRecDepth 100000 in
theorem diskNoneLifted (os : Os) (started : os.Started) (H : Type) (enc : TypeId × Value → H) :
    ReturnsInHanded {} Try.checked os 5 .any (Rows.diskNoneSpec.pre6 enc Try.prog Try.f5 Rows.diskNoneRow.domain false) (Rows.diskNoneSpec.post enc Try.prog Try.f5 false true false false) :=
  returnsInHanded_of_change_sized (C := Try.checked) diskNoneOwn started (by kernel_rfl) Try.func5
    (ChangeSpec.witness6 (enc := enc) (C := Try.checked) false ⟨#[], #[.int .i64 0, .string ⟨#[]⟩, .slice none 0 0], []⟩ 8 (by kernel_rfl) (by kernel_rfl) (by kernel_rfl) (by kernel_rfl))
    fun W base args ds gs before hval hW _ _ _ => diskNoneContract H enc W base args ds gs before hval hW
theorem diskNone_holds : Rows.DiskNoneSaid :=
  OpenClaim.holds_of_wide 5 Try.f5 rfl rfl rfl rfl rfl rfl rfl ⟨rfl, rfl, rfl, rfl, rfl⟩ rfl rfl rfl rfl rfl (by kernel_rfl) Try.func5 (by kernel_rfl)
    (of_decide_eq_true (by kernel_rfl)) (by unfold Func.isWrapper; first | (rw [if_pos (by decide +kernel)]; kernel_rfl) | (rw [if_neg (by decide +kernel)]; exact ⟨rfl, rfl⟩))
    (fun os started H enc _ => diskNoneLifted os started H enc)
#print axioms diskNone_holds
end Go.Proofs.Ytpefpiibinbjgaa
