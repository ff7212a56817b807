/- Whatever is done to a disk, fails and is forgotten, it answers as the chapter says: DiskDoes returns true at every input. No condition. -/
import Derived.Test.YtpefpiibinbjgaaOwnDiskDoesSaid3
import Derived.Test.YtpefpiibinbjgaaRows
set_option linter.unusedVariables false
set_option linter.unusedSimpArgs false
namespace Go.Proofs.Ytpefpiibinbjgaa
open Go Go.AE Go.Proofs.R3
theorem diskDoesOwn : ownKnob Try.prog.godebug = none := by kernel_rfl
theorem diskDoesLaid : laidOutB Try.prog = true := by kernel_rfl
theorem diskDoesEv (x : TysT [.int .i64, .list (.st (.pair (.int .i64) (.pair (.int .i64) (.pair .str (.list (.int .i64))))))]) (hw : TysWf _ x) :
    ∃ n H', fnE Try.tab envlaw08_DiskDoes noHint 0 n 4 Try.f4.ntmps Try.f4.results.toList annlaw08_DiskDoes blaw08_DiskDoes (TysEnc _ x) [] (fun v H => some (v, H)) = some (.bool true, H') := by
  obtain ⟨a, l, ⟨⟩⟩ := x
  obtain ⟨_, hl, _⟩ := hw
  exact ⟨70, [], (fnlaw08_DiskDoes_ok (a, l) _).trans ((fnlaw08_DiskDoes_nat (a, l) _).trans (by rw [DiskDoes_true a l (show l.length ≤ 9223372036854775807 from hl.1)]; rfl))⟩
set_option maxRecDepth 100000 in
theorem diskDoesContract (H : Type) (enc : TypeId × Value → H) (W : World) (base : Nat) (args : Array Value) (ds gs : List (DataW H)) (before : List MemPlace)
    (hval : ∀ (j : Nat) t v, Try.f4.params[j]? = some t → args[j]? = some v → Value.okWide Try.prog W .any base t v)
    (hW : DataW.Whole enc Try.prog Try.f4.params.toList Rows.diskDoesSpec.vars false W args.toList ds gs before) :
    Calls Try.prog 4 args W fun e W' => ∃ v, e = .returned v ∧ Rows.diskDoesSpec.post enc Try.prog Try.f4 false true false false W args v W' :=
  law_contract (hint := noHint) (d := 0) mixed tabOk envlaw08_DiskDoesOk diskDoesLaid Try.func4 (bodySome (by kernel_rfl)) (by kernel_rfl) (tb := 4) (by kernel_rfl) (by kernel_rfl)
    (ys := [.int .i64, .list (.st (.pair (.int .i64) (.pair (.int .i64) (.pair .str (.list (.int .i64))))))]) (by kernel_rfl) annlaw08_DiskDoes_ok diskDoesEv (s := Rows.diskDoesSpec) rfl
    (fun ds h => match ds, h with | [_, _], _ => rfl) hval hW
set_option maxRecDepth 100000 in
theorem diskDoesLifted (os : Os) (started : os.Started) (H : Type) (enc : TypeId × Value → H) :
    ReturnsInHanded {} Try.checked os 4 .any (Rows.diskDoesSpec.pre6 enc Try.prog Try.f4 Rows.diskDoesRow.domain false) (Rows.diskDoesSpec.post enc Try.prog Try.f4 false true false false) :=
  returnsInHanded_of_change_sized (C := Try.checked) diskDoesOwn started (by kernel_rfl) Try.func4
    (ChangeSpec.witness6 (enc := enc) (C := Try.checked) false ⟨#[], #[.int .i64 0, .slice none 0 0], []⟩ 8 (by kernel_rfl) (by kernel_rfl) (by kernel_rfl) (by kernel_rfl))
    fun W base args ds gs before hval hW _ _ _ => diskDoesContract H enc W base args ds gs before hval hW
theorem diskDoes_holds : Rows.DiskDoesSaid :=
  OpenClaim.holds_of_wide 4 Try.f4 rfl rfl rfl rfl rfl rfl rfl ⟨rfl, rfl, rfl, rfl, rfl⟩ rfl rfl rfl rfl rfl (by kernel_rfl) Try.func4 (by kernel_rfl)
    (of_decide_eq_true (by kernel_rfl)) (by unfold Func.isWrapper; first | (rw [if_pos (by decide +kernel)]; kernel_rfl) | (rw [if_neg (by decide +kernel)]; exact ⟨rfl, rfl⟩))
    (fun os started H enc _ => diskDoesLifted os started H enc)
#print axioms diskDoes_holds
end Go.Proofs.Ytpefpiibinbjgaa
