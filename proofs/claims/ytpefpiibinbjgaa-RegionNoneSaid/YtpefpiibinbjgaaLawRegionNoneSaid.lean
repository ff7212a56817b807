/- A part of a disk that is none has nothing: RegionNone returns true at every input. No condition. -/
import Derived.Test.YtpefpiibinbjgaaOwnRegionNoneSaid3
import Derived.Test.YtpefpiibinbjgaaRows
set_option linter.unusedVariables false
set_option linter.unusedSimpArgs false
namespace Go.Proofs.Ytpefpiibinbjgaa
open Go Go.AE Go.Proofs.R3
theorem regionNoneOwn : ownKnob Try.prog.godebug = none := by kernel_rfl
theorem regionNoneLaid : laidOutB Try.prog = true := by kernel_rfl
theorem regionNoneEv (x : TysT [.int .i64, .int .i64, .str]) (hw : TysWf _ x) :
    ∃ n H', fnE Try.tab envlaw09_RegionNone noHint 0 n 7 Try.f7.ntmps Try.f7.results.toList annlaw09_RegionNone blaw09_RegionNone (TysEnc _ x) [] (fun v H => some (v, H)) = some (.bool true, H') := by
  obtain ⟨a, b, c, ⟨⟩⟩ := x
  exact ⟨70, [], (fnlaw09_RegionNone_ok (a, b, c) _).trans ((fnlaw09_RegionNone_nat (a, b, c) _).trans (by rw [RegionNone_true a b c]; rfl))⟩
set_option maxRecDepth 100000 in
theorem regionNoneContract (H : Type) (enc : TypeId × Value → H) (W : World) (base : Nat) (args : Array Value) (ds gs : List (DataW H)) (before : List MemPlace)
    (hval : ∀ (j : Nat) t v, Try.f7.params[j]? = some t → args[j]? = some v → Value.okWide Try.prog W .any base t v)
    (hW : DataW.Whole enc Try.prog Try.f7.params.toList Rows.regionNoneSpec.vars false W args.toList ds gs before) :
    Calls Try.prog 7 args W fun e W' => ∃ v, e = .returned v ∧ Rows.regionNoneSpec.post enc Try.prog Try.f7 false true false false W args v W' :=
  law_contract (hint := noHint) (d := 0) mixed tabOk envlaw09_RegionNoneOk regionNoneLaid Try.func7 (bodySome (by kernel_rfl)) (by kernel_rfl) (tb := 4) (by kernel_rfl) (by kernel_rfl)
    (ys := [.int .i64, .int .i64, .str]) (by kernel_rfl) annlaw09_RegionNone_ok regionNoneEv (s := Rows.regionNoneSpec) rfl
    (fun ds h => match ds, h with | [_, _, _], _ => rfl) hval hW
set_option maxRecDepth 100000 in
theorem regionNoneLifted (os : Os) (started : os.Started) (H : Type) (enc : TypeId × Value → H) :
    ReturnsInHanded {} Try.checked os 7 .any (Rows.regionNoneSpec.pre6 enc Try.prog Try.f7 Rows.regionNoneRow.domain false) (Rows.regionNoneSpec.post enc Try.prog Try.f7 false true false false) :=
  returnsInHanded_of_change_sized (C := Try.checked) regionNoneOwn started (by kernel_rfl) Try.func7
    (ChangeSpec.witness6 (enc := enc) (C := Try.checked) false ⟨#[], #[.int .i64 0, .int .i64 0, .string ⟨#[]⟩], []⟩ 8 (by kernel_rfl) (by kernel_rfl) (by kernel_rfl) (by kernel_rfl))
    fun W base args ds gs before hval hW _ _ _ => regionNoneContract H enc W base args ds gs before hval hW
theorem regionNone_holds : Rows.RegionNoneSaid :=
  OpenClaim.holds_of_wide 7 Try.f7 rfl rfl rfl rfl rfl rfl rfl ⟨rfl, rfl, rfl, rfl, rfl⟩ rfl rfl rfl rfl rfl (by kernel_rfl) Try.func7 (by kernel_rfl)
    (of_decide_eq_true (by kernel_rfl)) (by unfold Func.isWrapper; first | (rw [if_pos (by decide +kernel)]; kernel_rfl) | (rw [if_neg (by decide +kernel)]; exact ⟨rfl, rfl⟩))
    (fun os started H enc _ => regionNoneLifted os started H enc)
#print axioms regionNone_holds
end Go.Proofs.Ytpefpiibinbjgaa
