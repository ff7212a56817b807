/- What is written into a region is read, no other sector changes, and padded bytes are whole sectors: RegionOwn returns true at every input. No condition. -/
import Derived.Test.YtpefpiibinbjgaaOwnRegionOwnSaid3
import Derived.Test.YtpefpiibinbjgaaRows
set_option linter.unusedVariables false
set_option linter.unusedSimpArgs false
namespace Go.Proofs.Ytpefpiibinbjgaa
open Go Go.AE Go.Proofs.R3
theorem regionOwnOwn : ownKnob Try.prog.godebug = none := by kernel_rfl
theorem regionOwnLaid : laidOutB Try.prog = true := by kernel_rfl
theorem regionOwnEv (x : TysT [.int .i64, .int .i64, .int .i64, .str]) (hw : TysWf _ x) :
    ∃ n H', fnE Try.tab envlaw09_RegionOwn noHint 0 n 6 Try.f6.ntmps Try.f6.results.toList annlaw09_RegionOwn blaw09_RegionOwn (TysEnc _ x) [] (fun v H => some (v, H)) = some (.bool true, H') := by
  obtain ⟨a, b, c, d, ⟨⟩⟩ := x
  exact ⟨70, [], (fnlaw09_RegionOwn_ok (a, b, c, d) _).trans ((fnlaw09_RegionOwn_nat (a, b, c, d) _).trans (by rw [RegionOwn_true a b c d]; rfl))⟩
set_option maxRecDepth 100000 in
theorem regionOwnContract (H : Type) (enc : TypeId × Value → H) (W : World) (base : Nat) (args : Array Value) (ds gs : List (DataW H)) (before : List MemPlace)
    (hval : ∀ (j : Nat) t v, Try.f6.params[j]? = some t → args[j]? = some v → Value.okWide Try.prog W .any base t v)
    (hW : DataW.Whole enc Try.prog Try.f6.params.toList Rows.regionOwnSpec.vars false W args.toList ds gs before) :
    Calls Try.prog 6 args W fun e W' => ∃ v, e = .returned v ∧ Rows.regionOwnSpec.post enc Try.prog Try.f6 false true false false W args v W' :=
  law_contract (hint := noHint) (d := 0) mixed tabOk envlaw09_RegionOwnOk regionOwnLaid Try.func6 (bodySome (by kernel_rfl)) (by kernel_rfl) (tb := 4) (by kernel_rfl) (by kernel_rfl)
    (ys := [.int .i64, .int .i64, .int .i64, .str]) (by kernel_rfl) annlaw09_RegionOwn_ok regionOwnEv (s := Rows.regionOwnSpec) rfl
    (fun ds h => match ds, h with | [_, _, _, _], _ => rfl) hval hW
set_option maxRecDepth 100000 in
theorem regionOwnLifted (os : Os) (started : os.Started) (H : Type) (enc : TypeId × Value → H) :
    ReturnsInHanded {} Try.checked os 6 .any (Rows.regionOwnSpec.pre6 enc Try.prog Try.f6 Rows.regionOwnRow.domain false) (Rows.regionOwnSpec.post enc Try.prog Try.f6 false true false false) :=
  returnsInHanded_of_change_sized (C := Try.checked) regionOwnOwn started (by kernel_rfl) Try.func6
    (ChangeSpec.witness6 (enc := enc) (C := Try.checked) false ⟨#[], #[.int .i64 0, .int .i64 0, .int .i64 0, .string ⟨#[]⟩], []⟩ 8 (by kernel_rfl) (by kernel_rfl) (by kernel_rfl) (by kernel_rfl))
    fun W base args ds gs before hval hW _ _ _ => regionOwnContract H enc W base args ds gs before hval hW
theorem regionOwn_holds : Rows.RegionOwnSaid :=
  OpenClaim.holds_of_wide 6 Try.f6 rfl rfl rfl rfl rfl rfl rfl ⟨rfl, rfl, rfl, rfl, rfl⟩ rfl rfl rfl rfl rfl (by kernel_rfl) Try.func6 (by kernel_rfl)
    (of_decide_eq_true (by kernel_rfl)) (by unfold Func.isWrapper; first | (rw [if_pos (by decide +kernel)]; kernel_rfl) | (rw [if_neg (by decide +kernel)]; exact ⟨rfl, rfl⟩))
    (fun os started H enc _ => regionOwnLifted os started H enc)
#print axioms regionOwn_holds
end Go.Proofs.Ytpefpiibinbjgaa
