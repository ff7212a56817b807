/- Of every volume each sector belongs to one thing alone, and all sectors belong to one: LayoutApart returns true at every input. No condition. -/
import Derived.Test.YtcmbbkhnocjgeaaOwnLayoutApart1
import Derived.Test.YtcmbbkhnocjgeaaRows
set_option linter.unusedVariables false
set_option linter.unusedSimpArgs false
namespace Go.Proofs.Ytcmbbkhnocjgeaa
open Go Go.AE Go.Proofs.R1
theorem layoutApartOwn : ownKnob Try.prog.godebug = none := by kernel_rfl
theorem layoutApartLaid : laidOutB Try.prog = true := by kernel_rfl
theorem layoutApartEv (x : TysT [.st (.pair (.int .i64) (.pair (.int .i64) (.int .i64)))]) (hw : TysWf _ x) :
    ∃ n H', fnE Try.tab env5 Try.hint 4 n 4 Try.f4.ntmps Try.f4.results.toList ann4 b4 (TysEnc _ x) [] (fun v H => some (v, H)) = some (.bool true, H') := by
  obtain ⟨⟨a, b, c⟩, ⟨⟩⟩ := x
  exact ⟨70, [], (fn4_ok (a, b, c) _).trans (fn4_true a b c _)⟩
theorem layoutApartContract (H : Type) (enc : TypeId × Value → H) (W : World) (base : Nat) (args : Array Value) (ds gs : List (DataW H)) (before : List MemPlace)
    (hval : ∀ (j : Nat) t v, Try.f4.params[j]? = some t → args[j]? = some v → Value.okWide Try.prog W .any base t v)
    (hW : DataW.Whole enc Try.prog Try.f4.params.toList Rows.layoutApartSpec.vars false W args.toList ds gs before) :
    Calls Try.prog 4 args W fun e W' => ∃ v, e = .returned v ∧ Rows.layoutApartSpec.post enc Try.prog Try.f4 false true false false W args v W' :=
  law_contract (hint := Try.hint) (d := 4) mixed tabOk env5Ok layoutApartLaid Try.func4 (bodySome (by kernel_rfl)) (by kernel_rfl) (tb := 4) (by kernel_rfl) (by kernel_rfl)
    (ys := [.st (.pair (.int .i64) (.pair (.int .i64) (.int .i64)))]) (by kernel_rfl) ann4_ok layoutApartEv (s := Rows.layoutApartSpec) rfl
    (fun ds h => match ds, h with | [_], _ => rfl) hval hW
theorem layoutApartLifted (os : Os) (started : os.Started) (H : Type) (enc : TypeId × Value → H) :
    ReturnsInHanded {} Try.checked os 4 .any (Rows.layoutApartSpec.pre6 enc Try.prog Try.f4 Rows.layoutApartRow.domain false) (Rows.layoutApartSpec.post enc Try.prog Try.f4 false true false false) :=
  returnsInHanded_of_change_sized (C := Try.checked) layoutApartOwn started (by kernel_rfl) Try.func4
    (ChangeSpec.witness6 (enc := enc) (C := Try.checked) false ⟨#[], #[.agg #[.int .i64 0, .int .i64 0, .int .i64 0]], []⟩ 8 (by kernel_rfl) (by kernel_rfl) (by kernel_rfl) (by kernel_rfl))
    fun W base args ds gs before hval hW _ _ _ => layoutApartContract H enc W base args ds gs before hval hW
theorem layoutApart_holds : Rows.LayoutApartSaid :=
  OpenClaim.holds_of_wide 4 Try.f4 rfl rfl rfl rfl rfl rfl rfl ⟨rfl, rfl, rfl, rfl, rfl⟩ rfl rfl rfl rfl rfl (by kernel_rfl) Try.func4 (by kernel_rfl)
    (of_decide_eq_true (by kernel_rfl)) (by unfold Func.isWrapper; first | (rw [if_pos (by decide +kernel)]; kernel_rfl) | (rw [if_neg (by decide +kernel)]; exact ⟨rfl, rfl⟩))
    (fun os started H enc _ => layoutApartLifted os started H enc)
#print axioms layoutApart_holds
end Go.Proofs.Ytcmbbkhnocjgeaa
