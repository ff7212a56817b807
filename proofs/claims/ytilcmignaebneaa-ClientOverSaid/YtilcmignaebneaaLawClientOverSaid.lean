/- Going over writes just what is kept to the other server, in order, up to the first error, and it stays kept: ClientOver returns true at every input. No condition. -/
import Derived.Test.YtilcmignaebneaaOwnClientOverSaid2
import Derived.Test.YtilcmignaebneaaRows
set_option linter.unusedVariables false
set_option linter.unusedSimpArgs false
namespace Go.Proofs.Ytilcmignaebneaa
open Go Go.AE Go.Proofs.R8
theorem clientOverOwn : ownKnob Try.prog.godebug = none := by kernel_rfl
theorem clientOverLaid : laidOutB Try.prog = true := by kernel_rfl
theorem clientOverEv (x : TysT [.list (.st (.pair (.int .i64) (.pair (.int .i64) (.pair .str (.pair (.int .i64) (.pair (.int .i64) (.pair (.int .i64) (.pair (.pair (.int .i64) (.pair (.int .i64) (.pair (.int .i64) .str))) (.list (.int .i64)))))))))), .list (.int .i64), .list (.int .i64)]) (hw : TysWf _ x) :
    ∃ n H', fnE Try.tab envq35 noHint 0 n 3 Try.f3.ntmps Try.f3.results.toList annq35 bq35 (TysEnc _ x) [] (fun v H => some (v, H)) = some (.bool true, H') := by
  obtain ⟨l, e, h, ⟨⟩⟩ := x
  obtain ⟨hl, _⟩ := hw
  exact ⟨70, [], (fnq35_ok (l, e, h) _).trans ((fnq35_nat (l, e, h) _).trans (by rw [ClientOver_true l e h (show l.length ≤ 9223372036854775807 from hl.1)]; rfl))⟩
set_option maxRecDepth 100000 in
theorem clientOverContract (H : Type) (enc : TypeId × Value → H) (W : World) (base : Nat) (args : Array Value) (ds gs : List (DataW H)) (before : List MemPlace)
    (hval : ∀ (j : Nat) t v, Try.f3.params[j]? = some t → args[j]? = some v → Value.okWide Try.prog W .any base t v)
    (hW : DataW.Whole enc Try.prog Try.f3.params.toList Rows.clientOverSpec.vars false W args.toList ds gs before) :
    Calls Try.prog 3 args W fun e W' => ∃ v, e = .returned v ∧ Rows.clientOverSpec.post enc Try.prog Try.f3 false true false false W args v W' :=
  law_contract (hint := noHint) (d := 0) mixed tabOk envq35Ok clientOverLaid Try.func3 (bodySome (by kernel_rfl)) (by kernel_rfl) (tb := 4) (by kernel_rfl) (by kernel_rfl)
    (ys := [.list (.st (.pair (.int .i64) (.pair (.int .i64) (.pair .str (.pair (.int .i64) (.pair (.int .i64) (.pair (.int .i64) (.pair (.pair (.int .i64) (.pair (.int .i64) (.pair (.int .i64) .str))) (.list (.int .i64)))))))))), .list (.int .i64), .list (.int .i64)]) (by kernel_rfl) annq35_ok clientOverEv (s := Rows.clientOverSpec) rfl
    (fun ds h => match ds, h with | [_, _, _], _ => rfl) hval hW
set_option maxRecDepth 100000 in
theorem clientOverLifted (os : Os) (started : os.Started) (H : Type) (enc : TypeId × Value → H) :
    ReturnsInHanded {} Try.checked os 3 .any (Rows.clientOverSpec.pre6 enc Try.prog Try.f3 Rows.clientOverRow.domain false) (Rows.clientOverSpec.post enc Try.prog Try.f3 false true false false) :=
  returnsInHanded_of_change_sized (C := Try.checked) clientOverOwn started (by kernel_rfl) Try.func3
    (ChangeSpec.witness6 (enc := enc) (C := Try.checked) false ⟨#[], #[.slice none 0 0, .slice none 0 0, .slice none 0 0], []⟩ 8 (by kernel_rfl) (by kernel_rfl) (by kernel_rfl) (by kernel_rfl))
    fun W base args ds gs before hval hW _ _ _ => clientOverContract H enc W base args ds gs before hval hW
theorem clientOver_holds : Rows.ClientOverSaid :=
  OpenClaim.holds_of_wide 3 Try.f3 rfl rfl rfl rfl rfl rfl rfl ⟨rfl, rfl, rfl, rfl, rfl⟩ rfl rfl rfl rfl rfl (by kernel_rfl) Try.func3 (by kernel_rfl)
    (of_decide_eq_true (by kernel_rfl)) (by unfold Func.isWrapper; first | (rw [if_pos (by decide +kernel)]; kernel_rfl) | (rw [if_neg (by decide +kernel)]; exact ⟨rfl, rfl⟩))
    (fun os started H enc _ => clientOverLifted os started H enc)
#print axioms clientOver_holds
end Go.Proofs.Ytilcmignaebneaa
