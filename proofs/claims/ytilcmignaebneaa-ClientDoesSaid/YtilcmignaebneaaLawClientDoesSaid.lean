/- Whatever a server answers, what a client keeps is as the chapter says: ClientDoes returns true at every input. No condition. -/
import Derived.Test.YtilcmignaebneaaOwnClientDoesSaid3
import Derived.Test.YtilcmignaebneaaRows
set_option linter.unusedVariables false
set_option linter.unusedSimpArgs false
namespace Go.Proofs.Ytilcmignaebneaa
open Go Go.AE Go.Proofs.R8
theorem clientDoesOwn : ownKnob Try.prog.godebug = none := by kernel_rfl
theorem clientDoesLaid : laidOutB Try.prog = true := by kernel_rfl
theorem clientDoesEv (x : TysT [.list (.st (.pair (.int .i64) (.pair (.int .i64) (.pair .str (.pair (.int .i64) (.pair (.int .i64) (.pair (.int .i64) (.pair (.pair (.int .i64) (.pair (.int .i64) (.pair (.int .i64) .str))) (.list (.int .i64)))))))))), .list (.int .i64), .list (.int .i64)]) (hw : TysWf _ x) :
    ∃ n H', fnE Try.tab envq19 noHint 0 n 4 Try.f4.ntmps Try.f4.results.toList annq19 bq19 (TysEnc _ x) [] (fun v H => some (v, H)) = some (.bool true, H') := by
  obtain ⟨l, e, h, ⟨⟩⟩ := x
  obtain ⟨hl, _⟩ := hw
  exact ⟨70, [], (fnq19_ok (l, e, h) _).trans ((fnq19_nat (l, e, h) _).trans (by rw [ClientDoes_true l e h (show l.length ≤ 9223372036854775807 from hl.1)]; rfl))⟩
set_option maxRecDepth 100000 in
theorem clientDoesContract (H : Type) (enc : TypeId × Value → H) (W : World) (base : Nat) (args : Array Value) (ds gs : List (DataW H)) (before : List MemPlace)
    (hval : ∀ (j : Nat) t v, Try.f4.params[j]? = some t → args[j]? = some v → Value.okWide Try.prog W .any base t v)
    (hW : DataW.Whole enc Try.prog Try.f4.params.toList Rows.clientDoesSpec.vars false W args.toList ds gs before) :
    Calls Try.prog 4 args W fun e W' => ∃ v, e = .returned v ∧ Rows.clientDoesSpec.post enc Try.prog Try.f4 false true false false W args v W' :=
  law_contract (hint := noHint) (d := 0) mixed tabOk envq19Ok clientDoesLaid Try.func4 (bodySome (by kernel_rfl)) (by kernel_rfl) (tb := 4) (by kernel_rfl) (by kernel_rfl)
    (ys := [.list (.st (.pair (.int .i64) (.pair (.int .i64) (.pair .str (.pair (.int .i64) (.pair (.int .i64) (.pair (.int .i64) (.pair (.pair (.int .i64) (.pair (.int .i64) (.pair (.int .i64) .str))) (.list (.int .i64)))))))))), .list (.int .i64), .list (.int .i64)]) (by kernel_rfl) annq19_ok clientDoesEv (s := Rows.clientDoesSpec) rfl
    (fun ds h => match ds, h with | [_, _, _], _ => rfl) hval hW
set_option maxRecDepth 100000 in
theorem clientDoesLifted (os : Os) (started : os.Started) (H : Type) (enc : TypeId × Value → H) :
    ReturnsInHanded {} Try.checked os 4 .any (Rows.clientDoesSpec.pre6 enc Try.prog Try.f4 Rows.clientDoesRow.domain false) (Rows.clientDoesSpec.post enc Try.prog Try.f4 false true false false) :=
  returnsInHanded_of_change_sized (C := Try.checked) clientDoesOwn started (by kernel_rfl) Try.func4
    (ChangeSpec.witness6 (enc := enc) (C := Try.checked) false ⟨#[], #[.slice none 0 0, .slice none 0 0, .slice none 0 0], []⟩ 8 (by kernel_rfl) (by kernel_rfl) (by kernel_rfl) (by kernel_rfl))
    fun W base args ds gs before hval hW _ _ _ => clientDoesContract H enc W base args ds gs before hval hW
theorem clientDoes_holds : Rows.ClientDoesSaid :=
  OpenClaim.holds_of_wide 4 Try.f4 rfl rfl rfl rfl rfl rfl rfl ⟨rfl, rfl, rfl, rfl, rfl⟩ rfl rfl rfl rfl rfl (by kernel_rfl) Try.func4 (by kernel_rfl)
    (of_decide_eq_true (by kernel_rfl)) (by unfold Func.isWrapper; first | (rw [if_pos (by decide +kernel)]; kernel_rfl) | (rw [if_neg (by decide +kernel)]; exact ⟨rfl, rfl⟩))
    (fun os started H enc _ => clientDoesLifted os started H enc)
#print axioms clientDoes_holds
end Go.Proofs.Ytilcmignaebneaa
