/- A client that is none, or has no servers, writes and reads nothing: ClientNone returns true at every input. No condition. -/
import Derived.Test.YtilcmignaebneaaOwnClientNoneSaid1
import Derived.Test.YtilcmignaebneaaRows
set_option linter.unusedVariables false
set_option linter.unusedSimpArgs false
namespace Go.Proofs.Ytilcmignaebneaa
open Go Go.AE Go.Proofs.R8
theorem clientNoneOwn : ownKnob Try.prog.godebug = none := by kernel_rfl
theorem clientNoneLaid : laidOutB Try.prog = true := by kernel_rfl
theorem clientNoneEv (x : TysT [.int .i64, .str]) (hw : TysWf _ x) :
    ∃ n H', fnE Try.tab envq25 noHint 0 n 5 Try.f5.ntmps Try.f5.results.toList annq25 bq25 (TysEnc _ x) [] (fun v H => some (v, H)) = some (.bool true, H') := by
  obtain ⟨a, b, ⟨⟩⟩ := x
  exact ⟨70, [], (fnq25_ok (a, b) _).trans ((fnq25_nat (a, b) _).trans (by rw [ClientNone_true a b]; rfl))⟩
set_option maxRecDepth 100000 in
theorem clientNoneContract (H : Type) (enc : TypeId × Value → H) (W : World) (base : Nat) (args : Array Value) (ds gs : List (DataW H)) (before : List MemPlace)
    (hval : ∀ (j : Nat) t v, Try.f5.params[j]? = some t → args[j]? = some v → Value.okWide Try.prog W .any base t v)
    (hW : DataW.Whole enc Try.prog Try.f5.params.toList Rows.clientNoneSpec.vars false W args.toList ds gs before) :
    Calls Try.prog 5 args W fun e W' => ∃ v, e = .returned v ∧ Rows.clientNoneSpec.post enc Try.prog Try.f5 false true false false W args v W' :=
  law_contract (hint := noHint) (d := 0) mixed tabOk envq25Ok clientNoneLaid Try.func5 (bodySome (by kernel_rfl)) (by kernel_rfl) (tb := 4) (by kernel_rfl) (by kernel_rfl)
    (ys := [.int .i64, .str]) (by kernel_rfl) annq25_ok clientNoneEv (s := Rows.clientNoneSpec) rfl
    (fun ds h => match ds, h with | [_, _], _ => rfl) hval hW
set_option maxRecDepth 100000 in
theorem clientNoneLifted (os : Os) (started : os.Started) (H : Type) (enc : TypeId × Value → H) :
    ReturnsInHanded {} Try.checked os 5 .any (Rows.clientNoneSpec.pre6 enc Try.prog Try.f5 Rows.clientNoneRow.domain false) (Rows.clientNoneSpec.post enc Try.prog Try.f5 false true false false) :=
  returnsInHanded_of_change_sized (C := Try.checked) clientNoneOwn started (by kernel_rfl) Try.func5
    (ChangeSpec.witness6 (enc := enc) (C := Try.checked) false ⟨#[], #[.int .i64 0, .string ⟨#[]⟩], []⟩ 8 (by kernel_rfl) (by kernel_rfl) (by kernel_rfl) (by kernel_rfl))
    fun W base args ds gs before hval hW _ _ _ => clientNoneContract H enc W base args ds gs before hval hW
theorem clientNone_holds : Rows.ClientNoneSaid :=
  OpenClaim.holds_of_wide 5 Try.f5 rfl rfl rfl rfl rfl rfl rfl ⟨rfl, rfl, rfl, rfl, rfl⟩ rfl rfl rfl rfl rfl (by kernel_rfl) Try.func5 (by kernel_rfl)
    (of_decide_eq_true (by kernel_rfl)) (by unfold Func.isWrapper; first | (rw [if_pos (by decide +kernel)]; kernel_rfl) | (rw [if_neg (by decide +kernel)]; exact ⟨rfl, rfl⟩))
    (fun os started H enc _ => clientNoneLifted os started H enc)
#print axioms clientNone_holds
end Go.Proofs.Ytilcmignaebneaa
