/- Transactions that are put one behind the other, with rising numbers, are told in their order, as far as they have room, whatever stood there: LogscanOrder returns true at every input. No condition. -/
import Derived.Test.YtkoocdpbnniamaaOwnLogscanOrderSaid6
import Derived.Test.YtkoocdpbnniamaaRows
set_option linter.unusedVariables false
set_option linter.unusedSimpArgs false
namespace Go.Proofs.Ytkoocdpbnniamaa
open Go Go.AE Go.Proofs.R4
theorem logscanOrderOwn : ownKnob Try.prog.godebug = none := by kernel_rfl
theorem logscanOrderLaid : laidOutB Try.prog = true := by kernel_rfl
theorem logscanOrderEv (x : TysT [.int .i64, .list (.list (.st (.pair (.int .i64) .str))), .int .i64, .int .i64, .list (.st (.pair (.int .i64) (.pair (.int .i64) (.pair .str (.list (.st (.pair (.int .i64) .str)))))))]) (hw : TysWf _ x) :
    ∃ n H', fnE Try.tab envlaw12_LogscanOrder noHint 0 n 3 Try.f3.ntmps Try.f3.results.toList annlaw12_LogscanOrder blaw12_LogscanOrder (TysEnc _ x) [] (fun v H => some (v, H)) = some (.bool true, H') := by
  obtain ⟨a, l, b, q, o, ⟨⟩⟩ := x
  obtain ⟨_, hl, _, _, ho, _⟩ := hw
  exact ⟨70, [], (fnlaw12_LogscanOrder_ok (a, l, b, q, o) _).trans ((fnlaw12_LogscanOrder_nat (a, l, b, q, o) _).trans (by rw [LogscanOrder_true a l b q o (show l.length ≤ 9223372036854775807 from hl.1) (fun x hx => (hl.2 x hx).1) (show o.length ≤ 9223372036854775807 from ho.1) (fun x hx => (ho.2 x hx).2.2.2.1)]; rfl))⟩
set_option maxRecDepth 100000 in
theorem logscanOrderContract (H : Type) (enc : TypeId × Value → H) (W : World) (base : Nat) (args : Array Value) (ds gs : List (DataW H)) (before : List MemPlace)
    (hval : ∀ (j : Nat) t v, Try.f3.params[j]? = some t → args[j]? = some v → Value.okWide Try.prog W .any base t v)
    (hW : DataW.Whole enc Try.prog Try.f3.params.toList Rows.logscanOrderSpec.vars false W args.toList ds gs before) :
    Calls Try.prog 3 args W fun e W' => ∃ v, e = .returned v ∧ Rows.logscanOrderSpec.post enc Try.prog Try.f3 false true false false W args v W' :=
  law_contract (hint := noHint) (d := 0) mixed tabOk envlaw12_LogscanOrderOk logscanOrderLaid Try.func3 (bodySome (by kernel_rfl)) (by kernel_rfl) (tb := 4) (by kernel_rfl) (by kernel_rfl)
    (ys := [.int .i64, .list (.list (.st (.pair (.int .i64) .str))), .int .i64, .int .i64, .list (.st (.pair (.int .i64) (.pair (.int .i64) (.pair .str (.list (.st (.pair (.int .i64) .str)))))))]) (by kernel_rfl) annlaw12_LogscanOrder_ok logscanOrderEv (s := Rows.logscanOrderSpec) rfl
    (fun ds h => match ds, h with | [_, _, _, _, _], _ => rfl) hval hW
set_option maxRecDepth 100000 in
theorem logscanOrderLifted (os : Os) (started : os.Started) (H : Type) (enc : TypeId × Value → H) :
    ReturnsInHanded {} Try.checked os 3 .any (Rows.logscanOrderSpec.pre6 enc Try.prog Try.f3 Rows.logscanOrderRow.domain false) (Rows.logscanOrderSpec.post enc Try.prog Try.f3 false true false false) :=
  returnsInHanded_of_change_sized (C := Try.checked) logscanOrderOwn started (by kernel_rfl) Try.func3
    (ChangeSpec.witness6 (enc := enc) (C := Try.checked) false ⟨#[], #[.int .i64 0, .slice none 0 0, .int .i64 0, .int .i64 0, .slice none 0 0], []⟩ 8 (by kernel_rfl) (by kernel_rfl) (by kernel_rfl) (by kernel_rfl))
    fun W base args ds gs before hval hW _ _ _ => logscanOrderContract H enc W base args ds gs before hval hW
theorem logscanOrder_holds : Rows.LogscanOrderSaid :=
  OpenClaim.holds_of_wide 3 Try.f3 rfl rfl rfl rfl rfl rfl rfl ⟨rfl, rfl, rfl, rfl, rfl⟩ rfl rfl rfl rfl rfl (by kernel_rfl) Try.func3 (by kernel_rfl)
    (of_decide_eq_true (by kernel_rfl)) (by unfold Func.isWrapper; first | (rw [if_pos (by decide +kernel)]; kernel_rfl) | (rw [if_neg (by decide +kernel)]; exact ⟨rfl, rfl⟩))
    (fun os started H enc _ => logscanOrderLifted os started H enc)
#print axioms logscanOrder_holds
end Go.Proofs.Ytkoocdpbnniamaa
