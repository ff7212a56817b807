/- Versions are read as they were; where some bytes that stand within four in a row of their data are turned nothing is read; and what is read is just its sectors: SlotBack returns true at every input. No condition but what is laid. -/
import Derived.Test.YtbhnbhhlmfdepaaDoorOwnSlotBackCardSaid4
import Derived.Test.YtbhnbhhlmfdepaaDoorRows
import Derived.Test.YtbhnbhhlmfdepaaDoorCards
import Derived.Test.YtbhnbhhlmfdepaaDoorTie
import Derived.SevenTiedAt
import Derived.ProofKit
import Derived.LaidMore
import Derived.Lay
import Derived.OpenShut
import Derived.Stop.Joined
set_option linter.unusedVariables false
set_option linter.unusedSimpArgs false
namespace Go.Proofs.YtbhnbhhlmfdepaaDoor
open Go Go.AE Go.Proofs.R5 Go.RowKit
theorem slotBackOwn : ownKnob Tryd.prog.godebug = none := by kernel_rfl
theorem slotBackLaid : laidOutB Tryd.prog = true := by kernel_rfl
theorem slotBackEv (x : TysT [.st (.pair (.int .i64) (.pair (.pair (.pair (.int .i64) (.int .i64)) .str) (.pair (.pair (.int .i64) (.int .i64)) .str))), .int .i64, .st (.pair (.int .u8) (.pair (.int .u8) (.pair (.int .u8) (.int .u8)))), .str]) (hw : TysWf _ x) :
    ∃ n H', fnE Tryd.tab envlaw21_SlotBack noHint 0 n 5 Tryd.f5.ntmps Tryd.f5.results.toList annlaw21_SlotBack blaw21_SlotBack (TysEnc _ x) [] (fun v H => some (v, H)) = some (.bool true, H') := by
  obtain ⟨⟨e, ⟨⟨a1, a2⟩, x⟩, ⟨b1, b2⟩, y⟩, j, ⟨c0, c1, c2, c3⟩, t, ⟨⟩⟩ := x
  exact ⟨70, [], (fnlaw21_SlotBack_ok (e, a1, a2, x, b1, b2, y, j, c0, c1, c2, c3, t) _).trans ((fnlaw21_SlotBack_nat (e, a1, a2, x, b1, b2, y, j, c0, c1, c2, c3, t) _).trans (by rw [SlotBack_true]; rfl))⟩
set_option maxRecDepth 100000 in
theorem slotBackContract (H : Type) (enc : TypeId × Value → H) (W : World) (base : Nat) (args : Array Value) (ds gs : List (DataW H)) (before : List MemPlace)
    (hval : ∀ (j : Nat) t v, Tryd.f5.params[j]? = some t → args[j]? = some v → Value.okWide Tryd.prog W .any base t v)
    (hW : DataW.Whole enc Tryd.prog Tryd.f5.params.toList Rows.slotBackSpec.vars false W args.toList ds gs before) :
    Calls Tryd.prog 5 args W fun e W' => ∃ v, e = .returned v ∧ Rows.slotBackSpec.post enc Tryd.prog Tryd.f5 false true false false W args v W' :=
  law_contract (hint := noHint) (d := 0) mixed tabOk envlaw21_SlotBackOk slotBackLaid Tryd.func5 (bodySome (by kernel_rfl)) (by kernel_rfl) (tb := 4) (by kernel_rfl) (by kernel_rfl)
    (ys := [.st (.pair (.int .i64) (.pair (.pair (.pair (.int .i64) (.int .i64)) .str) (.pair (.pair (.int .i64) (.int .i64)) .str))), .int .i64, .st (.pair (.int .u8) (.pair (.int .u8) (.pair (.int .u8) (.int .u8)))), .str]) (by kernel_rfl) annlaw21_SlotBack_ok slotBackEv (s := Rows.slotBackSpec) rfl
    (fun ds h => match ds, h with | [_, _, _, _], _ => rfl) hval hW
set_option maxRecDepth 100000 in
theorem slotBackLifted (os : Os) (started : os.Started) (H : Type) (enc : TypeId × Value → H) :
    ReturnsInHanded {} Tryd.checked os 5 .any (fun w args => (Rows.slotBackSpec.pre enc Tryd.prog Tryd.f5 Rows.slotBackRow.domain false w args ∧ laidMetH Tryd.prog Rows.slotBackRow.laid w) ∧ sizedMet enc Tryd.prog Tryd.f5 (OpenSpec.ofChange Rows.slotBackSpec) false w args)
      (Rows.slotBackSpec.post enc Tryd.prog Tryd.f5 false true false false) :=
  returnsInHanded_of_change_and (C := Tryd.checked) (X := fun w _ => laidMetH Tryd.prog Rows.slotBackRow.laid w) (fun _ _ _ hh h => h.of_heap hh) slotBackOwn started (by kernel_rfl) Tryd.func5
    (ChangeSpec.witness_shaped (enc := enc) (C := Tryd.checked) (os := os) (X := fun w _ => laidMetH Tryd.prog Rows.slotBackRow.laid w) false (World.laidAll Tryd.prog os Rows.slotBackRow.laid) #[.agg #[.int .i64 0, .int .i64 0, .int .i64 0, .string ⟨#[]⟩, .int .i64 0, .int .i64 0, .string ⟨#[]⟩], .int .i64 0, .agg #[.int .u8 0, .int .u8 0, .int .u8 0, .int .u8 0], .string ⟨#[]⟩] 8 (World.laidAll_os _ _ _) (World.shaped_of_ZipB (by kernel_rfl) (by kernel_rfl)) (by kernel_rfl) (by kernel_rfl) (by kernel_rfl)
      (by rw [MakeChecks.laidMetH_plain _ _ _ (by kernel_rfl)]; exact laidMet_laidAll _ (by kernel_rfl) (by kernel_rfl)))
    fun W base args ds gs before hval hW _ _ _ _ => slotBackContract H enc W base args ds gs before hval hW
theorem slotBack_holds : Rows.SlotBackSaid :=
  OpenClaim.holds_of_wide 5 Tryd.f5 rfl rfl rfl rfl rfl rfl rfl ⟨rfl, rfl, rfl, rfl, rfl⟩ rfl rfl rfl rfl rfl (by kernel_rfl) Tryd.func5 (by kernel_rfl)
    (of_decide_eq_true (by kernel_rfl)) (by unfold Func.isWrapper; first | (rw [if_pos (by decide +kernel)]; kernel_rfl) | (rw [if_neg (by decide +kernel)]; exact ⟨rfl, rfl⟩))
    (fun os started H enc _ => slotBackLifted os started H enc)
theorem slotBackCard_holds : Rows.SlotBackCardSaid :=
  Claim7.holds_tied_plain_at .later [] [.data, .pinned] true (true, "32ece68ce002c08a4214cab1deb9d587ca4f48670bb2681e7caed0fe8903e905") false
    slotBack_holds (fun _ h => by cases h) (by kernel_rfl) (fun _ h => by cases h) slotBack_row_tie rfl ⟨rfl, rfl⟩ (by kernel_rfl) rfl
    (fun f fn hf hfn => by
      obtain rfl : f = 5 := Option.some.inj ((show Tryd.prog.funcNamed "solder/solderlaw21.SlotBack" = some 5 by kernel_rfl).symm.trans hf) |>.symm
      obtain rfl : fn = Tryd.f5 := (Option.some.inj (Tryd.func5.symm.trans hfn)).symm
      exact ⟨by kernel_rfl, fun j t ht => by
        have hm : t ∈ Tryd.f5.params.toList := Array.mem_toList_iff.2 (Array.mem_of_getElem? ht)
        have hall : (Tryd.f5.params.toList.all fun u => !Tryd.prog.wantsStandIn u) = true := by kernel_rfl
        exact (show Tryd.prog.wantsStandIn t = false by simpa using List.all_eq_true.1 hall t hm)⟩)
    (by kernel_rfl)
#print axioms slotBackCard_holds
end Go.Proofs.YtbhnbhhlmfdepaaDoor
