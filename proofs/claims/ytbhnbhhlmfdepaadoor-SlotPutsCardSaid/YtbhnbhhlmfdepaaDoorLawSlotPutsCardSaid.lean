/- Any two versions as sectors, or what is wrong, are as the chapter says: SlotPuts returns true at every input. No condition but what is laid. -/
import Derived.Test.YtbhnbhhlmfdepaaDoorOwnSlotPutsCardSaid3
import Derived.Test.YtbhnbhhlmfdepaaDoorRows
import Derived.Test.YtbhnbhhlmfdepaaDoorCards
import Derived.Test.YtbhnbhhlmfdepaaDoorTie
import Derived.SevenTiedAt
import Derived.ProofKit
import Derived.LaidMore
import Derived.Lay
import Derived.OpenShut
import Derived.Stop.Joined
set_option linter.unusedVariables false
set_option linter.unusedSimpArgs false
namespace Go.Proofs.YtbhnbhhlmfdepaaDoor
open Go Go.AE Go.Proofs.R5 Go.RowKit
theorem slotPutsOwn : ownKnob Tryd.prog.godebug = none := by kernel_rfl
theorem slotPutsLaid : laidOutB Tryd.prog = true := by kernel_rfl
theorem slotPutsEv (x : TysT [.st (.pair (.int .i64) (.pair (.pair (.pair (.int .i64) (.int .i64)) .str) (.pair (.pair (.int .i64) (.int .i64)) .str)))]) (hw : TysWf _ x) :
    ∃ n H', fnE Tryd.tab envlaw21_SlotPuts noHint 0 n 3 Tryd.f3.ntmps Tryd.f3.results.toList annlaw21_SlotPuts blaw21_SlotPuts (TysEnc _ x) [] (fun v H => some (v, H)) = some (.bool true, H') := by
  obtain ⟨⟨e, ⟨⟨a1, a2⟩, x⟩, ⟨b1, b2⟩, y⟩, ⟨⟩⟩ := x
  exact ⟨70, [], (fnlaw21_SlotPuts_ok (e, a1, a2, x, b1, b2, y) _).trans ((fnlaw21_SlotPuts_nat (e, a1, a2, x, b1, b2, y) _).trans (by rw [SlotPuts_true]; rfl))⟩
set_option maxRecDepth 100000 in
theorem slotPutsContract (H : Type) (enc : TypeId × Value → H) (W : World) (base : Nat) (args : Array Value) (ds gs : List (DataW H)) (before : List MemPlace)
    (hval : ∀ (j : Nat) t v, Tryd.f3.params[j]? = some t → args[j]? = some v → Value.okWide Tryd.prog W .any base t v)
    (hW : DataW.Whole enc Tryd.prog Tryd.f3.params.toList Rows.slotPutsSpec.vars false W args.toList ds gs before) :
    Calls Tryd.prog 3 args W fun e W' => ∃ v, e = .returned v ∧ Rows.slotPutsSpec.post enc Tryd.prog Tryd.f3 false true false false W args v W' :=
  law_contract (hint := noHint) (d := 0) mixed tabOk envlaw21_SlotPutsOk slotPutsLaid Tryd.func3 (bodySome (by kernel_rfl)) (by kernel_rfl) (tb := 4) (by kernel_rfl) (by kernel_rfl)
    (ys := [.st (.pair (.int .i64) (.pair (.pair (.pair (.int .i64) (.int .i64)) .str) (.pair (.pair (.int .i64) (.int .i64)) .str)))]) (by kernel_rfl) annlaw21_SlotPuts_ok slotPutsEv (s := Rows.slotPutsSpec) rfl
    (fun ds h => match ds, h with | [_], _ => rfl) hval hW
set_option maxRecDepth 100000 in
theorem slotPutsLifted (os : Os) (started : os.Started) (H : Type) (enc : TypeId × Value → H) :
    ReturnsInHanded {} Tryd.checked os 3 .any (fun w args => (Rows.slotPutsSpec.pre enc Tryd.prog Tryd.f3 Rows.slotPutsRow.domain false w args ∧ laidMetH Tryd.prog Rows.slotPutsRow.laid w) ∧ sizedMet enc Tryd.prog Tryd.f3 (OpenSpec.ofChange Rows.slotPutsSpec) false w args)
      (Rows.slotPutsSpec.post enc Tryd.prog Tryd.f3 false true false false) :=
  returnsInHanded_of_change_and (C := Tryd.checked) (X := fun w _ => laidMetH Tryd.prog Rows.slotPutsRow.laid w) (fun _ _ _ hh h => h.of_heap hh) slotPutsOwn started (by kernel_rfl) Tryd.func3
    (ChangeSpec.witness_shaped (enc := enc) (C := Tryd.checked) (os := os) (X := fun w _ => laidMetH Tryd.prog Rows.slotPutsRow.laid w) false (World.laidAll Tryd.prog os Rows.slotPutsRow.laid) #[.agg #[.int .i64 0, .int .i64 0, .int .i64 0, .string ⟨#[]⟩, .int .i64 0, .int .i64 0, .string ⟨#[]⟩]] 8 (World.laidAll_os _ _ _) (World.shaped_of_ZipB (by kernel_rfl) (by kernel_rfl)) (by kernel_rfl) (by kernel_rfl) (by kernel_rfl)
      (by rw [MakeChecks.laidMetH_plain _ _ _ (by kernel_rfl)]; exact laidMet_laidAll _ (by kernel_rfl) (by kernel_rfl)))
    fun W base args ds gs before hval hW _ _ _ _ => slotPutsContract H enc W base args ds gs before hval hW
theorem slotPuts_holds : Rows.SlotPutsSaid :=
  OpenClaim.holds_of_wide 3 Tryd.f3 rfl rfl rfl rfl rfl rfl rfl ⟨rfl, rfl, rfl, rfl, rfl⟩ rfl rfl rfl rfl rfl (by kernel_rfl) Tryd.func3 (by kernel_rfl)
    (of_decide_eq_true (by kernel_rfl)) (by unfold Func.isWrapper; first | (rw [if_pos (by decide +kernel)]; kernel_rfl) | (rw [if_neg (by decide +kernel)]; exact ⟨rfl, rfl⟩))
    (fun os started H enc _ => slotPutsLifted os started H enc)
theorem slotPutsCard_holds : Rows.SlotPutsCardSaid :=
  Claim7.holds_tied_plain_at .later [] [.data, .pinned] true (true, "32ece68ce002c08a4214cab1deb9d587ca4f48670bb2681e7caed0fe8903e905") false
    slotPuts_holds (fun _ h => by cases h) (by kernel_rfl) (fun _ h => by cases h) slotPuts_row_tie rfl ⟨rfl, rfl⟩ (by kernel_rfl) rfl
    (fun f fn hf hfn => by
      obtain rfl : f = 3 := Option.some.inj ((show Tryd.prog.funcNamed "solder/solderlaw21.SlotPuts" = some 3 by kernel_rfl).symm.trans hf) |>.symm
      obtain rfl : fn = Tryd.f3 := (Option.some.inj (Tryd.func3.symm.trans hfn)).symm
      exact ⟨by kernel_rfl, fun j t ht => by
        have hm : t ∈ Tryd.f3.params.toList := Array.mem_toList_iff.2 (Array.mem_of_getElem? ht)
        have hall : (Tryd.f3.params.toList.all fun u => !Tryd.prog.wantsStandIn u) = true := by kernel_rfl
        exact (show Tryd.prog.wantsStandIn t = false by simpa using List.all_eq_true.1 hall t hm)⟩)
    (by kernel_rfl)
#print axioms slotPutsCard_holds
end Go.Proofs.YtbhnbhhlmfdepaaDoor
