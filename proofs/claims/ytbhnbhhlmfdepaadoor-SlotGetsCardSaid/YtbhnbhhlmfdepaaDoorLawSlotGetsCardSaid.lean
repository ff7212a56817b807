/- The versions that any bytes say, that there are none, or what is wrong, are as the chapter says: SlotGets returns true at every input. No condition but what is laid. -/
import Derived.Test.YtbhnbhhlmfdepaaDoorOwnSlotGetsCardSaid3
import Derived.Test.YtbhnbhhlmfdepaaDoorRows
import Derived.Test.YtbhnbhhlmfdepaaDoorCards
import Derived.Test.YtbhnbhhlmfdepaaDoorTie
import Derived.SevenTiedAt
import Derived.ProofKit
import Derived.LaidMore
import Derived.Lay
import Derived.OpenShut
import Derived.Stop.Joined
set_option linter.unusedVariables false
set_option linter.unusedSimpArgs false
namespace Go.Proofs.YtbhnbhhlmfdepaaDoor
open Go Go.AE Go.Proofs.R5 Go.RowKit
theorem slotGetsOwn : ownKnob Tryd.prog.godebug = none := by kernel_rfl
theorem slotGetsLaid : laidOutB Tryd.prog = true := by kernel_rfl
theorem slotGetsEv (x : TysT [.str]) (hw : TysWf _ x) :
    ∃ n H', fnE Tryd.tab envlaw21_SlotGets noHint 0 n 4 Tryd.f4.ntmps Tryd.f4.results.toList annlaw21_SlotGets blaw21_SlotGets (TysEnc _ x) [] (fun v H => some (v, H)) = some (.bool true, H') := by
  obtain ⟨s, ⟨⟩⟩ := x
  exact ⟨70, [], (fnlaw21_SlotGets_ok s _).trans ((fnlaw21_SlotGets_nat s _).trans (by rw [SlotGets_true]; rfl))⟩
set_option maxRecDepth 100000 in
theorem slotGetsContract (H : Type) (enc : TypeId × Value → H) (W : World) (base : Nat) (args : Array Value) (ds gs : List (DataW H)) (before : List MemPlace)
    (hval : ∀ (j : Nat) t v, Tryd.f4.params[j]? = some t → args[j]? = some v → Value.okWide Tryd.prog W .any base t v)
    (hW : DataW.Whole enc Tryd.prog Tryd.f4.params.toList Rows.slotGetsSpec.vars false W args.toList ds gs before) :
    Calls Tryd.prog 4 args W fun e W' => ∃ v, e = .returned v ∧ Rows.slotGetsSpec.post enc Tryd.prog Tryd.f4 false true false false W args v W' :=
  law_contract (hint := noHint) (d := 0) mixed tabOk envlaw21_SlotGetsOk slotGetsLaid Tryd.func4 (bodySome (by kernel_rfl)) (by kernel_rfl) (tb := 4) (by kernel_rfl) (by kernel_rfl)
    (ys := [.str]) (by kernel_rfl) annlaw21_SlotGets_ok slotGetsEv (s := Rows.slotGetsSpec) rfl
    (fun ds h => match ds, h with | [_], _ => rfl) hval hW
set_option maxRecDepth 100000 in
theorem slotGetsLifted (os : Os) (started : os.Started) (H : Type) (enc : TypeId × Value → H) :
    ReturnsInHanded {} Tryd.checked os 4 .any (fun w args => (Rows.slotGetsSpec.pre enc Tryd.prog Tryd.f4 Rows.slotGetsRow.domain false w args ∧ laidMetH Tryd.prog Rows.slotGetsRow.laid w) ∧ sizedMet enc Tryd.prog Tryd.f4 (OpenSpec.ofChange Rows.slotGetsSpec) false w args)
      (Rows.slotGetsSpec.post enc Tryd.prog Tryd.f4 false true false false) :=
  returnsInHanded_of_change_and (C := Tryd.checked) (X := fun w _ => laidMetH Tryd.prog Rows.slotGetsRow.laid w) (fun _ _ _ hh h => h.of_heap hh) slotGetsOwn started (by kernel_rfl) Tryd.func4
    (ChangeSpec.witness_shaped (enc := enc) (C := Tryd.checked) (os := os) (X := fun w _ => laidMetH Tryd.prog Rows.slotGetsRow.laid w) false (World.laidAll Tryd.prog os Rows.slotGetsRow.laid) #[.string ⟨#[]⟩] 8 (World.laidAll_os _ _ _) (World.shaped_of_ZipB (by kernel_rfl) (by kernel_rfl)) (by kernel_rfl) (by kernel_rfl) (by kernel_rfl)
      (by rw [MakeChecks.laidMetH_plain _ _ _ (by kernel_rfl)]; exact laidMet_laidAll _ (by kernel_rfl) (by kernel_rfl)))
    fun W base args ds gs before hval hW _ _ _ _ => slotGetsContract H enc W base args ds gs before hval hW
theorem slotGets_holds : Rows.SlotGetsSaid :=
  OpenClaim.holds_of_wide 4 Tryd.f4 rfl rfl rfl rfl rfl rfl rfl ⟨rfl, rfl, rfl, rfl, rfl⟩ rfl rfl rfl rfl rfl (by kernel_rfl) Tryd.func4 (by kernel_rfl)
    (of_decide_eq_true (by kernel_rfl)) (by unfold Func.isWrapper; first | (rw [if_pos (by decide +kernel)]; kernel_rfl) | (rw [if_neg (by decide +kernel)]; exact ⟨rfl, rfl⟩))
    (fun os started H enc _ => slotGetsLifted os started H enc)
theorem slotGetsCard_holds : Rows.SlotGetsCardSaid :=
  Claim7.holds_tied_plain_at .later [] [.data, .pinned] true (true, "32ece68ce002c08a4214cab1deb9d587ca4f48670bb2681e7caed0fe8903e905") false
    slotGets_holds (fun _ h => by cases h) (by kernel_rfl) (fun _ h => by cases h) slotGets_row_tie rfl ⟨rfl, rfl⟩ (by kernel_rfl) rfl
    (fun f fn hf hfn => by
      obtain rfl : f = 4 := Option.some.inj ((show Tryd.prog.funcNamed "solder/solderlaw21.SlotGets" = some 4 by kernel_rfl).symm.trans hf) |>.symm
      obtain rfl : fn = Tryd.f4 := (Option.some.inj (Tryd.func4.symm.trans hfn)).symm
      exact ⟨by kernel_rfl, fun j t ht => by
        have hm : t ∈ Tryd.f4.params.toList := Array.mem_toList_iff.2 (Array.mem_of_getElem? ht)
        have hall : (Tryd.f4.params.toList.all fun u => !Tryd.prog.wantsStandIn u) = true := by kernel_rfl
        exact (show Tryd.prog.wantsStandIn t = false by simpa using List.all_eq_true.1 hall t hm)⟩)
    (by kernel_rfl)
#print axioms slotGetsCard_holds
end Go.Proofs.YtbhnbhhlmfdepaaDoor
