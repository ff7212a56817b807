/- What the functions that SideNoneCardSaid reaches compute: part 8. -/
import Derived.Test.YtjgghofdajambaaGreatDoorOwnSideNoneCardSaid7
import Derived.Test.YtjgghofdajambaaGreatDoorRows
import Derived.Test.YtjgghofdajambaaGreatDoorCards
import Derived.Test.YtjgghofdajambaaGreatDoorTie
import Derived.SevenTiedAt
import Derived.ProofKit
import Derived.LaidMore
import Derived.LaidHandle
import Derived.LaidLaws
import Derived.Handed
import Derived.Lay
import Derived.OpenShut
import Derived.Stop.Joined
set_option linter.unusedVariables false
set_option linter.unusedSimpArgs false
namespace Go.Proofs.YtjgghofdajambaaGreatDoor
open Go Go.AE Go.Proofs.R7D Go.Proofs.R7 Go.RowKit
theorem sideNoneOwn : ownKnob Tryz.prog.godebug = none := by kernel_rfl
theorem sideNoneLaid : laidOutB Tryz.prog = true := by kernel_rfl
theorem sideNoneEv (x : TysT [.int .i64, .st (.pair (.int .i64) (.pair (.pair (.pair (.int .i64) (.int .i64)) .str) (.pair (.pair (.int .i64) (.int .i64)) .str)))]) (hw : TysWf _ x) :
    ∃ n H', fnE Tryz.tab envq21 noHint 0 n 13 Tryz.f13.ntmps Tryz.f13.results.toList annq21 bq21 (TysEnc _ x) [] (fun v H => some (v, H)) = some (.bool true, H') := by
  obtain ⟨n, ⟨e, ⟨⟨v1, v2⟩, s⟩, ⟨⟨w1, w2⟩, t⟩⟩, ⟨⟩⟩ := x
  exact ⟨70, [], (fnq21_ok (n, e, v1, v2, s, w1, w2, t) _).trans ((fnq21_nat (n, e, v1, v2, s, w1, w2, t) _).trans (by rw [SideNone_true]; rfl))⟩
set_option maxRecDepth 100000 in
theorem sideNoneContract (H : Type) (enc : TypeId × Value → H) (W : World) (base : Nat) (args : Array Value) (ds gs : List (DataW H)) (before : List MemPlace)
    (hval : ∀ (j : Nat) t v, Tryz.f13.params[j]? = some t → args[j]? = some v → Value.okWide Tryz.prog W .any base t v)
    (hW : DataW.Whole enc Tryz.prog Tryz.f13.params.toList Rows.sideNoneSpec.vars false W args.toList ds gs before) :
    Calls Tryz.prog 13 args W fun e W' => ∃ v, e = .returned v ∧ Rows.sideNoneSpec.post enc Tryz.prog Tryz.f13 false true false false W args v W' :=
  law_contract (hint := noHint) (d := 0) mixed tabOk envq21Ok sideNoneLaid Tryz.func13 (bodySome (by kernel_rfl)) (by kernel_rfl) (tb := 4) (by kernel_rfl) (by kernel_rfl)
    (ys := [.int .i64, .st (.pair (.int .i64) (.pair (.pair (.pair (.int .i64) (.int .i64)) .str) (.pair (.pair (.int .i64) (.int .i64)) .str)))]) (by kernel_rfl) annq21_ok sideNoneEv (s := Rows.sideNoneSpec) rfl
    (fun ds h => match ds, h with | [_, _], _ => rfl) hval hW
/-- A world in which the variable holds the handle of the type error, and the tables are laid. -/
noncomputable def sideNoneW0 (os : Os) : World :=
  let w0 := World.holding Tryz.prog os ⟨#[], #[], []⟩
  { w0 with heap := w0.heap.modify ((Tryz.prog.globalNamed "errors.errorType").getD 0) fun
      | .cells _ t frozen => .cells #[.iface 304 (.agg #[typeHandle Tryz.prog 156])] t frozen
      | o => o }
noncomputable def sideNoneWorld (os : Os) : World := (sideNoneW0 os).layVars Tryz.prog (Rows.sideNoneRow.laid.filter fun x => x.2.handleName?.isNone)
theorem sideNoneLayOn {P : Program} {w0 : World} {laid : List (String × DataW Unit)} (args : Array Value) (hf : w0.layFits P laid [] = true) (hi : w0.layIfaces P laid (w0.layVars P laid) = true) :
    laidMet P laid ((w0.layVars P laid).forCall (fun _ _ => 0) ⟨#[], args, []⟩).memory := by
  have e1 : (laid.filter fun x => (laid.map (·.1)).contains x.1) = laid := List.filter_eq_self.2 fun x hx => List.contains_iff_mem.2 (List.mem_map.2 ⟨x, hx, rfl⟩)
  have e2 : (laid.filter fun x => !(laid.map (·.1)).contains x.1) = [] := List.filter_eq_nil_iff.2 fun x hx => by rw [List.contains_iff_mem.2 (List.mem_map.2 ⟨x, hx, rfl⟩)]; simp
  have h : laidMet P laid (w0.layVars P laid) := laidMet_layVars (w0 := w0) (laid.map (·.1)) [] (by rw [e1]) (by rw [e1]; exact hf) (by rw [e1]; exact hi) (by rw [e2]; exact LaidIn.none)
  exact h.of_heap (by simp [World.memory, World.forCall, Input.heap])
theorem sideNoneWorld_met (os : Os) (args : Array Value) : laidMetH Tryz.prog Rows.sideNoneRow.laid ((sideNoneWorld os).forCall (fun _ _ => 0) ⟨#[], args, []⟩).memory :=
  laidMetH_of_parts (sideNoneLayOn args (by kernel_rfl) (by kernel_rfl)) (by kernel_rfl)
set_option maxRecDepth 100000 in
theorem sideNoneLifted (os : Os) (started : os.Started) (H : Type) (enc : TypeId × Value → H) :
    ReturnsInHanded {} Tryz.checked os 13 .any (fun w args => (Rows.sideNoneSpec.pre enc Tryz.prog Tryz.f13 Rows.sideNoneRow.domain false w args ∧ laidMetH Tryz.prog Rows.sideNoneRow.laid w) ∧ sizedMet enc Tryz.prog Tryz.f13 (OpenSpec.ofChange Rows.sideNoneSpec) false w args)
      (Rows.sideNoneSpec.post enc Tryz.prog Tryz.f13 false true false false) :=
  returnsInHanded_of_change_and (C := Tryz.checked) (X := fun w _ => laidMetH Tryz.prog Rows.sideNoneRow.laid w) (fun _ _ _ hh h => h.of_heap hh) sideNoneOwn started (by kernel_rfl) Tryz.func13
    (ChangeSpec.witness_shaped (enc := enc) (C := Tryz.checked) (os := os) (X := fun w _ => laidMetH Tryz.prog Rows.sideNoneRow.laid w) false (sideNoneWorld os) #[.int .i64 0, .agg #[.int .i64 0, .int .i64 0, .int .i64 0, .string ⟨#[]⟩, .int .i64 0, .int .i64 0, .string ⟨#[]⟩]] 8 ((World.layVars_os _ _ _).trans rfl) (World.shaped_of_ZipB (by kernel_rfl) (by kernel_rfl)) (by kernel_rfl) (by kernel_rfl) (by kernel_rfl) (sideNoneWorld_met os _))
    fun W base args ds gs before hval hW _ _ _ _ => sideNoneContract H enc W base args ds gs before hval hW
theorem sideNone_holds : Rows.SideNoneSaid :=
  OpenClaim.holds_of_wide 13 Tryz.f13 rfl rfl rfl rfl rfl rfl rfl ⟨rfl, rfl, rfl, rfl, rfl⟩ rfl rfl rfl rfl rfl (by kernel_rfl) Tryz.func13 sideNoneFacts
    (of_decide_eq_true (by kernel_rfl)) (by unfold Func.isWrapper; first | (rw [if_pos (by decide +kernel)]; kernel_rfl) | (rw [if_neg (by decide +kernel)]; exact ⟨rfl, rfl⟩))
    (fun os started H enc _ => sideNoneLifted os started H enc)
end Go.Proofs.YtjgghofdajambaaGreatDoor
