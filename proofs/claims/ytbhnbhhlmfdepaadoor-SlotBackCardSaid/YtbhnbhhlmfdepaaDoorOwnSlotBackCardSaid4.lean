/- What the functions that SlotBackCardSaid reaches compute: part 4. -/
import Derived.Test.YtbhnbhhlmfdepaaDoorOwnSlotBackCardSaid3
set_option linter.unusedVariables false
set_option linter.unusedSimpArgs false
namespace Go.Proofs.R5
open Go Go.AE
--@ ref21_Get
noncomputable def envref21_Get : Env := [(19, .pure Fref03_Tail), (8, .pure Fref21_Put), (29, .pure Fref21_number)]
theorem envref21_GetOk : EnvOk Tryd.prog envref21_Get := EnvOk.cons Fref03_Tail_ok (EnvOk.cons Fref21_Put_ok (EnvOk.cons Fref21_number_ok (EnvOk.nil)))
noncomputable def bref21_Get : Code := Tryd.f12.body.getD .skip
noncomputable def Lref21_Get_n0 : Code := codeAt [1, 1, 1, 1, 1, 1, 1, 0, 0] bref21_Get
noncomputable def annLref21_Get_n0 : Ann := .none
theorem annLref21_Get_n0_ok : AnnOk Tryd.prog 83 Lref21_Get_n0 annLref21_Get_n0 := (annOk_none _ _ _)
abbrev Iref21_Get_n0 := (List UInt8) × (List UInt8) × (Int) × (Int) × (Int) × (Int) × (List UInt8) × (Int) × (Int) × (List UInt8)
abbrev Yref21_Get_n0 := (Bool)
def Sref21_Get_n0 : Iref21_Get_n0 → St := fun (t0, t7, t8, o2_0, o2_1, o2_2, o2_3, o2_4, o2_5, o2_6) => { env := [(0, AV.str t0), (2, AV.ptr 0 0), (5, AV.ptr 1 0), (6, AV.ptr 2 0), (7, AV.str t7), (8, AV.int IntKind.i64 t8)], stk := [[]], H := [AE.Obj.cells [AV.int IntKind.i64 (0), AV.int IntKind.i64 (0), AV.int IntKind.i64 (0), AV.str ([]), AV.int IntKind.i64 (0), AV.int IntKind.i64 (0), AV.str ([])], AE.Obj.cells [AV.int IntKind.i64 (0), AV.int IntKind.i64 (0), AV.int IntKind.i64 (0), AV.str ([]), AV.int IntKind.i64 (0), AV.int IntKind.i64 (0), AV.str ([])], AE.Obj.cells [AV.int IntKind.i64 o2_0, AV.int IntKind.i64 o2_1, AV.int IntKind.i64 o2_2, AV.str o2_3, AV.int IntKind.i64 o2_4, AV.int IntKind.i64 o2_5, AV.str o2_6]], blk := 49152 }
def decref21_Get_n0 (s : St) : Option Iref21_Get_n0 := match s with
  | { env := [(0, AV.str t0), (2, AV.ptr 0 0), (5, AV.ptr 1 0), (6, AV.ptr 2 0), (7, AV.str t7), (8, AV.int IntKind.i64 t8)], stk := [[]], H := [AE.Obj.cells [AV.int IntKind.i64 r3, AV.int IntKind.i64 r4, AV.int IntKind.i64 r5, AV.str r6, AV.int IntKind.i64 r7, AV.int IntKind.i64 r8, AV.str r9], AE.Obj.cells [AV.int IntKind.i64 r10, AV.int IntKind.i64 r11, AV.int IntKind.i64 r12, AV.str r13, AV.int IntKind.i64 r14, AV.int IntKind.i64 r15, AV.str r16], AE.Obj.cells [AV.int IntKind.i64 o2_0, AV.int IntKind.i64 o2_1, AV.int IntKind.i64 o2_2, AV.str o2_3, AV.int IntKind.i64 o2_4, AV.int IntKind.i64 o2_5, AV.str o2_6]], blk := 49152 } => cond (decide (r3 = 0) && decide (r4 = 0) && decide (r5 = 0) && decide (r6 = []) && decide (r7 = 0) && decide (r8 = 0) && decide (r9 = []) && decide (r10 = 0) && decide (r11 = 0) && decide (r12 = 0) && decide (r13 = []) && decide (r14 = 0) && decide (r15 = 0) && decide (r16 = [])) (some (t0, t7, t8, o2_0, o2_1, o2_2, o2_3, o2_4, o2_5, o2_6)) none
  | _ => none
theorem decref21_Get_n0_ok (s : St) (x : Iref21_Get_n0) (h : decref21_Get_n0 s = some x) : s = Sref21_Get_n0 x := by
  unfold decref21_Get_n0 at h
  split at h
  · replace h := cond_noneO h; obtain ⟨hg, h⟩ := h; simp only [Bool.and_eq_true, decide_eq_true_eq] at hg; simp only [hg]; cases h; rfl
  · cases h
def outref21_Get_n0 : Iref21_Get_n0 → (Ex → St → Ans) → Yref21_Get_n0 → Ans := fun (t0, t7, t8, o2_0, o2_1, o2_2, o2_3, o2_4, o2_5, o2_6) K => fun t80_y => K (Ex.norm) { env := [(2, AV.ptr 0 0), (5, AV.ptr 1 0), (6, AV.ptr 2 0), (80, AV.bool t80_y)], stk := [[]], H := [AE.Obj.cells [AV.int IntKind.i64 (0), AV.int IntKind.i64 (0), AV.int IntKind.i64 (0), AV.str ([]), AV.int IntKind.i64 (0), AV.int IntKind.i64 (0), AV.str ([])], AE.Obj.cells [AV.int IntKind.i64 (0), AV.int IntKind.i64 (0), AV.int IntKind.i64 (0), AV.str ([]), AV.int IntKind.i64 (0), AV.int IntKind.i64 (0), AV.str ([])], AE.Obj.cells [AV.int IntKind.i64 o2_0, AV.int IntKind.i64 o2_1, AV.int IntKind.i64 o2_2, AV.str o2_3, AV.int IntKind.i64 o2_4, AV.int IntKind.i64 o2_5, AV.str o2_6]], blk := 49152 }
noncomputable def noderef21_Get_n0 {β : Type} : Iref21_Get_n0 → (Yref21_Get_n0 → Option β) → Option β := fun (t0, t7, t8, o2_0, o2_1, o2_2, o2_3, o2_4, o2_5, o2_6) exit => (bif t8 != (0 : Int) then (exit (true)) else (exit (!t7 == t0)))
noncomputable def nodeDref21_Get_n0 (i : Iref21_Get_n0) : Option Yref21_Get_n0 := noderef21_Get_n0 i some
theorem noderef21_Get_n0_nat (i : Iref21_Get_n0) (k : Yref21_Get_n0 → Ans) : noderef21_Get_n0 i k = bindO (nodeDref21_Get_n0 i) k := by
  obtain ⟨t0, t7, t8, o2_0, o2_1, o2_2, o2_3, o2_4, o2_5, o2_6⟩ := i
  simp only [nodeDref21_Get_n0, noderef21_Get_n0, bindO_cond, bindO_assoc, bindO_none, bindO_pure, bindO_elim, bindO_unP]
theorem noderef21_Get_n0_ok (i : Iref21_Get_n0) (K : Ex → St → Ans) : codeI Tryd.tab envref21_Get noHint (codeD Tryd.tab envref21_Get noHint 0 64) 70 83 annLref21_Get_n0 Lref21_Get_n0 (weakP 0 (exk [2, 5, 6, 80] [2, 3, 4] []) K) (Sref21_Get_n0 i) = noderef21_Get_n0 i (outref21_Get_n0 i K) := by kernel_rfl
theorem GNref21_Get_n0_ok : CSum Tryd.prog 83 Lref21_Get_n0 (sumN decref21_Get_n0 nodeDref21_Get_n0 outref21_Get_n0) := csum_node mixed tabOk envref21_GetOk 0 (exk [2, 5, 6, 80] [2, 3, 4] []) annLref21_Get_n0_ok decref21_Get_n0_ok noderef21_Get_n0_ok noderef21_Get_n0_nat
noncomputable def Gref21_Get_n0 : (Ex → St → Ans) → St → Ans := (sumN decref21_Get_n0 nodeDref21_Get_n0 outref21_Get_n0)
theorem Gref21_Get_n0_ok : CSum Tryd.prog 83 Lref21_Get_n0 Gref21_Get_n0 := GNref21_Get_n0_ok
noncomputable def annref21_Get : Ann := (.seq .none (.seq .none (.seq .none (.seq .none (.seq .none (.seq .none (.seq .none (.seq (.seq (.cut 0 [0, 2, 5, 6, 7, 8] Gref21_Get_n0) .none) .none))))))))
theorem annref21_Get_ok : AnnOk Tryd.prog 83 bref21_Get annref21_Get := ⟨(annOk_none _ _ _), ⟨(annOk_none _ _ _), ⟨(annOk_none _ _ _), ⟨(annOk_none _ _ _), ⟨(annOk_none _ _ _), ⟨(annOk_none _ _ _), ⟨(annOk_none _ _ _), ⟨⟨Gref21_Get_n0_ok, (annOk_none _ _ _)⟩, (annOk_none _ _ _)⟩⟩⟩⟩⟩⟩⟩⟩
abbrev Aref21_Get := (List UInt8)
abbrev Yref21_Get := (Int) × (Int) × (Int) × (List UInt8) × (Int) × (Int) × (List UInt8) × (Bool) × (Int)
noncomputable def fnref21_Get {β : Type} : Aref21_Get → (Yref21_Get → Option β) → Option β := fun a0 exit => (bif (↑(List.length a0) : Int) != (320 : Int) then (exit ((0 : Int), (0 : Int), (0 : Int), [], (0 : Int), (0 : Int), [], false, (12 : Int))) else (bif inR (64 : Int) (List.length a0 + (1 : Nat)) then (bif List.take (64 : Nat) a0 == [(0 : UInt8), (0 : UInt8), (0 : UInt8), (0 : UInt8), (0 : UInt8), (0 : UInt8), (0 : UInt8), (0 : UInt8), (0 : UInt8), (0 : UInt8), (0 : UInt8), (0 : UInt8), (0 : UInt8), (0 : UInt8), (0 : UInt8), (0 : UInt8), (0 : UInt8), (0 : UInt8), (0 : UInt8), (0 : UInt8), (0 : UInt8), (0 : UInt8), (0 : UInt8), (0 : UInt8), (0 : UInt8), (0 : UInt8), (0 : UInt8), (0 : UInt8), (0 : UInt8), (0 : UInt8), (0 : UInt8), (0 : UInt8), (0 : UInt8), (0 : UInt8), (0 : UInt8), (0 : UInt8), (0 : UInt8), (0 : UInt8), (0 : UInt8), (0 : UInt8), (0 : UInt8), (0 : UInt8), (0 : UInt8), (0 : UInt8), (0 : UInt8), (0 : UInt8), (0 : UInt8), (0 : UInt8), (0 : UInt8), (0 : UInt8), (0 : UInt8), (0 : UInt8), (0 : UInt8), (0 : UInt8), (0 : UInt8), (0 : UInt8), (0 : UInt8), (0 : UInt8), (0 : UInt8), (0 : UInt8), (0 : UInt8), (0 : UInt8), (0 : UInt8), (0 : UInt8)] then (exit ((0 : Int), (0 : Int), (0 : Int), [], (0 : Int), (0 : Int), [], false, (0 : Int))) else (bindO (nth a0 (0 : Int)) fun x => (bif (↑(UInt8.toNat x) : Int) != (81 : Int) then (exit ((0 : Int), (0 : Int), (0 : Int), [], (0 : Int), (0 : Int), [], false, (4 : Int))) else (bif inR (38 : Int) (List.length a0 + (1 : Nat)) && true then (bif inR (34 : Int) (List.length a0 + (1 : Nat)) then (bindO (fnDref03_Tail (List.take (34 : Nat) a0)) fun r => (bif !List.take ((38 : Nat) - (34 : Nat)) (List.drop (34 : Nat) a0) == r then (exit ((0 : Int), (0 : Int), (0 : Int), [], (0 : Int), (0 : Int), [], false, (5 : Int))) else (bif inR (34 : Int) (List.length a0 + (1 : Nat)) && true then (bif inR (64 : Int) (List.length a0 + (1 : Nat)) then (bindO (fnDref03_Tail (List.drop (64 : Nat) a0)) fun r_2 => (bif !List.take ((34 : Nat) - (30 : Nat)) (List.drop (30 : Nat) a0) == r_2 then (exit ((0 : Int), (0 : Int), (0 : Int), [], (0 : Int), (0 : Int), [], false, (5 : Int))) else (bindO (nth a0 (1 : Int)) fun x_2 => (bif inR (9 : Int) (List.length a0 + (1 : Nat)) && true then (bindO (fnDref21_number (List.take ((9 : Nat) - (2 : Nat)) (List.drop (2 : Nat) a0))) fun r_3 => (bif inR (16 : Int) (List.length a0 + (1 : Nat)) && true then (bindO (fnDref21_number (List.take ((16 : Nat) - (9 : Nat)) (List.drop (9 : Nat) a0))) fun r_4 => (bif inR (192 : Int) (List.length a0 + (1 : Nat)) && true then (bif inR (23 : Int) (List.length a0 + (1 : Nat)) && true then (bindO (fnDref21_number (List.take ((23 : Nat) - (16 : Nat)) (List.drop (16 : Nat) a0))) fun r_5 => (bif inR (30 : Int) (List.length a0 + (1 : Nat)) && true then (bindO (fnDref21_number (List.take ((30 : Nat) - (23 : Nat)) (List.drop (23 : Nat) a0))) fun r_6 => (bif inR (192 : Int) (List.length a0 + (1 : Nat)) then (bindO (fnDref21_Put (IntKind.wrap IntKind.i64 (↑(UInt8.toNat x_2) : Int), r_3, r_4, List.take ((192 : Nat) - (64 : Nat)) (List.drop (64 : Nat) a0), r_5, r_6, List.drop (192 : Nat) a0)) (unP fun r_0 r_1 => (bindO (nodeDref21_Get_n0 (a0, r_0, r_1, IntKind.wrap IntKind.i64 (↑(UInt8.toNat x_2) : Int), r_3, r_4, List.take ((192 : Nat) - (64 : Nat)) (List.drop (64 : Nat) a0), r_5, r_6, List.drop (192 : Nat) a0)) fun t80 => (bif t80 then (exit ((0 : Int), (0 : Int), (0 : Int), [], (0 : Int), (0 : Int), [], false, (4 : Int))) else (exit (IntKind.wrap IntKind.i64 (↑(UInt8.toNat x_2) : Int), r_3, r_4, List.take (128 : Nat) (List.drop (64 : Nat) a0), r_5, r_6, List.drop (192 : Nat) a0, true, (0 : Int))))))) else none)) else none)) else none) else none)) else none)) else none)))) else none) else none))) else none) else none)))) else none))
noncomputable def fnDref21_Get (a : Aref21_Get) : Option Yref21_Get := fnref21_Get a some
theorem fnref21_Get_nat (a : Aref21_Get) (k : Yref21_Get → Ans) : fnref21_Get a k = bindO (fnDref21_Get a) k := by
  obtain z := a
  simp only [fnDref21_Get, fnref21_Get, bindO_cond, bindO_assoc, bindO_none, bindO_pure, bindO_elim, bindO_unP]
def argsref21_Get : Aref21_Get → List AV := fun a0 => [AV.str a0]
def decAref21_Get (l : List AV) : Option Aref21_Get := match l with
  | [AV.str a0] => some (a0)
  | _ => none
theorem decAref21_Get_ok (l : List AV) (a : Aref21_Get) (h : decAref21_Get l = some a) : l = argsref21_Get a := by
  unfold decAref21_Get at h
  split at h
  · cases h; rfl
  · cases h
def rendref21_Get : Aref21_Get → Yref21_Get → AV := fun a0 => unP fun r_0_0_y => unP fun r_0_1_y => unP fun r_0_2_y => unP fun r_0_3_y => unP fun r_0_4_y => unP fun r_0_5_y => unP fun r_0_6_y => unP fun r_1_y r_2_y => AV.tup [AV.agg [AV.int IntKind.i64 r_0_0_y, AV.int IntKind.i64 r_0_1_y, AV.int IntKind.i64 r_0_2_y, AV.str r_0_3_y, AV.int IntKind.i64 r_0_4_y, AV.int IntKind.i64 r_0_5_y, AV.str r_0_6_y], AV.bool r_1_y, AV.int IntKind.i64 r_2_y]
theorem rendref21_Get_ok : ∀ (a : Aref21_Get) (y : Yref21_Get), (rendref21_Get a y).closed1 = true := by
  rintro z y <;> first | rfl | exact Empty.elim y
theorem fnref21_Get_ok (a : Aref21_Get) : fnE Tryd.tab envref21_Get noHint 0 70 12 Tryd.f12.ntmps Tryd.f12.results.toList annref21_Get bref21_Get (argsref21_Get a) [] (fun v _ => some (v, [])) = fnref21_Get a (fun y => some (rendref21_Get a y, [])) := by kernel_rfl
noncomputable def vFref21_Get (a : Aref21_Get) (K : AV → Ans) : Ans := bindO (fnDref21_Get a) fun y => K (rendref21_Get a y)
noncomputable def Fref21_Get : List AV → (AV → Ans) → Ans := fun l K => bindO (decAref21_Get l) fun a => vFref21_Get a K
theorem Fref21_Get_ok : PureOk Tryd.prog 12 Fref21_Get := pure_mkD (hint := noHint) (d := 0) (n := 70) mixed tabOk envref21_GetOk Tryd.func12 (bodySome (by kernel_rfl)) (by decide +kernel) annref21_Get_ok decAref21_Get_ok fnref21_Get_ok fnref21_Get_nat rendref21_Get_ok
--@ law21_SlotGets
noncomputable def envlaw21_SlotGets : Env := [(11, .pure Fslot_Get), (6, .pure Flaw21_works), (12, .pure Fref21_Get)]
theorem envlaw21_SlotGetsOk : EnvOk Tryd.prog envlaw21_SlotGets := EnvOk.cons Fslot_Get_ok (EnvOk.cons Flaw21_works_ok (EnvOk.cons Fref21_Get_ok (EnvOk.nil)))
noncomputable def blaw21_SlotGets : Code := Tryd.f4.body.getD .skip
noncomputable def Llaw21_SlotGets_n0 : Code := codeAt [1, 1, 1, 1, 1, 0] blaw21_SlotGets
noncomputable def annLlaw21_SlotGets_n0 : Ann := .none
theorem annLlaw21_SlotGets_n0_ok : AnnOk Tryd.prog 39 Llaw21_SlotGets_n0 annLlaw21_SlotGets_n0 := (annOk_none _ _ _)
abbrev Ilaw21_SlotGets_n0 := (Bool) × (Int) × (Bool) × (Int) × (Int) × (Int) × (Int) × (List UInt8) × (Int) × (Int) × (List UInt8) × (Int) × (Int) × (Int) × (List UInt8) × (Int) × (Int) × (List UInt8)
abbrev Ylaw21_SlotGets_n0 := (Bool)
def Slaw21_SlotGets_n0 : Ilaw21_SlotGets_n0 → St := fun (t4, t5, t7, t8, o0_0, o0_1, o0_2, o0_3, o0_4, o0_5, o0_6, o1_0, o1_1, o1_2, o1_3, o1_4, o1_5, o1_6) => { env := [(3, AV.ptr 0 0), (4, AV.bool t4), (5, AV.int IntKind.i64 t5), (6, AV.ptr 1 0), (7, AV.bool t7), (8, AV.int IntKind.i64 t8)], stk := [[]], H := [AE.Obj.cells [AV.int IntKind.i64 o0_0, AV.int IntKind.i64 o0_1, AV.int IntKind.i64 o0_2, AV.str o0_3, AV.int IntKind.i64 o0_4, AV.int IntKind.i64 o0_5, AV.str o0_6], AE.Obj.cells [AV.int IntKind.i64 o1_0, AV.int IntKind.i64 o1_1, AV.int IntKind.i64 o1_2, AV.str o1_3, AV.int IntKind.i64 o1_4, AV.int IntKind.i64 o1_5, AV.str o1_6]], blk := 16384 }
def declaw21_SlotGets_n0 (s : St) : Option Ilaw21_SlotGets_n0 := match s with
  | { env := [(3, AV.ptr 0 0), (4, AV.bool t4), (5, AV.int IntKind.i64 t5), (6, AV.ptr 1 0), (7, AV.bool t7), (8, AV.int IntKind.i64 t8)], stk := [[]], H := [AE.Obj.cells [AV.int IntKind.i64 o0_0, AV.int IntKind.i64 o0_1, AV.int IntKind.i64 o0_2, AV.str o0_3, AV.int IntKind.i64 o0_4, AV.int IntKind.i64 o0_5, AV.str o0_6], AE.Obj.cells [AV.int IntKind.i64 o1_0, AV.int IntKind.i64 o1_1, AV.int IntKind.i64 o1_2, AV.str o1_3, AV.int IntKind.i64 o1_4, AV.int IntKind.i64 o1_5, AV.str o1_6]], blk := 16384 } => some (t4, t5, t7, t8, o0_0, o0_1, o0_2, o0_3, o0_4, o0_5, o0_6, o1_0, o1_1, o1_2, o1_3, o1_4, o1_5, o1_6)
  | _ => none
theorem declaw21_SlotGets_n0_ok (s : St) (x : Ilaw21_SlotGets_n0) (h : declaw21_SlotGets_n0 s = some x) : s = Slaw21_SlotGets_n0 x := by
  unfold declaw21_SlotGets_n0 at h
  split at h
  · cases h; rfl
  · cases h
def outlaw21_SlotGets_n0 : Ilaw21_SlotGets_n0 → (Ex → St → Ans) → Ylaw21_SlotGets_n0 → Ans := fun (t4, t5, t7, t8, o0_0, o0_1, o0_2, o0_3, o0_4, o0_5, o0_6, o1_0, o1_1, o1_2, o1_3, o1_4, o1_5, o1_6) K => fun t2_y => K (Ex.norm) { env := [(2, AV.bool t2_y)], stk := [[]], H := [], blk := 16384 }
noncomputable def nodelaw21_SlotGets_n0 {β : Type} : Ilaw21_SlotGets_n0 → (Ylaw21_SlotGets_n0 → Option β) → Option β := fun (t4, t5, t7, t8, o0_0, o0_1, o0_2, o0_3, o0_4, o0_5, o0_6, o1_0, o1_1, o1_2, o1_3, o1_4, o1_5, o1_6) exit => (bif o0_0 == o1_0 && (o0_1 == o1_1 && (o0_2 == o1_2 && true) && (o0_3 == o1_3 && true) && (o0_4 == o1_4 && (o0_5 == o1_5 && true) && (o0_6 == o1_6 && true) && true)) then (bif t4 == t7 then (exit (t5 == t8)) else (exit (false))) else (exit (false)))
noncomputable def nodeDlaw21_SlotGets_n0 (i : Ilaw21_SlotGets_n0) : Option Ylaw21_SlotGets_n0 := nodelaw21_SlotGets_n0 i some
theorem nodelaw21_SlotGets_n0_nat (i : Ilaw21_SlotGets_n0) (k : Ylaw21_SlotGets_n0 → Ans) : nodelaw21_SlotGets_n0 i k = bindO (nodeDlaw21_SlotGets_n0 i) k := by
  obtain ⟨t4, t5, t7, t8, o0_0, o0_1, o0_2, o0_3, o0_4, o0_5, o0_6, o1_0, o1_1, o1_2, o1_3, o1_4, o1_5, o1_6⟩ := i
  simp only [nodeDlaw21_SlotGets_n0, nodelaw21_SlotGets_n0, bindO_cond, bindO_assoc, bindO_none, bindO_pure, bindO_elim, bindO_unP]
theorem nodelaw21_SlotGets_n0_ok (i : Ilaw21_SlotGets_n0) (K : Ex → St → Ans) : codeI Tryd.tab envlaw21_SlotGets noHint (codeD Tryd.tab envlaw21_SlotGets noHint 0 64) 70 39 annLlaw21_SlotGets_n0 Llaw21_SlotGets_n0 (weakP 0 (exk [2] [2] []) K) (Slaw21_SlotGets_n0 i) = nodelaw21_SlotGets_n0 i (outlaw21_SlotGets_n0 i K) := by kernel_rfl
theorem GNlaw21_SlotGets_n0_ok : CSum Tryd.prog 39 Llaw21_SlotGets_n0 (sumN declaw21_SlotGets_n0 nodeDlaw21_SlotGets_n0 outlaw21_SlotGets_n0) := csum_node mixed tabOk envlaw21_SlotGetsOk 0 (exk [2] [2] []) annLlaw21_SlotGets_n0_ok declaw21_SlotGets_n0_ok nodelaw21_SlotGets_n0_ok nodelaw21_SlotGets_n0_nat
noncomputable def Glaw21_SlotGets_n0 : (Ex → St → Ans) → St → Ans := (sumN declaw21_SlotGets_n0 nodeDlaw21_SlotGets_n0 outlaw21_SlotGets_n0)
theorem Glaw21_SlotGets_n0_ok : CSum Tryd.prog 39 Llaw21_SlotGets_n0 Glaw21_SlotGets_n0 := GNlaw21_SlotGets_n0_ok
noncomputable def annlaw21_SlotGets : Ann := (.seq .none (.seq .none (.seq .none (.seq .none (.seq .none (.seq (.cut 0 [3, 4, 5, 6, 7, 8] Glaw21_SlotGets_n0) .none))))))
theorem annlaw21_SlotGets_ok : AnnOk Tryd.prog 39 blaw21_SlotGets annlaw21_SlotGets := ⟨(annOk_none _ _ _), ⟨(annOk_none _ _ _), ⟨(annOk_none _ _ _), ⟨(annOk_none _ _ _), ⟨(annOk_none _ _ _), ⟨Glaw21_SlotGets_n0_ok, (annOk_none _ _ _)⟩⟩⟩⟩⟩⟩
abbrev Alaw21_SlotGets := (List UInt8)
abbrev Ylaw21_SlotGets := (Bool)
noncomputable def fnlaw21_SlotGets {β : Type} : Alaw21_SlotGets → (Ylaw21_SlotGets → Option β) → Option β := fun a0 exit => (bindO (fnDlaw21_works ()) fun r => (bif !r then (exit (false)) else (bif decide ((↑(List.length a0) : Int) > (3000 : Int)) then (exit (true)) else (bindO (fnDslot_Get (a0)) (unP fun r_0_0 => unP fun r_0_1 => unP fun r_0_2 => unP fun r_0_3 => unP fun r_0_4 => unP fun r_0_5 => unP fun r_0_6 => unP fun r_1 r_2 => (bindO (fnDref21_Get (a0)) (unP fun r_0_0_2 => unP fun r_0_1_2 => unP fun r_0_2_2 => unP fun r_0_3_2 => unP fun r_0_4_2 => unP fun r_0_5_2 => unP fun r_0_6_2 => unP fun r_1_2 r_2_2 => (bindO (nodeDlaw21_SlotGets_n0 (r_1, r_2, r_1_2, r_2_2, r_0_0, r_0_1, r_0_2, r_0_3, r_0_4, r_0_5, r_0_6, r_0_0_2, r_0_1_2, r_0_2_2, r_0_3_2, r_0_4_2, r_0_5_2, r_0_6_2)) fun t2 => (exit (t2))))))))))
noncomputable def fnDlaw21_SlotGets (a : Alaw21_SlotGets) : Option Ylaw21_SlotGets := fnlaw21_SlotGets a some
theorem fnlaw21_SlotGets_nat (a : Alaw21_SlotGets) (k : Ylaw21_SlotGets → Ans) : fnlaw21_SlotGets a k = bindO (fnDlaw21_SlotGets a) k := by
  obtain z := a
  simp only [fnDlaw21_SlotGets, fnlaw21_SlotGets, bindO_cond, bindO_assoc, bindO_none, bindO_pure, bindO_elim, bindO_unP]
def argslaw21_SlotGets : Alaw21_SlotGets → List AV × List AE.Obj := fun a0 => ([AV.str a0], [])
def decAlaw21_SlotGets (l : List AV) (H : List AE.Obj) : Option Alaw21_SlotGets := match l, H with
  | [AV.str a0], [] => some (a0)
  | _, _ => none
theorem decAlaw21_SlotGets_ok (l : List AV) (H : List AE.Obj) (a : Alaw21_SlotGets) (h : decAlaw21_SlotGets l H = some a) : (l, H) = argslaw21_SlotGets a := by
  unfold decAlaw21_SlotGets at h
  split at h
  · cases h; rfl
  · cases h
def outlaw21_SlotGets : Alaw21_SlotGets → (AV → List AE.Obj → Ans) → Ylaw21_SlotGets → Ans := fun a0 K => fun r_y => K (AV.bool r_y) []
theorem fnlaw21_SlotGets_ok (a : Alaw21_SlotGets) (K : AV → List AE.Obj → Ans) : fnE Tryd.tab envlaw21_SlotGets noHint 0 70 4 Tryd.f4.ntmps Tryd.f4.results.toList annlaw21_SlotGets blaw21_SlotGets (argslaw21_SlotGets a).1 (argslaw21_SlotGets a).2 K = fnlaw21_SlotGets a (outlaw21_SlotGets a K) := by kernel_rfl
noncomputable def vFlaw21_SlotGets (a : Alaw21_SlotGets) (K : AV → List AE.Obj → Ans) : Ans := bindO (fnDlaw21_SlotGets a) fun y => outlaw21_SlotGets a K y
noncomputable def Flaw21_SlotGets : List AV → List AE.Obj → (AV → List AE.Obj → Ans) → Ans := fun l H K => bindO (decAlaw21_SlotGets l H) fun a => vFlaw21_SlotGets a K
theorem Flaw21_SlotGets_ok : FuncOk Tryd.prog 4 Flaw21_SlotGets := func_mkD (hint := noHint) (d := 0) (n := 70) mixed tabOk envlaw21_SlotGetsOk Tryd.func4 (bodySome (by kernel_rfl)) (by decide +kernel) annlaw21_SlotGets_ok decAlaw21_SlotGets_ok fnlaw21_SlotGets_ok fnlaw21_SlotGets_nat
--@ law21_SlotBack
noncomputable def envlaw21_SlotBack : Env := [(7, .pure Fslot_Put), (11, .pure Fslot_Get), (6, .pure Flaw21_works)]
theorem envlaw21_SlotBackOk : EnvOk Tryd.prog envlaw21_SlotBack := EnvOk.cons Fslot_Put_ok (EnvOk.cons Fslot_Get_ok (EnvOk.cons Flaw21_works_ok (EnvOk.nil)))
noncomputable def blaw21_SlotBack : Code := Tryd.f5.body.getD .skip
noncomputable def Llaw21_SlotBack_n8 : Code := codeAt [1, 1, 1, 1, 1, 1, 1, 1, 1, 1, 1, 1, 0] blaw21_SlotBack
noncomputable def annLlaw21_SlotBack_n8 : Ann := .none
theorem annLlaw21_SlotBack_n8_ok : AnnOk Tryd.prog 157 Llaw21_SlotBack_n8 annLlaw21_SlotBack_n8 := (annOk_none _ _ _)
abbrev Ilaw21_SlotBack_n8 := (List UInt8) × (Bool) × (Int) × (Bool) × (Int) × (Int) × (Int) × (Int) × (List UInt8) × (Int) × (Int) × (List UInt8) × (List Int) × (Int) × (Int) × (Int) × (List UInt8) × (Int) × (Int) × (List UInt8)
abbrev Ylaw21_SlotBack_n8 := (Bool)
def Slaw21_SlotBack_n8 : Ilaw21_SlotBack_n8 → St := fun (t14, t20, t21, t23, t24, o0_0, o0_1, o0_2, o0_3, o0_4, o0_5, o0_6, o1, o2_0, o2_1, o2_2, o2_3, o2_4, o2_5, o2_6) => { env := [(4, AV.ptr 0 0), (14, AV.str t14), (16, AV.own 1), (19, AV.ptr 2 0), (20, AV.bool t20), (21, AV.int IntKind.i64 t21), (23, AV.bool t23), (24, AV.int IntKind.i64 t24)], stk := [[]], H := [AE.Obj.cells [AV.int IntKind.i64 o0_0, AV.int IntKind.i64 o0_1, AV.int IntKind.i64 o0_2, AV.str o0_3, AV.int IntKind.i64 o0_4, AV.int IntKind.i64 o0_5, AV.str o0_6], Obj.arr (Ty.int IntKind.u8) o1, AE.Obj.cells [AV.int IntKind.i64 o2_0, AV.int IntKind.i64 o2_1, AV.int IntKind.i64 o2_2, AV.str o2_3, AV.int IntKind.i64 o2_4, AV.int IntKind.i64 o2_5, AV.str o2_6]], blk := 20480 }
def declaw21_SlotBack_n8 (s : St) : Option Ilaw21_SlotBack_n8 := match s with
  | { env := [(4, AV.ptr 0 0), (14, AV.str t14), (16, AV.own 1), (19, AV.ptr 2 0), (20, AV.bool t20), (21, AV.int IntKind.i64 t21), (23, AV.bool t23), (24, AV.int IntKind.i64 t24)], stk := [[]], H := [AE.Obj.cells [AV.int IntKind.i64 o0_0, AV.int IntKind.i64 o0_1, AV.int IntKind.i64 o0_2, AV.str o0_3, AV.int IntKind.i64 o0_4, AV.int IntKind.i64 o0_5, AV.str o0_6], Obj.arr (Ty.int IntKind.u8) o1, AE.Obj.cells [AV.int IntKind.i64 o2_0, AV.int IntKind.i64 o2_1, AV.int IntKind.i64 o2_2, AV.str o2_3, AV.int IntKind.i64 o2_4, AV.int IntKind.i64 o2_5, AV.str o2_6]], blk := 20480 } => some (t14, t20, t21, t23, t24, o0_0, o0_1, o0_2, o0_3, o0_4, o0_5, o0_6, o1, o2_0, o2_1, o2_2, o2_3, o2_4, o2_5, o2_6)
  | _ => none
theorem declaw21_SlotBack_n8_ok (s : St) (x : Ilaw21_SlotBack_n8) (h : declaw21_SlotBack_n8 s = some x) : s = Slaw21_SlotBack_n8 x := by
  unfold declaw21_SlotBack_n8 at h
  split at h
  · cases h; rfl
  · cases h
def outlaw21_SlotBack_n8 : Ilaw21_SlotBack_n8 → (Ex → St → Ans) → Ylaw21_SlotBack_n8 → Ans := fun (t14, t20, t21, t23, t24, o0_0, o0_1, o0_2, o0_3, o0_4, o0_5, o0_6, o1, o2_0, o2_1, o2_2, o2_3, o2_4, o2_5, o2_6) K => fun t8_y => K (Ex.norm) { env := [(8, AV.bool t8_y)], stk := [[]], H := [], blk := 20480 }
noncomputable def nodelaw21_SlotBack_n8 {β : Type} : Ilaw21_SlotBack_n8 → (Ylaw21_SlotBack_n8 → Option β) → Option β := fun (t14, t20, t21, t23, t24, o0_0, o0_1, o0_2, o0_3, o0_4, o0_5, o0_6, o1, o2_0, o2_1, o2_2, o2_3, o2_4, o2_5, o2_6) exit => (bif o2_0 == o0_0 && (o2_1 == o0_1 && (o2_2 == o0_2 && true) && (o2_3 == o0_3 && true) && (o2_4 == o0_4 && (o2_5 == o0_5 && true) && (o2_6 == o0_6 && true) && true)) then (bif t20 then (bif t21 == (0 : Int) then (bif t23 == (bytesOf o1 == t14) then (bif t23 then (exit (true)) else (exit (t24 == (5 : Int)))) else (exit (false))) else (exit (false))) else (exit (false))) else (exit (false)))
noncomputable def nodeDlaw21_SlotBack_n8 (i : Ilaw21_SlotBack_n8) : Option Ylaw21_SlotBack_n8 := nodelaw21_SlotBack_n8 i some
theorem nodelaw21_SlotBack_n8_nat (i : Ilaw21_SlotBack_n8) (k : Ylaw21_SlotBack_n8 → Ans) : nodelaw21_SlotBack_n8 i k = bindO (nodeDlaw21_SlotBack_n8 i) k := by
  obtain ⟨t14, t20, t21, t23, t24, o0_0, o0_1, o0_2, o0_3, o0_4, o0_5, o0_6, o1, o2_0, o2_1, o2_2, o2_3, o2_4, o2_5, o2_6⟩ := i
  simp only [nodeDlaw21_SlotBack_n8, nodelaw21_SlotBack_n8, bindO_cond, bindO_assoc, bindO_none, bindO_pure, bindO_elim, bindO_unP]
theorem nodelaw21_SlotBack_n8_ok (i : Ilaw21_SlotBack_n8) (K : Ex → St → Ans) : codeI Tryd.tab envlaw21_SlotBack noHint (codeD Tryd.tab envlaw21_SlotBack noHint 0 64) 70 157 annLlaw21_SlotBack_n8 Llaw21_SlotBack_n8 (weakP 0 (exk [8] [8] []) K) (Slaw21_SlotBack_n8 i) = nodelaw21_SlotBack_n8 i (outlaw21_SlotBack_n8 i K) := by kernel_rfl
theorem GNlaw21_SlotBack_n8_ok : CSum Tryd.prog 157 Llaw21_SlotBack_n8 (sumN declaw21_SlotBack_n8 nodeDlaw21_SlotBack_n8 outlaw21_SlotBack_n8) := csum_node mixed tabOk envlaw21_SlotBackOk 0 (exk [8] [8] []) annLlaw21_SlotBack_n8_ok declaw21_SlotBack_n8_ok nodelaw21_SlotBack_n8_ok nodelaw21_SlotBack_n8_nat
noncomputable def Glaw21_SlotBack_n8 : (Ex → St → Ans) → St → Ans := (sumN declaw21_SlotBack_n8 nodeDlaw21_SlotBack_n8 outlaw21_SlotBack_n8)
theorem Glaw21_SlotBack_n8_ok : CSum Tryd.prog 157 Llaw21_SlotBack_n8 Glaw21_SlotBack_n8 := GNlaw21_SlotBack_n8_ok
noncomputable def Llaw21_SlotBack_n7 : Code := codeAt [1, 1, 1, 1, 1, 1, 1, 1, 1, 0, 1, 0, 0, 0, 0] blaw21_SlotBack
noncomputable def annLlaw21_SlotBack_n7 : Ann := .none
theorem annLlaw21_SlotBack_n7_ok : AnnOk Tryd.prog 157 Llaw21_SlotBack_n7 annLlaw21_SlotBack_n7 := (annOk_none _ _ _)
abbrev Ilaw21_SlotBack_n7 := (List UInt8) × (Int) × (Int) × (Int) × (Int) × (List UInt8) × (Int) × (Int) × (List UInt8) × (Int) × (Int) × (Int) × (Int) × (List Int)
abbrev Ylaw21_SlotBack_n7 := (Bool)
def Slaw21_SlotBack_n7 : Ilaw21_SlotBack_n7 → St := fun (t14, t17, o0_0, o0_1, o0_2, o0_3, o0_4, o0_5, o0_6, o1_0, o1_1, o1_2, o1_3, o2) => { env := [(4, AV.ptr 0 0), (6, AV.ptr 1 0), (14, AV.str t14), (16, AV.own 2), (17, AV.int IntKind.i64 t17), (18, AV.int IntKind.i64 (0))], stk := [[]], H := [AE.Obj.cells [AV.int IntKind.i64 o0_0, AV.int IntKind.i64 o0_1, AV.int IntKind.i64 o0_2, AV.str o0_3, AV.int IntKind.i64 o0_4, AV.int IntKind.i64 o0_5, AV.str o0_6], AE.Obj.cells [AV.int IntKind.u8 o1_0, AV.int IntKind.u8 o1_1, AV.int IntKind.u8 o1_2, AV.int IntKind.u8 o1_3], Obj.arr (Ty.int IntKind.u8) o2], blk := 20480 }
def declaw21_SlotBack_n7 (s : St) : Option Ilaw21_SlotBack_n7 := match s with
  | { env := [(4, AV.ptr 0 0), (6, AV.ptr 1 0), (14, AV.str t14), (16, AV.own 2), (17, AV.int IntKind.i64 t17), (18, AV.int IntKind.i64 r2)], stk := [[]], H := [AE.Obj.cells [AV.int IntKind.i64 o0_0, AV.int IntKind.i64 o0_1, AV.int IntKind.i64 o0_2, AV.str o0_3, AV.int IntKind.i64 o0_4, AV.int IntKind.i64 o0_5, AV.str o0_6], AE.Obj.cells [AV.int IntKind.u8 o1_0, AV.int IntKind.u8 o1_1, AV.int IntKind.u8 o1_2, AV.int IntKind.u8 o1_3], Obj.arr (Ty.int IntKind.u8) o2], blk := 20480 } => cond (decide (r2 = 0)) (some (t14, t17, o0_0, o0_1, o0_2, o0_3, o0_4, o0_5, o0_6, o1_0, o1_1, o1_2, o1_3, o2)) none
  | _ => none
theorem declaw21_SlotBack_n7_ok (s : St) (x : Ilaw21_SlotBack_n7) (h : declaw21_SlotBack_n7 s = some x) : s = Slaw21_SlotBack_n7 x := by
  unfold declaw21_SlotBack_n7 at h
  split at h
  · replace h := cond_noneO h; obtain ⟨hg, h⟩ := h; simp only [Bool.and_eq_true, decide_eq_true_eq] at hg; simp only [hg]; cases h; rfl
  · cases h
def outlaw21_SlotBack_n7 : Ilaw21_SlotBack_n7 → (Ex → St → Ans) → Ylaw21_SlotBack_n7 → Ans := fun (t14, t17, o0_0, o0_1, o0_2, o0_3, o0_4, o0_5, o0_6, o1_0, o1_1, o1_2, o1_3, o2) K => fun t101_y => K (Ex.norm) { env := [(4, AV.ptr 0 0), (6, AV.ptr 1 0), (14, AV.str t14), (16, AV.own 2), (17, AV.int IntKind.i64 t17), (18, AV.int IntKind.i64 (0)), (101, AV.bool t101_y)], stk := [[]], H := [AE.Obj.cells [AV.int IntKind.i64 o0_0, AV.int IntKind.i64 o0_1, AV.int IntKind.i64 o0_2, AV.str o0_3, AV.int IntKind.i64 o0_4, AV.int IntKind.i64 o0_5, AV.str o0_6], AE.Obj.cells [AV.int IntKind.u8 o1_0, AV.int IntKind.u8 o1_1, AV.int IntKind.u8 o1_2, AV.int IntKind.u8 o1_3], Obj.arr (Ty.int IntKind.u8) o2], blk := 20480 }
noncomputable def nodelaw21_SlotBack_n7 {β : Type} : Ilaw21_SlotBack_n7 → (Ylaw21_SlotBack_n7 → Option β) → Option β := fun (t14, t17, o0_0, o0_1, o0_2, o0_3, o0_4, o0_5, o0_6, o1_0, o1_1, o1_2, o1_3, o2) exit => (exit (decide (IntKind.wrap IntKind.i64 (t17 + (0 : Int)) < (↑(List.length o2) : Int))))
noncomputable def nodeDlaw21_SlotBack_n7 (i : Ilaw21_SlotBack_n7) : Option Ylaw21_SlotBack_n7 := nodelaw21_SlotBack_n7 i some
theorem nodelaw21_SlotBack_n7_nat (i : Ilaw21_SlotBack_n7) (k : Ylaw21_SlotBack_n7 → Ans) : nodelaw21_SlotBack_n7 i k = bindO (nodeDlaw21_SlotBack_n7 i) k := by
  obtain ⟨t14, t17, o0_0, o0_1, o0_2, o0_3, o0_4, o0_5, o0_6, o1_0, o1_1, o1_2, o1_3, o2⟩ := i
  simp only [nodeDlaw21_SlotBack_n7, nodelaw21_SlotBack_n7, bindO_cond, bindO_assoc, bindO_none, bindO_pure, bindO_elim, bindO_unP]
theorem nodelaw21_SlotBack_n7_ok (i : Ilaw21_SlotBack_n7) (K : Ex → St → Ans) : codeI Tryd.tab envlaw21_SlotBack noHint (codeD Tryd.tab envlaw21_SlotBack noHint 0 64) 70 157 annLlaw21_SlotBack_n7 Llaw21_SlotBack_n7 (weakP 0 (exk [4, 6, 14, 16, 17, 18, 101] [8] []) K) (Slaw21_SlotBack_n7 i) = nodelaw21_SlotBack_n7 i (outlaw21_SlotBack_n7 i K) := by kernel_rfl
theorem GNlaw21_SlotBack_n7_ok : CSum Tryd.prog 157 Llaw21_SlotBack_n7 (sumN declaw21_SlotBack_n7 nodeDlaw21_SlotBack_n7 outlaw21_SlotBack_n7) := csum_node mixed tabOk envlaw21_SlotBackOk 0 (exk [4, 6, 14, 16, 17, 18, 101] [8] []) annLlaw21_SlotBack_n7_ok declaw21_SlotBack_n7_ok nodelaw21_SlotBack_n7_ok nodelaw21_SlotBack_n7_nat
abbrev Ilaw21_SlotBack_n7v1 := (List UInt8) × (Int) × (Int) × (Int) × (Int) × (List UInt8) × (Int) × (Int) × (List UInt8) × (Int) × (Int) × (Int) × (Int) × (List Int)
abbrev Ylaw21_SlotBack_n7v1 := (Bool)
def Slaw21_SlotBack_n7v1 : Ilaw21_SlotBack_n7v1 → St := fun (t14, t17, o0_0, o0_1, o0_2, o0_3, o0_4, o0_5, o0_6, o1_0, o1_1, o1_2, o1_3, o2) => { env := [(4, AV.ptr 0 0), (6, AV.ptr 1 0), (14, AV.str t14), (16, AV.own 2), (17, AV.int IntKind.i64 t17), (18, AV.int IntKind.i64 (1))], stk := [[]], H := [AE.Obj.cells [AV.int IntKind.i64 o0_0, AV.int IntKind.i64 o0_1, AV.int IntKind.i64 o0_2, AV.str o0_3, AV.int IntKind.i64 o0_4, AV.int IntKind.i64 o0_5, AV.str o0_6], AE.Obj.cells [AV.int IntKind.u8 o1_0, AV.int IntKind.u8 o1_1, AV.int IntKind.u8 o1_2, AV.int IntKind.u8 o1_3], Obj.arr (Ty.int IntKind.u8) o2], blk := 20480 }
def declaw21_SlotBack_n7v1 (s : St) : Option Ilaw21_SlotBack_n7v1 := match s with
  | { env := [(4, AV.ptr 0 0), (6, AV.ptr 1 0), (14, AV.str t14), (16, AV.own 2), (17, AV.int IntKind.i64 t17), (18, AV.int IntKind.i64 r2)], stk := [[]], H := [AE.Obj.cells [AV.int IntKind.i64 o0_0, AV.int IntKind.i64 o0_1, AV.int IntKind.i64 o0_2, AV.str o0_3, AV.int IntKind.i64 o0_4, AV.int IntKind.i64 o0_5, AV.str o0_6], AE.Obj.cells [AV.int IntKind.u8 o1_0, AV.int IntKind.u8 o1_1, AV.int IntKind.u8 o1_2, AV.int IntKind.u8 o1_3], Obj.arr (Ty.int IntKind.u8) o2], blk := 20480 } => cond (decide (r2 = 1)) (some (t14, t17, o0_0, o0_1, o0_2, o0_3, o0_4, o0_5, o0_6, o1_0, o1_1, o1_2, o1_3, o2)) none
  | _ => none
theorem declaw21_SlotBack_n7v1_ok (s : St) (x : Ilaw21_SlotBack_n7v1) (h : declaw21_SlotBack_n7v1 s = some x) : s = Slaw21_SlotBack_n7v1 x := by
  unfold declaw21_SlotBack_n7v1 at h
  split at h
  · replace h := cond_noneO h; obtain ⟨hg, h⟩ := h; simp only [Bool.and_eq_true, decide_eq_true_eq] at hg; simp only [hg]; cases h; rfl
  · cases h
def outlaw21_SlotBack_n7v1 : Ilaw21_SlotBack_n7v1 → (Ex → St → Ans) → Ylaw21_SlotBack_n7v1 → Ans := fun (t14, t17, o0_0, o0_1, o0_2, o0_3, o0_4, o0_5, o0_6, o1_0, o1_1, o1_2, o1_3, o2) K => fun t101_y => K (Ex.norm) { env := [(4, AV.ptr 0 0), (6, AV.ptr 1 0), (14, AV.str t14), (16, AV.own 2), (17, AV.int IntKind.i64 t17), (18, AV.int IntKind.i64 (1)), (101, AV.bool t101_y)], stk := [[]], H := [AE.Obj.cells [AV.int IntKind.i64 o0_0, AV.int IntKind.i64 o0_1, AV.int IntKind.i64 o0_2, AV.str o0_3, AV.int IntKind.i64 o0_4, AV.int IntKind.i64 o0_5, AV.str o0_6], AE.Obj.cells [AV.int IntKind.u8 o1_0, AV.int IntKind.u8 o1_1, AV.int IntKind.u8 o1_2, AV.int IntKind.u8 o1_3], Obj.arr (Ty.int IntKind.u8) o2], blk := 20480 }
noncomputable def nodelaw21_SlotBack_n7v1 {β : Type} : Ilaw21_SlotBack_n7v1 → (Ylaw21_SlotBack_n7v1 → Option β) → Option β := fun (t14, t17, o0_0, o0_1, o0_2, o0_3, o0_4, o0_5, o0_6, o1_0, o1_1, o1_2, o1_3, o2) exit => (exit (decide (IntKind.wrap IntKind.i64 (t17 + (1 : Int)) < (↑(List.length o2) : Int))))
noncomputable def nodeDlaw21_SlotBack_n7v1 (i : Ilaw21_SlotBack_n7v1) : Option Ylaw21_SlotBack_n7v1 := nodelaw21_SlotBack_n7v1 i some
theorem nodelaw21_SlotBack_n7v1_nat (i : Ilaw21_SlotBack_n7v1) (k : Ylaw21_SlotBack_n7v1 → Ans) : nodelaw21_SlotBack_n7v1 i k = bindO (nodeDlaw21_SlotBack_n7v1 i) k := by
  obtain ⟨t14, t17, o0_0, o0_1, o0_2, o0_3, o0_4, o0_5, o0_6, o1_0, o1_1, o1_2, o1_3, o2⟩ := i
  simp only [nodeDlaw21_SlotBack_n7v1, nodelaw21_SlotBack_n7v1, bindO_cond, bindO_assoc, bindO_none, bindO_pure, bindO_elim, bindO_unP]
theorem nodelaw21_SlotBack_n7v1_ok (i : Ilaw21_SlotBack_n7v1) (K : Ex → St → Ans) : codeI Tryd.tab envlaw21_SlotBack noHint (codeD Tryd.tab envlaw21_SlotBack noHint 0 64) 70 157 annLlaw21_SlotBack_n7 Llaw21_SlotBack_n7 (weakP 0 (exk [4, 6, 14, 16, 17, 18, 101] [8] []) K) (Slaw21_SlotBack_n7v1 i) = nodelaw21_SlotBack_n7v1 i (outlaw21_SlotBack_n7v1 i K) := by kernel_rfl
theorem GNlaw21_SlotBack_n7v1_ok : CSum Tryd.prog 157 Llaw21_SlotBack_n7 (sumN declaw21_SlotBack_n7v1 nodeDlaw21_SlotBack_n7v1 outlaw21_SlotBack_n7v1) := csum_node mixed tabOk envlaw21_SlotBackOk 0 (exk [4, 6, 14, 16, 17, 18, 101] [8] []) annLlaw21_SlotBack_n7_ok declaw21_SlotBack_n7v1_ok nodelaw21_SlotBack_n7v1_ok nodelaw21_SlotBack_n7v1_nat
abbrev Ilaw21_SlotBack_n7v2 := (List UInt8) × (Int) × (Int) × (Int) × (Int) × (List UInt8) × (Int) × (Int) × (List UInt8) × (Int) × (Int) × (Int) × (Int) × (List Int)
abbrev Ylaw21_SlotBack_n7v2 := (Bool)
def Slaw21_SlotBack_n7v2 : Ilaw21_SlotBack_n7v2 → St := fun (t14, t17, o0_0, o0_1, o0_2, o0_3, o0_4, o0_5, o0_6, o1_0, o1_1, o1_2, o1_3, o2) => { env := [(4, AV.ptr 0 0), (6, AV.ptr 1 0), (14, AV.str t14), (16, AV.own 2), (17, AV.int IntKind.i64 t17), (18, AV.int IntKind.i64 (2))], stk := [[]], H := [AE.Obj.cells [AV.int IntKind.i64 o0_0, AV.int IntKind.i64 o0_1, AV.int IntKind.i64 o0_2, AV.str o0_3, AV.int IntKind.i64 o0_4, AV.int IntKind.i64 o0_5, AV.str o0_6], AE.Obj.cells [AV.int IntKind.u8 o1_0, AV.int IntKind.u8 o1_1, AV.int IntKind.u8 o1_2, AV.int IntKind.u8 o1_3], Obj.arr (Ty.int IntKind.u8) o2], blk := 20480 }
def declaw21_SlotBack_n7v2 (s : St) : Option Ilaw21_SlotBack_n7v2 := match s with
  | { env := [(4, AV.ptr 0 0), (6, AV.ptr 1 0), (14, AV.str t14), (16, AV.own 2), (17, AV.int IntKind.i64 t17), (18, AV.int IntKind.i64 r2)], stk := [[]], H := [AE.Obj.cells [AV.int IntKind.i64 o0_0, AV.int IntKind.i64 o0_1, AV.int IntKind.i64 o0_2, AV.str o0_3, AV.int IntKind.i64 o0_4, AV.int IntKind.i64 o0_5, AV.str o0_6], AE.Obj.cells [AV.int IntKind.u8 o1_0, AV.int IntKind.u8 o1_1, AV.int IntKind.u8 o1_2, AV.int IntKind.u8 o1_3], Obj.arr (Ty.int IntKind.u8) o2], blk := 20480 } => cond (decide (r2 = 2)) (some (t14, t17, o0_0, o0_1, o0_2, o0_3, o0_4, o0_5, o0_6, o1_0, o1_1, o1_2, o1_3, o2)) none
  | _ => none
theorem declaw21_SlotBack_n7v2_ok (s : St) (x : Ilaw21_SlotBack_n7v2) (h : declaw21_SlotBack_n7v2 s = some x) : s = Slaw21_SlotBack_n7v2 x := by
  unfold declaw21_SlotBack_n7v2 at h
  split at h
  · replace h := cond_noneO h; obtain ⟨hg, h⟩ := h; simp only [Bool.and_eq_true, decide_eq_true_eq] at hg; simp only [hg]; cases h; rfl
  · cases h
def outlaw21_SlotBack_n7v2 : Ilaw21_SlotBack_n7v2 → (Ex → St → Ans) → Ylaw21_SlotBack_n7v2 → Ans := fun (t14, t17, o0_0, o0_1, o0_2, o0_3, o0_4, o0_5, o0_6, o1_0, o1_1, o1_2, o1_3, o2) K => fun t101_y => K (Ex.norm) { env := [(4, AV.ptr 0 0), (6, AV.ptr 1 0), (14, AV.str t14), (16, AV.own 2), (17, AV.int IntKind.i64 t17), (18, AV.int IntKind.i64 (2)), (101, AV.bool t101_y)], stk := [[]], H := [AE.Obj.cells [AV.int IntKind.i64 o0_0, AV.int IntKind.i64 o0_1, AV.int IntKind.i64 o0_2, AV.str o0_3, AV.int IntKind.i64 o0_4, AV.int IntKind.i64 o0_5, AV.str o0_6], AE.Obj.cells [AV.int IntKind.u8 o1_0, AV.int IntKind.u8 o1_1, AV.int IntKind.u8 o1_2, AV.int IntKind.u8 o1_3], Obj.arr (Ty.int IntKind.u8) o2], blk := 20480 }
noncomputable def nodelaw21_SlotBack_n7v2 {β : Type} : Ilaw21_SlotBack_n7v2 → (Ylaw21_SlotBack_n7v2 → Option β) → Option β := fun (t14, t17, o0_0, o0_1, o0_2, o0_3, o0_4, o0_5, o0_6, o1_0, o1_1, o1_2, o1_3, o2) exit => (exit (decide (IntKind.wrap IntKind.i64 (t17 + (2 : Int)) < (↑(List.length o2) : Int))))
noncomputable def nodeDlaw21_SlotBack_n7v2 (i : Ilaw21_SlotBack_n7v2) : Option Ylaw21_SlotBack_n7v2 := nodelaw21_SlotBack_n7v2 i some
theorem nodelaw21_SlotBack_n7v2_nat (i : Ilaw21_SlotBack_n7v2) (k : Ylaw21_SlotBack_n7v2 → Ans) : nodelaw21_SlotBack_n7v2 i k = bindO (nodeDlaw21_SlotBack_n7v2 i) k := by
  obtain ⟨t14, t17, o0_0, o0_1, o0_2, o0_3, o0_4, o0_5, o0_6, o1_0, o1_1, o1_2, o1_3, o2⟩ := i
  simp only [nodeDlaw21_SlotBack_n7v2, nodelaw21_SlotBack_n7v2, bindO_cond, bindO_assoc, bindO_none, bindO_pure, bindO_elim, bindO_unP]
theorem nodelaw21_SlotBack_n7v2_ok (i : Ilaw21_SlotBack_n7v2) (K : Ex → St → Ans) : codeI Tryd.tab envlaw21_SlotBack noHint (codeD Tryd.tab envlaw21_SlotBack noHint 0 64) 70 157 annLlaw21_SlotBack_n7 Llaw21_SlotBack_n7 (weakP 0 (exk [4, 6, 14, 16, 17, 18, 101] [8] []) K) (Slaw21_SlotBack_n7v2 i) = nodelaw21_SlotBack_n7v2 i (outlaw21_SlotBack_n7v2 i K) := by kernel_rfl
theorem GNlaw21_SlotBack_n7v2_ok : CSum Tryd.prog 157 Llaw21_SlotBack_n7 (sumN declaw21_SlotBack_n7v2 nodeDlaw21_SlotBack_n7v2 outlaw21_SlotBack_n7v2) := csum_node mixed tabOk envlaw21_SlotBackOk 0 (exk [4, 6, 14, 16, 17, 18, 101] [8] []) annLlaw21_SlotBack_n7_ok declaw21_SlotBack_n7v2_ok nodelaw21_SlotBack_n7v2_ok nodelaw21_SlotBack_n7v2_nat
abbrev Ilaw21_SlotBack_n7v3 := (List UInt8) × (Int) × (Int) × (Int) × (Int) × (List UInt8) × (Int) × (Int) × (List UInt8) × (Int) × (Int) × (Int) × (Int) × (List Int)
abbrev Ylaw21_SlotBack_n7v3 := (Bool)
def Slaw21_SlotBack_n7v3 : Ilaw21_SlotBack_n7v3 → St := fun (t14, t17, o0_0, o0_1, o0_2, o0_3, o0_4, o0_5, o0_6, o1_0, o1_1, o1_2, o1_3, o2) => { env := [(4, AV.ptr 0 0), (6, AV.ptr 1 0), (14, AV.str t14), (16, AV.own 2), (17, AV.int IntKind.i64 t17), (18, AV.int IntKind.i64 (3))], stk := [[]], H := [AE.Obj.cells [AV.int IntKind.i64 o0_0, AV.int IntKind.i64 o0_1, AV.int IntKind.i64 o0_2, AV.str o0_3, AV.int IntKind.i64 o0_4, AV.int IntKind.i64 o0_5, AV.str o0_6], AE.Obj.cells [AV.int IntKind.u8 o1_0, AV.int IntKind.u8 o1_1, AV.int IntKind.u8 o1_2, AV.int IntKind.u8 o1_3], Obj.arr (Ty.int IntKind.u8) o2], blk := 20480 }
def declaw21_SlotBack_n7v3 (s : St) : Option Ilaw21_SlotBack_n7v3 := match s with
  | { env := [(4, AV.ptr 0 0), (6, AV.ptr 1 0), (14, AV.str t14), (16, AV.own 2), (17, AV.int IntKind.i64 t17), (18, AV.int IntKind.i64 r2)], stk := [[]], H := [AE.Obj.cells [AV.int IntKind.i64 o0_0, AV.int IntKind.i64 o0_1, AV.int IntKind.i64 o0_2, AV.str o0_3, AV.int IntKind.i64 o0_4, AV.int IntKind.i64 o0_5, AV.str o0_6], AE.Obj.cells [AV.int IntKind.u8 o1_0, AV.int IntKind.u8 o1_1, AV.int IntKind.u8 o1_2, AV.int IntKind.u8 o1_3], Obj.arr (Ty.int IntKind.u8) o2], blk := 20480 } => cond (decide (r2 = 3)) (some (t14, t17, o0_0, o0_1, o0_2, o0_3, o0_4, o0_5, o0_6, o1_0, o1_1, o1_2, o1_3, o2)) none
  | _ => none
theorem declaw21_SlotBack_n7v3_ok (s : St) (x : Ilaw21_SlotBack_n7v3) (h : declaw21_SlotBack_n7v3 s = some x) : s = Slaw21_SlotBack_n7v3 x := by
  unfold declaw21_SlotBack_n7v3 at h
  split at h
  · replace h := cond_noneO h; obtain ⟨hg, h⟩ := h; simp only [Bool.and_eq_true, decide_eq_true_eq] at hg; simp only [hg]; cases h; rfl
  · cases h
def outlaw21_SlotBack_n7v3 : Ilaw21_SlotBack_n7v3 → (Ex → St → Ans) → Ylaw21_SlotBack_n7v3 → Ans := fun (t14, t17, o0_0, o0_1, o0_2, o0_3, o0_4, o0_5, o0_6, o1_0, o1_1, o1_2, o1_3, o2) K => fun t101_y => K (Ex.norm) { env := [(4, AV.ptr 0 0), (6, AV.ptr 1 0), (14, AV.str t14), (16, AV.own 2), (17, AV.int IntKind.i64 t17), (18, AV.int IntKind.i64 (3)), (101, AV.bool t101_y)], stk := [[]], H := [AE.Obj.cells [AV.int IntKind.i64 o0_0, AV.int IntKind.i64 o0_1, AV.int IntKind.i64 o0_2, AV.str o0_3, AV.int IntKind.i64 o0_4, AV.int IntKind.i64 o0_5, AV.str o0_6], AE.Obj.cells [AV.int IntKind.u8 o1_0, AV.int IntKind.u8 o1_1, AV.int IntKind.u8 o1_2, AV.int IntKind.u8 o1_3], Obj.arr (Ty.int IntKind.u8) o2], blk := 20480 }
noncomputable def nodelaw21_SlotBack_n7v3 {β : Type} : Ilaw21_SlotBack_n7v3 → (Ylaw21_SlotBack_n7v3 → Option β) → Option β := fun (t14, t17, o0_0, o0_1, o0_2, o0_3, o0_4, o0_5, o0_6, o1_0, o1_1, o1_2, o1_3, o2) exit => (exit (decide (IntKind.wrap IntKind.i64 (t17 + (3 : Int)) < (↑(List.length o2) : Int))))
noncomputable def nodeDlaw21_SlotBack_n7v3 (i : Ilaw21_SlotBack_n7v3) : Option Ylaw21_SlotBack_n7v3 := nodelaw21_SlotBack_n7v3 i some
theorem nodelaw21_SlotBack_n7v3_nat (i : Ilaw21_SlotBack_n7v3) (k : Ylaw21_SlotBack_n7v3 → Ans) : nodelaw21_SlotBack_n7v3 i k = bindO (nodeDlaw21_SlotBack_n7v3 i) k := by
  obtain ⟨t14, t17, o0_0, o0_1, o0_2, o0_3, o0_4, o0_5, o0_6, o1_0, o1_1, o1_2, o1_3, o2⟩ := i
  simp only [nodeDlaw21_SlotBack_n7v3, nodelaw21_SlotBack_n7v3, bindO_cond, bindO_assoc, bindO_none, bindO_pure, bindO_elim, bindO_unP]
theorem nodelaw21_SlotBack_n7v3_ok (i : Ilaw21_SlotBack_n7v3) (K : Ex → St → Ans) : codeI Tryd.tab envlaw21_SlotBack noHint (codeD Tryd.tab envlaw21_SlotBack noHint 0 64) 70 157 annLlaw21_SlotBack_n7 Llaw21_SlotBack_n7 (weakP 0 (exk [4, 6, 14, 16, 17, 18, 101] [8] []) K) (Slaw21_SlotBack_n7v3 i) = nodelaw21_SlotBack_n7v3 i (outlaw21_SlotBack_n7v3 i K) := by kernel_rfl
theorem GNlaw21_SlotBack_n7v3_ok : CSum Tryd.prog 157 Llaw21_SlotBack_n7 (sumN declaw21_SlotBack_n7v3 nodeDlaw21_SlotBack_n7v3 outlaw21_SlotBack_n7v3) := csum_node mixed tabOk envlaw21_SlotBackOk 0 (exk [4, 6, 14, 16, 17, 18, 101] [8] []) annLlaw21_SlotBack_n7_ok declaw21_SlotBack_n7v3_ok nodelaw21_SlotBack_n7v3_ok nodelaw21_SlotBack_n7v3_nat
abbrev Ilaw21_SlotBack_n7v4 := (List UInt8) × (Int) × (Int) × (Int) × (Int) × (List UInt8) × (Int) × (Int) × (List UInt8) × (Int) × (Int) × (Int) × (Int) × (List Int)
abbrev Ylaw21_SlotBack_n7v4 := Unit
def Slaw21_SlotBack_n7v4 : Ilaw21_SlotBack_n7v4 → St := fun (t14, t17, o0_0, o0_1, o0_2, o0_3, o0_4, o0_5, o0_6, o1_0, o1_1, o1_2, o1_3, o2) => { env := [(4, AV.ptr 0 0), (6, AV.ptr 1 0), (14, AV.str t14), (16, AV.own 2), (17, AV.int IntKind.i64 t17), (18, AV.int IntKind.i64 (4))], stk := [[]], H := [AE.Obj.cells [AV.int IntKind.i64 o0_0, AV.int IntKind.i64 o0_1, AV.int IntKind.i64 o0_2, AV.str o0_3, AV.int IntKind.i64 o0_4, AV.int IntKind.i64 o0_5, AV.str o0_6], AE.Obj.cells [AV.int IntKind.u8 o1_0, AV.int IntKind.u8 o1_1, AV.int IntKind.u8 o1_2, AV.int IntKind.u8 o1_3], Obj.arr (Ty.int IntKind.u8) o2], blk := 20480 }
def declaw21_SlotBack_n7v4 (s : St) : Option Ilaw21_SlotBack_n7v4 := match s with
  | { env := [(4, AV.ptr 0 0), (6, AV.ptr 1 0), (14, AV.str t14), (16, AV.own 2), (17, AV.int IntKind.i64 t17), (18, AV.int IntKind.i64 r2)], stk := [[]], H := [AE.Obj.cells [AV.int IntKind.i64 o0_0, AV.int IntKind.i64 o0_1, AV.int IntKind.i64 o0_2, AV.str o0_3, AV.int IntKind.i64 o0_4, AV.int IntKind.i64 o0_5, AV.str o0_6], AE.Obj.cells [AV.int IntKind.u8 o1_0, AV.int IntKind.u8 o1_1, AV.int IntKind.u8 o1_2, AV.int IntKind.u8 o1_3], Obj.arr (Ty.int IntKind.u8) o2], blk := 20480 } => cond (decide (r2 = 4)) (some (t14, t17, o0_0, o0_1, o0_2, o0_3, o0_4, o0_5, o0_6, o1_0, o1_1, o1_2, o1_3, o2)) none
  | _ => none
theorem declaw21_SlotBack_n7v4_ok (s : St) (x : Ilaw21_SlotBack_n7v4) (h : declaw21_SlotBack_n7v4 s = some x) : s = Slaw21_SlotBack_n7v4 x := by
  unfold declaw21_SlotBack_n7v4 at h
  split at h
  · replace h := cond_noneO h; obtain ⟨hg, h⟩ := h; simp only [Bool.and_eq_true, decide_eq_true_eq] at hg; simp only [hg]; cases h; rfl
  · cases h
def outlaw21_SlotBack_n7v4 : Ilaw21_SlotBack_n7v4 → (Ex → St → Ans) → Ylaw21_SlotBack_n7v4 → Ans := fun (t14, t17, o0_0, o0_1, o0_2, o0_3, o0_4, o0_5, o0_6, o1_0, o1_1, o1_2, o1_3, o2) K => fun _ => K (Ex.norm) { env := [(4, AV.ptr 0 0), (6, AV.ptr 1 0), (14, AV.str t14), (16, AV.own 2), (17, AV.int IntKind.i64 t17), (18, AV.int IntKind.i64 (4)), (101, AV.bool (false))], stk := [[]], H := [AE.Obj.cells [AV.int IntKind.i64 o0_0, AV.int IntKind.i64 o0_1, AV.int IntKind.i64 o0_2, AV.str o0_3, AV.int IntKind.i64 o0_4, AV.int IntKind.i64 o0_5, AV.str o0_6], AE.Obj.cells [AV.int IntKind.u8 o1_0, AV.int IntKind.u8 o1_1, AV.int IntKind.u8 o1_2, AV.int IntKind.u8 o1_3], Obj.arr (Ty.int IntKind.u8) o2], blk := 20480 }
noncomputable def nodelaw21_SlotBack_n7v4 {β : Type} : Ilaw21_SlotBack_n7v4 → (Ylaw21_SlotBack_n7v4 → Option β) → Option β := fun (t14, t17, o0_0, o0_1, o0_2, o0_3, o0_4, o0_5, o0_6, o1_0, o1_1, o1_2, o1_3, o2) exit => (exit ())
noncomputable def nodeDlaw21_SlotBack_n7v4 (i : Ilaw21_SlotBack_n7v4) : Option Ylaw21_SlotBack_n7v4 := nodelaw21_SlotBack_n7v4 i some
theorem nodelaw21_SlotBack_n7v4_nat (i : Ilaw21_SlotBack_n7v4) (k : Ylaw21_SlotBack_n7v4 → Ans) : nodelaw21_SlotBack_n7v4 i k = bindO (nodeDlaw21_SlotBack_n7v4 i) k := by
  obtain ⟨t14, t17, o0_0, o0_1, o0_2, o0_3, o0_4, o0_5, o0_6, o1_0, o1_1, o1_2, o1_3, o2⟩ := i
  simp only [nodeDlaw21_SlotBack_n7v4, nodelaw21_SlotBack_n7v4, bindO_cond, bindO_assoc, bindO_none, bindO_pure, bindO_elim, bindO_unP]
theorem nodelaw21_SlotBack_n7v4_ok (i : Ilaw21_SlotBack_n7v4) (K : Ex → St → Ans) : codeI Tryd.tab envlaw21_SlotBack noHint (codeD Tryd.tab envlaw21_SlotBack noHint 0 64) 70 157 annLlaw21_SlotBack_n7 Llaw21_SlotBack_n7 (weakP 0 (exk [4, 6, 14, 16, 17, 18, 101] [8] []) K) (Slaw21_SlotBack_n7v4 i) = nodelaw21_SlotBack_n7v4 i (outlaw21_SlotBack_n7v4 i K) := by kernel_rfl
theorem GNlaw21_SlotBack_n7v4_ok : CSum Tryd.prog 157 Llaw21_SlotBack_n7 (sumN declaw21_SlotBack_n7v4 nodeDlaw21_SlotBack_n7v4 outlaw21_SlotBack_n7v4) := csum_node mixed tabOk envlaw21_SlotBackOk 0 (exk [4, 6, 14, 16, 17, 18, 101] [8] []) annLlaw21_SlotBack_n7_ok declaw21_SlotBack_n7v4_ok nodelaw21_SlotBack_n7v4_ok nodelaw21_SlotBack_n7v4_nat
noncomputable def Glaw21_SlotBack_n7 : (Ex → St → Ans) → St → Ans := (altN declaw21_SlotBack_n7 (sumN declaw21_SlotBack_n7 nodeDlaw21_SlotBack_n7 outlaw21_SlotBack_n7) (altN declaw21_SlotBack_n7v1 (sumN declaw21_SlotBack_n7v1 nodeDlaw21_SlotBack_n7v1 outlaw21_SlotBack_n7v1) (altN declaw21_SlotBack_n7v2 (sumN declaw21_SlotBack_n7v2 nodeDlaw21_SlotBack_n7v2 outlaw21_SlotBack_n7v2) (altN declaw21_SlotBack_n7v3 (sumN declaw21_SlotBack_n7v3 nodeDlaw21_SlotBack_n7v3 outlaw21_SlotBack_n7v3) (sumN declaw21_SlotBack_n7v4 nodeDlaw21_SlotBack_n7v4 outlaw21_SlotBack_n7v4)))))
theorem Glaw21_SlotBack_n7_ok : CSum Tryd.prog 157 Llaw21_SlotBack_n7 Glaw21_SlotBack_n7 := (csum_altN GNlaw21_SlotBack_n7_ok (csum_altN GNlaw21_SlotBack_n7v1_ok (csum_altN GNlaw21_SlotBack_n7v2_ok (csum_altN GNlaw21_SlotBack_n7v3_ok GNlaw21_SlotBack_n7v4_ok))))
noncomputable def Llaw21_SlotBack_n6 : Code := codeAt [1, 1, 1, 1, 1, 1, 1, 1, 1, 0, 1, 0, 0] blaw21_SlotBack
noncomputable def annLlaw21_SlotBack_n6 : Ann := (.seq (.seq (.cut 0 [4, 6, 14, 16, 17, 18] Glaw21_SlotBack_n7) .none) .none)
theorem annLlaw21_SlotBack_n6_ok : AnnOk Tryd.prog 157 Llaw21_SlotBack_n6 annLlaw21_SlotBack_n6 := ⟨⟨Glaw21_SlotBack_n7_ok, (annOk_none _ _ _)⟩, (annOk_none _ _ _)⟩
abbrev Ilaw21_SlotBack_n6 := (List UInt8) × (Int) × (Int) × (Int) × (Int) × (List UInt8) × (Int) × (Int) × (List UInt8) × (Int) × (Int) × (Int) × (Int) × (List Int)
abbrev Ylaw21_SlotBack_n6 := ((List Int)) ⊕ (Unit)
def Slaw21_SlotBack_n6 : Ilaw21_SlotBack_n6 → St := fun (t14, t17, o0_0, o0_1, o0_2, o0_3, o0_4, o0_5, o0_6, o1_0, o1_1, o1_2, o1_3, o2) => { env := [(4, AV.ptr 0 0), (6, AV.ptr 1 0), (14, AV.str t14), (16, AV.own 2), (17, AV.int IntKind.i64 t17), (18, AV.int IntKind.i64 (0))], stk := [[]], H := [AE.Obj.cells [AV.int IntKind.i64 o0_0, AV.int IntKind.i64 o0_1, AV.int IntKind.i64 o0_2, AV.str o0_3, AV.int IntKind.i64 o0_4, AV.int IntKind.i64 o0_5, AV.str o0_6], AE.Obj.cells [AV.int IntKind.u8 o1_0, AV.int IntKind.u8 o1_1, AV.int IntKind.u8 o1_2, AV.int IntKind.u8 o1_3], Obj.arr (Ty.int IntKind.u8) o2], blk := 20480 }
def declaw21_SlotBack_n6 (s : St) : Option Ilaw21_SlotBack_n6 := match s with
  | { env := [(4, AV.ptr 0 0), (6, AV.ptr 1 0), (14, AV.str t14), (16, AV.own 2), (17, AV.int IntKind.i64 t17), (18, AV.int IntKind.i64 r2)], stk := [[]], H := [AE.Obj.cells [AV.int IntKind.i64 o0_0, AV.int IntKind.i64 o0_1, AV.int IntKind.i64 o0_2, AV.str o0_3, AV.int IntKind.i64 o0_4, AV.int IntKind.i64 o0_5, AV.str o0_6], AE.Obj.cells [AV.int IntKind.u8 o1_0, AV.int IntKind.u8 o1_1, AV.int IntKind.u8 o1_2, AV.int IntKind.u8 o1_3], Obj.arr (Ty.int IntKind.u8) o2], blk := 20480 } => cond (decide (r2 = 0)) (some (t14, t17, o0_0, o0_1, o0_2, o0_3, o0_4, o0_5, o0_6, o1_0, o1_1, o1_2, o1_3, o2)) none
  | _ => none
theorem declaw21_SlotBack_n6_ok (s : St) (x : Ilaw21_SlotBack_n6) (h : declaw21_SlotBack_n6 s = some x) : s = Slaw21_SlotBack_n6 x := by
  unfold declaw21_SlotBack_n6 at h
  split at h
  · replace h := cond_noneO h; obtain ⟨hg, h⟩ := h; simp only [Bool.and_eq_true, decide_eq_true_eq] at hg; simp only [hg]; cases h; rfl
  · cases h
def outlaw21_SlotBack_n6 : Ilaw21_SlotBack_n6 → (Ex → St → Ans) → Ylaw21_SlotBack_n6 → Ans := fun (t14, t17, o0_0, o0_1, o0_2, o0_3, o0_4, o0_5, o0_6, o1_0, o1_1, o1_2, o1_3, o2) K => (Sum.elim (fun o2_y => K (Ex.norm) { env := [(4, AV.ptr 0 0), (6, AV.ptr 1 0), (14, AV.str t14), (16, AV.own 2), (17, AV.int IntKind.i64 t17), (18, AV.int IntKind.i64 (1))], stk := [[]], H := [AE.Obj.cells [AV.int IntKind.i64 o0_0, AV.int IntKind.i64 o0_1, AV.int IntKind.i64 o0_2, AV.str o0_3, AV.int IntKind.i64 o0_4, AV.int IntKind.i64 o0_5, AV.str o0_6], AE.Obj.cells [AV.int IntKind.u8 o1_0, AV.int IntKind.u8 o1_1, AV.int IntKind.u8 o1_2, AV.int IntKind.u8 o1_3], Obj.arr (Ty.int IntKind.u8) o2_y], blk := 20481 }) (fun _ => K (Ex.exit 0) { env := [(4, AV.ptr 0 0), (14, AV.str t14), (16, AV.own 1)], stk := [[]], H := [AE.Obj.cells [AV.int IntKind.i64 o0_0, AV.int IntKind.i64 o0_1, AV.int IntKind.i64 o0_2, AV.str o0_3, AV.int IntKind.i64 o0_4, AV.int IntKind.i64 o0_5, AV.str o0_6], Obj.arr (Ty.int IntKind.u8) o2], blk := 20480 }))
noncomputable def nodelaw21_SlotBack_n6 {β : Type} : Ilaw21_SlotBack_n6 → (Ylaw21_SlotBack_n6 → Option β) → Option β := fun (t14, t17, o0_0, o0_1, o0_2, o0_3, o0_4, o0_5, o0_6, o1_0, o1_1, o1_2, o1_3, o2) exit => (bindO (nodeDlaw21_SlotBack_n7 (t14, t17, o0_0, o0_1, o0_2, o0_3, o0_4, o0_5, o0_6, o1_0, o1_1, o1_2, o1_3, o2)) fun t101 => (bif t101 then (bif inR (IntKind.wrap IntKind.i64 (t17 + (0 : Int))) (List.length o2) then (bindO (o2[Int.toNat (IntKind.wrap IntKind.i64 (t17 + (0 : Int)))]?) fun x => (bif inR (IntKind.wrap IntKind.i64 (t17 + (0 : Int))) (List.length o2) then (bindO (o2[Int.toNat (IntKind.wrap IntKind.i64 (t17 + (0 : Int)))]?) fun x_2 => (exit (Sum.inl (List.set o2 (Int.toNat (IntKind.wrap IntKind.i64 (t17 + (0 : Int)))) (IntKind.wrap IntKind.u8 (↑(Int.toNat (x % (256 : Int)) ^^^ Int.toNat (o1_0 % (256 : Int))) : Int)))))) else none)) else none) else (exit (Sum.inr ()))))
noncomputable def nodeDlaw21_SlotBack_n6 (i : Ilaw21_SlotBack_n6) : Option Ylaw21_SlotBack_n6 := nodelaw21_SlotBack_n6 i some
theorem nodelaw21_SlotBack_n6_nat (i : Ilaw21_SlotBack_n6) (k : Ylaw21_SlotBack_n6 → Ans) : nodelaw21_SlotBack_n6 i k = bindO (nodeDlaw21_SlotBack_n6 i) k := by
  obtain ⟨t14, t17, o0_0, o0_1, o0_2, o0_3, o0_4, o0_5, o0_6, o1_0, o1_1, o1_2, o1_3, o2⟩ := i
  simp only [nodeDlaw21_SlotBack_n6, nodelaw21_SlotBack_n6, bindO_cond, bindO_assoc, bindO_none, bindO_pure, bindO_elim, bindO_unP]
theorem nodelaw21_SlotBack_n6_ok (i : Ilaw21_SlotBack_n6) (K : Ex → St → Ans) : codeI Tryd.tab envlaw21_SlotBack noHint (codeD Tryd.tab envlaw21_SlotBack noHint 0 64) 70 157 annLlaw21_SlotBack_n6 Llaw21_SlotBack_n6 (weakP 0 (exk [4, 6, 14, 16, 17, 18] [8] [(0, [4, 14, 16])]) K) (Slaw21_SlotBack_n6 i) = nodelaw21_SlotBack_n6 i (outlaw21_SlotBack_n6 i K) := by kernel_rfl
theorem GNlaw21_SlotBack_n6_ok : CSum Tryd.prog 157 Llaw21_SlotBack_n6 (sumN declaw21_SlotBack_n6 nodeDlaw21_SlotBack_n6 outlaw21_SlotBack_n6) := csum_node mixed tabOk envlaw21_SlotBackOk 0 (exk [4, 6, 14, 16, 17, 18] [8] [(0, [4, 14, 16])]) annLlaw21_SlotBack_n6_ok declaw21_SlotBack_n6_ok nodelaw21_SlotBack_n6_ok nodelaw21_SlotBack_n6_nat
abbrev Ilaw21_SlotBack_n6v1 := (List UInt8) × (Int) × (Int) × (Int) × (Int) × (List UInt8) × (Int) × (Int) × (List UInt8) × (Int) × (Int) × (Int) × (Int) × (List Int)
abbrev Ylaw21_SlotBack_n6v1 := ((List Int)) ⊕ (Unit)
def Slaw21_SlotBack_n6v1 : Ilaw21_SlotBack_n6v1 → St := fun (t14, t17, o0_0, o0_1, o0_2, o0_3, o0_4, o0_5, o0_6, o1_0, o1_1, o1_2, o1_3, o2) => { env := [(4, AV.ptr 0 0), (6, AV.ptr 1 0), (14, AV.str t14), (16, AV.own 2), (17, AV.int IntKind.i64 t17), (18, AV.int IntKind.i64 (1))], stk := [[]], H := [AE.Obj.cells [AV.int IntKind.i64 o0_0, AV.int IntKind.i64 o0_1, AV.int IntKind.i64 o0_2, AV.str o0_3, AV.int IntKind.i64 o0_4, AV.int IntKind.i64 o0_5, AV.str o0_6], AE.Obj.cells [AV.int IntKind.u8 o1_0, AV.int IntKind.u8 o1_1, AV.int IntKind.u8 o1_2, AV.int IntKind.u8 o1_3], Obj.arr (Ty.int IntKind.u8) o2], blk := 20480 }
def declaw21_SlotBack_n6v1 (s : St) : Option Ilaw21_SlotBack_n6v1 := match s with
  | { env := [(4, AV.ptr 0 0), (6, AV.ptr 1 0), (14, AV.str t14), (16, AV.own 2), (17, AV.int IntKind.i64 t17), (18, AV.int IntKind.i64 r2)], stk := [[]], H := [AE.Obj.cells [AV.int IntKind.i64 o0_0, AV.int IntKind.i64 o0_1, AV.int IntKind.i64 o0_2, AV.str o0_3, AV.int IntKind.i64 o0_4, AV.int IntKind.i64 o0_5, AV.str o0_6], AE.Obj.cells [AV.int IntKind.u8 o1_0, AV.int IntKind.u8 o1_1, AV.int IntKind.u8 o1_2, AV.int IntKind.u8 o1_3], Obj.arr (Ty.int IntKind.u8) o2], blk := 20480 } => cond (decide (r2 = 1)) (some (t14, t17, o0_0, o0_1, o0_2, o0_3, o0_4, o0_5, o0_6, o1_0, o1_1, o1_2, o1_3, o2)) none
  | _ => none
theorem declaw21_SlotBack_n6v1_ok (s : St) (x : Ilaw21_SlotBack_n6v1) (h : declaw21_SlotBack_n6v1 s = some x) : s = Slaw21_SlotBack_n6v1 x := by
  unfold declaw21_SlotBack_n6v1 at h
  split at h
  · replace h := cond_noneO h; obtain ⟨hg, h⟩ := h; simp only [Bool.and_eq_true, decide_eq_true_eq] at hg; simp only [hg]; cases h; rfl
  · cases h
def outlaw21_SlotBack_n6v1 : Ilaw21_SlotBack_n6v1 → (Ex → St → Ans) → Ylaw21_SlotBack_n6v1 → Ans := fun (t14, t17, o0_0, o0_1, o0_2, o0_3, o0_4, o0_5, o0_6, o1_0, o1_1, o1_2, o1_3, o2) K => (Sum.elim (fun o2_y => K (Ex.norm) { env := [(4, AV.ptr 0 0), (6, AV.ptr 1 0), (14, AV.str t14), (16, AV.own 2), (17, AV.int IntKind.i64 t17), (18, AV.int IntKind.i64 (2))], stk := [[]], H := [AE.Obj.cells [AV.int IntKind.i64 o0_0, AV.int IntKind.i64 o0_1, AV.int IntKind.i64 o0_2, AV.str o0_3, AV.int IntKind.i64 o0_4, AV.int IntKind.i64 o0_5, AV.str o0_6], AE.Obj.cells [AV.int IntKind.u8 o1_0, AV.int IntKind.u8 o1_1, AV.int IntKind.u8 o1_2, AV.int IntKind.u8 o1_3], Obj.arr (Ty.int IntKind.u8) o2_y], blk := 20481 }) (fun _ => K (Ex.exit 0) { env := [(4, AV.ptr 0 0), (14, AV.str t14), (16, AV.own 1)], stk := [[]], H := [AE.Obj.cells [AV.int IntKind.i64 o0_0, AV.int IntKind.i64 o0_1, AV.int IntKind.i64 o0_2, AV.str o0_3, AV.int IntKind.i64 o0_4, AV.int IntKind.i64 o0_5, AV.str o0_6], Obj.arr (Ty.int IntKind.u8) o2], blk := 20480 }))
noncomputable def nodelaw21_SlotBack_n6v1 {β : Type} : Ilaw21_SlotBack_n6v1 → (Ylaw21_SlotBack_n6v1 → Option β) → Option β := fun (t14, t17, o0_0, o0_1, o0_2, o0_3, o0_4, o0_5, o0_6, o1_0, o1_1, o1_2, o1_3, o2) exit => (bindO (nodeDlaw21_SlotBack_n7v1 (t14, t17, o0_0, o0_1, o0_2, o0_3, o0_4, o0_5, o0_6, o1_0, o1_1, o1_2, o1_3, o2)) fun t101 => (bif t101 then (bif inR (IntKind.wrap IntKind.i64 (t17 + (1 : Int))) (List.length o2) then (bindO (o2[Int.toNat (IntKind.wrap IntKind.i64 (t17 + (1 : Int)))]?) fun x => (bif inR (IntKind.wrap IntKind.i64 (t17 + (1 : Int))) (List.length o2) then (bindO (o2[Int.toNat (IntKind.wrap IntKind.i64 (t17 + (1 : Int)))]?) fun x_2 => (exit (Sum.inl (List.set o2 (Int.toNat (IntKind.wrap IntKind.i64 (t17 + (1 : Int)))) (IntKind.wrap IntKind.u8 (↑(Int.toNat (x % (256 : Int)) ^^^ Int.toNat (o1_1 % (256 : Int))) : Int)))))) else none)) else none) else (exit (Sum.inr ()))))
noncomputable def nodeDlaw21_SlotBack_n6v1 (i : Ilaw21_SlotBack_n6v1) : Option Ylaw21_SlotBack_n6v1 := nodelaw21_SlotBack_n6v1 i some
theorem nodelaw21_SlotBack_n6v1_nat (i : Ilaw21_SlotBack_n6v1) (k : Ylaw21_SlotBack_n6v1 → Ans) : nodelaw21_SlotBack_n6v1 i k = bindO (nodeDlaw21_SlotBack_n6v1 i) k := by
  obtain ⟨t14, t17, o0_0, o0_1, o0_2, o0_3, o0_4, o0_5, o0_6, o1_0, o1_1, o1_2, o1_3, o2⟩ := i
  simp only [nodeDlaw21_SlotBack_n6v1, nodelaw21_SlotBack_n6v1, bindO_cond, bindO_assoc, bindO_none, bindO_pure, bindO_elim, bindO_unP]
theorem nodelaw21_SlotBack_n6v1_ok (i : Ilaw21_SlotBack_n6v1) (K : Ex → St → Ans) : codeI Tryd.tab envlaw21_SlotBack noHint (codeD Tryd.tab envlaw21_SlotBack noHint 0 64) 70 157 annLlaw21_SlotBack_n6 Llaw21_SlotBack_n6 (weakP 0 (exk [4, 6, 14, 16, 17, 18] [8] [(0, [4, 14, 16])]) K) (Slaw21_SlotBack_n6v1 i) = nodelaw21_SlotBack_n6v1 i (outlaw21_SlotBack_n6v1 i K) := by kernel_rfl
theorem GNlaw21_SlotBack_n6v1_ok : CSum Tryd.prog 157 Llaw21_SlotBack_n6 (sumN declaw21_SlotBack_n6v1 nodeDlaw21_SlotBack_n6v1 outlaw21_SlotBack_n6v1) := csum_node mixed tabOk envlaw21_SlotBackOk 0 (exk [4, 6, 14, 16, 17, 18] [8] [(0, [4, 14, 16])]) annLlaw21_SlotBack_n6_ok declaw21_SlotBack_n6v1_ok nodelaw21_SlotBack_n6v1_ok nodelaw21_SlotBack_n6v1_nat
abbrev Ilaw21_SlotBack_n6v2 := (List UInt8) × (Int) × (Int) × (Int) × (Int) × (List UInt8) × (Int) × (Int) × (List UInt8) × (Int) × (Int) × (Int) × (Int) × (List Int)
abbrev Ylaw21_SlotBack_n6v2 := ((List Int)) ⊕ (Unit)
def Slaw21_SlotBack_n6v2 : Ilaw21_SlotBack_n6v2 → St := fun (t14, t17, o0_0, o0_1, o0_2, o0_3, o0_4, o0_5, o0_6, o1_0, o1_1, o1_2, o1_3, o2) => { env := [(4, AV.ptr 0 0), (6, AV.ptr 1 0), (14, AV.str t14), (16, AV.own 2), (17, AV.int IntKind.i64 t17), (18, AV.int IntKind.i64 (2))], stk := [[]], H := [AE.Obj.cells [AV.int IntKind.i64 o0_0, AV.int IntKind.i64 o0_1, AV.int IntKind.i64 o0_2, AV.str o0_3, AV.int IntKind.i64 o0_4, AV.int IntKind.i64 o0_5, AV.str o0_6], AE.Obj.cells [AV.int IntKind.u8 o1_0, AV.int IntKind.u8 o1_1, AV.int IntKind.u8 o1_2, AV.int IntKind.u8 o1_3], Obj.arr (Ty.int IntKind.u8) o2], blk := 20480 }
def declaw21_SlotBack_n6v2 (s : St) : Option Ilaw21_SlotBack_n6v2 := match s with
  | { env := [(4, AV.ptr 0 0), (6, AV.ptr 1 0), (14, AV.str t14), (16, AV.own 2), (17, AV.int IntKind.i64 t17), (18, AV.int IntKind.i64 r2)], stk := [[]], H := [AE.Obj.cells [AV.int IntKind.i64 o0_0, AV.int IntKind.i64 o0_1, AV.int IntKind.i64 o0_2, AV.str o0_3, AV.int IntKind.i64 o0_4, AV.int IntKind.i64 o0_5, AV.str o0_6], AE.Obj.cells [AV.int IntKind.u8 o1_0, AV.int IntKind.u8 o1_1, AV.int IntKind.u8 o1_2, AV.int IntKind.u8 o1_3], Obj.arr (Ty.int IntKind.u8) o2], blk := 20480 } => cond (decide (r2 = 2)) (some (t14, t17, o0_0, o0_1, o0_2, o0_3, o0_4, o0_5, o0_6, o1_0, o1_1, o1_2, o1_3, o2)) none
  | _ => none
theorem declaw21_SlotBack_n6v2_ok (s : St) (x : Ilaw21_SlotBack_n6v2) (h : declaw21_SlotBack_n6v2 s = some x) : s = Slaw21_SlotBack_n6v2 x := by
  unfold declaw21_SlotBack_n6v2 at h
  split at h
  · replace h := cond_noneO h; obtain ⟨hg, h⟩ := h; simp only [Bool.and_eq_true, decide_eq_true_eq] at hg; simp only [hg]; cases h; rfl
  · cases h
def outlaw21_SlotBack_n6v2 : Ilaw21_SlotBack_n6v2 → (Ex → St → Ans) → Ylaw21_SlotBack_n6v2 → Ans := fun (t14, t17, o0_0, o0_1, o0_2, o0_3, o0_4, o0_5, o0_6, o1_0, o1_1, o1_2, o1_3, o2) K => (Sum.elim (fun o2_y => K (Ex.norm) { env := [(4, AV.ptr 0 0), (6, AV.ptr 1 0), (14, AV.str t14), (16, AV.own 2), (17, AV.int IntKind.i64 t17), (18, AV.int IntKind.i64 (3))], stk := [[]], H := [AE.Obj.cells [AV.int IntKind.i64 o0_0, AV.int IntKind.i64 o0_1, AV.int IntKind.i64 o0_2, AV.str o0_3, AV.int IntKind.i64 o0_4, AV.int IntKind.i64 o0_5, AV.str o0_6], AE.Obj.cells [AV.int IntKind.u8 o1_0, AV.int IntKind.u8 o1_1, AV.int IntKind.u8 o1_2, AV.int IntKind.u8 o1_3], Obj.arr (Ty.int IntKind.u8) o2_y], blk := 20481 }) (fun _ => K (Ex.exit 0) { env := [(4, AV.ptr 0 0), (14, AV.str t14), (16, AV.own 1)], stk := [[]], H := [AE.Obj.cells [AV.int IntKind.i64 o0_0, AV.int IntKind.i64 o0_1, AV.int IntKind.i64 o0_2, AV.str o0_3, AV.int IntKind.i64 o0_4, AV.int IntKind.i64 o0_5, AV.str o0_6], Obj.arr (Ty.int IntKind.u8) o2], blk := 20480 }))
noncomputable def nodelaw21_SlotBack_n6v2 {β : Type} : Ilaw21_SlotBack_n6v2 → (Ylaw21_SlotBack_n6v2 → Option β) → Option β := fun (t14, t17, o0_0, o0_1, o0_2, o0_3, o0_4, o0_5, o0_6, o1_0, o1_1, o1_2, o1_3, o2) exit => (bindO (nodeDlaw21_SlotBack_n7v2 (t14, t17, o0_0, o0_1, o0_2, o0_3, o0_4, o0_5, o0_6, o1_0, o1_1, o1_2, o1_3, o2)) fun t101 => (bif t101 then (bif inR (IntKind.wrap IntKind.i64 (t17 + (2 : Int))) (List.length o2) then (bindO (o2[Int.toNat (IntKind.wrap IntKind.i64 (t17 + (2 : Int)))]?) fun x => (bif inR (IntKind.wrap IntKind.i64 (t17 + (2 : Int))) (List.length o2) then (bindO (o2[Int.toNat (IntKind.wrap IntKind.i64 (t17 + (2 : Int)))]?) fun x_2 => (exit (Sum.inl (List.set o2 (Int.toNat (IntKind.wrap IntKind.i64 (t17 + (2 : Int)))) (IntKind.wrap IntKind.u8 (↑(Int.toNat (x % (256 : Int)) ^^^ Int.toNat (o1_2 % (256 : Int))) : Int)))))) else none)) else none) else (exit (Sum.inr ()))))
noncomputable def nodeDlaw21_SlotBack_n6v2 (i : Ilaw21_SlotBack_n6v2) : Option Ylaw21_SlotBack_n6v2 := nodelaw21_SlotBack_n6v2 i some
theorem nodelaw21_SlotBack_n6v2_nat (i : Ilaw21_SlotBack_n6v2) (k : Ylaw21_SlotBack_n6v2 → Ans) : nodelaw21_SlotBack_n6v2 i k = bindO (nodeDlaw21_SlotBack_n6v2 i) k := by
  obtain ⟨t14, t17, o0_0, o0_1, o0_2, o0_3, o0_4, o0_5, o0_6, o1_0, o1_1, o1_2, o1_3, o2⟩ := i
  simp only [nodeDlaw21_SlotBack_n6v2, nodelaw21_SlotBack_n6v2, bindO_cond, bindO_assoc, bindO_none, bindO_pure, bindO_elim, bindO_unP]
theorem nodelaw21_SlotBack_n6v2_ok (i : Ilaw21_SlotBack_n6v2) (K : Ex → St → Ans) : codeI Tryd.tab envlaw21_SlotBack noHint (codeD Tryd.tab envlaw21_SlotBack noHint 0 64) 70 157 annLlaw21_SlotBack_n6 Llaw21_SlotBack_n6 (weakP 0 (exk [4, 6, 14, 16, 17, 18] [8] [(0, [4, 14, 16])]) K) (Slaw21_SlotBack_n6v2 i) = nodelaw21_SlotBack_n6v2 i (outlaw21_SlotBack_n6v2 i K) := by kernel_rfl
theorem GNlaw21_SlotBack_n6v2_ok : CSum Tryd.prog 157 Llaw21_SlotBack_n6 (sumN declaw21_SlotBack_n6v2 nodeDlaw21_SlotBack_n6v2 outlaw21_SlotBack_n6v2) := csum_node mixed tabOk envlaw21_SlotBackOk 0 (exk [4, 6, 14, 16, 17, 18] [8] [(0, [4, 14, 16])]) annLlaw21_SlotBack_n6_ok declaw21_SlotBack_n6v2_ok nodelaw21_SlotBack_n6v2_ok nodelaw21_SlotBack_n6v2_nat
abbrev Ilaw21_SlotBack_n6v3 := (List UInt8) × (Int) × (Int) × (Int) × (Int) × (List UInt8) × (Int) × (Int) × (List UInt8) × (Int) × (Int) × (Int) × (Int) × (List Int)
abbrev Ylaw21_SlotBack_n6v3 := ((List Int)) ⊕ (Unit)
def Slaw21_SlotBack_n6v3 : Ilaw21_SlotBack_n6v3 → St := fun (t14, t17, o0_0, o0_1, o0_2, o0_3, o0_4, o0_5, o0_6, o1_0, o1_1, o1_2, o1_3, o2) => { env := [(4, AV.ptr 0 0), (6, AV.ptr 1 0), (14, AV.str t14), (16, AV.own 2), (17, AV.int IntKind.i64 t17), (18, AV.int IntKind.i64 (3))], stk := [[]], H := [AE.Obj.cells [AV.int IntKind.i64 o0_0, AV.int IntKind.i64 o0_1, AV.int IntKind.i64 o0_2, AV.str o0_3, AV.int IntKind.i64 o0_4, AV.int IntKind.i64 o0_5, AV.str o0_6], AE.Obj.cells [AV.int IntKind.u8 o1_0, AV.int IntKind.u8 o1_1, AV.int IntKind.u8 o1_2, AV.int IntKind.u8 o1_3], Obj.arr (Ty.int IntKind.u8) o2], blk := 20480 }
def declaw21_SlotBack_n6v3 (s : St) : Option Ilaw21_SlotBack_n6v3 := match s with
  | { env := [(4, AV.ptr 0 0), (6, AV.ptr 1 0), (14, AV.str t14), (16, AV.own 2), (17, AV.int IntKind.i64 t17), (18, AV.int IntKind.i64 r2)], stk := [[]], H := [AE.Obj.cells [AV.int IntKind.i64 o0_0, AV.int IntKind.i64 o0_1, AV.int IntKind.i64 o0_2, AV.str o0_3, AV.int IntKind.i64 o0_4, AV.int IntKind.i64 o0_5, AV.str o0_6], AE.Obj.cells [AV.int IntKind.u8 o1_0, AV.int IntKind.u8 o1_1, AV.int IntKind.u8 o1_2, AV.int IntKind.u8 o1_3], Obj.arr (Ty.int IntKind.u8) o2], blk := 20480 } => cond (decide (r2 = 3)) (some (t14, t17, o0_0, o0_1, o0_2, o0_3, o0_4, o0_5, o0_6, o1_0, o1_1, o1_2, o1_3, o2)) none
  | _ => none
theorem declaw21_SlotBack_n6v3_ok (s : St) (x : Ilaw21_SlotBack_n6v3) (h : declaw21_SlotBack_n6v3 s = some x) : s = Slaw21_SlotBack_n6v3 x := by
  unfold declaw21_SlotBack_n6v3 at h
  split at h
  · replace h := cond_noneO h; obtain ⟨hg, h⟩ := h; simp only [Bool.and_eq_true, decide_eq_true_eq] at hg; simp only [hg]; cases h; rfl
  · cases h
def outlaw21_SlotBack_n6v3 : Ilaw21_SlotBack_n6v3 → (Ex → St → Ans) → Ylaw21_SlotBack_n6v3 → Ans := fun (t14, t17, o0_0, o0_1, o0_2, o0_3, o0_4, o0_5, o0_6, o1_0, o1_1, o1_2, o1_3, o2) K => (Sum.elim (fun o2_y => K (Ex.norm) { env := [(4, AV.ptr 0 0), (6, AV.ptr 1 0), (14, AV.str t14), (16, AV.own 2), (17, AV.int IntKind.i64 t17), (18, AV.int IntKind.i64 (4))], stk := [[]], H := [AE.Obj.cells [AV.int IntKind.i64 o0_0, AV.int IntKind.i64 o0_1, AV.int IntKind.i64 o0_2, AV.str o0_3, AV.int IntKind.i64 o0_4, AV.int IntKind.i64 o0_5, AV.str o0_6], AE.Obj.cells [AV.int IntKind.u8 o1_0, AV.int IntKind.u8 o1_1, AV.int IntKind.u8 o1_2, AV.int IntKind.u8 o1_3], Obj.arr (Ty.int IntKind.u8) o2_y], blk := 20481 }) (fun _ => K (Ex.exit 0) { env := [(4, AV.ptr 0 0), (14, AV.str t14), (16, AV.own 1)], stk := [[]], H := [AE.Obj.cells [AV.int IntKind.i64 o0_0, AV.int IntKind.i64 o0_1, AV.int IntKind.i64 o0_2, AV.str o0_3, AV.int IntKind.i64 o0_4, AV.int IntKind.i64 o0_5, AV.str o0_6], Obj.arr (Ty.int IntKind.u8) o2], blk := 20480 }))
noncomputable def nodelaw21_SlotBack_n6v3 {β : Type} : Ilaw21_SlotBack_n6v3 → (Ylaw21_SlotBack_n6v3 → Option β) → Option β := fun (t14, t17, o0_0, o0_1, o0_2, o0_3, o0_4, o0_5, o0_6, o1_0, o1_1, o1_2, o1_3, o2) exit => (bindO (nodeDlaw21_SlotBack_n7v3 (t14, t17, o0_0, o0_1, o0_2, o0_3, o0_4, o0_5, o0_6, o1_0, o1_1, o1_2, o1_3, o2)) fun t101 => (bif t101 then (bif inR (IntKind.wrap IntKind.i64 (t17 + (3 : Int))) (List.length o2) then (bindO (o2[Int.toNat (IntKind.wrap IntKind.i64 (t17 + (3 : Int)))]?) fun x => (bif inR (IntKind.wrap IntKind.i64 (t17 + (3 : Int))) (List.length o2) then (bindO (o2[Int.toNat (IntKind.wrap IntKind.i64 (t17 + (3 : Int)))]?) fun x_2 => (exit (Sum.inl (List.set o2 (Int.toNat (IntKind.wrap IntKind.i64 (t17 + (3 : Int)))) (IntKind.wrap IntKind.u8 (↑(Int.toNat (x % (256 : Int)) ^^^ Int.toNat (o1_3 % (256 : Int))) : Int)))))) else none)) else none) else (exit (Sum.inr ()))))
noncomputable def nodeDlaw21_SlotBack_n6v3 (i : Ilaw21_SlotBack_n6v3) : Option Ylaw21_SlotBack_n6v3 := nodelaw21_SlotBack_n6v3 i some
theorem nodelaw21_SlotBack_n6v3_nat (i : Ilaw21_SlotBack_n6v3) (k : Ylaw21_SlotBack_n6v3 → Ans) : nodelaw21_SlotBack_n6v3 i k = bindO (nodeDlaw21_SlotBack_n6v3 i) k := by
  obtain ⟨t14, t17, o0_0, o0_1, o0_2, o0_3, o0_4, o0_5, o0_6, o1_0, o1_1, o1_2, o1_3, o2⟩ := i
  simp only [nodeDlaw21_SlotBack_n6v3, nodelaw21_SlotBack_n6v3, bindO_cond, bindO_assoc, bindO_none, bindO_pure, bindO_elim, bindO_unP]
theorem nodelaw21_SlotBack_n6v3_ok (i : Ilaw21_SlotBack_n6v3) (K : Ex → St → Ans) : codeI Tryd.tab envlaw21_SlotBack noHint (codeD Tryd.tab envlaw21_SlotBack noHint 0 64) 70 157 annLlaw21_SlotBack_n6 Llaw21_SlotBack_n6 (weakP 0 (exk [4, 6, 14, 16, 17, 18] [8] [(0, [4, 14, 16])]) K) (Slaw21_SlotBack_n6v3 i) = nodelaw21_SlotBack_n6v3 i (outlaw21_SlotBack_n6v3 i K) := by kernel_rfl
theorem GNlaw21_SlotBack_n6v3_ok : CSum Tryd.prog 157 Llaw21_SlotBack_n6 (sumN declaw21_SlotBack_n6v3 nodeDlaw21_SlotBack_n6v3 outlaw21_SlotBack_n6v3) := csum_node mixed tabOk envlaw21_SlotBackOk 0 (exk [4, 6, 14, 16, 17, 18] [8] [(0, [4, 14, 16])]) annLlaw21_SlotBack_n6_ok declaw21_SlotBack_n6v3_ok nodelaw21_SlotBack_n6v3_ok nodelaw21_SlotBack_n6v3_nat
abbrev Ilaw21_SlotBack_n6v4 := (List UInt8) × (Int) × (Int) × (Int) × (Int) × (List UInt8) × (Int) × (Int) × (List UInt8) × (Int) × (Int) × (Int) × (Int) × (List Int)
abbrev Ylaw21_SlotBack_n6v4 := Unit
def Slaw21_SlotBack_n6v4 : Ilaw21_SlotBack_n6v4 → St := fun (t14, t17, o0_0, o0_1, o0_2, o0_3, o0_4, o0_5, o0_6, o1_0, o1_1, o1_2, o1_3, o2) => { env := [(4, AV.ptr 0 0), (6, AV.ptr 1 0), (14, AV.str t14), (16, AV.own 2), (17, AV.int IntKind.i64 t17), (18, AV.int IntKind.i64 (4))], stk := [[]], H := [AE.Obj.cells [AV.int IntKind.i64 o0_0, AV.int IntKind.i64 o0_1, AV.int IntKind.i64 o0_2, AV.str o0_3, AV.int IntKind.i64 o0_4, AV.int IntKind.i64 o0_5, AV.str o0_6], AE.Obj.cells [AV.int IntKind.u8 o1_0, AV.int IntKind.u8 o1_1, AV.int IntKind.u8 o1_2, AV.int IntKind.u8 o1_3], Obj.arr (Ty.int IntKind.u8) o2], blk := 20480 }
def declaw21_SlotBack_n6v4 (s : St) : Option Ilaw21_SlotBack_n6v4 := match s with
  | { env := [(4, AV.ptr 0 0), (6, AV.ptr 1 0), (14, AV.str t14), (16, AV.own 2), (17, AV.int IntKind.i64 t17), (18, AV.int IntKind.i64 r2)], stk := [[]], H := [AE.Obj.cells [AV.int IntKind.i64 o0_0, AV.int IntKind.i64 o0_1, AV.int IntKind.i64 o0_2, AV.str o0_3, AV.int IntKind.i64 o0_4, AV.int IntKind.i64 o0_5, AV.str o0_6], AE.Obj.cells [AV.int IntKind.u8 o1_0, AV.int IntKind.u8 o1_1, AV.int IntKind.u8 o1_2, AV.int IntKind.u8 o1_3], Obj.arr (Ty.int IntKind.u8) o2], blk := 20480 } => cond (decide (r2 = 4)) (some (t14, t17, o0_0, o0_1, o0_2, o0_3, o0_4, o0_5, o0_6, o1_0, o1_1, o1_2, o1_3, o2)) none
  | _ => none
theorem declaw21_SlotBack_n6v4_ok (s : St) (x : Ilaw21_SlotBack_n6v4) (h : declaw21_SlotBack_n6v4 s = some x) : s = Slaw21_SlotBack_n6v4 x := by
  unfold declaw21_SlotBack_n6v4 at h
  split at h
  · replace h := cond_noneO h; obtain ⟨hg, h⟩ := h; simp only [Bool.and_eq_true, decide_eq_true_eq] at hg; simp only [hg]; cases h; rfl
  · cases h
def outlaw21_SlotBack_n6v4 : Ilaw21_SlotBack_n6v4 → (Ex → St → Ans) → Ylaw21_SlotBack_n6v4 → Ans := fun (t14, t17, o0_0, o0_1, o0_2, o0_3, o0_4, o0_5, o0_6, o1_0, o1_1, o1_2, o1_3, o2) K => fun _ => K (Ex.exit 0) { env := [(4, AV.ptr 0 0), (14, AV.str t14), (16, AV.own 1)], stk := [[]], H := [AE.Obj.cells [AV.int IntKind.i64 o0_0, AV.int IntKind.i64 o0_1, AV.int IntKind.i64 o0_2, AV.str o0_3, AV.int IntKind.i64 o0_4, AV.int IntKind.i64 o0_5, AV.str o0_6], Obj.arr (Ty.int IntKind.u8) o2], blk := 20480 }
noncomputable def nodelaw21_SlotBack_n6v4 {β : Type} : Ilaw21_SlotBack_n6v4 → (Ylaw21_SlotBack_n6v4 → Option β) → Option β := fun (t14, t17, o0_0, o0_1, o0_2, o0_3, o0_4, o0_5, o0_6, o1_0, o1_1, o1_2, o1_3, o2) exit => (bindO (nodeDlaw21_SlotBack_n7v4 (t14, t17, o0_0, o0_1, o0_2, o0_3, o0_4, o0_5, o0_6, o1_0, o1_1, o1_2, o1_3, o2)) fun _ => (exit ()))
noncomputable def nodeDlaw21_SlotBack_n6v4 (i : Ilaw21_SlotBack_n6v4) : Option Ylaw21_SlotBack_n6v4 := nodelaw21_SlotBack_n6v4 i some
theorem nodelaw21_SlotBack_n6v4_nat (i : Ilaw21_SlotBack_n6v4) (k : Ylaw21_SlotBack_n6v4 → Ans) : nodelaw21_SlotBack_n6v4 i k = bindO (nodeDlaw21_SlotBack_n6v4 i) k := by
  obtain ⟨t14, t17, o0_0, o0_1, o0_2, o0_3, o0_4, o0_5, o0_6, o1_0, o1_1, o1_2, o1_3, o2⟩ := i
  simp only [nodeDlaw21_SlotBack_n6v4, nodelaw21_SlotBack_n6v4, bindO_cond, bindO_assoc, bindO_none, bindO_pure, bindO_elim, bindO_unP]
theorem nodelaw21_SlotBack_n6v4_ok (i : Ilaw21_SlotBack_n6v4) (K : Ex → St → Ans) : codeI Tryd.tab envlaw21_SlotBack noHint (codeD Tryd.tab envlaw21_SlotBack noHint 0 64) 70 157 annLlaw21_SlotBack_n6 Llaw21_SlotBack_n6 (weakP 0 (exk [4, 6, 14, 16, 17, 18] [8] [(0, [4, 14, 16])]) K) (Slaw21_SlotBack_n6v4 i) = nodelaw21_SlotBack_n6v4 i (outlaw21_SlotBack_n6v4 i K) := by kernel_rfl
theorem GNlaw21_SlotBack_n6v4_ok : CSum Tryd.prog 157 Llaw21_SlotBack_n6 (sumN declaw21_SlotBack_n6v4 nodeDlaw21_SlotBack_n6v4 outlaw21_SlotBack_n6v4) := csum_node mixed tabOk envlaw21_SlotBackOk 0 (exk [4, 6, 14, 16, 17, 18] [8] [(0, [4, 14, 16])]) annLlaw21_SlotBack_n6_ok declaw21_SlotBack_n6v4_ok nodelaw21_SlotBack_n6v4_ok nodelaw21_SlotBack_n6v4_nat
noncomputable def Glaw21_SlotBack_n6 : (Ex → St → Ans) → St → Ans := (altN declaw21_SlotBack_n6 (sumN declaw21_SlotBack_n6 nodeDlaw21_SlotBack_n6 outlaw21_SlotBack_n6) (altN declaw21_SlotBack_n6v1 (sumN declaw21_SlotBack_n6v1 nodeDlaw21_SlotBack_n6v1 outlaw21_SlotBack_n6v1) (altN declaw21_SlotBack_n6v2 (sumN declaw21_SlotBack_n6v2 nodeDlaw21_SlotBack_n6v2 outlaw21_SlotBack_n6v2) (altN declaw21_SlotBack_n6v3 (sumN declaw21_SlotBack_n6v3 nodeDlaw21_SlotBack_n6v3 outlaw21_SlotBack_n6v3) (sumN declaw21_SlotBack_n6v4 nodeDlaw21_SlotBack_n6v4 outlaw21_SlotBack_n6v4)))))
theorem Glaw21_SlotBack_n6_ok : CSum Tryd.prog 157 Llaw21_SlotBack_n6 Glaw21_SlotBack_n6 := (csum_altN GNlaw21_SlotBack_n6_ok (csum_altN GNlaw21_SlotBack_n6v1_ok (csum_altN GNlaw21_SlotBack_n6v2_ok (csum_altN GNlaw21_SlotBack_n6v3_ok GNlaw21_SlotBack_n6v4_ok))))
noncomputable def Llaw21_SlotBack_n5 : Code := codeAt [1, 1, 1, 1, 1, 1, 1, 1, 1, 0, 1] blaw21_SlotBack
noncomputable def annLlaw21_SlotBack_n5 : Ann := (.block (.at 0 [4, 6, 14, 16, 17, 18] (.loop (.cut 0 [4, 6, 14, 16, 17, 18] Glaw21_SlotBack_n6))))
theorem annLlaw21_SlotBack_n5_ok : AnnOk Tryd.prog 157 Llaw21_SlotBack_n5 annLlaw21_SlotBack_n5 := (annOk_at Glaw21_SlotBack_n6_ok)
abbrev Ilaw21_SlotBack_n5 := (List UInt8) × (Int) × (Int) × (Int) × (Int) × (List UInt8) × (Int) × (Int) × (List UInt8) × (Int) × (Int) × (Int) × (Int) × (List Int)
abbrev Ylaw21_SlotBack_n5 := (List Int)
def Slaw21_SlotBack_n5 : Ilaw21_SlotBack_n5 → St := fun (t14, t17, o0_0, o0_1, o0_2, o0_3, o0_4, o0_5, o0_6, o1_0, o1_1, o1_2, o1_3, o2) => { env := [(4, AV.ptr 0 0), (6, AV.ptr 1 0), (14, AV.str t14), (16, AV.own 2), (17, AV.int IntKind.i64 t17), (18, AV.int IntKind.i64 (0))], stk := [[]], H := [AE.Obj.cells [AV.int IntKind.i64 o0_0, AV.int IntKind.i64 o0_1, AV.int IntKind.i64 o0_2, AV.str o0_3, AV.int IntKind.i64 o0_4, AV.int IntKind.i64 o0_5, AV.str o0_6], AE.Obj.cells [AV.int IntKind.u8 o1_0, AV.int IntKind.u8 o1_1, AV.int IntKind.u8 o1_2, AV.int IntKind.u8 o1_3], Obj.arr (Ty.int IntKind.u8) o2], blk := 20480 }
def declaw21_SlotBack_n5 (s : St) : Option Ilaw21_SlotBack_n5 := match s with
  | { env := [(4, AV.ptr 0 0), (6, AV.ptr 1 0), (14, AV.str t14), (16, AV.own 2), (17, AV.int IntKind.i64 t17), (18, AV.int IntKind.i64 r2)], stk := [[]], H := [AE.Obj.cells [AV.int IntKind.i64 o0_0, AV.int IntKind.i64 o0_1, AV.int IntKind.i64 o0_2, AV.str o0_3, AV.int IntKind.i64 o0_4, AV.int IntKind.i64 o0_5, AV.str o0_6], AE.Obj.cells [AV.int IntKind.u8 o1_0, AV.int IntKind.u8 o1_1, AV.int IntKind.u8 o1_2, AV.int IntKind.u8 o1_3], Obj.arr (Ty.int IntKind.u8) o2], blk := 20480 } => cond (decide (r2 = 0)) (some (t14, t17, o0_0, o0_1, o0_2, o0_3, o0_4, o0_5, o0_6, o1_0, o1_1, o1_2, o1_3, o2)) none
  | _ => none
theorem declaw21_SlotBack_n5_ok (s : St) (x : Ilaw21_SlotBack_n5) (h : declaw21_SlotBack_n5 s = some x) : s = Slaw21_SlotBack_n5 x := by
  unfold declaw21_SlotBack_n5 at h
  split at h
  · replace h := cond_noneO h; obtain ⟨hg, h⟩ := h; simp only [Bool.and_eq_true, decide_eq_true_eq] at hg; simp only [hg]; cases h; rfl
  · cases h
def outlaw21_SlotBack_n5 : Ilaw21_SlotBack_n5 → (Ex → St → Ans) → Ylaw21_SlotBack_n5 → Ans := fun (t14, t17, o0_0, o0_1, o0_2, o0_3, o0_4, o0_5, o0_6, o1_0, o1_1, o1_2, o1_3, o2) K => fun o1_y => K (Ex.norm) { env := [(4, AV.ptr 0 0), (14, AV.str t14), (16, AV.own 1)], stk := [[]], H := [AE.Obj.cells [AV.int IntKind.i64 o0_0, AV.int IntKind.i64 o0_1, AV.int IntKind.i64 o0_2, AV.str o0_3, AV.int IntKind.i64 o0_4, AV.int IntKind.i64 o0_5, AV.str o0_6], Obj.arr (Ty.int IntKind.u8) o1_y], blk := 20480 }
noncomputable def nodelaw21_SlotBack_n5 {β : Type} : Ilaw21_SlotBack_n5 → (Ylaw21_SlotBack_n5 → Option β) → Option β := fun (t14, t17, o0_0, o0_1, o0_2, o0_3, o0_4, o0_5, o0_6, o1_0, o1_1, o1_2, o1_3, o2) exit => (bindO (nodeDlaw21_SlotBack_n6 (t14, t17, o0_0, o0_1, o0_2, o0_3, o0_4, o0_5, o0_6, o1_0, o1_1, o1_2, o1_3, o2)) (Sum.elim (fun o2_2 => (bindO (nodeDlaw21_SlotBack_n6v1 (t14, t17, o0_0, o0_1, o0_2, o0_3, o0_4, o0_5, o0_6, o1_0, o1_1, o1_2, o1_3, o2_2)) (Sum.elim (fun o2_3 => (bindO (nodeDlaw21_SlotBack_n6v2 (t14, t17, o0_0, o0_1, o0_2, o0_3, o0_4, o0_5, o0_6, o1_0, o1_1, o1_2, o1_3, o2_3)) (Sum.elim (fun o2_4 => (bindO (nodeDlaw21_SlotBack_n6v3 (t14, t17, o0_0, o0_1, o0_2, o0_3, o0_4, o0_5, o0_6, o1_0, o1_1, o1_2, o1_3, o2_4)) (Sum.elim (fun o2_5 => (bindO (nodeDlaw21_SlotBack_n6v4 (t14, t17, o0_0, o0_1, o0_2, o0_3, o0_4, o0_5, o0_6, o1_0, o1_1, o1_2, o1_3, o2_5)) fun _ => (exit (o2_5)))) (fun _ => (exit (o2_4)))))) (fun _ => (exit (o2_3)))))) (fun _ => (exit (o2_2)))))) (fun _ => (exit (o2)))))
noncomputable def nodeDlaw21_SlotBack_n5 (i : Ilaw21_SlotBack_n5) : Option Ylaw21_SlotBack_n5 := nodelaw21_SlotBack_n5 i some
theorem nodelaw21_SlotBack_n5_nat (i : Ilaw21_SlotBack_n5) (k : Ylaw21_SlotBack_n5 → Ans) : nodelaw21_SlotBack_n5 i k = bindO (nodeDlaw21_SlotBack_n5 i) k := by
  obtain ⟨t14, t17, o0_0, o0_1, o0_2, o0_3, o0_4, o0_5, o0_6, o1_0, o1_1, o1_2, o1_3, o2⟩ := i
  simp only [nodeDlaw21_SlotBack_n5, nodelaw21_SlotBack_n5, bindO_cond, bindO_assoc, bindO_none, bindO_pure, bindO_elim, bindO_unP]
theorem nodelaw21_SlotBack_n5_ok (i : Ilaw21_SlotBack_n5) (K : Ex → St → Ans) : codeI Tryd.tab envlaw21_SlotBack noHint (codeD Tryd.tab envlaw21_SlotBack noHint 0 64) 70 157 annLlaw21_SlotBack_n5 Llaw21_SlotBack_n5 (weakP 0 (exk [4, 14, 16] [8] []) K) (Slaw21_SlotBack_n5 i) = nodelaw21_SlotBack_n5 i (outlaw21_SlotBack_n5 i K) := by kernel_rfl
theorem GNlaw21_SlotBack_n5_ok : CSum Tryd.prog 157 Llaw21_SlotBack_n5 (sumN declaw21_SlotBack_n5 nodeDlaw21_SlotBack_n5 outlaw21_SlotBack_n5) := csum_node mixed tabOk envlaw21_SlotBackOk 0 (exk [4, 14, 16] [8] []) annLlaw21_SlotBack_n5_ok declaw21_SlotBack_n5_ok nodelaw21_SlotBack_n5_ok nodelaw21_SlotBack_n5_nat
noncomputable def Glaw21_SlotBack_n5 : (Ex → St → Ans) → St → Ans := (sumN declaw21_SlotBack_n5 nodeDlaw21_SlotBack_n5 outlaw21_SlotBack_n5)
theorem Glaw21_SlotBack_n5_ok : CSum Tryd.prog 157 Llaw21_SlotBack_n5 Glaw21_SlotBack_n5 := GNlaw21_SlotBack_n5_ok
noncomputable def Llaw21_SlotBack_n4 : Code := codeAt [1, 1, 1, 1, 1, 1, 0, 1, 0, 0] blaw21_SlotBack
noncomputable def annLlaw21_SlotBack_n4 : Ann := .none
theorem annLlaw21_SlotBack_n4_ok : AnnOk Tryd.prog 157 Llaw21_SlotBack_n4 annLlaw21_SlotBack_n4 := (annOk_none _ _ _)
abbrev Ilaw21_SlotBack_n4 := (List UInt8) × (Int)
abbrev Ylaw21_SlotBack_n4 := (Bool)
def Slaw21_SlotBack_n4 : Ilaw21_SlotBack_n4 → St := fun (t14, t15) => { env := [(14, AV.str t14), (15, AV.int IntKind.i64 t15)], stk := [[]], H := [], blk := 20480 }
def declaw21_SlotBack_n4 (s : St) : Option Ilaw21_SlotBack_n4 := match s with
  | { env := [(14, AV.str t14), (15, AV.int IntKind.i64 t15)], stk := [[]], H := [], blk := 20480 } => some (t14, t15)
  | _ => none
theorem declaw21_SlotBack_n4_ok (s : St) (x : Ilaw21_SlotBack_n4) (h : declaw21_SlotBack_n4 s = some x) : s = Slaw21_SlotBack_n4 x := by
  unfold declaw21_SlotBack_n4 at h
  split at h
  · cases h; rfl
  · cases h
def outlaw21_SlotBack_n4 : Ilaw21_SlotBack_n4 → (Ex → St → Ans) → Ylaw21_SlotBack_n4 → Ans := fun (t14, t15) K => fun t8_y => K (Ex.norm) { env := [(8, AV.bool t8_y)], stk := [[]], H := [], blk := 20480 }
noncomputable def nodelaw21_SlotBack_n4 {β : Type} : Ilaw21_SlotBack_n4 → (Ylaw21_SlotBack_n4 → Option β) → Option β := fun (t14, t15) exit => (bif t15 != (0 : Int) then (exit (t14 == [])) else (exit (false)))
noncomputable def nodeDlaw21_SlotBack_n4 (i : Ilaw21_SlotBack_n4) : Option Ylaw21_SlotBack_n4 := nodelaw21_SlotBack_n4 i some
theorem nodelaw21_SlotBack_n4_nat (i : Ilaw21_SlotBack_n4) (k : Ylaw21_SlotBack_n4 → Ans) : nodelaw21_SlotBack_n4 i k = bindO (nodeDlaw21_SlotBack_n4 i) k := by
  obtain ⟨t14, t15⟩ := i
  simp only [nodeDlaw21_SlotBack_n4, nodelaw21_SlotBack_n4, bindO_cond, bindO_assoc, bindO_none, bindO_pure, bindO_elim, bindO_unP]
theorem nodelaw21_SlotBack_n4_ok (i : Ilaw21_SlotBack_n4) (K : Ex → St → Ans) : codeI Tryd.tab envlaw21_SlotBack noHint (codeD Tryd.tab envlaw21_SlotBack noHint 0 64) 70 157 annLlaw21_SlotBack_n4 Llaw21_SlotBack_n4 (weakP 0 (exk [8] [8] []) K) (Slaw21_SlotBack_n4 i) = nodelaw21_SlotBack_n4 i (outlaw21_SlotBack_n4 i K) := by kernel_rfl
theorem GNlaw21_SlotBack_n4_ok : CSum Tryd.prog 157 Llaw21_SlotBack_n4 (sumN declaw21_SlotBack_n4 nodeDlaw21_SlotBack_n4 outlaw21_SlotBack_n4) := csum_node mixed tabOk envlaw21_SlotBackOk 0 (exk [8] [8] []) annLlaw21_SlotBack_n4_ok declaw21_SlotBack_n4_ok nodelaw21_SlotBack_n4_ok nodelaw21_SlotBack_n4_nat
noncomputable def Glaw21_SlotBack_n4 : (Ex → St → Ans) → St → Ans := (sumN declaw21_SlotBack_n4 nodeDlaw21_SlotBack_n4 outlaw21_SlotBack_n4)
theorem Glaw21_SlotBack_n4_ok : CSum Tryd.prog 157 Llaw21_SlotBack_n4 Glaw21_SlotBack_n4 := GNlaw21_SlotBack_n4_ok
noncomputable def Llaw21_SlotBack_n3 : Code := codeAt [1, 1, 1, 1, 1, 1, 0, 0] blaw21_SlotBack
noncomputable def annLlaw21_SlotBack_n3 : Ann := .none
theorem annLlaw21_SlotBack_n3_ok : AnnOk Tryd.prog 157 Llaw21_SlotBack_n3 annLlaw21_SlotBack_n3 := (annOk_none _ _ _)
abbrev Ilaw21_SlotBack_n3 := (Int) × (List UInt8) × (Int) × (Int) × (Int) × (Int) × (List UInt8) × (Int) × (Int) × (List UInt8) × (Int) × (Int) × (Int) × (Int)
abbrev Ylaw21_SlotBack_n3 := (Bool)
def Slaw21_SlotBack_n3 : Ilaw21_SlotBack_n3 → St := fun (t1, t14, t15, o0_0, o0_1, o0_2, o0_3, o0_4, o0_5, o0_6, o1_0, o1_1, o1_2, o1_3) => { env := [(1, AV.int IntKind.i64 t1), (4, AV.ptr 0 0), (6, AV.ptr 1 0), (14, AV.str t14), (15, AV.int IntKind.i64 t15)], stk := [[]], H := [AE.Obj.cells [AV.int IntKind.i64 o0_0, AV.int IntKind.i64 o0_1, AV.int IntKind.i64 o0_2, AV.str o0_3, AV.int IntKind.i64 o0_4, AV.int IntKind.i64 o0_5, AV.str o0_6], AE.Obj.cells [AV.int IntKind.u8 o1_0, AV.int IntKind.u8 o1_1, AV.int IntKind.u8 o1_2, AV.int IntKind.u8 o1_3]], blk := 20480 }
def declaw21_SlotBack_n3 (s : St) : Option Ilaw21_SlotBack_n3 := match s with
  | { env := [(1, AV.int IntKind.i64 t1), (4, AV.ptr 0 0), (6, AV.ptr 1 0), (14, AV.str t14), (15, AV.int IntKind.i64 t15)], stk := [[]], H := [AE.Obj.cells [AV.int IntKind.i64 o0_0, AV.int IntKind.i64 o0_1, AV.int IntKind.i64 o0_2, AV.str o0_3, AV.int IntKind.i64 o0_4, AV.int IntKind.i64 o0_5, AV.str o0_6], AE.Obj.cells [AV.int IntKind.u8 o1_0, AV.int IntKind.u8 o1_1, AV.int IntKind.u8 o1_2, AV.int IntKind.u8 o1_3]], blk := 20480 } => some (t1, t14, t15, o0_0, o0_1, o0_2, o0_3, o0_4, o0_5, o0_6, o1_0, o1_1, o1_2, o1_3)
  | _ => none
theorem declaw21_SlotBack_n3_ok (s : St) (x : Ilaw21_SlotBack_n3) (h : declaw21_SlotBack_n3 s = some x) : s = Slaw21_SlotBack_n3 x := by
  unfold declaw21_SlotBack_n3 at h
  split at h
  · cases h; rfl
  · cases h
def outlaw21_SlotBack_n3 : Ilaw21_SlotBack_n3 → (Ex → St → Ans) → Ylaw21_SlotBack_n3 → Ans := fun (t1, t14, t15, o0_0, o0_1, o0_2, o0_3, o0_4, o0_5, o0_6, o1_0, o1_1, o1_2, o1_3) K => fun t78_y => K (Ex.norm) { env := [(1, AV.int IntKind.i64 t1), (4, AV.ptr 0 0), (6, AV.ptr 1 0), (14, AV.str t14), (15, AV.int IntKind.i64 t15), (78, AV.bool t78_y)], stk := [[]], H := [AE.Obj.cells [AV.int IntKind.i64 o0_0, AV.int IntKind.i64 o0_1, AV.int IntKind.i64 o0_2, AV.str o0_3, AV.int IntKind.i64 o0_4, AV.int IntKind.i64 o0_5, AV.str o0_6], AE.Obj.cells [AV.int IntKind.u8 o1_0, AV.int IntKind.u8 o1_1, AV.int IntKind.u8 o1_2, AV.int IntKind.u8 o1_3]], blk := 20480 }
noncomputable def nodelaw21_SlotBack_n3 {β : Type} : Ilaw21_SlotBack_n3 → (Ylaw21_SlotBack_n3 → Option β) → Option β := fun (t1, t14, t15, o0_0, o0_1, o0_2, o0_3, o0_4, o0_5, o0_6, o1_0, o1_1, o1_2, o1_3) exit => (bif t15 != (0 : Int) then (exit (true)) else (exit ((↑(List.length t14) : Int) != (320 : Int))))
noncomputable def nodeDlaw21_SlotBack_n3 (i : Ilaw21_SlotBack_n3) : Option Ylaw21_SlotBack_n3 := nodelaw21_SlotBack_n3 i some
theorem nodelaw21_SlotBack_n3_nat (i : Ilaw21_SlotBack_n3) (k : Ylaw21_SlotBack_n3 → Ans) : nodelaw21_SlotBack_n3 i k = bindO (nodeDlaw21_SlotBack_n3 i) k := by
  obtain ⟨t1, t14, t15, o0_0, o0_1, o0_2, o0_3, o0_4, o0_5, o0_6, o1_0, o1_1, o1_2, o1_3⟩ := i
  simp only [nodeDlaw21_SlotBack_n3, nodelaw21_SlotBack_n3, bindO_cond, bindO_assoc, bindO_none, bindO_pure, bindO_elim, bindO_unP]
theorem nodelaw21_SlotBack_n3_ok (i : Ilaw21_SlotBack_n3) (K : Ex → St → Ans) : codeI Tryd.tab envlaw21_SlotBack noHint (codeD Tryd.tab envlaw21_SlotBack noHint 0 64) 70 157 annLlaw21_SlotBack_n3 Llaw21_SlotBack_n3 (weakP 0 (exk [1, 4, 6, 14, 15, 78] [8] []) K) (Slaw21_SlotBack_n3 i) = nodelaw21_SlotBack_n3 i (outlaw21_SlotBack_n3 i K) := by kernel_rfl
theorem GNlaw21_SlotBack_n3_ok : CSum Tryd.prog 157 Llaw21_SlotBack_n3 (sumN declaw21_SlotBack_n3 nodeDlaw21_SlotBack_n3 outlaw21_SlotBack_n3) := csum_node mixed tabOk envlaw21_SlotBackOk 0 (exk [1, 4, 6, 14, 15, 78] [8] []) annLlaw21_SlotBack_n3_ok declaw21_SlotBack_n3_ok nodelaw21_SlotBack_n3_ok nodelaw21_SlotBack_n3_nat
noncomputable def Glaw21_SlotBack_n3 : (Ex → St → Ans) → St → Ans := (sumN declaw21_SlotBack_n3 nodeDlaw21_SlotBack_n3 outlaw21_SlotBack_n3)
theorem Glaw21_SlotBack_n3_ok : CSum Tryd.prog 157 Llaw21_SlotBack_n3 Glaw21_SlotBack_n3 := GNlaw21_SlotBack_n3_ok
noncomputable def Llaw21_SlotBack_n2 : Code := codeAt [1, 1, 1, 1, 0, 1, 0, 1, 0] blaw21_SlotBack
noncomputable def annLlaw21_SlotBack_n2 : Ann := .none
theorem annLlaw21_SlotBack_n2_ok : AnnOk Tryd.prog 157 Llaw21_SlotBack_n2 annLlaw21_SlotBack_n2 := (annOk_none _ _ _)
abbrev Ilaw21_SlotBack_n2 := (Int) × (List UInt8) × (Int) × (List UInt8) × (Int) × (Int) × (Int) × (Int) × (List UInt8) × (Int) × (Int) × (List UInt8) × (Int) × (Int) × (Int) × (Int)
abbrev Ylaw21_SlotBack_n2 := (Bool)
def Slaw21_SlotBack_n2 : Ilaw21_SlotBack_n2 → St := fun (t1, t3, t11, t12, t13, o0_0, o0_1, o0_2, o0_3, o0_4, o0_5, o0_6, o1_0, o1_1, o1_2, o1_3) => { env := [(1, AV.int IntKind.i64 t1), (3, AV.str t3), (4, AV.ptr 0 0), (6, AV.ptr 1 0), (11, AV.int IntKind.i64 t11), (12, AV.str t12), (13, AV.int IntKind.i64 t13)], stk := [[]], H := [AE.Obj.cells [AV.int IntKind.i64 o0_0, AV.int IntKind.i64 o0_1, AV.int IntKind.i64 o0_2, AV.str o0_3, AV.int IntKind.i64 o0_4, AV.int IntKind.i64 o0_5, AV.str o0_6], AE.Obj.cells [AV.int IntKind.u8 o1_0, AV.int IntKind.u8 o1_1, AV.int IntKind.u8 o1_2, AV.int IntKind.u8 o1_3]], blk := 20480 }
def declaw21_SlotBack_n2 (s : St) : Option Ilaw21_SlotBack_n2 := match s with
  | { env := [(1, AV.int IntKind.i64 t1), (3, AV.str t3), (4, AV.ptr 0 0), (6, AV.ptr 1 0), (11, AV.int IntKind.i64 t11), (12, AV.str t12), (13, AV.int IntKind.i64 t13)], stk := [[]], H := [AE.Obj.cells [AV.int IntKind.i64 o0_0, AV.int IntKind.i64 o0_1, AV.int IntKind.i64 o0_2, AV.str o0_3, AV.int IntKind.i64 o0_4, AV.int IntKind.i64 o0_5, AV.str o0_6], AE.Obj.cells [AV.int IntKind.u8 o1_0, AV.int IntKind.u8 o1_1, AV.int IntKind.u8 o1_2, AV.int IntKind.u8 o1_3]], blk := 20480 } => some (t1, t3, t11, t12, t13, o0_0, o0_1, o0_2, o0_3, o0_4, o0_5, o0_6, o1_0, o1_1, o1_2, o1_3)
  | _ => none
theorem declaw21_SlotBack_n2_ok (s : St) (x : Ilaw21_SlotBack_n2) (h : declaw21_SlotBack_n2 s = some x) : s = Slaw21_SlotBack_n2 x := by
  unfold declaw21_SlotBack_n2 at h
  split at h
  · cases h; rfl
  · cases h
def outlaw21_SlotBack_n2 : Ilaw21_SlotBack_n2 → (Ex → St → Ans) → Ylaw21_SlotBack_n2 → Ans := fun (t1, t3, t11, t12, t13, o0_0, o0_1, o0_2, o0_3, o0_4, o0_5, o0_6, o1_0, o1_1, o1_2, o1_3) K => fun t66_y => K (Ex.norm) { env := [(1, AV.int IntKind.i64 t1), (4, AV.ptr 0 0), (6, AV.ptr 1 0), (66, AV.bool t66_y)], stk := [[]], H := [AE.Obj.cells [AV.int IntKind.i64 o0_0, AV.int IntKind.i64 o0_1, AV.int IntKind.i64 o0_2, AV.str o0_3, AV.int IntKind.i64 o0_4, AV.int IntKind.i64 o0_5, AV.str o0_6], AE.Obj.cells [AV.int IntKind.u8 o1_0, AV.int IntKind.u8 o1_1, AV.int IntKind.u8 o1_2, AV.int IntKind.u8 o1_3]], blk := 20480 }
noncomputable def nodelaw21_SlotBack_n2 {β : Type} : Ilaw21_SlotBack_n2 → (Ylaw21_SlotBack_n2 → Option β) → Option β := fun (t1, t3, t11, t12, t13, o0_0, o0_1, o0_2, o0_3, o0_4, o0_5, o0_6, o1_0, o1_1, o1_2, o1_3) exit => (bif t11 != (0 : Int) then (exit (true)) else (bif t13 != (0 : Int) then (exit (true)) else (exit (!t12 == t3))))
noncomputable def nodeDlaw21_SlotBack_n2 (i : Ilaw21_SlotBack_n2) : Option Ylaw21_SlotBack_n2 := nodelaw21_SlotBack_n2 i some
theorem nodelaw21_SlotBack_n2_nat (i : Ilaw21_SlotBack_n2) (k : Ylaw21_SlotBack_n2 → Ans) : nodelaw21_SlotBack_n2 i k = bindO (nodeDlaw21_SlotBack_n2 i) k := by
  obtain ⟨t1, t3, t11, t12, t13, o0_0, o0_1, o0_2, o0_3, o0_4, o0_5, o0_6, o1_0, o1_1, o1_2, o1_3⟩ := i
  simp only [nodeDlaw21_SlotBack_n2, nodelaw21_SlotBack_n2, bindO_cond, bindO_assoc, bindO_none, bindO_pure, bindO_elim, bindO_unP]
theorem nodelaw21_SlotBack_n2_ok (i : Ilaw21_SlotBack_n2) (K : Ex → St → Ans) : codeI Tryd.tab envlaw21_SlotBack noHint (codeD Tryd.tab envlaw21_SlotBack noHint 0 64) 70 157 annLlaw21_SlotBack_n2 Llaw21_SlotBack_n2 (weakP 0 (exk [1, 4, 6, 66] [8] []) K) (Slaw21_SlotBack_n2 i) = nodelaw21_SlotBack_n2 i (outlaw21_SlotBack_n2 i K) := by kernel_rfl
theorem GNlaw21_SlotBack_n2_ok : CSum Tryd.prog 157 Llaw21_SlotBack_n2 (sumN declaw21_SlotBack_n2 nodeDlaw21_SlotBack_n2 outlaw21_SlotBack_n2) := csum_node mixed tabOk envlaw21_SlotBackOk 0 (exk [1, 4, 6, 66] [8] []) annLlaw21_SlotBack_n2_ok declaw21_SlotBack_n2_ok nodelaw21_SlotBack_n2_ok nodelaw21_SlotBack_n2_nat
noncomputable def Glaw21_SlotBack_n2 : (Ex → St → Ans) → St → Ans := (sumN declaw21_SlotBack_n2 nodeDlaw21_SlotBack_n2 outlaw21_SlotBack_n2)
theorem Glaw21_SlotBack_n2_ok : CSum Tryd.prog 157 Llaw21_SlotBack_n2 Glaw21_SlotBack_n2 := GNlaw21_SlotBack_n2_ok
noncomputable def Llaw21_SlotBack_n1 : Code := codeAt [1, 1, 1, 1, 0, 1] blaw21_SlotBack
noncomputable def annLlaw21_SlotBack_n1 : Ann := (.cond (.seq .none (.seq (.cut 0 [1, 3, 4, 6, 11, 12, 13] Glaw21_SlotBack_n2) .none)) .none)
theorem annLlaw21_SlotBack_n1_ok : AnnOk Tryd.prog 157 Llaw21_SlotBack_n1 annLlaw21_SlotBack_n1 := ⟨⟨(annOk_none _ _ _), ⟨Glaw21_SlotBack_n2_ok, (annOk_none _ _ _)⟩⟩, (annOk_none _ _ _)⟩
abbrev Ilaw21_SlotBack_n1 := (Int) × (List UInt8) × (Int) × (Bool) × (Int) × (Int) × (Int) × (List UInt8) × (Int) × (Int) × (List UInt8) × (Int) × (Int) × (Int) × (Int) × (Int) × (Int) × (Int) × (List UInt8) × (Int) × (Int) × (List UInt8)
abbrev Ylaw21_SlotBack_n1 := (Unit) ⊕ (Unit)
def Slaw21_SlotBack_n1 : Ilaw21_SlotBack_n1 → St := fun (t1, t3, t11, t50, o0_0, o0_1, o0_2, o0_3, o0_4, o0_5, o0_6, o1_0, o1_1, o1_2, o1_3, o2_0, o2_1, o2_2, o2_3, o2_4, o2_5, o2_6) => { env := [(1, AV.int IntKind.i64 t1), (3, AV.str t3), (4, AV.ptr 0 0), (6, AV.ptr 1 0), (9, AV.ptr 2 0), (11, AV.int IntKind.i64 t11), (50, AV.bool t50)], stk := [[]], H := [AE.Obj.cells [AV.int IntKind.i64 o0_0, AV.int IntKind.i64 o0_1, AV.int IntKind.i64 o0_2, AV.str o0_3, AV.int IntKind.i64 o0_4, AV.int IntKind.i64 o0_5, AV.str o0_6], AE.Obj.cells [AV.int IntKind.u8 o1_0, AV.int IntKind.u8 o1_1, AV.int IntKind.u8 o1_2, AV.int IntKind.u8 o1_3], AE.Obj.cells [AV.int IntKind.i64 o2_0, AV.int IntKind.i64 o2_1, AV.int IntKind.i64 o2_2, AV.str o2_3, AV.int IntKind.i64 o2_4, AV.int IntKind.i64 o2_5, AV.str o2_6]], blk := 20480 }
def declaw21_SlotBack_n1 (s : St) : Option Ilaw21_SlotBack_n1 := match s with
  | { env := [(1, AV.int IntKind.i64 t1), (3, AV.str t3), (4, AV.ptr 0 0), (6, AV.ptr 1 0), (9, AV.ptr 2 0), (11, AV.int IntKind.i64 t11), (50, AV.bool t50)], stk := [[]], H := [AE.Obj.cells [AV.int IntKind.i64 o0_0, AV.int IntKind.i64 o0_1, AV.int IntKind.i64 o0_2, AV.str o0_3, AV.int IntKind.i64 o0_4, AV.int IntKind.i64 o0_5, AV.str o0_6], AE.Obj.cells [AV.int IntKind.u8 o1_0, AV.int IntKind.u8 o1_1, AV.int IntKind.u8 o1_2, AV.int IntKind.u8 o1_3], AE.Obj.cells [AV.int IntKind.i64 o2_0, AV.int IntKind.i64 o2_1, AV.int IntKind.i64 o2_2, AV.str o2_3, AV.int IntKind.i64 o2_4, AV.int IntKind.i64 o2_5, AV.str o2_6]], blk := 20480 } => some (t1, t3, t11, t50, o0_0, o0_1, o0_2, o0_3, o0_4, o0_5, o0_6, o1_0, o1_1, o1_2, o1_3, o2_0, o2_1, o2_2, o2_3, o2_4, o2_5, o2_6)
  | _ => none
theorem declaw21_SlotBack_n1_ok (s : St) (x : Ilaw21_SlotBack_n1) (h : declaw21_SlotBack_n1 s = some x) : s = Slaw21_SlotBack_n1 x := by
  unfold declaw21_SlotBack_n1 at h
  split at h
  · cases h; rfl
  · cases h
def outlaw21_SlotBack_n1 : Ilaw21_SlotBack_n1 → (Ex → St → Ans) → Ylaw21_SlotBack_n1 → Ans := fun (t1, t3, t11, t50, o0_0, o0_1, o0_2, o0_3, o0_4, o0_5, o0_6, o1_0, o1_1, o1_2, o1_3, o2_0, o2_1, o2_2, o2_3, o2_4, o2_5, o2_6) K => (Sum.elim (fun _ => K (Ex.ret) { env := [(8, AV.bool (false))], stk := [[]], H := [], blk := 20480 }) (fun _ => K (Ex.norm) { env := [(1, AV.int IntKind.i64 t1), (4, AV.ptr 0 0), (6, AV.ptr 1 0)], stk := [[]], H := [AE.Obj.cells [AV.int IntKind.i64 o0_0, AV.int IntKind.i64 o0_1, AV.int IntKind.i64 o0_2, AV.str o0_3, AV.int IntKind.i64 o0_4, AV.int IntKind.i64 o0_5, AV.str o0_6], AE.Obj.cells [AV.int IntKind.u8 o1_0, AV.int IntKind.u8 o1_1, AV.int IntKind.u8 o1_2, AV.int IntKind.u8 o1_3]], blk := 20480 }))
noncomputable def nodelaw21_SlotBack_n1 {β : Type} : Ilaw21_SlotBack_n1 → (Ylaw21_SlotBack_n1 → Option β) → Option β := fun (t1, t3, t11, t50, o0_0, o0_1, o0_2, o0_3, o0_4, o0_5, o0_6, o1_0, o1_1, o1_2, o1_3, o2_0, o2_1, o2_2, o2_3, o2_4, o2_5, o2_6) exit => (bif t50 then (bindO (fnDslot_Put (o2_0, o2_1, o2_2, o2_3, o2_4, o2_5, o2_6)) (unP fun r_0 r_1 => (bindO (nodeDlaw21_SlotBack_n2 (t1, t3, t11, r_0, r_1, o0_0, o0_1, o0_2, o0_3, o0_4, o0_5, o0_6, o1_0, o1_1, o1_2, o1_3)) fun t66 => (bif t66 then (exit (Sum.inl ())) else (exit (Sum.inr ())))))) else (exit (Sum.inr ())))
noncomputable def nodeDlaw21_SlotBack_n1 (i : Ilaw21_SlotBack_n1) : Option Ylaw21_SlotBack_n1 := nodelaw21_SlotBack_n1 i some
theorem nodelaw21_SlotBack_n1_nat (i : Ilaw21_SlotBack_n1) (k : Ylaw21_SlotBack_n1 → Ans) : nodelaw21_SlotBack_n1 i k = bindO (nodeDlaw21_SlotBack_n1 i) k := by
  obtain ⟨t1, t3, t11, t50, o0_0, o0_1, o0_2, o0_3, o0_4, o0_5, o0_6, o1_0, o1_1, o1_2, o1_3, o2_0, o2_1, o2_2, o2_3, o2_4, o2_5, o2_6⟩ := i
  simp only [nodeDlaw21_SlotBack_n1, nodelaw21_SlotBack_n1, bindO_cond, bindO_assoc, bindO_none, bindO_pure, bindO_elim, bindO_unP]
theorem nodelaw21_SlotBack_n1_ok (i : Ilaw21_SlotBack_n1) (K : Ex → St → Ans) : codeI Tryd.tab envlaw21_SlotBack noHint (codeD Tryd.tab envlaw21_SlotBack noHint 0 64) 70 157 annLlaw21_SlotBack_n1 Llaw21_SlotBack_n1 (weakP 0 (exk [1, 4, 6] [8] []) K) (Slaw21_SlotBack_n1 i) = nodelaw21_SlotBack_n1 i (outlaw21_SlotBack_n1 i K) := by kernel_rfl
theorem GNlaw21_SlotBack_n1_ok : CSum Tryd.prog 157 Llaw21_SlotBack_n1 (sumN declaw21_SlotBack_n1 nodeDlaw21_SlotBack_n1 outlaw21_SlotBack_n1) := csum_node mixed tabOk envlaw21_SlotBackOk 0 (exk [1, 4, 6] [8] []) annLlaw21_SlotBack_n1_ok declaw21_SlotBack_n1_ok nodelaw21_SlotBack_n1_ok nodelaw21_SlotBack_n1_nat
noncomputable def Glaw21_SlotBack_n1 : (Ex → St → Ans) → St → Ans := (sumN declaw21_SlotBack_n1 nodeDlaw21_SlotBack_n1 outlaw21_SlotBack_n1)
theorem Glaw21_SlotBack_n1_ok : CSum Tryd.prog 157 Llaw21_SlotBack_n1 Glaw21_SlotBack_n1 := GNlaw21_SlotBack_n1_ok
noncomputable def Llaw21_SlotBack_n0 : Code := codeAt [1, 1, 0, 0] blaw21_SlotBack
noncomputable def annLlaw21_SlotBack_n0 : Ann := .none
theorem annLlaw21_SlotBack_n0_ok : AnnOk Tryd.prog 157 Llaw21_SlotBack_n0 annLlaw21_SlotBack_n0 := (annOk_none _ _ _)
abbrev Ilaw21_SlotBack_n0 := (Int) × (List UInt8) × (Int) × (Int) × (Int) × (List UInt8) × (Int) × (Int) × (List UInt8) × (Int) × (Int) × (Int) × (Int)
abbrev Ylaw21_SlotBack_n0 := (Bool)
def Slaw21_SlotBack_n0 : Ilaw21_SlotBack_n0 → St := fun (t1, t3, o0_0, o0_1, o0_2, o0_3, o0_4, o0_5, o0_6, o1_0, o1_1, o1_2, o1_3) => { env := [(1, AV.int IntKind.i64 t1), (3, AV.str t3), (4, AV.ptr 0 0), (6, AV.ptr 1 0)], stk := [[]], H := [AE.Obj.cells [AV.int IntKind.i64 o0_0, AV.int IntKind.i64 o0_1, AV.int IntKind.i64 o0_2, AV.str o0_3, AV.int IntKind.i64 o0_4, AV.int IntKind.i64 o0_5, AV.str o0_6], AE.Obj.cells [AV.int IntKind.u8 o1_0, AV.int IntKind.u8 o1_1, AV.int IntKind.u8 o1_2, AV.int IntKind.u8 o1_3]], blk := 20480 }
def declaw21_SlotBack_n0 (s : St) : Option Ilaw21_SlotBack_n0 := match s with
  | { env := [(1, AV.int IntKind.i64 t1), (3, AV.str t3), (4, AV.ptr 0 0), (6, AV.ptr 1 0)], stk := [[]], H := [AE.Obj.cells [AV.int IntKind.i64 o0_0, AV.int IntKind.i64 o0_1, AV.int IntKind.i64 o0_2, AV.str o0_3, AV.int IntKind.i64 o0_4, AV.int IntKind.i64 o0_5, AV.str o0_6], AE.Obj.cells [AV.int IntKind.u8 o1_0, AV.int IntKind.u8 o1_1, AV.int IntKind.u8 o1_2, AV.int IntKind.u8 o1_3]], blk := 20480 } => some (t1, t3, o0_0, o0_1, o0_2, o0_3, o0_4, o0_5, o0_6, o1_0, o1_1, o1_2, o1_3)
  | _ => none
theorem declaw21_SlotBack_n0_ok (s : St) (x : Ilaw21_SlotBack_n0) (h : declaw21_SlotBack_n0 s = some x) : s = Slaw21_SlotBack_n0 x := by
  unfold declaw21_SlotBack_n0 at h
  split at h
  · cases h; rfl
  · cases h
def outlaw21_SlotBack_n0 : Ilaw21_SlotBack_n0 → (Ex → St → Ans) → Ylaw21_SlotBack_n0 → Ans := fun (t1, t3, o0_0, o0_1, o0_2, o0_3, o0_4, o0_5, o0_6, o1_0, o1_1, o1_2, o1_3) K => fun t43_y => K (Ex.norm) { env := [(1, AV.int IntKind.i64 t1), (3, AV.str t3), (4, AV.ptr 0 0), (6, AV.ptr 1 0), (43, AV.bool t43_y)], stk := [[]], H := [AE.Obj.cells [AV.int IntKind.i64 o0_0, AV.int IntKind.i64 o0_1, AV.int IntKind.i64 o0_2, AV.str o0_3, AV.int IntKind.i64 o0_4, AV.int IntKind.i64 o0_5, AV.str o0_6], AE.Obj.cells [AV.int IntKind.u8 o1_0, AV.int IntKind.u8 o1_1, AV.int IntKind.u8 o1_2, AV.int IntKind.u8 o1_3]], blk := 20480 }
noncomputable def nodelaw21_SlotBack_n0 {β : Type} : Ilaw21_SlotBack_n0 → (Ylaw21_SlotBack_n0 → Option β) → Option β := fun (t1, t3, o0_0, o0_1, o0_2, o0_3, o0_4, o0_5, o0_6, o1_0, o1_1, o1_2, o1_3) exit => (bif decide ((↑(List.length o0_3) : Int) > (1000 : Int)) then (exit (true)) else (bif decide ((↑(List.length o0_6) : Int) > (1000 : Int)) then (exit (true)) else (exit (decide ((↑(List.length t3) : Int) > (3000 : Int))))))
noncomputable def nodeDlaw21_SlotBack_n0 (i : Ilaw21_SlotBack_n0) : Option Ylaw21_SlotBack_n0 := nodelaw21_SlotBack_n0 i some
theorem nodelaw21_SlotBack_n0_nat (i : Ilaw21_SlotBack_n0) (k : Ylaw21_SlotBack_n0 → Ans) : nodelaw21_SlotBack_n0 i k = bindO (nodeDlaw21_SlotBack_n0 i) k := by
  obtain ⟨t1, t3, o0_0, o0_1, o0_2, o0_3, o0_4, o0_5, o0_6, o1_0, o1_1, o1_2, o1_3⟩ := i
  simp only [nodeDlaw21_SlotBack_n0, nodelaw21_SlotBack_n0, bindO_cond, bindO_assoc, bindO_none, bindO_pure, bindO_elim, bindO_unP]
theorem nodelaw21_SlotBack_n0_ok (i : Ilaw21_SlotBack_n0) (K : Ex → St → Ans) : codeI Tryd.tab envlaw21_SlotBack noHint (codeD Tryd.tab envlaw21_SlotBack noHint 0 64) 70 157 annLlaw21_SlotBack_n0 Llaw21_SlotBack_n0 (weakP 0 (exk [1, 3, 4, 6, 43] [8] []) K) (Slaw21_SlotBack_n0 i) = nodelaw21_SlotBack_n0 i (outlaw21_SlotBack_n0 i K) := by kernel_rfl
theorem GNlaw21_SlotBack_n0_ok : CSum Tryd.prog 157 Llaw21_SlotBack_n0 (sumN declaw21_SlotBack_n0 nodeDlaw21_SlotBack_n0 outlaw21_SlotBack_n0) := csum_node mixed tabOk envlaw21_SlotBackOk 0 (exk [1, 3, 4, 6, 43] [8] []) annLlaw21_SlotBack_n0_ok declaw21_SlotBack_n0_ok nodelaw21_SlotBack_n0_ok nodelaw21_SlotBack_n0_nat
noncomputable def Glaw21_SlotBack_n0 : (Ex → St → Ans) → St → Ans := (sumN declaw21_SlotBack_n0 nodeDlaw21_SlotBack_n0 outlaw21_SlotBack_n0)
theorem Glaw21_SlotBack_n0_ok : CSum Tryd.prog 157 Llaw21_SlotBack_n0 Glaw21_SlotBack_n0 := GNlaw21_SlotBack_n0_ok
noncomputable def annlaw21_SlotBack : Ann := (.seq .none (.seq .none (.seq (.seq (.cut 0 [1, 3, 4, 6] Glaw21_SlotBack_n0) .none) (.seq .none (.seq (.seq .none (.cut 0 [1, 3, 4, 6, 9, 11, 50] Glaw21_SlotBack_n1)) (.seq .none (.seq (.seq (.cut 0 [1, 4, 6, 14, 15] Glaw21_SlotBack_n3) (.cond (.seq (.cut 0 [14, 15] Glaw21_SlotBack_n4) .none) .none)) (.seq .none (.seq .none (.seq (.seq .none (.cut 0 [4, 6, 14, 16, 17, 18] Glaw21_SlotBack_n5)) (.seq .none (.seq .none (.seq (.cut 0 [4, 14, 16, 19, 20, 21, 23, 24] Glaw21_SlotBack_n8) .none)))))))))))))
theorem annlaw21_SlotBack_ok : AnnOk Tryd.prog 157 blaw21_SlotBack annlaw21_SlotBack := ⟨(annOk_none _ _ _), ⟨(annOk_none _ _ _), ⟨⟨Glaw21_SlotBack_n0_ok, (annOk_none _ _ _)⟩, ⟨(annOk_none _ _ _), ⟨⟨(annOk_none _ _ _), Glaw21_SlotBack_n1_ok⟩, ⟨(annOk_none _ _ _), ⟨⟨Glaw21_SlotBack_n3_ok, ⟨⟨Glaw21_SlotBack_n4_ok, (annOk_none _ _ _)⟩, (annOk_none _ _ _)⟩⟩, ⟨(annOk_none _ _ _), ⟨(annOk_none _ _ _), ⟨⟨(annOk_none _ _ _), Glaw21_SlotBack_n5_ok⟩, ⟨(annOk_none _ _ _), ⟨(annOk_none _ _ _), ⟨Glaw21_SlotBack_n8_ok, (annOk_none _ _ _)⟩⟩⟩⟩⟩⟩⟩⟩⟩⟩⟩⟩⟩
abbrev Alaw21_SlotBack := (Int) × (Int) × (Int) × (List UInt8) × (Int) × (Int) × (List UInt8) × (Int) × (Int) × (Int) × (Int) × (Int) × (List UInt8)
abbrev Ylaw21_SlotBack := (Bool)
noncomputable def fnlaw21_SlotBack {β : Type} : Alaw21_SlotBack → (Ylaw21_SlotBack → Option β) → Option β := fun (a0_0, a0_1, a0_2, a0_3, a0_4, a0_5, a0_6, a1, a2_0, a2_1, a2_2, a2_3, a3) exit => (bindO (fnDlaw21_works ()) fun r => (bif !r then (exit (false)) else (bindO (nodeDlaw21_SlotBack_n0 (a1, a3, a0_0, a0_1, a0_2, a0_3, a0_4, a0_5, a0_6, a2_0, a2_1, a2_2, a2_3)) fun t43 => (bif t43 then (exit (true)) else (bindO (fnDslot_Get (a3)) (unP fun r_0_0 => unP fun r_0_1 => unP fun r_0_2 => unP fun r_0_3 => unP fun r_0_4 => unP fun r_0_5 => unP fun r_0_6 => unP fun r_1 r_2 => (bindO (nodeDlaw21_SlotBack_n1 (a1, a3, r_2, r_1, a0_0, a0_1, a0_2, a0_3, a0_4, a0_5, a0_6, a2_0, a2_1, a2_2, a2_3, r_0_0, r_0_1, r_0_2, r_0_3, r_0_4, r_0_5, r_0_6)) (Sum.elim (fun _ => (exit (false))) (fun _ => (bindO (fnDslot_Put (a0_0, a0_1, a0_2, a0_3, a0_4, a0_5, a0_6)) (unP fun r_0 r_1_2 => (bindO (nodeDlaw21_SlotBack_n3 (a1, r_0, r_1_2, a0_0, a0_1, a0_2, a0_3, a0_4, a0_5, a0_6, a2_0, a2_1, a2_2, a2_3)) fun t78 => (bif t78 then (bindO (nodeDlaw21_SlotBack_n4 (r_0, r_1_2)) fun t8 => (exit (t8))) else (bif Nat.ble (List.length r_0) (140737488355328 : Nat) then (bindO (nodeDlaw21_SlotBack_n5 (r_0, IntKind.wrap IntKind.i64 ((64 : Int) + IntKind.wrap IntKind.i64 (Int.tmod (IntKind.wrap IntKind.u64 a1) (256 : Int))), a0_0, a0_1, a0_2, a0_3, a0_4, a0_5, a0_6, a2_0, a2_1, a2_2, a2_3, intsOf r_0)) fun o1 => (bindO (fnDslot_Get (r_0)) (unP fun r_0_0_2 => unP fun r_0_1_2 => unP fun r_0_2_2 => unP fun r_0_3_2 => unP fun r_0_4_2 => unP fun r_0_5_2 => unP fun r_0_6_2 => unP fun r_1_3 r_2_2 => (bindO (fnDslot_Get (bytesOf o1)) (unP fun r_0_0_3 => unP fun r_0_1_3 => unP fun r_0_2_3 => unP fun r_0_3_3 => unP fun r_0_4_3 => unP fun r_0_5_3 => unP fun r_0_6_3 => unP fun r_1_4 r_2_3 => (bindO (nodeDlaw21_SlotBack_n8 (r_0, r_1_3, r_2_2, r_1_4, r_2_3, a0_0, a0_1, a0_2, a0_3, a0_4, a0_5, a0_6, o1, r_0_0_2, r_0_1_2, r_0_2_2, r_0_3_2, r_0_4_2, r_0_5_2, r_0_6_2)) fun t8 => (exit (t8)))))))) else none))))))))))))))
noncomputable def fnDlaw21_SlotBack (a : Alaw21_SlotBack) : Option Ylaw21_SlotBack := fnlaw21_SlotBack a some
theorem fnlaw21_SlotBack_nat (a : Alaw21_SlotBack) (k : Ylaw21_SlotBack → Ans) : fnlaw21_SlotBack a k = bindO (fnDlaw21_SlotBack a) k := by
  obtain ⟨a0_0, a0_1, a0_2, a0_3, a0_4, a0_5, a0_6, a1, a2_0, a2_1, a2_2, a2_3, a3⟩ := a
  simp only [fnDlaw21_SlotBack, fnlaw21_SlotBack, bindO_cond, bindO_assoc, bindO_none, bindO_pure, bindO_elim, bindO_unP]
def argslaw21_SlotBack : Alaw21_SlotBack → List AV × List AE.Obj := fun (a0_0, a0_1, a0_2, a0_3, a0_4, a0_5, a0_6, a1, a2_0, a2_1, a2_2, a2_3, a3) => ([AV.agg [AV.int IntKind.i64 a0_0, AV.int IntKind.i64 a0_1, AV.int IntKind.i64 a0_2, AV.str a0_3, AV.int IntKind.i64 a0_4, AV.int IntKind.i64 a0_5, AV.str a0_6], AV.int IntKind.i64 a1, AV.agg [AV.int IntKind.u8 a2_0, AV.int IntKind.u8 a2_1, AV.int IntKind.u8 a2_2, AV.int IntKind.u8 a2_3], AV.str a3], [])
def decAlaw21_SlotBack (l : List AV) (H : List AE.Obj) : Option Alaw21_SlotBack := match l, H with
  | [AV.agg [AV.int IntKind.i64 a0_0, AV.int IntKind.i64 a0_1, AV.int IntKind.i64 a0_2, AV.str a0_3, AV.int IntKind.i64 a0_4, AV.int IntKind.i64 a0_5, AV.str a0_6], AV.int IntKind.i64 a1, AV.agg [AV.int IntKind.u8 a2_0, AV.int IntKind.u8 a2_1, AV.int IntKind.u8 a2_2, AV.int IntKind.u8 a2_3], AV.str a3], [] => some (a0_0, a0_1, a0_2, a0_3, a0_4, a0_5, a0_6, a1, a2_0, a2_1, a2_2, a2_3, a3)
  | _, _ => none
theorem decAlaw21_SlotBack_ok (l : List AV) (H : List AE.Obj) (a : Alaw21_SlotBack) (h : decAlaw21_SlotBack l H = some a) : (l, H) = argslaw21_SlotBack a := by
  unfold decAlaw21_SlotBack at h
  split at h
  · cases h; rfl
  · cases h
def outlaw21_SlotBack : Alaw21_SlotBack → (AV → List AE.Obj → Ans) → Ylaw21_SlotBack → Ans := fun (a0_0, a0_1, a0_2, a0_3, a0_4, a0_5, a0_6, a1, a2_0, a2_1, a2_2, a2_3, a3) K => fun r_y => K (AV.bool r_y) []
theorem fnlaw21_SlotBack_ok (a : Alaw21_SlotBack) (K : AV → List AE.Obj → Ans) : fnE Tryd.tab envlaw21_SlotBack noHint 0 70 5 Tryd.f5.ntmps Tryd.f5.results.toList annlaw21_SlotBack blaw21_SlotBack (argslaw21_SlotBack a).1 (argslaw21_SlotBack a).2 K = fnlaw21_SlotBack a (outlaw21_SlotBack a K) := by kernel_rfl
noncomputable def vFlaw21_SlotBack (a : Alaw21_SlotBack) (K : AV → List AE.Obj → Ans) : Ans := bindO (fnDlaw21_SlotBack a) fun y => outlaw21_SlotBack a K y
noncomputable def Flaw21_SlotBack : List AV → List AE.Obj → (AV → List AE.Obj → Ans) → Ans := fun l H K => bindO (decAlaw21_SlotBack l H) fun a => vFlaw21_SlotBack a K
theorem Flaw21_SlotBack_ok : FuncOk Tryd.prog 5 Flaw21_SlotBack := func_mkD (hint := noHint) (d := 0) (n := 70) mixed tabOk envlaw21_SlotBackOk Tryd.func5 (bodySome (by kernel_rfl)) (by decide +kernel) annlaw21_SlotBack_ok decAlaw21_SlotBack_ok fnlaw21_SlotBack_ok fnlaw21_SlotBack_nat
end Go.Proofs.R5
namespace Go.Proofs.R5
open Go Go.AE Go.Plain

theorem wrapU32 {m : Nat} (h : m < 4294967296) : IntKind.wrap .u32 (m : Int) = (m : Int) := by
  simp [IntKind.wrap, IntKind.bits, IntKind.signed]; omega
theorem wrapU8 (m : Nat) : IntKind.wrap .u8 (m : Int) = ((m % 256 : Nat) : Int) := by
  simp [IntKind.wrap, IntKind.bits, IntKind.signed]
theorem natU32 {m : Nat} (h : m < 4294967296) : Int.toNat ((m : Int) % 4294967296) = m := by omega
theorem nat64 {m : Nat} (h : m < 9223372036854775808) : Int.toNat ((m : Int) % 18446744073709551616) = m := by omega
theorem wrapN {m : Nat} (h : m ≤ 9223372036854775807) : IntKind.wrap .i64 (m : Int) = (m : Int) := wrap64 (by omega) (by omega)
theorem pow_min (a b : Nat) : (2 : Int) ^ min a b = ((2 ^ min a b : Nat) : Int) := by simp
theorem fdiv_nat (m p : Nat) : Int.fdiv (m : Int) (p : Int) = ((m / p : Nat) : Int) := by rw [Int.fdiv_eq_ediv_of_nonneg _ (by omega)]; rfl
theorem tdiv_nat (m p : Nat) : Int.tdiv (m : Int) (p : Int) = ((m / p : Nat) : Int) := rfl
theorem tmod_nat (m p : Nat) : Int.tmod (m : Int) (p : Int) = ((m % p : Nat) : Int) := rfl

/-! ### cyclic -/
theorem bitStep_eq {n : Nat} (h : n < 4294967296) : IntKind.wrap .u32 (((Int.toNat (Int.fdiv (n : Int) 2 % 4294967296) ^^^ Int.toNat (IntKind.wrap .u32 (((3988292384 &&&
    Int.toNat (IntKind.wrap .u32 ((0 : Int) - IntKind.wrap .u32 (((Int.toNat ((n : Int) % 4294967296) &&& 1 : Nat)) : Int)) % 4294967296) : Nat)) : Int) % 4294967296) : Nat)) : Int) = ((bitStep n : Nat) : Int) := by
  have e1 : Int.fdiv (n : Int) 2 = ((n / 2 : Nat) : Int) := fdiv_nat n 2
  rw [e1, natU32 (m := n / 2) (by omega), natU32 h, Nat.and_one_is_mod]
  have hlt := bitStep_lt (n := n) (by omega)
  unfold bitStep at hlt ⊢
  have hn : n % 2 = 0 ∨ n % 2 = 1 := by omega
  rcases hn with hn | hn <;> rw [hn] at hlt ⊢
  · have : Int.toNat (IntKind.wrap .u32 (((3988292384 &&& Int.toNat (IntKind.wrap .u32 ((0 : Int) - IntKind.wrap .u32 ((0 : Nat) : Int)) % 4294967296) : Nat)) : Int) % 4294967296) = 0 := by decide
    rw [this]
    exact wrapU32 hlt
  · have : Int.toNat (IntKind.wrap .u32 (((3988292384 &&& Int.toNat (IntKind.wrap .u32 ((0 : Int) - IntKind.wrap .u32 ((1 : Nat) : Int)) % 4294967296) : Nat)) : Int) % 4294967296) = poly := by decide
    rw [this]
    exact wrapU32 hlt
theorem bits_succ (k n : Nat) : nbits (k + 1) n = bitStep (nbits k n) := by rw [← bits_add k 1]; rfl
theorem cyclic_step_eq {n c : Nat} (hn : n < 4294967296) (hc : c < 256) : fnDcyclic_step ((n : Int), (c : Int)) = some ((byteStep n c : Nat) : Int) := by
  have hx : n ^^^ c < 4294967296 := Nat.xor_lt_two_pow (n := 32) hn (by omega)
  have key : ∃ y, loopD (stepDcyclic_step_n0 ()) FUEL (((n ^^^ c : Nat) : Int), (0 : Int)) = some y ∧ y = ((byteStep n c : Nat) : Int) := by
    refine loopD_inv (fun j v => j ≤ 8 ∧ v = (((nbits j (n ^^^ c) : Nat) : Int), (j : Int))) 8 _ ?_ ⟨by omega, rfl⟩ (by omega)
    rintro j v ⟨hj, rfl⟩
    have hb := bits_lt j (n := n ^^^ c) hx
    by_cases h8 : j < 8
    · left
      refine ⟨_, ?_, h8, by omega, rfl⟩
      simp only [stepDcyclic_step_n0, stepcyclic_step_n0, dec_true (show (j : Int) < 8 by omega), cond_true]
      rw [bitStep_eq hb, wrap64_nat (by omega), bits_succ]
    · right
      obtain rfl : j = 8 := by omega
      refine ⟨_, ?_, rfl⟩
      simp only [stepDcyclic_step_n0, stepcyclic_step_n0, dec_false (show ¬ ((8 : Nat) : Int) < 8 by omega), cond_false]
      rfl
  obtain ⟨y, hy, rfl⟩ := key
  have e : IntKind.wrap .u32 (((Int.toNat ((n : Int) % 4294967296) ^^^ Int.toNat (IntKind.wrap .u32 (c : Int) % 4294967296) : Nat)) : Int) = ((n ^^^ c : Nat) : Int) := by
    rw [natU32 hn, wrapU32 (m := c) (by omega), natU32 (m := c) (by omega), wrapU32 hx]
  simp only [fnDcyclic_step, fncyclic_step]
  rw [e, hy]
  rfl
theorem run_take (m : Nat) {s : List UInt8} {j : Nat} {c : UInt8} (h : s[j]? = some c) : crun m (s.take (j + 1)) = byteStep (crun m (s.take j)) c.toNat := by
  rw [List.take_add_one, h, run_append]; rfl
theorem xor_all {n : Nat} (hn : n < 4294967296) : IntKind.wrap .u32 (((Int.toNat ((n : Int) % 4294967296) ^^^ 4294967295 : Nat)) : Int) = ((n ^^^ all32 : Nat) : Int) := by
  rw [natU32 hn, wrapU32 (Nat.xor_lt_two_pow (n := 32) hn (by decide))]
  rfl
theorem cyclic_Of_eq (s : List UInt8) (hs : s.length ≤ 1000000000000) : fnDcyclic_Of s = some ((crc s : Nat) : Int) := by
  have key : ∃ y, loopD (stepDcyclic_State_Add_n0 (s, (s.length : Int), 0)) FUEL (((all32 : Nat) : Int), ((0 : Nat) : Int)) = some y ∧ y = ((crun all32 s : Nat) : Int) := by
    refine loopD_each s (fun j (_ : Unit) => (((crun all32 (s.take j) : Nat) : Int), (j : Int))) (fun _ _ => True) _ ?_ ?_ (s0 := ()) trivial (by omega)
    · intro j c _ hj hlt _
      left
      refine ⟨(), ?_, trivial⟩
      have hr := run_lt (s.take j) (n := all32) (by decide)
      simp only [stepDcyclic_State_Add_n0, stepcyclic_State_Add_n0, dec_true (show (j : Int) < (s.length : Int) by omega), cond_true, nth_of hj, bindO_pure, wrap64_nat (show j < 9223372036854775807 by omega), cyclic_step_eq hr c.toNat_lt, run_take all32 hj]
    · intro _ _
      simp only [stepDcyclic_State_Add_n0, stepcyclic_State_Add_n0, dec_false (show ¬ (s.length : Int) < (s.length : Int) by omega), cond_false]
      exact ⟨_, rfl, by rw [List.take_length]⟩
  obtain ⟨y, hy, rfl⟩ := key
  have hr := run_lt s (n := all32) (by decide)
  have hc : crun all32 s ^^^ all32 < 4294967296 := crc_lt s
  have h0 : IntKind.wrap .u32 (((Int.toNat ((0 : Int) % 4294967296) ^^^ 4294967295 : Nat)) : Int) = ((all32 : Nat) : Int) := by decide
  simp only [fnDcyclic_Of, fncyclic_Of, fnDcyclic_New, fncyclic_New, fnDcyclic_State_Add, fncyclic_State_Add, fnDcyclic_State_Sum, fncyclic_State_Sum, bindO_pure]
  have hy' : loopD (stepDcyclic_State_Add_n0 (s, (s.length : Int), 0)) FUEL (((all32 : Nat) : Int), 0) = _ := hy
  rw [h0, hy']
  simp only [bindO_pure]
  rw [xor_all hr, wrapN (by omega)]
  rfl
theorem byte8 (n p : Nat) : UInt8.ofNat (Int.toNat (IntKind.wrap .u8 (Int.fdiv (n : Int) (p : Int)))) = UInt8.ofNat (n / p % 256) := by
  rw [fdiv_nat, wrapU8]
  rfl
theorem cyclic_Tail_eq (s : List UInt8) (hs : s.length ≤ 1000000000000) : fnDcyclic_Tail s = some (tail s) := by
  simp only [fnDcyclic_Tail, fncyclic_Tail, cyclic_Of_eq s hs, bindO_pure, nodeDcyclic_Tail_n0, nodecyclic_Tail_n0, nodeDcyclic_Tail_n1, nodecyclic_Tail_n1, nodeDcyclic_Tail_n1v1, nodecyclic_Tail_n1v1, nodeDcyclic_Tail_n1v2, nodecyclic_Tail_n1v2, nodeDcyclic_Tail_n1v3, nodecyclic_Tail_n1v3, nodeDcyclic_Tail_n1v4, nodecyclic_Tail_n1v4, unP]
  have b0 := byte8 (crc s) 1
  have b1 := byte8 (crc s) 256
  have b2 := byte8 (crc s) 65536
  have b3 := byte8 (crc s) 16777216
  simp only [Int.cast_ofNat_Int] at b0 b1 b2 b3
  unfold bytesOf tail le4
  simp only [List.map_cons, List.map_nil]
  rw [b0, b1, b2, b3, Nat.div_one]
theorem refbit_eq (t0 : List UInt8) {n : Nat} (t4 t5 : Int) (h : n < 4294967296) : nodeDref03_Of_n2 (t0, (n : Int), t4, t5) = some ((bitStep n : Nat) : Int) := by
  simp only [nodeDref03_Of_n2, noderef03_Of_n2]
  have e1 : Int.tmod (n : Int) 2 = ((n % 2 : Nat) : Int) := rfl
  have e2 : Int.tdiv (n : Int) 2 = ((n / 2 : Nat) : Int) := rfl
  have hlt := bitStep_lt (n := n) (by omega)
  rw [e1, e2, wrapN (m := n / 2) (by omega), nat64 (m := n / 2) (by omega)]
  change (bif (((n % 2 : Nat) : Int) == 1) then some (IntKind.wrap .i64 ((n / 2 ^^^ poly : Nat) : Int)) else some ((n / 2 : Nat) : Int)) = _
  unfold bitStep at hlt ⊢
  by_cases hn : n % 2 = 1
  · rw [if_pos hn] at hlt ⊢
    have : (((n % 2 : Nat) : Int) == 1) = true := by rw [hn]; rfl
    rw [this, cond_true, wrapN (by omega)]
  · rw [if_neg hn] at hlt ⊢
    have : (((n % 2 : Nat) : Int) == 1) = false := by rw [beq_eq_false_iff_ne]; omega
    rw [this, cond_false, Nat.xor_zero]
theorem ref03_Of_eq (s : List UInt8) (hs : s.length ≤ 1000000000000) : fnDref03_Of s = some ((crc s : Nat) : Int) := by
  have inner : ∀ (t4 : Int) {n : Nat}, n < 4294967296 → loopD (stepDref03_Of_n1 (s, t4)) FUEL ((n : Int), 0) = some ((nbits 8 n : Nat) : Int) := by
    intro t4 n hn
    have key : ∃ y, loopD (stepDref03_Of_n1 (s, t4)) FUEL ((n : Int), ((0 : Nat) : Int)) = some y ∧ y = ((nbits 8 n : Nat) : Int) := by
      refine loopD_inv (fun j v => j ≤ 8 ∧ v = (((nbits j n : Nat) : Int), (j : Int))) 8 _ ?_ ⟨by omega, rfl⟩ (by omega)
      rintro j v ⟨hj, rfl⟩
      by_cases h8 : j < 8
      · left
        refine ⟨_, ?_, h8, by omega, rfl⟩
        simp only [stepDref03_Of_n1, stepref03_Of_n1, dec_true (show (j : Int) < 8 by omega), cond_true, refbit_eq _ _ _ (bits_lt j hn), bindO_pure, wrap64_nat (show j < 9223372036854775807 by omega), bits_succ]
      · right
        obtain rfl : j = 8 := by omega
        simp only [stepDref03_Of_n1, stepref03_Of_n1, dec_false (show ¬ ((8 : Nat) : Int) < 8 by omega), cond_false]
        exact ⟨_, rfl, rfl⟩
    obtain ⟨y, hy, rfl⟩ := key
    exact hy
  have key : ∃ y, loopD (stepDref03_Of_n0 s) FUEL (((all32 : Nat) : Int), ((0 : Nat) : Int)) = some y ∧ y = ((crun all32 s : Nat) : Int) := by
    refine loopD_each s (fun j (_ : Unit) => (((crun all32 (s.take j) : Nat) : Int), (j : Int))) (fun _ _ => True) _ ?_ ?_ (s0 := ()) trivial (by omega)
    · intro j c _ hj hlt _
      left
      refine ⟨(), ?_, trivial⟩
      have hr := run_lt (s.take j) (n := all32) (by decide)
      have hc : c.toNat < 256 := c.toNat_lt
      have hx : crun all32 (s.take j) ^^^ c.toNat < 4294967296 := Nat.xor_lt_two_pow (n := 32) hr (by omega)
      simp only [stepDref03_Of_n0, stepref03_Of_n0, dec_true (show (j : Int) < (s.length : Int) by omega), cond_true, nth_of hj, bindO_pure, wrap64_nat (show j < 9223372036854775807 by omega), run_take all32 hj]
      rw [wrapN (m := c.toNat) (by omega), nat64 (m := crun all32 (s.take j)) (by omega), nat64 (m := c.toNat) (by omega), wrapN (by omega), inner _ hx]
      rfl
    · intro _ _
      simp only [stepDref03_Of_n0, stepref03_Of_n0, dec_false (show ¬ (s.length : Int) < (s.length : Int) by omega), cond_false]
      exact ⟨_, rfl, by rw [List.take_length]⟩
  obtain ⟨y, hy, rfl⟩ := key
  have hy' : loopD (stepDref03_Of_n0 s) FUEL ((4294967295 : Int), 0) = _ := hy
  have hr := run_lt s (n := all32) (by decide)
  have hc := crc_lt s
  simp only [fnDref03_Of, fnref03_Of, hy', bindO_pure]
  rw [nat64 (m := crun all32 s) (by omega)]
  change some (IntKind.wrap .i64 ((crc s : Nat) : Int)) = _
  rw [wrapN (by omega)]
theorem ref03_Tail_eq (s : List UInt8) (hs : s.length ≤ 1000000000000) : fnDref03_Tail s = some (tail s) := by
  simp only [fnDref03_Tail, fnref03_Tail, ref03_Of_eq s hs, bindO_pure]
  have hc := crc_lt s
  have e : ∀ p : Nat, p ≤ 16777216 → IntKind.wrap .i64 (Int.tdiv ((crc s : Nat) : Int) (p : Int)) = ((crc s / p : Nat) : Int) := fun p _ => by
    rw [tdiv_nat, wrapN]
    have := Nat.div_le_self (crc s) p
    omega
  have e1 := e 256 (by omega)
  have e2 := e 65536 (by omega)
  have e3 := e 16777216 (by omega)
  simp only [Int.cast_ofNat_Int] at e1 e2 e3
  rw [e1, e2, e3]
  have m : ∀ n : Nat, Int.tmod (n : Int) 256 = ((n % 256 : Nat) : Int) := fun n => rfl
  rw [m, m, m, m, wrapU8, wrapU8, wrapU8, wrapU8]
  unfold bytesOf tail le4
  simp only [List.map_cons, List.map_nil, Int.toNat_natCast, Nat.mod_mod]

/-! ### padding -/
theorem repeat_zero : ∀ n : Nat, Lib.repeatL [0] n = List.replicate n 0
  | 0 => rfl
  | n + 1 => by rw [Lib.repeatL, repeat_zero n, List.replicate_succ]; rfl
theorem region_Pad_eq (s : List UInt8) (hs : s.length ≤ 1000000000000) : fnDregion_Pad s = some (padTo s) := by
  have e : Int.tmod (s.length : Int) 64 = ((s.length % 64 : Nat) : Int) := rfl
  simp only [fnDregion_Pad, fnregion_Pad, e]
  by_cases h : s.length % 64 = 0
  · rw [dec_false (by omega), cond_false, padTo, h]
    simp
  · have e2 : IntKind.wrap .i64 ((64 : Int) - ((s.length % 64 : Nat) : Int)) = ((64 - s.length % 64 : Nat) : Int) := by rw [wrap64 (by omega) (by omega)]; omega
    rw [dec_true (by omega), cond_true, e2]
    have : fnDstrings_Repeat ([0], ((64 - s.length % 64 : Nat) : Int)) = some (List.replicate (64 - s.length % 64) 0) := by
      unfold fnDstrings_Repeat
      rw [repeat_zero]
      simp only [Int.toNat_natCast, List.length_cons, List.length_nil]
      rw [dec_true (by omega), dec_true (by omega), ble_true (by omega)]
      rfl
    rw [this]
    simp only [bindO_pure]
    rw [ble_true (by rw [List.length_replicate]; omega), cond_true, padTo, show (64 - s.length % 64) % 64 = 64 - s.length % 64 by omega]
theorem ref09_Pad_eq (s : List UInt8) (hs : s.length ≤ 1000000000000) : fnDref09_Pad s = some (padTo s) := by
  have key : ∃ y, loopD (stepDref09_Pad_n0 ()) FUEL s = some y ∧ y = padTo s := by
    refine loopD_inv (fun j v => j ≤ (64 - s.length % 64) % 64 ∧ v = s ++ List.replicate j 0) ((64 - s.length % 64) % 64) _ ?_ ⟨by omega, by simp⟩ (by omega)
    rintro j v ⟨hj, rfl⟩
    have hl : (s ++ List.replicate j (0 : UInt8)).length = s.length + j := by simp
    have e : Int.tmod ((s.length + j : Nat) : Int) 64 = (((s.length + j) % 64 : Nat) : Int) := rfl
    simp only [stepDref09_Pad_n0, stepref09_Pad_n0, hl, e]
    by_cases hlt : j < (64 - s.length % 64) % 64
    · left
      have e1 : ((((s.length + j) % 64 : Nat) : Int) != 0) = true := by rw [bne_iff_ne]; omega
      rw [e1, cond_true, ble_true (by omega), cond_true]
      exact ⟨_, rfl, hlt, by omega, by rw [List.append_assoc, List.replicate_succ']⟩
    · right
      have e1 : ((((s.length + j) % 64 : Nat) : Int) != 0) = false := by rw [bne_eq_false_iff_eq]; omega
      rw [e1, cond_false]
      exact ⟨_, rfl, by rw [padTo, show j = (64 - s.length % 64) % 64 by omega]⟩
  obtain ⟨y, hy, rfl⟩ := key
  simp only [fnDref09_Pad, fnref09_Pad, hy, bindO_pure]

/-! ### numbers of a fixed width -/
theorem pow256 (k : Nat) : (2 : Nat) ^ (8 * k) = 256 ^ k := by rw [Nat.pow_mul]
theorem field_Fits_eq (n : Int) (k : Nat) (hk : 1 ≤ k ∧ k ≤ 7) : fnDfield_Fits (n, (k : Int)) = some (decide (0 ≤ n ∧ n < ((256 ^ k : Nat) : Int))) := by
  have w : IntKind.wrap .i64 ((8 : Int) * (k : Int)) = ((8 * k : Nat) : Int) := by rw [wrap64 (by omega) (by omega)]; omega
  simp only [fnDfield_Fits, fnfield_Fits, nodeDfield_Fits_n0, nodefield_Fits_n0, fnDfield_width, fnfield_width, nodeDfield_width_n0, nodefield_width_n0, bindO_pure]
  rw [dec_true (show (k : Int) ≥ 1 by omega), dec_true (show (k : Int) ≤ 7 by omega), cond_true]
  simp only [bindO_pure, cond_true]
  by_cases h0 : n ≥ 0
  · rw [dec_true h0, cond_true, w, dec_false (by omega), cond_false]
    simp only [bindO_pure]
    obtain ⟨m, rfl⟩ := Int.eq_ofNat_of_zero_le h0
    have : min (Int.toNat ((8 * k : Nat) : Int)) 64 = 8 * k := by simp only [Int.toNat_natCast]; omega
    rw [this]
    have : (2 : Int) ^ (8 * k) = ((2 ^ (8 * k) : Nat) : Int) := by simp
    rw [this, fdiv_nat, pow256]
    have hp : 0 < 256 ^ k := Nat.pow_pos (by omega)
    congr 1
    rw [Bool.eq_iff_iff, beq_iff_eq, decide_eq_true_eq]
    have : m / 256 ^ k = 0 ↔ m < 256 ^ k := Nat.div_eq_zero_iff_lt hp
    omega
  · rw [dec_false h0, cond_false]
    simp only [bindO_pure]
    rw [dec_false (by omega)]
/-- A number's bytes behind others, if it has so many. -/
def putN (s : List UInt8) (n : Int) (k : Nat) : List UInt8 := if 0 ≤ n ∧ n < ((256 ^ k : Nat) : Int) then s ++ be k n.toNat else s
theorem putN_len (s : List UInt8) (n : Int) (k : Nat) : (putN s n k).length ≤ s.length + k := by
  unfold putN; split
  · rw [List.length_append, be_length]; omega
  · omega
theorem set_byte (k n j : Nat) (hj : j < k) : (bytesOf ((intsOf (be k n)).take j ++ List.replicate (k - j) 0)).length = k := by
  simp [bytesOf, intsOf, be_length]; omega
theorem bytes_ints (s : List UInt8) : bytesOf (intsOf s) = s := by
  unfold bytesOf intsOf
  rw [List.map_map]
  conv => rhs; rw [← List.map_id s]
  refine List.map_congr_left fun c _ => ?_
  simp
theorem field_Put_eq (s : List UInt8) (n : Int) (k : Nat) (hk : 1 ≤ k ∧ k ≤ 7) (hs : s.length ≤ 1000000000000) : fnDfield_Put (s, n, (k : Int)) = some (putN s n k) := by
  simp only [fnDfield_Put, fnfield_Put, field_Fits_eq n k hk, bindO_pure]
  unfold putN
  by_cases hf : 0 ≤ n ∧ n < ((256 ^ k : Nat) : Int)
  · rw [if_pos hf, dec_true hf]
    obtain ⟨m, rfl⟩ := Int.eq_ofNat_of_zero_le hf.1
    simp only [Bool.not_true, cond_false, Int.toNat_natCast]
    rw [dec_true (show (0 : Int) ≤ k by omega), dec_true (show (k : Int) ≤ k by omega), dec_true (show (1 : Int) * k ≤ 281474976710656 by omega), dec_true (show (k : Int) ≤ 9223372036854775807 by omega)]
    simp only [Bool.and_self, cond_true, List.length_replicate]
    have key : ∃ y, loopD (stepDfield_Put_n0 (s, (m : Int), (k : Int), (k : Int))) FUEL (((0 : Nat) : Int), List.replicate k (0 : Int)) = some y ∧ y = intsOf (be k m) := by
      refine loopD_inv (fun j v => j ≤ k ∧ v = ((j : Int), (intsOf (be k m)).take j ++ List.replicate (k - j) 0)) k _ ?_ ⟨by omega, by simp⟩ (by omega)
      rintro j v ⟨hj, rfl⟩
      by_cases hlt : j < k
      · left
        refine ⟨_, ?_, hlt, by omega, rfl⟩
        have w1 : IntKind.wrap .i64 ((k : Int) - 1) = ((k - 1 : Nat) : Int) := by rw [wrap64 (by omega) (by omega)]; omega
        have w2 : IntKind.wrap .i64 (((k - 1 : Nat) : Int) - (j : Int)) = ((k - 1 - j : Nat) : Int) := by rw [wrap64 (by omega) (by omega)]; omega
        have w3 : IntKind.wrap .i64 ((8 : Int) * ((k - 1 - j : Nat) : Int)) = ((8 * (k - 1 - j) : Nat) : Int) := by rw [wrap64 (by omega) (by omega)]; omega
        have hlen : ((intsOf (be k m)).take j ++ List.replicate (k - j) (0 : Int)).length = k := by simp [intsOf, be_length]; omega
        have hget : ((intsOf (be k m)).take j ++ List.replicate (k - j) (0 : Int))[j]? = some 0 := by
          rw [List.getElem?_append_right (by simp [intsOf, be_length]; omega), List.getElem?_replicate, if_pos (by simp [intsOf, be_length]; omega)]
        simp only [stepDfield_Put_n0, stepfield_Put_n0, dec_true (show (j : Int) < (k : Int) by omega), cond_true, w1, w2, w3, dec_false (show ¬ ((8 * (k - 1 - j) : Nat) : Int) < 0 by omega), cond_false, hlen,
          inR_true (show (0 : Int) ≤ (j : Int) ∧ (j : Int) < (k : Int) by omega), Int.toNat_natCast, hget, bindO_pure, wrap64_nat (show j < 9223372036854775807 by omega)]
        have hm : min (8 * (k - 1 - j)) 64 = 8 * (k - 1 - j) := by omega
        have hp : (2 : Int) ^ (8 * (k - 1 - j)) = ((256 ^ (k - 1 - j) : Nat) : Int) := by rw [← pow256]; simp
        rw [hm, hp, fdiv_nat, wrapU8]
        have hb := be_get k m j hlt
        have hi : (intsOf (be k m))[j]? = some ((m / 256 ^ (k - 1 - j) % 256 : Nat) : Int) := by
          unfold intsOf
          rw [List.getElem?_map, hb]
          simp [ofNat_mod]
        congr 3
        apply List.ext_getElem?
        intro i
        have h1 : (intsOf (be k m)).length = k := by simp [intsOf, be_length]
        rw [List.getElem?_set]
        by_cases hij : j = i
        · subst hij
          rw [if_pos rfl, if_pos (by rw [hlen]; omega), List.getElem?_append_left (by rw [List.length_take]; omega), List.getElem?_take_of_lt (by omega), hi]
        · rw [if_neg hij]
          by_cases hij2 : i < j
          · rw [List.getElem?_append_left (by rw [List.length_take]; omega), List.getElem?_append_left (by rw [List.length_take]; omega), List.getElem?_take_of_lt hij2, List.getElem?_take_of_lt (by omega)]
          · rw [List.getElem?_append_right (by rw [List.length_take]; omega), List.getElem?_append_right (by rw [List.length_take]; omega), List.getElem?_replicate, List.getElem?_replicate, List.length_take, List.length_take]
            split <;> split <;> first | rfl | omega
      · right
        obtain rfl : j = k := by omega
        simp only [stepDfield_Put_n0, stepfield_Put_n0, dec_false (show ¬ (j : Int) < (j : Int) by omega), cond_false]
        refine ⟨_, rfl, ?_⟩
        rw [Nat.sub_self, List.replicate_zero, List.append_nil, List.take_of_length_le (by simp [intsOf, be_length])]
    obtain ⟨y, hy, rfl⟩ := key
    have hy' : loopD (stepDfield_Put_n0 (s, (m : Int), (k : Int), (k : Int))) FUEL (0, List.replicate k (0 : Int)) = _ := hy
    rw [hy']
    simp only [bindO_pure, bytes_ints, be_length]
    rw [ble_true (by omega), cond_true]
  · rw [if_neg hf, dec_false hf]
    rfl
theorem ref02_Fits_eq (n : Int) (k : Nat) (hk : 1 ≤ k ∧ k ≤ 7) (hn : -9223372036854775808 ≤ n ∧ n ≤ 9223372036854775807) : fnDref02_Fits (n, (k : Int)) = some (decide (0 ≤ n ∧ n < ((256 ^ k : Nat) : Int))) := by
  simp only [fnDref02_Fits, fnref02_Fits, nodeDref02_Fits_n0, noderef02_Fits_n0, bindO_pure]
  rw [dec_false (show ¬ (k : Int) < 1 by omega), dec_false (show ¬ (k : Int) > 7 by omega), cond_false, cond_false]
  simp only [bindO_pure]
  by_cases h0 : n < 0
  · rw [dec_true h0, cond_true, dec_false (by omega)]
  · rw [dec_false h0, cond_false]
    obtain ⟨m, rfl⟩ := Int.eq_ofNat_of_zero_le (show 0 ≤ n by omega)
    have key : ∃ y, loopD (stepDref02_Fits_n1 (k : Int)) FUEL ((m : Int), ((0 : Nat) : Int)) = some y ∧ y = ((m / 256 ^ k : Nat) : Int) := by
      refine loopD_inv (fun j v => j ≤ k ∧ v = (((m / 256 ^ j : Nat) : Int), (j : Int))) k _ ?_ ⟨by omega, by simp⟩ (by omega)
      rintro j v ⟨hj, rfl⟩
      by_cases hlt : j < k
      · left
        refine ⟨_, ?_, hlt, by omega, rfl⟩
        have e : Int.tdiv ((m / 256 ^ j : Nat) : Int) 256 = ((m / 256 ^ (j + 1) : Nat) : Int) := by
          rw [Nat.pow_succ, ← Nat.div_div_eq_div_mul]; rfl
        have hle := Nat.div_le_self m (256 ^ (j + 1))
        simp only [stepDref02_Fits_n1, stepref02_Fits_n1, dec_true (show (j : Int) < (k : Int) by omega), cond_true, e, wrapN (show m / 256 ^ (j + 1) ≤ 9223372036854775807 by omega), wrap64_nat (show j < 9223372036854775807 by omega)]
      · right
        obtain rfl : j = k := by omega
        simp only [stepDref02_Fits_n1, stepref02_Fits_n1, dec_false (show ¬ (j : Int) < (j : Int) by omega), cond_false]
        exact ⟨_, rfl, rfl⟩
    obtain ⟨y, hy, rfl⟩ := key
    have hy' : loopD (stepDref02_Fits_n1 (k : Int)) FUEL ((m : Int), 0) = _ := hy
    rw [hy']
    simp only [bindO_pure]
    have hp : 0 < 256 ^ k := Nat.pow_pos (by omega)
    congr 1
    rw [Bool.eq_iff_iff, beq_iff_eq, decide_eq_true_eq, Int.natCast_eq_zero, Nat.div_eq_zero_iff_lt hp]
    omega
theorem ref02_Put_eq (s : List UInt8) (n : Int) (k : Nat) (hk : 1 ≤ k ∧ k ≤ 7) (hn : -9223372036854775808 ≤ n ∧ n ≤ 9223372036854775807) (hs : s.length ≤ 1000000000000) : fnDref02_Put (s, n, (k : Int)) = some (putN s n k) := by
  simp only [fnDref02_Put, fnref02_Put, ref02_Fits_eq n k hk hn, bindO_pure]
  unfold putN
  by_cases hf : 0 ≤ n ∧ n < ((256 ^ k : Nat) : Int)
  · rw [if_pos hf, dec_true hf]
    obtain ⟨m, rfl⟩ := Int.eq_ofNat_of_zero_le hf.1
    simp only [Bool.not_true, cond_false, Int.toNat_natCast]
    have key : ∃ y, loopD (stepDref02_Put_n0 (s, (k : Int))) FUEL ((m : Int), ([] : List UInt8), ((0 : Nat) : Int)) = some y ∧ y = be k m := by
      refine loopD_inv (fun j v => j ≤ k ∧ v = (((m / 256 ^ j : Nat) : Int), be j m, (j : Int))) k _ ?_ ⟨by omega, by simp [be]⟩ (by omega)
      rintro j v ⟨hj, rfl⟩
      by_cases hlt : j < k
      · left
        refine ⟨_, ?_, hlt, by omega, rfl⟩
        have e : Int.tdiv ((m / 256 ^ j : Nat) : Int) 256 = ((m / 256 ^ (j + 1) : Nat) : Int) := by
          rw [Nat.pow_succ, ← Nat.div_div_eq_div_mul]; rfl
        have hle := Nat.div_le_self m (256 ^ (j + 1))
        have e2 : IntKind.wrap .u8 (Int.tmod ((m / 256 ^ j : Nat) : Int) 256) = ((m / 256 ^ j % 256 : Nat) : Int) := by
          rw [show Int.tmod ((m / 256 ^ j : Nat) : Int) 256 = ((m / 256 ^ j % 256 : Nat) : Int) from rfl, wrapU8, Nat.mod_mod]
        simp only [stepDref02_Put_n0, stepref02_Put_n0, dec_true (show (j : Int) < (k : Int) by omega), cond_true, e, e2, wrapN (show m / 256 ^ (j + 1) ≤ 9223372036854775807 by omega), wrap64_nat (show j < 9223372036854775807 by omega)]
        have e3 : bytesOf [((m / 256 ^ j % 256 : Nat) : Int)] = [UInt8.ofNat (m / 256 ^ j % 256)] := rfl
        rw [e3, List.length_singleton, be_length, ble_true (by omega), cond_true, be]
        rfl
      · right
        obtain rfl : j = k := by omega
        simp only [stepDref02_Put_n0, stepref02_Put_n0, dec_false (show ¬ (j : Int) < (j : Int) by omega), cond_false]
        exact ⟨_, rfl, rfl⟩
    obtain ⟨y, hy, rfl⟩ := key
    have hy' : loopD (stepDref02_Put_n0 (s, (k : Int))) FUEL ((m : Int), [], 0) = _ := hy
    rw [hy']
    simp only [bindO_pure, be_length]
    rw [ble_true (by omega), cond_true]
  · rw [if_neg hf, dec_false hf]
    rfl
end Go.Proofs.R5
namespace Go.Proofs.R5
open Go Go.AE Go.Plain

theorem Reader_Bytes_eq (n : Nat) (r : List UInt8) (h : n ≤ r.length) (hl : r.length ≤ 1000000000000) : fnDfield_Reader_Bytes ((n : Int), r, 0) = some (r.take n, r.drop n, 0) := by
  simp only [fnDfield_Reader_Bytes, fnfield_Reader_Bytes, nodeDfield_Reader_Bytes_n0, nodefield_Reader_Bytes_n0]
  rw [dec_false (show ¬ (n : Int) < 0 by omega), cond_false, dec_false (show ¬ (n : Int) > (r.length : Int) by omega), cond_false]
  simp only [bindO_pure]
  rw [inR_true (show (0 : Int) ≤ (n : Int) ∧ (n : Int) < ((r.length + 1 : Nat) : Int) by omega)]
  rfl
theorem or_byte (n c : Nat) (hc : c < 256) : (n * 256) ||| c = 256 * n + c := by
  have := Nat.shiftLeft_add_eq_or_of_lt (i := 8) (b := c) (by omega) n
  rw [Nat.shiftLeft_eq] at this
  simp only [show (2 : Nat) ^ 8 = 256 from rfl] at this
  omega
theorem Reader_Num_eq (k : Nat) (r : List UInt8) (hk : 1 ≤ k ∧ k ≤ 7) (h : k ≤ r.length) (hl : r.length ≤ 1000000000000) : fnDfield_Reader_Num ((k : Int), r, 0) = some (((num (r.take k) : Nat) : Int), r.drop k, 0) := by
  simp only [fnDfield_Reader_Num, fnfield_Reader_Num, fnDfield_width, fnfield_width, nodeDfield_width_n0, nodefield_width_n0, bindO_pure]
  rw [dec_true (show (k : Int) ≥ 1 by omega), dec_true (show (k : Int) ≤ 7 by omega), cond_true]
  simp only [bindO_pure, Bool.not_true, cond_false, Reader_Bytes_eq k r h hl, unP]
  have hlen : (r.take k).length = k := by rw [List.length_take]; omega
  have hil : (intsOf (r.take k)).length = k := by rw [intsOf, List.length_map, hlen]
  rw [ble_true (by omega), cond_true, hil]
  have key : ∃ y, loopD (stepDfield_Reader_Num_n0 ((k : Int), r.drop k, 0, intsOf (r.take k))) FUEL ((0 : Int), ((0 : Nat) : Int)) = some y ∧ y = ((num (r.take k) : Nat) : Int) := by
    refine loopD_inv (fun j v => j ≤ k ∧ v = (((num (r.take j) : Nat) : Int), (j : Int))) k _ ?_ ⟨by omega, by simp [num]⟩ (by omega)
    rintro j v ⟨hj, rfl⟩
    by_cases hlt : j < k
    · left
      refine ⟨_, ?_, hlt, by omega, rfl⟩
      have hget : r[j]? = some r[j] := List.getElem?_eq_getElem (by omega)
      generalize r[j] = c at hget
      have hi : (intsOf (r.take k))[j]? = some ((c.toNat : Nat) : Int) := by
        rw [intsOf, List.getElem?_map, List.getElem?_take_of_lt hlt, hget]; rfl
      have hn := num_lt (r.take j)
      have hp : 256 ^ (r.take j).length ≤ 256 ^ 6 := Nat.pow_le_pow_right (by omega) (by rw [List.length_take]; omega)
      have hc : c.toNat < 256 := c.toNat_lt
      have e1 : IntKind.wrap .i64 (((num (r.take j) : Nat) : Int) * 256) = ((num (r.take j) * 256 : Nat) : Int) := by rw [wrap64 (by omega) (by omega)]; omega
      have e2 : num (r.take (j + 1)) = 256 * num (r.take j) + c.toNat := by rw [List.take_add_one, hget]; exact num_snoc _ _
      simp only [stepDfield_Reader_Num_n0, stepfield_Reader_Num_n0, dec_true (show (j : Int) < (k : Int) by omega), cond_true, hil, inR_true (show (0 : Int) ≤ (j : Int) ∧ (j : Int) < (k : Int) by omega), Int.toNat_natCast, hi, bindO_pure, e1,
        wrapN (m := c.toNat) (show c.toNat ≤ 9223372036854775807 by omega), nat64 (m := num (r.take j) * 256) (show num (r.take j) * 256 < 9223372036854775808 by omega), nat64 (m := c.toNat) (show c.toNat < 9223372036854775808 by omega), or_byte _ _ hc,
        wrapN (m := 256 * num (r.take j) + c.toNat) (show 256 * num (r.take j) + c.toNat ≤ 9223372036854775807 by omega), wrap64_nat (show j < 9223372036854775807 by omega), e2]
    · right
      obtain rfl : j = k := by omega
      simp only [stepDfield_Reader_Num_n0, stepfield_Reader_Num_n0, dec_false (show ¬ (j : Int) < (j : Int) by omega), cond_false]
      exact ⟨_, rfl, rfl⟩
  obtain ⟨y, hy, rfl⟩ := key
  have hy' : loopD (stepDfield_Reader_Num_n0 ((k : Int), r.drop k, 0, intsOf (r.take k))) FUEL (0, 0) = _ := hy
  rw [hy']
  rfl
/-- A reference's own 'number': a loop that is alike in all of them. -/
theorem number_loop (f : List UInt8 → Int × Int → Option ((Int × Int) ⊕ Int)) (s : List UInt8) (hs : s.length ≤ 7)
    (h1 : ∀ (n j : Int), decide (j < (s.length : Int)) = true → f s (n, j) = bindO (nth s j) fun x => some (.inl (IntKind.wrap .i64 (IntKind.wrap .i64 (256 * n) + IntKind.wrap .i64 (x.toNat : Int)), IntKind.wrap .i64 (j + 1))))
    (h2 : ∀ (n j : Int), decide (j < (s.length : Int)) = false → f s (n, j) = some (.inr n)) : loopD (f s) FUEL (0, 0) = some ((num s : Nat) : Int) := by
  have key : ∃ y, loopD (f s) FUEL ((0 : Int), ((0 : Nat) : Int)) = some y ∧ y = ((num s : Nat) : Int) := by
    refine loopD_each s (fun j (_ : Unit) => (((num (s.take j) : Nat) : Int), (j : Int))) (fun _ _ => True) _ ?_ ?_ (s0 := ()) trivial (by omega)
    · intro j c _ hj hlt _
      left
      refine ⟨(), ?_, trivial⟩
      have hn := num_lt (s.take j)
      have hp : 256 ^ (s.take j).length ≤ 256 ^ 6 := Nat.pow_le_pow_right (by omega) (by rw [List.length_take]; omega)
      have hc : c.toNat < 256 := c.toNat_lt
      have e2 : num (s.take (j + 1)) = 256 * num (s.take j) + c.toNat := by rw [List.take_add_one, hj]; exact num_snoc _ _
      rw [h1 _ _ (dec_true (by omega)), nth_of hj, bindO_pure, wrap64_nat (by omega), wrap64 (x := 256 * ((num (s.take j) : Nat) : Int)) (by omega) (by omega), wrapN (m := c.toNat) (by omega), wrap64 (by omega) (by omega), e2]
      congr 3
    · intro _ _
      rw [h2 _ _ (dec_false (by omega)), List.take_length]
      exact ⟨_, rfl, rfl⟩
  obtain ⟨y, hy, rfl⟩ := key
  exact hy
end Go.Proofs.R5
namespace Go.Proofs.R5
open Go Go.AE Go.Plain

abbrev MayV (a b : Int) : Prop := (0 ≤ a ∧ a ≤ 1125899906842624) ∧ (0 ≤ b ∧ b ≤ 1125899906842624)
abbrev InI (n : Int) : Prop := -9223372036854775808 ≤ n ∧ n ≤ 9223372036854775807
theorem within_eq (n b : Int) : fnDvector_within (n, b) = some (decide (0 ≤ n ∧ n ≤ b)) := by
  simp only [fnDvector_within, fnvector_within, nodeDvector_within_n0, nodevector_within_n0]
  by_cases h : n ≥ 0 <;> simp [h, bindO_pure, show 0 ≤ n ↔ n ≥ 0 from Iff.rfl]
theorem right_eq (a b : Int) : fnDvector_Right (a, b) = some (decide (MayV a b)) := by
  simp only [fnDvector_Right, fnvector_Right, nodeDvector_Right_n0, nodevector_Right_n0, within_eq, bindO_pure]
  by_cases h1 : 0 ≤ a ∧ a ≤ 1125899906842624
  · rw [dec_true h1, cond_true]
    show some _ = some _
    congr 1
    rw [decide_eq_decide]
    exact ⟨fun h => ⟨h1, h⟩, fun h => h.2⟩
  · rw [dec_false h1, cond_false, dec_false (fun h => h1 h.1)]
    rfl
theorem refright_eq (a b : Int) : fnDref05_Right (a, b) = some (decide (MayV a b)) := by
  simp only [fnDref05_Right, fnref05_Right, nodeDref05_Right_n0, noderef05_Right_n0]
  by_cases h1 : a ≥ 0 <;> by_cases h2 : a ≤ 1125899906842624 <;> by_cases h3 : b ≥ 0 <;>
    simp [h1, h2, h3, bindO_pure, show 0 ≤ a ↔ a ≥ 0 from Iff.rfl, show 0 ≤ b ↔ b ≥ 0 from Iff.rfl]
theorem covers_eq (a b c d : Int) : fnDvector_Covers (a, b, c, d) = some (decide (c ≤ a ∧ d ≤ b)) := by
  simp only [fnDvector_Covers, fnvector_Covers, nodeDvector_Covers_n0, nodevector_Covers_n0]
  by_cases h : a ≥ c
  · rw [dec_true h, cond_true, bindO_pure]
    exact congrArg some (decide_eq_decide.2 ⟨fun h2 => ⟨h, h2⟩, fun h2 => h2.2⟩)
  · rw [dec_false h, cond_false, bindO_pure, dec_false (fun h2 => h h2.1)]
theorem refcovers_eq (a b c d : Int) : fnDref05_Covers (a, b, c, d) = some (decide (c ≤ a ∧ d ≤ b)) := by
  simp only [fnDref05_Covers, fnref05_Covers, nodeDref05_Covers_n0, noderef05_Covers_n0]
  by_cases h : a ≥ c
  · rw [dec_true h, cond_true, bindO_pure]
    exact congrArg some (decide_eq_decide.2 ⟨fun h2 => ⟨h, h2⟩, fun h2 => h2.2⟩)
  · rw [dec_false h, cond_false, bindO_pure, dec_false (fun h2 => h h2.1)]
def cmpV (a b c d : Int) : Int := if c ≤ a ∧ d ≤ b then (if a ≤ c ∧ b ≤ d then 0 else 1) else if a ≤ c ∧ b ≤ d then 2 else 3
theorem compare_eq (a b c d : Int) : fnDvector_Compare (a, b, c, d) = some (cmpV a b c d) := by
  simp only [fnDvector_Compare, fnvector_Compare, covers_eq, bindO_pure, nodeDvector_Compare_n0, nodevector_Compare_n0, nodeDvector_Compare_n1, nodevector_Compare_n1]
  unfold cmpV
  by_cases h1 : c ≤ a ∧ d ≤ b
  · rw [dec_true h1, if_pos h1]
    by_cases h2 : a ≤ c ∧ b ≤ d
    · rw [dec_true h2, if_pos h2]; rfl
    · rw [dec_false h2, if_neg h2]; rfl
  · rw [dec_false h1, if_neg h1]
    by_cases h2 : a ≤ c ∧ b ≤ d
    · rw [dec_true h2, if_pos h2]; rfl
    · rw [dec_false h2, if_neg h2]; rfl
theorem refcompare_eq (a b c d : Int) : fnDref05_Compare (a, b, c, d) = some (cmpV a b c d) := by
  simp only [fnDref05_Compare, fnref05_Compare, refcovers_eq, bindO_pure, nodeDref05_Compare_n0, noderef05_Compare_n0, nodeDref05_Compare_n1, noderef05_Compare_n1]
  unfold cmpV
  by_cases h1 : c ≤ a ∧ d ≤ b
  · rw [dec_true h1, if_pos h1]
    by_cases h2 : a ≤ c ∧ b ≤ d
    · rw [dec_true h2, if_pos h2]; rfl
    · rw [dec_false h2, if_neg h2]; rfl
  · rw [dec_false h1, if_neg h1]
    by_cases h2 : a ≤ c ∧ b ≤ d
    · rw [dec_true h2, if_pos h2]; rfl
    · rw [dec_false h2, if_neg h2]; rfl
theorem cmp_beside {a b c d : Int} (h : cmpV a b c d = 3) : a ≠ c := by
  unfold cmpV at h
  intro e
  subst e
  by_cases h1 : d ≤ b
  · rw [if_pos ⟨Int.le_refl _, h1⟩] at h
    split at h <;> omega
  · rw [if_neg (by omega), if_pos (by omega)] at h
    omega
/-- What is wrong with two versions. -/
def chkP (e a1 a2 : Int) (x : List UInt8) (b1 b2 : Int) (y : List UInt8) : Int :=
  if e < 0 then 3 else if e ≥ 24 then 3 else if ¬ MayV a1 a2 then 3 else if ¬ MayV b1 b2 then 3 else if x.length ≠ 128 then 12 else if y.length ≠ 128 then 12
  else if cmpV a1 a2 b1 b2 ≠ 3 then 10 else if a1 < b1 then 10 else 0
theorem scheck_eq (e a1 a2 : Int) (x : List UInt8) (b1 b2 : Int) (y : List UInt8) : fnDslot_Check (e, a1, a2, x, b1, b2, y) = some (chkP e a1 a2 x b1 b2 y) := by
  simp only [fnDslot_Check, fnslot_Check, nodeDslot_Check_n0, nodeslot_Check_n0, nodeDslot_Check_n1, nodeslot_Check_n1, nodeDslot_Check_n2, nodeslot_Check_n2, nodeDslot_Check_n3, nodeslot_Check_n3, nodeDslot_Check_n4, nodeslot_Check_n4, right_eq, compare_eq, bindO_pure, ibne]
  unfold chkP
  by_cases c1 : e < 0
  · rw [dec_true c1, if_pos c1]; rfl
  rw [dec_false c1, if_neg c1]
  by_cases c2 : e ≥ 24
  · rw [dec_true c2, if_pos c2]; rfl
  rw [dec_false c2, if_neg c2]
  by_cases c3 : MayV a1 a2
  · rw [dec_true c3, if_neg (fun h => h c3)]
    by_cases c4 : MayV b1 b2
    · rw [dec_true c4, if_neg (fun h => h c4)]
      by_cases c5 : x.length = 128
      · rw [dec_true (show (x.length : Int) = 128 by omega), if_neg (by simpa using c5)]
        by_cases c6 : y.length = 128
        · rw [dec_true (show (y.length : Int) = 128 by omega), if_neg (by simpa using c6)]
          by_cases c7 : cmpV a1 a2 b1 b2 = 3
          · rw [dec_true c7, if_neg (by simpa using c7)]
            by_cases c8 : a1 < b1
            · rw [dec_true c8, if_pos c8]; rfl
            · rw [dec_false c8, if_neg c8]; rfl
          · rw [dec_false c7, if_pos c7]; rfl
        · rw [dec_false (show ¬ (y.length : Int) = 128 by omega), if_pos c6]; rfl
      · rw [dec_false (show ¬ (x.length : Int) = 128 by omega), if_pos c5]; rfl
    · rw [dec_false c4, if_pos c4]; rfl
  · rw [dec_false c3, if_pos c3]; rfl
theorem refscheck_eq (e a1 a2 : Int) (x : List UInt8) (b1 b2 : Int) (y : List UInt8) : fnDref21_Check (e, a1, a2, x, b1, b2, y) = some (chkP e a1 a2 x b1 b2 y) := by
  simp only [fnDref21_Check, fnref21_Check, nodeDref21_Check_n0, noderef21_Check_n0, nodeDref21_Check_n1, noderef21_Check_n1, nodeDref21_Check_n2, noderef21_Check_n2, nodeDref21_Check_n3, noderef21_Check_n3, refright_eq, refcompare_eq, bindO_pure, ibne]
  unfold chkP
  by_cases c1 : e < 0
  · rw [dec_true c1, if_pos c1]; rfl
  rw [dec_false c1, if_neg c1]
  by_cases c2 : e ≥ 24
  · rw [dec_true c2, if_pos c2]; rfl
  rw [dec_false c2, if_neg c2]
  by_cases c3 : MayV a1 a2
  · rw [dec_true c3, if_neg (fun h => h c3)]
    by_cases c4 : MayV b1 b2
    · rw [dec_true c4, if_neg (fun h => h c4)]
      by_cases c5 : x.length = 128
      · rw [dec_true (show (x.length : Int) = 128 by omega), if_neg (by simpa using c5)]
        by_cases c6 : y.length = 128
        · rw [dec_true (show (y.length : Int) = 128 by omega), if_neg (by simpa using c6)]
          by_cases c7 : cmpV a1 a2 b1 b2 = 3
          · rw [dec_true c7, if_neg (by simpa using c7)]
            have hne := cmp_beside c7
            by_cases c8 : a1 < b1
            · rw [dec_true (show a1 ≤ b1 by omega), if_pos c8]; rfl
            · rw [dec_false (show ¬ a1 ≤ b1 by omega), if_neg c8]; rfl
          · rw [dec_false c7, if_pos c7]; rfl
        · rw [dec_false (show ¬ (y.length : Int) = 128 by omega), if_pos c6]; rfl
      · rw [dec_false (show ¬ (x.length : Int) = 128 by omega), if_pos c5]; rfl
    · rw [dec_false c4, if_pos c4]; rfl
  · rw [dec_false c3, if_pos c3]; rfl
theorem chkP_zero {e a1 a2 : Int} {x : List UInt8} {b1 b2 : Int} {y : List UInt8} (h : chkP e a1 a2 x b1 b2 y = 0) : (0 ≤ e ∧ e < 24) ∧ MayV a1 a2 ∧ MayV b1 b2 ∧ x.length = 128 ∧ y.length = 128 := by
  unfold chkP at h
  split at h
  · omega
  split at h
  · omega
  split at h
  · omega
  split at h
  · omega
  split at h
  · omega
  split at h
  · omega
  rename_i h1 h2 h3 h4 h5 h6
  exact ⟨by omega, Classical.not_not.1 h3, Classical.not_not.1 h4, Classical.not_not.1 h5, Classical.not_not.1 h6⟩

def headP (e a1 a2 b1 b2 : Int) : List UInt8 := putN (putN (putN (putN (putN [81] e 1) a1 7) a2 7) b1 7) b2 7
def sumP (e a1 a2 : Int) (x : List UInt8) (b1 b2 : Int) (y : List UInt8) : List UInt8 := headP e a1 a2 b1 b2 ++ tail (x ++ y)
def recP (e a1 a2 : Int) (x : List UInt8) (b1 b2 : Int) (y : List UInt8) : List UInt8 := padTo (sumP e a1 a2 x b1 b2 y ++ tail (sumP e a1 a2 x b1 b2 y)) ++ (x ++ y)
def putP (e a1 a2 : Int) (x : List UInt8) (b1 b2 : Int) (y : List UInt8) : List UInt8 × Int := if chkP e a1 a2 x b1 b2 y ≠ 0 then ([], chkP e a1 a2 x b1 b2 y) else (recP e a1 a2 x b1 b2 y, 0)
theorem headP_le (e a1 a2 b1 b2 : Int) : (headP e a1 a2 b1 b2).length ≤ 30 := by
  unfold headP
  have h1 := putN_len [81] e 1
  have h2 := putN_len (putN [81] e 1) a1 7
  have h3 := putN_len (putN (putN [81] e 1) a1 7) a2 7
  have h4 := putN_len (putN (putN (putN [81] e 1) a1 7) a2 7) b1 7
  have h5 := putN_len (putN (putN (putN (putN [81] e 1) a1 7) a2 7) b1 7) b2 7
  simp only [List.length_cons, List.length_nil] at h1
  omega
theorem vput_eq (s : List UInt8) (a b : Int) (hs : s.length ≤ 100000) : fnDvector_Put (s, a, b) = some (putN (putN s a 7) b 7) := by
  have h1 := putN_len s a 7
  have e1 := field_Put_eq s a 7 (by omega) (by omega)
  have e2 := field_Put_eq (putN s a 7) b 7 (by omega) (by omega)
  simp only [Int.cast_ofNat_Int] at e1 e2
  simp only [fnDvector_Put, fnvector_Put, e1, e2, bindO_pure]
theorem refvput_eq (s : List UInt8) (a b : Int) (ha : InI a) (hb : InI b) (hs : s.length ≤ 100000) : fnDref05_Put (s, a, b) = some (putN (putN s a 7) b 7) := by
  have h1 := putN_len s a 7
  have e1 := ref02_Put_eq s a 7 (by omega) ha (by omega)
  have e2 := ref02_Put_eq (putN s a 7) b 7 (by omega) hb (by omega)
  simp only [Int.cast_ofNat_Int] at e1 e2
  simp only [fnDref05_Put, fnref05_Put, e1, e2, bindO_pure]
theorem padTo_le (s : List UInt8) : (padTo s).length ≤ s.length + 64 := by simp [padTo]; omega
theorem sput_eq (e a1 a2 : Int) (x : List UInt8) (b1 b2 : Int) (y : List UInt8) : fnDslot_Put (e, a1, a2, x, b1, b2, y) = some (putP e a1 a2 x b1 b2 y) := by
  simp only [fnDslot_Put_is, fnslot_Put, scheck_eq, bindO_pure, ibne]
  unfold putP
  by_cases h : chkP e a1 a2 x b1 b2 y = 0
  · obtain ⟨_, _, _, hx, hy⟩ := chkP_zero h
    rw [dec_true h, if_neg (by simpa using h)]
    have l1 := putN_len [81] e 1
    have l2 := putN_len (putN [81] e 1) a1 7
    have l3 := putN_len (putN (putN [81] e 1) a1 7) a2 7
    simp only [List.length_cons, List.length_nil] at l1
    have e1 := field_Put_eq [81] e 1 (by omega) (by simp)
    simp only [Int.cast_ofNat_Int] at e1
    have hl := headP_le e a1 a2 b1 b2
    have hxy : (x ++ y).length = 256 := by rw [List.length_append]; omega
    have hs : (sumP e a1 a2 x b1 b2 y).length ≤ 34 := by unfold sumP; rw [List.length_append, tail_length]; omega
    have hp := padTo_le (sumP e a1 a2 x b1 b2 y ++ tail (sumP e a1 a2 x b1 b2 y))
    rw [List.length_append, tail_length] at hp
    simp only [Bool.not_true, cond_false, e1, bindO_pure, vput_eq (putN [81] e 1) a1 a2 (by omega), vput_eq (putN (putN (putN [81] e 1) a1 7) a2 7) b1 b2 (by omega), cyclic_Tail_eq (x ++ y) (by omega), ble_true (show x.length + y.length ≤ 9223372036854775807 by omega), cond_true]
    rw [show putN (putN (putN (putN (putN [81] e 1) a1 7) a2 7) b1 7) b2 7 = headP e a1 a2 b1 b2 from rfl, ble_true (by rw [tail_length]; omega), cond_true, show headP e a1 a2 b1 b2 ++ tail (x ++ y) = sumP e a1 a2 x b1 b2 y from rfl, cyclic_Tail_eq _ (by omega), bindO_pure,
      ble_true (by rw [tail_length]; omega), cond_true, region_Pad_eq _ (by rw [List.length_append, tail_length]; omega), bindO_pure, ble_true (by omega), cond_true]
    rfl
  · rw [dec_false h, if_pos h]; rfl
theorem refsput_eq (e a1 a2 : Int) (x : List UInt8) (b1 b2 : Int) (y : List UInt8) : fnDref21_Put (e, a1, a2, x, b1, b2, y) = some (putP e a1 a2 x b1 b2 y) := by
  simp only [fnDref21_Put, fnref21_Put, refscheck_eq, bindO_pure, ibne]
  unfold putP
  by_cases h : chkP e a1 a2 x b1 b2 y = 0
  · obtain ⟨he, ha, hb, hx, hy⟩ := chkP_zero h
    rw [dec_true h, if_neg (by simpa using h)]
    have l1 := putN_len [81] e 1
    have l2 := putN_len (putN [81] e 1) a1 7
    have l3 := putN_len (putN (putN [81] e 1) a1 7) a2 7
    simp only [List.length_cons, List.length_nil] at l1
    have e1 := ref02_Put_eq [81] e 1 (by omega) (by omega) (by simp)
    simp only [Int.cast_ofNat_Int] at e1
    have hl := headP_le e a1 a2 b1 b2
    have hxy : (x ++ y).length = 256 := by rw [List.length_append]; omega
    have hs : (sumP e a1 a2 x b1 b2 y).length ≤ 34 := by unfold sumP; rw [List.length_append, tail_length]; omega
    have hp := padTo_le (sumP e a1 a2 x b1 b2 y ++ tail (sumP e a1 a2 x b1 b2 y))
    rw [List.length_append, tail_length] at hp
    simp only [Bool.not_true, cond_false, e1, bindO_pure, refvput_eq (putN [81] e 1) a1 a2 (by omega) (by omega) (by omega), refvput_eq (putN (putN (putN [81] e 1) a1 7) a2 7) b1 b2 (by omega) (by omega) (by omega), ref03_Tail_eq (x ++ y) (by omega), ble_true (show x.length + y.length ≤ 9223372036854775807 by omega), cond_true]
    rw [show putN (putN (putN (putN (putN [81] e 1) a1 7) a2 7) b1 7) b2 7 = headP e a1 a2 b1 b2 from rfl, ble_true (by rw [tail_length]; omega), cond_true, show headP e a1 a2 b1 b2 ++ tail (x ++ y) = sumP e a1 a2 x b1 b2 y from rfl, ref03_Tail_eq _ (by omega), bindO_pure,
      ble_true (by rw [tail_length]; omega), cond_true, ref09_Pad_eq _ (by rw [List.length_append, tail_length]; omega), bindO_pure, ble_true (by omega), cond_true, ble_true (by rw [List.length_append]; omega), cond_true, List.append_assoc]
    rfl
  · rw [dec_false h, if_pos h]; rfl

/-- What is left of zeros at both ends: nothing, if all are. -/
theorem trimR_eq (s : List UInt8) (hs : s.length ≤ 1000000) : ∃ n, fnDstrings_trimRightByte (s, 0) = some (s.take n) ∧ (∀ c ∈ s.drop n, c = 0) := by
  have key : ∃ y, loopD (stepDstrings_trimRightByte_n0 0) FUEL (s.take (s.length - 0)) = some y ∧ ∃ n, y = s.take n ∧ ∀ c ∈ s.drop n, c = 0 := by
    refine loopD_inv (fun j v => j ≤ s.length ∧ v = s.take (s.length - j) ∧ ∀ c ∈ s.drop (s.length - j), c = 0) s.length _ ?_ ⟨by omega, rfl, by simp⟩ (by omega)
    rintro j v ⟨hj, rfl, hz⟩
    have hl : (s.take (s.length - j)).length = s.length - j := by rw [List.length_take]; omega
    simp only [stepDstrings_trimRightByte_n0, stepstrings_trimRightByte_n0, nodeDstrings_trimRightByte_n1, nodestrings_trimRightByte_n1, hl]
    by_cases h0 : s.length - j = 0
    · right
      rw [dec_false (show ¬ ((s.length - j : Nat) : Int) > 0 by omega)]
      exact ⟨_, rfl, _, rfl, hz⟩
    · have w : IntKind.wrap .i64 (((s.length - j : Nat) : Int) - 1) = ((s.length - j - 1 : Nat) : Int) := by rw [wrap64 (by omega) (by omega)]; omega
      have hg : (s.take (s.length - j))[s.length - j - 1]? = some s[s.length - j - 1] := by
        rw [List.getElem?_take_of_lt (by omega), List.getElem?_eq_getElem (by omega)]
      rw [dec_true (show ((s.length - j : Nat) : Int) > 0 by omega), cond_true, w, nth_of hg, bindO_pure, bindO_pure]
      by_cases hc : s[s.length - j - 1] = 0
      · left
        refine ⟨_, ?_, by omega, by omega, rfl, ?_⟩
        · rw [hc]
          simp only [show (((0 : UInt8).toNat : Int) == 0) = true from rfl, cond_true, inR_true (show (0 : Int) ≤ ((s.length - j - 1 : Nat) : Int) ∧ ((s.length - j - 1 : Nat) : Int) < ((s.length - j + 1 : Nat) : Int) by omega), Int.toNat_natCast, List.take_take, show min (s.length - j - 1) (s.length - j) = s.length - (j + 1) by omega]
        · intro c hcm
          rw [show s.length - (j + 1) = s.length - j - 1 by omega, List.drop_eq_getElem_cons (by omega), List.mem_cons] at hcm
          rcases hcm with rfl | hcm
          · exact hc
          · rw [show s.length - j - 1 + 1 = s.length - j by omega] at hcm
            exact hz c hcm
      · right
        have : ((s[s.length - j - 1].toNat : Int) == 0) = false := by
          rw [ibeq]
          refine dec_false fun h => hc ?_
          have h' : s[s.length - j - 1].toNat = 0 := by omega
          exact UInt8.toNat_inj.1 (by rw [h']; rfl)
        rw [this]
        exact ⟨_, rfl, _, rfl, hz⟩
  obtain ⟨y, hy, n, rfl, hz⟩ := key
  rw [Nat.sub_zero, List.take_length] at hy
  refine ⟨n, ?_, hz⟩
  simp only [fnDstrings_trimRightByte, fnstrings_trimRightByte, hy, bindO_pure]
theorem trimL_eq (s : List UInt8) (hs : s.length ≤ 1000000) : ∃ t, fnDstrings_trimLeftByte (s, 0) = some t ∧ (t = [] ↔ ∀ c ∈ s, c = 0) := by
  have key : ∃ y, loopD (stepDstrings_trimLeftByte_n0 0) FUEL (s.drop 0) = some y ∧ (y = [] ↔ ∀ c ∈ s, c = 0) := by
    refine loopD_inv (fun j v => j ≤ s.length ∧ v = s.drop j ∧ ∀ c ∈ s.take j, c = 0) s.length _ ?_ ⟨by omega, rfl, by simp⟩ (by omega)
    rintro j v ⟨hj, rfl, hz⟩
    have hl : (s.drop j).length = s.length - j := by rw [List.length_drop]
    simp only [stepDstrings_trimLeftByte_n0, stepstrings_trimLeftByte_n0, nodeDstrings_trimLeftByte_n1, nodestrings_trimLeftByte_n1, hl]
    by_cases h0 : s.length - j = 0
    · right
      rw [dec_false (show ¬ ((s.length - j : Nat) : Int) > 0 by omega)]
      refine ⟨_, rfl, ?_⟩
      rw [List.take_of_length_le (by omega)] at hz
      exact ⟨fun _ => hz, fun _ => List.drop_eq_nil_of_le (by omega)⟩
    · have hg : (s.drop j)[0]? = some s[j] := by rw [List.getElem?_drop, Nat.add_zero, List.getElem?_eq_getElem (by omega)]
      have hn : nth (s.drop j) 0 = some s[j] := nth_of hg
      rw [dec_true (show ((s.length - j : Nat) : Int) > 0 by omega), cond_true, hn, bindO_pure, bindO_pure]
      by_cases hc : s[j] = 0
      · left
        refine ⟨_, ?_, by omega, by omega, rfl, ?_⟩
        · rw [hc]
          simp only [show (((0 : UInt8).toNat : Int) == 0) = true from rfl, cond_true, inR_true (show (0 : Int) ≤ (1 : Int) ∧ (1 : Int) < ((s.length - j + 1 : Nat) : Int) by omega), List.drop_drop]
        · intro c hcm
          rw [List.take_add_one, List.getElem?_eq_getElem (by omega), List.mem_append] at hcm
          rcases hcm with hcm | hcm
          · exact hz c hcm
          · simp at hcm; rw [hcm, hc]
      · right
        have : ((s[j].toNat : Int) == 0) = false := by
          rw [ibeq]
          refine dec_false fun h => hc ?_
          have h' : s[j].toNat = 0 := by omega
          exact UInt8.toNat_inj.1 (by rw [h']; rfl)
        rw [this]
        refine ⟨_, rfl, fun e => ?_, fun h => absurd (h _ (List.getElem_mem _)) hc⟩
        rw [e] at hl; simp at hl; omega
  obtain ⟨y, hy, h⟩ := key
  rw [List.drop_zero] at hy
  exact ⟨y, by simp only [fnDstrings_trimLeftByte, fnstrings_trimLeftByte, hy, bindO_pure], h⟩
theorem trim_eq (s : List UInt8) (hs : s.length ≤ 1000000) : ∃ t, fnDstrings_Trim (s, [0]) = some t ∧ (t = [] ↔ ∀ c ∈ s, c = 0) := by
  simp only [fnDstrings_Trim, fnstrings_Trim, nodeDstrings_Trim_n0, nodestrings_Trim_n0, nodeDstrings_Trim_n1, nodestrings_Trim_n1]
  by_cases h : s = []
  · subst h
    exact ⟨[], rfl, by simp⟩
  · have hb : (s == []) = false := beq_false_of_ne h
    have h0 : nth [(0 : UInt8)] 0 = some 0 := rfl
    obtain ⟨n, h1, hz⟩ := trimR_eq s hs
    obtain ⟨t, h2, ht⟩ := trimL_eq (s.take n) (by rw [List.length_take]; omega)
    have h1' : fnDstrings_trimRightByte (s, (((0 : UInt8).toNat : Nat) : Int)) = some (s.take n) := h1
    have h2' : fnDstrings_trimLeftByte (s.take n, (((0 : UInt8).toNat : Nat) : Int)) = some t := h2
    have b1 : (([(0 : UInt8)]) == []) = false := rfl
    have b2 : ((([(0 : UInt8)].length : Nat) : Int) == 1) = true := rfl
    have b3 : decide ((((0 : UInt8).toNat : Nat) : Int) < 128) = true := dec_true (show ((0 : Nat) : Int) < 128 by omega)
    refine ⟨t, ?_, ?_⟩
    · rw [hb, cond_false, bindO_pure, b1, cond_false, b2, cond_true, h0, bindO_pure, bindO_pure, b3, cond_true, bindO_pure, h1', bindO_pure, bindO_pure, h2']
      rfl
    rw [ht]
    refine ⟨fun h c hc => ?_, fun h c hc => h c (List.mem_of_mem_take hc)⟩
    rw [← List.take_append_drop n s, List.mem_append] at hc
    rcases hc with hc | hc
    · exact h c hc
    · exact hz c hc
end Go.Proofs.R5
namespace Go.Proofs.R5
open Go Go.AE Go.Plain

abbrev R9 := Int × Int × Int × List UInt8 × Int × Int × List UInt8 × Bool × Int
def noP (e : Int) : R9 := (0, 0, 0, [], 0, 0, [], false, e)
abbrev nS (s : List UInt8) (i k : Nat) : Int := ((num ((s.drop i).take k) : Nat) : Int)
def fieldsP (s : List UInt8) : R9 := (nS s 1 1, nS s 2 7, nS s 9 7, (s.drop 64).take 128, nS s 16 7, nS s 23 7, s.drop 192, true, 0)
def finP (s : List UInt8) (q : List UInt8 × Int) (r : R9) : R9 := if q = (s, 0) then r else noP 4
def getP (s : List UInt8) : R9 :=
  if s.length ≠ 320 then noP 12
  else if ∀ c ∈ s.take 64, c = 0 then noP 0
  else if s.take 1 ≠ [81] then noP 4
  else if (s.drop 34).take 4 ≠ tail (s.take 34) then noP 5
  else if (s.drop 30).take 4 ≠ tail (s.drop 64) then noP 5
  else finP s (putP (nS s 1 1) (nS s 2 7) (nS s 9 7) ((s.drop 64).take 128) (nS s 16 7) (nS s 23 7) (s.drop 192)) (fieldsP s)

theorem fin_eqP (s : List UInt8) (q : List UInt8 × Int) (r : R9) : (bindO (bif q.2 != 0 then some true else some (!q.1 == s)) fun t => bif t then some (noP 4) else some r) = some (finP s q r) := by
  unfold finP
  by_cases h2 : q.2 = 0
  · have : (q.2 != 0) = false := by rw [ibne, dec_true h2]; rfl
    rw [this, cond_false, bindO_pure]
    by_cases h1 : q.1 = s
    · have : (q.1 == s) = true := by rw [h1]; exact beq_self_eq_true s
      rw [this, if_pos (by obtain ⟨a, b⟩ := q; simp only at h1 h2; rw [h1, h2])]; rfl
    · rw [beq_false_of_ne h1, if_neg (fun e => h1 (by rw [e]))]; rfl
  · have : (q.2 != 0) = true := by rw [ibne, dec_false h2]; rfl
    rw [this, cond_true, bindO_pure, if_neg (fun e => h2 (by rw [e]))]; rfl
theorem fin_eqP' (s : List UInt8) (q : List UInt8 × Int) (r : R9) : (bindO (bif q.2 != 0 then some true else some (!q.1 == s)) fun t => bif t then some ((0, 0, 0, [], 0, 0, [], false, 4) : R9) else some r) = some (finP s q r) := fin_eqP s q r

theorem sget_eq (s : List UInt8) : fnDslot_Get s = some (getP s) := by
  rw [fnDslot_Get_is]
  simp only [fnslot_Get]
  unfold getP
  by_cases h : s.length = 320
  · have hb : ((s.length : Int) != 320) = false := by rw [ibne, dec_true (show (s.length : Int) = 320 by omega)]; rfl
    obtain ⟨t, ht, hz⟩ := trim_eq (s.take 64) (by rw [List.length_take]; omega)
    rw [hb, if_neg (by simpa using h), cond_false, inR_true (show (0 : Int) ≤ 64 ∧ (64 : Int) < ((s.length + 1 : Nat) : Int) by omega), cond_true, ht, bindO_pure]
    by_cases c0 : ∀ c ∈ s.take 64, c = 0
    · rw [if_pos c0, hz.2 c0]; rfl
    · rw [if_neg c0, beq_false_of_ne (fun e => c0 (hz.1 e)), cond_false]
      have hd : ∀ i : Nat, (s.drop i).length = 320 - i := fun i => by rw [List.length_drop, h]
      have b1 := Reader_Bytes_eq 1 s (by omega) (by omega)
      have n1 := Reader_Num_eq 1 (s.drop 1) (by omega) (by rw [hd]; omega) (by rw [hd]; omega)
      have n2 := Reader_Num_eq 7 (s.drop 2) (by omega) (by rw [hd]; omega) (by rw [hd]; omega)
      have n3 := Reader_Num_eq 7 (s.drop 9) (by omega) (by rw [hd]; omega) (by rw [hd]; omega)
      have n4 := Reader_Num_eq 7 (s.drop 16) (by omega) (by rw [hd]; omega) (by rw [hd]; omega)
      have n5 := Reader_Num_eq 7 (s.drop 23) (by omega) (by rw [hd]; omega) (by rw [hd]; omega)
      have b2 := Reader_Bytes_eq 4 (s.drop 30) (by rw [hd]; omega) (by rw [hd]; omega)
      have b3 := Reader_Bytes_eq 4 (s.drop 34) (by rw [hd]; omega) (by rw [hd]; omega)
      simp only [Int.cast_ofNat_Int, List.drop_drop, Nat.reduceAdd] at b1 n1 n2 n3 n4 n5 b2 b3
      simp only [fnDfield_New, fnfield_New, bindO_pure, b1, unP]
      by_cases c1 : s.take 1 = [81]
      · rw [if_neg (by simpa using c1), c1]
        have e81 : (([(81 : UInt8)]) == [81]) = true := rfl
        have r34 : inR 34 (s.length + 1) = true := inR_true ⟨by omega, by omega⟩
        have r64 : inR 64 (s.length + 1) = true := inR_true ⟨by omega, by omega⟩
        simp only [e81, Bool.not_true, cond_false, n1, n2, n3, n4, n5, b2, b3, bindO_pure, unP, r34, r64, cond_true, nodeDslot_Get_n0, nodeslot_Get_n0, cyclic_Tail_eq (s.take 34) (by rw [List.length_take]; omega), cyclic_Tail_eq (s.drop 64) (by rw [hd]; omega)]
        generalize tail (s.take 34) = tl at *
        generalize hts : tail (s.drop 64) = ts at *
        by_cases c2 : (s.drop 34).take 4 = tl
        · rw [if_neg (by simpa using c2), c2, beq_self_eq_true, Bool.not_true, cond_false]
          by_cases c3 : (s.drop 30).take 4 = ts
          · rw [if_neg (by simpa using c3), c3, beq_self_eq_true, Bool.not_true, bindO_pure, cond_false, inR_true (show (0 : Int) ≤ 128 ∧ (128 : Int) < (((s.drop 64).length + 1 : Nat) : Int) by rw [hd]; omega), cond_true, cond_true]
            rw [show (s.drop 64).drop 128 = s.drop 192 by rw [List.drop_drop]]
            rw [sput_eq, bindO_pure]
            exact fin_eqP' s _ _
          · rw [if_pos c3, beq_false_of_ne c3]; rfl
        · rw [if_pos c2, beq_false_of_ne c2]; rfl
      · rw [if_pos c1, beq_false_of_ne c1]; rfl
  · have hb : ((s.length : Int) != 320) = true := by rw [ibne, dec_false (show ¬ (s.length : Int) = 320 by omega)]; rfl
    rw [hb, if_pos h]; rfl

theorem refnum21 (s : List UInt8) (hs : s.length ≤ 7) : fnDref21_number s = some ((num s : Nat) : Int) := by
  have := number_loop (fun s => stepDref21_number_n0 s) s hs (fun n j h => by simp only [stepDref21_number_n0, stepref21_number_n0, h, cond_true]) (fun n j h => by simp only [stepDref21_number_n0, stepref21_number_n0, h, cond_false])
  simp only [fnDref21_number, fnref21_number, this, bindO_pure]
theorem take1 {s : List UInt8} {j : Nat} {c : UInt8} (h : s[j]? = some c) : (s.drop j).take 1 = [c] := by
  have hlt := (List.getElem?_eq_some_iff.1 h)
  obtain ⟨h1, h2⟩ := hlt
  rw [List.drop_eq_getElem_cons h1, h2]; rfl
theorem num1 (c : UInt8) : num [c] = c.toNat := by simp [num]
theorem zeros_iff (t : List UInt8) (h : t.length = 64) : (t == [0, 0, 0, 0, 0, 0, 0, 0, 0, 0, 0, 0, 0, 0, 0, 0, 0, 0, 0, 0, 0, 0, 0, 0, 0, 0, 0, 0, 0, 0, 0, 0, 0, 0, 0, 0, 0, 0, 0, 0, 0, 0, 0, 0, 0, 0, 0, 0, 0, 0, 0, 0, 0, 0, 0, 0, 0, 0, 0, 0, 0, 0, 0, 0]) = decide (∀ c ∈ t, c = 0) := by
  have e : ([0, 0, 0, 0, 0, 0, 0, 0, 0, 0, 0, 0, 0, 0, 0, 0, 0, 0, 0, 0, 0, 0, 0, 0, 0, 0, 0, 0, 0, 0, 0, 0, 0, 0, 0, 0, 0, 0, 0, 0, 0, 0, 0, 0, 0, 0, 0, 0, 0, 0, 0, 0, 0, 0, 0, 0, 0, 0, 0, 0, 0, 0, 0, 0] : List UInt8) = List.replicate 64 0 := by decide +kernel
  rw [e]
  by_cases hz : ∀ c ∈ t, c = 0
  · rw [dec_true hz, List.eq_replicate_iff.2 ⟨h, hz⟩]; exact beq_self_eq_true _
  · rw [dec_false hz]
    exact beq_false_of_ne fun he => hz (List.eq_replicate_iff.1 he).2

theorem refsget_eq (s : List UInt8) : fnDref21_Get s = some (getP s) := by
  simp only [fnDref21_Get, fnref21_Get]
  unfold getP
  by_cases h : s.length = 320
  · have hb : ((s.length : Int) != 320) = false := by rw [ibne, dec_true (show (s.length : Int) = 320 by omega)]; rfl
    have hd : ∀ i : Nat, (s.drop i).length = 320 - i := fun i => by rw [List.length_drop, h]
    have rr : ∀ i : Int, 0 ≤ i ∧ i ≤ 320 → inR i (s.length + 1) = true := fun i hi => inR_true ⟨hi.1, by omega⟩
    rw [hb, if_neg (by simpa using h), cond_false, rr 64 (by omega), cond_true, zeros_iff _ (by rw [List.length_take]; omega)]
    by_cases c0 : ∀ c ∈ s.take 64, c = 0
    · rw [if_pos c0, dec_true c0]; rfl
    · rw [if_neg c0, dec_false c0, cond_false]
      have g0 : s[0]? = some s[0] := List.getElem?_eq_getElem (by omega)
      have g1 : s[1]? = some s[1] := List.getElem?_eq_getElem (by omega)
      generalize s[0] = x0 at g0
      generalize s[1] = x1 at g1
      have hn0 : nth s 0 = some x0 := nth_of g0
      have hn1 : nth s 1 = some x1 := nth_of g1
      have t0 : s.take 1 = [x0] := take1 (j := 0) g0
      have t1 : nS s 1 1 = (x1.toNat : Int) := by unfold nS; rw [take1 g1, num1]
      have hx1 : x1.toNat < 256 := x1.toNat_lt
      have w1 : IntKind.wrap .i64 (x1.toNat : Int) = (x1.toNat : Int) := wrap64 (by omega) (by omega)
      rw [hn0, bindO_pure, t0, t1]
      by_cases c1 : x0 = 81
      · subst c1
        have e81 : ((((81 : UInt8).toNat : Nat) : Int) != 81) = false := rfl
        rw [if_neg (by simp), e81, cond_false]
        simp only [rr 38 (by omega), rr 34 (by omega), rr 64 (by omega), rr 9 (by omega), rr 16 (by omega), rr 192 (by omega), rr 23 (by omega), rr 30 (by omega), Bool.and_true, cond_true, ref03_Tail_eq (s.take 34) (by rw [List.length_take]; omega), ref03_Tail_eq (s.drop 64) (by rw [hd]; omega), bindO_pure, Nat.reduceSub,
          hn1, w1, refnum21 ((s.drop 2).take 7) (by rw [List.length_take]; omega), refnum21 ((s.drop 9).take 7) (by rw [List.length_take]; omega), refnum21 ((s.drop 16).take 7) (by rw [List.length_take]; omega), refnum21 ((s.drop 23).take 7) (by rw [List.length_take]; omega)]
        generalize tail (s.take 34) = tl at *
        generalize hts : tail (s.drop 64) = ts at *
        by_cases c2 : (s.drop 34).take 4 = tl
        · rw [if_neg (by simpa using c2), c2, beq_self_eq_true, Bool.not_true, cond_false]
          by_cases c3 : (s.drop 30).take 4 = ts
          · rw [if_neg (by simpa using c3), c3, beq_self_eq_true, Bool.not_true, cond_false, refsput_eq, bindO_pure]
            have := fin_eqP' s (putP (x1.toNat : Int) (nS s 2 7) (nS s 9 7) ((s.drop 64).take 128) (nS s 16 7) (nS s 23 7) (s.drop 192)) (fieldsP s)
            rw [← this]
            unfold fieldsP
            rw [t1]
            rfl
          · rw [if_pos c3, beq_false_of_ne c3]; rfl
        · rw [if_pos c2, beq_false_of_ne c2]; rfl
      · have e81 : (((x0.toNat : Nat) : Int) != 81) = true := by
          rw [ibne, dec_false (fun he => c1 (UInt8.toNat_inj.1 (by rw [show x0.toNat = 81 by omega]; rfl)))]; rfl
        rw [if_pos (by intro e; exact c1 (List.cons.inj e).1), e81]; rfl
  · have hb : ((s.length : Int) != 320) = true := by rw [ibne, dec_false (show ¬ (s.length : Int) = 320 by omega)]; rfl
    rw [hb, if_pos h]; rfl
end Go.Proofs.R5
namespace Go.Proofs.R5
open Go Go.AE Go.Plain

theorem putN_inS (s : List UInt8) {n : Int} {k : Nat} (h : 0 ≤ n ∧ n < ((256 ^ k : Nat) : Int)) : putN s n k = s ++ be k n.toNat := by unfold putN; rw [if_pos h]
theorem drop_app {a b : List UInt8} {n : Nat} (h : a.length = n) : (a ++ b).drop n = b := by rw [← h, List.drop_left]
theorem take_app {a b : List UInt8} {n : Nat} (h : a.length = n) : (a ++ b).take n = a := by rw [← h, List.take_left]
theorem head_is {e a1 a2 : Int} {x : List UInt8} {b1 b2 : Int} {y : List UInt8} (h : chkP e a1 a2 x b1 b2 y = 0) :
    headP e a1 a2 b1 b2 = [81] ++ (be 1 e.toNat ++ (be 7 a1.toNat ++ (be 7 a2.toNat ++ (be 7 b1.toNat ++ be 7 b2.toNat)))) := by
  obtain ⟨he, ha, hb, _, _⟩ := chkP_zero h
  unfold headP
  rw [putN_inS [81] (k := 1) (n := e) (by omega), putN_inS _ (k := 7) (n := a1) (by omega), putN_inS _ (k := 7) (n := a2) (by omega), putN_inS _ (k := 7) (n := b1) (by omega), putN_inS _ (k := 7) (n := b2) (by omega)]
  simp only [List.append_assoc]
theorem head_len {e a1 a2 : Int} {x : List UInt8} {b1 b2 : Int} {y : List UInt8} (h : chkP e a1 a2 x b1 b2 y = 0) : (headP e a1 a2 b1 b2).length = 30 := by
  rw [head_is h]; simp only [List.length_append, be_length, List.length_cons, List.length_nil]
theorem rec_is {e a1 a2 : Int} {x : List UInt8} {b1 b2 : Int} {y : List UInt8} (h : chkP e a1 a2 x b1 b2 y = 0) :
    recP e a1 a2 x b1 b2 y = headP e a1 a2 b1 b2 ++ (tail (x ++ y) ++ (tail (sumP e a1 a2 x b1 b2 y) ++ (List.replicate 26 0 ++ (x ++ y)))) := by
  have hl := head_len h
  have hs : (sumP e a1 a2 x b1 b2 y).length = 34 := by unfold sumP; rw [List.length_append, hl, tail_length]
  unfold recP
  rw [padTo_sealed (by omega), hs]
  conv => lhs; unfold sumP
  simp only [List.append_assoc]
  rfl
theorem rec_len {e a1 a2 : Int} {x : List UInt8} {b1 b2 : Int} {y : List UInt8} (h : chkP e a1 a2 x b1 b2 y = 0) : (recP e a1 a2 x b1 b2 y).length = 320 := by
  obtain ⟨_, _, _, hx, hy⟩ := chkP_zero h
  rw [rec_is h]
  simp only [List.length_append, head_len h, tail_length, List.length_replicate, hx, hy]
theorem rec_get {e a1 a2 : Int} {x : List UInt8} {b1 b2 : Int} {y : List UInt8} (h : chkP e a1 a2 x b1 b2 y = 0) : getP (recP e a1 a2 x b1 b2 y) = (e, a1, a2, x, b1, b2, y, true, 0) := by
  obtain ⟨he, ha, hb, hx, hy⟩ := chkP_zero h
  have hl := rec_len h
  have hh := head_len h
  have hi := rec_is h
  generalize hr : recP e a1 a2 x b1 b2 y = s at *
  have hsum : (sumP e a1 a2 x b1 b2 y).length = 34 := by unfold sumP; rw [List.length_append, hh, tail_length]
  have d30 : s.drop 30 = tail (x ++ y) ++ (tail (sumP e a1 a2 x b1 b2 y) ++ (List.replicate 26 0 ++ (x ++ y))) := by rw [hi, drop_app hh]
  have d34 : s.drop 34 = tail (sumP e a1 a2 x b1 b2 y) ++ (List.replicate 26 0 ++ (x ++ y)) := by
    rw [show s.drop 34 = (s.drop 30).drop 4 by rw [List.drop_drop], d30, drop_app (tail_length _)]
  have d64 : s.drop 64 = x ++ y := by
    rw [show s.drop 64 = ((s.drop 34).drop 4).drop 26 by rw [List.drop_drop, List.drop_drop], d34, drop_app (tail_length _), drop_app (List.length_replicate ..)]
  have d192 : s.drop 192 = y := by rw [show s.drop 192 = (s.drop 64).drop 128 by rw [List.drop_drop], d64, drop_app hx]
  have t34 : s.take 34 = sumP e a1 a2 x b1 b2 y := by
    rw [hi, ← List.append_assoc, show headP e a1 a2 b1 b2 ++ tail (x ++ y) = sumP e a1 a2 x b1 b2 y from rfl, take_app hsum]
  have hc : s = [81] ++ (be 1 e.toNat ++ (be 7 a1.toNat ++ (be 7 a2.toNat ++ (be 7 b1.toNat ++ (be 7 b2.toNat ++ s.drop 30))))) := by
    conv => lhs; rw [← List.take_append_drop 30 s, show s.take 30 = headP e a1 a2 b1 b2 by rw [hi, take_app hh], head_is h]
    simp only [List.append_assoc]
  generalize hzz : s.drop 30 = z at hc d30
  have d1 : s.drop 1 = be 1 e.toNat ++ (be 7 a1.toNat ++ (be 7 a2.toNat ++ (be 7 b1.toNat ++ (be 7 b2.toNat ++ z)))) := by rw [hc]; rfl
  have d2 : s.drop 2 = be 7 a1.toNat ++ (be 7 a2.toNat ++ (be 7 b1.toNat ++ (be 7 b2.toNat ++ z))) := by rw [show s.drop 2 = (s.drop 1).drop 1 by rw [List.drop_drop], d1, drop_app (be_length 1 _)]
  have d9 : s.drop 9 = be 7 a2.toNat ++ (be 7 b1.toNat ++ (be 7 b2.toNat ++ z)) := by rw [show s.drop 9 = (s.drop 2).drop 7 by rw [List.drop_drop], d2, drop_app (be_length 7 _)]
  have d16 : s.drop 16 = be 7 b1.toNat ++ (be 7 b2.toNat ++ z) := by rw [show s.drop 16 = (s.drop 9).drop 7 by rw [List.drop_drop], d9, drop_app (be_length 7 _)]
  have d23 : s.drop 23 = be 7 b2.toNat ++ z := by rw [show s.drop 23 = (s.drop 16).drop 7 by rw [List.drop_drop], d16, drop_app (be_length 7 _)]
  have f1 : nS s 1 1 = e := by unfold nS; rw [d1, take_app (be_length 1 _), num_be_small (by omega)]; omega
  have f2 : nS s 2 7 = a1 := by unfold nS; rw [d2, take_app (be_length 7 _), num_be_small (by omega)]; omega
  have f3 : nS s 9 7 = a2 := by unfold nS; rw [d9, take_app (be_length 7 _), num_be_small (by omega)]; omega
  have f4 : nS s 16 7 = b1 := by unfold nS; rw [d16, take_app (be_length 7 _), num_be_small (by omega)]; omega
  have f5 : nS s 23 7 = b2 := by unfold nS; rw [d23, take_app (be_length 7 _), num_be_small (by omega)]; omega
  have p0 : s.take 1 = [81] := by rw [hc]; rfl
  have nz : ¬ ∀ c ∈ s.take 64, c = 0 := by
    intro hz
    have h81 : (81 : UInt8) ∈ s.take 64 := by
      have : s.take 64 = s.take 1 ++ (s.drop 1).take 63 := by rw [← List.take_add]
      rw [this, p0]; exact List.mem_append_left _ (List.mem_singleton.2 rfl)
    have := hz _ h81
    exact absurd this (by decide)
  unfold getP
  rw [if_neg (by omega), if_neg nz, if_neg (fun e => e p0), d34, t34, if_neg (fun e => e (take_app (tail_length _))), hzz, d30, d64, if_neg (fun e => e (take_app (tail_length _)))]
  unfold fieldsP
  rw [f1, f2, f3, f4, f5, d64, d192, take_app hx]
  have hp : putP e a1 a2 x b1 b2 y = (s, 0) := by unfold putP; rw [if_neg (by omega), hr]
  rw [hp]
  unfold finP
  rw [if_pos rfl]
theorem get_rec {s : List UInt8} (h : (getP s).2.2.2.2.2.2.2.1 = true) : ∃ e a1 a2 x b1 b2 y, chkP e a1 a2 x b1 b2 y = 0 ∧ s = recP e a1 a2 x b1 b2 y := by
  unfold getP at h
  split at h
  · cases h
  split at h
  · cases h
  split at h
  · cases h
  split at h
  · cases h
  split at h
  · cases h
  unfold finP at h
  split at h
  · rename_i hp
    refine ⟨nS s 1 1, nS s 2 7, nS s 9 7, (s.drop 64).take 128, nS s 16 7, nS s 23 7, s.drop 192, ?_, ?_⟩
    rotate_left
    · unfold putP at hp
      split at hp
      · rename_i hc
        exact absurd (congrArg Prod.snd hp) hc
      · exact (congrArg Prod.fst hp).symm
    · unfold putP at hp
      split at hp
      · rename_i hc
        exact absurd (congrArg Prod.snd hp) hc
      · rename_i hc
        exact Classical.not_not.1 hc
  · cases h

theorem works21 : fnDlaw21_works () = some true := by
  have h0 : chkP 5 2 0 (List.replicate 128 0) 1 1 (List.replicate 128 0) = 0 := by
    unfold chkP
    rw [if_neg (by omega), if_neg (by omega), if_neg (fun h => h (by omega)), if_neg (fun h => h (by omega)), if_neg (by simp), if_neg (by simp), if_neg (by decide), if_neg (by omega)]
  have hz : (0 :: 0 :: 0 :: 0 :: 0 :: 0 :: 0 :: 0 :: 0 :: 0 :: 0 :: 0 :: 0 :: 0 :: 0 :: 0 :: 0 :: 0 :: 0 :: 0 :: 0 :: 0 :: 0 :: 0 :: 0 :: 0 :: 0 :: 0 :: 0 :: 0 :: 0 :: 0 :: 0 :: 0 :: 0 :: 0 :: 0 :: 0 :: 0 :: 0 :: 0 :: 0 :: 0 :: 0 :: 0 :: 0 :: 0 :: 0 :: 0 :: 0 :: 0 :: 0 :: 0 :: 0 :: 0 :: 0 :: 0 :: 0 :: 0 :: 0 :: 0 :: 0 :: 0 :: 0 :: 0 :: 0 :: 0 :: 0 :: 0 :: 0 :: 0 :: 0 :: 0 :: 0 :: 0 :: 0 :: 0 :: 0 :: 0 :: 0 :: 0 :: 0 :: 0 :: 0 :: 0 :: 0 :: 0 :: 0 :: 0 :: 0 :: 0 :: 0 :: 0 :: 0 :: 0 :: 0 :: 0 :: 0 :: 0 :: 0 :: 0 :: 0 :: 0 :: 0 :: 0 :: 0 :: 0 :: 0 :: 0 :: 0 :: 0 :: 0 :: 0 :: 0 :: 0 :: 0 :: 0 :: 0 :: 0 :: 0 :: 0 :: 0 :: 0 :: 0 :: 0 :: 0 :: 0 :: 0 :: [] : List UInt8) = List.replicate 128 0 := by decide +kernel
  have hp : putP 5 2 0 (List.replicate 128 0) 1 1 (List.replicate 128 0) = (recP 5 2 0 (List.replicate 128 0) 1 1 (List.replicate 128 0), 0) := by unfold putP; rw [if_neg (fun h => h h0)]
  have hl := rec_len h0
  have hg := rec_get h0
  generalize recP 5 2 0 (List.replicate 128 0) 1 1 (List.replicate 128 0) = s at *
  simp only [fnDlaw21_works, fnlaw21_works, hz, sput_eq, hp, bindO_pure, unP, sget_eq, hg, nodeDlaw21_works_n0, nodelaw21_works_n0]
  have e1 : ((s.length : Int) == 320) = true := by rw [hl]; rfl
  rw [e1]
  simp [bindO_pure]

theorem SlotPuts_true (e a1 a2 : Int) (x : List UInt8) (b1 b2 : Int) (y : List UInt8) : fnDlaw21_SlotPuts (e, a1, a2, x, b1, b2, y) = some true := by
  simp only [fnDlaw21_SlotPuts, fnlaw21_SlotPuts, works21, bindO_pure, Bool.not_true, cond_false, sput_eq, refsput_eq, unP, nodeDlaw21_SlotPuts_n0, nodelaw21_SlotPuts_n0, nodeDlaw21_SlotPuts_n1, nodelaw21_SlotPuts_n1, scheck_eq, refscheck_eq, beq_self_eq_true, cond_true]
  by_cases c1 : (x.length : Int) > 1000
  · rw [dec_true c1]; rfl
  · rw [dec_false c1, cond_false, bindO_pure]
    by_cases c2 : (y.length : Int) > 1000
    · rw [dec_true c2]; rfl
    · rw [dec_false c2]; rfl
theorem SlotGets_true (s : List UInt8) : fnDlaw21_SlotGets s = some true := by
  simp only [fnDlaw21_SlotGets, fnlaw21_SlotGets, works21, bindO_pure, Bool.not_true, cond_false, sget_eq, refsget_eq]
  by_cases c1 : (s.length : Int) > 3000
  · rw [dec_true c1]; rfl
  · rw [dec_false c1]
    generalize getP s = g
    obtain ⟨e, a1, a2, x, b1, b2, y, ok, er⟩ := g
    simp only [cond_false, unP, nodeDlaw21_SlotGets_n0, nodelaw21_SlotGets_n0, beq_self_eq_true, Bool.and_true, cond_true, bindO_pure]
end Go.Proofs.R5
namespace Go.Proofs.R5
open Go Go.AE Go.Plain
theorem law21_SlotBack_turned (p0 : List UInt8) (m0 m1 m2 : Int) (e0 : List UInt8) (e1 : Int) (e2 : Int) (e3 : List UInt8) (e4 : Int) (e5 : Int) (e6 : Int) (e7 : Int) (k : Nat) (hk : k ≤ 2000) (o : List Int) (hl : o.length ≤ 2000) : ∃ o', nodeDlaw21_SlotBack_n5 (p0, (k : Int), m0, m1, m2, e0, e1, e2, e3, e4, e5, e6, e7, o) = some o' ∧ Turned k o o' := by
  have r0 : ∀ o : List Int, o.length ≤ 2000 → ∃ v, nodeDlaw21_SlotBack_n6 (p0, (k : Int), m0, m1, m2, e0, e1, e2, e3, e4, e5, e6, e7, o) = some (if k + 0 < o.length then .inl (o.set (k + 0) v) else .inr ()) := by
    intro o hl
    have w : IntKind.wrap .i64 ((k : Int) + 0) = ((k + 0 : Nat) : Int) := by rw [wrap64 (by omega) (by omega)]; omega
    simp only [nodeDlaw21_SlotBack_n6, nodelaw21_SlotBack_n6, nodeDlaw21_SlotBack_n7, nodelaw21_SlotBack_n7, bindO_pure, w]
    by_cases h : k + 0 < o.length
    · have hx : o[k + 0]? = some o[k + 0] := List.getElem?_eq_getElem h
      generalize o[k + 0] = x at hx
      simp only [dec_true (show ((k + 0 : Nat) : Int) < (o.length : Int) by omega), inR_true (show (0 : Int) ≤ ((k + 0 : Nat) : Int) ∧ ((k + 0 : Nat) : Int) < (o.length : Int) by omega), cond_true, Int.toNat_natCast, hx, bindO_pure, if_pos h]
      exact ⟨_, rfl⟩
    · simp only [dec_false (show ¬ ((k + 0 : Nat) : Int) < (o.length : Int) by omega), cond_false, if_neg h]
      first | exact ⟨0, rfl⟩ | exact ⟨0, True.intro⟩
  have r1 : ∀ o : List Int, o.length ≤ 2000 → ∃ v, nodeDlaw21_SlotBack_n6v1 (p0, (k : Int), m0, m1, m2, e0, e1, e2, e3, e4, e5, e6, e7, o) = some (if k + 1 < o.length then .inl (o.set (k + 1) v) else .inr ()) := by
    intro o hl
    have w : IntKind.wrap .i64 ((k : Int) + 1) = ((k + 1 : Nat) : Int) := by rw [wrap64 (by omega) (by omega)]; omega
    simp only [nodeDlaw21_SlotBack_n6v1, nodelaw21_SlotBack_n6v1, nodeDlaw21_SlotBack_n7v1, nodelaw21_SlotBack_n7v1, bindO_pure, w]
    by_cases h : k + 1 < o.length
    · have hx : o[k + 1]? = some o[k + 1] := List.getElem?_eq_getElem h
      generalize o[k + 1] = x at hx
      simp only [dec_true (show ((k + 1 : Nat) : Int) < (o.length : Int) by omega), inR_true (show (0 : Int) ≤ ((k + 1 : Nat) : Int) ∧ ((k + 1 : Nat) : Int) < (o.length : Int) by omega), cond_true, Int.toNat_natCast, hx, bindO_pure, if_pos h]
      exact ⟨_, rfl⟩
    · simp only [dec_false (show ¬ ((k + 1 : Nat) : Int) < (o.length : Int) by omega), cond_false, if_neg h]
      first | exact ⟨0, rfl⟩ | exact ⟨0, True.intro⟩
  have r2 : ∀ o : List Int, o.length ≤ 2000 → ∃ v, nodeDlaw21_SlotBack_n6v2 (p0, (k : Int), m0, m1, m2, e0, e1, e2, e3, e4, e5, e6, e7, o) = some (if k + 2 < o.length then .inl (o.set (k + 2) v) else .inr ()) := by
    intro o hl
    have w : IntKind.wrap .i64 ((k : Int) + 2) = ((k + 2 : Nat) : Int) := by rw [wrap64 (by omega) (by omega)]; omega
    simp only [nodeDlaw21_SlotBack_n6v2, nodelaw21_SlotBack_n6v2, nodeDlaw21_SlotBack_n7v2, nodelaw21_SlotBack_n7v2, bindO_pure, w]
    by_cases h : k + 2 < o.length
    · have hx : o[k + 2]? = some o[k + 2] := List.getElem?_eq_getElem h
      generalize o[k + 2] = x at hx
      simp only [dec_true (show ((k + 2 : Nat) : Int) < (o.length : Int) by omega), inR_true (show (0 : Int) ≤ ((k + 2 : Nat) : Int) ∧ ((k + 2 : Nat) : Int) < (o.length : Int) by omega), cond_true, Int.toNat_natCast, hx, bindO_pure, if_pos h]
      exact ⟨_, rfl⟩
    · simp only [dec_false (show ¬ ((k + 2 : Nat) : Int) < (o.length : Int) by omega), cond_false, if_neg h]
      first | exact ⟨0, rfl⟩ | exact ⟨0, True.intro⟩
  have r3 : ∀ o : List Int, o.length ≤ 2000 → ∃ v, nodeDlaw21_SlotBack_n6v3 (p0, (k : Int), m0, m1, m2, e0, e1, e2, e3, e4, e5, e6, e7, o) = some (if k + 3 < o.length then .inl (o.set (k + 3) v) else .inr ()) := by
    intro o hl
    have w : IntKind.wrap .i64 ((k : Int) + 3) = ((k + 3 : Nat) : Int) := by rw [wrap64 (by omega) (by omega)]; omega
    simp only [nodeDlaw21_SlotBack_n6v3, nodelaw21_SlotBack_n6v3, nodeDlaw21_SlotBack_n7v3, nodelaw21_SlotBack_n7v3, bindO_pure, w]
    by_cases h : k + 3 < o.length
    · have hx : o[k + 3]? = some o[k + 3] := List.getElem?_eq_getElem h
      generalize o[k + 3] = x at hx
      simp only [dec_true (show ((k + 3 : Nat) : Int) < (o.length : Int) by omega), inR_true (show (0 : Int) ≤ ((k + 3 : Nat) : Int) ∧ ((k + 3 : Nat) : Int) < (o.length : Int) by omega), cond_true, Int.toNat_natCast, hx, bindO_pure, if_pos h]
      exact ⟨_, rfl⟩
    · simp only [dec_false (show ¬ ((k + 3 : Nat) : Int) < (o.length : Int) by omega), cond_false, if_neg h]
      first | exact ⟨0, rfl⟩ | exact ⟨0, True.intro⟩
  simp only [nodeDlaw21_SlotBack_n5, nodelaw21_SlotBack_n5]
  obtain ⟨v0, h0⟩ := r0 o hl
  rw [h0, bindO_pure]
  by_cases c0 : k + 0 < (o).length
  rotate_left
  · rw [if_neg c0, Sum.elim_inr]
    exact ⟨_, rfl, Turned.refl k o⟩
  rw [if_pos c0, Sum.elim_inl]
  obtain ⟨v1, h1⟩ := r1 ((o).set (k + 0) v0) (by rw [List.length_set]; exact hl)
  rw [h1, bindO_pure]
  by_cases c1 : k + 1 < ((o).set (k + 0) v0).length
  rotate_left
  · rw [if_neg c1, Sum.elim_inr]
    exact ⟨_, rfl, (Turned.refl k o).set ⟨by omega, by omega⟩ v0⟩
  rw [if_pos c1, Sum.elim_inl]
  obtain ⟨v2, h2⟩ := r2 (((o).set (k + 0) v0).set (k + 1) v1) (by rw [List.length_set]; exact (by rw [List.length_set]; exact hl))
  rw [h2, bindO_pure]
  by_cases c2 : k + 2 < (((o).set (k + 0) v0).set (k + 1) v1).length
  rotate_left
  · rw [if_neg c2, Sum.elim_inr]
    exact ⟨_, rfl, ((Turned.refl k o).set ⟨by omega, by omega⟩ v0).set ⟨by omega, by omega⟩ v1⟩
  rw [if_pos c2, Sum.elim_inl]
  obtain ⟨v3, h3⟩ := r3 ((((o).set (k + 0) v0).set (k + 1) v1).set (k + 2) v2) (by rw [List.length_set]; exact (by rw [List.length_set]; exact (by rw [List.length_set]; exact hl)))
  rw [h3, bindO_pure]
  by_cases c3 : k + 3 < ((((o).set (k + 0) v0).set (k + 1) v1).set (k + 2) v2).length
  rotate_left
  · rw [if_neg c3, Sum.elim_inr]
    exact ⟨_, rfl, (((Turned.refl k o).set ⟨by omega, by omega⟩ v0).set ⟨by omega, by omega⟩ v1).set ⟨by omega, by omega⟩ v2⟩
  rw [if_pos c3, Sum.elim_inl]
  exact ⟨_, rfl, ((((Turned.refl k o).set ⟨by omega, by omega⟩ v0).set ⟨by omega, by omega⟩ v1).set ⟨by omega, by omega⟩ v2).set ⟨by omega, by omega⟩ v3⟩

theorem data_turned {s B : List UInt8} {k : Nat} (hs : s.length = 320) (ht : Turned k s B) (hk : 64 ≤ k) : B.take 64 = s.take 64 ∧ (tail (B.drop 64) = tail (s.drop 64) → B = s) := by
  have hB : B.length = 320 := by rw [ht.len, hs]
  have h1 : B.take 64 = s.take 64 := by
    apply List.ext_getElem?
    intro i
    by_cases hi : i < 64
    · rw [List.getElem?_take_of_lt hi, List.getElem?_take_of_lt hi]
      exact ht.out i (.inl (by omega))
    · rw [List.getElem?_eq_none (by rw [List.length_take]; omega), List.getElem?_eq_none (by rw [List.length_take]; omega)]
  refine ⟨h1, fun he => ?_⟩
  have hd : (s.drop 64).length = 256 := by rw [List.length_drop, hs]
  have hd' : (B.drop 64).length = 256 := by rw [List.length_drop, hB]
  have := burst_at (s := B.drop 64 ++ tail (B.drop 64)) (t := s.drop 64 ++ tail (s.drop 64)) (k - 64) (by rw [List.length_append, List.length_append, hd, hd', tail_length, tail_length]) (by rw [List.length_append, hd', tail_length]; omega) ⟨_, rfl⟩ ⟨_, rfl⟩ (fun i hi => by
    rw [he]
    by_cases h2 : i < 256
    · rw [List.getElem?_append_left (by omega), List.getElem?_append_left (by omega), List.getElem?_drop, List.getElem?_drop]
      exact ht.out _ (by omega)
    · rw [List.getElem?_append_right (by omega), List.getElem?_append_right (by omega), hd, hd'])
  have h3 : B.drop 64 = s.drop 64 := (List.append_inj this (by omega)).1
  rw [← List.take_append_drop 64 B, h1, h3, List.take_append_drop]
theorem get_turned {e a1 a2 : Int} {x : List UInt8} {b1 b2 : Int} {y : List UInt8} (h : chkP e a1 a2 x b1 b2 y = 0) {B : List UInt8} {k : Nat} (ht : Turned k (recP e a1 a2 x b1 b2 y) B) (hk : 64 ≤ k) (hne : B ≠ recP e a1 a2 x b1 b2 y) : getP B = noP 5 := by
  have hl := rec_len h
  have hg := rec_get h
  generalize recP e a1 a2 x b1 b2 y = s at *
  obtain ⟨h1, h2⟩ := data_turned hl ht hk
  have hB : B.length = 320 := by rw [ht.len, hl]
  have tk : ∀ i n : Nat, i + n ≤ 64 → (B.drop i).take n = (s.drop i).take n := by
    intro i n hin
    have e1 : (B.drop i).take n = ((B.take 64).drop i).take n := by rw [List.drop_take, List.take_take, Nat.min_eq_left (by omega)]
    have e2 : (s.drop i).take n = ((s.take 64).drop i).take n := by rw [List.drop_take, List.take_take, Nat.min_eq_left (by omega)]
    rw [e1, e2, h1]
  have tk0 : ∀ n : Nat, n ≤ 64 → B.take n = s.take n := fun n hn => by have := tk 0 n (by omega); simpa using this
  unfold getP at hg ⊢
  rw [if_neg (by omega)] at hg
  rw [if_neg (by omega), h1]
  by_cases c0 : ∀ c ∈ s.take 64, c = 0
  · rw [if_pos c0] at hg; cases hg
  rw [if_neg c0] at hg ⊢
  rw [tk0 1 (by omega)]
  by_cases c1 : s.take 1 ≠ [81]
  · rw [if_pos c1] at hg; cases hg
  rw [if_neg c1] at hg ⊢
  rw [tk 34 4 (by omega), tk0 34 (by omega)]
  by_cases c2 : (s.drop 34).take 4 ≠ tail (s.take 34)
  · rw [if_pos c2] at hg; cases hg
  rw [if_neg c2] at hg ⊢
  rw [tk 30 4 (by omega)]
  by_cases c3 : (s.drop 30).take 4 ≠ tail (s.drop 64)
  · rw [if_pos c3] at hg; cases hg
  have c3' := Classical.not_not.1 c3
  rw [if_pos (fun he => hne (h2 (he.symm.trans c3')))]

theorem SlotBack_true (e a1 a2 : Int) (x : List UInt8) (b1 b2 : Int) (y : List UInt8) (at_ c0 c1 c2 c3 : Int) (text : List UInt8) : fnDlaw21_SlotBack (e, a1, a2, x, b1, b2, y, at_, c0, c1, c2, c3, text) = some true := by
  simp only [fnDlaw21_SlotBack, fnlaw21_SlotBack, works21, bindO_pure, Bool.not_true, cond_false, nodeDlaw21_SlotBack_n0, nodelaw21_SlotBack_n0, sget_eq, sput_eq]
  by_cases g1 : (x.length : Int) > 1000
  · rw [dec_true g1]; rfl
  by_cases g2 : (y.length : Int) > 1000
  · rw [dec_false g1, dec_true g2]; rfl
  by_cases g3 : (text.length : Int) > 3000
  · rw [dec_false g1, dec_false g2, dec_true g3]; rfl
  rw [dec_false g1, dec_false g2, dec_false g3]
  simp only [cond_false, bindO_pure]
  -- what is read of the text
  have hfirst : (getP text).2.2.2.2.2.2.2.1 = true → ∃ p1 p2 p3 p4 p5 p6 p7, getP text = (p1, p2, p3, p4, p5, p6, p7, true, 0) ∧ putP p1 p2 p3 p4 p5 p6 p7 = (text, 0) := by
    intro h
    obtain ⟨p1, p2, p3, p4, p5, p6, p7, h1, h2⟩ := get_rec h
    refine ⟨p1, p2, p3, p4, p5, p6, p7, by rw [h2]; exact rec_get h1, ?_⟩
    unfold putP; rw [if_neg (by omega), ← h2]
  have e0 : ((0 : Int) != 0) = false := rfl
  have hn1 : ∃ r : Unit ⊕ Unit, r = .inr () ∧ ∀ (k : Unit ⊕ Unit → Option Bool), (unP (fun r_0_0 => unP fun r_0_1 => unP fun r_0_2 => unP fun r_0_3 => unP fun r_0_4 => unP fun r_0_5 => unP fun r_0_6 => unP fun r_1 r_2 =>
      bindO (nodeDlaw21_SlotBack_n1 (at_, text, r_2, r_1, e, a1, a2, x, b1, b2, y, c0, c1, c2, c3, r_0_0, r_0_1, r_0_2, r_0_3, r_0_4, r_0_5, r_0_6)) k) (getP text) : Option Bool) = k r := by
    refine ⟨.inr (), rfl, fun k => ?_⟩
    by_cases h : (getP text).2.2.2.2.2.2.2.1 = true
    · obtain ⟨p1, p2, p3, p4, p5, p6, p7, h1, h2⟩ := hfirst h
      rw [h1]
      simp only [unP, nodeDlaw21_SlotBack_n1, nodelaw21_SlotBack_n1, cond_true, sput_eq, h2, bindO_pure, nodeDlaw21_SlotBack_n2, nodelaw21_SlotBack_n2, e0, cond_false, beq_self_eq_true, Bool.not_true]
    · generalize getP text = g at h
      obtain ⟨p1, p2, p3, p4, p5, p6, p7, ok, er⟩ := g
      have hok : ok = false := by simpa using h
      subst hok
      simp only [unP, nodeDlaw21_SlotBack_n1, nodelaw21_SlotBack_n1, cond_false, bindO_pure]
  obtain ⟨r, rfl, hn1⟩ := hn1
  rw [hn1]
  simp only [Sum.elim_inr]
  by_cases hc : chkP e a1 a2 x b1 b2 y = 0
  · have hp : putP e a1 a2 x b1 b2 y = (recP e a1 a2 x b1 b2 y, 0) := by unfold putP; rw [if_neg (by omega)]
    have hl := rec_len hc
    have hg := rec_get hc
    have hturn := fun B k => get_turned hc (B := B) (k := k)
    generalize hs : recP e a1 a2 x b1 b2 y = s at *
    have eL : ((s.length : Int) != 320) = false := by rw [ibne, dec_true (show (s.length : Int) = 320 by omega)]; rfl
    obtain ⟨k, hk, hk64⟩ : ∃ k : Nat, IntKind.wrap .i64 (64 + IntKind.wrap .i64 (Int.tmod (IntKind.wrap .u64 at_) 256)) = (k : Int) ∧ 64 ≤ k ∧ k ≤ 2000 := by
      have h0 : 0 ≤ IntKind.wrap .u64 at_ := by simp [IntKind.wrap, IntKind.bits, IntKind.signed]; omega
      obtain ⟨m, hm⟩ := Int.eq_ofNat_of_zero_le h0
      have hlt : m % 256 < 256 := Nat.mod_lt _ (by omega)
      refine ⟨64 + m % 256, ?_, by omega, by omega⟩
      rw [hm]
      have : Int.tmod (m : Int) 256 = ((m % 256 : Nat) : Int) := rfl
      rw [this, wrapN (by omega), wrap64 (by omega) (by omega)]; omega
    have il : (intsOf s).length = 320 := by rw [intsOf, List.length_map, hl]
    obtain ⟨o', ho, htn⟩ := law21_SlotBack_turned s e a1 a2 x b1 b2 y c0 c1 c2 c3 k hk64.2 (intsOf s) (by omega)
    have htb : Turned k s (bytesOf o') := by
      have := htn.map (fun n : Int => UInt8.ofNat n.toNat)
      rw [show (intsOf s).map (fun n : Int => UInt8.ofNat n.toNat) = s from bytes_ints _] at this
      exact this
    simp only [hp, unP, nodeDlaw21_SlotBack_n3, nodelaw21_SlotBack_n3, e0, cond_false, eL, bindO_pure, ble_true (show s.length ≤ 140737488355328 by omega), cond_true, hk, ho, hg, nodeDlaw21_SlotBack_n8, nodelaw21_SlotBack_n8, beq_self_eq_true, Bool.and_true]
    by_cases hB : bytesOf o' = s
    · rw [hB, hg, beq_self_eq_true]; rfl
    · rw [hturn _ k htb hk64.1 hB, beq_false_of_ne hB]; rfl
  · have hp : putP e a1 a2 x b1 b2 y = ([], chkP e a1 a2 x b1 b2 y) := by unfold putP; rw [if_pos hc]
    have : (chkP e a1 a2 x b1 b2 y != 0) = true := by rw [bne_iff_ne]; exact hc
    rw [hp]
    simp only [unP, nodeDlaw21_SlotBack_n3, nodelaw21_SlotBack_n3, nodeDlaw21_SlotBack_n4, nodelaw21_SlotBack_n4, this, cond_true, bindO_pure]
    rfl
end Go.Proofs.R5
