/- What the functions that LogscanOrderSaid reaches compute: part 5. -/
import Derived.Test.YtkoocdpbnniamaaOwnLogscanOrderSaid4
set_option linter.unusedVariables false
set_option linter.unusedSimpArgs false
namespace Go.Proofs.R4
open Go Go.AE
--@ law12_both
noncomputable def envlaw12_both : Env := [(13, .func Fdisk_New), (12, .func Fregion_New), (15, .func Fref08_New), (16, .func Fref09_New)]
theorem envlaw12_bothOk : EnvOk Try.prog envlaw12_both := EnvOk.cons Fdisk_New_ok (EnvOk.cons Fregion_New_ok (EnvOk.cons Fref08_New_ok (EnvOk.cons Fref09_New_ok (EnvOk.nil))))
noncomputable def blaw12_both : Code := Try.f5.body.getD .skip
noncomputable def Llaw12_both_n0 : Code := codeAt [1, 1, 1, 1, 0, 0] blaw12_both
noncomputable def annLlaw12_both_n0 : Ann := .none
theorem annLlaw12_both_n0_ok : AnnOk Try.prog 44 Llaw12_both_n0 annLlaw12_both_n0 := (annOk_none _ _ _)
abbrev Ilaw12_both_n0 := (Int) × (List (List UInt8)) × (List (List UInt8)) × (List (List UInt8))
abbrev Ylaw12_both_n0 := Unit
def Slaw12_both_n0 : Ilaw12_both_n0 → St := fun (t0, o2, o6, o7) => { env := [(0, AV.int IntKind.i64 t0), (6, AV.ptr 0 0), (7, AV.ptr 1 0), (8, AV.nilp), (9, AV.int IntKind.i64 (3)), (10, AV.nilp), (11, AV.int IntKind.i64 (3))], stk := [[]], H := [AE.Obj.cells [AV.own 2, AV.map 3, AV.own 4, AV.int IntKind.i64 (0), AV.own 5, AV.int IntKind.i64 (0), AV.bool (false)], AE.Obj.cells [AV.own 6, AV.own 7, AV.own 8, AV.int IntKind.i64 (0), AV.own 9, AV.int IntKind.i64 (0), AV.bool (false)], Obj.arr Ty.str o2, Obj.mp IntKind.i64 Ty.str ([]), Obj.arr (Ty.st (Ty.pair (Ty.int IntKind.i64) Ty.str)) ([]), Obj.arr (Ty.int IntKind.i64) ([]), Obj.arr Ty.str o6, Obj.arr Ty.str o7, Obj.arr (Ty.st (Ty.pair (Ty.int IntKind.i64) Ty.str)) ([]), Obj.arr (Ty.int IntKind.i64) ([])], blk := 20480 }
def declaw12_both_n0 (s : St) : Option Ilaw12_both_n0 := match s with
  | { env := [(0, AV.int IntKind.i64 t0), (6, AV.ptr 0 0), (7, AV.ptr 1 0), (8, AV.nilp), (9, AV.int IntKind.i64 r1), (10, AV.nilp), (11, AV.int IntKind.i64 r2)], stk := [[]], H := [AE.Obj.cells [AV.own 2, AV.map 3, AV.own 4, AV.int IntKind.i64 r3, AV.own 5, AV.int IntKind.i64 r4, AV.bool r5], AE.Obj.cells [AV.own 6, AV.own 7, AV.own 8, AV.int IntKind.i64 r6, AV.own 9, AV.int IntKind.i64 r7, AV.bool r8], Obj.arr Ty.str o2, Obj.mp IntKind.i64 Ty.str r10, Obj.arr (Ty.st (Ty.pair (Ty.int IntKind.i64) Ty.str)) r11, Obj.arr (Ty.int IntKind.i64) r12, Obj.arr Ty.str o6, Obj.arr Ty.str o7, Obj.arr (Ty.st (Ty.pair (Ty.int IntKind.i64) Ty.str)) r15, Obj.arr (Ty.int IntKind.i64) r16], blk := 20480 } => cond (decide (r1 = 3) && decide (r2 = 3) && decide (r3 = 0) && decide (r4 = 0) && decide (r5 = false) && decide (r6 = 0) && decide (r7 = 0) && decide (r8 = false) && decide (r10 = []) && decide (r11 = []) && decide (r12 = []) && decide (r15 = []) && decide (r16 = [])) (some (t0, o2, o6, o7)) none
  | _ => none
theorem declaw12_both_n0_ok (s : St) (x : Ilaw12_both_n0) (h : declaw12_both_n0 s = some x) : s = Slaw12_both_n0 x := by
  unfold declaw12_both_n0 at h
  split at h
  · replace h := cond_noneO h; obtain ⟨hg, h⟩ := h; simp only [Bool.and_eq_true, decide_eq_true_eq] at hg; simp only [hg]; cases h; rfl
  · cases h
def outlaw12_both_n0 : Ilaw12_both_n0 → (Ex → St → Ans) → Ylaw12_both_n0 → Ans := fun (t0, o2, o6, o7) K => fun _ => K (Ex.norm) { env := [(6, AV.ptr 0 0), (7, AV.ptr 1 0), (8, AV.nilp), (10, AV.nilp), (39, AV.bool (true))], stk := [[]], H := [AE.Obj.cells [AV.own 2, AV.map 3, AV.own 4, AV.int IntKind.i64 (0), AV.own 5, AV.int IntKind.i64 (0), AV.bool (false)], AE.Obj.cells [AV.own 6, AV.own 7, AV.own 8, AV.int IntKind.i64 (0), AV.own 9, AV.int IntKind.i64 (0), AV.bool (false)], Obj.arr Ty.str o2, Obj.mp IntKind.i64 Ty.str ([]), Obj.arr (Ty.st (Ty.pair (Ty.int IntKind.i64) Ty.str)) ([]), Obj.arr (Ty.int IntKind.i64) ([]), Obj.arr Ty.str o6, Obj.arr Ty.str o7, Obj.arr (Ty.st (Ty.pair (Ty.int IntKind.i64) Ty.str)) ([]), Obj.arr (Ty.int IntKind.i64) ([])], blk := 20480 }
def nodelaw12_both_n0 {β : Type} : Ilaw12_both_n0 → (Ylaw12_both_n0 → Option β) → Option β := fun (t0, o2, o6, o7) exit => (exit ())
def nodeDlaw12_both_n0 (i : Ilaw12_both_n0) : Option Ylaw12_both_n0 := nodelaw12_both_n0 i some
theorem nodelaw12_both_n0_nat (i : Ilaw12_both_n0) (k : Ylaw12_both_n0 → Ans) : nodelaw12_both_n0 i k = bindO (nodeDlaw12_both_n0 i) k := by
  obtain ⟨t0, o2, o6, o7⟩ := i
  simp only [nodeDlaw12_both_n0, nodelaw12_both_n0, bindO_cond, bindO_assoc, bindO_none, bindO_pure, bindO_elim, bindO_unP]
theorem nodelaw12_both_n0_ok (i : Ilaw12_both_n0) (K : Ex → St → Ans) : codeI Try.tab envlaw12_both noHint (codeD Try.tab envlaw12_both noHint 0 64) 70 44 annLlaw12_both_n0 Llaw12_both_n0 (weakP 0 (exk [6, 7, 8, 10, 39] [2, 3, 4, 5] []) K) (Slaw12_both_n0 i) = nodelaw12_both_n0 i (outlaw12_both_n0 i K) := by kernel_rfl
theorem GNlaw12_both_n0_ok : CSum Try.prog 44 Llaw12_both_n0 (sumN declaw12_both_n0 nodeDlaw12_both_n0 outlaw12_both_n0) := csum_node mixed tabOk envlaw12_bothOk 0 (exk [6, 7, 8, 10, 39] [2, 3, 4, 5] []) annLlaw12_both_n0_ok declaw12_both_n0_ok nodelaw12_both_n0_ok nodelaw12_both_n0_nat
abbrev Ilaw12_both_n0v1 := (Int) × (Int) × (List (List UInt8)) × (List (List UInt8)) × (List (List UInt8))
abbrev Ylaw12_both_n0v1 := Unit
def Slaw12_both_n0v1 : Ilaw12_both_n0v1 → St := fun (t0, o2_2, o3, o7, o8) => { env := [(0, AV.int IntKind.i64 t0), (6, AV.ptr 0 0), (7, AV.ptr 1 0), (8, AV.nilp), (9, AV.int IntKind.i64 (3)), (10, AV.ptr 2 0), (11, AV.int IntKind.i64 (0))], stk := [[]], H := [AE.Obj.cells [AV.own 3, AV.map 4, AV.own 5, AV.int IntKind.i64 (0), AV.own 6, AV.int IntKind.i64 (0), AV.bool (false)], AE.Obj.cells [AV.own 7, AV.own 8, AV.own 9, AV.int IntKind.i64 (0), AV.own 10, AV.int IntKind.i64 (0), AV.bool (false)], AE.Obj.cells [AV.ptr 1 0, AV.int IntKind.i64 (5), AV.int IntKind.i64 o2_2], Obj.arr Ty.str o3, Obj.mp IntKind.i64 Ty.str ([]), Obj.arr (Ty.st (Ty.pair (Ty.int IntKind.i64) Ty.str)) ([]), Obj.arr (Ty.int IntKind.i64) ([]), Obj.arr Ty.str o7, Obj.arr Ty.str o8, Obj.arr (Ty.st (Ty.pair (Ty.int IntKind.i64) Ty.str)) ([]), Obj.arr (Ty.int IntKind.i64) ([])], blk := 20480 }
def declaw12_both_n0v1 (s : St) : Option Ilaw12_both_n0v1 := match s with
  | { env := [(0, AV.int IntKind.i64 t0), (6, AV.ptr 0 0), (7, AV.ptr 1 0), (8, AV.nilp), (9, AV.int IntKind.i64 r1), (10, AV.ptr 2 0), (11, AV.int IntKind.i64 r2)], stk := [[]], H := [AE.Obj.cells [AV.own 3, AV.map 4, AV.own 5, AV.int IntKind.i64 r3, AV.own 6, AV.int IntKind.i64 r4, AV.bool r5], AE.Obj.cells [AV.own 7, AV.own 8, AV.own 9, AV.int IntKind.i64 r6, AV.own 10, AV.int IntKind.i64 r7, AV.bool r8], AE.Obj.cells [AV.ptr 1 0, AV.int IntKind.i64 r9, AV.int IntKind.i64 o2_2], Obj.arr Ty.str o3, Obj.mp IntKind.i64 Ty.str r12, Obj.arr (Ty.st (Ty.pair (Ty.int IntKind.i64) Ty.str)) r13, Obj.arr (Ty.int IntKind.i64) r14, Obj.arr Ty.str o7, Obj.arr Ty.str o8, Obj.arr (Ty.st (Ty.pair (Ty.int IntKind.i64) Ty.str)) r17, Obj.arr (Ty.int IntKind.i64) r18], blk := 20480 } => cond (decide (r1 = 3) && decide (r2 = 0) && decide (r3 = 0) && decide (r4 = 0) && decide (r5 = false) && decide (r6 = 0) && decide (r7 = 0) && decide (r8 = false) && decide (r9 = 5) && decide (r12 = []) && decide (r13 = []) && decide (r14 = []) && decide (r17 = []) && decide (r18 = [])) (some (t0, o2_2, o3, o7, o8)) none
  | _ => none
theorem declaw12_both_n0v1_ok (s : St) (x : Ilaw12_both_n0v1) (h : declaw12_both_n0v1 s = some x) : s = Slaw12_both_n0v1 x := by
  unfold declaw12_both_n0v1 at h
  split at h
  · replace h := cond_noneO h; obtain ⟨hg, h⟩ := h; simp only [Bool.and_eq_true, decide_eq_true_eq] at hg; simp only [hg]; cases h; rfl
  · cases h
def outlaw12_both_n0v1 : Ilaw12_both_n0v1 → (Ex → St → Ans) → Ylaw12_both_n0v1 → Ans := fun (t0, o2_2, o3, o7, o8) K => fun _ => K (Ex.norm) { env := [(6, AV.ptr 0 0), (7, AV.ptr 1 0), (8, AV.nilp), (10, AV.ptr 2 0), (39, AV.bool (true))], stk := [[]], H := [AE.Obj.cells [AV.own 3, AV.map 4, AV.own 5, AV.int IntKind.i64 (0), AV.own 6, AV.int IntKind.i64 (0), AV.bool (false)], AE.Obj.cells [AV.own 7, AV.own 8, AV.own 9, AV.int IntKind.i64 (0), AV.own 10, AV.int IntKind.i64 (0), AV.bool (false)], AE.Obj.cells [AV.ptr 1 0, AV.int IntKind.i64 (5), AV.int IntKind.i64 o2_2], Obj.arr Ty.str o3, Obj.mp IntKind.i64 Ty.str ([]), Obj.arr (Ty.st (Ty.pair (Ty.int IntKind.i64) Ty.str)) ([]), Obj.arr (Ty.int IntKind.i64) ([]), Obj.arr Ty.str o7, Obj.arr Ty.str o8, Obj.arr (Ty.st (Ty.pair (Ty.int IntKind.i64) Ty.str)) ([]), Obj.arr (Ty.int IntKind.i64) ([])], blk := 20480 }
def nodelaw12_both_n0v1 {β : Type} : Ilaw12_both_n0v1 → (Ylaw12_both_n0v1 → Option β) → Option β := fun (t0, o2_2, o3, o7, o8) exit => (exit ())
def nodeDlaw12_both_n0v1 (i : Ilaw12_both_n0v1) : Option Ylaw12_both_n0v1 := nodelaw12_both_n0v1 i some
theorem nodelaw12_both_n0v1_nat (i : Ilaw12_both_n0v1) (k : Ylaw12_both_n0v1 → Ans) : nodelaw12_both_n0v1 i k = bindO (nodeDlaw12_both_n0v1 i) k := by
  obtain ⟨t0, o2_2, o3, o7, o8⟩ := i
  simp only [nodeDlaw12_both_n0v1, nodelaw12_both_n0v1, bindO_cond, bindO_assoc, bindO_none, bindO_pure, bindO_elim, bindO_unP]
theorem nodelaw12_both_n0v1_ok (i : Ilaw12_both_n0v1) (K : Ex → St → Ans) : codeI Try.tab envlaw12_both noHint (codeD Try.tab envlaw12_both noHint 0 64) 70 44 annLlaw12_both_n0 Llaw12_both_n0 (weakP 0 (exk [6, 7, 8, 10, 39] [2, 3, 4, 5] []) K) (Slaw12_both_n0v1 i) = nodelaw12_both_n0v1 i (outlaw12_both_n0v1 i K) := by kernel_rfl
theorem GNlaw12_both_n0v1_ok : CSum Try.prog 44 Llaw12_both_n0 (sumN declaw12_both_n0v1 nodeDlaw12_both_n0v1 outlaw12_both_n0v1) := csum_node mixed tabOk envlaw12_bothOk 0 (exk [6, 7, 8, 10, 39] [2, 3, 4, 5] []) annLlaw12_both_n0_ok declaw12_both_n0v1_ok nodelaw12_both_n0v1_ok nodelaw12_both_n0v1_nat
abbrev Ilaw12_both_n0v2 := (Int) × (Int) × (List (List UInt8)) × (List (List UInt8)) × (List (List UInt8))
abbrev Ylaw12_both_n0v2 := Unit
def Slaw12_both_n0v2 : Ilaw12_both_n0v2 → St := fun (t0, o2_2, o3, o7, o8) => { env := [(0, AV.int IntKind.i64 t0), (6, AV.ptr 0 0), (7, AV.ptr 1 0), (8, AV.ptr 2 0), (9, AV.int IntKind.i64 (0)), (10, AV.nilp), (11, AV.int IntKind.i64 (3))], stk := [[]], H := [AE.Obj.cells [AV.own 3, AV.map 4, AV.own 5, AV.int IntKind.i64 (0), AV.own 6, AV.int IntKind.i64 (0), AV.bool (false)], AE.Obj.cells [AV.own 7, AV.own 8, AV.own 9, AV.int IntKind.i64 (0), AV.own 10, AV.int IntKind.i64 (0), AV.bool (false)], AE.Obj.cells [AV.ptr 0 0, AV.int IntKind.i64 (5), AV.int IntKind.i64 o2_2], Obj.arr Ty.str o3, Obj.mp IntKind.i64 Ty.str ([]), Obj.arr (Ty.st (Ty.pair (Ty.int IntKind.i64) Ty.str)) ([]), Obj.arr (Ty.int IntKind.i64) ([]), Obj.arr Ty.str o7, Obj.arr Ty.str o8, Obj.arr (Ty.st (Ty.pair (Ty.int IntKind.i64) Ty.str)) ([]), Obj.arr (Ty.int IntKind.i64) ([])], blk := 20480 }
def declaw12_both_n0v2 (s : St) : Option Ilaw12_both_n0v2 := match s with
  | { env := [(0, AV.int IntKind.i64 t0), (6, AV.ptr 0 0), (7, AV.ptr 1 0), (8, AV.ptr 2 0), (9, AV.int IntKind.i64 r1), (10, AV.nilp), (11, AV.int IntKind.i64 r2)], stk := [[]], H := [AE.Obj.cells [AV.own 3, AV.map 4, AV.own 5, AV.int IntKind.i64 r3, AV.own 6, AV.int IntKind.i64 r4, AV.bool r5], AE.Obj.cells [AV.own 7, AV.own 8, AV.own 9, AV.int IntKind.i64 r6, AV.own 10, AV.int IntKind.i64 r7, AV.bool r8], AE.Obj.cells [AV.ptr 0 0, AV.int IntKind.i64 r9, AV.int IntKind.i64 o2_2], Obj.arr Ty.str o3, Obj.mp IntKind.i64 Ty.str r12, Obj.arr (Ty.st (Ty.pair (Ty.int IntKind.i64) Ty.str)) r13, Obj.arr (Ty.int IntKind.i64) r14, Obj.arr Ty.str o7, Obj.arr Ty.str o8, Obj.arr (Ty.st (Ty.pair (Ty.int IntKind.i64) Ty.str)) r17, Obj.arr (Ty.int IntKind.i64) r18], blk := 20480 } => cond (decide (r1 = 0) && decide (r2 = 3) && decide (r3 = 0) && decide (r4 = 0) && decide (r5 = false) && decide (r6 = 0) && decide (r7 = 0) && decide (r8 = false) && decide (r9 = 5) && decide (r12 = []) && decide (r13 = []) && decide (r14 = []) && decide (r17 = []) && decide (r18 = [])) (some (t0, o2_2, o3, o7, o8)) none
  | _ => none
theorem declaw12_both_n0v2_ok (s : St) (x : Ilaw12_both_n0v2) (h : declaw12_both_n0v2 s = some x) : s = Slaw12_both_n0v2 x := by
  unfold declaw12_both_n0v2 at h
  split at h
  · replace h := cond_noneO h; obtain ⟨hg, h⟩ := h; simp only [Bool.and_eq_true, decide_eq_true_eq] at hg; simp only [hg]; cases h; rfl
  · cases h
def outlaw12_both_n0v2 : Ilaw12_both_n0v2 → (Ex → St → Ans) → Ylaw12_both_n0v2 → Ans := fun (t0, o2_2, o3, o7, o8) K => fun _ => K (Ex.norm) { env := [(6, AV.ptr 0 0), (7, AV.ptr 1 0), (8, AV.ptr 2 0), (10, AV.nilp), (39, AV.bool (true))], stk := [[]], H := [AE.Obj.cells [AV.own 3, AV.map 4, AV.own 5, AV.int IntKind.i64 (0), AV.own 6, AV.int IntKind.i64 (0), AV.bool (false)], AE.Obj.cells [AV.own 7, AV.own 8, AV.own 9, AV.int IntKind.i64 (0), AV.own 10, AV.int IntKind.i64 (0), AV.bool (false)], AE.Obj.cells [AV.ptr 0 0, AV.int IntKind.i64 (5), AV.int IntKind.i64 o2_2], Obj.arr Ty.str o3, Obj.mp IntKind.i64 Ty.str ([]), Obj.arr (Ty.st (Ty.pair (Ty.int IntKind.i64) Ty.str)) ([]), Obj.arr (Ty.int IntKind.i64) ([]), Obj.arr Ty.str o7, Obj.arr Ty.str o8, Obj.arr (Ty.st (Ty.pair (Ty.int IntKind.i64) Ty.str)) ([]), Obj.arr (Ty.int IntKind.i64) ([])], blk := 20480 }
def nodelaw12_both_n0v2 {β : Type} : Ilaw12_both_n0v2 → (Ylaw12_both_n0v2 → Option β) → Option β := fun (t0, o2_2, o3, o7, o8) exit => (exit ())
def nodeDlaw12_both_n0v2 (i : Ilaw12_both_n0v2) : Option Ylaw12_both_n0v2 := nodelaw12_both_n0v2 i some
theorem nodelaw12_both_n0v2_nat (i : Ilaw12_both_n0v2) (k : Ylaw12_both_n0v2 → Ans) : nodelaw12_both_n0v2 i k = bindO (nodeDlaw12_both_n0v2 i) k := by
  obtain ⟨t0, o2_2, o3, o7, o8⟩ := i
  simp only [nodeDlaw12_both_n0v2, nodelaw12_both_n0v2, bindO_cond, bindO_assoc, bindO_none, bindO_pure, bindO_elim, bindO_unP]
theorem nodelaw12_both_n0v2_ok (i : Ilaw12_both_n0v2) (K : Ex → St → Ans) : codeI Try.tab envlaw12_both noHint (codeD Try.tab envlaw12_both noHint 0 64) 70 44 annLlaw12_both_n0 Llaw12_both_n0 (weakP 0 (exk [6, 7, 8, 10, 39] [2, 3, 4, 5] []) K) (Slaw12_both_n0v2 i) = nodelaw12_both_n0v2 i (outlaw12_both_n0v2 i K) := by kernel_rfl
theorem GNlaw12_both_n0v2_ok : CSum Try.prog 44 Llaw12_both_n0 (sumN declaw12_both_n0v2 nodeDlaw12_both_n0v2 outlaw12_both_n0v2) := csum_node mixed tabOk envlaw12_bothOk 0 (exk [6, 7, 8, 10, 39] [2, 3, 4, 5] []) annLlaw12_both_n0_ok declaw12_both_n0v2_ok nodelaw12_both_n0v2_ok nodelaw12_both_n0v2_nat
abbrev Ilaw12_both_n0v3 := (Int) × (Int) × (Int) × (List (List UInt8)) × (List (List UInt8)) × (List (List UInt8))
abbrev Ylaw12_both_n0v3 := (Bool)
def Slaw12_both_n0v3 : Ilaw12_both_n0v3 → St := fun (t0, o2_2, o3_2, o4, o8, o9) => { env := [(0, AV.int IntKind.i64 t0), (6, AV.ptr 0 0), (7, AV.ptr 1 0), (8, AV.ptr 2 0), (9, AV.int IntKind.i64 (0)), (10, AV.ptr 3 0), (11, AV.int IntKind.i64 (0))], stk := [[]], H := [AE.Obj.cells [AV.own 4, AV.map 5, AV.own 6, AV.int IntKind.i64 (0), AV.own 7, AV.int IntKind.i64 (0), AV.bool (false)], AE.Obj.cells [AV.own 8, AV.own 9, AV.own 10, AV.int IntKind.i64 (0), AV.own 11, AV.int IntKind.i64 (0), AV.bool (false)], AE.Obj.cells [AV.ptr 0 0, AV.int IntKind.i64 (5), AV.int IntKind.i64 o2_2], AE.Obj.cells [AV.ptr 1 0, AV.int IntKind.i64 (5), AV.int IntKind.i64 o3_2], Obj.arr Ty.str o4, Obj.mp IntKind.i64 Ty.str ([]), Obj.arr (Ty.st (Ty.pair (Ty.int IntKind.i64) Ty.str)) ([]), Obj.arr (Ty.int IntKind.i64) ([]), Obj.arr Ty.str o8, Obj.arr Ty.str o9, Obj.arr (Ty.st (Ty.pair (Ty.int IntKind.i64) Ty.str)) ([]), Obj.arr (Ty.int IntKind.i64) ([])], blk := 20480 }
def declaw12_both_n0v3 (s : St) : Option Ilaw12_both_n0v3 := match s with
  | { env := [(0, AV.int IntKind.i64 t0), (6, AV.ptr 0 0), (7, AV.ptr 1 0), (8, AV.ptr 2 0), (9, AV.int IntKind.i64 r1), (10, AV.ptr 3 0), (11, AV.int IntKind.i64 r2)], stk := [[]], H := [AE.Obj.cells [AV.own 4, AV.map 5, AV.own 6, AV.int IntKind.i64 r3, AV.own 7, AV.int IntKind.i64 r4, AV.bool r5], AE.Obj.cells [AV.own 8, AV.own 9, AV.own 10, AV.int IntKind.i64 r6, AV.own 11, AV.int IntKind.i64 r7, AV.bool r8], AE.Obj.cells [AV.ptr 0 0, AV.int IntKind.i64 r9, AV.int IntKind.i64 o2_2], AE.Obj.cells [AV.ptr 1 0, AV.int IntKind.i64 r11, AV.int IntKind.i64 o3_2], Obj.arr Ty.str o4, Obj.mp IntKind.i64 Ty.str r14, Obj.arr (Ty.st (Ty.pair (Ty.int IntKind.i64) Ty.str)) r15, Obj.arr (Ty.int IntKind.i64) r16, Obj.arr Ty.str o8, Obj.arr Ty.str o9, Obj.arr (Ty.st (Ty.pair (Ty.int IntKind.i64) Ty.str)) r19, Obj.arr (Ty.int IntKind.i64) r20], blk := 20480 } => cond (decide (r1 = 0) && decide (r2 = 0) && decide (r3 = 0) && decide (r4 = 0) && decide (r5 = false) && decide (r6 = 0) && decide (r7 = 0) && decide (r8 = false) && decide (r9 = 5) && decide (r11 = 5) && decide (r14 = []) && decide (r15 = []) && decide (r16 = []) && decide (r19 = []) && decide (r20 = [])) (some (t0, o2_2, o3_2, o4, o8, o9)) none
  | _ => none
theorem declaw12_both_n0v3_ok (s : St) (x : Ilaw12_both_n0v3) (h : declaw12_both_n0v3 s = some x) : s = Slaw12_both_n0v3 x := by
  unfold declaw12_both_n0v3 at h
  split at h
  · replace h := cond_noneO h; obtain ⟨hg, h⟩ := h; simp only [Bool.and_eq_true, decide_eq_true_eq] at hg; simp only [hg]; cases h; rfl
  · cases h
def outlaw12_both_n0v3 : Ilaw12_both_n0v3 → (Ex → St → Ans) → Ylaw12_both_n0v3 → Ans := fun (t0, o2_2, o3_2, o4, o8, o9) K => fun t39_y => K (Ex.norm) { env := [(6, AV.ptr 0 0), (7, AV.ptr 1 0), (8, AV.ptr 2 0), (10, AV.ptr 3 0), (39, AV.bool t39_y)], stk := [[]], H := [AE.Obj.cells [AV.own 4, AV.map 5, AV.own 6, AV.int IntKind.i64 (0), AV.own 7, AV.int IntKind.i64 (0), AV.bool (false)], AE.Obj.cells [AV.own 8, AV.own 9, AV.own 10, AV.int IntKind.i64 (0), AV.own 11, AV.int IntKind.i64 (0), AV.bool (false)], AE.Obj.cells [AV.ptr 0 0, AV.int IntKind.i64 (5), AV.int IntKind.i64 o2_2], AE.Obj.cells [AV.ptr 1 0, AV.int IntKind.i64 (5), AV.int IntKind.i64 o3_2], Obj.arr Ty.str o4, Obj.mp IntKind.i64 Ty.str ([]), Obj.arr (Ty.st (Ty.pair (Ty.int IntKind.i64) Ty.str)) ([]), Obj.arr (Ty.int IntKind.i64) ([]), Obj.arr Ty.str o8, Obj.arr Ty.str o9, Obj.arr (Ty.st (Ty.pair (Ty.int IntKind.i64) Ty.str)) ([]), Obj.arr (Ty.int IntKind.i64) ([])], blk := 20480 }
def nodelaw12_both_n0v3 {β : Type} : Ilaw12_both_n0v3 → (Ylaw12_both_n0v3 → Option β) → Option β := fun (t0, o2_2, o3_2, o4, o8, o9) exit => (exit (t0 == (0 : Int)))
def nodeDlaw12_both_n0v3 (i : Ilaw12_both_n0v3) : Option Ylaw12_both_n0v3 := nodelaw12_both_n0v3 i some
theorem nodelaw12_both_n0v3_nat (i : Ilaw12_both_n0v3) (k : Ylaw12_both_n0v3 → Ans) : nodelaw12_both_n0v3 i k = bindO (nodeDlaw12_both_n0v3 i) k := by
  obtain ⟨t0, o2_2, o3_2, o4, o8, o9⟩ := i
  simp only [nodeDlaw12_both_n0v3, nodelaw12_both_n0v3, bindO_cond, bindO_assoc, bindO_none, bindO_pure, bindO_elim, bindO_unP]
theorem nodelaw12_both_n0v3_ok (i : Ilaw12_both_n0v3) (K : Ex → St → Ans) : codeI Try.tab envlaw12_both noHint (codeD Try.tab envlaw12_both noHint 0 64) 70 44 annLlaw12_both_n0 Llaw12_both_n0 (weakP 0 (exk [6, 7, 8, 10, 39] [2, 3, 4, 5] []) K) (Slaw12_both_n0v3 i) = nodelaw12_both_n0v3 i (outlaw12_both_n0v3 i K) := by kernel_rfl
theorem GNlaw12_both_n0v3_ok : CSum Try.prog 44 Llaw12_both_n0 (sumN declaw12_both_n0v3 nodeDlaw12_both_n0v3 outlaw12_both_n0v3) := csum_node mixed tabOk envlaw12_bothOk 0 (exk [6, 7, 8, 10, 39] [2, 3, 4, 5] []) annLlaw12_both_n0_ok declaw12_both_n0v3_ok nodelaw12_both_n0v3_ok nodelaw12_both_n0v3_nat
noncomputable def Glaw12_both_n0 : (Ex → St → Ans) → St → Ans := (altN declaw12_both_n0 (sumN declaw12_both_n0 nodeDlaw12_both_n0 outlaw12_both_n0) (altN declaw12_both_n0v1 (sumN declaw12_both_n0v1 nodeDlaw12_both_n0v1 outlaw12_both_n0v1) (altN declaw12_both_n0v2 (sumN declaw12_both_n0v2 nodeDlaw12_both_n0v2 outlaw12_both_n0v2) (sumN declaw12_both_n0v3 nodeDlaw12_both_n0v3 outlaw12_both_n0v3))))
theorem Glaw12_both_n0_ok : CSum Try.prog 44 Llaw12_both_n0 Glaw12_both_n0 := (csum_altN GNlaw12_both_n0_ok (csum_altN GNlaw12_both_n0v1_ok (csum_altN GNlaw12_both_n0v2_ok GNlaw12_both_n0v3_ok)))
noncomputable def annlaw12_both : Ann := (.seq .none (.seq .none (.seq .none (.seq .none (.seq (.seq (.cut 0 [0, 6, 7, 8, 9, 10, 11] Glaw12_both_n0) .none) .none)))))
theorem annlaw12_both_ok : AnnOk Try.prog 44 blaw12_both annlaw12_both := ⟨(annOk_none _ _ _), ⟨(annOk_none _ _ _), ⟨(annOk_none _ _ _), ⟨(annOk_none _ _ _), ⟨⟨Glaw12_both_n0_ok, (annOk_none _ _ _)⟩, (annOk_none _ _ _)⟩⟩⟩⟩⟩
abbrev Alaw12_both := (Int)
abbrev Ylaw12_both := (Unit) ⊕ ((List (List UInt8)) × (List (List UInt8)) × (List (List UInt8)))
def fnlaw12_both {β : Type} : Alaw12_both → (Ylaw12_both → Option β) → Option β := fun a0 exit => (bindO (fnDdisk_New ((60 : Int))) fun o1 => (bindO (fnDref08_New ((60 : Int))) (unP fun o1_2 o2 => (bindO (fnDregion_New ((5 : Int), a0, (0 : Int), (0 : Int), false, o1, [], [], [])) (Sum.elim (fun _ => (bindO (fnDref09_New ((5 : Int), a0, (0 : Int), (0 : Int), false, o1_2, o2, [], [])) (Sum.elim (fun _ => (bindO (nodeDlaw12_both_n0 (a0, o1, o1_2, o2)) fun _ => (exit (Sum.inl ())))) (fun _ => (bindO (nodeDlaw12_both_n0v1 (a0, a0, o1, o1_2, o2)) fun _ => (exit (Sum.inl ()))))))) (fun _ => (bindO (fnDref09_New ((5 : Int), a0, (0 : Int), (0 : Int), false, o1_2, o2, [], [])) (Sum.elim (fun _ => (bindO (nodeDlaw12_both_n0v2 (a0, a0, o1, o1_2, o2)) fun _ => (exit (Sum.inl ())))) (fun _ => (bindO (nodeDlaw12_both_n0v3 (a0, a0, a0, o1, o1_2, o2)) fun t39 => (bif t39 then (exit (Sum.inl ())) else (exit (Sum.inr (o1, o1_2, o2))))))))))))))
def fnDlaw12_both (a : Alaw12_both) : Option Ylaw12_both := fnlaw12_both a some
theorem fnlaw12_both_nat (a : Alaw12_both) (k : Ylaw12_both → Ans) : fnlaw12_both a k = bindO (fnDlaw12_both a) k := by
  obtain z := a
  simp only [fnDlaw12_both, fnlaw12_both, bindO_cond, bindO_assoc, bindO_none, bindO_pure, bindO_elim, bindO_unP]
def argslaw12_both : Alaw12_both → List AV × List AE.Obj := fun a0 => ([AV.int IntKind.i64 a0], [])
def decAlaw12_both (l : List AV) (H : List AE.Obj) : Option Alaw12_both := match l, H with
  | [AV.int IntKind.i64 a0], [] => some (a0)
  | _, _ => none
theorem decAlaw12_both_ok (l : List AV) (H : List AE.Obj) (a : Alaw12_both) (h : decAlaw12_both l H = some a) : (l, H) = argslaw12_both a := by
  unfold decAlaw12_both at h
  split at h
  · cases h; rfl
  · cases h
def outlaw12_both : Alaw12_both → (AV → List AE.Obj → Ans) → Ylaw12_both → Ans := fun a0 K => (Sum.elim (fun _ => K (AV.tup [AV.nilp, AV.nilp, AV.nilp, AV.nilp]) []) (unP fun o4_y => unP fun o8_y o9_y => K (AV.tup [AV.ptr 0 0, AV.ptr 1 0, AV.ptr 2 0, AV.ptr 3 0]) [AE.Obj.cells [AV.own 4, AV.map 5, AV.own 6, AV.int IntKind.i64 (0), AV.own 7, AV.int IntKind.i64 (0), AV.bool (false)], AE.Obj.cells [AV.ptr 0 0, AV.int IntKind.i64 (5), AV.int IntKind.i64 a0], AE.Obj.cells [AV.own 8, AV.own 9, AV.own 10, AV.int IntKind.i64 (0), AV.own 11, AV.int IntKind.i64 (0), AV.bool (false)], AE.Obj.cells [AV.ptr 2 0, AV.int IntKind.i64 (5), AV.int IntKind.i64 a0], Obj.arr Ty.str o4_y, Obj.mp IntKind.i64 Ty.str ([]), Obj.arr (Ty.st (Ty.pair (Ty.int IntKind.i64) Ty.str)) ([]), Obj.arr (Ty.int IntKind.i64) ([]), Obj.arr Ty.str o8_y, Obj.arr Ty.str o9_y, Obj.arr (Ty.st (Ty.pair (Ty.int IntKind.i64) Ty.str)) ([]), Obj.arr (Ty.int IntKind.i64) ([])]))
theorem fnlaw12_both_ok (a : Alaw12_both) (K : AV → List AE.Obj → Ans) : fnE Try.tab envlaw12_both noHint 0 70 5 Try.f5.ntmps Try.f5.results.toList annlaw12_both blaw12_both (argslaw12_both a).1 (argslaw12_both a).2 K = fnlaw12_both a (outlaw12_both a K) := by kernel_rfl
def vFlaw12_both (a : Alaw12_both) (K : AV → List AE.Obj → Ans) : Ans := bindO (fnDlaw12_both a) fun y => outlaw12_both a K y
def Flaw12_both : List AV → List AE.Obj → (AV → List AE.Obj → Ans) → Ans := fun l H K => bindO (decAlaw12_both l H) fun a => vFlaw12_both a K
theorem Flaw12_both_ok : FuncOk Try.prog 5 Flaw12_both := func_mkD (hint := noHint) (d := 0) (n := 70) mixed tabOk envlaw12_bothOk Try.func5 (bodySome (by kernel_rfl)) (by decide +kernel) annlaw12_both_ok decAlaw12_both_ok fnlaw12_both_ok fnlaw12_both_nat
--@ law11_Great
noncomputable def envlaw11_Great : Env := []
theorem envlaw11_GreatOk : EnvOk Try.prog envlaw11_Great := EnvOk.nil
noncomputable def blaw11_Great : Code := Try.f8.body.getD .skip
noncomputable def Llaw11_Great_n2 : Code := codeAt [1, 0, 1, 0, 0, 1, 0, 0, 0] blaw11_Great
noncomputable def annLlaw11_Great_n2 : Ann := .none
theorem annLlaw11_Great_n2_ok : AnnOk Try.prog 21 Llaw11_Great_n2 annLlaw11_Great_n2 := (annOk_none _ _ _)
abbrev Ilaw11_Great_n2 := (List (Int × List UInt8)) × (Int)
abbrev Ylaw11_Great_n2 := (Bool)
def Slaw11_Great_n2 : Ilaw11_Great_n2 → St := fun (t0, t3) => { env := [(0, AV.ro (Ty.st (Ty.pair (Ty.int IntKind.i64) Ty.str)) t0), (3, AV.int IntKind.i64 t3)], stk := [[]], H := [], blk := 32769 }
def declaw11_Great_n2 (s : St) : Option Ilaw11_Great_n2 := match s with
  | { env := [(0, AV.ro (Ty.st (Ty.pair (Ty.int IntKind.i64) Ty.str)) t0), (3, AV.int IntKind.i64 t3)], stk := [[]], H := [], blk := 32769 } => some (t0, t3)
  | _ => none
theorem declaw11_Great_n2_ok (s : St) (x : Ilaw11_Great_n2) (h : declaw11_Great_n2 s = some x) : s = Slaw11_Great_n2 x := by
  unfold declaw11_Great_n2 at h
  split at h
  · cases h; rfl
  · cases h
def outlaw11_Great_n2 : Ilaw11_Great_n2 → (Ex → St → Ans) → Ylaw11_Great_n2 → Ans := fun (t0, t3) K => fun t20_y => K (Ex.norm) { env := [(0, AV.ro (Ty.st (Ty.pair (Ty.int IntKind.i64) Ty.str)) t0), (3, AV.int IntKind.i64 t3), (20, AV.bool t20_y)], stk := [[]], H := [], blk := 32769 }
def nodelaw11_Great_n2 {β : Type} : Ilaw11_Great_n2 → (Ylaw11_Great_n2 → Option β) → Option β := fun (t0, t3) exit => (bif decide (t3 ≥ (40 : Int)) then (exit (true)) else (bindO (nth t0 t3) fun x => (exit (decide ((↑(List.length x.snd) : Int) > (500 : Int))))))
def nodeDlaw11_Great_n2 (i : Ilaw11_Great_n2) : Option Ylaw11_Great_n2 := nodelaw11_Great_n2 i some
theorem nodelaw11_Great_n2_nat (i : Ilaw11_Great_n2) (k : Ylaw11_Great_n2 → Ans) : nodelaw11_Great_n2 i k = bindO (nodeDlaw11_Great_n2 i) k := by
  obtain ⟨t0, t3⟩ := i
  simp only [nodeDlaw11_Great_n2, nodelaw11_Great_n2, bindO_cond, bindO_assoc, bindO_none, bindO_pure, bindO_elim, bindO_unP]
theorem nodelaw11_Great_n2_ok (i : Ilaw11_Great_n2) (K : Ex → St → Ans) : codeI Try.tab envlaw11_Great noHint (codeD Try.tab envlaw11_Great noHint 0 64) 70 21 annLlaw11_Great_n2 Llaw11_Great_n2 (weakP 0 (exk [0, 3, 20] [2] []) K) (Slaw11_Great_n2 i) = nodelaw11_Great_n2 i (outlaw11_Great_n2 i K) := by kernel_rfl
theorem GNlaw11_Great_n2_ok : CSum Try.prog 21 Llaw11_Great_n2 (sumN declaw11_Great_n2 nodeDlaw11_Great_n2 outlaw11_Great_n2) := csum_node mixed tabOk envlaw11_GreatOk 0 (exk [0, 3, 20] [2] []) annLlaw11_Great_n2_ok declaw11_Great_n2_ok nodelaw11_Great_n2_ok nodelaw11_Great_n2_nat
noncomputable def Glaw11_Great_n2 : (Ex → St → Ans) → St → Ans := (sumN declaw11_Great_n2 nodeDlaw11_Great_n2 outlaw11_Great_n2)
theorem Glaw11_Great_n2_ok : CSum Try.prog 21 Llaw11_Great_n2 Glaw11_Great_n2 := GNlaw11_Great_n2_ok
noncomputable def Llaw11_Great_n1 : Code := codeAt [1, 0, 1, 0, 0, 1, 0] blaw11_Great
noncomputable def annLlaw11_Great_n1 : Ann := (.block (.seq (.cut 0 [0, 3] Glaw11_Great_n2) .none))
theorem annLlaw11_Great_n1_ok : AnnOk Try.prog 21 Llaw11_Great_n1 annLlaw11_Great_n1 := ⟨Glaw11_Great_n2_ok, (annOk_none _ _ _)⟩
abbrev Ilaw11_Great_n1 := (List (Int × List UInt8)) × (Int)
abbrev Ylaw11_Great_n1 := (Unit) ⊕ (Unit)
def Slaw11_Great_n1 : Ilaw11_Great_n1 → St := fun (t0, t3) => { env := [(0, AV.ro (Ty.st (Ty.pair (Ty.int IntKind.i64) Ty.str)) t0), (3, AV.int IntKind.i64 t3)], stk := [[]], H := [], blk := 32768 }
def declaw11_Great_n1 (s : St) : Option Ilaw11_Great_n1 := match s with
  | { env := [(0, AV.ro (Ty.st (Ty.pair (Ty.int IntKind.i64) Ty.str)) t0), (3, AV.int IntKind.i64 t3)], stk := [[]], H := [], blk := 32768 } => some (t0, t3)
  | _ => none
theorem declaw11_Great_n1_ok (s : St) (x : Ilaw11_Great_n1) (h : declaw11_Great_n1 s = some x) : s = Slaw11_Great_n1 x := by
  unfold declaw11_Great_n1 at h
  split at h
  · cases h; rfl
  · cases h
def outlaw11_Great_n1 : Ilaw11_Great_n1 → (Ex → St → Ans) → Ylaw11_Great_n1 → Ans := fun (t0, t3) K => (Sum.elim (fun _ => K (Ex.ret) { env := [(2, AV.bool (true))], stk := [[]], H := [], blk := 32769 }) (fun _ => K (Ex.norm) { env := [(0, AV.ro (Ty.st (Ty.pair (Ty.int IntKind.i64) Ty.str)) t0), (3, AV.int IntKind.i64 t3)], stk := [[]], H := [], blk := 32769 }))
def nodelaw11_Great_n1 {β : Type} : Ilaw11_Great_n1 → (Ylaw11_Great_n1 → Option β) → Option β := fun (t0, t3) exit => (bindO (nodeDlaw11_Great_n2 (t0, t3)) fun t20 => (bif t20 then (exit (Sum.inl ())) else (exit (Sum.inr ()))))
def nodeDlaw11_Great_n1 (i : Ilaw11_Great_n1) : Option Ylaw11_Great_n1 := nodelaw11_Great_n1 i some
theorem nodelaw11_Great_n1_nat (i : Ilaw11_Great_n1) (k : Ylaw11_Great_n1 → Ans) : nodelaw11_Great_n1 i k = bindO (nodeDlaw11_Great_n1 i) k := by
  obtain ⟨t0, t3⟩ := i
  simp only [nodeDlaw11_Great_n1, nodelaw11_Great_n1, bindO_cond, bindO_assoc, bindO_none, bindO_pure, bindO_elim, bindO_unP]
theorem nodelaw11_Great_n1_ok (i : Ilaw11_Great_n1) (K : Ex → St → Ans) : codeI Try.tab envlaw11_Great noHint (codeD Try.tab envlaw11_Great noHint 0 64) 70 21 annLlaw11_Great_n1 Llaw11_Great_n1 (weakP 0 (exk [0, 3] [2] []) K) (Slaw11_Great_n1 i) = nodelaw11_Great_n1 i (outlaw11_Great_n1 i K) := by kernel_rfl
theorem GNlaw11_Great_n1_ok : CSum Try.prog 21 Llaw11_Great_n1 (sumN declaw11_Great_n1 nodeDlaw11_Great_n1 outlaw11_Great_n1) := csum_node mixed tabOk envlaw11_GreatOk 0 (exk [0, 3] [2] []) annLlaw11_Great_n1_ok declaw11_Great_n1_ok nodelaw11_Great_n1_ok nodelaw11_Great_n1_nat
noncomputable def Glaw11_Great_n1 : (Ex → St → Ans) → St → Ans := (sumN declaw11_Great_n1 nodeDlaw11_Great_n1 outlaw11_Great_n1)
theorem Glaw11_Great_n1_ok : CSum Try.prog 21 Llaw11_Great_n1 Glaw11_Great_n1 := GNlaw11_Great_n1_ok
noncomputable def Llaw11_Great_n0 : Code := codeAt [1, 0, 1, 0, 0] blaw11_Great
noncomputable def annLlaw11_Great_n0 : Ann := .at 0 [0, 3] (.loop (.seq .none (.seq (.cut 0 [0, 3] Glaw11_Great_n1) .none)))
theorem annLlaw11_Great_n0_ok : AnnOk Try.prog 21 (.loop Llaw11_Great_n0) annLlaw11_Great_n0 := annOk_at ⟨(annOk_none _ _ _), ⟨Glaw11_Great_n1_ok, (annOk_none _ _ _)⟩⟩
abbrev Ilaw11_Great_n0 := (List (Int × List UInt8))
abbrev Ylaw11_Great_n0 := (Unit) ⊕ (Unit)
abbrev Vlaw11_Great_n0 := (Int)
def Slaw11_Great_n0 : Ilaw11_Great_n0 → Vlaw11_Great_n0 → St := fun t0 t3 => { env := [(0, AV.ro (Ty.st (Ty.pair (Ty.int IntKind.i64) Ty.str)) t0), (3, AV.int IntKind.i64 t3)], stk := [[]], H := [], blk := 32768 }
def declaw11_Great_n0 (s : St) : Option (Ilaw11_Great_n0 × Vlaw11_Great_n0) := match s with
  | { env := [(0, AV.ro (Ty.st (Ty.pair (Ty.int IntKind.i64) Ty.str)) t0), (3, AV.int IntKind.i64 t3)], stk := [[]], H := [], blk := 32768 } => some (t0, t3)
  | _ => none
theorem declaw11_Great_n0_ok (s : St) (x : Ilaw11_Great_n0 × Vlaw11_Great_n0) (h : declaw11_Great_n0 s = some x) : s = Slaw11_Great_n0 x.1 x.2 := by
  unfold declaw11_Great_n0 at h
  split at h
  · cases h; rfl
  · cases h
def outlaw11_Great_n0 : Ilaw11_Great_n0 → (Ex → St → Ans) → Ylaw11_Great_n0 → Ans := fun t0 K => (Sum.elim (fun _ => K (Ex.ret) { env := [(2, AV.bool (true))], stk := [[]], H := [], blk := 32769 }) (fun _ => K (Ex.exit 0) { env := [], stk := [[]], H := [], blk := 32768 }))
def steplaw11_Great_n0 {β : Type} : Ilaw11_Great_n0 → Vlaw11_Great_n0 → (Vlaw11_Great_n0 → Option β) → (Ylaw11_Great_n0 → Option β) → Option β := fun t0 t3 next exit => (bif decide (t3 < (↑(List.length t0) : Int)) then (bindO (nodeDlaw11_Great_n1 (t0, t3)) (Sum.elim (fun _ => (exit (Sum.inl ()))) (fun _ => (next (IntKind.wrap IntKind.i64 (t3 + (1 : Int))))))) else (exit (Sum.inr ())))
def stepDlaw11_Great_n0 (i : Ilaw11_Great_n0) (v : Vlaw11_Great_n0) : Option (Vlaw11_Great_n0 ⊕ Ylaw11_Great_n0) := steplaw11_Great_n0 i v (fun v => some (.inl v)) (fun y => some (.inr y))
theorem steplaw11_Great_n0_nat (i : Ilaw11_Great_n0) (v : Vlaw11_Great_n0) (next : Vlaw11_Great_n0 → Ans) (exit : Ylaw11_Great_n0 → Ans) : steplaw11_Great_n0 i v next exit = bindO (stepDlaw11_Great_n0 i v) (Sum.elim next exit) := by
  obtain z := i
  obtain z := v
  simp only [stepDlaw11_Great_n0, steplaw11_Great_n0, bindO_cond, bindO_assoc, bindO_none, bindO_pure, bindO_elim, bindO_unP, Sum.elim_inl, Sum.elim_inr]
theorem steplaw11_Great_n0_ok (n : Nat) (i : Ilaw11_Great_n0) (v : Vlaw11_Great_n0) (K : Ex → St → Ans) : codeI Try.tab envlaw11_Great noHint (codeD Try.tab envlaw11_Great noHint 0 64) (n+1) 21 annLlaw11_Great_n0 (.loop Llaw11_Great_n0) (weakP 0 (exk [] [2] [(0, [])]) K) (Slaw11_Great_n0 i v) = steplaw11_Great_n0 i v (fun v' => codeI Try.tab envlaw11_Great noHint (codeD Try.tab envlaw11_Great noHint 0 64) n 21 annLlaw11_Great_n0 (.loop Llaw11_Great_n0) (weakP 0 (exk [] [2] [(0, [])]) K) (Slaw11_Great_n0 i v')) (fun y => outlaw11_Great_n0 i K y) := by kernel_rfl
theorem GNlaw11_Great_n0_ok : CSum Try.prog 21 (.loop Llaw11_Great_n0) (sumL declaw11_Great_n0 stepDlaw11_Great_n0 outlaw11_Great_n0) := csum_loop mixed tabOk envlaw11_GreatOk 0 (exk [] [2] [(0, [])]) annLlaw11_Great_n0_ok declaw11_Great_n0_ok steplaw11_Great_n0_ok steplaw11_Great_n0_nat
noncomputable def Glaw11_Great_n0 : (Ex → St → Ans) → St → Ans := (sumL declaw11_Great_n0 stepDlaw11_Great_n0 outlaw11_Great_n0)
theorem Glaw11_Great_n0_ok : CSum Try.prog 21 (.loop Llaw11_Great_n0) Glaw11_Great_n0 := GNlaw11_Great_n0_ok
noncomputable def annlaw11_Great : Ann := (.seq .none (.seq (.seq .none (.block (.cut 0 [0, 3] Glaw11_Great_n0))) .none))
theorem annlaw11_Great_ok : AnnOk Try.prog 21 blaw11_Great annlaw11_Great := ⟨(annOk_none _ _ _), ⟨⟨(annOk_none _ _ _), Glaw11_Great_n0_ok⟩, (annOk_none _ _ _)⟩⟩
abbrev Alaw11_Great := (List (Int × List UInt8))
abbrev Ylaw11_Great := (Bool)
def fnlaw11_Great {β : Type} : Alaw11_Great → (Ylaw11_Great → Option β) → Option β := fun a0 exit => (bindO (loopD (stepDlaw11_Great_n0 (a0)) FUEL ((0 : Int))) (Sum.elim (fun _ => (exit (true))) (fun _ => (exit (false)))))
def fnDlaw11_Great (a : Alaw11_Great) : Option Ylaw11_Great := fnlaw11_Great a some
theorem fnlaw11_Great_nat (a : Alaw11_Great) (k : Ylaw11_Great → Ans) : fnlaw11_Great a k = bindO (fnDlaw11_Great a) k := by
  obtain z := a
  simp only [fnDlaw11_Great, fnlaw11_Great, bindO_cond, bindO_assoc, bindO_none, bindO_pure, bindO_elim, bindO_unP]
def argslaw11_Great : Alaw11_Great → List AV := fun a0 => [AV.ro (Ty.st (Ty.pair (Ty.int IntKind.i64) Ty.str)) a0]
def decAlaw11_Great (l : List AV) : Option Alaw11_Great := match l with
  | [AV.ro (Ty.st (Ty.pair (Ty.int IntKind.i64) Ty.str)) a0] => some (a0)
  | _ => none
theorem decAlaw11_Great_ok (l : List AV) (a : Alaw11_Great) (h : decAlaw11_Great l = some a) : l = argslaw11_Great a := by
  unfold decAlaw11_Great at h
  split at h
  · cases h; rfl
  · cases h
def rendlaw11_Great : Alaw11_Great → Ylaw11_Great → AV := fun a0 => fun r_y => AV.bool r_y
theorem rendlaw11_Great_ok : ∀ (a : Alaw11_Great) (y : Ylaw11_Great), (rendlaw11_Great a y).closed1 = true := by
  rintro z y <;> first | rfl | exact Empty.elim y
theorem fnlaw11_Great_ok (a : Alaw11_Great) : fnE Try.tab envlaw11_Great noHint 0 70 8 Try.f8.ntmps Try.f8.results.toList annlaw11_Great blaw11_Great (argslaw11_Great a) [] (fun v _ => some (v, [])) = fnlaw11_Great a (fun y => some (rendlaw11_Great a y, [])) := by kernel_rfl
def vFlaw11_Great (a : Alaw11_Great) (K : AV → Ans) : Ans := bindO (fnDlaw11_Great a) fun y => K (rendlaw11_Great a y)
def Flaw11_Great : List AV → (AV → Ans) → Ans := fun l K => bindO (decAlaw11_Great l) fun a => vFlaw11_Great a K
theorem Flaw11_Great_ok : PureOk Try.prog 8 Flaw11_Great := pure_mkD (hint := noHint) (d := 0) (n := 70) mixed tabOk envlaw11_GreatOk Try.func8 (bodySome (by kernel_rfl)) (by decide +kernel) annlaw11_Great_ok decAlaw11_Great_ok fnlaw11_Great_ok fnlaw11_Great_nat rendlaw11_Great_ok
--@ law12_great
noncomputable def envlaw12_great : Env := [(8, .pure Flaw11_Great)]
theorem envlaw12_greatOk : EnvOk Try.prog envlaw12_great := EnvOk.cons Flaw11_Great_ok (EnvOk.nil)
noncomputable def blaw12_great : Code := Try.f6.body.getD .skip
noncomputable def Llaw12_great_n2 : Code := codeAt [1, 1, 0, 1, 0, 0, 1, 0, 0, 0, 0] blaw12_great
noncomputable def annLlaw12_great_n2 : Ann := .none
theorem annLlaw12_great_n2_ok : AnnOk Try.prog 40 Llaw12_great_n2 annLlaw12_great_n2 := (annOk_none _ _ _)
abbrev Ilaw12_great_n2 := (List (Int × Int × List UInt8 × List (Int × List UInt8))) × (Int) × (Int)
abbrev Ylaw12_great_n2 := (Bool)
def Slaw12_great_n2 : Ilaw12_great_n2 → St := fun (t0, t3, t4) => { env := [(0, AV.ro (Ty.st (Ty.pair (Ty.int IntKind.i64) (Ty.pair (Ty.int IntKind.i64) (Ty.pair Ty.str (Ty.list (Ty.st (Ty.pair (Ty.int IntKind.i64) Ty.str))))))) t0), (3, AV.int IntKind.i64 t3), (4, AV.int IntKind.i64 t4)], stk := [[]], H := [], blk := 24577 }
def declaw12_great_n2 (s : St) : Option Ilaw12_great_n2 := match s with
  | { env := [(0, AV.ro (Ty.st (Ty.pair (Ty.int IntKind.i64) (Ty.pair (Ty.int IntKind.i64) (Ty.pair Ty.str (Ty.list (Ty.st (Ty.pair (Ty.int IntKind.i64) Ty.str))))))) t0), (3, AV.int IntKind.i64 t3), (4, AV.int IntKind.i64 t4)], stk := [[]], H := [], blk := 24577 } => some (t0, t3, t4)
  | _ => none
theorem declaw12_great_n2_ok (s : St) (x : Ilaw12_great_n2) (h : declaw12_great_n2 s = some x) : s = Slaw12_great_n2 x := by
  unfold declaw12_great_n2 at h
  split at h
  · cases h; rfl
  · cases h
def outlaw12_great_n2 : Ilaw12_great_n2 → (Ex → St → Ans) → Ylaw12_great_n2 → Ans := fun (t0, t3, t4) K => fun t29_y => K (Ex.norm) { env := [(0, AV.ro (Ty.st (Ty.pair (Ty.int IntKind.i64) (Ty.pair (Ty.int IntKind.i64) (Ty.pair Ty.str (Ty.list (Ty.st (Ty.pair (Ty.int IntKind.i64) Ty.str))))))) t0), (3, AV.int IntKind.i64 t3), (4, AV.int IntKind.i64 t4), (29, AV.bool t29_y)], stk := [[]], H := [], blk := 24577 }
def nodelaw12_great_n2 {β : Type} : Ilaw12_great_n2 → (Ylaw12_great_n2 → Option β) → Option β := fun (t0, t3, t4) exit => (bif decide (t4 ≥ (30 : Int)) then (exit (true)) else (bindO (nth t0 t4) fun x => (bif decide ((↑(List.length x.snd.snd.fst) : Int) > (3000 : Int)) then (exit (true)) else (bindO (nth t0 t4) fun x_2 => (bindO (fnDlaw11_Great (x_2.snd.snd.snd)) fun r => (exit (r)))))))
def nodeDlaw12_great_n2 (i : Ilaw12_great_n2) : Option Ylaw12_great_n2 := nodelaw12_great_n2 i some
theorem nodelaw12_great_n2_nat (i : Ilaw12_great_n2) (k : Ylaw12_great_n2 → Ans) : nodelaw12_great_n2 i k = bindO (nodeDlaw12_great_n2 i) k := by
  obtain ⟨t0, t3, t4⟩ := i
  simp only [nodeDlaw12_great_n2, nodelaw12_great_n2, bindO_cond, bindO_assoc, bindO_none, bindO_pure, bindO_elim, bindO_unP]
theorem nodelaw12_great_n2_ok (i : Ilaw12_great_n2) (K : Ex → St → Ans) : codeI Try.tab envlaw12_great noHint (codeD Try.tab envlaw12_great noHint 0 64) 70 40 annLlaw12_great_n2 Llaw12_great_n2 (weakP 0 (exk [0, 3, 4, 29] [2] []) K) (Slaw12_great_n2 i) = nodelaw12_great_n2 i (outlaw12_great_n2 i K) := by kernel_rfl
theorem GNlaw12_great_n2_ok : CSum Try.prog 40 Llaw12_great_n2 (sumN declaw12_great_n2 nodeDlaw12_great_n2 outlaw12_great_n2) := csum_node mixed tabOk envlaw12_greatOk 0 (exk [0, 3, 4, 29] [2] []) annLlaw12_great_n2_ok declaw12_great_n2_ok nodelaw12_great_n2_ok nodelaw12_great_n2_nat
noncomputable def Glaw12_great_n2 : (Ex → St → Ans) → St → Ans := (sumN declaw12_great_n2 nodeDlaw12_great_n2 outlaw12_great_n2)
theorem Glaw12_great_n2_ok : CSum Try.prog 40 Llaw12_great_n2 Glaw12_great_n2 := GNlaw12_great_n2_ok
noncomputable def Llaw12_great_n1 : Code := codeAt [1, 1, 0, 1, 0, 0, 1, 0] blaw12_great
noncomputable def annLlaw12_great_n1 : Ann := (.block (.seq (.seq (.cut 0 [0, 3, 4] Glaw12_great_n2) .none) .none))
theorem annLlaw12_great_n1_ok : AnnOk Try.prog 40 Llaw12_great_n1 annLlaw12_great_n1 := ⟨⟨Glaw12_great_n2_ok, (annOk_none _ _ _)⟩, (annOk_none _ _ _)⟩
abbrev Ilaw12_great_n1 := (List (Int × Int × List UInt8 × List (Int × List UInt8))) × (Int) × (Int)
abbrev Ylaw12_great_n1 := (Unit) ⊕ ((Int))
def Slaw12_great_n1 : Ilaw12_great_n1 → St := fun (t0, t3, t4) => { env := [(0, AV.ro (Ty.st (Ty.pair (Ty.int IntKind.i64) (Ty.pair (Ty.int IntKind.i64) (Ty.pair Ty.str (Ty.list (Ty.st (Ty.pair (Ty.int IntKind.i64) Ty.str))))))) t0), (3, AV.int IntKind.i64 t3), (4, AV.int IntKind.i64 t4)], stk := [[]], H := [], blk := 24576 }
def declaw12_great_n1 (s : St) : Option Ilaw12_great_n1 := match s with
  | { env := [(0, AV.ro (Ty.st (Ty.pair (Ty.int IntKind.i64) (Ty.pair (Ty.int IntKind.i64) (Ty.pair Ty.str (Ty.list (Ty.st (Ty.pair (Ty.int IntKind.i64) Ty.str))))))) t0), (3, AV.int IntKind.i64 t3), (4, AV.int IntKind.i64 t4)], stk := [[]], H := [], blk := 24576 } => some (t0, t3, t4)
  | _ => none
theorem declaw12_great_n1_ok (s : St) (x : Ilaw12_great_n1) (h : declaw12_great_n1 s = some x) : s = Slaw12_great_n1 x := by
  unfold declaw12_great_n1 at h
  split at h
  · cases h; rfl
  · cases h
def outlaw12_great_n1 : Ilaw12_great_n1 → (Ex → St → Ans) → Ylaw12_great_n1 → Ans := fun (t0, t3, t4) K => (Sum.elim (fun _ => K (Ex.ret) { env := [(2, AV.bool (true))], stk := [[]], H := [], blk := 24577 }) (fun t3_y => K (Ex.norm) { env := [(0, AV.ro (Ty.st (Ty.pair (Ty.int IntKind.i64) (Ty.pair (Ty.int IntKind.i64) (Ty.pair Ty.str (Ty.list (Ty.st (Ty.pair (Ty.int IntKind.i64) Ty.str))))))) t0), (3, AV.int IntKind.i64 t3_y), (4, AV.int IntKind.i64 t4)], stk := [[]], H := [], blk := 24577 }))
def nodelaw12_great_n1 {β : Type} : Ilaw12_great_n1 → (Ylaw12_great_n1 → Option β) → Option β := fun (t0, t3, t4) exit => (bindO (nodeDlaw12_great_n2 (t0, t3, t4)) fun t29 => (bif t29 then (exit (Sum.inl ())) else (bindO (nth t0 t4) fun x => (exit (Sum.inr (IntKind.wrap IntKind.i64 (t3 + (↑(List.length x.snd.snd.fst) : Int))))))))
def nodeDlaw12_great_n1 (i : Ilaw12_great_n1) : Option Ylaw12_great_n1 := nodelaw12_great_n1 i some
theorem nodelaw12_great_n1_nat (i : Ilaw12_great_n1) (k : Ylaw12_great_n1 → Ans) : nodelaw12_great_n1 i k = bindO (nodeDlaw12_great_n1 i) k := by
  obtain ⟨t0, t3, t4⟩ := i
  simp only [nodeDlaw12_great_n1, nodelaw12_great_n1, bindO_cond, bindO_assoc, bindO_none, bindO_pure, bindO_elim, bindO_unP]
theorem nodelaw12_great_n1_ok (i : Ilaw12_great_n1) (K : Ex → St → Ans) : codeI Try.tab envlaw12_great noHint (codeD Try.tab envlaw12_great noHint 0 64) 70 40 annLlaw12_great_n1 Llaw12_great_n1 (weakP 0 (exk [0, 3, 4] [2] []) K) (Slaw12_great_n1 i) = nodelaw12_great_n1 i (outlaw12_great_n1 i K) := by kernel_rfl
theorem GNlaw12_great_n1_ok : CSum Try.prog 40 Llaw12_great_n1 (sumN declaw12_great_n1 nodeDlaw12_great_n1 outlaw12_great_n1) := csum_node mixed tabOk envlaw12_greatOk 0 (exk [0, 3, 4] [2] []) annLlaw12_great_n1_ok declaw12_great_n1_ok nodelaw12_great_n1_ok nodelaw12_great_n1_nat
noncomputable def Glaw12_great_n1 : (Ex → St → Ans) → St → Ans := (sumN declaw12_great_n1 nodeDlaw12_great_n1 outlaw12_great_n1)
theorem Glaw12_great_n1_ok : CSum Try.prog 40 Llaw12_great_n1 Glaw12_great_n1 := GNlaw12_great_n1_ok
noncomputable def Llaw12_great_n0 : Code := codeAt [1, 1, 0, 1, 0, 0] blaw12_great
noncomputable def annLlaw12_great_n0 : Ann := .at 0 [0, 3, 4] (.loop (.seq .none (.seq (.cut 0 [0, 3, 4] Glaw12_great_n1) .none)))
theorem annLlaw12_great_n0_ok : AnnOk Try.prog 40 (.loop Llaw12_great_n0) annLlaw12_great_n0 := annOk_at ⟨(annOk_none _ _ _), ⟨Glaw12_great_n1_ok, (annOk_none _ _ _)⟩⟩
abbrev Ilaw12_great_n0 := (List (Int × Int × List UInt8 × List (Int × List UInt8)))
abbrev Ylaw12_great_n0 := (Unit) ⊕ ((Int))
abbrev Vlaw12_great_n0 := (Int) × (Int)
def Slaw12_great_n0 : Ilaw12_great_n0 → Vlaw12_great_n0 → St := fun t0 (t3, t4) => { env := [(0, AV.ro (Ty.st (Ty.pair (Ty.int IntKind.i64) (Ty.pair (Ty.int IntKind.i64) (Ty.pair Ty.str (Ty.list (Ty.st (Ty.pair (Ty.int IntKind.i64) Ty.str))))))) t0), (3, AV.int IntKind.i64 t3), (4, AV.int IntKind.i64 t4)], stk := [[]], H := [], blk := 24576 }
def declaw12_great_n0 (s : St) : Option (Ilaw12_great_n0 × Vlaw12_great_n0) := match s with
  | { env := [(0, AV.ro (Ty.st (Ty.pair (Ty.int IntKind.i64) (Ty.pair (Ty.int IntKind.i64) (Ty.pair Ty.str (Ty.list (Ty.st (Ty.pair (Ty.int IntKind.i64) Ty.str))))))) t0), (3, AV.int IntKind.i64 t3), (4, AV.int IntKind.i64 t4)], stk := [[]], H := [], blk := 24576 } => some (t0, (t3, t4))
  | _ => none
theorem declaw12_great_n0_ok (s : St) (x : Ilaw12_great_n0 × Vlaw12_great_n0) (h : declaw12_great_n0 s = some x) : s = Slaw12_great_n0 x.1 x.2 := by
  unfold declaw12_great_n0 at h
  split at h
  · cases h; rfl
  · cases h
def outlaw12_great_n0 : Ilaw12_great_n0 → (Ex → St → Ans) → Ylaw12_great_n0 → Ans := fun t0 K => (Sum.elim (fun _ => K (Ex.ret) { env := [(2, AV.bool (true))], stk := [[]], H := [], blk := 24577 }) (fun t3_y => K (Ex.exit 0) { env := [(3, AV.int IntKind.i64 t3_y)], stk := [[]], H := [], blk := 24576 }))
def steplaw12_great_n0 {β : Type} : Ilaw12_great_n0 → Vlaw12_great_n0 → (Vlaw12_great_n0 → Option β) → (Ylaw12_great_n0 → Option β) → Option β := fun t0 (t3, t4) next exit => (bif decide (t4 < (↑(List.length t0) : Int)) then (bindO (nodeDlaw12_great_n1 (t0, t3, t4)) (Sum.elim (fun _ => (exit (Sum.inl ()))) (fun t3_2 => (next (t3_2, IntKind.wrap IntKind.i64 (t4 + (1 : Int))))))) else (exit (Sum.inr (t3))))
def stepDlaw12_great_n0 (i : Ilaw12_great_n0) (v : Vlaw12_great_n0) : Option (Vlaw12_great_n0 ⊕ Ylaw12_great_n0) := steplaw12_great_n0 i v (fun v => some (.inl v)) (fun y => some (.inr y))
theorem steplaw12_great_n0_nat (i : Ilaw12_great_n0) (v : Vlaw12_great_n0) (next : Vlaw12_great_n0 → Ans) (exit : Ylaw12_great_n0 → Ans) : steplaw12_great_n0 i v next exit = bindO (stepDlaw12_great_n0 i v) (Sum.elim next exit) := by
  obtain z := i
  obtain ⟨t3, t4⟩ := v
  simp only [stepDlaw12_great_n0, steplaw12_great_n0, bindO_cond, bindO_assoc, bindO_none, bindO_pure, bindO_elim, bindO_unP, Sum.elim_inl, Sum.elim_inr]
theorem steplaw12_great_n0_ok (n : Nat) (i : Ilaw12_great_n0) (v : Vlaw12_great_n0) (K : Ex → St → Ans) : codeI Try.tab envlaw12_great noHint (codeD Try.tab envlaw12_great noHint 0 64) (n+1) 40 annLlaw12_great_n0 (.loop Llaw12_great_n0) (weakP 0 (exk [3] [2] [(0, [3])]) K) (Slaw12_great_n0 i v) = steplaw12_great_n0 i v (fun v' => codeI Try.tab envlaw12_great noHint (codeD Try.tab envlaw12_great noHint 0 64) n 40 annLlaw12_great_n0 (.loop Llaw12_great_n0) (weakP 0 (exk [3] [2] [(0, [3])]) K) (Slaw12_great_n0 i v')) (fun y => outlaw12_great_n0 i K y) := by kernel_rfl
theorem GNlaw12_great_n0_ok : CSum Try.prog 40 (.loop Llaw12_great_n0) (sumL declaw12_great_n0 stepDlaw12_great_n0 outlaw12_great_n0) := csum_loop mixed tabOk envlaw12_greatOk 0 (exk [3] [2] [(0, [3])]) annLlaw12_great_n0_ok declaw12_great_n0_ok steplaw12_great_n0_ok steplaw12_great_n0_nat
noncomputable def Glaw12_great_n0 : (Ex → St → Ans) → St → Ans := (sumL declaw12_great_n0 stepDlaw12_great_n0 outlaw12_great_n0)
theorem Glaw12_great_n0_ok : CSum Try.prog 40 (.loop Llaw12_great_n0) Glaw12_great_n0 := GNlaw12_great_n0_ok
noncomputable def annlaw12_great : Ann := (.seq .none (.seq .none (.seq (.seq .none (.block (.cut 0 [0, 3, 4] Glaw12_great_n0))) .none)))
theorem annlaw12_great_ok : AnnOk Try.prog 40 blaw12_great annlaw12_great := ⟨(annOk_none _ _ _), ⟨(annOk_none _ _ _), ⟨⟨(annOk_none _ _ _), Glaw12_great_n0_ok⟩, (annOk_none _ _ _)⟩⟩⟩
abbrev Alaw12_great := (List (Int × Int × List UInt8 × List (Int × List UInt8)))
abbrev Ylaw12_great := (Bool)
def fnlaw12_great {β : Type} : Alaw12_great → (Ylaw12_great → Option β) → Option β := fun a0 exit => (bindO (loopD (stepDlaw12_great_n0 (a0)) FUEL ((0 : Int), (0 : Int))) (Sum.elim (fun _ => (exit (true))) (fun t3 => (exit (decide (t3 > (20000 : Int)))))))
def fnDlaw12_great (a : Alaw12_great) : Option Ylaw12_great := fnlaw12_great a some
theorem fnlaw12_great_nat (a : Alaw12_great) (k : Ylaw12_great → Ans) : fnlaw12_great a k = bindO (fnDlaw12_great a) k := by
  obtain z := a
  simp only [fnDlaw12_great, fnlaw12_great, bindO_cond, bindO_assoc, bindO_none, bindO_pure, bindO_elim, bindO_unP]
def argslaw12_great : Alaw12_great → List AV := fun a0 => [AV.ro (Ty.st (Ty.pair (Ty.int IntKind.i64) (Ty.pair (Ty.int IntKind.i64) (Ty.pair Ty.str (Ty.list (Ty.st (Ty.pair (Ty.int IntKind.i64) Ty.str))))))) a0]
def decAlaw12_great (l : List AV) : Option Alaw12_great := match l with
  | [AV.ro (Ty.st (Ty.pair (Ty.int IntKind.i64) (Ty.pair (Ty.int IntKind.i64) (Ty.pair Ty.str (Ty.list (Ty.st (Ty.pair (Ty.int IntKind.i64) Ty.str))))))) a0] => some (a0)
  | _ => none
theorem decAlaw12_great_ok (l : List AV) (a : Alaw12_great) (h : decAlaw12_great l = some a) : l = argslaw12_great a := by
  unfold decAlaw12_great at h
  split at h
  · cases h; rfl
  · cases h
def rendlaw12_great : Alaw12_great → Ylaw12_great → AV := fun a0 => fun r_y => AV.bool r_y
theorem rendlaw12_great_ok : ∀ (a : Alaw12_great) (y : Ylaw12_great), (rendlaw12_great a y).closed1 = true := by
  rintro z y <;> first | rfl | exact Empty.elim y
theorem fnlaw12_great_ok (a : Alaw12_great) : fnE Try.tab envlaw12_great noHint 0 70 6 Try.f6.ntmps Try.f6.results.toList annlaw12_great blaw12_great (argslaw12_great a) [] (fun v _ => some (v, [])) = fnlaw12_great a (fun y => some (rendlaw12_great a y, [])) := by kernel_rfl
def vFlaw12_great (a : Alaw12_great) (K : AV → Ans) : Ans := bindO (fnDlaw12_great a) fun y => K (rendlaw12_great a y)
def Flaw12_great : List AV → (AV → Ans) → Ans := fun l K => bindO (decAlaw12_great l) fun a => vFlaw12_great a K
theorem Flaw12_great_ok : PureOk Try.prog 6 Flaw12_great := pure_mkD (hint := noHint) (d := 0) (n := 70) mixed tabOk envlaw12_greatOk Try.func6 (bodySome (by kernel_rfl)) (by decide +kernel) annlaw12_great_ok decAlaw12_great_ok fnlaw12_great_ok fnlaw12_great_nat rendlaw12_great_ok
--@ logscan_scan_read_2
noncomputable def envlogscan_scan_read_2 : Env := [(21, .func Flogscan_wrap), (67, .func Fregion_Region_Read)]
theorem envlogscan_scan_read_2Ok : EnvOk Try.prog envlogscan_scan_read_2 := EnvOk.cons Flogscan_wrap_ok (EnvOk.cons Fregion_Region_Read_ok (EnvOk.nil))
noncomputable def blogscan_scan_read_2 : Code := Try.f59.body.getD .skip
noncomputable def Llogscan_scan_read_2_n0 : Code := codeAt [1, 1, 0, 1, 0, 0] blogscan_scan_read_2
noncomputable def annLlogscan_scan_read_2_n0 : Ann := .at 10 [0, 1, 8, 12, 13] (.loop .none)
theorem annLlogscan_scan_read_2_n0_ok : AnnOk Try.prog 40 (.loop Llogscan_scan_read_2_n0) annLlogscan_scan_read_2_n0 := annOk_at (annOk_none _ _ _)
abbrev Ilogscan_scan_read_2_n0 := (Int) × (Int) × (Int) × (Int) × (Int) × (Bool) × (Int) × (Int) × (Int) × (Int) × (List (Int × Int × List (Int × List UInt8))) × (List (List UInt8)) × (List (Int × List UInt8)) × (List (Int × List UInt8)) × (List Int)
abbrev Ylogscan_scan_read_2_n0 := ((Int) × (Int) × (Bool)) ⊕ ((List UInt8) × (Int) × (Bool))
abbrev Vlogscan_scan_read_2_n0 := (List UInt8) × (Int) × (Int) × (Bool)
def Slogscan_scan_read_2_n0 : Ilogscan_scan_read_2_n0 → Vlogscan_scan_read_2_n0 → St := fun (t1, t12, o0_1, o0_2, o0_3, o0_5, o1_1, o1_2, o3_0, o4_5, o5, o6, o7, o8, o9) (t8, t13, o4_3, o4_6) => { env := [(0, AV.ptr 0 0), (1, AV.int IntKind.i64 t1), (8, AV.str t8), (12, AV.int IntKind.i64 t12), (13, AV.int IntKind.i64 t13)], stk := [[(0, AV.ptr 0 0), (1, AV.ptr 1 0), (2, AV.ptr 2 0), (3, AV.ptr 3 0), (4, AV.ptr 4 0)]], H := [AE.Obj.cells [AV.ptr 1 0, AV.int IntKind.i64 o0_1, AV.int IntKind.i64 o0_2, AV.int IntKind.i64 o0_3, AV.fn (Fn.func 29) [] [AV.ptr 2 0, AV.ptr 3 0], AV.bool o0_5], AE.Obj.cells [AV.ptr 4 0, AV.int IntKind.i64 o1_1, AV.int IntKind.i64 o1_2], AE.Obj.cells [AV.own 5], AE.Obj.cells [AV.int IntKind.i64 o3_0], AE.Obj.cells [AV.own 6, AV.map 7, AV.own 8, AV.int IntKind.i64 o4_3, AV.own 9, AV.int IntKind.i64 o4_5, AV.bool o4_6], Obj.arr (Ty.st (Ty.pair (Ty.int IntKind.i64) (Ty.pair (Ty.int IntKind.i64) (Ty.list (Ty.st (Ty.pair (Ty.int IntKind.i64) Ty.str)))))) o5, Obj.arr Ty.str o6, Obj.mp IntKind.i64 Ty.str o7, Obj.arr (Ty.st (Ty.pair (Ty.int IntKind.i64) Ty.str)) o8, Obj.arr (Ty.int IntKind.i64) o9], blk := 241664 }
def declogscan_scan_read_2_n0 (s : St) : Option (Ilogscan_scan_read_2_n0 × Vlogscan_scan_read_2_n0) := match s with
  | { env := [(0, AV.ptr 0 0), (1, AV.int IntKind.i64 t1), (8, AV.str t8), (12, AV.int IntKind.i64 t12), (13, AV.int IntKind.i64 t13)], stk := [[(0, AV.ptr 0 0), (1, AV.ptr 1 0), (2, AV.ptr 2 0), (3, AV.ptr 3 0), (4, AV.ptr 4 0)]], H := [AE.Obj.cells [AV.ptr 1 0, AV.int IntKind.i64 o0_1, AV.int IntKind.i64 o0_2, AV.int IntKind.i64 o0_3, AV.fn (Fn.func 29) [] [AV.ptr 2 0, AV.ptr 3 0], AV.bool o0_5], AE.Obj.cells [AV.ptr 4 0, AV.int IntKind.i64 o1_1, AV.int IntKind.i64 o1_2], AE.Obj.cells [AV.own 5], AE.Obj.cells [AV.int IntKind.i64 o3_0], AE.Obj.cells [AV.own 6, AV.map 7, AV.own 8, AV.int IntKind.i64 o4_3, AV.own 9, AV.int IntKind.i64 o4_5, AV.bool o4_6], Obj.arr (Ty.st (Ty.pair (Ty.int IntKind.i64) (Ty.pair (Ty.int IntKind.i64) (Ty.list (Ty.st (Ty.pair (Ty.int IntKind.i64) Ty.str)))))) o5, Obj.arr Ty.str o6, Obj.mp IntKind.i64 Ty.str o7, Obj.arr (Ty.st (Ty.pair (Ty.int IntKind.i64) Ty.str)) o8, Obj.arr (Ty.int IntKind.i64) o9], blk := 241664 } => some ((t1, t12, o0_1, o0_2, o0_3, o0_5, o1_1, o1_2, o3_0, o4_5, o5, o6, o7, o8, o9), (t8, t13, o4_3, o4_6))
  | _ => none
theorem declogscan_scan_read_2_n0_ok (s : St) (x : Ilogscan_scan_read_2_n0 × Vlogscan_scan_read_2_n0) (h : declogscan_scan_read_2_n0 s = some x) : s = Slogscan_scan_read_2_n0 x.1 x.2 := by
  unfold declogscan_scan_read_2_n0 at h
  split at h
  · cases h; rfl
  · cases h
def outlogscan_scan_read_2_n0 : Ilogscan_scan_read_2_n0 → (Ex → St → Ans) → Ylogscan_scan_read_2_n0 → Ans := fun (t1, t12, o0_1, o0_2, o0_3, o0_5, o1_1, o1_2, o3_0, o4_5, o5, o6, o7, o8, o9) K => (Sum.elim (unP fun t7_y => unP fun o4_3_y o4_6_y => K (Ex.ret) { env := [(6, AV.str ([])), (7, AV.int IntKind.i64 t7_y)], stk := [[(0, AV.ptr 0 0), (1, AV.ptr 1 0), (2, AV.ptr 2 0), (3, AV.ptr 3 0), (4, AV.ptr 4 0)]], H := [AE.Obj.cells [AV.ptr 1 0, AV.int IntKind.i64 o0_1, AV.int IntKind.i64 o0_2, AV.int IntKind.i64 o0_3, AV.fn (Fn.func 29) [] [AV.ptr 2 0, AV.ptr 3 0], AV.bool o0_5], AE.Obj.cells [AV.ptr 4 0, AV.int IntKind.i64 o1_1, AV.int IntKind.i64 o1_2], AE.Obj.cells [AV.own 5], AE.Obj.cells [AV.int IntKind.i64 o3_0], AE.Obj.cells [AV.own 6, AV.map 7, AV.own 8, AV.int IntKind.i64 o4_3_y, AV.own 9, AV.int IntKind.i64 o4_5, AV.bool o4_6_y], Obj.arr (Ty.st (Ty.pair (Ty.int IntKind.i64) (Ty.pair (Ty.int IntKind.i64) (Ty.list (Ty.st (Ty.pair (Ty.int IntKind.i64) Ty.str)))))) o5, Obj.arr Ty.str o6, Obj.mp IntKind.i64 Ty.str o7, Obj.arr (Ty.st (Ty.pair (Ty.int IntKind.i64) Ty.str)) o8, Obj.arr (Ty.int IntKind.i64) o9], blk := 241665 }) (unP fun t8_y => unP fun o4_3_y o4_6_y => K (Ex.exit 0) { env := [(8, AV.str t8_y)], stk := [[(0, AV.ptr 0 0), (1, AV.ptr 1 0), (2, AV.ptr 2 0), (3, AV.ptr 3 0), (4, AV.ptr 4 0)]], H := [AE.Obj.cells [AV.ptr 1 0, AV.int IntKind.i64 o0_1, AV.int IntKind.i64 o0_2, AV.int IntKind.i64 o0_3, AV.fn (Fn.func 29) [] [AV.ptr 2 0, AV.ptr 3 0], AV.bool o0_5], AE.Obj.cells [AV.ptr 4 0, AV.int IntKind.i64 o1_1, AV.int IntKind.i64 o1_2], AE.Obj.cells [AV.own 5], AE.Obj.cells [AV.int IntKind.i64 o3_0], AE.Obj.cells [AV.own 6, AV.map 7, AV.own 8, AV.int IntKind.i64 o4_3_y, AV.own 9, AV.int IntKind.i64 o4_5, AV.bool o4_6_y], Obj.arr (Ty.st (Ty.pair (Ty.int IntKind.i64) (Ty.pair (Ty.int IntKind.i64) (Ty.list (Ty.st (Ty.pair (Ty.int IntKind.i64) Ty.str)))))) o5, Obj.arr Ty.str o6, Obj.mp IntKind.i64 Ty.str o7, Obj.arr (Ty.st (Ty.pair (Ty.int IntKind.i64) Ty.str)) o8, Obj.arr (Ty.int IntKind.i64) o9], blk := 241664 }))
def steplogscan_scan_read_2_n0 {β : Type} : Ilogscan_scan_read_2_n0 → Vlogscan_scan_read_2_n0 → (Vlogscan_scan_read_2_n0 → Option β) → (Ylogscan_scan_read_2_n0 → Option β) → Option β := fun (t1, t12, o0_1, o0_2, o0_3, o0_5, o1_1, o1_2, o3_0, o4_5, o5, o6, o7, o8, o9) (t8, t13, o4_3, o4_6) next exit => (bif decide (t13 < t12) then (bindO (fnDlogscan_wrap (IntKind.wrap IntKind.i64 (t1 + t13), o1_1, o1_2, o4_3, o4_5, o4_6, o6, o7, o8, o9)) fun r => (bindO (fnDregion_Region_Read (r, (1 : Int), o1_1, o1_2, o4_3, o4_5, o4_6, o6, o7, o8, o9)) (unP fun r_0 => unP fun r_1 => unP fun o1_3 o1_6 => (bif r_1 != (0 : Int) then (exit (Sum.inl (r_1, o1_3, o1_6))) else (bif Nat.ble (List.length t8 + List.length r_0) (9223372036854775807 : Nat) then (next (t8 ++ r_0, IntKind.wrap IntKind.i64 (t13 + (1 : Int)), o1_3, o1_6)) else none))))) else (exit (Sum.inr (t8, o4_3, o4_6))))
def stepDlogscan_scan_read_2_n0 (i : Ilogscan_scan_read_2_n0) (v : Vlogscan_scan_read_2_n0) : Option (Vlogscan_scan_read_2_n0 ⊕ Ylogscan_scan_read_2_n0) := steplogscan_scan_read_2_n0 i v (fun v => some (.inl v)) (fun y => some (.inr y))
theorem steplogscan_scan_read_2_n0_nat (i : Ilogscan_scan_read_2_n0) (v : Vlogscan_scan_read_2_n0) (next : Vlogscan_scan_read_2_n0 → Ans) (exit : Ylogscan_scan_read_2_n0 → Ans) : steplogscan_scan_read_2_n0 i v next exit = bindO (stepDlogscan_scan_read_2_n0 i v) (Sum.elim next exit) := by
  obtain ⟨t1, t12, o0_1, o0_2, o0_3, o0_5, o1_1, o1_2, o3_0, o4_5, o5, o6, o7, o8, o9⟩ := i
  obtain ⟨t8, t13, o4_3, o4_6⟩ := v
  simp only [stepDlogscan_scan_read_2_n0, steplogscan_scan_read_2_n0, bindO_cond, bindO_assoc, bindO_none, bindO_pure, bindO_elim, bindO_unP, Sum.elim_inl, Sum.elim_inr]
theorem steplogscan_scan_read_2_n0_ok (n : Nat) (i : Ilogscan_scan_read_2_n0) (v : Vlogscan_scan_read_2_n0) (K : Ex → St → Ans) : codeI Try.tab envlogscan_scan_read_2 noHint (codeD Try.tab envlogscan_scan_read_2 noHint 0 64) (n+1) 40 annLlogscan_scan_read_2_n0 (.loop Llogscan_scan_read_2_n0) (weakP 10 (exk [8] [6, 7] [(0, [8])]) K) (Slogscan_scan_read_2_n0 i v) = steplogscan_scan_read_2_n0 i v (fun v' => codeI Try.tab envlogscan_scan_read_2 noHint (codeD Try.tab envlogscan_scan_read_2 noHint 0 64) n 40 annLlogscan_scan_read_2_n0 (.loop Llogscan_scan_read_2_n0) (weakP 10 (exk [8] [6, 7] [(0, [8])]) K) (Slogscan_scan_read_2_n0 i v')) (fun y => outlogscan_scan_read_2_n0 i K y) := by kernel_rfl
theorem GNlogscan_scan_read_2_n0_ok : CSum Try.prog 40 (.loop Llogscan_scan_read_2_n0) (sumL declogscan_scan_read_2_n0 stepDlogscan_scan_read_2_n0 outlogscan_scan_read_2_n0) := csum_loop mixed tabOk envlogscan_scan_read_2Ok 10 (exk [8] [6, 7] [(0, [8])]) annLlogscan_scan_read_2_n0_ok declogscan_scan_read_2_n0_ok steplogscan_scan_read_2_n0_ok steplogscan_scan_read_2_n0_nat
noncomputable def Glogscan_scan_read_2_n0 : (Ex → St → Ans) → St → Ans := (sumL declogscan_scan_read_2_n0 stepDlogscan_scan_read_2_n0 outlogscan_scan_read_2_n0)
theorem Glogscan_scan_read_2_n0_ok : CSum Try.prog 40 (.loop Llogscan_scan_read_2_n0) Glogscan_scan_read_2_n0 := GNlogscan_scan_read_2_n0_ok
noncomputable def annlogscan_scan_read_2 : Ann := (.seq .none (.seq .none (.seq (.seq .none (.block (.cut 10 [0, 1, 8, 12, 13] Glogscan_scan_read_2_n0))) .none)))
theorem annlogscan_scan_read_2_ok : AnnOk Try.prog 40 blogscan_scan_read_2 annlogscan_scan_read_2 := ⟨(annOk_none _ _ _), ⟨(annOk_none _ _ _), ⟨⟨(annOk_none _ _ _), Glogscan_scan_read_2_n0_ok⟩, (annOk_none _ _ _)⟩⟩⟩
abbrev Alogscan_scan_read_2 := (Int) × (Int) × (Int) × (Int) × (Int) × (Bool) × (Int) × (Int) × (Int) × (Int) × (Int) × (Bool) × (List (Int × Int × List (Int × List UInt8))) × (List (List UInt8)) × (List (Int × List UInt8)) × (List (Int × List UInt8)) × (List Int)
abbrev Ylogscan_scan_read_2 := (List UInt8) × (Int) × (Int) × (Bool)
def fnlogscan_scan_read_2 {β : Type} : Alogscan_scan_read_2 → (Ylogscan_scan_read_2 → Option β) → Option β := fun (a1, a2, o0_1, o0_2, o0_3, o0_5, o1_1, o1_2, o3_0, o4_3, o4_5, o4_6, o5, o6, o7, o8, o9) exit => (bindO (loopD (stepDlogscan_scan_read_2_n0 (a1, a2, o0_1, o0_2, o0_3, o0_5, o1_1, o1_2, o3_0, o4_5, o5, o6, o7, o8, o9)) FUEL ([], (0 : Int), o4_3, o4_6)) (Sum.elim (unP fun t7 => unP fun o4_3_2 o4_6_2 => (exit ([], t7, o4_3_2, o4_6_2))) (unP fun t8 => unP fun o4_3_2 o4_6_2 => (exit (t8, (0 : Int), o4_3_2, o4_6_2)))))
def fnDlogscan_scan_read_2 (a : Alogscan_scan_read_2) : Option Ylogscan_scan_read_2 := fnlogscan_scan_read_2 a some
theorem fnlogscan_scan_read_2_nat (a : Alogscan_scan_read_2) (k : Ylogscan_scan_read_2 → Ans) : fnlogscan_scan_read_2 a k = bindO (fnDlogscan_scan_read_2 a) k := by
  obtain ⟨a1, a2, o0_1, o0_2, o0_3, o0_5, o1_1, o1_2, o3_0, o4_3, o4_5, o4_6, o5, o6, o7, o8, o9⟩ := a
  simp only [fnDlogscan_scan_read_2, fnlogscan_scan_read_2, bindO_cond, bindO_assoc, bindO_none, bindO_pure, bindO_elim, bindO_unP]
def argslogscan_scan_read_2 : Alogscan_scan_read_2 → List AV × List AE.Obj := fun (a1, a2, o0_1, o0_2, o0_3, o0_5, o1_1, o1_2, o3_0, o4_3, o4_5, o4_6, o5, o6, o7, o8, o9) => ([AV.ptr 0 0, AV.int IntKind.i64 a1, AV.int IntKind.i64 a2], [AE.Obj.cells [AV.ptr 1 0, AV.int IntKind.i64 o0_1, AV.int IntKind.i64 o0_2, AV.int IntKind.i64 o0_3, AV.fn (Fn.func 29) [] [AV.ptr 2 0, AV.ptr 3 0], AV.bool o0_5], AE.Obj.cells [AV.ptr 4 0, AV.int IntKind.i64 o1_1, AV.int IntKind.i64 o1_2], AE.Obj.cells [AV.own 5], AE.Obj.cells [AV.int IntKind.i64 o3_0], AE.Obj.cells [AV.own 6, AV.map 7, AV.own 8, AV.int IntKind.i64 o4_3, AV.own 9, AV.int IntKind.i64 o4_5, AV.bool o4_6], Obj.arr (Ty.st (Ty.pair (Ty.int IntKind.i64) (Ty.pair (Ty.int IntKind.i64) (Ty.list (Ty.st (Ty.pair (Ty.int IntKind.i64) Ty.str)))))) o5, Obj.arr Ty.str o6, Obj.mp IntKind.i64 Ty.str o7, Obj.arr (Ty.st (Ty.pair (Ty.int IntKind.i64) Ty.str)) o8, Obj.arr (Ty.int IntKind.i64) o9])
def decAlogscan_scan_read_2 (l : List AV) (H : List AE.Obj) : Option Alogscan_scan_read_2 := match l, H with
  | [AV.ptr 0 0, AV.int IntKind.i64 a1, AV.int IntKind.i64 a2], [AE.Obj.cells [AV.ptr 1 0, AV.int IntKind.i64 o0_1, AV.int IntKind.i64 o0_2, AV.int IntKind.i64 o0_3, AV.fn (Fn.func 29) [] [AV.ptr 2 0, AV.ptr 3 0], AV.bool o0_5], AE.Obj.cells [AV.ptr 4 0, AV.int IntKind.i64 o1_1, AV.int IntKind.i64 o1_2], AE.Obj.cells [AV.own 5], AE.Obj.cells [AV.int IntKind.i64 o3_0], AE.Obj.cells [AV.own 6, AV.map 7, AV.own 8, AV.int IntKind.i64 o4_3, AV.own 9, AV.int IntKind.i64 o4_5, AV.bool o4_6], Obj.arr (Ty.st (Ty.pair (Ty.int IntKind.i64) (Ty.pair (Ty.int IntKind.i64) (Ty.list (Ty.st (Ty.pair (Ty.int IntKind.i64) Ty.str)))))) o5, Obj.arr Ty.str o6, Obj.mp IntKind.i64 Ty.str o7, Obj.arr (Ty.st (Ty.pair (Ty.int IntKind.i64) Ty.str)) o8, Obj.arr (Ty.int IntKind.i64) o9] => some (a1, a2, o0_1, o0_2, o0_3, o0_5, o1_1, o1_2, o3_0, o4_3, o4_5, o4_6, o5, o6, o7, o8, o9)
  | _, _ => none
theorem decAlogscan_scan_read_2_ok (l : List AV) (H : List AE.Obj) (a : Alogscan_scan_read_2) (h : decAlogscan_scan_read_2 l H = some a) : (l, H) = argslogscan_scan_read_2 a := by
  unfold decAlogscan_scan_read_2 at h
  split at h
  · cases h; rfl
  · cases h
def outlogscan_scan_read_2 : Alogscan_scan_read_2 → (AV → List AE.Obj → Ans) → Ylogscan_scan_read_2 → Ans := fun (a1, a2, o0_1, o0_2, o0_3, o0_5, o1_1, o1_2, o3_0, o4_3, o4_5, o4_6, o5, o6, o7, o8, o9) K => unP fun r_0_y => unP fun r_1_y => unP fun o4_3_y o4_6_y => K (AV.tup [AV.str r_0_y, AV.int IntKind.i64 r_1_y]) [AE.Obj.cells [AV.ptr 1 0, AV.int IntKind.i64 o0_1, AV.int IntKind.i64 o0_2, AV.int IntKind.i64 o0_3, AV.fn (Fn.func 29) [] [AV.ptr 2 0, AV.ptr 3 0], AV.bool o0_5], AE.Obj.cells [AV.ptr 4 0, AV.int IntKind.i64 o1_1, AV.int IntKind.i64 o1_2], AE.Obj.cells [AV.own 5], AE.Obj.cells [AV.int IntKind.i64 o3_0], AE.Obj.cells [AV.own 6, AV.map 7, AV.own 8, AV.int IntKind.i64 o4_3_y, AV.own 9, AV.int IntKind.i64 o4_5, AV.bool o4_6_y], Obj.arr (Ty.st (Ty.pair (Ty.int IntKind.i64) (Ty.pair (Ty.int IntKind.i64) (Ty.list (Ty.st (Ty.pair (Ty.int IntKind.i64) Ty.str)))))) o5, Obj.arr Ty.str o6, Obj.mp IntKind.i64 Ty.str o7, Obj.arr (Ty.st (Ty.pair (Ty.int IntKind.i64) Ty.str)) o8, Obj.arr (Ty.int IntKind.i64) o9]
theorem fnlogscan_scan_read_2_ok (a : Alogscan_scan_read_2) (K : AV → List AE.Obj → Ans) : fnE Try.tab envlogscan_scan_read_2 noHint 0 70 59 Try.f59.ntmps Try.f59.results.toList annlogscan_scan_read_2 blogscan_scan_read_2 (argslogscan_scan_read_2 a).1 (argslogscan_scan_read_2 a).2 K = fnlogscan_scan_read_2 a (outlogscan_scan_read_2 a K) := by kernel_rfl
def vFlogscan_scan_read_2 (a : Alogscan_scan_read_2) (K : AV → List AE.Obj → Ans) : Ans := bindO (fnDlogscan_scan_read_2 a) fun y => outlogscan_scan_read_2 a K y
def Flogscan_scan_read_2 : List AV → List AE.Obj → (AV → List AE.Obj → Ans) → Ans := fun l H K => bindO (decAlogscan_scan_read_2 l H) fun a => vFlogscan_scan_read_2 a K
theorem Flogscan_scan_read_2_ok : FuncOk Try.prog 59 Flogscan_scan_read_2 := func_mkD (hint := noHint) (d := 0) (n := 70) mixed tabOk envlogscan_scan_read_2Ok Try.func59 (bodySome (by kernel_rfl)) (by decide +kernel) annlogscan_scan_read_2_ok decAlogscan_scan_read_2_ok fnlogscan_scan_read_2_ok fnlogscan_scan_read_2_nat
--@ law12_told_1
noncomputable def envlaw12_told_1 : Env := []
theorem envlaw12_told_1Ok : EnvOk Try.prog envlaw12_told_1 := EnvOk.nil
noncomputable def blaw12_told_1 : Code := Try.f29.body.getD .skip
noncomputable def annlaw12_told_1 : Ann := .none
theorem annlaw12_told_1_ok : AnnOk Try.prog 13 blaw12_told_1 annlaw12_told_1 := (annOk_none _ _ _)
abbrev Alaw12_told_1 := (Int) × (Int) × (List (Int × List UInt8)) × (Int) × (List (Int × Int × List (Int × List UInt8)))
abbrev Ylaw12_told_1 := (Bool) × (List (Int × Int × List (Int × List UInt8)))
def fnlaw12_told_1 {β : Type} : Alaw12_told_1 → (Ylaw12_told_1 → Option β) → Option β := fun (a0_0, a0_1, a0_2, o1_0, o2) exit => (bif Nat.ble ((List.length o2 + List.length [(a0_0, a0_1, a0_2)]) * (40 : Nat)) (140737488355328 : Nat) then (exit (decide ((↑(List.length (o2 ++ [(a0_0, a0_1, a0_2)])) : Int) < o1_0), o2 ++ [(a0_0, a0_1, a0_2)])) else none)
def fnDlaw12_told_1 (a : Alaw12_told_1) : Option Ylaw12_told_1 := fnlaw12_told_1 a some
theorem fnlaw12_told_1_nat (a : Alaw12_told_1) (k : Ylaw12_told_1 → Ans) : fnlaw12_told_1 a k = bindO (fnDlaw12_told_1 a) k := by
  obtain ⟨a0_0, a0_1, a0_2, o1_0, o2⟩ := a
  simp only [fnDlaw12_told_1, fnlaw12_told_1, bindO_cond, bindO_assoc, bindO_none, bindO_pure, bindO_elim, bindO_unP]
def argslaw12_told_1 : Alaw12_told_1 → List AV × List AE.Obj := fun (a0_0, a0_1, a0_2, o1_0, o2) => ([AV.agg [AV.int IntKind.i64 a0_0, AV.int IntKind.i64 a0_1, AV.ro (Ty.st (Ty.pair (Ty.int IntKind.i64) Ty.str)) a0_2], AV.ptr 0 0, AV.ptr 1 0], [AE.Obj.cells [AV.own 2], AE.Obj.cells [AV.int IntKind.i64 o1_0], Obj.arr (Ty.st (Ty.pair (Ty.int IntKind.i64) (Ty.pair (Ty.int IntKind.i64) (Ty.list (Ty.st (Ty.pair (Ty.int IntKind.i64) Ty.str)))))) o2])
def decAlaw12_told_1 (l : List AV) (H : List AE.Obj) : Option Alaw12_told_1 := match l, H with
  | [AV.agg [AV.int IntKind.i64 a0_0, AV.int IntKind.i64 a0_1, AV.ro (Ty.st (Ty.pair (Ty.int IntKind.i64) Ty.str)) a0_2], AV.ptr 0 0, AV.ptr 1 0], [AE.Obj.cells [AV.own 2], AE.Obj.cells [AV.int IntKind.i64 o1_0], Obj.arr (Ty.st (Ty.pair (Ty.int IntKind.i64) (Ty.pair (Ty.int IntKind.i64) (Ty.list (Ty.st (Ty.pair (Ty.int IntKind.i64) Ty.str)))))) o2] => some (a0_0, a0_1, a0_2, o1_0, o2)
  | _, _ => none
theorem decAlaw12_told_1_ok (l : List AV) (H : List AE.Obj) (a : Alaw12_told_1) (h : decAlaw12_told_1 l H = some a) : (l, H) = argslaw12_told_1 a := by
  unfold decAlaw12_told_1 at h
  split at h
  · cases h; rfl
  · cases h
def outlaw12_told_1 : Alaw12_told_1 → (AV → List AE.Obj → Ans) → Ylaw12_told_1 → Ans := fun (a0_0, a0_1, a0_2, o1_0, o2) K => unP fun r_y o2_y => K (AV.bool r_y) [AE.Obj.cells [AV.own 2], AE.Obj.cells [AV.int IntKind.i64 o1_0], Obj.arr (Ty.st (Ty.pair (Ty.int IntKind.i64) (Ty.pair (Ty.int IntKind.i64) (Ty.list (Ty.st (Ty.pair (Ty.int IntKind.i64) Ty.str)))))) o2_y]
theorem fnlaw12_told_1_ok (a : Alaw12_told_1) (K : AV → List AE.Obj → Ans) : fnE Try.tab envlaw12_told_1 noHint 0 70 29 Try.f29.ntmps Try.f29.results.toList annlaw12_told_1 blaw12_told_1 (argslaw12_told_1 a).1 (argslaw12_told_1 a).2 K = fnlaw12_told_1 a (outlaw12_told_1 a K) := by kernel_rfl
def vFlaw12_told_1 (a : Alaw12_told_1) (K : AV → List AE.Obj → Ans) : Ans := bindO (fnDlaw12_told_1 a) fun y => outlaw12_told_1 a K y
def Flaw12_told_1 : List AV → List AE.Obj → (AV → List AE.Obj → Ans) → Ans := fun l H K => bindO (decAlaw12_told_1 l H) fun a => vFlaw12_told_1 a K
theorem Flaw12_told_1_ok : FuncOk Try.prog 29 Flaw12_told_1 := func_mkD (hint := noHint) (d := 0) (n := 70) mixed tabOk envlaw12_told_1Ok Try.func29 (bodySome (by kernel_rfl)) (by decide +kernel) annlaw12_told_1_ok decAlaw12_told_1_ok fnlaw12_told_1_ok fnlaw12_told_1_nat
--@ logscan_scan_next_2
noncomputable def envlogscan_scan_next_2 : Env := [(18, .func Fregion_Region_Many), (21, .func Flogscan_wrap), (60, .pure Flogrec_Size), (61, .func Flogrec_Get), (59, .func Flogscan_scan_read_2), (29, .func Flaw12_told_1)]
theorem envlogscan_scan_next_2Ok : EnvOk Try.prog envlogscan_scan_next_2 := EnvOk.cons Fregion_Region_Many_ok (EnvOk.cons Flogscan_wrap_ok (EnvOk.cons Flogrec_Size_ok (EnvOk.cons Flogrec_Get_ok (EnvOk.cons Flogscan_scan_read_2_ok (EnvOk.cons Flaw12_told_1_ok (EnvOk.nil))))))
noncomputable def blogscan_scan_next_2 : Code := Try.f48.body.getD .skip
noncomputable def Llogscan_scan_next_2_n1 : Code := codeAt [1, 1, 1, 1, 1, 1, 1, 1, 1, 1, 1, 0] blogscan_scan_next_2
noncomputable def annLlogscan_scan_next_2_n1 : Ann := .none
theorem annLlogscan_scan_next_2_n1_ok : AnnOk Try.prog 141 Llogscan_scan_next_2_n1 annLlogscan_scan_next_2_n1 := (annOk_none _ _ _)
abbrev Ilogscan_scan_next_2_n1 := (Int) × (Int) × (Int) × (Bool) × (Int) × (Int) × (Int) × (Int) × (Int) × (Bool) × (List (Int × Int × List (Int × List UInt8))) × (List (List UInt8)) × (List (Int × List UInt8)) × (List (Int × List UInt8)) × (List Int) × (Int) × (Int) × (List (Int × List UInt8))
abbrev Ylogscan_scan_next_2_n1 := (Bool) × (List (Int × Int × List (Int × List UInt8)))
def Slogscan_scan_next_2_n1 : Ilogscan_scan_next_2_n1 → St := fun (o0_1, o0_2, o0_3, o0_5, o1_1, o1_2, o3_0, o4_3, o4_5, o4_6, o5, o6, o7, o8, o9, o10_0, o10_1, o11) => { env := [(0, AV.ptr 0 0), (9, AV.ptr 10 0)], stk := [[(0, AV.ptr 0 0), (1, AV.ptr 1 0), (2, AV.ptr 2 0), (3, AV.ptr 3 0), (4, AV.ptr 4 0)]], H := [AE.Obj.cells [AV.ptr 1 0, AV.int IntKind.i64 o0_1, AV.int IntKind.i64 o0_2, AV.int IntKind.i64 o0_3, AV.fn (Fn.func 29) [] [AV.ptr 2 0, AV.ptr 3 0], AV.bool o0_5], AE.Obj.cells [AV.ptr 4 0, AV.int IntKind.i64 o1_1, AV.int IntKind.i64 o1_2], AE.Obj.cells [AV.own 5], AE.Obj.cells [AV.int IntKind.i64 o3_0], AE.Obj.cells [AV.own 6, AV.map 7, AV.own 8, AV.int IntKind.i64 o4_3, AV.own 9, AV.int IntKind.i64 o4_5, AV.bool o4_6], Obj.arr (Ty.st (Ty.pair (Ty.int IntKind.i64) (Ty.pair (Ty.int IntKind.i64) (Ty.list (Ty.st (Ty.pair (Ty.int IntKind.i64) Ty.str)))))) o5, Obj.arr Ty.str o6, Obj.mp IntKind.i64 Ty.str o7, Obj.arr (Ty.st (Ty.pair (Ty.int IntKind.i64) Ty.str)) o8, Obj.arr (Ty.int IntKind.i64) o9, AE.Obj.cells [AV.int IntKind.i64 o10_0, AV.int IntKind.i64 o10_1, AV.own 11], Obj.arr (Ty.st (Ty.pair (Ty.int IntKind.i64) Ty.str)) o11], blk := 196608 }
def declogscan_scan_next_2_n1 (s : St) : Option Ilogscan_scan_next_2_n1 := match s with
  | { env := [(0, AV.ptr 0 0), (9, AV.ptr 10 0)], stk := [[(0, AV.ptr 0 0), (1, AV.ptr 1 0), (2, AV.ptr 2 0), (3, AV.ptr 3 0), (4, AV.ptr 4 0)]], H := [AE.Obj.cells [AV.ptr 1 0, AV.int IntKind.i64 o0_1, AV.int IntKind.i64 o0_2, AV.int IntKind.i64 o0_3, AV.fn (Fn.func 29) [] [AV.ptr 2 0, AV.ptr 3 0], AV.bool o0_5], AE.Obj.cells [AV.ptr 4 0, AV.int IntKind.i64 o1_1, AV.int IntKind.i64 o1_2], AE.Obj.cells [AV.own 5], AE.Obj.cells [AV.int IntKind.i64 o3_0], AE.Obj.cells [AV.own 6, AV.map 7, AV.own 8, AV.int IntKind.i64 o4_3, AV.own 9, AV.int IntKind.i64 o4_5, AV.bool o4_6], Obj.arr (Ty.st (Ty.pair (Ty.int IntKind.i64) (Ty.pair (Ty.int IntKind.i64) (Ty.list (Ty.st (Ty.pair (Ty.int IntKind.i64) Ty.str)))))) o5, Obj.arr Ty.str o6, Obj.mp IntKind.i64 Ty.str o7, Obj.arr (Ty.st (Ty.pair (Ty.int IntKind.i64) Ty.str)) o8, Obj.arr (Ty.int IntKind.i64) o9, AE.Obj.cells [AV.int IntKind.i64 o10_0, AV.int IntKind.i64 o10_1, AV.own 11], Obj.arr (Ty.st (Ty.pair (Ty.int IntKind.i64) Ty.str)) o11], blk := 196608 } => some (o0_1, o0_2, o0_3, o0_5, o1_1, o1_2, o3_0, o4_3, o4_5, o4_6, o5, o6, o7, o8, o9, o10_0, o10_1, o11)
  | _ => none
theorem declogscan_scan_next_2_n1_ok (s : St) (x : Ilogscan_scan_next_2_n1) (h : declogscan_scan_next_2_n1 s = some x) : s = Slogscan_scan_next_2_n1 x := by
  unfold declogscan_scan_next_2_n1 at h
  split at h
  · cases h; rfl
  · cases h
def outlogscan_scan_next_2_n1 : Ilogscan_scan_next_2_n1 → (Ex → St → Ans) → Ylogscan_scan_next_2_n1 → Ans := fun (o0_1, o0_2, o0_3, o0_5, o1_1, o1_2, o3_0, o4_3, o4_5, o4_6, o5, o6, o7, o8, o9, o10_0, o10_1, o11) K => unP fun o0_5_y o5_y => K (Ex.norm) { env := [], stk := [[(0, AV.ptr 0 0), (1, AV.ptr 1 0), (2, AV.ptr 2 0), (3, AV.ptr 3 0), (4, AV.ptr 4 0)]], H := [AE.Obj.cells [AV.ptr 1 0, AV.int IntKind.i64 o0_1, AV.int IntKind.i64 o0_2, AV.int IntKind.i64 o0_3, AV.fn (Fn.func 29) [] [AV.ptr 2 0, AV.ptr 3 0], AV.bool o0_5_y], AE.Obj.cells [AV.ptr 4 0, AV.int IntKind.i64 o1_1, AV.int IntKind.i64 o1_2], AE.Obj.cells [AV.own 5], AE.Obj.cells [AV.int IntKind.i64 o3_0], AE.Obj.cells [AV.own 6, AV.map 7, AV.own 8, AV.int IntKind.i64 o4_3, AV.own 9, AV.int IntKind.i64 o4_5, AV.bool o4_6], Obj.arr (Ty.st (Ty.pair (Ty.int IntKind.i64) (Ty.pair (Ty.int IntKind.i64) (Ty.list (Ty.st (Ty.pair (Ty.int IntKind.i64) Ty.str)))))) o5_y, Obj.arr Ty.str o6, Obj.mp IntKind.i64 Ty.str o7, Obj.arr (Ty.st (Ty.pair (Ty.int IntKind.i64) Ty.str)) o8, Obj.arr (Ty.int IntKind.i64) o9], blk := 196608 }
def nodelogscan_scan_next_2_n1 {β : Type} : Ilogscan_scan_next_2_n1 → (Ylogscan_scan_next_2_n1 → Option β) → Option β := fun (o0_1, o0_2, o0_3, o0_5, o1_1, o1_2, o3_0, o4_3, o4_5, o4_6, o5, o6, o7, o8, o9, o10_0, o10_1, o11) exit => (bindO (fnDlaw12_told_1 (o10_0, o10_1, o11, o3_0, o5)) (unP fun r o2 => (bif !r then (exit (true, o2)) else (bindO (fnDregion_Region_Many (o1_1, o1_2, o4_3, o4_5, o4_6, o6, o7, o8, o9)) fun _ => (exit (o0_3 == o1_2, o2))))))
def nodeDlogscan_scan_next_2_n1 (i : Ilogscan_scan_next_2_n1) : Option Ylogscan_scan_next_2_n1 := nodelogscan_scan_next_2_n1 i some
theorem nodelogscan_scan_next_2_n1_nat (i : Ilogscan_scan_next_2_n1) (k : Ylogscan_scan_next_2_n1 → Ans) : nodelogscan_scan_next_2_n1 i k = bindO (nodeDlogscan_scan_next_2_n1 i) k := by
  obtain ⟨o0_1, o0_2, o0_3, o0_5, o1_1, o1_2, o3_0, o4_3, o4_5, o4_6, o5, o6, o7, o8, o9, o10_0, o10_1, o11⟩ := i
  simp only [nodeDlogscan_scan_next_2_n1, nodelogscan_scan_next_2_n1, bindO_cond, bindO_assoc, bindO_none, bindO_pure, bindO_elim, bindO_unP]
theorem nodelogscan_scan_next_2_n1_ok (i : Ilogscan_scan_next_2_n1) (K : Ex → St → Ans) : codeI Try.tab envlogscan_scan_next_2 noHint (codeD Try.tab envlogscan_scan_next_2 noHint 0 64) 70 141 annLlogscan_scan_next_2_n1 Llogscan_scan_next_2_n1 (weakP 10 (exk [] [2] []) K) (Slogscan_scan_next_2_n1 i) = nodelogscan_scan_next_2_n1 i (outlogscan_scan_next_2_n1 i K) := by kernel_rfl
theorem GNlogscan_scan_next_2_n1_ok : CSum Try.prog 141 Llogscan_scan_next_2_n1 (sumN declogscan_scan_next_2_n1 nodeDlogscan_scan_next_2_n1 outlogscan_scan_next_2_n1) := csum_node mixed tabOk envlogscan_scan_next_2Ok 10 (exk [] [2] []) annLlogscan_scan_next_2_n1_ok declogscan_scan_next_2_n1_ok nodelogscan_scan_next_2_n1_ok nodelogscan_scan_next_2_n1_nat
noncomputable def Glogscan_scan_next_2_n1 : (Ex → St → Ans) → St → Ans := (sumN declogscan_scan_next_2_n1 nodeDlogscan_scan_next_2_n1 outlogscan_scan_next_2_n1)
theorem Glogscan_scan_next_2_n1_ok : CSum Try.prog 141 Llogscan_scan_next_2_n1 Glogscan_scan_next_2_n1 := GNlogscan_scan_next_2_n1_ok
noncomputable def Llogscan_scan_next_2_n0 : Code := codeAt [1, 1, 1, 1, 0, 0] blogscan_scan_next_2
noncomputable def annLlogscan_scan_next_2_n0 : Ann := .none
theorem annLlogscan_scan_next_2_n0_ok : AnnOk Try.prog 141 Llogscan_scan_next_2_n0 annLlogscan_scan_next_2_n0 := (annOk_none _ _ _)
abbrev Ilogscan_scan_next_2_n0 := (List UInt8) × (Int) × (Int) × (Int) × (Int) × (Int) × (Bool) × (Int) × (Int) × (Int) × (Int) × (Int) × (Bool) × (List (Int × Int × List (Int × List UInt8))) × (List (List UInt8)) × (List (Int × List UInt8)) × (List (Int × List UInt8)) × (List Int)
abbrev Ylogscan_scan_next_2_n0 := (Bool)
def Slogscan_scan_next_2_n0 : Ilogscan_scan_next_2_n0 → St := fun (t3, t4, t5, o0_1, o0_2, o0_3, o0_5, o1_1, o1_2, o3_0, o4_3, o4_5, o4_6, o5, o6, o7, o8, o9) => { env := [(0, AV.ptr 0 0), (3, AV.str t3), (4, AV.int IntKind.i64 t4), (5, AV.int IntKind.i64 t5)], stk := [[(0, AV.ptr 0 0), (1, AV.ptr 1 0), (2, AV.ptr 2 0), (3, AV.ptr 3 0), (4, AV.ptr 4 0)]], H := [AE.Obj.cells [AV.ptr 1 0, AV.int IntKind.i64 o0_1, AV.int IntKind.i64 o0_2, AV.int IntKind.i64 o0_3, AV.fn (Fn.func 29) [] [AV.ptr 2 0, AV.ptr 3 0], AV.bool o0_5], AE.Obj.cells [AV.ptr 4 0, AV.int IntKind.i64 o1_1, AV.int IntKind.i64 o1_2], AE.Obj.cells [AV.own 5], AE.Obj.cells [AV.int IntKind.i64 o3_0], AE.Obj.cells [AV.own 6, AV.map 7, AV.own 8, AV.int IntKind.i64 o4_3, AV.own 9, AV.int IntKind.i64 o4_5, AV.bool o4_6], Obj.arr (Ty.st (Ty.pair (Ty.int IntKind.i64) (Ty.pair (Ty.int IntKind.i64) (Ty.list (Ty.st (Ty.pair (Ty.int IntKind.i64) Ty.str)))))) o5, Obj.arr Ty.str o6, Obj.mp IntKind.i64 Ty.str o7, Obj.arr (Ty.st (Ty.pair (Ty.int IntKind.i64) Ty.str)) o8, Obj.arr (Ty.int IntKind.i64) o9], blk := 196608 }
def declogscan_scan_next_2_n0 (s : St) : Option Ilogscan_scan_next_2_n0 := match s with
  | { env := [(0, AV.ptr 0 0), (3, AV.str t3), (4, AV.int IntKind.i64 t4), (5, AV.int IntKind.i64 t5)], stk := [[(0, AV.ptr 0 0), (1, AV.ptr 1 0), (2, AV.ptr 2 0), (3, AV.ptr 3 0), (4, AV.ptr 4 0)]], H := [AE.Obj.cells [AV.ptr 1 0, AV.int IntKind.i64 o0_1, AV.int IntKind.i64 o0_2, AV.int IntKind.i64 o0_3, AV.fn (Fn.func 29) [] [AV.ptr 2 0, AV.ptr 3 0], AV.bool o0_5], AE.Obj.cells [AV.ptr 4 0, AV.int IntKind.i64 o1_1, AV.int IntKind.i64 o1_2], AE.Obj.cells [AV.own 5], AE.Obj.cells [AV.int IntKind.i64 o3_0], AE.Obj.cells [AV.own 6, AV.map 7, AV.own 8, AV.int IntKind.i64 o4_3, AV.own 9, AV.int IntKind.i64 o4_5, AV.bool o4_6], Obj.arr (Ty.st (Ty.pair (Ty.int IntKind.i64) (Ty.pair (Ty.int IntKind.i64) (Ty.list (Ty.st (Ty.pair (Ty.int IntKind.i64) Ty.str)))))) o5, Obj.arr Ty.str o6, Obj.mp IntKind.i64 Ty.str o7, Obj.arr (Ty.st (Ty.pair (Ty.int IntKind.i64) Ty.str)) o8, Obj.arr (Ty.int IntKind.i64) o9], blk := 196608 } => some (t3, t4, t5, o0_1, o0_2, o0_3, o0_5, o1_1, o1_2, o3_0, o4_3, o4_5, o4_6, o5, o6, o7, o8, o9)
  | _ => none
theorem declogscan_scan_next_2_n0_ok (s : St) (x : Ilogscan_scan_next_2_n0) (h : declogscan_scan_next_2_n0 s = some x) : s = Slogscan_scan_next_2_n0 x := by
  unfold declogscan_scan_next_2_n0 at h
  split at h
  · cases h; rfl
  · cases h
def outlogscan_scan_next_2_n0 : Ilogscan_scan_next_2_n0 → (Ex → St → Ans) → Ylogscan_scan_next_2_n0 → Ans := fun (t3, t4, t5, o0_1, o0_2, o0_3, o0_5, o1_1, o1_2, o3_0, o4_3, o4_5, o4_6, o5, o6, o7, o8, o9) K => fun t46_y => K (Ex.norm) { env := [(0, AV.ptr 0 0), (3, AV.str t3), (5, AV.int IntKind.i64 t5), (46, AV.bool t46_y)], stk := [[(0, AV.ptr 0 0), (1, AV.ptr 1 0), (2, AV.ptr 2 0), (3, AV.ptr 3 0), (4, AV.ptr 4 0)]], H := [AE.Obj.cells [AV.ptr 1 0, AV.int IntKind.i64 o0_1, AV.int IntKind.i64 o0_2, AV.int IntKind.i64 o0_3, AV.fn (Fn.func 29) [] [AV.ptr 2 0, AV.ptr 3 0], AV.bool o0_5], AE.Obj.cells [AV.ptr 4 0, AV.int IntKind.i64 o1_1, AV.int IntKind.i64 o1_2], AE.Obj.cells [AV.own 5], AE.Obj.cells [AV.int IntKind.i64 o3_0], AE.Obj.cells [AV.own 6, AV.map 7, AV.own 8, AV.int IntKind.i64 o4_3, AV.own 9, AV.int IntKind.i64 o4_5, AV.bool o4_6], Obj.arr (Ty.st (Ty.pair (Ty.int IntKind.i64) (Ty.pair (Ty.int IntKind.i64) (Ty.list (Ty.st (Ty.pair (Ty.int IntKind.i64) Ty.str)))))) o5, Obj.arr Ty.str o6, Obj.mp IntKind.i64 Ty.str o7, Obj.arr (Ty.st (Ty.pair (Ty.int IntKind.i64) Ty.str)) o8, Obj.arr (Ty.int IntKind.i64) o9], blk := 196608 }
def nodelogscan_scan_next_2_n0 {β : Type} : Ilogscan_scan_next_2_n0 → (Ylogscan_scan_next_2_n0 → Option β) → Option β := fun (t3, t4, t5, o0_1, o0_2, o0_3, o0_5, o1_1, o1_2, o3_0, o4_3, o4_5, o4_6, o5, o6, o7, o8, o9) exit => (bif t4 != (0 : Int) then (exit (true)) else (bindO (fnDregion_Region_Many (o1_1, o1_2, o4_3, o4_5, o4_6, o6, o7, o8, o9)) fun _ => (exit (decide (t5 > IntKind.wrap IntKind.i64 (o1_2 - o0_3))))))
def nodeDlogscan_scan_next_2_n0 (i : Ilogscan_scan_next_2_n0) : Option Ylogscan_scan_next_2_n0 := nodelogscan_scan_next_2_n0 i some
theorem nodelogscan_scan_next_2_n0_nat (i : Ilogscan_scan_next_2_n0) (k : Ylogscan_scan_next_2_n0 → Ans) : nodelogscan_scan_next_2_n0 i k = bindO (nodeDlogscan_scan_next_2_n0 i) k := by
  obtain ⟨t3, t4, t5, o0_1, o0_2, o0_3, o0_5, o1_1, o1_2, o3_0, o4_3, o4_5, o4_6, o5, o6, o7, o8, o9⟩ := i
  simp only [nodeDlogscan_scan_next_2_n0, nodelogscan_scan_next_2_n0, bindO_cond, bindO_assoc, bindO_none, bindO_pure, bindO_elim, bindO_unP]
theorem nodelogscan_scan_next_2_n0_ok (i : Ilogscan_scan_next_2_n0) (K : Ex → St → Ans) : codeI Try.tab envlogscan_scan_next_2 noHint (codeD Try.tab envlogscan_scan_next_2 noHint 0 64) 70 141 annLlogscan_scan_next_2_n0 Llogscan_scan_next_2_n0 (weakP 10 (exk [0, 3, 5, 46] [2] []) K) (Slogscan_scan_next_2_n0 i) = nodelogscan_scan_next_2_n0 i (outlogscan_scan_next_2_n0 i K) := by kernel_rfl
theorem GNlogscan_scan_next_2_n0_ok : CSum Try.prog 141 Llogscan_scan_next_2_n0 (sumN declogscan_scan_next_2_n0 nodeDlogscan_scan_next_2_n0 outlogscan_scan_next_2_n0) := csum_node mixed tabOk envlogscan_scan_next_2Ok 10 (exk [0, 3, 5, 46] [2] []) annLlogscan_scan_next_2_n0_ok declogscan_scan_next_2_n0_ok nodelogscan_scan_next_2_n0_ok nodelogscan_scan_next_2_n0_nat
noncomputable def Glogscan_scan_next_2_n0 : (Ex → St → Ans) → St → Ans := (sumN declogscan_scan_next_2_n0 nodeDlogscan_scan_next_2_n0 outlogscan_scan_next_2_n0)
theorem Glogscan_scan_next_2_n0_ok : CSum Try.prog 141 Llogscan_scan_next_2_n0 Glogscan_scan_next_2_n0 := GNlogscan_scan_next_2_n0_ok
noncomputable def annlogscan_scan_next_2 : Ann := (.seq .none (.seq .none (.seq .none (.seq .none (.seq (.seq (.cut 10 [0, 3, 4, 5] Glogscan_scan_next_2_n0) .none) (.seq .none (.seq .none (.seq .none (.seq .none (.seq .none (.seq .none (.seq (.cut 10 [0, 9] Glogscan_scan_next_2_n1) .none))))))))))))
theorem annlogscan_scan_next_2_ok : AnnOk Try.prog 141 blogscan_scan_next_2 annlogscan_scan_next_2 := ⟨(annOk_none _ _ _), ⟨(annOk_none _ _ _), ⟨(annOk_none _ _ _), ⟨(annOk_none _ _ _), ⟨⟨Glogscan_scan_next_2_n0_ok, (annOk_none _ _ _)⟩, ⟨(annOk_none _ _ _), ⟨(annOk_none _ _ _), ⟨(annOk_none _ _ _), ⟨(annOk_none _ _ _), ⟨(annOk_none _ _ _), ⟨(annOk_none _ _ _), ⟨Glogscan_scan_next_2_n1_ok, (annOk_none _ _ _)⟩⟩⟩⟩⟩⟩⟩⟩⟩⟩⟩⟩
abbrev Alogscan_scan_next_2 := (Int) × (Int) × (Int) × (Bool) × (Int) × (Int) × (Int) × (Int) × (Int) × (Bool) × (List (Int × Int × List (Int × List UInt8))) × (List (List UInt8)) × (List (Int × List UInt8)) × (List (Int × List UInt8)) × (List Int)
abbrev Ylogscan_scan_next_2 := (Int) × (Int) × (Int) × (Int) × (Bool) × (Int) × (Bool) × (List (Int × Int × List (Int × List UInt8)))
def fnlogscan_scan_next_2 {β : Type} : Alogscan_scan_next_2 → (Ylogscan_scan_next_2 → Option β) → Option β := fun (o0_1, o0_2, o0_3, o0_5, o1_1, o1_2, o3_0, o4_3, o4_5, o4_6, o5, o6, o7, o8, o9) exit => (bindO (fnDlogscan_scan_read_2 (o0_1, (1 : Int), o0_1, o0_2, o0_3, o0_5, o1_1, o1_2, o3_0, o4_3, o4_5, o4_6, o5, o6, o7, o8, o9)) (unP fun r_0 => unP fun r_1 => unP fun o4_3_2 o4_6_2 => (bif r_1 != (0 : Int) then (exit (r_1, o0_1, o0_2, o0_3, o0_5, o4_3_2, o4_6_2, o5)) else (bindO (fnDlogrec_Size (r_0, o0_2)) (unP fun r_0_2 r_1_2 => (bindO (nodeDlogscan_scan_next_2_n0 (r_0, r_1_2, r_0_2, o0_1, o0_2, o0_3, o0_5, o1_1, o1_2, o3_0, o4_3_2, o4_5, o4_6_2, o5, o6, o7, o8, o9)) fun t46 => (bif t46 then (exit ((0 : Int), o0_1, o0_2, o0_3, true, o4_3_2, o4_6_2, o5)) else (bindO (fnDlogscan_scan_read_2 (IntKind.wrap IntKind.i64 (o0_1 + (1 : Int)), IntKind.wrap IntKind.i64 (r_0_2 - (1 : Int)), o0_1, o0_2, o0_3, o0_5, o1_1, o1_2, o3_0, o4_3_2, o4_5, o4_6_2, o5, o6, o7, o8, o9)) (unP fun r_0_3 => unP fun r_1_3 => unP fun o4_3_3 o4_6_3 => (bif r_1_3 != (0 : Int) then (exit (r_1_3, o0_1, o0_2, o0_3, o0_5, o4_3_3, o4_6_3, o5)) else (bif Nat.ble (List.length r_0 + List.length r_0_3) (9223372036854775807 : Nat) then (bindO (fnDlogrec_Get (r_0 ++ r_0_3)) (unP fun r_0_4 => unP fun r_2 o0 => (bif r_2 != (0 : Int) then (exit ((0 : Int), o0_1, o0_2, o0_3, true, o4_3_3, o4_6_3, o5)) else (bindO (fnDlogscan_wrap (IntKind.wrap IntKind.i64 (o0_1 + r_0_2), o1_1, o1_2, o4_3_3, o4_5, o4_6_3, o6, o7, o8, o9)) fun r => (bindO (nodeDlogscan_scan_next_2_n1 (r, IntKind.wrap IntKind.i64 (o0_2 + (1 : Int)), IntKind.wrap IntKind.i64 (o0_3 + r_0_2), o0_5, o1_1, o1_2, o3_0, o4_3_3, o4_5, o4_6_3, o5, o6, o7, o8, o9, o0_2, o0_1, o0)) (unP fun o0_5_2 o5_2 => (exit ((0 : Int), r, IntKind.wrap IntKind.i64 (o0_2 + (1 : Int)), IntKind.wrap IntKind.i64 (o0_3 + r_0_2), o0_5_2, o4_3_3, o4_6_3, o5_2)))))))) else none)))))))))))
def fnDlogscan_scan_next_2 (a : Alogscan_scan_next_2) : Option Ylogscan_scan_next_2 := fnlogscan_scan_next_2 a some
theorem fnlogscan_scan_next_2_nat (a : Alogscan_scan_next_2) (k : Ylogscan_scan_next_2 → Ans) : fnlogscan_scan_next_2 a k = bindO (fnDlogscan_scan_next_2 a) k := by
  obtain ⟨o0_1, o0_2, o0_3, o0_5, o1_1, o1_2, o3_0, o4_3, o4_5, o4_6, o5, o6, o7, o8, o9⟩ := a
  simp only [fnDlogscan_scan_next_2, fnlogscan_scan_next_2, bindO_cond, bindO_assoc, bindO_none, bindO_pure, bindO_elim, bindO_unP]
def argslogscan_scan_next_2 : Alogscan_scan_next_2 → List AV × List AE.Obj := fun (o0_1, o0_2, o0_3, o0_5, o1_1, o1_2, o3_0, o4_3, o4_5, o4_6, o5, o6, o7, o8, o9) => ([AV.ptr 0 0], [AE.Obj.cells [AV.ptr 1 0, AV.int IntKind.i64 o0_1, AV.int IntKind.i64 o0_2, AV.int IntKind.i64 o0_3, AV.fn (Fn.func 29) [] [AV.ptr 2 0, AV.ptr 3 0], AV.bool o0_5], AE.Obj.cells [AV.ptr 4 0, AV.int IntKind.i64 o1_1, AV.int IntKind.i64 o1_2], AE.Obj.cells [AV.own 5], AE.Obj.cells [AV.int IntKind.i64 o3_0], AE.Obj.cells [AV.own 6, AV.map 7, AV.own 8, AV.int IntKind.i64 o4_3, AV.own 9, AV.int IntKind.i64 o4_5, AV.bool o4_6], Obj.arr (Ty.st (Ty.pair (Ty.int IntKind.i64) (Ty.pair (Ty.int IntKind.i64) (Ty.list (Ty.st (Ty.pair (Ty.int IntKind.i64) Ty.str)))))) o5, Obj.arr Ty.str o6, Obj.mp IntKind.i64 Ty.str o7, Obj.arr (Ty.st (Ty.pair (Ty.int IntKind.i64) Ty.str)) o8, Obj.arr (Ty.int IntKind.i64) o9])
def decAlogscan_scan_next_2 (l : List AV) (H : List AE.Obj) : Option Alogscan_scan_next_2 := match l, H with
  | [AV.ptr 0 0], [AE.Obj.cells [AV.ptr 1 0, AV.int IntKind.i64 o0_1, AV.int IntKind.i64 o0_2, AV.int IntKind.i64 o0_3, AV.fn (Fn.func 29) [] [AV.ptr 2 0, AV.ptr 3 0], AV.bool o0_5], AE.Obj.cells [AV.ptr 4 0, AV.int IntKind.i64 o1_1, AV.int IntKind.i64 o1_2], AE.Obj.cells [AV.own 5], AE.Obj.cells [AV.int IntKind.i64 o3_0], AE.Obj.cells [AV.own 6, AV.map 7, AV.own 8, AV.int IntKind.i64 o4_3, AV.own 9, AV.int IntKind.i64 o4_5, AV.bool o4_6], Obj.arr (Ty.st (Ty.pair (Ty.int IntKind.i64) (Ty.pair (Ty.int IntKind.i64) (Ty.list (Ty.st (Ty.pair (Ty.int IntKind.i64) Ty.str)))))) o5, Obj.arr Ty.str o6, Obj.mp IntKind.i64 Ty.str o7, Obj.arr (Ty.st (Ty.pair (Ty.int IntKind.i64) Ty.str)) o8, Obj.arr (Ty.int IntKind.i64) o9] => some (o0_1, o0_2, o0_3, o0_5, o1_1, o1_2, o3_0, o4_3, o4_5, o4_6, o5, o6, o7, o8, o9)
  | _, _ => none
theorem decAlogscan_scan_next_2_ok (l : List AV) (H : List AE.Obj) (a : Alogscan_scan_next_2) (h : decAlogscan_scan_next_2 l H = some a) : (l, H) = argslogscan_scan_next_2 a := by
  unfold decAlogscan_scan_next_2 at h
  split at h
  · cases h; rfl
  · cases h
def outlogscan_scan_next_2 : Alogscan_scan_next_2 → (AV → List AE.Obj → Ans) → Ylogscan_scan_next_2 → Ans := fun (o0_1, o0_2, o0_3, o0_5, o1_1, o1_2, o3_0, o4_3, o4_5, o4_6, o5, o6, o7, o8, o9) K => unP fun r_y => unP fun o0_1_y => unP fun o0_2_y => unP fun o0_3_y => unP fun o0_5_y => unP fun o4_3_y => unP fun o4_6_y o5_y => K (AV.int IntKind.i64 r_y) [AE.Obj.cells [AV.ptr 1 0, AV.int IntKind.i64 o0_1_y, AV.int IntKind.i64 o0_2_y, AV.int IntKind.i64 o0_3_y, AV.fn (Fn.func 29) [] [AV.ptr 2 0, AV.ptr 3 0], AV.bool o0_5_y], AE.Obj.cells [AV.ptr 4 0, AV.int IntKind.i64 o1_1, AV.int IntKind.i64 o1_2], AE.Obj.cells [AV.own 5], AE.Obj.cells [AV.int IntKind.i64 o3_0], AE.Obj.cells [AV.own 6, AV.map 7, AV.own 8, AV.int IntKind.i64 o4_3_y, AV.own 9, AV.int IntKind.i64 o4_5, AV.bool o4_6_y], Obj.arr (Ty.st (Ty.pair (Ty.int IntKind.i64) (Ty.pair (Ty.int IntKind.i64) (Ty.list (Ty.st (Ty.pair (Ty.int IntKind.i64) Ty.str)))))) o5_y, Obj.arr Ty.str o6, Obj.mp IntKind.i64 Ty.str o7, Obj.arr (Ty.st (Ty.pair (Ty.int IntKind.i64) Ty.str)) o8, Obj.arr (Ty.int IntKind.i64) o9]
theorem fnlogscan_scan_next_2_ok (a : Alogscan_scan_next_2) (K : AV → List AE.Obj → Ans) : fnE Try.tab envlogscan_scan_next_2 noHint 0 70 48 Try.f48.ntmps Try.f48.results.toList annlogscan_scan_next_2 blogscan_scan_next_2 (argslogscan_scan_next_2 a).1 (argslogscan_scan_next_2 a).2 K = fnlogscan_scan_next_2 a (outlogscan_scan_next_2 a K) := by kernel_rfl
def vFlogscan_scan_next_2 (a : Alogscan_scan_next_2) (K : AV → List AE.Obj → Ans) : Ans := bindO (fnDlogscan_scan_next_2 a) fun y => outlogscan_scan_next_2 a K y
def Flogscan_scan_next_2 : List AV → List AE.Obj → (AV → List AE.Obj → Ans) → Ans := fun l H K => bindO (decAlogscan_scan_next_2 l H) fun a => vFlogscan_scan_next_2 a K
theorem Flogscan_scan_next_2_ok : FuncOk Try.prog 48 Flogscan_scan_next_2 := func_mkD (hint := noHint) (d := 0) (n := 70) mixed tabOk envlogscan_scan_next_2Ok Try.func48 (bodySome (by kernel_rfl)) (by decide +kernel) annlogscan_scan_next_2_ok decAlogscan_scan_next_2_ok fnlogscan_scan_next_2_ok fnlogscan_scan_next_2_nat
--@ logscan_scan_run_2
noncomputable def envlogscan_scan_run_2 : Env := [(17, .func Flogscan_there), (48, .func Flogscan_scan_next_2)]
theorem envlogscan_scan_run_2Ok : EnvOk Try.prog envlogscan_scan_run_2 := EnvOk.cons Flogscan_there_ok (EnvOk.cons Flogscan_scan_next_2_ok (EnvOk.nil))
noncomputable def blogscan_scan_run_2 : Code := Try.f35.body.getD .skip
noncomputable def Llogscan_scan_run_2_n0 : Code := codeAt [1, 1, 0, 0, 0] blogscan_scan_run_2
noncomputable def annLlogscan_scan_run_2_n0 : Ann := .at 10 [0] (.loop .none)
theorem annLlogscan_scan_run_2_n0_ok : AnnOk Try.prog 27 (.loop Llogscan_scan_run_2_n0) annLlogscan_scan_run_2_n0 := annOk_at (annOk_none _ _ _)
abbrev Ilogscan_scan_run_2_n0 := (Int) × (Int) × (Int) × (Int) × (List (List UInt8)) × (List (Int × List UInt8)) × (List (Int × List UInt8)) × (List Int)
abbrev Ylogscan_scan_run_2_n0 := ((Int) × (Int) × (Int) × (Int) × (Bool) × (Int) × (Bool) × (List (Int × Int × List (Int × List UInt8)))) ⊕ ((Int) × (Int) × (Int) × (Bool) × (Int) × (Bool) × (List (Int × Int × List (Int × List UInt8))))
abbrev Vlogscan_scan_run_2_n0 := (Int) × (Int) × (Int) × (Bool) × (Int) × (Bool) × (List (Int × Int × List (Int × List UInt8)))
def Slogscan_scan_run_2_n0 : Ilogscan_scan_run_2_n0 → Vlogscan_scan_run_2_n0 → St := fun (o1_1, o1_2, o3_0, o4_5, o6, o7, o8, o9) (o0_1, o0_2, o0_3, o0_5, o4_3, o4_6, o5) => { env := [(0, AV.ptr 0 0)], stk := [[(0, AV.ptr 0 0), (1, AV.ptr 1 0), (2, AV.ptr 2 0), (3, AV.ptr 3 0), (4, AV.ptr 4 0)]], H := [AE.Obj.cells [AV.ptr 1 0, AV.int IntKind.i64 o0_1, AV.int IntKind.i64 o0_2, AV.int IntKind.i64 o0_3, AV.fn (Fn.func 29) [] [AV.ptr 2 0, AV.ptr 3 0], AV.bool o0_5], AE.Obj.cells [AV.ptr 4 0, AV.int IntKind.i64 o1_1, AV.int IntKind.i64 o1_2], AE.Obj.cells [AV.own 5], AE.Obj.cells [AV.int IntKind.i64 o3_0], AE.Obj.cells [AV.own 6, AV.map 7, AV.own 8, AV.int IntKind.i64 o4_3, AV.own 9, AV.int IntKind.i64 o4_5, AV.bool o4_6], Obj.arr (Ty.st (Ty.pair (Ty.int IntKind.i64) (Ty.pair (Ty.int IntKind.i64) (Ty.list (Ty.st (Ty.pair (Ty.int IntKind.i64) Ty.str)))))) o5, Obj.arr Ty.str o6, Obj.mp IntKind.i64 Ty.str o7, Obj.arr (Ty.st (Ty.pair (Ty.int IntKind.i64) Ty.str)) o8, Obj.arr (Ty.int IntKind.i64) o9], blk := 143360 }
def declogscan_scan_run_2_n0 (s : St) : Option (Ilogscan_scan_run_2_n0 × Vlogscan_scan_run_2_n0) := match s with
  | { env := [(0, AV.ptr 0 0)], stk := [[(0, AV.ptr 0 0), (1, AV.ptr 1 0), (2, AV.ptr 2 0), (3, AV.ptr 3 0), (4, AV.ptr 4 0)]], H := [AE.Obj.cells [AV.ptr 1 0, AV.int IntKind.i64 o0_1, AV.int IntKind.i64 o0_2, AV.int IntKind.i64 o0_3, AV.fn (Fn.func 29) [] [AV.ptr 2 0, AV.ptr 3 0], AV.bool o0_5], AE.Obj.cells [AV.ptr 4 0, AV.int IntKind.i64 o1_1, AV.int IntKind.i64 o1_2], AE.Obj.cells [AV.own 5], AE.Obj.cells [AV.int IntKind.i64 o3_0], AE.Obj.cells [AV.own 6, AV.map 7, AV.own 8, AV.int IntKind.i64 o4_3, AV.own 9, AV.int IntKind.i64 o4_5, AV.bool o4_6], Obj.arr (Ty.st (Ty.pair (Ty.int IntKind.i64) (Ty.pair (Ty.int IntKind.i64) (Ty.list (Ty.st (Ty.pair (Ty.int IntKind.i64) Ty.str)))))) o5, Obj.arr Ty.str o6, Obj.mp IntKind.i64 Ty.str o7, Obj.arr (Ty.st (Ty.pair (Ty.int IntKind.i64) Ty.str)) o8, Obj.arr (Ty.int IntKind.i64) o9], blk := 143360 } => some ((o1_1, o1_2, o3_0, o4_5, o6, o7, o8, o9), (o0_1, o0_2, o0_3, o0_5, o4_3, o4_6, o5))
  | _ => none
theorem declogscan_scan_run_2_n0_ok (s : St) (x : Ilogscan_scan_run_2_n0 × Vlogscan_scan_run_2_n0) (h : declogscan_scan_run_2_n0 s = some x) : s = Slogscan_scan_run_2_n0 x.1 x.2 := by
  unfold declogscan_scan_run_2_n0 at h
  split at h
  · cases h; rfl
  · cases h
def outlogscan_scan_run_2_n0 : Ilogscan_scan_run_2_n0 → (Ex → St → Ans) → Ylogscan_scan_run_2_n0 → Ans := fun (o1_1, o1_2, o3_0, o4_5, o6, o7, o8, o9) K => (Sum.elim (unP fun t2_y => unP fun o0_1_y => unP fun o0_2_y => unP fun o0_3_y => unP fun o0_5_y => unP fun o4_3_y => unP fun o4_6_y o5_y => K (Ex.ret) { env := [(2, AV.int IntKind.i64 t2_y)], stk := [[(0, AV.ptr 0 0), (1, AV.ptr 1 0), (2, AV.ptr 2 0), (3, AV.ptr 3 0), (4, AV.ptr 4 0)]], H := [AE.Obj.cells [AV.ptr 1 0, AV.int IntKind.i64 o0_1_y, AV.int IntKind.i64 o0_2_y, AV.int IntKind.i64 o0_3_y, AV.fn (Fn.func 29) [] [AV.ptr 2 0, AV.ptr 3 0], AV.bool o0_5_y], AE.Obj.cells [AV.ptr 4 0, AV.int IntKind.i64 o1_1, AV.int IntKind.i64 o1_2], AE.Obj.cells [AV.own 5], AE.Obj.cells [AV.int IntKind.i64 o3_0], AE.Obj.cells [AV.own 6, AV.map 7, AV.own 8, AV.int IntKind.i64 o4_3_y, AV.own 9, AV.int IntKind.i64 o4_5, AV.bool o4_6_y], Obj.arr (Ty.st (Ty.pair (Ty.int IntKind.i64) (Ty.pair (Ty.int IntKind.i64) (Ty.list (Ty.st (Ty.pair (Ty.int IntKind.i64) Ty.str)))))) o5_y, Obj.arr Ty.str o6, Obj.mp IntKind.i64 Ty.str o7, Obj.arr (Ty.st (Ty.pair (Ty.int IntKind.i64) Ty.str)) o8, Obj.arr (Ty.int IntKind.i64) o9], blk := 143361 }) (unP fun o0_1_y => unP fun o0_2_y => unP fun o0_3_y => unP fun o0_5_y => unP fun o4_3_y => unP fun o4_6_y o5_y => K (Ex.exit 0) { env := [], stk := [[(0, AV.ptr 0 0), (1, AV.ptr 1 0), (2, AV.ptr 2 0), (3, AV.ptr 3 0), (4, AV.ptr 4 0)]], H := [AE.Obj.cells [AV.ptr 1 0, AV.int IntKind.i64 o0_1_y, AV.int IntKind.i64 o0_2_y, AV.int IntKind.i64 o0_3_y, AV.fn (Fn.func 29) [] [AV.ptr 2 0, AV.ptr 3 0], AV.bool o0_5_y], AE.Obj.cells [AV.ptr 4 0, AV.int IntKind.i64 o1_1, AV.int IntKind.i64 o1_2], AE.Obj.cells [AV.own 5], AE.Obj.cells [AV.int IntKind.i64 o3_0], AE.Obj.cells [AV.own 6, AV.map 7, AV.own 8, AV.int IntKind.i64 o4_3_y, AV.own 9, AV.int IntKind.i64 o4_5, AV.bool o4_6_y], Obj.arr (Ty.st (Ty.pair (Ty.int IntKind.i64) (Ty.pair (Ty.int IntKind.i64) (Ty.list (Ty.st (Ty.pair (Ty.int IntKind.i64) Ty.str)))))) o5_y, Obj.arr Ty.str o6, Obj.mp IntKind.i64 Ty.str o7, Obj.arr (Ty.st (Ty.pair (Ty.int IntKind.i64) Ty.str)) o8, Obj.arr (Ty.int IntKind.i64) o9], blk := 143360 }))
def steplogscan_scan_run_2_n0 {β : Type} : Ilogscan_scan_run_2_n0 → Vlogscan_scan_run_2_n0 → (Vlogscan_scan_run_2_n0 → Option β) → (Ylogscan_scan_run_2_n0 → Option β) → Option β := fun (o1_1, o1_2, o3_0, o4_5, o6, o7, o8, o9) (o0_1, o0_2, o0_3, o0_5, o4_3, o4_6, o5) next exit => (bif !o0_5 then (bindO (fnDlogscan_scan_next_2 (o0_1, o0_2, o0_3, o0_5, o1_1, o1_2, o3_0, o4_3, o4_5, o4_6, o5, o6, o7, o8, o9)) (unP fun r => unP fun o0_1_2 => unP fun o0_2_2 => unP fun o0_3_2 => unP fun o0_5_2 => unP fun o4_3_2 => unP fun o4_6_2 o5_2 => (bif r != (0 : Int) then (exit (Sum.inl (r, o0_1_2, o0_2_2, o0_3_2, o0_5_2, o4_3_2, o4_6_2, o5_2))) else (next (o0_1_2, o0_2_2, o0_3_2, o0_5_2, o4_3_2, o4_6_2, o5_2))))) else (exit (Sum.inr (o0_1, o0_2, o0_3, o0_5, o4_3, o4_6, o5))))
def stepDlogscan_scan_run_2_n0 (i : Ilogscan_scan_run_2_n0) (v : Vlogscan_scan_run_2_n0) : Option (Vlogscan_scan_run_2_n0 ⊕ Ylogscan_scan_run_2_n0) := steplogscan_scan_run_2_n0 i v (fun v => some (.inl v)) (fun y => some (.inr y))
theorem steplogscan_scan_run_2_n0_nat (i : Ilogscan_scan_run_2_n0) (v : Vlogscan_scan_run_2_n0) (next : Vlogscan_scan_run_2_n0 → Ans) (exit : Ylogscan_scan_run_2_n0 → Ans) : steplogscan_scan_run_2_n0 i v next exit = bindO (stepDlogscan_scan_run_2_n0 i v) (Sum.elim next exit) := by
  obtain ⟨o1_1, o1_2, o3_0, o4_5, o6, o7, o8, o9⟩ := i
  obtain ⟨o0_1, o0_2, o0_3, o0_5, o4_3, o4_6, o5⟩ := v
  simp only [stepDlogscan_scan_run_2_n0, steplogscan_scan_run_2_n0, bindO_cond, bindO_assoc, bindO_none, bindO_pure, bindO_elim, bindO_unP, Sum.elim_inl, Sum.elim_inr]
theorem steplogscan_scan_run_2_n0_ok (n : Nat) (i : Ilogscan_scan_run_2_n0) (v : Vlogscan_scan_run_2_n0) (K : Ex → St → Ans) : codeI Try.tab envlogscan_scan_run_2 noHint (codeD Try.tab envlogscan_scan_run_2 noHint 0 64) (n+1) 27 annLlogscan_scan_run_2_n0 (.loop Llogscan_scan_run_2_n0) (weakP 10 (exk [] [2] [(0, [])]) K) (Slogscan_scan_run_2_n0 i v) = steplogscan_scan_run_2_n0 i v (fun v' => codeI Try.tab envlogscan_scan_run_2 noHint (codeD Try.tab envlogscan_scan_run_2 noHint 0 64) n 27 annLlogscan_scan_run_2_n0 (.loop Llogscan_scan_run_2_n0) (weakP 10 (exk [] [2] [(0, [])]) K) (Slogscan_scan_run_2_n0 i v')) (fun y => outlogscan_scan_run_2_n0 i K y) := by kernel_rfl
theorem GNlogscan_scan_run_2_n0_ok : CSum Try.prog 27 (.loop Llogscan_scan_run_2_n0) (sumL declogscan_scan_run_2_n0 stepDlogscan_scan_run_2_n0 outlogscan_scan_run_2_n0) := csum_loop mixed tabOk envlogscan_scan_run_2Ok 10 (exk [] [2] [(0, [])]) annLlogscan_scan_run_2_n0_ok declogscan_scan_run_2_n0_ok steplogscan_scan_run_2_n0_ok steplogscan_scan_run_2_n0_nat
noncomputable def Glogscan_scan_run_2_n0 : (Ex → St → Ans) → St → Ans := (sumL declogscan_scan_run_2_n0 stepDlogscan_scan_run_2_n0 outlogscan_scan_run_2_n0)
theorem Glogscan_scan_run_2_n0_ok : CSum Try.prog 27 (.loop Llogscan_scan_run_2_n0) Glogscan_scan_run_2_n0 := GNlogscan_scan_run_2_n0_ok
noncomputable def annlogscan_scan_run_2 : Ann := (.seq .none (.seq .none (.seq (.block (.cut 10 [0] Glogscan_scan_run_2_n0)) .none)))
theorem annlogscan_scan_run_2_ok : AnnOk Try.prog 27 blogscan_scan_run_2 annlogscan_scan_run_2 := ⟨(annOk_none _ _ _), ⟨(annOk_none _ _ _), ⟨Glogscan_scan_run_2_n0_ok, (annOk_none _ _ _)⟩⟩⟩
abbrev Alogscan_scan_run_2 := (Int) × (Int) × (Int) × (Bool) × (Int) × (Int) × (Int) × (Int) × (Int) × (Bool) × (List (Int × Int × List (Int × List UInt8))) × (List (List UInt8)) × (List (Int × List UInt8)) × (List (Int × List UInt8)) × (List Int)
abbrev Ylogscan_scan_run_2 := (Int) × (Int) × (Int) × (Int) × (Bool) × (Int) × (Bool) × (List (Int × Int × List (Int × List UInt8)))
def fnlogscan_scan_run_2 {β : Type} : Alogscan_scan_run_2 → (Ylogscan_scan_run_2 → Option β) → Option β := fun (o0_1, o0_2, o0_3, o0_5, o1_1, o1_2, o3_0, o4_3, o4_5, o4_6, o5, o6, o7, o8, o9) exit => (bindO (fnDlogscan_there (o0_1, o1_1, o1_2, o4_3, o4_5, o4_6, o6, o7, o8, o9)) fun r => (bif r != (0 : Int) then (exit (r, o0_1, o0_2, o0_3, o0_5, o4_3, o4_6, o5)) else (bindO (loopD (stepDlogscan_scan_run_2_n0 (o1_1, o1_2, o3_0, o4_5, o6, o7, o8, o9)) FUEL (o0_1, o0_2, o0_3, o0_5, o4_3, o4_6, o5)) (Sum.elim (unP fun t2 => unP fun o0_1_2 => unP fun o0_2_2 => unP fun o0_3_2 => unP fun o0_5_2 => unP fun o4_3_2 => unP fun o4_6_2 o5_2 => (exit (t2, o0_1_2, o0_2_2, o0_3_2, o0_5_2, o4_3_2, o4_6_2, o5_2))) (unP fun o0_1_2 => unP fun o0_2_2 => unP fun o0_3_2 => unP fun o0_5_2 => unP fun o4_3_2 => unP fun o4_6_2 o5_2 => (exit ((0 : Int), o0_1_2, o0_2_2, o0_3_2, o0_5_2, o4_3_2, o4_6_2, o5_2)))))))
def fnDlogscan_scan_run_2 (a : Alogscan_scan_run_2) : Option Ylogscan_scan_run_2 := fnlogscan_scan_run_2 a some
theorem fnlogscan_scan_run_2_nat (a : Alogscan_scan_run_2) (k : Ylogscan_scan_run_2 → Ans) : fnlogscan_scan_run_2 a k = bindO (fnDlogscan_scan_run_2 a) k := by
  obtain ⟨o0_1, o0_2, o0_3, o0_5, o1_1, o1_2, o3_0, o4_3, o4_5, o4_6, o5, o6, o7, o8, o9⟩ := a
  simp only [fnDlogscan_scan_run_2, fnlogscan_scan_run_2, bindO_cond, bindO_assoc, bindO_none, bindO_pure, bindO_elim, bindO_unP]
def argslogscan_scan_run_2 : Alogscan_scan_run_2 → List AV × List AE.Obj := fun (o0_1, o0_2, o0_3, o0_5, o1_1, o1_2, o3_0, o4_3, o4_5, o4_6, o5, o6, o7, o8, o9) => ([AV.ptr 0 0], [AE.Obj.cells [AV.ptr 1 0, AV.int IntKind.i64 o0_1, AV.int IntKind.i64 o0_2, AV.int IntKind.i64 o0_3, AV.fn (Fn.func 29) [] [AV.ptr 2 0, AV.ptr 3 0], AV.bool o0_5], AE.Obj.cells [AV.ptr 4 0, AV.int IntKind.i64 o1_1, AV.int IntKind.i64 o1_2], AE.Obj.cells [AV.own 5], AE.Obj.cells [AV.int IntKind.i64 o3_0], AE.Obj.cells [AV.own 6, AV.map 7, AV.own 8, AV.int IntKind.i64 o4_3, AV.own 9, AV.int IntKind.i64 o4_5, AV.bool o4_6], Obj.arr (Ty.st (Ty.pair (Ty.int IntKind.i64) (Ty.pair (Ty.int IntKind.i64) (Ty.list (Ty.st (Ty.pair (Ty.int IntKind.i64) Ty.str)))))) o5, Obj.arr Ty.str o6, Obj.mp IntKind.i64 Ty.str o7, Obj.arr (Ty.st (Ty.pair (Ty.int IntKind.i64) Ty.str)) o8, Obj.arr (Ty.int IntKind.i64) o9])
def decAlogscan_scan_run_2 (l : List AV) (H : List AE.Obj) : Option Alogscan_scan_run_2 := match l, H with
  | [AV.ptr 0 0], [AE.Obj.cells [AV.ptr 1 0, AV.int IntKind.i64 o0_1, AV.int IntKind.i64 o0_2, AV.int IntKind.i64 o0_3, AV.fn (Fn.func 29) [] [AV.ptr 2 0, AV.ptr 3 0], AV.bool o0_5], AE.Obj.cells [AV.ptr 4 0, AV.int IntKind.i64 o1_1, AV.int IntKind.i64 o1_2], AE.Obj.cells [AV.own 5], AE.Obj.cells [AV.int IntKind.i64 o3_0], AE.Obj.cells [AV.own 6, AV.map 7, AV.own 8, AV.int IntKind.i64 o4_3, AV.own 9, AV.int IntKind.i64 o4_5, AV.bool o4_6], Obj.arr (Ty.st (Ty.pair (Ty.int IntKind.i64) (Ty.pair (Ty.int IntKind.i64) (Ty.list (Ty.st (Ty.pair (Ty.int IntKind.i64) Ty.str)))))) o5, Obj.arr Ty.str o6, Obj.mp IntKind.i64 Ty.str o7, Obj.arr (Ty.st (Ty.pair (Ty.int IntKind.i64) Ty.str)) o8, Obj.arr (Ty.int IntKind.i64) o9] => some (o0_1, o0_2, o0_3, o0_5, o1_1, o1_2, o3_0, o4_3, o4_5, o4_6, o5, o6, o7, o8, o9)
  | _, _ => none
theorem decAlogscan_scan_run_2_ok (l : List AV) (H : List AE.Obj) (a : Alogscan_scan_run_2) (h : decAlogscan_scan_run_2 l H = some a) : (l, H) = argslogscan_scan_run_2 a := by
  unfold decAlogscan_scan_run_2 at h
  split at h
  · cases h; rfl
  · cases h
def outlogscan_scan_run_2 : Alogscan_scan_run_2 → (AV → List AE.Obj → Ans) → Ylogscan_scan_run_2 → Ans := fun (o0_1, o0_2, o0_3, o0_5, o1_1, o1_2, o3_0, o4_3, o4_5, o4_6, o5, o6, o7, o8, o9) K => unP fun r_y => unP fun o0_1_y => unP fun o0_2_y => unP fun o0_3_y => unP fun o0_5_y => unP fun o4_3_y => unP fun o4_6_y o5_y => K (AV.int IntKind.i64 r_y) [AE.Obj.cells [AV.ptr 1 0, AV.int IntKind.i64 o0_1_y, AV.int IntKind.i64 o0_2_y, AV.int IntKind.i64 o0_3_y, AV.fn (Fn.func 29) [] [AV.ptr 2 0, AV.ptr 3 0], AV.bool o0_5_y], AE.Obj.cells [AV.ptr 4 0, AV.int IntKind.i64 o1_1, AV.int IntKind.i64 o1_2], AE.Obj.cells [AV.own 5], AE.Obj.cells [AV.int IntKind.i64 o3_0], AE.Obj.cells [AV.own 6, AV.map 7, AV.own 8, AV.int IntKind.i64 o4_3_y, AV.own 9, AV.int IntKind.i64 o4_5, AV.bool o4_6_y], Obj.arr (Ty.st (Ty.pair (Ty.int IntKind.i64) (Ty.pair (Ty.int IntKind.i64) (Ty.list (Ty.st (Ty.pair (Ty.int IntKind.i64) Ty.str)))))) o5_y, Obj.arr Ty.str o6, Obj.mp IntKind.i64 Ty.str o7, Obj.arr (Ty.st (Ty.pair (Ty.int IntKind.i64) Ty.str)) o8, Obj.arr (Ty.int IntKind.i64) o9]
theorem fnlogscan_scan_run_2_ok (a : Alogscan_scan_run_2) (K : AV → List AE.Obj → Ans) : fnE Try.tab envlogscan_scan_run_2 noHint 0 70 35 Try.f35.ntmps Try.f35.results.toList annlogscan_scan_run_2 blogscan_scan_run_2 (argslogscan_scan_run_2 a).1 (argslogscan_scan_run_2 a).2 K = fnlogscan_scan_run_2 a (outlogscan_scan_run_2 a K) := by kernel_rfl
def vFlogscan_scan_run_2 (a : Alogscan_scan_run_2) (K : AV → List AE.Obj → Ans) : Ans := bindO (fnDlogscan_scan_run_2 a) fun y => outlogscan_scan_run_2 a K y
def Flogscan_scan_run_2 : List AV → List AE.Obj → (AV → List AE.Obj → Ans) → Ans := fun l H K => bindO (decAlogscan_scan_run_2 l H) fun a => vFlogscan_scan_run_2 a K
theorem Flogscan_scan_run_2_ok : FuncOk Try.prog 35 Flogscan_scan_run_2 := func_mkD (hint := noHint) (d := 0) (n := 70) mixed tabOk envlogscan_scan_run_2Ok Try.func35 (bodySome (by kernel_rfl)) (by decide +kernel) annlogscan_scan_run_2_ok decAlogscan_scan_run_2_ok fnlogscan_scan_run_2_ok fnlogscan_scan_run_2_nat
--@ logscan_Each
noncomputable def envlogscan_Each : Env := [(35, .func Flogscan_scan_run_2)]
theorem envlogscan_EachOk : EnvOk Try.prog envlogscan_Each := EnvOk.cons Flogscan_scan_run_2_ok (EnvOk.nil)
noncomputable def blogscan_Each : Code := Try.f28.body.getD .skip
noncomputable def annlogscan_Each : Ann := .none
theorem annlogscan_Each_ok : AnnOk Try.prog 18 blogscan_Each annlogscan_Each := (annOk_none _ _ _)
abbrev Alogscan_Each := (Int) × (Int) × (Int) × (Int) × (Int) × (Int) × (Int) × (Bool) × (List (Int × Int × List (Int × List UInt8))) × (List (List UInt8)) × (List (Int × List UInt8)) × (List (Int × List UInt8)) × (List Int)
abbrev Ylogscan_Each := (Int) × (Int) × (Bool) × (List (Int × Int × List (Int × List UInt8)))
def fnlogscan_Each {β : Type} : Alogscan_Each → (Ylogscan_Each → Option β) → Option β := fun (a1, a2, o0_1, o0_2, o2_0, o3_3, o3_5, o3_6, o4, o5, o6, o7, o8) exit => (bindO (fnDlogscan_scan_run_2 (a1, a2, (0 : Int), false, o0_1, o0_2, o2_0, o3_3, o3_5, o3_6, o4, o5, o6, o7, o8)) (unP fun r => unP fun o0_1_2 => unP fun o0_2_2 => unP fun o0_3 => unP fun o0_5 => unP fun o4_3 => unP fun o4_6 o5_2 => (exit (r, o4_3, o4_6, o5_2))))
def fnDlogscan_Each (a : Alogscan_Each) : Option Ylogscan_Each := fnlogscan_Each a some
theorem fnlogscan_Each_nat (a : Alogscan_Each) (k : Ylogscan_Each → Ans) : fnlogscan_Each a k = bindO (fnDlogscan_Each a) k := by
  obtain ⟨a1, a2, o0_1, o0_2, o2_0, o3_3, o3_5, o3_6, o4, o5, o6, o7, o8⟩ := a
  simp only [fnDlogscan_Each, fnlogscan_Each, bindO_cond, bindO_assoc, bindO_none, bindO_pure, bindO_elim, bindO_unP]
def argslogscan_Each : Alogscan_Each → List AV × List AE.Obj := fun (a1, a2, o0_1, o0_2, o2_0, o3_3, o3_5, o3_6, o4, o5, o6, o7, o8) => ([AV.ptr 0 0, AV.int IntKind.i64 a1, AV.int IntKind.i64 a2, AV.fn (Fn.func 29) [] [AV.ptr 1 0, AV.ptr 2 0]], [AE.Obj.cells [AV.ptr 3 0, AV.int IntKind.i64 o0_1, AV.int IntKind.i64 o0_2], AE.Obj.cells [AV.own 4], AE.Obj.cells [AV.int IntKind.i64 o2_0], AE.Obj.cells [AV.own 5, AV.map 6, AV.own 7, AV.int IntKind.i64 o3_3, AV.own 8, AV.int IntKind.i64 o3_5, AV.bool o3_6], Obj.arr (Ty.st (Ty.pair (Ty.int IntKind.i64) (Ty.pair (Ty.int IntKind.i64) (Ty.list (Ty.st (Ty.pair (Ty.int IntKind.i64) Ty.str)))))) o4, Obj.arr Ty.str o5, Obj.mp IntKind.i64 Ty.str o6, Obj.arr (Ty.st (Ty.pair (Ty.int IntKind.i64) Ty.str)) o7, Obj.arr (Ty.int IntKind.i64) o8])
def decAlogscan_Each (l : List AV) (H : List AE.Obj) : Option Alogscan_Each := match l, H with
  | [AV.ptr 0 0, AV.int IntKind.i64 a1, AV.int IntKind.i64 a2, AV.fn (Fn.func 29) [] [AV.ptr 1 0, AV.ptr 2 0]], [AE.Obj.cells [AV.ptr 3 0, AV.int IntKind.i64 o0_1, AV.int IntKind.i64 o0_2], AE.Obj.cells [AV.own 4], AE.Obj.cells [AV.int IntKind.i64 o2_0], AE.Obj.cells [AV.own 5, AV.map 6, AV.own 7, AV.int IntKind.i64 o3_3, AV.own 8, AV.int IntKind.i64 o3_5, AV.bool o3_6], Obj.arr (Ty.st (Ty.pair (Ty.int IntKind.i64) (Ty.pair (Ty.int IntKind.i64) (Ty.list (Ty.st (Ty.pair (Ty.int IntKind.i64) Ty.str)))))) o4, Obj.arr Ty.str o5, Obj.mp IntKind.i64 Ty.str o6, Obj.arr (Ty.st (Ty.pair (Ty.int IntKind.i64) Ty.str)) o7, Obj.arr (Ty.int IntKind.i64) o8] => some (a1, a2, o0_1, o0_2, o2_0, o3_3, o3_5, o3_6, o4, o5, o6, o7, o8)
  | _, _ => none
theorem decAlogscan_Each_ok (l : List AV) (H : List AE.Obj) (a : Alogscan_Each) (h : decAlogscan_Each l H = some a) : (l, H) = argslogscan_Each a := by
  unfold decAlogscan_Each at h
  split at h
  · cases h; rfl
  · cases h
def outlogscan_Each : Alogscan_Each → (AV → List AE.Obj → Ans) → Ylogscan_Each → Ans := fun (a1, a2, o0_1, o0_2, o2_0, o3_3, o3_5, o3_6, o4, o5, o6, o7, o8) K => unP fun r_y => unP fun o3_3_y => unP fun o3_6_y o4_y => K (AV.int IntKind.i64 r_y) [AE.Obj.cells [AV.ptr 3 0, AV.int IntKind.i64 o0_1, AV.int IntKind.i64 o0_2], AE.Obj.cells [AV.own 4], AE.Obj.cells [AV.int IntKind.i64 o2_0], AE.Obj.cells [AV.own 5, AV.map 6, AV.own 7, AV.int IntKind.i64 o3_3_y, AV.own 8, AV.int IntKind.i64 o3_5, AV.bool o3_6_y], Obj.arr (Ty.st (Ty.pair (Ty.int IntKind.i64) (Ty.pair (Ty.int IntKind.i64) (Ty.list (Ty.st (Ty.pair (Ty.int IntKind.i64) Ty.str)))))) o4_y, Obj.arr Ty.str o5, Obj.mp IntKind.i64 Ty.str o6, Obj.arr (Ty.st (Ty.pair (Ty.int IntKind.i64) Ty.str)) o7, Obj.arr (Ty.int IntKind.i64) o8]
theorem fnlogscan_Each_ok (a : Alogscan_Each) (K : AV → List AE.Obj → Ans) : fnE Try.tab envlogscan_Each noHint 0 70 28 Try.f28.ntmps Try.f28.results.toList annlogscan_Each blogscan_Each (argslogscan_Each a).1 (argslogscan_Each a).2 K = fnlogscan_Each a (outlogscan_Each a K) := by kernel_rfl
def vFlogscan_Each (a : Alogscan_Each) (K : AV → List AE.Obj → Ans) : Ans := bindO (fnDlogscan_Each a) fun y => outlogscan_Each a K y
def Flogscan_Each : List AV → List AE.Obj → (AV → List AE.Obj → Ans) → Ans := fun l H K => bindO (decAlogscan_Each l H) fun a => vFlogscan_Each a K
theorem Flogscan_Each_ok : FuncOk Try.prog 28 Flogscan_Each := func_mkD (hint := noHint) (d := 0) (n := 70) mixed tabOk envlogscan_EachOk Try.func28 (bodySome (by kernel_rfl)) (by decide +kernel) annlogscan_Each_ok decAlogscan_Each_ok fnlogscan_Each_ok fnlogscan_Each_nat
--@ law12_told
noncomputable def envlaw12_told : Env := [(28, .func Flogscan_Each)]
theorem envlaw12_toldOk : EnvOk Try.prog envlaw12_told := EnvOk.cons Flogscan_Each_ok (EnvOk.nil)
noncomputable def blaw12_told : Code := Try.f10.body.getD .skip
noncomputable def annlaw12_told : Ann := .none
theorem annlaw12_told_ok : AnnOk Try.prog 19 blaw12_told annlaw12_told := (annOk_none _ _ _)
abbrev Alaw12_told := (Int) × (Int) × (Int) × (Int) × (Int) × (Int) × (Int) × (Bool) × (List (List UInt8)) × (List (Int × List UInt8)) × (List (Int × List UInt8)) × (List Int)
abbrev Ylaw12_told := (Int) × (Int) × (Bool) × (List (Int × Int × List (Int × List UInt8)))
def fnlaw12_told {β : Type} : Alaw12_told → (Ylaw12_told → Option β) → Option β := fun (a1, a2, a3, o0_1, o0_2, o1_3, o1_5, o1_6, o2, o3, o4, o5) exit => (bindO (fnDlogscan_Each (a1, a2, o0_1, o0_2, a3, o1_3, o1_5, o1_6, [], o2, o3, o4, o5)) (unP fun r => unP fun o3_3 => unP fun o3_6 o4_2 => (exit (r, o3_3, o3_6, o4_2))))
def fnDlaw12_told (a : Alaw12_told) : Option Ylaw12_told := fnlaw12_told a some
theorem fnlaw12_told_nat (a : Alaw12_told) (k : Ylaw12_told → Ans) : fnlaw12_told a k = bindO (fnDlaw12_told a) k := by
  obtain ⟨a1, a2, a3, o0_1, o0_2, o1_3, o1_5, o1_6, o2, o3, o4, o5⟩ := a
  simp only [fnDlaw12_told, fnlaw12_told, bindO_cond, bindO_assoc, bindO_none, bindO_pure, bindO_elim, bindO_unP]
def argslaw12_told : Alaw12_told → List AV × List AE.Obj := fun (a1, a2, a3, o0_1, o0_2, o1_3, o1_5, o1_6, o2, o3, o4, o5) => ([AV.ptr 0 0, AV.int IntKind.i64 a1, AV.int IntKind.i64 a2, AV.int IntKind.i64 a3], [AE.Obj.cells [AV.ptr 1 0, AV.int IntKind.i64 o0_1, AV.int IntKind.i64 o0_2], AE.Obj.cells [AV.own 2, AV.map 3, AV.own 4, AV.int IntKind.i64 o1_3, AV.own 5, AV.int IntKind.i64 o1_5, AV.bool o1_6], Obj.arr Ty.str o2, Obj.mp IntKind.i64 Ty.str o3, Obj.arr (Ty.st (Ty.pair (Ty.int IntKind.i64) Ty.str)) o4, Obj.arr (Ty.int IntKind.i64) o5])
def decAlaw12_told (l : List AV) (H : List AE.Obj) : Option Alaw12_told := match l, H with
  | [AV.ptr 0 0, AV.int IntKind.i64 a1, AV.int IntKind.i64 a2, AV.int IntKind.i64 a3], [AE.Obj.cells [AV.ptr 1 0, AV.int IntKind.i64 o0_1, AV.int IntKind.i64 o0_2], AE.Obj.cells [AV.own 2, AV.map 3, AV.own 4, AV.int IntKind.i64 o1_3, AV.own 5, AV.int IntKind.i64 o1_5, AV.bool o1_6], Obj.arr Ty.str o2, Obj.mp IntKind.i64 Ty.str o3, Obj.arr (Ty.st (Ty.pair (Ty.int IntKind.i64) Ty.str)) o4, Obj.arr (Ty.int IntKind.i64) o5] => some (a1, a2, a3, o0_1, o0_2, o1_3, o1_5, o1_6, o2, o3, o4, o5)
  | _, _ => none
theorem decAlaw12_told_ok (l : List AV) (H : List AE.Obj) (a : Alaw12_told) (h : decAlaw12_told l H = some a) : (l, H) = argslaw12_told a := by
  unfold decAlaw12_told at h
  split at h
  · cases h; rfl
  · cases h
def outlaw12_told : Alaw12_told → (AV → List AE.Obj → Ans) → Ylaw12_told → Ans := fun (a1, a2, a3, o0_1, o0_2, o1_3, o1_5, o1_6, o2, o3, o4, o5) K => unP fun r_1_y => unP fun o1_3_y => unP fun o1_6_y o6_y => K (AV.tup [AV.own 6, AV.int IntKind.i64 r_1_y]) [AE.Obj.cells [AV.ptr 1 0, AV.int IntKind.i64 o0_1, AV.int IntKind.i64 o0_2], AE.Obj.cells [AV.own 2, AV.map 3, AV.own 4, AV.int IntKind.i64 o1_3_y, AV.own 5, AV.int IntKind.i64 o1_5, AV.bool o1_6_y], Obj.arr Ty.str o2, Obj.mp IntKind.i64 Ty.str o3, Obj.arr (Ty.st (Ty.pair (Ty.int IntKind.i64) Ty.str)) o4, Obj.arr (Ty.int IntKind.i64) o5, Obj.arr (Ty.st (Ty.pair (Ty.int IntKind.i64) (Ty.pair (Ty.int IntKind.i64) (Ty.list (Ty.st (Ty.pair (Ty.int IntKind.i64) Ty.str)))))) o6_y]
theorem fnlaw12_told_ok (a : Alaw12_told) (K : AV → List AE.Obj → Ans) : fnE Try.tab envlaw12_told noHint 0 70 10 Try.f10.ntmps Try.f10.results.toList annlaw12_told blaw12_told (argslaw12_told a).1 (argslaw12_told a).2 K = fnlaw12_told a (outlaw12_told a K) := by kernel_rfl
def vFlaw12_told (a : Alaw12_told) (K : AV → List AE.Obj → Ans) : Ans := bindO (fnDlaw12_told a) fun y => outlaw12_told a K y
def Flaw12_told : List AV → List AE.Obj → (AV → List AE.Obj → Ans) → Ans := fun l H K => bindO (decAlaw12_told l H) fun a => vFlaw12_told a K
theorem Flaw12_told_ok : FuncOk Try.prog 10 Flaw12_told := func_mkD (hint := noHint) (d := 0) (n := 70) mixed tabOk envlaw12_toldOk Try.func10 (bodySome (by kernel_rfl)) (by decide +kernel) annlaw12_told_ok decAlaw12_told_ok fnlaw12_told_ok fnlaw12_told_nat
--@ law09_Sectors
noncomputable def envlaw09_Sectors : Env := []
theorem envlaw09_SectorsOk : EnvOk Try.prog envlaw09_Sectors := EnvOk.nil
noncomputable def blaw09_Sectors : Code := Try.f11.body.getD .skip
noncomputable def Llaw09_Sectors_n1 : Code := codeAt [1, 1, 0, 1, 0, 0, 0, 0] blaw09_Sectors
noncomputable def annLlaw09_Sectors_n1 : Ann := .none
theorem annLlaw09_Sectors_n1_ok : AnnOk Try.prog 32 Llaw09_Sectors_n1 annLlaw09_Sectors_n1 := (annOk_none _ _ _)
abbrev Ilaw09_Sectors_n1 := (List (Int × List UInt8)) × (List (Int × List UInt8)) × (Int)
abbrev Ylaw09_Sectors_n1 := (Bool)
def Slaw09_Sectors_n1 : Ilaw09_Sectors_n1 → St := fun (t0, t1, t5) => { env := [(0, AV.ro (Ty.st (Ty.pair (Ty.int IntKind.i64) Ty.str)) t0), (1, AV.ro (Ty.st (Ty.pair (Ty.int IntKind.i64) Ty.str)) t1), (5, AV.int IntKind.i64 t5)], stk := [[]], H := [], blk := 45056 }
def declaw09_Sectors_n1 (s : St) : Option Ilaw09_Sectors_n1 := match s with
  | { env := [(0, AV.ro (Ty.st (Ty.pair (Ty.int IntKind.i64) Ty.str)) t0), (1, AV.ro (Ty.st (Ty.pair (Ty.int IntKind.i64) Ty.str)) t1), (5, AV.int IntKind.i64 t5)], stk := [[]], H := [], blk := 45056 } => some (t0, t1, t5)
  | _ => none
theorem declaw09_Sectors_n1_ok (s : St) (x : Ilaw09_Sectors_n1) (h : declaw09_Sectors_n1 s = some x) : s = Slaw09_Sectors_n1 x := by
  unfold declaw09_Sectors_n1 at h
  split at h
  · cases h; rfl
  · cases h
def outlaw09_Sectors_n1 : Ilaw09_Sectors_n1 → (Ex → St → Ans) → Ylaw09_Sectors_n1 → Ans := fun (t0, t1, t5) K => fun t20_y => K (Ex.norm) { env := [(0, AV.ro (Ty.st (Ty.pair (Ty.int IntKind.i64) Ty.str)) t0), (1, AV.ro (Ty.st (Ty.pair (Ty.int IntKind.i64) Ty.str)) t1), (5, AV.int IntKind.i64 t5), (20, AV.bool t20_y)], stk := [[]], H := [], blk := 45056 }
def nodelaw09_Sectors_n1 {β : Type} : Ilaw09_Sectors_n1 → (Ylaw09_Sectors_n1 → Option β) → Option β := fun (t0, t1, t5) exit => (bif decide (t5 < (↑(List.length t0) : Int)) then (exit (decide (t5 < (↑(List.length t1) : Int)))) else (exit (false)))
def nodeDlaw09_Sectors_n1 (i : Ilaw09_Sectors_n1) : Option Ylaw09_Sectors_n1 := nodelaw09_Sectors_n1 i some
theorem nodelaw09_Sectors_n1_nat (i : Ilaw09_Sectors_n1) (k : Ylaw09_Sectors_n1 → Ans) : nodelaw09_Sectors_n1 i k = bindO (nodeDlaw09_Sectors_n1 i) k := by
  obtain ⟨t0, t1, t5⟩ := i
  simp only [nodeDlaw09_Sectors_n1, nodelaw09_Sectors_n1, bindO_cond, bindO_assoc, bindO_none, bindO_pure, bindO_elim, bindO_unP]
theorem nodelaw09_Sectors_n1_ok (i : Ilaw09_Sectors_n1) (K : Ex → St → Ans) : codeI Try.tab envlaw09_Sectors noHint (codeD Try.tab envlaw09_Sectors noHint 0 64) 70 32 annLlaw09_Sectors_n1 Llaw09_Sectors_n1 (weakP 0 (exk [0, 1, 5, 20] [4] []) K) (Slaw09_Sectors_n1 i) = nodelaw09_Sectors_n1 i (outlaw09_Sectors_n1 i K) := by kernel_rfl
theorem GNlaw09_Sectors_n1_ok : CSum Try.prog 32 Llaw09_Sectors_n1 (sumN declaw09_Sectors_n1 nodeDlaw09_Sectors_n1 outlaw09_Sectors_n1) := csum_node mixed tabOk envlaw09_SectorsOk 0 (exk [0, 1, 5, 20] [4] []) annLlaw09_Sectors_n1_ok declaw09_Sectors_n1_ok nodelaw09_Sectors_n1_ok nodelaw09_Sectors_n1_nat
noncomputable def Glaw09_Sectors_n1 : (Ex → St → Ans) → St → Ans := (sumN declaw09_Sectors_n1 nodeDlaw09_Sectors_n1 outlaw09_Sectors_n1)
theorem Glaw09_Sectors_n1_ok : CSum Try.prog 32 Llaw09_Sectors_n1 Glaw09_Sectors_n1 := GNlaw09_Sectors_n1_ok
noncomputable def Llaw09_Sectors_n0 : Code := codeAt [1, 1, 0, 1, 0, 0] blaw09_Sectors
noncomputable def annLlaw09_Sectors_n0 : Ann := .at 0 [0, 1, 5] (.loop (.seq (.seq (.cut 0 [0, 1, 5] Glaw09_Sectors_n1) .none) .none))
theorem annLlaw09_Sectors_n0_ok : AnnOk Try.prog 32 (.loop Llaw09_Sectors_n0) annLlaw09_Sectors_n0 := annOk_at ⟨⟨Glaw09_Sectors_n1_ok, (annOk_none _ _ _)⟩, (annOk_none _ _ _)⟩
abbrev Ilaw09_Sectors_n0 := (List (Int × List UInt8)) × (List (Int × List UInt8))
abbrev Ylaw09_Sectors_n0 := (Unit) ⊕ (Unit)
abbrev Vlaw09_Sectors_n0 := (Int)
def Slaw09_Sectors_n0 : Ilaw09_Sectors_n0 → Vlaw09_Sectors_n0 → St := fun (t0, t1) t5 => { env := [(0, AV.ro (Ty.st (Ty.pair (Ty.int IntKind.i64) Ty.str)) t0), (1, AV.ro (Ty.st (Ty.pair (Ty.int IntKind.i64) Ty.str)) t1), (5, AV.int IntKind.i64 t5)], stk := [[]], H := [], blk := 45056 }
def declaw09_Sectors_n0 (s : St) : Option (Ilaw09_Sectors_n0 × Vlaw09_Sectors_n0) := match s with
  | { env := [(0, AV.ro (Ty.st (Ty.pair (Ty.int IntKind.i64) Ty.str)) t0), (1, AV.ro (Ty.st (Ty.pair (Ty.int IntKind.i64) Ty.str)) t1), (5, AV.int IntKind.i64 t5)], stk := [[]], H := [], blk := 45056 } => some ((t0, t1), t5)
  | _ => none
theorem declaw09_Sectors_n0_ok (s : St) (x : Ilaw09_Sectors_n0 × Vlaw09_Sectors_n0) (h : declaw09_Sectors_n0 s = some x) : s = Slaw09_Sectors_n0 x.1 x.2 := by
  unfold declaw09_Sectors_n0 at h
  split at h
  · cases h; rfl
  · cases h
def outlaw09_Sectors_n0 : Ilaw09_Sectors_n0 → (Ex → St → Ans) → Ylaw09_Sectors_n0 → Ans := fun (t0, t1) K => (Sum.elim (fun _ => K (Ex.ret) { env := [(4, AV.bool (false))], stk := [[]], H := [], blk := 45057 }) (fun _ => K (Ex.exit 0) { env := [], stk := [[]], H := [], blk := 45056 }))
def steplaw09_Sectors_n0 {β : Type} : Ilaw09_Sectors_n0 → Vlaw09_Sectors_n0 → (Vlaw09_Sectors_n0 → Option β) → (Ylaw09_Sectors_n0 → Option β) → Option β := fun (t0, t1) t5 next exit => (bindO (nodeDlaw09_Sectors_n1 (t0, t1, t5)) fun t20 => (bif t20 then (bindO (nth t0 t5) fun x => (bindO (nth t1 t5) fun x_2 => (bif !(x.fst == x_2.fst && (x.snd == x_2.snd && true)) then (exit (Sum.inl ())) else (next (IntKind.wrap IntKind.i64 (t5 + (1 : Int))))))) else (exit (Sum.inr ()))))
def stepDlaw09_Sectors_n0 (i : Ilaw09_Sectors_n0) (v : Vlaw09_Sectors_n0) : Option (Vlaw09_Sectors_n0 ⊕ Ylaw09_Sectors_n0) := steplaw09_Sectors_n0 i v (fun v => some (.inl v)) (fun y => some (.inr y))
theorem steplaw09_Sectors_n0_nat (i : Ilaw09_Sectors_n0) (v : Vlaw09_Sectors_n0) (next : Vlaw09_Sectors_n0 → Ans) (exit : Ylaw09_Sectors_n0 → Ans) : steplaw09_Sectors_n0 i v next exit = bindO (stepDlaw09_Sectors_n0 i v) (Sum.elim next exit) := by
  obtain ⟨t0, t1⟩ := i
  obtain z := v
  simp only [stepDlaw09_Sectors_n0, steplaw09_Sectors_n0, bindO_cond, bindO_assoc, bindO_none, bindO_pure, bindO_elim, bindO_unP, Sum.elim_inl, Sum.elim_inr]
theorem steplaw09_Sectors_n0_ok (n : Nat) (i : Ilaw09_Sectors_n0) (v : Vlaw09_Sectors_n0) (K : Ex → St → Ans) : codeI Try.tab envlaw09_Sectors noHint (codeD Try.tab envlaw09_Sectors noHint 0 64) (n+1) 32 annLlaw09_Sectors_n0 (.loop Llaw09_Sectors_n0) (weakP 0 (exk [] [4] [(0, [])]) K) (Slaw09_Sectors_n0 i v) = steplaw09_Sectors_n0 i v (fun v' => codeI Try.tab envlaw09_Sectors noHint (codeD Try.tab envlaw09_Sectors noHint 0 64) n 32 annLlaw09_Sectors_n0 (.loop Llaw09_Sectors_n0) (weakP 0 (exk [] [4] [(0, [])]) K) (Slaw09_Sectors_n0 i v')) (fun y => outlaw09_Sectors_n0 i K y) := by kernel_rfl
theorem GNlaw09_Sectors_n0_ok : CSum Try.prog 32 (.loop Llaw09_Sectors_n0) (sumL declaw09_Sectors_n0 stepDlaw09_Sectors_n0 outlaw09_Sectors_n0) := csum_loop mixed tabOk envlaw09_SectorsOk 0 (exk [] [4] [(0, [])]) annLlaw09_Sectors_n0_ok declaw09_Sectors_n0_ok steplaw09_Sectors_n0_ok steplaw09_Sectors_n0_nat
noncomputable def Glaw09_Sectors_n0 : (Ex → St → Ans) → St → Ans := (sumL declaw09_Sectors_n0 stepDlaw09_Sectors_n0 outlaw09_Sectors_n0)
theorem Glaw09_Sectors_n0_ok : CSum Try.prog 32 (.loop Llaw09_Sectors_n0) Glaw09_Sectors_n0 := GNlaw09_Sectors_n0_ok
noncomputable def annlaw09_Sectors : Ann := (.seq .none (.seq .none (.seq (.seq .none (.block (.cut 0 [0, 1, 5] Glaw09_Sectors_n0))) .none)))
theorem annlaw09_Sectors_ok : AnnOk Try.prog 32 blaw09_Sectors annlaw09_Sectors := ⟨(annOk_none _ _ _), ⟨(annOk_none _ _ _), ⟨⟨(annOk_none _ _ _), Glaw09_Sectors_n0_ok⟩, (annOk_none _ _ _)⟩⟩⟩
abbrev Alaw09_Sectors := (List (Int × List UInt8)) × (List (Int × List UInt8))
abbrev Ylaw09_Sectors := (Bool)
def fnlaw09_Sectors {β : Type} : Alaw09_Sectors → (Ylaw09_Sectors → Option β) → Option β := fun (a0, a1) exit => (bif (↑(List.length a0) : Int) != (↑(List.length a1) : Int) then (exit (false)) else (bindO (loopD (stepDlaw09_Sectors_n0 (a0, a1)) FUEL ((0 : Int))) (Sum.elim (fun _ => (exit (false))) (fun _ => (exit (true))))))
def fnDlaw09_Sectors (a : Alaw09_Sectors) : Option Ylaw09_Sectors := fnlaw09_Sectors a some
theorem fnlaw09_Sectors_nat (a : Alaw09_Sectors) (k : Ylaw09_Sectors → Ans) : fnlaw09_Sectors a k = bindO (fnDlaw09_Sectors a) k := by
  obtain ⟨a0, a1⟩ := a
  simp only [fnDlaw09_Sectors, fnlaw09_Sectors, bindO_cond, bindO_assoc, bindO_none, bindO_pure, bindO_elim, bindO_unP]
def argslaw09_Sectors : Alaw09_Sectors → List AV := fun (a0, a1) => [AV.ro (Ty.st (Ty.pair (Ty.int IntKind.i64) Ty.str)) a0, AV.ro (Ty.st (Ty.pair (Ty.int IntKind.i64) Ty.str)) a1]
def decAlaw09_Sectors (l : List AV) : Option Alaw09_Sectors := match l with
  | [AV.ro (Ty.st (Ty.pair (Ty.int IntKind.i64) Ty.str)) a0, AV.ro (Ty.st (Ty.pair (Ty.int IntKind.i64) Ty.str)) a1] => some (a0, a1)
  | _ => none
theorem decAlaw09_Sectors_ok (l : List AV) (a : Alaw09_Sectors) (h : decAlaw09_Sectors l = some a) : l = argslaw09_Sectors a := by
  unfold decAlaw09_Sectors at h
  split at h
  · cases h; rfl
  · cases h
def rendlaw09_Sectors : Alaw09_Sectors → Ylaw09_Sectors → AV := fun (a0, a1) => fun r_y => AV.bool r_y
theorem rendlaw09_Sectors_ok : ∀ (a : Alaw09_Sectors) (y : Ylaw09_Sectors), (rendlaw09_Sectors a y).closed1 = true := by
  rintro ⟨a0, a1⟩ y <;> first | rfl | exact Empty.elim y
theorem fnlaw09_Sectors_ok (a : Alaw09_Sectors) : fnE Try.tab envlaw09_Sectors noHint 0 70 11 Try.f11.ntmps Try.f11.results.toList annlaw09_Sectors blaw09_Sectors (argslaw09_Sectors a) [] (fun v _ => some (v, [])) = fnlaw09_Sectors a (fun y => some (rendlaw09_Sectors a y, [])) := by kernel_rfl
def vFlaw09_Sectors (a : Alaw09_Sectors) (K : AV → Ans) : Ans := bindO (fnDlaw09_Sectors a) fun y => K (rendlaw09_Sectors a y)
def Flaw09_Sectors : List AV → (AV → Ans) → Ans := fun l K => bindO (decAlaw09_Sectors l) fun a => vFlaw09_Sectors a K
theorem Flaw09_Sectors_ok : PureOk Try.prog 11 Flaw09_Sectors := pure_mkD (hint := noHint) (d := 0) (n := 70) mixed tabOk envlaw09_SectorsOk Try.func11 (bodySome (by kernel_rfl)) (by decide +kernel) annlaw09_Sectors_ok decAlaw09_Sectors_ok fnlaw09_Sectors_ok fnlaw09_Sectors_nat rendlaw09_Sectors_ok
end Go.Proofs.R4
namespace Go.Proofs.R4
open Go Go.AE
--@ law12_LogscanOrder
noncomputable def envlaw12_LogscanOrder : Env := [(9, .pure Flogrec_Put), (7, .func Flogscan_Put), (4, .pure Flaw12_works), (5, .func Flaw12_both), (8, .pure Flaw11_Great), (6, .pure Flaw12_great), (10, .func Flaw12_told), (11, .pure Flaw09_Sectors)]
theorem envlaw12_LogscanOrderOk : EnvOk Try.prog envlaw12_LogscanOrder := EnvOk.cons Flogrec_Put_ok (EnvOk.cons Flogscan_Put_ok (EnvOk.cons Flaw12_works_ok (EnvOk.cons Flaw12_both_ok (EnvOk.cons Flaw11_Great_ok (EnvOk.cons Flaw12_great_ok (EnvOk.cons Flaw12_told_ok (EnvOk.cons Flaw09_Sectors_ok (EnvOk.nil))))))))
noncomputable def blaw12_LogscanOrder : Code := Try.f3.body.getD .skip
noncomputable def Llaw12_LogscanOrder_n8 : Code := codeAt [1, 1, 1, 1, 1, 1, 1, 1, 1, 1, 0, 1, 0, 0, 1, 0, 0, 0] blaw12_LogscanOrder
noncomputable def annLlaw12_LogscanOrder_n8 : Ann := .none
theorem annLlaw12_LogscanOrder_n8_ok : AnnOk Try.prog 178 Llaw12_LogscanOrder_n8 annLlaw12_LogscanOrder_n8 := (annOk_none _ _ _)
abbrev Ilaw12_LogscanOrder_n8 := (Int) × (Int) × (Int) × (List (List (Int × List UInt8))) × (List (Int × Int × List (Int × List UInt8)))
abbrev Ylaw12_LogscanOrder_n8 := (Bool)
def Slaw12_LogscanOrder_n8 : Ilaw12_LogscanOrder_n8 → St := fun (t3, t17, t25, o0, o1) => { env := [(3, AV.int IntKind.i64 t3), (17, AV.int IntKind.i64 t17), (18, AV.own 0), (23, AV.own 1), (25, AV.int IntKind.i64 t25)], stk := [[]], H := [Obj.arr (Ty.list (Ty.st (Ty.pair (Ty.int IntKind.i64) Ty.str))) o0, Obj.arr (Ty.st (Ty.pair (Ty.int IntKind.i64) (Ty.pair (Ty.int IntKind.i64) (Ty.list (Ty.st (Ty.pair (Ty.int IntKind.i64) Ty.str)))))) o1], blk := 12293 }
def declaw12_LogscanOrder_n8 (s : St) : Option Ilaw12_LogscanOrder_n8 := match s with
  | { env := [(3, AV.int IntKind.i64 t3), (17, AV.int IntKind.i64 t17), (18, AV.own 0), (23, AV.own 1), (25, AV.int IntKind.i64 t25)], stk := [[]], H := [Obj.arr (Ty.list (Ty.st (Ty.pair (Ty.int IntKind.i64) Ty.str))) o0, Obj.arr (Ty.st (Ty.pair (Ty.int IntKind.i64) (Ty.pair (Ty.int IntKind.i64) (Ty.list (Ty.st (Ty.pair (Ty.int IntKind.i64) Ty.str)))))) o1], blk := 12293 } => some (t3, t17, t25, o0, o1)
  | _ => none
theorem declaw12_LogscanOrder_n8_ok (s : St) (x : Ilaw12_LogscanOrder_n8) (h : declaw12_LogscanOrder_n8 s = some x) : s = Slaw12_LogscanOrder_n8 x := by
  unfold declaw12_LogscanOrder_n8 at h
  split at h
  · cases h; rfl
  · cases h
def outlaw12_LogscanOrder_n8 : Ilaw12_LogscanOrder_n8 → (Ex → St → Ans) → Ylaw12_LogscanOrder_n8 → Ans := fun (t3, t17, t25, o0, o1) K => fun t177_y => K (Ex.norm) { env := [(3, AV.int IntKind.i64 t3), (17, AV.int IntKind.i64 t17), (18, AV.own 0), (23, AV.own 1), (25, AV.int IntKind.i64 t25), (177, AV.bool t177_y)], stk := [[]], H := [Obj.arr (Ty.list (Ty.st (Ty.pair (Ty.int IntKind.i64) Ty.str))) o0, Obj.arr (Ty.st (Ty.pair (Ty.int IntKind.i64) (Ty.pair (Ty.int IntKind.i64) (Ty.list (Ty.st (Ty.pair (Ty.int IntKind.i64) Ty.str)))))) o1], blk := 12293 }
def nodelaw12_LogscanOrder_n8 {β : Type} : Ilaw12_LogscanOrder_n8 → (Ylaw12_LogscanOrder_n8 → Option β) → Option β := fun (t3, t17, t25, o0, o1) exit => (bif inR t25 (List.length o1) then (bindO (o1[Int.toNat t25]?) fun x => (bif x.fst != IntKind.wrap IntKind.i64 (t3 + t25) then (exit (true)) else (bif inR t25 (List.length o1) then (bindO (o1[Int.toNat t25]?) fun x_2 => (bif inR t25 (List.length o0) then (bindO (o0[Int.toNat t25]?) fun x_3 => (bindO (fnDlaw09_Sectors (x_2.snd.snd, x_3)) fun r => (exit (!r)))) else none)) else none))) else none)
def nodeDlaw12_LogscanOrder_n8 (i : Ilaw12_LogscanOrder_n8) : Option Ylaw12_LogscanOrder_n8 := nodelaw12_LogscanOrder_n8 i some
theorem nodelaw12_LogscanOrder_n8_nat (i : Ilaw12_LogscanOrder_n8) (k : Ylaw12_LogscanOrder_n8 → Ans) : nodelaw12_LogscanOrder_n8 i k = bindO (nodeDlaw12_LogscanOrder_n8 i) k := by
  obtain ⟨t3, t17, t25, o0, o1⟩ := i
  simp only [nodeDlaw12_LogscanOrder_n8, nodelaw12_LogscanOrder_n8, bindO_cond, bindO_assoc, bindO_none, bindO_pure, bindO_elim, bindO_unP]
theorem nodelaw12_LogscanOrder_n8_ok (i : Ilaw12_LogscanOrder_n8) (K : Ex → St → Ans) : codeI Try.tab envlaw12_LogscanOrder noHint (codeD Try.tab envlaw12_LogscanOrder noHint 0 64) 70 178 annLlaw12_LogscanOrder_n8 Llaw12_LogscanOrder_n8 (weakP 0 (exk [3, 17, 18, 23, 25, 177] [10] []) K) (Slaw12_LogscanOrder_n8 i) = nodelaw12_LogscanOrder_n8 i (outlaw12_LogscanOrder_n8 i K) := by kernel_rfl
theorem GNlaw12_LogscanOrder_n8_ok : CSum Try.prog 178 Llaw12_LogscanOrder_n8 (sumN declaw12_LogscanOrder_n8 nodeDlaw12_LogscanOrder_n8 outlaw12_LogscanOrder_n8) := csum_node mixed tabOk envlaw12_LogscanOrderOk 0 (exk [3, 17, 18, 23, 25, 177] [10] []) annLlaw12_LogscanOrder_n8_ok declaw12_LogscanOrder_n8_ok nodelaw12_LogscanOrder_n8_ok nodelaw12_LogscanOrder_n8_nat
noncomputable def Glaw12_LogscanOrder_n8 : (Ex → St → Ans) → St → Ans := (sumN declaw12_LogscanOrder_n8 nodeDlaw12_LogscanOrder_n8 outlaw12_LogscanOrder_n8)
theorem Glaw12_LogscanOrder_n8_ok : CSum Try.prog 178 Llaw12_LogscanOrder_n8 Glaw12_LogscanOrder_n8 := GNlaw12_LogscanOrder_n8_ok
noncomputable def Llaw12_LogscanOrder_n7 : Code := codeAt [1, 1, 1, 1, 1, 1, 1, 1, 1, 1, 0, 1, 0, 0, 1, 0] blaw12_LogscanOrder
noncomputable def annLlaw12_LogscanOrder_n7 : Ann := (.block (.seq (.cut 0 [3, 17, 18, 23, 25] Glaw12_LogscanOrder_n8) .none))
theorem annLlaw12_LogscanOrder_n7_ok : AnnOk Try.prog 178 Llaw12_LogscanOrder_n7 annLlaw12_LogscanOrder_n7 := ⟨Glaw12_LogscanOrder_n8_ok, (annOk_none _ _ _)⟩
abbrev Ilaw12_LogscanOrder_n7 := (Int) × (Int) × (Int) × (List (List (Int × List UInt8))) × (List (Int × Int × List (Int × List UInt8)))
abbrev Ylaw12_LogscanOrder_n7 := (Unit) ⊕ (Unit)
def Slaw12_LogscanOrder_n7 : Ilaw12_LogscanOrder_n7 → St := fun (t3, t17, t25, o0, o1) => { env := [(3, AV.int IntKind.i64 t3), (17, AV.int IntKind.i64 t17), (18, AV.own 0), (23, AV.own 1), (25, AV.int IntKind.i64 t25)], stk := [[]], H := [Obj.arr (Ty.list (Ty.st (Ty.pair (Ty.int IntKind.i64) Ty.str))) o0, Obj.arr (Ty.st (Ty.pair (Ty.int IntKind.i64) (Ty.pair (Ty.int IntKind.i64) (Ty.list (Ty.st (Ty.pair (Ty.int IntKind.i64) Ty.str)))))) o1], blk := 12292 }
def declaw12_LogscanOrder_n7 (s : St) : Option Ilaw12_LogscanOrder_n7 := match s with
  | { env := [(3, AV.int IntKind.i64 t3), (17, AV.int IntKind.i64 t17), (18, AV.own 0), (23, AV.own 1), (25, AV.int IntKind.i64 t25)], stk := [[]], H := [Obj.arr (Ty.list (Ty.st (Ty.pair (Ty.int IntKind.i64) Ty.str))) o0, Obj.arr (Ty.st (Ty.pair (Ty.int IntKind.i64) (Ty.pair (Ty.int IntKind.i64) (Ty.list (Ty.st (Ty.pair (Ty.int IntKind.i64) Ty.str)))))) o1], blk := 12292 } => some (t3, t17, t25, o0, o1)
  | _ => none
theorem declaw12_LogscanOrder_n7_ok (s : St) (x : Ilaw12_LogscanOrder_n7) (h : declaw12_LogscanOrder_n7 s = some x) : s = Slaw12_LogscanOrder_n7 x := by
  unfold declaw12_LogscanOrder_n7 at h
  split at h
  · cases h; rfl
  · cases h
def outlaw12_LogscanOrder_n7 : Ilaw12_LogscanOrder_n7 → (Ex → St → Ans) → Ylaw12_LogscanOrder_n7 → Ans := fun (t3, t17, t25, o0, o1) K => (Sum.elim (fun _ => K (Ex.ret) { env := [(10, AV.bool (false))], stk := [[]], H := [], blk := 12293 }) (fun _ => K (Ex.norm) { env := [(3, AV.int IntKind.i64 t3), (17, AV.int IntKind.i64 t17), (18, AV.own 0), (23, AV.own 1), (25, AV.int IntKind.i64 t25)], stk := [[]], H := [Obj.arr (Ty.list (Ty.st (Ty.pair (Ty.int IntKind.i64) Ty.str))) o0, Obj.arr (Ty.st (Ty.pair (Ty.int IntKind.i64) (Ty.pair (Ty.int IntKind.i64) (Ty.list (Ty.st (Ty.pair (Ty.int IntKind.i64) Ty.str)))))) o1], blk := 12293 }))
def nodelaw12_LogscanOrder_n7 {β : Type} : Ilaw12_LogscanOrder_n7 → (Ylaw12_LogscanOrder_n7 → Option β) → Option β := fun (t3, t17, t25, o0, o1) exit => (bindO (nodeDlaw12_LogscanOrder_n8 (t3, t17, t25, o0, o1)) fun t177 => (bif t177 then (exit (Sum.inl ())) else (exit (Sum.inr ()))))
def nodeDlaw12_LogscanOrder_n7 (i : Ilaw12_LogscanOrder_n7) : Option Ylaw12_LogscanOrder_n7 := nodelaw12_LogscanOrder_n7 i some
theorem nodelaw12_LogscanOrder_n7_nat (i : Ilaw12_LogscanOrder_n7) (k : Ylaw12_LogscanOrder_n7 → Ans) : nodelaw12_LogscanOrder_n7 i k = bindO (nodeDlaw12_LogscanOrder_n7 i) k := by
  obtain ⟨t3, t17, t25, o0, o1⟩ := i
  simp only [nodeDlaw12_LogscanOrder_n7, nodelaw12_LogscanOrder_n7, bindO_cond, bindO_assoc, bindO_none, bindO_pure, bindO_elim, bindO_unP]
theorem nodelaw12_LogscanOrder_n7_ok (i : Ilaw12_LogscanOrder_n7) (K : Ex → St → Ans) : codeI Try.tab envlaw12_LogscanOrder noHint (codeD Try.tab envlaw12_LogscanOrder noHint 0 64) 70 178 annLlaw12_LogscanOrder_n7 Llaw12_LogscanOrder_n7 (weakP 0 (exk [3, 17, 18, 23, 25] [10] []) K) (Slaw12_LogscanOrder_n7 i) = nodelaw12_LogscanOrder_n7 i (outlaw12_LogscanOrder_n7 i K) := by kernel_rfl
theorem GNlaw12_LogscanOrder_n7_ok : CSum Try.prog 178 Llaw12_LogscanOrder_n7 (sumN declaw12_LogscanOrder_n7 nodeDlaw12_LogscanOrder_n7 outlaw12_LogscanOrder_n7) := csum_node mixed tabOk envlaw12_LogscanOrderOk 0 (exk [3, 17, 18, 23, 25] [10] []) annLlaw12_LogscanOrder_n7_ok declaw12_LogscanOrder_n7_ok nodelaw12_LogscanOrder_n7_ok nodelaw12_LogscanOrder_n7_nat
noncomputable def Glaw12_LogscanOrder_n7 : (Ex → St → Ans) → St → Ans := (sumN declaw12_LogscanOrder_n7 nodeDlaw12_LogscanOrder_n7 outlaw12_LogscanOrder_n7)
theorem Glaw12_LogscanOrder_n7_ok : CSum Try.prog 178 Llaw12_LogscanOrder_n7 Glaw12_LogscanOrder_n7 := GNlaw12_LogscanOrder_n7_ok
noncomputable def Llaw12_LogscanOrder_n6 : Code := codeAt [1, 1, 1, 1, 1, 1, 1, 1, 1, 1, 0, 1, 0, 0] blaw12_LogscanOrder
noncomputable def annLlaw12_LogscanOrder_n6 : Ann := .at 0 [3, 17, 18, 23, 25] (.loop (.seq .none (.seq (.cut 0 [3, 17, 18, 23, 25] Glaw12_LogscanOrder_n7) .none)))
theorem annLlaw12_LogscanOrder_n6_ok : AnnOk Try.prog 178 (.loop Llaw12_LogscanOrder_n6) annLlaw12_LogscanOrder_n6 := annOk_at ⟨(annOk_none _ _ _), ⟨Glaw12_LogscanOrder_n7_ok, (annOk_none _ _ _)⟩⟩
abbrev Ilaw12_LogscanOrder_n6 := (Int) × (Int) × (List (List (Int × List UInt8))) × (List (Int × Int × List (Int × List UInt8)))
abbrev Ylaw12_LogscanOrder_n6 := (Unit) ⊕ (Unit)
abbrev Vlaw12_LogscanOrder_n6 := (Int)
def Slaw12_LogscanOrder_n6 : Ilaw12_LogscanOrder_n6 → Vlaw12_LogscanOrder_n6 → St := fun (t3, t17, o0, o1) t25 => { env := [(3, AV.int IntKind.i64 t3), (17, AV.int IntKind.i64 t17), (18, AV.own 0), (23, AV.own 1), (25, AV.int IntKind.i64 t25)], stk := [[]], H := [Obj.arr (Ty.list (Ty.st (Ty.pair (Ty.int IntKind.i64) Ty.str))) o0, Obj.arr (Ty.st (Ty.pair (Ty.int IntKind.i64) (Ty.pair (Ty.int IntKind.i64) (Ty.list (Ty.st (Ty.pair (Ty.int IntKind.i64) Ty.str)))))) o1], blk := 12292 }
def declaw12_LogscanOrder_n6 (s : St) : Option (Ilaw12_LogscanOrder_n6 × Vlaw12_LogscanOrder_n6) := match s with
  | { env := [(3, AV.int IntKind.i64 t3), (17, AV.int IntKind.i64 t17), (18, AV.own 0), (23, AV.own 1), (25, AV.int IntKind.i64 t25)], stk := [[]], H := [Obj.arr (Ty.list (Ty.st (Ty.pair (Ty.int IntKind.i64) Ty.str))) o0, Obj.arr (Ty.st (Ty.pair (Ty.int IntKind.i64) (Ty.pair (Ty.int IntKind.i64) (Ty.list (Ty.st (Ty.pair (Ty.int IntKind.i64) Ty.str)))))) o1], blk := 12292 } => some ((t3, t17, o0, o1), t25)
  | _ => none
theorem declaw12_LogscanOrder_n6_ok (s : St) (x : Ilaw12_LogscanOrder_n6 × Vlaw12_LogscanOrder_n6) (h : declaw12_LogscanOrder_n6 s = some x) : s = Slaw12_LogscanOrder_n6 x.1 x.2 := by
  unfold declaw12_LogscanOrder_n6 at h
  split at h
  · cases h; rfl
  · cases h
def outlaw12_LogscanOrder_n6 : Ilaw12_LogscanOrder_n6 → (Ex → St → Ans) → Ylaw12_LogscanOrder_n6 → Ans := fun (t3, t17, o0, o1) K => (Sum.elim (fun _ => K (Ex.ret) { env := [(10, AV.bool (false))], stk := [[]], H := [], blk := 12293 }) (fun _ => K (Ex.exit 4) { env := [], stk := [[]], H := [], blk := 12292 }))
def steplaw12_LogscanOrder_n6 {β : Type} : Ilaw12_LogscanOrder_n6 → Vlaw12_LogscanOrder_n6 → (Vlaw12_LogscanOrder_n6 → Option β) → (Ylaw12_LogscanOrder_n6 → Option β) → Option β := fun (t3, t17, o0, o1) t25 next exit => (bif decide (t25 < t17) then (bindO (nodeDlaw12_LogscanOrder_n7 (t3, t17, t25, o0, o1)) (Sum.elim (fun _ => (exit (Sum.inl ()))) (fun _ => (next (IntKind.wrap IntKind.i64 (t25 + (1 : Int))))))) else (exit (Sum.inr ())))
def stepDlaw12_LogscanOrder_n6 (i : Ilaw12_LogscanOrder_n6) (v : Vlaw12_LogscanOrder_n6) : Option (Vlaw12_LogscanOrder_n6 ⊕ Ylaw12_LogscanOrder_n6) := steplaw12_LogscanOrder_n6 i v (fun v => some (.inl v)) (fun y => some (.inr y))
theorem steplaw12_LogscanOrder_n6_nat (i : Ilaw12_LogscanOrder_n6) (v : Vlaw12_LogscanOrder_n6) (next : Vlaw12_LogscanOrder_n6 → Ans) (exit : Ylaw12_LogscanOrder_n6 → Ans) : steplaw12_LogscanOrder_n6 i v next exit = bindO (stepDlaw12_LogscanOrder_n6 i v) (Sum.elim next exit) := by
  obtain ⟨t3, t17, o0, o1⟩ := i
  obtain z := v
  simp only [stepDlaw12_LogscanOrder_n6, steplaw12_LogscanOrder_n6, bindO_cond, bindO_assoc, bindO_none, bindO_pure, bindO_elim, bindO_unP, Sum.elim_inl, Sum.elim_inr]
theorem steplaw12_LogscanOrder_n6_ok (n : Nat) (i : Ilaw12_LogscanOrder_n6) (v : Vlaw12_LogscanOrder_n6) (K : Ex → St → Ans) : codeI Try.tab envlaw12_LogscanOrder noHint (codeD Try.tab envlaw12_LogscanOrder noHint 0 64) (n+1) 178 annLlaw12_LogscanOrder_n6 (.loop Llaw12_LogscanOrder_n6) (weakP 0 (exk [] [10] [(4, [])]) K) (Slaw12_LogscanOrder_n6 i v) = steplaw12_LogscanOrder_n6 i v (fun v' => codeI Try.tab envlaw12_LogscanOrder noHint (codeD Try.tab envlaw12_LogscanOrder noHint 0 64) n 178 annLlaw12_LogscanOrder_n6 (.loop Llaw12_LogscanOrder_n6) (weakP 0 (exk [] [10] [(4, [])]) K) (Slaw12_LogscanOrder_n6 i v')) (fun y => outlaw12_LogscanOrder_n6 i K y) := by kernel_rfl
theorem GNlaw12_LogscanOrder_n6_ok : CSum Try.prog 178 (.loop Llaw12_LogscanOrder_n6) (sumL declaw12_LogscanOrder_n6 stepDlaw12_LogscanOrder_n6 outlaw12_LogscanOrder_n6) := csum_loop mixed tabOk envlaw12_LogscanOrderOk 0 (exk [] [10] [(4, [])]) annLlaw12_LogscanOrder_n6_ok declaw12_LogscanOrder_n6_ok steplaw12_LogscanOrder_n6_ok steplaw12_LogscanOrder_n6_nat
noncomputable def Glaw12_LogscanOrder_n6 : (Ex → St → Ans) → St → Ans := (sumL declaw12_LogscanOrder_n6 stepDlaw12_LogscanOrder_n6 outlaw12_LogscanOrder_n6)
theorem Glaw12_LogscanOrder_n6_ok : CSum Try.prog 178 (.loop Llaw12_LogscanOrder_n6) Glaw12_LogscanOrder_n6 := GNlaw12_LogscanOrder_n6_ok
noncomputable def Llaw12_LogscanOrder_n5 : Code := codeAt [1, 1, 1, 1, 1, 1, 1, 1, 1, 0, 0] blaw12_LogscanOrder
noncomputable def annLlaw12_LogscanOrder_n5 : Ann := .none
theorem annLlaw12_LogscanOrder_n5_ok : AnnOk Try.prog 178 Llaw12_LogscanOrder_n5 annLlaw12_LogscanOrder_n5 := (annOk_none _ _ _)
abbrev Ilaw12_LogscanOrder_n5 := (Int) × (Int) × (Int) × (List (List (Int × List UInt8))) × (List (Int × Int × List (Int × List UInt8)))
abbrev Ylaw12_LogscanOrder_n5 := (Bool)
def Slaw12_LogscanOrder_n5 : Ilaw12_LogscanOrder_n5 → St := fun (t3, t17, t24, o0, o1) => { env := [(3, AV.int IntKind.i64 t3), (17, AV.int IntKind.i64 t17), (18, AV.own 0), (23, AV.own 1), (24, AV.int IntKind.i64 t24)], stk := [[]], H := [Obj.arr (Ty.list (Ty.st (Ty.pair (Ty.int IntKind.i64) Ty.str))) o0, Obj.arr (Ty.st (Ty.pair (Ty.int IntKind.i64) (Ty.pair (Ty.int IntKind.i64) (Ty.list (Ty.st (Ty.pair (Ty.int IntKind.i64) Ty.str)))))) o1], blk := 12290 }
def declaw12_LogscanOrder_n5 (s : St) : Option Ilaw12_LogscanOrder_n5 := match s with
  | { env := [(3, AV.int IntKind.i64 t3), (17, AV.int IntKind.i64 t17), (18, AV.own 0), (23, AV.own 1), (24, AV.int IntKind.i64 t24)], stk := [[]], H := [Obj.arr (Ty.list (Ty.st (Ty.pair (Ty.int IntKind.i64) Ty.str))) o0, Obj.arr (Ty.st (Ty.pair (Ty.int IntKind.i64) (Ty.pair (Ty.int IntKind.i64) (Ty.list (Ty.st (Ty.pair (Ty.int IntKind.i64) Ty.str)))))) o1], blk := 12290 } => some (t3, t17, t24, o0, o1)
  | _ => none
theorem declaw12_LogscanOrder_n5_ok (s : St) (x : Ilaw12_LogscanOrder_n5) (h : declaw12_LogscanOrder_n5 s = some x) : s = Slaw12_LogscanOrder_n5 x := by
  unfold declaw12_LogscanOrder_n5 at h
  split at h
  · cases h; rfl
  · cases h
def outlaw12_LogscanOrder_n5 : Ilaw12_LogscanOrder_n5 → (Ex → St → Ans) → Ylaw12_LogscanOrder_n5 → Ans := fun (t3, t17, t24, o0, o1) K => fun t150_y => K (Ex.norm) { env := [(3, AV.int IntKind.i64 t3), (17, AV.int IntKind.i64 t17), (18, AV.own 0), (23, AV.own 1), (150, AV.bool t150_y)], stk := [[]], H := [Obj.arr (Ty.list (Ty.st (Ty.pair (Ty.int IntKind.i64) Ty.str))) o0, Obj.arr (Ty.st (Ty.pair (Ty.int IntKind.i64) (Ty.pair (Ty.int IntKind.i64) (Ty.list (Ty.st (Ty.pair (Ty.int IntKind.i64) Ty.str)))))) o1], blk := 12290 }
def nodelaw12_LogscanOrder_n5 {β : Type} : Ilaw12_LogscanOrder_n5 → (Ylaw12_LogscanOrder_n5 → Option β) → Option β := fun (t3, t17, t24, o0, o1) exit => (bif t24 != (0 : Int) then (exit (true)) else (exit (decide ((↑(List.length o1) : Int) < t17))))
def nodeDlaw12_LogscanOrder_n5 (i : Ilaw12_LogscanOrder_n5) : Option Ylaw12_LogscanOrder_n5 := nodelaw12_LogscanOrder_n5 i some
theorem nodelaw12_LogscanOrder_n5_nat (i : Ilaw12_LogscanOrder_n5) (k : Ylaw12_LogscanOrder_n5 → Ans) : nodelaw12_LogscanOrder_n5 i k = bindO (nodeDlaw12_LogscanOrder_n5 i) k := by
  obtain ⟨t3, t17, t24, o0, o1⟩ := i
  simp only [nodeDlaw12_LogscanOrder_n5, nodelaw12_LogscanOrder_n5, bindO_cond, bindO_assoc, bindO_none, bindO_pure, bindO_elim, bindO_unP]
theorem nodelaw12_LogscanOrder_n5_ok (i : Ilaw12_LogscanOrder_n5) (K : Ex → St → Ans) : codeI Try.tab envlaw12_LogscanOrder noHint (codeD Try.tab envlaw12_LogscanOrder noHint 0 64) 70 178 annLlaw12_LogscanOrder_n5 Llaw12_LogscanOrder_n5 (weakP 0 (exk [3, 17, 18, 23, 150] [10] []) K) (Slaw12_LogscanOrder_n5 i) = nodelaw12_LogscanOrder_n5 i (outlaw12_LogscanOrder_n5 i K) := by kernel_rfl
theorem GNlaw12_LogscanOrder_n5_ok : CSum Try.prog 178 Llaw12_LogscanOrder_n5 (sumN declaw12_LogscanOrder_n5 nodeDlaw12_LogscanOrder_n5 outlaw12_LogscanOrder_n5) := csum_node mixed tabOk envlaw12_LogscanOrderOk 0 (exk [3, 17, 18, 23, 150] [10] []) annLlaw12_LogscanOrder_n5_ok declaw12_LogscanOrder_n5_ok nodelaw12_LogscanOrder_n5_ok nodelaw12_LogscanOrder_n5_nat
noncomputable def Glaw12_LogscanOrder_n5 : (Ex → St → Ans) → St → Ans := (sumN declaw12_LogscanOrder_n5 nodeDlaw12_LogscanOrder_n5 outlaw12_LogscanOrder_n5)
theorem Glaw12_LogscanOrder_n5_ok : CSum Try.prog 178 Llaw12_LogscanOrder_n5 Glaw12_LogscanOrder_n5 := GNlaw12_LogscanOrder_n5_ok
noncomputable def Llaw12_LogscanOrder_n4 : Code := codeAt [1, 1, 1, 1, 1, 1, 1, 0, 1, 0, 0, 1, 0, 0, 1, 1, 1, 0, 0] blaw12_LogscanOrder
noncomputable def annLlaw12_LogscanOrder_n4 : Ann := .none
theorem annLlaw12_LogscanOrder_n4_ok : AnnOk Try.prog 178 Llaw12_LogscanOrder_n4 annLlaw12_LogscanOrder_n4 := (annOk_none _ _ _)
abbrev Ilaw12_LogscanOrder_n4 := (Int) × (List (List (Int × List UInt8))) × (Int) × (Int) × (Int) × (Int) × (Int) × (List UInt8) × (Int) × (Int) × (Int) × (List (List (Int × List UInt8))) × (Int) × (Bool) × (List (List UInt8)) × (List (Int × List UInt8)) × (List (Int × List UInt8))
abbrev Ylaw12_LogscanOrder_n4 := (Bool)
def Slaw12_LogscanOrder_n4 : Ilaw12_LogscanOrder_n4 → St := fun (t0, t1, t2, t3, t16, t17, t19, t20, t21, t22, o0_2, o1, o2_3, o2_6, o3, o4, o5) => { env := [(0, AV.int IntKind.i64 t0), (1, AV.ro (Ty.list (Ty.st (Ty.pair (Ty.int IntKind.i64) Ty.str))) t1), (2, AV.int IntKind.i64 t2), (3, AV.int IntKind.i64 t3), (12, AV.ptr 0 0), (16, AV.int IntKind.i64 t16), (17, AV.int IntKind.i64 t17), (18, AV.own 1), (19, AV.int IntKind.i64 t19), (20, AV.str t20), (21, AV.int IntKind.i64 t21), (22, AV.int IntKind.i64 t22)], stk := [[]], H := [AE.Obj.cells [AV.ptr 2 0, AV.int IntKind.i64 (5), AV.int IntKind.i64 o0_2], Obj.arr (Ty.list (Ty.st (Ty.pair (Ty.int IntKind.i64) Ty.str))) o1, AE.Obj.cells [AV.own 3, AV.map 4, AV.own 5, AV.int IntKind.i64 o2_3, AV.own 6, AV.int IntKind.i64 (0), AV.bool o2_6], Obj.arr Ty.str o3, Obj.mp IntKind.i64 Ty.str o4, Obj.arr (Ty.st (Ty.pair (Ty.int IntKind.i64) Ty.str)) o5, Obj.arr (Ty.int IntKind.i64) ([])], blk := 12291 }
def declaw12_LogscanOrder_n4 (s : St) : Option Ilaw12_LogscanOrder_n4 := match s with
  | { env := [(0, AV.int IntKind.i64 t0), (1, AV.ro (Ty.list (Ty.st (Ty.pair (Ty.int IntKind.i64) Ty.str))) t1), (2, AV.int IntKind.i64 t2), (3, AV.int IntKind.i64 t3), (12, AV.ptr 0 0), (16, AV.int IntKind.i64 t16), (17, AV.int IntKind.i64 t17), (18, AV.own 1), (19, AV.int IntKind.i64 t19), (20, AV.str t20), (21, AV.int IntKind.i64 t21), (22, AV.int IntKind.i64 t22)], stk := [[]], H := [AE.Obj.cells [AV.ptr 2 0, AV.int IntKind.i64 r10, AV.int IntKind.i64 o0_2], Obj.arr (Ty.list (Ty.st (Ty.pair (Ty.int IntKind.i64) Ty.str))) o1, AE.Obj.cells [AV.own 3, AV.map 4, AV.own 5, AV.int IntKind.i64 o2_3, AV.own 6, AV.int IntKind.i64 r14, AV.bool o2_6], Obj.arr Ty.str o3, Obj.mp IntKind.i64 Ty.str o4, Obj.arr (Ty.st (Ty.pair (Ty.int IntKind.i64) Ty.str)) o5, Obj.arr (Ty.int IntKind.i64) r19], blk := 12291 } => cond (decide (r10 = 5) && decide (r14 = 0) && decide (r19 = [])) (some (t0, t1, t2, t3, t16, t17, t19, t20, t21, t22, o0_2, o1, o2_3, o2_6, o3, o4, o5)) none
  | _ => none
theorem declaw12_LogscanOrder_n4_ok (s : St) (x : Ilaw12_LogscanOrder_n4) (h : declaw12_LogscanOrder_n4 s = some x) : s = Slaw12_LogscanOrder_n4 x := by
  unfold declaw12_LogscanOrder_n4 at h
  split at h
  · replace h := cond_noneO h; obtain ⟨hg, h⟩ := h; simp only [Bool.and_eq_true, decide_eq_true_eq] at hg; simp only [hg]; cases h; rfl
  · cases h
def outlaw12_LogscanOrder_n4 : Ilaw12_LogscanOrder_n4 → (Ex → St → Ans) → Ylaw12_LogscanOrder_n4 → Ans := fun (t0, t1, t2, t3, t16, t17, t19, t20, t21, t22, o0_2, o1, o2_3, o2_6, o3, o4, o5) K => fun t114_y => K (Ex.norm) { env := [(0, AV.int IntKind.i64 t0), (1, AV.ro (Ty.list (Ty.st (Ty.pair (Ty.int IntKind.i64) Ty.str))) t1), (2, AV.int IntKind.i64 t2), (3, AV.int IntKind.i64 t3), (12, AV.ptr 0 0), (16, AV.int IntKind.i64 t16), (17, AV.int IntKind.i64 t17), (18, AV.own 1), (19, AV.int IntKind.i64 t19), (20, AV.str t20), (22, AV.int IntKind.i64 t22), (114, AV.bool t114_y)], stk := [[]], H := [AE.Obj.cells [AV.ptr 2 0, AV.int IntKind.i64 (5), AV.int IntKind.i64 o0_2], Obj.arr (Ty.list (Ty.st (Ty.pair (Ty.int IntKind.i64) Ty.str))) o1, AE.Obj.cells [AV.own 3, AV.map 4, AV.own 5, AV.int IntKind.i64 o2_3, AV.own 6, AV.int IntKind.i64 (0), AV.bool o2_6], Obj.arr Ty.str o3, Obj.mp IntKind.i64 Ty.str o4, Obj.arr (Ty.st (Ty.pair (Ty.int IntKind.i64) Ty.str)) o5, Obj.arr (Ty.int IntKind.i64) ([])], blk := 12291 }
def nodelaw12_LogscanOrder_n4 {β : Type} : Ilaw12_LogscanOrder_n4 → (Ylaw12_LogscanOrder_n4 → Option β) → Option β := fun (t0, t1, t2, t3, t16, t17, t19, t20, t21, t22, o0_2, o1, o2_3, o2_6, o3, o4, o5) exit => (bif t21 != (0 : Int) then (exit (true)) else (exit (decide (t22 > IntKind.wrap IntKind.i64 (t0 - t16)))))
def nodeDlaw12_LogscanOrder_n4 (i : Ilaw12_LogscanOrder_n4) : Option Ylaw12_LogscanOrder_n4 := nodelaw12_LogscanOrder_n4 i some
theorem nodelaw12_LogscanOrder_n4_nat (i : Ilaw12_LogscanOrder_n4) (k : Ylaw12_LogscanOrder_n4 → Ans) : nodelaw12_LogscanOrder_n4 i k = bindO (nodeDlaw12_LogscanOrder_n4 i) k := by
  obtain ⟨t0, t1, t2, t3, t16, t17, t19, t20, t21, t22, o0_2, o1, o2_3, o2_6, o3, o4, o5⟩ := i
  simp only [nodeDlaw12_LogscanOrder_n4, nodelaw12_LogscanOrder_n4, bindO_cond, bindO_assoc, bindO_none, bindO_pure, bindO_elim, bindO_unP]
theorem nodelaw12_LogscanOrder_n4_ok (i : Ilaw12_LogscanOrder_n4) (K : Ex → St → Ans) : codeI Try.tab envlaw12_LogscanOrder noHint (codeD Try.tab envlaw12_LogscanOrder noHint 0 64) 70 178 annLlaw12_LogscanOrder_n4 Llaw12_LogscanOrder_n4 (weakP 0 (exk [0, 1, 2, 3, 12, 16, 17, 18, 19, 20, 22, 114] [10] []) K) (Slaw12_LogscanOrder_n4 i) = nodelaw12_LogscanOrder_n4 i (outlaw12_LogscanOrder_n4 i K) := by kernel_rfl
theorem GNlaw12_LogscanOrder_n4_ok : CSum Try.prog 178 Llaw12_LogscanOrder_n4 (sumN declaw12_LogscanOrder_n4 nodeDlaw12_LogscanOrder_n4 outlaw12_LogscanOrder_n4) := csum_node mixed tabOk envlaw12_LogscanOrderOk 0 (exk [0, 1, 2, 3, 12, 16, 17, 18, 19, 20, 22, 114] [10] []) annLlaw12_LogscanOrder_n4_ok declaw12_LogscanOrder_n4_ok nodelaw12_LogscanOrder_n4_ok nodelaw12_LogscanOrder_n4_nat
noncomputable def Glaw12_LogscanOrder_n4 : (Ex → St → Ans) → St → Ans := (sumN declaw12_LogscanOrder_n4 nodeDlaw12_LogscanOrder_n4 outlaw12_LogscanOrder_n4)
theorem Glaw12_LogscanOrder_n4_ok : CSum Try.prog 178 Llaw12_LogscanOrder_n4 Glaw12_LogscanOrder_n4 := GNlaw12_LogscanOrder_n4_ok
noncomputable def Llaw12_LogscanOrder_n3 : Code := codeAt [1, 1, 1, 1, 1, 1, 1, 0, 1, 0, 0, 1, 0] blaw12_LogscanOrder
noncomputable def annLlaw12_LogscanOrder_n3 : Ann := (.block (.seq .none (.seq .none (.seq .none (.seq (.seq (.cut 0 [0, 1, 2, 3, 12, 16, 17, 18, 19, 20, 21, 22] Glaw12_LogscanOrder_n4) .none) .none)))))
theorem annLlaw12_LogscanOrder_n3_ok : AnnOk Try.prog 178 Llaw12_LogscanOrder_n3 annLlaw12_LogscanOrder_n3 := ⟨(annOk_none _ _ _), ⟨(annOk_none _ _ _), ⟨(annOk_none _ _ _), ⟨⟨Glaw12_LogscanOrder_n4_ok, (annOk_none _ _ _)⟩, (annOk_none _ _ _)⟩⟩⟩⟩
abbrev Ilaw12_LogscanOrder_n3 := (Int) × (List (List (Int × List UInt8))) × (Int) × (Int) × (Int) × (Int) × (Int) × (Int) × (List (List (Int × List UInt8))) × (Int) × (Bool) × (List (List UInt8)) × (List (Int × List UInt8)) × (List (Int × List UInt8))
abbrev Ylaw12_LogscanOrder_n3 := ((Bool)) ⊕ ((Int) × (Int) × (List (List (Int × List UInt8))) × (Int) × (Bool) × (List (Int × List UInt8)) × (List (Int × List UInt8)))
def Slaw12_LogscanOrder_n3 : Ilaw12_LogscanOrder_n3 → St := fun (t0, t1, t2, t3, t16, t17, t19, o0_2, o1, o2_3, o2_6, o3, o4, o5) => { env := [(0, AV.int IntKind.i64 t0), (1, AV.ro (Ty.list (Ty.st (Ty.pair (Ty.int IntKind.i64) Ty.str))) t1), (2, AV.int IntKind.i64 t2), (3, AV.int IntKind.i64 t3), (12, AV.ptr 0 0), (16, AV.int IntKind.i64 t16), (17, AV.int IntKind.i64 t17), (18, AV.own 1), (19, AV.int IntKind.i64 t19)], stk := [[]], H := [AE.Obj.cells [AV.ptr 2 0, AV.int IntKind.i64 (5), AV.int IntKind.i64 o0_2], Obj.arr (Ty.list (Ty.st (Ty.pair (Ty.int IntKind.i64) Ty.str))) o1, AE.Obj.cells [AV.own 3, AV.map 4, AV.own 5, AV.int IntKind.i64 o2_3, AV.own 6, AV.int IntKind.i64 (0), AV.bool o2_6], Obj.arr Ty.str o3, Obj.mp IntKind.i64 Ty.str o4, Obj.arr (Ty.st (Ty.pair (Ty.int IntKind.i64) Ty.str)) o5, Obj.arr (Ty.int IntKind.i64) ([])], blk := 12290 }
def declaw12_LogscanOrder_n3 (s : St) : Option Ilaw12_LogscanOrder_n3 := match s with
  | { env := [(0, AV.int IntKind.i64 t0), (1, AV.ro (Ty.list (Ty.st (Ty.pair (Ty.int IntKind.i64) Ty.str))) t1), (2, AV.int IntKind.i64 t2), (3, AV.int IntKind.i64 t3), (12, AV.ptr 0 0), (16, AV.int IntKind.i64 t16), (17, AV.int IntKind.i64 t17), (18, AV.own 1), (19, AV.int IntKind.i64 t19)], stk := [[]], H := [AE.Obj.cells [AV.ptr 2 0, AV.int IntKind.i64 r7, AV.int IntKind.i64 o0_2], Obj.arr (Ty.list (Ty.st (Ty.pair (Ty.int IntKind.i64) Ty.str))) o1, AE.Obj.cells [AV.own 3, AV.map 4, AV.own 5, AV.int IntKind.i64 o2_3, AV.own 6, AV.int IntKind.i64 r11, AV.bool o2_6], Obj.arr Ty.str o3, Obj.mp IntKind.i64 Ty.str o4, Obj.arr (Ty.st (Ty.pair (Ty.int IntKind.i64) Ty.str)) o5, Obj.arr (Ty.int IntKind.i64) r16], blk := 12290 } => cond (decide (r7 = 5) && decide (r11 = 0) && decide (r16 = [])) (some (t0, t1, t2, t3, t16, t17, t19, o0_2, o1, o2_3, o2_6, o3, o4, o5)) none
  | _ => none
theorem declaw12_LogscanOrder_n3_ok (s : St) (x : Ilaw12_LogscanOrder_n3) (h : declaw12_LogscanOrder_n3 s = some x) : s = Slaw12_LogscanOrder_n3 x := by
  unfold declaw12_LogscanOrder_n3 at h
  split at h
  · replace h := cond_noneO h; obtain ⟨hg, h⟩ := h; simp only [Bool.and_eq_true, decide_eq_true_eq] at hg; simp only [hg]; cases h; rfl
  · cases h
def outlaw12_LogscanOrder_n3 : Ilaw12_LogscanOrder_n3 → (Ex → St → Ans) → Ylaw12_LogscanOrder_n3 → Ans := fun (t0, t1, t2, t3, t16, t17, t19, o0_2, o1, o2_3, o2_6, o3, o4, o5) K => (Sum.elim (fun t10_y => K (Ex.ret) { env := [(10, AV.bool t10_y)], stk := [[]], H := [], blk := 12291 }) (unP fun t16_y => unP fun t17_y => unP fun o1_y => unP fun o2_3_y => unP fun o2_6_y => unP fun o4_y o5_y => K (Ex.norm) { env := [(0, AV.int IntKind.i64 t0), (1, AV.ro (Ty.list (Ty.st (Ty.pair (Ty.int IntKind.i64) Ty.str))) t1), (2, AV.int IntKind.i64 t2), (3, AV.int IntKind.i64 t3), (12, AV.ptr 0 0), (16, AV.int IntKind.i64 t16_y), (17, AV.int IntKind.i64 t17_y), (18, AV.own 1), (19, AV.int IntKind.i64 t19)], stk := [[]], H := [AE.Obj.cells [AV.ptr 2 0, AV.int IntKind.i64 (5), AV.int IntKind.i64 o0_2], Obj.arr (Ty.list (Ty.st (Ty.pair (Ty.int IntKind.i64) Ty.str))) o1_y, AE.Obj.cells [AV.own 3, AV.map 4, AV.own 5, AV.int IntKind.i64 o2_3_y, AV.own 6, AV.int IntKind.i64 (0), AV.bool o2_6_y], Obj.arr Ty.str o3, Obj.mp IntKind.i64 Ty.str o4_y, Obj.arr (Ty.st (Ty.pair (Ty.int IntKind.i64) Ty.str)) o5_y, Obj.arr (Ty.int IntKind.i64) ([])], blk := 12291 }))
def nodelaw12_LogscanOrder_n3 {β : Type} : Ilaw12_LogscanOrder_n3 → (Ylaw12_LogscanOrder_n3 → Option β) → Option β := fun (t0, t1, t2, t3, t16, t17, t19, o0_2, o1, o2_3, o2_6, o3, o4, o5) exit => (bindO (nth t1 t19) fun x => (bindO (fnDlaw11_Great (x)) fun r => (bif r then (exit (Sum.inl (true))) else (bindO (nth t1 t19) fun x_2 => (bindO (fnDlogrec_Put (IntKind.wrap IntKind.i64 (t3 + t17), x_2)) (unP fun r_0 r_1 => (bindO (nodeDlaw12_LogscanOrder_n4 (t0, t1, t2, t3, t16, t17, t19, r_0, r_1, IntKind.wrap IntKind.i64 (Int.tdiv (↑(List.length r_0) : Int) (64 : Int)), o0_2, o1, o2_3, o2_6, o3, o4, o5)) fun t114 => (bif t114 then (exit (Sum.inr (t16, t17, o1, o2_3, o2_6, o4, o5))) else (bif t0 == (0 : Int) then none else (bindO (fnDlogscan_Put (Int.tmod (IntKind.wrap IntKind.i64 (t2 + t16)) t0, r_0, (5 : Int), o0_2, o2_3, (0 : Int), o2_6, o3, o4, o5, [])) (unP fun r_2 => unP fun o1_3 => unP fun o1_6 => unP fun o3_2 o4_2 => (bif r_2 != (0 : Int) then (exit (Sum.inl (false))) else (bindO (nth t1 t19) fun x_3 => (bif Nat.ble ((List.length o1 + List.length [x_3]) * (24 : Nat)) (140737488355328 : Nat) then (exit (Sum.inr (IntKind.wrap IntKind.i64 (t16 + IntKind.wrap IntKind.i64 (Int.tdiv (↑(List.length r_0) : Int) (64 : Int))), IntKind.wrap IntKind.i64 (t17 + (1 : Int)), o1 ++ [x_3], o1_3, o1_6, o3_2, o4_2))) else none))))))))))))))
def nodeDlaw12_LogscanOrder_n3 (i : Ilaw12_LogscanOrder_n3) : Option Ylaw12_LogscanOrder_n3 := nodelaw12_LogscanOrder_n3 i some
theorem nodelaw12_LogscanOrder_n3_nat (i : Ilaw12_LogscanOrder_n3) (k : Ylaw12_LogscanOrder_n3 → Ans) : nodelaw12_LogscanOrder_n3 i k = bindO (nodeDlaw12_LogscanOrder_n3 i) k := by
  obtain ⟨t0, t1, t2, t3, t16, t17, t19, o0_2, o1, o2_3, o2_6, o3, o4, o5⟩ := i
  simp only [nodeDlaw12_LogscanOrder_n3, nodelaw12_LogscanOrder_n3, bindO_cond, bindO_assoc, bindO_none, bindO_pure, bindO_elim, bindO_unP]
theorem nodelaw12_LogscanOrder_n3_ok (i : Ilaw12_LogscanOrder_n3) (K : Ex → St → Ans) : codeI Try.tab envlaw12_LogscanOrder noHint (codeD Try.tab envlaw12_LogscanOrder noHint 0 64) 70 178 annLlaw12_LogscanOrder_n3 Llaw12_LogscanOrder_n3 (weakP 0 (exk [0, 1, 2, 3, 12, 16, 17, 18, 19] [10] []) K) (Slaw12_LogscanOrder_n3 i) = nodelaw12_LogscanOrder_n3 i (outlaw12_LogscanOrder_n3 i K) := by kernel_rfl
theorem GNlaw12_LogscanOrder_n3_ok : CSum Try.prog 178 Llaw12_LogscanOrder_n3 (sumN declaw12_LogscanOrder_n3 nodeDlaw12_LogscanOrder_n3 outlaw12_LogscanOrder_n3) := csum_node mixed tabOk envlaw12_LogscanOrderOk 0 (exk [0, 1, 2, 3, 12, 16, 17, 18, 19] [10] []) annLlaw12_LogscanOrder_n3_ok declaw12_LogscanOrder_n3_ok nodelaw12_LogscanOrder_n3_ok nodelaw12_LogscanOrder_n3_nat
noncomputable def Glaw12_LogscanOrder_n3 : (Ex → St → Ans) → St → Ans := (sumN declaw12_LogscanOrder_n3 nodeDlaw12_LogscanOrder_n3 outlaw12_LogscanOrder_n3)
theorem Glaw12_LogscanOrder_n3_ok : CSum Try.prog 178 Llaw12_LogscanOrder_n3 Glaw12_LogscanOrder_n3 := GNlaw12_LogscanOrder_n3_ok
noncomputable def Llaw12_LogscanOrder_n2 : Code := codeAt [1, 1, 1, 1, 1, 1, 1, 0, 1, 0, 0] blaw12_LogscanOrder
noncomputable def annLlaw12_LogscanOrder_n2 : Ann := .at 0 [0, 1, 2, 3, 12, 16, 17, 18, 19] (.loop (.seq .none (.seq (.cut 0 [0, 1, 2, 3, 12, 16, 17, 18, 19] Glaw12_LogscanOrder_n3) .none)))
theorem annLlaw12_LogscanOrder_n2_ok : AnnOk Try.prog 178 (.loop Llaw12_LogscanOrder_n2) annLlaw12_LogscanOrder_n2 := annOk_at ⟨(annOk_none _ _ _), ⟨Glaw12_LogscanOrder_n3_ok, (annOk_none _ _ _)⟩⟩
abbrev Ilaw12_LogscanOrder_n2 := (Int) × (List (List (Int × List UInt8))) × (Int) × (Int) × (Int) × (List (List UInt8))
abbrev Ylaw12_LogscanOrder_n2 := ((Bool)) ⊕ ((Int) × (List (List (Int × List UInt8))) × (Int) × (Bool) × (List (Int × List UInt8)) × (List (Int × List UInt8)))
abbrev Vlaw12_LogscanOrder_n2 := (Int) × (Int) × (Int) × (List (List (Int × List UInt8))) × (Int) × (Bool) × (List (Int × List UInt8)) × (List (Int × List UInt8))
def Slaw12_LogscanOrder_n2 : Ilaw12_LogscanOrder_n2 → Vlaw12_LogscanOrder_n2 → St := fun (t0, t1, t2, t3, o0_2, o3) (t16, t17, t19, o1, o2_3, o2_6, o4, o5) => { env := [(0, AV.int IntKind.i64 t0), (1, AV.ro (Ty.list (Ty.st (Ty.pair (Ty.int IntKind.i64) Ty.str))) t1), (2, AV.int IntKind.i64 t2), (3, AV.int IntKind.i64 t3), (12, AV.ptr 0 0), (16, AV.int IntKind.i64 t16), (17, AV.int IntKind.i64 t17), (18, AV.own 1), (19, AV.int IntKind.i64 t19)], stk := [[]], H := [AE.Obj.cells [AV.ptr 2 0, AV.int IntKind.i64 (5), AV.int IntKind.i64 o0_2], Obj.arr (Ty.list (Ty.st (Ty.pair (Ty.int IntKind.i64) Ty.str))) o1, AE.Obj.cells [AV.own 3, AV.map 4, AV.own 5, AV.int IntKind.i64 o2_3, AV.own 6, AV.int IntKind.i64 (0), AV.bool o2_6], Obj.arr Ty.str o3, Obj.mp IntKind.i64 Ty.str o4, Obj.arr (Ty.st (Ty.pair (Ty.int IntKind.i64) Ty.str)) o5, Obj.arr (Ty.int IntKind.i64) ([])], blk := 12290 }
def declaw12_LogscanOrder_n2 (s : St) : Option (Ilaw12_LogscanOrder_n2 × Vlaw12_LogscanOrder_n2) := match s with
  | { env := [(0, AV.int IntKind.i64 t0), (1, AV.ro (Ty.list (Ty.st (Ty.pair (Ty.int IntKind.i64) Ty.str))) t1), (2, AV.int IntKind.i64 t2), (3, AV.int IntKind.i64 t3), (12, AV.ptr 0 0), (16, AV.int IntKind.i64 t16), (17, AV.int IntKind.i64 t17), (18, AV.own 1), (19, AV.int IntKind.i64 t19)], stk := [[]], H := [AE.Obj.cells [AV.ptr 2 0, AV.int IntKind.i64 r7, AV.int IntKind.i64 o0_2], Obj.arr (Ty.list (Ty.st (Ty.pair (Ty.int IntKind.i64) Ty.str))) o1, AE.Obj.cells [AV.own 3, AV.map 4, AV.own 5, AV.int IntKind.i64 o2_3, AV.own 6, AV.int IntKind.i64 r11, AV.bool o2_6], Obj.arr Ty.str o3, Obj.mp IntKind.i64 Ty.str o4, Obj.arr (Ty.st (Ty.pair (Ty.int IntKind.i64) Ty.str)) o5, Obj.arr (Ty.int IntKind.i64) r16], blk := 12290 } => cond (decide (r7 = 5) && decide (r11 = 0) && decide (r16 = [])) (some ((t0, t1, t2, t3, o0_2, o3), (t16, t17, t19, o1, o2_3, o2_6, o4, o5))) none
  | _ => none
theorem declaw12_LogscanOrder_n2_ok (s : St) (x : Ilaw12_LogscanOrder_n2 × Vlaw12_LogscanOrder_n2) (h : declaw12_LogscanOrder_n2 s = some x) : s = Slaw12_LogscanOrder_n2 x.1 x.2 := by
  unfold declaw12_LogscanOrder_n2 at h
  split at h
  · replace h := cond_noneO h; obtain ⟨hg, h⟩ := h; simp only [Bool.and_eq_true, decide_eq_true_eq] at hg; simp only [hg]; cases h; rfl
  · cases h
def outlaw12_LogscanOrder_n2 : Ilaw12_LogscanOrder_n2 → (Ex → St → Ans) → Ylaw12_LogscanOrder_n2 → Ans := fun (t0, t1, t2, t3, o0_2, o3) K => (Sum.elim (fun t10_y => K (Ex.ret) { env := [(10, AV.bool t10_y)], stk := [[]], H := [], blk := 12291 }) (unP fun t17_y => unP fun o1_y => unP fun o2_3_y => unP fun o2_6_y => unP fun o4_y o5_y => K (Ex.exit 2) { env := [(2, AV.int IntKind.i64 t2), (3, AV.int IntKind.i64 t3), (12, AV.ptr 0 0), (17, AV.int IntKind.i64 t17_y), (18, AV.own 1)], stk := [[]], H := [AE.Obj.cells [AV.ptr 2 0, AV.int IntKind.i64 (5), AV.int IntKind.i64 o0_2], Obj.arr (Ty.list (Ty.st (Ty.pair (Ty.int IntKind.i64) Ty.str))) o1_y, AE.Obj.cells [AV.own 3, AV.map 4, AV.own 5, AV.int IntKind.i64 o2_3_y, AV.own 6, AV.int IntKind.i64 (0), AV.bool o2_6_y], Obj.arr Ty.str o3, Obj.mp IntKind.i64 Ty.str o4_y, Obj.arr (Ty.st (Ty.pair (Ty.int IntKind.i64) Ty.str)) o5_y, Obj.arr (Ty.int IntKind.i64) ([])], blk := 12290 }))
def steplaw12_LogscanOrder_n2 {β : Type} : Ilaw12_LogscanOrder_n2 → Vlaw12_LogscanOrder_n2 → (Vlaw12_LogscanOrder_n2 → Option β) → (Ylaw12_LogscanOrder_n2 → Option β) → Option β := fun (t0, t1, t2, t3, o0_2, o3) (t16, t17, t19, o1, o2_3, o2_6, o4, o5) next exit => (bif decide (t19 < (↑(List.length t1) : Int)) then (bindO (nodeDlaw12_LogscanOrder_n3 (t0, t1, t2, t3, t16, t17, t19, o0_2, o1, o2_3, o2_6, o3, o4, o5)) (Sum.elim (fun t10 => (exit (Sum.inl (t10)))) (unP fun t16_2 => unP fun t17_2 => unP fun o1_2 => unP fun o2_3_2 => unP fun o2_6_2 => unP fun o4_2 o5_2 => (next (t16_2, t17_2, IntKind.wrap IntKind.i64 (t19 + (1 : Int)), o1_2, o2_3_2, o2_6_2, o4_2, o5_2))))) else (exit (Sum.inr (t17, o1, o2_3, o2_6, o4, o5))))
def stepDlaw12_LogscanOrder_n2 (i : Ilaw12_LogscanOrder_n2) (v : Vlaw12_LogscanOrder_n2) : Option (Vlaw12_LogscanOrder_n2 ⊕ Ylaw12_LogscanOrder_n2) := steplaw12_LogscanOrder_n2 i v (fun v => some (.inl v)) (fun y => some (.inr y))
theorem steplaw12_LogscanOrder_n2_nat (i : Ilaw12_LogscanOrder_n2) (v : Vlaw12_LogscanOrder_n2) (next : Vlaw12_LogscanOrder_n2 → Ans) (exit : Ylaw12_LogscanOrder_n2 → Ans) : steplaw12_LogscanOrder_n2 i v next exit = bindO (stepDlaw12_LogscanOrder_n2 i v) (Sum.elim next exit) := by
  obtain ⟨t0, t1, t2, t3, o0_2, o3⟩ := i
  obtain ⟨t16, t17, t19, o1, o2_3, o2_6, o4, o5⟩ := v
  simp only [stepDlaw12_LogscanOrder_n2, steplaw12_LogscanOrder_n2, bindO_cond, bindO_assoc, bindO_none, bindO_pure, bindO_elim, bindO_unP, Sum.elim_inl, Sum.elim_inr]
theorem steplaw12_LogscanOrder_n2_ok (n : Nat) (i : Ilaw12_LogscanOrder_n2) (v : Vlaw12_LogscanOrder_n2) (K : Ex → St → Ans) : codeI Try.tab envlaw12_LogscanOrder noHint (codeD Try.tab envlaw12_LogscanOrder noHint 0 64) (n+1) 178 annLlaw12_LogscanOrder_n2 (.loop Llaw12_LogscanOrder_n2) (weakP 0 (exk [2, 3, 12, 17, 18] [10] [(2, [2, 3, 12, 17, 18])]) K) (Slaw12_LogscanOrder_n2 i v) = steplaw12_LogscanOrder_n2 i v (fun v' => codeI Try.tab envlaw12_LogscanOrder noHint (codeD Try.tab envlaw12_LogscanOrder noHint 0 64) n 178 annLlaw12_LogscanOrder_n2 (.loop Llaw12_LogscanOrder_n2) (weakP 0 (exk [2, 3, 12, 17, 18] [10] [(2, [2, 3, 12, 17, 18])]) K) (Slaw12_LogscanOrder_n2 i v')) (fun y => outlaw12_LogscanOrder_n2 i K y) := by kernel_rfl
theorem GNlaw12_LogscanOrder_n2_ok : CSum Try.prog 178 (.loop Llaw12_LogscanOrder_n2) (sumL declaw12_LogscanOrder_n2 stepDlaw12_LogscanOrder_n2 outlaw12_LogscanOrder_n2) := csum_loop mixed tabOk envlaw12_LogscanOrderOk 0 (exk [2, 3, 12, 17, 18] [10] [(2, [2, 3, 12, 17, 18])]) annLlaw12_LogscanOrder_n2_ok declaw12_LogscanOrder_n2_ok steplaw12_LogscanOrder_n2_ok steplaw12_LogscanOrder_n2_nat
noncomputable def Glaw12_LogscanOrder_n2 : (Ex → St → Ans) → St → Ans := (sumL declaw12_LogscanOrder_n2 stepDlaw12_LogscanOrder_n2 outlaw12_LogscanOrder_n2)
theorem Glaw12_LogscanOrder_n2_ok : CSum Try.prog 178 (.loop Llaw12_LogscanOrder_n2) Glaw12_LogscanOrder_n2 := GNlaw12_LogscanOrder_n2_ok
noncomputable def Llaw12_LogscanOrder_n1 : Code := codeAt [1, 1, 1, 1, 0, 1, 0, 0] blaw12_LogscanOrder
noncomputable def annLlaw12_LogscanOrder_n1 : Ann := .at 0 [0, 1, 2, 3, 4, 12, 15] (.loop .none)
theorem annLlaw12_LogscanOrder_n1_ok : AnnOk Try.prog 178 (.loop Llaw12_LogscanOrder_n1) annLlaw12_LogscanOrder_n1 := annOk_at (annOk_none _ _ _)
abbrev Ilaw12_LogscanOrder_n1 := (Int) × (List (List (Int × List UInt8))) × (Int) × (Int) × (List (Int × Int × List UInt8 × List (Int × List UInt8))) × (Int) × (List (List UInt8))
abbrev Ylaw12_LogscanOrder_n1 := (Int) × (Bool) × (List (Int × List UInt8)) × (List (Int × List UInt8))
abbrev Vlaw12_LogscanOrder_n1 := (Int) × (Int) × (Bool) × (List (Int × List UInt8)) × (List (Int × List UInt8))
def Slaw12_LogscanOrder_n1 : Ilaw12_LogscanOrder_n1 → Vlaw12_LogscanOrder_n1 → St := fun (t0, t1, t2, t3, t4, o0_2, o2) (t15, o1_3, o1_6, o3, o4) => { env := [(0, AV.int IntKind.i64 t0), (1, AV.ro (Ty.list (Ty.st (Ty.pair (Ty.int IntKind.i64) Ty.str))) t1), (2, AV.int IntKind.i64 t2), (3, AV.int IntKind.i64 t3), (4, AV.ro (Ty.st (Ty.pair (Ty.int IntKind.i64) (Ty.pair (Ty.int IntKind.i64) (Ty.pair Ty.str (Ty.list (Ty.st (Ty.pair (Ty.int IntKind.i64) Ty.str))))))) t4), (12, AV.ptr 0 0), (15, AV.int IntKind.i64 t15)], stk := [[]], H := [AE.Obj.cells [AV.ptr 1 0, AV.int IntKind.i64 (5), AV.int IntKind.i64 o0_2], AE.Obj.cells [AV.own 2, AV.map 3, AV.own 4, AV.int IntKind.i64 o1_3, AV.own 5, AV.int IntKind.i64 (0), AV.bool o1_6], Obj.arr Ty.str o2, Obj.mp IntKind.i64 Ty.str o3, Obj.arr (Ty.st (Ty.pair (Ty.int IntKind.i64) Ty.str)) o4, Obj.arr (Ty.int IntKind.i64) ([])], blk := 12288 }
def declaw12_LogscanOrder_n1 (s : St) : Option (Ilaw12_LogscanOrder_n1 × Vlaw12_LogscanOrder_n1) := match s with
  | { env := [(0, AV.int IntKind.i64 t0), (1, AV.ro (Ty.list (Ty.st (Ty.pair (Ty.int IntKind.i64) Ty.str))) t1), (2, AV.int IntKind.i64 t2), (3, AV.int IntKind.i64 t3), (4, AV.ro (Ty.st (Ty.pair (Ty.int IntKind.i64) (Ty.pair (Ty.int IntKind.i64) (Ty.pair Ty.str (Ty.list (Ty.st (Ty.pair (Ty.int IntKind.i64) Ty.str))))))) t4), (12, AV.ptr 0 0), (15, AV.int IntKind.i64 t15)], stk := [[]], H := [AE.Obj.cells [AV.ptr 1 0, AV.int IntKind.i64 r6, AV.int IntKind.i64 o0_2], AE.Obj.cells [AV.own 2, AV.map 3, AV.own 4, AV.int IntKind.i64 o1_3, AV.own 5, AV.int IntKind.i64 r9, AV.bool o1_6], Obj.arr Ty.str o2, Obj.mp IntKind.i64 Ty.str o3, Obj.arr (Ty.st (Ty.pair (Ty.int IntKind.i64) Ty.str)) o4, Obj.arr (Ty.int IntKind.i64) r14], blk := 12288 } => cond (decide (r6 = 5) && decide (r9 = 0) && decide (r14 = [])) (some ((t0, t1, t2, t3, t4, o0_2, o2), (t15, o1_3, o1_6, o3, o4))) none
  | _ => none
theorem declaw12_LogscanOrder_n1_ok (s : St) (x : Ilaw12_LogscanOrder_n1 × Vlaw12_LogscanOrder_n1) (h : declaw12_LogscanOrder_n1 s = some x) : s = Slaw12_LogscanOrder_n1 x.1 x.2 := by
  unfold declaw12_LogscanOrder_n1 at h
  split at h
  · replace h := cond_noneO h; obtain ⟨hg, h⟩ := h; simp only [Bool.and_eq_true, decide_eq_true_eq] at hg; simp only [hg]; cases h; rfl
  · cases h
def outlaw12_LogscanOrder_n1 : Ilaw12_LogscanOrder_n1 → (Ex → St → Ans) → Ylaw12_LogscanOrder_n1 → Ans := fun (t0, t1, t2, t3, t4, o0_2, o2) K => unP fun o1_3_y => unP fun o1_6_y => unP fun o3_y o4_y => K (Ex.exit 0) { env := [(0, AV.int IntKind.i64 t0), (1, AV.ro (Ty.list (Ty.st (Ty.pair (Ty.int IntKind.i64) Ty.str))) t1), (2, AV.int IntKind.i64 t2), (3, AV.int IntKind.i64 t3), (12, AV.ptr 0 0)], stk := [[]], H := [AE.Obj.cells [AV.ptr 1 0, AV.int IntKind.i64 (5), AV.int IntKind.i64 o0_2], AE.Obj.cells [AV.own 2, AV.map 3, AV.own 4, AV.int IntKind.i64 o1_3_y, AV.own 5, AV.int IntKind.i64 (0), AV.bool o1_6_y], Obj.arr Ty.str o2, Obj.mp IntKind.i64 Ty.str o3_y, Obj.arr (Ty.st (Ty.pair (Ty.int IntKind.i64) Ty.str)) o4_y, Obj.arr (Ty.int IntKind.i64) ([])], blk := 12288 }
def steplaw12_LogscanOrder_n1 {β : Type} : Ilaw12_LogscanOrder_n1 → Vlaw12_LogscanOrder_n1 → (Vlaw12_LogscanOrder_n1 → Option β) → (Ylaw12_LogscanOrder_n1 → Option β) → Option β := fun (t0, t1, t2, t3, t4, o0_2, o2) (t15, o1_3, o1_6, o3, o4) next exit => (bif decide (t15 < (↑(List.length t4) : Int)) then (bindO (nth t4 t15) fun x => (bindO (nth t4 t15) fun x_2 => (bindO (fnDlogscan_Put (x.fst, x_2.snd.snd.fst, (5 : Int), o0_2, o1_3, (0 : Int), o1_6, o2, o3, o4, [])) (unP fun r => unP fun o1_3_2 => unP fun o1_6_2 => unP fun o3_2 o4_2 => (next (IntKind.wrap IntKind.i64 (t15 + (1 : Int)), o1_3_2, o1_6_2, o3_2, o4_2)))))) else (exit (o1_3, o1_6, o3, o4)))
def stepDlaw12_LogscanOrder_n1 (i : Ilaw12_LogscanOrder_n1) (v : Vlaw12_LogscanOrder_n1) : Option (Vlaw12_LogscanOrder_n1 ⊕ Ylaw12_LogscanOrder_n1) := steplaw12_LogscanOrder_n1 i v (fun v => some (.inl v)) (fun y => some (.inr y))
theorem steplaw12_LogscanOrder_n1_nat (i : Ilaw12_LogscanOrder_n1) (v : Vlaw12_LogscanOrder_n1) (next : Vlaw12_LogscanOrder_n1 → Ans) (exit : Ylaw12_LogscanOrder_n1 → Ans) : steplaw12_LogscanOrder_n1 i v next exit = bindO (stepDlaw12_LogscanOrder_n1 i v) (Sum.elim next exit) := by
  obtain ⟨t0, t1, t2, t3, t4, o0_2, o2⟩ := i
  obtain ⟨t15, o1_3, o1_6, o3, o4⟩ := v
  simp only [stepDlaw12_LogscanOrder_n1, steplaw12_LogscanOrder_n1, bindO_cond, bindO_assoc, bindO_none, bindO_pure, bindO_elim, bindO_unP, Sum.elim_inl, Sum.elim_inr]
theorem steplaw12_LogscanOrder_n1_ok (n : Nat) (i : Ilaw12_LogscanOrder_n1) (v : Vlaw12_LogscanOrder_n1) (K : Ex → St → Ans) : codeI Try.tab envlaw12_LogscanOrder noHint (codeD Try.tab envlaw12_LogscanOrder noHint 0 64) (n+1) 178 annLlaw12_LogscanOrder_n1 (.loop Llaw12_LogscanOrder_n1) (weakP 0 (exk [0, 1, 2, 3, 12] [10] [(0, [0, 1, 2, 3, 12])]) K) (Slaw12_LogscanOrder_n1 i v) = steplaw12_LogscanOrder_n1 i v (fun v' => codeI Try.tab envlaw12_LogscanOrder noHint (codeD Try.tab envlaw12_LogscanOrder noHint 0 64) n 178 annLlaw12_LogscanOrder_n1 (.loop Llaw12_LogscanOrder_n1) (weakP 0 (exk [0, 1, 2, 3, 12] [10] [(0, [0, 1, 2, 3, 12])]) K) (Slaw12_LogscanOrder_n1 i v')) (fun y => outlaw12_LogscanOrder_n1 i K y) := by kernel_rfl
theorem GNlaw12_LogscanOrder_n1_ok : CSum Try.prog 178 (.loop Llaw12_LogscanOrder_n1) (sumL declaw12_LogscanOrder_n1 stepDlaw12_LogscanOrder_n1 outlaw12_LogscanOrder_n1) := csum_loop mixed tabOk envlaw12_LogscanOrderOk 0 (exk [0, 1, 2, 3, 12] [10] [(0, [0, 1, 2, 3, 12])]) annLlaw12_LogscanOrder_n1_ok declaw12_LogscanOrder_n1_ok steplaw12_LogscanOrder_n1_ok steplaw12_LogscanOrder_n1_nat
noncomputable def Glaw12_LogscanOrder_n1 : (Ex → St → Ans) → St → Ans := (sumL declaw12_LogscanOrder_n1 stepDlaw12_LogscanOrder_n1 outlaw12_LogscanOrder_n1)
theorem Glaw12_LogscanOrder_n1_ok : CSum Try.prog 178 (.loop Llaw12_LogscanOrder_n1) Glaw12_LogscanOrder_n1 := GNlaw12_LogscanOrder_n1_ok
noncomputable def Llaw12_LogscanOrder_n0 : Code := codeAt [1, 1, 1, 0, 0] blaw12_LogscanOrder
noncomputable def annLlaw12_LogscanOrder_n0 : Ann := .none
theorem annLlaw12_LogscanOrder_n0_ok : AnnOk Try.prog 178 Llaw12_LogscanOrder_n0 annLlaw12_LogscanOrder_n0 := (annOk_none _ _ _)
abbrev Ilaw12_LogscanOrder_n0 := (Int) × (List (List (Int × List UInt8))) × (Int) × (Int) × (List (Int × Int × List UInt8 × List (Int × List UInt8)))
abbrev Ylaw12_LogscanOrder_n0 := Unit
def Slaw12_LogscanOrder_n0 : Ilaw12_LogscanOrder_n0 → St := fun (t0, t1, t2, t3, t4) => { env := [(0, AV.int IntKind.i64 t0), (1, AV.ro (Ty.list (Ty.st (Ty.pair (Ty.int IntKind.i64) Ty.str))) t1), (2, AV.int IntKind.i64 t2), (3, AV.int IntKind.i64 t3), (4, AV.ro (Ty.st (Ty.pair (Ty.int IntKind.i64) (Ty.pair (Ty.int IntKind.i64) (Ty.pair Ty.str (Ty.list (Ty.st (Ty.pair (Ty.int IntKind.i64) Ty.str))))))) t4), (12, AV.nilp)], stk := [[]], H := [], blk := 12288 }
def declaw12_LogscanOrder_n0 (s : St) : Option Ilaw12_LogscanOrder_n0 := match s with
  | { env := [(0, AV.int IntKind.i64 t0), (1, AV.ro (Ty.list (Ty.st (Ty.pair (Ty.int IntKind.i64) Ty.str))) t1), (2, AV.int IntKind.i64 t2), (3, AV.int IntKind.i64 t3), (4, AV.ro (Ty.st (Ty.pair (Ty.int IntKind.i64) (Ty.pair (Ty.int IntKind.i64) (Ty.pair Ty.str (Ty.list (Ty.st (Ty.pair (Ty.int IntKind.i64) Ty.str))))))) t4), (12, AV.nilp)], stk := [[]], H := [], blk := 12288 } => some (t0, t1, t2, t3, t4)
  | _ => none
theorem declaw12_LogscanOrder_n0_ok (s : St) (x : Ilaw12_LogscanOrder_n0) (h : declaw12_LogscanOrder_n0 s = some x) : s = Slaw12_LogscanOrder_n0 x := by
  unfold declaw12_LogscanOrder_n0 at h
  split at h
  · cases h; rfl
  · cases h
def outlaw12_LogscanOrder_n0 : Ilaw12_LogscanOrder_n0 → (Ex → St → Ans) → Ylaw12_LogscanOrder_n0 → Ans := fun (t0, t1, t2, t3, t4) K => fun _ => K (Ex.norm) { env := [(0, AV.int IntKind.i64 t0), (1, AV.ro (Ty.list (Ty.st (Ty.pair (Ty.int IntKind.i64) Ty.str))) t1), (2, AV.int IntKind.i64 t2), (3, AV.int IntKind.i64 t3), (4, AV.ro (Ty.st (Ty.pair (Ty.int IntKind.i64) (Ty.pair (Ty.int IntKind.i64) (Ty.pair Ty.str (Ty.list (Ty.st (Ty.pair (Ty.int IntKind.i64) Ty.str))))))) t4), (12, AV.nilp), (62, AV.bool (true))], stk := [[]], H := [], blk := 12288 }
def nodelaw12_LogscanOrder_n0 {β : Type} : Ilaw12_LogscanOrder_n0 → (Ylaw12_LogscanOrder_n0 → Option β) → Option β := fun (t0, t1, t2, t3, t4) exit => (bindO (fnDlaw12_great (t4)) fun r => (bif r then (exit ()) else (bif decide ((↑(List.length t1) : Int) > (20 : Int)) then (exit ()) else (exit ()))))
def nodeDlaw12_LogscanOrder_n0 (i : Ilaw12_LogscanOrder_n0) : Option Ylaw12_LogscanOrder_n0 := nodelaw12_LogscanOrder_n0 i some
theorem nodelaw12_LogscanOrder_n0_nat (i : Ilaw12_LogscanOrder_n0) (k : Ylaw12_LogscanOrder_n0 → Ans) : nodelaw12_LogscanOrder_n0 i k = bindO (nodeDlaw12_LogscanOrder_n0 i) k := by
  obtain ⟨t0, t1, t2, t3, t4⟩ := i
  simp only [nodeDlaw12_LogscanOrder_n0, nodelaw12_LogscanOrder_n0, bindO_cond, bindO_assoc, bindO_none, bindO_pure, bindO_elim, bindO_unP]
theorem nodelaw12_LogscanOrder_n0_ok (i : Ilaw12_LogscanOrder_n0) (K : Ex → St → Ans) : codeI Try.tab envlaw12_LogscanOrder noHint (codeD Try.tab envlaw12_LogscanOrder noHint 0 64) 70 178 annLlaw12_LogscanOrder_n0 Llaw12_LogscanOrder_n0 (weakP 0 (exk [0, 1, 2, 3, 4, 12, 62] [10] []) K) (Slaw12_LogscanOrder_n0 i) = nodelaw12_LogscanOrder_n0 i (outlaw12_LogscanOrder_n0 i K) := by kernel_rfl
theorem GNlaw12_LogscanOrder_n0_ok : CSum Try.prog 178 Llaw12_LogscanOrder_n0 (sumN declaw12_LogscanOrder_n0 nodeDlaw12_LogscanOrder_n0 outlaw12_LogscanOrder_n0) := csum_node mixed tabOk envlaw12_LogscanOrderOk 0 (exk [0, 1, 2, 3, 4, 12, 62] [10] []) annLlaw12_LogscanOrder_n0_ok declaw12_LogscanOrder_n0_ok nodelaw12_LogscanOrder_n0_ok nodelaw12_LogscanOrder_n0_nat
abbrev Ilaw12_LogscanOrder_n0v1 := (Int) × (List (List (Int × List UInt8))) × (Int) × (Int) × (List (Int × Int × List UInt8 × List (Int × List UInt8))) × (Int) × (List (List UInt8))
abbrev Ylaw12_LogscanOrder_n0v1 := (Bool)
def Slaw12_LogscanOrder_n0v1 : Ilaw12_LogscanOrder_n0v1 → St := fun (t0, t1, t2, t3, t4, o0_2, o2) => { env := [(0, AV.int IntKind.i64 t0), (1, AV.ro (Ty.list (Ty.st (Ty.pair (Ty.int IntKind.i64) Ty.str))) t1), (2, AV.int IntKind.i64 t2), (3, AV.int IntKind.i64 t3), (4, AV.ro (Ty.st (Ty.pair (Ty.int IntKind.i64) (Ty.pair (Ty.int IntKind.i64) (Ty.pair Ty.str (Ty.list (Ty.st (Ty.pair (Ty.int IntKind.i64) Ty.str))))))) t4), (12, AV.ptr 0 0)], stk := [[]], H := [AE.Obj.cells [AV.ptr 1 0, AV.int IntKind.i64 (5), AV.int IntKind.i64 o0_2], AE.Obj.cells [AV.own 2, AV.map 3, AV.own 4, AV.int IntKind.i64 (0), AV.own 5, AV.int IntKind.i64 (0), AV.bool (false)], Obj.arr Ty.str o2, Obj.mp IntKind.i64 Ty.str ([]), Obj.arr (Ty.st (Ty.pair (Ty.int IntKind.i64) Ty.str)) ([]), Obj.arr (Ty.int IntKind.i64) ([])], blk := 12288 }
def declaw12_LogscanOrder_n0v1 (s : St) : Option Ilaw12_LogscanOrder_n0v1 := match s with
  | { env := [(0, AV.int IntKind.i64 t0), (1, AV.ro (Ty.list (Ty.st (Ty.pair (Ty.int IntKind.i64) Ty.str))) t1), (2, AV.int IntKind.i64 t2), (3, AV.int IntKind.i64 t3), (4, AV.ro (Ty.st (Ty.pair (Ty.int IntKind.i64) (Ty.pair (Ty.int IntKind.i64) (Ty.pair Ty.str (Ty.list (Ty.st (Ty.pair (Ty.int IntKind.i64) Ty.str))))))) t4), (12, AV.ptr 0 0)], stk := [[]], H := [AE.Obj.cells [AV.ptr 1 0, AV.int IntKind.i64 r5, AV.int IntKind.i64 o0_2], AE.Obj.cells [AV.own 2, AV.map 3, AV.own 4, AV.int IntKind.i64 r7, AV.own 5, AV.int IntKind.i64 r8, AV.bool r9], Obj.arr Ty.str o2, Obj.mp IntKind.i64 Ty.str r11, Obj.arr (Ty.st (Ty.pair (Ty.int IntKind.i64) Ty.str)) r12, Obj.arr (Ty.int IntKind.i64) r13], blk := 12288 } => cond (decide (r5 = 5) && decide (r7 = 0) && decide (r8 = 0) && decide (r9 = false) && decide (r11 = []) && decide (r12 = []) && decide (r13 = [])) (some (t0, t1, t2, t3, t4, o0_2, o2)) none
  | _ => none
theorem declaw12_LogscanOrder_n0v1_ok (s : St) (x : Ilaw12_LogscanOrder_n0v1) (h : declaw12_LogscanOrder_n0v1 s = some x) : s = Slaw12_LogscanOrder_n0v1 x := by
  unfold declaw12_LogscanOrder_n0v1 at h
  split at h
  · replace h := cond_noneO h; obtain ⟨hg, h⟩ := h; simp only [Bool.and_eq_true, decide_eq_true_eq] at hg; simp only [hg]; cases h; rfl
  · cases h
def outlaw12_LogscanOrder_n0v1 : Ilaw12_LogscanOrder_n0v1 → (Ex → St → Ans) → Ylaw12_LogscanOrder_n0v1 → Ans := fun (t0, t1, t2, t3, t4, o0_2, o2) K => fun t62_y => K (Ex.norm) { env := [(0, AV.int IntKind.i64 t0), (1, AV.ro (Ty.list (Ty.st (Ty.pair (Ty.int IntKind.i64) Ty.str))) t1), (2, AV.int IntKind.i64 t2), (3, AV.int IntKind.i64 t3), (4, AV.ro (Ty.st (Ty.pair (Ty.int IntKind.i64) (Ty.pair (Ty.int IntKind.i64) (Ty.pair Ty.str (Ty.list (Ty.st (Ty.pair (Ty.int IntKind.i64) Ty.str))))))) t4), (12, AV.ptr 0 0), (62, AV.bool t62_y)], stk := [[]], H := [AE.Obj.cells [AV.ptr 1 0, AV.int IntKind.i64 (5), AV.int IntKind.i64 o0_2], AE.Obj.cells [AV.own 2, AV.map 3, AV.own 4, AV.int IntKind.i64 (0), AV.own 5, AV.int IntKind.i64 (0), AV.bool (false)], Obj.arr Ty.str o2, Obj.mp IntKind.i64 Ty.str ([]), Obj.arr (Ty.st (Ty.pair (Ty.int IntKind.i64) Ty.str)) ([]), Obj.arr (Ty.int IntKind.i64) ([])], blk := 12288 }
def nodelaw12_LogscanOrder_n0v1 {β : Type} : Ilaw12_LogscanOrder_n0v1 → (Ylaw12_LogscanOrder_n0v1 → Option β) → Option β := fun (t0, t1, t2, t3, t4, o0_2, o2) exit => (bindO (fnDlaw12_great (t4)) fun r => (bif r then (exit (true)) else (bif decide ((↑(List.length t1) : Int) > (20 : Int)) then (exit (true)) else (bif decide (t2 < (0 : Int)) then (exit (true)) else (bif decide (t2 ≥ t0) then (exit (true)) else (bif decide (t3 < (0 : Int)) then (exit (true)) else (exit (decide (t3 > (1099511627776 : Int))))))))))
def nodeDlaw12_LogscanOrder_n0v1 (i : Ilaw12_LogscanOrder_n0v1) : Option Ylaw12_LogscanOrder_n0v1 := nodelaw12_LogscanOrder_n0v1 i some
theorem nodelaw12_LogscanOrder_n0v1_nat (i : Ilaw12_LogscanOrder_n0v1) (k : Ylaw12_LogscanOrder_n0v1 → Ans) : nodelaw12_LogscanOrder_n0v1 i k = bindO (nodeDlaw12_LogscanOrder_n0v1 i) k := by
  obtain ⟨t0, t1, t2, t3, t4, o0_2, o2⟩ := i
  simp only [nodeDlaw12_LogscanOrder_n0v1, nodelaw12_LogscanOrder_n0v1, bindO_cond, bindO_assoc, bindO_none, bindO_pure, bindO_elim, bindO_unP]
theorem nodelaw12_LogscanOrder_n0v1_ok (i : Ilaw12_LogscanOrder_n0v1) (K : Ex → St → Ans) : codeI Try.tab envlaw12_LogscanOrder noHint (codeD Try.tab envlaw12_LogscanOrder noHint 0 64) 70 178 annLlaw12_LogscanOrder_n0 Llaw12_LogscanOrder_n0 (weakP 0 (exk [0, 1, 2, 3, 4, 12, 62] [10] []) K) (Slaw12_LogscanOrder_n0v1 i) = nodelaw12_LogscanOrder_n0v1 i (outlaw12_LogscanOrder_n0v1 i K) := by kernel_rfl
theorem GNlaw12_LogscanOrder_n0v1_ok : CSum Try.prog 178 Llaw12_LogscanOrder_n0 (sumN declaw12_LogscanOrder_n0v1 nodeDlaw12_LogscanOrder_n0v1 outlaw12_LogscanOrder_n0v1) := csum_node mixed tabOk envlaw12_LogscanOrderOk 0 (exk [0, 1, 2, 3, 4, 12, 62] [10] []) annLlaw12_LogscanOrder_n0_ok declaw12_LogscanOrder_n0v1_ok nodelaw12_LogscanOrder_n0v1_ok nodelaw12_LogscanOrder_n0v1_nat
noncomputable def Glaw12_LogscanOrder_n0 : (Ex → St → Ans) → St → Ans := (altN declaw12_LogscanOrder_n0 (sumN declaw12_LogscanOrder_n0 nodeDlaw12_LogscanOrder_n0 outlaw12_LogscanOrder_n0) (sumN declaw12_LogscanOrder_n0v1 nodeDlaw12_LogscanOrder_n0v1 outlaw12_LogscanOrder_n0v1))
theorem Glaw12_LogscanOrder_n0_ok : CSum Try.prog 178 Llaw12_LogscanOrder_n0 Glaw12_LogscanOrder_n0 := (csum_altN GNlaw12_LogscanOrder_n0_ok GNlaw12_LogscanOrder_n0v1_ok)
noncomputable def annlaw12_LogscanOrder : Ann := (.seq .none (.seq .none (.seq .none (.seq (.seq (.cut 0 [0, 1, 2, 3, 4, 12] Glaw12_LogscanOrder_n0) .none) (.seq (.seq .none (.block (.cut 0 [0, 1, 2, 3, 4, 12, 15] Glaw12_LogscanOrder_n1))) (.seq .none (.seq .none (.seq (.seq .none (.block (.cut 0 [0, 1, 2, 3, 12, 16, 17, 18, 19] Glaw12_LogscanOrder_n2))) (.seq .none (.seq (.seq (.cut 0 [3, 17, 18, 23, 24] Glaw12_LogscanOrder_n5) .none) (.seq (.seq .none (.block (.cut 0 [3, 17, 18, 23, 25] Glaw12_LogscanOrder_n6))) .none)))))))))))
theorem annlaw12_LogscanOrder_ok : AnnOk Try.prog 178 blaw12_LogscanOrder annlaw12_LogscanOrder := ⟨(annOk_none _ _ _), ⟨(annOk_none _ _ _), ⟨(annOk_none _ _ _), ⟨⟨Glaw12_LogscanOrder_n0_ok, (annOk_none _ _ _)⟩, ⟨⟨(annOk_none _ _ _), Glaw12_LogscanOrder_n1_ok⟩, ⟨(annOk_none _ _ _), ⟨(annOk_none _ _ _), ⟨⟨(annOk_none _ _ _), Glaw12_LogscanOrder_n2_ok⟩, ⟨(annOk_none _ _ _), ⟨⟨Glaw12_LogscanOrder_n5_ok, (annOk_none _ _ _)⟩, ⟨⟨(annOk_none _ _ _), Glaw12_LogscanOrder_n6_ok⟩, (annOk_none _ _ _)⟩⟩⟩⟩⟩⟩⟩⟩⟩⟩⟩
abbrev Alaw12_LogscanOrder := (Int) × (List (List (Int × List UInt8))) × (Int) × (Int) × (List (Int × Int × List UInt8 × List (Int × List UInt8)))
abbrev Ylaw12_LogscanOrder := (Bool)
def fnlaw12_LogscanOrder {β : Type} : Alaw12_LogscanOrder → (Ylaw12_LogscanOrder → Option β) → Option β := fun (a0, a1, a2, a3, a4) exit => (bindO (fnDlaw12_works ()) fun r => (bif !r then (exit (false)) else (bindO (fnDlaw12_both (a0)) (Sum.elim (fun _ => (bindO (nodeDlaw12_LogscanOrder_n0 (a0, a1, a2, a3, a4)) fun _ => (exit (true)))) (unP fun o4 => unP fun o8 o9 => (bindO (nodeDlaw12_LogscanOrder_n0v1 (a0, a1, a2, a3, a4, a0, o4)) fun t62 => (bif t62 then (exit (true)) else (bindO (loopD (stepDlaw12_LogscanOrder_n1 (a0, a1, a2, a3, a4, a0, o4)) FUEL ((0 : Int), (0 : Int), false, [], [])) (unP fun o1_3 => unP fun o1_6 => unP fun o3 o4_2 => (bindO (loopD (stepDlaw12_LogscanOrder_n2 (a0, a1, a2, a3, a0, o4)) FUEL ((0 : Int), (0 : Int), (0 : Int), [], o1_3, o1_6, o3, o4_2)) (Sum.elim (fun t10 => (exit (t10))) (unP fun t17 => unP fun o1 => unP fun o2_3 => unP fun o2_6 => unP fun o4_3 o5 => (bindO (fnDlaw12_told (a2, a3, (1000 : Int), (5 : Int), a0, o2_3, (0 : Int), o2_6, o4, o4_3, o5, [])) (unP fun r_1 => unP fun o1_3_2 => unP fun o1_6_2 o6 => (bindO (nodeDlaw12_LogscanOrder_n5 (a3, t17, r_1, o1, o6)) fun t150 => (bif t150 then (exit (false)) else (bindO (loopD (stepDlaw12_LogscanOrder_n6 (a3, t17, o1, o6)) FUEL ((0 : Int))) (Sum.elim (fun _ => (exit (false))) (fun _ => (exit (true)))))))))))))))))))))
def fnDlaw12_LogscanOrder (a : Alaw12_LogscanOrder) : Option Ylaw12_LogscanOrder := fnlaw12_LogscanOrder a some
theorem fnlaw12_LogscanOrder_nat (a : Alaw12_LogscanOrder) (k : Ylaw12_LogscanOrder → Ans) : fnlaw12_LogscanOrder a k = bindO (fnDlaw12_LogscanOrder a) k := by
  obtain ⟨a0, a1, a2, a3, a4⟩ := a
  simp only [fnDlaw12_LogscanOrder, fnlaw12_LogscanOrder, bindO_cond, bindO_assoc, bindO_none, bindO_pure, bindO_elim, bindO_unP]
def argslaw12_LogscanOrder : Alaw12_LogscanOrder → List AV × List AE.Obj := fun (a0, a1, a2, a3, a4) => ([AV.int IntKind.i64 a0, AV.ro (Ty.list (Ty.st (Ty.pair (Ty.int IntKind.i64) Ty.str))) a1, AV.int IntKind.i64 a2, AV.int IntKind.i64 a3, AV.ro (Ty.st (Ty.pair (Ty.int IntKind.i64) (Ty.pair (Ty.int IntKind.i64) (Ty.pair Ty.str (Ty.list (Ty.st (Ty.pair (Ty.int IntKind.i64) Ty.str))))))) a4], [])
def decAlaw12_LogscanOrder (l : List AV) (H : List AE.Obj) : Option Alaw12_LogscanOrder := match l, H with
  | [AV.int IntKind.i64 a0, AV.ro (Ty.list (Ty.st (Ty.pair (Ty.int IntKind.i64) Ty.str))) a1, AV.int IntKind.i64 a2, AV.int IntKind.i64 a3, AV.ro (Ty.st (Ty.pair (Ty.int IntKind.i64) (Ty.pair (Ty.int IntKind.i64) (Ty.pair Ty.str (Ty.list (Ty.st (Ty.pair (Ty.int IntKind.i64) Ty.str))))))) a4], [] => some (a0, a1, a2, a3, a4)
  | _, _ => none
theorem decAlaw12_LogscanOrder_ok (l : List AV) (H : List AE.Obj) (a : Alaw12_LogscanOrder) (h : decAlaw12_LogscanOrder l H = some a) : (l, H) = argslaw12_LogscanOrder a := by
  unfold decAlaw12_LogscanOrder at h
  split at h
  · cases h; rfl
  · cases h
def outlaw12_LogscanOrder : Alaw12_LogscanOrder → (AV → List AE.Obj → Ans) → Ylaw12_LogscanOrder → Ans := fun (a0, a1, a2, a3, a4) K => fun r_y => K (AV.bool r_y) []
theorem fnlaw12_LogscanOrder_ok (a : Alaw12_LogscanOrder) (K : AV → List AE.Obj → Ans) : fnE Try.tab envlaw12_LogscanOrder noHint 0 70 3 Try.f3.ntmps Try.f3.results.toList annlaw12_LogscanOrder blaw12_LogscanOrder (argslaw12_LogscanOrder a).1 (argslaw12_LogscanOrder a).2 K = fnlaw12_LogscanOrder a (outlaw12_LogscanOrder a K) := by kernel_rfl
def vFlaw12_LogscanOrder (a : Alaw12_LogscanOrder) (K : AV → List AE.Obj → Ans) : Ans := bindO (fnDlaw12_LogscanOrder a) fun y => outlaw12_LogscanOrder a K y
def Flaw12_LogscanOrder : List AV → List AE.Obj → (AV → List AE.Obj → Ans) → Ans := fun l H K => bindO (decAlaw12_LogscanOrder l H) fun a => vFlaw12_LogscanOrder a K
theorem Flaw12_LogscanOrder_ok : FuncOk Try.prog 3 Flaw12_LogscanOrder := func_mkD (hint := noHint) (d := 0) (n := 70) mixed tabOk envlaw12_LogscanOrderOk Try.func3 (bodySome (by kernel_rfl)) (by decide +kernel) annlaw12_LogscanOrder_ok decAlaw12_LogscanOrder_ok fnlaw12_LogscanOrder_ok fnlaw12_LogscanOrder_nat
end Go.Proofs.R4
namespace Go.Proofs.R4
open Go Go.AE Go.Plain

theorem wrapU32 {m : Nat} (h : m < 4294967296) : IntKind.wrap .u32 (m : Int) = (m : Int) := by
  simp [IntKind.wrap, IntKind.bits, IntKind.signed]; omega
theorem wrapU8 (m : Nat) : IntKind.wrap .u8 (m : Int) = ((m % 256 : Nat) : Int) := by
  simp [IntKind.wrap, IntKind.bits, IntKind.signed]
theorem natU32 {m : Nat} (h : m < 4294967296) : Int.toNat ((m : Int) % 4294967296) = m := by omega
theorem nat64 {m : Nat} (h : m < 9223372036854775808) : Int.toNat ((m : Int) % 18446744073709551616) = m := by omega
theorem wrapN {m : Nat} (h : m ≤ 9223372036854775807) : IntKind.wrap .i64 (m : Int) = (m : Int) := wrap64 (by omega) (by omega)
theorem pow_min (a b : Nat) : (2 : Int) ^ min a b = ((2 ^ min a b : Nat) : Int) := by simp
theorem fdiv_nat (m p : Nat) : Int.fdiv (m : Int) (p : Int) = ((m / p : Nat) : Int) := by rw [Int.fdiv_eq_ediv_of_nonneg _ (by omega)]; rfl
theorem tdiv_nat (m p : Nat) : Int.tdiv (m : Int) (p : Int) = ((m / p : Nat) : Int) := rfl
theorem tmod_nat (m p : Nat) : Int.tmod (m : Int) (p : Int) = ((m % p : Nat) : Int) := rfl

/-! ### cyclic -/
theorem bitStep_eq {n : Nat} (h : n < 4294967296) : IntKind.wrap .u32 (((Int.toNat (Int.fdiv (n : Int) 2 % 4294967296) ^^^ Int.toNat (IntKind.wrap .u32 (((3988292384 &&&
    Int.toNat (IntKind.wrap .u32 ((0 : Int) - IntKind.wrap .u32 (((Int.toNat ((n : Int) % 4294967296) &&& 1 : Nat)) : Int)) % 4294967296) : Nat)) : Int) % 4294967296) : Nat)) : Int) = ((bitStep n : Nat) : Int) := by
  have e1 : Int.fdiv (n : Int) 2 = ((n / 2 : Nat) : Int) := fdiv_nat n 2
  rw [e1, natU32 (m := n / 2) (by omega), natU32 h, Nat.and_one_is_mod]
  have hlt := bitStep_lt (n := n) (by omega)
  unfold bitStep at hlt ⊢
  have hn : n % 2 = 0 ∨ n % 2 = 1 := by omega
  rcases hn with hn | hn <;> rw [hn] at hlt ⊢
  · have : Int.toNat (IntKind.wrap .u32 (((3988292384 &&& Int.toNat (IntKind.wrap .u32 ((0 : Int) - IntKind.wrap .u32 ((0 : Nat) : Int)) % 4294967296) : Nat)) : Int) % 4294967296) = 0 := by decide
    rw [this]
    exact wrapU32 hlt
  · have : Int.toNat (IntKind.wrap .u32 (((3988292384 &&& Int.toNat (IntKind.wrap .u32 ((0 : Int) - IntKind.wrap .u32 ((1 : Nat) : Int)) % 4294967296) : Nat)) : Int) % 4294967296) = poly := by decide
    rw [this]
    exact wrapU32 hlt
theorem bits_succ (k n : Nat) : nbits (k + 1) n = bitStep (nbits k n) := by rw [← bits_add k 1]; rfl
theorem cyclic_step_eq {n c : Nat} (hn : n < 4294967296) (hc : c < 256) : fnDcyclic_step ((n : Int), (c : Int)) = some ((byteStep n c : Nat) : Int) := by
  have hx : n ^^^ c < 4294967296 := Nat.xor_lt_two_pow (n := 32) hn (by omega)
  have key : ∃ y, loopD (stepDcyclic_step_n0 ()) FUEL (((n ^^^ c : Nat) : Int), (0 : Int)) = some y ∧ y = ((byteStep n c : Nat) : Int) := by
    refine loopD_inv (fun j v => j ≤ 8 ∧ v = (((nbits j (n ^^^ c) : Nat) : Int), (j : Int))) 8 _ ?_ ⟨by omega, rfl⟩ (by omega)
    rintro j v ⟨hj, rfl⟩
    have hb := bits_lt j (n := n ^^^ c) hx
    by_cases h8 : j < 8
    · left
      refine ⟨_, ?_, h8, by omega, rfl⟩
      simp only [stepDcyclic_step_n0, stepcyclic_step_n0, dec_true (show (j : Int) < 8 by omega), cond_true]
      rw [bitStep_eq hb, wrap64_nat (by omega), bits_succ]
    · right
      obtain rfl : j = 8 := by omega
      refine ⟨_, ?_, rfl⟩
      simp only [stepDcyclic_step_n0, stepcyclic_step_n0, dec_false (show ¬ ((8 : Nat) : Int) < 8 by omega), cond_false]
      rfl
  obtain ⟨y, hy, rfl⟩ := key
  have e : IntKind.wrap .u32 (((Int.toNat ((n : Int) % 4294967296) ^^^ Int.toNat (IntKind.wrap .u32 (c : Int) % 4294967296) : Nat)) : Int) = ((n ^^^ c : Nat) : Int) := by
    rw [natU32 hn, wrapU32 (m := c) (by omega), natU32 (m := c) (by omega), wrapU32 hx]
  simp only [fnDcyclic_step, fncyclic_step]
  rw [e, hy]
  rfl
theorem run_take (m : Nat) {s : List UInt8} {j : Nat} {c : UInt8} (h : s[j]? = some c) : crun m (s.take (j + 1)) = byteStep (crun m (s.take j)) c.toNat := by
  rw [List.take_add_one, h, run_append]; rfl
theorem xor_all {n : Nat} (hn : n < 4294967296) : IntKind.wrap .u32 (((Int.toNat ((n : Int) % 4294967296) ^^^ 4294967295 : Nat)) : Int) = ((n ^^^ all32 : Nat) : Int) := by
  rw [natU32 hn, wrapU32 (Nat.xor_lt_two_pow (n := 32) hn (by decide))]
  rfl
theorem cyclic_Of_eq (s : List UInt8) (hs : s.length ≤ 1000000000000) : fnDcyclic_Of s = some ((crc s : Nat) : Int) := by
  have key : ∃ y, loopD (stepDcyclic_State_Add_n0 (s, (s.length : Int), 0)) FUEL (((all32 : Nat) : Int), ((0 : Nat) : Int)) = some y ∧ y = ((crun all32 s : Nat) : Int) := by
    refine loopD_each s (fun j (_ : Unit) => (((crun all32 (s.take j) : Nat) : Int), (j : Int))) (fun _ _ => True) _ ?_ ?_ (s0 := ()) trivial (by omega)
    · intro j c _ hj hlt _
      left
      refine ⟨(), ?_, trivial⟩
      have hr := run_lt (s.take j) (n := all32) (by decide)
      simp only [stepDcyclic_State_Add_n0, stepcyclic_State_Add_n0, dec_true (show (j : Int) < (s.length : Int) by omega), cond_true, nth_of hj, bindO_pure, wrap64_nat (show j < 9223372036854775807 by omega), cyclic_step_eq hr c.toNat_lt, run_take all32 hj]
    · intro _ _
      simp only [stepDcyclic_State_Add_n0, stepcyclic_State_Add_n0, dec_false (show ¬ (s.length : Int) < (s.length : Int) by omega), cond_false]
      exact ⟨_, rfl, by rw [List.take_length]⟩
  obtain ⟨y, hy, rfl⟩ := key
  have hr := run_lt s (n := all32) (by decide)
  have hc : crun all32 s ^^^ all32 < 4294967296 := crc_lt s
  have h0 : IntKind.wrap .u32 (((Int.toNat ((0 : Int) % 4294967296) ^^^ 4294967295 : Nat)) : Int) = ((all32 : Nat) : Int) := by decide
  simp only [fnDcyclic_Of, fncyclic_Of, fnDcyclic_New, fncyclic_New, fnDcyclic_State_Add, fncyclic_State_Add, fnDcyclic_State_Sum, fncyclic_State_Sum, bindO_pure]
  have hy' : loopD (stepDcyclic_State_Add_n0 (s, (s.length : Int), 0)) FUEL (((all32 : Nat) : Int), 0) = _ := hy
  rw [h0, hy']
  simp only [bindO_pure]
  rw [xor_all hr, wrapN (by omega)]
  rfl
theorem byte8 (n p : Nat) : UInt8.ofNat (Int.toNat (IntKind.wrap .u8 (Int.fdiv (n : Int) (p : Int)))) = UInt8.ofNat (n / p % 256) := by
  rw [fdiv_nat, wrapU8]
  rfl
theorem cyclic_Tail_eq (s : List UInt8) (hs : s.length ≤ 1000000000000) : fnDcyclic_Tail s = some (tail s) := by
  simp only [fnDcyclic_Tail, fncyclic_Tail, cyclic_Of_eq s hs, bindO_pure, nodeDcyclic_Tail_n0, nodecyclic_Tail_n0, nodeDcyclic_Tail_n1, nodecyclic_Tail_n1, nodeDcyclic_Tail_n1v1, nodecyclic_Tail_n1v1, nodeDcyclic_Tail_n1v2, nodecyclic_Tail_n1v2, nodeDcyclic_Tail_n1v3, nodecyclic_Tail_n1v3, nodeDcyclic_Tail_n1v4, nodecyclic_Tail_n1v4, unP]
  have b0 := byte8 (crc s) 1
  have b1 := byte8 (crc s) 256
  have b2 := byte8 (crc s) 65536
  have b3 := byte8 (crc s) 16777216
  simp only [Int.cast_ofNat_Int] at b0 b1 b2 b3
  unfold bytesOf tail le4
  simp only [List.map_cons, List.map_nil]
  rw [b0, b1, b2, b3, Nat.div_one]
/-! ### padding -/
theorem repeat_zero : ∀ n : Nat, Lib.repeatL [0] n = List.replicate n 0
  | 0 => rfl
  | n + 1 => by rw [Lib.repeatL, repeat_zero n, List.replicate_succ]; rfl
theorem region_Pad_eq (s : List UInt8) (hs : s.length ≤ 1000000000000) : fnDregion_Pad s = some (padTo s) := by
  have e : Int.tmod (s.length : Int) 64 = ((s.length % 64 : Nat) : Int) := rfl
  simp only [fnDregion_Pad, fnregion_Pad, e]
  by_cases h : s.length % 64 = 0
  · rw [dec_false (by omega), cond_false, padTo, h]
    simp
  · have e2 : IntKind.wrap .i64 ((64 : Int) - ((s.length % 64 : Nat) : Int)) = ((64 - s.length % 64 : Nat) : Int) := by rw [wrap64 (by omega) (by omega)]; omega
    rw [dec_true (by omega), cond_true, e2]
    have : fnDstrings_Repeat ([0], ((64 - s.length % 64 : Nat) : Int)) = some (List.replicate (64 - s.length % 64) 0) := by
      unfold fnDstrings_Repeat
      rw [repeat_zero]
      simp only [Int.toNat_natCast, List.length_cons, List.length_nil]
      rw [dec_true (by omega), dec_true (by omega), ble_true (by omega)]
      rfl
    rw [this]
    simp only [bindO_pure]
    rw [ble_true (by rw [List.length_replicate]; omega), cond_true, padTo, show (64 - s.length % 64) % 64 = 64 - s.length % 64 by omega]
/-! ### numbers of a fixed width -/
theorem pow256 (k : Nat) : (2 : Nat) ^ (8 * k) = 256 ^ k := by rw [Nat.pow_mul]
theorem field_Fits_eq (n : Int) (k : Nat) (hk : 1 ≤ k ∧ k ≤ 7) : fnDfield_Fits (n, (k : Int)) = some (decide (0 ≤ n ∧ n < ((256 ^ k : Nat) : Int))) := by
  have w : IntKind.wrap .i64 ((8 : Int) * (k : Int)) = ((8 * k : Nat) : Int) := by rw [wrap64 (by omega) (by omega)]; omega
  simp only [fnDfield_Fits, fnfield_Fits, nodeDfield_Fits_n0, nodefield_Fits_n0, fnDfield_width, fnfield_width, nodeDfield_width_n0, nodefield_width_n0, bindO_pure]
  rw [dec_true (show (k : Int) ≥ 1 by omega), dec_true (show (k : Int) ≤ 7 by omega), cond_true]
  simp only [bindO_pure, cond_true]
  by_cases h0 : n ≥ 0
  · rw [dec_true h0, cond_true, w, dec_false (by omega), cond_false]
    simp only [bindO_pure]
    obtain ⟨m, rfl⟩ := Int.eq_ofNat_of_zero_le h0
    have : min (Int.toNat ((8 * k : Nat) : Int)) 64 = 8 * k := by simp only [Int.toNat_natCast]; omega
    rw [this]
    have : (2 : Int) ^ (8 * k) = ((2 ^ (8 * k) : Nat) : Int) := by simp
    rw [this, fdiv_nat, pow256]
    have hp : 0 < 256 ^ k := Nat.pow_pos (by omega)
    congr 1
    rw [Bool.eq_iff_iff, beq_iff_eq, decide_eq_true_eq]
    have : m / 256 ^ k = 0 ↔ m < 256 ^ k := Nat.div_eq_zero_iff_lt hp
    omega
  · rw [dec_false h0, cond_false]
    simp only [bindO_pure]
    rw [dec_false (by omega)]
/-- A number's bytes behind others, if it has so many. -/
def putN (s : List UInt8) (n : Int) (k : Nat) : List UInt8 := if 0 ≤ n ∧ n < ((256 ^ k : Nat) : Int) then s ++ be k n.toNat else s
theorem putN_len (s : List UInt8) (n : Int) (k : Nat) : (putN s n k).length ≤ s.length + k := by
  unfold putN; split
  · rw [List.length_append, be_length]; omega
  · omega
theorem set_byte (k n j : Nat) (hj : j < k) : (bytesOf ((intsOf (be k n)).take j ++ List.replicate (k - j) 0)).length = k := by
  simp [bytesOf, intsOf, be_length]; omega
theorem bytes_ints (s : List UInt8) : bytesOf (intsOf s) = s := by
  unfold bytesOf intsOf
  rw [List.map_map]
  conv => rhs; rw [← List.map_id s]
  refine List.map_congr_left fun c _ => ?_
  simp
theorem field_Put_eq (s : List UInt8) (n : Int) (k : Nat) (hk : 1 ≤ k ∧ k ≤ 7) (hs : s.length ≤ 1000000000000) : fnDfield_Put (s, n, (k : Int)) = some (putN s n k) := by
  simp only [fnDfield_Put, fnfield_Put, field_Fits_eq n k hk, bindO_pure]
  unfold putN
  by_cases hf : 0 ≤ n ∧ n < ((256 ^ k : Nat) : Int)
  · rw [if_pos hf, dec_true hf]
    obtain ⟨m, rfl⟩ := Int.eq_ofNat_of_zero_le hf.1
    simp only [Bool.not_true, cond_false, Int.toNat_natCast]
    rw [dec_true (show (0 : Int) ≤ k by omega), dec_true (show (k : Int) ≤ k by omega), dec_true (show (1 : Int) * k ≤ 281474976710656 by omega), dec_true (show (k : Int) ≤ 9223372036854775807 by omega)]
    simp only [Bool.and_self, cond_true, List.length_replicate]
    have key : ∃ y, loopD (stepDfield_Put_n0 (s, (m : Int), (k : Int), (k : Int))) FUEL (((0 : Nat) : Int), List.replicate k (0 : Int)) = some y ∧ y = intsOf (be k m) := by
      refine loopD_inv (fun j v => j ≤ k ∧ v = ((j : Int), (intsOf (be k m)).take j ++ List.replicate (k - j) 0)) k _ ?_ ⟨by omega, by simp⟩ (by omega)
      rintro j v ⟨hj, rfl⟩
      by_cases hlt : j < k
      · left
        refine ⟨_, ?_, hlt, by omega, rfl⟩
        have w1 : IntKind.wrap .i64 ((k : Int) - 1) = ((k - 1 : Nat) : Int) := by rw [wrap64 (by omega) (by omega)]; omega
        have w2 : IntKind.wrap .i64 (((k - 1 : Nat) : Int) - (j : Int)) = ((k - 1 - j : Nat) : Int) := by rw [wrap64 (by omega) (by omega)]; omega
        have w3 : IntKind.wrap .i64 ((8 : Int) * ((k - 1 - j : Nat) : Int)) = ((8 * (k - 1 - j) : Nat) : Int) := by rw [wrap64 (by omega) (by omega)]; omega
        have hlen : ((intsOf (be k m)).take j ++ List.replicate (k - j) (0 : Int)).length = k := by simp [intsOf, be_length]; omega
        have hget : ((intsOf (be k m)).take j ++ List.replicate (k - j) (0 : Int))[j]? = some 0 := by
          rw [List.getElem?_append_right (by simp [intsOf, be_length]; omega), List.getElem?_replicate, if_pos (by simp [intsOf, be_length]; omega)]
        simp only [stepDfield_Put_n0, stepfield_Put_n0, dec_true (show (j : Int) < (k : Int) by omega), cond_true, w1, w2, w3, dec_false (show ¬ ((8 * (k - 1 - j) : Nat) : Int) < 0 by omega), cond_false, hlen,
          inR_true (show (0 : Int) ≤ (j : Int) ∧ (j : Int) < (k : Int) by omega), Int.toNat_natCast, hget, bindO_pure, wrap64_nat (show j < 9223372036854775807 by omega)]
        have hm : min (8 * (k - 1 - j)) 64 = 8 * (k - 1 - j) := by omega
        have hp : (2 : Int) ^ (8 * (k - 1 - j)) = ((256 ^ (k - 1 - j) : Nat) : Int) := by rw [← pow256]; simp
        rw [hm, hp, fdiv_nat, wrapU8]
        have hb := be_get k m j hlt
        have hi : (intsOf (be k m))[j]? = some ((m / 256 ^ (k - 1 - j) % 256 : Nat) : Int) := by
          unfold intsOf
          rw [List.getElem?_map, hb]
          simp [ofNat_mod]
        congr 3
        apply List.ext_getElem?
        intro i
        have h1 : (intsOf (be k m)).length = k := by simp [intsOf, be_length]
        rw [List.getElem?_set]
        by_cases hij : j = i
        · subst hij
          rw [if_pos rfl, if_pos (by rw [hlen]; omega), List.getElem?_append_left (by rw [List.length_take]; omega), List.getElem?_take_of_lt (by omega), hi]
        · rw [if_neg hij]
          by_cases hij2 : i < j
          · rw [List.getElem?_append_left (by rw [List.length_take]; omega), List.getElem?_append_left (by rw [List.length_take]; omega), List.getElem?_take_of_lt hij2, List.getElem?_take_of_lt (by omega)]
          · rw [List.getElem?_append_right (by rw [List.length_take]; omega), List.getElem?_append_right (by rw [List.length_take]; omega), List.getElem?_replicate, List.getElem?_replicate, List.length_take, List.length_take]
            split <;> split <;> first | rfl | omega
      · right
        obtain rfl : j = k := by omega
        simp only [stepDfield_Put_n0, stepfield_Put_n0, dec_false (show ¬ (j : Int) < (j : Int) by omega), cond_false]
        refine ⟨_, rfl, ?_⟩
        rw [Nat.sub_self, List.replicate_zero, List.append_nil, List.take_of_length_le (by simp [intsOf, be_length])]
    obtain ⟨y, hy, rfl⟩ := key
    have hy' : loopD (stepDfield_Put_n0 (s, (m : Int), (k : Int), (k : Int))) FUEL (0, List.replicate k (0 : Int)) = _ := hy
    rw [hy']
    simp only [bindO_pure, bytes_ints, be_length]
    rw [ble_true (by omega), cond_true]
  · rw [if_neg hf, dec_false hf]
    rfl
end Go.Proofs.R4
namespace Go.Proofs.R4
open Go Go.AE Go.Plain

theorem Reader_Bytes_eq (n : Nat) (r : List UInt8) (h : n ≤ r.length) (hl : r.length ≤ 1000000000000) : fnDfield_Reader_Bytes ((n : Int), r, 0) = some (r.take n, r.drop n, 0) := by
  simp only [fnDfield_Reader_Bytes, fnfield_Reader_Bytes, nodeDfield_Reader_Bytes_n0, nodefield_Reader_Bytes_n0]
  rw [dec_false (show ¬ (n : Int) < 0 by omega), cond_false, dec_false (show ¬ (n : Int) > (r.length : Int) by omega), cond_false]
  simp only [bindO_pure]
  rw [inR_true (show (0 : Int) ≤ (n : Int) ∧ (n : Int) < ((r.length + 1 : Nat) : Int) by omega)]
  rfl
theorem or_byte (n c : Nat) (hc : c < 256) : (n * 256) ||| c = 256 * n + c := by
  have := Nat.shiftLeft_add_eq_or_of_lt (i := 8) (b := c) (by omega) n
  rw [Nat.shiftLeft_eq] at this
  simp only [show (2 : Nat) ^ 8 = 256 from rfl] at this
  omega
theorem Reader_Num_eq (k : Nat) (r : List UInt8) (hk : 1 ≤ k ∧ k ≤ 7) (h : k ≤ r.length) (hl : r.length ≤ 1000000000000) : fnDfield_Reader_Num ((k : Int), r, 0) = some (((num (r.take k) : Nat) : Int), r.drop k, 0) := by
  simp only [fnDfield_Reader_Num, fnfield_Reader_Num, fnDfield_width, fnfield_width, nodeDfield_width_n0, nodefield_width_n0, bindO_pure]
  rw [dec_true (show (k : Int) ≥ 1 by omega), dec_true (show (k : Int) ≤ 7 by omega), cond_true]
  simp only [bindO_pure, Bool.not_true, cond_false, Reader_Bytes_eq k r h hl, unP]
  have hlen : (r.take k).length = k := by rw [List.length_take]; omega
  have hil : (intsOf (r.take k)).length = k := by rw [intsOf, List.length_map, hlen]
  rw [ble_true (by omega), cond_true, hil]
  have key : ∃ y, loopD (stepDfield_Reader_Num_n0 ((k : Int), r.drop k, 0, intsOf (r.take k))) FUEL ((0 : Int), ((0 : Nat) : Int)) = some y ∧ y = ((num (r.take k) : Nat) : Int) := by
    refine loopD_inv (fun j v => j ≤ k ∧ v = (((num (r.take j) : Nat) : Int), (j : Int))) k _ ?_ ⟨by omega, by simp [num]⟩ (by omega)
    rintro j v ⟨hj, rfl⟩
    by_cases hlt : j < k
    · left
      refine ⟨_, ?_, hlt, by omega, rfl⟩
      have hget : r[j]? = some r[j] := List.getElem?_eq_getElem (by omega)
      generalize r[j] = c at hget
      have hi : (intsOf (r.take k))[j]? = some ((c.toNat : Nat) : Int) := by
        rw [intsOf, List.getElem?_map, List.getElem?_take_of_lt hlt, hget]; rfl
      have hn := num_lt (r.take j)
      have hp : 256 ^ (r.take j).length ≤ 256 ^ 6 := Nat.pow_le_pow_right (by omega) (by rw [List.length_take]; omega)
      have hc : c.toNat < 256 := c.toNat_lt
      have e1 : IntKind.wrap .i64 (((num (r.take j) : Nat) : Int) * 256) = ((num (r.take j) * 256 : Nat) : Int) := by rw [wrap64 (by omega) (by omega)]; omega
      have e2 : num (r.take (j + 1)) = 256 * num (r.take j) + c.toNat := by rw [List.take_add_one, hget]; exact num_snoc _ _
      simp only [stepDfield_Reader_Num_n0, stepfield_Reader_Num_n0, dec_true (show (j : Int) < (k : Int) by omega), cond_true, hil, inR_true (show (0 : Int) ≤ (j : Int) ∧ (j : Int) < (k : Int) by omega), Int.toNat_natCast, hi, bindO_pure, e1,
        wrapN (m := c.toNat) (show c.toNat ≤ 9223372036854775807 by omega), nat64 (m := num (r.take j) * 256) (show num (r.take j) * 256 < 9223372036854775808 by omega), nat64 (m := c.toNat) (show c.toNat < 9223372036854775808 by omega), or_byte _ _ hc,
        wrapN (m := 256 * num (r.take j) + c.toNat) (show 256 * num (r.take j) + c.toNat ≤ 9223372036854775807 by omega), wrap64_nat (show j < 9223372036854775807 by omega), e2]
    · right
      obtain rfl : j = k := by omega
      simp only [stepDfield_Reader_Num_n0, stepfield_Reader_Num_n0, dec_false (show ¬ (j : Int) < (j : Int) by omega), cond_false]
      exact ⟨_, rfl, rfl⟩
  obtain ⟨y, hy, rfl⟩ := key
  have hy' : loopD (stepDfield_Reader_Num_n0 ((k : Int), r.drop k, 0, intsOf (r.take k))) FUEL (0, 0) = _ := hy
  rw [hy']
  rfl
/-- A reference's own 'number': a loop that is alike in all of them. -/
theorem number_loop (f : List UInt8 → Int × Int → Option ((Int × Int) ⊕ Int)) (s : List UInt8) (hs : s.length ≤ 7)
    (h1 : ∀ (n j : Int), decide (j < (s.length : Int)) = true → f s (n, j) = bindO (nth s j) fun x => some (.inl (IntKind.wrap .i64 (IntKind.wrap .i64 (256 * n) + IntKind.wrap .i64 (x.toNat : Int)), IntKind.wrap .i64 (j + 1))))
    (h2 : ∀ (n j : Int), decide (j < (s.length : Int)) = false → f s (n, j) = some (.inr n)) : loopD (f s) FUEL (0, 0) = some ((num s : Nat) : Int) := by
  have key : ∃ y, loopD (f s) FUEL ((0 : Int), ((0 : Nat) : Int)) = some y ∧ y = ((num s : Nat) : Int) := by
    refine loopD_each s (fun j (_ : Unit) => (((num (s.take j) : Nat) : Int), (j : Int))) (fun _ _ => True) _ ?_ ?_ (s0 := ()) trivial (by omega)
    · intro j c _ hj hlt _
      left
      refine ⟨(), ?_, trivial⟩
      have hn := num_lt (s.take j)
      have hp : 256 ^ (s.take j).length ≤ 256 ^ 6 := Nat.pow_le_pow_right (by omega) (by rw [List.length_take]; omega)
      have hc : c.toNat < 256 := c.toNat_lt
      have e2 : num (s.take (j + 1)) = 256 * num (s.take j) + c.toNat := by rw [List.take_add_one, hj]; exact num_snoc _ _
      rw [h1 _ _ (dec_true (by omega)), nth_of hj, bindO_pure, wrap64_nat (by omega), wrap64 (x := 256 * ((num (s.take j) : Nat) : Int)) (by omega) (by omega), wrapN (m := c.toNat) (by omega), wrap64 (by omega) (by omega), e2]
      congr 3
    · intro _ _
      rw [h2 _ _ (dec_false (by omega)), List.take_length]
      exact ⟨_, rfl, rfl⟩
  obtain ⟨y, hy, rfl⟩ := key
  exact hy
end Go.Proofs.R4
namespace Go.Proofs.R4
open Go Go.AE
theorem Builder_String_eq (s : List UInt8) (h : s.length ≤ 9223372036854775807) : fnDBuilder_String (intsOf s) = some (s, intsOf s) := by
  unfold fnDBuilder_String
  rw [ble_true (by simpa [intsOf] using h), cond_true, bytes_ints]
theorem intsOf_append (a b : List UInt8) : intsOf (a ++ b) = intsOf a ++ intsOf b := by simp [intsOf]
theorem Builder_WriteString_eq (s : List UInt8) (l : List UInt8) (h : s.length + l.length ≤ 140737488355328) : fnDstrings_Builder_WriteString (s, intsOf l) = some ((s.length : Int), intsOf (l ++ s)) := by
  have e : (intsOf l).length = l.length := by simp [intsOf]
  have e2 : (intsOf s).length = s.length := by simp [intsOf]
  simp only [fnDstrings_Builder_WriteString, fnstrings_Builder_WriteString, fnDBuilder_copyCheck, bindO_pure, e, e2, intsOf_append]
  rw [ble_true (by omega)]; rfl
theorem Builder_StringAgain_eq (s : List UInt8) (h : s.length ≤ 9223372036854775807) : fnDBuilder_StringAgain (intsOf s) = some (s, intsOf s) := by
  unfold fnDBuilder_StringAgain
  rw [ble_true (by simpa [intsOf] using h), cond_true, bytes_ints]
end Go.Proofs.R4
namespace Go.Proofs.R4
open Go Go.AE

abbrev Secs := List (Int × List UInt8)

theorem mem_take_succ {α : Type} {l : List α} {j : Nat} {x y : α} (h : l[j]? = some y) : x ∈ l.take (j + 1) ↔ x ∈ l.take j ∨ x = y := by
  rw [List.take_add_one, h]; simp

theorem contains_eq (l : List Int) (x : Int) (hl : l.length ≤ 1000000) : fnDslices_Contains_int_int (l, x) = some (decide (x ∈ l)) := by
  have key : ∃ y, loopD (stepDslices_Index_int_int_n0 (l, x, (l.length : Int))) FUEL ((0 : Nat) : Int) = some y ∧ ((x ∈ l ∧ ∃ j : Nat, y = .inl (j : Int)) ∨ (x ∉ l ∧ y = .inr ())) := by
    refine loopD_each l (fun j (_ : Unit) => (j : Int)) (fun j _ => x ∉ l.take j) _ ?_ ?_ (s0 := ()) (by simp) (by omega)
    · intro j y _ hj hlt hi
      simp only [stepDslices_Index_int_int_n0, stepslices_Index_int_int_n0, dec_true (show (j : Int) < (l.length : Int) by omega), cond_true, nth_of hj, bindO_pure, wrap64_nat (show j < 9223372036854775807 by omega)]
      by_cases e : x = y
      · subst e
        right
        exact ⟨.inl j, by simp, .inl ⟨List.mem_of_getElem? hj, j, rfl⟩⟩
      · left
        exact ⟨(), by simp [beq_false_of_ne e], by rw [mem_take_succ hj]; simp [hi, e]⟩
    · intro _ hi
      simp only [stepDslices_Index_int_int_n0, stepslices_Index_int_int_n0, dec_false (show ¬ (l.length : Int) < (l.length : Int) by omega), cond_false]
      rw [List.take_length] at hi
      exact ⟨.inr (), rfl, .inr ⟨hi, rfl⟩⟩
  obtain ⟨y, hy, h⟩ := key
  have hy' : loopD (stepDslices_Index_int_int_n0 (l, x, (l.length : Int))) FUEL 0 = _ := hy
  simp only [fnDslices_Contains_int_int, fnslices_Contains_int_int, fnDslices_Index_int_int, fnslices_Index_int_int, hy', bindO_pure]
  rcases h with ⟨h1, j, rfl⟩ | ⟨h1, rfl⟩
  · simp only [h1, bindO_pure, Sum.elim_inl]; simp
  · simp only [h1, bindO_pure, Sum.elim_inr]; simp

/-- A call: its error, whether the disk goes down at it, the count, whether it is down. -/
def callM (ops at_ : Int) (off : Bool) (fails : List Int) : Int × Bool × Int × Bool :=
  if off = true then (31, false, IntKind.wrap .i64 (ops + 1), off)
  else if IntKind.wrap .i64 (ops + 1) = at_ then (31, true, IntKind.wrap .i64 (ops + 1), true)
  else if IntKind.wrap .i64 (ops + 1) ∈ fails then (30, false, IntKind.wrap .i64 (ops + 1), off)
  else (0, false, IntKind.wrap .i64 (ops + 1), off)

theorem callM_last {ops at_ : Int} {off : Bool} {fails : List Int} (h : (callM ops at_ off fails).2.1 = true) : (callM ops at_ off fails).1 ≠ 0 := by
  unfold callM at h ⊢
  repeat' split at h
  all_goals first | (cases h; done) | skip
  rename_i h1 h2
  rw [if_neg h1, if_pos h2]
  simp
theorem call_eq (ops at_ : Int) (off : Bool) (sure : List (List UInt8)) (seen waits : Secs) (fails : List Int) (hl : fails.length ≤ 1000000) :
    fnDdisk_Disk_call (ops, at_, off, sure, seen, waits, fails) = some (callM ops at_ off fails) := by
  simp only [fnDdisk_Disk_call, fndisk_Disk_call, contains_eq _ _ hl, bindO_pure, callM]
  cases off with
  | true => rfl
  | false =>
    simp only [cond_false, Bool.false_eq_true, if_false]
    by_cases h : IntKind.wrap .i64 (ops + 1) = at_
    · simp [h]
    · rw [if_neg h, beq_false_of_ne h, cond_false]
      by_cases h2 : IntKind.wrap .i64 (ops + 1) ∈ fails <;> simp [h2]

/-- Which sectors there are. -/
def there (at_ : Int) (n : Nat) : Bool := inR at_ n
theorem there_eq (at_ ops a : Int) (off : Bool) (sure : List (List UInt8)) (seen waits : Secs) (fails : List Int) : fnDdisk_Disk_there (at_, ops, a, off, sure, seen, waits, fails) = some (inR at_ sure.length) := by
  simp only [fnDdisk_Disk_there, fndisk_Disk_there, nodeDdisk_Disk_there_n0, nodedisk_Disk_there_n0, fnDdisk_Disk_Sectors, fndisk_Disk_Sectors, bindO_pure]
  by_cases h : at_ ≥ 0
  · rw [dec_true h, cond_true, bindO_pure]
    unfold inR
    rw [dec_true (show 0 ≤ at_ from h), Bool.true_and]
  · rw [dec_false h, cond_false, bindO_pure]
    unfold inR
    rw [dec_false (show ¬ 0 ≤ at_ from h), Bool.false_and]

/-- A write: its error, and what is behind it. -/
def writeE (e : Int) (last : Bool) (at_ : Int) (data : List UInt8) (n : Nat) : Int × Bool :=
  if e ≠ 0 ∧ last = false then (e, false)
  else if inR at_ n = false then (if last = true then e else 3, false)
  else if (data.length : Int) ≠ 64 then (if last = true then e else 12, false)
  else (e, true)
theorem write_eq (at_ : Int) (data : List UInt8) (ops a : Int) (off : Bool) (sure : List (List UInt8)) (seen waits : Secs) (fails : List Int) (hl : fails.length ≤ 1000000) (hw : waits.length ≤ 1000000) :
    fnDdisk_Disk_Write (at_, data, ops, a, off, sure, seen, waits, fails) =
      (let c := callM ops a off fails
       let r := writeE c.1 c.2.1 at_ data sure.length
       some (r.1, c.2.2.1, c.2.2.2, if r.2 = true then mput at_ data seen else seen, if r.2 = true then waits ++ [(at_, data)] else waits)) := by
  simp only [fnDdisk_Disk_Write, fndisk_Disk_Write, call_eq _ _ _ _ _ _ _ hl, bindO_pure]
  generalize callM ops a off fails = c
  obtain ⟨e, last, ops', off'⟩ := c
  simp only [unP, nodeDdisk_Disk_Write_n0, nodedisk_Disk_Write_n0, nodeDdisk_Disk_Write_n1, nodedisk_Disk_Write_n1, nodeDdisk_Disk_Write_n2, nodedisk_Disk_Write_n2, nodeDdisk_Disk_Write_n3, nodedisk_Disk_Write_n3, there_eq, bindO_pure, writeE,
    ble_true (show (waits.length + [(at_, data)].length) * 24 ≤ 140737488355328 by simp only [List.length_cons, List.length_nil]; omega), cond_true]
  by_cases he : e = 0
  · subst he
    cases hr : inR at_ sure.length <;> cases last <;> by_cases hs : (data.length : Int) = 64 <;> simp [ibeq, ibne, hs, bindO_pure]
  · have hb : (e != 0) = true := by simp [he]
    cases hr : inR at_ sure.length <;> cases last <;> by_cases hs : (data.length : Int) = 64 <;> simp [ibeq, ibne, he, hs, bindO_pure]

/-! ### Reading -/
def look (sure : List (List UInt8)) (seen : Secs) (at_ : Int) : List UInt8 := if mhas at_ seen = true then mget at_ [] seen else (sure[at_.toNat]?).getD []
def readR (e : Int) (at_ : Int) (n : Nat) (x : List UInt8) : List UInt8 × Int := if e ≠ 0 then ([], e) else if inR at_ n = false then ([], 3) else (x, 0)
theorem inR_get {α : Type} {at_ : Int} {l : List α} (h : inR at_ l.length = true) : ∃ x, l[at_.toNat]? = some x := by
  have : 0 ≤ at_ ∧ at_ < (l.length : Int) := by unfold inR at h; simpa using h
  exact ⟨_, List.getElem?_eq_getElem (by omega)⟩
theorem read_eq (at_ ops a : Int) (off : Bool) (sure : List (List UInt8)) (seen waits : Secs) (fails : List Int) (hl : fails.length ≤ 1000000) :
    fnDdisk_Disk_Read (at_, ops, a, off, sure, seen, waits, fails) =
      (let c := callM ops a off fails
       let r := readR c.1 at_ sure.length (look sure seen at_)
       some (r.1, r.2, c.2.2.1, c.2.2.2)) := by
  simp only [fnDdisk_Disk_Read, fndisk_Disk_Read, call_eq _ _ _ _ _ _ _ hl, bindO_pure]
  generalize callM ops a off fails = c
  obtain ⟨e, last, ops', off'⟩ := c
  simp only [unP, there_eq, bindO_pure, readR]
  by_cases he : e = 0
  · subst he
    cases hr : inR at_ sure.length with
    | false => rfl
    | true =>
      obtain ⟨x, hx⟩ := inR_get hr
      cases hm : mhas at_ seen <;> simp [look, hm, hx, bindO_pure]
  · simp [ibne, he]
/-! ### What becomes sure -/
def settleM (sure : List (List UInt8)) (l : Secs) : List (List UInt8) := l.foldl (fun s w => s.set w.1.toNat w.2) sure
theorem settleM_length (l : Secs) : ∀ sure, (settleM sure l).length = sure.length := by
  induction l with
  | nil => intro _; rfl
  | cons w r ih => intro s; simp only [settleM, List.foldl_cons] at ih ⊢; rw [ih, List.length_set]
theorem settleM_snoc (sure : List (List UInt8)) (l : Secs) (w : Int × List UInt8) : settleM sure (l ++ [w]) = (settleM sure l).set w.1.toNat w.2 := by
  simp [settleM]
theorem settle_loop {f : Int × List (List UInt8) → Option ((Int × List (List UInt8)) ⊕ List (List UInt8))} (l : Secs) (sure : List (List UInt8)) (hl : l.length ≤ 1000000) (hw : ∀ w ∈ l, inR w.1 sure.length = true)
    (h1 : ∀ (j : Nat) (x : Int × List UInt8) (s : List (List UInt8)), l[j]? = some x → j < l.length → inR x.1 s.length = true → f ((j : Int), s) = some (.inl (((j + 1 : Nat) : Int), s.set x.1.toNat x.2)))
    (h2 : ∀ s, f ((l.length : Int), s) = some (.inr s)) : loopD f FUEL (0, sure) = some (settleM sure l) := by
  have key : ∃ y, loopD f FUEL (((0 : Nat) : Int), sure) = some y ∧ y = settleM sure l := by
    refine loopD_each l (fun j (s : List (List UInt8)) => ((j : Int), s)) (fun j s => s = settleM sure (l.take j)) _ ?_ ?_ (by simp [settleM]) (by omega)
    · rintro j x s hj hlt rfl
      left
      refine ⟨_, h1 j x _ hj hlt (by rw [settleM_length]; exact hw x (List.mem_of_getElem? hj)), ?_⟩
      rw [List.take_add_one, hj]
      exact (settleM_snoc _ _ _).symm
    · rintro s rfl
      exact ⟨_, h2 _, by rw [List.take_length]⟩
  obtain ⟨y, hy, rfl⟩ := key
  exact hy
/-! ### Calls that fail -/
def failM (ops : Int) (fails : List Int) (n : Int) : List Int := if n > ops ∧ n ∉ fails ∧ fails.length < 100 then fails ++ [n] else fails
/-! ### Beginning again -/
def pick (ch : List Int) (i : Nat) : Bool := match ch[i]? with | some x => Int.tmod x 2 != 0 | none => false
def chosen (ch : List Int) : Nat → Secs → Secs
  | _, [] => []
  | i, w :: r => bif pick ch i then w :: chosen ch (i + 1) r else chosen ch (i + 1) r
theorem chosen_snoc (ch : List Int) (w : Int × List UInt8) : ∀ (l : Secs) (i : Nat), chosen ch i (l ++ [w]) = chosen ch i l ++ (bif pick ch (i + l.length) then [w] else [])
  | [], i => by cases h : pick ch i <;> simp [chosen, h]
  | x :: r, i => by
    rw [List.cons_append, chosen, chosen, chosen_snoc ch w r (i + 1), List.length_cons, show i + 1 + r.length = i + (r.length + 1) by omega]
    cases pick ch i <;> rfl
theorem chosen_mem (ch : List Int) {w : Int × List UInt8} : ∀ {l : Secs} {i : Nat}, w ∈ chosen ch i l → w ∈ l
  | [], _, h => by simp [chosen] at h
  | x :: r, i, h => by
    rw [chosen] at h
    cases hp : pick ch i with
    | true =>
      rw [hp, cond_true, List.mem_cons] at h
      rcases h with h | h
      · exact List.mem_cons.2 (.inl h)
      · exact List.mem_cons.2 (.inr (chosen_mem ch h))
    | false =>
      rw [hp, cond_false] at h
      exact List.mem_cons.2 (.inr (chosen_mem ch h))
theorem chosen_length (ch : List Int) : ∀ (l : Secs) (i : Nat), (chosen ch i l).length ≤ l.length
  | [], _ => Nat.le_refl _
  | x :: r, i => by
    have := chosen_length ch r (i + 1)
    rw [chosen]
    cases pick ch i <;> simp <;> omega
theorem pick_eq (ch : List Int) (j : Nat) : (bif decide ((j : Int) < (ch.length : Int)) then bindO (nth ch (j : Int)) fun x => some (Int.tmod x 2 != 0) else some false) = some (pick ch j) := by
  by_cases h : j < ch.length
  · have hg : ch[j]? = some ch[j] := List.getElem?_eq_getElem h
    rw [dec_true (show (j : Int) < (ch.length : Int) by omega), cond_true, nth_of hg, bindO_pure]
    simp [pick, hg]
  · rw [dec_false (show ¬ (j : Int) < (ch.length : Int) by omega), cond_false]
    simp [pick, List.getElem?_eq_none (show ch.length ≤ j by omega)]

/-! ### New -/
theorem mul_small : ∀ c : Nat, c < 1001 → fnDmath_bits_Mul (1, (c : Int)) = some (0, (c : Int)) := by decide +kernel
def blank : List UInt8 := List.replicate 64 0
theorem refNew_eq (c : Int) (n : Nat) (hn : (n : Int) = (if 1000 < (if 0 > c then 0 else c) then 1000 else if 0 > c then 0 else c)) (h : n ≤ 1000) : fnDref08_New c = some (List.replicate n blank, List.replicate n blank) := by
  have key : ∃ y, loopD (stepDref08_New_n0 c) FUEL (((0 : Nat) : Int), ([] : List (List UInt8))) = some y ∧ y = List.replicate n blank := by
    refine loopD_inv (fun j v => j ≤ n ∧ v = ((j : Int), List.replicate j blank)) n _ ?_ ⟨by omega, rfl⟩ (by omega)
    rintro j v ⟨hj, rfl⟩
    by_cases hlt : j < n
    · left
      refine ⟨_, ?_, hlt, hlt, rfl⟩
      simp only [stepDref08_New_n0, stepref08_New_n0, ← hn, dec_true (show (j : Int) < (n : Int) by omega), cond_true, List.length_replicate, ble_true (show (j + 1) * 16 ≤ 140737488355328 by omega), wrap64_nat (show j < 9223372036854775807 by omega), List.replicate_succ']
      rfl
    · right
      obtain rfl : j = n := by omega
      simp only [stepDref08_New_n0, stepref08_New_n0, ← hn, dec_false (show ¬ (j : Int) < (j : Int) by omega), cond_false]
      exact ⟨_, rfl, rfl⟩
  obtain ⟨y, hy, rfl⟩ := key
  have hy' : loopD (stepDref08_New_n0 c) FUEL (0, []) = _ := hy
  simp only [fnDref08_New, fnref08_New, hy', bindO_pure, List.length_replicate, ble_true (show (0 + n) * 16 ≤ 140737488355328 by omega), cond_true]

/-- A doubling copy. -/
theorem double_loop (n : Nat) (r : List UInt8) (hn : n ≤ 1000) (v0 : List (List UInt8)) (h0 : v0 = List.replicate n r ∨ ∃ t, v0 = r :: t ∧ t.length + 1 = n) (k : Nat) (hk : k = min 1 n) :
    loopD (stepDslices_Repeat_string_string_n3 ()) FUEL ((k : Int), v0) = some (List.replicate n r) := by
  have key : ∃ y, loopD (stepDslices_Repeat_string_string_n3 ()) FUEL ((k : Int), v0) = some y ∧ y = List.replicate n r := by
    refine loopD_inv (fun j v => ∃ (m : Nat) (L : List (List UInt8)), v = ((m : Int), L) ∧ j ≤ m ∧ m ≤ n ∧ (1 ≤ m ∨ n = 0) ∧ L.length = n ∧ L.take m = List.replicate m r) n _ ?_ ?_ (by omega)
    · rintro j v ⟨m, L, rfl, hjm, hmn, h1, hL, htk⟩
      by_cases hlt : m < n
      · left
        have hd : (L.drop 0).take (m - 0) = List.replicate m r := by rw [List.drop_zero, Nat.sub_zero, htk]
        refine ⟨(((m + min m (n - m) : Nat) : Int), L.take m ++ ((List.replicate m r).take (n - m) ++ L.drop (m + min m (n - m)))), ?_, by omega, m + min m (n - m), _, rfl, by omega, by omega, by omega, ?_, ?_⟩
        · simp only [stepDslices_Repeat_string_string_n3, stepslices_Repeat_string_string_n3, hL, dec_true (show (m : Int) < (n : Int) by omega), cond_true, inR_true (show (0 : Int) ≤ (m : Int) ∧ (m : Int) < ((n + 1 : Nat) : Int) by omega), Int.toNat_natCast,
            ble_true (show 0 + (m - 0) ≤ n by omega), ble_true (show m + (n - m) ≤ n by omega), hd, List.length_replicate]
          rw [show Nat.min m (n - m) = min m (n - m) from rfl, wrap64 (x := (m : Int) + ((min m (n - m) : Nat) : Int)) (by omega) (by omega)]
          rfl
        · simp only [List.length_append, List.length_take, List.length_drop, List.length_replicate, hL]
          omega
        · rw [htk, List.take_replicate, ← List.append_assoc, List.replicate_append_replicate, List.take_append_of_le_length (by simp; omega), List.take_replicate]
          congr 1
          omega
      · right
        obtain rfl : m = n := by omega
        simp only [stepDslices_Repeat_string_string_n3, stepslices_Repeat_string_string_n3, hL, dec_false (show ¬ (m : Int) < (m : Int) by omega), cond_false]
        exact ⟨_, rfl, by rw [← htk, List.take_of_length_le (by omega)]⟩
    · refine ⟨k, v0, rfl, by omega, by omega, by omega, ?_, ?_⟩
      · rcases h0 with rfl | ⟨t, rfl, ht⟩
        · simp
        · simpa using ht
      · rcases h0 with rfl | ⟨t, rfl, ht⟩
        · rw [List.take_replicate]; congr 1; omega
        · have : k = 1 := by omega
          subst this
          simp
  obtain ⟨y, hy, rfl⟩ := key
  exact hy

theorem diskNew_eq (c : Int) (n : Nat) (hn : (n : Int) = (if 1000 < (if 0 > c then 0 else c) then 1000 else if 0 > c then 0 else c)) (h : n ≤ 1000) : fnDdisk_New c = some (List.replicate n blank) := by
  have hrep : fnDstrings_Repeat ([0], 64) = some blank := by kernel_rfl
  simp only [fnDdisk_New, fndisk_New, hrep, bindO_pure, ← hn]
  have e1 : IntKind.wrap .u64 ((1 : Nat) : Int) = 1 := by kernel_rfl
  have e2 : IntKind.wrap .u64 (n : Int) = (n : Int) := by
    unfold IntKind.wrap
    simp [IntKind.bits, IntKind.signed]
    omega
  have e3 : IntKind.wrap .i64 (n : Int) = (n : Int) := wrap64 (by omega) (by omega)
  simp only [fnDslices_Repeat_string_string, fnslices_Repeat_string_string, nodeDslices_Repeat_string_string_n0, nodeslices_Repeat_string_string_n0, nodeDslices_Repeat_string_string_n1, nodeslices_Repeat_string_string_n1, nodeDslices_Repeat_string_string_n2, nodeslices_Repeat_string_string_n2,
    dec_false (show ¬ (n : Int) < 0 by omega), cond_false, bindO_pure, e1, e2, mul_small n (by omega), unP, dec_false (show ¬ (0 : Int) > 0 by omega), dec_false (show ¬ (n : Int) > 9223372036854775807 by omega), e3,
    dec_true (show (0 : Int) ≤ (n : Int) by omega), dec_true (show (n : Int) ≤ (n : Int) by omega), dec_true (show (16 : Int) * (n : Int) ≤ 281474976710656 by omega), dec_true (show (n : Int) ≤ 9223372036854775807 by omega), Bool.and_true, cond_true, Int.toNat_natCast, List.length_replicate, List.length_singleton]
  have hd := double_loop n blank h ([blank].take n ++ (List.replicate n (nilL UInt8)).drop 1) ?_ (Nat.min 1 n) rfl
  · rw [hd]
    rfl
  · rcases Nat.eq_zero_or_pos n with h0 | h0
    · subst h0; left; simp
    · right
      refine ⟨(List.replicate n (nilL UInt8)).drop 1, by rw [List.take_of_length_le (by simp; omega)]; rfl, by simp; omega⟩
end Go.Proofs.R4
namespace Go.Proofs.R4
open Go Go.AE
/-- What holds between the disk and the reference's, at each step. -/
structure InvD (N k : Nat) (sure : List (List UInt8)) (seen waits : Secs) (fails : List Int) (Seen : List (List UInt8)) : Prop where
  len : sure.length = N
  small : N ≤ 60
  seenIs : Seen = settleM sure waits
  wl : waits.length ≤ k
  fl : fails.length ≤ 100
  inr : ∀ w ∈ waits, inR w.1 N = true
  lk : ∀ i, inR i N = true → look sure seen i = (Seen[i.toNat]?).getD []

theorem mhas_put (i n : Int) (x : List UInt8) : ∀ l : Secs, mhas i (mput n x l) = (decide (i = n) || mhas i l)
  | [] => by simp [ibeq, mput, mhas]
  | (m, y) :: r => by
    by_cases hnm : n = m
    · subst hnm
      by_cases hi : i = n <;> simp [ibeq, mput, mhas, hi]
    · by_cases hi : i = m
      · subst hi
        simp [ibeq, mput, mhas, hnm]
      · simp [ibeq, mput, mhas, hnm, hi, mhas_put i n x r]
theorem mget_put (i n : Int) (x : List UInt8) : ∀ l : Secs, mget i [] (mput n x l) = if i = n then x else mget i [] l
  | [] => by by_cases h : i = n <;> simp [ibeq, mput, mget, h]
  | (m, y) :: r => by
    by_cases hnm : n = m
    · subst hnm
      by_cases hi : i = n <;> simp [ibeq, mput, mget, hi]
    · by_cases hi : i = m
      · subst hi
        simp [ibeq, mput, mget, hnm, Ne.symm hnm]
      · simp [ibeq, mput, mget, hnm, hi, mget_put i n x r]
theorem InvD.put {N k : Nat} {sure : List (List UInt8)} {seen waits : Secs} {fails : List Int} {Seen : List (List UInt8)} (h : InvD N k sure seen waits fails Seen) {at_ : Int} {data : List UInt8} (hr : inR at_ N = true) :
    InvD N (k + 1) sure (mput at_ data seen) (waits ++ [(at_, data)]) fails (Seen.set at_.toNat data) := by
  refine ⟨h.len, h.small, by rw [h.seenIs, settleM_snoc], by have := h.wl; simp; omega, h.fl, ?_, ?_⟩
  · intro w hw
    rw [List.mem_append, List.mem_singleton] at hw
    rcases hw with hw | rfl
    · exact h.inr w hw
    · exact hr
  · intro i hi
    have hl : Seen.length = N := by rw [h.seenIs, settleM_length, h.len]
    have h1 : 0 ≤ i ∧ i < (N : Int) := by unfold inR at hi; simpa using hi
    have h2 : 0 ≤ at_ ∧ at_ < (N : Int) := by unfold inR at hr; simpa using hr
    have := h.lk i hi
    unfold look at this ⊢
    rw [mhas_put, mget_put]
    by_cases e : i = at_
    · subst e
      simp [List.getElem?_set_self (show i.toNat < Seen.length by omega)]
    · rw [List.getElem?_set_ne (show at_.toNat ≠ i.toNat by omega)]
      simpa [e] using this
theorem InvD.flush {N k : Nat} {sure : List (List UInt8)} {seen waits : Secs} {fails : List Int} {Seen : List (List UInt8)} (h : InvD N k sure seen waits fails Seen) : InvD N (k + 1) Seen [] [] fails Seen :=
  ⟨by rw [h.seenIs, settleM_length, h.len], h.small, rfl, by simp, h.fl, by simp, fun i _ => by simp [look, mhas]⟩
theorem InvD.more {N k : Nat} {sure : List (List UInt8)} {seen waits : Secs} {fails : List Int} {Seen : List (List UInt8)} (h : InvD N k sure seen waits fails Seen) : InvD N (k + 1) sure seen waits fails Seen :=
  ⟨h.len, h.small, h.seenIs, by have := h.wl; omega, h.fl, h.inr, h.lk⟩
theorem InvD.fail {N k : Nat} {sure : List (List UInt8)} {seen waits : Secs} {fails : List Int} {Seen : List (List UInt8)} (h : InvD N k sure seen waits fails Seen) (ops n : Int) : InvD N (k + 1) sure seen waits (failM ops fails n) Seen :=
  ⟨h.len, h.small, h.seenIs, by have := h.wl; omega, by
    have := h.fl
    unfold failM
    split
    · rename_i hh
      rw [List.length_append, List.length_singleton]
      omega
    · exact this, h.inr, h.lk⟩
theorem InvD.restart {N k : Nat} {sure : List (List UInt8)} {seen waits : Secs} {fails : List Int} {Seen : List (List UInt8)} (h : InvD N k sure seen waits fails Seen) (l : Secs) : InvD N (k + 1) (settleM sure l) [] [] [] (settleM sure l) :=
  ⟨by rw [settleM_length, h.len], h.small, rfl, by simp, by simp, by simp, fun i _ => by simp [look, mhas]⟩

theorem callM_fine {o : Nat} (h : o < 9223372036854775807) : callM (o : Int) 0 false [] = (0, false, ((o + 1 : Nat) : Int), false) := by
  unfold callM
  rw [wrap64_nat h, if_neg (by decide), if_neg (by omega), if_neg (by simp)]
theorem settle_mem (l : Secs) : ∀ (S : List (List UInt8)) (i : Nat) (x : List UInt8), (settleM S l)[i]? = some x → S[i]? = some x ∨ ∃ w ∈ l, w.1.toNat = i ∧ w.2 = x := by
  induction l with
  | nil => intro S i x h; exact .inl h
  | cons w r ih =>
    intro S i x h
    rcases ih (S.set w.1.toNat w.2) i x h with h | ⟨v, hv, h⟩
    · rw [List.getElem?_set] at h
      by_cases e : w.1.toNat = i
      · rw [if_pos e] at h
        split at h
        · cases h; exact .inr ⟨w, List.mem_cons_self .., e, rfl⟩
        · cases h
      · rw [if_neg e] at h; exact .inl h
    · exact .inr ⟨v, List.mem_cons_of_mem _ hv, h⟩
/-- A read where the disk is not down, and no call fails. -/
theorem InvD.read {N k : Nat} {sure : List (List UInt8)} {seen waits : Secs} {Seen : List (List UInt8)} (h : InvD N k sure seen waits [] Seen) {i : Int} (hi : inR i N = true) {o : Nat} (ho : o < 9223372036854775807) :
    ∃ x, Seen[i.toNat]? = some x ∧ fnDdisk_Disk_Read (i, (o : Int), 0, false, sure, seen, waits, []) = some (x, 0, ((o + 1 : Nat) : Int), false) := by
  have hl : Seen.length = N := by rw [h.seenIs, settleM_length, h.len]
  obtain ⟨x, hx⟩ := inR_get (l := Seen) (at_ := i) (by rw [hl]; exact hi)
  refine ⟨x, hx, ?_⟩
  rw [read_eq _ _ _ _ _ _ _ _ (by simp), callM_fine ho, h.len]
  simp [readR, hi, h.lk i hi, hx]
/-- A write where the disk is not down, and no call fails. -/
theorem InvD.write {N k : Nat} {sure : List (List UInt8)} {seen waits : Secs} {Seen : List (List UInt8)} (h : InvD N k sure seen waits [] Seen) (hk : k ≤ 1000000) {i : Int} (hi : inR i N = true) {d : List UInt8} (hd : d.length = 64) {o : Nat} (ho : o < 9223372036854775807) :
    fnDdisk_Disk_Write (i, d, (o : Int), 0, false, sure, seen, waits, []) = some (0, ((o + 1 : Nat) : Int), false, mput i d seen, waits ++ [(i, d)]) := by
  rw [write_eq _ _ _ _ _ _ _ _ _ (by simp) (by have := h.wl; omega), callM_fine ho, h.len]
  simp [writeE, hi, hd]
end Go.Proofs.R4
namespace Go.Proofs.R4
open Go Go.AE

theorem inside_eq (i many all : Int) (ha : all ≤ 1000000000000) : fnDregion_inside (i, many, all) = some (decide (0 ≤ i ∧ 0 ≤ many ∧ i ≤ all ∧ many ≤ all - i)) := by
  simp only [fnDregion_inside, fnregion_inside, nodeDregion_inside_n0, noderegion_inside_n0]
  by_cases h1 : i ≥ 0
  · by_cases h2 : many ≥ 0
    · by_cases h3 : i ≤ all
      · rw [dec_true h1, dec_true h2, dec_true h3, wrap64 (x := all - i) (by omega) (by omega)]
        simp only [cond_true, bindO_pure]
        by_cases h4 : many ≤ all - i
        · rw [dec_true h4, dec_true (p := 0 ≤ i ∧ 0 ≤ many ∧ i ≤ all ∧ many ≤ all - i) ⟨h1, h2, h3, h4⟩]
        · rw [dec_false h4, dec_false (p := 0 ≤ i ∧ 0 ≤ many ∧ i ≤ all ∧ many ≤ all - i) fun h => h4 h.2.2.2]
      · rw [dec_true h1, dec_true h2, dec_false h3, dec_false (p := 0 ≤ i ∧ 0 ≤ many ∧ i ≤ all ∧ many ≤ all - i) fun h => h3 h.2.2.1]; rfl
    · rw [dec_true h1, dec_false h2, dec_false (p := 0 ≤ i ∧ 0 ≤ many ∧ i ≤ all ∧ many ≤ all - i) fun h => h2 h.2.1]; rfl
  · rw [dec_false h1, dec_false (p := 0 ≤ i ∧ 0 ≤ many ∧ i ≤ all ∧ many ≤ all - i) fun h => h1 h.1]; rfl

/-- Bytes as sectors from one on. -/
def secs (b : Int) (n : Nat) (p : List UInt8) : Secs := (List.range n).map fun (k : Nat) => (b + (k : Int), (p.drop (64 * k)).take 64)
theorem secs_length (b : Int) (n : Nat) (p : List UInt8) : (secs b n p).length = n := by simp [secs]
theorem secs_zero (b : Int) (p : List UInt8) : secs b 0 p = [] := rfl
theorem secs_succ (b : Int) (n : Nat) (p : List UInt8) : secs b (n + 1) p = secs b n p ++ [(b + (n : Int), (p.drop (64 * n)).take 64)] := by
  unfold secs
  rw [List.range_succ, List.map_append]; rfl
theorem secs_get (b : Int) {n k : Nat} (p : List UInt8) (h : k < n) : (secs b n p)[k]? = some (b + (k : Int), (p.drop (64 * k)).take 64) := by
  unfold secs
  rw [List.getElem?_map, List.getElem?_range h]; rfl

theorem region_Split_eq (i : Int) (p : List UInt8) (from_ many ops a : Int) (off : Bool) (sure : List (List UInt8)) (seen waits : Secs) (fails : List Int) (hp : p.length ≤ 1000000) (hf : 0 ≤ from_ ∧ from_ ≤ 1000000) (hm : many ≤ 1000000) :
    fnDregion_Region_Split (i, p, from_, many, ops, a, off, sure, seen, waits, fails) =
      some (if p.length % 64 ≠ 0 then (12, []) else if 0 ≤ i ∧ i ≤ many ∧ ((p.length / 64 : Nat) : Int) ≤ many - i then (0, secs (from_ + i) (p.length / 64) p) else (3, [])) := by
  have e1 : Int.tdiv (p.length : Int) 64 = ((p.length / 64 : Nat) : Int) := rfl
  have e2 : IntKind.wrap .i64 ((p.length / 64 : Nat) : Int) = ((p.length / 64 : Nat) : Int) := wrap64 (by omega) (by omega)
  have e3 : IntKind.wrap .i64 (((p.length / 64 : Nat) : Int) * 64) = ((p.length / 64 * 64 : Nat) : Int) := by rw [wrap64 (by omega) (by omega)]; omega
  simp only [fnDregion_Region_Split, fnregion_Region_Split, e1, e2, e3, ibne]
  by_cases h : p.length % 64 = 0
  · rw [dec_true (show ((p.length / 64 * 64 : Nat) : Int) = (p.length : Int) by omega), if_neg (by simpa using h : ¬ p.length % 64 ≠ 0), inside_eq _ _ _ (by omega)]
    simp only [Bool.not_true, cond_false, bindO_pure]
    by_cases hin : 0 ≤ i ∧ i ≤ many ∧ ((p.length / 64 : Nat) : Int) ≤ many - i
    · rw [if_pos hin, dec_true (p := 0 ≤ i ∧ 0 ≤ ((p.length / 64 : Nat) : Int) ∧ i ≤ many ∧ ((p.length / 64 : Nat) : Int) ≤ many - i) ⟨hin.1, by omega, hin.2⟩]
      simp only [Bool.not_true, cond_false]
      have key : ∃ y, loopD (stepDregion_Region_Split_n0 (from_, many, ops, a, off, sure, seen, waits, fails)) FUEL (p.drop (64 * 0), from_ + i + ((0 : Nat) : Int), secs (from_ + i) 0 p) = some y ∧ y = secs (from_ + i) (p.length / 64) p := by
        refine loopD_inv (fun j v => j ≤ p.length / 64 ∧ v = (p.drop (64 * j), from_ + i + (j : Int), secs (from_ + i) j p)) (p.length / 64) _ ?_ ⟨by omega, rfl⟩ (by omega)
        rintro j v ⟨hj, rfl⟩
        have hdl : (p.drop (64 * j)).length = p.length - 64 * j := by simp
        by_cases hlt : j < p.length / 64
        · left
          refine ⟨_, ?_, hlt, hlt, rfl⟩
          have hne : (p.drop (64 * j) == []) = false := by
            rw [beq_eq_false_iff_ne]
            intro e
            rw [e] at hdl
            simp at hdl
            omega
          have w1 : IntKind.wrap .i64 (from_ + i + (j : Int) + 1) = from_ + i + ((j + 1 : Nat) : Int) := by rw [wrap64 (by omega) (by omega)]; omega
          have r1 : inR 64 ((p.drop (64 * j)).length + 1) = true := inR_true ⟨by omega, by omega⟩
          have r2 : Nat.ble (((secs (from_ + i) j p).length + List.length [(from_ + i + (j : Int), List.take 64 (p.drop (64 * j)))]) * 24) 140737488355328 = true := by
            rw [secs_length]; exact ble_true (by simp; omega)
          simp only [stepDregion_Region_Split_n0, stepregion_Region_Split_n0, hne, Bool.not_false, cond_true, r1, r2, w1, secs_succ, List.drop_drop]
          rfl
        · right
          obtain rfl : j = p.length / 64 := by omega
          have he : p.drop (64 * (p.length / 64)) = [] := List.drop_eq_nil_of_le (by omega)
          rw [he]
          exact ⟨_, rfl, rfl⟩
      obtain ⟨y, hy, rfl⟩ := key
      have w0 : IntKind.wrap .i64 (from_ + i) = from_ + i + ((0 : Nat) : Int) := by rw [wrap64 (by omega) (by omega)]; omega
      rw [secs_zero, Nat.mul_zero, List.drop_zero, ← w0] at hy
      rw [hy]; rfl
    · rw [if_neg hin, dec_false (p := 0 ≤ i ∧ 0 ≤ ((p.length / 64 : Nat) : Int) ∧ i ≤ many ∧ ((p.length / 64 : Nat) : Int) ≤ many - i) fun h => hin ⟨h.1, h.2.2⟩]; rfl
  · rw [dec_false (show ¬ ((p.length / 64 * 64 : Nat) : Int) = (p.length : Int) by omega), if_pos h]; rfl

theorem secs_inR {N : Nat} {b : Int} {n : Nat} {p : List UInt8} (h0 : 0 ≤ b) (hN : b + (n : Int) ≤ (N : Int)) : ∀ w ∈ secs b n p, inR w.1 N = true := by
  intro w hw
  simp only [secs, List.mem_map, List.mem_range] at hw
  obtain ⟨k, hk, rfl⟩ := hw
  exact inR_true ⟨by show (0 : Int) ≤ b + k; omega, by show b + (k : Int) < N; omega⟩

theorem region_Write_out (i : Int) (p : List UInt8) (from_ many ops a : Int) (off : Bool) (sure : List (List UInt8)) (seen waits : Secs) (fails : List Int) (hp : p.length ≤ 1000000) (hf : 0 ≤ from_ ∧ from_ ≤ 1000000) (hm : many ≤ 1000000) (hpm : p.length % 64 = 0)
    (hin : ¬ (0 ≤ i ∧ i ≤ many ∧ ((p.length / 64 : Nat) : Int) ≤ many - i)) : fnDregion_Region_Write (i, p, from_, many, ops, a, off, sure, seen, waits, fails) = some (3, ops, off, seen, waits) := by
  simp only [fnDregion_Region_Write, fnregion_Region_Write, region_Split_eq i p from_ many ops a off sure seen waits fails hp hf hm, if_neg (by simpa using hpm : ¬ p.length % 64 ≠ 0), if_neg hin, bindO_pure, unP]
  rfl
theorem region_Write_fine {N k : Nat} {sure : List (List UInt8)} {seen waits : Secs} {Seen : List (List UInt8)} (h : InvD N k sure seen waits [] Seen) (i : Int) (p : List UInt8) (n : Nat) (from_ many : Int) (o : Nat) (hp : p.length = 64 * n) (hn : n ≤ 10000) (hk : k ≤ 100000) (ho : o ≤ 1000000)
    (hf : 0 ≤ from_) (hm : from_ + many ≤ N) (hin : 0 ≤ i ∧ i + (n : Int) ≤ many) :
    ∃ seen', fnDregion_Region_Write (i, p, from_, many, (o : Int), 0, false, sure, seen, waits, []) = some (0, ((o + n : Nat) : Int), false, seen', waits ++ secs (from_ + i) n p) ∧
      InvD N (k + n) sure seen' (waits ++ secs (from_ + i) n p) [] (settleM Seen (secs (from_ + i) n p)) := by
  have hsm := h.small
  have hd : p.length / 64 = n := by omega
  have hsp := region_Split_eq i p from_ many (o : Int) 0 false sure seen waits [] (by omega) ⟨hf, by omega⟩ (by omega)
  rw [if_neg (by omega), hd, if_pos ⟨hin.1, by omega, by omega⟩] at hsp
  have key : ∃ y, loopD (stepDregion_Region_Write_n0 (0, ((secs (from_ + i) n p).length : Int), from_, many, 0, sure, [], secs (from_ + i) n p)) FUEL (((0 : Nat) : Int), ((o + 0 : Nat) : Int), false, seen, waits ++ secs (from_ + i) 0 p) = some y ∧
      ∃ seen', y = .inr (((o + n : Nat) : Int), false, seen', waits ++ secs (from_ + i) n p) ∧ InvD N (k + n) sure seen' (waits ++ secs (from_ + i) n p) [] (settleM Seen (secs (from_ + i) n p)) := by
    refine loopD_inv (fun j v => ∃ seen', j ≤ n ∧ v = ((j : Int), ((o + j : Nat) : Int), false, seen', waits ++ secs (from_ + i) j p) ∧ InvD N (k + j) sure seen' (waits ++ secs (from_ + i) j p) [] (settleM Seen (secs (from_ + i) j p))) n _ ?_
      ⟨seen, by omega, rfl, by rw [secs_zero, List.append_nil]; exact h⟩ (by omega)
    rintro j v ⟨seen', hj, rfl, hi⟩
    by_cases hlt : j < n
    · left
      have hg := secs_get (from_ + i) p hlt
      have hr : inR (from_ + i + (j : Int)) N = true := inR_true ⟨by omega, by omega⟩
      have hw := hi.write (by omega) hr (d := (p.drop (64 * j)).take 64) (by rw [List.length_take, List.length_drop]; omega) (o := o + j) (by omega)
      refine ⟨_, ?_, hlt, mput (from_ + i + (j : Int)) ((p.drop (64 * j)).take 64) seen', hlt, rfl, ?_⟩
      · simp only [stepDregion_Region_Write_n0, stepregion_Region_Write_n0, secs_length, dec_true (show (j : Int) < (n : Int) by omega), cond_true, inR_true (show (0 : Int) ≤ (j : Int) ∧ (j : Int) < (n : Int) by omega), Int.toNat_natCast, hg, bindO_pure, hw, unP, wrap64_nat (show j < 9223372036854775807 by omega), secs_succ, List.append_assoc, Nat.add_assoc]
        rfl
      · have := hi.put hr (data := (p.drop (64 * j)).take 64)
        rw [secs_succ, settleM_snoc, ← List.append_assoc]
        exact this
    · right
      obtain rfl : j = n := by omega
      simp only [stepDregion_Region_Write_n0, stepregion_Region_Write_n0, secs_length, dec_false (show ¬ (j : Int) < (j : Int) by omega), cond_false]
      exact ⟨_, rfl, seen', rfl, hi⟩
  obtain ⟨y, hy, seen', rfl, hi⟩ := key
  rw [secs_zero, List.append_nil] at hy
  refine ⟨seen', ?_, hi⟩
  have hy' : loopD (stepDregion_Region_Write_n0 (0, ((secs (from_ + i) n p).length : Int), from_, many, 0, sure, [], secs (from_ + i) n p)) FUEL (0, (o : Int), false, seen, waits) = _ := hy
  simp only [fnDregion_Region_Write, fnregion_Region_Write, hsp, bindO_pure, unP, hy', Sum.elim_inr]

/-- What is read of sectors that follow one another. -/
def joined (Seen : List (List UInt8)) (b : Int) (n : Nat) : List UInt8 := (List.range n).flatMap fun (k : Nat) => (Seen[(b + (k : Int)).toNat]?).getD []
theorem joined_succ (Seen : List (List UInt8)) (b : Int) (n : Nat) : joined Seen b (n + 1) = joined Seen b n ++ (Seen[(b + (n : Int)).toNat]?).getD [] := by
  unfold joined
  rw [List.range_succ, List.flatMap_append]; simp
theorem region_Read_fine {N k : Nat} {sure : List (List UInt8)} {seen waits : Secs} {Seen : List (List UInt8)} (h : InvD N k sure seen waits [] Seen) (h64 : ∀ x ∈ Seen, x.length ≤ 64) (i : Int) (n : Nat) (from_ many : Int) (o : Nat) (hn : n ≤ 10000) (ho : o ≤ 1000000)
    (hf : 0 ≤ from_) (hm : from_ + many ≤ N) (hin : 0 ≤ i ∧ i + (n : Int) ≤ many) :
    fnDregion_Region_Read (i, (n : Int), from_, many, (o : Int), 0, false, sure, seen, waits, []) = some (joined Seen (from_ + i) n, 0, ((o + n : Nat) : Int), false) := by
  have hsm := h.small
  have hjl : ∀ j, j ≤ n → (joined Seen (from_ + i) j).length ≤ 64 * j := by
    intro j
    induction j with
    | zero => intro _; simp [joined]
    | succ j ih =>
      intro hj
      rw [joined_succ, List.length_append]
      have := ih (by omega)
      have : ((Seen[(from_ + i + (j : Int)).toNat]?).getD []).length ≤ 64 := by
        cases hx : Seen[(from_ + i + (j : Int)).toNat]? with
        | none => simp
        | some x => exact h64 x (List.mem_of_getElem? hx)
      omega
  have key : ∃ y, loopD (stepDregion_Region_Read_n0 (i, (n : Int), from_, many, 0, sure, seen, waits, [])) FUEL (((0 : Nat) : Int), ((o + 0 : Nat) : Int), false, intsOf (joined Seen (from_ + i) 0)) = some y ∧
      y = .inr (((o + n : Nat) : Int), false, intsOf (joined Seen (from_ + i) n)) := by
    refine loopD_inv (fun j v => j ≤ n ∧ v = ((j : Int), ((o + j : Nat) : Int), false, intsOf (joined Seen (from_ + i) j))) n _ ?_ ⟨by omega, rfl⟩ (by omega)
    rintro j v ⟨hj, rfl⟩
    by_cases hlt : j < n
    · left
      have hr : inR (from_ + i + (j : Int)) N = true := inR_true ⟨by omega, by omega⟩
      obtain ⟨x, hx, hrd⟩ := h.read hr (o := o + j) (by omega)
      have w1 : IntKind.wrap .i64 (IntKind.wrap .i64 (from_ + i) + (j : Int)) = from_ + i + (j : Int) := by rw [wrap64 (x := from_ + i) (by omega) (by omega), wrap64 (by omega) (by omega)]
      have hxl := h64 x (List.mem_of_getElem? hx)
      have := hjl j (by omega)
      refine ⟨_, ?_, hlt, hlt, rfl⟩
      have e0 : ((0 : Int) != 0) = false := rfl
      simp only [stepDregion_Region_Read_n0, stepregion_Region_Read_n0, dec_true (show (j : Int) < (n : Int) by omega), cond_true, w1, hrd, bindO_pure, unP, e0, cond_false, Builder_WriteString_eq x (joined Seen (from_ + i) j) (by omega), wrap64_nat (show j < 9223372036854775807 by omega), joined_succ, hx, Option.getD_some, Nat.add_assoc]
    · right
      obtain rfl : j = n := by omega
      simp only [stepDregion_Region_Read_n0, stepregion_Region_Read_n0, dec_false (show ¬ (j : Int) < (j : Int) by omega), cond_false]
      exact ⟨_, rfl, rfl⟩
  obtain ⟨y, hy, rfl⟩ := key
  have hy' : loopD (stepDregion_Region_Read_n0 (i, (n : Int), from_, many, 0, sure, seen, waits, [])) FUEL (0, (o : Int), false, []) = _ := hy
  have := hjl n (Nat.le_refl _)
  simp only [fnDregion_Region_Read, fnregion_Region_Read, inside_eq i (n : Int) many (by omega), dec_true (show 0 ≤ i ∧ 0 ≤ (n : Int) ∧ i ≤ many ∧ (n : Int) ≤ many - i from ⟨hin.1, by omega, by omega, by omega⟩), bindO_pure, Bool.not_true, cond_false, hy', Sum.elim_inr, unP, Builder_String_eq _ (show (joined Seen (from_ + i) n).length ≤ 9223372036854775807 by omega)]
end Go.Proofs.R4
