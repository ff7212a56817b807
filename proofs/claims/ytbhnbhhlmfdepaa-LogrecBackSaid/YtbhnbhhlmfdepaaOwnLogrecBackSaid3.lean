/- What the functions that LogrecBackSaid reaches compute: part 3. -/
import Derived.Test.YtbhnbhhlmfdepaaOwnLogrecBackSaid2
set_option linter.unusedVariables false
set_option linter.unusedSimpArgs false
namespace Go.Proofs.R2
open Go Go.AE
--@ logrec_Get
noncomputable def envlogrec_Get : Env := [(56, .pure Flogrec_tail), (29, .pure Flogrec_Put), (48, .func Ffield_New), (49, .func Ffield_Reader_Bytes), (50, .func Ffield_Reader_Num)]
theorem envlogrec_GetOk : EnvOk Try.prog envlogrec_Get := EnvOk.cons Flogrec_tail_ok (EnvOk.cons Flogrec_Put_ok (EnvOk.cons Ffield_New_ok (EnvOk.cons Ffield_Reader_Bytes_ok (EnvOk.cons Ffield_Reader_Num_ok (EnvOk.nil)))))
noncomputable def blogrec_Get : Code := Try.f33.body.getD .skip
noncomputable def Llogrec_Get_n4 : Code := codeAt [1, 1, 1, 1, 1, 1, 1, 1, 1, 1, 1, 0, 1, 0] blogrec_Get
noncomputable def annLlogrec_Get_n4 : Ann := .none
theorem annLlogrec_Get_n4_ok : AnnOk Try.prog 106 Llogrec_Get_n4 annLlogrec_Get_n4 := (annOk_none _ _ _)
abbrev Ilogrec_Get_n4 := (List UInt8) × (Int) × (List UInt8) × (Int) × (List (Int × List UInt8))
abbrev Ylogrec_Get_n4 := (Bool)
def Slogrec_Get_n4 : Ilogrec_Get_n4 → St := fun (t0, t8, t14, t15, o0) => { env := [(0, AV.str t0), (8, AV.int IntKind.i64 t8), (10, AV.own 0), (14, AV.str t14), (15, AV.int IntKind.i64 t15)], stk := [[]], H := [Obj.arr (Ty.st (Ty.pair (Ty.int IntKind.i64) Ty.str)) o0], blk := 135170 }
def declogrec_Get_n4 (s : St) : Option Ilogrec_Get_n4 := match s with
  | { env := [(0, AV.str t0), (8, AV.int IntKind.i64 t8), (10, AV.own 0), (14, AV.str t14), (15, AV.int IntKind.i64 t15)], stk := [[]], H := [Obj.arr (Ty.st (Ty.pair (Ty.int IntKind.i64) Ty.str)) o0], blk := 135170 } => some (t0, t8, t14, t15, o0)
  | _ => none
theorem declogrec_Get_n4_ok (s : St) (x : Ilogrec_Get_n4) (h : declogrec_Get_n4 s = some x) : s = Slogrec_Get_n4 x := by
  unfold declogrec_Get_n4 at h
  split at h
  · cases h; rfl
  · cases h
def outlogrec_Get_n4 : Ilogrec_Get_n4 → (Ex → St → Ans) → Ylogrec_Get_n4 → Ans := fun (t0, t8, t14, t15, o0) K => fun t103_y => K (Ex.norm) { env := [(8, AV.int IntKind.i64 t8), (10, AV.own 0), (103, AV.bool t103_y)], stk := [[]], H := [Obj.arr (Ty.st (Ty.pair (Ty.int IntKind.i64) Ty.str)) o0], blk := 135170 }
def nodelogrec_Get_n4 {β : Type} : Ilogrec_Get_n4 → (Ylogrec_Get_n4 → Option β) → Option β := fun (t0, t8, t14, t15, o0) exit => (bif t15 != (0 : Int) then (exit (true)) else (exit (!t14 == t0)))
def nodeDlogrec_Get_n4 (i : Ilogrec_Get_n4) : Option Ylogrec_Get_n4 := nodelogrec_Get_n4 i some
theorem nodelogrec_Get_n4_nat (i : Ilogrec_Get_n4) (k : Ylogrec_Get_n4 → Ans) : nodelogrec_Get_n4 i k = bindO (nodeDlogrec_Get_n4 i) k := by
  obtain ⟨t0, t8, t14, t15, o0⟩ := i
  simp only [nodeDlogrec_Get_n4, nodelogrec_Get_n4, bindO_cond, bindO_assoc, bindO_none, bindO_pure, bindO_elim, bindO_unP]
theorem nodelogrec_Get_n4_ok (i : Ilogrec_Get_n4) (K : Ex → St → Ans) : codeI Try.tab envlogrec_Get noHint (codeD Try.tab envlogrec_Get noHint 0 64) 70 106 annLlogrec_Get_n4 Llogrec_Get_n4 (weakP 0 (exk [8, 10, 103] [2, 3, 4] []) K) (Slogrec_Get_n4 i) = nodelogrec_Get_n4 i (outlogrec_Get_n4 i K) := by kernel_rfl
theorem GNlogrec_Get_n4_ok : CSum Try.prog 106 Llogrec_Get_n4 (sumN declogrec_Get_n4 nodeDlogrec_Get_n4 outlogrec_Get_n4) := csum_node mixed tabOk envlogrec_GetOk 0 (exk [8, 10, 103] [2, 3, 4] []) annLlogrec_Get_n4_ok declogrec_Get_n4_ok nodelogrec_Get_n4_ok nodelogrec_Get_n4_nat
noncomputable def Glogrec_Get_n4 : (Ex → St → Ans) → St → Ans := (sumN declogrec_Get_n4 nodeDlogrec_Get_n4 outlogrec_Get_n4)
theorem Glogrec_Get_n4_ok : CSum Try.prog 106 Llogrec_Get_n4 Glogrec_Get_n4 := GNlogrec_Get_n4_ok
noncomputable def Llogrec_Get_n3 : Code := codeAt [1, 1, 1, 1, 1, 1, 1, 1, 1, 1, 0, 1, 0, 0] blogrec_Get
noncomputable def annLlogrec_Get_n3 : Ann := .at 0 [0, 8, 10, 11, 77, 78] (.loop .none)
theorem annLlogrec_Get_n3_ok : AnnOk Try.prog 106 (.loop Llogrec_Get_n3) annLlogrec_Get_n3 := annOk_at (annOk_none _ _ _)
abbrev Ilogrec_Get_n3 := (List UInt8) × (Int) × (List UInt8) × (Int)
abbrev Ylogrec_Get_n3 := (List (Int × List UInt8))
abbrev Vlogrec_Get_n3 := (Int) × (List (Int × List UInt8))
def Slogrec_Get_n3 : Ilogrec_Get_n3 → Vlogrec_Get_n3 → St := fun (t0, t8, t11, t77) (t78, o0) => { env := [(0, AV.str t0), (8, AV.int IntKind.i64 t8), (10, AV.own 0), (11, AV.str t11), (77, AV.int IntKind.i64 t77), (78, AV.int IntKind.i64 t78)], stk := [[]], H := [Obj.arr (Ty.st (Ty.pair (Ty.int IntKind.i64) Ty.str)) o0], blk := 135170 }
def declogrec_Get_n3 (s : St) : Option (Ilogrec_Get_n3 × Vlogrec_Get_n3) := match s with
  | { env := [(0, AV.str t0), (8, AV.int IntKind.i64 t8), (10, AV.own 0), (11, AV.str t11), (77, AV.int IntKind.i64 t77), (78, AV.int IntKind.i64 t78)], stk := [[]], H := [Obj.arr (Ty.st (Ty.pair (Ty.int IntKind.i64) Ty.str)) o0], blk := 135170 } => some ((t0, t8, t11, t77), (t78, o0))
  | _ => none
theorem declogrec_Get_n3_ok (s : St) (x : Ilogrec_Get_n3 × Vlogrec_Get_n3) (h : declogrec_Get_n3 s = some x) : s = Slogrec_Get_n3 x.1 x.2 := by
  unfold declogrec_Get_n3 at h
  split at h
  · cases h; rfl
  · cases h
def outlogrec_Get_n3 : Ilogrec_Get_n3 → (Ex → St → Ans) → Ylogrec_Get_n3 → Ans := fun (t0, t8, t11, t77) K => fun o0_y => K (Ex.exit 2) { env := [(0, AV.str t0), (8, AV.int IntKind.i64 t8), (10, AV.own 0)], stk := [[]], H := [Obj.arr (Ty.st (Ty.pair (Ty.int IntKind.i64) Ty.str)) o0_y], blk := 135170 }
def steplogrec_Get_n3 {β : Type} : Ilogrec_Get_n3 → Vlogrec_Get_n3 → (Vlogrec_Get_n3 → Option β) → (Ylogrec_Get_n3 → Option β) → Option β := fun (t0, t8, t11, t77) (t78, o0) next exit => (bif decide (t78 < t77) then (bif inR (IntKind.wrap IntKind.i64 (t78 * (64 : Int))) (List.length t11 + (1 : Nat)) then (bif inR (64 : Int) (List.length (List.drop (Int.toNat (IntKind.wrap IntKind.i64 (t78 * (64 : Int)))) t11) + (1 : Nat)) then (bif inR t78 (List.length o0) then (bindO (o0[Int.toNat t78]?) fun x => (next (IntKind.wrap IntKind.i64 (t78 + (1 : Int)), List.set o0 (Int.toNat t78) (x.fst, List.take (64 : Nat) (List.drop (Int.toNat (IntKind.wrap IntKind.i64 (t78 * (64 : Int)))) t11))))) else none) else none) else none) else (exit (o0)))
def stepDlogrec_Get_n3 (i : Ilogrec_Get_n3) (v : Vlogrec_Get_n3) : Option (Vlogrec_Get_n3 ⊕ Ylogrec_Get_n3) := steplogrec_Get_n3 i v (fun v => some (.inl v)) (fun y => some (.inr y))
theorem steplogrec_Get_n3_nat (i : Ilogrec_Get_n3) (v : Vlogrec_Get_n3) (next : Vlogrec_Get_n3 → Ans) (exit : Ylogrec_Get_n3 → Ans) : steplogrec_Get_n3 i v next exit = bindO (stepDlogrec_Get_n3 i v) (Sum.elim next exit) := by
  obtain ⟨t0, t8, t11, t77⟩ := i
  obtain ⟨t78, o0⟩ := v
  simp only [stepDlogrec_Get_n3, steplogrec_Get_n3, bindO_cond, bindO_assoc, bindO_none, bindO_pure, bindO_elim, bindO_unP, Sum.elim_inl, Sum.elim_inr]
theorem steplogrec_Get_n3_ok (n : Nat) (i : Ilogrec_Get_n3) (v : Vlogrec_Get_n3) (K : Ex → St → Ans) : codeI Try.tab envlogrec_Get noHint (codeD Try.tab envlogrec_Get noHint 0 64) (n+1) 106 annLlogrec_Get_n3 (.loop Llogrec_Get_n3) (weakP 0 (exk [0, 8, 10] [2, 3, 4] [(2, [0, 8, 10])]) K) (Slogrec_Get_n3 i v) = steplogrec_Get_n3 i v (fun v' => codeI Try.tab envlogrec_Get noHint (codeD Try.tab envlogrec_Get noHint 0 64) n 106 annLlogrec_Get_n3 (.loop Llogrec_Get_n3) (weakP 0 (exk [0, 8, 10] [2, 3, 4] [(2, [0, 8, 10])]) K) (Slogrec_Get_n3 i v')) (fun y => outlogrec_Get_n3 i K y) := by kernel_rfl
theorem GNlogrec_Get_n3_ok : CSum Try.prog 106 (.loop Llogrec_Get_n3) (sumL declogrec_Get_n3 stepDlogrec_Get_n3 outlogrec_Get_n3) := csum_loop mixed tabOk envlogrec_GetOk 0 (exk [0, 8, 10] [2, 3, 4] [(2, [0, 8, 10])]) annLlogrec_Get_n3_ok declogrec_Get_n3_ok steplogrec_Get_n3_ok steplogrec_Get_n3_nat
noncomputable def Glogrec_Get_n3 : (Ex → St → Ans) → St → Ans := (sumL declogrec_Get_n3 stepDlogrec_Get_n3 outlogrec_Get_n3)
theorem Glogrec_Get_n3_ok : CSum Try.prog 106 (.loop Llogrec_Get_n3) Glogrec_Get_n3 := GNlogrec_Get_n3_ok
noncomputable def Llogrec_Get_n2 : Code := codeAt [1, 1, 1, 1, 1, 1, 1, 0, 1, 0, 0] blogrec_Get
noncomputable def annLlogrec_Get_n2 : Ann := .at 0 [0, 5, 6, 8, 10, 51, 52] (.loop .none)
theorem annLlogrec_Get_n2_ok : AnnOk Try.prog 106 (.loop Llogrec_Get_n2) annLlogrec_Get_n2 := annOk_at (annOk_none _ _ _)
abbrev Ilogrec_Get_n2 := (List UInt8) × (Int) × (Int) × (Int)
abbrev Ylogrec_Get_n2 := (List UInt8) × (Int) × (List (Int × List UInt8))
abbrev Vlogrec_Get_n2 := (Int) × (List UInt8) × (Int) × (List (Int × List UInt8))
def Slogrec_Get_n2 : Ilogrec_Get_n2 → Vlogrec_Get_n2 → St := fun (t0, t5, t8, t51) (t52, o0_0, o0_1, o1) => { env := [(0, AV.str t0), (5, AV.int IntKind.i64 t5), (6, AV.ptr 0 0), (8, AV.int IntKind.i64 t8), (10, AV.own 1), (51, AV.int IntKind.i64 t51), (52, AV.int IntKind.i64 t52)], stk := [[]], H := [AE.Obj.cells [AV.str o0_0, AV.int IntKind.i64 o0_1], Obj.arr (Ty.st (Ty.pair (Ty.int IntKind.i64) Ty.str)) o1], blk := 135168 }
def declogrec_Get_n2 (s : St) : Option (Ilogrec_Get_n2 × Vlogrec_Get_n2) := match s with
  | { env := [(0, AV.str t0), (5, AV.int IntKind.i64 t5), (6, AV.ptr 0 0), (8, AV.int IntKind.i64 t8), (10, AV.own 1), (51, AV.int IntKind.i64 t51), (52, AV.int IntKind.i64 t52)], stk := [[]], H := [AE.Obj.cells [AV.str o0_0, AV.int IntKind.i64 o0_1], Obj.arr (Ty.st (Ty.pair (Ty.int IntKind.i64) Ty.str)) o1], blk := 135168 } => some ((t0, t5, t8, t51), (t52, o0_0, o0_1, o1))
  | _ => none
theorem declogrec_Get_n2_ok (s : St) (x : Ilogrec_Get_n2 × Vlogrec_Get_n2) (h : declogrec_Get_n2 s = some x) : s = Slogrec_Get_n2 x.1 x.2 := by
  unfold declogrec_Get_n2 at h
  split at h
  · cases h; rfl
  · cases h
def outlogrec_Get_n2 : Ilogrec_Get_n2 → (Ex → St → Ans) → Ylogrec_Get_n2 → Ans := fun (t0, t5, t8, t51) K => unP fun o0_0_y => unP fun o0_1_y o1_y => K (Ex.exit 0) { env := [(0, AV.str t0), (5, AV.int IntKind.i64 t5), (6, AV.ptr 0 0), (8, AV.int IntKind.i64 t8), (10, AV.own 1)], stk := [[]], H := [AE.Obj.cells [AV.str o0_0_y, AV.int IntKind.i64 o0_1_y], Obj.arr (Ty.st (Ty.pair (Ty.int IntKind.i64) Ty.str)) o1_y], blk := 135168 }
def steplogrec_Get_n2 {β : Type} : Ilogrec_Get_n2 → Vlogrec_Get_n2 → (Vlogrec_Get_n2 → Option β) → (Ylogrec_Get_n2 → Option β) → Option β := fun (t0, t5, t8, t51) (t52, o0_0, o0_1, o1) next exit => (bif decide (t52 < t51) then (bindO (fnDfield_Reader_Num ((2 : Int), o0_0, o0_1)) (unP fun r => unP fun o0_0_2 o0_1_2 => (bif Nat.ble ((List.length o1 + List.length [(r, nilL UInt8)]) * (24 : Nat)) (140737488355328 : Nat) then (next (IntKind.wrap IntKind.i64 (t52 + (1 : Int)), o0_0_2, o0_1_2, o1 ++ [(r, [])])) else none))) else (exit (o0_0, o0_1, o1)))
def stepDlogrec_Get_n2 (i : Ilogrec_Get_n2) (v : Vlogrec_Get_n2) : Option (Vlogrec_Get_n2 ⊕ Ylogrec_Get_n2) := steplogrec_Get_n2 i v (fun v => some (.inl v)) (fun y => some (.inr y))
theorem steplogrec_Get_n2_nat (i : Ilogrec_Get_n2) (v : Vlogrec_Get_n2) (next : Vlogrec_Get_n2 → Ans) (exit : Ylogrec_Get_n2 → Ans) : steplogrec_Get_n2 i v next exit = bindO (stepDlogrec_Get_n2 i v) (Sum.elim next exit) := by
  obtain ⟨t0, t5, t8, t51⟩ := i
  obtain ⟨t52, o0_0, o0_1, o1⟩ := v
  simp only [stepDlogrec_Get_n2, steplogrec_Get_n2, bindO_cond, bindO_assoc, bindO_none, bindO_pure, bindO_elim, bindO_unP, Sum.elim_inl, Sum.elim_inr]
theorem steplogrec_Get_n2_ok (n : Nat) (i : Ilogrec_Get_n2) (v : Vlogrec_Get_n2) (K : Ex → St → Ans) : codeI Try.tab envlogrec_Get noHint (codeD Try.tab envlogrec_Get noHint 0 64) (n+1) 106 annLlogrec_Get_n2 (.loop Llogrec_Get_n2) (weakP 0 (exk [0, 5, 6, 8, 10] [2, 3, 4] [(0, [0, 5, 6, 8, 10])]) K) (Slogrec_Get_n2 i v) = steplogrec_Get_n2 i v (fun v' => codeI Try.tab envlogrec_Get noHint (codeD Try.tab envlogrec_Get noHint 0 64) n 106 annLlogrec_Get_n2 (.loop Llogrec_Get_n2) (weakP 0 (exk [0, 5, 6, 8, 10] [2, 3, 4] [(0, [0, 5, 6, 8, 10])]) K) (Slogrec_Get_n2 i v')) (fun y => outlogrec_Get_n2 i K y) := by kernel_rfl
theorem GNlogrec_Get_n2_ok : CSum Try.prog 106 (.loop Llogrec_Get_n2) (sumL declogrec_Get_n2 stepDlogrec_Get_n2 outlogrec_Get_n2) := csum_loop mixed tabOk envlogrec_GetOk 0 (exk [0, 5, 6, 8, 10] [2, 3, 4] [(0, [0, 5, 6, 8, 10])]) annLlogrec_Get_n2_ok declogrec_Get_n2_ok steplogrec_Get_n2_ok steplogrec_Get_n2_nat
noncomputable def Glogrec_Get_n2 : (Ex → St → Ans) → St → Ans := (sumL declogrec_Get_n2 stepDlogrec_Get_n2 outlogrec_Get_n2)
theorem Glogrec_Get_n2_ok : CSum Try.prog 106 (.loop Llogrec_Get_n2) Glogrec_Get_n2 := GNlogrec_Get_n2_ok
noncomputable def Llogrec_Get_n1 : Code := codeAt [1, 1, 1, 1, 1, 0, 0] blogrec_Get
noncomputable def annLlogrec_Get_n1 : Ann := .none
theorem annLlogrec_Get_n1_ok : AnnOk Try.prog 106 Llogrec_Get_n1 annLlogrec_Get_n1 := (annOk_none _ _ _)
abbrev Ilogrec_Get_n1 := (List UInt8) × (Int) × (List UInt8) × (Int) × (Int) × (List UInt8) × (Int)
abbrev Ylogrec_Get_n1 := (Bool)
def Slogrec_Get_n1 : Ilogrec_Get_n1 → St := fun (t0, t5, t7, t8, t9, o0_0, o0_1) => { env := [(0, AV.str t0), (5, AV.int IntKind.i64 t5), (6, AV.ptr 0 0), (7, AV.str t7), (8, AV.int IntKind.i64 t8), (9, AV.int IntKind.i64 t9)], stk := [[]], H := [AE.Obj.cells [AV.str o0_0, AV.int IntKind.i64 o0_1]], blk := 135168 }
def declogrec_Get_n1 (s : St) : Option Ilogrec_Get_n1 := match s with
  | { env := [(0, AV.str t0), (5, AV.int IntKind.i64 t5), (6, AV.ptr 0 0), (7, AV.str t7), (8, AV.int IntKind.i64 t8), (9, AV.int IntKind.i64 t9)], stk := [[]], H := [AE.Obj.cells [AV.str o0_0, AV.int IntKind.i64 o0_1]], blk := 135168 } => some (t0, t5, t7, t8, t9, o0_0, o0_1)
  | _ => none
theorem declogrec_Get_n1_ok (s : St) (x : Ilogrec_Get_n1) (h : declogrec_Get_n1 s = some x) : s = Slogrec_Get_n1 x := by
  unfold declogrec_Get_n1 at h
  split at h
  · cases h; rfl
  · cases h
def outlogrec_Get_n1 : Ilogrec_Get_n1 → (Ex → St → Ans) → Ylogrec_Get_n1 → Ans := fun (t0, t5, t7, t8, t9, o0_0, o0_1) K => fun t50_y => K (Ex.norm) { env := [(0, AV.str t0), (5, AV.int IntKind.i64 t5), (6, AV.ptr 0 0), (8, AV.int IntKind.i64 t8), (50, AV.bool t50_y)], stk := [[]], H := [AE.Obj.cells [AV.str o0_0, AV.int IntKind.i64 o0_1]], blk := 135168 }
def nodelogrec_Get_n1 {β : Type} : Ilogrec_Get_n1 → (Ylogrec_Get_n1 → Option β) → Option β := fun (t0, t5, t7, t8, t9, o0_0, o0_1) exit => (bif !t7 == [(82 : UInt8)] then (exit (true)) else (bif t9 != t5 then (exit (true)) else (bif decide (t5 < (1 : Int)) then (exit (true)) else (exit (decide (t5 > (16 : Int)))))))
def nodeDlogrec_Get_n1 (i : Ilogrec_Get_n1) : Option Ylogrec_Get_n1 := nodelogrec_Get_n1 i some
theorem nodelogrec_Get_n1_nat (i : Ilogrec_Get_n1) (k : Ylogrec_Get_n1 → Ans) : nodelogrec_Get_n1 i k = bindO (nodeDlogrec_Get_n1 i) k := by
  obtain ⟨t0, t5, t7, t8, t9, o0_0, o0_1⟩ := i
  simp only [nodeDlogrec_Get_n1, nodelogrec_Get_n1, bindO_cond, bindO_assoc, bindO_none, bindO_pure, bindO_elim, bindO_unP]
theorem nodelogrec_Get_n1_ok (i : Ilogrec_Get_n1) (K : Ex → St → Ans) : codeI Try.tab envlogrec_Get noHint (codeD Try.tab envlogrec_Get noHint 0 64) 70 106 annLlogrec_Get_n1 Llogrec_Get_n1 (weakP 0 (exk [0, 5, 6, 8, 50] [2, 3, 4] []) K) (Slogrec_Get_n1 i) = nodelogrec_Get_n1 i (outlogrec_Get_n1 i K) := by kernel_rfl
theorem GNlogrec_Get_n1_ok : CSum Try.prog 106 Llogrec_Get_n1 (sumN declogrec_Get_n1 nodeDlogrec_Get_n1 outlogrec_Get_n1) := csum_node mixed tabOk envlogrec_GetOk 0 (exk [0, 5, 6, 8, 50] [2, 3, 4] []) annLlogrec_Get_n1_ok declogrec_Get_n1_ok nodelogrec_Get_n1_ok nodelogrec_Get_n1_nat
noncomputable def Glogrec_Get_n1 : (Ex → St → Ans) → St → Ans := (sumN declogrec_Get_n1 nodeDlogrec_Get_n1 outlogrec_Get_n1)
theorem Glogrec_Get_n1_ok : CSum Try.prog 106 Llogrec_Get_n1 Glogrec_Get_n1 := GNlogrec_Get_n1_ok
noncomputable def Llogrec_Get_n0 : Code := codeAt [1, 1, 0, 0] blogrec_Get
noncomputable def annLlogrec_Get_n0 : Ann := .none
theorem annLlogrec_Get_n0_ok : AnnOk Try.prog 106 Llogrec_Get_n0 annLlogrec_Get_n0 := (annOk_none _ _ _)
abbrev Ilogrec_Get_n0 := (List UInt8) × (Int)
abbrev Ylogrec_Get_n0 := (Bool)
def Slogrec_Get_n0 : Ilogrec_Get_n0 → St := fun (t0, t5) => { env := [(0, AV.str t0), (5, AV.int IntKind.i64 t5)], stk := [[]], H := [], blk := 135168 }
def declogrec_Get_n0 (s : St) : Option Ilogrec_Get_n0 := match s with
  | { env := [(0, AV.str t0), (5, AV.int IntKind.i64 t5)], stk := [[]], H := [], blk := 135168 } => some (t0, t5)
  | _ => none
theorem declogrec_Get_n0_ok (s : St) (x : Ilogrec_Get_n0) (h : declogrec_Get_n0 s = some x) : s = Slogrec_Get_n0 x := by
  unfold declogrec_Get_n0 at h
  split at h
  · cases h; rfl
  · cases h
def outlogrec_Get_n0 : Ilogrec_Get_n0 → (Ex → St → Ans) → Ylogrec_Get_n0 → Ans := fun (t0, t5) K => fun t27_y => K (Ex.norm) { env := [(0, AV.str t0), (5, AV.int IntKind.i64 t5), (27, AV.bool t27_y)], stk := [[]], H := [], blk := 135168 }
def nodelogrec_Get_n0 {β : Type} : Ilogrec_Get_n0 → (Ylogrec_Get_n0 → Option β) → Option β := fun (t0, t5) exit => (bif decide (t5 < (0 : Int)) then (exit (true)) else (exit (Int.tmod (↑(List.length t0) : Int) (64 : Int) != (0 : Int))))
def nodeDlogrec_Get_n0 (i : Ilogrec_Get_n0) : Option Ylogrec_Get_n0 := nodelogrec_Get_n0 i some
theorem nodelogrec_Get_n0_nat (i : Ilogrec_Get_n0) (k : Ylogrec_Get_n0 → Ans) : nodelogrec_Get_n0 i k = bindO (nodeDlogrec_Get_n0 i) k := by
  obtain ⟨t0, t5⟩ := i
  simp only [nodeDlogrec_Get_n0, nodelogrec_Get_n0, bindO_cond, bindO_assoc, bindO_none, bindO_pure, bindO_elim, bindO_unP]
theorem nodelogrec_Get_n0_ok (i : Ilogrec_Get_n0) (K : Ex → St → Ans) : codeI Try.tab envlogrec_Get noHint (codeD Try.tab envlogrec_Get noHint 0 64) 70 106 annLlogrec_Get_n0 Llogrec_Get_n0 (weakP 0 (exk [0, 5, 27] [2, 3, 4] []) K) (Slogrec_Get_n0 i) = nodelogrec_Get_n0 i (outlogrec_Get_n0 i K) := by kernel_rfl
theorem GNlogrec_Get_n0_ok : CSum Try.prog 106 Llogrec_Get_n0 (sumN declogrec_Get_n0 nodeDlogrec_Get_n0 outlogrec_Get_n0) := csum_node mixed tabOk envlogrec_GetOk 0 (exk [0, 5, 27] [2, 3, 4] []) annLlogrec_Get_n0_ok declogrec_Get_n0_ok nodelogrec_Get_n0_ok nodelogrec_Get_n0_nat
noncomputable def Glogrec_Get_n0 : (Ex → St → Ans) → St → Ans := (sumN declogrec_Get_n0 nodeDlogrec_Get_n0 outlogrec_Get_n0)
theorem Glogrec_Get_n0_ok : CSum Try.prog 106 Llogrec_Get_n0 Glogrec_Get_n0 := GNlogrec_Get_n0_ok
noncomputable def annlogrec_Get : Ann := (.seq .none (.seq .none (.seq (.seq (.cut 0 [0, 5] Glogrec_Get_n0) .none) (.seq .none (.seq .none (.seq (.seq (.cut 0 [0, 5, 6, 7, 8, 9] Glogrec_Get_n1) .none) (.seq .none (.seq (.seq .none (.block (.cut 0 [0, 5, 6, 8, 10, 51, 52] Glogrec_Get_n2))) (.seq .none (.seq .none (.seq (.seq .none (.block (.cut 0 [0, 8, 10, 11, 77, 78] Glogrec_Get_n3))) (.seq (.seq .none (.seq (.cut 0 [0, 8, 10, 14, 15] Glogrec_Get_n4) .none)) .none))))))))))))
theorem annlogrec_Get_ok : AnnOk Try.prog 106 blogrec_Get annlogrec_Get := ⟨(annOk_none _ _ _), ⟨(annOk_none _ _ _), ⟨⟨Glogrec_Get_n0_ok, (annOk_none _ _ _)⟩, ⟨(annOk_none _ _ _), ⟨(annOk_none _ _ _), ⟨⟨Glogrec_Get_n1_ok, (annOk_none _ _ _)⟩, ⟨(annOk_none _ _ _), ⟨⟨(annOk_none _ _ _), Glogrec_Get_n2_ok⟩, ⟨(annOk_none _ _ _), ⟨(annOk_none _ _ _), ⟨⟨(annOk_none _ _ _), Glogrec_Get_n3_ok⟩, ⟨⟨(annOk_none _ _ _), ⟨Glogrec_Get_n4_ok, (annOk_none _ _ _)⟩⟩, (annOk_none _ _ _)⟩⟩⟩⟩⟩⟩⟩⟩⟩⟩⟩⟩
abbrev Alogrec_Get := (List UInt8)
abbrev Ylogrec_Get := (Int) × (Int) × (List (Int × List UInt8))
def fnlogrec_Get {β : Type} : Alogrec_Get → (Ylogrec_Get → Option β) → Option β := fun a0 exit => (bindO (nodeDlogrec_Get_n0 (a0, IntKind.wrap IntKind.i64 (IntKind.wrap IntKind.i64 (Int.tdiv (↑(List.length a0) : Int) (64 : Int)) - (1 : Int)))) fun t27 => (bif t27 then (exit ((0 : Int), (12 : Int), [])) else (bindO (fnDfield_New (a0)) fun _ => (bindO (fnDfield_Reader_Bytes ((1 : Int), a0, (0 : Int))) (unP fun r => unP fun o0_0 o0_1 => (bindO (fnDfield_Reader_Num ((6 : Int), o0_0, o0_1)) (unP fun r_2 => unP fun o0_0_2 o0_1_2 => (bindO (fnDfield_Reader_Num ((1 : Int), o0_0_2, o0_1_2)) (unP fun r_3 => unP fun o0_0_3 o0_1_3 => (bindO (nodeDlogrec_Get_n1 (a0, IntKind.wrap IntKind.i64 (IntKind.wrap IntKind.i64 (Int.tdiv (↑(List.length a0) : Int) (64 : Int)) - (1 : Int)), r, r_2, r_3, o0_0_3, o0_1_3)) fun t50 => (bif t50 then (exit ((0 : Int), (4 : Int), [])) else (bindO (loopD (stepDlogrec_Get_n2 (a0, IntKind.wrap IntKind.i64 (IntKind.wrap IntKind.i64 (Int.tdiv (↑(List.length a0) : Int) (64 : Int)) - (1 : Int)), r_2, IntKind.wrap IntKind.i64 (IntKind.wrap IntKind.i64 (Int.tdiv (↑(List.length a0) : Int) (64 : Int)) - (1 : Int)))) FUEL ((0 : Int), o0_0_3, o0_1_3, [])) (unP fun o0_0_4 => unP fun o0_1_4 o1 => (bif inR (64 : Int) (List.length a0 + (1 : Nat)) then (bif inR (IntKind.wrap IntKind.i64 ((8 : Int) + IntKind.wrap IntKind.i64 ((2 : Int) * IntKind.wrap IntKind.i64 (IntKind.wrap IntKind.i64 (Int.tdiv (↑(List.length a0) : Int) (64 : Int)) - (1 : Int))))) (List.length a0 + (1 : Nat)) then (bindO (fnDlogrec_tail (List.take (Int.toNat (IntKind.wrap IntKind.i64 ((8 : Int) + IntKind.wrap IntKind.i64 ((2 : Int) * IntKind.wrap IntKind.i64 (IntKind.wrap IntKind.i64 (Int.tdiv (↑(List.length a0) : Int) (64 : Int)) - (1 : Int)))))) a0, List.drop (64 : Nat) a0)) fun r_4 => (bindO (fnDfield_Reader_Bytes ((↑(List.length r_4) : Int), o0_0_4, o0_1_4)) (unP fun r_5 => unP fun o0_0_5 o0_1_5 => (bif !r_5 == r_4 then (exit ((0 : Int), (5 : Int), [])) else (bindO (loopD (stepDlogrec_Get_n3 (a0, r_2, List.drop (64 : Nat) a0, (↑(List.length o1) : Int))) FUEL ((0 : Int), o1)) fun o0 => (bindO (fnDlogrec_Put (r_2, o0)) (unP fun r_0 r_1 => (bindO (nodeDlogrec_Get_n4 (a0, r_2, r_0, r_1, o0)) fun t103 => (bif t103 then (exit ((0 : Int), (4 : Int), [])) else (exit (r_2, (0 : Int), o0))))))))))) else none) else none))))))))))))))
def fnDlogrec_Get (a : Alogrec_Get) : Option Ylogrec_Get := fnlogrec_Get a some
theorem fnlogrec_Get_nat (a : Alogrec_Get) (k : Ylogrec_Get → Ans) : fnlogrec_Get a k = bindO (fnDlogrec_Get a) k := by
  obtain z := a
  simp only [fnDlogrec_Get, fnlogrec_Get, bindO_cond, bindO_assoc, bindO_none, bindO_pure, bindO_elim, bindO_unP]
def argslogrec_Get : Alogrec_Get → List AV × List AE.Obj := fun a0 => ([AV.str a0], [])
def decAlogrec_Get (l : List AV) (H : List AE.Obj) : Option Alogrec_Get := match l, H with
  | [AV.str a0], [] => some (a0)
  | _, _ => none
theorem decAlogrec_Get_ok (l : List AV) (H : List AE.Obj) (a : Alogrec_Get) (h : decAlogrec_Get l H = some a) : (l, H) = argslogrec_Get a := by
  unfold decAlogrec_Get at h
  split at h
  · cases h; rfl
  · cases h
def outlogrec_Get : Alogrec_Get → (AV → List AE.Obj → Ans) → Ylogrec_Get → Ans := fun a0 K => unP fun r_0_y => unP fun r_2_y o0_y => K (AV.tup [AV.int IntKind.i64 r_0_y, AV.own 0, AV.int IntKind.i64 r_2_y]) [Obj.arr (Ty.st (Ty.pair (Ty.int IntKind.i64) Ty.str)) o0_y]
theorem fnlogrec_Get_ok (a : Alogrec_Get) (K : AV → List AE.Obj → Ans) : fnE Try.tab envlogrec_Get noHint 0 70 33 Try.f33.ntmps Try.f33.results.toList annlogrec_Get blogrec_Get (argslogrec_Get a).1 (argslogrec_Get a).2 K = fnlogrec_Get a (outlogrec_Get a K) := by kernel_rfl
def vFlogrec_Get (a : Alogrec_Get) (K : AV → List AE.Obj → Ans) : Ans := bindO (fnDlogrec_Get a) fun y => outlogrec_Get a K y
def Flogrec_Get : List AV → List AE.Obj → (AV → List AE.Obj → Ans) → Ans := fun l H K => bindO (decAlogrec_Get l H) fun a => vFlogrec_Get a K
theorem Flogrec_Get_ok : FuncOk Try.prog 33 Flogrec_Get := func_mkD (hint := noHint) (d := 0) (n := 70) mixed tabOk envlogrec_GetOk Try.func33 (bodySome (by kernel_rfl)) (by decide +kernel) annlogrec_Get_ok decAlogrec_Get_ok fnlogrec_Get_ok fnlogrec_Get_nat
--@ law11_works
noncomputable def envlaw11_works : Env := [(29, .pure Flogrec_Put), (35, .pure Flogrec_Size), (33, .func Flogrec_Get)]
theorem envlaw11_worksOk : EnvOk Try.prog envlaw11_works := EnvOk.cons Flogrec_Put_ok (EnvOk.cons Flogrec_Size_ok (EnvOk.cons Flogrec_Get_ok (EnvOk.nil)))
noncomputable def blaw11_works : Code := Try.f27.body.getD .skip
noncomputable def Llaw11_works_n0 : Code := codeAt [1, 1, 1, 1, 1, 0] blaw11_works
noncomputable def annLlaw11_works_n0 : Ann := .none
theorem annLlaw11_works_n0_ok : AnnOk Try.prog 66 Llaw11_works_n0 annLlaw11_works_n0 := (annOk_none _ _ _)
abbrev Ilaw11_works_n0 := (List UInt8) × (Int) × (Int) × (Int) × (Int) × (Int) × (List (Int × List UInt8))
abbrev Ylaw11_works_n0 := (Bool)
def Slaw11_works_n0 : Ilaw11_works_n0 → St := fun (t2, t3, t4, t5, t6, t8, o0) => { env := [(2, AV.str t2), (3, AV.int IntKind.i64 t3), (4, AV.int IntKind.i64 t4), (5, AV.int IntKind.i64 t5), (6, AV.int IntKind.i64 t6), (7, AV.own 0), (8, AV.int IntKind.i64 t8)], stk := [[]], H := [Obj.arr (Ty.st (Ty.pair (Ty.int IntKind.i64) Ty.str)) o0], blk := 110592 }
def declaw11_works_n0 (s : St) : Option Ilaw11_works_n0 := match s with
  | { env := [(2, AV.str t2), (3, AV.int IntKind.i64 t3), (4, AV.int IntKind.i64 t4), (5, AV.int IntKind.i64 t5), (6, AV.int IntKind.i64 t6), (7, AV.own 0), (8, AV.int IntKind.i64 t8)], stk := [[]], H := [Obj.arr (Ty.st (Ty.pair (Ty.int IntKind.i64) Ty.str)) o0], blk := 110592 } => some (t2, t3, t4, t5, t6, t8, o0)
  | _ => none
theorem declaw11_works_n0_ok (s : St) (x : Ilaw11_works_n0) (h : declaw11_works_n0 s = some x) : s = Slaw11_works_n0 x := by
  unfold declaw11_works_n0 at h
  split at h
  · cases h; rfl
  · cases h
def outlaw11_works_n0 : Ilaw11_works_n0 → (Ex → St → Ans) → Ylaw11_works_n0 → Ans := fun (t2, t3, t4, t5, t6, t8, o0) K => fun t0_y => K (Ex.norm) { env := [(0, AV.bool t0_y)], stk := [[]], H := [], blk := 110592 }
def nodelaw11_works_n0 {β : Type} : Ilaw11_works_n0 → (Ylaw11_works_n0 → Option β) → Option β := fun (t2, t3, t4, t5, t6, t8, o0) exit => (bif t3 == (0 : Int) then (bif (↑(List.length t2) : Int) == (192 : Int) then (bif t4 == (0 : Int) then (bif t5 == (8 : Int) then (bif t6 == (9 : Int) then (bif (↑(List.length o0) : Int) == (2 : Int) then (bif t8 == (0 : Int) then (bif inR (1 : Int) (List.length o0) then (bindO (o0[(1 : Nat)]?) fun x => (exit (x.fst == (2 : Int)))) else none) else (exit (false))) else (exit (false))) else (exit (false))) else (exit (false))) else (exit (false))) else (exit (false))) else (exit (false)))
def nodeDlaw11_works_n0 (i : Ilaw11_works_n0) : Option Ylaw11_works_n0 := nodelaw11_works_n0 i some
theorem nodelaw11_works_n0_nat (i : Ilaw11_works_n0) (k : Ylaw11_works_n0 → Ans) : nodelaw11_works_n0 i k = bindO (nodeDlaw11_works_n0 i) k := by
  obtain ⟨t2, t3, t4, t5, t6, t8, o0⟩ := i
  simp only [nodeDlaw11_works_n0, nodelaw11_works_n0, bindO_cond, bindO_assoc, bindO_none, bindO_pure, bindO_elim, bindO_unP]
theorem nodelaw11_works_n0_ok (i : Ilaw11_works_n0) (K : Ex → St → Ans) : codeI Try.tab envlaw11_works noHint (codeD Try.tab envlaw11_works noHint 0 64) 70 66 annLlaw11_works_n0 Llaw11_works_n0 (weakP 0 (exk [0] [0] []) K) (Slaw11_works_n0 i) = nodelaw11_works_n0 i (outlaw11_works_n0 i K) := by kernel_rfl
theorem GNlaw11_works_n0_ok : CSum Try.prog 66 Llaw11_works_n0 (sumN declaw11_works_n0 nodeDlaw11_works_n0 outlaw11_works_n0) := csum_node mixed tabOk envlaw11_worksOk 0 (exk [0] [0] []) annLlaw11_works_n0_ok declaw11_works_n0_ok nodelaw11_works_n0_ok nodelaw11_works_n0_nat
noncomputable def Glaw11_works_n0 : (Ex → St → Ans) → St → Ans := (sumN declaw11_works_n0 nodeDlaw11_works_n0 outlaw11_works_n0)
theorem Glaw11_works_n0_ok : CSum Try.prog 66 Llaw11_works_n0 Glaw11_works_n0 := GNlaw11_works_n0_ok
noncomputable def annlaw11_works : Ann := (.seq .none (.seq .none (.seq .none (.seq .none (.seq .none (.seq (.cut 0 [2, 3, 4, 5, 6, 7, 8] Glaw11_works_n0) .none))))))
theorem annlaw11_works_ok : AnnOk Try.prog 66 blaw11_works annlaw11_works := ⟨(annOk_none _ _ _), ⟨(annOk_none _ _ _), ⟨(annOk_none _ _ _), ⟨(annOk_none _ _ _), ⟨(annOk_none _ _ _), ⟨Glaw11_works_n0_ok, (annOk_none _ _ _)⟩⟩⟩⟩⟩⟩
abbrev Alaw11_works := Unit
abbrev Ylaw11_works := (Bool)
def fnlaw11_works {β : Type} : Alaw11_works → (Ylaw11_works → Option β) → Option β := fun _ exit => (bindO (fnDlogrec_Put ((9 : Int), [((5 : Int), [(0 : UInt8), (0 : UInt8), (0 : UInt8), (0 : UInt8), (0 : UInt8), (0 : UInt8), (0 : UInt8), (0 : UInt8), (0 : UInt8), (0 : UInt8), (0 : UInt8), (0 : UInt8), (0 : UInt8), (0 : UInt8), (0 : UInt8), (0 : UInt8), (0 : UInt8), (0 : UInt8), (0 : UInt8), (0 : UInt8), (0 : UInt8), (0 : UInt8), (0 : UInt8), (0 : UInt8), (0 : UInt8), (0 : UInt8), (0 : UInt8), (0 : UInt8), (0 : UInt8), (0 : UInt8), (0 : UInt8), (0 : UInt8), (0 : UInt8), (0 : UInt8), (0 : UInt8), (0 : UInt8), (0 : UInt8), (0 : UInt8), (0 : UInt8), (0 : UInt8), (0 : UInt8), (0 : UInt8), (0 : UInt8), (0 : UInt8), (0 : UInt8), (0 : UInt8), (0 : UInt8), (0 : UInt8), (0 : UInt8), (0 : UInt8), (0 : UInt8), (0 : UInt8), (0 : UInt8), (0 : UInt8), (0 : UInt8), (0 : UInt8), (0 : UInt8), (0 : UInt8), (0 : UInt8), (0 : UInt8), (0 : UInt8), (0 : UInt8), (0 : UInt8), (0 : UInt8)]), ((2 : Int), [(0 : UInt8), (0 : UInt8), (0 : UInt8), (0 : UInt8), (0 : UInt8), (0 : UInt8), (0 : UInt8), (0 : UInt8), (0 : UInt8), (0 : UInt8), (0 : UInt8), (0 : UInt8), (0 : UInt8), (0 : UInt8), (0 : UInt8), (0 : UInt8), (0 : UInt8), (0 : UInt8), (0 : UInt8), (0 : UInt8), (0 : UInt8), (0 : UInt8), (0 : UInt8), (0 : UInt8), (0 : UInt8), (0 : UInt8), (0 : UInt8), (0 : UInt8), (0 : UInt8), (0 : UInt8), (0 : UInt8), (0 : UInt8), (0 : UInt8), (0 : UInt8), (0 : UInt8), (0 : UInt8), (0 : UInt8), (0 : UInt8), (0 : UInt8), (0 : UInt8), (0 : UInt8), (0 : UInt8), (0 : UInt8), (0 : UInt8), (0 : UInt8), (0 : UInt8), (0 : UInt8), (0 : UInt8), (0 : UInt8), (0 : UInt8), (0 : UInt8), (0 : UInt8), (0 : UInt8), (0 : UInt8), (0 : UInt8), (0 : UInt8), (0 : UInt8), (0 : UInt8), (0 : UInt8), (0 : UInt8), (0 : UInt8), (0 : UInt8), (0 : UInt8), (0 : UInt8)])])) (unP fun r_0 r_1 => (bindO (fnDlogrec_Size ([(0 : UInt8), (0 : UInt8), (0 : UInt8), (0 : UInt8), (0 : UInt8), (0 : UInt8), (0 : UInt8), (0 : UInt8), (0 : UInt8), (0 : UInt8), (0 : UInt8), (0 : UInt8), (0 : UInt8), (0 : UInt8), (0 : UInt8), (0 : UInt8), (0 : UInt8), (0 : UInt8), (0 : UInt8), (0 : UInt8), (0 : UInt8), (0 : UInt8), (0 : UInt8), (0 : UInt8), (0 : UInt8), (0 : UInt8), (0 : UInt8), (0 : UInt8), (0 : UInt8), (0 : UInt8), (0 : UInt8), (0 : UInt8), (0 : UInt8), (0 : UInt8), (0 : UInt8), (0 : UInt8), (0 : UInt8), (0 : UInt8), (0 : UInt8), (0 : UInt8), (0 : UInt8), (0 : UInt8), (0 : UInt8), (0 : UInt8), (0 : UInt8), (0 : UInt8), (0 : UInt8), (0 : UInt8), (0 : UInt8), (0 : UInt8), (0 : UInt8), (0 : UInt8), (0 : UInt8), (0 : UInt8), (0 : UInt8), (0 : UInt8), (0 : UInt8), (0 : UInt8), (0 : UInt8), (0 : UInt8), (0 : UInt8), (0 : UInt8), (0 : UInt8), (0 : UInt8)], (9 : Int))) (unP fun r_0_2 r_1_2 => (bindO (fnDlogrec_Get (r_0)) (unP fun r_0_3 => unP fun r_2 o0 => (bindO (nodeDlaw11_works_n0 (r_0, r_1, r_0_2, r_1_2, r_0_3, r_2, o0)) fun t0 => (exit (t0)))))))))
def fnDlaw11_works (a : Alaw11_works) : Option Ylaw11_works := fnlaw11_works a some
theorem fnlaw11_works_nat (a : Alaw11_works) (k : Ylaw11_works → Ans) : fnlaw11_works a k = bindO (fnDlaw11_works a) k := by
  obtain z := a
  simp only [fnDlaw11_works, fnlaw11_works, bindO_cond, bindO_assoc, bindO_none, bindO_pure, bindO_elim, bindO_unP]
def argslaw11_works : Alaw11_works → List AV := fun _ => []
def decAlaw11_works (l : List AV) : Option Alaw11_works := match l with
  | [] => some ()
  | _ => none
theorem decAlaw11_works_ok (l : List AV) (a : Alaw11_works) (h : decAlaw11_works l = some a) : l = argslaw11_works a := by
  unfold decAlaw11_works at h
  split at h
  · cases h; rfl
  · cases h
def rendlaw11_works : Alaw11_works → Ylaw11_works → AV := fun _ => fun r_y => AV.bool r_y
theorem rendlaw11_works_ok : ∀ (a : Alaw11_works) (y : Ylaw11_works), (rendlaw11_works a y).closed1 = true := by
  rintro z y <;> first | rfl | exact Empty.elim y
theorem fnlaw11_works_ok (a : Alaw11_works) : fnE Try.tab envlaw11_works noHint 0 70 27 Try.f27.ntmps Try.f27.results.toList annlaw11_works blaw11_works (argslaw11_works a) [] (fun v _ => some (v, [])) = fnlaw11_works a (fun y => some (rendlaw11_works a y, [])) := by kernel_rfl
def vFlaw11_works (a : Alaw11_works) (K : AV → Ans) : Ans := bindO (fnDlaw11_works a) fun y => K (rendlaw11_works a y)
def Flaw11_works : List AV → (AV → Ans) → Ans := fun l K => bindO (decAlaw11_works l) fun a => vFlaw11_works a K
theorem Flaw11_works_ok : PureOk Try.prog 27 Flaw11_works := pure_mkD (hint := noHint) (d := 0) (n := 70) mixed tabOk envlaw11_worksOk Try.func27 (bodySome (by kernel_rfl)) (by decide +kernel) annlaw11_works_ok decAlaw11_works_ok fnlaw11_works_ok fnlaw11_works_nat rendlaw11_works_ok
--@ law11_Great
noncomputable def envlaw11_Great : Env := []
theorem envlaw11_GreatOk : EnvOk Try.prog envlaw11_Great := EnvOk.nil
noncomputable def blaw11_Great : Code := Try.f28.body.getD .skip
noncomputable def Llaw11_Great_n2 : Code := codeAt [1, 0, 1, 0, 0, 1, 0, 0, 0] blaw11_Great
noncomputable def annLlaw11_Great_n2 : Ann := .none
theorem annLlaw11_Great_n2_ok : AnnOk Try.prog 21 Llaw11_Great_n2 annLlaw11_Great_n2 := (annOk_none _ _ _)
abbrev Ilaw11_Great_n2 := (List (Int × List UInt8)) × (Int)
abbrev Ylaw11_Great_n2 := (Bool)
def Slaw11_Great_n2 : Ilaw11_Great_n2 → St := fun (t0, t3) => { env := [(0, AV.ro (Ty.st (Ty.pair (Ty.int IntKind.i64) Ty.str)) t0), (3, AV.int IntKind.i64 t3)], stk := [[]], H := [], blk := 114689 }
def declaw11_Great_n2 (s : St) : Option Ilaw11_Great_n2 := match s with
  | { env := [(0, AV.ro (Ty.st (Ty.pair (Ty.int IntKind.i64) Ty.str)) t0), (3, AV.int IntKind.i64 t3)], stk := [[]], H := [], blk := 114689 } => some (t0, t3)
  | _ => none
theorem declaw11_Great_n2_ok (s : St) (x : Ilaw11_Great_n2) (h : declaw11_Great_n2 s = some x) : s = Slaw11_Great_n2 x := by
  unfold declaw11_Great_n2 at h
  split at h
  · cases h; rfl
  · cases h
def outlaw11_Great_n2 : Ilaw11_Great_n2 → (Ex → St → Ans) → Ylaw11_Great_n2 → Ans := fun (t0, t3) K => fun t20_y => K (Ex.norm) { env := [(0, AV.ro (Ty.st (Ty.pair (Ty.int IntKind.i64) Ty.str)) t0), (3, AV.int IntKind.i64 t3), (20, AV.bool t20_y)], stk := [[]], H := [], blk := 114689 }
def nodelaw11_Great_n2 {β : Type} : Ilaw11_Great_n2 → (Ylaw11_Great_n2 → Option β) → Option β := fun (t0, t3) exit => (bif decide (t3 ≥ (40 : Int)) then (exit (true)) else (bindO (nth t0 t3) fun x => (exit (decide ((↑(List.length x.snd) : Int) > (500 : Int))))))
def nodeDlaw11_Great_n2 (i : Ilaw11_Great_n2) : Option Ylaw11_Great_n2 := nodelaw11_Great_n2 i some
theorem nodelaw11_Great_n2_nat (i : Ilaw11_Great_n2) (k : Ylaw11_Great_n2 → Ans) : nodelaw11_Great_n2 i k = bindO (nodeDlaw11_Great_n2 i) k := by
  obtain ⟨t0, t3⟩ := i
  simp only [nodeDlaw11_Great_n2, nodelaw11_Great_n2, bindO_cond, bindO_assoc, bindO_none, bindO_pure, bindO_elim, bindO_unP]
theorem nodelaw11_Great_n2_ok (i : Ilaw11_Great_n2) (K : Ex → St → Ans) : codeI Try.tab envlaw11_Great noHint (codeD Try.tab envlaw11_Great noHint 0 64) 70 21 annLlaw11_Great_n2 Llaw11_Great_n2 (weakP 0 (exk [0, 3, 20] [2] []) K) (Slaw11_Great_n2 i) = nodelaw11_Great_n2 i (outlaw11_Great_n2 i K) := by kernel_rfl
theorem GNlaw11_Great_n2_ok : CSum Try.prog 21 Llaw11_Great_n2 (sumN declaw11_Great_n2 nodeDlaw11_Great_n2 outlaw11_Great_n2) := csum_node mixed tabOk envlaw11_GreatOk 0 (exk [0, 3, 20] [2] []) annLlaw11_Great_n2_ok declaw11_Great_n2_ok nodelaw11_Great_n2_ok nodelaw11_Great_n2_nat
noncomputable def Glaw11_Great_n2 : (Ex → St → Ans) → St → Ans := (sumN declaw11_Great_n2 nodeDlaw11_Great_n2 outlaw11_Great_n2)
theorem Glaw11_Great_n2_ok : CSum Try.prog 21 Llaw11_Great_n2 Glaw11_Great_n2 := GNlaw11_Great_n2_ok
noncomputable def Llaw11_Great_n1 : Code := codeAt [1, 0, 1, 0, 0, 1, 0] blaw11_Great
noncomputable def annLlaw11_Great_n1 : Ann := (.block (.seq (.cut 0 [0, 3] Glaw11_Great_n2) .none))
theorem annLlaw11_Great_n1_ok : AnnOk Try.prog 21 Llaw11_Great_n1 annLlaw11_Great_n1 := ⟨Glaw11_Great_n2_ok, (annOk_none _ _ _)⟩
abbrev Ilaw11_Great_n1 := (List (Int × List UInt8)) × (Int)
abbrev Ylaw11_Great_n1 := (Unit) ⊕ (Unit)
def Slaw11_Great_n1 : Ilaw11_Great_n1 → St := fun (t0, t3) => { env := [(0, AV.ro (Ty.st (Ty.pair (Ty.int IntKind.i64) Ty.str)) t0), (3, AV.int IntKind.i64 t3)], stk := [[]], H := [], blk := 114688 }
def declaw11_Great_n1 (s : St) : Option Ilaw11_Great_n1 := match s with
  | { env := [(0, AV.ro (Ty.st (Ty.pair (Ty.int IntKind.i64) Ty.str)) t0), (3, AV.int IntKind.i64 t3)], stk := [[]], H := [], blk := 114688 } => some (t0, t3)
  | _ => none
theorem declaw11_Great_n1_ok (s : St) (x : Ilaw11_Great_n1) (h : declaw11_Great_n1 s = some x) : s = Slaw11_Great_n1 x := by
  unfold declaw11_Great_n1 at h
  split at h
  · cases h; rfl
  · cases h
def outlaw11_Great_n1 : Ilaw11_Great_n1 → (Ex → St → Ans) → Ylaw11_Great_n1 → Ans := fun (t0, t3) K => (Sum.elim (fun _ => K (Ex.ret) { env := [(2, AV.bool (true))], stk := [[]], H := [], blk := 114689 }) (fun _ => K (Ex.norm) { env := [(0, AV.ro (Ty.st (Ty.pair (Ty.int IntKind.i64) Ty.str)) t0), (3, AV.int IntKind.i64 t3)], stk := [[]], H := [], blk := 114689 }))
def nodelaw11_Great_n1 {β : Type} : Ilaw11_Great_n1 → (Ylaw11_Great_n1 → Option β) → Option β := fun (t0, t3) exit => (bindO (nodeDlaw11_Great_n2 (t0, t3)) fun t20 => (bif t20 then (exit (Sum.inl ())) else (exit (Sum.inr ()))))
def nodeDlaw11_Great_n1 (i : Ilaw11_Great_n1) : Option Ylaw11_Great_n1 := nodelaw11_Great_n1 i some
theorem nodelaw11_Great_n1_nat (i : Ilaw11_Great_n1) (k : Ylaw11_Great_n1 → Ans) : nodelaw11_Great_n1 i k = bindO (nodeDlaw11_Great_n1 i) k := by
  obtain ⟨t0, t3⟩ := i
  simp only [nodeDlaw11_Great_n1, nodelaw11_Great_n1, bindO_cond, bindO_assoc, bindO_none, bindO_pure, bindO_elim, bindO_unP]
theorem nodelaw11_Great_n1_ok (i : Ilaw11_Great_n1) (K : Ex → St → Ans) : codeI Try.tab envlaw11_Great noHint (codeD Try.tab envlaw11_Great noHint 0 64) 70 21 annLlaw11_Great_n1 Llaw11_Great_n1 (weakP 0 (exk [0, 3] [2] []) K) (Slaw11_Great_n1 i) = nodelaw11_Great_n1 i (outlaw11_Great_n1 i K) := by kernel_rfl
theorem GNlaw11_Great_n1_ok : CSum Try.prog 21 Llaw11_Great_n1 (sumN declaw11_Great_n1 nodeDlaw11_Great_n1 outlaw11_Great_n1) := csum_node mixed tabOk envlaw11_GreatOk 0 (exk [0, 3] [2] []) annLlaw11_Great_n1_ok declaw11_Great_n1_ok nodelaw11_Great_n1_ok nodelaw11_Great_n1_nat
noncomputable def Glaw11_Great_n1 : (Ex → St → Ans) → St → Ans := (sumN declaw11_Great_n1 nodeDlaw11_Great_n1 outlaw11_Great_n1)
theorem Glaw11_Great_n1_ok : CSum Try.prog 21 Llaw11_Great_n1 Glaw11_Great_n1 := GNlaw11_Great_n1_ok
noncomputable def Llaw11_Great_n0 : Code := codeAt [1, 0, 1, 0, 0] blaw11_Great
noncomputable def annLlaw11_Great_n0 : Ann := .at 0 [0, 3] (.loop (.seq .none (.seq (.cut 0 [0, 3] Glaw11_Great_n1) .none)))
theorem annLlaw11_Great_n0_ok : AnnOk Try.prog 21 (.loop Llaw11_Great_n0) annLlaw11_Great_n0 := annOk_at ⟨(annOk_none _ _ _), ⟨Glaw11_Great_n1_ok, (annOk_none _ _ _)⟩⟩
abbrev Ilaw11_Great_n0 := (List (Int × List UInt8))
abbrev Ylaw11_Great_n0 := (Unit) ⊕ (Unit)
abbrev Vlaw11_Great_n0 := (Int)
def Slaw11_Great_n0 : Ilaw11_Great_n0 → Vlaw11_Great_n0 → St := fun t0 t3 => { env := [(0, AV.ro (Ty.st (Ty.pair (Ty.int IntKind.i64) Ty.str)) t0), (3, AV.int IntKind.i64 t3)], stk := [[]], H := [], blk := 114688 }
def declaw11_Great_n0 (s : St) : Option (Ilaw11_Great_n0 × Vlaw11_Great_n0) := match s with
  | { env := [(0, AV.ro (Ty.st (Ty.pair (Ty.int IntKind.i64) Ty.str)) t0), (3, AV.int IntKind.i64 t3)], stk := [[]], H := [], blk := 114688 } => some (t0, t3)
  | _ => none
theorem declaw11_Great_n0_ok (s : St) (x : Ilaw11_Great_n0 × Vlaw11_Great_n0) (h : declaw11_Great_n0 s = some x) : s = Slaw11_Great_n0 x.1 x.2 := by
  unfold declaw11_Great_n0 at h
  split at h
  · cases h; rfl
  · cases h
def outlaw11_Great_n0 : Ilaw11_Great_n0 → (Ex → St → Ans) → Ylaw11_Great_n0 → Ans := fun t0 K => (Sum.elim (fun _ => K (Ex.ret) { env := [(2, AV.bool (true))], stk := [[]], H := [], blk := 114689 }) (fun _ => K (Ex.exit 0) { env := [], stk := [[]], H := [], blk := 114688 }))
def steplaw11_Great_n0 {β : Type} : Ilaw11_Great_n0 → Vlaw11_Great_n0 → (Vlaw11_Great_n0 → Option β) → (Ylaw11_Great_n0 → Option β) → Option β := fun t0 t3 next exit => (bif decide (t3 < (↑(List.length t0) : Int)) then (bindO (nodeDlaw11_Great_n1 (t0, t3)) (Sum.elim (fun _ => (exit (Sum.inl ()))) (fun _ => (next (IntKind.wrap IntKind.i64 (t3 + (1 : Int))))))) else (exit (Sum.inr ())))
def stepDlaw11_Great_n0 (i : Ilaw11_Great_n0) (v : Vlaw11_Great_n0) : Option (Vlaw11_Great_n0 ⊕ Ylaw11_Great_n0) := steplaw11_Great_n0 i v (fun v => some (.inl v)) (fun y => some (.inr y))
theorem steplaw11_Great_n0_nat (i : Ilaw11_Great_n0) (v : Vlaw11_Great_n0) (next : Vlaw11_Great_n0 → Ans) (exit : Ylaw11_Great_n0 → Ans) : steplaw11_Great_n0 i v next exit = bindO (stepDlaw11_Great_n0 i v) (Sum.elim next exit) := by
  obtain z := i
  obtain z := v
  simp only [stepDlaw11_Great_n0, steplaw11_Great_n0, bindO_cond, bindO_assoc, bindO_none, bindO_pure, bindO_elim, bindO_unP, Sum.elim_inl, Sum.elim_inr]
theorem steplaw11_Great_n0_ok (n : Nat) (i : Ilaw11_Great_n0) (v : Vlaw11_Great_n0) (K : Ex → St → Ans) : codeI Try.tab envlaw11_Great noHint (codeD Try.tab envlaw11_Great noHint 0 64) (n+1) 21 annLlaw11_Great_n0 (.loop Llaw11_Great_n0) (weakP 0 (exk [] [2] [(0, [])]) K) (Slaw11_Great_n0 i v) = steplaw11_Great_n0 i v (fun v' => codeI Try.tab envlaw11_Great noHint (codeD Try.tab envlaw11_Great noHint 0 64) n 21 annLlaw11_Great_n0 (.loop Llaw11_Great_n0) (weakP 0 (exk [] [2] [(0, [])]) K) (Slaw11_Great_n0 i v')) (fun y => outlaw11_Great_n0 i K y) := by kernel_rfl
theorem GNlaw11_Great_n0_ok : CSum Try.prog 21 (.loop Llaw11_Great_n0) (sumL declaw11_Great_n0 stepDlaw11_Great_n0 outlaw11_Great_n0) := csum_loop mixed tabOk envlaw11_GreatOk 0 (exk [] [2] [(0, [])]) annLlaw11_Great_n0_ok declaw11_Great_n0_ok steplaw11_Great_n0_ok steplaw11_Great_n0_nat
noncomputable def Glaw11_Great_n0 : (Ex → St → Ans) → St → Ans := (sumL declaw11_Great_n0 stepDlaw11_Great_n0 outlaw11_Great_n0)
theorem Glaw11_Great_n0_ok : CSum Try.prog 21 (.loop Llaw11_Great_n0) Glaw11_Great_n0 := GNlaw11_Great_n0_ok
noncomputable def annlaw11_Great : Ann := (.seq .none (.seq (.seq .none (.block (.cut 0 [0, 3] Glaw11_Great_n0))) .none))
theorem annlaw11_Great_ok : AnnOk Try.prog 21 blaw11_Great annlaw11_Great := ⟨(annOk_none _ _ _), ⟨⟨(annOk_none _ _ _), Glaw11_Great_n0_ok⟩, (annOk_none _ _ _)⟩⟩
abbrev Alaw11_Great := (List (Int × List UInt8))
abbrev Ylaw11_Great := (Bool)
def fnlaw11_Great {β : Type} : Alaw11_Great → (Ylaw11_Great → Option β) → Option β := fun a0 exit => (bindO (loopD (stepDlaw11_Great_n0 (a0)) FUEL ((0 : Int))) (Sum.elim (fun _ => (exit (true))) (fun _ => (exit (false)))))
def fnDlaw11_Great (a : Alaw11_Great) : Option Ylaw11_Great := fnlaw11_Great a some
theorem fnlaw11_Great_nat (a : Alaw11_Great) (k : Ylaw11_Great → Ans) : fnlaw11_Great a k = bindO (fnDlaw11_Great a) k := by
  obtain z := a
  simp only [fnDlaw11_Great, fnlaw11_Great, bindO_cond, bindO_assoc, bindO_none, bindO_pure, bindO_elim, bindO_unP]
def argslaw11_Great : Alaw11_Great → List AV := fun a0 => [AV.ro (Ty.st (Ty.pair (Ty.int IntKind.i64) Ty.str)) a0]
def decAlaw11_Great (l : List AV) : Option Alaw11_Great := match l with
  | [AV.ro (Ty.st (Ty.pair (Ty.int IntKind.i64) Ty.str)) a0] => some (a0)
  | _ => none
theorem decAlaw11_Great_ok (l : List AV) (a : Alaw11_Great) (h : decAlaw11_Great l = some a) : l = argslaw11_Great a := by
  unfold decAlaw11_Great at h
  split at h
  · cases h; rfl
  · cases h
def rendlaw11_Great : Alaw11_Great → Ylaw11_Great → AV := fun a0 => fun r_y => AV.bool r_y
theorem rendlaw11_Great_ok : ∀ (a : Alaw11_Great) (y : Ylaw11_Great), (rendlaw11_Great a y).closed1 = true := by
  rintro z y <;> first | rfl | exact Empty.elim y
theorem fnlaw11_Great_ok (a : Alaw11_Great) : fnE Try.tab envlaw11_Great noHint 0 70 28 Try.f28.ntmps Try.f28.results.toList annlaw11_Great blaw11_Great (argslaw11_Great a) [] (fun v _ => some (v, [])) = fnlaw11_Great a (fun y => some (rendlaw11_Great a y, [])) := by kernel_rfl
def vFlaw11_Great (a : Alaw11_Great) (K : AV → Ans) : Ans := bindO (fnDlaw11_Great a) fun y => K (rendlaw11_Great a y)
def Flaw11_Great : List AV → (AV → Ans) → Ans := fun l K => bindO (decAlaw11_Great l) fun a => vFlaw11_Great a K
theorem Flaw11_Great_ok : PureOk Try.prog 28 Flaw11_Great := pure_mkD (hint := noHint) (d := 0) (n := 70) mixed tabOk envlaw11_GreatOk Try.func28 (bodySome (by kernel_rfl)) (by decide +kernel) annlaw11_Great_ok decAlaw11_Great_ok fnlaw11_Great_ok fnlaw11_Great_nat rendlaw11_Great_ok
--@ ref11_Check
noncomputable def envref11_Check : Env := []
theorem envref11_CheckOk : EnvOk Try.prog envref11_Check := EnvOk.nil
noncomputable def bref11_Check : Code := Try.f32.body.getD .skip
noncomputable def Lref11_Check_n4 : Code := codeAt [1, 1, 0, 1, 0, 0, 1, 0, 0, 1, 1, 0, 0] bref11_Check
noncomputable def annLref11_Check_n4 : Ann := .at 0 [0, 3, 4] (.loop .none)
theorem annLref11_Check_n4_ok : AnnOk Try.prog 58 (.loop Lref11_Check_n4) annLref11_Check_n4 := annOk_at (annOk_none _ _ _)
abbrev Iref11_Check_n4 := (List (Int × List UInt8)) × (Int)
abbrev Yref11_Check_n4 := (Unit) ⊕ (Unit)
abbrev Vref11_Check_n4 := (Int)
def Sref11_Check_n4 : Iref11_Check_n4 → Vref11_Check_n4 → St := fun (t0, t3) t4 => { env := [(0, AV.ro (Ty.st (Ty.pair (Ty.int IntKind.i64) Ty.str)) t0), (3, AV.int IntKind.i64 t3), (4, AV.int IntKind.i64 t4)], stk := [[]], H := [], blk := 131076 }
def decref11_Check_n4 (s : St) : Option (Iref11_Check_n4 × Vref11_Check_n4) := match s with
  | { env := [(0, AV.ro (Ty.st (Ty.pair (Ty.int IntKind.i64) Ty.str)) t0), (3, AV.int IntKind.i64 t3), (4, AV.int IntKind.i64 t4)], stk := [[]], H := [], blk := 131076 } => some ((t0, t3), t4)
  | _ => none
theorem decref11_Check_n4_ok (s : St) (x : Iref11_Check_n4 × Vref11_Check_n4) (h : decref11_Check_n4 s = some x) : s = Sref11_Check_n4 x.1 x.2 := by
  unfold decref11_Check_n4 at h
  split at h
  · cases h; rfl
  · cases h
def outref11_Check_n4 : Iref11_Check_n4 → (Ex → St → Ans) → Yref11_Check_n4 → Ans := fun (t0, t3) K => (Sum.elim (fun _ => K (Ex.ret) { env := [(2, AV.int IntKind.i64 (9))], stk := [[]], H := [], blk := 131077 }) (fun _ => K (Ex.exit 4) { env := [(0, AV.ro (Ty.st (Ty.pair (Ty.int IntKind.i64) Ty.str)) t0), (3, AV.int IntKind.i64 t3)], stk := [[]], H := [], blk := 131076 }))
def stepref11_Check_n4 {β : Type} : Iref11_Check_n4 → Vref11_Check_n4 → (Vref11_Check_n4 → Option β) → (Yref11_Check_n4 → Option β) → Option β := fun (t0, t3) t4 next exit => (bif decide (t4 < t3) then (bindO (nth t0 t4) fun x => (bindO (nth t0 t3) fun x_2 => (bif x.fst == x_2.fst then (exit (Sum.inl ())) else (next (IntKind.wrap IntKind.i64 (t4 + (1 : Int))))))) else (exit (Sum.inr ())))
def stepDref11_Check_n4 (i : Iref11_Check_n4) (v : Vref11_Check_n4) : Option (Vref11_Check_n4 ⊕ Yref11_Check_n4) := stepref11_Check_n4 i v (fun v => some (.inl v)) (fun y => some (.inr y))
theorem stepref11_Check_n4_nat (i : Iref11_Check_n4) (v : Vref11_Check_n4) (next : Vref11_Check_n4 → Ans) (exit : Yref11_Check_n4 → Ans) : stepref11_Check_n4 i v next exit = bindO (stepDref11_Check_n4 i v) (Sum.elim next exit) := by
  obtain ⟨t0, t3⟩ := i
  obtain z := v
  simp only [stepDref11_Check_n4, stepref11_Check_n4, bindO_cond, bindO_assoc, bindO_none, bindO_pure, bindO_elim, bindO_unP, Sum.elim_inl, Sum.elim_inr]
theorem stepref11_Check_n4_ok (n : Nat) (i : Iref11_Check_n4) (v : Vref11_Check_n4) (K : Ex → St → Ans) : codeI Try.tab envref11_Check noHint (codeD Try.tab envref11_Check noHint 0 64) (n+1) 58 annLref11_Check_n4 (.loop Lref11_Check_n4) (weakP 0 (exk [0, 3] [2] [(4, [0, 3])]) K) (Sref11_Check_n4 i v) = stepref11_Check_n4 i v (fun v' => codeI Try.tab envref11_Check noHint (codeD Try.tab envref11_Check noHint 0 64) n 58 annLref11_Check_n4 (.loop Lref11_Check_n4) (weakP 0 (exk [0, 3] [2] [(4, [0, 3])]) K) (Sref11_Check_n4 i v')) (fun y => outref11_Check_n4 i K y) := by kernel_rfl
theorem GNref11_Check_n4_ok : CSum Try.prog 58 (.loop Lref11_Check_n4) (sumL decref11_Check_n4 stepDref11_Check_n4 outref11_Check_n4) := csum_loop mixed tabOk envref11_CheckOk 0 (exk [0, 3] [2] [(4, [0, 3])]) annLref11_Check_n4_ok decref11_Check_n4_ok stepref11_Check_n4_ok stepref11_Check_n4_nat
noncomputable def Gref11_Check_n4 : (Ex → St → Ans) → St → Ans := (sumL decref11_Check_n4 stepDref11_Check_n4 outref11_Check_n4)
theorem Gref11_Check_n4_ok : CSum Try.prog 58 (.loop Lref11_Check_n4) Gref11_Check_n4 := GNref11_Check_n4_ok
noncomputable def Lref11_Check_n3 : Code := codeAt [1, 1, 0, 1, 0, 0, 1, 0, 0, 0, 0, 0] bref11_Check
noncomputable def annLref11_Check_n3 : Ann := .none
theorem annLref11_Check_n3_ok : AnnOk Try.prog 58 Lref11_Check_n3 annLref11_Check_n3 := (annOk_none _ _ _)
abbrev Iref11_Check_n3 := (List (Int × List UInt8)) × (Int)
abbrev Yref11_Check_n3 := (Bool)
def Sref11_Check_n3 : Iref11_Check_n3 → St := fun (t0, t3) => { env := [(0, AV.ro (Ty.st (Ty.pair (Ty.int IntKind.i64) Ty.str)) t0), (3, AV.int IntKind.i64 t3)], stk := [[]], H := [], blk := 131075 }
def decref11_Check_n3 (s : St) : Option Iref11_Check_n3 := match s with
  | { env := [(0, AV.ro (Ty.st (Ty.pair (Ty.int IntKind.i64) Ty.str)) t0), (3, AV.int IntKind.i64 t3)], stk := [[]], H := [], blk := 131075 } => some (t0, t3)
  | _ => none
theorem decref11_Check_n3_ok (s : St) (x : Iref11_Check_n3) (h : decref11_Check_n3 s = some x) : s = Sref11_Check_n3 x := by
  unfold decref11_Check_n3 at h
  split at h
  · cases h; rfl
  · cases h
def outref11_Check_n3 : Iref11_Check_n3 → (Ex → St → Ans) → Yref11_Check_n3 → Ans := fun (t0, t3) K => fun t19_y => K (Ex.norm) { env := [(0, AV.ro (Ty.st (Ty.pair (Ty.int IntKind.i64) Ty.str)) t0), (3, AV.int IntKind.i64 t3), (19, AV.bool t19_y)], stk := [[]], H := [], blk := 131075 }
def noderef11_Check_n3 {β : Type} : Iref11_Check_n3 → (Yref11_Check_n3 → Option β) → Option β := fun (t0, t3) exit => (bindO (nth t0 t3) fun x => (bif decide (x.fst < (0 : Int)) then (exit (true)) else (bindO (nth t0 t3) fun x_2 => (exit (decide (x_2.fst ≥ (1000 : Int)))))))
def nodeDref11_Check_n3 (i : Iref11_Check_n3) : Option Yref11_Check_n3 := noderef11_Check_n3 i some
theorem noderef11_Check_n3_nat (i : Iref11_Check_n3) (k : Yref11_Check_n3 → Ans) : noderef11_Check_n3 i k = bindO (nodeDref11_Check_n3 i) k := by
  obtain ⟨t0, t3⟩ := i
  simp only [nodeDref11_Check_n3, noderef11_Check_n3, bindO_cond, bindO_assoc, bindO_none, bindO_pure, bindO_elim, bindO_unP]
theorem noderef11_Check_n3_ok (i : Iref11_Check_n3) (K : Ex → St → Ans) : codeI Try.tab envref11_Check noHint (codeD Try.tab envref11_Check noHint 0 64) 70 58 annLref11_Check_n3 Lref11_Check_n3 (weakP 0 (exk [0, 3, 19] [2] []) K) (Sref11_Check_n3 i) = noderef11_Check_n3 i (outref11_Check_n3 i K) := by kernel_rfl
theorem GNref11_Check_n3_ok : CSum Try.prog 58 Lref11_Check_n3 (sumN decref11_Check_n3 nodeDref11_Check_n3 outref11_Check_n3) := csum_node mixed tabOk envref11_CheckOk 0 (exk [0, 3, 19] [2] []) annLref11_Check_n3_ok decref11_Check_n3_ok noderef11_Check_n3_ok noderef11_Check_n3_nat
noncomputable def Gref11_Check_n3 : (Ex → St → Ans) → St → Ans := (sumN decref11_Check_n3 nodeDref11_Check_n3 outref11_Check_n3)
theorem Gref11_Check_n3_ok : CSum Try.prog 58 Lref11_Check_n3 Gref11_Check_n3 := GNref11_Check_n3_ok
noncomputable def Lref11_Check_n2 : Code := codeAt [1, 1, 0, 1, 0, 0, 1, 0, 0, 0] bref11_Check
noncomputable def annLref11_Check_n2 : Ann := (.block (.seq (.cut 0 [0, 3] Gref11_Check_n3) .none))
theorem annLref11_Check_n2_ok : AnnOk Try.prog 58 Lref11_Check_n2 annLref11_Check_n2 := ⟨Gref11_Check_n3_ok, (annOk_none _ _ _)⟩
abbrev Iref11_Check_n2 := (List (Int × List UInt8)) × (Int)
abbrev Yref11_Check_n2 := ((Int)) ⊕ (Unit)
def Sref11_Check_n2 : Iref11_Check_n2 → St := fun (t0, t3) => { env := [(0, AV.ro (Ty.st (Ty.pair (Ty.int IntKind.i64) Ty.str)) t0), (3, AV.int IntKind.i64 t3)], stk := [[]], H := [], blk := 131074 }
def decref11_Check_n2 (s : St) : Option Iref11_Check_n2 := match s with
  | { env := [(0, AV.ro (Ty.st (Ty.pair (Ty.int IntKind.i64) Ty.str)) t0), (3, AV.int IntKind.i64 t3)], stk := [[]], H := [], blk := 131074 } => some (t0, t3)
  | _ => none
theorem decref11_Check_n2_ok (s : St) (x : Iref11_Check_n2) (h : decref11_Check_n2 s = some x) : s = Sref11_Check_n2 x := by
  unfold decref11_Check_n2 at h
  split at h
  · cases h; rfl
  · cases h
def outref11_Check_n2 : Iref11_Check_n2 → (Ex → St → Ans) → Yref11_Check_n2 → Ans := fun (t0, t3) K => (Sum.elim (fun t2_y => K (Ex.ret) { env := [(2, AV.int IntKind.i64 t2_y)], stk := [[]], H := [], blk := 131075 }) (fun _ => K (Ex.norm) { env := [(0, AV.ro (Ty.st (Ty.pair (Ty.int IntKind.i64) Ty.str)) t0), (3, AV.int IntKind.i64 t3)], stk := [[]], H := [], blk := 131075 }))
def noderef11_Check_n2 {β : Type} : Iref11_Check_n2 → (Yref11_Check_n2 → Option β) → Option β := fun (t0, t3) exit => (bindO (nodeDref11_Check_n3 (t0, t3)) fun t19 => (bif t19 then (exit (Sum.inl ((3 : Int)))) else (bindO (nth t0 t3) fun x => (bif (↑(List.length x.snd) : Int) != (64 : Int) then (exit (Sum.inl ((12 : Int)))) else (exit (Sum.inr ()))))))
def nodeDref11_Check_n2 (i : Iref11_Check_n2) : Option Yref11_Check_n2 := noderef11_Check_n2 i some
theorem noderef11_Check_n2_nat (i : Iref11_Check_n2) (k : Yref11_Check_n2 → Ans) : noderef11_Check_n2 i k = bindO (nodeDref11_Check_n2 i) k := by
  obtain ⟨t0, t3⟩ := i
  simp only [nodeDref11_Check_n2, noderef11_Check_n2, bindO_cond, bindO_assoc, bindO_none, bindO_pure, bindO_elim, bindO_unP]
theorem noderef11_Check_n2_ok (i : Iref11_Check_n2) (K : Ex → St → Ans) : codeI Try.tab envref11_Check noHint (codeD Try.tab envref11_Check noHint 0 64) 70 58 annLref11_Check_n2 Lref11_Check_n2 (weakP 0 (exk [0, 3] [2] []) K) (Sref11_Check_n2 i) = noderef11_Check_n2 i (outref11_Check_n2 i K) := by kernel_rfl
theorem GNref11_Check_n2_ok : CSum Try.prog 58 Lref11_Check_n2 (sumN decref11_Check_n2 nodeDref11_Check_n2 outref11_Check_n2) := csum_node mixed tabOk envref11_CheckOk 0 (exk [0, 3] [2] []) annLref11_Check_n2_ok decref11_Check_n2_ok noderef11_Check_n2_ok noderef11_Check_n2_nat
noncomputable def Gref11_Check_n2 : (Ex → St → Ans) → St → Ans := (sumN decref11_Check_n2 nodeDref11_Check_n2 outref11_Check_n2)
theorem Gref11_Check_n2_ok : CSum Try.prog 58 Lref11_Check_n2 Gref11_Check_n2 := GNref11_Check_n2_ok
noncomputable def Lref11_Check_n1 : Code := codeAt [1, 1, 0, 1, 0, 0, 1, 0] bref11_Check
noncomputable def annLref11_Check_n1 : Ann := (.block (.seq (.cut 0 [0, 3] Gref11_Check_n2) (.seq .none (.block (.cut 0 [0, 3, 4] Gref11_Check_n4)))))
theorem annLref11_Check_n1_ok : AnnOk Try.prog 58 Lref11_Check_n1 annLref11_Check_n1 := ⟨Gref11_Check_n2_ok, ⟨(annOk_none _ _ _), Gref11_Check_n4_ok⟩⟩
abbrev Iref11_Check_n1 := (List (Int × List UInt8)) × (Int)
abbrev Yref11_Check_n1 := ((Int)) ⊕ (Unit) ⊕ (Unit)
def Sref11_Check_n1 : Iref11_Check_n1 → St := fun (t0, t3) => { env := [(0, AV.ro (Ty.st (Ty.pair (Ty.int IntKind.i64) Ty.str)) t0), (3, AV.int IntKind.i64 t3)], stk := [[]], H := [], blk := 131073 }
def decref11_Check_n1 (s : St) : Option Iref11_Check_n1 := match s with
  | { env := [(0, AV.ro (Ty.st (Ty.pair (Ty.int IntKind.i64) Ty.str)) t0), (3, AV.int IntKind.i64 t3)], stk := [[]], H := [], blk := 131073 } => some (t0, t3)
  | _ => none
theorem decref11_Check_n1_ok (s : St) (x : Iref11_Check_n1) (h : decref11_Check_n1 s = some x) : s = Sref11_Check_n1 x := by
  unfold decref11_Check_n1 at h
  split at h
  · cases h; rfl
  · cases h
def outref11_Check_n1 : Iref11_Check_n1 → (Ex → St → Ans) → Yref11_Check_n1 → Ans := fun (t0, t3) K => (Sum.elim (fun t2_y => K (Ex.ret) { env := [(2, AV.int IntKind.i64 t2_y)], stk := [[]], H := [], blk := 131075 }) ((Sum.elim (fun _ => K (Ex.ret) { env := [(2, AV.int IntKind.i64 (9))], stk := [[]], H := [], blk := 131077 }) (fun _ => K (Ex.norm) { env := [(0, AV.ro (Ty.st (Ty.pair (Ty.int IntKind.i64) Ty.str)) t0), (3, AV.int IntKind.i64 t3)], stk := [[]], H := [], blk := 131076 }))))
def noderef11_Check_n1 {β : Type} : Iref11_Check_n1 → (Yref11_Check_n1 → Option β) → Option β := fun (t0, t3) exit => (bindO (nodeDref11_Check_n2 (t0, t3)) (Sum.elim (fun t2 => (exit (Sum.inl (t2)))) (fun _ => (bindO (loopD (stepDref11_Check_n4 (t0, t3)) FUEL ((0 : Int))) (Sum.elim (fun _ => (exit (Sum.inr (Sum.inl ())))) (fun _ => (exit (Sum.inr (Sum.inr ())))))))))
def nodeDref11_Check_n1 (i : Iref11_Check_n1) : Option Yref11_Check_n1 := noderef11_Check_n1 i some
theorem noderef11_Check_n1_nat (i : Iref11_Check_n1) (k : Yref11_Check_n1 → Ans) : noderef11_Check_n1 i k = bindO (nodeDref11_Check_n1 i) k := by
  obtain ⟨t0, t3⟩ := i
  simp only [nodeDref11_Check_n1, noderef11_Check_n1, bindO_cond, bindO_assoc, bindO_none, bindO_pure, bindO_elim, bindO_unP]
theorem noderef11_Check_n1_ok (i : Iref11_Check_n1) (K : Ex → St → Ans) : codeI Try.tab envref11_Check noHint (codeD Try.tab envref11_Check noHint 0 64) 70 58 annLref11_Check_n1 Lref11_Check_n1 (weakP 0 (exk [0, 3] [2] []) K) (Sref11_Check_n1 i) = noderef11_Check_n1 i (outref11_Check_n1 i K) := by kernel_rfl
theorem GNref11_Check_n1_ok : CSum Try.prog 58 Lref11_Check_n1 (sumN decref11_Check_n1 nodeDref11_Check_n1 outref11_Check_n1) := csum_node mixed tabOk envref11_CheckOk 0 (exk [0, 3] [2] []) annLref11_Check_n1_ok decref11_Check_n1_ok noderef11_Check_n1_ok noderef11_Check_n1_nat
noncomputable def Gref11_Check_n1 : (Ex → St → Ans) → St → Ans := (sumN decref11_Check_n1 nodeDref11_Check_n1 outref11_Check_n1)
theorem Gref11_Check_n1_ok : CSum Try.prog 58 Lref11_Check_n1 Gref11_Check_n1 := GNref11_Check_n1_ok
noncomputable def Lref11_Check_n0 : Code := codeAt [1, 1, 0, 1, 0, 0] bref11_Check
noncomputable def annLref11_Check_n0 : Ann := .at 0 [0, 3] (.loop (.seq .none (.seq (.cut 0 [0, 3] Gref11_Check_n1) .none)))
theorem annLref11_Check_n0_ok : AnnOk Try.prog 58 (.loop Lref11_Check_n0) annLref11_Check_n0 := annOk_at ⟨(annOk_none _ _ _), ⟨Gref11_Check_n1_ok, (annOk_none _ _ _)⟩⟩
abbrev Iref11_Check_n0 := (List (Int × List UInt8))
abbrev Yref11_Check_n0 := ((Int)) ⊕ (Unit) ⊕ (Unit)
abbrev Vref11_Check_n0 := (Int)
def Sref11_Check_n0 : Iref11_Check_n0 → Vref11_Check_n0 → St := fun t0 t3 => { env := [(0, AV.ro (Ty.st (Ty.pair (Ty.int IntKind.i64) Ty.str)) t0), (3, AV.int IntKind.i64 t3)], stk := [[]], H := [], blk := 131073 }
def decref11_Check_n0 (s : St) : Option (Iref11_Check_n0 × Vref11_Check_n0) := match s with
  | { env := [(0, AV.ro (Ty.st (Ty.pair (Ty.int IntKind.i64) Ty.str)) t0), (3, AV.int IntKind.i64 t3)], stk := [[]], H := [], blk := 131073 } => some (t0, t3)
  | _ => none
theorem decref11_Check_n0_ok (s : St) (x : Iref11_Check_n0 × Vref11_Check_n0) (h : decref11_Check_n0 s = some x) : s = Sref11_Check_n0 x.1 x.2 := by
  unfold decref11_Check_n0 at h
  split at h
  · cases h; rfl
  · cases h
def outref11_Check_n0 : Iref11_Check_n0 → (Ex → St → Ans) → Yref11_Check_n0 → Ans := fun t0 K => (Sum.elim (fun t2_y => K (Ex.ret) { env := [(2, AV.int IntKind.i64 t2_y)], stk := [[]], H := [], blk := 131075 }) ((Sum.elim (fun _ => K (Ex.ret) { env := [(2, AV.int IntKind.i64 (9))], stk := [[]], H := [], blk := 131077 }) (fun _ => K (Ex.exit 1) { env := [], stk := [[]], H := [], blk := 131073 }))))
def stepref11_Check_n0 {β : Type} : Iref11_Check_n0 → Vref11_Check_n0 → (Vref11_Check_n0 → Option β) → (Yref11_Check_n0 → Option β) → Option β := fun t0 t3 next exit => (bif decide (t3 < (↑(List.length t0) : Int)) then (bindO (nodeDref11_Check_n1 (t0, t3)) (Sum.elim (fun t2 => (exit (Sum.inl (t2)))) ((Sum.elim (fun _ => (exit (Sum.inr (Sum.inl ())))) (fun _ => (next (IntKind.wrap IntKind.i64 (t3 + (1 : Int))))))))) else (exit (Sum.inr (Sum.inr ()))))
def stepDref11_Check_n0 (i : Iref11_Check_n0) (v : Vref11_Check_n0) : Option (Vref11_Check_n0 ⊕ Yref11_Check_n0) := stepref11_Check_n0 i v (fun v => some (.inl v)) (fun y => some (.inr y))
theorem stepref11_Check_n0_nat (i : Iref11_Check_n0) (v : Vref11_Check_n0) (next : Vref11_Check_n0 → Ans) (exit : Yref11_Check_n0 → Ans) : stepref11_Check_n0 i v next exit = bindO (stepDref11_Check_n0 i v) (Sum.elim next exit) := by
  obtain z := i
  obtain z := v
  simp only [stepDref11_Check_n0, stepref11_Check_n0, bindO_cond, bindO_assoc, bindO_none, bindO_pure, bindO_elim, bindO_unP, Sum.elim_inl, Sum.elim_inr]
theorem stepref11_Check_n0_ok (n : Nat) (i : Iref11_Check_n0) (v : Vref11_Check_n0) (K : Ex → St → Ans) : codeI Try.tab envref11_Check noHint (codeD Try.tab envref11_Check noHint 0 64) (n+1) 58 annLref11_Check_n0 (.loop Lref11_Check_n0) (weakP 0 (exk [] [2] [(1, [])]) K) (Sref11_Check_n0 i v) = stepref11_Check_n0 i v (fun v' => codeI Try.tab envref11_Check noHint (codeD Try.tab envref11_Check noHint 0 64) n 58 annLref11_Check_n0 (.loop Lref11_Check_n0) (weakP 0 (exk [] [2] [(1, [])]) K) (Sref11_Check_n0 i v')) (fun y => outref11_Check_n0 i K y) := by kernel_rfl
theorem GNref11_Check_n0_ok : CSum Try.prog 58 (.loop Lref11_Check_n0) (sumL decref11_Check_n0 stepDref11_Check_n0 outref11_Check_n0) := csum_loop mixed tabOk envref11_CheckOk 0 (exk [] [2] [(1, [])]) annLref11_Check_n0_ok decref11_Check_n0_ok stepref11_Check_n0_ok stepref11_Check_n0_nat
noncomputable def Gref11_Check_n0 : (Ex → St → Ans) → St → Ans := (sumL decref11_Check_n0 stepDref11_Check_n0 outref11_Check_n0)
theorem Gref11_Check_n0_ok : CSum Try.prog 58 (.loop Lref11_Check_n0) Gref11_Check_n0 := GNref11_Check_n0_ok
noncomputable def annref11_Check : Ann := (.seq .none (.seq .none (.seq (.seq .none (.block (.cut 0 [0, 3] Gref11_Check_n0))) .none)))
theorem annref11_Check_ok : AnnOk Try.prog 58 bref11_Check annref11_Check := ⟨(annOk_none _ _ _), ⟨(annOk_none _ _ _), ⟨⟨(annOk_none _ _ _), Gref11_Check_n0_ok⟩, (annOk_none _ _ _)⟩⟩⟩
abbrev Aref11_Check := (List (Int × List UInt8))
abbrev Yref11_Check := (Int)
def fnref11_Check {β : Type} : Aref11_Check → (Yref11_Check → Option β) → Option β := fun a0 exit => (bif (↑(List.length a0) : Int) == (0 : Int) then (exit ((8 : Int))) else (bif decide ((↑(List.length a0) : Int) > (16 : Int)) then (exit ((6 : Int))) else (bindO (loopD (stepDref11_Check_n0 (a0)) FUEL ((0 : Int))) (Sum.elim (fun t2 => (exit (t2))) ((Sum.elim (fun _ => (exit ((9 : Int)))) (fun _ => (exit ((0 : Int))))))))))
def fnDref11_Check (a : Aref11_Check) : Option Yref11_Check := fnref11_Check a some
theorem fnref11_Check_nat (a : Aref11_Check) (k : Yref11_Check → Ans) : fnref11_Check a k = bindO (fnDref11_Check a) k := by
  obtain z := a
  simp only [fnDref11_Check, fnref11_Check, bindO_cond, bindO_assoc, bindO_none, bindO_pure, bindO_elim, bindO_unP]
def argsref11_Check : Aref11_Check → List AV := fun a0 => [AV.ro (Ty.st (Ty.pair (Ty.int IntKind.i64) Ty.str)) a0]
def decAref11_Check (l : List AV) : Option Aref11_Check := match l with
  | [AV.ro (Ty.st (Ty.pair (Ty.int IntKind.i64) Ty.str)) a0] => some (a0)
  | _ => none
theorem decAref11_Check_ok (l : List AV) (a : Aref11_Check) (h : decAref11_Check l = some a) : l = argsref11_Check a := by
  unfold decAref11_Check at h
  split at h
  · cases h; rfl
  · cases h
def rendref11_Check : Aref11_Check → Yref11_Check → AV := fun a0 => fun r_y => AV.int IntKind.i64 r_y
theorem rendref11_Check_ok : ∀ (a : Aref11_Check) (y : Yref11_Check), (rendref11_Check a y).closed1 = true := by
  rintro z y <;> first | rfl | exact Empty.elim y
theorem fnref11_Check_ok (a : Aref11_Check) : fnE Try.tab envref11_Check noHint 0 70 32 Try.f32.ntmps Try.f32.results.toList annref11_Check bref11_Check (argsref11_Check a) [] (fun v _ => some (v, [])) = fnref11_Check a (fun y => some (rendref11_Check a y, [])) := by kernel_rfl
def vFref11_Check (a : Aref11_Check) (K : AV → Ans) : Ans := bindO (fnDref11_Check a) fun y => K (rendref11_Check a y)
def Fref11_Check : List AV → (AV → Ans) → Ans := fun l K => bindO (decAref11_Check l) fun a => vFref11_Check a K
theorem Fref11_Check_ok : PureOk Try.prog 32 Fref11_Check := pure_mkD (hint := noHint) (d := 0) (n := 70) mixed tabOk envref11_CheckOk Try.func32 (bodySome (by kernel_rfl)) (by decide +kernel) annref11_Check_ok decAref11_Check_ok fnref11_Check_ok fnref11_Check_nat rendref11_Check_ok
--@ ref02_Fits
noncomputable def envref02_Fits : Env := []
theorem envref02_FitsOk : EnvOk Try.prog envref02_Fits := EnvOk.nil
noncomputable def bref02_Fits : Code := Try.f61.body.getD .skip
noncomputable def Lref02_Fits_n1 : Code := codeAt [1, 1, 0, 1, 0, 0] bref02_Fits
noncomputable def annLref02_Fits_n1 : Ann := .at 0 [0, 1, 5] (.loop .none)
theorem annLref02_Fits_n1_ok : AnnOk Try.prog 25 (.loop Lref02_Fits_n1) annLref02_Fits_n1 := annOk_at (annOk_none _ _ _)
abbrev Iref02_Fits_n1 := (Int)
abbrev Yref02_Fits_n1 := (Int)
abbrev Vref02_Fits_n1 := (Int) × (Int)
def Sref02_Fits_n1 : Iref02_Fits_n1 → Vref02_Fits_n1 → St := fun t1 (t0, t5) => { env := [(0, AV.int IntKind.i64 t0), (1, AV.int IntKind.i64 t1), (5, AV.int IntKind.i64 t5)], stk := [[]], H := [], blk := 249856 }
def decref02_Fits_n1 (s : St) : Option (Iref02_Fits_n1 × Vref02_Fits_n1) := match s with
  | { env := [(0, AV.int IntKind.i64 t0), (1, AV.int IntKind.i64 t1), (5, AV.int IntKind.i64 t5)], stk := [[]], H := [], blk := 249856 } => some (t1, (t0, t5))
  | _ => none
theorem decref02_Fits_n1_ok (s : St) (x : Iref02_Fits_n1 × Vref02_Fits_n1) (h : decref02_Fits_n1 s = some x) : s = Sref02_Fits_n1 x.1 x.2 := by
  unfold decref02_Fits_n1 at h
  split at h
  · cases h; rfl
  · cases h
def outref02_Fits_n1 : Iref02_Fits_n1 → (Ex → St → Ans) → Yref02_Fits_n1 → Ans := fun t1 K => fun t0_y => K (Ex.exit 0) { env := [(0, AV.int IntKind.i64 t0_y)], stk := [[]], H := [], blk := 249856 }
def stepref02_Fits_n1 {β : Type} : Iref02_Fits_n1 → Vref02_Fits_n1 → (Vref02_Fits_n1 → Option β) → (Yref02_Fits_n1 → Option β) → Option β := fun t1 (t0, t5) next exit => (bif decide (t5 < t1) then (next (IntKind.wrap IntKind.i64 (Int.tdiv t0 (256 : Int)), IntKind.wrap IntKind.i64 (t5 + (1 : Int)))) else (exit (t0)))
def stepDref02_Fits_n1 (i : Iref02_Fits_n1) (v : Vref02_Fits_n1) : Option (Vref02_Fits_n1 ⊕ Yref02_Fits_n1) := stepref02_Fits_n1 i v (fun v => some (.inl v)) (fun y => some (.inr y))
theorem stepref02_Fits_n1_nat (i : Iref02_Fits_n1) (v : Vref02_Fits_n1) (next : Vref02_Fits_n1 → Ans) (exit : Yref02_Fits_n1 → Ans) : stepref02_Fits_n1 i v next exit = bindO (stepDref02_Fits_n1 i v) (Sum.elim next exit) := by
  obtain z := i
  obtain ⟨t0, t5⟩ := v
  simp only [stepDref02_Fits_n1, stepref02_Fits_n1, bindO_cond, bindO_assoc, bindO_none, bindO_pure, bindO_elim, bindO_unP, Sum.elim_inl, Sum.elim_inr]
theorem stepref02_Fits_n1_ok (n : Nat) (i : Iref02_Fits_n1) (v : Vref02_Fits_n1) (K : Ex → St → Ans) : codeI Try.tab envref02_Fits noHint (codeD Try.tab envref02_Fits noHint 0 64) (n+1) 25 annLref02_Fits_n1 (.loop Lref02_Fits_n1) (weakP 0 (exk [0] [4] [(0, [0])]) K) (Sref02_Fits_n1 i v) = stepref02_Fits_n1 i v (fun v' => codeI Try.tab envref02_Fits noHint (codeD Try.tab envref02_Fits noHint 0 64) n 25 annLref02_Fits_n1 (.loop Lref02_Fits_n1) (weakP 0 (exk [0] [4] [(0, [0])]) K) (Sref02_Fits_n1 i v')) (fun y => outref02_Fits_n1 i K y) := by kernel_rfl
theorem GNref02_Fits_n1_ok : CSum Try.prog 25 (.loop Lref02_Fits_n1) (sumL decref02_Fits_n1 stepDref02_Fits_n1 outref02_Fits_n1) := csum_loop mixed tabOk envref02_FitsOk 0 (exk [0] [4] [(0, [0])]) annLref02_Fits_n1_ok decref02_Fits_n1_ok stepref02_Fits_n1_ok stepref02_Fits_n1_nat
noncomputable def Gref02_Fits_n1 : (Ex → St → Ans) → St → Ans := (sumL decref02_Fits_n1 stepDref02_Fits_n1 outref02_Fits_n1)
theorem Gref02_Fits_n1_ok : CSum Try.prog 25 (.loop Lref02_Fits_n1) Gref02_Fits_n1 := GNref02_Fits_n1_ok
noncomputable def Lref02_Fits_n0 : Code := codeAt [1, 0, 0] bref02_Fits
noncomputable def annLref02_Fits_n0 : Ann := .none
theorem annLref02_Fits_n0_ok : AnnOk Try.prog 25 Lref02_Fits_n0 annLref02_Fits_n0 := (annOk_none _ _ _)
abbrev Iref02_Fits_n0 := (Int) × (Int)
abbrev Yref02_Fits_n0 := (Bool)
def Sref02_Fits_n0 : Iref02_Fits_n0 → St := fun (t0, t1) => { env := [(0, AV.int IntKind.i64 t0), (1, AV.int IntKind.i64 t1)], stk := [[]], H := [], blk := 249856 }
def decref02_Fits_n0 (s : St) : Option Iref02_Fits_n0 := match s with
  | { env := [(0, AV.int IntKind.i64 t0), (1, AV.int IntKind.i64 t1)], stk := [[]], H := [], blk := 249856 } => some (t0, t1)
  | _ => none
theorem decref02_Fits_n0_ok (s : St) (x : Iref02_Fits_n0) (h : decref02_Fits_n0 s = some x) : s = Sref02_Fits_n0 x := by
  unfold decref02_Fits_n0 at h
  split at h
  · cases h; rfl
  · cases h
def outref02_Fits_n0 : Iref02_Fits_n0 → (Ex → St → Ans) → Yref02_Fits_n0 → Ans := fun (t0, t1) K => fun t15_y => K (Ex.norm) { env := [(0, AV.int IntKind.i64 t0), (1, AV.int IntKind.i64 t1), (15, AV.bool t15_y)], stk := [[]], H := [], blk := 249856 }
def noderef02_Fits_n0 {β : Type} : Iref02_Fits_n0 → (Yref02_Fits_n0 → Option β) → Option β := fun (t0, t1) exit => (bif decide (t1 < (1 : Int)) then (exit (true)) else (bif decide (t1 > (7 : Int)) then (exit (true)) else (exit (decide (t0 < (0 : Int))))))
def nodeDref02_Fits_n0 (i : Iref02_Fits_n0) : Option Yref02_Fits_n0 := noderef02_Fits_n0 i some
theorem noderef02_Fits_n0_nat (i : Iref02_Fits_n0) (k : Yref02_Fits_n0 → Ans) : noderef02_Fits_n0 i k = bindO (nodeDref02_Fits_n0 i) k := by
  obtain ⟨t0, t1⟩ := i
  simp only [nodeDref02_Fits_n0, noderef02_Fits_n0, bindO_cond, bindO_assoc, bindO_none, bindO_pure, bindO_elim, bindO_unP]
theorem noderef02_Fits_n0_ok (i : Iref02_Fits_n0) (K : Ex → St → Ans) : codeI Try.tab envref02_Fits noHint (codeD Try.tab envref02_Fits noHint 0 64) 70 25 annLref02_Fits_n0 Lref02_Fits_n0 (weakP 0 (exk [0, 1, 15] [4] []) K) (Sref02_Fits_n0 i) = noderef02_Fits_n0 i (outref02_Fits_n0 i K) := by kernel_rfl
theorem GNref02_Fits_n0_ok : CSum Try.prog 25 Lref02_Fits_n0 (sumN decref02_Fits_n0 nodeDref02_Fits_n0 outref02_Fits_n0) := csum_node mixed tabOk envref02_FitsOk 0 (exk [0, 1, 15] [4] []) annLref02_Fits_n0_ok decref02_Fits_n0_ok noderef02_Fits_n0_ok noderef02_Fits_n0_nat
noncomputable def Gref02_Fits_n0 : (Ex → St → Ans) → St → Ans := (sumN decref02_Fits_n0 nodeDref02_Fits_n0 outref02_Fits_n0)
theorem Gref02_Fits_n0_ok : CSum Try.prog 25 Lref02_Fits_n0 Gref02_Fits_n0 := GNref02_Fits_n0_ok
noncomputable def annref02_Fits : Ann := (.seq .none (.seq (.seq (.cut 0 [0, 1] Gref02_Fits_n0) .none) (.seq (.seq .none (.block (.cut 0 [0, 1, 5] Gref02_Fits_n1))) .none)))
theorem annref02_Fits_ok : AnnOk Try.prog 25 bref02_Fits annref02_Fits := ⟨(annOk_none _ _ _), ⟨⟨Gref02_Fits_n0_ok, (annOk_none _ _ _)⟩, ⟨⟨(annOk_none _ _ _), Gref02_Fits_n1_ok⟩, (annOk_none _ _ _)⟩⟩⟩
abbrev Aref02_Fits := (Int) × (Int)
abbrev Yref02_Fits := (Bool)
def fnref02_Fits {β : Type} : Aref02_Fits → (Yref02_Fits → Option β) → Option β := fun (a0, a1) exit => (bindO (nodeDref02_Fits_n0 (a0, a1)) fun t15 => (bif t15 then (exit (false)) else (bindO (loopD (stepDref02_Fits_n1 (a1)) FUEL (a0, (0 : Int))) fun t0 => (exit (t0 == (0 : Int))))))
def fnDref02_Fits (a : Aref02_Fits) : Option Yref02_Fits := fnref02_Fits a some
theorem fnref02_Fits_nat (a : Aref02_Fits) (k : Yref02_Fits → Ans) : fnref02_Fits a k = bindO (fnDref02_Fits a) k := by
  obtain ⟨a0, a1⟩ := a
  simp only [fnDref02_Fits, fnref02_Fits, bindO_cond, bindO_assoc, bindO_none, bindO_pure, bindO_elim, bindO_unP]
def argsref02_Fits : Aref02_Fits → List AV := fun (a0, a1) => [AV.int IntKind.i64 a0, AV.int IntKind.i64 a1]
def decAref02_Fits (l : List AV) : Option Aref02_Fits := match l with
  | [AV.int IntKind.i64 a0, AV.int IntKind.i64 a1] => some (a0, a1)
  | _ => none
theorem decAref02_Fits_ok (l : List AV) (a : Aref02_Fits) (h : decAref02_Fits l = some a) : l = argsref02_Fits a := by
  unfold decAref02_Fits at h
  split at h
  · cases h; rfl
  · cases h
def rendref02_Fits : Aref02_Fits → Yref02_Fits → AV := fun (a0, a1) => fun r_y => AV.bool r_y
theorem rendref02_Fits_ok : ∀ (a : Aref02_Fits) (y : Yref02_Fits), (rendref02_Fits a y).closed1 = true := by
  rintro ⟨a0, a1⟩ y <;> first | rfl | exact Empty.elim y
theorem fnref02_Fits_ok (a : Aref02_Fits) : fnE Try.tab envref02_Fits noHint 0 70 61 Try.f61.ntmps Try.f61.results.toList annref02_Fits bref02_Fits (argsref02_Fits a) [] (fun v _ => some (v, [])) = fnref02_Fits a (fun y => some (rendref02_Fits a y, [])) := by kernel_rfl
def vFref02_Fits (a : Aref02_Fits) (K : AV → Ans) : Ans := bindO (fnDref02_Fits a) fun y => K (rendref02_Fits a y)
def Fref02_Fits : List AV → (AV → Ans) → Ans := fun l K => bindO (decAref02_Fits l) fun a => vFref02_Fits a K
theorem Fref02_Fits_ok : PureOk Try.prog 61 Fref02_Fits := pure_mkD (hint := noHint) (d := 0) (n := 70) mixed tabOk envref02_FitsOk Try.func61 (bodySome (by kernel_rfl)) (by decide +kernel) annref02_Fits_ok decAref02_Fits_ok fnref02_Fits_ok fnref02_Fits_nat rendref02_Fits_ok
--@ ref02_Put
noncomputable def envref02_Put : Env := [(61, .pure Fref02_Fits)]
theorem envref02_PutOk : EnvOk Try.prog envref02_Put := EnvOk.cons Fref02_Fits_ok (EnvOk.nil)
noncomputable def bref02_Put : Code := Try.f42.body.getD .skip
noncomputable def Lref02_Put_n0 : Code := codeAt [1, 1, 1, 0, 1, 0, 0] bref02_Put
noncomputable def annLref02_Put_n0 : Ann := .at 0 [0, 1, 2, 7, 8] (.loop .none)
theorem annLref02_Put_n0_ok : AnnOk Try.prog 31 (.loop Lref02_Put_n0) annLref02_Put_n0 := annOk_at (annOk_none _ _ _)
abbrev Iref02_Put_n0 := (List UInt8) × (Int)
abbrev Yref02_Put_n0 := (List UInt8)
abbrev Vref02_Put_n0 := (Int) × (List UInt8) × (Int)
def Sref02_Put_n0 : Iref02_Put_n0 → Vref02_Put_n0 → St := fun (t0, t2) (t1, t7, t8) => { env := [(0, AV.str t0), (1, AV.int IntKind.i64 t1), (2, AV.int IntKind.i64 t2), (7, AV.str t7), (8, AV.int IntKind.i64 t8)], stk := [[]], H := [], blk := 172032 }
def decref02_Put_n0 (s : St) : Option (Iref02_Put_n0 × Vref02_Put_n0) := match s with
  | { env := [(0, AV.str t0), (1, AV.int IntKind.i64 t1), (2, AV.int IntKind.i64 t2), (7, AV.str t7), (8, AV.int IntKind.i64 t8)], stk := [[]], H := [], blk := 172032 } => some ((t0, t2), (t1, t7, t8))
  | _ => none
theorem decref02_Put_n0_ok (s : St) (x : Iref02_Put_n0 × Vref02_Put_n0) (h : decref02_Put_n0 s = some x) : s = Sref02_Put_n0 x.1 x.2 := by
  unfold decref02_Put_n0 at h
  split at h
  · cases h; rfl
  · cases h
def outref02_Put_n0 : Iref02_Put_n0 → (Ex → St → Ans) → Yref02_Put_n0 → Ans := fun (t0, t2) K => fun t7_y => K (Ex.exit 0) { env := [(0, AV.str t0), (7, AV.str t7_y)], stk := [[]], H := [], blk := 172032 }
def stepref02_Put_n0 {β : Type} : Iref02_Put_n0 → Vref02_Put_n0 → (Vref02_Put_n0 → Option β) → (Yref02_Put_n0 → Option β) → Option β := fun (t0, t2) (t1, t7, t8) next exit => (bif decide (t8 < t2) then (bif Nat.ble (List.length (bytesOf [IntKind.wrap IntKind.u8 (Int.tmod t1 (256 : Int))]) + List.length t7) (9223372036854775807 : Nat) then (next (IntKind.wrap IntKind.i64 (Int.tdiv t1 (256 : Int)), bytesOf [IntKind.wrap IntKind.u8 (Int.tmod t1 (256 : Int))] ++ t7, IntKind.wrap IntKind.i64 (t8 + (1 : Int)))) else none) else (exit (t7)))
def stepDref02_Put_n0 (i : Iref02_Put_n0) (v : Vref02_Put_n0) : Option (Vref02_Put_n0 ⊕ Yref02_Put_n0) := stepref02_Put_n0 i v (fun v => some (.inl v)) (fun y => some (.inr y))
theorem stepref02_Put_n0_nat (i : Iref02_Put_n0) (v : Vref02_Put_n0) (next : Vref02_Put_n0 → Ans) (exit : Yref02_Put_n0 → Ans) : stepref02_Put_n0 i v next exit = bindO (stepDref02_Put_n0 i v) (Sum.elim next exit) := by
  obtain ⟨t0, t2⟩ := i
  obtain ⟨t1, t7, t8⟩ := v
  simp only [stepDref02_Put_n0, stepref02_Put_n0, bindO_cond, bindO_assoc, bindO_none, bindO_pure, bindO_elim, bindO_unP, Sum.elim_inl, Sum.elim_inr]
theorem stepref02_Put_n0_ok (n : Nat) (i : Iref02_Put_n0) (v : Vref02_Put_n0) (K : Ex → St → Ans) : codeI Try.tab envref02_Put noHint (codeD Try.tab envref02_Put noHint 0 64) (n+1) 31 annLref02_Put_n0 (.loop Lref02_Put_n0) (weakP 0 (exk [0, 7] [6] [(0, [0, 7])]) K) (Sref02_Put_n0 i v) = stepref02_Put_n0 i v (fun v' => codeI Try.tab envref02_Put noHint (codeD Try.tab envref02_Put noHint 0 64) n 31 annLref02_Put_n0 (.loop Lref02_Put_n0) (weakP 0 (exk [0, 7] [6] [(0, [0, 7])]) K) (Sref02_Put_n0 i v')) (fun y => outref02_Put_n0 i K y) := by kernel_rfl
theorem GNref02_Put_n0_ok : CSum Try.prog 31 (.loop Lref02_Put_n0) (sumL decref02_Put_n0 stepDref02_Put_n0 outref02_Put_n0) := csum_loop mixed tabOk envref02_PutOk 0 (exk [0, 7] [6] [(0, [0, 7])]) annLref02_Put_n0_ok decref02_Put_n0_ok stepref02_Put_n0_ok stepref02_Put_n0_nat
noncomputable def Gref02_Put_n0 : (Ex → St → Ans) → St → Ans := (sumL decref02_Put_n0 stepDref02_Put_n0 outref02_Put_n0)
theorem Gref02_Put_n0_ok : CSum Try.prog 31 (.loop Lref02_Put_n0) Gref02_Put_n0 := GNref02_Put_n0_ok
noncomputable def annref02_Put : Ann := (.seq .none (.seq .none (.seq .none (.seq (.seq .none (.block (.cut 0 [0, 1, 2, 7, 8] Gref02_Put_n0))) .none))))
theorem annref02_Put_ok : AnnOk Try.prog 31 bref02_Put annref02_Put := ⟨(annOk_none _ _ _), ⟨(annOk_none _ _ _), ⟨(annOk_none _ _ _), ⟨⟨(annOk_none _ _ _), Gref02_Put_n0_ok⟩, (annOk_none _ _ _)⟩⟩⟩⟩
abbrev Aref02_Put := (List UInt8) × (Int) × (Int)
abbrev Yref02_Put := (List UInt8)
def fnref02_Put {β : Type} : Aref02_Put → (Yref02_Put → Option β) → Option β := fun (a0, a1, a2) exit => (bindO (fnDref02_Fits (a1, a2)) fun r => (bif !r then (exit (a0)) else (bindO (loopD (stepDref02_Put_n0 (a0, a2)) FUEL (a1, [], (0 : Int))) fun t7 => (bif Nat.ble (List.length a0 + List.length t7) (9223372036854775807 : Nat) then (exit (a0 ++ t7)) else none))))
def fnDref02_Put (a : Aref02_Put) : Option Yref02_Put := fnref02_Put a some
theorem fnref02_Put_nat (a : Aref02_Put) (k : Yref02_Put → Ans) : fnref02_Put a k = bindO (fnDref02_Put a) k := by
  obtain ⟨a0, a1, a2⟩ := a
  simp only [fnDref02_Put, fnref02_Put, bindO_cond, bindO_assoc, bindO_none, bindO_pure, bindO_elim, bindO_unP]
def argsref02_Put : Aref02_Put → List AV := fun (a0, a1, a2) => [AV.str a0, AV.int IntKind.i64 a1, AV.int IntKind.i64 a2]
def decAref02_Put (l : List AV) : Option Aref02_Put := match l with
  | [AV.str a0, AV.int IntKind.i64 a1, AV.int IntKind.i64 a2] => some (a0, a1, a2)
  | _ => none
theorem decAref02_Put_ok (l : List AV) (a : Aref02_Put) (h : decAref02_Put l = some a) : l = argsref02_Put a := by
  unfold decAref02_Put at h
  split at h
  · cases h; rfl
  · cases h
def rendref02_Put : Aref02_Put → Yref02_Put → AV := fun (a0, a1, a2) => fun r_y => AV.str r_y
theorem rendref02_Put_ok : ∀ (a : Aref02_Put) (y : Yref02_Put), (rendref02_Put a y).closed1 = true := by
  rintro ⟨a0, a1, a2⟩ y <;> first | rfl | exact Empty.elim y
theorem fnref02_Put_ok (a : Aref02_Put) : fnE Try.tab envref02_Put noHint 0 70 42 Try.f42.ntmps Try.f42.results.toList annref02_Put bref02_Put (argsref02_Put a) [] (fun v _ => some (v, [])) = fnref02_Put a (fun y => some (rendref02_Put a y, [])) := by kernel_rfl
def vFref02_Put (a : Aref02_Put) (K : AV → Ans) : Ans := bindO (fnDref02_Put a) fun y => K (rendref02_Put a y)
def Fref02_Put : List AV → (AV → Ans) → Ans := fun l K => bindO (decAref02_Put l) fun a => vFref02_Put a K
theorem Fref02_Put_ok : PureOk Try.prog 42 Fref02_Put := pure_mkD (hint := noHint) (d := 0) (n := 70) mixed tabOk envref02_PutOk Try.func42 (bodySome (by kernel_rfl)) (by decide +kernel) annref02_Put_ok decAref02_Put_ok fnref02_Put_ok fnref02_Put_nat rendref02_Put_ok
--@ ref03_Of
noncomputable def envref03_Of : Env := []
theorem envref03_OfOk : EnvOk Try.prog envref03_Of := EnvOk.nil
noncomputable def bref03_Of : Code := Try.f65.body.getD .skip
noncomputable def Lref03_Of_n2 : Code := codeAt [1, 1, 0, 1, 0, 0, 1, 0, 0, 1, 1, 0, 0, 1, 0] bref03_Of
noncomputable def annLref03_Of_n2 : Ann := .none
theorem annLref03_Of_n2_ok : AnnOk Try.prog 33 Lref03_Of_n2 annLref03_Of_n2 := (annOk_none _ _ _)
abbrev Iref03_Of_n2 := (List UInt8) × (Int) × (Int) × (Int)
abbrev Yref03_Of_n2 := (Int)
def Sref03_Of_n2 : Iref03_Of_n2 → St := fun (t0, t3, t4, t5) => { env := [(0, AV.str t0), (3, AV.int IntKind.i64 t3), (4, AV.int IntKind.i64 t4), (5, AV.int IntKind.i64 t5)], stk := [[]], H := [], blk := 266242 }
def decref03_Of_n2 (s : St) : Option Iref03_Of_n2 := match s with
  | { env := [(0, AV.str t0), (3, AV.int IntKind.i64 t3), (4, AV.int IntKind.i64 t4), (5, AV.int IntKind.i64 t5)], stk := [[]], H := [], blk := 266242 } => some (t0, t3, t4, t5)
  | _ => none
theorem decref03_Of_n2_ok (s : St) (x : Iref03_Of_n2) (h : decref03_Of_n2 s = some x) : s = Sref03_Of_n2 x := by
  unfold decref03_Of_n2 at h
  split at h
  · cases h; rfl
  · cases h
def outref03_Of_n2 : Iref03_Of_n2 → (Ex → St → Ans) → Yref03_Of_n2 → Ans := fun (t0, t3, t4, t5) K => fun t3_y => K (Ex.norm) { env := [(0, AV.str t0), (3, AV.int IntKind.i64 t3_y), (4, AV.int IntKind.i64 t4), (5, AV.int IntKind.i64 t5)], stk := [[]], H := [], blk := 266243 }
def noderef03_Of_n2 {β : Type} : Iref03_Of_n2 → (Yref03_Of_n2 → Option β) → Option β := fun (t0, t3, t4, t5) exit => (bif Int.tmod t3 (2 : Int) == (1 : Int) then (exit (IntKind.wrap IntKind.i64 (↑(Int.toNat (IntKind.wrap IntKind.i64 (Int.tdiv t3 (2 : Int)) % (18446744073709551616 : Int)) ^^^ (3988292384 : Nat)) : Int))) else (exit (IntKind.wrap IntKind.i64 (Int.tdiv t3 (2 : Int)))))
def nodeDref03_Of_n2 (i : Iref03_Of_n2) : Option Yref03_Of_n2 := noderef03_Of_n2 i some
theorem noderef03_Of_n2_nat (i : Iref03_Of_n2) (k : Yref03_Of_n2 → Ans) : noderef03_Of_n2 i k = bindO (nodeDref03_Of_n2 i) k := by
  obtain ⟨t0, t3, t4, t5⟩ := i
  simp only [nodeDref03_Of_n2, noderef03_Of_n2, bindO_cond, bindO_assoc, bindO_none, bindO_pure, bindO_elim, bindO_unP]
theorem noderef03_Of_n2_ok (i : Iref03_Of_n2) (K : Ex → St → Ans) : codeI Try.tab envref03_Of noHint (codeD Try.tab envref03_Of noHint 0 64) 70 33 annLref03_Of_n2 Lref03_Of_n2 (weakP 0 (exk [0, 3, 4, 5] [2] []) K) (Sref03_Of_n2 i) = noderef03_Of_n2 i (outref03_Of_n2 i K) := by kernel_rfl
theorem GNref03_Of_n2_ok : CSum Try.prog 33 Lref03_Of_n2 (sumN decref03_Of_n2 nodeDref03_Of_n2 outref03_Of_n2) := csum_node mixed tabOk envref03_OfOk 0 (exk [0, 3, 4, 5] [2] []) annLref03_Of_n2_ok decref03_Of_n2_ok noderef03_Of_n2_ok noderef03_Of_n2_nat
noncomputable def Gref03_Of_n2 : (Ex → St → Ans) → St → Ans := (sumN decref03_Of_n2 nodeDref03_Of_n2 outref03_Of_n2)
theorem Gref03_Of_n2_ok : CSum Try.prog 33 Lref03_Of_n2 Gref03_Of_n2 := GNref03_Of_n2_ok
noncomputable def Lref03_Of_n1 : Code := codeAt [1, 1, 0, 1, 0, 0, 1, 0, 0, 1, 1, 0, 0] bref03_Of
noncomputable def annLref03_Of_n1 : Ann := .at 0 [0, 3, 4, 5] (.loop (.seq .none (.seq (.cut 0 [0, 3, 4, 5] Gref03_Of_n2) .none)))
theorem annLref03_Of_n1_ok : AnnOk Try.prog 33 (.loop Lref03_Of_n1) annLref03_Of_n1 := annOk_at ⟨(annOk_none _ _ _), ⟨Gref03_Of_n2_ok, (annOk_none _ _ _)⟩⟩
abbrev Iref03_Of_n1 := (List UInt8) × (Int)
abbrev Yref03_Of_n1 := (Int)
abbrev Vref03_Of_n1 := (Int) × (Int)
def Sref03_Of_n1 : Iref03_Of_n1 → Vref03_Of_n1 → St := fun (t0, t4) (t3, t5) => { env := [(0, AV.str t0), (3, AV.int IntKind.i64 t3), (4, AV.int IntKind.i64 t4), (5, AV.int IntKind.i64 t5)], stk := [[]], H := [], blk := 266242 }
def decref03_Of_n1 (s : St) : Option (Iref03_Of_n1 × Vref03_Of_n1) := match s with
  | { env := [(0, AV.str t0), (3, AV.int IntKind.i64 t3), (4, AV.int IntKind.i64 t4), (5, AV.int IntKind.i64 t5)], stk := [[]], H := [], blk := 266242 } => some ((t0, t4), (t3, t5))
  | _ => none
theorem decref03_Of_n1_ok (s : St) (x : Iref03_Of_n1 × Vref03_Of_n1) (h : decref03_Of_n1 s = some x) : s = Sref03_Of_n1 x.1 x.2 := by
  unfold decref03_Of_n1 at h
  split at h
  · cases h; rfl
  · cases h
def outref03_Of_n1 : Iref03_Of_n1 → (Ex → St → Ans) → Yref03_Of_n1 → Ans := fun (t0, t4) K => fun t3_y => K (Ex.exit 2) { env := [(0, AV.str t0), (3, AV.int IntKind.i64 t3_y), (4, AV.int IntKind.i64 t4)], stk := [[]], H := [], blk := 266242 }
def stepref03_Of_n1 {β : Type} : Iref03_Of_n1 → Vref03_Of_n1 → (Vref03_Of_n1 → Option β) → (Yref03_Of_n1 → Option β) → Option β := fun (t0, t4) (t3, t5) next exit => (bif decide (t5 < (8 : Int)) then (bindO (nodeDref03_Of_n2 (t0, t3, t4, t5)) fun t3_2 => (next (t3_2, IntKind.wrap IntKind.i64 (t5 + (1 : Int))))) else (exit (t3)))
def stepDref03_Of_n1 (i : Iref03_Of_n1) (v : Vref03_Of_n1) : Option (Vref03_Of_n1 ⊕ Yref03_Of_n1) := stepref03_Of_n1 i v (fun v => some (.inl v)) (fun y => some (.inr y))
theorem stepref03_Of_n1_nat (i : Iref03_Of_n1) (v : Vref03_Of_n1) (next : Vref03_Of_n1 → Ans) (exit : Yref03_Of_n1 → Ans) : stepref03_Of_n1 i v next exit = bindO (stepDref03_Of_n1 i v) (Sum.elim next exit) := by
  obtain ⟨t0, t4⟩ := i
  obtain ⟨t3, t5⟩ := v
  simp only [stepDref03_Of_n1, stepref03_Of_n1, bindO_cond, bindO_assoc, bindO_none, bindO_pure, bindO_elim, bindO_unP, Sum.elim_inl, Sum.elim_inr]
theorem stepref03_Of_n1_ok (n : Nat) (i : Iref03_Of_n1) (v : Vref03_Of_n1) (K : Ex → St → Ans) : codeI Try.tab envref03_Of noHint (codeD Try.tab envref03_Of noHint 0 64) (n+1) 33 annLref03_Of_n1 (.loop Lref03_Of_n1) (weakP 0 (exk [0, 3, 4] [2] [(2, [0, 3, 4])]) K) (Sref03_Of_n1 i v) = stepref03_Of_n1 i v (fun v' => codeI Try.tab envref03_Of noHint (codeD Try.tab envref03_Of noHint 0 64) n 33 annLref03_Of_n1 (.loop Lref03_Of_n1) (weakP 0 (exk [0, 3, 4] [2] [(2, [0, 3, 4])]) K) (Sref03_Of_n1 i v')) (fun y => outref03_Of_n1 i K y) := by kernel_rfl
theorem GNref03_Of_n1_ok : CSum Try.prog 33 (.loop Lref03_Of_n1) (sumL decref03_Of_n1 stepDref03_Of_n1 outref03_Of_n1) := csum_loop mixed tabOk envref03_OfOk 0 (exk [0, 3, 4] [2] [(2, [0, 3, 4])]) annLref03_Of_n1_ok decref03_Of_n1_ok stepref03_Of_n1_ok stepref03_Of_n1_nat
noncomputable def Gref03_Of_n1 : (Ex → St → Ans) → St → Ans := (sumL decref03_Of_n1 stepDref03_Of_n1 outref03_Of_n1)
theorem Gref03_Of_n1_ok : CSum Try.prog 33 (.loop Lref03_Of_n1) Gref03_Of_n1 := GNref03_Of_n1_ok
noncomputable def Lref03_Of_n0 : Code := codeAt [1, 1, 0, 1, 0, 0] bref03_Of
noncomputable def annLref03_Of_n0 : Ann := .at 0 [0, 3, 4] (.loop (.seq .none (.seq (.block (.seq .none (.seq .none (.block (.cut 0 [0, 3, 4, 5] Gref03_Of_n1))))) .none)))
theorem annLref03_Of_n0_ok : AnnOk Try.prog 33 (.loop Lref03_Of_n0) annLref03_Of_n0 := annOk_at ⟨(annOk_none _ _ _), ⟨⟨(annOk_none _ _ _), ⟨(annOk_none _ _ _), Gref03_Of_n1_ok⟩⟩, (annOk_none _ _ _)⟩⟩
abbrev Iref03_Of_n0 := (List UInt8)
abbrev Yref03_Of_n0 := (Int)
abbrev Vref03_Of_n0 := (Int) × (Int)
def Sref03_Of_n0 : Iref03_Of_n0 → Vref03_Of_n0 → St := fun t0 (t3, t4) => { env := [(0, AV.str t0), (3, AV.int IntKind.i64 t3), (4, AV.int IntKind.i64 t4)], stk := [[]], H := [], blk := 266240 }
def decref03_Of_n0 (s : St) : Option (Iref03_Of_n0 × Vref03_Of_n0) := match s with
  | { env := [(0, AV.str t0), (3, AV.int IntKind.i64 t3), (4, AV.int IntKind.i64 t4)], stk := [[]], H := [], blk := 266240 } => some (t0, (t3, t4))
  | _ => none
theorem decref03_Of_n0_ok (s : St) (x : Iref03_Of_n0 × Vref03_Of_n0) (h : decref03_Of_n0 s = some x) : s = Sref03_Of_n0 x.1 x.2 := by
  unfold decref03_Of_n0 at h
  split at h
  · cases h; rfl
  · cases h
def outref03_Of_n0 : Iref03_Of_n0 → (Ex → St → Ans) → Yref03_Of_n0 → Ans := fun t0 K => fun t3_y => K (Ex.exit 0) { env := [(3, AV.int IntKind.i64 t3_y)], stk := [[]], H := [], blk := 266240 }
def stepref03_Of_n0 {β : Type} : Iref03_Of_n0 → Vref03_Of_n0 → (Vref03_Of_n0 → Option β) → (Yref03_Of_n0 → Option β) → Option β := fun t0 (t3, t4) next exit => (bif decide (t4 < (↑(List.length t0) : Int)) then (bindO (nth t0 t4) fun x => (bindO (loopD (stepDref03_Of_n1 (t0, t4)) FUEL (IntKind.wrap IntKind.i64 (↑(Int.toNat (t3 % (18446744073709551616 : Int)) ^^^ Int.toNat (IntKind.wrap IntKind.i64 (↑(UInt8.toNat x) : Int) % (18446744073709551616 : Int))) : Int), (0 : Int))) fun t3_2 => (next (t3_2, IntKind.wrap IntKind.i64 (t4 + (1 : Int)))))) else (exit (t3)))
def stepDref03_Of_n0 (i : Iref03_Of_n0) (v : Vref03_Of_n0) : Option (Vref03_Of_n0 ⊕ Yref03_Of_n0) := stepref03_Of_n0 i v (fun v => some (.inl v)) (fun y => some (.inr y))
theorem stepref03_Of_n0_nat (i : Iref03_Of_n0) (v : Vref03_Of_n0) (next : Vref03_Of_n0 → Ans) (exit : Yref03_Of_n0 → Ans) : stepref03_Of_n0 i v next exit = bindO (stepDref03_Of_n0 i v) (Sum.elim next exit) := by
  obtain z := i
  obtain ⟨t3, t4⟩ := v
  simp only [stepDref03_Of_n0, stepref03_Of_n0, bindO_cond, bindO_assoc, bindO_none, bindO_pure, bindO_elim, bindO_unP, Sum.elim_inl, Sum.elim_inr]
theorem stepref03_Of_n0_ok (n : Nat) (i : Iref03_Of_n0) (v : Vref03_Of_n0) (K : Ex → St → Ans) : codeI Try.tab envref03_Of noHint (codeD Try.tab envref03_Of noHint 0 64) (n+1) 33 annLref03_Of_n0 (.loop Lref03_Of_n0) (weakP 0 (exk [3] [2] [(0, [3])]) K) (Sref03_Of_n0 i v) = stepref03_Of_n0 i v (fun v' => codeI Try.tab envref03_Of noHint (codeD Try.tab envref03_Of noHint 0 64) n 33 annLref03_Of_n0 (.loop Lref03_Of_n0) (weakP 0 (exk [3] [2] [(0, [3])]) K) (Sref03_Of_n0 i v')) (fun y => outref03_Of_n0 i K y) := by kernel_rfl
theorem GNref03_Of_n0_ok : CSum Try.prog 33 (.loop Lref03_Of_n0) (sumL decref03_Of_n0 stepDref03_Of_n0 outref03_Of_n0) := csum_loop mixed tabOk envref03_OfOk 0 (exk [3] [2] [(0, [3])]) annLref03_Of_n0_ok decref03_Of_n0_ok stepref03_Of_n0_ok stepref03_Of_n0_nat
noncomputable def Gref03_Of_n0 : (Ex → St → Ans) → St → Ans := (sumL decref03_Of_n0 stepDref03_Of_n0 outref03_Of_n0)
theorem Gref03_Of_n0_ok : CSum Try.prog 33 (.loop Lref03_Of_n0) Gref03_Of_n0 := GNref03_Of_n0_ok
noncomputable def annref03_Of : Ann := (.seq .none (.seq .none (.seq (.seq .none (.block (.cut 0 [0, 3, 4] Gref03_Of_n0))) .none)))
theorem annref03_Of_ok : AnnOk Try.prog 33 bref03_Of annref03_Of := ⟨(annOk_none _ _ _), ⟨(annOk_none _ _ _), ⟨⟨(annOk_none _ _ _), Gref03_Of_n0_ok⟩, (annOk_none _ _ _)⟩⟩⟩
abbrev Aref03_Of := (List UInt8)
abbrev Yref03_Of := (Int)
def fnref03_Of {β : Type} : Aref03_Of → (Yref03_Of → Option β) → Option β := fun a0 exit => (bindO (loopD (stepDref03_Of_n0 (a0)) FUEL ((4294967295 : Int), (0 : Int))) fun t3 => (exit (IntKind.wrap IntKind.i64 (↑(Int.toNat (t3 % (18446744073709551616 : Int)) ^^^ (4294967295 : Nat)) : Int))))
def fnDref03_Of (a : Aref03_Of) : Option Yref03_Of := fnref03_Of a some
theorem fnref03_Of_nat (a : Aref03_Of) (k : Yref03_Of → Ans) : fnref03_Of a k = bindO (fnDref03_Of a) k := by
  obtain z := a
  simp only [fnDref03_Of, fnref03_Of, bindO_cond, bindO_assoc, bindO_none, bindO_pure, bindO_elim, bindO_unP]
def argsref03_Of : Aref03_Of → List AV := fun a0 => [AV.str a0]
def decAref03_Of (l : List AV) : Option Aref03_Of := match l with
  | [AV.str a0] => some (a0)
  | _ => none
theorem decAref03_Of_ok (l : List AV) (a : Aref03_Of) (h : decAref03_Of l = some a) : l = argsref03_Of a := by
  unfold decAref03_Of at h
  split at h
  · cases h; rfl
  · cases h
def rendref03_Of : Aref03_Of → Yref03_Of → AV := fun a0 => fun r_y => AV.int IntKind.i64 r_y
theorem rendref03_Of_ok : ∀ (a : Aref03_Of) (y : Yref03_Of), (rendref03_Of a y).closed1 = true := by
  rintro z y <;> first | rfl | exact Empty.elim y
theorem fnref03_Of_ok (a : Aref03_Of) : fnE Try.tab envref03_Of noHint 0 70 65 Try.f65.ntmps Try.f65.results.toList annref03_Of bref03_Of (argsref03_Of a) [] (fun v _ => some (v, [])) = fnref03_Of a (fun y => some (rendref03_Of a y, [])) := by kernel_rfl
def vFref03_Of (a : Aref03_Of) (K : AV → Ans) : Ans := bindO (fnDref03_Of a) fun y => K (rendref03_Of a y)
def Fref03_Of : List AV → (AV → Ans) → Ans := fun l K => bindO (decAref03_Of l) fun a => vFref03_Of a K
theorem Fref03_Of_ok : PureOk Try.prog 65 Fref03_Of := pure_mkD (hint := noHint) (d := 0) (n := 70) mixed tabOk envref03_OfOk Try.func65 (bodySome (by kernel_rfl)) (by decide +kernel) annref03_Of_ok decAref03_Of_ok fnref03_Of_ok fnref03_Of_nat rendref03_Of_ok
--@ ref03_Tail
noncomputable def envref03_Tail : Env := [(65, .pure Fref03_Of)]
theorem envref03_TailOk : EnvOk Try.prog envref03_Tail := EnvOk.cons Fref03_Of_ok (EnvOk.nil)
noncomputable def bref03_Tail : Code := Try.f45.body.getD .skip
noncomputable def annref03_Tail : Ann := .none
theorem annref03_Tail_ok : AnnOk Try.prog 23 bref03_Tail annref03_Tail := (annOk_none _ _ _)
abbrev Aref03_Tail := (List UInt8)
abbrev Yref03_Tail := (List UInt8)
def fnref03_Tail {β : Type} : Aref03_Tail → (Yref03_Tail → Option β) → Option β := fun a0 exit => (bindO (fnDref03_Of (a0)) fun r => (exit (bytesOf [IntKind.wrap IntKind.u8 (Int.tmod r (256 : Int)), IntKind.wrap IntKind.u8 (Int.tmod (IntKind.wrap IntKind.i64 (Int.tdiv r (256 : Int))) (256 : Int)), IntKind.wrap IntKind.u8 (Int.tmod (IntKind.wrap IntKind.i64 (Int.tdiv r (65536 : Int))) (256 : Int)), IntKind.wrap IntKind.u8 (Int.tmod (IntKind.wrap IntKind.i64 (Int.tdiv r (16777216 : Int))) (256 : Int))])))
def fnDref03_Tail (a : Aref03_Tail) : Option Yref03_Tail := fnref03_Tail a some
theorem fnref03_Tail_nat (a : Aref03_Tail) (k : Yref03_Tail → Ans) : fnref03_Tail a k = bindO (fnDref03_Tail a) k := by
  obtain z := a
  simp only [fnDref03_Tail, fnref03_Tail, bindO_cond, bindO_assoc, bindO_none, bindO_pure, bindO_elim, bindO_unP]
def argsref03_Tail : Aref03_Tail → List AV := fun a0 => [AV.str a0]
def decAref03_Tail (l : List AV) : Option Aref03_Tail := match l with
  | [AV.str a0] => some (a0)
  | _ => none
theorem decAref03_Tail_ok (l : List AV) (a : Aref03_Tail) (h : decAref03_Tail l = some a) : l = argsref03_Tail a := by
  unfold decAref03_Tail at h
  split at h
  · cases h; rfl
  · cases h
def rendref03_Tail : Aref03_Tail → Yref03_Tail → AV := fun a0 => fun r_y => AV.str r_y
theorem rendref03_Tail_ok : ∀ (a : Aref03_Tail) (y : Yref03_Tail), (rendref03_Tail a y).closed1 = true := by
  rintro z y <;> first | rfl | exact Empty.elim y
theorem fnref03_Tail_ok (a : Aref03_Tail) : fnE Try.tab envref03_Tail noHint 0 70 45 Try.f45.ntmps Try.f45.results.toList annref03_Tail bref03_Tail (argsref03_Tail a) [] (fun v _ => some (v, [])) = fnref03_Tail a (fun y => some (rendref03_Tail a y, [])) := by kernel_rfl
def vFref03_Tail (a : Aref03_Tail) (K : AV → Ans) : Ans := bindO (fnDref03_Tail a) fun y => K (rendref03_Tail a y)
def Fref03_Tail : List AV → (AV → Ans) → Ans := fun l K => bindO (decAref03_Tail l) fun a => vFref03_Tail a K
theorem Fref03_Tail_ok : PureOk Try.prog 45 Fref03_Tail := pure_mkD (hint := noHint) (d := 0) (n := 70) mixed tabOk envref03_TailOk Try.func45 (bodySome (by kernel_rfl)) (by decide +kernel) annref03_Tail_ok decAref03_Tail_ok fnref03_Tail_ok fnref03_Tail_nat rendref03_Tail_ok
--@ ref09_Pad
noncomputable def envref09_Pad : Env := []
theorem envref09_PadOk : EnvOk Try.prog envref09_Pad := EnvOk.nil
noncomputable def bref09_Pad : Code := Try.f44.body.getD .skip
noncomputable def Lref09_Pad_n0 : Code := codeAt [1, 0, 0, 0] bref09_Pad
noncomputable def annLref09_Pad_n0 : Ann := .at 0 [0] (.loop .none)
theorem annLref09_Pad_n0_ok : AnnOk Try.prog 10 (.loop Lref09_Pad_n0) annLref09_Pad_n0 := annOk_at (annOk_none _ _ _)
abbrev Iref09_Pad_n0 := Unit
abbrev Yref09_Pad_n0 := (List UInt8)
abbrev Vref09_Pad_n0 := (List UInt8)
def Sref09_Pad_n0 : Iref09_Pad_n0 → Vref09_Pad_n0 → St := fun _ t0 => { env := [(0, AV.str t0)], stk := [[]], H := [], blk := 180224 }
def decref09_Pad_n0 (s : St) : Option (Iref09_Pad_n0 × Vref09_Pad_n0) := match s with
  | { env := [(0, AV.str t0)], stk := [[]], H := [], blk := 180224 } => some ((), t0)
  | _ => none
theorem decref09_Pad_n0_ok (s : St) (x : Iref09_Pad_n0 × Vref09_Pad_n0) (h : decref09_Pad_n0 s = some x) : s = Sref09_Pad_n0 x.1 x.2 := by
  unfold decref09_Pad_n0 at h
  split at h
  · cases h; rfl
  · cases h
def outref09_Pad_n0 : Iref09_Pad_n0 → (Ex → St → Ans) → Yref09_Pad_n0 → Ans := fun _ K => fun t0_y => K (Ex.exit 0) { env := [(0, AV.str t0_y)], stk := [[]], H := [], blk := 180224 }
def stepref09_Pad_n0 {β : Type} : Iref09_Pad_n0 → Vref09_Pad_n0 → (Vref09_Pad_n0 → Option β) → (Yref09_Pad_n0 → Option β) → Option β := fun _ t0 next exit => (bif Int.tmod (↑(List.length t0) : Int) (64 : Int) != (0 : Int) then (bif Nat.ble (List.length t0 + (1 : Nat)) (9223372036854775807 : Nat) then (next (t0 ++ [(0 : UInt8)])) else none) else (exit (t0)))
def stepDref09_Pad_n0 (i : Iref09_Pad_n0) (v : Vref09_Pad_n0) : Option (Vref09_Pad_n0 ⊕ Yref09_Pad_n0) := stepref09_Pad_n0 i v (fun v => some (.inl v)) (fun y => some (.inr y))
theorem stepref09_Pad_n0_nat (i : Iref09_Pad_n0) (v : Vref09_Pad_n0) (next : Vref09_Pad_n0 → Ans) (exit : Yref09_Pad_n0 → Ans) : stepref09_Pad_n0 i v next exit = bindO (stepDref09_Pad_n0 i v) (Sum.elim next exit) := by
  obtain z := i
  obtain z := v
  simp only [stepDref09_Pad_n0, stepref09_Pad_n0, bindO_cond, bindO_assoc, bindO_none, bindO_pure, bindO_elim, bindO_unP, Sum.elim_inl, Sum.elim_inr]
theorem stepref09_Pad_n0_ok (n : Nat) (i : Iref09_Pad_n0) (v : Vref09_Pad_n0) (K : Ex → St → Ans) : codeI Try.tab envref09_Pad noHint (codeD Try.tab envref09_Pad noHint 0 64) (n+1) 10 annLref09_Pad_n0 (.loop Lref09_Pad_n0) (weakP 0 (exk [0] [2] [(0, [0])]) K) (Sref09_Pad_n0 i v) = stepref09_Pad_n0 i v (fun v' => codeI Try.tab envref09_Pad noHint (codeD Try.tab envref09_Pad noHint 0 64) n 10 annLref09_Pad_n0 (.loop Lref09_Pad_n0) (weakP 0 (exk [0] [2] [(0, [0])]) K) (Sref09_Pad_n0 i v')) (fun y => outref09_Pad_n0 i K y) := by kernel_rfl
theorem GNref09_Pad_n0_ok : CSum Try.prog 10 (.loop Lref09_Pad_n0) (sumL decref09_Pad_n0 stepDref09_Pad_n0 outref09_Pad_n0) := csum_loop mixed tabOk envref09_PadOk 0 (exk [0] [2] [(0, [0])]) annLref09_Pad_n0_ok decref09_Pad_n0_ok stepref09_Pad_n0_ok stepref09_Pad_n0_nat
noncomputable def Gref09_Pad_n0 : (Ex → St → Ans) → St → Ans := (sumL decref09_Pad_n0 stepDref09_Pad_n0 outref09_Pad_n0)
theorem Gref09_Pad_n0_ok : CSum Try.prog 10 (.loop Lref09_Pad_n0) Gref09_Pad_n0 := GNref09_Pad_n0_ok
noncomputable def annref09_Pad : Ann := (.seq .none (.seq (.block (.cut 0 [0] Gref09_Pad_n0)) .none))
theorem annref09_Pad_ok : AnnOk Try.prog 10 bref09_Pad annref09_Pad := ⟨(annOk_none _ _ _), ⟨Gref09_Pad_n0_ok, (annOk_none _ _ _)⟩⟩
abbrev Aref09_Pad := (List UInt8)
abbrev Yref09_Pad := (List UInt8)
def fnref09_Pad {β : Type} : Aref09_Pad → (Yref09_Pad → Option β) → Option β := fun a0 exit => (bindO (loopD (stepDref09_Pad_n0 ()) FUEL (a0)) fun t0 => (exit (t0)))
def fnDref09_Pad (a : Aref09_Pad) : Option Yref09_Pad := fnref09_Pad a some
theorem fnref09_Pad_nat (a : Aref09_Pad) (k : Yref09_Pad → Ans) : fnref09_Pad a k = bindO (fnDref09_Pad a) k := by
  obtain z := a
  simp only [fnDref09_Pad, fnref09_Pad, bindO_cond, bindO_assoc, bindO_none, bindO_pure, bindO_elim, bindO_unP]
def argsref09_Pad : Aref09_Pad → List AV := fun a0 => [AV.str a0]
def decAref09_Pad (l : List AV) : Option Aref09_Pad := match l with
  | [AV.str a0] => some (a0)
  | _ => none
theorem decAref09_Pad_ok (l : List AV) (a : Aref09_Pad) (h : decAref09_Pad l = some a) : l = argsref09_Pad a := by
  unfold decAref09_Pad at h
  split at h
  · cases h; rfl
  · cases h
def rendref09_Pad : Aref09_Pad → Yref09_Pad → AV := fun a0 => fun r_y => AV.str r_y
theorem rendref09_Pad_ok : ∀ (a : Aref09_Pad) (y : Yref09_Pad), (rendref09_Pad a y).closed1 = true := by
  rintro z y <;> first | rfl | exact Empty.elim y
theorem fnref09_Pad_ok (a : Aref09_Pad) : fnE Try.tab envref09_Pad noHint 0 70 44 Try.f44.ntmps Try.f44.results.toList annref09_Pad bref09_Pad (argsref09_Pad a) [] (fun v _ => some (v, [])) = fnref09_Pad a (fun y => some (rendref09_Pad a y, [])) := by kernel_rfl
def vFref09_Pad (a : Aref09_Pad) (K : AV → Ans) : Ans := bindO (fnDref09_Pad a) fun y => K (rendref09_Pad a y)
def Fref09_Pad : List AV → (AV → Ans) → Ans := fun l K => bindO (decAref09_Pad l) fun a => vFref09_Pad a K
theorem Fref09_Pad_ok : PureOk Try.prog 44 Fref09_Pad := pure_mkD (hint := noHint) (d := 0) (n := 70) mixed tabOk envref09_PadOk Try.func44 (bodySome (by kernel_rfl)) (by decide +kernel) annref09_Pad_ok decAref09_Pad_ok fnref09_Pad_ok fnref09_Pad_nat rendref09_Pad_ok
--@ ref11_Put
noncomputable def envref11_Put : Env := [(32, .pure Fref11_Check), (42, .pure Fref02_Put), (45, .pure Fref03_Tail), (44, .pure Fref09_Pad)]
theorem envref11_PutOk : EnvOk Try.prog envref11_Put := EnvOk.cons Fref11_Check_ok (EnvOk.cons Fref02_Put_ok (EnvOk.cons Fref03_Tail_ok (EnvOk.cons Fref09_Pad_ok (EnvOk.nil))))
noncomputable def bref11_Put : Code := Try.f30.body.getD .skip
noncomputable def Lref11_Put_n1 : Code := codeAt [1, 1, 1, 1, 1, 1, 0, 1, 0, 0] bref11_Put
noncomputable def annLref11_Put_n1 : Ann := .at 0 [1, 7, 8, 9] (.loop .none)
theorem annLref11_Put_n1_ok : AnnOk Try.prog 55 (.loop Lref11_Put_n1) annLref11_Put_n1 := annOk_at (annOk_none _ _ _)
abbrev Iref11_Put_n1 := (List (Int × List UInt8))
abbrev Yref11_Put_n1 := (List UInt8) × (List UInt8)
abbrev Vref11_Put_n1 := (List UInt8) × (List UInt8) × (Int)
def Sref11_Put_n1 : Iref11_Put_n1 → Vref11_Put_n1 → St := fun t1 (t7, t8, t9) => { env := [(1, AV.ro (Ty.st (Ty.pair (Ty.int IntKind.i64) Ty.str)) t1), (7, AV.str t7), (8, AV.str t8), (9, AV.int IntKind.i64 t9)], stk := [[]], H := [], blk := 122880 }
def decref11_Put_n1 (s : St) : Option (Iref11_Put_n1 × Vref11_Put_n1) := match s with
  | { env := [(1, AV.ro (Ty.st (Ty.pair (Ty.int IntKind.i64) Ty.str)) t1), (7, AV.str t7), (8, AV.str t8), (9, AV.int IntKind.i64 t9)], stk := [[]], H := [], blk := 122880 } => some (t1, (t7, t8, t9))
  | _ => none
theorem decref11_Put_n1_ok (s : St) (x : Iref11_Put_n1 × Vref11_Put_n1) (h : decref11_Put_n1 s = some x) : s = Sref11_Put_n1 x.1 x.2 := by
  unfold decref11_Put_n1 at h
  split at h
  · cases h; rfl
  · cases h
def outref11_Put_n1 : Iref11_Put_n1 → (Ex → St → Ans) → Yref11_Put_n1 → Ans := fun t1 K => unP fun t7_y t8_y => K (Ex.exit 0) { env := [(7, AV.str t7_y), (8, AV.str t8_y)], stk := [[]], H := [], blk := 122880 }
def stepref11_Put_n1 {β : Type} : Iref11_Put_n1 → Vref11_Put_n1 → (Vref11_Put_n1 → Option β) → (Yref11_Put_n1 → Option β) → Option β := fun t1 (t7, t8, t9) next exit => (bif decide (t9 < (↑(List.length t1) : Int)) then (bindO (nth t1 t9) fun x => (bindO (fnDref02_Put (t7, x.fst, (2 : Int))) fun r => (bindO (nth t1 t9) fun x_2 => (bif Nat.ble (List.length t8 + List.length x_2.snd) (9223372036854775807 : Nat) then (next (r, t8 ++ x_2.snd, IntKind.wrap IntKind.i64 (t9 + (1 : Int)))) else none)))) else (exit (t7, t8)))
def stepDref11_Put_n1 (i : Iref11_Put_n1) (v : Vref11_Put_n1) : Option (Vref11_Put_n1 ⊕ Yref11_Put_n1) := stepref11_Put_n1 i v (fun v => some (.inl v)) (fun y => some (.inr y))
theorem stepref11_Put_n1_nat (i : Iref11_Put_n1) (v : Vref11_Put_n1) (next : Vref11_Put_n1 → Ans) (exit : Yref11_Put_n1 → Ans) : stepref11_Put_n1 i v next exit = bindO (stepDref11_Put_n1 i v) (Sum.elim next exit) := by
  obtain z := i
  obtain ⟨t7, t8, t9⟩ := v
  simp only [stepDref11_Put_n1, stepref11_Put_n1, bindO_cond, bindO_assoc, bindO_none, bindO_pure, bindO_elim, bindO_unP, Sum.elim_inl, Sum.elim_inr]
theorem stepref11_Put_n1_ok (n : Nat) (i : Iref11_Put_n1) (v : Vref11_Put_n1) (K : Ex → St → Ans) : codeI Try.tab envref11_Put noHint (codeD Try.tab envref11_Put noHint 0 64) (n+1) 55 annLref11_Put_n1 (.loop Lref11_Put_n1) (weakP 0 (exk [7, 8] [4, 5] [(0, [7, 8])]) K) (Sref11_Put_n1 i v) = stepref11_Put_n1 i v (fun v' => codeI Try.tab envref11_Put noHint (codeD Try.tab envref11_Put noHint 0 64) n 55 annLref11_Put_n1 (.loop Lref11_Put_n1) (weakP 0 (exk [7, 8] [4, 5] [(0, [7, 8])]) K) (Sref11_Put_n1 i v')) (fun y => outref11_Put_n1 i K y) := by kernel_rfl
theorem GNref11_Put_n1_ok : CSum Try.prog 55 (.loop Lref11_Put_n1) (sumL decref11_Put_n1 stepDref11_Put_n1 outref11_Put_n1) := csum_loop mixed tabOk envref11_PutOk 0 (exk [7, 8] [4, 5] [(0, [7, 8])]) annLref11_Put_n1_ok decref11_Put_n1_ok stepref11_Put_n1_ok stepref11_Put_n1_nat
noncomputable def Gref11_Put_n1 : (Ex → St → Ans) → St → Ans := (sumL decref11_Put_n1 stepDref11_Put_n1 outref11_Put_n1)
theorem Gref11_Put_n1_ok : CSum Try.prog 55 (.loop Lref11_Put_n1) Gref11_Put_n1 := GNref11_Put_n1_ok
noncomputable def Lref11_Put_n0 : Code := codeAt [1, 0, 0] bref11_Put
noncomputable def annLref11_Put_n0 : Ann := .none
theorem annLref11_Put_n0_ok : AnnOk Try.prog 55 Lref11_Put_n0 annLref11_Put_n0 := (annOk_none _ _ _)
abbrev Iref11_Put_n0 := (Int) × (List (Int × List UInt8))
abbrev Yref11_Put_n0 := (Bool)
def Sref11_Put_n0 : Iref11_Put_n0 → St := fun (t0, t1) => { env := [(0, AV.int IntKind.i64 t0), (1, AV.ro (Ty.st (Ty.pair (Ty.int IntKind.i64) Ty.str)) t1)], stk := [[]], H := [], blk := 122880 }
def decref11_Put_n0 (s : St) : Option Iref11_Put_n0 := match s with
  | { env := [(0, AV.int IntKind.i64 t0), (1, AV.ro (Ty.st (Ty.pair (Ty.int IntKind.i64) Ty.str)) t1)], stk := [[]], H := [], blk := 122880 } => some (t0, t1)
  | _ => none
theorem decref11_Put_n0_ok (s : St) (x : Iref11_Put_n0) (h : decref11_Put_n0 s = some x) : s = Sref11_Put_n0 x := by
  unfold decref11_Put_n0 at h
  split at h
  · cases h; rfl
  · cases h
def outref11_Put_n0 : Iref11_Put_n0 → (Ex → St → Ans) → Yref11_Put_n0 → Ans := fun (t0, t1) K => fun t15_y => K (Ex.norm) { env := [(0, AV.int IntKind.i64 t0), (1, AV.ro (Ty.st (Ty.pair (Ty.int IntKind.i64) Ty.str)) t1), (15, AV.bool t15_y)], stk := [[]], H := [], blk := 122880 }
def noderef11_Put_n0 {β : Type} : Iref11_Put_n0 → (Yref11_Put_n0 → Option β) → Option β := fun (t0, t1) exit => (bif decide (t0 < (0 : Int)) then (exit (true)) else (exit (decide (t0 ≥ (281474976710656 : Int)))))
def nodeDref11_Put_n0 (i : Iref11_Put_n0) : Option Yref11_Put_n0 := noderef11_Put_n0 i some
theorem noderef11_Put_n0_nat (i : Iref11_Put_n0) (k : Yref11_Put_n0 → Ans) : noderef11_Put_n0 i k = bindO (nodeDref11_Put_n0 i) k := by
  obtain ⟨t0, t1⟩ := i
  simp only [nodeDref11_Put_n0, noderef11_Put_n0, bindO_cond, bindO_assoc, bindO_none, bindO_pure, bindO_elim, bindO_unP]
theorem noderef11_Put_n0_ok (i : Iref11_Put_n0) (K : Ex → St → Ans) : codeI Try.tab envref11_Put noHint (codeD Try.tab envref11_Put noHint 0 64) 70 55 annLref11_Put_n0 Lref11_Put_n0 (weakP 0 (exk [0, 1, 15] [4, 5] []) K) (Sref11_Put_n0 i) = noderef11_Put_n0 i (outref11_Put_n0 i K) := by kernel_rfl
theorem GNref11_Put_n0_ok : CSum Try.prog 55 Lref11_Put_n0 (sumN decref11_Put_n0 nodeDref11_Put_n0 outref11_Put_n0) := csum_node mixed tabOk envref11_PutOk 0 (exk [0, 1, 15] [4, 5] []) annLref11_Put_n0_ok decref11_Put_n0_ok noderef11_Put_n0_ok noderef11_Put_n0_nat
noncomputable def Gref11_Put_n0 : (Ex → St → Ans) → St → Ans := (sumN decref11_Put_n0 nodeDref11_Put_n0 outref11_Put_n0)
theorem Gref11_Put_n0_ok : CSum Try.prog 55 Lref11_Put_n0 Gref11_Put_n0 := GNref11_Put_n0_ok
noncomputable def annref11_Put : Ann := (.seq .none (.seq (.seq (.cut 0 [0, 1] Gref11_Put_n0) .none) (.seq .none (.seq .none (.seq .none (.seq .none (.seq (.seq .none (.block (.cut 0 [1, 7, 8, 9] Gref11_Put_n1))) .none)))))))
theorem annref11_Put_ok : AnnOk Try.prog 55 bref11_Put annref11_Put := ⟨(annOk_none _ _ _), ⟨⟨Gref11_Put_n0_ok, (annOk_none _ _ _)⟩, ⟨(annOk_none _ _ _), ⟨(annOk_none _ _ _), ⟨(annOk_none _ _ _), ⟨(annOk_none _ _ _), ⟨⟨(annOk_none _ _ _), Gref11_Put_n1_ok⟩, (annOk_none _ _ _)⟩⟩⟩⟩⟩⟩⟩
abbrev Aref11_Put := (Int) × (List (Int × List UInt8))
abbrev Yref11_Put := (List UInt8) × (Int)
def fnref11_Put {β : Type} : Aref11_Put → (Yref11_Put → Option β) → Option β := fun (a0, a1) exit => (bindO (nodeDref11_Put_n0 (a0, a1)) fun t15 => (bif t15 then (exit ([], (3 : Int))) else (bindO (fnDref11_Check (a1)) fun r => (bif r != (0 : Int) then (exit ([], r)) else (bindO (fnDref02_Put ([(82 : UInt8)], a0, (6 : Int))) fun r_2 => (bindO (fnDref02_Put (r_2, (↑(List.length a1) : Int), (1 : Int))) fun r_3 => (bindO (loopD (stepDref11_Put_n1 (a1)) FUEL (r_3, [], (0 : Int))) (unP fun t7 t8 => (bif Nat.ble (List.length t7 + List.length t8) (9223372036854775807 : Nat) then (bindO (fnDref03_Tail (t7 ++ t8)) fun r_4 => (bif Nat.ble (List.length t7 + List.length r_4) (9223372036854775807 : Nat) then (bindO (fnDref09_Pad (t7 ++ r_4)) fun r_5 => (bif Nat.ble (List.length r_5 + List.length t8) (9223372036854775807 : Nat) then (exit (r_5 ++ t8, (0 : Int))) else none)) else none)) else none)))))))))
def fnDref11_Put (a : Aref11_Put) : Option Yref11_Put := fnref11_Put a some
theorem fnref11_Put_nat (a : Aref11_Put) (k : Yref11_Put → Ans) : fnref11_Put a k = bindO (fnDref11_Put a) k := by
  obtain ⟨a0, a1⟩ := a
  simp only [fnDref11_Put, fnref11_Put, bindO_cond, bindO_assoc, bindO_none, bindO_pure, bindO_elim, bindO_unP]
def argsref11_Put : Aref11_Put → List AV := fun (a0, a1) => [AV.int IntKind.i64 a0, AV.ro (Ty.st (Ty.pair (Ty.int IntKind.i64) Ty.str)) a1]
def decAref11_Put (l : List AV) : Option Aref11_Put := match l with
  | [AV.int IntKind.i64 a0, AV.ro (Ty.st (Ty.pair (Ty.int IntKind.i64) Ty.str)) a1] => some (a0, a1)
  | _ => none
theorem decAref11_Put_ok (l : List AV) (a : Aref11_Put) (h : decAref11_Put l = some a) : l = argsref11_Put a := by
  unfold decAref11_Put at h
  split at h
  · cases h; rfl
  · cases h
def rendref11_Put : Aref11_Put → Yref11_Put → AV := fun (a0, a1) => unP fun r_0_y r_1_y => AV.tup [AV.str r_0_y, AV.int IntKind.i64 r_1_y]
theorem rendref11_Put_ok : ∀ (a : Aref11_Put) (y : Yref11_Put), (rendref11_Put a y).closed1 = true := by
  rintro ⟨a0, a1⟩ y <;> first | rfl | exact Empty.elim y
theorem fnref11_Put_ok (a : Aref11_Put) : fnE Try.tab envref11_Put noHint 0 70 30 Try.f30.ntmps Try.f30.results.toList annref11_Put bref11_Put (argsref11_Put a) [] (fun v _ => some (v, [])) = fnref11_Put a (fun y => some (rendref11_Put a y, [])) := by kernel_rfl
def vFref11_Put (a : Aref11_Put) (K : AV → Ans) : Ans := bindO (fnDref11_Put a) fun y => K (rendref11_Put a y)
def Fref11_Put : List AV → (AV → Ans) → Ans := fun l K => bindO (decAref11_Put l) fun a => vFref11_Put a K
theorem Fref11_Put_ok : PureOk Try.prog 30 Fref11_Put := pure_mkD (hint := noHint) (d := 0) (n := 70) mixed tabOk envref11_PutOk Try.func30 (bodySome (by kernel_rfl)) (by decide +kernel) annref11_Put_ok decAref11_Put_ok fnref11_Put_ok fnref11_Put_nat rendref11_Put_ok
--@ law11_LogrecPuts
noncomputable def envlaw11_LogrecPuts : Env := [(31, .pure Flogrec_Check), (29, .pure Flogrec_Put), (27, .pure Flaw11_works), (28, .pure Flaw11_Great), (32, .pure Fref11_Check), (30, .pure Fref11_Put)]
theorem envlaw11_LogrecPutsOk : EnvOk Try.prog envlaw11_LogrecPuts := EnvOk.cons Flogrec_Check_ok (EnvOk.cons Flogrec_Put_ok (EnvOk.cons Flaw11_works_ok (EnvOk.cons Flaw11_Great_ok (EnvOk.cons Fref11_Check_ok (EnvOk.cons Fref11_Put_ok (EnvOk.nil))))))
noncomputable def blaw11_LogrecPuts : Code := Try.f9.body.getD .skip
noncomputable def Llaw11_LogrecPuts_n0 : Code := codeAt [1, 1, 1, 1, 1, 0] blaw11_LogrecPuts
noncomputable def annLlaw11_LogrecPuts_n0 : Ann := .none
theorem annLlaw11_LogrecPuts_n0_ok : AnnOk Try.prog 40 Llaw11_LogrecPuts_n0 annLlaw11_LogrecPuts_n0 := (annOk_none _ _ _)
abbrev Ilaw11_LogrecPuts_n0 := (List (Int × List UInt8)) × (List UInt8) × (Int) × (List UInt8) × (Int)
abbrev Ylaw11_LogrecPuts_n0 := (Bool)
def Slaw11_LogrecPuts_n0 : Ilaw11_LogrecPuts_n0 → St := fun (t1, t5, t6, t7, t8) => { env := [(1, AV.ro (Ty.st (Ty.pair (Ty.int IntKind.i64) Ty.str)) t1), (5, AV.str t5), (6, AV.int IntKind.i64 t6), (7, AV.str t7), (8, AV.int IntKind.i64 t8)], stk := [[]], H := [], blk := 36864 }
def declaw11_LogrecPuts_n0 (s : St) : Option Ilaw11_LogrecPuts_n0 := match s with
  | { env := [(1, AV.ro (Ty.st (Ty.pair (Ty.int IntKind.i64) Ty.str)) t1), (5, AV.str t5), (6, AV.int IntKind.i64 t6), (7, AV.str t7), (8, AV.int IntKind.i64 t8)], stk := [[]], H := [], blk := 36864 } => some (t1, t5, t6, t7, t8)
  | _ => none
theorem declaw11_LogrecPuts_n0_ok (s : St) (x : Ilaw11_LogrecPuts_n0) (h : declaw11_LogrecPuts_n0 s = some x) : s = Slaw11_LogrecPuts_n0 x := by
  unfold declaw11_LogrecPuts_n0 at h
  split at h
  · cases h; rfl
  · cases h
def outlaw11_LogrecPuts_n0 : Ilaw11_LogrecPuts_n0 → (Ex → St → Ans) → Ylaw11_LogrecPuts_n0 → Ans := fun (t1, t5, t6, t7, t8) K => fun t4_y => K (Ex.norm) { env := [(4, AV.bool t4_y)], stk := [[]], H := [], blk := 36864 }
def nodelaw11_LogrecPuts_n0 {β : Type} : Ilaw11_LogrecPuts_n0 → (Ylaw11_LogrecPuts_n0 → Option β) → Option β := fun (t1, t5, t6, t7, t8) exit => (bif t5 == t7 then (bif t6 == t8 then (bindO (fnDlogrec_Check (t1)) fun r => (bindO (fnDref11_Check (t1)) fun r_2 => (exit (r == r_2)))) else (exit (false))) else (exit (false)))
def nodeDlaw11_LogrecPuts_n0 (i : Ilaw11_LogrecPuts_n0) : Option Ylaw11_LogrecPuts_n0 := nodelaw11_LogrecPuts_n0 i some
theorem nodelaw11_LogrecPuts_n0_nat (i : Ilaw11_LogrecPuts_n0) (k : Ylaw11_LogrecPuts_n0 → Ans) : nodelaw11_LogrecPuts_n0 i k = bindO (nodeDlaw11_LogrecPuts_n0 i) k := by
  obtain ⟨t1, t5, t6, t7, t8⟩ := i
  simp only [nodeDlaw11_LogrecPuts_n0, nodelaw11_LogrecPuts_n0, bindO_cond, bindO_assoc, bindO_none, bindO_pure, bindO_elim, bindO_unP]
theorem nodelaw11_LogrecPuts_n0_ok (i : Ilaw11_LogrecPuts_n0) (K : Ex → St → Ans) : codeI Try.tab envlaw11_LogrecPuts noHint (codeD Try.tab envlaw11_LogrecPuts noHint 0 64) 70 40 annLlaw11_LogrecPuts_n0 Llaw11_LogrecPuts_n0 (weakP 0 (exk [4] [4] []) K) (Slaw11_LogrecPuts_n0 i) = nodelaw11_LogrecPuts_n0 i (outlaw11_LogrecPuts_n0 i K) := by kernel_rfl
theorem GNlaw11_LogrecPuts_n0_ok : CSum Try.prog 40 Llaw11_LogrecPuts_n0 (sumN declaw11_LogrecPuts_n0 nodeDlaw11_LogrecPuts_n0 outlaw11_LogrecPuts_n0) := csum_node mixed tabOk envlaw11_LogrecPutsOk 0 (exk [4] [4] []) annLlaw11_LogrecPuts_n0_ok declaw11_LogrecPuts_n0_ok nodelaw11_LogrecPuts_n0_ok nodelaw11_LogrecPuts_n0_nat
noncomputable def Glaw11_LogrecPuts_n0 : (Ex → St → Ans) → St → Ans := (sumN declaw11_LogrecPuts_n0 nodeDlaw11_LogrecPuts_n0 outlaw11_LogrecPuts_n0)
theorem Glaw11_LogrecPuts_n0_ok : CSum Try.prog 40 Llaw11_LogrecPuts_n0 Glaw11_LogrecPuts_n0 := GNlaw11_LogrecPuts_n0_ok
noncomputable def annlaw11_LogrecPuts : Ann := (.seq .none (.seq .none (.seq .none (.seq .none (.seq .none (.seq (.cut 0 [1, 5, 6, 7, 8] Glaw11_LogrecPuts_n0) .none))))))
theorem annlaw11_LogrecPuts_ok : AnnOk Try.prog 40 blaw11_LogrecPuts annlaw11_LogrecPuts := ⟨(annOk_none _ _ _), ⟨(annOk_none _ _ _), ⟨(annOk_none _ _ _), ⟨(annOk_none _ _ _), ⟨(annOk_none _ _ _), ⟨Glaw11_LogrecPuts_n0_ok, (annOk_none _ _ _)⟩⟩⟩⟩⟩⟩
abbrev Alaw11_LogrecPuts := (Int) × (List (Int × List UInt8))
abbrev Ylaw11_LogrecPuts := (Bool)
def fnlaw11_LogrecPuts {β : Type} : Alaw11_LogrecPuts → (Ylaw11_LogrecPuts → Option β) → Option β := fun (a0, a1) exit => (bindO (fnDlaw11_works ()) fun r => (bif !r then (exit (false)) else (bindO (fnDlaw11_Great (a1)) fun r_2 => (bif r_2 then (exit (true)) else (bindO (fnDlogrec_Put (a0, a1)) (unP fun r_0 r_1 => (bindO (fnDref11_Put (a0, a1)) (unP fun r_0_2 r_1_2 => (bindO (nodeDlaw11_LogrecPuts_n0 (a1, r_0, r_1, r_0_2, r_1_2)) fun t4 => (exit (t4)))))))))))
def fnDlaw11_LogrecPuts (a : Alaw11_LogrecPuts) : Option Ylaw11_LogrecPuts := fnlaw11_LogrecPuts a some
theorem fnlaw11_LogrecPuts_nat (a : Alaw11_LogrecPuts) (k : Ylaw11_LogrecPuts → Ans) : fnlaw11_LogrecPuts a k = bindO (fnDlaw11_LogrecPuts a) k := by
  obtain ⟨a0, a1⟩ := a
  simp only [fnDlaw11_LogrecPuts, fnlaw11_LogrecPuts, bindO_cond, bindO_assoc, bindO_none, bindO_pure, bindO_elim, bindO_unP]
def argslaw11_LogrecPuts : Alaw11_LogrecPuts → List AV × List AE.Obj := fun (a0, a1) => ([AV.int IntKind.i64 a0, AV.ro (Ty.st (Ty.pair (Ty.int IntKind.i64) Ty.str)) a1], [])
def decAlaw11_LogrecPuts (l : List AV) (H : List AE.Obj) : Option Alaw11_LogrecPuts := match l, H with
  | [AV.int IntKind.i64 a0, AV.ro (Ty.st (Ty.pair (Ty.int IntKind.i64) Ty.str)) a1], [] => some (a0, a1)
  | _, _ => none
theorem decAlaw11_LogrecPuts_ok (l : List AV) (H : List AE.Obj) (a : Alaw11_LogrecPuts) (h : decAlaw11_LogrecPuts l H = some a) : (l, H) = argslaw11_LogrecPuts a := by
  unfold decAlaw11_LogrecPuts at h
  split at h
  · cases h; rfl
  · cases h
def outlaw11_LogrecPuts : Alaw11_LogrecPuts → (AV → List AE.Obj → Ans) → Ylaw11_LogrecPuts → Ans := fun (a0, a1) K => fun r_y => K (AV.bool r_y) []
theorem fnlaw11_LogrecPuts_ok (a : Alaw11_LogrecPuts) (K : AV → List AE.Obj → Ans) : fnE Try.tab envlaw11_LogrecPuts noHint 0 70 9 Try.f9.ntmps Try.f9.results.toList annlaw11_LogrecPuts blaw11_LogrecPuts (argslaw11_LogrecPuts a).1 (argslaw11_LogrecPuts a).2 K = fnlaw11_LogrecPuts a (outlaw11_LogrecPuts a K) := by kernel_rfl
def vFlaw11_LogrecPuts (a : Alaw11_LogrecPuts) (K : AV → List AE.Obj → Ans) : Ans := bindO (fnDlaw11_LogrecPuts a) fun y => outlaw11_LogrecPuts a K y
def Flaw11_LogrecPuts : List AV → List AE.Obj → (AV → List AE.Obj → Ans) → Ans := fun l H K => bindO (decAlaw11_LogrecPuts l H) fun a => vFlaw11_LogrecPuts a K
theorem Flaw11_LogrecPuts_ok : FuncOk Try.prog 9 Flaw11_LogrecPuts := func_mkD (hint := noHint) (d := 0) (n := 70) mixed tabOk envlaw11_LogrecPutsOk Try.func9 (bodySome (by kernel_rfl)) (by decide +kernel) annlaw11_LogrecPuts_ok decAlaw11_LogrecPuts_ok fnlaw11_LogrecPuts_ok fnlaw11_LogrecPuts_nat
--@ ref11_number
noncomputable def envref11_number : Env := []
theorem envref11_numberOk : EnvOk Try.prog envref11_number := EnvOk.nil
noncomputable def bref11_number : Code := Try.f60.body.getD .skip
noncomputable def Lref11_number_n0 : Code := codeAt [1, 1, 0, 1, 0, 0] bref11_number
noncomputable def annLref11_number_n0 : Ann := .at 0 [0, 3, 4] (.loop .none)
theorem annLref11_number_n0_ok : AnnOk Try.prog 19 (.loop Lref11_number_n0) annLref11_number_n0 := annOk_at (annOk_none _ _ _)
abbrev Iref11_number_n0 := (List UInt8)
abbrev Yref11_number_n0 := (Int)
abbrev Vref11_number_n0 := (Int) × (Int)
def Sref11_number_n0 : Iref11_number_n0 → Vref11_number_n0 → St := fun t0 (t3, t4) => { env := [(0, AV.str t0), (3, AV.int IntKind.i64 t3), (4, AV.int IntKind.i64 t4)], stk := [[]], H := [], blk := 245760 }
def decref11_number_n0 (s : St) : Option (Iref11_number_n0 × Vref11_number_n0) := match s with
  | { env := [(0, AV.str t0), (3, AV.int IntKind.i64 t3), (4, AV.int IntKind.i64 t4)], stk := [[]], H := [], blk := 245760 } => some (t0, (t3, t4))
  | _ => none
theorem decref11_number_n0_ok (s : St) (x : Iref11_number_n0 × Vref11_number_n0) (h : decref11_number_n0 s = some x) : s = Sref11_number_n0 x.1 x.2 := by
  unfold decref11_number_n0 at h
  split at h
  · cases h; rfl
  · cases h
def outref11_number_n0 : Iref11_number_n0 → (Ex → St → Ans) → Yref11_number_n0 → Ans := fun t0 K => fun t3_y => K (Ex.exit 0) { env := [(3, AV.int IntKind.i64 t3_y)], stk := [[]], H := [], blk := 245760 }
def stepref11_number_n0 {β : Type} : Iref11_number_n0 → Vref11_number_n0 → (Vref11_number_n0 → Option β) → (Yref11_number_n0 → Option β) → Option β := fun t0 (t3, t4) next exit => (bif decide (t4 < (↑(List.length t0) : Int)) then (bindO (nth t0 t4) fun x => (next (IntKind.wrap IntKind.i64 (IntKind.wrap IntKind.i64 ((256 : Int) * t3) + IntKind.wrap IntKind.i64 (↑(UInt8.toNat x) : Int)), IntKind.wrap IntKind.i64 (t4 + (1 : Int))))) else (exit (t3)))
def stepDref11_number_n0 (i : Iref11_number_n0) (v : Vref11_number_n0) : Option (Vref11_number_n0 ⊕ Yref11_number_n0) := stepref11_number_n0 i v (fun v => some (.inl v)) (fun y => some (.inr y))
theorem stepref11_number_n0_nat (i : Iref11_number_n0) (v : Vref11_number_n0) (next : Vref11_number_n0 → Ans) (exit : Yref11_number_n0 → Ans) : stepref11_number_n0 i v next exit = bindO (stepDref11_number_n0 i v) (Sum.elim next exit) := by
  obtain z := i
  obtain ⟨t3, t4⟩ := v
  simp only [stepDref11_number_n0, stepref11_number_n0, bindO_cond, bindO_assoc, bindO_none, bindO_pure, bindO_elim, bindO_unP, Sum.elim_inl, Sum.elim_inr]
theorem stepref11_number_n0_ok (n : Nat) (i : Iref11_number_n0) (v : Vref11_number_n0) (K : Ex → St → Ans) : codeI Try.tab envref11_number noHint (codeD Try.tab envref11_number noHint 0 64) (n+1) 19 annLref11_number_n0 (.loop Lref11_number_n0) (weakP 0 (exk [3] [2] [(0, [3])]) K) (Sref11_number_n0 i v) = stepref11_number_n0 i v (fun v' => codeI Try.tab envref11_number noHint (codeD Try.tab envref11_number noHint 0 64) n 19 annLref11_number_n0 (.loop Lref11_number_n0) (weakP 0 (exk [3] [2] [(0, [3])]) K) (Sref11_number_n0 i v')) (fun y => outref11_number_n0 i K y) := by kernel_rfl
theorem GNref11_number_n0_ok : CSum Try.prog 19 (.loop Lref11_number_n0) (sumL decref11_number_n0 stepDref11_number_n0 outref11_number_n0) := csum_loop mixed tabOk envref11_numberOk 0 (exk [3] [2] [(0, [3])]) annLref11_number_n0_ok decref11_number_n0_ok stepref11_number_n0_ok stepref11_number_n0_nat
noncomputable def Gref11_number_n0 : (Ex → St → Ans) → St → Ans := (sumL decref11_number_n0 stepDref11_number_n0 outref11_number_n0)
theorem Gref11_number_n0_ok : CSum Try.prog 19 (.loop Lref11_number_n0) Gref11_number_n0 := GNref11_number_n0_ok
noncomputable def annref11_number : Ann := (.seq .none (.seq .none (.seq (.seq .none (.block (.cut 0 [0, 3, 4] Gref11_number_n0))) .none)))
theorem annref11_number_ok : AnnOk Try.prog 19 bref11_number annref11_number := ⟨(annOk_none _ _ _), ⟨(annOk_none _ _ _), ⟨⟨(annOk_none _ _ _), Gref11_number_n0_ok⟩, (annOk_none _ _ _)⟩⟩⟩
abbrev Aref11_number := (List UInt8)
abbrev Yref11_number := (Int)
def fnref11_number {β : Type} : Aref11_number → (Yref11_number → Option β) → Option β := fun a0 exit => (bindO (loopD (stepDref11_number_n0 (a0)) FUEL ((0 : Int), (0 : Int))) fun t3 => (exit (t3)))
def fnDref11_number (a : Aref11_number) : Option Yref11_number := fnref11_number a some
theorem fnref11_number_nat (a : Aref11_number) (k : Yref11_number → Ans) : fnref11_number a k = bindO (fnDref11_number a) k := by
  obtain z := a
  simp only [fnDref11_number, fnref11_number, bindO_cond, bindO_assoc, bindO_none, bindO_pure, bindO_elim, bindO_unP]
def argsref11_number : Aref11_number → List AV := fun a0 => [AV.str a0]
def decAref11_number (l : List AV) : Option Aref11_number := match l with
  | [AV.str a0] => some (a0)
  | _ => none
theorem decAref11_number_ok (l : List AV) (a : Aref11_number) (h : decAref11_number l = some a) : l = argsref11_number a := by
  unfold decAref11_number at h
  split at h
  · cases h; rfl
  · cases h
def rendref11_number : Aref11_number → Yref11_number → AV := fun a0 => fun r_y => AV.int IntKind.i64 r_y
theorem rendref11_number_ok : ∀ (a : Aref11_number) (y : Yref11_number), (rendref11_number a y).closed1 = true := by
  rintro z y <;> first | rfl | exact Empty.elim y
theorem fnref11_number_ok (a : Aref11_number) : fnE Try.tab envref11_number noHint 0 70 60 Try.f60.ntmps Try.f60.results.toList annref11_number bref11_number (argsref11_number a) [] (fun v _ => some (v, [])) = fnref11_number a (fun y => some (rendref11_number a y, [])) := by kernel_rfl
def vFref11_number (a : Aref11_number) (K : AV → Ans) : Ans := bindO (fnDref11_number a) fun y => K (rendref11_number a y)
def Fref11_number : List AV → (AV → Ans) → Ans := fun l K => bindO (decAref11_number l) fun a => vFref11_number a K
theorem Fref11_number_ok : PureOk Try.prog 60 Fref11_number := pure_mkD (hint := noHint) (d := 0) (n := 70) mixed tabOk envref11_numberOk Try.func60 (bodySome (by kernel_rfl)) (by decide +kernel) annref11_number_ok decAref11_number_ok fnref11_number_ok fnref11_number_nat rendref11_number_ok
--@ ref11_Get
noncomputable def envref11_Get : Env := [(45, .pure Fref03_Tail), (30, .pure Fref11_Put), (60, .pure Fref11_number)]
theorem envref11_GetOk : EnvOk Try.prog envref11_Get := EnvOk.cons Fref03_Tail_ok (EnvOk.cons Fref11_Put_ok (EnvOk.cons Fref11_number_ok (EnvOk.nil)))
noncomputable def bref11_Get : Code := Try.f34.body.getD .skip
noncomputable def Lref11_Get_n3 : Code := codeAt [1, 1, 1, 1, 1, 1, 1, 1, 1, 1, 1, 0, 0] bref11_Get
noncomputable def annLref11_Get_n3 : Ann := .none
theorem annLref11_Get_n3_ok : AnnOk Try.prog 103 Lref11_Get_n3 annLref11_Get_n3 := (annOk_none _ _ _)
abbrev Iref11_Get_n3 := (List UInt8) × (Int) × (List UInt8) × (Int) × (List (Int × List UInt8))
abbrev Yref11_Get_n3 := (Bool)
def Sref11_Get_n3 : Iref11_Get_n3 → St := fun (t0, t10, t11, t12, o0) => { env := [(0, AV.str t0), (8, AV.own 0), (10, AV.int IntKind.i64 t10), (11, AV.str t11), (12, AV.int IntKind.i64 t12)], stk := [[]], H := [Obj.arr (Ty.st (Ty.pair (Ty.int IntKind.i64) Ty.str)) o0], blk := 139264 }
def decref11_Get_n3 (s : St) : Option Iref11_Get_n3 := match s with
  | { env := [(0, AV.str t0), (8, AV.own 0), (10, AV.int IntKind.i64 t10), (11, AV.str t11), (12, AV.int IntKind.i64 t12)], stk := [[]], H := [Obj.arr (Ty.st (Ty.pair (Ty.int IntKind.i64) Ty.str)) o0], blk := 139264 } => some (t0, t10, t11, t12, o0)
  | _ => none
theorem decref11_Get_n3_ok (s : St) (x : Iref11_Get_n3) (h : decref11_Get_n3 s = some x) : s = Sref11_Get_n3 x := by
  unfold decref11_Get_n3 at h
  split at h
  · cases h; rfl
  · cases h
def outref11_Get_n3 : Iref11_Get_n3 → (Ex → St → Ans) → Yref11_Get_n3 → Ans := fun (t0, t10, t11, t12, o0) K => fun t100_y => K (Ex.norm) { env := [(8, AV.own 0), (10, AV.int IntKind.i64 t10), (100, AV.bool t100_y)], stk := [[]], H := [Obj.arr (Ty.st (Ty.pair (Ty.int IntKind.i64) Ty.str)) o0], blk := 139264 }
def noderef11_Get_n3 {β : Type} : Iref11_Get_n3 → (Yref11_Get_n3 → Option β) → Option β := fun (t0, t10, t11, t12, o0) exit => (bif t12 != (0 : Int) then (exit (true)) else (exit (!t11 == t0)))
def nodeDref11_Get_n3 (i : Iref11_Get_n3) : Option Yref11_Get_n3 := noderef11_Get_n3 i some
theorem noderef11_Get_n3_nat (i : Iref11_Get_n3) (k : Yref11_Get_n3 → Ans) : noderef11_Get_n3 i k = bindO (nodeDref11_Get_n3 i) k := by
  obtain ⟨t0, t10, t11, t12, o0⟩ := i
  simp only [nodeDref11_Get_n3, noderef11_Get_n3, bindO_cond, bindO_assoc, bindO_none, bindO_pure, bindO_elim, bindO_unP]
theorem noderef11_Get_n3_ok (i : Iref11_Get_n3) (K : Ex → St → Ans) : codeI Try.tab envref11_Get noHint (codeD Try.tab envref11_Get noHint 0 64) 70 103 annLref11_Get_n3 Lref11_Get_n3 (weakP 0 (exk [8, 10, 100] [2, 3, 4] []) K) (Sref11_Get_n3 i) = noderef11_Get_n3 i (outref11_Get_n3 i K) := by kernel_rfl
theorem GNref11_Get_n3_ok : CSum Try.prog 103 Lref11_Get_n3 (sumN decref11_Get_n3 nodeDref11_Get_n3 outref11_Get_n3) := csum_node mixed tabOk envref11_GetOk 0 (exk [8, 10, 100] [2, 3, 4] []) annLref11_Get_n3_ok decref11_Get_n3_ok noderef11_Get_n3_ok noderef11_Get_n3_nat
noncomputable def Gref11_Get_n3 : (Ex → St → Ans) → St → Ans := (sumN decref11_Get_n3 nodeDref11_Get_n3 outref11_Get_n3)
theorem Gref11_Get_n3_ok : CSum Try.prog 103 Lref11_Get_n3 Gref11_Get_n3 := GNref11_Get_n3_ok
noncomputable def Lref11_Get_n2 : Code := codeAt [1, 1, 1, 1, 1, 1, 1, 1, 0, 1, 0, 0] bref11_Get
noncomputable def annLref11_Get_n2 : Ann := .at 0 [0, 5, 7, 8, 9] (.loop .none)
theorem annLref11_Get_n2_ok : AnnOk Try.prog 103 (.loop Lref11_Get_n2) annLref11_Get_n2 := annOk_at (annOk_none _ _ _)
abbrev Iref11_Get_n2 := (List UInt8) × (Int) × (List UInt8)
abbrev Yref11_Get_n2 := (List (Int × List UInt8))
abbrev Vref11_Get_n2 := (Int) × (List (Int × List UInt8))
def Sref11_Get_n2 : Iref11_Get_n2 → Vref11_Get_n2 → St := fun (t0, t5, t7) (t9, o0) => { env := [(0, AV.str t0), (5, AV.int IntKind.i64 t5), (7, AV.str t7), (8, AV.own 0), (9, AV.int IntKind.i64 t9)], stk := [[]], H := [Obj.arr (Ty.st (Ty.pair (Ty.int IntKind.i64) Ty.str)) o0], blk := 139264 }
def decref11_Get_n2 (s : St) : Option (Iref11_Get_n2 × Vref11_Get_n2) := match s with
  | { env := [(0, AV.str t0), (5, AV.int IntKind.i64 t5), (7, AV.str t7), (8, AV.own 0), (9, AV.int IntKind.i64 t9)], stk := [[]], H := [Obj.arr (Ty.st (Ty.pair (Ty.int IntKind.i64) Ty.str)) o0], blk := 139264 } => some ((t0, t5, t7), (t9, o0))
  | _ => none
theorem decref11_Get_n2_ok (s : St) (x : Iref11_Get_n2 × Vref11_Get_n2) (h : decref11_Get_n2 s = some x) : s = Sref11_Get_n2 x.1 x.2 := by
  unfold decref11_Get_n2 at h
  split at h
  · cases h; rfl
  · cases h
def outref11_Get_n2 : Iref11_Get_n2 → (Ex → St → Ans) → Yref11_Get_n2 → Ans := fun (t0, t5, t7) K => fun o0_y => K (Ex.exit 0) { env := [(0, AV.str t0), (8, AV.own 0)], stk := [[]], H := [Obj.arr (Ty.st (Ty.pair (Ty.int IntKind.i64) Ty.str)) o0_y], blk := 139264 }
def stepref11_Get_n2 {β : Type} : Iref11_Get_n2 → Vref11_Get_n2 → (Vref11_Get_n2 → Option β) → (Yref11_Get_n2 → Option β) → Option β := fun (t0, t5, t7) (t9, o0) next exit => (bif decide (t9 < t5) then (bif inR (IntKind.wrap IntKind.i64 ((10 : Int) + IntKind.wrap IntKind.i64 ((2 : Int) * t9))) (List.length t0 + (1 : Nat)) && inR (IntKind.wrap IntKind.i64 ((8 : Int) + IntKind.wrap IntKind.i64 ((2 : Int) * t9))) (Int.toNat (IntKind.wrap IntKind.i64 ((10 : Int) + IntKind.wrap IntKind.i64 ((2 : Int) * t9))) + (1 : Nat)) then (bindO (fnDref11_number (List.take (Int.toNat (IntKind.wrap IntKind.i64 ((10 : Int) + IntKind.wrap IntKind.i64 ((2 : Int) * t9))) - Int.toNat (IntKind.wrap IntKind.i64 ((8 : Int) + IntKind.wrap IntKind.i64 ((2 : Int) * t9)))) (List.drop (Int.toNat (IntKind.wrap IntKind.i64 ((8 : Int) + IntKind.wrap IntKind.i64 ((2 : Int) * t9)))) t0))) fun r => (bif inR (IntKind.wrap IntKind.i64 (IntKind.wrap IntKind.i64 (t9 + (1 : Int)) * (64 : Int))) (List.length t7 + (1 : Nat)) && inR (IntKind.wrap IntKind.i64 (t9 * (64 : Int))) (Int.toNat (IntKind.wrap IntKind.i64 (IntKind.wrap IntKind.i64 (t9 + (1 : Int)) * (64 : Int))) + (1 : Nat)) then (bif Nat.ble ((List.length o0 + List.length [(r, List.take (Int.toNat (IntKind.wrap IntKind.i64 (IntKind.wrap IntKind.i64 (t9 + (1 : Int)) * (64 : Int))) - Int.toNat (IntKind.wrap IntKind.i64 (t9 * (64 : Int)))) (List.drop (Int.toNat (IntKind.wrap IntKind.i64 (t9 * (64 : Int)))) t7))]) * (24 : Nat)) (140737488355328 : Nat) then (next (IntKind.wrap IntKind.i64 (t9 + (1 : Int)), o0 ++ [(r, List.take (Int.toNat (IntKind.wrap IntKind.i64 (IntKind.wrap IntKind.i64 (t9 + (1 : Int)) * (64 : Int))) - Int.toNat (IntKind.wrap IntKind.i64 (t9 * (64 : Int)))) (List.drop (Int.toNat (IntKind.wrap IntKind.i64 (t9 * (64 : Int)))) t7))])) else none) else none)) else none) else (exit (o0)))
def stepDref11_Get_n2 (i : Iref11_Get_n2) (v : Vref11_Get_n2) : Option (Vref11_Get_n2 ⊕ Yref11_Get_n2) := stepref11_Get_n2 i v (fun v => some (.inl v)) (fun y => some (.inr y))
theorem stepref11_Get_n2_nat (i : Iref11_Get_n2) (v : Vref11_Get_n2) (next : Vref11_Get_n2 → Ans) (exit : Yref11_Get_n2 → Ans) : stepref11_Get_n2 i v next exit = bindO (stepDref11_Get_n2 i v) (Sum.elim next exit) := by
  obtain ⟨t0, t5, t7⟩ := i
  obtain ⟨t9, o0⟩ := v
  simp only [stepDref11_Get_n2, stepref11_Get_n2, bindO_cond, bindO_assoc, bindO_none, bindO_pure, bindO_elim, bindO_unP, Sum.elim_inl, Sum.elim_inr]
theorem stepref11_Get_n2_ok (n : Nat) (i : Iref11_Get_n2) (v : Vref11_Get_n2) (K : Ex → St → Ans) : codeI Try.tab envref11_Get noHint (codeD Try.tab envref11_Get noHint 0 64) (n+1) 103 annLref11_Get_n2 (.loop Lref11_Get_n2) (weakP 0 (exk [0, 8] [2, 3, 4] [(0, [0, 8])]) K) (Sref11_Get_n2 i v) = stepref11_Get_n2 i v (fun v' => codeI Try.tab envref11_Get noHint (codeD Try.tab envref11_Get noHint 0 64) n 103 annLref11_Get_n2 (.loop Lref11_Get_n2) (weakP 0 (exk [0, 8] [2, 3, 4] [(0, [0, 8])]) K) (Sref11_Get_n2 i v')) (fun y => outref11_Get_n2 i K y) := by kernel_rfl
theorem GNref11_Get_n2_ok : CSum Try.prog 103 (.loop Lref11_Get_n2) (sumL decref11_Get_n2 stepDref11_Get_n2 outref11_Get_n2) := csum_loop mixed tabOk envref11_GetOk 0 (exk [0, 8] [2, 3, 4] [(0, [0, 8])]) annLref11_Get_n2_ok decref11_Get_n2_ok stepref11_Get_n2_ok stepref11_Get_n2_nat
noncomputable def Gref11_Get_n2 : (Ex → St → Ans) → St → Ans := (sumL decref11_Get_n2 stepDref11_Get_n2 outref11_Get_n2)
theorem Gref11_Get_n2_ok : CSum Try.prog 103 (.loop Lref11_Get_n2) Gref11_Get_n2 := GNref11_Get_n2_ok
noncomputable def Lref11_Get_n1 : Code := codeAt [1, 1, 1, 0, 0] bref11_Get
noncomputable def annLref11_Get_n1 : Ann := .none
theorem annLref11_Get_n1_ok : AnnOk Try.prog 103 Lref11_Get_n1 annLref11_Get_n1 := (annOk_none _ _ _)
abbrev Iref11_Get_n1 := (List UInt8) × (Int)
abbrev Yref11_Get_n1 := (Bool)
def Sref11_Get_n1 : Iref11_Get_n1 → St := fun (t0, t5) => { env := [(0, AV.str t0), (5, AV.int IntKind.i64 t5)], stk := [[]], H := [], blk := 139264 }
def decref11_Get_n1 (s : St) : Option Iref11_Get_n1 := match s with
  | { env := [(0, AV.str t0), (5, AV.int IntKind.i64 t5)], stk := [[]], H := [], blk := 139264 } => some (t0, t5)
  | _ => none
theorem decref11_Get_n1_ok (s : St) (x : Iref11_Get_n1) (h : decref11_Get_n1 s = some x) : s = Sref11_Get_n1 x := by
  unfold decref11_Get_n1 at h
  split at h
  · cases h; rfl
  · cases h
def outref11_Get_n1 : Iref11_Get_n1 → (Ex → St → Ans) → Yref11_Get_n1 → Ans := fun (t0, t5) K => fun t42_y => K (Ex.norm) { env := [(0, AV.str t0), (5, AV.int IntKind.i64 t5), (42, AV.bool t42_y)], stk := [[]], H := [], blk := 139264 }
def noderef11_Get_n1 {β : Type} : Iref11_Get_n1 → (Yref11_Get_n1 → Option β) → Option β := fun (t0, t5) exit => (bindO (nth t0 (0 : Int)) fun x => (bif (↑(UInt8.toNat x) : Int) != (82 : Int) then (exit (true)) else (bindO (nth t0 (7 : Int)) fun x_2 => (bif IntKind.wrap IntKind.i64 (↑(UInt8.toNat x_2) : Int) != t5 then (exit (true)) else (bif decide (t5 < (1 : Int)) then (exit (true)) else (exit (decide (t5 > (16 : Int)))))))))
def nodeDref11_Get_n1 (i : Iref11_Get_n1) : Option Yref11_Get_n1 := noderef11_Get_n1 i some
theorem noderef11_Get_n1_nat (i : Iref11_Get_n1) (k : Yref11_Get_n1 → Ans) : noderef11_Get_n1 i k = bindO (nodeDref11_Get_n1 i) k := by
  obtain ⟨t0, t5⟩ := i
  simp only [nodeDref11_Get_n1, noderef11_Get_n1, bindO_cond, bindO_assoc, bindO_none, bindO_pure, bindO_elim, bindO_unP]
theorem noderef11_Get_n1_ok (i : Iref11_Get_n1) (K : Ex → St → Ans) : codeI Try.tab envref11_Get noHint (codeD Try.tab envref11_Get noHint 0 64) 70 103 annLref11_Get_n1 Lref11_Get_n1 (weakP 0 (exk [0, 5, 42] [2, 3, 4] []) K) (Sref11_Get_n1 i) = noderef11_Get_n1 i (outref11_Get_n1 i K) := by kernel_rfl
theorem GNref11_Get_n1_ok : CSum Try.prog 103 Lref11_Get_n1 (sumN decref11_Get_n1 nodeDref11_Get_n1 outref11_Get_n1) := csum_node mixed tabOk envref11_GetOk 0 (exk [0, 5, 42] [2, 3, 4] []) annLref11_Get_n1_ok decref11_Get_n1_ok noderef11_Get_n1_ok noderef11_Get_n1_nat
noncomputable def Gref11_Get_n1 : (Ex → St → Ans) → St → Ans := (sumN decref11_Get_n1 nodeDref11_Get_n1 outref11_Get_n1)
theorem Gref11_Get_n1_ok : CSum Try.prog 103 Lref11_Get_n1 Gref11_Get_n1 := GNref11_Get_n1_ok
noncomputable def Lref11_Get_n0 : Code := codeAt [1, 0, 0] bref11_Get
noncomputable def annLref11_Get_n0 : Ann := .none
theorem annLref11_Get_n0_ok : AnnOk Try.prog 103 Lref11_Get_n0 annLref11_Get_n0 := (annOk_none _ _ _)
abbrev Iref11_Get_n0 := (List UInt8)
abbrev Yref11_Get_n0 := (Bool)
def Sref11_Get_n0 : Iref11_Get_n0 → St := fun t0 => { env := [(0, AV.str t0)], stk := [[]], H := [], blk := 139264 }
def decref11_Get_n0 (s : St) : Option Iref11_Get_n0 := match s with
  | { env := [(0, AV.str t0)], stk := [[]], H := [], blk := 139264 } => some (t0)
  | _ => none
theorem decref11_Get_n0_ok (s : St) (x : Iref11_Get_n0) (h : decref11_Get_n0 s = some x) : s = Sref11_Get_n0 x := by
  unfold decref11_Get_n0 at h
  split at h
  · cases h; rfl
  · cases h
def outref11_Get_n0 : Iref11_Get_n0 → (Ex → St → Ans) → Yref11_Get_n0 → Ans := fun t0 K => fun t20_y => K (Ex.norm) { env := [(0, AV.str t0), (20, AV.bool t20_y)], stk := [[]], H := [], blk := 139264 }
def noderef11_Get_n0 {β : Type} : Iref11_Get_n0 → (Yref11_Get_n0 → Option β) → Option β := fun t0 exit => (bif t0 == [] then (exit (true)) else (exit (Int.tmod (↑(List.length t0) : Int) (64 : Int) != (0 : Int))))
def nodeDref11_Get_n0 (i : Iref11_Get_n0) : Option Yref11_Get_n0 := noderef11_Get_n0 i some
theorem noderef11_Get_n0_nat (i : Iref11_Get_n0) (k : Yref11_Get_n0 → Ans) : noderef11_Get_n0 i k = bindO (nodeDref11_Get_n0 i) k := by
  obtain z := i
  simp only [nodeDref11_Get_n0, noderef11_Get_n0, bindO_cond, bindO_assoc, bindO_none, bindO_pure, bindO_elim, bindO_unP]
theorem noderef11_Get_n0_ok (i : Iref11_Get_n0) (K : Ex → St → Ans) : codeI Try.tab envref11_Get noHint (codeD Try.tab envref11_Get noHint 0 64) 70 103 annLref11_Get_n0 Lref11_Get_n0 (weakP 0 (exk [0, 20] [2, 3, 4] []) K) (Sref11_Get_n0 i) = noderef11_Get_n0 i (outref11_Get_n0 i K) := by kernel_rfl
theorem GNref11_Get_n0_ok : CSum Try.prog 103 Lref11_Get_n0 (sumN decref11_Get_n0 nodeDref11_Get_n0 outref11_Get_n0) := csum_node mixed tabOk envref11_GetOk 0 (exk [0, 20] [2, 3, 4] []) annLref11_Get_n0_ok decref11_Get_n0_ok noderef11_Get_n0_ok noderef11_Get_n0_nat
noncomputable def Gref11_Get_n0 : (Ex → St → Ans) → St → Ans := (sumN decref11_Get_n0 nodeDref11_Get_n0 outref11_Get_n0)
theorem Gref11_Get_n0_ok : CSum Try.prog 103 Lref11_Get_n0 Gref11_Get_n0 := GNref11_Get_n0_ok
noncomputable def annref11_Get : Ann := (.seq .none (.seq (.seq (.cut 0 [0] Gref11_Get_n0) .none) (.seq .none (.seq (.seq (.cut 0 [0, 5] Gref11_Get_n1) .none) (.seq .none (.seq .none (.seq .none (.seq .none (.seq (.seq .none (.block (.cut 0 [0, 5, 7, 8, 9] Gref11_Get_n2))) (.seq .none (.seq .none (.seq (.seq (.cut 0 [0, 8, 10, 11, 12] Gref11_Get_n3) .none) .none))))))))))))
theorem annref11_Get_ok : AnnOk Try.prog 103 bref11_Get annref11_Get := ⟨(annOk_none _ _ _), ⟨⟨Gref11_Get_n0_ok, (annOk_none _ _ _)⟩, ⟨(annOk_none _ _ _), ⟨⟨Gref11_Get_n1_ok, (annOk_none _ _ _)⟩, ⟨(annOk_none _ _ _), ⟨(annOk_none _ _ _), ⟨(annOk_none _ _ _), ⟨(annOk_none _ _ _), ⟨⟨(annOk_none _ _ _), Gref11_Get_n2_ok⟩, ⟨(annOk_none _ _ _), ⟨(annOk_none _ _ _), ⟨⟨Gref11_Get_n3_ok, (annOk_none _ _ _)⟩, (annOk_none _ _ _)⟩⟩⟩⟩⟩⟩⟩⟩⟩⟩⟩⟩
abbrev Aref11_Get := (List UInt8)
abbrev Yref11_Get := (Int) × (Int) × (List (Int × List UInt8))
def fnref11_Get {β : Type} : Aref11_Get → (Yref11_Get → Option β) → Option β := fun a0 exit => (bindO (nodeDref11_Get_n0 (a0)) fun t20 => (bif t20 then (exit ((0 : Int), (12 : Int), [])) else (bindO (nodeDref11_Get_n1 (a0, IntKind.wrap IntKind.i64 (IntKind.wrap IntKind.i64 (Int.tdiv (↑(List.length a0) : Int) (64 : Int)) - (1 : Int)))) fun t42 => (bif t42 then (exit ((0 : Int), (4 : Int), [])) else (bif inR (64 : Int) (List.length a0 + (1 : Nat)) then (bif inR (IntKind.wrap IntKind.i64 (IntKind.wrap IntKind.i64 ((8 : Int) + IntKind.wrap IntKind.i64 ((2 : Int) * IntKind.wrap IntKind.i64 (IntKind.wrap IntKind.i64 (Int.tdiv (↑(List.length a0) : Int) (64 : Int)) - (1 : Int)))) + (4 : Int))) (List.length a0 + (1 : Nat)) && inR (IntKind.wrap IntKind.i64 ((8 : Int) + IntKind.wrap IntKind.i64 ((2 : Int) * IntKind.wrap IntKind.i64 (IntKind.wrap IntKind.i64 (Int.tdiv (↑(List.length a0) : Int) (64 : Int)) - (1 : Int))))) (Int.toNat (IntKind.wrap IntKind.i64 (IntKind.wrap IntKind.i64 ((8 : Int) + IntKind.wrap IntKind.i64 ((2 : Int) * IntKind.wrap IntKind.i64 (IntKind.wrap IntKind.i64 (Int.tdiv (↑(List.length a0) : Int) (64 : Int)) - (1 : Int)))) + (4 : Int))) + (1 : Nat)) then (bif inR (IntKind.wrap IntKind.i64 ((8 : Int) + IntKind.wrap IntKind.i64 ((2 : Int) * IntKind.wrap IntKind.i64 (IntKind.wrap IntKind.i64 (Int.tdiv (↑(List.length a0) : Int) (64 : Int)) - (1 : Int))))) (List.length a0 + (1 : Nat)) then (bif Nat.ble (List.length (List.take (Int.toNat (IntKind.wrap IntKind.i64 ((8 : Int) + IntKind.wrap IntKind.i64 ((2 : Int) * IntKind.wrap IntKind.i64 (IntKind.wrap IntKind.i64 (Int.tdiv (↑(List.length a0) : Int) (64 : Int)) - (1 : Int)))))) a0) + List.length (List.drop (64 : Nat) a0)) (9223372036854775807 : Nat) then (bindO (fnDref03_Tail (List.take (Int.toNat (IntKind.wrap IntKind.i64 ((8 : Int) + IntKind.wrap IntKind.i64 ((2 : Int) * IntKind.wrap IntKind.i64 (IntKind.wrap IntKind.i64 (Int.tdiv (↑(List.length a0) : Int) (64 : Int)) - (1 : Int)))))) a0 ++ List.drop (64 : Nat) a0)) fun r => (bif !List.take (Int.toNat (IntKind.wrap IntKind.i64 (IntKind.wrap IntKind.i64 ((8 : Int) + IntKind.wrap IntKind.i64 ((2 : Int) * IntKind.wrap IntKind.i64 (IntKind.wrap IntKind.i64 (Int.tdiv (↑(List.length a0) : Int) (64 : Int)) - (1 : Int)))) + (4 : Int))) - Int.toNat (IntKind.wrap IntKind.i64 ((8 : Int) + IntKind.wrap IntKind.i64 ((2 : Int) * IntKind.wrap IntKind.i64 (IntKind.wrap IntKind.i64 (Int.tdiv (↑(List.length a0) : Int) (64 : Int)) - (1 : Int)))))) (List.drop (Int.toNat (IntKind.wrap IntKind.i64 ((8 : Int) + IntKind.wrap IntKind.i64 ((2 : Int) * IntKind.wrap IntKind.i64 (IntKind.wrap IntKind.i64 (Int.tdiv (↑(List.length a0) : Int) (64 : Int)) - (1 : Int)))))) a0) == r then (exit ((0 : Int), (5 : Int), [])) else (bindO (loopD (stepDref11_Get_n2 (a0, IntKind.wrap IntKind.i64 (IntKind.wrap IntKind.i64 (Int.tdiv (↑(List.length a0) : Int) (64 : Int)) - (1 : Int)), List.drop (64 : Nat) a0)) FUEL ((0 : Int), [])) fun o0 => (bif inR (7 : Int) (List.length a0 + (1 : Nat)) && true then (bindO (fnDref11_number (List.take ((7 : Nat) - (1 : Nat)) (List.drop (1 : Nat) a0))) fun r_2 => (bindO (fnDref11_Put (r_2, o0)) (unP fun r_0 r_1 => (bindO (nodeDref11_Get_n3 (a0, r_2, r_0, r_1, o0)) fun t100 => (bif t100 then (exit ((0 : Int), (4 : Int), [])) else (exit (r_2, (0 : Int), o0))))))) else none)))) else none) else none) else none) else none)))))
def fnDref11_Get (a : Aref11_Get) : Option Yref11_Get := fnref11_Get a some
theorem fnref11_Get_nat (a : Aref11_Get) (k : Yref11_Get → Ans) : fnref11_Get a k = bindO (fnDref11_Get a) k := by
  obtain z := a
  simp only [fnDref11_Get, fnref11_Get, bindO_cond, bindO_assoc, bindO_none, bindO_pure, bindO_elim, bindO_unP]
def argsref11_Get : Aref11_Get → List AV × List AE.Obj := fun a0 => ([AV.str a0], [])
def decAref11_Get (l : List AV) (H : List AE.Obj) : Option Aref11_Get := match l, H with
  | [AV.str a0], [] => some (a0)
  | _, _ => none
theorem decAref11_Get_ok (l : List AV) (H : List AE.Obj) (a : Aref11_Get) (h : decAref11_Get l H = some a) : (l, H) = argsref11_Get a := by
  unfold decAref11_Get at h
  split at h
  · cases h; rfl
  · cases h
def outref11_Get : Aref11_Get → (AV → List AE.Obj → Ans) → Yref11_Get → Ans := fun a0 K => unP fun r_0_y => unP fun r_2_y o0_y => K (AV.tup [AV.int IntKind.i64 r_0_y, AV.own 0, AV.int IntKind.i64 r_2_y]) [Obj.arr (Ty.st (Ty.pair (Ty.int IntKind.i64) Ty.str)) o0_y]
theorem fnref11_Get_ok (a : Aref11_Get) (K : AV → List AE.Obj → Ans) : fnE Try.tab envref11_Get noHint 0 70 34 Try.f34.ntmps Try.f34.results.toList annref11_Get bref11_Get (argsref11_Get a).1 (argsref11_Get a).2 K = fnref11_Get a (outref11_Get a K) := by kernel_rfl
def vFref11_Get (a : Aref11_Get) (K : AV → List AE.Obj → Ans) : Ans := bindO (fnDref11_Get a) fun y => outref11_Get a K y
def Fref11_Get : List AV → List AE.Obj → (AV → List AE.Obj → Ans) → Ans := fun l H K => bindO (decAref11_Get l H) fun a => vFref11_Get a K
theorem Fref11_Get_ok : FuncOk Try.prog 34 Fref11_Get := func_mkD (hint := noHint) (d := 0) (n := 70) mixed tabOk envref11_GetOk Try.func34 (bodySome (by kernel_rfl)) (by decide +kernel) annref11_Get_ok decAref11_Get_ok fnref11_Get_ok fnref11_Get_nat
--@ ref11_Size
noncomputable def envref11_Size : Env := [(61, .pure Fref02_Fits), (42, .pure Fref02_Put)]
theorem envref11_SizeOk : EnvOk Try.prog envref11_Size := EnvOk.cons Fref02_Fits_ok (EnvOk.cons Fref02_Put_ok (EnvOk.nil))
noncomputable def bref11_Size : Code := Try.f36.body.getD .skip
noncomputable def Lref11_Size_n1 : Code := codeAt [1, 0, 0, 1, 1, 0] bref11_Size
noncomputable def annLref11_Size_n1 : Ann := .none
theorem annLref11_Size_n1_ok : AnnOk Try.prog 35 Lref11_Size_n1 annLref11_Size_n1 := (annOk_none _ _ _)
abbrev Iref11_Size_n1 := (List UInt8) × (Int)
abbrev Yref11_Size_n1 := (Bool)
def Sref11_Size_n1 : Iref11_Size_n1 → St := fun (t0, t1) => { env := [(0, AV.str t0), (1, AV.int IntKind.i64 t1)], stk := [[]], H := [], blk := 147456 }
def decref11_Size_n1 (s : St) : Option Iref11_Size_n1 := match s with
  | { env := [(0, AV.str t0), (1, AV.int IntKind.i64 t1)], stk := [[]], H := [], blk := 147456 } => some (t0, t1)
  | _ => none
theorem decref11_Size_n1_ok (s : St) (x : Iref11_Size_n1) (h : decref11_Size_n1 s = some x) : s = Sref11_Size_n1 x := by
  unfold decref11_Size_n1 at h
  split at h
  · cases h; rfl
  · cases h
def outref11_Size_n1 : Iref11_Size_n1 → (Ex → St → Ans) → Yref11_Size_n1 → Ans := fun (t0, t1) K => fun t10_y => K (Ex.norm) { env := [(0, AV.str t0), (10, AV.bool t10_y)], stk := [[]], H := [], blk := 147456 }
def noderef11_Size_n1 {β : Type} : Iref11_Size_n1 → (Yref11_Size_n1 → Option β) → Option β := fun (t0, t1) exit => (bindO (fnDref02_Fits (t1, (6 : Int))) fun r => (bif !r then (exit (true)) else (bif inR (7 : Int) (List.length t0 + (1 : Nat)) then (bindO (fnDref02_Put ([(82 : UInt8)], t1, (6 : Int))) fun r_2 => (bif !List.take (7 : Nat) t0 == r_2 then (exit (true)) else (bindO (nth t0 (7 : Int)) fun x => (bif decide ((↑(UInt8.toNat x) : Int) < (1 : Int)) then (exit (true)) else (bindO (nth t0 (7 : Int)) fun x_2 => (exit (decide ((↑(UInt8.toNat x_2) : Int) > (16 : Int))))))))) else none)))
def nodeDref11_Size_n1 (i : Iref11_Size_n1) : Option Yref11_Size_n1 := noderef11_Size_n1 i some
theorem noderef11_Size_n1_nat (i : Iref11_Size_n1) (k : Yref11_Size_n1 → Ans) : noderef11_Size_n1 i k = bindO (nodeDref11_Size_n1 i) k := by
  obtain ⟨t0, t1⟩ := i
  simp only [nodeDref11_Size_n1, noderef11_Size_n1, bindO_cond, bindO_assoc, bindO_none, bindO_pure, bindO_elim, bindO_unP]
theorem noderef11_Size_n1_ok (i : Iref11_Size_n1) (K : Ex → St → Ans) : codeI Try.tab envref11_Size noHint (codeD Try.tab envref11_Size noHint 0 64) 70 35 annLref11_Size_n1 Lref11_Size_n1 (weakP 0 (exk [0, 10] [4, 5] []) K) (Sref11_Size_n1 i) = noderef11_Size_n1 i (outref11_Size_n1 i K) := by kernel_rfl
theorem GNref11_Size_n1_ok : CSum Try.prog 35 Lref11_Size_n1 (sumN decref11_Size_n1 nodeDref11_Size_n1 outref11_Size_n1) := csum_node mixed tabOk envref11_SizeOk 0 (exk [0, 10] [4, 5] []) annLref11_Size_n1_ok decref11_Size_n1_ok noderef11_Size_n1_ok noderef11_Size_n1_nat
noncomputable def Gref11_Size_n1 : (Ex → St → Ans) → St → Ans := (sumN decref11_Size_n1 nodeDref11_Size_n1 outref11_Size_n1)
theorem Gref11_Size_n1_ok : CSum Try.prog 35 Lref11_Size_n1 Gref11_Size_n1 := GNref11_Size_n1_ok
noncomputable def Lref11_Size_n0 : Code := codeAt [1, 0] bref11_Size
noncomputable def annLref11_Size_n0 : Ann := (.block (.seq .none (.cond .none (.seq (.cut 0 [0, 1] Gref11_Size_n1) .none))))
theorem annLref11_Size_n0_ok : AnnOk Try.prog 35 Lref11_Size_n0 annLref11_Size_n0 := ⟨(annOk_none _ _ _), ⟨(annOk_none _ _ _), ⟨Gref11_Size_n1_ok, (annOk_none _ _ _)⟩⟩⟩
abbrev Iref11_Size_n0 := (List UInt8) × (Int)
abbrev Yref11_Size_n0 := ((Int)) ⊕ (Unit)
def Sref11_Size_n0 : Iref11_Size_n0 → St := fun (t0, t1) => { env := [(0, AV.str t0), (1, AV.int IntKind.i64 t1)], stk := [[]], H := [], blk := 147456 }
def decref11_Size_n0 (s : St) : Option Iref11_Size_n0 := match s with
  | { env := [(0, AV.str t0), (1, AV.int IntKind.i64 t1)], stk := [[]], H := [], blk := 147456 } => some (t0, t1)
  | _ => none
theorem decref11_Size_n0_ok (s : St) (x : Iref11_Size_n0) (h : decref11_Size_n0 s = some x) : s = Sref11_Size_n0 x := by
  unfold decref11_Size_n0 at h
  split at h
  · cases h; rfl
  · cases h
def outref11_Size_n0 : Iref11_Size_n0 → (Ex → St → Ans) → Yref11_Size_n0 → Ans := fun (t0, t1) K => (Sum.elim (fun t5_y => K (Ex.ret) { env := [(4, AV.int IntKind.i64 (0)), (5, AV.int IntKind.i64 t5_y)], stk := [[]], H := [], blk := 147456 }) (fun _ => K (Ex.norm) { env := [(0, AV.str t0)], stk := [[]], H := [], blk := 147456 }))
def noderef11_Size_n0 {β : Type} : Iref11_Size_n0 → (Yref11_Size_n0 → Option β) → Option β := fun (t0, t1) exit => (bif (↑(List.length t0) : Int) != (64 : Int) then (exit (Sum.inl ((12 : Int)))) else (bindO (nodeDref11_Size_n1 (t0, t1)) fun t10 => (bif t10 then (exit (Sum.inl ((8 : Int)))) else (exit (Sum.inr ())))))
def nodeDref11_Size_n0 (i : Iref11_Size_n0) : Option Yref11_Size_n0 := noderef11_Size_n0 i some
theorem noderef11_Size_n0_nat (i : Iref11_Size_n0) (k : Yref11_Size_n0 → Ans) : noderef11_Size_n0 i k = bindO (nodeDref11_Size_n0 i) k := by
  obtain ⟨t0, t1⟩ := i
  simp only [nodeDref11_Size_n0, noderef11_Size_n0, bindO_cond, bindO_assoc, bindO_none, bindO_pure, bindO_elim, bindO_unP]
theorem noderef11_Size_n0_ok (i : Iref11_Size_n0) (K : Ex → St → Ans) : codeI Try.tab envref11_Size noHint (codeD Try.tab envref11_Size noHint 0 64) 70 35 annLref11_Size_n0 Lref11_Size_n0 (weakP 0 (exk [0] [4, 5] []) K) (Sref11_Size_n0 i) = noderef11_Size_n0 i (outref11_Size_n0 i K) := by kernel_rfl
theorem GNref11_Size_n0_ok : CSum Try.prog 35 Lref11_Size_n0 (sumN decref11_Size_n0 nodeDref11_Size_n0 outref11_Size_n0) := csum_node mixed tabOk envref11_SizeOk 0 (exk [0] [4, 5] []) annLref11_Size_n0_ok decref11_Size_n0_ok noderef11_Size_n0_ok noderef11_Size_n0_nat
noncomputable def Gref11_Size_n0 : (Ex → St → Ans) → St → Ans := (sumN decref11_Size_n0 nodeDref11_Size_n0 outref11_Size_n0)
theorem Gref11_Size_n0_ok : CSum Try.prog 35 Lref11_Size_n0 Gref11_Size_n0 := GNref11_Size_n0_ok
noncomputable def annref11_Size : Ann := (.seq .none (.seq (.cut 0 [0, 1] Gref11_Size_n0) .none))
theorem annref11_Size_ok : AnnOk Try.prog 35 bref11_Size annref11_Size := ⟨(annOk_none _ _ _), ⟨Gref11_Size_n0_ok, (annOk_none _ _ _)⟩⟩
abbrev Aref11_Size := (List UInt8) × (Int)
abbrev Yref11_Size := (Int) × (Int)
def fnref11_Size {β : Type} : Aref11_Size → (Yref11_Size → Option β) → Option β := fun (a0, a1) exit => (bindO (nodeDref11_Size_n0 (a0, a1)) (Sum.elim (fun t5 => (exit ((0 : Int), t5))) (fun _ => (bindO (nth a0 (7 : Int)) fun x => (exit (IntKind.wrap IntKind.i64 (IntKind.wrap IntKind.i64 (↑(UInt8.toNat x) : Int) + (1 : Int)), (0 : Int)))))))
def fnDref11_Size (a : Aref11_Size) : Option Yref11_Size := fnref11_Size a some
theorem fnref11_Size_nat (a : Aref11_Size) (k : Yref11_Size → Ans) : fnref11_Size a k = bindO (fnDref11_Size a) k := by
  obtain ⟨a0, a1⟩ := a
  simp only [fnDref11_Size, fnref11_Size, bindO_cond, bindO_assoc, bindO_none, bindO_pure, bindO_elim, bindO_unP]
def argsref11_Size : Aref11_Size → List AV := fun (a0, a1) => [AV.str a0, AV.int IntKind.i64 a1]
def decAref11_Size (l : List AV) : Option Aref11_Size := match l with
  | [AV.str a0, AV.int IntKind.i64 a1] => some (a0, a1)
  | _ => none
theorem decAref11_Size_ok (l : List AV) (a : Aref11_Size) (h : decAref11_Size l = some a) : l = argsref11_Size a := by
  unfold decAref11_Size at h
  split at h
  · cases h; rfl
  · cases h
def rendref11_Size : Aref11_Size → Yref11_Size → AV := fun (a0, a1) => unP fun r_0_y r_1_y => AV.tup [AV.int IntKind.i64 r_0_y, AV.int IntKind.i64 r_1_y]
theorem rendref11_Size_ok : ∀ (a : Aref11_Size) (y : Yref11_Size), (rendref11_Size a y).closed1 = true := by
  rintro ⟨a0, a1⟩ y <;> first | rfl | exact Empty.elim y
theorem fnref11_Size_ok (a : Aref11_Size) : fnE Try.tab envref11_Size noHint 0 70 36 Try.f36.ntmps Try.f36.results.toList annref11_Size bref11_Size (argsref11_Size a) [] (fun v _ => some (v, [])) = fnref11_Size a (fun y => some (rendref11_Size a y, [])) := by kernel_rfl
def vFref11_Size (a : Aref11_Size) (K : AV → Ans) : Ans := bindO (fnDref11_Size a) fun y => K (rendref11_Size a y)
def Fref11_Size : List AV → (AV → Ans) → Ans := fun l K => bindO (decAref11_Size l) fun a => vFref11_Size a K
theorem Fref11_Size_ok : PureOk Try.prog 36 Fref11_Size := pure_mkD (hint := noHint) (d := 0) (n := 70) mixed tabOk envref11_SizeOk Try.func36 (bodySome (by kernel_rfl)) (by decide +kernel) annref11_Size_ok decAref11_Size_ok fnref11_Size_ok fnref11_Size_nat rendref11_Size_ok
end Go.Proofs.R2
namespace Go.Proofs.R2
open Go Go.AE
--@ law09_Sectors
noncomputable def envlaw09_Sectors : Env := []
theorem envlaw09_SectorsOk : EnvOk Try.prog envlaw09_Sectors := EnvOk.nil
noncomputable def blaw09_Sectors : Code := Try.f37.body.getD .skip
noncomputable def Llaw09_Sectors_n1 : Code := codeAt [1, 1, 0, 1, 0, 0, 0, 0] blaw09_Sectors
noncomputable def annLlaw09_Sectors_n1 : Ann := .none
theorem annLlaw09_Sectors_n1_ok : AnnOk Try.prog 32 Llaw09_Sectors_n1 annLlaw09_Sectors_n1 := (annOk_none _ _ _)
abbrev Ilaw09_Sectors_n1 := (List (Int × List UInt8)) × (List (Int × List UInt8)) × (Int)
abbrev Ylaw09_Sectors_n1 := (Bool)
def Slaw09_Sectors_n1 : Ilaw09_Sectors_n1 → St := fun (t0, t1, t5) => { env := [(0, AV.ro (Ty.st (Ty.pair (Ty.int IntKind.i64) Ty.str)) t0), (1, AV.ro (Ty.st (Ty.pair (Ty.int IntKind.i64) Ty.str)) t1), (5, AV.int IntKind.i64 t5)], stk := [[]], H := [], blk := 151552 }
def declaw09_Sectors_n1 (s : St) : Option Ilaw09_Sectors_n1 := match s with
  | { env := [(0, AV.ro (Ty.st (Ty.pair (Ty.int IntKind.i64) Ty.str)) t0), (1, AV.ro (Ty.st (Ty.pair (Ty.int IntKind.i64) Ty.str)) t1), (5, AV.int IntKind.i64 t5)], stk := [[]], H := [], blk := 151552 } => some (t0, t1, t5)
  | _ => none
theorem declaw09_Sectors_n1_ok (s : St) (x : Ilaw09_Sectors_n1) (h : declaw09_Sectors_n1 s = some x) : s = Slaw09_Sectors_n1 x := by
  unfold declaw09_Sectors_n1 at h
  split at h
  · cases h; rfl
  · cases h
def outlaw09_Sectors_n1 : Ilaw09_Sectors_n1 → (Ex → St → Ans) → Ylaw09_Sectors_n1 → Ans := fun (t0, t1, t5) K => fun t20_y => K (Ex.norm) { env := [(0, AV.ro (Ty.st (Ty.pair (Ty.int IntKind.i64) Ty.str)) t0), (1, AV.ro (Ty.st (Ty.pair (Ty.int IntKind.i64) Ty.str)) t1), (5, AV.int IntKind.i64 t5), (20, AV.bool t20_y)], stk := [[]], H := [], blk := 151552 }
def nodelaw09_Sectors_n1 {β : Type} : Ilaw09_Sectors_n1 → (Ylaw09_Sectors_n1 → Option β) → Option β := fun (t0, t1, t5) exit => (bif decide (t5 < (↑(List.length t0) : Int)) then (exit (decide (t5 < (↑(List.length t1) : Int)))) else (exit (false)))
def nodeDlaw09_Sectors_n1 (i : Ilaw09_Sectors_n1) : Option Ylaw09_Sectors_n1 := nodelaw09_Sectors_n1 i some
theorem nodelaw09_Sectors_n1_nat (i : Ilaw09_Sectors_n1) (k : Ylaw09_Sectors_n1 → Ans) : nodelaw09_Sectors_n1 i k = bindO (nodeDlaw09_Sectors_n1 i) k := by
  obtain ⟨t0, t1, t5⟩ := i
  simp only [nodeDlaw09_Sectors_n1, nodelaw09_Sectors_n1, bindO_cond, bindO_assoc, bindO_none, bindO_pure, bindO_elim, bindO_unP]
theorem nodelaw09_Sectors_n1_ok (i : Ilaw09_Sectors_n1) (K : Ex → St → Ans) : codeI Try.tab envlaw09_Sectors noHint (codeD Try.tab envlaw09_Sectors noHint 0 64) 70 32 annLlaw09_Sectors_n1 Llaw09_Sectors_n1 (weakP 0 (exk [0, 1, 5, 20] [4] []) K) (Slaw09_Sectors_n1 i) = nodelaw09_Sectors_n1 i (outlaw09_Sectors_n1 i K) := by kernel_rfl
theorem GNlaw09_Sectors_n1_ok : CSum Try.prog 32 Llaw09_Sectors_n1 (sumN declaw09_Sectors_n1 nodeDlaw09_Sectors_n1 outlaw09_Sectors_n1) := csum_node mixed tabOk envlaw09_SectorsOk 0 (exk [0, 1, 5, 20] [4] []) annLlaw09_Sectors_n1_ok declaw09_Sectors_n1_ok nodelaw09_Sectors_n1_ok nodelaw09_Sectors_n1_nat
noncomputable def Glaw09_Sectors_n1 : (Ex → St → Ans) → St → Ans := (sumN declaw09_Sectors_n1 nodeDlaw09_Sectors_n1 outlaw09_Sectors_n1)
theorem Glaw09_Sectors_n1_ok : CSum Try.prog 32 Llaw09_Sectors_n1 Glaw09_Sectors_n1 := GNlaw09_Sectors_n1_ok
noncomputable def Llaw09_Sectors_n0 : Code := codeAt [1, 1, 0, 1, 0, 0] blaw09_Sectors
noncomputable def annLlaw09_Sectors_n0 : Ann := .at 0 [0, 1, 5] (.loop (.seq (.seq (.cut 0 [0, 1, 5] Glaw09_Sectors_n1) .none) .none))
theorem annLlaw09_Sectors_n0_ok : AnnOk Try.prog 32 (.loop Llaw09_Sectors_n0) annLlaw09_Sectors_n0 := annOk_at ⟨⟨Glaw09_Sectors_n1_ok, (annOk_none _ _ _)⟩, (annOk_none _ _ _)⟩
abbrev Ilaw09_Sectors_n0 := (List (Int × List UInt8)) × (List (Int × List UInt8))
abbrev Ylaw09_Sectors_n0 := (Unit) ⊕ (Unit)
abbrev Vlaw09_Sectors_n0 := (Int)
def Slaw09_Sectors_n0 : Ilaw09_Sectors_n0 → Vlaw09_Sectors_n0 → St := fun (t0, t1) t5 => { env := [(0, AV.ro (Ty.st (Ty.pair (Ty.int IntKind.i64) Ty.str)) t0), (1, AV.ro (Ty.st (Ty.pair (Ty.int IntKind.i64) Ty.str)) t1), (5, AV.int IntKind.i64 t5)], stk := [[]], H := [], blk := 151552 }
def declaw09_Sectors_n0 (s : St) : Option (Ilaw09_Sectors_n0 × Vlaw09_Sectors_n0) := match s with
  | { env := [(0, AV.ro (Ty.st (Ty.pair (Ty.int IntKind.i64) Ty.str)) t0), (1, AV.ro (Ty.st (Ty.pair (Ty.int IntKind.i64) Ty.str)) t1), (5, AV.int IntKind.i64 t5)], stk := [[]], H := [], blk := 151552 } => some ((t0, t1), t5)
  | _ => none
theorem declaw09_Sectors_n0_ok (s : St) (x : Ilaw09_Sectors_n0 × Vlaw09_Sectors_n0) (h : declaw09_Sectors_n0 s = some x) : s = Slaw09_Sectors_n0 x.1 x.2 := by
  unfold declaw09_Sectors_n0 at h
  split at h
  · cases h; rfl
  · cases h
def outlaw09_Sectors_n0 : Ilaw09_Sectors_n0 → (Ex → St → Ans) → Ylaw09_Sectors_n0 → Ans := fun (t0, t1) K => (Sum.elim (fun _ => K (Ex.ret) { env := [(4, AV.bool (false))], stk := [[]], H := [], blk := 151553 }) (fun _ => K (Ex.exit 0) { env := [], stk := [[]], H := [], blk := 151552 }))
def steplaw09_Sectors_n0 {β : Type} : Ilaw09_Sectors_n0 → Vlaw09_Sectors_n0 → (Vlaw09_Sectors_n0 → Option β) → (Ylaw09_Sectors_n0 → Option β) → Option β := fun (t0, t1) t5 next exit => (bindO (nodeDlaw09_Sectors_n1 (t0, t1, t5)) fun t20 => (bif t20 then (bindO (nth t0 t5) fun x => (bindO (nth t1 t5) fun x_2 => (bif !(x.fst == x_2.fst && (x.snd == x_2.snd && true)) then (exit (Sum.inl ())) else (next (IntKind.wrap IntKind.i64 (t5 + (1 : Int))))))) else (exit (Sum.inr ()))))
def stepDlaw09_Sectors_n0 (i : Ilaw09_Sectors_n0) (v : Vlaw09_Sectors_n0) : Option (Vlaw09_Sectors_n0 ⊕ Ylaw09_Sectors_n0) := steplaw09_Sectors_n0 i v (fun v => some (.inl v)) (fun y => some (.inr y))
theorem steplaw09_Sectors_n0_nat (i : Ilaw09_Sectors_n0) (v : Vlaw09_Sectors_n0) (next : Vlaw09_Sectors_n0 → Ans) (exit : Ylaw09_Sectors_n0 → Ans) : steplaw09_Sectors_n0 i v next exit = bindO (stepDlaw09_Sectors_n0 i v) (Sum.elim next exit) := by
  obtain ⟨t0, t1⟩ := i
  obtain z := v
  simp only [stepDlaw09_Sectors_n0, steplaw09_Sectors_n0, bindO_cond, bindO_assoc, bindO_none, bindO_pure, bindO_elim, bindO_unP, Sum.elim_inl, Sum.elim_inr]
theorem steplaw09_Sectors_n0_ok (n : Nat) (i : Ilaw09_Sectors_n0) (v : Vlaw09_Sectors_n0) (K : Ex → St → Ans) : codeI Try.tab envlaw09_Sectors noHint (codeD Try.tab envlaw09_Sectors noHint 0 64) (n+1) 32 annLlaw09_Sectors_n0 (.loop Llaw09_Sectors_n0) (weakP 0 (exk [] [4] [(0, [])]) K) (Slaw09_Sectors_n0 i v) = steplaw09_Sectors_n0 i v (fun v' => codeI Try.tab envlaw09_Sectors noHint (codeD Try.tab envlaw09_Sectors noHint 0 64) n 32 annLlaw09_Sectors_n0 (.loop Llaw09_Sectors_n0) (weakP 0 (exk [] [4] [(0, [])]) K) (Slaw09_Sectors_n0 i v')) (fun y => outlaw09_Sectors_n0 i K y) := by kernel_rfl
theorem GNlaw09_Sectors_n0_ok : CSum Try.prog 32 (.loop Llaw09_Sectors_n0) (sumL declaw09_Sectors_n0 stepDlaw09_Sectors_n0 outlaw09_Sectors_n0) := csum_loop mixed tabOk envlaw09_SectorsOk 0 (exk [] [4] [(0, [])]) annLlaw09_Sectors_n0_ok declaw09_Sectors_n0_ok steplaw09_Sectors_n0_ok steplaw09_Sectors_n0_nat
noncomputable def Glaw09_Sectors_n0 : (Ex → St → Ans) → St → Ans := (sumL declaw09_Sectors_n0 stepDlaw09_Sectors_n0 outlaw09_Sectors_n0)
theorem Glaw09_Sectors_n0_ok : CSum Try.prog 32 (.loop Llaw09_Sectors_n0) Glaw09_Sectors_n0 := GNlaw09_Sectors_n0_ok
noncomputable def annlaw09_Sectors : Ann := (.seq .none (.seq .none (.seq (.seq .none (.block (.cut 0 [0, 1, 5] Glaw09_Sectors_n0))) .none)))
theorem annlaw09_Sectors_ok : AnnOk Try.prog 32 blaw09_Sectors annlaw09_Sectors := ⟨(annOk_none _ _ _), ⟨(annOk_none _ _ _), ⟨⟨(annOk_none _ _ _), Glaw09_Sectors_n0_ok⟩, (annOk_none _ _ _)⟩⟩⟩
abbrev Alaw09_Sectors := (List (Int × List UInt8)) × (List (Int × List UInt8))
abbrev Ylaw09_Sectors := (Bool)
def fnlaw09_Sectors {β : Type} : Alaw09_Sectors → (Ylaw09_Sectors → Option β) → Option β := fun (a0, a1) exit => (bif (↑(List.length a0) : Int) != (↑(List.length a1) : Int) then (exit (false)) else (bindO (loopD (stepDlaw09_Sectors_n0 (a0, a1)) FUEL ((0 : Int))) (Sum.elim (fun _ => (exit (false))) (fun _ => (exit (true))))))
def fnDlaw09_Sectors (a : Alaw09_Sectors) : Option Ylaw09_Sectors := fnlaw09_Sectors a some
theorem fnlaw09_Sectors_nat (a : Alaw09_Sectors) (k : Ylaw09_Sectors → Ans) : fnlaw09_Sectors a k = bindO (fnDlaw09_Sectors a) k := by
  obtain ⟨a0, a1⟩ := a
  simp only [fnDlaw09_Sectors, fnlaw09_Sectors, bindO_cond, bindO_assoc, bindO_none, bindO_pure, bindO_elim, bindO_unP]
def argslaw09_Sectors : Alaw09_Sectors → List AV := fun (a0, a1) => [AV.ro (Ty.st (Ty.pair (Ty.int IntKind.i64) Ty.str)) a0, AV.ro (Ty.st (Ty.pair (Ty.int IntKind.i64) Ty.str)) a1]
def decAlaw09_Sectors (l : List AV) : Option Alaw09_Sectors := match l with
  | [AV.ro (Ty.st (Ty.pair (Ty.int IntKind.i64) Ty.str)) a0, AV.ro (Ty.st (Ty.pair (Ty.int IntKind.i64) Ty.str)) a1] => some (a0, a1)
  | _ => none
theorem decAlaw09_Sectors_ok (l : List AV) (a : Alaw09_Sectors) (h : decAlaw09_Sectors l = some a) : l = argslaw09_Sectors a := by
  unfold decAlaw09_Sectors at h
  split at h
  · cases h; rfl
  · cases h
def rendlaw09_Sectors : Alaw09_Sectors → Ylaw09_Sectors → AV := fun (a0, a1) => fun r_y => AV.bool r_y
theorem rendlaw09_Sectors_ok : ∀ (a : Alaw09_Sectors) (y : Ylaw09_Sectors), (rendlaw09_Sectors a y).closed1 = true := by
  rintro ⟨a0, a1⟩ y <;> first | rfl | exact Empty.elim y
theorem fnlaw09_Sectors_ok (a : Alaw09_Sectors) : fnE Try.tab envlaw09_Sectors noHint 0 70 37 Try.f37.ntmps Try.f37.results.toList annlaw09_Sectors blaw09_Sectors (argslaw09_Sectors a) [] (fun v _ => some (v, [])) = fnlaw09_Sectors a (fun y => some (rendlaw09_Sectors a y, [])) := by kernel_rfl
def vFlaw09_Sectors (a : Alaw09_Sectors) (K : AV → Ans) : Ans := bindO (fnDlaw09_Sectors a) fun y => K (rendlaw09_Sectors a y)
def Flaw09_Sectors : List AV → (AV → Ans) → Ans := fun l K => bindO (decAlaw09_Sectors l) fun a => vFlaw09_Sectors a K
theorem Flaw09_Sectors_ok : PureOk Try.prog 37 Flaw09_Sectors := pure_mkD (hint := noHint) (d := 0) (n := 70) mixed tabOk envlaw09_SectorsOk Try.func37 (bodySome (by kernel_rfl)) (by decide +kernel) annlaw09_Sectors_ok decAlaw09_Sectors_ok fnlaw09_Sectors_ok fnlaw09_Sectors_nat rendlaw09_Sectors_ok
--@ law11_LogrecGets
noncomputable def envlaw11_LogrecGets : Env := [(35, .pure Flogrec_Size), (33, .func Flogrec_Get), (27, .pure Flaw11_works), (34, .func Fref11_Get), (36, .pure Fref11_Size), (37, .pure Flaw09_Sectors)]
theorem envlaw11_LogrecGetsOk : EnvOk Try.prog envlaw11_LogrecGets := EnvOk.cons Flogrec_Size_ok (EnvOk.cons Flogrec_Get_ok (EnvOk.cons Flaw11_works_ok (EnvOk.cons Fref11_Get_ok (EnvOk.cons Fref11_Size_ok (EnvOk.cons Flaw09_Sectors_ok (EnvOk.nil))))))
noncomputable def blaw11_LogrecGets : Code := Try.f10.body.getD .skip
noncomputable def Llaw11_LogrecGets_n0 : Code := codeAt [1, 1, 1, 1, 1, 1, 1, 0] blaw11_LogrecGets
noncomputable def annLlaw11_LogrecGets_n0 : Ann := .none
theorem annLlaw11_LogrecGets_n0_ok : AnnOk Try.prog 67 Llaw11_LogrecGets_n0 annLlaw11_LogrecGets_n0 := (annOk_none _ _ _)
abbrev Ilaw11_LogrecGets_n0 := (Int) × (Int) × (Int) × (Int) × (Int) × (Int) × (Int) × (Int) × (List (Int × List UInt8)) × (List (Int × List UInt8))
abbrev Ylaw11_LogrecGets_n0 := (Bool)
def Slaw11_LogrecGets_n0 : Ilaw11_LogrecGets_n0 → St := fun (t5, t7, t8, t10, t11, t12, t13, t14, o0, o1) => { env := [(5, AV.int IntKind.i64 t5), (6, AV.own 0), (7, AV.int IntKind.i64 t7), (8, AV.int IntKind.i64 t8), (9, AV.own 1), (10, AV.int IntKind.i64 t10), (11, AV.int IntKind.i64 t11), (12, AV.int IntKind.i64 t12), (13, AV.int IntKind.i64 t13), (14, AV.int IntKind.i64 t14)], stk := [[]], H := [Obj.arr (Ty.st (Ty.pair (Ty.int IntKind.i64) Ty.str)) o0, Obj.arr (Ty.st (Ty.pair (Ty.int IntKind.i64) Ty.str)) o1], blk := 40960 }
def declaw11_LogrecGets_n0 (s : St) : Option Ilaw11_LogrecGets_n0 := match s with
  | { env := [(5, AV.int IntKind.i64 t5), (6, AV.own 0), (7, AV.int IntKind.i64 t7), (8, AV.int IntKind.i64 t8), (9, AV.own 1), (10, AV.int IntKind.i64 t10), (11, AV.int IntKind.i64 t11), (12, AV.int IntKind.i64 t12), (13, AV.int IntKind.i64 t13), (14, AV.int IntKind.i64 t14)], stk := [[]], H := [Obj.arr (Ty.st (Ty.pair (Ty.int IntKind.i64) Ty.str)) o0, Obj.arr (Ty.st (Ty.pair (Ty.int IntKind.i64) Ty.str)) o1], blk := 40960 } => some (t5, t7, t8, t10, t11, t12, t13, t14, o0, o1)
  | _ => none
theorem declaw11_LogrecGets_n0_ok (s : St) (x : Ilaw11_LogrecGets_n0) (h : declaw11_LogrecGets_n0 s = some x) : s = Slaw11_LogrecGets_n0 x := by
  unfold declaw11_LogrecGets_n0 at h
  split at h
  · cases h; rfl
  · cases h
def outlaw11_LogrecGets_n0 : Ilaw11_LogrecGets_n0 → (Ex → St → Ans) → Ylaw11_LogrecGets_n0 → Ans := fun (t5, t7, t8, t10, t11, t12, t13, t14, o0, o1) K => fun t4_y => K (Ex.norm) { env := [(4, AV.bool t4_y)], stk := [[]], H := [], blk := 40960 }
def nodelaw11_LogrecGets_n0 {β : Type} : Ilaw11_LogrecGets_n0 → (Ylaw11_LogrecGets_n0 → Option β) → Option β := fun (t5, t7, t8, t10, t11, t12, t13, t14, o0, o1) exit => (bif t5 == t8 then (bindO (fnDlaw09_Sectors (o0, o1)) fun r => (bif r then (bif t7 == t10 then (bif t11 == t13 then (exit (t12 == t14)) else (exit (false))) else (exit (false))) else (exit (false)))) else (exit (false)))
def nodeDlaw11_LogrecGets_n0 (i : Ilaw11_LogrecGets_n0) : Option Ylaw11_LogrecGets_n0 := nodelaw11_LogrecGets_n0 i some
theorem nodelaw11_LogrecGets_n0_nat (i : Ilaw11_LogrecGets_n0) (k : Ylaw11_LogrecGets_n0 → Ans) : nodelaw11_LogrecGets_n0 i k = bindO (nodeDlaw11_LogrecGets_n0 i) k := by
  obtain ⟨t5, t7, t8, t10, t11, t12, t13, t14, o0, o1⟩ := i
  simp only [nodeDlaw11_LogrecGets_n0, nodelaw11_LogrecGets_n0, bindO_cond, bindO_assoc, bindO_none, bindO_pure, bindO_elim, bindO_unP]
theorem nodelaw11_LogrecGets_n0_ok (i : Ilaw11_LogrecGets_n0) (K : Ex → St → Ans) : codeI Try.tab envlaw11_LogrecGets noHint (codeD Try.tab envlaw11_LogrecGets noHint 0 64) 70 67 annLlaw11_LogrecGets_n0 Llaw11_LogrecGets_n0 (weakP 0 (exk [4] [4] []) K) (Slaw11_LogrecGets_n0 i) = nodelaw11_LogrecGets_n0 i (outlaw11_LogrecGets_n0 i K) := by kernel_rfl
theorem GNlaw11_LogrecGets_n0_ok : CSum Try.prog 67 Llaw11_LogrecGets_n0 (sumN declaw11_LogrecGets_n0 nodeDlaw11_LogrecGets_n0 outlaw11_LogrecGets_n0) := csum_node mixed tabOk envlaw11_LogrecGetsOk 0 (exk [4] [4] []) annLlaw11_LogrecGets_n0_ok declaw11_LogrecGets_n0_ok nodelaw11_LogrecGets_n0_ok nodelaw11_LogrecGets_n0_nat
noncomputable def Glaw11_LogrecGets_n0 : (Ex → St → Ans) → St → Ans := (sumN declaw11_LogrecGets_n0 nodeDlaw11_LogrecGets_n0 outlaw11_LogrecGets_n0)
theorem Glaw11_LogrecGets_n0_ok : CSum Try.prog 67 Llaw11_LogrecGets_n0 Glaw11_LogrecGets_n0 := GNlaw11_LogrecGets_n0_ok
noncomputable def annlaw11_LogrecGets : Ann := (.seq .none (.seq .none (.seq .none (.seq .none (.seq .none (.seq .none (.seq .none (.seq (.cut 0 [5, 6, 7, 8, 9, 10, 11, 12, 13, 14] Glaw11_LogrecGets_n0) .none))))))))
theorem annlaw11_LogrecGets_ok : AnnOk Try.prog 67 blaw11_LogrecGets annlaw11_LogrecGets := ⟨(annOk_none _ _ _), ⟨(annOk_none _ _ _), ⟨(annOk_none _ _ _), ⟨(annOk_none _ _ _), ⟨(annOk_none _ _ _), ⟨(annOk_none _ _ _), ⟨(annOk_none _ _ _), ⟨Glaw11_LogrecGets_n0_ok, (annOk_none _ _ _)⟩⟩⟩⟩⟩⟩⟩⟩
abbrev Alaw11_LogrecGets := (List UInt8) × (Int)
abbrev Ylaw11_LogrecGets := (Bool)
def fnlaw11_LogrecGets {β : Type} : Alaw11_LogrecGets → (Ylaw11_LogrecGets → Option β) → Option β := fun (a0, a1) exit => (bindO (fnDlaw11_works ()) fun r => (bif !r then (exit (false)) else (bif decide ((↑(List.length a0) : Int) > (3000 : Int)) then (exit (true)) else (bindO (fnDlogrec_Get (a0)) (unP fun r_0 => unP fun r_2 o0 => (bindO (fnDref11_Get (a0)) (unP fun r_0_2 => unP fun r_2_2 o0_2 => (bindO (fnDlogrec_Size (a0, a1)) (unP fun r_0_3 r_1 => (bindO (fnDref11_Size (a0, a1)) (unP fun r_0_4 r_1_2 => (bindO (nodeDlaw11_LogrecGets_n0 (r_0, r_2, r_0_2, r_2_2, r_0_3, r_1, r_0_4, r_1_2, o0, o0_2)) fun t4 => (exit (t4))))))))))))))
def fnDlaw11_LogrecGets (a : Alaw11_LogrecGets) : Option Ylaw11_LogrecGets := fnlaw11_LogrecGets a some
theorem fnlaw11_LogrecGets_nat (a : Alaw11_LogrecGets) (k : Ylaw11_LogrecGets → Ans) : fnlaw11_LogrecGets a k = bindO (fnDlaw11_LogrecGets a) k := by
  obtain ⟨a0, a1⟩ := a
  simp only [fnDlaw11_LogrecGets, fnlaw11_LogrecGets, bindO_cond, bindO_assoc, bindO_none, bindO_pure, bindO_elim, bindO_unP]
def argslaw11_LogrecGets : Alaw11_LogrecGets → List AV × List AE.Obj := fun (a0, a1) => ([AV.str a0, AV.int IntKind.i64 a1], [])
def decAlaw11_LogrecGets (l : List AV) (H : List AE.Obj) : Option Alaw11_LogrecGets := match l, H with
  | [AV.str a0, AV.int IntKind.i64 a1], [] => some (a0, a1)
  | _, _ => none
theorem decAlaw11_LogrecGets_ok (l : List AV) (H : List AE.Obj) (a : Alaw11_LogrecGets) (h : decAlaw11_LogrecGets l H = some a) : (l, H) = argslaw11_LogrecGets a := by
  unfold decAlaw11_LogrecGets at h
  split at h
  · cases h; rfl
  · cases h
def outlaw11_LogrecGets : Alaw11_LogrecGets → (AV → List AE.Obj → Ans) → Ylaw11_LogrecGets → Ans := fun (a0, a1) K => fun r_y => K (AV.bool r_y) []
theorem fnlaw11_LogrecGets_ok (a : Alaw11_LogrecGets) (K : AV → List AE.Obj → Ans) : fnE Try.tab envlaw11_LogrecGets noHint 0 70 10 Try.f10.ntmps Try.f10.results.toList annlaw11_LogrecGets blaw11_LogrecGets (argslaw11_LogrecGets a).1 (argslaw11_LogrecGets a).2 K = fnlaw11_LogrecGets a (outlaw11_LogrecGets a K) := by kernel_rfl
def vFlaw11_LogrecGets (a : Alaw11_LogrecGets) (K : AV → List AE.Obj → Ans) : Ans := bindO (fnDlaw11_LogrecGets a) fun y => outlaw11_LogrecGets a K y
def Flaw11_LogrecGets : List AV → List AE.Obj → (AV → List AE.Obj → Ans) → Ans := fun l H K => bindO (decAlaw11_LogrecGets l H) fun a => vFlaw11_LogrecGets a K
theorem Flaw11_LogrecGets_ok : FuncOk Try.prog 10 Flaw11_LogrecGets := func_mkD (hint := noHint) (d := 0) (n := 70) mixed tabOk envlaw11_LogrecGetsOk Try.func10 (bodySome (by kernel_rfl)) (by decide +kernel) annlaw11_LogrecGets_ok decAlaw11_LogrecGets_ok fnlaw11_LogrecGets_ok fnlaw11_LogrecGets_nat
--@ law11_LogrecBack
noncomputable def envlaw11_LogrecBack : Env := [(29, .pure Flogrec_Put), (35, .pure Flogrec_Size), (33, .func Flogrec_Get), (27, .pure Flaw11_works), (28, .pure Flaw11_Great), (37, .pure Flaw09_Sectors)]
theorem envlaw11_LogrecBackOk : EnvOk Try.prog envlaw11_LogrecBack := EnvOk.cons Flogrec_Put_ok (EnvOk.cons Flogrec_Size_ok (EnvOk.cons Flogrec_Get_ok (EnvOk.cons Flaw11_works_ok (EnvOk.cons Flaw11_Great_ok (EnvOk.cons Flaw09_Sectors_ok (EnvOk.nil))))))
noncomputable def blaw11_LogrecBack : Code := Try.f11.body.getD .skip
noncomputable def Llaw11_LogrecBack_n5 : Code := codeAt [1, 1, 1, 1, 1, 1, 1, 1, 1, 1, 1, 1, 1, 1, 0] blaw11_LogrecBack
noncomputable def annLlaw11_LogrecBack_n5 : Ann := .none
theorem annLlaw11_LogrecBack_n5_ok : AnnOk Try.prog 157 Llaw11_LogrecBack_n5 annLlaw11_LogrecBack_n5 := (annOk_none _ _ _)
abbrev Ilaw11_LogrecBack_n5 := (Int) × (List (Int × List UInt8)) × (List UInt8) × (Int) × (Int) × (Int) × (Int) × (Int) × (List (Int × List UInt8)) × (List Int)
abbrev Ylaw11_LogrecBack_n5 := (Bool)
def Slaw11_LogrecBack_n5 : Ilaw11_LogrecBack_n5 → St := fun (t0, t1, t9, t11, t13, t14, t15, t21, o0, o1) => { env := [(0, AV.int IntKind.i64 t0), (1, AV.ro (Ty.st (Ty.pair (Ty.int IntKind.i64) Ty.str)) t1), (9, AV.str t9), (11, AV.int IntKind.i64 t11), (12, AV.own 0), (13, AV.int IntKind.i64 t13), (14, AV.int IntKind.i64 t14), (15, AV.int IntKind.i64 t15), (16, AV.own 1), (21, AV.int IntKind.i64 t21)], stk := [[]], H := [Obj.arr (Ty.st (Ty.pair (Ty.int IntKind.i64) Ty.str)) o0, Obj.arr (Ty.int IntKind.u8) o1], blk := 45056 }
def declaw11_LogrecBack_n5 (s : St) : Option Ilaw11_LogrecBack_n5 := match s with
  | { env := [(0, AV.int IntKind.i64 t0), (1, AV.ro (Ty.st (Ty.pair (Ty.int IntKind.i64) Ty.str)) t1), (9, AV.str t9), (11, AV.int IntKind.i64 t11), (12, AV.own 0), (13, AV.int IntKind.i64 t13), (14, AV.int IntKind.i64 t14), (15, AV.int IntKind.i64 t15), (16, AV.own 1), (21, AV.int IntKind.i64 t21)], stk := [[]], H := [Obj.arr (Ty.st (Ty.pair (Ty.int IntKind.i64) Ty.str)) o0, Obj.arr (Ty.int IntKind.u8) o1], blk := 45056 } => some (t0, t1, t9, t11, t13, t14, t15, t21, o0, o1)
  | _ => none
theorem declaw11_LogrecBack_n5_ok (s : St) (x : Ilaw11_LogrecBack_n5) (h : declaw11_LogrecBack_n5 s = some x) : s = Slaw11_LogrecBack_n5 x := by
  unfold declaw11_LogrecBack_n5 at h
  split at h
  · cases h; rfl
  · cases h
def outlaw11_LogrecBack_n5 : Ilaw11_LogrecBack_n5 → (Ex → St → Ans) → Ylaw11_LogrecBack_n5 → Ans := fun (t0, t1, t9, t11, t13, t14, t15, t21, o0, o1) K => fun t8_y => K (Ex.norm) { env := [(8, AV.bool t8_y)], stk := [[]], H := [], blk := 45056 }
def nodelaw11_LogrecBack_n5 {β : Type} : Ilaw11_LogrecBack_n5 → (Ylaw11_LogrecBack_n5 → Option β) → Option β := fun (t0, t1, t9, t11, t13, t14, t15, t21, o0, o1) exit => (bif t11 == t0 then (bif t13 == (0 : Int) then (bindO (fnDlaw09_Sectors (t1, o0)) fun r => (bif r then (bif t14 == IntKind.wrap IntKind.i64 ((↑(List.length t1) : Int) + (1 : Int)) then (bif t15 == (0 : Int) then (exit ((t21 == (0 : Int)) == (bytesOf o1 == t9))) else (exit (false))) else (exit (false))) else (exit (false)))) else (exit (false))) else (exit (false)))
def nodeDlaw11_LogrecBack_n5 (i : Ilaw11_LogrecBack_n5) : Option Ylaw11_LogrecBack_n5 := nodelaw11_LogrecBack_n5 i some
theorem nodelaw11_LogrecBack_n5_nat (i : Ilaw11_LogrecBack_n5) (k : Ylaw11_LogrecBack_n5 → Ans) : nodelaw11_LogrecBack_n5 i k = bindO (nodeDlaw11_LogrecBack_n5 i) k := by
  obtain ⟨t0, t1, t9, t11, t13, t14, t15, t21, o0, o1⟩ := i
  simp only [nodeDlaw11_LogrecBack_n5, nodelaw11_LogrecBack_n5, bindO_cond, bindO_assoc, bindO_none, bindO_pure, bindO_elim, bindO_unP]
theorem nodelaw11_LogrecBack_n5_ok (i : Ilaw11_LogrecBack_n5) (K : Ex → St → Ans) : codeI Try.tab envlaw11_LogrecBack noHint (codeD Try.tab envlaw11_LogrecBack noHint 0 64) 70 157 annLlaw11_LogrecBack_n5 Llaw11_LogrecBack_n5 (weakP 0 (exk [8] [8] []) K) (Slaw11_LogrecBack_n5 i) = nodelaw11_LogrecBack_n5 i (outlaw11_LogrecBack_n5 i K) := by kernel_rfl
theorem GNlaw11_LogrecBack_n5_ok : CSum Try.prog 157 Llaw11_LogrecBack_n5 (sumN declaw11_LogrecBack_n5 nodeDlaw11_LogrecBack_n5 outlaw11_LogrecBack_n5) := csum_node mixed tabOk envlaw11_LogrecBackOk 0 (exk [8] [8] []) annLlaw11_LogrecBack_n5_ok declaw11_LogrecBack_n5_ok nodelaw11_LogrecBack_n5_ok nodelaw11_LogrecBack_n5_nat
noncomputable def Glaw11_LogrecBack_n5 : (Ex → St → Ans) → St → Ans := (sumN declaw11_LogrecBack_n5 nodeDlaw11_LogrecBack_n5 outlaw11_LogrecBack_n5)
theorem Glaw11_LogrecBack_n5_ok : CSum Try.prog 157 Llaw11_LogrecBack_n5 Glaw11_LogrecBack_n5 := GNlaw11_LogrecBack_n5_ok
noncomputable def Llaw11_LogrecBack_n4 : Code := codeAt [1, 1, 1, 1, 1, 1, 1, 1, 1, 1, 1, 1, 1, 0, 1, 0, 0] blaw11_LogrecBack
noncomputable def annLlaw11_LogrecBack_n4 : Ann := .none
theorem annLlaw11_LogrecBack_n4_ok : AnnOk Try.prog 157 Llaw11_LogrecBack_n4 annLlaw11_LogrecBack_n4 := (annOk_none _ _ _)
abbrev Ilaw11_LogrecBack_n4 := (Int) × (List (Int × List UInt8)) × (Int) × (Int) × (List (Int × List UInt8))
abbrev Ylaw11_LogrecBack_n4 := (Bool)
def Slaw11_LogrecBack_n4 : Ilaw11_LogrecBack_n4 → St := fun (t0, t1, t11, t13, o0) => { env := [(0, AV.int IntKind.i64 t0), (1, AV.ro (Ty.st (Ty.pair (Ty.int IntKind.i64) Ty.str)) t1), (11, AV.int IntKind.i64 t11), (12, AV.own 0), (13, AV.int IntKind.i64 t13)], stk := [[]], H := [Obj.arr (Ty.st (Ty.pair (Ty.int IntKind.i64) Ty.str)) o0], blk := 45056 }
def declaw11_LogrecBack_n4 (s : St) : Option Ilaw11_LogrecBack_n4 := match s with
  | { env := [(0, AV.int IntKind.i64 t0), (1, AV.ro (Ty.st (Ty.pair (Ty.int IntKind.i64) Ty.str)) t1), (11, AV.int IntKind.i64 t11), (12, AV.own 0), (13, AV.int IntKind.i64 t13)], stk := [[]], H := [Obj.arr (Ty.st (Ty.pair (Ty.int IntKind.i64) Ty.str)) o0], blk := 45056 } => some (t0, t1, t11, t13, o0)
  | _ => none
theorem declaw11_LogrecBack_n4_ok (s : St) (x : Ilaw11_LogrecBack_n4) (h : declaw11_LogrecBack_n4 s = some x) : s = Slaw11_LogrecBack_n4 x := by
  unfold declaw11_LogrecBack_n4 at h
  split at h
  · cases h; rfl
  · cases h
def outlaw11_LogrecBack_n4 : Ilaw11_LogrecBack_n4 → (Ex → St → Ans) → Ylaw11_LogrecBack_n4 → Ans := fun (t0, t1, t11, t13, o0) K => fun t8_y => K (Ex.norm) { env := [(8, AV.bool t8_y)], stk := [[]], H := [], blk := 45056 }
def nodelaw11_LogrecBack_n4 {β : Type} : Ilaw11_LogrecBack_n4 → (Ylaw11_LogrecBack_n4 → Option β) → Option β := fun (t0, t1, t11, t13, o0) exit => (bif t11 == t0 then (bif t13 == (0 : Int) then (bindO (fnDlaw09_Sectors (t1, o0)) fun r => (exit (r))) else (exit (false))) else (exit (false)))
def nodeDlaw11_LogrecBack_n4 (i : Ilaw11_LogrecBack_n4) : Option Ylaw11_LogrecBack_n4 := nodelaw11_LogrecBack_n4 i some
theorem nodelaw11_LogrecBack_n4_nat (i : Ilaw11_LogrecBack_n4) (k : Ylaw11_LogrecBack_n4 → Ans) : nodelaw11_LogrecBack_n4 i k = bindO (nodeDlaw11_LogrecBack_n4 i) k := by
  obtain ⟨t0, t1, t11, t13, o0⟩ := i
  simp only [nodeDlaw11_LogrecBack_n4, nodelaw11_LogrecBack_n4, bindO_cond, bindO_assoc, bindO_none, bindO_pure, bindO_elim, bindO_unP]
theorem nodelaw11_LogrecBack_n4_ok (i : Ilaw11_LogrecBack_n4) (K : Ex → St → Ans) : codeI Try.tab envlaw11_LogrecBack noHint (codeD Try.tab envlaw11_LogrecBack noHint 0 64) 70 157 annLlaw11_LogrecBack_n4 Llaw11_LogrecBack_n4 (weakP 0 (exk [8] [8] []) K) (Slaw11_LogrecBack_n4 i) = nodelaw11_LogrecBack_n4 i (outlaw11_LogrecBack_n4 i K) := by kernel_rfl
theorem GNlaw11_LogrecBack_n4_ok : CSum Try.prog 157 Llaw11_LogrecBack_n4 (sumN declaw11_LogrecBack_n4 nodeDlaw11_LogrecBack_n4 outlaw11_LogrecBack_n4) := csum_node mixed tabOk envlaw11_LogrecBackOk 0 (exk [8] [8] []) annLlaw11_LogrecBack_n4_ok declaw11_LogrecBack_n4_ok nodelaw11_LogrecBack_n4_ok nodelaw11_LogrecBack_n4_nat
noncomputable def Glaw11_LogrecBack_n4 : (Ex → St → Ans) → St → Ans := (sumN declaw11_LogrecBack_n4 nodeDlaw11_LogrecBack_n4 outlaw11_LogrecBack_n4)
theorem Glaw11_LogrecBack_n4_ok : CSum Try.prog 157 Llaw11_LogrecBack_n4 Glaw11_LogrecBack_n4 := GNlaw11_LogrecBack_n4_ok
noncomputable def Llaw11_LogrecBack_n3 : Code := codeAt [1, 1, 1, 1, 1, 1, 1, 1, 1, 1, 1, 1, 1, 0, 0] blaw11_LogrecBack
noncomputable def annLlaw11_LogrecBack_n3 : Ann := .none
theorem annLlaw11_LogrecBack_n3_ok : AnnOk Try.prog 157 Llaw11_LogrecBack_n3 annLlaw11_LogrecBack_n3 := (annOk_none _ _ _)
abbrev Ilaw11_LogrecBack_n3 := (Int) × (List (Int × List UInt8)) × (List UInt8) × (Int) × (Int) × (Int) × (Int) × (Int) × (Int) × (Int) × (List (Int × List UInt8)) × (List Int)
abbrev Ylaw11_LogrecBack_n3 := (Bool)
def Slaw11_LogrecBack_n3 : Ilaw11_LogrecBack_n3 → St := fun (t0, t1, t9, t11, t13, t14, t15, t17, t21, t22, o0, o1) => { env := [(0, AV.int IntKind.i64 t0), (1, AV.ro (Ty.st (Ty.pair (Ty.int IntKind.i64) Ty.str)) t1), (9, AV.str t9), (11, AV.int IntKind.i64 t11), (12, AV.own 0), (13, AV.int IntKind.i64 t13), (14, AV.int IntKind.i64 t14), (15, AV.int IntKind.i64 t15), (16, AV.own 1), (17, AV.int IntKind.i64 t17), (21, AV.int IntKind.i64 t21), (22, AV.int IntKind.i64 t22)], stk := [[]], H := [Obj.arr (Ty.st (Ty.pair (Ty.int IntKind.i64) Ty.str)) o0, Obj.arr (Ty.int IntKind.u8) o1], blk := 45056 }
def declaw11_LogrecBack_n3 (s : St) : Option Ilaw11_LogrecBack_n3 := match s with
  | { env := [(0, AV.int IntKind.i64 t0), (1, AV.ro (Ty.st (Ty.pair (Ty.int IntKind.i64) Ty.str)) t1), (9, AV.str t9), (11, AV.int IntKind.i64 t11), (12, AV.own 0), (13, AV.int IntKind.i64 t13), (14, AV.int IntKind.i64 t14), (15, AV.int IntKind.i64 t15), (16, AV.own 1), (17, AV.int IntKind.i64 t17), (21, AV.int IntKind.i64 t21), (22, AV.int IntKind.i64 t22)], stk := [[]], H := [Obj.arr (Ty.st (Ty.pair (Ty.int IntKind.i64) Ty.str)) o0, Obj.arr (Ty.int IntKind.u8) o1], blk := 45056 } => some (t0, t1, t9, t11, t13, t14, t15, t17, t21, t22, o0, o1)
  | _ => none
theorem declaw11_LogrecBack_n3_ok (s : St) (x : Ilaw11_LogrecBack_n3) (h : declaw11_LogrecBack_n3 s = some x) : s = Slaw11_LogrecBack_n3 x := by
  unfold declaw11_LogrecBack_n3 at h
  split at h
  · cases h; rfl
  · cases h
def outlaw11_LogrecBack_n3 : Ilaw11_LogrecBack_n3 → (Ex → St → Ans) → Ylaw11_LogrecBack_n3 → Ans := fun (t0, t1, t9, t11, t13, t14, t15, t17, t21, t22, o0, o1) K => fun t112_y => K (Ex.norm) { env := [(0, AV.int IntKind.i64 t0), (1, AV.ro (Ty.st (Ty.pair (Ty.int IntKind.i64) Ty.str)) t1), (9, AV.str t9), (11, AV.int IntKind.i64 t11), (12, AV.own 0), (13, AV.int IntKind.i64 t13), (14, AV.int IntKind.i64 t14), (15, AV.int IntKind.i64 t15), (16, AV.own 1), (21, AV.int IntKind.i64 t21), (112, AV.bool t112_y)], stk := [[]], H := [Obj.arr (Ty.st (Ty.pair (Ty.int IntKind.i64) Ty.str)) o0, Obj.arr (Ty.int IntKind.u8) o1], blk := 45056 }
def nodelaw11_LogrecBack_n3 {β : Type} : Ilaw11_LogrecBack_n3 → (Ylaw11_LogrecBack_n3 → Option β) → Option β := fun (t0, t1, t9, t11, t13, t14, t15, t17, t21, t22, o0, o1) exit => (bif decide (t17 < t22) then (exit (decide (IntKind.wrap IntKind.i64 (t17 + (4 : Int)) > t22))) else (exit (false)))
def nodeDlaw11_LogrecBack_n3 (i : Ilaw11_LogrecBack_n3) : Option Ylaw11_LogrecBack_n3 := nodelaw11_LogrecBack_n3 i some
theorem nodelaw11_LogrecBack_n3_nat (i : Ilaw11_LogrecBack_n3) (k : Ylaw11_LogrecBack_n3 → Ans) : nodelaw11_LogrecBack_n3 i k = bindO (nodeDlaw11_LogrecBack_n3 i) k := by
  obtain ⟨t0, t1, t9, t11, t13, t14, t15, t17, t21, t22, o0, o1⟩ := i
  simp only [nodeDlaw11_LogrecBack_n3, nodelaw11_LogrecBack_n3, bindO_cond, bindO_assoc, bindO_none, bindO_pure, bindO_elim, bindO_unP]
theorem nodelaw11_LogrecBack_n3_ok (i : Ilaw11_LogrecBack_n3) (K : Ex → St → Ans) : codeI Try.tab envlaw11_LogrecBack noHint (codeD Try.tab envlaw11_LogrecBack noHint 0 64) 70 157 annLlaw11_LogrecBack_n3 Llaw11_LogrecBack_n3 (weakP 0 (exk [0, 1, 9, 11, 12, 13, 14, 15, 16, 21, 112] [8] []) K) (Slaw11_LogrecBack_n3 i) = nodelaw11_LogrecBack_n3 i (outlaw11_LogrecBack_n3 i K) := by kernel_rfl
theorem GNlaw11_LogrecBack_n3_ok : CSum Try.prog 157 Llaw11_LogrecBack_n3 (sumN declaw11_LogrecBack_n3 nodeDlaw11_LogrecBack_n3 outlaw11_LogrecBack_n3) := csum_node mixed tabOk envlaw11_LogrecBackOk 0 (exk [0, 1, 9, 11, 12, 13, 14, 15, 16, 21, 112] [8] []) annLlaw11_LogrecBack_n3_ok declaw11_LogrecBack_n3_ok nodelaw11_LogrecBack_n3_ok nodelaw11_LogrecBack_n3_nat
noncomputable def Glaw11_LogrecBack_n3 : (Ex → St → Ans) → St → Ans := (sumN declaw11_LogrecBack_n3 nodeDlaw11_LogrecBack_n3 outlaw11_LogrecBack_n3)
theorem Glaw11_LogrecBack_n3_ok : CSum Try.prog 157 Llaw11_LogrecBack_n3 Glaw11_LogrecBack_n3 := GNlaw11_LogrecBack_n3_ok
noncomputable def Llaw11_LogrecBack_n2 : Code := codeAt [1, 1, 1, 1, 1, 1, 1, 1, 1, 1, 0, 1, 0, 0, 0, 0] blaw11_LogrecBack
noncomputable def annLlaw11_LogrecBack_n2 : Ann := .none
theorem annLlaw11_LogrecBack_n2_ok : AnnOk Try.prog 157 Llaw11_LogrecBack_n2 annLlaw11_LogrecBack_n2 := (annOk_none _ _ _)
abbrev Ilaw11_LogrecBack_n2 := (Int) × (List (Int × List UInt8)) × (List UInt8) × (Int) × (Int) × (Int) × (Int) × (Int) × (Int) × (Int) × (Int) × (Int) × (List (Int × List UInt8)) × (List Int)
abbrev Ylaw11_LogrecBack_n2 := (Bool)
def Slaw11_LogrecBack_n2 : Ilaw11_LogrecBack_n2 → St := fun (t0, t1, t9, t11, t13, t14, t15, t17, o0_0, o0_1, o0_2, o0_3, o1, o2) => { env := [(0, AV.int IntKind.i64 t0), (1, AV.ro (Ty.st (Ty.pair (Ty.int IntKind.i64) Ty.str)) t1), (7, AV.ptr 0 0), (9, AV.str t9), (11, AV.int IntKind.i64 t11), (12, AV.own 1), (13, AV.int IntKind.i64 t13), (14, AV.int IntKind.i64 t14), (15, AV.int IntKind.i64 t15), (16, AV.own 2), (17, AV.int IntKind.i64 t17), (18, AV.int IntKind.i64 (0))], stk := [[]], H := [AE.Obj.cells [AV.int IntKind.u8 o0_0, AV.int IntKind.u8 o0_1, AV.int IntKind.u8 o0_2, AV.int IntKind.u8 o0_3], Obj.arr (Ty.st (Ty.pair (Ty.int IntKind.i64) Ty.str)) o1, Obj.arr (Ty.int IntKind.u8) o2], blk := 45056 }
def declaw11_LogrecBack_n2 (s : St) : Option Ilaw11_LogrecBack_n2 := match s with
  | { env := [(0, AV.int IntKind.i64 t0), (1, AV.ro (Ty.st (Ty.pair (Ty.int IntKind.i64) Ty.str)) t1), (7, AV.ptr 0 0), (9, AV.str t9), (11, AV.int IntKind.i64 t11), (12, AV.own 1), (13, AV.int IntKind.i64 t13), (14, AV.int IntKind.i64 t14), (15, AV.int IntKind.i64 t15), (16, AV.own 2), (17, AV.int IntKind.i64 t17), (18, AV.int IntKind.i64 r8)], stk := [[]], H := [AE.Obj.cells [AV.int IntKind.u8 o0_0, AV.int IntKind.u8 o0_1, AV.int IntKind.u8 o0_2, AV.int IntKind.u8 o0_3], Obj.arr (Ty.st (Ty.pair (Ty.int IntKind.i64) Ty.str)) o1, Obj.arr (Ty.int IntKind.u8) o2], blk := 45056 } => cond (decide (r8 = 0)) (some (t0, t1, t9, t11, t13, t14, t15, t17, o0_0, o0_1, o0_2, o0_3, o1, o2)) none
  | _ => none
theorem declaw11_LogrecBack_n2_ok (s : St) (x : Ilaw11_LogrecBack_n2) (h : declaw11_LogrecBack_n2 s = some x) : s = Slaw11_LogrecBack_n2 x := by
  unfold declaw11_LogrecBack_n2 at h
  split at h
  · replace h := cond_noneO h; obtain ⟨hg, h⟩ := h; simp only [Bool.and_eq_true, decide_eq_true_eq] at hg; simp only [hg]; cases h; rfl
  · cases h
def outlaw11_LogrecBack_n2 : Ilaw11_LogrecBack_n2 → (Ex → St → Ans) → Ylaw11_LogrecBack_n2 → Ans := fun (t0, t1, t9, t11, t13, t14, t15, t17, o0_0, o0_1, o0_2, o0_3, o1, o2) K => fun t75_y => K (Ex.norm) { env := [(0, AV.int IntKind.i64 t0), (1, AV.ro (Ty.st (Ty.pair (Ty.int IntKind.i64) Ty.str)) t1), (7, AV.ptr 0 0), (9, AV.str t9), (11, AV.int IntKind.i64 t11), (12, AV.own 1), (13, AV.int IntKind.i64 t13), (14, AV.int IntKind.i64 t14), (15, AV.int IntKind.i64 t15), (16, AV.own 2), (17, AV.int IntKind.i64 t17), (18, AV.int IntKind.i64 (0)), (75, AV.bool t75_y)], stk := [[]], H := [AE.Obj.cells [AV.int IntKind.u8 o0_0, AV.int IntKind.u8 o0_1, AV.int IntKind.u8 o0_2, AV.int IntKind.u8 o0_3], Obj.arr (Ty.st (Ty.pair (Ty.int IntKind.i64) Ty.str)) o1, Obj.arr (Ty.int IntKind.u8) o2], blk := 45056 }
def nodelaw11_LogrecBack_n2 {β : Type} : Ilaw11_LogrecBack_n2 → (Ylaw11_LogrecBack_n2 → Option β) → Option β := fun (t0, t1, t9, t11, t13, t14, t15, t17, o0_0, o0_1, o0_2, o0_3, o1, o2) exit => (exit (decide (IntKind.wrap IntKind.i64 (t17 + (0 : Int)) < (↑(List.length o2) : Int))))
def nodeDlaw11_LogrecBack_n2 (i : Ilaw11_LogrecBack_n2) : Option Ylaw11_LogrecBack_n2 := nodelaw11_LogrecBack_n2 i some
theorem nodelaw11_LogrecBack_n2_nat (i : Ilaw11_LogrecBack_n2) (k : Ylaw11_LogrecBack_n2 → Ans) : nodelaw11_LogrecBack_n2 i k = bindO (nodeDlaw11_LogrecBack_n2 i) k := by
  obtain ⟨t0, t1, t9, t11, t13, t14, t15, t17, o0_0, o0_1, o0_2, o0_3, o1, o2⟩ := i
  simp only [nodeDlaw11_LogrecBack_n2, nodelaw11_LogrecBack_n2, bindO_cond, bindO_assoc, bindO_none, bindO_pure, bindO_elim, bindO_unP]
theorem nodelaw11_LogrecBack_n2_ok (i : Ilaw11_LogrecBack_n2) (K : Ex → St → Ans) : codeI Try.tab envlaw11_LogrecBack noHint (codeD Try.tab envlaw11_LogrecBack noHint 0 64) 70 157 annLlaw11_LogrecBack_n2 Llaw11_LogrecBack_n2 (weakP 0 (exk [0, 1, 7, 9, 11, 12, 13, 14, 15, 16, 17, 18, 75] [8] []) K) (Slaw11_LogrecBack_n2 i) = nodelaw11_LogrecBack_n2 i (outlaw11_LogrecBack_n2 i K) := by kernel_rfl
theorem GNlaw11_LogrecBack_n2_ok : CSum Try.prog 157 Llaw11_LogrecBack_n2 (sumN declaw11_LogrecBack_n2 nodeDlaw11_LogrecBack_n2 outlaw11_LogrecBack_n2) := csum_node mixed tabOk envlaw11_LogrecBackOk 0 (exk [0, 1, 7, 9, 11, 12, 13, 14, 15, 16, 17, 18, 75] [8] []) annLlaw11_LogrecBack_n2_ok declaw11_LogrecBack_n2_ok nodelaw11_LogrecBack_n2_ok nodelaw11_LogrecBack_n2_nat
abbrev Ilaw11_LogrecBack_n2v1 := (Int) × (List (Int × List UInt8)) × (List UInt8) × (Int) × (Int) × (Int) × (Int) × (Int) × (Int) × (Int) × (Int) × (Int) × (List (Int × List UInt8)) × (List Int)
abbrev Ylaw11_LogrecBack_n2v1 := (Bool)
def Slaw11_LogrecBack_n2v1 : Ilaw11_LogrecBack_n2v1 → St := fun (t0, t1, t9, t11, t13, t14, t15, t17, o0_0, o0_1, o0_2, o0_3, o1, o2) => { env := [(0, AV.int IntKind.i64 t0), (1, AV.ro (Ty.st (Ty.pair (Ty.int IntKind.i64) Ty.str)) t1), (7, AV.ptr 0 0), (9, AV.str t9), (11, AV.int IntKind.i64 t11), (12, AV.own 1), (13, AV.int IntKind.i64 t13), (14, AV.int IntKind.i64 t14), (15, AV.int IntKind.i64 t15), (16, AV.own 2), (17, AV.int IntKind.i64 t17), (18, AV.int IntKind.i64 (1))], stk := [[]], H := [AE.Obj.cells [AV.int IntKind.u8 o0_0, AV.int IntKind.u8 o0_1, AV.int IntKind.u8 o0_2, AV.int IntKind.u8 o0_3], Obj.arr (Ty.st (Ty.pair (Ty.int IntKind.i64) Ty.str)) o1, Obj.arr (Ty.int IntKind.u8) o2], blk := 45056 }
def declaw11_LogrecBack_n2v1 (s : St) : Option Ilaw11_LogrecBack_n2v1 := match s with
  | { env := [(0, AV.int IntKind.i64 t0), (1, AV.ro (Ty.st (Ty.pair (Ty.int IntKind.i64) Ty.str)) t1), (7, AV.ptr 0 0), (9, AV.str t9), (11, AV.int IntKind.i64 t11), (12, AV.own 1), (13, AV.int IntKind.i64 t13), (14, AV.int IntKind.i64 t14), (15, AV.int IntKind.i64 t15), (16, AV.own 2), (17, AV.int IntKind.i64 t17), (18, AV.int IntKind.i64 r8)], stk := [[]], H := [AE.Obj.cells [AV.int IntKind.u8 o0_0, AV.int IntKind.u8 o0_1, AV.int IntKind.u8 o0_2, AV.int IntKind.u8 o0_3], Obj.arr (Ty.st (Ty.pair (Ty.int IntKind.i64) Ty.str)) o1, Obj.arr (Ty.int IntKind.u8) o2], blk := 45056 } => cond (decide (r8 = 1)) (some (t0, t1, t9, t11, t13, t14, t15, t17, o0_0, o0_1, o0_2, o0_3, o1, o2)) none
  | _ => none
theorem declaw11_LogrecBack_n2v1_ok (s : St) (x : Ilaw11_LogrecBack_n2v1) (h : declaw11_LogrecBack_n2v1 s = some x) : s = Slaw11_LogrecBack_n2v1 x := by
  unfold declaw11_LogrecBack_n2v1 at h
  split at h
  · replace h := cond_noneO h; obtain ⟨hg, h⟩ := h; simp only [Bool.and_eq_true, decide_eq_true_eq] at hg; simp only [hg]; cases h; rfl
  · cases h
def outlaw11_LogrecBack_n2v1 : Ilaw11_LogrecBack_n2v1 → (Ex → St → Ans) → Ylaw11_LogrecBack_n2v1 → Ans := fun (t0, t1, t9, t11, t13, t14, t15, t17, o0_0, o0_1, o0_2, o0_3, o1, o2) K => fun t75_y => K (Ex.norm) { env := [(0, AV.int IntKind.i64 t0), (1, AV.ro (Ty.st (Ty.pair (Ty.int IntKind.i64) Ty.str)) t1), (7, AV.ptr 0 0), (9, AV.str t9), (11, AV.int IntKind.i64 t11), (12, AV.own 1), (13, AV.int IntKind.i64 t13), (14, AV.int IntKind.i64 t14), (15, AV.int IntKind.i64 t15), (16, AV.own 2), (17, AV.int IntKind.i64 t17), (18, AV.int IntKind.i64 (1)), (75, AV.bool t75_y)], stk := [[]], H := [AE.Obj.cells [AV.int IntKind.u8 o0_0, AV.int IntKind.u8 o0_1, AV.int IntKind.u8 o0_2, AV.int IntKind.u8 o0_3], Obj.arr (Ty.st (Ty.pair (Ty.int IntKind.i64) Ty.str)) o1, Obj.arr (Ty.int IntKind.u8) o2], blk := 45056 }
def nodelaw11_LogrecBack_n2v1 {β : Type} : Ilaw11_LogrecBack_n2v1 → (Ylaw11_LogrecBack_n2v1 → Option β) → Option β := fun (t0, t1, t9, t11, t13, t14, t15, t17, o0_0, o0_1, o0_2, o0_3, o1, o2) exit => (exit (decide (IntKind.wrap IntKind.i64 (t17 + (1 : Int)) < (↑(List.length o2) : Int))))
def nodeDlaw11_LogrecBack_n2v1 (i : Ilaw11_LogrecBack_n2v1) : Option Ylaw11_LogrecBack_n2v1 := nodelaw11_LogrecBack_n2v1 i some
theorem nodelaw11_LogrecBack_n2v1_nat (i : Ilaw11_LogrecBack_n2v1) (k : Ylaw11_LogrecBack_n2v1 → Ans) : nodelaw11_LogrecBack_n2v1 i k = bindO (nodeDlaw11_LogrecBack_n2v1 i) k := by
  obtain ⟨t0, t1, t9, t11, t13, t14, t15, t17, o0_0, o0_1, o0_2, o0_3, o1, o2⟩ := i
  simp only [nodeDlaw11_LogrecBack_n2v1, nodelaw11_LogrecBack_n2v1, bindO_cond, bindO_assoc, bindO_none, bindO_pure, bindO_elim, bindO_unP]
theorem nodelaw11_LogrecBack_n2v1_ok (i : Ilaw11_LogrecBack_n2v1) (K : Ex → St → Ans) : codeI Try.tab envlaw11_LogrecBack noHint (codeD Try.tab envlaw11_LogrecBack noHint 0 64) 70 157 annLlaw11_LogrecBack_n2 Llaw11_LogrecBack_n2 (weakP 0 (exk [0, 1, 7, 9, 11, 12, 13, 14, 15, 16, 17, 18, 75] [8] []) K) (Slaw11_LogrecBack_n2v1 i) = nodelaw11_LogrecBack_n2v1 i (outlaw11_LogrecBack_n2v1 i K) := by kernel_rfl
theorem GNlaw11_LogrecBack_n2v1_ok : CSum Try.prog 157 Llaw11_LogrecBack_n2 (sumN declaw11_LogrecBack_n2v1 nodeDlaw11_LogrecBack_n2v1 outlaw11_LogrecBack_n2v1) := csum_node mixed tabOk envlaw11_LogrecBackOk 0 (exk [0, 1, 7, 9, 11, 12, 13, 14, 15, 16, 17, 18, 75] [8] []) annLlaw11_LogrecBack_n2_ok declaw11_LogrecBack_n2v1_ok nodelaw11_LogrecBack_n2v1_ok nodelaw11_LogrecBack_n2v1_nat
abbrev Ilaw11_LogrecBack_n2v2 := (Int) × (List (Int × List UInt8)) × (List UInt8) × (Int) × (Int) × (Int) × (Int) × (Int) × (Int) × (Int) × (Int) × (Int) × (List (Int × List UInt8)) × (List Int)
abbrev Ylaw11_LogrecBack_n2v2 := (Bool)
def Slaw11_LogrecBack_n2v2 : Ilaw11_LogrecBack_n2v2 → St := fun (t0, t1, t9, t11, t13, t14, t15, t17, o0_0, o0_1, o0_2, o0_3, o1, o2) => { env := [(0, AV.int IntKind.i64 t0), (1, AV.ro (Ty.st (Ty.pair (Ty.int IntKind.i64) Ty.str)) t1), (7, AV.ptr 0 0), (9, AV.str t9), (11, AV.int IntKind.i64 t11), (12, AV.own 1), (13, AV.int IntKind.i64 t13), (14, AV.int IntKind.i64 t14), (15, AV.int IntKind.i64 t15), (16, AV.own 2), (17, AV.int IntKind.i64 t17), (18, AV.int IntKind.i64 (2))], stk := [[]], H := [AE.Obj.cells [AV.int IntKind.u8 o0_0, AV.int IntKind.u8 o0_1, AV.int IntKind.u8 o0_2, AV.int IntKind.u8 o0_3], Obj.arr (Ty.st (Ty.pair (Ty.int IntKind.i64) Ty.str)) o1, Obj.arr (Ty.int IntKind.u8) o2], blk := 45056 }
def declaw11_LogrecBack_n2v2 (s : St) : Option Ilaw11_LogrecBack_n2v2 := match s with
  | { env := [(0, AV.int IntKind.i64 t0), (1, AV.ro (Ty.st (Ty.pair (Ty.int IntKind.i64) Ty.str)) t1), (7, AV.ptr 0 0), (9, AV.str t9), (11, AV.int IntKind.i64 t11), (12, AV.own 1), (13, AV.int IntKind.i64 t13), (14, AV.int IntKind.i64 t14), (15, AV.int IntKind.i64 t15), (16, AV.own 2), (17, AV.int IntKind.i64 t17), (18, AV.int IntKind.i64 r8)], stk := [[]], H := [AE.Obj.cells [AV.int IntKind.u8 o0_0, AV.int IntKind.u8 o0_1, AV.int IntKind.u8 o0_2, AV.int IntKind.u8 o0_3], Obj.arr (Ty.st (Ty.pair (Ty.int IntKind.i64) Ty.str)) o1, Obj.arr (Ty.int IntKind.u8) o2], blk := 45056 } => cond (decide (r8 = 2)) (some (t0, t1, t9, t11, t13, t14, t15, t17, o0_0, o0_1, o0_2, o0_3, o1, o2)) none
  | _ => none
theorem declaw11_LogrecBack_n2v2_ok (s : St) (x : Ilaw11_LogrecBack_n2v2) (h : declaw11_LogrecBack_n2v2 s = some x) : s = Slaw11_LogrecBack_n2v2 x := by
  unfold declaw11_LogrecBack_n2v2 at h
  split at h
  · replace h := cond_noneO h; obtain ⟨hg, h⟩ := h; simp only [Bool.and_eq_true, decide_eq_true_eq] at hg; simp only [hg]; cases h; rfl
  · cases h
def outlaw11_LogrecBack_n2v2 : Ilaw11_LogrecBack_n2v2 → (Ex → St → Ans) → Ylaw11_LogrecBack_n2v2 → Ans := fun (t0, t1, t9, t11, t13, t14, t15, t17, o0_0, o0_1, o0_2, o0_3, o1, o2) K => fun t75_y => K (Ex.norm) { env := [(0, AV.int IntKind.i64 t0), (1, AV.ro (Ty.st (Ty.pair (Ty.int IntKind.i64) Ty.str)) t1), (7, AV.ptr 0 0), (9, AV.str t9), (11, AV.int IntKind.i64 t11), (12, AV.own 1), (13, AV.int IntKind.i64 t13), (14, AV.int IntKind.i64 t14), (15, AV.int IntKind.i64 t15), (16, AV.own 2), (17, AV.int IntKind.i64 t17), (18, AV.int IntKind.i64 (2)), (75, AV.bool t75_y)], stk := [[]], H := [AE.Obj.cells [AV.int IntKind.u8 o0_0, AV.int IntKind.u8 o0_1, AV.int IntKind.u8 o0_2, AV.int IntKind.u8 o0_3], Obj.arr (Ty.st (Ty.pair (Ty.int IntKind.i64) Ty.str)) o1, Obj.arr (Ty.int IntKind.u8) o2], blk := 45056 }
def nodelaw11_LogrecBack_n2v2 {β : Type} : Ilaw11_LogrecBack_n2v2 → (Ylaw11_LogrecBack_n2v2 → Option β) → Option β := fun (t0, t1, t9, t11, t13, t14, t15, t17, o0_0, o0_1, o0_2, o0_3, o1, o2) exit => (exit (decide (IntKind.wrap IntKind.i64 (t17 + (2 : Int)) < (↑(List.length o2) : Int))))
def nodeDlaw11_LogrecBack_n2v2 (i : Ilaw11_LogrecBack_n2v2) : Option Ylaw11_LogrecBack_n2v2 := nodelaw11_LogrecBack_n2v2 i some
theorem nodelaw11_LogrecBack_n2v2_nat (i : Ilaw11_LogrecBack_n2v2) (k : Ylaw11_LogrecBack_n2v2 → Ans) : nodelaw11_LogrecBack_n2v2 i k = bindO (nodeDlaw11_LogrecBack_n2v2 i) k := by
  obtain ⟨t0, t1, t9, t11, t13, t14, t15, t17, o0_0, o0_1, o0_2, o0_3, o1, o2⟩ := i
  simp only [nodeDlaw11_LogrecBack_n2v2, nodelaw11_LogrecBack_n2v2, bindO_cond, bindO_assoc, bindO_none, bindO_pure, bindO_elim, bindO_unP]
theorem nodelaw11_LogrecBack_n2v2_ok (i : Ilaw11_LogrecBack_n2v2) (K : Ex → St → Ans) : codeI Try.tab envlaw11_LogrecBack noHint (codeD Try.tab envlaw11_LogrecBack noHint 0 64) 70 157 annLlaw11_LogrecBack_n2 Llaw11_LogrecBack_n2 (weakP 0 (exk [0, 1, 7, 9, 11, 12, 13, 14, 15, 16, 17, 18, 75] [8] []) K) (Slaw11_LogrecBack_n2v2 i) = nodelaw11_LogrecBack_n2v2 i (outlaw11_LogrecBack_n2v2 i K) := by kernel_rfl
theorem GNlaw11_LogrecBack_n2v2_ok : CSum Try.prog 157 Llaw11_LogrecBack_n2 (sumN declaw11_LogrecBack_n2v2 nodeDlaw11_LogrecBack_n2v2 outlaw11_LogrecBack_n2v2) := csum_node mixed tabOk envlaw11_LogrecBackOk 0 (exk [0, 1, 7, 9, 11, 12, 13, 14, 15, 16, 17, 18, 75] [8] []) annLlaw11_LogrecBack_n2_ok declaw11_LogrecBack_n2v2_ok nodelaw11_LogrecBack_n2v2_ok nodelaw11_LogrecBack_n2v2_nat
abbrev Ilaw11_LogrecBack_n2v3 := (Int) × (List (Int × List UInt8)) × (List UInt8) × (Int) × (Int) × (Int) × (Int) × (Int) × (Int) × (Int) × (Int) × (Int) × (List (Int × List UInt8)) × (List Int)
abbrev Ylaw11_LogrecBack_n2v3 := (Bool)
def Slaw11_LogrecBack_n2v3 : Ilaw11_LogrecBack_n2v3 → St := fun (t0, t1, t9, t11, t13, t14, t15, t17, o0_0, o0_1, o0_2, o0_3, o1, o2) => { env := [(0, AV.int IntKind.i64 t0), (1, AV.ro (Ty.st (Ty.pair (Ty.int IntKind.i64) Ty.str)) t1), (7, AV.ptr 0 0), (9, AV.str t9), (11, AV.int IntKind.i64 t11), (12, AV.own 1), (13, AV.int IntKind.i64 t13), (14, AV.int IntKind.i64 t14), (15, AV.int IntKind.i64 t15), (16, AV.own 2), (17, AV.int IntKind.i64 t17), (18, AV.int IntKind.i64 (3))], stk := [[]], H := [AE.Obj.cells [AV.int IntKind.u8 o0_0, AV.int IntKind.u8 o0_1, AV.int IntKind.u8 o0_2, AV.int IntKind.u8 o0_3], Obj.arr (Ty.st (Ty.pair (Ty.int IntKind.i64) Ty.str)) o1, Obj.arr (Ty.int IntKind.u8) o2], blk := 45056 }
def declaw11_LogrecBack_n2v3 (s : St) : Option Ilaw11_LogrecBack_n2v3 := match s with
  | { env := [(0, AV.int IntKind.i64 t0), (1, AV.ro (Ty.st (Ty.pair (Ty.int IntKind.i64) Ty.str)) t1), (7, AV.ptr 0 0), (9, AV.str t9), (11, AV.int IntKind.i64 t11), (12, AV.own 1), (13, AV.int IntKind.i64 t13), (14, AV.int IntKind.i64 t14), (15, AV.int IntKind.i64 t15), (16, AV.own 2), (17, AV.int IntKind.i64 t17), (18, AV.int IntKind.i64 r8)], stk := [[]], H := [AE.Obj.cells [AV.int IntKind.u8 o0_0, AV.int IntKind.u8 o0_1, AV.int IntKind.u8 o0_2, AV.int IntKind.u8 o0_3], Obj.arr (Ty.st (Ty.pair (Ty.int IntKind.i64) Ty.str)) o1, Obj.arr (Ty.int IntKind.u8) o2], blk := 45056 } => cond (decide (r8 = 3)) (some (t0, t1, t9, t11, t13, t14, t15, t17, o0_0, o0_1, o0_2, o0_3, o1, o2)) none
  | _ => none
theorem declaw11_LogrecBack_n2v3_ok (s : St) (x : Ilaw11_LogrecBack_n2v3) (h : declaw11_LogrecBack_n2v3 s = some x) : s = Slaw11_LogrecBack_n2v3 x := by
  unfold declaw11_LogrecBack_n2v3 at h
  split at h
  · replace h := cond_noneO h; obtain ⟨hg, h⟩ := h; simp only [Bool.and_eq_true, decide_eq_true_eq] at hg; simp only [hg]; cases h; rfl
  · cases h
def outlaw11_LogrecBack_n2v3 : Ilaw11_LogrecBack_n2v3 → (Ex → St → Ans) → Ylaw11_LogrecBack_n2v3 → Ans := fun (t0, t1, t9, t11, t13, t14, t15, t17, o0_0, o0_1, o0_2, o0_3, o1, o2) K => fun t75_y => K (Ex.norm) { env := [(0, AV.int IntKind.i64 t0), (1, AV.ro (Ty.st (Ty.pair (Ty.int IntKind.i64) Ty.str)) t1), (7, AV.ptr 0 0), (9, AV.str t9), (11, AV.int IntKind.i64 t11), (12, AV.own 1), (13, AV.int IntKind.i64 t13), (14, AV.int IntKind.i64 t14), (15, AV.int IntKind.i64 t15), (16, AV.own 2), (17, AV.int IntKind.i64 t17), (18, AV.int IntKind.i64 (3)), (75, AV.bool t75_y)], stk := [[]], H := [AE.Obj.cells [AV.int IntKind.u8 o0_0, AV.int IntKind.u8 o0_1, AV.int IntKind.u8 o0_2, AV.int IntKind.u8 o0_3], Obj.arr (Ty.st (Ty.pair (Ty.int IntKind.i64) Ty.str)) o1, Obj.arr (Ty.int IntKind.u8) o2], blk := 45056 }
def nodelaw11_LogrecBack_n2v3 {β : Type} : Ilaw11_LogrecBack_n2v3 → (Ylaw11_LogrecBack_n2v3 → Option β) → Option β := fun (t0, t1, t9, t11, t13, t14, t15, t17, o0_0, o0_1, o0_2, o0_3, o1, o2) exit => (exit (decide (IntKind.wrap IntKind.i64 (t17 + (3 : Int)) < (↑(List.length o2) : Int))))
def nodeDlaw11_LogrecBack_n2v3 (i : Ilaw11_LogrecBack_n2v3) : Option Ylaw11_LogrecBack_n2v3 := nodelaw11_LogrecBack_n2v3 i some
theorem nodelaw11_LogrecBack_n2v3_nat (i : Ilaw11_LogrecBack_n2v3) (k : Ylaw11_LogrecBack_n2v3 → Ans) : nodelaw11_LogrecBack_n2v3 i k = bindO (nodeDlaw11_LogrecBack_n2v3 i) k := by
  obtain ⟨t0, t1, t9, t11, t13, t14, t15, t17, o0_0, o0_1, o0_2, o0_3, o1, o2⟩ := i
  simp only [nodeDlaw11_LogrecBack_n2v3, nodelaw11_LogrecBack_n2v3, bindO_cond, bindO_assoc, bindO_none, bindO_pure, bindO_elim, bindO_unP]
theorem nodelaw11_LogrecBack_n2v3_ok (i : Ilaw11_LogrecBack_n2v3) (K : Ex → St → Ans) : codeI Try.tab envlaw11_LogrecBack noHint (codeD Try.tab envlaw11_LogrecBack noHint 0 64) 70 157 annLlaw11_LogrecBack_n2 Llaw11_LogrecBack_n2 (weakP 0 (exk [0, 1, 7, 9, 11, 12, 13, 14, 15, 16, 17, 18, 75] [8] []) K) (Slaw11_LogrecBack_n2v3 i) = nodelaw11_LogrecBack_n2v3 i (outlaw11_LogrecBack_n2v3 i K) := by kernel_rfl
theorem GNlaw11_LogrecBack_n2v3_ok : CSum Try.prog 157 Llaw11_LogrecBack_n2 (sumN declaw11_LogrecBack_n2v3 nodeDlaw11_LogrecBack_n2v3 outlaw11_LogrecBack_n2v3) := csum_node mixed tabOk envlaw11_LogrecBackOk 0 (exk [0, 1, 7, 9, 11, 12, 13, 14, 15, 16, 17, 18, 75] [8] []) annLlaw11_LogrecBack_n2_ok declaw11_LogrecBack_n2v3_ok nodelaw11_LogrecBack_n2v3_ok nodelaw11_LogrecBack_n2v3_nat
abbrev Ilaw11_LogrecBack_n2v4 := (Int) × (List (Int × List UInt8)) × (List UInt8) × (Int) × (Int) × (Int) × (Int) × (Int) × (Int) × (Int) × (Int) × (Int) × (List (Int × List UInt8)) × (List Int)
abbrev Ylaw11_LogrecBack_n2v4 := Unit
def Slaw11_LogrecBack_n2v4 : Ilaw11_LogrecBack_n2v4 → St := fun (t0, t1, t9, t11, t13, t14, t15, t17, o0_0, o0_1, o0_2, o0_3, o1, o2) => { env := [(0, AV.int IntKind.i64 t0), (1, AV.ro (Ty.st (Ty.pair (Ty.int IntKind.i64) Ty.str)) t1), (7, AV.ptr 0 0), (9, AV.str t9), (11, AV.int IntKind.i64 t11), (12, AV.own 1), (13, AV.int IntKind.i64 t13), (14, AV.int IntKind.i64 t14), (15, AV.int IntKind.i64 t15), (16, AV.own 2), (17, AV.int IntKind.i64 t17), (18, AV.int IntKind.i64 (4))], stk := [[]], H := [AE.Obj.cells [AV.int IntKind.u8 o0_0, AV.int IntKind.u8 o0_1, AV.int IntKind.u8 o0_2, AV.int IntKind.u8 o0_3], Obj.arr (Ty.st (Ty.pair (Ty.int IntKind.i64) Ty.str)) o1, Obj.arr (Ty.int IntKind.u8) o2], blk := 45056 }
def declaw11_LogrecBack_n2v4 (s : St) : Option Ilaw11_LogrecBack_n2v4 := match s with
  | { env := [(0, AV.int IntKind.i64 t0), (1, AV.ro (Ty.st (Ty.pair (Ty.int IntKind.i64) Ty.str)) t1), (7, AV.ptr 0 0), (9, AV.str t9), (11, AV.int IntKind.i64 t11), (12, AV.own 1), (13, AV.int IntKind.i64 t13), (14, AV.int IntKind.i64 t14), (15, AV.int IntKind.i64 t15), (16, AV.own 2), (17, AV.int IntKind.i64 t17), (18, AV.int IntKind.i64 r8)], stk := [[]], H := [AE.Obj.cells [AV.int IntKind.u8 o0_0, AV.int IntKind.u8 o0_1, AV.int IntKind.u8 o0_2, AV.int IntKind.u8 o0_3], Obj.arr (Ty.st (Ty.pair (Ty.int IntKind.i64) Ty.str)) o1, Obj.arr (Ty.int IntKind.u8) o2], blk := 45056 } => cond (decide (r8 = 4)) (some (t0, t1, t9, t11, t13, t14, t15, t17, o0_0, o0_1, o0_2, o0_3, o1, o2)) none
  | _ => none
theorem declaw11_LogrecBack_n2v4_ok (s : St) (x : Ilaw11_LogrecBack_n2v4) (h : declaw11_LogrecBack_n2v4 s = some x) : s = Slaw11_LogrecBack_n2v4 x := by
  unfold declaw11_LogrecBack_n2v4 at h
  split at h
  · replace h := cond_noneO h; obtain ⟨hg, h⟩ := h; simp only [Bool.and_eq_true, decide_eq_true_eq] at hg; simp only [hg]; cases h; rfl
  · cases h
def outlaw11_LogrecBack_n2v4 : Ilaw11_LogrecBack_n2v4 → (Ex → St → Ans) → Ylaw11_LogrecBack_n2v4 → Ans := fun (t0, t1, t9, t11, t13, t14, t15, t17, o0_0, o0_1, o0_2, o0_3, o1, o2) K => fun _ => K (Ex.norm) { env := [(0, AV.int IntKind.i64 t0), (1, AV.ro (Ty.st (Ty.pair (Ty.int IntKind.i64) Ty.str)) t1), (7, AV.ptr 0 0), (9, AV.str t9), (11, AV.int IntKind.i64 t11), (12, AV.own 1), (13, AV.int IntKind.i64 t13), (14, AV.int IntKind.i64 t14), (15, AV.int IntKind.i64 t15), (16, AV.own 2), (17, AV.int IntKind.i64 t17), (18, AV.int IntKind.i64 (4)), (75, AV.bool (false))], stk := [[]], H := [AE.Obj.cells [AV.int IntKind.u8 o0_0, AV.int IntKind.u8 o0_1, AV.int IntKind.u8 o0_2, AV.int IntKind.u8 o0_3], Obj.arr (Ty.st (Ty.pair (Ty.int IntKind.i64) Ty.str)) o1, Obj.arr (Ty.int IntKind.u8) o2], blk := 45056 }
def nodelaw11_LogrecBack_n2v4 {β : Type} : Ilaw11_LogrecBack_n2v4 → (Ylaw11_LogrecBack_n2v4 → Option β) → Option β := fun (t0, t1, t9, t11, t13, t14, t15, t17, o0_0, o0_1, o0_2, o0_3, o1, o2) exit => (exit ())
def nodeDlaw11_LogrecBack_n2v4 (i : Ilaw11_LogrecBack_n2v4) : Option Ylaw11_LogrecBack_n2v4 := nodelaw11_LogrecBack_n2v4 i some
theorem nodelaw11_LogrecBack_n2v4_nat (i : Ilaw11_LogrecBack_n2v4) (k : Ylaw11_LogrecBack_n2v4 → Ans) : nodelaw11_LogrecBack_n2v4 i k = bindO (nodeDlaw11_LogrecBack_n2v4 i) k := by
  obtain ⟨t0, t1, t9, t11, t13, t14, t15, t17, o0_0, o0_1, o0_2, o0_3, o1, o2⟩ := i
  simp only [nodeDlaw11_LogrecBack_n2v4, nodelaw11_LogrecBack_n2v4, bindO_cond, bindO_assoc, bindO_none, bindO_pure, bindO_elim, bindO_unP]
theorem nodelaw11_LogrecBack_n2v4_ok (i : Ilaw11_LogrecBack_n2v4) (K : Ex → St → Ans) : codeI Try.tab envlaw11_LogrecBack noHint (codeD Try.tab envlaw11_LogrecBack noHint 0 64) 70 157 annLlaw11_LogrecBack_n2 Llaw11_LogrecBack_n2 (weakP 0 (exk [0, 1, 7, 9, 11, 12, 13, 14, 15, 16, 17, 18, 75] [8] []) K) (Slaw11_LogrecBack_n2v4 i) = nodelaw11_LogrecBack_n2v4 i (outlaw11_LogrecBack_n2v4 i K) := by kernel_rfl
theorem GNlaw11_LogrecBack_n2v4_ok : CSum Try.prog 157 Llaw11_LogrecBack_n2 (sumN declaw11_LogrecBack_n2v4 nodeDlaw11_LogrecBack_n2v4 outlaw11_LogrecBack_n2v4) := csum_node mixed tabOk envlaw11_LogrecBackOk 0 (exk [0, 1, 7, 9, 11, 12, 13, 14, 15, 16, 17, 18, 75] [8] []) annLlaw11_LogrecBack_n2_ok declaw11_LogrecBack_n2v4_ok nodelaw11_LogrecBack_n2v4_ok nodelaw11_LogrecBack_n2v4_nat
noncomputable def Glaw11_LogrecBack_n2 : (Ex → St → Ans) → St → Ans := (altN declaw11_LogrecBack_n2 (sumN declaw11_LogrecBack_n2 nodeDlaw11_LogrecBack_n2 outlaw11_LogrecBack_n2) (altN declaw11_LogrecBack_n2v1 (sumN declaw11_LogrecBack_n2v1 nodeDlaw11_LogrecBack_n2v1 outlaw11_LogrecBack_n2v1) (altN declaw11_LogrecBack_n2v2 (sumN declaw11_LogrecBack_n2v2 nodeDlaw11_LogrecBack_n2v2 outlaw11_LogrecBack_n2v2) (altN declaw11_LogrecBack_n2v3 (sumN declaw11_LogrecBack_n2v3 nodeDlaw11_LogrecBack_n2v3 outlaw11_LogrecBack_n2v3) (sumN declaw11_LogrecBack_n2v4 nodeDlaw11_LogrecBack_n2v4 outlaw11_LogrecBack_n2v4)))))
theorem Glaw11_LogrecBack_n2_ok : CSum Try.prog 157 Llaw11_LogrecBack_n2 Glaw11_LogrecBack_n2 := (csum_altN GNlaw11_LogrecBack_n2_ok (csum_altN GNlaw11_LogrecBack_n2v1_ok (csum_altN GNlaw11_LogrecBack_n2v2_ok (csum_altN GNlaw11_LogrecBack_n2v3_ok GNlaw11_LogrecBack_n2v4_ok))))
noncomputable def Llaw11_LogrecBack_n1 : Code := codeAt [1, 1, 1, 1, 1, 1, 1, 1, 1, 1, 0, 1, 0, 0] blaw11_LogrecBack
noncomputable def annLlaw11_LogrecBack_n1 : Ann := (.seq (.seq (.cut 0 [0, 1, 7, 9, 11, 12, 13, 14, 15, 16, 17, 18] Glaw11_LogrecBack_n2) .none) .none)
theorem annLlaw11_LogrecBack_n1_ok : AnnOk Try.prog 157 Llaw11_LogrecBack_n1 annLlaw11_LogrecBack_n1 := ⟨⟨Glaw11_LogrecBack_n2_ok, (annOk_none _ _ _)⟩, (annOk_none _ _ _)⟩
abbrev Ilaw11_LogrecBack_n1 := (Int) × (List (Int × List UInt8)) × (List UInt8) × (Int) × (Int) × (Int) × (Int) × (Int) × (Int) × (Int) × (Int) × (Int) × (List (Int × List UInt8)) × (List Int)
abbrev Ylaw11_LogrecBack_n1 := ((List Int)) ⊕ (Unit)
def Slaw11_LogrecBack_n1 : Ilaw11_LogrecBack_n1 → St := fun (t0, t1, t9, t11, t13, t14, t15, t17, o0_0, o0_1, o0_2, o0_3, o1, o2) => { env := [(0, AV.int IntKind.i64 t0), (1, AV.ro (Ty.st (Ty.pair (Ty.int IntKind.i64) Ty.str)) t1), (7, AV.ptr 0 0), (9, AV.str t9), (11, AV.int IntKind.i64 t11), (12, AV.own 1), (13, AV.int IntKind.i64 t13), (14, AV.int IntKind.i64 t14), (15, AV.int IntKind.i64 t15), (16, AV.own 2), (17, AV.int IntKind.i64 t17), (18, AV.int IntKind.i64 (0))], stk := [[]], H := [AE.Obj.cells [AV.int IntKind.u8 o0_0, AV.int IntKind.u8 o0_1, AV.int IntKind.u8 o0_2, AV.int IntKind.u8 o0_3], Obj.arr (Ty.st (Ty.pair (Ty.int IntKind.i64) Ty.str)) o1, Obj.arr (Ty.int IntKind.u8) o2], blk := 45056 }
def declaw11_LogrecBack_n1 (s : St) : Option Ilaw11_LogrecBack_n1 := match s with
  | { env := [(0, AV.int IntKind.i64 t0), (1, AV.ro (Ty.st (Ty.pair (Ty.int IntKind.i64) Ty.str)) t1), (7, AV.ptr 0 0), (9, AV.str t9), (11, AV.int IntKind.i64 t11), (12, AV.own 1), (13, AV.int IntKind.i64 t13), (14, AV.int IntKind.i64 t14), (15, AV.int IntKind.i64 t15), (16, AV.own 2), (17, AV.int IntKind.i64 t17), (18, AV.int IntKind.i64 r8)], stk := [[]], H := [AE.Obj.cells [AV.int IntKind.u8 o0_0, AV.int IntKind.u8 o0_1, AV.int IntKind.u8 o0_2, AV.int IntKind.u8 o0_3], Obj.arr (Ty.st (Ty.pair (Ty.int IntKind.i64) Ty.str)) o1, Obj.arr (Ty.int IntKind.u8) o2], blk := 45056 } => cond (decide (r8 = 0)) (some (t0, t1, t9, t11, t13, t14, t15, t17, o0_0, o0_1, o0_2, o0_3, o1, o2)) none
  | _ => none
theorem declaw11_LogrecBack_n1_ok (s : St) (x : Ilaw11_LogrecBack_n1) (h : declaw11_LogrecBack_n1 s = some x) : s = Slaw11_LogrecBack_n1 x := by
  unfold declaw11_LogrecBack_n1 at h
  split at h
  · replace h := cond_noneO h; obtain ⟨hg, h⟩ := h; simp only [Bool.and_eq_true, decide_eq_true_eq] at hg; simp only [hg]; cases h; rfl
  · cases h
def outlaw11_LogrecBack_n1 : Ilaw11_LogrecBack_n1 → (Ex → St → Ans) → Ylaw11_LogrecBack_n1 → Ans := fun (t0, t1, t9, t11, t13, t14, t15, t17, o0_0, o0_1, o0_2, o0_3, o1, o2) K => (Sum.elim (fun o2_y => K (Ex.norm) { env := [(0, AV.int IntKind.i64 t0), (1, AV.ro (Ty.st (Ty.pair (Ty.int IntKind.i64) Ty.str)) t1), (7, AV.ptr 0 0), (9, AV.str t9), (11, AV.int IntKind.i64 t11), (12, AV.own 1), (13, AV.int IntKind.i64 t13), (14, AV.int IntKind.i64 t14), (15, AV.int IntKind.i64 t15), (16, AV.own 2), (17, AV.int IntKind.i64 t17), (18, AV.int IntKind.i64 (1))], stk := [[]], H := [AE.Obj.cells [AV.int IntKind.u8 o0_0, AV.int IntKind.u8 o0_1, AV.int IntKind.u8 o0_2, AV.int IntKind.u8 o0_3], Obj.arr (Ty.st (Ty.pair (Ty.int IntKind.i64) Ty.str)) o1, Obj.arr (Ty.int IntKind.u8) o2_y], blk := 45057 }) (fun _ => K (Ex.exit 0) { env := [(0, AV.int IntKind.i64 t0), (1, AV.ro (Ty.st (Ty.pair (Ty.int IntKind.i64) Ty.str)) t1), (9, AV.str t9), (11, AV.int IntKind.i64 t11), (12, AV.own 0), (13, AV.int IntKind.i64 t13), (14, AV.int IntKind.i64 t14), (15, AV.int IntKind.i64 t15), (16, AV.own 1), (17, AV.int IntKind.i64 t17)], stk := [[]], H := [Obj.arr (Ty.st (Ty.pair (Ty.int IntKind.i64) Ty.str)) o1, Obj.arr (Ty.int IntKind.u8) o2], blk := 45056 }))
def nodelaw11_LogrecBack_n1 {β : Type} : Ilaw11_LogrecBack_n1 → (Ylaw11_LogrecBack_n1 → Option β) → Option β := fun (t0, t1, t9, t11, t13, t14, t15, t17, o0_0, o0_1, o0_2, o0_3, o1, o2) exit => (bindO (nodeDlaw11_LogrecBack_n2 (t0, t1, t9, t11, t13, t14, t15, t17, o0_0, o0_1, o0_2, o0_3, o1, o2)) fun t75 => (bif t75 then (bif inR (IntKind.wrap IntKind.i64 (t17 + (0 : Int))) (List.length o2) then (bindO (o2[Int.toNat (IntKind.wrap IntKind.i64 (t17 + (0 : Int)))]?) fun x => (bif inR (IntKind.wrap IntKind.i64 (t17 + (0 : Int))) (List.length o2) then (bindO (o2[Int.toNat (IntKind.wrap IntKind.i64 (t17 + (0 : Int)))]?) fun x_2 => (exit (Sum.inl (List.set o2 (Int.toNat (IntKind.wrap IntKind.i64 (t17 + (0 : Int)))) (IntKind.wrap IntKind.u8 (↑(Int.toNat (x % (256 : Int)) ^^^ Int.toNat (o0_0 % (256 : Int))) : Int)))))) else none)) else none) else (exit (Sum.inr ()))))
def nodeDlaw11_LogrecBack_n1 (i : Ilaw11_LogrecBack_n1) : Option Ylaw11_LogrecBack_n1 := nodelaw11_LogrecBack_n1 i some
theorem nodelaw11_LogrecBack_n1_nat (i : Ilaw11_LogrecBack_n1) (k : Ylaw11_LogrecBack_n1 → Ans) : nodelaw11_LogrecBack_n1 i k = bindO (nodeDlaw11_LogrecBack_n1 i) k := by
  obtain ⟨t0, t1, t9, t11, t13, t14, t15, t17, o0_0, o0_1, o0_2, o0_3, o1, o2⟩ := i
  simp only [nodeDlaw11_LogrecBack_n1, nodelaw11_LogrecBack_n1, bindO_cond, bindO_assoc, bindO_none, bindO_pure, bindO_elim, bindO_unP]
theorem nodelaw11_LogrecBack_n1_ok (i : Ilaw11_LogrecBack_n1) (K : Ex → St → Ans) : codeI Try.tab envlaw11_LogrecBack noHint (codeD Try.tab envlaw11_LogrecBack noHint 0 64) 70 157 annLlaw11_LogrecBack_n1 Llaw11_LogrecBack_n1 (weakP 0 (exk [0, 1, 7, 9, 11, 12, 13, 14, 15, 16, 17, 18] [8] [(0, [0, 1, 9, 11, 12, 13, 14, 15, 16, 17])]) K) (Slaw11_LogrecBack_n1 i) = nodelaw11_LogrecBack_n1 i (outlaw11_LogrecBack_n1 i K) := by kernel_rfl
theorem GNlaw11_LogrecBack_n1_ok : CSum Try.prog 157 Llaw11_LogrecBack_n1 (sumN declaw11_LogrecBack_n1 nodeDlaw11_LogrecBack_n1 outlaw11_LogrecBack_n1) := csum_node mixed tabOk envlaw11_LogrecBackOk 0 (exk [0, 1, 7, 9, 11, 12, 13, 14, 15, 16, 17, 18] [8] [(0, [0, 1, 9, 11, 12, 13, 14, 15, 16, 17])]) annLlaw11_LogrecBack_n1_ok declaw11_LogrecBack_n1_ok nodelaw11_LogrecBack_n1_ok nodelaw11_LogrecBack_n1_nat
abbrev Ilaw11_LogrecBack_n1v1 := (Int) × (List (Int × List UInt8)) × (List UInt8) × (Int) × (Int) × (Int) × (Int) × (Int) × (Int) × (Int) × (Int) × (Int) × (List (Int × List UInt8)) × (List Int)
abbrev Ylaw11_LogrecBack_n1v1 := ((List Int)) ⊕ (Unit)
def Slaw11_LogrecBack_n1v1 : Ilaw11_LogrecBack_n1v1 → St := fun (t0, t1, t9, t11, t13, t14, t15, t17, o0_0, o0_1, o0_2, o0_3, o1, o2) => { env := [(0, AV.int IntKind.i64 t0), (1, AV.ro (Ty.st (Ty.pair (Ty.int IntKind.i64) Ty.str)) t1), (7, AV.ptr 0 0), (9, AV.str t9), (11, AV.int IntKind.i64 t11), (12, AV.own 1), (13, AV.int IntKind.i64 t13), (14, AV.int IntKind.i64 t14), (15, AV.int IntKind.i64 t15), (16, AV.own 2), (17, AV.int IntKind.i64 t17), (18, AV.int IntKind.i64 (1))], stk := [[]], H := [AE.Obj.cells [AV.int IntKind.u8 o0_0, AV.int IntKind.u8 o0_1, AV.int IntKind.u8 o0_2, AV.int IntKind.u8 o0_3], Obj.arr (Ty.st (Ty.pair (Ty.int IntKind.i64) Ty.str)) o1, Obj.arr (Ty.int IntKind.u8) o2], blk := 45056 }
def declaw11_LogrecBack_n1v1 (s : St) : Option Ilaw11_LogrecBack_n1v1 := match s with
  | { env := [(0, AV.int IntKind.i64 t0), (1, AV.ro (Ty.st (Ty.pair (Ty.int IntKind.i64) Ty.str)) t1), (7, AV.ptr 0 0), (9, AV.str t9), (11, AV.int IntKind.i64 t11), (12, AV.own 1), (13, AV.int IntKind.i64 t13), (14, AV.int IntKind.i64 t14), (15, AV.int IntKind.i64 t15), (16, AV.own 2), (17, AV.int IntKind.i64 t17), (18, AV.int IntKind.i64 r8)], stk := [[]], H := [AE.Obj.cells [AV.int IntKind.u8 o0_0, AV.int IntKind.u8 o0_1, AV.int IntKind.u8 o0_2, AV.int IntKind.u8 o0_3], Obj.arr (Ty.st (Ty.pair (Ty.int IntKind.i64) Ty.str)) o1, Obj.arr (Ty.int IntKind.u8) o2], blk := 45056 } => cond (decide (r8 = 1)) (some (t0, t1, t9, t11, t13, t14, t15, t17, o0_0, o0_1, o0_2, o0_3, o1, o2)) none
  | _ => none
theorem declaw11_LogrecBack_n1v1_ok (s : St) (x : Ilaw11_LogrecBack_n1v1) (h : declaw11_LogrecBack_n1v1 s = some x) : s = Slaw11_LogrecBack_n1v1 x := by
  unfold declaw11_LogrecBack_n1v1 at h
  split at h
  · replace h := cond_noneO h; obtain ⟨hg, h⟩ := h; simp only [Bool.and_eq_true, decide_eq_true_eq] at hg; simp only [hg]; cases h; rfl
  · cases h
def outlaw11_LogrecBack_n1v1 : Ilaw11_LogrecBack_n1v1 → (Ex → St → Ans) → Ylaw11_LogrecBack_n1v1 → Ans := fun (t0, t1, t9, t11, t13, t14, t15, t17, o0_0, o0_1, o0_2, o0_3, o1, o2) K => (Sum.elim (fun o2_y => K (Ex.norm) { env := [(0, AV.int IntKind.i64 t0), (1, AV.ro (Ty.st (Ty.pair (Ty.int IntKind.i64) Ty.str)) t1), (7, AV.ptr 0 0), (9, AV.str t9), (11, AV.int IntKind.i64 t11), (12, AV.own 1), (13, AV.int IntKind.i64 t13), (14, AV.int IntKind.i64 t14), (15, AV.int IntKind.i64 t15), (16, AV.own 2), (17, AV.int IntKind.i64 t17), (18, AV.int IntKind.i64 (2))], stk := [[]], H := [AE.Obj.cells [AV.int IntKind.u8 o0_0, AV.int IntKind.u8 o0_1, AV.int IntKind.u8 o0_2, AV.int IntKind.u8 o0_3], Obj.arr (Ty.st (Ty.pair (Ty.int IntKind.i64) Ty.str)) o1, Obj.arr (Ty.int IntKind.u8) o2_y], blk := 45057 }) (fun _ => K (Ex.exit 0) { env := [(0, AV.int IntKind.i64 t0), (1, AV.ro (Ty.st (Ty.pair (Ty.int IntKind.i64) Ty.str)) t1), (9, AV.str t9), (11, AV.int IntKind.i64 t11), (12, AV.own 0), (13, AV.int IntKind.i64 t13), (14, AV.int IntKind.i64 t14), (15, AV.int IntKind.i64 t15), (16, AV.own 1), (17, AV.int IntKind.i64 t17)], stk := [[]], H := [Obj.arr (Ty.st (Ty.pair (Ty.int IntKind.i64) Ty.str)) o1, Obj.arr (Ty.int IntKind.u8) o2], blk := 45056 }))
def nodelaw11_LogrecBack_n1v1 {β : Type} : Ilaw11_LogrecBack_n1v1 → (Ylaw11_LogrecBack_n1v1 → Option β) → Option β := fun (t0, t1, t9, t11, t13, t14, t15, t17, o0_0, o0_1, o0_2, o0_3, o1, o2) exit => (bindO (nodeDlaw11_LogrecBack_n2v1 (t0, t1, t9, t11, t13, t14, t15, t17, o0_0, o0_1, o0_2, o0_3, o1, o2)) fun t75 => (bif t75 then (bif inR (IntKind.wrap IntKind.i64 (t17 + (1 : Int))) (List.length o2) then (bindO (o2[Int.toNat (IntKind.wrap IntKind.i64 (t17 + (1 : Int)))]?) fun x => (bif inR (IntKind.wrap IntKind.i64 (t17 + (1 : Int))) (List.length o2) then (bindO (o2[Int.toNat (IntKind.wrap IntKind.i64 (t17 + (1 : Int)))]?) fun x_2 => (exit (Sum.inl (List.set o2 (Int.toNat (IntKind.wrap IntKind.i64 (t17 + (1 : Int)))) (IntKind.wrap IntKind.u8 (↑(Int.toNat (x % (256 : Int)) ^^^ Int.toNat (o0_1 % (256 : Int))) : Int)))))) else none)) else none) else (exit (Sum.inr ()))))
def nodeDlaw11_LogrecBack_n1v1 (i : Ilaw11_LogrecBack_n1v1) : Option Ylaw11_LogrecBack_n1v1 := nodelaw11_LogrecBack_n1v1 i some
theorem nodelaw11_LogrecBack_n1v1_nat (i : Ilaw11_LogrecBack_n1v1) (k : Ylaw11_LogrecBack_n1v1 → Ans) : nodelaw11_LogrecBack_n1v1 i k = bindO (nodeDlaw11_LogrecBack_n1v1 i) k := by
  obtain ⟨t0, t1, t9, t11, t13, t14, t15, t17, o0_0, o0_1, o0_2, o0_3, o1, o2⟩ := i
  simp only [nodeDlaw11_LogrecBack_n1v1, nodelaw11_LogrecBack_n1v1, bindO_cond, bindO_assoc, bindO_none, bindO_pure, bindO_elim, bindO_unP]
theorem nodelaw11_LogrecBack_n1v1_ok (i : Ilaw11_LogrecBack_n1v1) (K : Ex → St → Ans) : codeI Try.tab envlaw11_LogrecBack noHint (codeD Try.tab envlaw11_LogrecBack noHint 0 64) 70 157 annLlaw11_LogrecBack_n1 Llaw11_LogrecBack_n1 (weakP 0 (exk [0, 1, 7, 9, 11, 12, 13, 14, 15, 16, 17, 18] [8] [(0, [0, 1, 9, 11, 12, 13, 14, 15, 16, 17])]) K) (Slaw11_LogrecBack_n1v1 i) = nodelaw11_LogrecBack_n1v1 i (outlaw11_LogrecBack_n1v1 i K) := by kernel_rfl
theorem GNlaw11_LogrecBack_n1v1_ok : CSum Try.prog 157 Llaw11_LogrecBack_n1 (sumN declaw11_LogrecBack_n1v1 nodeDlaw11_LogrecBack_n1v1 outlaw11_LogrecBack_n1v1) := csum_node mixed tabOk envlaw11_LogrecBackOk 0 (exk [0, 1, 7, 9, 11, 12, 13, 14, 15, 16, 17, 18] [8] [(0, [0, 1, 9, 11, 12, 13, 14, 15, 16, 17])]) annLlaw11_LogrecBack_n1_ok declaw11_LogrecBack_n1v1_ok nodelaw11_LogrecBack_n1v1_ok nodelaw11_LogrecBack_n1v1_nat
abbrev Ilaw11_LogrecBack_n1v2 := (Int) × (List (Int × List UInt8)) × (List UInt8) × (Int) × (Int) × (Int) × (Int) × (Int) × (Int) × (Int) × (Int) × (Int) × (List (Int × List UInt8)) × (List Int)
abbrev Ylaw11_LogrecBack_n1v2 := ((List Int)) ⊕ (Unit)
def Slaw11_LogrecBack_n1v2 : Ilaw11_LogrecBack_n1v2 → St := fun (t0, t1, t9, t11, t13, t14, t15, t17, o0_0, o0_1, o0_2, o0_3, o1, o2) => { env := [(0, AV.int IntKind.i64 t0), (1, AV.ro (Ty.st (Ty.pair (Ty.int IntKind.i64) Ty.str)) t1), (7, AV.ptr 0 0), (9, AV.str t9), (11, AV.int IntKind.i64 t11), (12, AV.own 1), (13, AV.int IntKind.i64 t13), (14, AV.int IntKind.i64 t14), (15, AV.int IntKind.i64 t15), (16, AV.own 2), (17, AV.int IntKind.i64 t17), (18, AV.int IntKind.i64 (2))], stk := [[]], H := [AE.Obj.cells [AV.int IntKind.u8 o0_0, AV.int IntKind.u8 o0_1, AV.int IntKind.u8 o0_2, AV.int IntKind.u8 o0_3], Obj.arr (Ty.st (Ty.pair (Ty.int IntKind.i64) Ty.str)) o1, Obj.arr (Ty.int IntKind.u8) o2], blk := 45056 }
def declaw11_LogrecBack_n1v2 (s : St) : Option Ilaw11_LogrecBack_n1v2 := match s with
  | { env := [(0, AV.int IntKind.i64 t0), (1, AV.ro (Ty.st (Ty.pair (Ty.int IntKind.i64) Ty.str)) t1), (7, AV.ptr 0 0), (9, AV.str t9), (11, AV.int IntKind.i64 t11), (12, AV.own 1), (13, AV.int IntKind.i64 t13), (14, AV.int IntKind.i64 t14), (15, AV.int IntKind.i64 t15), (16, AV.own 2), (17, AV.int IntKind.i64 t17), (18, AV.int IntKind.i64 r8)], stk := [[]], H := [AE.Obj.cells [AV.int IntKind.u8 o0_0, AV.int IntKind.u8 o0_1, AV.int IntKind.u8 o0_2, AV.int IntKind.u8 o0_3], Obj.arr (Ty.st (Ty.pair (Ty.int IntKind.i64) Ty.str)) o1, Obj.arr (Ty.int IntKind.u8) o2], blk := 45056 } => cond (decide (r8 = 2)) (some (t0, t1, t9, t11, t13, t14, t15, t17, o0_0, o0_1, o0_2, o0_3, o1, o2)) none
  | _ => none
theorem declaw11_LogrecBack_n1v2_ok (s : St) (x : Ilaw11_LogrecBack_n1v2) (h : declaw11_LogrecBack_n1v2 s = some x) : s = Slaw11_LogrecBack_n1v2 x := by
  unfold declaw11_LogrecBack_n1v2 at h
  split at h
  · replace h := cond_noneO h; obtain ⟨hg, h⟩ := h; simp only [Bool.and_eq_true, decide_eq_true_eq] at hg; simp only [hg]; cases h; rfl
  · cases h
def outlaw11_LogrecBack_n1v2 : Ilaw11_LogrecBack_n1v2 → (Ex → St → Ans) → Ylaw11_LogrecBack_n1v2 → Ans := fun (t0, t1, t9, t11, t13, t14, t15, t17, o0_0, o0_1, o0_2, o0_3, o1, o2) K => (Sum.elim (fun o2_y => K (Ex.norm) { env := [(0, AV.int IntKind.i64 t0), (1, AV.ro (Ty.st (Ty.pair (Ty.int IntKind.i64) Ty.str)) t1), (7, AV.ptr 0 0), (9, AV.str t9), (11, AV.int IntKind.i64 t11), (12, AV.own 1), (13, AV.int IntKind.i64 t13), (14, AV.int IntKind.i64 t14), (15, AV.int IntKind.i64 t15), (16, AV.own 2), (17, AV.int IntKind.i64 t17), (18, AV.int IntKind.i64 (3))], stk := [[]], H := [AE.Obj.cells [AV.int IntKind.u8 o0_0, AV.int IntKind.u8 o0_1, AV.int IntKind.u8 o0_2, AV.int IntKind.u8 o0_3], Obj.arr (Ty.st (Ty.pair (Ty.int IntKind.i64) Ty.str)) o1, Obj.arr (Ty.int IntKind.u8) o2_y], blk := 45057 }) (fun _ => K (Ex.exit 0) { env := [(0, AV.int IntKind.i64 t0), (1, AV.ro (Ty.st (Ty.pair (Ty.int IntKind.i64) Ty.str)) t1), (9, AV.str t9), (11, AV.int IntKind.i64 t11), (12, AV.own 0), (13, AV.int IntKind.i64 t13), (14, AV.int IntKind.i64 t14), (15, AV.int IntKind.i64 t15), (16, AV.own 1), (17, AV.int IntKind.i64 t17)], stk := [[]], H := [Obj.arr (Ty.st (Ty.pair (Ty.int IntKind.i64) Ty.str)) o1, Obj.arr (Ty.int IntKind.u8) o2], blk := 45056 }))
def nodelaw11_LogrecBack_n1v2 {β : Type} : Ilaw11_LogrecBack_n1v2 → (Ylaw11_LogrecBack_n1v2 → Option β) → Option β := fun (t0, t1, t9, t11, t13, t14, t15, t17, o0_0, o0_1, o0_2, o0_3, o1, o2) exit => (bindO (nodeDlaw11_LogrecBack_n2v2 (t0, t1, t9, t11, t13, t14, t15, t17, o0_0, o0_1, o0_2, o0_3, o1, o2)) fun t75 => (bif t75 then (bif inR (IntKind.wrap IntKind.i64 (t17 + (2 : Int))) (List.length o2) then (bindO (o2[Int.toNat (IntKind.wrap IntKind.i64 (t17 + (2 : Int)))]?) fun x => (bif inR (IntKind.wrap IntKind.i64 (t17 + (2 : Int))) (List.length o2) then (bindO (o2[Int.toNat (IntKind.wrap IntKind.i64 (t17 + (2 : Int)))]?) fun x_2 => (exit (Sum.inl (List.set o2 (Int.toNat (IntKind.wrap IntKind.i64 (t17 + (2 : Int)))) (IntKind.wrap IntKind.u8 (↑(Int.toNat (x % (256 : Int)) ^^^ Int.toNat (o0_2 % (256 : Int))) : Int)))))) else none)) else none) else (exit (Sum.inr ()))))
def nodeDlaw11_LogrecBack_n1v2 (i : Ilaw11_LogrecBack_n1v2) : Option Ylaw11_LogrecBack_n1v2 := nodelaw11_LogrecBack_n1v2 i some
theorem nodelaw11_LogrecBack_n1v2_nat (i : Ilaw11_LogrecBack_n1v2) (k : Ylaw11_LogrecBack_n1v2 → Ans) : nodelaw11_LogrecBack_n1v2 i k = bindO (nodeDlaw11_LogrecBack_n1v2 i) k := by
  obtain ⟨t0, t1, t9, t11, t13, t14, t15, t17, o0_0, o0_1, o0_2, o0_3, o1, o2⟩ := i
  simp only [nodeDlaw11_LogrecBack_n1v2, nodelaw11_LogrecBack_n1v2, bindO_cond, bindO_assoc, bindO_none, bindO_pure, bindO_elim, bindO_unP]
theorem nodelaw11_LogrecBack_n1v2_ok (i : Ilaw11_LogrecBack_n1v2) (K : Ex → St → Ans) : codeI Try.tab envlaw11_LogrecBack noHint (codeD Try.tab envlaw11_LogrecBack noHint 0 64) 70 157 annLlaw11_LogrecBack_n1 Llaw11_LogrecBack_n1 (weakP 0 (exk [0, 1, 7, 9, 11, 12, 13, 14, 15, 16, 17, 18] [8] [(0, [0, 1, 9, 11, 12, 13, 14, 15, 16, 17])]) K) (Slaw11_LogrecBack_n1v2 i) = nodelaw11_LogrecBack_n1v2 i (outlaw11_LogrecBack_n1v2 i K) := by kernel_rfl
theorem GNlaw11_LogrecBack_n1v2_ok : CSum Try.prog 157 Llaw11_LogrecBack_n1 (sumN declaw11_LogrecBack_n1v2 nodeDlaw11_LogrecBack_n1v2 outlaw11_LogrecBack_n1v2) := csum_node mixed tabOk envlaw11_LogrecBackOk 0 (exk [0, 1, 7, 9, 11, 12, 13, 14, 15, 16, 17, 18] [8] [(0, [0, 1, 9, 11, 12, 13, 14, 15, 16, 17])]) annLlaw11_LogrecBack_n1_ok declaw11_LogrecBack_n1v2_ok nodelaw11_LogrecBack_n1v2_ok nodelaw11_LogrecBack_n1v2_nat
abbrev Ilaw11_LogrecBack_n1v3 := (Int) × (List (Int × List UInt8)) × (List UInt8) × (Int) × (Int) × (Int) × (Int) × (Int) × (Int) × (Int) × (Int) × (Int) × (List (Int × List UInt8)) × (List Int)
abbrev Ylaw11_LogrecBack_n1v3 := ((List Int)) ⊕ (Unit)
def Slaw11_LogrecBack_n1v3 : Ilaw11_LogrecBack_n1v3 → St := fun (t0, t1, t9, t11, t13, t14, t15, t17, o0_0, o0_1, o0_2, o0_3, o1, o2) => { env := [(0, AV.int IntKind.i64 t0), (1, AV.ro (Ty.st (Ty.pair (Ty.int IntKind.i64) Ty.str)) t1), (7, AV.ptr 0 0), (9, AV.str t9), (11, AV.int IntKind.i64 t11), (12, AV.own 1), (13, AV.int IntKind.i64 t13), (14, AV.int IntKind.i64 t14), (15, AV.int IntKind.i64 t15), (16, AV.own 2), (17, AV.int IntKind.i64 t17), (18, AV.int IntKind.i64 (3))], stk := [[]], H := [AE.Obj.cells [AV.int IntKind.u8 o0_0, AV.int IntKind.u8 o0_1, AV.int IntKind.u8 o0_2, AV.int IntKind.u8 o0_3], Obj.arr (Ty.st (Ty.pair (Ty.int IntKind.i64) Ty.str)) o1, Obj.arr (Ty.int IntKind.u8) o2], blk := 45056 }
def declaw11_LogrecBack_n1v3 (s : St) : Option Ilaw11_LogrecBack_n1v3 := match s with
  | { env := [(0, AV.int IntKind.i64 t0), (1, AV.ro (Ty.st (Ty.pair (Ty.int IntKind.i64) Ty.str)) t1), (7, AV.ptr 0 0), (9, AV.str t9), (11, AV.int IntKind.i64 t11), (12, AV.own 1), (13, AV.int IntKind.i64 t13), (14, AV.int IntKind.i64 t14), (15, AV.int IntKind.i64 t15), (16, AV.own 2), (17, AV.int IntKind.i64 t17), (18, AV.int IntKind.i64 r8)], stk := [[]], H := [AE.Obj.cells [AV.int IntKind.u8 o0_0, AV.int IntKind.u8 o0_1, AV.int IntKind.u8 o0_2, AV.int IntKind.u8 o0_3], Obj.arr (Ty.st (Ty.pair (Ty.int IntKind.i64) Ty.str)) o1, Obj.arr (Ty.int IntKind.u8) o2], blk := 45056 } => cond (decide (r8 = 3)) (some (t0, t1, t9, t11, t13, t14, t15, t17, o0_0, o0_1, o0_2, o0_3, o1, o2)) none
  | _ => none
theorem declaw11_LogrecBack_n1v3_ok (s : St) (x : Ilaw11_LogrecBack_n1v3) (h : declaw11_LogrecBack_n1v3 s = some x) : s = Slaw11_LogrecBack_n1v3 x := by
  unfold declaw11_LogrecBack_n1v3 at h
  split at h
  · replace h := cond_noneO h; obtain ⟨hg, h⟩ := h; simp only [Bool.and_eq_true, decide_eq_true_eq] at hg; simp only [hg]; cases h; rfl
  · cases h
def outlaw11_LogrecBack_n1v3 : Ilaw11_LogrecBack_n1v3 → (Ex → St → Ans) → Ylaw11_LogrecBack_n1v3 → Ans := fun (t0, t1, t9, t11, t13, t14, t15, t17, o0_0, o0_1, o0_2, o0_3, o1, o2) K => (Sum.elim (fun o2_y => K (Ex.norm) { env := [(0, AV.int IntKind.i64 t0), (1, AV.ro (Ty.st (Ty.pair (Ty.int IntKind.i64) Ty.str)) t1), (7, AV.ptr 0 0), (9, AV.str t9), (11, AV.int IntKind.i64 t11), (12, AV.own 1), (13, AV.int IntKind.i64 t13), (14, AV.int IntKind.i64 t14), (15, AV.int IntKind.i64 t15), (16, AV.own 2), (17, AV.int IntKind.i64 t17), (18, AV.int IntKind.i64 (4))], stk := [[]], H := [AE.Obj.cells [AV.int IntKind.u8 o0_0, AV.int IntKind.u8 o0_1, AV.int IntKind.u8 o0_2, AV.int IntKind.u8 o0_3], Obj.arr (Ty.st (Ty.pair (Ty.int IntKind.i64) Ty.str)) o1, Obj.arr (Ty.int IntKind.u8) o2_y], blk := 45057 }) (fun _ => K (Ex.exit 0) { env := [(0, AV.int IntKind.i64 t0), (1, AV.ro (Ty.st (Ty.pair (Ty.int IntKind.i64) Ty.str)) t1), (9, AV.str t9), (11, AV.int IntKind.i64 t11), (12, AV.own 0), (13, AV.int IntKind.i64 t13), (14, AV.int IntKind.i64 t14), (15, AV.int IntKind.i64 t15), (16, AV.own 1), (17, AV.int IntKind.i64 t17)], stk := [[]], H := [Obj.arr (Ty.st (Ty.pair (Ty.int IntKind.i64) Ty.str)) o1, Obj.arr (Ty.int IntKind.u8) o2], blk := 45056 }))
def nodelaw11_LogrecBack_n1v3 {β : Type} : Ilaw11_LogrecBack_n1v3 → (Ylaw11_LogrecBack_n1v3 → Option β) → Option β := fun (t0, t1, t9, t11, t13, t14, t15, t17, o0_0, o0_1, o0_2, o0_3, o1, o2) exit => (bindO (nodeDlaw11_LogrecBack_n2v3 (t0, t1, t9, t11, t13, t14, t15, t17, o0_0, o0_1, o0_2, o0_3, o1, o2)) fun t75 => (bif t75 then (bif inR (IntKind.wrap IntKind.i64 (t17 + (3 : Int))) (List.length o2) then (bindO (o2[Int.toNat (IntKind.wrap IntKind.i64 (t17 + (3 : Int)))]?) fun x => (bif inR (IntKind.wrap IntKind.i64 (t17 + (3 : Int))) (List.length o2) then (bindO (o2[Int.toNat (IntKind.wrap IntKind.i64 (t17 + (3 : Int)))]?) fun x_2 => (exit (Sum.inl (List.set o2 (Int.toNat (IntKind.wrap IntKind.i64 (t17 + (3 : Int)))) (IntKind.wrap IntKind.u8 (↑(Int.toNat (x % (256 : Int)) ^^^ Int.toNat (o0_3 % (256 : Int))) : Int)))))) else none)) else none) else (exit (Sum.inr ()))))
def nodeDlaw11_LogrecBack_n1v3 (i : Ilaw11_LogrecBack_n1v3) : Option Ylaw11_LogrecBack_n1v3 := nodelaw11_LogrecBack_n1v3 i some
theorem nodelaw11_LogrecBack_n1v3_nat (i : Ilaw11_LogrecBack_n1v3) (k : Ylaw11_LogrecBack_n1v3 → Ans) : nodelaw11_LogrecBack_n1v3 i k = bindO (nodeDlaw11_LogrecBack_n1v3 i) k := by
  obtain ⟨t0, t1, t9, t11, t13, t14, t15, t17, o0_0, o0_1, o0_2, o0_3, o1, o2⟩ := i
  simp only [nodeDlaw11_LogrecBack_n1v3, nodelaw11_LogrecBack_n1v3, bindO_cond, bindO_assoc, bindO_none, bindO_pure, bindO_elim, bindO_unP]
theorem nodelaw11_LogrecBack_n1v3_ok (i : Ilaw11_LogrecBack_n1v3) (K : Ex → St → Ans) : codeI Try.tab envlaw11_LogrecBack noHint (codeD Try.tab envlaw11_LogrecBack noHint 0 64) 70 157 annLlaw11_LogrecBack_n1 Llaw11_LogrecBack_n1 (weakP 0 (exk [0, 1, 7, 9, 11, 12, 13, 14, 15, 16, 17, 18] [8] [(0, [0, 1, 9, 11, 12, 13, 14, 15, 16, 17])]) K) (Slaw11_LogrecBack_n1v3 i) = nodelaw11_LogrecBack_n1v3 i (outlaw11_LogrecBack_n1v3 i K) := by kernel_rfl
theorem GNlaw11_LogrecBack_n1v3_ok : CSum Try.prog 157 Llaw11_LogrecBack_n1 (sumN declaw11_LogrecBack_n1v3 nodeDlaw11_LogrecBack_n1v3 outlaw11_LogrecBack_n1v3) := csum_node mixed tabOk envlaw11_LogrecBackOk 0 (exk [0, 1, 7, 9, 11, 12, 13, 14, 15, 16, 17, 18] [8] [(0, [0, 1, 9, 11, 12, 13, 14, 15, 16, 17])]) annLlaw11_LogrecBack_n1_ok declaw11_LogrecBack_n1v3_ok nodelaw11_LogrecBack_n1v3_ok nodelaw11_LogrecBack_n1v3_nat
abbrev Ilaw11_LogrecBack_n1v4 := (Int) × (List (Int × List UInt8)) × (List UInt8) × (Int) × (Int) × (Int) × (Int) × (Int) × (Int) × (Int) × (Int) × (Int) × (List (Int × List UInt8)) × (List Int)
abbrev Ylaw11_LogrecBack_n1v4 := Unit
def Slaw11_LogrecBack_n1v4 : Ilaw11_LogrecBack_n1v4 → St := fun (t0, t1, t9, t11, t13, t14, t15, t17, o0_0, o0_1, o0_2, o0_3, o1, o2) => { env := [(0, AV.int IntKind.i64 t0), (1, AV.ro (Ty.st (Ty.pair (Ty.int IntKind.i64) Ty.str)) t1), (7, AV.ptr 0 0), (9, AV.str t9), (11, AV.int IntKind.i64 t11), (12, AV.own 1), (13, AV.int IntKind.i64 t13), (14, AV.int IntKind.i64 t14), (15, AV.int IntKind.i64 t15), (16, AV.own 2), (17, AV.int IntKind.i64 t17), (18, AV.int IntKind.i64 (4))], stk := [[]], H := [AE.Obj.cells [AV.int IntKind.u8 o0_0, AV.int IntKind.u8 o0_1, AV.int IntKind.u8 o0_2, AV.int IntKind.u8 o0_3], Obj.arr (Ty.st (Ty.pair (Ty.int IntKind.i64) Ty.str)) o1, Obj.arr (Ty.int IntKind.u8) o2], blk := 45056 }
def declaw11_LogrecBack_n1v4 (s : St) : Option Ilaw11_LogrecBack_n1v4 := match s with
  | { env := [(0, AV.int IntKind.i64 t0), (1, AV.ro (Ty.st (Ty.pair (Ty.int IntKind.i64) Ty.str)) t1), (7, AV.ptr 0 0), (9, AV.str t9), (11, AV.int IntKind.i64 t11), (12, AV.own 1), (13, AV.int IntKind.i64 t13), (14, AV.int IntKind.i64 t14), (15, AV.int IntKind.i64 t15), (16, AV.own 2), (17, AV.int IntKind.i64 t17), (18, AV.int IntKind.i64 r8)], stk := [[]], H := [AE.Obj.cells [AV.int IntKind.u8 o0_0, AV.int IntKind.u8 o0_1, AV.int IntKind.u8 o0_2, AV.int IntKind.u8 o0_3], Obj.arr (Ty.st (Ty.pair (Ty.int IntKind.i64) Ty.str)) o1, Obj.arr (Ty.int IntKind.u8) o2], blk := 45056 } => cond (decide (r8 = 4)) (some (t0, t1, t9, t11, t13, t14, t15, t17, o0_0, o0_1, o0_2, o0_3, o1, o2)) none
  | _ => none
theorem declaw11_LogrecBack_n1v4_ok (s : St) (x : Ilaw11_LogrecBack_n1v4) (h : declaw11_LogrecBack_n1v4 s = some x) : s = Slaw11_LogrecBack_n1v4 x := by
  unfold declaw11_LogrecBack_n1v4 at h
  split at h
  · replace h := cond_noneO h; obtain ⟨hg, h⟩ := h; simp only [Bool.and_eq_true, decide_eq_true_eq] at hg; simp only [hg]; cases h; rfl
  · cases h
def outlaw11_LogrecBack_n1v4 : Ilaw11_LogrecBack_n1v4 → (Ex → St → Ans) → Ylaw11_LogrecBack_n1v4 → Ans := fun (t0, t1, t9, t11, t13, t14, t15, t17, o0_0, o0_1, o0_2, o0_3, o1, o2) K => fun _ => K (Ex.exit 0) { env := [(0, AV.int IntKind.i64 t0), (1, AV.ro (Ty.st (Ty.pair (Ty.int IntKind.i64) Ty.str)) t1), (9, AV.str t9), (11, AV.int IntKind.i64 t11), (12, AV.own 0), (13, AV.int IntKind.i64 t13), (14, AV.int IntKind.i64 t14), (15, AV.int IntKind.i64 t15), (16, AV.own 1), (17, AV.int IntKind.i64 t17)], stk := [[]], H := [Obj.arr (Ty.st (Ty.pair (Ty.int IntKind.i64) Ty.str)) o1, Obj.arr (Ty.int IntKind.u8) o2], blk := 45056 }
def nodelaw11_LogrecBack_n1v4 {β : Type} : Ilaw11_LogrecBack_n1v4 → (Ylaw11_LogrecBack_n1v4 → Option β) → Option β := fun (t0, t1, t9, t11, t13, t14, t15, t17, o0_0, o0_1, o0_2, o0_3, o1, o2) exit => (bindO (nodeDlaw11_LogrecBack_n2v4 (t0, t1, t9, t11, t13, t14, t15, t17, o0_0, o0_1, o0_2, o0_3, o1, o2)) fun _ => (exit ()))
def nodeDlaw11_LogrecBack_n1v4 (i : Ilaw11_LogrecBack_n1v4) : Option Ylaw11_LogrecBack_n1v4 := nodelaw11_LogrecBack_n1v4 i some
theorem nodelaw11_LogrecBack_n1v4_nat (i : Ilaw11_LogrecBack_n1v4) (k : Ylaw11_LogrecBack_n1v4 → Ans) : nodelaw11_LogrecBack_n1v4 i k = bindO (nodeDlaw11_LogrecBack_n1v4 i) k := by
  obtain ⟨t0, t1, t9, t11, t13, t14, t15, t17, o0_0, o0_1, o0_2, o0_3, o1, o2⟩ := i
  simp only [nodeDlaw11_LogrecBack_n1v4, nodelaw11_LogrecBack_n1v4, bindO_cond, bindO_assoc, bindO_none, bindO_pure, bindO_elim, bindO_unP]
theorem nodelaw11_LogrecBack_n1v4_ok (i : Ilaw11_LogrecBack_n1v4) (K : Ex → St → Ans) : codeI Try.tab envlaw11_LogrecBack noHint (codeD Try.tab envlaw11_LogrecBack noHint 0 64) 70 157 annLlaw11_LogrecBack_n1 Llaw11_LogrecBack_n1 (weakP 0 (exk [0, 1, 7, 9, 11, 12, 13, 14, 15, 16, 17, 18] [8] [(0, [0, 1, 9, 11, 12, 13, 14, 15, 16, 17])]) K) (Slaw11_LogrecBack_n1v4 i) = nodelaw11_LogrecBack_n1v4 i (outlaw11_LogrecBack_n1v4 i K) := by kernel_rfl
theorem GNlaw11_LogrecBack_n1v4_ok : CSum Try.prog 157 Llaw11_LogrecBack_n1 (sumN declaw11_LogrecBack_n1v4 nodeDlaw11_LogrecBack_n1v4 outlaw11_LogrecBack_n1v4) := csum_node mixed tabOk envlaw11_LogrecBackOk 0 (exk [0, 1, 7, 9, 11, 12, 13, 14, 15, 16, 17, 18] [8] [(0, [0, 1, 9, 11, 12, 13, 14, 15, 16, 17])]) annLlaw11_LogrecBack_n1_ok declaw11_LogrecBack_n1v4_ok nodelaw11_LogrecBack_n1v4_ok nodelaw11_LogrecBack_n1v4_nat
noncomputable def Glaw11_LogrecBack_n1 : (Ex → St → Ans) → St → Ans := (altN declaw11_LogrecBack_n1 (sumN declaw11_LogrecBack_n1 nodeDlaw11_LogrecBack_n1 outlaw11_LogrecBack_n1) (altN declaw11_LogrecBack_n1v1 (sumN declaw11_LogrecBack_n1v1 nodeDlaw11_LogrecBack_n1v1 outlaw11_LogrecBack_n1v1) (altN declaw11_LogrecBack_n1v2 (sumN declaw11_LogrecBack_n1v2 nodeDlaw11_LogrecBack_n1v2 outlaw11_LogrecBack_n1v2) (altN declaw11_LogrecBack_n1v3 (sumN declaw11_LogrecBack_n1v3 nodeDlaw11_LogrecBack_n1v3 outlaw11_LogrecBack_n1v3) (sumN declaw11_LogrecBack_n1v4 nodeDlaw11_LogrecBack_n1v4 outlaw11_LogrecBack_n1v4)))))
theorem Glaw11_LogrecBack_n1_ok : CSum Try.prog 157 Llaw11_LogrecBack_n1 Glaw11_LogrecBack_n1 := (csum_altN GNlaw11_LogrecBack_n1_ok (csum_altN GNlaw11_LogrecBack_n1v1_ok (csum_altN GNlaw11_LogrecBack_n1v2_ok (csum_altN GNlaw11_LogrecBack_n1v3_ok GNlaw11_LogrecBack_n1v4_ok))))
noncomputable def Llaw11_LogrecBack_n0 : Code := codeAt [1, 1, 1, 1, 1, 1, 1, 1, 1, 1, 0, 1] blaw11_LogrecBack
noncomputable def annLlaw11_LogrecBack_n0 : Ann := (.block (.at 0 [0, 1, 7, 9, 11, 12, 13, 14, 15, 16, 17, 18] (.loop (.cut 0 [0, 1, 7, 9, 11, 12, 13, 14, 15, 16, 17, 18] Glaw11_LogrecBack_n1))))
theorem annLlaw11_LogrecBack_n0_ok : AnnOk Try.prog 157 Llaw11_LogrecBack_n0 annLlaw11_LogrecBack_n0 := (annOk_at Glaw11_LogrecBack_n1_ok)
abbrev Ilaw11_LogrecBack_n0 := (Int) × (List (Int × List UInt8)) × (List UInt8) × (Int) × (Int) × (Int) × (Int) × (Int) × (Int) × (Int) × (Int) × (Int) × (List (Int × List UInt8)) × (List Int)
abbrev Ylaw11_LogrecBack_n0 := (List Int)
def Slaw11_LogrecBack_n0 : Ilaw11_LogrecBack_n0 → St := fun (t0, t1, t9, t11, t13, t14, t15, t17, o0_0, o0_1, o0_2, o0_3, o1, o2) => { env := [(0, AV.int IntKind.i64 t0), (1, AV.ro (Ty.st (Ty.pair (Ty.int IntKind.i64) Ty.str)) t1), (7, AV.ptr 0 0), (9, AV.str t9), (11, AV.int IntKind.i64 t11), (12, AV.own 1), (13, AV.int IntKind.i64 t13), (14, AV.int IntKind.i64 t14), (15, AV.int IntKind.i64 t15), (16, AV.own 2), (17, AV.int IntKind.i64 t17), (18, AV.int IntKind.i64 (0))], stk := [[]], H := [AE.Obj.cells [AV.int IntKind.u8 o0_0, AV.int IntKind.u8 o0_1, AV.int IntKind.u8 o0_2, AV.int IntKind.u8 o0_3], Obj.arr (Ty.st (Ty.pair (Ty.int IntKind.i64) Ty.str)) o1, Obj.arr (Ty.int IntKind.u8) o2], blk := 45056 }
def declaw11_LogrecBack_n0 (s : St) : Option Ilaw11_LogrecBack_n0 := match s with
  | { env := [(0, AV.int IntKind.i64 t0), (1, AV.ro (Ty.st (Ty.pair (Ty.int IntKind.i64) Ty.str)) t1), (7, AV.ptr 0 0), (9, AV.str t9), (11, AV.int IntKind.i64 t11), (12, AV.own 1), (13, AV.int IntKind.i64 t13), (14, AV.int IntKind.i64 t14), (15, AV.int IntKind.i64 t15), (16, AV.own 2), (17, AV.int IntKind.i64 t17), (18, AV.int IntKind.i64 r8)], stk := [[]], H := [AE.Obj.cells [AV.int IntKind.u8 o0_0, AV.int IntKind.u8 o0_1, AV.int IntKind.u8 o0_2, AV.int IntKind.u8 o0_3], Obj.arr (Ty.st (Ty.pair (Ty.int IntKind.i64) Ty.str)) o1, Obj.arr (Ty.int IntKind.u8) o2], blk := 45056 } => cond (decide (r8 = 0)) (some (t0, t1, t9, t11, t13, t14, t15, t17, o0_0, o0_1, o0_2, o0_3, o1, o2)) none
  | _ => none
theorem declaw11_LogrecBack_n0_ok (s : St) (x : Ilaw11_LogrecBack_n0) (h : declaw11_LogrecBack_n0 s = some x) : s = Slaw11_LogrecBack_n0 x := by
  unfold declaw11_LogrecBack_n0 at h
  split at h
  · replace h := cond_noneO h; obtain ⟨hg, h⟩ := h; simp only [Bool.and_eq_true, decide_eq_true_eq] at hg; simp only [hg]; cases h; rfl
  · cases h
def outlaw11_LogrecBack_n0 : Ilaw11_LogrecBack_n0 → (Ex → St → Ans) → Ylaw11_LogrecBack_n0 → Ans := fun (t0, t1, t9, t11, t13, t14, t15, t17, o0_0, o0_1, o0_2, o0_3, o1, o2) K => fun o1_y => K (Ex.norm) { env := [(0, AV.int IntKind.i64 t0), (1, AV.ro (Ty.st (Ty.pair (Ty.int IntKind.i64) Ty.str)) t1), (9, AV.str t9), (11, AV.int IntKind.i64 t11), (12, AV.own 0), (13, AV.int IntKind.i64 t13), (14, AV.int IntKind.i64 t14), (15, AV.int IntKind.i64 t15), (16, AV.own 1), (17, AV.int IntKind.i64 t17)], stk := [[]], H := [Obj.arr (Ty.st (Ty.pair (Ty.int IntKind.i64) Ty.str)) o1, Obj.arr (Ty.int IntKind.u8) o1_y], blk := 45056 }
def nodelaw11_LogrecBack_n0 {β : Type} : Ilaw11_LogrecBack_n0 → (Ylaw11_LogrecBack_n0 → Option β) → Option β := fun (t0, t1, t9, t11, t13, t14, t15, t17, o0_0, o0_1, o0_2, o0_3, o1, o2) exit => (bindO (nodeDlaw11_LogrecBack_n1 (t0, t1, t9, t11, t13, t14, t15, t17, o0_0, o0_1, o0_2, o0_3, o1, o2)) (Sum.elim (fun o2_2 => (bindO (nodeDlaw11_LogrecBack_n1v1 (t0, t1, t9, t11, t13, t14, t15, t17, o0_0, o0_1, o0_2, o0_3, o1, o2_2)) (Sum.elim (fun o2_3 => (bindO (nodeDlaw11_LogrecBack_n1v2 (t0, t1, t9, t11, t13, t14, t15, t17, o0_0, o0_1, o0_2, o0_3, o1, o2_3)) (Sum.elim (fun o2_4 => (bindO (nodeDlaw11_LogrecBack_n1v3 (t0, t1, t9, t11, t13, t14, t15, t17, o0_0, o0_1, o0_2, o0_3, o1, o2_4)) (Sum.elim (fun o2_5 => (bindO (nodeDlaw11_LogrecBack_n1v4 (t0, t1, t9, t11, t13, t14, t15, t17, o0_0, o0_1, o0_2, o0_3, o1, o2_5)) fun _ => (exit (o2_5)))) (fun _ => (exit (o2_4)))))) (fun _ => (exit (o2_3)))))) (fun _ => (exit (o2_2)))))) (fun _ => (exit (o2)))))
def nodeDlaw11_LogrecBack_n0 (i : Ilaw11_LogrecBack_n0) : Option Ylaw11_LogrecBack_n0 := nodelaw11_LogrecBack_n0 i some
theorem nodelaw11_LogrecBack_n0_nat (i : Ilaw11_LogrecBack_n0) (k : Ylaw11_LogrecBack_n0 → Ans) : nodelaw11_LogrecBack_n0 i k = bindO (nodeDlaw11_LogrecBack_n0 i) k := by
  obtain ⟨t0, t1, t9, t11, t13, t14, t15, t17, o0_0, o0_1, o0_2, o0_3, o1, o2⟩ := i
  simp only [nodeDlaw11_LogrecBack_n0, nodelaw11_LogrecBack_n0, bindO_cond, bindO_assoc, bindO_none, bindO_pure, bindO_elim, bindO_unP]
theorem nodelaw11_LogrecBack_n0_ok (i : Ilaw11_LogrecBack_n0) (K : Ex → St → Ans) : codeI Try.tab envlaw11_LogrecBack noHint (codeD Try.tab envlaw11_LogrecBack noHint 0 64) 70 157 annLlaw11_LogrecBack_n0 Llaw11_LogrecBack_n0 (weakP 0 (exk [0, 1, 9, 11, 12, 13, 14, 15, 16, 17] [8] []) K) (Slaw11_LogrecBack_n0 i) = nodelaw11_LogrecBack_n0 i (outlaw11_LogrecBack_n0 i K) := by kernel_rfl
theorem GNlaw11_LogrecBack_n0_ok : CSum Try.prog 157 Llaw11_LogrecBack_n0 (sumN declaw11_LogrecBack_n0 nodeDlaw11_LogrecBack_n0 outlaw11_LogrecBack_n0) := csum_node mixed tabOk envlaw11_LogrecBackOk 0 (exk [0, 1, 9, 11, 12, 13, 14, 15, 16, 17] [8] []) annLlaw11_LogrecBack_n0_ok declaw11_LogrecBack_n0_ok nodelaw11_LogrecBack_n0_ok nodelaw11_LogrecBack_n0_nat
noncomputable def Glaw11_LogrecBack_n0 : (Ex → St → Ans) → St → Ans := (sumN declaw11_LogrecBack_n0 nodeDlaw11_LogrecBack_n0 outlaw11_LogrecBack_n0)
theorem Glaw11_LogrecBack_n0_ok : CSum Try.prog 157 Llaw11_LogrecBack_n0 Glaw11_LogrecBack_n0 := GNlaw11_LogrecBack_n0_ok
noncomputable def annlaw11_LogrecBack : Ann := (.seq .none (.seq .none (.seq .none (.seq .none (.seq .none (.seq .none (.seq .none (.seq .none (.seq .none (.seq .none (.seq (.seq .none (.cut 0 [0, 1, 7, 9, 11, 12, 13, 14, 15, 16, 17, 18] Glaw11_LogrecBack_n0)) (.seq .none (.seq .none (.seq (.seq (.cut 0 [0, 1, 9, 11, 12, 13, 14, 15, 16, 17, 21, 22] Glaw11_LogrecBack_n3) (.cond (.seq (.cut 0 [0, 1, 11, 12, 13] Glaw11_LogrecBack_n4) .none) .none)) (.seq (.cut 0 [0, 1, 9, 11, 12, 13, 14, 15, 16, 21] Glaw11_LogrecBack_n5) .none)))))))))))))))
theorem annlaw11_LogrecBack_ok : AnnOk Try.prog 157 blaw11_LogrecBack annlaw11_LogrecBack := ⟨(annOk_none _ _ _), ⟨(annOk_none _ _ _), ⟨(annOk_none _ _ _), ⟨(annOk_none _ _ _), ⟨(annOk_none _ _ _), ⟨(annOk_none _ _ _), ⟨(annOk_none _ _ _), ⟨(annOk_none _ _ _), ⟨(annOk_none _ _ _), ⟨(annOk_none _ _ _), ⟨⟨(annOk_none _ _ _), Glaw11_LogrecBack_n0_ok⟩, ⟨(annOk_none _ _ _), ⟨(annOk_none _ _ _), ⟨⟨Glaw11_LogrecBack_n3_ok, ⟨⟨Glaw11_LogrecBack_n4_ok, (annOk_none _ _ _)⟩, (annOk_none _ _ _)⟩⟩, ⟨Glaw11_LogrecBack_n5_ok, (annOk_none _ _ _)⟩⟩⟩⟩⟩⟩⟩⟩⟩⟩⟩⟩⟩⟩⟩
abbrev Alaw11_LogrecBack := (Int) × (List (Int × List UInt8)) × (Int) × (Int) × (Int) × (Int) × (Int)
abbrev Ylaw11_LogrecBack := (Bool)
def fnlaw11_LogrecBack {β : Type} : Alaw11_LogrecBack → (Ylaw11_LogrecBack → Option β) → Option β := fun (a0, a1, a2, a3_0, a3_1, a3_2, a3_3) exit => (bindO (fnDlaw11_works ()) fun r => (bif !r then (exit (false)) else (bindO (fnDlaw11_Great (a1)) fun r_2 => (bif r_2 then (exit (true)) else (bindO (fnDlogrec_Put (a0, a1)) (unP fun r_0 r_1 => (bif r_1 != (0 : Int) then (exit (r_0 == [])) else (bif (↑(List.length r_0) : Int) != IntKind.wrap IntKind.i64 (IntKind.wrap IntKind.i64 ((↑(List.length a1) : Int) + (1 : Int)) * (64 : Int)) then (exit (false)) else (bindO (fnDlogrec_Get (r_0)) (unP fun r_0_2 => unP fun r_2_2 o0 => (bif inR (64 : Int) (List.length r_0 + (1 : Nat)) then (bindO (fnDlogrec_Size (List.take (64 : Nat) r_0, a0)) (unP fun r_0_3 r_1_2 => (bif Nat.ble (List.length r_0) (140737488355328 : Nat) then (bif IntKind.wrap IntKind.u64 (↑(List.length (intsOf r_0)) : Int) == (0 : Int) then none else (bindO (nodeDlaw11_LogrecBack_n0 (a0, a1, r_0, r_0_2, r_2_2, r_0_3, r_1_2, IntKind.wrap IntKind.i64 (Int.tmod (IntKind.wrap IntKind.u64 a2) (IntKind.wrap IntKind.u64 (↑(List.length (intsOf r_0)) : Int))), a3_0, a3_1, a3_2, a3_3, o0, intsOf r_0)) fun o1 => (bindO (fnDlogrec_Get (bytesOf o1)) (unP fun r_0_4 => unP fun r_2_3 o0_2 => (bindO (nodeDlaw11_LogrecBack_n3 (a0, a1, r_0, r_0_2, r_2_2, r_0_3, r_1_2, IntKind.wrap IntKind.i64 (Int.tmod (IntKind.wrap IntKind.u64 a2) (IntKind.wrap IntKind.u64 (↑(List.length (intsOf r_0)) : Int))), r_2_3, IntKind.wrap IntKind.i64 ((8 : Int) + IntKind.wrap IntKind.i64 ((2 : Int) * (↑(List.length a1) : Int))), o0, o1)) fun t112 => (bif t112 then (bindO (nodeDlaw11_LogrecBack_n4 (a0, a1, r_0_2, r_2_2, o0)) fun t8 => (exit (t8))) else (bindO (nodeDlaw11_LogrecBack_n5 (a0, a1, r_0, r_0_2, r_2_2, r_0_3, r_1_2, r_2_3, o0, o1)) fun t8 => (exit (t8))))))))) else none))) else none)))))))))))
def fnDlaw11_LogrecBack (a : Alaw11_LogrecBack) : Option Ylaw11_LogrecBack := fnlaw11_LogrecBack a some
theorem fnlaw11_LogrecBack_nat (a : Alaw11_LogrecBack) (k : Ylaw11_LogrecBack → Ans) : fnlaw11_LogrecBack a k = bindO (fnDlaw11_LogrecBack a) k := by
  obtain ⟨a0, a1, a2, a3_0, a3_1, a3_2, a3_3⟩ := a
  simp only [fnDlaw11_LogrecBack, fnlaw11_LogrecBack, bindO_cond, bindO_assoc, bindO_none, bindO_pure, bindO_elim, bindO_unP]
def argslaw11_LogrecBack : Alaw11_LogrecBack → List AV × List AE.Obj := fun (a0, a1, a2, a3_0, a3_1, a3_2, a3_3) => ([AV.int IntKind.i64 a0, AV.ro (Ty.st (Ty.pair (Ty.int IntKind.i64) Ty.str)) a1, AV.int IntKind.i64 a2, AV.agg [AV.int IntKind.u8 a3_0, AV.int IntKind.u8 a3_1, AV.int IntKind.u8 a3_2, AV.int IntKind.u8 a3_3]], [])
def decAlaw11_LogrecBack (l : List AV) (H : List AE.Obj) : Option Alaw11_LogrecBack := match l, H with
  | [AV.int IntKind.i64 a0, AV.ro (Ty.st (Ty.pair (Ty.int IntKind.i64) Ty.str)) a1, AV.int IntKind.i64 a2, AV.agg [AV.int IntKind.u8 a3_0, AV.int IntKind.u8 a3_1, AV.int IntKind.u8 a3_2, AV.int IntKind.u8 a3_3]], [] => some (a0, a1, a2, a3_0, a3_1, a3_2, a3_3)
  | _, _ => none
theorem decAlaw11_LogrecBack_ok (l : List AV) (H : List AE.Obj) (a : Alaw11_LogrecBack) (h : decAlaw11_LogrecBack l H = some a) : (l, H) = argslaw11_LogrecBack a := by
  unfold decAlaw11_LogrecBack at h
  split at h
  · cases h; rfl
  · cases h
def outlaw11_LogrecBack : Alaw11_LogrecBack → (AV → List AE.Obj → Ans) → Ylaw11_LogrecBack → Ans := fun (a0, a1, a2, a3_0, a3_1, a3_2, a3_3) K => fun r_y => K (AV.bool r_y) []
theorem fnlaw11_LogrecBack_ok (a : Alaw11_LogrecBack) (K : AV → List AE.Obj → Ans) : fnE Try.tab envlaw11_LogrecBack noHint 0 70 11 Try.f11.ntmps Try.f11.results.toList annlaw11_LogrecBack blaw11_LogrecBack (argslaw11_LogrecBack a).1 (argslaw11_LogrecBack a).2 K = fnlaw11_LogrecBack a (outlaw11_LogrecBack a K) := by kernel_rfl
def vFlaw11_LogrecBack (a : Alaw11_LogrecBack) (K : AV → List AE.Obj → Ans) : Ans := bindO (fnDlaw11_LogrecBack a) fun y => outlaw11_LogrecBack a K y
def Flaw11_LogrecBack : List AV → List AE.Obj → (AV → List AE.Obj → Ans) → Ans := fun l H K => bindO (decAlaw11_LogrecBack l H) fun a => vFlaw11_LogrecBack a K
theorem Flaw11_LogrecBack_ok : FuncOk Try.prog 11 Flaw11_LogrecBack := func_mkD (hint := noHint) (d := 0) (n := 70) mixed tabOk envlaw11_LogrecBackOk Try.func11 (bodySome (by kernel_rfl)) (by decide +kernel) annlaw11_LogrecBack_ok decAlaw11_LogrecBack_ok fnlaw11_LogrecBack_ok fnlaw11_LogrecBack_nat
end Go.Proofs.R2
