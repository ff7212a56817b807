/- What the functions that DiskDoesSaid reaches compute: part 2. -/
import Derived.Test.YtpefpiibinbjgaaOwnDiskDoesSaid1
set_option linter.unusedVariables false
set_option linter.unusedSimpArgs false
namespace Go.Proofs.R3
open Go Go.AE
--@ ref08_Disk_call
noncomputable def envref08_Disk_call : Env := [(84, .pure Fref08_has)]
theorem envref08_Disk_callOk : EnvOk Try.prog envref08_Disk_call := EnvOk.cons Fref08_has_ok (EnvOk.nil)
noncomputable def bref08_Disk_call : Code := Try.f81.body.getD .skip
noncomputable def annref08_Disk_call : Ann := .none
theorem annref08_Disk_call_ok : AnnOk Try.prog 39 bref08_Disk_call annref08_Disk_call := (annOk_none _ _ _)
abbrev Aref08_Disk_call := (Int) × (Int) × (Bool) × (List (List UInt8)) × (List (List UInt8)) × (List (Int × List UInt8)) × (List Int)
abbrev Yref08_Disk_call := (Int) × (Bool) × (Int) × (Bool)
def fnref08_Disk_call {β : Type} : Aref08_Disk_call → (Yref08_Disk_call → Option β) → Option β := fun (o0_3, o0_5, o0_6, o1, o2, o3, o4) exit => (bif o0_6 then (exit ((31 : Int), false, IntKind.wrap IntKind.i64 (o0_3 + (1 : Int)), o0_6)) else (bif o0_5 == IntKind.wrap IntKind.i64 (o0_3 + (1 : Int)) then (exit ((31 : Int), true, IntKind.wrap IntKind.i64 (o0_3 + (1 : Int)), true)) else (bindO (fnDref08_has (o4, IntKind.wrap IntKind.i64 (o0_3 + (1 : Int)))) fun r => (bif r then (exit ((30 : Int), false, IntKind.wrap IntKind.i64 (o0_3 + (1 : Int)), o0_6)) else (exit ((0 : Int), false, IntKind.wrap IntKind.i64 (o0_3 + (1 : Int)), o0_6))))))
def fnDref08_Disk_call (a : Aref08_Disk_call) : Option Yref08_Disk_call := fnref08_Disk_call a some
theorem fnref08_Disk_call_nat (a : Aref08_Disk_call) (k : Yref08_Disk_call → Ans) : fnref08_Disk_call a k = bindO (fnDref08_Disk_call a) k := by
  obtain ⟨o0_3, o0_5, o0_6, o1, o2, o3, o4⟩ := a
  simp only [fnDref08_Disk_call, fnref08_Disk_call, bindO_cond, bindO_assoc, bindO_none, bindO_pure, bindO_elim, bindO_unP]
def argsref08_Disk_call : Aref08_Disk_call → List AV × List AE.Obj := fun (o0_3, o0_5, o0_6, o1, o2, o3, o4) => ([AV.ptr 0 0], [AE.Obj.cells [AV.own 1, AV.own 2, AV.own 3, AV.int IntKind.i64 o0_3, AV.own 4, AV.int IntKind.i64 o0_5, AV.bool o0_6], Obj.arr Ty.str o1, Obj.arr Ty.str o2, Obj.arr (Ty.st (Ty.pair (Ty.int IntKind.i64) Ty.str)) o3, Obj.arr (Ty.int IntKind.i64) o4])
def decAref08_Disk_call (l : List AV) (H : List AE.Obj) : Option Aref08_Disk_call := match l, H with
  | [AV.ptr 0 0], [AE.Obj.cells [AV.own 1, AV.own 2, AV.own 3, AV.int IntKind.i64 o0_3, AV.own 4, AV.int IntKind.i64 o0_5, AV.bool o0_6], Obj.arr Ty.str o1, Obj.arr Ty.str o2, Obj.arr (Ty.st (Ty.pair (Ty.int IntKind.i64) Ty.str)) o3, Obj.arr (Ty.int IntKind.i64) o4] => some (o0_3, o0_5, o0_6, o1, o2, o3, o4)
  | _, _ => none
theorem decAref08_Disk_call_ok (l : List AV) (H : List AE.Obj) (a : Aref08_Disk_call) (h : decAref08_Disk_call l H = some a) : (l, H) = argsref08_Disk_call a := by
  unfold decAref08_Disk_call at h
  split at h
  · cases h; rfl
  · cases h
def outref08_Disk_call : Aref08_Disk_call → (AV → List AE.Obj → Ans) → Yref08_Disk_call → Ans := fun (o0_3, o0_5, o0_6, o1, o2, o3, o4) K => unP fun r_0_y => unP fun r_1_y => unP fun o0_3_y o0_6_y => K (AV.tup [AV.int IntKind.i64 r_0_y, AV.bool r_1_y]) [AE.Obj.cells [AV.own 1, AV.own 2, AV.own 3, AV.int IntKind.i64 o0_3_y, AV.own 4, AV.int IntKind.i64 o0_5, AV.bool o0_6_y], Obj.arr Ty.str o1, Obj.arr Ty.str o2, Obj.arr (Ty.st (Ty.pair (Ty.int IntKind.i64) Ty.str)) o3, Obj.arr (Ty.int IntKind.i64) o4]
theorem fnref08_Disk_call_ok (a : Aref08_Disk_call) (K : AV → List AE.Obj → Ans) : fnE Try.tab envref08_Disk_call noHint 0 70 81 Try.f81.ntmps Try.f81.results.toList annref08_Disk_call bref08_Disk_call (argsref08_Disk_call a).1 (argsref08_Disk_call a).2 K = fnref08_Disk_call a (outref08_Disk_call a K) := by kernel_rfl
def vFref08_Disk_call (a : Aref08_Disk_call) (K : AV → List AE.Obj → Ans) : Ans := bindO (fnDref08_Disk_call a) fun y => outref08_Disk_call a K y
def Fref08_Disk_call : List AV → List AE.Obj → (AV → List AE.Obj → Ans) → Ans := fun l H K => bindO (decAref08_Disk_call l H) fun a => vFref08_Disk_call a K
theorem Fref08_Disk_call_ok : FuncOk Try.prog 81 Fref08_Disk_call := func_mkD (hint := noHint) (d := 0) (n := 70) mixed tabOk envref08_Disk_callOk Try.func81 (bodySome (by kernel_rfl)) (by decide +kernel) annref08_Disk_call_ok decAref08_Disk_call_ok fnref08_Disk_call_ok fnref08_Disk_call_nat
--@ ref08_Disk_Read
noncomputable def envref08_Disk_Read : Env := [(81, .func Fref08_Disk_call)]
theorem envref08_Disk_ReadOk : EnvOk Try.prog envref08_Disk_Read := EnvOk.cons Fref08_Disk_call_ok (EnvOk.nil)
noncomputable def bref08_Disk_Read : Code := Try.f62.body.getD .skip
noncomputable def Lref08_Disk_Read_n1 : Code := codeAt [1, 1, 0, 0, 1, 1, 0] bref08_Disk_Read
noncomputable def annLref08_Disk_Read_n1 : Ann := .none
theorem annLref08_Disk_Read_n1_ok : AnnOk Try.prog 36 Lref08_Disk_Read_n1 annLref08_Disk_Read_n1 := (annOk_none _ _ _)
abbrev Iref08_Disk_Read_n1 := (Int) × (Int) × (Int) × (Bool) × (List (List UInt8)) × (List (List UInt8)) × (List (Int × List UInt8)) × (List Int)
abbrev Yref08_Disk_Read_n1 := (Bool)
def Sref08_Disk_Read_n1 : Iref08_Disk_Read_n1 → St := fun (t1, o0_3, o0_5, o0_6, o1, o2, o3, o4) => { env := [(0, AV.ptr 0 0), (1, AV.int IntKind.i64 t1)], stk := [[(0, AV.ptr 0 0)]], H := [AE.Obj.cells [AV.own 1, AV.own 2, AV.own 3, AV.int IntKind.i64 o0_3, AV.own 4, AV.int IntKind.i64 o0_5, AV.bool o0_6], Obj.arr Ty.str o1, Obj.arr Ty.str o2, Obj.arr (Ty.st (Ty.pair (Ty.int IntKind.i64) Ty.str)) o3, Obj.arr (Ty.int IntKind.i64) o4], blk := 253952 }
def decref08_Disk_Read_n1 (s : St) : Option Iref08_Disk_Read_n1 := match s with
  | { env := [(0, AV.ptr 0 0), (1, AV.int IntKind.i64 t1)], stk := [[(0, AV.ptr 0 0)]], H := [AE.Obj.cells [AV.own 1, AV.own 2, AV.own 3, AV.int IntKind.i64 o0_3, AV.own 4, AV.int IntKind.i64 o0_5, AV.bool o0_6], Obj.arr Ty.str o1, Obj.arr Ty.str o2, Obj.arr (Ty.st (Ty.pair (Ty.int IntKind.i64) Ty.str)) o3, Obj.arr (Ty.int IntKind.i64) o4], blk := 253952 } => some (t1, o0_3, o0_5, o0_6, o1, o2, o3, o4)
  | _ => none
theorem decref08_Disk_Read_n1_ok (s : St) (x : Iref08_Disk_Read_n1) (h : decref08_Disk_Read_n1 s = some x) : s = Sref08_Disk_Read_n1 x := by
  unfold decref08_Disk_Read_n1 at h
  split at h
  · cases h; rfl
  · cases h
def outref08_Disk_Read_n1 : Iref08_Disk_Read_n1 → (Ex → St → Ans) → Yref08_Disk_Read_n1 → Ans := fun (t1, o0_3, o0_5, o0_6, o1, o2, o3, o4) K => fun t17_y => K (Ex.norm) { env := [(0, AV.ptr 0 0), (1, AV.int IntKind.i64 t1), (17, AV.bool t17_y)], stk := [[(0, AV.ptr 0 0)]], H := [AE.Obj.cells [AV.own 1, AV.own 2, AV.own 3, AV.int IntKind.i64 o0_3, AV.own 4, AV.int IntKind.i64 o0_5, AV.bool o0_6], Obj.arr Ty.str o1, Obj.arr Ty.str o2, Obj.arr (Ty.st (Ty.pair (Ty.int IntKind.i64) Ty.str)) o3, Obj.arr (Ty.int IntKind.i64) o4], blk := 253952 }
def noderef08_Disk_Read_n1 {β : Type} : Iref08_Disk_Read_n1 → (Yref08_Disk_Read_n1 → Option β) → Option β := fun (t1, o0_3, o0_5, o0_6, o1, o2, o3, o4) exit => (bif decide (t1 < (0 : Int)) then (exit (true)) else (exit (decide (t1 ≥ (↑(List.length o2) : Int)))))
def nodeDref08_Disk_Read_n1 (i : Iref08_Disk_Read_n1) : Option Yref08_Disk_Read_n1 := noderef08_Disk_Read_n1 i some
theorem noderef08_Disk_Read_n1_nat (i : Iref08_Disk_Read_n1) (k : Yref08_Disk_Read_n1 → Ans) : noderef08_Disk_Read_n1 i k = bindO (nodeDref08_Disk_Read_n1 i) k := by
  obtain ⟨t1, o0_3, o0_5, o0_6, o1, o2, o3, o4⟩ := i
  simp only [nodeDref08_Disk_Read_n1, noderef08_Disk_Read_n1, bindO_cond, bindO_assoc, bindO_none, bindO_pure, bindO_elim, bindO_unP]
theorem noderef08_Disk_Read_n1_ok (i : Iref08_Disk_Read_n1) (K : Ex → St → Ans) : codeI Try.tab envref08_Disk_Read noHint (codeD Try.tab envref08_Disk_Read noHint 0 64) 70 36 annLref08_Disk_Read_n1 Lref08_Disk_Read_n1 (weakP 5 (exk [0, 1, 17] [4, 5] []) K) (Sref08_Disk_Read_n1 i) = noderef08_Disk_Read_n1 i (outref08_Disk_Read_n1 i K) := by kernel_rfl
theorem GNref08_Disk_Read_n1_ok : CSum Try.prog 36 Lref08_Disk_Read_n1 (sumN decref08_Disk_Read_n1 nodeDref08_Disk_Read_n1 outref08_Disk_Read_n1) := csum_node mixed tabOk envref08_Disk_ReadOk 5 (exk [0, 1, 17] [4, 5] []) annLref08_Disk_Read_n1_ok decref08_Disk_Read_n1_ok noderef08_Disk_Read_n1_ok noderef08_Disk_Read_n1_nat
noncomputable def Gref08_Disk_Read_n1 : (Ex → St → Ans) → St → Ans := (sumN decref08_Disk_Read_n1 nodeDref08_Disk_Read_n1 outref08_Disk_Read_n1)
theorem Gref08_Disk_Read_n1_ok : CSum Try.prog 36 Lref08_Disk_Read_n1 Gref08_Disk_Read_n1 := GNref08_Disk_Read_n1_ok
noncomputable def Lref08_Disk_Read_n0 : Code := codeAt [1, 1, 0] bref08_Disk_Read
noncomputable def annLref08_Disk_Read_n0 : Ann := (.block (.seq .none (.cond .none (.seq (.cut 5 [0, 1] Gref08_Disk_Read_n1) .none))))
theorem annLref08_Disk_Read_n0_ok : AnnOk Try.prog 36 Lref08_Disk_Read_n0 annLref08_Disk_Read_n0 := ⟨(annOk_none _ _ _), ⟨(annOk_none _ _ _), ⟨Gref08_Disk_Read_n1_ok, (annOk_none _ _ _)⟩⟩⟩
abbrev Iref08_Disk_Read_n0 := (Int) × (Int) × (Int) × (Int) × (Bool) × (List (List UInt8)) × (List (List UInt8)) × (List (Int × List UInt8)) × (List Int)
abbrev Yref08_Disk_Read_n0 := ((Int)) ⊕ (Unit)
def Sref08_Disk_Read_n0 : Iref08_Disk_Read_n0 → St := fun (t1, t6, o0_3, o0_5, o0_6, o1, o2, o3, o4) => { env := [(0, AV.ptr 0 0), (1, AV.int IntKind.i64 t1), (6, AV.int IntKind.i64 t6)], stk := [[(0, AV.ptr 0 0)]], H := [AE.Obj.cells [AV.own 1, AV.own 2, AV.own 3, AV.int IntKind.i64 o0_3, AV.own 4, AV.int IntKind.i64 o0_5, AV.bool o0_6], Obj.arr Ty.str o1, Obj.arr Ty.str o2, Obj.arr (Ty.st (Ty.pair (Ty.int IntKind.i64) Ty.str)) o3, Obj.arr (Ty.int IntKind.i64) o4], blk := 253952 }
def decref08_Disk_Read_n0 (s : St) : Option Iref08_Disk_Read_n0 := match s with
  | { env := [(0, AV.ptr 0 0), (1, AV.int IntKind.i64 t1), (6, AV.int IntKind.i64 t6)], stk := [[(0, AV.ptr 0 0)]], H := [AE.Obj.cells [AV.own 1, AV.own 2, AV.own 3, AV.int IntKind.i64 o0_3, AV.own 4, AV.int IntKind.i64 o0_5, AV.bool o0_6], Obj.arr Ty.str o1, Obj.arr Ty.str o2, Obj.arr (Ty.st (Ty.pair (Ty.int IntKind.i64) Ty.str)) o3, Obj.arr (Ty.int IntKind.i64) o4], blk := 253952 } => some (t1, t6, o0_3, o0_5, o0_6, o1, o2, o3, o4)
  | _ => none
theorem decref08_Disk_Read_n0_ok (s : St) (x : Iref08_Disk_Read_n0) (h : decref08_Disk_Read_n0 s = some x) : s = Sref08_Disk_Read_n0 x := by
  unfold decref08_Disk_Read_n0 at h
  split at h
  · cases h; rfl
  · cases h
def outref08_Disk_Read_n0 : Iref08_Disk_Read_n0 → (Ex → St → Ans) → Yref08_Disk_Read_n0 → Ans := fun (t1, t6, o0_3, o0_5, o0_6, o1, o2, o3, o4) K => (Sum.elim (fun t5_y => K (Ex.ret) { env := [(4, AV.str ([])), (5, AV.int IntKind.i64 t5_y)], stk := [[(0, AV.ptr 0 0)]], H := [AE.Obj.cells [AV.own 1, AV.own 2, AV.own 3, AV.int IntKind.i64 o0_3, AV.own 4, AV.int IntKind.i64 o0_5, AV.bool o0_6], Obj.arr Ty.str o1, Obj.arr Ty.str o2, Obj.arr (Ty.st (Ty.pair (Ty.int IntKind.i64) Ty.str)) o3, Obj.arr (Ty.int IntKind.i64) o4], blk := 253952 }) (fun _ => K (Ex.norm) { env := [(0, AV.ptr 0 0), (1, AV.int IntKind.i64 t1)], stk := [[(0, AV.ptr 0 0)]], H := [AE.Obj.cells [AV.own 1, AV.own 2, AV.own 3, AV.int IntKind.i64 o0_3, AV.own 4, AV.int IntKind.i64 o0_5, AV.bool o0_6], Obj.arr Ty.str o1, Obj.arr Ty.str o2, Obj.arr (Ty.st (Ty.pair (Ty.int IntKind.i64) Ty.str)) o3, Obj.arr (Ty.int IntKind.i64) o4], blk := 253952 }))
def noderef08_Disk_Read_n0 {β : Type} : Iref08_Disk_Read_n0 → (Yref08_Disk_Read_n0 → Option β) → Option β := fun (t1, t6, o0_3, o0_5, o0_6, o1, o2, o3, o4) exit => (bif t6 != (0 : Int) then (exit (Sum.inl (t6))) else (bindO (nodeDref08_Disk_Read_n1 (t1, o0_3, o0_5, o0_6, o1, o2, o3, o4)) fun t17 => (bif t17 then (exit (Sum.inl ((3 : Int)))) else (exit (Sum.inr ())))))
def nodeDref08_Disk_Read_n0 (i : Iref08_Disk_Read_n0) : Option Yref08_Disk_Read_n0 := noderef08_Disk_Read_n0 i some
theorem noderef08_Disk_Read_n0_nat (i : Iref08_Disk_Read_n0) (k : Yref08_Disk_Read_n0 → Ans) : noderef08_Disk_Read_n0 i k = bindO (nodeDref08_Disk_Read_n0 i) k := by
  obtain ⟨t1, t6, o0_3, o0_5, o0_6, o1, o2, o3, o4⟩ := i
  simp only [nodeDref08_Disk_Read_n0, noderef08_Disk_Read_n0, bindO_cond, bindO_assoc, bindO_none, bindO_pure, bindO_elim, bindO_unP]
theorem noderef08_Disk_Read_n0_ok (i : Iref08_Disk_Read_n0) (K : Ex → St → Ans) : codeI Try.tab envref08_Disk_Read noHint (codeD Try.tab envref08_Disk_Read noHint 0 64) 70 36 annLref08_Disk_Read_n0 Lref08_Disk_Read_n0 (weakP 5 (exk [0, 1] [4, 5] []) K) (Sref08_Disk_Read_n0 i) = noderef08_Disk_Read_n0 i (outref08_Disk_Read_n0 i K) := by kernel_rfl
theorem GNref08_Disk_Read_n0_ok : CSum Try.prog 36 Lref08_Disk_Read_n0 (sumN decref08_Disk_Read_n0 nodeDref08_Disk_Read_n0 outref08_Disk_Read_n0) := csum_node mixed tabOk envref08_Disk_ReadOk 5 (exk [0, 1] [4, 5] []) annLref08_Disk_Read_n0_ok decref08_Disk_Read_n0_ok noderef08_Disk_Read_n0_ok noderef08_Disk_Read_n0_nat
noncomputable def Gref08_Disk_Read_n0 : (Ex → St → Ans) → St → Ans := (sumN decref08_Disk_Read_n0 nodeDref08_Disk_Read_n0 outref08_Disk_Read_n0)
theorem Gref08_Disk_Read_n0_ok : CSum Try.prog 36 Lref08_Disk_Read_n0 Gref08_Disk_Read_n0 := GNref08_Disk_Read_n0_ok
noncomputable def annref08_Disk_Read : Ann := (.seq .none (.seq .none (.seq (.cut 5 [0, 1, 6] Gref08_Disk_Read_n0) .none)))
theorem annref08_Disk_Read_ok : AnnOk Try.prog 36 bref08_Disk_Read annref08_Disk_Read := ⟨(annOk_none _ _ _), ⟨(annOk_none _ _ _), ⟨Gref08_Disk_Read_n0_ok, (annOk_none _ _ _)⟩⟩⟩
abbrev Aref08_Disk_Read := (Int) × (Int) × (Int) × (Bool) × (List (List UInt8)) × (List (List UInt8)) × (List (Int × List UInt8)) × (List Int)
abbrev Yref08_Disk_Read := (List UInt8) × (Int) × (Int) × (Bool)
def fnref08_Disk_Read {β : Type} : Aref08_Disk_Read → (Yref08_Disk_Read → Option β) → Option β := fun (a1, o0_3, o0_5, o0_6, o1, o2, o3, o4) exit => (bindO (fnDref08_Disk_call (o0_3, o0_5, o0_6, o1, o2, o3, o4)) (unP fun r_0 => unP fun r_1 => unP fun o0_3_2 o0_6_2 => (bindO (nodeDref08_Disk_Read_n0 (a1, r_0, o0_3_2, o0_5, o0_6_2, o1, o2, o3, o4)) (Sum.elim (fun t5 => (exit ([], t5, o0_3_2, o0_6_2))) (fun _ => (bif inR a1 (List.length o2) then (bindO (o2[Int.toNat a1]?) fun x => (exit (x, (0 : Int), o0_3_2, o0_6_2))) else none))))))
def fnDref08_Disk_Read (a : Aref08_Disk_Read) : Option Yref08_Disk_Read := fnref08_Disk_Read a some
theorem fnref08_Disk_Read_nat (a : Aref08_Disk_Read) (k : Yref08_Disk_Read → Ans) : fnref08_Disk_Read a k = bindO (fnDref08_Disk_Read a) k := by
  obtain ⟨a1, o0_3, o0_5, o0_6, o1, o2, o3, o4⟩ := a
  simp only [fnDref08_Disk_Read, fnref08_Disk_Read, bindO_cond, bindO_assoc, bindO_none, bindO_pure, bindO_elim, bindO_unP]
def argsref08_Disk_Read : Aref08_Disk_Read → List AV × List AE.Obj := fun (a1, o0_3, o0_5, o0_6, o1, o2, o3, o4) => ([AV.ptr 0 0, AV.int IntKind.i64 a1], [AE.Obj.cells [AV.own 1, AV.own 2, AV.own 3, AV.int IntKind.i64 o0_3, AV.own 4, AV.int IntKind.i64 o0_5, AV.bool o0_6], Obj.arr Ty.str o1, Obj.arr Ty.str o2, Obj.arr (Ty.st (Ty.pair (Ty.int IntKind.i64) Ty.str)) o3, Obj.arr (Ty.int IntKind.i64) o4])
def decAref08_Disk_Read (l : List AV) (H : List AE.Obj) : Option Aref08_Disk_Read := match l, H with
  | [AV.ptr 0 0, AV.int IntKind.i64 a1], [AE.Obj.cells [AV.own 1, AV.own 2, AV.own 3, AV.int IntKind.i64 o0_3, AV.own 4, AV.int IntKind.i64 o0_5, AV.bool o0_6], Obj.arr Ty.str o1, Obj.arr Ty.str o2, Obj.arr (Ty.st (Ty.pair (Ty.int IntKind.i64) Ty.str)) o3, Obj.arr (Ty.int IntKind.i64) o4] => some (a1, o0_3, o0_5, o0_6, o1, o2, o3, o4)
  | _, _ => none
theorem decAref08_Disk_Read_ok (l : List AV) (H : List AE.Obj) (a : Aref08_Disk_Read) (h : decAref08_Disk_Read l H = some a) : (l, H) = argsref08_Disk_Read a := by
  unfold decAref08_Disk_Read at h
  split at h
  · cases h; rfl
  · cases h
def outref08_Disk_Read : Aref08_Disk_Read → (AV → List AE.Obj → Ans) → Yref08_Disk_Read → Ans := fun (a1, o0_3, o0_5, o0_6, o1, o2, o3, o4) K => unP fun r_0_y => unP fun r_1_y => unP fun o0_3_y o0_6_y => K (AV.tup [AV.str r_0_y, AV.int IntKind.i64 r_1_y]) [AE.Obj.cells [AV.own 1, AV.own 2, AV.own 3, AV.int IntKind.i64 o0_3_y, AV.own 4, AV.int IntKind.i64 o0_5, AV.bool o0_6_y], Obj.arr Ty.str o1, Obj.arr Ty.str o2, Obj.arr (Ty.st (Ty.pair (Ty.int IntKind.i64) Ty.str)) o3, Obj.arr (Ty.int IntKind.i64) o4]
theorem fnref08_Disk_Read_ok (a : Aref08_Disk_Read) (K : AV → List AE.Obj → Ans) : fnE Try.tab envref08_Disk_Read noHint 0 70 62 Try.f62.ntmps Try.f62.results.toList annref08_Disk_Read bref08_Disk_Read (argsref08_Disk_Read a).1 (argsref08_Disk_Read a).2 K = fnref08_Disk_Read a (outref08_Disk_Read a K) := by kernel_rfl
def vFref08_Disk_Read (a : Aref08_Disk_Read) (K : AV → List AE.Obj → Ans) : Ans := bindO (fnDref08_Disk_Read a) fun y => outref08_Disk_Read a K y
def Fref08_Disk_Read : List AV → List AE.Obj → (AV → List AE.Obj → Ans) → Ans := fun l H K => bindO (decAref08_Disk_Read l H) fun a => vFref08_Disk_Read a K
theorem Fref08_Disk_Read_ok : FuncOk Try.prog 62 Fref08_Disk_Read := func_mkD (hint := noHint) (d := 0) (n := 70) mixed tabOk envref08_Disk_ReadOk Try.func62 (bodySome (by kernel_rfl)) (by decide +kernel) annref08_Disk_Read_ok decAref08_Disk_Read_ok fnref08_Disk_Read_ok fnref08_Disk_Read_nat
--@ ref08_Disk_may
noncomputable def envref08_Disk_may : Env := []
theorem envref08_Disk_mayOk : EnvOk Try.prog envref08_Disk_may := EnvOk.nil
noncomputable def bref08_Disk_may : Code := Try.f82.body.getD .skip
noncomputable def Lref08_Disk_may_n1 : Code := codeAt [1, 0, 0, 0] bref08_Disk_may
noncomputable def annLref08_Disk_may_n1 : Ann := .none
theorem annLref08_Disk_may_n1_ok : AnnOk Try.prog 23 Lref08_Disk_may_n1 annLref08_Disk_may_n1 := (annOk_none _ _ _)
abbrev Iref08_Disk_may_n1 := (Int) × (List UInt8) × (Int) × (Int) × (Bool) × (List (List UInt8)) × (List (List UInt8)) × (List (Int × List UInt8)) × (List Int)
abbrev Yref08_Disk_may_n1 := (Bool)
def Sref08_Disk_may_n1 : Iref08_Disk_may_n1 → St := fun (t1, t2, o0_3, o0_5, o0_6, o1, o2, o3, o4) => { env := [(0, AV.ptr 0 0), (1, AV.int IntKind.i64 t1), (2, AV.str t2)], stk := [[(0, AV.ptr 0 0)]], H := [AE.Obj.cells [AV.own 1, AV.own 2, AV.own 3, AV.int IntKind.i64 o0_3, AV.own 4, AV.int IntKind.i64 o0_5, AV.bool o0_6], Obj.arr Ty.str o1, Obj.arr Ty.str o2, Obj.arr (Ty.st (Ty.pair (Ty.int IntKind.i64) Ty.str)) o3, Obj.arr (Ty.int IntKind.i64) o4], blk := 335872 }
def decref08_Disk_may_n1 (s : St) : Option Iref08_Disk_may_n1 := match s with
  | { env := [(0, AV.ptr 0 0), (1, AV.int IntKind.i64 t1), (2, AV.str t2)], stk := [[(0, AV.ptr 0 0)]], H := [AE.Obj.cells [AV.own 1, AV.own 2, AV.own 3, AV.int IntKind.i64 o0_3, AV.own 4, AV.int IntKind.i64 o0_5, AV.bool o0_6], Obj.arr Ty.str o1, Obj.arr Ty.str o2, Obj.arr (Ty.st (Ty.pair (Ty.int IntKind.i64) Ty.str)) o3, Obj.arr (Ty.int IntKind.i64) o4], blk := 335872 } => some (t1, t2, o0_3, o0_5, o0_6, o1, o2, o3, o4)
  | _ => none
theorem decref08_Disk_may_n1_ok (s : St) (x : Iref08_Disk_may_n1) (h : decref08_Disk_may_n1 s = some x) : s = Sref08_Disk_may_n1 x := by
  unfold decref08_Disk_may_n1 at h
  split at h
  · cases h; rfl
  · cases h
def outref08_Disk_may_n1 : Iref08_Disk_may_n1 → (Ex → St → Ans) → Yref08_Disk_may_n1 → Ans := fun (t1, t2, o0_3, o0_5, o0_6, o1, o2, o3, o4) K => fun t7_y => K (Ex.norm) { env := [(2, AV.str t2), (7, AV.bool t7_y)], stk := [[(0, AV.ptr 0 0)]], H := [AE.Obj.cells [AV.own 1, AV.own 2, AV.own 3, AV.int IntKind.i64 o0_3, AV.own 4, AV.int IntKind.i64 o0_5, AV.bool o0_6], Obj.arr Ty.str o1, Obj.arr Ty.str o2, Obj.arr (Ty.st (Ty.pair (Ty.int IntKind.i64) Ty.str)) o3, Obj.arr (Ty.int IntKind.i64) o4], blk := 335872 }
def noderef08_Disk_may_n1 {β : Type} : Iref08_Disk_may_n1 → (Yref08_Disk_may_n1 → Option β) → Option β := fun (t1, t2, o0_3, o0_5, o0_6, o1, o2, o3, o4) exit => (bif decide (t1 < (0 : Int)) then (exit (true)) else (exit (decide (t1 ≥ (↑(List.length o2) : Int)))))
def nodeDref08_Disk_may_n1 (i : Iref08_Disk_may_n1) : Option Yref08_Disk_may_n1 := noderef08_Disk_may_n1 i some
theorem noderef08_Disk_may_n1_nat (i : Iref08_Disk_may_n1) (k : Yref08_Disk_may_n1 → Ans) : noderef08_Disk_may_n1 i k = bindO (nodeDref08_Disk_may_n1 i) k := by
  obtain ⟨t1, t2, o0_3, o0_5, o0_6, o1, o2, o3, o4⟩ := i
  simp only [nodeDref08_Disk_may_n1, noderef08_Disk_may_n1, bindO_cond, bindO_assoc, bindO_none, bindO_pure, bindO_elim, bindO_unP]
theorem noderef08_Disk_may_n1_ok (i : Iref08_Disk_may_n1) (K : Ex → St → Ans) : codeI Try.tab envref08_Disk_may noHint (codeD Try.tab envref08_Disk_may noHint 0 64) 70 23 annLref08_Disk_may_n1 Lref08_Disk_may_n1 (weakP 5 (exk [2, 7] [6] []) K) (Sref08_Disk_may_n1 i) = noderef08_Disk_may_n1 i (outref08_Disk_may_n1 i K) := by kernel_rfl
theorem GNref08_Disk_may_n1_ok : CSum Try.prog 23 Lref08_Disk_may_n1 (sumN decref08_Disk_may_n1 nodeDref08_Disk_may_n1 outref08_Disk_may_n1) := csum_node mixed tabOk envref08_Disk_mayOk 5 (exk [2, 7] [6] []) annLref08_Disk_may_n1_ok decref08_Disk_may_n1_ok noderef08_Disk_may_n1_ok noderef08_Disk_may_n1_nat
noncomputable def Gref08_Disk_may_n1 : (Ex → St → Ans) → St → Ans := (sumN decref08_Disk_may_n1 nodeDref08_Disk_may_n1 outref08_Disk_may_n1)
theorem Gref08_Disk_may_n1_ok : CSum Try.prog 23 Lref08_Disk_may_n1 Gref08_Disk_may_n1 := GNref08_Disk_may_n1_ok
noncomputable def Lref08_Disk_may_n0 : Code := codeAt [1, 0] bref08_Disk_may
noncomputable def annLref08_Disk_may_n0 : Ann := (.block (.seq (.cut 5 [0, 1, 2] Gref08_Disk_may_n1) .none))
theorem annLref08_Disk_may_n0_ok : AnnOk Try.prog 23 Lref08_Disk_may_n0 annLref08_Disk_may_n0 := ⟨Gref08_Disk_may_n1_ok, (annOk_none _ _ _)⟩
abbrev Iref08_Disk_may_n0 := (Int) × (List UInt8) × (Int) × (Int) × (Bool) × (List (List UInt8)) × (List (List UInt8)) × (List (Int × List UInt8)) × (List Int)
abbrev Yref08_Disk_may_n0 := ((Int)) ⊕ (Unit)
def Sref08_Disk_may_n0 : Iref08_Disk_may_n0 → St := fun (t1, t2, o0_3, o0_5, o0_6, o1, o2, o3, o4) => { env := [(0, AV.ptr 0 0), (1, AV.int IntKind.i64 t1), (2, AV.str t2)], stk := [[(0, AV.ptr 0 0)]], H := [AE.Obj.cells [AV.own 1, AV.own 2, AV.own 3, AV.int IntKind.i64 o0_3, AV.own 4, AV.int IntKind.i64 o0_5, AV.bool o0_6], Obj.arr Ty.str o1, Obj.arr Ty.str o2, Obj.arr (Ty.st (Ty.pair (Ty.int IntKind.i64) Ty.str)) o3, Obj.arr (Ty.int IntKind.i64) o4], blk := 335872 }
def decref08_Disk_may_n0 (s : St) : Option Iref08_Disk_may_n0 := match s with
  | { env := [(0, AV.ptr 0 0), (1, AV.int IntKind.i64 t1), (2, AV.str t2)], stk := [[(0, AV.ptr 0 0)]], H := [AE.Obj.cells [AV.own 1, AV.own 2, AV.own 3, AV.int IntKind.i64 o0_3, AV.own 4, AV.int IntKind.i64 o0_5, AV.bool o0_6], Obj.arr Ty.str o1, Obj.arr Ty.str o2, Obj.arr (Ty.st (Ty.pair (Ty.int IntKind.i64) Ty.str)) o3, Obj.arr (Ty.int IntKind.i64) o4], blk := 335872 } => some (t1, t2, o0_3, o0_5, o0_6, o1, o2, o3, o4)
  | _ => none
theorem decref08_Disk_may_n0_ok (s : St) (x : Iref08_Disk_may_n0) (h : decref08_Disk_may_n0 s = some x) : s = Sref08_Disk_may_n0 x := by
  unfold decref08_Disk_may_n0 at h
  split at h
  · cases h; rfl
  · cases h
def outref08_Disk_may_n0 : Iref08_Disk_may_n0 → (Ex → St → Ans) → Yref08_Disk_may_n0 → Ans := fun (t1, t2, o0_3, o0_5, o0_6, o1, o2, o3, o4) K => (Sum.elim (fun t6_y => K (Ex.ret) { env := [(6, AV.int IntKind.i64 t6_y)], stk := [[(0, AV.ptr 0 0)]], H := [AE.Obj.cells [AV.own 1, AV.own 2, AV.own 3, AV.int IntKind.i64 o0_3, AV.own 4, AV.int IntKind.i64 o0_5, AV.bool o0_6], Obj.arr Ty.str o1, Obj.arr Ty.str o2, Obj.arr (Ty.st (Ty.pair (Ty.int IntKind.i64) Ty.str)) o3, Obj.arr (Ty.int IntKind.i64) o4], blk := 335872 }) (fun _ => K (Ex.norm) { env := [], stk := [[(0, AV.ptr 0 0)]], H := [AE.Obj.cells [AV.own 1, AV.own 2, AV.own 3, AV.int IntKind.i64 o0_3, AV.own 4, AV.int IntKind.i64 o0_5, AV.bool o0_6], Obj.arr Ty.str o1, Obj.arr Ty.str o2, Obj.arr (Ty.st (Ty.pair (Ty.int IntKind.i64) Ty.str)) o3, Obj.arr (Ty.int IntKind.i64) o4], blk := 335872 }))
def noderef08_Disk_may_n0 {β : Type} : Iref08_Disk_may_n0 → (Yref08_Disk_may_n0 → Option β) → Option β := fun (t1, t2, o0_3, o0_5, o0_6, o1, o2, o3, o4) exit => (bindO (nodeDref08_Disk_may_n1 (t1, t2, o0_3, o0_5, o0_6, o1, o2, o3, o4)) fun t7 => (bif t7 then (exit (Sum.inl ((3 : Int)))) else (bif (↑(List.length t2) : Int) != (64 : Int) then (exit (Sum.inl ((12 : Int)))) else (exit (Sum.inr ())))))
def nodeDref08_Disk_may_n0 (i : Iref08_Disk_may_n0) : Option Yref08_Disk_may_n0 := noderef08_Disk_may_n0 i some
theorem noderef08_Disk_may_n0_nat (i : Iref08_Disk_may_n0) (k : Yref08_Disk_may_n0 → Ans) : noderef08_Disk_may_n0 i k = bindO (nodeDref08_Disk_may_n0 i) k := by
  obtain ⟨t1, t2, o0_3, o0_5, o0_6, o1, o2, o3, o4⟩ := i
  simp only [nodeDref08_Disk_may_n0, noderef08_Disk_may_n0, bindO_cond, bindO_assoc, bindO_none, bindO_pure, bindO_elim, bindO_unP]
theorem noderef08_Disk_may_n0_ok (i : Iref08_Disk_may_n0) (K : Ex → St → Ans) : codeI Try.tab envref08_Disk_may noHint (codeD Try.tab envref08_Disk_may noHint 0 64) 70 23 annLref08_Disk_may_n0 Lref08_Disk_may_n0 (weakP 5 (exk [] [6] []) K) (Sref08_Disk_may_n0 i) = noderef08_Disk_may_n0 i (outref08_Disk_may_n0 i K) := by kernel_rfl
theorem GNref08_Disk_may_n0_ok : CSum Try.prog 23 Lref08_Disk_may_n0 (sumN decref08_Disk_may_n0 nodeDref08_Disk_may_n0 outref08_Disk_may_n0) := csum_node mixed tabOk envref08_Disk_mayOk 5 (exk [] [6] []) annLref08_Disk_may_n0_ok decref08_Disk_may_n0_ok noderef08_Disk_may_n0_ok noderef08_Disk_may_n0_nat
noncomputable def Gref08_Disk_may_n0 : (Ex → St → Ans) → St → Ans := (sumN decref08_Disk_may_n0 nodeDref08_Disk_may_n0 outref08_Disk_may_n0)
theorem Gref08_Disk_may_n0_ok : CSum Try.prog 23 Lref08_Disk_may_n0 Gref08_Disk_may_n0 := GNref08_Disk_may_n0_ok
noncomputable def annref08_Disk_may : Ann := (.seq .none (.seq (.cut 5 [0, 1, 2] Gref08_Disk_may_n0) .none))
theorem annref08_Disk_may_ok : AnnOk Try.prog 23 bref08_Disk_may annref08_Disk_may := ⟨(annOk_none _ _ _), ⟨Gref08_Disk_may_n0_ok, (annOk_none _ _ _)⟩⟩
abbrev Aref08_Disk_may := (Int) × (List UInt8) × (Int) × (Int) × (Bool) × (List (List UInt8)) × (List (List UInt8)) × (List (Int × List UInt8)) × (List Int)
abbrev Yref08_Disk_may := (Int)
def fnref08_Disk_may {β : Type} : Aref08_Disk_may → (Yref08_Disk_may → Option β) → Option β := fun (a1, a2, o0_3, o0_5, o0_6, o1, o2, o3, o4) exit => (bindO (nodeDref08_Disk_may_n0 (a1, a2, o0_3, o0_5, o0_6, o1, o2, o3, o4)) (Sum.elim (fun t6 => (exit (t6))) (fun _ => (exit ((0 : Int))))))
def fnDref08_Disk_may (a : Aref08_Disk_may) : Option Yref08_Disk_may := fnref08_Disk_may a some
theorem fnref08_Disk_may_nat (a : Aref08_Disk_may) (k : Yref08_Disk_may → Ans) : fnref08_Disk_may a k = bindO (fnDref08_Disk_may a) k := by
  obtain ⟨a1, a2, o0_3, o0_5, o0_6, o1, o2, o3, o4⟩ := a
  simp only [fnDref08_Disk_may, fnref08_Disk_may, bindO_cond, bindO_assoc, bindO_none, bindO_pure, bindO_elim, bindO_unP]
def argsref08_Disk_may : Aref08_Disk_may → List AV × List AE.Obj := fun (a1, a2, o0_3, o0_5, o0_6, o1, o2, o3, o4) => ([AV.ptr 0 0, AV.int IntKind.i64 a1, AV.str a2], [AE.Obj.cells [AV.own 1, AV.own 2, AV.own 3, AV.int IntKind.i64 o0_3, AV.own 4, AV.int IntKind.i64 o0_5, AV.bool o0_6], Obj.arr Ty.str o1, Obj.arr Ty.str o2, Obj.arr (Ty.st (Ty.pair (Ty.int IntKind.i64) Ty.str)) o3, Obj.arr (Ty.int IntKind.i64) o4])
def decAref08_Disk_may (l : List AV) (H : List AE.Obj) : Option Aref08_Disk_may := match l, H with
  | [AV.ptr 0 0, AV.int IntKind.i64 a1, AV.str a2], [AE.Obj.cells [AV.own 1, AV.own 2, AV.own 3, AV.int IntKind.i64 o0_3, AV.own 4, AV.int IntKind.i64 o0_5, AV.bool o0_6], Obj.arr Ty.str o1, Obj.arr Ty.str o2, Obj.arr (Ty.st (Ty.pair (Ty.int IntKind.i64) Ty.str)) o3, Obj.arr (Ty.int IntKind.i64) o4] => some (a1, a2, o0_3, o0_5, o0_6, o1, o2, o3, o4)
  | _, _ => none
theorem decAref08_Disk_may_ok (l : List AV) (H : List AE.Obj) (a : Aref08_Disk_may) (h : decAref08_Disk_may l H = some a) : (l, H) = argsref08_Disk_may a := by
  unfold decAref08_Disk_may at h
  split at h
  · cases h; rfl
  · cases h
def outref08_Disk_may : Aref08_Disk_may → (AV → List AE.Obj → Ans) → Yref08_Disk_may → Ans := fun (a1, a2, o0_3, o0_5, o0_6, o1, o2, o3, o4) K => fun r_y => K (AV.int IntKind.i64 r_y) [AE.Obj.cells [AV.own 1, AV.own 2, AV.own 3, AV.int IntKind.i64 o0_3, AV.own 4, AV.int IntKind.i64 o0_5, AV.bool o0_6], Obj.arr Ty.str o1, Obj.arr Ty.str o2, Obj.arr (Ty.st (Ty.pair (Ty.int IntKind.i64) Ty.str)) o3, Obj.arr (Ty.int IntKind.i64) o4]
theorem fnref08_Disk_may_ok (a : Aref08_Disk_may) (K : AV → List AE.Obj → Ans) : fnE Try.tab envref08_Disk_may noHint 0 70 82 Try.f82.ntmps Try.f82.results.toList annref08_Disk_may bref08_Disk_may (argsref08_Disk_may a).1 (argsref08_Disk_may a).2 K = fnref08_Disk_may a (outref08_Disk_may a K) := by kernel_rfl
def vFref08_Disk_may (a : Aref08_Disk_may) (K : AV → List AE.Obj → Ans) : Ans := bindO (fnDref08_Disk_may a) fun y => outref08_Disk_may a K y
def Fref08_Disk_may : List AV → List AE.Obj → (AV → List AE.Obj → Ans) → Ans := fun l H K => bindO (decAref08_Disk_may l H) fun a => vFref08_Disk_may a K
theorem Fref08_Disk_may_ok : FuncOk Try.prog 82 Fref08_Disk_may := func_mkD (hint := noHint) (d := 0) (n := 70) mixed tabOk envref08_Disk_mayOk Try.func82 (bodySome (by kernel_rfl)) (by decide +kernel) annref08_Disk_may_ok decAref08_Disk_may_ok fnref08_Disk_may_ok fnref08_Disk_may_nat
--@ ref08_Disk_put
noncomputable def envref08_Disk_put : Env := []
theorem envref08_Disk_putOk : EnvOk Try.prog envref08_Disk_put := EnvOk.nil
noncomputable def bref08_Disk_put : Code := Try.f83.body.getD .skip
noncomputable def annref08_Disk_put : Ann := .none
theorem annref08_Disk_put_ok : AnnOk Try.prog 36 bref08_Disk_put annref08_Disk_put := (annOk_none _ _ _)
abbrev Aref08_Disk_put := (Int) × (List UInt8) × (Int) × (Int) × (Bool) × (List (List UInt8)) × (List (List UInt8)) × (List (Int × List UInt8)) × (List Int)
abbrev Yref08_Disk_put := (List (List UInt8)) × (List (Int × List UInt8))
def fnref08_Disk_put {β : Type} : Aref08_Disk_put → (Yref08_Disk_put → Option β) → Option β := fun (a1, a2, o0_3, o0_5, o0_6, o1, o2, o3, o4) exit => (bif Nat.ble (((0 : Nat) + List.length o2) * (16 : Nat)) (140737488355328 : Nat) then (bif inR a1 (List.length o2) then (bindO (o2[Int.toNat a1]?) fun x => (bif Nat.ble (((0 : Nat) + List.length o3) * (24 : Nat)) (140737488355328 : Nat) then (bif Nat.ble ((List.length o3 + List.length [(a1, a2)]) * (24 : Nat)) (140737488355328 : Nat) then (exit (List.set o2 (Int.toNat a1) a2, o3 ++ [(a1, a2)])) else none) else none)) else none) else none)
def fnDref08_Disk_put (a : Aref08_Disk_put) : Option Yref08_Disk_put := fnref08_Disk_put a some
theorem fnref08_Disk_put_nat (a : Aref08_Disk_put) (k : Yref08_Disk_put → Ans) : fnref08_Disk_put a k = bindO (fnDref08_Disk_put a) k := by
  obtain ⟨a1, a2, o0_3, o0_5, o0_6, o1, o2, o3, o4⟩ := a
  simp only [fnDref08_Disk_put, fnref08_Disk_put, bindO_cond, bindO_assoc, bindO_none, bindO_pure, bindO_elim, bindO_unP]
def argsref08_Disk_put : Aref08_Disk_put → List AV × List AE.Obj := fun (a1, a2, o0_3, o0_5, o0_6, o1, o2, o3, o4) => ([AV.ptr 0 0, AV.int IntKind.i64 a1, AV.str a2], [AE.Obj.cells [AV.own 1, AV.own 2, AV.own 3, AV.int IntKind.i64 o0_3, AV.own 4, AV.int IntKind.i64 o0_5, AV.bool o0_6], Obj.arr Ty.str o1, Obj.arr Ty.str o2, Obj.arr (Ty.st (Ty.pair (Ty.int IntKind.i64) Ty.str)) o3, Obj.arr (Ty.int IntKind.i64) o4])
def decAref08_Disk_put (l : List AV) (H : List AE.Obj) : Option Aref08_Disk_put := match l, H with
  | [AV.ptr 0 0, AV.int IntKind.i64 a1, AV.str a2], [AE.Obj.cells [AV.own 1, AV.own 2, AV.own 3, AV.int IntKind.i64 o0_3, AV.own 4, AV.int IntKind.i64 o0_5, AV.bool o0_6], Obj.arr Ty.str o1, Obj.arr Ty.str o2, Obj.arr (Ty.st (Ty.pair (Ty.int IntKind.i64) Ty.str)) o3, Obj.arr (Ty.int IntKind.i64) o4] => some (a1, a2, o0_3, o0_5, o0_6, o1, o2, o3, o4)
  | _, _ => none
theorem decAref08_Disk_put_ok (l : List AV) (H : List AE.Obj) (a : Aref08_Disk_put) (h : decAref08_Disk_put l H = some a) : (l, H) = argsref08_Disk_put a := by
  unfold decAref08_Disk_put at h
  split at h
  · cases h; rfl
  · cases h
def outref08_Disk_put : Aref08_Disk_put → (AV → List AE.Obj → Ans) → Yref08_Disk_put → Ans := fun (a1, a2, o0_3, o0_5, o0_6, o1, o2, o3, o4) K => unP fun o5_y o6_y => K (AV.tup []) [AE.Obj.cells [AV.own 1, AV.own 5, AV.own 6, AV.int IntKind.i64 o0_3, AV.own 4, AV.int IntKind.i64 o0_5, AV.bool o0_6], Obj.arr Ty.str o1, Obj.arr Ty.str o2, Obj.arr (Ty.st (Ty.pair (Ty.int IntKind.i64) Ty.str)) o3, Obj.arr (Ty.int IntKind.i64) o4, Obj.arr Ty.str o5_y, Obj.arr (Ty.st (Ty.pair (Ty.int IntKind.i64) Ty.str)) o6_y]
theorem fnref08_Disk_put_ok (a : Aref08_Disk_put) (K : AV → List AE.Obj → Ans) : fnE Try.tab envref08_Disk_put noHint 0 70 83 Try.f83.ntmps Try.f83.results.toList annref08_Disk_put bref08_Disk_put (argsref08_Disk_put a).1 (argsref08_Disk_put a).2 K = fnref08_Disk_put a (outref08_Disk_put a K) := by kernel_rfl
def vFref08_Disk_put (a : Aref08_Disk_put) (K : AV → List AE.Obj → Ans) : Ans := bindO (fnDref08_Disk_put a) fun y => outref08_Disk_put a K y
def Fref08_Disk_put : List AV → List AE.Obj → (AV → List AE.Obj → Ans) → Ans := fun l H K => bindO (decAref08_Disk_put l H) fun a => vFref08_Disk_put a K
theorem Fref08_Disk_put_ok : FuncOk Try.prog 83 Fref08_Disk_put := func_mkD (hint := noHint) (d := 0) (n := 70) mixed tabOk envref08_Disk_putOk Try.func83 (bodySome (by kernel_rfl)) (by decide +kernel) annref08_Disk_put_ok decAref08_Disk_put_ok fnref08_Disk_put_ok fnref08_Disk_put_nat
--@ ref08_Disk_Write
noncomputable def envref08_Disk_Write : Env := [(81, .func Fref08_Disk_call), (82, .func Fref08_Disk_may), (83, .func Fref08_Disk_put)]
theorem envref08_Disk_WriteOk : EnvOk Try.prog envref08_Disk_Write := EnvOk.cons Fref08_Disk_call_ok (EnvOk.cons Fref08_Disk_may_ok (EnvOk.cons Fref08_Disk_put_ok (EnvOk.nil)))
noncomputable def bref08_Disk_Write : Code := Try.f63.body.getD .skip
noncomputable def Lref08_Disk_Write_n1 : Code := codeAt [1, 1, 1, 0, 1] bref08_Disk_Write
noncomputable def annLref08_Disk_Write_n1 : Ann := .none
theorem annLref08_Disk_Write_n1_ok : AnnOk Try.prog 36 Lref08_Disk_Write_n1 annLref08_Disk_Write_n1 := (annOk_none _ _ _)
abbrev Iref08_Disk_Write_n1 := (Int) × (List UInt8) × (Int) × (Int) × (Bool) × (Int) × (Int) × (Bool) × (List (List UInt8)) × (List (List UInt8)) × (List (Int × List UInt8)) × (List Int)
abbrev Yref08_Disk_Write_n1 := ((List (List UInt8)) × (List (Int × List UInt8))) ⊕ (Unit)
def Sref08_Disk_Write_n1 : Iref08_Disk_Write_n1 → St := fun (t1, t2, t7, t9, t27, o0_3, o0_5, o0_6, o1, o2, o3, o4) => { env := [(0, AV.ptr 0 0), (1, AV.int IntKind.i64 t1), (2, AV.str t2), (7, AV.int IntKind.i64 t7), (9, AV.int IntKind.i64 t9), (27, AV.bool t27)], stk := [[(0, AV.ptr 0 0)]], H := [AE.Obj.cells [AV.own 1, AV.own 2, AV.own 3, AV.int IntKind.i64 o0_3, AV.own 4, AV.int IntKind.i64 o0_5, AV.bool o0_6], Obj.arr Ty.str o1, Obj.arr Ty.str o2, Obj.arr (Ty.st (Ty.pair (Ty.int IntKind.i64) Ty.str)) o3, Obj.arr (Ty.int IntKind.i64) o4], blk := 258048 }
def decref08_Disk_Write_n1 (s : St) : Option Iref08_Disk_Write_n1 := match s with
  | { env := [(0, AV.ptr 0 0), (1, AV.int IntKind.i64 t1), (2, AV.str t2), (7, AV.int IntKind.i64 t7), (9, AV.int IntKind.i64 t9), (27, AV.bool t27)], stk := [[(0, AV.ptr 0 0)]], H := [AE.Obj.cells [AV.own 1, AV.own 2, AV.own 3, AV.int IntKind.i64 o0_3, AV.own 4, AV.int IntKind.i64 o0_5, AV.bool o0_6], Obj.arr Ty.str o1, Obj.arr Ty.str o2, Obj.arr (Ty.st (Ty.pair (Ty.int IntKind.i64) Ty.str)) o3, Obj.arr (Ty.int IntKind.i64) o4], blk := 258048 } => some (t1, t2, t7, t9, t27, o0_3, o0_5, o0_6, o1, o2, o3, o4)
  | _ => none
theorem decref08_Disk_Write_n1_ok (s : St) (x : Iref08_Disk_Write_n1) (h : decref08_Disk_Write_n1 s = some x) : s = Sref08_Disk_Write_n1 x := by
  unfold decref08_Disk_Write_n1 at h
  split at h
  · cases h; rfl
  · cases h
def outref08_Disk_Write_n1 : Iref08_Disk_Write_n1 → (Ex → St → Ans) → Yref08_Disk_Write_n1 → Ans := fun (t1, t2, t7, t9, t27, o0_3, o0_5, o0_6, o1, o2, o3, o4) K => (Sum.elim (unP fun o5_y o6_y => K (Ex.norm) { env := [(7, AV.int IntKind.i64 t7), (9, AV.int IntKind.i64 t9)], stk := [[(0, AV.ptr 0 0)]], H := [AE.Obj.cells [AV.own 1, AV.own 5, AV.own 6, AV.int IntKind.i64 o0_3, AV.own 4, AV.int IntKind.i64 o0_5, AV.bool o0_6], Obj.arr Ty.str o1, Obj.arr Ty.str o2, Obj.arr (Ty.st (Ty.pair (Ty.int IntKind.i64) Ty.str)) o3, Obj.arr (Ty.int IntKind.i64) o4, Obj.arr Ty.str o5_y, Obj.arr (Ty.st (Ty.pair (Ty.int IntKind.i64) Ty.str)) o6_y], blk := 258048 }) (fun _ => K (Ex.norm) { env := [(7, AV.int IntKind.i64 t7), (9, AV.int IntKind.i64 t9)], stk := [[(0, AV.ptr 0 0)]], H := [AE.Obj.cells [AV.own 1, AV.own 2, AV.own 3, AV.int IntKind.i64 o0_3, AV.own 4, AV.int IntKind.i64 o0_5, AV.bool o0_6], Obj.arr Ty.str o1, Obj.arr Ty.str o2, Obj.arr (Ty.st (Ty.pair (Ty.int IntKind.i64) Ty.str)) o3, Obj.arr (Ty.int IntKind.i64) o4], blk := 258048 }))
def noderef08_Disk_Write_n1 {β : Type} : Iref08_Disk_Write_n1 → (Yref08_Disk_Write_n1 → Option β) → Option β := fun (t1, t2, t7, t9, t27, o0_3, o0_5, o0_6, o1, o2, o3, o4) exit => (bif t27 then (bindO (fnDref08_Disk_put (t1, t2, o0_3, o0_5, o0_6, o1, o2, o3, o4)) (unP fun o5 o6 => (exit (Sum.inl (o5, o6))))) else (exit (Sum.inr ())))
def nodeDref08_Disk_Write_n1 (i : Iref08_Disk_Write_n1) : Option Yref08_Disk_Write_n1 := noderef08_Disk_Write_n1 i some
theorem noderef08_Disk_Write_n1_nat (i : Iref08_Disk_Write_n1) (k : Yref08_Disk_Write_n1 → Ans) : noderef08_Disk_Write_n1 i k = bindO (nodeDref08_Disk_Write_n1 i) k := by
  obtain ⟨t1, t2, t7, t9, t27, o0_3, o0_5, o0_6, o1, o2, o3, o4⟩ := i
  simp only [nodeDref08_Disk_Write_n1, noderef08_Disk_Write_n1, bindO_cond, bindO_assoc, bindO_none, bindO_pure, bindO_elim, bindO_unP]
theorem noderef08_Disk_Write_n1_ok (i : Iref08_Disk_Write_n1) (K : Ex → St → Ans) : codeI Try.tab envref08_Disk_Write noHint (codeD Try.tab envref08_Disk_Write noHint 0 64) 70 36 annLref08_Disk_Write_n1 Lref08_Disk_Write_n1 (weakP 5 (exk [7, 9] [6] []) K) (Sref08_Disk_Write_n1 i) = noderef08_Disk_Write_n1 i (outref08_Disk_Write_n1 i K) := by kernel_rfl
theorem GNref08_Disk_Write_n1_ok : CSum Try.prog 36 Lref08_Disk_Write_n1 (sumN decref08_Disk_Write_n1 nodeDref08_Disk_Write_n1 outref08_Disk_Write_n1) := csum_node mixed tabOk envref08_Disk_WriteOk 5 (exk [7, 9] [6] []) annLref08_Disk_Write_n1_ok decref08_Disk_Write_n1_ok noderef08_Disk_Write_n1_ok noderef08_Disk_Write_n1_nat
noncomputable def Gref08_Disk_Write_n1 : (Ex → St → Ans) → St → Ans := (sumN decref08_Disk_Write_n1 nodeDref08_Disk_Write_n1 outref08_Disk_Write_n1)
theorem Gref08_Disk_Write_n1_ok : CSum Try.prog 36 Lref08_Disk_Write_n1 Gref08_Disk_Write_n1 := GNref08_Disk_Write_n1_ok
noncomputable def Lref08_Disk_Write_n0 : Code := codeAt [1, 1, 1, 0, 0] bref08_Disk_Write
noncomputable def annLref08_Disk_Write_n0 : Ann := .none
theorem annLref08_Disk_Write_n0_ok : AnnOk Try.prog 36 Lref08_Disk_Write_n0 annLref08_Disk_Write_n0 := (annOk_none _ _ _)
abbrev Iref08_Disk_Write_n0 := (Int) × (List UInt8) × (Int) × (Bool) × (Int) × (Int) × (Int) × (Bool) × (List (List UInt8)) × (List (List UInt8)) × (List (Int × List UInt8)) × (List Int)
abbrev Yref08_Disk_Write_n0 := (Bool)
def Sref08_Disk_Write_n0 : Iref08_Disk_Write_n0 → St := fun (t1, t2, t7, t8, t9, o0_3, o0_5, o0_6, o1, o2, o3, o4) => { env := [(0, AV.ptr 0 0), (1, AV.int IntKind.i64 t1), (2, AV.str t2), (7, AV.int IntKind.i64 t7), (8, AV.bool t8), (9, AV.int IntKind.i64 t9)], stk := [[(0, AV.ptr 0 0)]], H := [AE.Obj.cells [AV.own 1, AV.own 2, AV.own 3, AV.int IntKind.i64 o0_3, AV.own 4, AV.int IntKind.i64 o0_5, AV.bool o0_6], Obj.arr Ty.str o1, Obj.arr Ty.str o2, Obj.arr (Ty.st (Ty.pair (Ty.int IntKind.i64) Ty.str)) o3, Obj.arr (Ty.int IntKind.i64) o4], blk := 258048 }
def decref08_Disk_Write_n0 (s : St) : Option Iref08_Disk_Write_n0 := match s with
  | { env := [(0, AV.ptr 0 0), (1, AV.int IntKind.i64 t1), (2, AV.str t2), (7, AV.int IntKind.i64 t7), (8, AV.bool t8), (9, AV.int IntKind.i64 t9)], stk := [[(0, AV.ptr 0 0)]], H := [AE.Obj.cells [AV.own 1, AV.own 2, AV.own 3, AV.int IntKind.i64 o0_3, AV.own 4, AV.int IntKind.i64 o0_5, AV.bool o0_6], Obj.arr Ty.str o1, Obj.arr Ty.str o2, Obj.arr (Ty.st (Ty.pair (Ty.int IntKind.i64) Ty.str)) o3, Obj.arr (Ty.int IntKind.i64) o4], blk := 258048 } => some (t1, t2, t7, t8, t9, o0_3, o0_5, o0_6, o1, o2, o3, o4)
  | _ => none
theorem decref08_Disk_Write_n0_ok (s : St) (x : Iref08_Disk_Write_n0) (h : decref08_Disk_Write_n0 s = some x) : s = Sref08_Disk_Write_n0 x := by
  unfold decref08_Disk_Write_n0 at h
  split at h
  · cases h; rfl
  · cases h
def outref08_Disk_Write_n0 : Iref08_Disk_Write_n0 → (Ex → St → Ans) → Yref08_Disk_Write_n0 → Ans := fun (t1, t2, t7, t8, t9, o0_3, o0_5, o0_6, o1, o2, o3, o4) K => fun t27_y => K (Ex.norm) { env := [(0, AV.ptr 0 0), (1, AV.int IntKind.i64 t1), (2, AV.str t2), (7, AV.int IntKind.i64 t7), (9, AV.int IntKind.i64 t9), (27, AV.bool t27_y)], stk := [[(0, AV.ptr 0 0)]], H := [AE.Obj.cells [AV.own 1, AV.own 2, AV.own 3, AV.int IntKind.i64 o0_3, AV.own 4, AV.int IntKind.i64 o0_5, AV.bool o0_6], Obj.arr Ty.str o1, Obj.arr Ty.str o2, Obj.arr (Ty.st (Ty.pair (Ty.int IntKind.i64) Ty.str)) o3, Obj.arr (Ty.int IntKind.i64) o4], blk := 258048 }
def noderef08_Disk_Write_n0 {β : Type} : Iref08_Disk_Write_n0 → (Yref08_Disk_Write_n0 → Option β) → Option β := fun (t1, t2, t7, t8, t9, o0_3, o0_5, o0_6, o1, o2, o3, o4) exit => (bif t9 == (0 : Int) then (bif t7 == (0 : Int) then (exit (true)) else (exit (t8))) else (exit (false)))
def nodeDref08_Disk_Write_n0 (i : Iref08_Disk_Write_n0) : Option Yref08_Disk_Write_n0 := noderef08_Disk_Write_n0 i some
theorem noderef08_Disk_Write_n0_nat (i : Iref08_Disk_Write_n0) (k : Yref08_Disk_Write_n0 → Ans) : noderef08_Disk_Write_n0 i k = bindO (nodeDref08_Disk_Write_n0 i) k := by
  obtain ⟨t1, t2, t7, t8, t9, o0_3, o0_5, o0_6, o1, o2, o3, o4⟩ := i
  simp only [nodeDref08_Disk_Write_n0, noderef08_Disk_Write_n0, bindO_cond, bindO_assoc, bindO_none, bindO_pure, bindO_elim, bindO_unP]
theorem noderef08_Disk_Write_n0_ok (i : Iref08_Disk_Write_n0) (K : Ex → St → Ans) : codeI Try.tab envref08_Disk_Write noHint (codeD Try.tab envref08_Disk_Write noHint 0 64) 70 36 annLref08_Disk_Write_n0 Lref08_Disk_Write_n0 (weakP 5 (exk [0, 1, 2, 7, 9, 27] [6] []) K) (Sref08_Disk_Write_n0 i) = noderef08_Disk_Write_n0 i (outref08_Disk_Write_n0 i K) := by kernel_rfl
theorem GNref08_Disk_Write_n0_ok : CSum Try.prog 36 Lref08_Disk_Write_n0 (sumN decref08_Disk_Write_n0 nodeDref08_Disk_Write_n0 outref08_Disk_Write_n0) := csum_node mixed tabOk envref08_Disk_WriteOk 5 (exk [0, 1, 2, 7, 9, 27] [6] []) annLref08_Disk_Write_n0_ok decref08_Disk_Write_n0_ok noderef08_Disk_Write_n0_ok noderef08_Disk_Write_n0_nat
noncomputable def Gref08_Disk_Write_n0 : (Ex → St → Ans) → St → Ans := (sumN decref08_Disk_Write_n0 nodeDref08_Disk_Write_n0 outref08_Disk_Write_n0)
theorem Gref08_Disk_Write_n0_ok : CSum Try.prog 36 Lref08_Disk_Write_n0 Gref08_Disk_Write_n0 := GNref08_Disk_Write_n0_ok
noncomputable def annref08_Disk_Write : Ann := (.seq .none (.seq .none (.seq .none (.seq (.seq (.cut 5 [0, 1, 2, 7, 8, 9] Gref08_Disk_Write_n0) (.cut 5 [0, 1, 2, 7, 9, 27] Gref08_Disk_Write_n1)) .none))))
theorem annref08_Disk_Write_ok : AnnOk Try.prog 36 bref08_Disk_Write annref08_Disk_Write := ⟨(annOk_none _ _ _), ⟨(annOk_none _ _ _), ⟨(annOk_none _ _ _), ⟨⟨Gref08_Disk_Write_n0_ok, Gref08_Disk_Write_n1_ok⟩, (annOk_none _ _ _)⟩⟩⟩⟩
abbrev Aref08_Disk_Write := (Int) × (List UInt8) × (Int) × (Int) × (Bool) × (List (List UInt8)) × (List (List UInt8)) × (List (Int × List UInt8)) × (List Int)
abbrev Yref08_Disk_Write := ((Int) × (Int) × (Bool) × (List (List UInt8)) × (List (Int × List UInt8))) ⊕ ((Int) × (Int) × (Bool))
def fnref08_Disk_Write {β : Type} : Aref08_Disk_Write → (Yref08_Disk_Write → Option β) → Option β := fun (a1, a2, o0_3, o0_5, o0_6, o1, o2, o3, o4) exit => (bindO (fnDref08_Disk_call (o0_3, o0_5, o0_6, o1, o2, o3, o4)) (unP fun r_0 => unP fun r_1 => unP fun o0_3_2 o0_6_2 => (bindO (fnDref08_Disk_may (a1, a2, o0_3_2, o0_5, o0_6_2, o1, o2, o3, o4)) fun r => (bindO (nodeDref08_Disk_Write_n0 (a1, a2, r_0, r_1, r, o0_3_2, o0_5, o0_6_2, o1, o2, o3, o4)) fun t27 => (bindO (nodeDref08_Disk_Write_n1 (a1, a2, r_0, r, t27, o0_3_2, o0_5, o0_6_2, o1, o2, o3, o4)) (Sum.elim (unP fun o5 o6 => (bif r_0 != (0 : Int) then (exit (Sum.inl (r_0, o0_3_2, o0_6_2, o5, o6))) else (exit (Sum.inl (r, o0_3_2, o0_6_2, o5, o6))))) (fun _ => (bif r_0 != (0 : Int) then (exit (Sum.inr (r_0, o0_3_2, o0_6_2))) else (exit (Sum.inr (r, o0_3_2, o0_6_2)))))))))))
def fnDref08_Disk_Write (a : Aref08_Disk_Write) : Option Yref08_Disk_Write := fnref08_Disk_Write a some
theorem fnref08_Disk_Write_nat (a : Aref08_Disk_Write) (k : Yref08_Disk_Write → Ans) : fnref08_Disk_Write a k = bindO (fnDref08_Disk_Write a) k := by
  obtain ⟨a1, a2, o0_3, o0_5, o0_6, o1, o2, o3, o4⟩ := a
  simp only [fnDref08_Disk_Write, fnref08_Disk_Write, bindO_cond, bindO_assoc, bindO_none, bindO_pure, bindO_elim, bindO_unP]
def argsref08_Disk_Write : Aref08_Disk_Write → List AV × List AE.Obj := fun (a1, a2, o0_3, o0_5, o0_6, o1, o2, o3, o4) => ([AV.ptr 0 0, AV.int IntKind.i64 a1, AV.str a2], [AE.Obj.cells [AV.own 1, AV.own 2, AV.own 3, AV.int IntKind.i64 o0_3, AV.own 4, AV.int IntKind.i64 o0_5, AV.bool o0_6], Obj.arr Ty.str o1, Obj.arr Ty.str o2, Obj.arr (Ty.st (Ty.pair (Ty.int IntKind.i64) Ty.str)) o3, Obj.arr (Ty.int IntKind.i64) o4])
def decAref08_Disk_Write (l : List AV) (H : List AE.Obj) : Option Aref08_Disk_Write := match l, H with
  | [AV.ptr 0 0, AV.int IntKind.i64 a1, AV.str a2], [AE.Obj.cells [AV.own 1, AV.own 2, AV.own 3, AV.int IntKind.i64 o0_3, AV.own 4, AV.int IntKind.i64 o0_5, AV.bool o0_6], Obj.arr Ty.str o1, Obj.arr Ty.str o2, Obj.arr (Ty.st (Ty.pair (Ty.int IntKind.i64) Ty.str)) o3, Obj.arr (Ty.int IntKind.i64) o4] => some (a1, a2, o0_3, o0_5, o0_6, o1, o2, o3, o4)
  | _, _ => none
theorem decAref08_Disk_Write_ok (l : List AV) (H : List AE.Obj) (a : Aref08_Disk_Write) (h : decAref08_Disk_Write l H = some a) : (l, H) = argsref08_Disk_Write a := by
  unfold decAref08_Disk_Write at h
  split at h
  · cases h; rfl
  · cases h
def outref08_Disk_Write : Aref08_Disk_Write → (AV → List AE.Obj → Ans) → Yref08_Disk_Write → Ans := fun (a1, a2, o0_3, o0_5, o0_6, o1, o2, o3, o4) K => (Sum.elim (unP fun r_y => unP fun o0_3_y => unP fun o0_6_y => unP fun o5_y o6_y => K (AV.int IntKind.i64 r_y) [AE.Obj.cells [AV.own 1, AV.own 5, AV.own 6, AV.int IntKind.i64 o0_3_y, AV.own 4, AV.int IntKind.i64 o0_5, AV.bool o0_6_y], Obj.arr Ty.str o1, Obj.arr Ty.str o2, Obj.arr (Ty.st (Ty.pair (Ty.int IntKind.i64) Ty.str)) o3, Obj.arr (Ty.int IntKind.i64) o4, Obj.arr Ty.str o5_y, Obj.arr (Ty.st (Ty.pair (Ty.int IntKind.i64) Ty.str)) o6_y]) (unP fun r_y => unP fun o0_3_y o0_6_y => K (AV.int IntKind.i64 r_y) [AE.Obj.cells [AV.own 1, AV.own 2, AV.own 3, AV.int IntKind.i64 o0_3_y, AV.own 4, AV.int IntKind.i64 o0_5, AV.bool o0_6_y], Obj.arr Ty.str o1, Obj.arr Ty.str o2, Obj.arr (Ty.st (Ty.pair (Ty.int IntKind.i64) Ty.str)) o3, Obj.arr (Ty.int IntKind.i64) o4]))
theorem fnref08_Disk_Write_ok (a : Aref08_Disk_Write) (K : AV → List AE.Obj → Ans) : fnE Try.tab envref08_Disk_Write noHint 0 70 63 Try.f63.ntmps Try.f63.results.toList annref08_Disk_Write bref08_Disk_Write (argsref08_Disk_Write a).1 (argsref08_Disk_Write a).2 K = fnref08_Disk_Write a (outref08_Disk_Write a K) := by kernel_rfl
def vFref08_Disk_Write (a : Aref08_Disk_Write) (K : AV → List AE.Obj → Ans) : Ans := bindO (fnDref08_Disk_Write a) fun y => outref08_Disk_Write a K y
def Fref08_Disk_Write : List AV → List AE.Obj → (AV → List AE.Obj → Ans) → Ans := fun l H K => bindO (decAref08_Disk_Write l H) fun a => vFref08_Disk_Write a K
theorem Fref08_Disk_Write_ok : FuncOk Try.prog 63 Fref08_Disk_Write := func_mkD (hint := noHint) (d := 0) (n := 70) mixed tabOk envref08_Disk_WriteOk Try.func63 (bodySome (by kernel_rfl)) (by decide +kernel) annref08_Disk_Write_ok decAref08_Disk_Write_ok fnref08_Disk_Write_ok fnref08_Disk_Write_nat
--@ ref08_Disk_Flush
noncomputable def envref08_Disk_Flush : Env := [(81, .func Fref08_Disk_call)]
theorem envref08_Disk_FlushOk : EnvOk Try.prog envref08_Disk_Flush := EnvOk.cons Fref08_Disk_call_ok (EnvOk.nil)
noncomputable def bref08_Disk_Flush : Code := Try.f64.body.getD .skip
noncomputable def Lref08_Disk_Flush_n0 : Code := codeAt [1, 1, 0, 1] bref08_Disk_Flush
noncomputable def annLref08_Disk_Flush_n0 : Ann := .none
theorem annLref08_Disk_Flush_n0_ok : AnnOk Try.prog 25 Lref08_Disk_Flush_n0 annLref08_Disk_Flush_n0 := (annOk_none _ _ _)
abbrev Iref08_Disk_Flush_n0 := (Int) × (Bool) × (Int) × (Int) × (Bool) × (List (List UInt8)) × (List (List UInt8)) × (List (Int × List UInt8)) × (List Int)
abbrev Yref08_Disk_Flush_n0 := (Unit) ⊕ (Unit)
def Sref08_Disk_Flush_n0 : Iref08_Disk_Flush_n0 → St := fun (t3, t11, o0_3, o0_5, o0_6, o1, o2, o3, o4) => { env := [(0, AV.ptr 0 0), (3, AV.int IntKind.i64 t3), (11, AV.bool t11)], stk := [[(0, AV.ptr 0 0)]], H := [AE.Obj.cells [AV.own 1, AV.own 2, AV.own 3, AV.int IntKind.i64 o0_3, AV.own 4, AV.int IntKind.i64 o0_5, AV.bool o0_6], Obj.arr Ty.str o1, Obj.arr Ty.str o2, Obj.arr (Ty.st (Ty.pair (Ty.int IntKind.i64) Ty.str)) o3, Obj.arr (Ty.int IntKind.i64) o4], blk := 262144 }
def decref08_Disk_Flush_n0 (s : St) : Option Iref08_Disk_Flush_n0 := match s with
  | { env := [(0, AV.ptr 0 0), (3, AV.int IntKind.i64 t3), (11, AV.bool t11)], stk := [[(0, AV.ptr 0 0)]], H := [AE.Obj.cells [AV.own 1, AV.own 2, AV.own 3, AV.int IntKind.i64 o0_3, AV.own 4, AV.int IntKind.i64 o0_5, AV.bool o0_6], Obj.arr Ty.str o1, Obj.arr Ty.str o2, Obj.arr (Ty.st (Ty.pair (Ty.int IntKind.i64) Ty.str)) o3, Obj.arr (Ty.int IntKind.i64) o4], blk := 262144 } => some (t3, t11, o0_3, o0_5, o0_6, o1, o2, o3, o4)
  | _ => none
theorem decref08_Disk_Flush_n0_ok (s : St) (x : Iref08_Disk_Flush_n0) (h : decref08_Disk_Flush_n0 s = some x) : s = Sref08_Disk_Flush_n0 x := by
  unfold decref08_Disk_Flush_n0 at h
  split at h
  · cases h; rfl
  · cases h
def outref08_Disk_Flush_n0 : Iref08_Disk_Flush_n0 → (Ex → St → Ans) → Yref08_Disk_Flush_n0 → Ans := fun (t3, t11, o0_3, o0_5, o0_6, o1, o2, o3, o4) K => (Sum.elim (fun _ => K (Ex.norm) { env := [(3, AV.int IntKind.i64 t3)], stk := [[(0, AV.ptr 0 0)]], H := [AE.Obj.cells [AV.own 5, AV.own 2, AV.own 6, AV.int IntKind.i64 o0_3, AV.own 4, AV.int IntKind.i64 o0_5, AV.bool o0_6], Obj.arr Ty.str o1, Obj.arr Ty.str o2, Obj.arr (Ty.st (Ty.pair (Ty.int IntKind.i64) Ty.str)) o3, Obj.arr (Ty.int IntKind.i64) o4, Obj.arr Ty.str o2, Obj.arr (Ty.st (Ty.pair (Ty.int IntKind.i64) Ty.str)) ([])], blk := 262144 }) (fun _ => K (Ex.norm) { env := [(3, AV.int IntKind.i64 t3)], stk := [[(0, AV.ptr 0 0)]], H := [AE.Obj.cells [AV.own 1, AV.own 2, AV.own 3, AV.int IntKind.i64 o0_3, AV.own 4, AV.int IntKind.i64 o0_5, AV.bool o0_6], Obj.arr Ty.str o1, Obj.arr Ty.str o2, Obj.arr (Ty.st (Ty.pair (Ty.int IntKind.i64) Ty.str)) o3, Obj.arr (Ty.int IntKind.i64) o4], blk := 262144 }))
def noderef08_Disk_Flush_n0 {β : Type} : Iref08_Disk_Flush_n0 → (Yref08_Disk_Flush_n0 → Option β) → Option β := fun (t3, t11, o0_3, o0_5, o0_6, o1, o2, o3, o4) exit => (bif t11 then (bif Nat.ble (((0 : Nat) + List.length o2) * (16 : Nat)) (140737488355328 : Nat) then (exit (Sum.inl ())) else none) else (exit (Sum.inr ())))
def nodeDref08_Disk_Flush_n0 (i : Iref08_Disk_Flush_n0) : Option Yref08_Disk_Flush_n0 := noderef08_Disk_Flush_n0 i some
theorem noderef08_Disk_Flush_n0_nat (i : Iref08_Disk_Flush_n0) (k : Yref08_Disk_Flush_n0 → Ans) : noderef08_Disk_Flush_n0 i k = bindO (nodeDref08_Disk_Flush_n0 i) k := by
  obtain ⟨t3, t11, o0_3, o0_5, o0_6, o1, o2, o3, o4⟩ := i
  simp only [nodeDref08_Disk_Flush_n0, noderef08_Disk_Flush_n0, bindO_cond, bindO_assoc, bindO_none, bindO_pure, bindO_elim, bindO_unP]
theorem noderef08_Disk_Flush_n0_ok (i : Iref08_Disk_Flush_n0) (K : Ex → St → Ans) : codeI Try.tab envref08_Disk_Flush noHint (codeD Try.tab envref08_Disk_Flush noHint 0 64) 70 25 annLref08_Disk_Flush_n0 Lref08_Disk_Flush_n0 (weakP 5 (exk [3] [2] []) K) (Sref08_Disk_Flush_n0 i) = noderef08_Disk_Flush_n0 i (outref08_Disk_Flush_n0 i K) := by kernel_rfl
theorem GNref08_Disk_Flush_n0_ok : CSum Try.prog 25 Lref08_Disk_Flush_n0 (sumN decref08_Disk_Flush_n0 nodeDref08_Disk_Flush_n0 outref08_Disk_Flush_n0) := csum_node mixed tabOk envref08_Disk_FlushOk 5 (exk [3] [2] []) annLref08_Disk_Flush_n0_ok decref08_Disk_Flush_n0_ok noderef08_Disk_Flush_n0_ok noderef08_Disk_Flush_n0_nat
noncomputable def Gref08_Disk_Flush_n0 : (Ex → St → Ans) → St → Ans := (sumN decref08_Disk_Flush_n0 nodeDref08_Disk_Flush_n0 outref08_Disk_Flush_n0)
theorem Gref08_Disk_Flush_n0_ok : CSum Try.prog 25 Lref08_Disk_Flush_n0 Gref08_Disk_Flush_n0 := GNref08_Disk_Flush_n0_ok
noncomputable def annref08_Disk_Flush : Ann := (.seq .none (.seq .none (.seq (.seq .none (.cut 5 [0, 3, 11] Gref08_Disk_Flush_n0)) .none)))
theorem annref08_Disk_Flush_ok : AnnOk Try.prog 25 bref08_Disk_Flush annref08_Disk_Flush := ⟨(annOk_none _ _ _), ⟨(annOk_none _ _ _), ⟨⟨(annOk_none _ _ _), Gref08_Disk_Flush_n0_ok⟩, (annOk_none _ _ _)⟩⟩⟩
abbrev Aref08_Disk_Flush := (Int) × (Int) × (Bool) × (List (List UInt8)) × (List (List UInt8)) × (List (Int × List UInt8)) × (List Int)
abbrev Yref08_Disk_Flush := ((Int) × (Int) × (Bool)) ⊕ ((Int) × (Int) × (Bool))
def fnref08_Disk_Flush {β : Type} : Aref08_Disk_Flush → (Yref08_Disk_Flush → Option β) → Option β := fun (o0_3, o0_5, o0_6, o1, o2, o3, o4) exit => (bindO (fnDref08_Disk_call (o0_3, o0_5, o0_6, o1, o2, o3, o4)) (unP fun r_0 => unP fun r_1 => unP fun o0_3_2 o0_6_2 => (bindO (nodeDref08_Disk_Flush_n0 (r_0, r_0 == (0 : Int), o0_3_2, o0_5, o0_6_2, o1, o2, o3, o4)) (Sum.elim (fun _ => (exit (Sum.inl (r_0, o0_3_2, o0_6_2)))) (fun _ => (exit (Sum.inr (r_0, o0_3_2, o0_6_2))))))))
def fnDref08_Disk_Flush (a : Aref08_Disk_Flush) : Option Yref08_Disk_Flush := fnref08_Disk_Flush a some
theorem fnref08_Disk_Flush_nat (a : Aref08_Disk_Flush) (k : Yref08_Disk_Flush → Ans) : fnref08_Disk_Flush a k = bindO (fnDref08_Disk_Flush a) k := by
  obtain ⟨o0_3, o0_5, o0_6, o1, o2, o3, o4⟩ := a
  simp only [fnDref08_Disk_Flush, fnref08_Disk_Flush, bindO_cond, bindO_assoc, bindO_none, bindO_pure, bindO_elim, bindO_unP]
def argsref08_Disk_Flush : Aref08_Disk_Flush → List AV × List AE.Obj := fun (o0_3, o0_5, o0_6, o1, o2, o3, o4) => ([AV.ptr 0 0], [AE.Obj.cells [AV.own 1, AV.own 2, AV.own 3, AV.int IntKind.i64 o0_3, AV.own 4, AV.int IntKind.i64 o0_5, AV.bool o0_6], Obj.arr Ty.str o1, Obj.arr Ty.str o2, Obj.arr (Ty.st (Ty.pair (Ty.int IntKind.i64) Ty.str)) o3, Obj.arr (Ty.int IntKind.i64) o4])
def decAref08_Disk_Flush (l : List AV) (H : List AE.Obj) : Option Aref08_Disk_Flush := match l, H with
  | [AV.ptr 0 0], [AE.Obj.cells [AV.own 1, AV.own 2, AV.own 3, AV.int IntKind.i64 o0_3, AV.own 4, AV.int IntKind.i64 o0_5, AV.bool o0_6], Obj.arr Ty.str o1, Obj.arr Ty.str o2, Obj.arr (Ty.st (Ty.pair (Ty.int IntKind.i64) Ty.str)) o3, Obj.arr (Ty.int IntKind.i64) o4] => some (o0_3, o0_5, o0_6, o1, o2, o3, o4)
  | _, _ => none
theorem decAref08_Disk_Flush_ok (l : List AV) (H : List AE.Obj) (a : Aref08_Disk_Flush) (h : decAref08_Disk_Flush l H = some a) : (l, H) = argsref08_Disk_Flush a := by
  unfold decAref08_Disk_Flush at h
  split at h
  · cases h; rfl
  · cases h
def outref08_Disk_Flush : Aref08_Disk_Flush → (AV → List AE.Obj → Ans) → Yref08_Disk_Flush → Ans := fun (o0_3, o0_5, o0_6, o1, o2, o3, o4) K => (Sum.elim (unP fun r_y => unP fun o0_3_y o0_6_y => K (AV.int IntKind.i64 r_y) [AE.Obj.cells [AV.own 5, AV.own 2, AV.own 6, AV.int IntKind.i64 o0_3_y, AV.own 4, AV.int IntKind.i64 o0_5, AV.bool o0_6_y], Obj.arr Ty.str o1, Obj.arr Ty.str o2, Obj.arr (Ty.st (Ty.pair (Ty.int IntKind.i64) Ty.str)) o3, Obj.arr (Ty.int IntKind.i64) o4, Obj.arr Ty.str o2, Obj.arr (Ty.st (Ty.pair (Ty.int IntKind.i64) Ty.str)) ([])]) (unP fun r_y => unP fun o0_3_y o0_6_y => K (AV.int IntKind.i64 r_y) [AE.Obj.cells [AV.own 1, AV.own 2, AV.own 3, AV.int IntKind.i64 o0_3_y, AV.own 4, AV.int IntKind.i64 o0_5, AV.bool o0_6_y], Obj.arr Ty.str o1, Obj.arr Ty.str o2, Obj.arr (Ty.st (Ty.pair (Ty.int IntKind.i64) Ty.str)) o3, Obj.arr (Ty.int IntKind.i64) o4]))
theorem fnref08_Disk_Flush_ok (a : Aref08_Disk_Flush) (K : AV → List AE.Obj → Ans) : fnE Try.tab envref08_Disk_Flush noHint 0 70 64 Try.f64.ntmps Try.f64.results.toList annref08_Disk_Flush bref08_Disk_Flush (argsref08_Disk_Flush a).1 (argsref08_Disk_Flush a).2 K = fnref08_Disk_Flush a (outref08_Disk_Flush a K) := by kernel_rfl
def vFref08_Disk_Flush (a : Aref08_Disk_Flush) (K : AV → List AE.Obj → Ans) : Ans := bindO (fnDref08_Disk_Flush a) fun y => outref08_Disk_Flush a K y
def Fref08_Disk_Flush : List AV → List AE.Obj → (AV → List AE.Obj → Ans) → Ans := fun l H K => bindO (decAref08_Disk_Flush l H) fun a => vFref08_Disk_Flush a K
theorem Fref08_Disk_Flush_ok : FuncOk Try.prog 64 Fref08_Disk_Flush := func_mkD (hint := noHint) (d := 0) (n := 70) mixed tabOk envref08_Disk_FlushOk Try.func64 (bodySome (by kernel_rfl)) (by decide +kernel) annref08_Disk_Flush_ok decAref08_Disk_Flush_ok fnref08_Disk_Flush_ok fnref08_Disk_Flush_nat
--@ disk_Disk_Fail
noncomputable def envdisk_Disk_Fail : Env := [(66, .pure Fslices_Contains_int_int)]
theorem envdisk_Disk_FailOk : EnvOk Try.prog envdisk_Disk_Fail := EnvOk.cons Fslices_Contains_int_int_ok (EnvOk.nil)
noncomputable def bdisk_Disk_Fail : Code := Try.f25.body.getD .skip
noncomputable def Ldisk_Disk_Fail_n0 : Code := codeAt [0] bdisk_Disk_Fail
noncomputable def annLdisk_Disk_Fail_n0 : Ann := .none
theorem annLdisk_Disk_Fail_n0_ok : AnnOk Try.prog 41 Ldisk_Disk_Fail_n0 annLdisk_Disk_Fail_n0 := (annOk_none _ _ _)
abbrev Idisk_Disk_Fail_n0 := (Int) × (Int) × (Int) × (Bool) × (List (List UInt8)) × (List (Int × List UInt8)) × (List (Int × List UInt8)) × (List Int)
abbrev Ydisk_Disk_Fail_n0 := (Bool)
def Sdisk_Disk_Fail_n0 : Idisk_Disk_Fail_n0 → St := fun (t1, o0_3, o0_5, o0_6, o1, o2, o3, o4) => { env := [(0, AV.ptr 0 0), (1, AV.int IntKind.i64 t1)], stk := [[(0, AV.ptr 0 0)]], H := [AE.Obj.cells [AV.own 1, AV.map 2, AV.own 3, AV.int IntKind.i64 o0_3, AV.own 4, AV.int IntKind.i64 o0_5, AV.bool o0_6], Obj.arr Ty.str o1, Obj.mp IntKind.i64 Ty.str o2, Obj.arr (Ty.st (Ty.pair (Ty.int IntKind.i64) Ty.str)) o3, Obj.arr (Ty.int IntKind.i64) o4], blk := 102400 }
def decdisk_Disk_Fail_n0 (s : St) : Option Idisk_Disk_Fail_n0 := match s with
  | { env := [(0, AV.ptr 0 0), (1, AV.int IntKind.i64 t1)], stk := [[(0, AV.ptr 0 0)]], H := [AE.Obj.cells [AV.own 1, AV.map 2, AV.own 3, AV.int IntKind.i64 o0_3, AV.own 4, AV.int IntKind.i64 o0_5, AV.bool o0_6], Obj.arr Ty.str o1, Obj.mp IntKind.i64 Ty.str o2, Obj.arr (Ty.st (Ty.pair (Ty.int IntKind.i64) Ty.str)) o3, Obj.arr (Ty.int IntKind.i64) o4], blk := 102400 } => some (t1, o0_3, o0_5, o0_6, o1, o2, o3, o4)
  | _ => none
theorem decdisk_Disk_Fail_n0_ok (s : St) (x : Idisk_Disk_Fail_n0) (h : decdisk_Disk_Fail_n0 s = some x) : s = Sdisk_Disk_Fail_n0 x := by
  unfold decdisk_Disk_Fail_n0 at h
  split at h
  · cases h; rfl
  · cases h
def outdisk_Disk_Fail_n0 : Idisk_Disk_Fail_n0 → (Ex → St → Ans) → Ydisk_Disk_Fail_n0 → Ans := fun (t1, o0_3, o0_5, o0_6, o1, o2, o3, o4) K => fun t30_y => K (Ex.norm) { env := [(0, AV.ptr 0 0), (1, AV.int IntKind.i64 t1), (30, AV.bool t30_y)], stk := [[(0, AV.ptr 0 0)]], H := [AE.Obj.cells [AV.own 1, AV.map 2, AV.own 3, AV.int IntKind.i64 o0_3, AV.own 4, AV.int IntKind.i64 o0_5, AV.bool o0_6], Obj.arr Ty.str o1, Obj.mp IntKind.i64 Ty.str o2, Obj.arr (Ty.st (Ty.pair (Ty.int IntKind.i64) Ty.str)) o3, Obj.arr (Ty.int IntKind.i64) o4], blk := 102400 }
def nodedisk_Disk_Fail_n0 {β : Type} : Idisk_Disk_Fail_n0 → (Ydisk_Disk_Fail_n0 → Option β) → Option β := fun (t1, o0_3, o0_5, o0_6, o1, o2, o3, o4) exit => (bif decide (t1 > o0_3) then (bif decide ((↑(List.length o4) : Int) < (100 : Int)) then (bindO (fnDslices_Contains_int_int (o4, t1)) fun r => (exit (!r))) else (exit (false))) else (exit (false)))
def nodeDdisk_Disk_Fail_n0 (i : Idisk_Disk_Fail_n0) : Option Ydisk_Disk_Fail_n0 := nodedisk_Disk_Fail_n0 i some
theorem nodedisk_Disk_Fail_n0_nat (i : Idisk_Disk_Fail_n0) (k : Ydisk_Disk_Fail_n0 → Ans) : nodedisk_Disk_Fail_n0 i k = bindO (nodeDdisk_Disk_Fail_n0 i) k := by
  obtain ⟨t1, o0_3, o0_5, o0_6, o1, o2, o3, o4⟩ := i
  simp only [nodeDdisk_Disk_Fail_n0, nodedisk_Disk_Fail_n0, bindO_cond, bindO_assoc, bindO_none, bindO_pure, bindO_elim, bindO_unP]
theorem nodedisk_Disk_Fail_n0_ok (i : Idisk_Disk_Fail_n0) (K : Ex → St → Ans) : codeI Try.tab envdisk_Disk_Fail noHint (codeD Try.tab envdisk_Disk_Fail noHint 0 64) 70 41 annLdisk_Disk_Fail_n0 Ldisk_Disk_Fail_n0 (weakP 5 (exk [0, 1, 30] [] []) K) (Sdisk_Disk_Fail_n0 i) = nodedisk_Disk_Fail_n0 i (outdisk_Disk_Fail_n0 i K) := by kernel_rfl
theorem GNdisk_Disk_Fail_n0_ok : CSum Try.prog 41 Ldisk_Disk_Fail_n0 (sumN decdisk_Disk_Fail_n0 nodeDdisk_Disk_Fail_n0 outdisk_Disk_Fail_n0) := csum_node mixed tabOk envdisk_Disk_FailOk 5 (exk [0, 1, 30] [] []) annLdisk_Disk_Fail_n0_ok decdisk_Disk_Fail_n0_ok nodedisk_Disk_Fail_n0_ok nodedisk_Disk_Fail_n0_nat
noncomputable def Gdisk_Disk_Fail_n0 : (Ex → St → Ans) → St → Ans := (sumN decdisk_Disk_Fail_n0 nodeDdisk_Disk_Fail_n0 outdisk_Disk_Fail_n0)
theorem Gdisk_Disk_Fail_n0_ok : CSum Try.prog 41 Ldisk_Disk_Fail_n0 Gdisk_Disk_Fail_n0 := GNdisk_Disk_Fail_n0_ok
noncomputable def anndisk_Disk_Fail : Ann := (.seq (.cut 5 [0, 1] Gdisk_Disk_Fail_n0) .none)
theorem anndisk_Disk_Fail_ok : AnnOk Try.prog 41 bdisk_Disk_Fail anndisk_Disk_Fail := ⟨Gdisk_Disk_Fail_n0_ok, (annOk_none _ _ _)⟩
abbrev Adisk_Disk_Fail := (Int) × (Int) × (Int) × (Bool) × (List (List UInt8)) × (List (Int × List UInt8)) × (List (Int × List UInt8)) × (List Int)
abbrev Ydisk_Disk_Fail := (List Int)
def fndisk_Disk_Fail {β : Type} : Adisk_Disk_Fail → (Ydisk_Disk_Fail → Option β) → Option β := fun (a1, o0_3, o0_5, o0_6, o1, o2, o3, o4) exit => (bindO (nodeDdisk_Disk_Fail_n0 (a1, o0_3, o0_5, o0_6, o1, o2, o3, o4)) fun t30 => (bif t30 then (bif Nat.ble ((List.length o4 + List.length [a1]) * (8 : Nat)) (140737488355328 : Nat) then (exit (o4 ++ [a1])) else none) else (exit (o4))))
def fnDdisk_Disk_Fail (a : Adisk_Disk_Fail) : Option Ydisk_Disk_Fail := fndisk_Disk_Fail a some
theorem fndisk_Disk_Fail_nat (a : Adisk_Disk_Fail) (k : Ydisk_Disk_Fail → Ans) : fndisk_Disk_Fail a k = bindO (fnDdisk_Disk_Fail a) k := by
  obtain ⟨a1, o0_3, o0_5, o0_6, o1, o2, o3, o4⟩ := a
  simp only [fnDdisk_Disk_Fail, fndisk_Disk_Fail, bindO_cond, bindO_assoc, bindO_none, bindO_pure, bindO_elim, bindO_unP]
def argsdisk_Disk_Fail : Adisk_Disk_Fail → List AV × List AE.Obj := fun (a1, o0_3, o0_5, o0_6, o1, o2, o3, o4) => ([AV.ptr 0 0, AV.int IntKind.i64 a1], [AE.Obj.cells [AV.own 1, AV.map 2, AV.own 3, AV.int IntKind.i64 o0_3, AV.own 4, AV.int IntKind.i64 o0_5, AV.bool o0_6], Obj.arr Ty.str o1, Obj.mp IntKind.i64 Ty.str o2, Obj.arr (Ty.st (Ty.pair (Ty.int IntKind.i64) Ty.str)) o3, Obj.arr (Ty.int IntKind.i64) o4])
def decAdisk_Disk_Fail (l : List AV) (H : List AE.Obj) : Option Adisk_Disk_Fail := match l, H with
  | [AV.ptr 0 0, AV.int IntKind.i64 a1], [AE.Obj.cells [AV.own 1, AV.map 2, AV.own 3, AV.int IntKind.i64 o0_3, AV.own 4, AV.int IntKind.i64 o0_5, AV.bool o0_6], Obj.arr Ty.str o1, Obj.mp IntKind.i64 Ty.str o2, Obj.arr (Ty.st (Ty.pair (Ty.int IntKind.i64) Ty.str)) o3, Obj.arr (Ty.int IntKind.i64) o4] => some (a1, o0_3, o0_5, o0_6, o1, o2, o3, o4)
  | _, _ => none
theorem decAdisk_Disk_Fail_ok (l : List AV) (H : List AE.Obj) (a : Adisk_Disk_Fail) (h : decAdisk_Disk_Fail l H = some a) : (l, H) = argsdisk_Disk_Fail a := by
  unfold decAdisk_Disk_Fail at h
  split at h
  · cases h; rfl
  · cases h
def outdisk_Disk_Fail : Adisk_Disk_Fail → (AV → List AE.Obj → Ans) → Ydisk_Disk_Fail → Ans := fun (a1, o0_3, o0_5, o0_6, o1, o2, o3, o4) K => fun o4_y => K (AV.tup []) [AE.Obj.cells [AV.own 1, AV.map 2, AV.own 3, AV.int IntKind.i64 o0_3, AV.own 4, AV.int IntKind.i64 o0_5, AV.bool o0_6], Obj.arr Ty.str o1, Obj.mp IntKind.i64 Ty.str o2, Obj.arr (Ty.st (Ty.pair (Ty.int IntKind.i64) Ty.str)) o3, Obj.arr (Ty.int IntKind.i64) o4_y]
theorem fndisk_Disk_Fail_ok (a : Adisk_Disk_Fail) (K : AV → List AE.Obj → Ans) : fnE Try.tab envdisk_Disk_Fail noHint 0 70 25 Try.f25.ntmps Try.f25.results.toList anndisk_Disk_Fail bdisk_Disk_Fail (argsdisk_Disk_Fail a).1 (argsdisk_Disk_Fail a).2 K = fndisk_Disk_Fail a (outdisk_Disk_Fail a K) := by kernel_rfl
def vFdisk_Disk_Fail (a : Adisk_Disk_Fail) (K : AV → List AE.Obj → Ans) : Ans := bindO (fnDdisk_Disk_Fail a) fun y => outdisk_Disk_Fail a K y
def Fdisk_Disk_Fail : List AV → List AE.Obj → (AV → List AE.Obj → Ans) → Ans := fun l H K => bindO (decAdisk_Disk_Fail l H) fun a => vFdisk_Disk_Fail a K
theorem Fdisk_Disk_Fail_ok : FuncOk Try.prog 25 Fdisk_Disk_Fail := func_mkD (hint := noHint) (d := 0) (n := 70) mixed tabOk envdisk_Disk_FailOk Try.func25 (bodySome (by kernel_rfl)) (by decide +kernel) anndisk_Disk_Fail_ok decAdisk_Disk_Fail_ok fndisk_Disk_Fail_ok fndisk_Disk_Fail_nat
--@ ref08_Disk_Fail
noncomputable def envref08_Disk_Fail : Env := [(84, .pure Fref08_has)]
theorem envref08_Disk_FailOk : EnvOk Try.prog envref08_Disk_Fail := EnvOk.cons Fref08_has_ok (EnvOk.nil)
noncomputable def bref08_Disk_Fail : Code := Try.f65.body.getD .skip
noncomputable def Lref08_Disk_Fail_n0 : Code := codeAt [0] bref08_Disk_Fail
noncomputable def annLref08_Disk_Fail_n0 : Ann := .none
theorem annLref08_Disk_Fail_n0_ok : AnnOk Try.prog 39 Lref08_Disk_Fail_n0 annLref08_Disk_Fail_n0 := (annOk_none _ _ _)
abbrev Iref08_Disk_Fail_n0 := (Int) × (Int) × (Int) × (Bool) × (List (List UInt8)) × (List (List UInt8)) × (List (Int × List UInt8)) × (List Int)
abbrev Yref08_Disk_Fail_n0 := (Bool)
def Sref08_Disk_Fail_n0 : Iref08_Disk_Fail_n0 → St := fun (t1, o0_3, o0_5, o0_6, o1, o2, o3, o4) => { env := [(0, AV.ptr 0 0), (1, AV.int IntKind.i64 t1)], stk := [[(0, AV.ptr 0 0)]], H := [AE.Obj.cells [AV.own 1, AV.own 2, AV.own 3, AV.int IntKind.i64 o0_3, AV.own 4, AV.int IntKind.i64 o0_5, AV.bool o0_6], Obj.arr Ty.str o1, Obj.arr Ty.str o2, Obj.arr (Ty.st (Ty.pair (Ty.int IntKind.i64) Ty.str)) o3, Obj.arr (Ty.int IntKind.i64) o4], blk := 266240 }
def decref08_Disk_Fail_n0 (s : St) : Option Iref08_Disk_Fail_n0 := match s with
  | { env := [(0, AV.ptr 0 0), (1, AV.int IntKind.i64 t1)], stk := [[(0, AV.ptr 0 0)]], H := [AE.Obj.cells [AV.own 1, AV.own 2, AV.own 3, AV.int IntKind.i64 o0_3, AV.own 4, AV.int IntKind.i64 o0_5, AV.bool o0_6], Obj.arr Ty.str o1, Obj.arr Ty.str o2, Obj.arr (Ty.st (Ty.pair (Ty.int IntKind.i64) Ty.str)) o3, Obj.arr (Ty.int IntKind.i64) o4], blk := 266240 } => some (t1, o0_3, o0_5, o0_6, o1, o2, o3, o4)
  | _ => none
theorem decref08_Disk_Fail_n0_ok (s : St) (x : Iref08_Disk_Fail_n0) (h : decref08_Disk_Fail_n0 s = some x) : s = Sref08_Disk_Fail_n0 x := by
  unfold decref08_Disk_Fail_n0 at h
  split at h
  · cases h; rfl
  · cases h
def outref08_Disk_Fail_n0 : Iref08_Disk_Fail_n0 → (Ex → St → Ans) → Yref08_Disk_Fail_n0 → Ans := fun (t1, o0_3, o0_5, o0_6, o1, o2, o3, o4) K => fun t26_y => K (Ex.norm) { env := [(0, AV.ptr 0 0), (1, AV.int IntKind.i64 t1), (26, AV.bool t26_y)], stk := [[(0, AV.ptr 0 0)]], H := [AE.Obj.cells [AV.own 1, AV.own 2, AV.own 3, AV.int IntKind.i64 o0_3, AV.own 4, AV.int IntKind.i64 o0_5, AV.bool o0_6], Obj.arr Ty.str o1, Obj.arr Ty.str o2, Obj.arr (Ty.st (Ty.pair (Ty.int IntKind.i64) Ty.str)) o3, Obj.arr (Ty.int IntKind.i64) o4], blk := 266240 }
def noderef08_Disk_Fail_n0 {β : Type} : Iref08_Disk_Fail_n0 → (Yref08_Disk_Fail_n0 → Option β) → Option β := fun (t1, o0_3, o0_5, o0_6, o1, o2, o3, o4) exit => (bif decide (t1 > o0_3) then (bindO (fnDref08_has (o4, t1)) fun r => (bif !r then (exit (decide ((↑(List.length o4) : Int) < (100 : Int)))) else (exit (false)))) else (exit (false)))
def nodeDref08_Disk_Fail_n0 (i : Iref08_Disk_Fail_n0) : Option Yref08_Disk_Fail_n0 := noderef08_Disk_Fail_n0 i some
theorem noderef08_Disk_Fail_n0_nat (i : Iref08_Disk_Fail_n0) (k : Yref08_Disk_Fail_n0 → Ans) : noderef08_Disk_Fail_n0 i k = bindO (nodeDref08_Disk_Fail_n0 i) k := by
  obtain ⟨t1, o0_3, o0_5, o0_6, o1, o2, o3, o4⟩ := i
  simp only [nodeDref08_Disk_Fail_n0, noderef08_Disk_Fail_n0, bindO_cond, bindO_assoc, bindO_none, bindO_pure, bindO_elim, bindO_unP]
theorem noderef08_Disk_Fail_n0_ok (i : Iref08_Disk_Fail_n0) (K : Ex → St → Ans) : codeI Try.tab envref08_Disk_Fail noHint (codeD Try.tab envref08_Disk_Fail noHint 0 64) 70 39 annLref08_Disk_Fail_n0 Lref08_Disk_Fail_n0 (weakP 5 (exk [0, 1, 26] [] []) K) (Sref08_Disk_Fail_n0 i) = noderef08_Disk_Fail_n0 i (outref08_Disk_Fail_n0 i K) := by kernel_rfl
theorem GNref08_Disk_Fail_n0_ok : CSum Try.prog 39 Lref08_Disk_Fail_n0 (sumN decref08_Disk_Fail_n0 nodeDref08_Disk_Fail_n0 outref08_Disk_Fail_n0) := csum_node mixed tabOk envref08_Disk_FailOk 5 (exk [0, 1, 26] [] []) annLref08_Disk_Fail_n0_ok decref08_Disk_Fail_n0_ok noderef08_Disk_Fail_n0_ok noderef08_Disk_Fail_n0_nat
noncomputable def Gref08_Disk_Fail_n0 : (Ex → St → Ans) → St → Ans := (sumN decref08_Disk_Fail_n0 nodeDref08_Disk_Fail_n0 outref08_Disk_Fail_n0)
theorem Gref08_Disk_Fail_n0_ok : CSum Try.prog 39 Lref08_Disk_Fail_n0 Gref08_Disk_Fail_n0 := GNref08_Disk_Fail_n0_ok
noncomputable def annref08_Disk_Fail : Ann := (.seq (.cut 5 [0, 1] Gref08_Disk_Fail_n0) .none)
theorem annref08_Disk_Fail_ok : AnnOk Try.prog 39 bref08_Disk_Fail annref08_Disk_Fail := ⟨Gref08_Disk_Fail_n0_ok, (annOk_none _ _ _)⟩
abbrev Aref08_Disk_Fail := (Int) × (Int) × (Int) × (Bool) × (List (List UInt8)) × (List (List UInt8)) × (List (Int × List UInt8)) × (List Int)
abbrev Yref08_Disk_Fail := ((List Int)) ⊕ (Unit)
def fnref08_Disk_Fail {β : Type} : Aref08_Disk_Fail → (Yref08_Disk_Fail → Option β) → Option β := fun (a1, o0_3, o0_5, o0_6, o1, o2, o3, o4) exit => (bindO (nodeDref08_Disk_Fail_n0 (a1, o0_3, o0_5, o0_6, o1, o2, o3, o4)) fun t26 => (bif t26 then (bif Nat.ble (((0 : Nat) + List.length o4) * (8 : Nat)) (140737488355328 : Nat) then (bif Nat.ble ((List.length o4 + List.length [a1]) * (8 : Nat)) (140737488355328 : Nat) then (exit (Sum.inl (o4 ++ [a1]))) else none) else none) else (exit (Sum.inr ()))))
def fnDref08_Disk_Fail (a : Aref08_Disk_Fail) : Option Yref08_Disk_Fail := fnref08_Disk_Fail a some
theorem fnref08_Disk_Fail_nat (a : Aref08_Disk_Fail) (k : Yref08_Disk_Fail → Ans) : fnref08_Disk_Fail a k = bindO (fnDref08_Disk_Fail a) k := by
  obtain ⟨a1, o0_3, o0_5, o0_6, o1, o2, o3, o4⟩ := a
  simp only [fnDref08_Disk_Fail, fnref08_Disk_Fail, bindO_cond, bindO_assoc, bindO_none, bindO_pure, bindO_elim, bindO_unP]
def argsref08_Disk_Fail : Aref08_Disk_Fail → List AV × List AE.Obj := fun (a1, o0_3, o0_5, o0_6, o1, o2, o3, o4) => ([AV.ptr 0 0, AV.int IntKind.i64 a1], [AE.Obj.cells [AV.own 1, AV.own 2, AV.own 3, AV.int IntKind.i64 o0_3, AV.own 4, AV.int IntKind.i64 o0_5, AV.bool o0_6], Obj.arr Ty.str o1, Obj.arr Ty.str o2, Obj.arr (Ty.st (Ty.pair (Ty.int IntKind.i64) Ty.str)) o3, Obj.arr (Ty.int IntKind.i64) o4])
def decAref08_Disk_Fail (l : List AV) (H : List AE.Obj) : Option Aref08_Disk_Fail := match l, H with
  | [AV.ptr 0 0, AV.int IntKind.i64 a1], [AE.Obj.cells [AV.own 1, AV.own 2, AV.own 3, AV.int IntKind.i64 o0_3, AV.own 4, AV.int IntKind.i64 o0_5, AV.bool o0_6], Obj.arr Ty.str o1, Obj.arr Ty.str o2, Obj.arr (Ty.st (Ty.pair (Ty.int IntKind.i64) Ty.str)) o3, Obj.arr (Ty.int IntKind.i64) o4] => some (a1, o0_3, o0_5, o0_6, o1, o2, o3, o4)
  | _, _ => none
theorem decAref08_Disk_Fail_ok (l : List AV) (H : List AE.Obj) (a : Aref08_Disk_Fail) (h : decAref08_Disk_Fail l H = some a) : (l, H) = argsref08_Disk_Fail a := by
  unfold decAref08_Disk_Fail at h
  split at h
  · cases h; rfl
  · cases h
def outref08_Disk_Fail : Aref08_Disk_Fail → (AV → List AE.Obj → Ans) → Yref08_Disk_Fail → Ans := fun (a1, o0_3, o0_5, o0_6, o1, o2, o3, o4) K => (Sum.elim (fun o5_y => K (AV.tup []) [AE.Obj.cells [AV.own 1, AV.own 2, AV.own 3, AV.int IntKind.i64 o0_3, AV.own 5, AV.int IntKind.i64 o0_5, AV.bool o0_6], Obj.arr Ty.str o1, Obj.arr Ty.str o2, Obj.arr (Ty.st (Ty.pair (Ty.int IntKind.i64) Ty.str)) o3, Obj.arr (Ty.int IntKind.i64) o4, Obj.arr (Ty.int IntKind.i64) o5_y]) (fun _ => K (AV.tup []) [AE.Obj.cells [AV.own 1, AV.own 2, AV.own 3, AV.int IntKind.i64 o0_3, AV.own 4, AV.int IntKind.i64 o0_5, AV.bool o0_6], Obj.arr Ty.str o1, Obj.arr Ty.str o2, Obj.arr (Ty.st (Ty.pair (Ty.int IntKind.i64) Ty.str)) o3, Obj.arr (Ty.int IntKind.i64) o4]))
theorem fnref08_Disk_Fail_ok (a : Aref08_Disk_Fail) (K : AV → List AE.Obj → Ans) : fnE Try.tab envref08_Disk_Fail noHint 0 70 65 Try.f65.ntmps Try.f65.results.toList annref08_Disk_Fail bref08_Disk_Fail (argsref08_Disk_Fail a).1 (argsref08_Disk_Fail a).2 K = fnref08_Disk_Fail a (outref08_Disk_Fail a K) := by kernel_rfl
def vFref08_Disk_Fail (a : Aref08_Disk_Fail) (K : AV → List AE.Obj → Ans) : Ans := bindO (fnDref08_Disk_Fail a) fun y => outref08_Disk_Fail a K y
def Fref08_Disk_Fail : List AV → List AE.Obj → (AV → List AE.Obj → Ans) → Ans := fun l H K => bindO (decAref08_Disk_Fail l H) fun a => vFref08_Disk_Fail a K
theorem Fref08_Disk_Fail_ok : FuncOk Try.prog 65 Fref08_Disk_Fail := func_mkD (hint := noHint) (d := 0) (n := 70) mixed tabOk envref08_Disk_FailOk Try.func65 (bodySome (by kernel_rfl)) (by decide +kernel) annref08_Disk_Fail_ok decAref08_Disk_Fail_ok fnref08_Disk_Fail_ok fnref08_Disk_Fail_nat
--@ disk_Disk_DownAt
noncomputable def envdisk_Disk_DownAt : Env := []
theorem envdisk_Disk_DownAtOk : EnvOk Try.prog envdisk_Disk_DownAt := EnvOk.nil
noncomputable def bdisk_Disk_DownAt : Code := Try.f26.body.getD .skip
noncomputable def anndisk_Disk_DownAt : Ann := .none
theorem anndisk_Disk_DownAt_ok : AnnOk Try.prog 10 bdisk_Disk_DownAt anndisk_Disk_DownAt := (annOk_none _ _ _)
abbrev Adisk_Disk_DownAt := (Int) × (Int) × (Int) × (Bool) × (List (List UInt8)) × (List (Int × List UInt8)) × (List (Int × List UInt8)) × (List Int)
abbrev Ydisk_Disk_DownAt := Unit
def fndisk_Disk_DownAt {β : Type} : Adisk_Disk_DownAt → (Ydisk_Disk_DownAt → Option β) → Option β := fun (a1, o0_3, o0_5, o0_6, o1, o2, o3, o4) exit => (exit ())
def fnDdisk_Disk_DownAt (a : Adisk_Disk_DownAt) : Option Ydisk_Disk_DownAt := fndisk_Disk_DownAt a some
theorem fndisk_Disk_DownAt_nat (a : Adisk_Disk_DownAt) (k : Ydisk_Disk_DownAt → Ans) : fndisk_Disk_DownAt a k = bindO (fnDdisk_Disk_DownAt a) k := by
  obtain ⟨a1, o0_3, o0_5, o0_6, o1, o2, o3, o4⟩ := a
  simp only [fnDdisk_Disk_DownAt, fndisk_Disk_DownAt, bindO_cond, bindO_assoc, bindO_none, bindO_pure, bindO_elim, bindO_unP]
def argsdisk_Disk_DownAt : Adisk_Disk_DownAt → List AV × List AE.Obj := fun (a1, o0_3, o0_5, o0_6, o1, o2, o3, o4) => ([AV.ptr 0 0, AV.int IntKind.i64 a1], [AE.Obj.cells [AV.own 1, AV.map 2, AV.own 3, AV.int IntKind.i64 o0_3, AV.own 4, AV.int IntKind.i64 o0_5, AV.bool o0_6], Obj.arr Ty.str o1, Obj.mp IntKind.i64 Ty.str o2, Obj.arr (Ty.st (Ty.pair (Ty.int IntKind.i64) Ty.str)) o3, Obj.arr (Ty.int IntKind.i64) o4])
def decAdisk_Disk_DownAt (l : List AV) (H : List AE.Obj) : Option Adisk_Disk_DownAt := match l, H with
  | [AV.ptr 0 0, AV.int IntKind.i64 a1], [AE.Obj.cells [AV.own 1, AV.map 2, AV.own 3, AV.int IntKind.i64 o0_3, AV.own 4, AV.int IntKind.i64 o0_5, AV.bool o0_6], Obj.arr Ty.str o1, Obj.mp IntKind.i64 Ty.str o2, Obj.arr (Ty.st (Ty.pair (Ty.int IntKind.i64) Ty.str)) o3, Obj.arr (Ty.int IntKind.i64) o4] => some (a1, o0_3, o0_5, o0_6, o1, o2, o3, o4)
  | _, _ => none
theorem decAdisk_Disk_DownAt_ok (l : List AV) (H : List AE.Obj) (a : Adisk_Disk_DownAt) (h : decAdisk_Disk_DownAt l H = some a) : (l, H) = argsdisk_Disk_DownAt a := by
  unfold decAdisk_Disk_DownAt at h
  split at h
  · cases h; rfl
  · cases h
def outdisk_Disk_DownAt : Adisk_Disk_DownAt → (AV → List AE.Obj → Ans) → Ydisk_Disk_DownAt → Ans := fun (a1, o0_3, o0_5, o0_6, o1, o2, o3, o4) K => fun _ => K (AV.tup []) [AE.Obj.cells [AV.own 1, AV.map 2, AV.own 3, AV.int IntKind.i64 o0_3, AV.own 4, AV.int IntKind.i64 a1, AV.bool o0_6], Obj.arr Ty.str o1, Obj.mp IntKind.i64 Ty.str o2, Obj.arr (Ty.st (Ty.pair (Ty.int IntKind.i64) Ty.str)) o3, Obj.arr (Ty.int IntKind.i64) o4]
theorem fndisk_Disk_DownAt_ok (a : Adisk_Disk_DownAt) (K : AV → List AE.Obj → Ans) : fnE Try.tab envdisk_Disk_DownAt noHint 0 70 26 Try.f26.ntmps Try.f26.results.toList anndisk_Disk_DownAt bdisk_Disk_DownAt (argsdisk_Disk_DownAt a).1 (argsdisk_Disk_DownAt a).2 K = fndisk_Disk_DownAt a (outdisk_Disk_DownAt a K) := by kernel_rfl
def vFdisk_Disk_DownAt (a : Adisk_Disk_DownAt) (K : AV → List AE.Obj → Ans) : Ans := bindO (fnDdisk_Disk_DownAt a) fun y => outdisk_Disk_DownAt a K y
def Fdisk_Disk_DownAt : List AV → List AE.Obj → (AV → List AE.Obj → Ans) → Ans := fun l H K => bindO (decAdisk_Disk_DownAt l H) fun a => vFdisk_Disk_DownAt a K
theorem Fdisk_Disk_DownAt_ok : FuncOk Try.prog 26 Fdisk_Disk_DownAt := func_mkD (hint := noHint) (d := 0) (n := 70) mixed tabOk envdisk_Disk_DownAtOk Try.func26 (bodySome (by kernel_rfl)) (by decide +kernel) anndisk_Disk_DownAt_ok decAdisk_Disk_DownAt_ok fndisk_Disk_DownAt_ok fndisk_Disk_DownAt_nat
--@ ref08_Disk_Restart
noncomputable def envref08_Disk_Restart : Env := []
theorem envref08_Disk_RestartOk : EnvOk Try.prog envref08_Disk_Restart := EnvOk.nil
noncomputable def bref08_Disk_Restart : Code := Try.f24.body.getD .skip
noncomputable def Lref08_Disk_Restart_n2 : Code := codeAt [1, 0, 1, 0, 0, 1, 0, 0, 0] bref08_Disk_Restart
noncomputable def annLref08_Disk_Restart_n2 : Ann := .none
theorem annLref08_Disk_Restart_n2_ok : AnnOk Try.prog 77 Lref08_Disk_Restart_n2 annLref08_Disk_Restart_n2 := (annOk_none _ _ _)
abbrev Iref08_Disk_Restart_n2 := (List Int) × (Int) × (Int) × (Int) × (Bool) × (List (List UInt8)) × (List (List UInt8)) × (List (Int × List UInt8)) × (List Int) × (List (List UInt8))
abbrev Yref08_Disk_Restart_n2 := (Bool)
def Sref08_Disk_Restart_n2 : Iref08_Disk_Restart_n2 → St := fun (t1, t4, o0_3, o0_5, o0_6, o1, o2, o3, o4, o5) => { env := [(0, AV.ptr 0 0), (1, AV.ro (Ty.int IntKind.i64) t1), (4, AV.int IntKind.i64 t4)], stk := [[(0, AV.ptr 0 0)]], H := [AE.Obj.cells [AV.own 1, AV.own 5, AV.own 3, AV.int IntKind.i64 o0_3, AV.own 4, AV.int IntKind.i64 o0_5, AV.bool o0_6], Obj.arr Ty.str o1, Obj.arr Ty.str o2, Obj.arr (Ty.st (Ty.pair (Ty.int IntKind.i64) Ty.str)) o3, Obj.arr (Ty.int IntKind.i64) o4, Obj.arr Ty.str o5], blk := 98305 }
def decref08_Disk_Restart_n2 (s : St) : Option Iref08_Disk_Restart_n2 := match s with
  | { env := [(0, AV.ptr 0 0), (1, AV.ro (Ty.int IntKind.i64) t1), (4, AV.int IntKind.i64 t4)], stk := [[(0, AV.ptr 0 0)]], H := [AE.Obj.cells [AV.own 1, AV.own 5, AV.own 3, AV.int IntKind.i64 o0_3, AV.own 4, AV.int IntKind.i64 o0_5, AV.bool o0_6], Obj.arr Ty.str o1, Obj.arr Ty.str o2, Obj.arr (Ty.st (Ty.pair (Ty.int IntKind.i64) Ty.str)) o3, Obj.arr (Ty.int IntKind.i64) o4, Obj.arr Ty.str o5], blk := 98305 } => some (t1, t4, o0_3, o0_5, o0_6, o1, o2, o3, o4, o5)
  | _ => none
theorem decref08_Disk_Restart_n2_ok (s : St) (x : Iref08_Disk_Restart_n2) (h : decref08_Disk_Restart_n2 s = some x) : s = Sref08_Disk_Restart_n2 x := by
  unfold decref08_Disk_Restart_n2 at h
  split at h
  · cases h; rfl
  · cases h
def outref08_Disk_Restart_n2 : Iref08_Disk_Restart_n2 → (Ex → St → Ans) → Yref08_Disk_Restart_n2 → Ans := fun (t1, t4, o0_3, o0_5, o0_6, o1, o2, o3, o4, o5) K => fun t34_y => K (Ex.norm) { env := [(0, AV.ptr 0 0), (1, AV.ro (Ty.int IntKind.i64) t1), (4, AV.int IntKind.i64 t4), (34, AV.bool t34_y)], stk := [[(0, AV.ptr 0 0)]], H := [AE.Obj.cells [AV.own 1, AV.own 5, AV.own 3, AV.int IntKind.i64 o0_3, AV.own 4, AV.int IntKind.i64 o0_5, AV.bool o0_6], Obj.arr Ty.str o1, Obj.arr Ty.str o2, Obj.arr (Ty.st (Ty.pair (Ty.int IntKind.i64) Ty.str)) o3, Obj.arr (Ty.int IntKind.i64) o4, Obj.arr Ty.str o5], blk := 98305 }
def noderef08_Disk_Restart_n2 {β : Type} : Iref08_Disk_Restart_n2 → (Yref08_Disk_Restart_n2 → Option β) → Option β := fun (t1, t4, o0_3, o0_5, o0_6, o1, o2, o3, o4, o5) exit => (bif decide (t4 < (↑(List.length t1) : Int)) then (bindO (nth t1 t4) fun x => (exit (Int.tmod x (2 : Int) != (0 : Int)))) else (exit (false)))
def nodeDref08_Disk_Restart_n2 (i : Iref08_Disk_Restart_n2) : Option Yref08_Disk_Restart_n2 := noderef08_Disk_Restart_n2 i some
theorem noderef08_Disk_Restart_n2_nat (i : Iref08_Disk_Restart_n2) (k : Yref08_Disk_Restart_n2 → Ans) : noderef08_Disk_Restart_n2 i k = bindO (nodeDref08_Disk_Restart_n2 i) k := by
  obtain ⟨t1, t4, o0_3, o0_5, o0_6, o1, o2, o3, o4, o5⟩ := i
  simp only [nodeDref08_Disk_Restart_n2, noderef08_Disk_Restart_n2, bindO_cond, bindO_assoc, bindO_none, bindO_pure, bindO_elim, bindO_unP]
theorem noderef08_Disk_Restart_n2_ok (i : Iref08_Disk_Restart_n2) (K : Ex → St → Ans) : codeI Try.tab envref08_Disk_Restart noHint (codeD Try.tab envref08_Disk_Restart noHint 0 64) 70 77 annLref08_Disk_Restart_n2 Lref08_Disk_Restart_n2 (weakP 5 (exk [0, 1, 4, 34] [] []) K) (Sref08_Disk_Restart_n2 i) = noderef08_Disk_Restart_n2 i (outref08_Disk_Restart_n2 i K) := by kernel_rfl
theorem GNref08_Disk_Restart_n2_ok : CSum Try.prog 77 Lref08_Disk_Restart_n2 (sumN decref08_Disk_Restart_n2 nodeDref08_Disk_Restart_n2 outref08_Disk_Restart_n2) := csum_node mixed tabOk envref08_Disk_RestartOk 5 (exk [0, 1, 4, 34] [] []) annLref08_Disk_Restart_n2_ok decref08_Disk_Restart_n2_ok noderef08_Disk_Restart_n2_ok noderef08_Disk_Restart_n2_nat
noncomputable def Gref08_Disk_Restart_n2 : (Ex → St → Ans) → St → Ans := (sumN decref08_Disk_Restart_n2 nodeDref08_Disk_Restart_n2 outref08_Disk_Restart_n2)
theorem Gref08_Disk_Restart_n2_ok : CSum Try.prog 77 Lref08_Disk_Restart_n2 Gref08_Disk_Restart_n2 := GNref08_Disk_Restart_n2_ok
noncomputable def Lref08_Disk_Restart_n1 : Code := codeAt [1, 0, 1, 0, 0, 1, 0] bref08_Disk_Restart
noncomputable def annLref08_Disk_Restart_n1 : Ann := (.block (.seq (.cut 5 [0, 1, 4] Gref08_Disk_Restart_n2) .none))
theorem annLref08_Disk_Restart_n1_ok : AnnOk Try.prog 77 Lref08_Disk_Restart_n1 annLref08_Disk_Restart_n1 := ⟨Gref08_Disk_Restart_n2_ok, (annOk_none _ _ _)⟩
abbrev Iref08_Disk_Restart_n1 := (List Int) × (Int) × (Int) × (Int) × (Bool) × (List (List UInt8)) × (List (List UInt8)) × (List (Int × List UInt8)) × (List Int) × (List (List UInt8))
abbrev Yref08_Disk_Restart_n1 := (List (List UInt8))
def Sref08_Disk_Restart_n1 : Iref08_Disk_Restart_n1 → St := fun (t1, t4, o0_3, o0_5, o0_6, o1, o2, o3, o4, o5) => { env := [(0, AV.ptr 0 0), (1, AV.ro (Ty.int IntKind.i64) t1), (4, AV.int IntKind.i64 t4)], stk := [[(0, AV.ptr 0 0)]], H := [AE.Obj.cells [AV.own 1, AV.own 5, AV.own 3, AV.int IntKind.i64 o0_3, AV.own 4, AV.int IntKind.i64 o0_5, AV.bool o0_6], Obj.arr Ty.str o1, Obj.arr Ty.str o2, Obj.arr (Ty.st (Ty.pair (Ty.int IntKind.i64) Ty.str)) o3, Obj.arr (Ty.int IntKind.i64) o4, Obj.arr Ty.str o5], blk := 98304 }
def decref08_Disk_Restart_n1 (s : St) : Option Iref08_Disk_Restart_n1 := match s with
  | { env := [(0, AV.ptr 0 0), (1, AV.ro (Ty.int IntKind.i64) t1), (4, AV.int IntKind.i64 t4)], stk := [[(0, AV.ptr 0 0)]], H := [AE.Obj.cells [AV.own 1, AV.own 5, AV.own 3, AV.int IntKind.i64 o0_3, AV.own 4, AV.int IntKind.i64 o0_5, AV.bool o0_6], Obj.arr Ty.str o1, Obj.arr Ty.str o2, Obj.arr (Ty.st (Ty.pair (Ty.int IntKind.i64) Ty.str)) o3, Obj.arr (Ty.int IntKind.i64) o4, Obj.arr Ty.str o5], blk := 98304 } => some (t1, t4, o0_3, o0_5, o0_6, o1, o2, o3, o4, o5)
  | _ => none
theorem decref08_Disk_Restart_n1_ok (s : St) (x : Iref08_Disk_Restart_n1) (h : decref08_Disk_Restart_n1 s = some x) : s = Sref08_Disk_Restart_n1 x := by
  unfold decref08_Disk_Restart_n1 at h
  split at h
  · cases h; rfl
  · cases h
def outref08_Disk_Restart_n1 : Iref08_Disk_Restart_n1 → (Ex → St → Ans) → Yref08_Disk_Restart_n1 → Ans := fun (t1, t4, o0_3, o0_5, o0_6, o1, o2, o3, o4, o5) K => fun o5_y => K (Ex.norm) { env := [(0, AV.ptr 0 0), (1, AV.ro (Ty.int IntKind.i64) t1), (4, AV.int IntKind.i64 t4)], stk := [[(0, AV.ptr 0 0)]], H := [AE.Obj.cells [AV.own 1, AV.own 5, AV.own 3, AV.int IntKind.i64 o0_3, AV.own 4, AV.int IntKind.i64 o0_5, AV.bool o0_6], Obj.arr Ty.str o1, Obj.arr Ty.str o2, Obj.arr (Ty.st (Ty.pair (Ty.int IntKind.i64) Ty.str)) o3, Obj.arr (Ty.int IntKind.i64) o4, Obj.arr Ty.str o5_y], blk := 98305 }
def noderef08_Disk_Restart_n1 {β : Type} : Iref08_Disk_Restart_n1 → (Yref08_Disk_Restart_n1 → Option β) → Option β := fun (t1, t4, o0_3, o0_5, o0_6, o1, o2, o3, o4, o5) exit => (bindO (nodeDref08_Disk_Restart_n2 (t1, t4, o0_3, o0_5, o0_6, o1, o2, o3, o4, o5)) fun t34 => (bif t34 then (bif inR t4 (List.length o3) then (bindO (o3[Int.toNat t4]?) fun x => (bif inR t4 (List.length o3) then (bindO (o3[Int.toNat t4]?) fun x_2 => (bif inR x.fst (List.length o5) then (bindO (o5[Int.toNat x.fst]?) fun x_3 => (exit (List.set o5 (Int.toNat x.fst) x_2.snd))) else none)) else none)) else none) else (exit (o5))))
def nodeDref08_Disk_Restart_n1 (i : Iref08_Disk_Restart_n1) : Option Yref08_Disk_Restart_n1 := noderef08_Disk_Restart_n1 i some
theorem noderef08_Disk_Restart_n1_nat (i : Iref08_Disk_Restart_n1) (k : Yref08_Disk_Restart_n1 → Ans) : noderef08_Disk_Restart_n1 i k = bindO (nodeDref08_Disk_Restart_n1 i) k := by
  obtain ⟨t1, t4, o0_3, o0_5, o0_6, o1, o2, o3, o4, o5⟩ := i
  simp only [nodeDref08_Disk_Restart_n1, noderef08_Disk_Restart_n1, bindO_cond, bindO_assoc, bindO_none, bindO_pure, bindO_elim, bindO_unP]
theorem noderef08_Disk_Restart_n1_ok (i : Iref08_Disk_Restart_n1) (K : Ex → St → Ans) : codeI Try.tab envref08_Disk_Restart noHint (codeD Try.tab envref08_Disk_Restart noHint 0 64) 70 77 annLref08_Disk_Restart_n1 Lref08_Disk_Restart_n1 (weakP 5 (exk [0, 1, 4] [] []) K) (Sref08_Disk_Restart_n1 i) = noderef08_Disk_Restart_n1 i (outref08_Disk_Restart_n1 i K) := by kernel_rfl
theorem GNref08_Disk_Restart_n1_ok : CSum Try.prog 77 Lref08_Disk_Restart_n1 (sumN decref08_Disk_Restart_n1 nodeDref08_Disk_Restart_n1 outref08_Disk_Restart_n1) := csum_node mixed tabOk envref08_Disk_RestartOk 5 (exk [0, 1, 4] [] []) annLref08_Disk_Restart_n1_ok decref08_Disk_Restart_n1_ok noderef08_Disk_Restart_n1_ok noderef08_Disk_Restart_n1_nat
noncomputable def Gref08_Disk_Restart_n1 : (Ex → St → Ans) → St → Ans := (sumN decref08_Disk_Restart_n1 nodeDref08_Disk_Restart_n1 outref08_Disk_Restart_n1)
theorem Gref08_Disk_Restart_n1_ok : CSum Try.prog 77 Lref08_Disk_Restart_n1 Gref08_Disk_Restart_n1 := GNref08_Disk_Restart_n1_ok
noncomputable def Lref08_Disk_Restart_n0 : Code := codeAt [1, 0, 1, 0, 0] bref08_Disk_Restart
noncomputable def annLref08_Disk_Restart_n0 : Ann := .at 5 [0, 1, 4] (.loop (.seq .none (.seq (.cut 5 [0, 1, 4] Gref08_Disk_Restart_n1) .none)))
theorem annLref08_Disk_Restart_n0_ok : AnnOk Try.prog 77 (.loop Lref08_Disk_Restart_n0) annLref08_Disk_Restart_n0 := annOk_at ⟨(annOk_none _ _ _), ⟨Gref08_Disk_Restart_n1_ok, (annOk_none _ _ _)⟩⟩
abbrev Iref08_Disk_Restart_n0 := (List Int) × (Int) × (Int) × (Bool) × (List (List UInt8)) × (List (List UInt8)) × (List (Int × List UInt8)) × (List Int)
abbrev Yref08_Disk_Restart_n0 := (List (List UInt8))
abbrev Vref08_Disk_Restart_n0 := (Int) × (List (List UInt8))
def Sref08_Disk_Restart_n0 : Iref08_Disk_Restart_n0 → Vref08_Disk_Restart_n0 → St := fun (t1, o0_3, o0_5, o0_6, o1, o2, o3, o4) (t4, o5) => { env := [(0, AV.ptr 0 0), (1, AV.ro (Ty.int IntKind.i64) t1), (4, AV.int IntKind.i64 t4)], stk := [[(0, AV.ptr 0 0)]], H := [AE.Obj.cells [AV.own 1, AV.own 5, AV.own 3, AV.int IntKind.i64 o0_3, AV.own 4, AV.int IntKind.i64 o0_5, AV.bool o0_6], Obj.arr Ty.str o1, Obj.arr Ty.str o2, Obj.arr (Ty.st (Ty.pair (Ty.int IntKind.i64) Ty.str)) o3, Obj.arr (Ty.int IntKind.i64) o4, Obj.arr Ty.str o5], blk := 98304 }
def decref08_Disk_Restart_n0 (s : St) : Option (Iref08_Disk_Restart_n0 × Vref08_Disk_Restart_n0) := match s with
  | { env := [(0, AV.ptr 0 0), (1, AV.ro (Ty.int IntKind.i64) t1), (4, AV.int IntKind.i64 t4)], stk := [[(0, AV.ptr 0 0)]], H := [AE.Obj.cells [AV.own 1, AV.own 5, AV.own 3, AV.int IntKind.i64 o0_3, AV.own 4, AV.int IntKind.i64 o0_5, AV.bool o0_6], Obj.arr Ty.str o1, Obj.arr Ty.str o2, Obj.arr (Ty.st (Ty.pair (Ty.int IntKind.i64) Ty.str)) o3, Obj.arr (Ty.int IntKind.i64) o4, Obj.arr Ty.str o5], blk := 98304 } => some ((t1, o0_3, o0_5, o0_6, o1, o2, o3, o4), (t4, o5))
  | _ => none
theorem decref08_Disk_Restart_n0_ok (s : St) (x : Iref08_Disk_Restart_n0 × Vref08_Disk_Restart_n0) (h : decref08_Disk_Restart_n0 s = some x) : s = Sref08_Disk_Restart_n0 x.1 x.2 := by
  unfold decref08_Disk_Restart_n0 at h
  split at h
  · cases h; rfl
  · cases h
def outref08_Disk_Restart_n0 : Iref08_Disk_Restart_n0 → (Ex → St → Ans) → Yref08_Disk_Restart_n0 → Ans := fun (t1, o0_3, o0_5, o0_6, o1, o2, o3, o4) K => fun o5_y => K (Ex.exit 0) { env := [(0, AV.ptr 0 0)], stk := [[(0, AV.ptr 0 0)]], H := [AE.Obj.cells [AV.own 1, AV.own 5, AV.own 3, AV.int IntKind.i64 o0_3, AV.own 4, AV.int IntKind.i64 o0_5, AV.bool o0_6], Obj.arr Ty.str o1, Obj.arr Ty.str o2, Obj.arr (Ty.st (Ty.pair (Ty.int IntKind.i64) Ty.str)) o3, Obj.arr (Ty.int IntKind.i64) o4, Obj.arr Ty.str o5_y], blk := 98304 }
def stepref08_Disk_Restart_n0 {β : Type} : Iref08_Disk_Restart_n0 → Vref08_Disk_Restart_n0 → (Vref08_Disk_Restart_n0 → Option β) → (Yref08_Disk_Restart_n0 → Option β) → Option β := fun (t1, o0_3, o0_5, o0_6, o1, o2, o3, o4) (t4, o5) next exit => (bif decide (t4 < (↑(List.length o3) : Int)) then (bindO (nodeDref08_Disk_Restart_n1 (t1, t4, o0_3, o0_5, o0_6, o1, o2, o3, o4, o5)) fun o5_2 => (next (IntKind.wrap IntKind.i64 (t4 + (1 : Int)), o5_2))) else (exit (o5)))
def stepDref08_Disk_Restart_n0 (i : Iref08_Disk_Restart_n0) (v : Vref08_Disk_Restart_n0) : Option (Vref08_Disk_Restart_n0 ⊕ Yref08_Disk_Restart_n0) := stepref08_Disk_Restart_n0 i v (fun v => some (.inl v)) (fun y => some (.inr y))
theorem stepref08_Disk_Restart_n0_nat (i : Iref08_Disk_Restart_n0) (v : Vref08_Disk_Restart_n0) (next : Vref08_Disk_Restart_n0 → Ans) (exit : Yref08_Disk_Restart_n0 → Ans) : stepref08_Disk_Restart_n0 i v next exit = bindO (stepDref08_Disk_Restart_n0 i v) (Sum.elim next exit) := by
  obtain ⟨t1, o0_3, o0_5, o0_6, o1, o2, o3, o4⟩ := i
  obtain ⟨t4, o5⟩ := v
  simp only [stepDref08_Disk_Restart_n0, stepref08_Disk_Restart_n0, bindO_cond, bindO_assoc, bindO_none, bindO_pure, bindO_elim, bindO_unP, Sum.elim_inl, Sum.elim_inr]
theorem stepref08_Disk_Restart_n0_ok (n : Nat) (i : Iref08_Disk_Restart_n0) (v : Vref08_Disk_Restart_n0) (K : Ex → St → Ans) : codeI Try.tab envref08_Disk_Restart noHint (codeD Try.tab envref08_Disk_Restart noHint 0 64) (n+1) 77 annLref08_Disk_Restart_n0 (.loop Lref08_Disk_Restart_n0) (weakP 5 (exk [0] [] [(0, [0])]) K) (Sref08_Disk_Restart_n0 i v) = stepref08_Disk_Restart_n0 i v (fun v' => codeI Try.tab envref08_Disk_Restart noHint (codeD Try.tab envref08_Disk_Restart noHint 0 64) n 77 annLref08_Disk_Restart_n0 (.loop Lref08_Disk_Restart_n0) (weakP 5 (exk [0] [] [(0, [0])]) K) (Sref08_Disk_Restart_n0 i v')) (fun y => outref08_Disk_Restart_n0 i K y) := by kernel_rfl
theorem GNref08_Disk_Restart_n0_ok : CSum Try.prog 77 (.loop Lref08_Disk_Restart_n0) (sumL decref08_Disk_Restart_n0 stepDref08_Disk_Restart_n0 outref08_Disk_Restart_n0) := csum_loop mixed tabOk envref08_Disk_RestartOk 5 (exk [0] [] [(0, [0])]) annLref08_Disk_Restart_n0_ok decref08_Disk_Restart_n0_ok stepref08_Disk_Restart_n0_ok stepref08_Disk_Restart_n0_nat
noncomputable def Gref08_Disk_Restart_n0 : (Ex → St → Ans) → St → Ans := (sumL decref08_Disk_Restart_n0 stepDref08_Disk_Restart_n0 outref08_Disk_Restart_n0)
theorem Gref08_Disk_Restart_n0_ok : CSum Try.prog 77 (.loop Lref08_Disk_Restart_n0) Gref08_Disk_Restart_n0 := GNref08_Disk_Restart_n0_ok
noncomputable def annref08_Disk_Restart : Ann := (.seq .none (.seq (.seq .none (.block (.cut 5 [0, 1, 4] Gref08_Disk_Restart_n0))) .none))
theorem annref08_Disk_Restart_ok : AnnOk Try.prog 77 bref08_Disk_Restart annref08_Disk_Restart := ⟨(annOk_none _ _ _), ⟨⟨(annOk_none _ _ _), Gref08_Disk_Restart_n0_ok⟩, (annOk_none _ _ _)⟩⟩
abbrev Aref08_Disk_Restart := (List Int) × (Int) × (Int) × (Bool) × (List (List UInt8)) × (List (List UInt8)) × (List (Int × List UInt8)) × (List Int)
abbrev Yref08_Disk_Restart := (List (List UInt8)) × (List (List UInt8))
def fnref08_Disk_Restart {β : Type} : Aref08_Disk_Restart → (Yref08_Disk_Restart → Option β) → Option β := fun (a1, o0_3, o0_5, o0_6, o1, o2, o3, o4) exit => (bif Nat.ble (((0 : Nat) + List.length o1) * (16 : Nat)) (140737488355328 : Nat) then (bindO (loopD (stepDref08_Disk_Restart_n0 (a1, o0_3, o0_5, o0_6, o1, o2, o3, o4)) FUEL ((0 : Int), o1)) fun o5 => (bif Nat.ble (((0 : Nat) + List.length o5) * (16 : Nat)) (140737488355328 : Nat) then (exit (o5, o5)) else none)) else none)
def fnDref08_Disk_Restart (a : Aref08_Disk_Restart) : Option Yref08_Disk_Restart := fnref08_Disk_Restart a some
theorem fnref08_Disk_Restart_nat (a : Aref08_Disk_Restart) (k : Yref08_Disk_Restart → Ans) : fnref08_Disk_Restart a k = bindO (fnDref08_Disk_Restart a) k := by
  obtain ⟨a1, o0_3, o0_5, o0_6, o1, o2, o3, o4⟩ := a
  simp only [fnDref08_Disk_Restart, fnref08_Disk_Restart, bindO_cond, bindO_assoc, bindO_none, bindO_pure, bindO_elim, bindO_unP]
def argsref08_Disk_Restart : Aref08_Disk_Restart → List AV × List AE.Obj := fun (a1, o0_3, o0_5, o0_6, o1, o2, o3, o4) => ([AV.ptr 0 0, AV.ro (Ty.int IntKind.i64) a1], [AE.Obj.cells [AV.own 1, AV.own 2, AV.own 3, AV.int IntKind.i64 o0_3, AV.own 4, AV.int IntKind.i64 o0_5, AV.bool o0_6], Obj.arr Ty.str o1, Obj.arr Ty.str o2, Obj.arr (Ty.st (Ty.pair (Ty.int IntKind.i64) Ty.str)) o3, Obj.arr (Ty.int IntKind.i64) o4])
def decAref08_Disk_Restart (l : List AV) (H : List AE.Obj) : Option Aref08_Disk_Restart := match l, H with
  | [AV.ptr 0 0, AV.ro (Ty.int IntKind.i64) a1], [AE.Obj.cells [AV.own 1, AV.own 2, AV.own 3, AV.int IntKind.i64 o0_3, AV.own 4, AV.int IntKind.i64 o0_5, AV.bool o0_6], Obj.arr Ty.str o1, Obj.arr Ty.str o2, Obj.arr (Ty.st (Ty.pair (Ty.int IntKind.i64) Ty.str)) o3, Obj.arr (Ty.int IntKind.i64) o4] => some (a1, o0_3, o0_5, o0_6, o1, o2, o3, o4)
  | _, _ => none
theorem decAref08_Disk_Restart_ok (l : List AV) (H : List AE.Obj) (a : Aref08_Disk_Restart) (h : decAref08_Disk_Restart l H = some a) : (l, H) = argsref08_Disk_Restart a := by
  unfold decAref08_Disk_Restart at h
  split at h
  · cases h; rfl
  · cases h
def outref08_Disk_Restart : Aref08_Disk_Restart → (AV → List AE.Obj → Ans) → Yref08_Disk_Restart → Ans := fun (a1, o0_3, o0_5, o0_6, o1, o2, o3, o4) K => unP fun o5_y o6_y => K (AV.tup []) [AE.Obj.cells [AV.own 5, AV.own 6, AV.own 7, AV.int IntKind.i64 o0_3, AV.own 8, AV.int IntKind.i64 (0), AV.bool (false)], Obj.arr Ty.str o1, Obj.arr Ty.str o2, Obj.arr (Ty.st (Ty.pair (Ty.int IntKind.i64) Ty.str)) o3, Obj.arr (Ty.int IntKind.i64) o4, Obj.arr Ty.str o5_y, Obj.arr Ty.str o6_y, Obj.arr (Ty.st (Ty.pair (Ty.int IntKind.i64) Ty.str)) ([]), Obj.arr (Ty.int IntKind.i64) ([])]
theorem fnref08_Disk_Restart_ok (a : Aref08_Disk_Restart) (K : AV → List AE.Obj → Ans) : fnE Try.tab envref08_Disk_Restart noHint 0 70 24 Try.f24.ntmps Try.f24.results.toList annref08_Disk_Restart bref08_Disk_Restart (argsref08_Disk_Restart a).1 (argsref08_Disk_Restart a).2 K = fnref08_Disk_Restart a (outref08_Disk_Restart a K) := by kernel_rfl
def vFref08_Disk_Restart (a : Aref08_Disk_Restart) (K : AV → List AE.Obj → Ans) : Ans := bindO (fnDref08_Disk_Restart a) fun y => outref08_Disk_Restart a K y
def Fref08_Disk_Restart : List AV → List AE.Obj → (AV → List AE.Obj → Ans) → Ans := fun l H K => bindO (decAref08_Disk_Restart l H) fun a => vFref08_Disk_Restart a K
theorem Fref08_Disk_Restart_ok : FuncOk Try.prog 24 Fref08_Disk_Restart := func_mkD (hint := noHint) (d := 0) (n := 70) mixed tabOk envref08_Disk_RestartOk Try.func24 (bodySome (by kernel_rfl)) (by decide +kernel) annref08_Disk_Restart_ok decAref08_Disk_Restart_ok fnref08_Disk_Restart_ok fnref08_Disk_Restart_nat
--@ law08_do
noncomputable def envlaw08_do : Env := [(13, .func Fdisk_Disk_Write), (14, .func Fdisk_Disk_Flush), (17, .func Fdisk_Disk_Read), (16, .func Fdisk_Disk_Restart_2), (62, .func Fref08_Disk_Read), (63, .func Fref08_Disk_Write), (64, .func Fref08_Disk_Flush), (25, .func Fdisk_Disk_Fail), (65, .func Fref08_Disk_Fail), (26, .func Fdisk_Disk_DownAt), (24, .func Fref08_Disk_Restart)]
theorem envlaw08_doOk : EnvOk Try.prog envlaw08_do := EnvOk.cons Fdisk_Disk_Write_ok (EnvOk.cons Fdisk_Disk_Flush_ok (EnvOk.cons Fdisk_Disk_Read_ok (EnvOk.cons Fdisk_Disk_Restart_2_ok (EnvOk.cons Fref08_Disk_Read_ok (EnvOk.cons Fref08_Disk_Write_ok (EnvOk.cons Fref08_Disk_Flush_ok (EnvOk.cons Fdisk_Disk_Fail_ok (EnvOk.cons Fref08_Disk_Fail_ok (EnvOk.cons Fdisk_Disk_DownAt_ok (EnvOk.cons Fref08_Disk_Restart_ok (EnvOk.nil)))))))))))
noncomputable def blaw08_do : Code := Try.f20.body.getD .skip
noncomputable def Llaw08_do_n1 : Code := codeAt [1, 0, 1, 0, 1, 0, 1, 1, 0] blaw08_do
noncomputable def annLlaw08_do_n1 : Ann := .none
theorem annLlaw08_do_n1_ok : AnnOk Try.prog 92 Llaw08_do_n1 annLlaw08_do_n1 := (annOk_none _ _ _)
abbrev Ilaw08_do_n1 := (List UInt8) × (Int) × (List UInt8) × (Int) × (Int) × (Int) × (Bool) × (Int) × (Int) × (Bool) × (List (List UInt8)) × (List (Int × List UInt8)) × (List (Int × List UInt8)) × (List Int) × (List (List UInt8)) × (List (List UInt8)) × (List (Int × List UInt8)) × (List Int)
abbrev Ylaw08_do_n1 := (Bool)
def Slaw08_do_n1 : Ilaw08_do_n1 → St := fun (t7, t8, t9, t10, o0_3, o0_5, o0_6, o1_3, o1_5, o1_6, o2, o3, o4, o5, o6, o7, o8, o9) => { env := [(7, AV.str t7), (8, AV.int IntKind.i64 t8), (9, AV.str t9), (10, AV.int IntKind.i64 t10)], stk := [[(0, AV.ptr 0 0), (1, AV.ptr 1 0)]], H := [AE.Obj.cells [AV.own 2, AV.map 3, AV.own 4, AV.int IntKind.i64 o0_3, AV.own 5, AV.int IntKind.i64 o0_5, AV.bool o0_6], AE.Obj.cells [AV.own 6, AV.own 7, AV.own 8, AV.int IntKind.i64 o1_3, AV.own 9, AV.int IntKind.i64 o1_5, AV.bool o1_6], Obj.arr Ty.str o2, Obj.mp IntKind.i64 Ty.str o3, Obj.arr (Ty.st (Ty.pair (Ty.int IntKind.i64) Ty.str)) o4, Obj.arr (Ty.int IntKind.i64) o5, Obj.arr Ty.str o6, Obj.arr Ty.str o7, Obj.arr (Ty.st (Ty.pair (Ty.int IntKind.i64) Ty.str)) o8, Obj.arr (Ty.int IntKind.i64) o9], blk := 81920 }
def declaw08_do_n1 (s : St) : Option Ilaw08_do_n1 := match s with
  | { env := [(7, AV.str t7), (8, AV.int IntKind.i64 t8), (9, AV.str t9), (10, AV.int IntKind.i64 t10)], stk := [[(0, AV.ptr 0 0), (1, AV.ptr 1 0)]], H := [AE.Obj.cells [AV.own 2, AV.map 3, AV.own 4, AV.int IntKind.i64 o0_3, AV.own 5, AV.int IntKind.i64 o0_5, AV.bool o0_6], AE.Obj.cells [AV.own 6, AV.own 7, AV.own 8, AV.int IntKind.i64 o1_3, AV.own 9, AV.int IntKind.i64 o1_5, AV.bool o1_6], Obj.arr Ty.str o2, Obj.mp IntKind.i64 Ty.str o3, Obj.arr (Ty.st (Ty.pair (Ty.int IntKind.i64) Ty.str)) o4, Obj.arr (Ty.int IntKind.i64) o5, Obj.arr Ty.str o6, Obj.arr Ty.str o7, Obj.arr (Ty.st (Ty.pair (Ty.int IntKind.i64) Ty.str)) o8, Obj.arr (Ty.int IntKind.i64) o9], blk := 81920 } => some (t7, t8, t9, t10, o0_3, o0_5, o0_6, o1_3, o1_5, o1_6, o2, o3, o4, o5, o6, o7, o8, o9)
  | _ => none
theorem declaw08_do_n1_ok (s : St) (x : Ilaw08_do_n1) (h : declaw08_do_n1 s = some x) : s = Slaw08_do_n1 x := by
  unfold declaw08_do_n1 at h
  split at h
  · cases h; rfl
  · cases h
def outlaw08_do_n1 : Ilaw08_do_n1 → (Ex → St → Ans) → Ylaw08_do_n1 → Ans := fun (t7, t8, t9, t10, o0_3, o0_5, o0_6, o1_3, o1_5, o1_6, o2, o3, o4, o5, o6, o7, o8, o9) K => fun t6_y => K (Ex.norm) { env := [(6, AV.bool t6_y)], stk := [[(0, AV.ptr 0 0), (1, AV.ptr 1 0)]], H := [AE.Obj.cells [AV.own 2, AV.map 3, AV.own 4, AV.int IntKind.i64 o0_3, AV.own 5, AV.int IntKind.i64 o0_5, AV.bool o0_6], AE.Obj.cells [AV.own 6, AV.own 7, AV.own 8, AV.int IntKind.i64 o1_3, AV.own 9, AV.int IntKind.i64 o1_5, AV.bool o1_6], Obj.arr Ty.str o2, Obj.mp IntKind.i64 Ty.str o3, Obj.arr (Ty.st (Ty.pair (Ty.int IntKind.i64) Ty.str)) o4, Obj.arr (Ty.int IntKind.i64) o5, Obj.arr Ty.str o6, Obj.arr Ty.str o7, Obj.arr (Ty.st (Ty.pair (Ty.int IntKind.i64) Ty.str)) o8, Obj.arr (Ty.int IntKind.i64) o9], blk := 81920 }
def nodelaw08_do_n1 {β : Type} : Ilaw08_do_n1 → (Ylaw08_do_n1 → Option β) → Option β := fun (t7, t8, t9, t10, o0_3, o0_5, o0_6, o1_3, o1_5, o1_6, o2, o3, o4, o5, o6, o7, o8, o9) exit => (bif t7 == t9 then (exit (t8 == t10)) else (exit (false)))
def nodeDlaw08_do_n1 (i : Ilaw08_do_n1) : Option Ylaw08_do_n1 := nodelaw08_do_n1 i some
theorem nodelaw08_do_n1_nat (i : Ilaw08_do_n1) (k : Ylaw08_do_n1 → Ans) : nodelaw08_do_n1 i k = bindO (nodeDlaw08_do_n1 i) k := by
  obtain ⟨t7, t8, t9, t10, o0_3, o0_5, o0_6, o1_3, o1_5, o1_6, o2, o3, o4, o5, o6, o7, o8, o9⟩ := i
  simp only [nodeDlaw08_do_n1, nodelaw08_do_n1, bindO_cond, bindO_assoc, bindO_none, bindO_pure, bindO_elim, bindO_unP]
theorem nodelaw08_do_n1_ok (i : Ilaw08_do_n1) (K : Ex → St → Ans) : codeI Try.tab envlaw08_do noHint (codeD Try.tab envlaw08_do noHint 0 64) 70 92 annLlaw08_do_n1 Llaw08_do_n1 (weakP 10 (exk [6] [6] []) K) (Slaw08_do_n1 i) = nodelaw08_do_n1 i (outlaw08_do_n1 i K) := by kernel_rfl
theorem GNlaw08_do_n1_ok : CSum Try.prog 92 Llaw08_do_n1 (sumN declaw08_do_n1 nodeDlaw08_do_n1 outlaw08_do_n1) := csum_node mixed tabOk envlaw08_doOk 10 (exk [6] [6] []) annLlaw08_do_n1_ok declaw08_do_n1_ok nodelaw08_do_n1_ok nodelaw08_do_n1_nat
noncomputable def Glaw08_do_n1 : (Ex → St → Ans) → St → Ans := (sumN declaw08_do_n1 nodeDlaw08_do_n1 outlaw08_do_n1)
theorem Glaw08_do_n1_ok : CSum Try.prog 92 Llaw08_do_n1 Glaw08_do_n1 := GNlaw08_do_n1_ok
noncomputable def Llaw08_do_n0 : Code := codeAt [1, 0, 1] blaw08_do
noncomputable def annLlaw08_do_n0 : Ann := (.block (.seq .none (.cond (.seq .none (.seq .none (.seq (.cut 10 [7, 8, 9, 10] Glaw08_do_n1) .none))) .none)))
theorem annLlaw08_do_n0_ok : AnnOk Try.prog 92 Llaw08_do_n0 annLlaw08_do_n0 := ⟨(annOk_none _ _ _), ⟨⟨(annOk_none _ _ _), ⟨(annOk_none _ _ _), ⟨Glaw08_do_n1_ok, (annOk_none _ _ _)⟩⟩⟩, (annOk_none _ _ _)⟩⟩
abbrev Ilaw08_do_n0 := (Int) × (Int) × (Int) × (Bool) × (Int) × (Int) × (Bool) × (List (List UInt8)) × (List (Int × List UInt8)) × (List (Int × List UInt8)) × (List Int) × (List (List UInt8)) × (List (List UInt8)) × (List (Int × List UInt8)) × (List Int) × (Int) × (Int) × (List UInt8) × (List Int)
abbrev Ylaw08_do_n0 := ((Bool) × (Int) × (Bool) × (Int) × (Bool) × (List (Int × List UInt8)) × (List (Int × List UInt8))) ⊕ ((Bool) × (Int) × (Bool) × (Int) × (Bool) × (List (Int × List UInt8)) × (List (Int × List UInt8)) × (List (List UInt8)) × (List (Int × List UInt8))) ⊕ ((Bool) × (Int) × (Bool) × (Int) × (Bool) × (List (List UInt8))) ⊕ ((Bool) × (Int) × (Bool) × (Int) × (Bool) × (List (List UInt8))) ⊕ ((Bool) × (Int) × (Bool) × (Int) × (Bool)) ⊕ ((List Int) × (List Int)) ⊕ ((Int) × (Int) × (List Int)) ⊕ ((List (List UInt8)) × (List (List UInt8)) × (List (List UInt8)))
def Slaw08_do_n0 : Ilaw08_do_n0 → St := fun (t12, o0_3, o0_5, o0_6, o1_3, o1_5, o1_6, o2, o3, o4, o5, o6, o7, o8, o9, o10_0, o10_1, o10_2, o10_3) => { env := [(0, AV.ptr 0 0), (1, AV.ptr 1 0), (5, AV.ptr 10 0), (12, AV.int IntKind.i64 t12)], stk := [[(0, AV.ptr 0 0), (1, AV.ptr 1 0)]], H := [AE.Obj.cells [AV.own 2, AV.map 3, AV.own 4, AV.int IntKind.i64 o0_3, AV.own 5, AV.int IntKind.i64 o0_5, AV.bool o0_6], AE.Obj.cells [AV.own 6, AV.own 7, AV.own 8, AV.int IntKind.i64 o1_3, AV.own 9, AV.int IntKind.i64 o1_5, AV.bool o1_6], Obj.arr Ty.str o2, Obj.mp IntKind.i64 Ty.str o3, Obj.arr (Ty.st (Ty.pair (Ty.int IntKind.i64) Ty.str)) o4, Obj.arr (Ty.int IntKind.i64) o5, Obj.arr Ty.str o6, Obj.arr Ty.str o7, Obj.arr (Ty.st (Ty.pair (Ty.int IntKind.i64) Ty.str)) o8, Obj.arr (Ty.int IntKind.i64) o9, AE.Obj.cells [AV.int IntKind.i64 o10_0, AV.int IntKind.i64 o10_1, AV.str o10_2, AV.ro (Ty.int IntKind.i64) o10_3]], blk := 81920 }
def declaw08_do_n0 (s : St) : Option Ilaw08_do_n0 := match s with
  | { env := [(0, AV.ptr 0 0), (1, AV.ptr 1 0), (5, AV.ptr 10 0), (12, AV.int IntKind.i64 t12)], stk := [[(0, AV.ptr 0 0), (1, AV.ptr 1 0)]], H := [AE.Obj.cells [AV.own 2, AV.map 3, AV.own 4, AV.int IntKind.i64 o0_3, AV.own 5, AV.int IntKind.i64 o0_5, AV.bool o0_6], AE.Obj.cells [AV.own 6, AV.own 7, AV.own 8, AV.int IntKind.i64 o1_3, AV.own 9, AV.int IntKind.i64 o1_5, AV.bool o1_6], Obj.arr Ty.str o2, Obj.mp IntKind.i64 Ty.str o3, Obj.arr (Ty.st (Ty.pair (Ty.int IntKind.i64) Ty.str)) o4, Obj.arr (Ty.int IntKind.i64) o5, Obj.arr Ty.str o6, Obj.arr Ty.str o7, Obj.arr (Ty.st (Ty.pair (Ty.int IntKind.i64) Ty.str)) o8, Obj.arr (Ty.int IntKind.i64) o9, AE.Obj.cells [AV.int IntKind.i64 o10_0, AV.int IntKind.i64 o10_1, AV.str o10_2, AV.ro (Ty.int IntKind.i64) o10_3]], blk := 81920 } => some (t12, o0_3, o0_5, o0_6, o1_3, o1_5, o1_6, o2, o3, o4, o5, o6, o7, o8, o9, o10_0, o10_1, o10_2, o10_3)
  | _ => none
theorem declaw08_do_n0_ok (s : St) (x : Ilaw08_do_n0) (h : declaw08_do_n0 s = some x) : s = Slaw08_do_n0 x := by
  unfold declaw08_do_n0 at h
  split at h
  · cases h; rfl
  · cases h
def outlaw08_do_n0 : Ilaw08_do_n0 → (Ex → St → Ans) → Ylaw08_do_n0 → Ans := fun (t12, o0_3, o0_5, o0_6, o1_3, o1_5, o1_6, o2, o3, o4, o5, o6, o7, o8, o9, o10_0, o10_1, o10_2, o10_3) K => (Sum.elim (unP fun t6_y => unP fun o0_3_y => unP fun o0_6_y => unP fun o1_3_y => unP fun o1_6_y => unP fun o3_y o4_y => K (Ex.ret) { env := [(6, AV.bool t6_y)], stk := [[(0, AV.ptr 0 0), (1, AV.ptr 1 0)]], H := [AE.Obj.cells [AV.own 2, AV.map 3, AV.own 4, AV.int IntKind.i64 o0_3_y, AV.own 5, AV.int IntKind.i64 o0_5, AV.bool o0_6_y], AE.Obj.cells [AV.own 6, AV.own 7, AV.own 8, AV.int IntKind.i64 o1_3_y, AV.own 9, AV.int IntKind.i64 o1_5, AV.bool o1_6_y], Obj.arr Ty.str o2, Obj.mp IntKind.i64 Ty.str o3_y, Obj.arr (Ty.st (Ty.pair (Ty.int IntKind.i64) Ty.str)) o4_y, Obj.arr (Ty.int IntKind.i64) o5, Obj.arr Ty.str o6, Obj.arr Ty.str o7, Obj.arr (Ty.st (Ty.pair (Ty.int IntKind.i64) Ty.str)) o8, Obj.arr (Ty.int IntKind.i64) o9], blk := 81920 }) ((Sum.elim (unP fun t6_y => unP fun o0_3_y => unP fun o0_6_y => unP fun o1_3_y => unP fun o1_6_y => unP fun o3_y => unP fun o4_y => unP fun o10_y o11_y => K (Ex.ret) { env := [(6, AV.bool t6_y)], stk := [[(0, AV.ptr 0 0), (1, AV.ptr 1 0)]], H := [AE.Obj.cells [AV.own 2, AV.map 3, AV.own 4, AV.int IntKind.i64 o0_3_y, AV.own 5, AV.int IntKind.i64 o0_5, AV.bool o0_6_y], AE.Obj.cells [AV.own 6, AV.own 10, AV.own 11, AV.int IntKind.i64 o1_3_y, AV.own 9, AV.int IntKind.i64 o1_5, AV.bool o1_6_y], Obj.arr Ty.str o2, Obj.mp IntKind.i64 Ty.str o3_y, Obj.arr (Ty.st (Ty.pair (Ty.int IntKind.i64) Ty.str)) o4_y, Obj.arr (Ty.int IntKind.i64) o5, Obj.arr Ty.str o6, Obj.arr Ty.str o7, Obj.arr (Ty.st (Ty.pair (Ty.int IntKind.i64) Ty.str)) o8, Obj.arr (Ty.int IntKind.i64) o9, Obj.arr Ty.str o10_y, Obj.arr (Ty.st (Ty.pair (Ty.int IntKind.i64) Ty.str)) o11_y], blk := 81920 }) ((Sum.elim (unP fun t6_y => unP fun o0_3_y => unP fun o0_6_y => unP fun o1_3_y => unP fun o1_6_y o2_y => K (Ex.ret) { env := [(6, AV.bool t6_y)], stk := [[(0, AV.ptr 0 0), (1, AV.ptr 1 0)]], H := [AE.Obj.cells [AV.own 2, AV.map 3, AV.own 10, AV.int IntKind.i64 o0_3_y, AV.own 5, AV.int IntKind.i64 o0_5, AV.bool o0_6_y], AE.Obj.cells [AV.own 11, AV.own 7, AV.own 12, AV.int IntKind.i64 o1_3_y, AV.own 9, AV.int IntKind.i64 o1_5, AV.bool o1_6_y], Obj.arr Ty.str o2_y, Obj.mp IntKind.i64 Ty.str ([]), Obj.dead, Obj.arr (Ty.int IntKind.i64) o5, Obj.arr Ty.str o6, Obj.arr Ty.str o7, Obj.arr (Ty.st (Ty.pair (Ty.int IntKind.i64) Ty.str)) o8, Obj.arr (Ty.int IntKind.i64) o9, Obj.arr (Ty.st (Ty.pair (Ty.int IntKind.i64) Ty.str)) ([]), Obj.arr Ty.str o7, Obj.arr (Ty.st (Ty.pair (Ty.int IntKind.i64) Ty.str)) ([])], blk := 81920 }) ((Sum.elim (unP fun t6_y => unP fun o0_3_y => unP fun o0_6_y => unP fun o1_3_y => unP fun o1_6_y o2_y => K (Ex.ret) { env := [(6, AV.bool t6_y)], stk := [[(0, AV.ptr 0 0), (1, AV.ptr 1 0)]], H := [AE.Obj.cells [AV.own 2, AV.map 3, AV.own 10, AV.int IntKind.i64 o0_3_y, AV.own 5, AV.int IntKind.i64 o0_5, AV.bool o0_6_y], AE.Obj.cells [AV.own 6, AV.own 7, AV.own 8, AV.int IntKind.i64 o1_3_y, AV.own 9, AV.int IntKind.i64 o1_5, AV.bool o1_6_y], Obj.arr Ty.str o2_y, Obj.mp IntKind.i64 Ty.str ([]), Obj.dead, Obj.arr (Ty.int IntKind.i64) o5, Obj.arr Ty.str o6, Obj.arr Ty.str o7, Obj.arr (Ty.st (Ty.pair (Ty.int IntKind.i64) Ty.str)) o8, Obj.arr (Ty.int IntKind.i64) o9, Obj.arr (Ty.st (Ty.pair (Ty.int IntKind.i64) Ty.str)) ([])], blk := 81920 }) ((Sum.elim (unP fun t6_y => unP fun o0_3_y => unP fun o0_6_y => unP fun o1_3_y o1_6_y => K (Ex.ret) { env := [(6, AV.bool t6_y)], stk := [[(0, AV.ptr 0 0), (1, AV.ptr 1 0)]], H := [AE.Obj.cells [AV.own 2, AV.map 3, AV.own 4, AV.int IntKind.i64 o0_3_y, AV.own 5, AV.int IntKind.i64 o0_5, AV.bool o0_6_y], AE.Obj.cells [AV.own 10, AV.own 7, AV.own 11, AV.int IntKind.i64 o1_3_y, AV.own 9, AV.int IntKind.i64 o1_5, AV.bool o1_6_y], Obj.arr Ty.str o2, Obj.mp IntKind.i64 Ty.str o3, Obj.arr (Ty.st (Ty.pair (Ty.int IntKind.i64) Ty.str)) o4, Obj.arr (Ty.int IntKind.i64) o5, Obj.arr Ty.str o6, Obj.arr Ty.str o7, Obj.arr (Ty.st (Ty.pair (Ty.int IntKind.i64) Ty.str)) o8, Obj.arr (Ty.int IntKind.i64) o9, Obj.arr Ty.str o7, Obj.arr (Ty.st (Ty.pair (Ty.int IntKind.i64) Ty.str)) ([])], blk := 81920 }) ((Sum.elim (unP fun o5_y o10_y => K (Ex.norm) { env := [], stk := [[(0, AV.ptr 0 0), (1, AV.ptr 1 0)]], H := [AE.Obj.cells [AV.own 2, AV.map 3, AV.own 4, AV.int IntKind.i64 o0_3, AV.own 5, AV.int IntKind.i64 o0_5, AV.bool o0_6], AE.Obj.cells [AV.own 6, AV.own 7, AV.own 8, AV.int IntKind.i64 o1_3, AV.own 10, AV.int IntKind.i64 o1_5, AV.bool o1_6], Obj.arr Ty.str o2, Obj.mp IntKind.i64 Ty.str o3, Obj.arr (Ty.st (Ty.pair (Ty.int IntKind.i64) Ty.str)) o4, Obj.arr (Ty.int IntKind.i64) o5_y, Obj.arr Ty.str o6, Obj.arr Ty.str o7, Obj.arr (Ty.st (Ty.pair (Ty.int IntKind.i64) Ty.str)) o8, Obj.arr (Ty.int IntKind.i64) o9, Obj.arr (Ty.int IntKind.i64) o10_y], blk := 81920 }) ((Sum.elim (unP fun o0_5_y => unP fun o1_5_y o5_y => K (Ex.norm) { env := [], stk := [[(0, AV.ptr 0 0), (1, AV.ptr 1 0)]], H := [AE.Obj.cells [AV.own 2, AV.map 3, AV.own 4, AV.int IntKind.i64 o0_3, AV.own 5, AV.int IntKind.i64 o0_5_y, AV.bool o0_6], AE.Obj.cells [AV.own 6, AV.own 7, AV.own 8, AV.int IntKind.i64 o1_3, AV.own 9, AV.int IntKind.i64 o1_5_y, AV.bool o1_6], Obj.arr Ty.str o2, Obj.mp IntKind.i64 Ty.str o3, Obj.arr (Ty.st (Ty.pair (Ty.int IntKind.i64) Ty.str)) o4, Obj.arr (Ty.int IntKind.i64) o5_y, Obj.arr Ty.str o6, Obj.arr Ty.str o7, Obj.arr (Ty.st (Ty.pair (Ty.int IntKind.i64) Ty.str)) o8, Obj.arr (Ty.int IntKind.i64) o9], blk := 81920 }) (unP fun o2_y => unP fun o12_y o13_y => K (Ex.norm) { env := [], stk := [[(0, AV.ptr 0 0), (1, AV.ptr 1 0)]], H := [AE.Obj.cells [AV.own 2, AV.map 3, AV.own 10, AV.int IntKind.i64 o0_3, AV.own 11, AV.int IntKind.i64 (0), AV.bool (false)], AE.Obj.cells [AV.own 12, AV.own 13, AV.own 14, AV.int IntKind.i64 o1_3, AV.own 15, AV.int IntKind.i64 (0), AV.bool (false)], Obj.arr Ty.str o2_y, Obj.mp IntKind.i64 Ty.str ([]), Obj.arr (Ty.st (Ty.pair (Ty.int IntKind.i64) Ty.str)) o4, Obj.arr (Ty.int IntKind.i64) o5, Obj.arr Ty.str o6, Obj.arr Ty.str o7, Obj.arr (Ty.st (Ty.pair (Ty.int IntKind.i64) Ty.str)) o8, Obj.arr (Ty.int IntKind.i64) o9, Obj.arr (Ty.st (Ty.pair (Ty.int IntKind.i64) Ty.str)) ([]), Obj.arr (Ty.int IntKind.i64) ([]), Obj.arr Ty.str o12_y, Obj.arr Ty.str o13_y, Obj.arr (Ty.st (Ty.pair (Ty.int IntKind.i64) Ty.str)) ([]), Obj.arr (Ty.int IntKind.i64) ([])], blk := 81920 }))))))))))))))
def nodelaw08_do_n0 {β : Type} : Ilaw08_do_n0 → (Ylaw08_do_n0 → Option β) → Option β := fun (t12, o0_3, o0_5, o0_6, o1_3, o1_5, o1_6, o2, o3, o4, o5, o6, o7, o8, o9, o10_0, o10_1, o10_2, o10_3) exit => (bif t12 == (0 : Int) then (bindO (fnDdisk_Disk_Read (o10_1, o0_3, o0_5, o0_6, o2, o3, o4, o5)) (unP fun r_0 => unP fun r_1 => unP fun o0_3_2 o0_6_2 => (bindO (fnDref08_Disk_Read (o10_1, o1_3, o1_5, o1_6, o6, o7, o8, o9)) (unP fun r_0_2 => unP fun r_1_2 => unP fun o0_3_3 o0_6_3 => (bindO (nodeDlaw08_do_n1 (r_0, r_1, r_0_2, r_1_2, o0_3_2, o0_5, o0_6_2, o0_3_3, o1_5, o0_6_3, o2, o3, o4, o5, o6, o7, o8, o9)) fun t6 => (exit (Sum.inl (t6, o0_3_2, o0_6_2, o0_3_3, o0_6_3, o3, o4)))))))) else (bif t12 == (1 : Int) then (bindO (fnDdisk_Disk_Write (o10_1, o10_2, o0_3, o0_5, o0_6, o2, o3, o4, o5)) (unP fun r => unP fun o0_3_2 => unP fun o0_6_2 => unP fun o2_2 o3_2 => (bindO (fnDref08_Disk_Write (o10_1, o10_2, o1_3, o1_5, o1_6, o6, o7, o8, o9)) (Sum.elim (unP fun r_2 => unP fun o0_3_3 => unP fun o0_6_3 => unP fun o5_2 o6_2 => (exit (Sum.inr (Sum.inl (r == r_2, o0_3_2, o0_6_2, o0_3_3, o0_6_3, o2_2, o3_2, o5_2, o6_2))))) (unP fun r_2 => unP fun o0_3_3 o0_6_3 => (exit (Sum.inl (r == r_2, o0_3_2, o0_6_2, o0_3_3, o0_6_3, o2_2, o3_2)))))))) else (bif t12 == (2 : Int) then (bindO (fnDdisk_Disk_Flush (o0_3, o0_5, o0_6, o2, o3, o4, o5)) (Sum.elim (unP fun r => unP fun o0_3_2 => unP fun o0_6_2 o1 => (bindO (fnDref08_Disk_Flush (o1_3, o1_5, o1_6, o6, o7, o8, o9)) (Sum.elim (unP fun r_2 => unP fun o0_3_3 o0_6_3 => (exit (Sum.inr (Sum.inr (Sum.inl (r == r_2, o0_3_2, o0_6_2, o0_3_3, o0_6_3, o1)))))) (unP fun r_2 => unP fun o0_3_3 o0_6_3 => (exit (Sum.inr (Sum.inr (Sum.inr (Sum.inl (r == r_2, o0_3_2, o0_6_2, o0_3_3, o0_6_3, o1)))))))))) (unP fun r => unP fun o0_3_2 o0_6_2 => (bindO (fnDref08_Disk_Flush (o1_3, o1_5, o1_6, o6, o7, o8, o9)) (Sum.elim (unP fun r_2 => unP fun o0_3_3 o0_6_3 => (exit (Sum.inr (Sum.inr (Sum.inr (Sum.inr (Sum.inl (r == r_2, o0_3_2, o0_6_2, o0_3_3, o0_6_3)))))))) (unP fun r_2 => unP fun o0_3_3 o0_6_3 => (exit (Sum.inl (r == r_2, o0_3_2, o0_6_2, o0_3_3, o0_6_3, o3, o4))))))))) else (bif t12 == (3 : Int) then (bindO (fnDdisk_Disk_Fail (o10_1, o0_3, o0_5, o0_6, o2, o3, o4, o5)) fun o4_2 => (bindO (fnDref08_Disk_Fail (o10_1, o1_3, o1_5, o1_6, o6, o7, o8, o9)) (Sum.elim (fun o5_2 => (exit (Sum.inr (Sum.inr (Sum.inr (Sum.inr (Sum.inr (Sum.inl (o4_2, o5_2))))))))) (fun _ => (exit (Sum.inr (Sum.inr (Sum.inr (Sum.inr (Sum.inr (Sum.inr (Sum.inl (o0_5, o1_5, o4_2))))))))))))) else (bif t12 == (4 : Int) then (bindO (fnDdisk_Disk_DownAt (o10_1, o0_3, o0_5, o0_6, o2, o3, o4, o5)) fun _ => (exit (Sum.inr (Sum.inr (Sum.inr (Sum.inr (Sum.inr (Sum.inr (Sum.inl (o10_1, o10_1, o5)))))))))) else (bif t12 == (5 : Int) then (bif Nat.ble (((0 : Nat) + List.length o10_3) * (8 : Nat)) (140737488355328 : Nat) then (bindO (fnDdisk_Disk_Restart_2 (o10_3, o0_3, o0_5, o0_6, o2, o3, o4, o5)) fun o1 => (bindO (fnDref08_Disk_Restart (o10_3, o1_3, o1_5, o1_6, o6, o7, o8, o9)) (unP fun o5_2 o6_2 => (exit (Sum.inr (Sum.inr (Sum.inr (Sum.inr (Sum.inr (Sum.inr (Sum.inr (o1, o5_2, o6_2)))))))))))) else none) else (exit (Sum.inr (Sum.inr (Sum.inr (Sum.inr (Sum.inr (Sum.inr (Sum.inl (o0_5, o1_5, o5)))))))))))))))
def nodeDlaw08_do_n0 (i : Ilaw08_do_n0) : Option Ylaw08_do_n0 := nodelaw08_do_n0 i some
theorem nodelaw08_do_n0_nat (i : Ilaw08_do_n0) (k : Ylaw08_do_n0 → Ans) : nodelaw08_do_n0 i k = bindO (nodeDlaw08_do_n0 i) k := by
  obtain ⟨t12, o0_3, o0_5, o0_6, o1_3, o1_5, o1_6, o2, o3, o4, o5, o6, o7, o8, o9, o10_0, o10_1, o10_2, o10_3⟩ := i
  simp only [nodeDlaw08_do_n0, nodelaw08_do_n0, bindO_cond, bindO_assoc, bindO_none, bindO_pure, bindO_elim, bindO_unP]
theorem nodelaw08_do_n0_ok (i : Ilaw08_do_n0) (K : Ex → St → Ans) : codeI Try.tab envlaw08_do noHint (codeD Try.tab envlaw08_do noHint 0 64) 70 92 annLlaw08_do_n0 Llaw08_do_n0 (weakP 10 (exk [] [6] []) K) (Slaw08_do_n0 i) = nodelaw08_do_n0 i (outlaw08_do_n0 i K) := by kernel_rfl
theorem GNlaw08_do_n0_ok : CSum Try.prog 92 Llaw08_do_n0 (sumN declaw08_do_n0 nodeDlaw08_do_n0 outlaw08_do_n0) := csum_node mixed tabOk envlaw08_doOk 10 (exk [] [6] []) annLlaw08_do_n0_ok declaw08_do_n0_ok nodelaw08_do_n0_ok nodelaw08_do_n0_nat
noncomputable def Glaw08_do_n0 : (Ex → St → Ans) → St → Ans := (sumN declaw08_do_n0 nodeDlaw08_do_n0 outlaw08_do_n0)
theorem Glaw08_do_n0_ok : CSum Try.prog 92 Llaw08_do_n0 Glaw08_do_n0 := GNlaw08_do_n0_ok
noncomputable def annlaw08_do : Ann := (.seq .none (.seq (.seq .none (.cut 10 [0, 1, 5, 12] Glaw08_do_n0)) .none))
theorem annlaw08_do_ok : AnnOk Try.prog 92 blaw08_do annlaw08_do := ⟨(annOk_none _ _ _), ⟨⟨(annOk_none _ _ _), Glaw08_do_n0_ok⟩, (annOk_none _ _ _)⟩⟩
abbrev Alaw08_do := (Int) × (Int) × (List UInt8) × (List Int) × (Int) × (Int) × (Bool) × (Int) × (Int) × (Bool) × (List (List UInt8)) × (List (Int × List UInt8)) × (List (Int × List UInt8)) × (List Int) × (List (List UInt8)) × (List (List UInt8)) × (List (Int × List UInt8)) × (List Int)
abbrev Ylaw08_do := ((Bool) × (Int) × (Int) × (Bool) × (Int) × (Int) × (Bool) × (List (Int × List UInt8)) × (List (Int × List UInt8)) × (List Int)) ⊕ ((Bool) × (Int) × (Bool) × (Int) × (Bool) × (List (Int × List UInt8)) × (List (Int × List UInt8)) × (List (List UInt8)) × (List (Int × List UInt8))) ⊕ ((Bool) × (Int) × (Bool) × (Int) × (Bool) × (List (List UInt8))) ⊕ ((Bool) × (Int) × (Bool) × (Int) × (Bool) × (List (List UInt8))) ⊕ ((Bool) × (Int) × (Bool) × (Int) × (Bool)) ⊕ ((List Int) × (List Int)) ⊕ ((List (List UInt8)) × (List (List UInt8)) × (List (List UInt8)))
def fnlaw08_do {β : Type} : Alaw08_do → (Ylaw08_do → Option β) → Option β := fun (a2_0, a2_1, a2_2, a2_3, o0_3, o0_5, o0_6, o1_3, o1_5, o1_6, o2, o3, o4, o5, o6, o7, o8, o9) exit => (bindO (nodeDlaw08_do_n0 (a2_0, o0_3, o0_5, o0_6, o1_3, o1_5, o1_6, o2, o3, o4, o5, o6, o7, o8, o9, a2_0, a2_1, a2_2, a2_3)) (Sum.elim (unP fun t6 => unP fun o0_3_2 => unP fun o0_6_2 => unP fun o1_3_2 => unP fun o1_6_2 => unP fun o3_2 o4_2 => (exit (Sum.inl (t6, o0_3_2, o0_5, o0_6_2, o1_3_2, o1_5, o1_6_2, o3_2, o4_2, o5)))) ((Sum.elim (unP fun t6 => unP fun o0_3_2 => unP fun o0_6_2 => unP fun o1_3_2 => unP fun o1_6_2 => unP fun o3_2 => unP fun o4_2 => unP fun o10 o11 => (exit (Sum.inr (Sum.inl (t6, o0_3_2, o0_6_2, o1_3_2, o1_6_2, o3_2, o4_2, o10, o11))))) ((Sum.elim (unP fun t6 => unP fun o0_3_2 => unP fun o0_6_2 => unP fun o1_3_2 => unP fun o1_6_2 o2_2 => (exit (Sum.inr (Sum.inr (Sum.inl (t6, o0_3_2, o0_6_2, o1_3_2, o1_6_2, o2_2)))))) ((Sum.elim (unP fun t6 => unP fun o0_3_2 => unP fun o0_6_2 => unP fun o1_3_2 => unP fun o1_6_2 o2_2 => (exit (Sum.inr (Sum.inr (Sum.inr (Sum.inl (t6, o0_3_2, o0_6_2, o1_3_2, o1_6_2, o2_2))))))) ((Sum.elim (unP fun t6 => unP fun o0_3_2 => unP fun o0_6_2 => unP fun o1_3_2 o1_6_2 => (exit (Sum.inr (Sum.inr (Sum.inr (Sum.inr (Sum.inl (t6, o0_3_2, o0_6_2, o1_3_2, o1_6_2)))))))) ((Sum.elim (unP fun o5_2 o10 => (exit (Sum.inr (Sum.inr (Sum.inr (Sum.inr (Sum.inr (Sum.inl (o5_2, o10))))))))) ((Sum.elim (unP fun o0_5_2 => unP fun o1_5_2 o5_2 => (exit (Sum.inl (true, o0_3, o0_5_2, o0_6, o1_3, o1_5_2, o1_6, o3, o4, o5_2)))) (unP fun o2_2 => unP fun o12 o13 => (exit (Sum.inr (Sum.inr (Sum.inr (Sum.inr (Sum.inr (Sum.inr (o2_2, o12, o13)))))))))))))))))))))))
def fnDlaw08_do (a : Alaw08_do) : Option Ylaw08_do := fnlaw08_do a some
theorem fnlaw08_do_nat (a : Alaw08_do) (k : Ylaw08_do → Ans) : fnlaw08_do a k = bindO (fnDlaw08_do a) k := by
  obtain ⟨a2_0, a2_1, a2_2, a2_3, o0_3, o0_5, o0_6, o1_3, o1_5, o1_6, o2, o3, o4, o5, o6, o7, o8, o9⟩ := a
  simp only [fnDlaw08_do, fnlaw08_do, bindO_cond, bindO_assoc, bindO_none, bindO_pure, bindO_elim, bindO_unP]
def argslaw08_do : Alaw08_do → List AV × List AE.Obj := fun (a2_0, a2_1, a2_2, a2_3, o0_3, o0_5, o0_6, o1_3, o1_5, o1_6, o2, o3, o4, o5, o6, o7, o8, o9) => ([AV.ptr 0 0, AV.ptr 1 0, AV.agg [AV.int IntKind.i64 a2_0, AV.int IntKind.i64 a2_1, AV.str a2_2, AV.ro (Ty.int IntKind.i64) a2_3]], [AE.Obj.cells [AV.own 2, AV.map 3, AV.own 4, AV.int IntKind.i64 o0_3, AV.own 5, AV.int IntKind.i64 o0_5, AV.bool o0_6], AE.Obj.cells [AV.own 6, AV.own 7, AV.own 8, AV.int IntKind.i64 o1_3, AV.own 9, AV.int IntKind.i64 o1_5, AV.bool o1_6], Obj.arr Ty.str o2, Obj.mp IntKind.i64 Ty.str o3, Obj.arr (Ty.st (Ty.pair (Ty.int IntKind.i64) Ty.str)) o4, Obj.arr (Ty.int IntKind.i64) o5, Obj.arr Ty.str o6, Obj.arr Ty.str o7, Obj.arr (Ty.st (Ty.pair (Ty.int IntKind.i64) Ty.str)) o8, Obj.arr (Ty.int IntKind.i64) o9])
def decAlaw08_do (l : List AV) (H : List AE.Obj) : Option Alaw08_do := match l, H with
  | [AV.ptr 0 0, AV.ptr 1 0, AV.agg [AV.int IntKind.i64 a2_0, AV.int IntKind.i64 a2_1, AV.str a2_2, AV.ro (Ty.int IntKind.i64) a2_3]], [AE.Obj.cells [AV.own 2, AV.map 3, AV.own 4, AV.int IntKind.i64 o0_3, AV.own 5, AV.int IntKind.i64 o0_5, AV.bool o0_6], AE.Obj.cells [AV.own 6, AV.own 7, AV.own 8, AV.int IntKind.i64 o1_3, AV.own 9, AV.int IntKind.i64 o1_5, AV.bool o1_6], Obj.arr Ty.str o2, Obj.mp IntKind.i64 Ty.str o3, Obj.arr (Ty.st (Ty.pair (Ty.int IntKind.i64) Ty.str)) o4, Obj.arr (Ty.int IntKind.i64) o5, Obj.arr Ty.str o6, Obj.arr Ty.str o7, Obj.arr (Ty.st (Ty.pair (Ty.int IntKind.i64) Ty.str)) o8, Obj.arr (Ty.int IntKind.i64) o9] => some (a2_0, a2_1, a2_2, a2_3, o0_3, o0_5, o0_6, o1_3, o1_5, o1_6, o2, o3, o4, o5, o6, o7, o8, o9)
  | _, _ => none
theorem decAlaw08_do_ok (l : List AV) (H : List AE.Obj) (a : Alaw08_do) (h : decAlaw08_do l H = some a) : (l, H) = argslaw08_do a := by
  unfold decAlaw08_do at h
  split at h
  · cases h; rfl
  · cases h
def outlaw08_do : Alaw08_do → (AV → List AE.Obj → Ans) → Ylaw08_do → Ans := fun (a2_0, a2_1, a2_2, a2_3, o0_3, o0_5, o0_6, o1_3, o1_5, o1_6, o2, o3, o4, o5, o6, o7, o8, o9) K => (Sum.elim (unP fun r_y => unP fun o0_3_y => unP fun o0_5_y => unP fun o0_6_y => unP fun o1_3_y => unP fun o1_5_y => unP fun o1_6_y => unP fun o3_y => unP fun o4_y o5_y => K (AV.bool r_y) [AE.Obj.cells [AV.own 2, AV.map 3, AV.own 4, AV.int IntKind.i64 o0_3_y, AV.own 5, AV.int IntKind.i64 o0_5_y, AV.bool o0_6_y], AE.Obj.cells [AV.own 6, AV.own 7, AV.own 8, AV.int IntKind.i64 o1_3_y, AV.own 9, AV.int IntKind.i64 o1_5_y, AV.bool o1_6_y], Obj.arr Ty.str o2, Obj.mp IntKind.i64 Ty.str o3_y, Obj.arr (Ty.st (Ty.pair (Ty.int IntKind.i64) Ty.str)) o4_y, Obj.arr (Ty.int IntKind.i64) o5_y, Obj.arr Ty.str o6, Obj.arr Ty.str o7, Obj.arr (Ty.st (Ty.pair (Ty.int IntKind.i64) Ty.str)) o8, Obj.arr (Ty.int IntKind.i64) o9]) ((Sum.elim (unP fun r_y => unP fun o0_3_y => unP fun o0_6_y => unP fun o1_3_y => unP fun o1_6_y => unP fun o3_y => unP fun o4_y => unP fun o10_y o11_y => K (AV.bool r_y) [AE.Obj.cells [AV.own 2, AV.map 3, AV.own 4, AV.int IntKind.i64 o0_3_y, AV.own 5, AV.int IntKind.i64 o0_5, AV.bool o0_6_y], AE.Obj.cells [AV.own 6, AV.own 10, AV.own 11, AV.int IntKind.i64 o1_3_y, AV.own 9, AV.int IntKind.i64 o1_5, AV.bool o1_6_y], Obj.arr Ty.str o2, Obj.mp IntKind.i64 Ty.str o3_y, Obj.arr (Ty.st (Ty.pair (Ty.int IntKind.i64) Ty.str)) o4_y, Obj.arr (Ty.int IntKind.i64) o5, Obj.arr Ty.str o6, Obj.arr Ty.str o7, Obj.arr (Ty.st (Ty.pair (Ty.int IntKind.i64) Ty.str)) o8, Obj.arr (Ty.int IntKind.i64) o9, Obj.arr Ty.str o10_y, Obj.arr (Ty.st (Ty.pair (Ty.int IntKind.i64) Ty.str)) o11_y]) ((Sum.elim (unP fun r_y => unP fun o0_3_y => unP fun o0_6_y => unP fun o1_3_y => unP fun o1_6_y o2_y => K (AV.bool r_y) [AE.Obj.cells [AV.own 2, AV.map 3, AV.own 10, AV.int IntKind.i64 o0_3_y, AV.own 5, AV.int IntKind.i64 o0_5, AV.bool o0_6_y], AE.Obj.cells [AV.own 11, AV.own 7, AV.own 12, AV.int IntKind.i64 o1_3_y, AV.own 9, AV.int IntKind.i64 o1_5, AV.bool o1_6_y], Obj.arr Ty.str o2_y, Obj.mp IntKind.i64 Ty.str ([]), Obj.dead, Obj.arr (Ty.int IntKind.i64) o5, Obj.arr Ty.str o6, Obj.arr Ty.str o7, Obj.arr (Ty.st (Ty.pair (Ty.int IntKind.i64) Ty.str)) o8, Obj.arr (Ty.int IntKind.i64) o9, Obj.arr (Ty.st (Ty.pair (Ty.int IntKind.i64) Ty.str)) ([]), Obj.arr Ty.str o7, Obj.arr (Ty.st (Ty.pair (Ty.int IntKind.i64) Ty.str)) ([])]) ((Sum.elim (unP fun r_y => unP fun o0_3_y => unP fun o0_6_y => unP fun o1_3_y => unP fun o1_6_y o2_y => K (AV.bool r_y) [AE.Obj.cells [AV.own 2, AV.map 3, AV.own 10, AV.int IntKind.i64 o0_3_y, AV.own 5, AV.int IntKind.i64 o0_5, AV.bool o0_6_y], AE.Obj.cells [AV.own 6, AV.own 7, AV.own 8, AV.int IntKind.i64 o1_3_y, AV.own 9, AV.int IntKind.i64 o1_5, AV.bool o1_6_y], Obj.arr Ty.str o2_y, Obj.mp IntKind.i64 Ty.str ([]), Obj.dead, Obj.arr (Ty.int IntKind.i64) o5, Obj.arr Ty.str o6, Obj.arr Ty.str o7, Obj.arr (Ty.st (Ty.pair (Ty.int IntKind.i64) Ty.str)) o8, Obj.arr (Ty.int IntKind.i64) o9, Obj.arr (Ty.st (Ty.pair (Ty.int IntKind.i64) Ty.str)) ([])]) ((Sum.elim (unP fun r_y => unP fun o0_3_y => unP fun o0_6_y => unP fun o1_3_y o1_6_y => K (AV.bool r_y) [AE.Obj.cells [AV.own 2, AV.map 3, AV.own 4, AV.int IntKind.i64 o0_3_y, AV.own 5, AV.int IntKind.i64 o0_5, AV.bool o0_6_y], AE.Obj.cells [AV.own 10, AV.own 7, AV.own 11, AV.int IntKind.i64 o1_3_y, AV.own 9, AV.int IntKind.i64 o1_5, AV.bool o1_6_y], Obj.arr Ty.str o2, Obj.mp IntKind.i64 Ty.str o3, Obj.arr (Ty.st (Ty.pair (Ty.int IntKind.i64) Ty.str)) o4, Obj.arr (Ty.int IntKind.i64) o5, Obj.arr Ty.str o6, Obj.arr Ty.str o7, Obj.arr (Ty.st (Ty.pair (Ty.int IntKind.i64) Ty.str)) o8, Obj.arr (Ty.int IntKind.i64) o9, Obj.arr Ty.str o7, Obj.arr (Ty.st (Ty.pair (Ty.int IntKind.i64) Ty.str)) ([])]) ((Sum.elim (unP fun o5_y o10_y => K (AV.bool (true)) [AE.Obj.cells [AV.own 2, AV.map 3, AV.own 4, AV.int IntKind.i64 o0_3, AV.own 5, AV.int IntKind.i64 o0_5, AV.bool o0_6], AE.Obj.cells [AV.own 6, AV.own 7, AV.own 8, AV.int IntKind.i64 o1_3, AV.own 10, AV.int IntKind.i64 o1_5, AV.bool o1_6], Obj.arr Ty.str o2, Obj.mp IntKind.i64 Ty.str o3, Obj.arr (Ty.st (Ty.pair (Ty.int IntKind.i64) Ty.str)) o4, Obj.arr (Ty.int IntKind.i64) o5_y, Obj.arr Ty.str o6, Obj.arr Ty.str o7, Obj.arr (Ty.st (Ty.pair (Ty.int IntKind.i64) Ty.str)) o8, Obj.arr (Ty.int IntKind.i64) o9, Obj.arr (Ty.int IntKind.i64) o10_y]) (unP fun o2_y => unP fun o12_y o13_y => K (AV.bool (true)) [AE.Obj.cells [AV.own 2, AV.map 3, AV.own 10, AV.int IntKind.i64 o0_3, AV.own 11, AV.int IntKind.i64 (0), AV.bool (false)], AE.Obj.cells [AV.own 12, AV.own 13, AV.own 14, AV.int IntKind.i64 o1_3, AV.own 15, AV.int IntKind.i64 (0), AV.bool (false)], Obj.arr Ty.str o2_y, Obj.mp IntKind.i64 Ty.str ([]), Obj.arr (Ty.st (Ty.pair (Ty.int IntKind.i64) Ty.str)) o4, Obj.arr (Ty.int IntKind.i64) o5, Obj.arr Ty.str o6, Obj.arr Ty.str o7, Obj.arr (Ty.st (Ty.pair (Ty.int IntKind.i64) Ty.str)) o8, Obj.arr (Ty.int IntKind.i64) o9, Obj.arr (Ty.st (Ty.pair (Ty.int IntKind.i64) Ty.str)) ([]), Obj.arr (Ty.int IntKind.i64) ([]), Obj.arr Ty.str o12_y, Obj.arr Ty.str o13_y, Obj.arr (Ty.st (Ty.pair (Ty.int IntKind.i64) Ty.str)) ([]), Obj.arr (Ty.int IntKind.i64) ([])]))))))))))))
theorem fnlaw08_do_ok (a : Alaw08_do) (K : AV → List AE.Obj → Ans) : fnE Try.tab envlaw08_do noHint 0 70 20 Try.f20.ntmps Try.f20.results.toList annlaw08_do blaw08_do (argslaw08_do a).1 (argslaw08_do a).2 K = fnlaw08_do a (outlaw08_do a K) := by kernel_rfl
def vFlaw08_do (a : Alaw08_do) (K : AV → List AE.Obj → Ans) : Ans := bindO (fnDlaw08_do a) fun y => outlaw08_do a K y
def Flaw08_do : List AV → List AE.Obj → (AV → List AE.Obj → Ans) → Ans := fun l H K => bindO (decAlaw08_do l H) fun a => vFlaw08_do a K
theorem Flaw08_do_ok : FuncOk Try.prog 20 Flaw08_do := func_mkD (hint := noHint) (d := 0) (n := 70) mixed tabOk envlaw08_doOk Try.func20 (bodySome (by kernel_rfl)) (by decide +kernel) annlaw08_do_ok decAlaw08_do_ok fnlaw08_do_ok fnlaw08_do_nat
--@ disk_Disk_Down
noncomputable def envdisk_Disk_Down : Env := []
theorem envdisk_Disk_DownOk : EnvOk Try.prog envdisk_Disk_Down := EnvOk.nil
noncomputable def bdisk_Disk_Down : Code := Try.f22.body.getD .skip
noncomputable def Ldisk_Disk_Down_n0 : Code := codeAt [1, 0] bdisk_Disk_Down
noncomputable def annLdisk_Disk_Down_n0 : Ann := .none
theorem annLdisk_Disk_Down_n0_ok : AnnOk Try.prog 11 Ldisk_Disk_Down_n0 annLdisk_Disk_Down_n0 := (annOk_none _ _ _)
abbrev Idisk_Disk_Down_n0 := (Int) × (Int) × (Bool) × (List (List UInt8)) × (List (Int × List UInt8)) × (List (Int × List UInt8)) × (List Int)
abbrev Ydisk_Disk_Down_n0 := Unit
def Sdisk_Disk_Down_n0 : Idisk_Disk_Down_n0 → St := fun (o0_3, o0_5, o0_6, o1, o2, o3, o4) => { env := [(0, AV.ptr 0 0)], stk := [[(0, AV.ptr 0 0)]], H := [AE.Obj.cells [AV.own 1, AV.map 2, AV.own 3, AV.int IntKind.i64 o0_3, AV.own 4, AV.int IntKind.i64 o0_5, AV.bool o0_6], Obj.arr Ty.str o1, Obj.mp IntKind.i64 Ty.str o2, Obj.arr (Ty.st (Ty.pair (Ty.int IntKind.i64) Ty.str)) o3, Obj.arr (Ty.int IntKind.i64) o4], blk := 90112 }
def decdisk_Disk_Down_n0 (s : St) : Option Idisk_Disk_Down_n0 := match s with
  | { env := [(0, AV.ptr 0 0)], stk := [[(0, AV.ptr 0 0)]], H := [AE.Obj.cells [AV.own 1, AV.map 2, AV.own 3, AV.int IntKind.i64 o0_3, AV.own 4, AV.int IntKind.i64 o0_5, AV.bool o0_6], Obj.arr Ty.str o1, Obj.mp IntKind.i64 Ty.str o2, Obj.arr (Ty.st (Ty.pair (Ty.int IntKind.i64) Ty.str)) o3, Obj.arr (Ty.int IntKind.i64) o4], blk := 90112 } => some (o0_3, o0_5, o0_6, o1, o2, o3, o4)
  | _ => none
theorem decdisk_Disk_Down_n0_ok (s : St) (x : Idisk_Disk_Down_n0) (h : decdisk_Disk_Down_n0 s = some x) : s = Sdisk_Disk_Down_n0 x := by
  unfold decdisk_Disk_Down_n0 at h
  split at h
  · cases h; rfl
  · cases h
def outdisk_Disk_Down_n0 : Idisk_Disk_Down_n0 → (Ex → St → Ans) → Ydisk_Disk_Down_n0 → Ans := fun (o0_3, o0_5, o0_6, o1, o2, o3, o4) K => fun _ => K (Ex.norm) { env := [(2, AV.bool o0_6)], stk := [[(0, AV.ptr 0 0)]], H := [AE.Obj.cells [AV.own 1, AV.map 2, AV.own 3, AV.int IntKind.i64 o0_3, AV.own 4, AV.int IntKind.i64 o0_5, AV.bool o0_6], Obj.arr Ty.str o1, Obj.mp IntKind.i64 Ty.str o2, Obj.arr (Ty.st (Ty.pair (Ty.int IntKind.i64) Ty.str)) o3, Obj.arr (Ty.int IntKind.i64) o4], blk := 90112 }
def nodedisk_Disk_Down_n0 {β : Type} : Idisk_Disk_Down_n0 → (Ydisk_Disk_Down_n0 → Option β) → Option β := fun (o0_3, o0_5, o0_6, o1, o2, o3, o4) exit => (exit ())
def nodeDdisk_Disk_Down_n0 (i : Idisk_Disk_Down_n0) : Option Ydisk_Disk_Down_n0 := nodedisk_Disk_Down_n0 i some
theorem nodedisk_Disk_Down_n0_nat (i : Idisk_Disk_Down_n0) (k : Ydisk_Disk_Down_n0 → Ans) : nodedisk_Disk_Down_n0 i k = bindO (nodeDdisk_Disk_Down_n0 i) k := by
  obtain ⟨o0_3, o0_5, o0_6, o1, o2, o3, o4⟩ := i
  simp only [nodeDdisk_Disk_Down_n0, nodedisk_Disk_Down_n0, bindO_cond, bindO_assoc, bindO_none, bindO_pure, bindO_elim, bindO_unP]
theorem nodedisk_Disk_Down_n0_ok (i : Idisk_Disk_Down_n0) (K : Ex → St → Ans) : codeI Try.tab envdisk_Disk_Down noHint (codeD Try.tab envdisk_Disk_Down noHint 0 64) 70 11 annLdisk_Disk_Down_n0 Ldisk_Disk_Down_n0 (weakP 5 (exk [2] [2] []) K) (Sdisk_Disk_Down_n0 i) = nodedisk_Disk_Down_n0 i (outdisk_Disk_Down_n0 i K) := by kernel_rfl
theorem GNdisk_Disk_Down_n0_ok : CSum Try.prog 11 Ldisk_Disk_Down_n0 (sumN decdisk_Disk_Down_n0 nodeDdisk_Disk_Down_n0 outdisk_Disk_Down_n0) := csum_node mixed tabOk envdisk_Disk_DownOk 5 (exk [2] [2] []) annLdisk_Disk_Down_n0_ok decdisk_Disk_Down_n0_ok nodedisk_Disk_Down_n0_ok nodedisk_Disk_Down_n0_nat
noncomputable def Gdisk_Disk_Down_n0 : (Ex → St → Ans) → St → Ans := (sumN decdisk_Disk_Down_n0 nodeDdisk_Disk_Down_n0 outdisk_Disk_Down_n0)
theorem Gdisk_Disk_Down_n0_ok : CSum Try.prog 11 Ldisk_Disk_Down_n0 Gdisk_Disk_Down_n0 := GNdisk_Disk_Down_n0_ok
noncomputable def anndisk_Disk_Down : Ann := (.seq .none (.seq (.cut 5 [0] Gdisk_Disk_Down_n0) .none))
theorem anndisk_Disk_Down_ok : AnnOk Try.prog 11 bdisk_Disk_Down anndisk_Disk_Down := ⟨(annOk_none _ _ _), ⟨Gdisk_Disk_Down_n0_ok, (annOk_none _ _ _)⟩⟩
abbrev Adisk_Disk_Down := (Int) × (Int) × (Bool) × (List (List UInt8)) × (List (Int × List UInt8)) × (List (Int × List UInt8)) × (List Int)
abbrev Ydisk_Disk_Down := Unit
def fndisk_Disk_Down {β : Type} : Adisk_Disk_Down → (Ydisk_Disk_Down → Option β) → Option β := fun (o0_3, o0_5, o0_6, o1, o2, o3, o4) exit => (bindO (nodeDdisk_Disk_Down_n0 (o0_3, o0_5, o0_6, o1, o2, o3, o4)) fun _ => (exit ()))
def fnDdisk_Disk_Down (a : Adisk_Disk_Down) : Option Ydisk_Disk_Down := fndisk_Disk_Down a some
theorem fndisk_Disk_Down_nat (a : Adisk_Disk_Down) (k : Ydisk_Disk_Down → Ans) : fndisk_Disk_Down a k = bindO (fnDdisk_Disk_Down a) k := by
  obtain ⟨o0_3, o0_5, o0_6, o1, o2, o3, o4⟩ := a
  simp only [fnDdisk_Disk_Down, fndisk_Disk_Down, bindO_cond, bindO_assoc, bindO_none, bindO_pure, bindO_elim, bindO_unP]
def argsdisk_Disk_Down : Adisk_Disk_Down → List AV × List AE.Obj := fun (o0_3, o0_5, o0_6, o1, o2, o3, o4) => ([AV.ptr 0 0], [AE.Obj.cells [AV.own 1, AV.map 2, AV.own 3, AV.int IntKind.i64 o0_3, AV.own 4, AV.int IntKind.i64 o0_5, AV.bool o0_6], Obj.arr Ty.str o1, Obj.mp IntKind.i64 Ty.str o2, Obj.arr (Ty.st (Ty.pair (Ty.int IntKind.i64) Ty.str)) o3, Obj.arr (Ty.int IntKind.i64) o4])
def decAdisk_Disk_Down (l : List AV) (H : List AE.Obj) : Option Adisk_Disk_Down := match l, H with
  | [AV.ptr 0 0], [AE.Obj.cells [AV.own 1, AV.map 2, AV.own 3, AV.int IntKind.i64 o0_3, AV.own 4, AV.int IntKind.i64 o0_5, AV.bool o0_6], Obj.arr Ty.str o1, Obj.mp IntKind.i64 Ty.str o2, Obj.arr (Ty.st (Ty.pair (Ty.int IntKind.i64) Ty.str)) o3, Obj.arr (Ty.int IntKind.i64) o4] => some (o0_3, o0_5, o0_6, o1, o2, o3, o4)
  | _, _ => none
theorem decAdisk_Disk_Down_ok (l : List AV) (H : List AE.Obj) (a : Adisk_Disk_Down) (h : decAdisk_Disk_Down l H = some a) : (l, H) = argsdisk_Disk_Down a := by
  unfold decAdisk_Disk_Down at h
  split at h
  · cases h; rfl
  · cases h
def outdisk_Disk_Down : Adisk_Disk_Down → (AV → List AE.Obj → Ans) → Ydisk_Disk_Down → Ans := fun (o0_3, o0_5, o0_6, o1, o2, o3, o4) K => fun _ => K (AV.bool o0_6) [AE.Obj.cells [AV.own 1, AV.map 2, AV.own 3, AV.int IntKind.i64 o0_3, AV.own 4, AV.int IntKind.i64 o0_5, AV.bool o0_6], Obj.arr Ty.str o1, Obj.mp IntKind.i64 Ty.str o2, Obj.arr (Ty.st (Ty.pair (Ty.int IntKind.i64) Ty.str)) o3, Obj.arr (Ty.int IntKind.i64) o4]
theorem fndisk_Disk_Down_ok (a : Adisk_Disk_Down) (K : AV → List AE.Obj → Ans) : fnE Try.tab envdisk_Disk_Down noHint 0 70 22 Try.f22.ntmps Try.f22.results.toList anndisk_Disk_Down bdisk_Disk_Down (argsdisk_Disk_Down a).1 (argsdisk_Disk_Down a).2 K = fndisk_Disk_Down a (outdisk_Disk_Down a K) := by kernel_rfl
def vFdisk_Disk_Down (a : Adisk_Disk_Down) (K : AV → List AE.Obj → Ans) : Ans := bindO (fnDdisk_Disk_Down a) fun y => outdisk_Disk_Down a K y
def Fdisk_Disk_Down : List AV → List AE.Obj → (AV → List AE.Obj → Ans) → Ans := fun l H K => bindO (decAdisk_Disk_Down l H) fun a => vFdisk_Disk_Down a K
theorem Fdisk_Disk_Down_ok : FuncOk Try.prog 22 Fdisk_Disk_Down := func_mkD (hint := noHint) (d := 0) (n := 70) mixed tabOk envdisk_Disk_DownOk Try.func22 (bodySome (by kernel_rfl)) (by decide +kernel) anndisk_Disk_Down_ok decAdisk_Disk_Down_ok fndisk_Disk_Down_ok fndisk_Disk_Down_nat
end Go.Proofs.R3
namespace Go.Proofs.R3
open Go Go.AE
--@ ref08_Disk_Restart_2
noncomputable def envref08_Disk_Restart_2 : Env := []
theorem envref08_Disk_Restart_2Ok : EnvOk Try.prog envref08_Disk_Restart_2 := EnvOk.nil
noncomputable def bref08_Disk_Restart_2 : Code := Try.f24.body.getD .skip
noncomputable def Lref08_Disk_Restart_2_n2 : Code := codeAt [1, 0, 1, 0, 0, 1, 0, 0, 0] bref08_Disk_Restart_2
noncomputable def annLref08_Disk_Restart_2_n2 : Ann := .none
theorem annLref08_Disk_Restart_2_n2_ok : AnnOk Try.prog 77 Lref08_Disk_Restart_2_n2 annLref08_Disk_Restart_2_n2 := (annOk_none _ _ _)
abbrev Iref08_Disk_Restart_2_n2 := (Int) × (Int) × (Int) × (Bool) × (List (List UInt8)) × (List (List UInt8)) × (List (Int × List UInt8)) × (List Int) × (List (List UInt8))
abbrev Yref08_Disk_Restart_2_n2 := Unit
def Sref08_Disk_Restart_2_n2 : Iref08_Disk_Restart_2_n2 → St := fun (t4, o0_3, o0_5, o0_6, o1, o2, o3, o4, o5) => { env := [(0, AV.ptr 0 0), (1, AV.nils), (4, AV.int IntKind.i64 t4)], stk := [[(0, AV.ptr 0 0)]], H := [AE.Obj.cells [AV.own 1, AV.own 5, AV.own 3, AV.int IntKind.i64 o0_3, AV.own 4, AV.int IntKind.i64 o0_5, AV.bool o0_6], Obj.arr Ty.str o1, Obj.arr Ty.str o2, Obj.arr (Ty.st (Ty.pair (Ty.int IntKind.i64) Ty.str)) o3, Obj.arr (Ty.int IntKind.i64) o4, Obj.arr Ty.str o5], blk := 98305 }
def decref08_Disk_Restart_2_n2 (s : St) : Option Iref08_Disk_Restart_2_n2 := match s with
  | { env := [(0, AV.ptr 0 0), (1, AV.nils), (4, AV.int IntKind.i64 t4)], stk := [[(0, AV.ptr 0 0)]], H := [AE.Obj.cells [AV.own 1, AV.own 5, AV.own 3, AV.int IntKind.i64 o0_3, AV.own 4, AV.int IntKind.i64 o0_5, AV.bool o0_6], Obj.arr Ty.str o1, Obj.arr Ty.str o2, Obj.arr (Ty.st (Ty.pair (Ty.int IntKind.i64) Ty.str)) o3, Obj.arr (Ty.int IntKind.i64) o4, Obj.arr Ty.str o5], blk := 98305 } => some (t4, o0_3, o0_5, o0_6, o1, o2, o3, o4, o5)
  | _ => none
theorem decref08_Disk_Restart_2_n2_ok (s : St) (x : Iref08_Disk_Restart_2_n2) (h : decref08_Disk_Restart_2_n2 s = some x) : s = Sref08_Disk_Restart_2_n2 x := by
  unfold decref08_Disk_Restart_2_n2 at h
  split at h
  · cases h; rfl
  · cases h
def outref08_Disk_Restart_2_n2 : Iref08_Disk_Restart_2_n2 → (Ex → St → Ans) → Yref08_Disk_Restart_2_n2 → Ans := fun (t4, o0_3, o0_5, o0_6, o1, o2, o3, o4, o5) K => fun _ => K (Ex.norm) { env := [(0, AV.ptr 0 0), (1, AV.nils), (4, AV.int IntKind.i64 t4), (34, AV.bool (false))], stk := [[(0, AV.ptr 0 0)]], H := [AE.Obj.cells [AV.own 1, AV.own 5, AV.own 3, AV.int IntKind.i64 o0_3, AV.own 4, AV.int IntKind.i64 o0_5, AV.bool o0_6], Obj.arr Ty.str o1, Obj.arr Ty.str o2, Obj.arr (Ty.st (Ty.pair (Ty.int IntKind.i64) Ty.str)) o3, Obj.arr (Ty.int IntKind.i64) o4, Obj.arr Ty.str o5], blk := 98305 }
def noderef08_Disk_Restart_2_n2 {β : Type} : Iref08_Disk_Restart_2_n2 → (Yref08_Disk_Restart_2_n2 → Option β) → Option β := fun (t4, o0_3, o0_5, o0_6, o1, o2, o3, o4, o5) exit => (bif decide (t4 < (0 : Int)) then none else (exit ()))
def nodeDref08_Disk_Restart_2_n2 (i : Iref08_Disk_Restart_2_n2) : Option Yref08_Disk_Restart_2_n2 := noderef08_Disk_Restart_2_n2 i some
theorem noderef08_Disk_Restart_2_n2_nat (i : Iref08_Disk_Restart_2_n2) (k : Yref08_Disk_Restart_2_n2 → Ans) : noderef08_Disk_Restart_2_n2 i k = bindO (nodeDref08_Disk_Restart_2_n2 i) k := by
  obtain ⟨t4, o0_3, o0_5, o0_6, o1, o2, o3, o4, o5⟩ := i
  simp only [nodeDref08_Disk_Restart_2_n2, noderef08_Disk_Restart_2_n2, bindO_cond, bindO_assoc, bindO_none, bindO_pure, bindO_elim, bindO_unP]
theorem noderef08_Disk_Restart_2_n2_ok (i : Iref08_Disk_Restart_2_n2) (K : Ex → St → Ans) : codeI Try.tab envref08_Disk_Restart_2 noHint (codeD Try.tab envref08_Disk_Restart_2 noHint 0 64) 70 77 annLref08_Disk_Restart_2_n2 Lref08_Disk_Restart_2_n2 (weakP 5 (exk [0, 1, 4, 34] [] []) K) (Sref08_Disk_Restart_2_n2 i) = noderef08_Disk_Restart_2_n2 i (outref08_Disk_Restart_2_n2 i K) := by kernel_rfl
theorem GNref08_Disk_Restart_2_n2_ok : CSum Try.prog 77 Lref08_Disk_Restart_2_n2 (sumN decref08_Disk_Restart_2_n2 nodeDref08_Disk_Restart_2_n2 outref08_Disk_Restart_2_n2) := csum_node mixed tabOk envref08_Disk_Restart_2Ok 5 (exk [0, 1, 4, 34] [] []) annLref08_Disk_Restart_2_n2_ok decref08_Disk_Restart_2_n2_ok noderef08_Disk_Restart_2_n2_ok noderef08_Disk_Restart_2_n2_nat
noncomputable def Gref08_Disk_Restart_2_n2 : (Ex → St → Ans) → St → Ans := (sumN decref08_Disk_Restart_2_n2 nodeDref08_Disk_Restart_2_n2 outref08_Disk_Restart_2_n2)
theorem Gref08_Disk_Restart_2_n2_ok : CSum Try.prog 77 Lref08_Disk_Restart_2_n2 Gref08_Disk_Restart_2_n2 := GNref08_Disk_Restart_2_n2_ok
noncomputable def Lref08_Disk_Restart_2_n1 : Code := codeAt [1, 0, 1, 0, 0, 1, 0] bref08_Disk_Restart_2
noncomputable def annLref08_Disk_Restart_2_n1 : Ann := (.block (.seq (.cut 5 [0, 1, 4] Gref08_Disk_Restart_2_n2) .none))
theorem annLref08_Disk_Restart_2_n1_ok : AnnOk Try.prog 77 Lref08_Disk_Restart_2_n1 annLref08_Disk_Restart_2_n1 := ⟨Gref08_Disk_Restart_2_n2_ok, (annOk_none _ _ _)⟩
abbrev Iref08_Disk_Restart_2_n1 := (Int) × (Int) × (Int) × (Bool) × (List (List UInt8)) × (List (List UInt8)) × (List (Int × List UInt8)) × (List Int) × (List (List UInt8))
abbrev Yref08_Disk_Restart_2_n1 := Unit
def Sref08_Disk_Restart_2_n1 : Iref08_Disk_Restart_2_n1 → St := fun (t4, o0_3, o0_5, o0_6, o1, o2, o3, o4, o5) => { env := [(0, AV.ptr 0 0), (1, AV.nils), (4, AV.int IntKind.i64 t4)], stk := [[(0, AV.ptr 0 0)]], H := [AE.Obj.cells [AV.own 1, AV.own 5, AV.own 3, AV.int IntKind.i64 o0_3, AV.own 4, AV.int IntKind.i64 o0_5, AV.bool o0_6], Obj.arr Ty.str o1, Obj.arr Ty.str o2, Obj.arr (Ty.st (Ty.pair (Ty.int IntKind.i64) Ty.str)) o3, Obj.arr (Ty.int IntKind.i64) o4, Obj.arr Ty.str o5], blk := 98304 }
def decref08_Disk_Restart_2_n1 (s : St) : Option Iref08_Disk_Restart_2_n1 := match s with
  | { env := [(0, AV.ptr 0 0), (1, AV.nils), (4, AV.int IntKind.i64 t4)], stk := [[(0, AV.ptr 0 0)]], H := [AE.Obj.cells [AV.own 1, AV.own 5, AV.own 3, AV.int IntKind.i64 o0_3, AV.own 4, AV.int IntKind.i64 o0_5, AV.bool o0_6], Obj.arr Ty.str o1, Obj.arr Ty.str o2, Obj.arr (Ty.st (Ty.pair (Ty.int IntKind.i64) Ty.str)) o3, Obj.arr (Ty.int IntKind.i64) o4, Obj.arr Ty.str o5], blk := 98304 } => some (t4, o0_3, o0_5, o0_6, o1, o2, o3, o4, o5)
  | _ => none
theorem decref08_Disk_Restart_2_n1_ok (s : St) (x : Iref08_Disk_Restart_2_n1) (h : decref08_Disk_Restart_2_n1 s = some x) : s = Sref08_Disk_Restart_2_n1 x := by
  unfold decref08_Disk_Restart_2_n1 at h
  split at h
  · cases h; rfl
  · cases h
def outref08_Disk_Restart_2_n1 : Iref08_Disk_Restart_2_n1 → (Ex → St → Ans) → Yref08_Disk_Restart_2_n1 → Ans := fun (t4, o0_3, o0_5, o0_6, o1, o2, o3, o4, o5) K => fun _ => K (Ex.norm) { env := [(0, AV.ptr 0 0), (1, AV.nils), (4, AV.int IntKind.i64 t4)], stk := [[(0, AV.ptr 0 0)]], H := [AE.Obj.cells [AV.own 1, AV.own 5, AV.own 3, AV.int IntKind.i64 o0_3, AV.own 4, AV.int IntKind.i64 o0_5, AV.bool o0_6], Obj.arr Ty.str o1, Obj.arr Ty.str o2, Obj.arr (Ty.st (Ty.pair (Ty.int IntKind.i64) Ty.str)) o3, Obj.arr (Ty.int IntKind.i64) o4, Obj.arr Ty.str o5], blk := 98305 }
def noderef08_Disk_Restart_2_n1 {β : Type} : Iref08_Disk_Restart_2_n1 → (Yref08_Disk_Restart_2_n1 → Option β) → Option β := fun (t4, o0_3, o0_5, o0_6, o1, o2, o3, o4, o5) exit => (bindO (nodeDref08_Disk_Restart_2_n2 (t4, o0_3, o0_5, o0_6, o1, o2, o3, o4, o5)) fun _ => (exit ()))
def nodeDref08_Disk_Restart_2_n1 (i : Iref08_Disk_Restart_2_n1) : Option Yref08_Disk_Restart_2_n1 := noderef08_Disk_Restart_2_n1 i some
theorem noderef08_Disk_Restart_2_n1_nat (i : Iref08_Disk_Restart_2_n1) (k : Yref08_Disk_Restart_2_n1 → Ans) : noderef08_Disk_Restart_2_n1 i k = bindO (nodeDref08_Disk_Restart_2_n1 i) k := by
  obtain ⟨t4, o0_3, o0_5, o0_6, o1, o2, o3, o4, o5⟩ := i
  simp only [nodeDref08_Disk_Restart_2_n1, noderef08_Disk_Restart_2_n1, bindO_cond, bindO_assoc, bindO_none, bindO_pure, bindO_elim, bindO_unP]
theorem noderef08_Disk_Restart_2_n1_ok (i : Iref08_Disk_Restart_2_n1) (K : Ex → St → Ans) : codeI Try.tab envref08_Disk_Restart_2 noHint (codeD Try.tab envref08_Disk_Restart_2 noHint 0 64) 70 77 annLref08_Disk_Restart_2_n1 Lref08_Disk_Restart_2_n1 (weakP 5 (exk [0, 1, 4] [] []) K) (Sref08_Disk_Restart_2_n1 i) = noderef08_Disk_Restart_2_n1 i (outref08_Disk_Restart_2_n1 i K) := by kernel_rfl
theorem GNref08_Disk_Restart_2_n1_ok : CSum Try.prog 77 Lref08_Disk_Restart_2_n1 (sumN decref08_Disk_Restart_2_n1 nodeDref08_Disk_Restart_2_n1 outref08_Disk_Restart_2_n1) := csum_node mixed tabOk envref08_Disk_Restart_2Ok 5 (exk [0, 1, 4] [] []) annLref08_Disk_Restart_2_n1_ok decref08_Disk_Restart_2_n1_ok noderef08_Disk_Restart_2_n1_ok noderef08_Disk_Restart_2_n1_nat
noncomputable def Gref08_Disk_Restart_2_n1 : (Ex → St → Ans) → St → Ans := (sumN decref08_Disk_Restart_2_n1 nodeDref08_Disk_Restart_2_n1 outref08_Disk_Restart_2_n1)
theorem Gref08_Disk_Restart_2_n1_ok : CSum Try.prog 77 Lref08_Disk_Restart_2_n1 Gref08_Disk_Restart_2_n1 := GNref08_Disk_Restart_2_n1_ok
noncomputable def Lref08_Disk_Restart_2_n0 : Code := codeAt [1, 0, 1, 0, 0] bref08_Disk_Restart_2
noncomputable def annLref08_Disk_Restart_2_n0 : Ann := .at 5 [0, 1, 4] (.loop (.seq .none (.seq (.cut 5 [0, 1, 4] Gref08_Disk_Restart_2_n1) .none)))
theorem annLref08_Disk_Restart_2_n0_ok : AnnOk Try.prog 77 (.loop Lref08_Disk_Restart_2_n0) annLref08_Disk_Restart_2_n0 := annOk_at ⟨(annOk_none _ _ _), ⟨Gref08_Disk_Restart_2_n1_ok, (annOk_none _ _ _)⟩⟩
abbrev Iref08_Disk_Restart_2_n0 := (Int) × (Int) × (Bool) × (List (List UInt8)) × (List (List UInt8)) × (List (Int × List UInt8)) × (List Int) × (List (List UInt8))
abbrev Yref08_Disk_Restart_2_n0 := Unit
abbrev Vref08_Disk_Restart_2_n0 := (Int)
def Sref08_Disk_Restart_2_n0 : Iref08_Disk_Restart_2_n0 → Vref08_Disk_Restart_2_n0 → St := fun (o0_3, o0_5, o0_6, o1, o2, o3, o4, o5) t4 => { env := [(0, AV.ptr 0 0), (1, AV.nils), (4, AV.int IntKind.i64 t4)], stk := [[(0, AV.ptr 0 0)]], H := [AE.Obj.cells [AV.own 1, AV.own 5, AV.own 3, AV.int IntKind.i64 o0_3, AV.own 4, AV.int IntKind.i64 o0_5, AV.bool o0_6], Obj.arr Ty.str o1, Obj.arr Ty.str o2, Obj.arr (Ty.st (Ty.pair (Ty.int IntKind.i64) Ty.str)) o3, Obj.arr (Ty.int IntKind.i64) o4, Obj.arr Ty.str o5], blk := 98304 }
def decref08_Disk_Restart_2_n0 (s : St) : Option (Iref08_Disk_Restart_2_n0 × Vref08_Disk_Restart_2_n0) := match s with
  | { env := [(0, AV.ptr 0 0), (1, AV.nils), (4, AV.int IntKind.i64 t4)], stk := [[(0, AV.ptr 0 0)]], H := [AE.Obj.cells [AV.own 1, AV.own 5, AV.own 3, AV.int IntKind.i64 o0_3, AV.own 4, AV.int IntKind.i64 o0_5, AV.bool o0_6], Obj.arr Ty.str o1, Obj.arr Ty.str o2, Obj.arr (Ty.st (Ty.pair (Ty.int IntKind.i64) Ty.str)) o3, Obj.arr (Ty.int IntKind.i64) o4, Obj.arr Ty.str o5], blk := 98304 } => some ((o0_3, o0_5, o0_6, o1, o2, o3, o4, o5), t4)
  | _ => none
theorem decref08_Disk_Restart_2_n0_ok (s : St) (x : Iref08_Disk_Restart_2_n0 × Vref08_Disk_Restart_2_n0) (h : decref08_Disk_Restart_2_n0 s = some x) : s = Sref08_Disk_Restart_2_n0 x.1 x.2 := by
  unfold decref08_Disk_Restart_2_n0 at h
  split at h
  · cases h; rfl
  · cases h
def outref08_Disk_Restart_2_n0 : Iref08_Disk_Restart_2_n0 → (Ex → St → Ans) → Yref08_Disk_Restart_2_n0 → Ans := fun (o0_3, o0_5, o0_6, o1, o2, o3, o4, o5) K => fun _ => K (Ex.exit 0) { env := [(0, AV.ptr 0 0)], stk := [[(0, AV.ptr 0 0)]], H := [AE.Obj.cells [AV.own 1, AV.own 5, AV.own 3, AV.int IntKind.i64 o0_3, AV.own 4, AV.int IntKind.i64 o0_5, AV.bool o0_6], Obj.arr Ty.str o1, Obj.arr Ty.str o2, Obj.arr (Ty.st (Ty.pair (Ty.int IntKind.i64) Ty.str)) o3, Obj.arr (Ty.int IntKind.i64) o4, Obj.arr Ty.str o5], blk := 98304 }
def stepref08_Disk_Restart_2_n0 {β : Type} : Iref08_Disk_Restart_2_n0 → Vref08_Disk_Restart_2_n0 → (Vref08_Disk_Restart_2_n0 → Option β) → (Yref08_Disk_Restart_2_n0 → Option β) → Option β := fun (o0_3, o0_5, o0_6, o1, o2, o3, o4, o5) t4 next exit => (bif decide (t4 < (↑(List.length o3) : Int)) then (bindO (nodeDref08_Disk_Restart_2_n1 (t4, o0_3, o0_5, o0_6, o1, o2, o3, o4, o5)) fun _ => (next (IntKind.wrap IntKind.i64 (t4 + (1 : Int))))) else (exit ()))
def stepDref08_Disk_Restart_2_n0 (i : Iref08_Disk_Restart_2_n0) (v : Vref08_Disk_Restart_2_n0) : Option (Vref08_Disk_Restart_2_n0 ⊕ Yref08_Disk_Restart_2_n0) := stepref08_Disk_Restart_2_n0 i v (fun v => some (.inl v)) (fun y => some (.inr y))
theorem stepref08_Disk_Restart_2_n0_nat (i : Iref08_Disk_Restart_2_n0) (v : Vref08_Disk_Restart_2_n0) (next : Vref08_Disk_Restart_2_n0 → Ans) (exit : Yref08_Disk_Restart_2_n0 → Ans) : stepref08_Disk_Restart_2_n0 i v next exit = bindO (stepDref08_Disk_Restart_2_n0 i v) (Sum.elim next exit) := by
  obtain ⟨o0_3, o0_5, o0_6, o1, o2, o3, o4, o5⟩ := i
  obtain z := v
  simp only [stepDref08_Disk_Restart_2_n0, stepref08_Disk_Restart_2_n0, bindO_cond, bindO_assoc, bindO_none, bindO_pure, bindO_elim, bindO_unP, Sum.elim_inl, Sum.elim_inr]
theorem stepref08_Disk_Restart_2_n0_ok (n : Nat) (i : Iref08_Disk_Restart_2_n0) (v : Vref08_Disk_Restart_2_n0) (K : Ex → St → Ans) : codeI Try.tab envref08_Disk_Restart_2 noHint (codeD Try.tab envref08_Disk_Restart_2 noHint 0 64) (n+1) 77 annLref08_Disk_Restart_2_n0 (.loop Lref08_Disk_Restart_2_n0) (weakP 5 (exk [0] [] [(0, [0])]) K) (Sref08_Disk_Restart_2_n0 i v) = stepref08_Disk_Restart_2_n0 i v (fun v' => codeI Try.tab envref08_Disk_Restart_2 noHint (codeD Try.tab envref08_Disk_Restart_2 noHint 0 64) n 77 annLref08_Disk_Restart_2_n0 (.loop Lref08_Disk_Restart_2_n0) (weakP 5 (exk [0] [] [(0, [0])]) K) (Sref08_Disk_Restart_2_n0 i v')) (fun y => outref08_Disk_Restart_2_n0 i K y) := by kernel_rfl
theorem GNref08_Disk_Restart_2_n0_ok : CSum Try.prog 77 (.loop Lref08_Disk_Restart_2_n0) (sumL decref08_Disk_Restart_2_n0 stepDref08_Disk_Restart_2_n0 outref08_Disk_Restart_2_n0) := csum_loop mixed tabOk envref08_Disk_Restart_2Ok 5 (exk [0] [] [(0, [0])]) annLref08_Disk_Restart_2_n0_ok decref08_Disk_Restart_2_n0_ok stepref08_Disk_Restart_2_n0_ok stepref08_Disk_Restart_2_n0_nat
noncomputable def Gref08_Disk_Restart_2_n0 : (Ex → St → Ans) → St → Ans := (sumL decref08_Disk_Restart_2_n0 stepDref08_Disk_Restart_2_n0 outref08_Disk_Restart_2_n0)
theorem Gref08_Disk_Restart_2_n0_ok : CSum Try.prog 77 (.loop Lref08_Disk_Restart_2_n0) Gref08_Disk_Restart_2_n0 := GNref08_Disk_Restart_2_n0_ok
noncomputable def annref08_Disk_Restart_2 : Ann := (.seq .none (.seq (.seq .none (.block (.cut 5 [0, 1, 4] Gref08_Disk_Restart_2_n0))) .none))
theorem annref08_Disk_Restart_2_ok : AnnOk Try.prog 77 bref08_Disk_Restart_2 annref08_Disk_Restart_2 := ⟨(annOk_none _ _ _), ⟨⟨(annOk_none _ _ _), Gref08_Disk_Restart_2_n0_ok⟩, (annOk_none _ _ _)⟩⟩
abbrev Aref08_Disk_Restart_2 := (Int) × (Int) × (Bool) × (List (List UInt8)) × (List (List UInt8)) × (List (Int × List UInt8)) × (List Int)
abbrev Yref08_Disk_Restart_2 := Unit
def fnref08_Disk_Restart_2 {β : Type} : Aref08_Disk_Restart_2 → (Yref08_Disk_Restart_2 → Option β) → Option β := fun (o0_3, o0_5, o0_6, o1, o2, o3, o4) exit => (bif Nat.ble (((0 : Nat) + List.length o1) * (16 : Nat)) (140737488355328 : Nat) then (bindO (loopD (stepDref08_Disk_Restart_2_n0 (o0_3, o0_5, o0_6, o1, o2, o3, o4, o1)) FUEL ((0 : Int))) fun _ => (bif Nat.ble (((0 : Nat) + List.length o1) * (16 : Nat)) (140737488355328 : Nat) then (exit ()) else none)) else none)
def fnDref08_Disk_Restart_2 (a : Aref08_Disk_Restart_2) : Option Yref08_Disk_Restart_2 := fnref08_Disk_Restart_2 a some
theorem fnref08_Disk_Restart_2_nat (a : Aref08_Disk_Restart_2) (k : Yref08_Disk_Restart_2 → Ans) : fnref08_Disk_Restart_2 a k = bindO (fnDref08_Disk_Restart_2 a) k := by
  obtain ⟨o0_3, o0_5, o0_6, o1, o2, o3, o4⟩ := a
  simp only [fnDref08_Disk_Restart_2, fnref08_Disk_Restart_2, bindO_cond, bindO_assoc, bindO_none, bindO_pure, bindO_elim, bindO_unP]
def argsref08_Disk_Restart_2 : Aref08_Disk_Restart_2 → List AV × List AE.Obj := fun (o0_3, o0_5, o0_6, o1, o2, o3, o4) => ([AV.ptr 0 0, AV.nils], [AE.Obj.cells [AV.own 1, AV.own 2, AV.own 3, AV.int IntKind.i64 o0_3, AV.own 4, AV.int IntKind.i64 o0_5, AV.bool o0_6], Obj.arr Ty.str o1, Obj.arr Ty.str o2, Obj.arr (Ty.st (Ty.pair (Ty.int IntKind.i64) Ty.str)) o3, Obj.arr (Ty.int IntKind.i64) o4])
def decAref08_Disk_Restart_2 (l : List AV) (H : List AE.Obj) : Option Aref08_Disk_Restart_2 := match l, H with
  | [AV.ptr 0 0, AV.nils], [AE.Obj.cells [AV.own 1, AV.own 2, AV.own 3, AV.int IntKind.i64 o0_3, AV.own 4, AV.int IntKind.i64 o0_5, AV.bool o0_6], Obj.arr Ty.str o1, Obj.arr Ty.str o2, Obj.arr (Ty.st (Ty.pair (Ty.int IntKind.i64) Ty.str)) o3, Obj.arr (Ty.int IntKind.i64) o4] => some (o0_3, o0_5, o0_6, o1, o2, o3, o4)
  | _, _ => none
theorem decAref08_Disk_Restart_2_ok (l : List AV) (H : List AE.Obj) (a : Aref08_Disk_Restart_2) (h : decAref08_Disk_Restart_2 l H = some a) : (l, H) = argsref08_Disk_Restart_2 a := by
  unfold decAref08_Disk_Restart_2 at h
  split at h
  · cases h; rfl
  · cases h
def outref08_Disk_Restart_2 : Aref08_Disk_Restart_2 → (AV → List AE.Obj → Ans) → Yref08_Disk_Restart_2 → Ans := fun (o0_3, o0_5, o0_6, o1, o2, o3, o4) K => fun _ => K (AV.tup []) [AE.Obj.cells [AV.own 5, AV.own 6, AV.own 7, AV.int IntKind.i64 o0_3, AV.own 8, AV.int IntKind.i64 (0), AV.bool (false)], Obj.arr Ty.str o1, Obj.arr Ty.str o2, Obj.arr (Ty.st (Ty.pair (Ty.int IntKind.i64) Ty.str)) o3, Obj.arr (Ty.int IntKind.i64) o4, Obj.arr Ty.str o1, Obj.arr Ty.str o1, Obj.arr (Ty.st (Ty.pair (Ty.int IntKind.i64) Ty.str)) ([]), Obj.arr (Ty.int IntKind.i64) ([])]
theorem fnref08_Disk_Restart_2_ok (a : Aref08_Disk_Restart_2) (K : AV → List AE.Obj → Ans) : fnE Try.tab envref08_Disk_Restart_2 noHint 0 70 24 Try.f24.ntmps Try.f24.results.toList annref08_Disk_Restart_2 bref08_Disk_Restart_2 (argsref08_Disk_Restart_2 a).1 (argsref08_Disk_Restart_2 a).2 K = fnref08_Disk_Restart_2 a (outref08_Disk_Restart_2 a K) := by kernel_rfl
def vFref08_Disk_Restart_2 (a : Aref08_Disk_Restart_2) (K : AV → List AE.Obj → Ans) : Ans := bindO (fnDref08_Disk_Restart_2 a) fun y => outref08_Disk_Restart_2 a K y
def Fref08_Disk_Restart_2 : List AV → List AE.Obj → (AV → List AE.Obj → Ans) → Ans := fun l H K => bindO (decAref08_Disk_Restart_2 l H) fun a => vFref08_Disk_Restart_2 a K
theorem Fref08_Disk_Restart_2_ok : FuncOk Try.prog 24 Fref08_Disk_Restart_2 := func_mkD (hint := noHint) (d := 0) (n := 70) mixed tabOk envref08_Disk_Restart_2Ok Try.func24 (bodySome (by kernel_rfl)) (by decide +kernel) annref08_Disk_Restart_2_ok decAref08_Disk_Restart_2_ok fnref08_Disk_Restart_2_ok fnref08_Disk_Restart_2_nat
--@ law08_DiskDoes
noncomputable def envlaw08_DiskDoes : Env := [(12, .func Fdisk_New), (23, .func Fdisk_Disk_Sectors), (16, .func Fdisk_Disk_Restart), (21, .func Fdisk_Disk_Ops), (11, .pure Flaw08_works), (15, .func Fdisk_Disk_Waits), (18, .pure Flaw08_Great), (19, .func Fref08_New), (20, .func Flaw08_do), (22, .func Fdisk_Disk_Down), (24, .func Fref08_Disk_Restart_2)]
theorem envlaw08_DiskDoesOk : EnvOk Try.prog envlaw08_DiskDoes := EnvOk.cons Fdisk_New_ok (EnvOk.cons Fdisk_Disk_Sectors_ok (EnvOk.cons Fdisk_Disk_Restart_ok (EnvOk.cons Fdisk_Disk_Ops_ok (EnvOk.cons Flaw08_works_ok (EnvOk.cons Fdisk_Disk_Waits_ok (EnvOk.cons Flaw08_Great_ok (EnvOk.cons Fref08_New_ok (EnvOk.cons Flaw08_do_ok (EnvOk.cons Fdisk_Disk_Down_ok (EnvOk.cons Fref08_Disk_Restart_2_ok (EnvOk.nil)))))))))))
noncomputable def blaw08_DiskDoes : Code := Try.f4.body.getD .skip
noncomputable def Llaw08_DiskDoes_n3 : Code := codeAt [1, 1, 1, 1, 1, 1, 1, 1, 0, 1, 0, 0] blaw08_DiskDoes
noncomputable def annLlaw08_DiskDoes_n3 : Ann := .at 0 [6, 7, 9] (.loop .none)
theorem annLlaw08_DiskDoes_n3_ok : AnnOk Try.prog 91 (.loop Llaw08_DiskDoes_n3) annLlaw08_DiskDoes_n3 := annOk_at (annOk_none _ _ _)
abbrev Ilaw08_DiskDoes_n3 := Unit
abbrev Ylaw08_DiskDoes_n3 := (Unit) ⊕ (Unit)
abbrev Vlaw08_DiskDoes_n3 := (Int) × (Int) × (Int) × (Bool) × (Int) × (Int) × (Bool) × (List (List UInt8)) × (List (Int × List UInt8)) × (List (Int × List UInt8)) × (List Int) × (List (List UInt8)) × (List (List UInt8)) × (List (Int × List UInt8)) × (List Int)
def Slaw08_DiskDoes_n3 : Ilaw08_DiskDoes_n3 → Vlaw08_DiskDoes_n3 → St := fun _ (t9, o0_3, o0_5, o0_6, o1_3, o1_5, o1_6, o2, o3, o4, o5, o6, o7, o8, o9) => { env := [(6, AV.ptr 0 0), (7, AV.ptr 1 0), (9, AV.int IntKind.i64 t9)], stk := [[]], H := [AE.Obj.cells [AV.own 2, AV.map 3, AV.own 4, AV.int IntKind.i64 o0_3, AV.own 5, AV.int IntKind.i64 o0_5, AV.bool o0_6], AE.Obj.cells [AV.own 6, AV.own 7, AV.own 8, AV.int IntKind.i64 o1_3, AV.own 9, AV.int IntKind.i64 o1_5, AV.bool o1_6], Obj.arr Ty.str o2, Obj.mp IntKind.i64 Ty.str o3, Obj.arr (Ty.st (Ty.pair (Ty.int IntKind.i64) Ty.str)) o4, Obj.arr (Ty.int IntKind.i64) o5, Obj.arr Ty.str o6, Obj.arr Ty.str o7, Obj.arr (Ty.st (Ty.pair (Ty.int IntKind.i64) Ty.str)) o8, Obj.arr (Ty.int IntKind.i64) o9], blk := 16386 }
def declaw08_DiskDoes_n3 (s : St) : Option (Ilaw08_DiskDoes_n3 × Vlaw08_DiskDoes_n3) := match s with
  | { env := [(6, AV.ptr 0 0), (7, AV.ptr 1 0), (9, AV.int IntKind.i64 t9)], stk := [[]], H := [AE.Obj.cells [AV.own 2, AV.map 3, AV.own 4, AV.int IntKind.i64 o0_3, AV.own 5, AV.int IntKind.i64 o0_5, AV.bool o0_6], AE.Obj.cells [AV.own 6, AV.own 7, AV.own 8, AV.int IntKind.i64 o1_3, AV.own 9, AV.int IntKind.i64 o1_5, AV.bool o1_6], Obj.arr Ty.str o2, Obj.mp IntKind.i64 Ty.str o3, Obj.arr (Ty.st (Ty.pair (Ty.int IntKind.i64) Ty.str)) o4, Obj.arr (Ty.int IntKind.i64) o5, Obj.arr Ty.str o6, Obj.arr Ty.str o7, Obj.arr (Ty.st (Ty.pair (Ty.int IntKind.i64) Ty.str)) o8, Obj.arr (Ty.int IntKind.i64) o9], blk := 16386 } => some ((), (t9, o0_3, o0_5, o0_6, o1_3, o1_5, o1_6, o2, o3, o4, o5, o6, o7, o8, o9))
  | _ => none
theorem declaw08_DiskDoes_n3_ok (s : St) (x : Ilaw08_DiskDoes_n3 × Vlaw08_DiskDoes_n3) (h : declaw08_DiskDoes_n3 s = some x) : s = Slaw08_DiskDoes_n3 x.1 x.2 := by
  unfold declaw08_DiskDoes_n3 at h
  split at h
  · cases h; rfl
  · cases h
def outlaw08_DiskDoes_n3 : Ilaw08_DiskDoes_n3 → (Ex → St → Ans) → Ylaw08_DiskDoes_n3 → Ans := fun _ K => (Sum.elim (fun _ => K (Ex.ret) { env := [(4, AV.bool (false))], stk := [[]], H := [], blk := 16387 }) (fun _ => K (Ex.exit 2) { env := [], stk := [[]], H := [], blk := 16386 }))
def steplaw08_DiskDoes_n3 {β : Type} : Ilaw08_DiskDoes_n3 → Vlaw08_DiskDoes_n3 → (Vlaw08_DiskDoes_n3 → Option β) → (Ylaw08_DiskDoes_n3 → Option β) → Option β := fun _ (t9, o0_3, o0_5, o0_6, o1_3, o1_5, o1_6, o2, o3, o4, o5, o6, o7, o8, o9) next exit => (bif decide (t9 < (↑(List.length o7) : Int)) then (bindO (fnDlaw08_do ((0 : Int), t9, [], [], o0_3, o0_5, o0_6, o1_3, o1_5, o1_6, o2, o3, o4, o5, o6, o7, o8, o9)) (Sum.elim (unP fun r => unP fun o0_3_2 => unP fun o0_5_2 => unP fun o0_6_2 => unP fun o1_3_2 => unP fun o1_5_2 => unP fun o1_6_2 => unP fun o3_2 => unP fun o4_2 o5_2 => (bif !r then (exit (Sum.inl ())) else (next (IntKind.wrap IntKind.i64 (t9 + (1 : Int)), o0_3_2, o0_5_2, o0_6_2, o1_3_2, o1_5_2, o1_6_2, o2, o3_2, o4_2, o5_2, o6, o7, o8, o9)))) ((Sum.elim (unP fun r => unP fun o0_3_2 => unP fun o0_6_2 => unP fun o1_3_2 => unP fun o1_6_2 => unP fun o3_2 => unP fun o4_2 => unP fun o10 o11 => (bif !r then (exit (Sum.inl ())) else (next (IntKind.wrap IntKind.i64 (t9 + (1 : Int)), o0_3_2, o0_5, o0_6_2, o1_3_2, o1_5, o1_6_2, o2, o3_2, o4_2, o5, o6, o10, o11, o9)))) ((Sum.elim (unP fun r => unP fun o0_3_2 => unP fun o0_6_2 => unP fun o1_3_2 => unP fun o1_6_2 o2_2 => (bif !r then (exit (Sum.inl ())) else (next (IntKind.wrap IntKind.i64 (t9 + (1 : Int)), o0_3_2, o0_5, o0_6_2, o1_3_2, o1_5, o1_6_2, o2_2, [], [], o5, o7, o7, [], o9)))) ((Sum.elim (unP fun r => unP fun o0_3_2 => unP fun o0_6_2 => unP fun o1_3_2 => unP fun o1_6_2 o2_2 => (bif !r then (exit (Sum.inl ())) else (next (IntKind.wrap IntKind.i64 (t9 + (1 : Int)), o0_3_2, o0_5, o0_6_2, o1_3_2, o1_5, o1_6_2, o2_2, [], [], o5, o6, o7, o8, o9)))) ((Sum.elim (unP fun r => unP fun o0_3_2 => unP fun o0_6_2 => unP fun o1_3_2 o1_6_2 => (bif !r then (exit (Sum.inl ())) else (next (IntKind.wrap IntKind.i64 (t9 + (1 : Int)), o0_3_2, o0_5, o0_6_2, o1_3_2, o1_5, o1_6_2, o2, o3, o4, o5, o7, o7, [], o9)))) ((Sum.elim (unP fun o5_2 o10 => (next (IntKind.wrap IntKind.i64 (t9 + (1 : Int)), o0_3, o0_5, o0_6, o1_3, o1_5, o1_6, o2, o3, o4, o5_2, o6, o7, o8, o10))) (unP fun o2_2 => unP fun o12 o13 => (next (IntKind.wrap IntKind.i64 (t9 + (1 : Int)), o0_3, (0 : Int), false, o1_3, (0 : Int), false, o2_2, [], [], [], o12, o13, [], []))))))))))))))) else (exit (Sum.inr ())))
def stepDlaw08_DiskDoes_n3 (i : Ilaw08_DiskDoes_n3) (v : Vlaw08_DiskDoes_n3) : Option (Vlaw08_DiskDoes_n3 ⊕ Ylaw08_DiskDoes_n3) := steplaw08_DiskDoes_n3 i v (fun v => some (.inl v)) (fun y => some (.inr y))
theorem steplaw08_DiskDoes_n3_nat (i : Ilaw08_DiskDoes_n3) (v : Vlaw08_DiskDoes_n3) (next : Vlaw08_DiskDoes_n3 → Ans) (exit : Ylaw08_DiskDoes_n3 → Ans) : steplaw08_DiskDoes_n3 i v next exit = bindO (stepDlaw08_DiskDoes_n3 i v) (Sum.elim next exit) := by
  obtain z := i
  obtain ⟨t9, o0_3, o0_5, o0_6, o1_3, o1_5, o1_6, o2, o3, o4, o5, o6, o7, o8, o9⟩ := v
  simp only [stepDlaw08_DiskDoes_n3, steplaw08_DiskDoes_n3, bindO_cond, bindO_assoc, bindO_none, bindO_pure, bindO_elim, bindO_unP, Sum.elim_inl, Sum.elim_inr]
theorem steplaw08_DiskDoes_n3_ok (n : Nat) (i : Ilaw08_DiskDoes_n3) (v : Vlaw08_DiskDoes_n3) (K : Ex → St → Ans) : codeI Try.tab envlaw08_DiskDoes noHint (codeD Try.tab envlaw08_DiskDoes noHint 0 64) (n+1) 91 annLlaw08_DiskDoes_n3 (.loop Llaw08_DiskDoes_n3) (weakP 0 (exk [] [4] [(2, [])]) K) (Slaw08_DiskDoes_n3 i v) = steplaw08_DiskDoes_n3 i v (fun v' => codeI Try.tab envlaw08_DiskDoes noHint (codeD Try.tab envlaw08_DiskDoes noHint 0 64) n 91 annLlaw08_DiskDoes_n3 (.loop Llaw08_DiskDoes_n3) (weakP 0 (exk [] [4] [(2, [])]) K) (Slaw08_DiskDoes_n3 i v')) (fun y => outlaw08_DiskDoes_n3 i K y) := by kernel_rfl
theorem GNlaw08_DiskDoes_n3_ok : CSum Try.prog 91 (.loop Llaw08_DiskDoes_n3) (sumL declaw08_DiskDoes_n3 stepDlaw08_DiskDoes_n3 outlaw08_DiskDoes_n3) := csum_loop mixed tabOk envlaw08_DiskDoesOk 0 (exk [] [4] [(2, [])]) annLlaw08_DiskDoes_n3_ok declaw08_DiskDoes_n3_ok steplaw08_DiskDoes_n3_ok steplaw08_DiskDoes_n3_nat
noncomputable def Glaw08_DiskDoes_n3 : (Ex → St → Ans) → St → Ans := (sumL declaw08_DiskDoes_n3 stepDlaw08_DiskDoes_n3 outlaw08_DiskDoes_n3)
theorem Glaw08_DiskDoes_n3_ok : CSum Try.prog 91 (.loop Llaw08_DiskDoes_n3) Glaw08_DiskDoes_n3 := GNlaw08_DiskDoes_n3_ok
noncomputable def Llaw08_DiskDoes_n2 : Code := codeAt [1, 1, 1, 1, 1, 0, 1, 0, 0, 1, 0, 0, 0] blaw08_DiskDoes
noncomputable def annLlaw08_DiskDoes_n2 : Ann := .none
theorem annLlaw08_DiskDoes_n2_ok : AnnOk Try.prog 91 Llaw08_DiskDoes_n2 annLlaw08_DiskDoes_n2 := (annOk_none _ _ _)
abbrev Ilaw08_DiskDoes_n2 := (List (Int × Int × List UInt8 × List Int)) × (Int) × (Int) × (Int) × (Bool) × (Int) × (Int) × (Bool) × (List (List UInt8)) × (List (Int × List UInt8)) × (List (Int × List UInt8)) × (List Int) × (List (List UInt8)) × (List (List UInt8)) × (List (Int × List UInt8)) × (List Int)
abbrev Ylaw08_DiskDoes_n2 := (Bool) × (Int) × (Int) × (Bool) × (Int) × (Int) × (Bool) × (List (List UInt8)) × (List (Int × List UInt8)) × (List (Int × List UInt8)) × (List Int) × (List (List UInt8)) × (List (List UInt8)) × (List (Int × List UInt8)) × (List Int)
def Slaw08_DiskDoes_n2 : Ilaw08_DiskDoes_n2 → St := fun (t1, t8, o0_3, o0_5, o0_6, o1_3, o1_5, o1_6, o2, o3, o4, o5, o6, o7, o8, o9) => { env := [(1, AV.ro (Ty.st (Ty.pair (Ty.int IntKind.i64) (Ty.pair (Ty.int IntKind.i64) (Ty.pair Ty.str (Ty.list (Ty.int IntKind.i64)))))) t1), (6, AV.ptr 0 0), (7, AV.ptr 1 0), (8, AV.int IntKind.i64 t8)], stk := [[]], H := [AE.Obj.cells [AV.own 2, AV.map 3, AV.own 4, AV.int IntKind.i64 o0_3, AV.own 5, AV.int IntKind.i64 o0_5, AV.bool o0_6], AE.Obj.cells [AV.own 6, AV.own 7, AV.own 8, AV.int IntKind.i64 o1_3, AV.own 9, AV.int IntKind.i64 o1_5, AV.bool o1_6], Obj.arr Ty.str o2, Obj.mp IntKind.i64 Ty.str o3, Obj.arr (Ty.st (Ty.pair (Ty.int IntKind.i64) Ty.str)) o4, Obj.arr (Ty.int IntKind.i64) o5, Obj.arr Ty.str o6, Obj.arr Ty.str o7, Obj.arr (Ty.st (Ty.pair (Ty.int IntKind.i64) Ty.str)) o8, Obj.arr (Ty.int IntKind.i64) o9], blk := 16385 }
def declaw08_DiskDoes_n2 (s : St) : Option Ilaw08_DiskDoes_n2 := match s with
  | { env := [(1, AV.ro (Ty.st (Ty.pair (Ty.int IntKind.i64) (Ty.pair (Ty.int IntKind.i64) (Ty.pair Ty.str (Ty.list (Ty.int IntKind.i64)))))) t1), (6, AV.ptr 0 0), (7, AV.ptr 1 0), (8, AV.int IntKind.i64 t8)], stk := [[]], H := [AE.Obj.cells [AV.own 2, AV.map 3, AV.own 4, AV.int IntKind.i64 o0_3, AV.own 5, AV.int IntKind.i64 o0_5, AV.bool o0_6], AE.Obj.cells [AV.own 6, AV.own 7, AV.own 8, AV.int IntKind.i64 o1_3, AV.own 9, AV.int IntKind.i64 o1_5, AV.bool o1_6], Obj.arr Ty.str o2, Obj.mp IntKind.i64 Ty.str o3, Obj.arr (Ty.st (Ty.pair (Ty.int IntKind.i64) Ty.str)) o4, Obj.arr (Ty.int IntKind.i64) o5, Obj.arr Ty.str o6, Obj.arr Ty.str o7, Obj.arr (Ty.st (Ty.pair (Ty.int IntKind.i64) Ty.str)) o8, Obj.arr (Ty.int IntKind.i64) o9], blk := 16385 } => some (t1, t8, o0_3, o0_5, o0_6, o1_3, o1_5, o1_6, o2, o3, o4, o5, o6, o7, o8, o9)
  | _ => none
theorem declaw08_DiskDoes_n2_ok (s : St) (x : Ilaw08_DiskDoes_n2) (h : declaw08_DiskDoes_n2 s = some x) : s = Slaw08_DiskDoes_n2 x := by
  unfold declaw08_DiskDoes_n2 at h
  split at h
  · cases h; rfl
  · cases h
def outlaw08_DiskDoes_n2 : Ilaw08_DiskDoes_n2 → (Ex → St → Ans) → Ylaw08_DiskDoes_n2 → Ans := fun (t1, t8, o0_3, o0_5, o0_6, o1_3, o1_5, o1_6, o2, o3, o4, o5, o6, o7, o8, o9) K => unP fun t71_y => unP fun o0_3_y => unP fun o0_5_y => unP fun o0_6_y => unP fun o1_3_y => unP fun o1_5_y => unP fun o1_6_y => unP fun o2_y => unP fun o3_y => unP fun o4_y => unP fun o5_y => unP fun o6_y => unP fun o7_y => unP fun o8_y o9_y => K (Ex.norm) { env := [(1, AV.ro (Ty.st (Ty.pair (Ty.int IntKind.i64) (Ty.pair (Ty.int IntKind.i64) (Ty.pair Ty.str (Ty.list (Ty.int IntKind.i64)))))) t1), (6, AV.ptr 0 0), (7, AV.ptr 1 0), (8, AV.int IntKind.i64 t8), (71, AV.bool t71_y)], stk := [[]], H := [AE.Obj.cells [AV.own 2, AV.map 3, AV.own 4, AV.int IntKind.i64 o0_3_y, AV.own 5, AV.int IntKind.i64 o0_5_y, AV.bool o0_6_y], AE.Obj.cells [AV.own 6, AV.own 7, AV.own 8, AV.int IntKind.i64 o1_3_y, AV.own 9, AV.int IntKind.i64 o1_5_y, AV.bool o1_6_y], Obj.arr Ty.str o2_y, Obj.mp IntKind.i64 Ty.str o3_y, Obj.arr (Ty.st (Ty.pair (Ty.int IntKind.i64) Ty.str)) o4_y, Obj.arr (Ty.int IntKind.i64) o5_y, Obj.arr Ty.str o6_y, Obj.arr Ty.str o7_y, Obj.arr (Ty.st (Ty.pair (Ty.int IntKind.i64) Ty.str)) o8_y, Obj.arr (Ty.int IntKind.i64) o9_y], blk := 16385 }
def nodelaw08_DiskDoes_n2 {β : Type} : Ilaw08_DiskDoes_n2 → (Ylaw08_DiskDoes_n2 → Option β) → Option β := fun (t1, t8, o0_3, o0_5, o0_6, o1_3, o1_5, o1_6, o2, o3, o4, o5, o6, o7, o8, o9) exit => (bindO (nth t1 t8) fun x => (bindO (fnDlaw08_do (x.fst, x.snd.fst, x.snd.snd.fst, x.snd.snd.snd, o0_3, o0_5, o0_6, o1_3, o1_5, o1_6, o2, o3, o4, o5, o6, o7, o8, o9)) (Sum.elim (unP fun r => unP fun o0_3_2 => unP fun o0_5_2 => unP fun o0_6_2 => unP fun o1_3_2 => unP fun o1_5_2 => unP fun o1_6_2 => unP fun o3_2 => unP fun o4_2 o5_2 => (bif !r then (exit (true, o0_3_2, o0_5_2, o0_6_2, o1_3_2, o1_5_2, o1_6_2, o2, o3_2, o4_2, o5_2, o6, o7, o8, o9)) else (bindO (fnDdisk_Disk_Ops (o0_3_2, o0_5_2, o0_6_2, o2, o3_2, o4_2, o5_2)) fun _ => (bif o0_3_2 != o1_3_2 then (exit (true, o0_3_2, o0_5_2, o0_6_2, o1_3_2, o1_5_2, o1_6_2, o2, o3_2, o4_2, o5_2, o6, o7, o8, o9)) else (bindO (fnDdisk_Disk_Down (o0_3_2, o0_5_2, o0_6_2, o2, o3_2, o4_2, o5_2)) fun _ => (bif !o0_6_2 == o1_6_2 then (exit (true, o0_3_2, o0_5_2, o0_6_2, o1_3_2, o1_5_2, o1_6_2, o2, o3_2, o4_2, o5_2, o6, o7, o8, o9)) else (bindO (fnDdisk_Disk_Waits (o0_3_2, o0_5_2, o0_6_2, o2, o3_2, o4_2, o5_2)) fun r_2 => (bif r_2 != (↑(List.length o8) : Int) then (exit (true, o0_3_2, o0_5_2, o0_6_2, o1_3_2, o1_5_2, o1_6_2, o2, o3_2, o4_2, o5_2, o6, o7, o8, o9)) else (bindO (fnDdisk_Disk_Sectors (o0_3_2, o0_5_2, o0_6_2, o2, o3_2, o4_2, o5_2)) fun r_3 => (exit (r_3 != (↑(List.length o7) : Int), o0_3_2, o0_5_2, o0_6_2, o1_3_2, o1_5_2, o1_6_2, o2, o3_2, o4_2, o5_2, o6, o7, o8, o9))))))))))) ((Sum.elim (unP fun r => unP fun o0_3_2 => unP fun o0_6_2 => unP fun o1_3_2 => unP fun o1_6_2 => unP fun o3_2 => unP fun o4_2 => unP fun o10 o11 => (bif !r then (exit (true, o0_3_2, o0_5, o0_6_2, o1_3_2, o1_5, o1_6_2, o2, o3_2, o4_2, o5, o6, o10, o11, o9)) else (bindO (fnDdisk_Disk_Ops (o0_3_2, o0_5, o0_6_2, o2, o3_2, o4_2, o5)) fun _ => (bif o0_3_2 != o1_3_2 then (exit (true, o0_3_2, o0_5, o0_6_2, o1_3_2, o1_5, o1_6_2, o2, o3_2, o4_2, o5, o6, o10, o11, o9)) else (bindO (fnDdisk_Disk_Down (o0_3_2, o0_5, o0_6_2, o2, o3_2, o4_2, o5)) fun _ => (bif !o0_6_2 == o1_6_2 then (exit (true, o0_3_2, o0_5, o0_6_2, o1_3_2, o1_5, o1_6_2, o2, o3_2, o4_2, o5, o6, o10, o11, o9)) else (bindO (fnDdisk_Disk_Waits (o0_3_2, o0_5, o0_6_2, o2, o3_2, o4_2, o5)) fun r_2 => (bif r_2 != (↑(List.length o11) : Int) then (exit (true, o0_3_2, o0_5, o0_6_2, o1_3_2, o1_5, o1_6_2, o2, o3_2, o4_2, o5, o6, o10, o11, o9)) else (bindO (fnDdisk_Disk_Sectors (o0_3_2, o0_5, o0_6_2, o2, o3_2, o4_2, o5)) fun r_3 => (exit (r_3 != (↑(List.length o10) : Int), o0_3_2, o0_5, o0_6_2, o1_3_2, o1_5, o1_6_2, o2, o3_2, o4_2, o5, o6, o10, o11, o9))))))))))) ((Sum.elim (unP fun r => unP fun o0_3_2 => unP fun o0_6_2 => unP fun o1_3_2 => unP fun o1_6_2 o2_2 => (bif !r then (exit (true, o0_3_2, o0_5, o0_6_2, o1_3_2, o1_5, o1_6_2, o2_2, [], [], o5, o7, o7, [], o9)) else (bindO (fnDdisk_Disk_Ops (o0_3_2, o0_5, o0_6_2, o2_2, [], [], o5)) fun _ => (bif o0_3_2 != o1_3_2 then (exit (true, o0_3_2, o0_5, o0_6_2, o1_3_2, o1_5, o1_6_2, o2_2, [], [], o5, o7, o7, [], o9)) else (bindO (fnDdisk_Disk_Down (o0_3_2, o0_5, o0_6_2, o2_2, [], [], o5)) fun _ => (bif !o0_6_2 == o1_6_2 then (exit (true, o0_3_2, o0_5, o0_6_2, o1_3_2, o1_5, o1_6_2, o2_2, [], [], o5, o7, o7, [], o9)) else (bindO (fnDdisk_Disk_Waits (o0_3_2, o0_5, o0_6_2, o2_2, [], [], o5)) fun r_2 => (bif r_2 != (0 : Int) then (exit (true, o0_3_2, o0_5, o0_6_2, o1_3_2, o1_5, o1_6_2, o2_2, [], [], o5, o7, o7, [], o9)) else (bindO (fnDdisk_Disk_Sectors (o0_3_2, o0_5, o0_6_2, o2_2, [], [], o5)) fun r_3 => (exit (r_3 != (↑(List.length o7) : Int), o0_3_2, o0_5, o0_6_2, o1_3_2, o1_5, o1_6_2, o2_2, [], [], o5, o7, o7, [], o9))))))))))) ((Sum.elim (unP fun r => unP fun o0_3_2 => unP fun o0_6_2 => unP fun o1_3_2 => unP fun o1_6_2 o2_2 => (bif !r then (exit (true, o0_3_2, o0_5, o0_6_2, o1_3_2, o1_5, o1_6_2, o2_2, [], [], o5, o6, o7, o8, o9)) else (bindO (fnDdisk_Disk_Ops (o0_3_2, o0_5, o0_6_2, o2_2, [], [], o5)) fun _ => (bif o0_3_2 != o1_3_2 then (exit (true, o0_3_2, o0_5, o0_6_2, o1_3_2, o1_5, o1_6_2, o2_2, [], [], o5, o6, o7, o8, o9)) else (bindO (fnDdisk_Disk_Down (o0_3_2, o0_5, o0_6_2, o2_2, [], [], o5)) fun _ => (bif !o0_6_2 == o1_6_2 then (exit (true, o0_3_2, o0_5, o0_6_2, o1_3_2, o1_5, o1_6_2, o2_2, [], [], o5, o6, o7, o8, o9)) else (bindO (fnDdisk_Disk_Waits (o0_3_2, o0_5, o0_6_2, o2_2, [], [], o5)) fun r_2 => (bif r_2 != (↑(List.length o8) : Int) then (exit (true, o0_3_2, o0_5, o0_6_2, o1_3_2, o1_5, o1_6_2, o2_2, [], [], o5, o6, o7, o8, o9)) else (bindO (fnDdisk_Disk_Sectors (o0_3_2, o0_5, o0_6_2, o2_2, [], [], o5)) fun r_3 => (exit (r_3 != (↑(List.length o7) : Int), o0_3_2, o0_5, o0_6_2, o1_3_2, o1_5, o1_6_2, o2_2, [], [], o5, o6, o7, o8, o9))))))))))) ((Sum.elim (unP fun r => unP fun o0_3_2 => unP fun o0_6_2 => unP fun o1_3_2 o1_6_2 => (bif !r then (exit (true, o0_3_2, o0_5, o0_6_2, o1_3_2, o1_5, o1_6_2, o2, o3, o4, o5, o7, o7, [], o9)) else (bindO (fnDdisk_Disk_Ops (o0_3_2, o0_5, o0_6_2, o2, o3, o4, o5)) fun _ => (bif o0_3_2 != o1_3_2 then (exit (true, o0_3_2, o0_5, o0_6_2, o1_3_2, o1_5, o1_6_2, o2, o3, o4, o5, o7, o7, [], o9)) else (bindO (fnDdisk_Disk_Down (o0_3_2, o0_5, o0_6_2, o2, o3, o4, o5)) fun _ => (bif !o0_6_2 == o1_6_2 then (exit (true, o0_3_2, o0_5, o0_6_2, o1_3_2, o1_5, o1_6_2, o2, o3, o4, o5, o7, o7, [], o9)) else (bindO (fnDdisk_Disk_Waits (o0_3_2, o0_5, o0_6_2, o2, o3, o4, o5)) fun r_2 => (bif r_2 != (0 : Int) then (exit (true, o0_3_2, o0_5, o0_6_2, o1_3_2, o1_5, o1_6_2, o2, o3, o4, o5, o7, o7, [], o9)) else (bindO (fnDdisk_Disk_Sectors (o0_3_2, o0_5, o0_6_2, o2, o3, o4, o5)) fun r_3 => (exit (r_3 != (↑(List.length o7) : Int), o0_3_2, o0_5, o0_6_2, o1_3_2, o1_5, o1_6_2, o2, o3, o4, o5, o7, o7, [], o9))))))))))) ((Sum.elim (unP fun o5_2 o10 => (bindO (fnDdisk_Disk_Ops (o0_3, o0_5, o0_6, o2, o3, o4, o5_2)) fun _ => (bif o0_3 != o1_3 then (exit (true, o0_3, o0_5, o0_6, o1_3, o1_5, o1_6, o2, o3, o4, o5_2, o6, o7, o8, o10)) else (bindO (fnDdisk_Disk_Down (o0_3, o0_5, o0_6, o2, o3, o4, o5_2)) fun _ => (bif !o0_6 == o1_6 then (exit (true, o0_3, o0_5, o0_6, o1_3, o1_5, o1_6, o2, o3, o4, o5_2, o6, o7, o8, o10)) else (bindO (fnDdisk_Disk_Waits (o0_3, o0_5, o0_6, o2, o3, o4, o5_2)) fun r => (bif r != (↑(List.length o8) : Int) then (exit (true, o0_3, o0_5, o0_6, o1_3, o1_5, o1_6, o2, o3, o4, o5_2, o6, o7, o8, o10)) else (bindO (fnDdisk_Disk_Sectors (o0_3, o0_5, o0_6, o2, o3, o4, o5_2)) fun r_2 => (exit (r_2 != (↑(List.length o7) : Int), o0_3, o0_5, o0_6, o1_3, o1_5, o1_6, o2, o3, o4, o5_2, o6, o7, o8, o10)))))))))) (unP fun o2_2 => unP fun o12 o13 => (bindO (fnDdisk_Disk_Ops (o0_3, (0 : Int), false, o2_2, [], [], [])) fun _ => (bif o0_3 != o1_3 then (exit (true, o0_3, (0 : Int), false, o1_3, (0 : Int), false, o2_2, [], [], [], o12, o13, [], [])) else (bindO (fnDdisk_Disk_Down (o0_3, (0 : Int), false, o2_2, [], [], [])) fun _ => (bindO (fnDdisk_Disk_Waits (o0_3, (0 : Int), false, o2_2, [], [], [])) fun r => (bif r != (0 : Int) then (exit (true, o0_3, (0 : Int), false, o1_3, (0 : Int), false, o2_2, [], [], [], o12, o13, [], [])) else (bindO (fnDdisk_Disk_Sectors (o0_3, (0 : Int), false, o2_2, [], [], [])) fun r_2 => (exit (r_2 != (↑(List.length o13) : Int), o0_3, (0 : Int), false, o1_3, (0 : Int), false, o2_2, [], [], [], o12, o13, [], []))))))))))))))))))))))
def nodeDlaw08_DiskDoes_n2 (i : Ilaw08_DiskDoes_n2) : Option Ylaw08_DiskDoes_n2 := nodelaw08_DiskDoes_n2 i some
theorem nodelaw08_DiskDoes_n2_nat (i : Ilaw08_DiskDoes_n2) (k : Ylaw08_DiskDoes_n2 → Ans) : nodelaw08_DiskDoes_n2 i k = bindO (nodeDlaw08_DiskDoes_n2 i) k := by
  obtain ⟨t1, t8, o0_3, o0_5, o0_6, o1_3, o1_5, o1_6, o2, o3, o4, o5, o6, o7, o8, o9⟩ := i
  simp only [nodeDlaw08_DiskDoes_n2, nodelaw08_DiskDoes_n2, bindO_cond, bindO_assoc, bindO_none, bindO_pure, bindO_elim, bindO_unP]
theorem nodelaw08_DiskDoes_n2_ok (i : Ilaw08_DiskDoes_n2) (K : Ex → St → Ans) : codeI Try.tab envlaw08_DiskDoes noHint (codeD Try.tab envlaw08_DiskDoes noHint 0 64) 70 91 annLlaw08_DiskDoes_n2 Llaw08_DiskDoes_n2 (weakP 0 (exk [1, 6, 7, 8, 71] [4] []) K) (Slaw08_DiskDoes_n2 i) = nodelaw08_DiskDoes_n2 i (outlaw08_DiskDoes_n2 i K) := by kernel_rfl
theorem GNlaw08_DiskDoes_n2_ok : CSum Try.prog 91 Llaw08_DiskDoes_n2 (sumN declaw08_DiskDoes_n2 nodeDlaw08_DiskDoes_n2 outlaw08_DiskDoes_n2) := csum_node mixed tabOk envlaw08_DiskDoesOk 0 (exk [1, 6, 7, 8, 71] [4] []) annLlaw08_DiskDoes_n2_ok declaw08_DiskDoes_n2_ok nodelaw08_DiskDoes_n2_ok nodelaw08_DiskDoes_n2_nat
noncomputable def Glaw08_DiskDoes_n2 : (Ex → St → Ans) → St → Ans := (sumN declaw08_DiskDoes_n2 nodeDlaw08_DiskDoes_n2 outlaw08_DiskDoes_n2)
theorem Glaw08_DiskDoes_n2_ok : CSum Try.prog 91 Llaw08_DiskDoes_n2 Glaw08_DiskDoes_n2 := GNlaw08_DiskDoes_n2_ok
noncomputable def Llaw08_DiskDoes_n1 : Code := codeAt [1, 1, 1, 1, 1, 0, 1, 0, 0, 1, 0] blaw08_DiskDoes
noncomputable def annLlaw08_DiskDoes_n1 : Ann := (.block (.seq (.cut 0 [1, 6, 7, 8] Glaw08_DiskDoes_n2) .none))
theorem annLlaw08_DiskDoes_n1_ok : AnnOk Try.prog 91 Llaw08_DiskDoes_n1 annLlaw08_DiskDoes_n1 := ⟨Glaw08_DiskDoes_n2_ok, (annOk_none _ _ _)⟩
abbrev Ilaw08_DiskDoes_n1 := (List (Int × Int × List UInt8 × List Int)) × (Int) × (Int) × (Int) × (Bool) × (Int) × (Int) × (Bool) × (List (List UInt8)) × (List (Int × List UInt8)) × (List (Int × List UInt8)) × (List Int) × (List (List UInt8)) × (List (List UInt8)) × (List (Int × List UInt8)) × (List Int)
abbrev Ylaw08_DiskDoes_n1 := (Unit) ⊕ ((Int) × (Int) × (Bool) × (Int) × (Int) × (Bool) × (List (List UInt8)) × (List (Int × List UInt8)) × (List (Int × List UInt8)) × (List Int) × (List (List UInt8)) × (List (List UInt8)) × (List (Int × List UInt8)) × (List Int))
def Slaw08_DiskDoes_n1 : Ilaw08_DiskDoes_n1 → St := fun (t1, t8, o0_3, o0_5, o0_6, o1_3, o1_5, o1_6, o2, o3, o4, o5, o6, o7, o8, o9) => { env := [(1, AV.ro (Ty.st (Ty.pair (Ty.int IntKind.i64) (Ty.pair (Ty.int IntKind.i64) (Ty.pair Ty.str (Ty.list (Ty.int IntKind.i64)))))) t1), (6, AV.ptr 0 0), (7, AV.ptr 1 0), (8, AV.int IntKind.i64 t8)], stk := [[]], H := [AE.Obj.cells [AV.own 2, AV.map 3, AV.own 4, AV.int IntKind.i64 o0_3, AV.own 5, AV.int IntKind.i64 o0_5, AV.bool o0_6], AE.Obj.cells [AV.own 6, AV.own 7, AV.own 8, AV.int IntKind.i64 o1_3, AV.own 9, AV.int IntKind.i64 o1_5, AV.bool o1_6], Obj.arr Ty.str o2, Obj.mp IntKind.i64 Ty.str o3, Obj.arr (Ty.st (Ty.pair (Ty.int IntKind.i64) Ty.str)) o4, Obj.arr (Ty.int IntKind.i64) o5, Obj.arr Ty.str o6, Obj.arr Ty.str o7, Obj.arr (Ty.st (Ty.pair (Ty.int IntKind.i64) Ty.str)) o8, Obj.arr (Ty.int IntKind.i64) o9], blk := 16384 }
def declaw08_DiskDoes_n1 (s : St) : Option Ilaw08_DiskDoes_n1 := match s with
  | { env := [(1, AV.ro (Ty.st (Ty.pair (Ty.int IntKind.i64) (Ty.pair (Ty.int IntKind.i64) (Ty.pair Ty.str (Ty.list (Ty.int IntKind.i64)))))) t1), (6, AV.ptr 0 0), (7, AV.ptr 1 0), (8, AV.int IntKind.i64 t8)], stk := [[]], H := [AE.Obj.cells [AV.own 2, AV.map 3, AV.own 4, AV.int IntKind.i64 o0_3, AV.own 5, AV.int IntKind.i64 o0_5, AV.bool o0_6], AE.Obj.cells [AV.own 6, AV.own 7, AV.own 8, AV.int IntKind.i64 o1_3, AV.own 9, AV.int IntKind.i64 o1_5, AV.bool o1_6], Obj.arr Ty.str o2, Obj.mp IntKind.i64 Ty.str o3, Obj.arr (Ty.st (Ty.pair (Ty.int IntKind.i64) Ty.str)) o4, Obj.arr (Ty.int IntKind.i64) o5, Obj.arr Ty.str o6, Obj.arr Ty.str o7, Obj.arr (Ty.st (Ty.pair (Ty.int IntKind.i64) Ty.str)) o8, Obj.arr (Ty.int IntKind.i64) o9], blk := 16384 } => some (t1, t8, o0_3, o0_5, o0_6, o1_3, o1_5, o1_6, o2, o3, o4, o5, o6, o7, o8, o9)
  | _ => none
theorem declaw08_DiskDoes_n1_ok (s : St) (x : Ilaw08_DiskDoes_n1) (h : declaw08_DiskDoes_n1 s = some x) : s = Slaw08_DiskDoes_n1 x := by
  unfold declaw08_DiskDoes_n1 at h
  split at h
  · cases h; rfl
  · cases h
def outlaw08_DiskDoes_n1 : Ilaw08_DiskDoes_n1 → (Ex → St → Ans) → Ylaw08_DiskDoes_n1 → Ans := fun (t1, t8, o0_3, o0_5, o0_6, o1_3, o1_5, o1_6, o2, o3, o4, o5, o6, o7, o8, o9) K => (Sum.elim (fun _ => K (Ex.ret) { env := [(4, AV.bool (false))], stk := [[]], H := [], blk := 16385 }) (unP fun o0_3_y => unP fun o0_5_y => unP fun o0_6_y => unP fun o1_3_y => unP fun o1_5_y => unP fun o1_6_y => unP fun o2_y => unP fun o3_y => unP fun o4_y => unP fun o5_y => unP fun o6_y => unP fun o7_y => unP fun o8_y o9_y => K (Ex.norm) { env := [(1, AV.ro (Ty.st (Ty.pair (Ty.int IntKind.i64) (Ty.pair (Ty.int IntKind.i64) (Ty.pair Ty.str (Ty.list (Ty.int IntKind.i64)))))) t1), (6, AV.ptr 0 0), (7, AV.ptr 1 0), (8, AV.int IntKind.i64 t8)], stk := [[]], H := [AE.Obj.cells [AV.own 2, AV.map 3, AV.own 4, AV.int IntKind.i64 o0_3_y, AV.own 5, AV.int IntKind.i64 o0_5_y, AV.bool o0_6_y], AE.Obj.cells [AV.own 6, AV.own 7, AV.own 8, AV.int IntKind.i64 o1_3_y, AV.own 9, AV.int IntKind.i64 o1_5_y, AV.bool o1_6_y], Obj.arr Ty.str o2_y, Obj.mp IntKind.i64 Ty.str o3_y, Obj.arr (Ty.st (Ty.pair (Ty.int IntKind.i64) Ty.str)) o4_y, Obj.arr (Ty.int IntKind.i64) o5_y, Obj.arr Ty.str o6_y, Obj.arr Ty.str o7_y, Obj.arr (Ty.st (Ty.pair (Ty.int IntKind.i64) Ty.str)) o8_y, Obj.arr (Ty.int IntKind.i64) o9_y], blk := 16385 }))
def nodelaw08_DiskDoes_n1 {β : Type} : Ilaw08_DiskDoes_n1 → (Ylaw08_DiskDoes_n1 → Option β) → Option β := fun (t1, t8, o0_3, o0_5, o0_6, o1_3, o1_5, o1_6, o2, o3, o4, o5, o6, o7, o8, o9) exit => (bindO (nodeDlaw08_DiskDoes_n2 (t1, t8, o0_3, o0_5, o0_6, o1_3, o1_5, o1_6, o2, o3, o4, o5, o6, o7, o8, o9)) (unP fun t71 => unP fun o0_3_2 => unP fun o0_5_2 => unP fun o0_6_2 => unP fun o1_3_2 => unP fun o1_5_2 => unP fun o1_6_2 => unP fun o2_2 => unP fun o3_2 => unP fun o4_2 => unP fun o5_2 => unP fun o6_2 => unP fun o7_2 => unP fun o8_2 o9_2 => (bif t71 then (exit (Sum.inl ())) else (exit (Sum.inr (o0_3_2, o0_5_2, o0_6_2, o1_3_2, o1_5_2, o1_6_2, o2_2, o3_2, o4_2, o5_2, o6_2, o7_2, o8_2, o9_2))))))
def nodeDlaw08_DiskDoes_n1 (i : Ilaw08_DiskDoes_n1) : Option Ylaw08_DiskDoes_n1 := nodelaw08_DiskDoes_n1 i some
theorem nodelaw08_DiskDoes_n1_nat (i : Ilaw08_DiskDoes_n1) (k : Ylaw08_DiskDoes_n1 → Ans) : nodelaw08_DiskDoes_n1 i k = bindO (nodeDlaw08_DiskDoes_n1 i) k := by
  obtain ⟨t1, t8, o0_3, o0_5, o0_6, o1_3, o1_5, o1_6, o2, o3, o4, o5, o6, o7, o8, o9⟩ := i
  simp only [nodeDlaw08_DiskDoes_n1, nodelaw08_DiskDoes_n1, bindO_cond, bindO_assoc, bindO_none, bindO_pure, bindO_elim, bindO_unP]
theorem nodelaw08_DiskDoes_n1_ok (i : Ilaw08_DiskDoes_n1) (K : Ex → St → Ans) : codeI Try.tab envlaw08_DiskDoes noHint (codeD Try.tab envlaw08_DiskDoes noHint 0 64) 70 91 annLlaw08_DiskDoes_n1 Llaw08_DiskDoes_n1 (weakP 0 (exk [1, 6, 7, 8] [4] []) K) (Slaw08_DiskDoes_n1 i) = nodelaw08_DiskDoes_n1 i (outlaw08_DiskDoes_n1 i K) := by kernel_rfl
theorem GNlaw08_DiskDoes_n1_ok : CSum Try.prog 91 Llaw08_DiskDoes_n1 (sumN declaw08_DiskDoes_n1 nodeDlaw08_DiskDoes_n1 outlaw08_DiskDoes_n1) := csum_node mixed tabOk envlaw08_DiskDoesOk 0 (exk [1, 6, 7, 8] [4] []) annLlaw08_DiskDoes_n1_ok declaw08_DiskDoes_n1_ok nodelaw08_DiskDoes_n1_ok nodelaw08_DiskDoes_n1_nat
noncomputable def Glaw08_DiskDoes_n1 : (Ex → St → Ans) → St → Ans := (sumN declaw08_DiskDoes_n1 nodeDlaw08_DiskDoes_n1 outlaw08_DiskDoes_n1)
theorem Glaw08_DiskDoes_n1_ok : CSum Try.prog 91 Llaw08_DiskDoes_n1 Glaw08_DiskDoes_n1 := GNlaw08_DiskDoes_n1_ok
noncomputable def Llaw08_DiskDoes_n0 : Code := codeAt [1, 1, 1, 1, 1, 0, 1, 0, 0] blaw08_DiskDoes
noncomputable def annLlaw08_DiskDoes_n0 : Ann := .at 0 [1, 6, 7, 8] (.loop (.seq .none (.seq (.cut 0 [1, 6, 7, 8] Glaw08_DiskDoes_n1) .none)))
theorem annLlaw08_DiskDoes_n0_ok : AnnOk Try.prog 91 (.loop Llaw08_DiskDoes_n0) annLlaw08_DiskDoes_n0 := annOk_at ⟨(annOk_none _ _ _), ⟨Glaw08_DiskDoes_n1_ok, (annOk_none _ _ _)⟩⟩
abbrev Ilaw08_DiskDoes_n0 := (List (Int × Int × List UInt8 × List Int))
abbrev Ylaw08_DiskDoes_n0 := (Unit) ⊕ ((Int) × (Int) × (Bool) × (Int) × (Int) × (Bool) × (List (List UInt8)) × (List (Int × List UInt8)) × (List (Int × List UInt8)) × (List Int) × (List (List UInt8)) × (List (List UInt8)) × (List (Int × List UInt8)) × (List Int))
abbrev Vlaw08_DiskDoes_n0 := (Int) × (Int) × (Int) × (Bool) × (Int) × (Int) × (Bool) × (List (List UInt8)) × (List (Int × List UInt8)) × (List (Int × List UInt8)) × (List Int) × (List (List UInt8)) × (List (List UInt8)) × (List (Int × List UInt8)) × (List Int)
def Slaw08_DiskDoes_n0 : Ilaw08_DiskDoes_n0 → Vlaw08_DiskDoes_n0 → St := fun t1 (t8, o0_3, o0_5, o0_6, o1_3, o1_5, o1_6, o2, o3, o4, o5, o6, o7, o8, o9) => { env := [(1, AV.ro (Ty.st (Ty.pair (Ty.int IntKind.i64) (Ty.pair (Ty.int IntKind.i64) (Ty.pair Ty.str (Ty.list (Ty.int IntKind.i64)))))) t1), (6, AV.ptr 0 0), (7, AV.ptr 1 0), (8, AV.int IntKind.i64 t8)], stk := [[]], H := [AE.Obj.cells [AV.own 2, AV.map 3, AV.own 4, AV.int IntKind.i64 o0_3, AV.own 5, AV.int IntKind.i64 o0_5, AV.bool o0_6], AE.Obj.cells [AV.own 6, AV.own 7, AV.own 8, AV.int IntKind.i64 o1_3, AV.own 9, AV.int IntKind.i64 o1_5, AV.bool o1_6], Obj.arr Ty.str o2, Obj.mp IntKind.i64 Ty.str o3, Obj.arr (Ty.st (Ty.pair (Ty.int IntKind.i64) Ty.str)) o4, Obj.arr (Ty.int IntKind.i64) o5, Obj.arr Ty.str o6, Obj.arr Ty.str o7, Obj.arr (Ty.st (Ty.pair (Ty.int IntKind.i64) Ty.str)) o8, Obj.arr (Ty.int IntKind.i64) o9], blk := 16384 }
def declaw08_DiskDoes_n0 (s : St) : Option (Ilaw08_DiskDoes_n0 × Vlaw08_DiskDoes_n0) := match s with
  | { env := [(1, AV.ro (Ty.st (Ty.pair (Ty.int IntKind.i64) (Ty.pair (Ty.int IntKind.i64) (Ty.pair Ty.str (Ty.list (Ty.int IntKind.i64)))))) t1), (6, AV.ptr 0 0), (7, AV.ptr 1 0), (8, AV.int IntKind.i64 t8)], stk := [[]], H := [AE.Obj.cells [AV.own 2, AV.map 3, AV.own 4, AV.int IntKind.i64 o0_3, AV.own 5, AV.int IntKind.i64 o0_5, AV.bool o0_6], AE.Obj.cells [AV.own 6, AV.own 7, AV.own 8, AV.int IntKind.i64 o1_3, AV.own 9, AV.int IntKind.i64 o1_5, AV.bool o1_6], Obj.arr Ty.str o2, Obj.mp IntKind.i64 Ty.str o3, Obj.arr (Ty.st (Ty.pair (Ty.int IntKind.i64) Ty.str)) o4, Obj.arr (Ty.int IntKind.i64) o5, Obj.arr Ty.str o6, Obj.arr Ty.str o7, Obj.arr (Ty.st (Ty.pair (Ty.int IntKind.i64) Ty.str)) o8, Obj.arr (Ty.int IntKind.i64) o9], blk := 16384 } => some (t1, (t8, o0_3, o0_5, o0_6, o1_3, o1_5, o1_6, o2, o3, o4, o5, o6, o7, o8, o9))
  | _ => none
theorem declaw08_DiskDoes_n0_ok (s : St) (x : Ilaw08_DiskDoes_n0 × Vlaw08_DiskDoes_n0) (h : declaw08_DiskDoes_n0 s = some x) : s = Slaw08_DiskDoes_n0 x.1 x.2 := by
  unfold declaw08_DiskDoes_n0 at h
  split at h
  · cases h; rfl
  · cases h
def outlaw08_DiskDoes_n0 : Ilaw08_DiskDoes_n0 → (Ex → St → Ans) → Ylaw08_DiskDoes_n0 → Ans := fun t1 K => (Sum.elim (fun _ => K (Ex.ret) { env := [(4, AV.bool (false))], stk := [[]], H := [], blk := 16385 }) (unP fun o0_3_y => unP fun o0_5_y => unP fun o0_6_y => unP fun o1_3_y => unP fun o1_5_y => unP fun o1_6_y => unP fun o2_y => unP fun o3_y => unP fun o4_y => unP fun o5_y => unP fun o6_y => unP fun o7_y => unP fun o8_y o9_y => K (Ex.exit 0) { env := [(6, AV.ptr 0 0), (7, AV.ptr 1 0)], stk := [[]], H := [AE.Obj.cells [AV.own 2, AV.map 3, AV.own 4, AV.int IntKind.i64 o0_3_y, AV.own 5, AV.int IntKind.i64 o0_5_y, AV.bool o0_6_y], AE.Obj.cells [AV.own 6, AV.own 7, AV.own 8, AV.int IntKind.i64 o1_3_y, AV.own 9, AV.int IntKind.i64 o1_5_y, AV.bool o1_6_y], Obj.arr Ty.str o2_y, Obj.mp IntKind.i64 Ty.str o3_y, Obj.arr (Ty.st (Ty.pair (Ty.int IntKind.i64) Ty.str)) o4_y, Obj.arr (Ty.int IntKind.i64) o5_y, Obj.arr Ty.str o6_y, Obj.arr Ty.str o7_y, Obj.arr (Ty.st (Ty.pair (Ty.int IntKind.i64) Ty.str)) o8_y, Obj.arr (Ty.int IntKind.i64) o9_y], blk := 16384 }))
def steplaw08_DiskDoes_n0 {β : Type} : Ilaw08_DiskDoes_n0 → Vlaw08_DiskDoes_n0 → (Vlaw08_DiskDoes_n0 → Option β) → (Ylaw08_DiskDoes_n0 → Option β) → Option β := fun t1 (t8, o0_3, o0_5, o0_6, o1_3, o1_5, o1_6, o2, o3, o4, o5, o6, o7, o8, o9) next exit => (bif decide (t8 < (↑(List.length t1) : Int)) then (bindO (nodeDlaw08_DiskDoes_n1 (t1, t8, o0_3, o0_5, o0_6, o1_3, o1_5, o1_6, o2, o3, o4, o5, o6, o7, o8, o9)) (Sum.elim (fun _ => (exit (Sum.inl ()))) (unP fun o0_3_2 => unP fun o0_5_2 => unP fun o0_6_2 => unP fun o1_3_2 => unP fun o1_5_2 => unP fun o1_6_2 => unP fun o2_2 => unP fun o3_2 => unP fun o4_2 => unP fun o5_2 => unP fun o6_2 => unP fun o7_2 => unP fun o8_2 o9_2 => (next (IntKind.wrap IntKind.i64 (t8 + (1 : Int)), o0_3_2, o0_5_2, o0_6_2, o1_3_2, o1_5_2, o1_6_2, o2_2, o3_2, o4_2, o5_2, o6_2, o7_2, o8_2, o9_2))))) else (exit (Sum.inr (o0_3, o0_5, o0_6, o1_3, o1_5, o1_6, o2, o3, o4, o5, o6, o7, o8, o9))))
def stepDlaw08_DiskDoes_n0 (i : Ilaw08_DiskDoes_n0) (v : Vlaw08_DiskDoes_n0) : Option (Vlaw08_DiskDoes_n0 ⊕ Ylaw08_DiskDoes_n0) := steplaw08_DiskDoes_n0 i v (fun v => some (.inl v)) (fun y => some (.inr y))
theorem steplaw08_DiskDoes_n0_nat (i : Ilaw08_DiskDoes_n0) (v : Vlaw08_DiskDoes_n0) (next : Vlaw08_DiskDoes_n0 → Ans) (exit : Ylaw08_DiskDoes_n0 → Ans) : steplaw08_DiskDoes_n0 i v next exit = bindO (stepDlaw08_DiskDoes_n0 i v) (Sum.elim next exit) := by
  obtain z := i
  obtain ⟨t8, o0_3, o0_5, o0_6, o1_3, o1_5, o1_6, o2, o3, o4, o5, o6, o7, o8, o9⟩ := v
  simp only [stepDlaw08_DiskDoes_n0, steplaw08_DiskDoes_n0, bindO_cond, bindO_assoc, bindO_none, bindO_pure, bindO_elim, bindO_unP, Sum.elim_inl, Sum.elim_inr]
theorem steplaw08_DiskDoes_n0_ok (n : Nat) (i : Ilaw08_DiskDoes_n0) (v : Vlaw08_DiskDoes_n0) (K : Ex → St → Ans) : codeI Try.tab envlaw08_DiskDoes noHint (codeD Try.tab envlaw08_DiskDoes noHint 0 64) (n+1) 91 annLlaw08_DiskDoes_n0 (.loop Llaw08_DiskDoes_n0) (weakP 0 (exk [6, 7] [4] [(0, [6, 7])]) K) (Slaw08_DiskDoes_n0 i v) = steplaw08_DiskDoes_n0 i v (fun v' => codeI Try.tab envlaw08_DiskDoes noHint (codeD Try.tab envlaw08_DiskDoes noHint 0 64) n 91 annLlaw08_DiskDoes_n0 (.loop Llaw08_DiskDoes_n0) (weakP 0 (exk [6, 7] [4] [(0, [6, 7])]) K) (Slaw08_DiskDoes_n0 i v')) (fun y => outlaw08_DiskDoes_n0 i K y) := by kernel_rfl
theorem GNlaw08_DiskDoes_n0_ok : CSum Try.prog 91 (.loop Llaw08_DiskDoes_n0) (sumL declaw08_DiskDoes_n0 stepDlaw08_DiskDoes_n0 outlaw08_DiskDoes_n0) := csum_loop mixed tabOk envlaw08_DiskDoesOk 0 (exk [6, 7] [4] [(0, [6, 7])]) annLlaw08_DiskDoes_n0_ok declaw08_DiskDoes_n0_ok steplaw08_DiskDoes_n0_ok steplaw08_DiskDoes_n0_nat
noncomputable def Glaw08_DiskDoes_n0 : (Ex → St → Ans) → St → Ans := (sumL declaw08_DiskDoes_n0 stepDlaw08_DiskDoes_n0 outlaw08_DiskDoes_n0)
theorem Glaw08_DiskDoes_n0_ok : CSum Try.prog 91 (.loop Llaw08_DiskDoes_n0) Glaw08_DiskDoes_n0 := GNlaw08_DiskDoes_n0_ok
noncomputable def annlaw08_DiskDoes : Ann := (.seq .none (.seq .none (.seq .none (.seq .none (.seq .none (.seq (.seq .none (.block (.cut 0 [1, 6, 7, 8] Glaw08_DiskDoes_n0))) (.seq .none (.seq .none (.seq (.seq .none (.block (.cut 0 [6, 7, 9] Glaw08_DiskDoes_n3))) .none)))))))))
theorem annlaw08_DiskDoes_ok : AnnOk Try.prog 91 blaw08_DiskDoes annlaw08_DiskDoes := ⟨(annOk_none _ _ _), ⟨(annOk_none _ _ _), ⟨(annOk_none _ _ _), ⟨(annOk_none _ _ _), ⟨(annOk_none _ _ _), ⟨⟨(annOk_none _ _ _), Glaw08_DiskDoes_n0_ok⟩, ⟨(annOk_none _ _ _), ⟨(annOk_none _ _ _), ⟨⟨(annOk_none _ _ _), Glaw08_DiskDoes_n3_ok⟩, (annOk_none _ _ _)⟩⟩⟩⟩⟩⟩⟩⟩⟩
abbrev Alaw08_DiskDoes := (Int) × (List (Int × Int × List UInt8 × List Int))
abbrev Ylaw08_DiskDoes := (Bool)
def fnlaw08_DiskDoes {β : Type} : Alaw08_DiskDoes → (Ylaw08_DiskDoes → Option β) → Option β := fun (a0, a1) exit => (bindO (fnDlaw08_works ()) fun r => (bif !r then (exit (false)) else (bindO (fnDlaw08_Great (a1)) fun r_2 => (bif r_2 then (exit (true)) else (bindO (fnDdisk_New (if (40 : Int) < a0 then (40 : Int) else a0)) fun o1 => (bindO (fnDref08_New (if (40 : Int) < a0 then (40 : Int) else a0)) (unP fun o1_2 o2 => (bindO (loopD (stepDlaw08_DiskDoes_n0 (a1)) FUEL ((0 : Int), (0 : Int), (0 : Int), false, (0 : Int), (0 : Int), false, o1, [], [], [], o1_2, o2, [], [])) (Sum.elim (fun _ => (exit (false))) (unP fun o0_3 => unP fun o0_5 => unP fun o0_6 => unP fun o1_3 => unP fun o1_5 => unP fun o1_6 => unP fun o2_2 => unP fun o3 => unP fun o4 => unP fun o5 => unP fun o6 => unP fun o7 => unP fun o8 o9 => (bindO (fnDdisk_Disk_Restart (o0_3, o0_5, o0_6, o2_2, o3, o4, o5)) fun o1_4 => (bindO (fnDref08_Disk_Restart_2 (o1_3, o1_5, o1_6, o6, o7, o8, o9)) fun _ => (bindO (loopD (stepDlaw08_DiskDoes_n3 ()) FUEL ((0 : Int), o0_3, (0 : Int), false, o1_3, (0 : Int), false, o1_4, [], [], [], o6, o6, [], [])) (Sum.elim (fun _ => (exit (false))) (fun _ => (exit (true)))))))))))))))))
def fnDlaw08_DiskDoes (a : Alaw08_DiskDoes) : Option Ylaw08_DiskDoes := fnlaw08_DiskDoes a some
theorem fnlaw08_DiskDoes_nat (a : Alaw08_DiskDoes) (k : Ylaw08_DiskDoes → Ans) : fnlaw08_DiskDoes a k = bindO (fnDlaw08_DiskDoes a) k := by
  obtain ⟨a0, a1⟩ := a
  simp only [fnDlaw08_DiskDoes, fnlaw08_DiskDoes, bindO_cond, bindO_assoc, bindO_none, bindO_pure, bindO_elim, bindO_unP]
def argslaw08_DiskDoes : Alaw08_DiskDoes → List AV × List AE.Obj := fun (a0, a1) => ([AV.int IntKind.i64 a0, AV.ro (Ty.st (Ty.pair (Ty.int IntKind.i64) (Ty.pair (Ty.int IntKind.i64) (Ty.pair Ty.str (Ty.list (Ty.int IntKind.i64)))))) a1], [])
def decAlaw08_DiskDoes (l : List AV) (H : List AE.Obj) : Option Alaw08_DiskDoes := match l, H with
  | [AV.int IntKind.i64 a0, AV.ro (Ty.st (Ty.pair (Ty.int IntKind.i64) (Ty.pair (Ty.int IntKind.i64) (Ty.pair Ty.str (Ty.list (Ty.int IntKind.i64)))))) a1], [] => some (a0, a1)
  | _, _ => none
theorem decAlaw08_DiskDoes_ok (l : List AV) (H : List AE.Obj) (a : Alaw08_DiskDoes) (h : decAlaw08_DiskDoes l H = some a) : (l, H) = argslaw08_DiskDoes a := by
  unfold decAlaw08_DiskDoes at h
  split at h
  · cases h; rfl
  · cases h
def outlaw08_DiskDoes : Alaw08_DiskDoes → (AV → List AE.Obj → Ans) → Ylaw08_DiskDoes → Ans := fun (a0, a1) K => fun r_y => K (AV.bool r_y) []
theorem fnlaw08_DiskDoes_ok (a : Alaw08_DiskDoes) (K : AV → List AE.Obj → Ans) : fnE Try.tab envlaw08_DiskDoes noHint 0 70 4 Try.f4.ntmps Try.f4.results.toList annlaw08_DiskDoes blaw08_DiskDoes (argslaw08_DiskDoes a).1 (argslaw08_DiskDoes a).2 K = fnlaw08_DiskDoes a (outlaw08_DiskDoes a K) := by kernel_rfl
def vFlaw08_DiskDoes (a : Alaw08_DiskDoes) (K : AV → List AE.Obj → Ans) : Ans := bindO (fnDlaw08_DiskDoes a) fun y => outlaw08_DiskDoes a K y
def Flaw08_DiskDoes : List AV → List AE.Obj → (AV → List AE.Obj → Ans) → Ans := fun l H K => bindO (decAlaw08_DiskDoes l H) fun a => vFlaw08_DiskDoes a K
theorem Flaw08_DiskDoes_ok : FuncOk Try.prog 4 Flaw08_DiskDoes := func_mkD (hint := noHint) (d := 0) (n := 70) mixed tabOk envlaw08_DiskDoesOk Try.func4 (bodySome (by kernel_rfl)) (by decide +kernel) annlaw08_DiskDoes_ok decAlaw08_DiskDoes_ok fnlaw08_DiskDoes_ok fnlaw08_DiskDoes_nat
end Go.Proofs.R3
namespace Go.Proofs.R3
open Go Go.AE

abbrev Secs := List (Int × List UInt8)

theorem mem_take_succ {α : Type} {l : List α} {j : Nat} {x y : α} (h : l[j]? = some y) : x ∈ l.take (j + 1) ↔ x ∈ l.take j ∨ x = y := by
  rw [List.take_add_one, h]; simp

theorem contains_eq (l : List Int) (x : Int) (hl : l.length ≤ 1000000) : fnDslices_Contains_int_int (l, x) = some (decide (x ∈ l)) := by
  have key : ∃ y, loopD (stepDslices_Index_int_int_n0 (l, x, (l.length : Int))) FUEL ((0 : Nat) : Int) = some y ∧ ((x ∈ l ∧ ∃ j : Nat, y = .inl (j : Int)) ∨ (x ∉ l ∧ y = .inr ())) := by
    refine loopD_each l (fun j (_ : Unit) => (j : Int)) (fun j _ => x ∉ l.take j) _ ?_ ?_ (s0 := ()) (by simp) (by omega)
    · intro j y _ hj hlt hi
      simp only [stepDslices_Index_int_int_n0, stepslices_Index_int_int_n0, dec_true (show (j : Int) < (l.length : Int) by omega), cond_true, nth_of hj, bindO_pure, wrap64_nat (show j < 9223372036854775807 by omega)]
      by_cases e : x = y
      · subst e
        right
        exact ⟨.inl j, by simp, .inl ⟨List.mem_of_getElem? hj, j, rfl⟩⟩
      · left
        exact ⟨(), by simp [beq_false_of_ne e], by rw [mem_take_succ hj]; simp [hi, e]⟩
    · intro _ hi
      simp only [stepDslices_Index_int_int_n0, stepslices_Index_int_int_n0, dec_false (show ¬ (l.length : Int) < (l.length : Int) by omega), cond_false]
      rw [List.take_length] at hi
      exact ⟨.inr (), rfl, .inr ⟨hi, rfl⟩⟩
  obtain ⟨y, hy, h⟩ := key
  have hy' : loopD (stepDslices_Index_int_int_n0 (l, x, (l.length : Int))) FUEL 0 = _ := hy
  simp only [fnDslices_Contains_int_int, fnslices_Contains_int_int, fnDslices_Index_int_int, fnslices_Index_int_int, hy', bindO_pure]
  rcases h with ⟨h1, j, rfl⟩ | ⟨h1, rfl⟩
  · simp only [h1, bindO_pure, Sum.elim_inl]; simp
  · simp only [h1, bindO_pure, Sum.elim_inr]; simp

theorem refhas_eq (l : List Int) (x : Int) (hl : l.length ≤ 1000000) : fnDref08_has (l, x) = some (decide (x ∈ l)) := by
  have key : ∃ y, loopD (stepDref08_has_n0 (l, x)) FUEL ((0 : Nat) : Int) = some y ∧ y = if x ∈ l then .inl () else .inr () := by
    refine loopD_each l (fun j (_ : Unit) => (j : Int)) (fun j _ => x ∉ l.take j) _ ?_ ?_ (s0 := ()) (by simp) (by omega)
    · intro j y _ hj hlt hi
      simp only [stepDref08_has_n0, stepref08_has_n0, dec_true (show (j : Int) < (l.length : Int) by omega), cond_true, nth_of hj, bindO_pure, wrap64_nat (show j < 9223372036854775807 by omega)]
      by_cases e : y = x
      · subst e
        right
        exact ⟨.inl (), by simp, by rw [if_pos (List.mem_of_getElem? hj)]⟩
      · left
        exact ⟨(), by simp [beq_false_of_ne e], by rw [mem_take_succ hj]; simp [hi, Ne.symm e]⟩
    · intro _ hi
      simp only [stepDref08_has_n0, stepref08_has_n0, dec_false (show ¬ (l.length : Int) < (l.length : Int) by omega), cond_false]
      rw [List.take_length] at hi
      exact ⟨.inr (), rfl, by rw [if_neg hi]⟩
  obtain ⟨y, hy, rfl⟩ := key
  have hy' : loopD (stepDref08_has_n0 (l, x)) FUEL 0 = _ := hy
  simp only [fnDref08_has, fnref08_has, hy', bindO_pure]
  by_cases h : x ∈ l <;> simp [h]

/-- A call: its error, whether the disk goes down at it, the count, whether it is down. -/
def callM (ops at_ : Int) (off : Bool) (fails : List Int) : Int × Bool × Int × Bool :=
  if off = true then (31, false, IntKind.wrap .i64 (ops + 1), off)
  else if IntKind.wrap .i64 (ops + 1) = at_ then (31, true, IntKind.wrap .i64 (ops + 1), true)
  else if IntKind.wrap .i64 (ops + 1) ∈ fails then (30, false, IntKind.wrap .i64 (ops + 1), off)
  else (0, false, IntKind.wrap .i64 (ops + 1), off)

theorem callM_last {ops at_ : Int} {off : Bool} {fails : List Int} (h : (callM ops at_ off fails).2.1 = true) : (callM ops at_ off fails).1 ≠ 0 := by
  unfold callM at h ⊢
  repeat' split at h
  all_goals first | (cases h; done) | skip
  rename_i h1 h2
  rw [if_neg h1, if_pos h2]
  simp
theorem call_eq (ops at_ : Int) (off : Bool) (sure : List (List UInt8)) (seen waits : Secs) (fails : List Int) (hl : fails.length ≤ 1000000) :
    fnDdisk_Disk_call (ops, at_, off, sure, seen, waits, fails) = some (callM ops at_ off fails) := by
  simp only [fnDdisk_Disk_call, fndisk_Disk_call, contains_eq _ _ hl, bindO_pure, callM]
  cases off with
  | true => rfl
  | false =>
    simp only [cond_false, Bool.false_eq_true, if_false]
    by_cases h : IntKind.wrap .i64 (ops + 1) = at_
    · simp [h]
    · rw [if_neg h, beq_false_of_ne h, cond_false]
      by_cases h2 : IntKind.wrap .i64 (ops + 1) ∈ fails <;> simp [h2]

theorem refcall_eq (ops at_ : Int) (off : Bool) (sure seen : List (List UInt8)) (waits : Secs) (fails : List Int) (hl : fails.length ≤ 1000000) :
    fnDref08_Disk_call (ops, at_, off, sure, seen, waits, fails) = some (callM ops at_ off fails) := by
  simp only [fnDref08_Disk_call, fnref08_Disk_call, refhas_eq _ _ hl, bindO_pure, callM]
  cases off with
  | true => rfl
  | false =>
    simp only [cond_false, Bool.false_eq_true, if_false]
    by_cases h : IntKind.wrap .i64 (ops + 1) = at_
    · simp [h]
    · rw [if_neg h, beq_false_of_ne (Ne.symm h), cond_false]
      by_cases h2 : IntKind.wrap .i64 (ops + 1) ∈ fails <;> simp [h2]

/-- Which sectors there are. -/
def there (at_ : Int) (n : Nat) : Bool := inR at_ n
theorem there_eq (at_ ops a : Int) (off : Bool) (sure : List (List UInt8)) (seen waits : Secs) (fails : List Int) : fnDdisk_Disk_there (at_, ops, a, off, sure, seen, waits, fails) = some (inR at_ sure.length) := by
  simp only [fnDdisk_Disk_there, fndisk_Disk_there, nodeDdisk_Disk_there_n0, nodedisk_Disk_there_n0, fnDdisk_Disk_Sectors, fndisk_Disk_Sectors, bindO_pure]
  by_cases h : at_ ≥ 0
  · rw [dec_true h, cond_true, bindO_pure]
    unfold inR
    rw [dec_true (show 0 ≤ at_ from h), Bool.true_and]
  · rw [dec_false h, cond_false, bindO_pure]
    unfold inR
    rw [dec_false (show ¬ 0 ≤ at_ from h), Bool.false_and]

/-- A write: its error, and what is behind it. -/
def writeE (e : Int) (last : Bool) (at_ : Int) (data : List UInt8) (n : Nat) : Int × Bool :=
  if e ≠ 0 ∧ last = false then (e, false)
  else if inR at_ n = false then (if last = true then e else 3, false)
  else if (data.length : Int) ≠ 64 then (if last = true then e else 12, false)
  else (e, true)
theorem write_eq (at_ : Int) (data : List UInt8) (ops a : Int) (off : Bool) (sure : List (List UInt8)) (seen waits : Secs) (fails : List Int) (hl : fails.length ≤ 1000000) (hw : waits.length ≤ 1000000) :
    fnDdisk_Disk_Write (at_, data, ops, a, off, sure, seen, waits, fails) =
      (let c := callM ops a off fails
       let r := writeE c.1 c.2.1 at_ data sure.length
       some (r.1, c.2.2.1, c.2.2.2, if r.2 = true then mput at_ data seen else seen, if r.2 = true then waits ++ [(at_, data)] else waits)) := by
  simp only [fnDdisk_Disk_Write, fndisk_Disk_Write, call_eq _ _ _ _ _ _ _ hl, bindO_pure]
  generalize callM ops a off fails = c
  obtain ⟨e, last, ops', off'⟩ := c
  simp only [unP, nodeDdisk_Disk_Write_n0, nodedisk_Disk_Write_n0, nodeDdisk_Disk_Write_n1, nodedisk_Disk_Write_n1, nodeDdisk_Disk_Write_n2, nodedisk_Disk_Write_n2, nodeDdisk_Disk_Write_n3, nodedisk_Disk_Write_n3, there_eq, bindO_pure, writeE,
    ble_true (show (waits.length + [(at_, data)].length) * 24 ≤ 140737488355328 by simp only [List.length_cons, List.length_nil]; omega), cond_true]
  by_cases he : e = 0
  · subst he
    cases hr : inR at_ sure.length <;> cases last <;> by_cases hs : (data.length : Int) = 64 <;> simp [ibeq, ibne, hs, bindO_pure]
  · have hb : (e != 0) = true := by simp [he]
    cases hr : inR at_ sure.length <;> cases last <;> by_cases hs : (data.length : Int) = 64 <;> simp [ibeq, ibne, he, hs, bindO_pure]

theorem refwrite_eq (at_ : Int) (data : List UInt8) (ops a : Int) (off : Bool) (sure seen : List (List UInt8)) (waits : Secs) (fails : List Int) (hl : fails.length ≤ 1000000) (hw : waits.length ≤ 1000000) (hs : seen.length ≤ 1000000) :
    fnDref08_Disk_Write (at_, data, ops, a, off, sure, seen, waits, fails) =
      (let c := callM ops a off fails
       let r := writeE c.1 c.2.1 at_ data seen.length
       some (if r.2 = true then .inl (r.1, c.2.2.1, c.2.2.2, seen.set at_.toNat data, waits ++ [(at_, data)]) else .inr (r.1, c.2.2.1, c.2.2.2))) := by
  simp only [fnDref08_Disk_Write, fnref08_Disk_Write, refcall_eq _ _ _ _ _ _ _ hl, bindO_pure]
  have hlast := @callM_last ops a off fails
  generalize callM ops a off fails = c at hlast ⊢
  obtain ⟨e, last, ops', off'⟩ := c
  simp only at hlast
  have hput : inR at_ seen.length = true → fnDref08_Disk_put (at_, data, ops', a, off', sure, seen, waits, fails) = some (seen.set at_.toNat data, waits ++ [(at_, data)]) := by
    intro hr
    have hr' : 0 ≤ at_ ∧ at_ < (seen.length : Int) := by
      unfold inR at hr
      simpa using hr
    have hg : seen[at_.toNat]? = some seen[at_.toNat] := List.getElem?_eq_getElem (by omega)
    simp only [fnDref08_Disk_put, fnref08_Disk_put, ble_true (show (0 + seen.length) * 16 ≤ 140737488355328 by omega), cond_true, hr, hg, bindO_pure, ble_true (show (0 + waits.length) * 24 ≤ 140737488355328 by omega),
      ble_true (show (waits.length + [(at_, data)].length) * 24 ≤ 140737488355328 by simp only [List.length_cons, List.length_nil]; omega)]
  have hn1 : (bif decide (at_ < 0) then some true else some (decide (at_ ≥ (seen.length : Int)))) = some (!inR at_ seen.length) := by
    unfold inR
    by_cases h1 : at_ < 0
    · rw [dec_true h1, cond_true, dec_false (show ¬ 0 ≤ at_ by omega)]; rfl
    · rw [dec_false h1, cond_false, dec_true (show 0 ≤ at_ by omega), Bool.true_and]
      by_cases h2 : at_ < (seen.length : Int)
      · rw [dec_true h2, dec_false (show ¬ at_ ≥ (seen.length : Int) by omega)]; rfl
      · rw [dec_false h2, dec_true (show at_ ≥ (seen.length : Int) by omega)]; rfl
  simp only [unP, fnDref08_Disk_may, fnref08_Disk_may, nodeDref08_Disk_may_n0, noderef08_Disk_may_n0, nodeDref08_Disk_may_n1, noderef08_Disk_may_n1, hn1, bindO_pure, writeE, nodeDref08_Disk_Write_n0, noderef08_Disk_Write_n0, nodeDref08_Disk_Write_n1, noderef08_Disk_Write_n1]
  cases hr : inR at_ seen.length with
  | false =>
    simp only [Bool.not_false, cond_true, bindO_pure, Sum.elim_inl]
    by_cases he : e = 0 <;> cases last <;> first | (exact absurd he (hlast rfl)) | simp [ibeq, ibne, he, bindO_pure]
  | true =>
    rw [hput hr]
    by_cases hs : (data.length : Int) = 64 <;> by_cases he : e = 0 <;> cases last <;> first | (exact absurd he (hlast rfl)) | simp [ibeq, ibne, he, hs, bindO_pure, unP]

/-! ### Reading -/
def look (sure : List (List UInt8)) (seen : Secs) (at_ : Int) : List UInt8 := if mhas at_ seen = true then mget at_ [] seen else (sure[at_.toNat]?).getD []
def readR (e : Int) (at_ : Int) (n : Nat) (x : List UInt8) : List UInt8 × Int := if e ≠ 0 then ([], e) else if inR at_ n = false then ([], 3) else (x, 0)
theorem inR_get {α : Type} {at_ : Int} {l : List α} (h : inR at_ l.length = true) : ∃ x, l[at_.toNat]? = some x := by
  have : 0 ≤ at_ ∧ at_ < (l.length : Int) := by unfold inR at h; simpa using h
  exact ⟨_, List.getElem?_eq_getElem (by omega)⟩
theorem read_eq (at_ ops a : Int) (off : Bool) (sure : List (List UInt8)) (seen waits : Secs) (fails : List Int) (hl : fails.length ≤ 1000000) :
    fnDdisk_Disk_Read (at_, ops, a, off, sure, seen, waits, fails) =
      (let c := callM ops a off fails
       let r := readR c.1 at_ sure.length (look sure seen at_)
       some (r.1, r.2, c.2.2.1, c.2.2.2)) := by
  simp only [fnDdisk_Disk_Read, fndisk_Disk_Read, call_eq _ _ _ _ _ _ _ hl, bindO_pure]
  generalize callM ops a off fails = c
  obtain ⟨e, last, ops', off'⟩ := c
  simp only [unP, there_eq, bindO_pure, readR]
  by_cases he : e = 0
  · subst he
    cases hr : inR at_ sure.length with
    | false => rfl
    | true =>
      obtain ⟨x, hx⟩ := inR_get hr
      cases hm : mhas at_ seen <;> simp [look, hm, hx, bindO_pure]
  · simp [ibne, he]
theorem refread_eq (at_ ops a : Int) (off : Bool) (sure seen : List (List UInt8)) (waits : Secs) (fails : List Int) (hl : fails.length ≤ 1000000) :
    fnDref08_Disk_Read (at_, ops, a, off, sure, seen, waits, fails) =
      (let c := callM ops a off fails
       let r := readR c.1 at_ seen.length ((seen[at_.toNat]?).getD [])
       some (r.1, r.2, c.2.2.1, c.2.2.2)) := by
  simp only [fnDref08_Disk_Read, fnref08_Disk_Read, refcall_eq _ _ _ _ _ _ _ hl, bindO_pure]
  generalize callM ops a off fails = c
  obtain ⟨e, last, ops', off'⟩ := c
  have hn1 : (bif decide (at_ < 0) then some true else some (decide (at_ ≥ (seen.length : Int)))) = some (!inR at_ seen.length) := by
    unfold inR
    by_cases h1 : at_ < 0
    · rw [dec_true h1, cond_true, dec_false (show ¬ 0 ≤ at_ by omega)]; rfl
    · rw [dec_false h1, cond_false, dec_true (show 0 ≤ at_ by omega), Bool.true_and]
      by_cases h2 : at_ < (seen.length : Int)
      · rw [dec_true h2, dec_false (show ¬ at_ ≥ (seen.length : Int) by omega)]; rfl
      · rw [dec_false h2, dec_true (show at_ ≥ (seen.length : Int) by omega)]; rfl
  simp only [unP, nodeDref08_Disk_Read_n0, noderef08_Disk_Read_n0, nodeDref08_Disk_Read_n1, noderef08_Disk_Read_n1, hn1, bindO_pure, readR]
  by_cases he : e = 0
  · subst he
    cases hr : inR at_ seen.length with
    | false => rfl
    | true =>
      obtain ⟨x, hx⟩ := inR_get hr
      simp [ibne, hx, bindO_pure]
  · simp [ibne, he, bindO_pure]

/-! ### What becomes sure -/
def settleM (sure : List (List UInt8)) (l : Secs) : List (List UInt8) := l.foldl (fun s w => s.set w.1.toNat w.2) sure
theorem settleM_length (l : Secs) : ∀ sure, (settleM sure l).length = sure.length := by
  induction l with
  | nil => intro _; rfl
  | cons w r ih => intro s; simp only [settleM, List.foldl_cons] at ih ⊢; rw [ih, List.length_set]
theorem settleM_snoc (sure : List (List UInt8)) (l : Secs) (w : Int × List UInt8) : settleM sure (l ++ [w]) = (settleM sure l).set w.1.toNat w.2 := by
  simp [settleM]
theorem settle_loop {f : Int × List (List UInt8) → Option ((Int × List (List UInt8)) ⊕ List (List UInt8))} (l : Secs) (sure : List (List UInt8)) (hl : l.length ≤ 1000000) (hw : ∀ w ∈ l, inR w.1 sure.length = true)
    (h1 : ∀ (j : Nat) (x : Int × List UInt8) (s : List (List UInt8)), l[j]? = some x → j < l.length → inR x.1 s.length = true → f ((j : Int), s) = some (.inl (((j + 1 : Nat) : Int), s.set x.1.toNat x.2)))
    (h2 : ∀ s, f ((l.length : Int), s) = some (.inr s)) : loopD f FUEL (0, sure) = some (settleM sure l) := by
  have key : ∃ y, loopD f FUEL (((0 : Nat) : Int), sure) = some y ∧ y = settleM sure l := by
    refine loopD_each l (fun j (s : List (List UInt8)) => ((j : Int), s)) (fun j s => s = settleM sure (l.take j)) _ ?_ ?_ (by simp [settleM]) (by omega)
    · rintro j x s hj hlt rfl
      left
      refine ⟨_, h1 j x _ hj hlt (by rw [settleM_length]; exact hw x (List.mem_of_getElem? hj)), ?_⟩
      rw [List.take_add_one, hj]
      exact (settleM_snoc _ _ _).symm
    · rintro s rfl
      exact ⟨_, h2 _, by rw [List.take_length]⟩
  obtain ⟨y, hy, rfl⟩ := key
  exact hy
theorem settle_eq (l seen l2 : Secs) (ops a : Int) (off : Bool) (sure : List (List UInt8)) (fails : List Int) (hl : l.length ≤ 1000000) (hw : ∀ w ∈ l, inR w.1 sure.length = true) :
    fnDdisk_Disk_settle (l, l2, ops, a, off, sure, seen, fails) = some (settleM sure l) := by
  simp only [fnDdisk_Disk_settle, fndisk_Disk_settle]
  rw [settle_loop l sure hl hw ?_ ?_]
  · rfl
  · intro j x s hj hlt hr
    obtain ⟨y, hy⟩ := inR_get hr
    simp only [stepDdisk_Disk_settle_n0, stepdisk_Disk_settle_n0, dec_true (show (j : Int) < (l.length : Int) by omega), cond_true, nth_of hj, bindO_pure, hr, hy, wrap64_nat (show j < 9223372036854775807 by omega)]
  · intro s
    simp only [stepDdisk_Disk_settle_n0, stepdisk_Disk_settle_n0, dec_false (show ¬ (l.length : Int) < (l.length : Int) by omega), cond_false]
theorem settle2_eq (l : Secs) (ops a : Int) (off : Bool) (sure : List (List UInt8)) (seen waits : Secs) (fails : List Int) (hl : l.length ≤ 1000000) (hw : ∀ w ∈ l, inR w.1 sure.length = true) :
    fnDdisk_Disk_settle_2 (l, ops, a, off, sure, seen, waits, fails) = some (settleM sure l) := by
  simp only [fnDdisk_Disk_settle_2, fndisk_Disk_settle_2]
  rw [settle_loop l sure hl hw ?_ ?_]
  · rfl
  · intro j x s hj hlt hr
    obtain ⟨y, hy⟩ := inR_get hr
    simp only [stepDdisk_Disk_settle_2_n0, stepdisk_Disk_settle_2_n0, dec_true (show (j : Int) < (l.length : Int) by omega), cond_true, nth_of hj, bindO_pure, hr, hy, wrap64_nat (show j < 9223372036854775807 by omega)]
  · intro s
    simp only [stepDdisk_Disk_settle_2_n0, stepdisk_Disk_settle_2_n0, dec_false (show ¬ (l.length : Int) < (l.length : Int) by omega), cond_false]

theorem flush_eq (ops a : Int) (off : Bool) (sure : List (List UInt8)) (seen waits : Secs) (fails : List Int) (hf : fails.length ≤ 1000000) (hl : waits.length ≤ 1000000) (hw : ∀ w ∈ waits, inR w.1 sure.length = true) :
    fnDdisk_Disk_Flush (ops, a, off, sure, seen, waits, fails) =
      (let c := callM ops a off fails
       some (if c.1 = 0 then .inl (c.1, c.2.2.1, c.2.2.2, settleM sure waits) else .inr (c.1, c.2.2.1, c.2.2.2))) := by
  simp only [fnDdisk_Disk_Flush, fndisk_Disk_Flush, call_eq _ _ _ _ _ _ _ hf, bindO_pure]
  generalize callM ops a off fails = c
  obtain ⟨e, last, ops', off'⟩ := c
  simp only [unP, nodeDdisk_Disk_Flush_n0, nodedisk_Disk_Flush_n0, settle_eq _ _ _ _ _ _ _ _ hl hw, bindO_pure]
  by_cases he : e = 0 <;> simp [ibeq, he, bindO_pure, unP]
theorem refflush_eq (ops a : Int) (off : Bool) (sure seen : List (List UInt8)) (waits : Secs) (fails : List Int) (hf : fails.length ≤ 1000000) (hl : seen.length ≤ 1000000) :
    fnDref08_Disk_Flush (ops, a, off, sure, seen, waits, fails) =
      (let c := callM ops a off fails
       some (if c.1 = 0 then .inl (c.1, c.2.2.1, c.2.2.2) else .inr (c.1, c.2.2.1, c.2.2.2))) := by
  simp only [fnDref08_Disk_Flush, fnref08_Disk_Flush, refcall_eq _ _ _ _ _ _ _ hf, bindO_pure]
  generalize callM ops a off fails = c
  obtain ⟨e, last, ops', off'⟩ := c
  simp only [unP, nodeDref08_Disk_Flush_n0, noderef08_Disk_Flush_n0, ble_true (show (0 + seen.length) * 16 ≤ 140737488355328 by omega), cond_true, bindO_pure]
  by_cases he : e = 0 <;> simp [ibeq, he, bindO_pure, unP]

/-! ### Calls that fail -/
def failM (ops : Int) (fails : List Int) (n : Int) : List Int := if n > ops ∧ n ∉ fails ∧ fails.length < 100 then fails ++ [n] else fails
theorem fail_eq (n ops a : Int) (off : Bool) (sure : List (List UInt8)) (seen waits : Secs) (fails : List Int) (hf : fails.length ≤ 1000000) :
    fnDdisk_Disk_Fail (n, ops, a, off, sure, seen, waits, fails) = some (failM ops fails n) := by
  simp only [fnDdisk_Disk_Fail, fndisk_Disk_Fail, nodeDdisk_Disk_Fail_n0, nodedisk_Disk_Fail_n0, contains_eq _ _ hf, bindO_pure, ble_true (show (fails.length + [n].length) * 8 ≤ 140737488355328 by simp only [List.length_cons, List.length_nil]; omega), cond_true, failM]
  by_cases h1 : n > ops <;> by_cases h2 : n ∈ fails <;> by_cases h3 : (fails.length : Int) < 100
  all_goals
    have h3' : (fails.length < 100) = ((fails.length : Int) < 100) := by apply propext; omega
    simp [h1, h2, h3, h3', bindO_pure]
theorem reffail_eq (n ops a : Int) (off : Bool) (sure seen : List (List UInt8)) (waits : Secs) (fails : List Int) (hf : fails.length ≤ 1000000) :
    fnDref08_Disk_Fail (n, ops, a, off, sure, seen, waits, fails) = some (if n > ops ∧ n ∉ fails ∧ fails.length < 100 then .inl (failM ops fails n) else .inr ()) := by
  simp only [fnDref08_Disk_Fail, fnref08_Disk_Fail, nodeDref08_Disk_Fail_n0, noderef08_Disk_Fail_n0, refhas_eq _ _ hf, bindO_pure, ble_true (show (fails.length + [n].length) * 8 ≤ 140737488355328 by simp only [List.length_cons, List.length_nil]; omega), ble_true (show (0 + fails.length) * 8 ≤ 140737488355328 by omega), cond_true, failM]
  by_cases h1 : n > ops <;> by_cases h2 : n ∈ fails <;> by_cases h3 : (fails.length : Int) < 100
  all_goals
    have h3' : (fails.length < 100) = ((fails.length : Int) < 100) := by apply propext; omega
    simp [h1, h2, h3, h3', bindO_pure]

/-! ### Beginning again -/
def pick (ch : List Int) (i : Nat) : Bool := match ch[i]? with | some x => Int.tmod x 2 != 0 | none => false
def chosen (ch : List Int) : Nat → Secs → Secs
  | _, [] => []
  | i, w :: r => bif pick ch i then w :: chosen ch (i + 1) r else chosen ch (i + 1) r
theorem chosen_snoc (ch : List Int) (w : Int × List UInt8) : ∀ (l : Secs) (i : Nat), chosen ch i (l ++ [w]) = chosen ch i l ++ (bif pick ch (i + l.length) then [w] else [])
  | [], i => by cases h : pick ch i <;> simp [chosen, h]
  | x :: r, i => by
    rw [List.cons_append, chosen, chosen, chosen_snoc ch w r (i + 1), List.length_cons, show i + 1 + r.length = i + (r.length + 1) by omega]
    cases pick ch i <;> rfl
theorem chosen_mem (ch : List Int) {w : Int × List UInt8} : ∀ {l : Secs} {i : Nat}, w ∈ chosen ch i l → w ∈ l
  | [], _, h => by simp [chosen] at h
  | x :: r, i, h => by
    rw [chosen] at h
    cases hp : pick ch i with
    | true =>
      rw [hp, cond_true, List.mem_cons] at h
      rcases h with h | h
      · exact List.mem_cons.2 (.inl h)
      · exact List.mem_cons.2 (.inr (chosen_mem ch h))
    | false =>
      rw [hp, cond_false] at h
      exact List.mem_cons.2 (.inr (chosen_mem ch h))
theorem chosen_length (ch : List Int) : ∀ (l : Secs) (i : Nat), (chosen ch i l).length ≤ l.length
  | [], _ => Nat.le_refl _
  | x :: r, i => by
    have := chosen_length ch r (i + 1)
    rw [chosen]
    cases pick ch i <;> simp <;> omega
theorem pick_eq (ch : List Int) (j : Nat) : (bif decide ((j : Int) < (ch.length : Int)) then bindO (nth ch (j : Int)) fun x => some (Int.tmod x 2 != 0) else some false) = some (pick ch j) := by
  by_cases h : j < ch.length
  · have hg : ch[j]? = some ch[j] := List.getElem?_eq_getElem h
    rw [dec_true (show (j : Int) < (ch.length : Int) by omega), cond_true, nth_of hg, bindO_pure]
    simp [pick, hg]
  · rw [dec_false (show ¬ (j : Int) < (ch.length : Int) by omega), cond_false]
    simp [pick, List.getElem?_eq_none (show ch.length ≤ j by omega)]

theorem restart2_eq (ch : List Int) (ops a : Int) (off : Bool) (sure : List (List UInt8)) (seen waits : Secs) (fails : List Int) (hl : waits.length ≤ 1000000) (hw : ∀ w ∈ waits, inR w.1 sure.length = true) :
    fnDdisk_Disk_Restart_2 (ch, ops, a, off, sure, seen, waits, fails) = some (settleM sure (chosen ch 0 waits)) := by
  have key : ∃ y, loopD (stepDdisk_Disk_Restart_2_n0 (ch, (waits.length : Int), ops, a, off, sure, seen, waits, fails)) FUEL (((0 : Nat) : Int), ([] : Secs)) = some y ∧ y = chosen ch 0 waits := by
    refine loopD_each waits (fun j (s : Secs) => ((j : Int), s)) (fun j s => s = chosen ch 0 (waits.take j)) _ ?_ ?_ (by simp [chosen]) (by omega)
    · rintro j x s hj hlt rfl
      left
      have hcl := chosen_length ch (waits.take j) 0
      have htl : (waits.take j).length = j := by rw [List.length_take]; omega
      have hnx : chosen ch 0 (waits.take (j + 1)) = chosen ch 0 (waits.take j) ++ (bif pick ch j then [x] else []) := by
        rw [List.take_add_one, hj, Option.toList_some, chosen_snoc, htl, Nat.zero_add]
      refine ⟨chosen ch 0 (waits.take (j + 1)), ?_, rfl⟩
      rw [hnx]
      simp only [stepDdisk_Disk_Restart_2_n0, stepdisk_Disk_Restart_2_n0, nodeDdisk_Disk_Restart_2_n1, nodedisk_Disk_Restart_2_n1, nodeDdisk_Disk_Restart_2_n2, nodedisk_Disk_Restart_2_n2, dec_true (show (j : Int) < (waits.length : Int) by omega), cond_true,
        inR_true (show (0 : Int) ≤ (j : Int) ∧ (j : Int) < (waits.length : Int) by omega), Int.toNat_natCast, hj, bindO_pure, pick_eq, wrap64_nat (show j < 9223372036854775807 by omega), htl, Nat.zero_add,
        ble_true (show ((chosen ch 0 (waits.take j)).length + [(x.1, x.2)].length) * 24 ≤ 140737488355328 by simp only [List.length_cons, List.length_nil]; omega)]
      cases pick ch j <;> simp [bindO_pure]
    · rintro s rfl
      simp only [stepDdisk_Disk_Restart_2_n0, stepdisk_Disk_Restart_2_n0, dec_false (show ¬ (waits.length : Int) < (waits.length : Int) by omega), cond_false]
      exact ⟨_, rfl, by rw [List.take_length]⟩
  obtain ⟨y, hy, rfl⟩ := key
  have hy' : loopD (stepDdisk_Disk_Restart_2_n0 (ch, (waits.length : Int), ops, a, off, sure, seen, waits, fails)) FUEL (0, []) = _ := hy
  have hcl := chosen_length ch waits 0
  simp only [fnDdisk_Disk_Restart_2, fndisk_Disk_Restart_2, hy', bindO_pure, settle2_eq (chosen ch 0 waits) ops a off sure seen waits fails (by omega) (fun w h => hw w (chosen_mem ch h))]

theorem refrestart_eq (ch : List Int) (ops a : Int) (off : Bool) (sure seen : List (List UInt8)) (waits : Secs) (fails : List Int) (hl : waits.length ≤ 1000000) (hs : sure.length ≤ 1000000) (hw : ∀ w ∈ waits, inR w.1 sure.length = true) :
    fnDref08_Disk_Restart (ch, ops, a, off, sure, seen, waits, fails) = some (settleM sure (chosen ch 0 waits), settleM sure (chosen ch 0 waits)) := by
  have key : ∃ y, loopD (stepDref08_Disk_Restart_n0 (ch, ops, a, off, sure, seen, waits, fails)) FUEL (((0 : Nat) : Int), sure) = some y ∧ y = settleM sure (chosen ch 0 waits) := by
    refine loopD_each waits (fun j (s : List (List UInt8)) => ((j : Int), s)) (fun j s => s = settleM sure (chosen ch 0 (waits.take j))) _ ?_ ?_ (by simp [chosen, settleM]) (by omega)
    · rintro j x s hj hlt rfl
      left
      have htl : (waits.take j).length = j := by rw [List.length_take]; omega
      have hr : inR x.1 (settleM sure (chosen ch 0 (waits.take j))).length = true := by rw [settleM_length]; exact hw x (List.mem_of_getElem? hj)
      obtain ⟨y, hy⟩ := inR_get hr
      have hnx : chosen ch 0 (waits.take (j + 1)) = chosen ch 0 (waits.take j) ++ (bif pick ch j then [x] else []) := by
        rw [List.take_add_one, hj, Option.toList_some, chosen_snoc, htl, Nat.zero_add]
      refine ⟨settleM sure (chosen ch 0 (waits.take (j + 1))), ?_, rfl⟩
      rw [hnx]
      simp only [stepDref08_Disk_Restart_n0, stepref08_Disk_Restart_n0, nodeDref08_Disk_Restart_n1, noderef08_Disk_Restart_n1, nodeDref08_Disk_Restart_n2, noderef08_Disk_Restart_n2, dec_true (show (j : Int) < (waits.length : Int) by omega), cond_true,
        inR_true (show (0 : Int) ≤ (j : Int) ∧ (j : Int) < (waits.length : Int) by omega), Int.toNat_natCast, hj, bindO_pure, pick_eq, wrap64_nat (show j < 9223372036854775807 by omega), htl, Nat.zero_add, hr, hy]
      cases pick ch j
      · simp [bindO_pure]
      · simp [bindO_pure, settleM_snoc]
    · rintro s rfl
      simp only [stepDref08_Disk_Restart_n0, stepref08_Disk_Restart_n0, dec_false (show ¬ (waits.length : Int) < (waits.length : Int) by omega), cond_false]
      exact ⟨_, rfl, by rw [List.take_length]⟩
  obtain ⟨y, hy, rfl⟩ := key
  have hy' : loopD (stepDref08_Disk_Restart_n0 (ch, ops, a, off, sure, seen, waits, fails)) FUEL (0, sure) = _ := hy
  simp only [fnDref08_Disk_Restart, fnref08_Disk_Restart, hy', bindO_pure, ble_true (show (0 + sure.length) * 16 ≤ 140737488355328 by omega), cond_true, settleM_length]

theorem restart_eq (ops a : Int) (off : Bool) (sure : List (List UInt8)) (seen waits : Secs) (fails : List Int) (hl : waits.length ≤ 1000000) :
    fnDdisk_Disk_Restart (ops, a, off, sure, seen, waits, fails) = some sure := by
  have key : ∃ y, loopD (stepDdisk_Disk_Restart_n0 ((waits.length : Int), ops, a, off, sure, seen, waits, fails)) FUEL ((0 : Nat) : Int) = some y ∧ y = () := by
    refine loopD_each waits (fun j (_ : Unit) => (j : Int)) (fun _ _ => True) _ ?_ ?_ (s0 := ()) trivial (by omega)
    · intro j x _ hj hlt _
      left
      refine ⟨(), ?_, trivial⟩
      simp only [stepDdisk_Disk_Restart_n0, stepdisk_Disk_Restart_n0, nodeDdisk_Disk_Restart_n1, nodedisk_Disk_Restart_n1, nodeDdisk_Disk_Restart_n2, nodedisk_Disk_Restart_n2, dec_true (show (j : Int) < (waits.length : Int) by omega), cond_true,
        inR_true (show (0 : Int) ≤ (j : Int) ∧ (j : Int) < (waits.length : Int) by omega), Int.toNat_natCast, hj, bindO_pure, dec_false (show ¬ (j : Int) < 0 by omega), cond_false, wrap64_nat (show j < 9223372036854775807 by omega)]
    · intro _ _
      simp only [stepDdisk_Disk_Restart_n0, stepdisk_Disk_Restart_n0, dec_false (show ¬ (waits.length : Int) < (waits.length : Int) by omega), cond_false]
      exact ⟨(), by first | trivial | rfl, by first | trivial | rfl⟩
  obtain ⟨y, hy, rfl⟩ := key
  have hy' : loopD (stepDdisk_Disk_Restart_n0 ((waits.length : Int), ops, a, off, sure, seen, waits, fails)) FUEL 0 = _ := hy
  simp only [fnDdisk_Disk_Restart, fndisk_Disk_Restart, hy', bindO_pure, settle2_eq [] ops a off sure seen waits fails (by simp) (by simp)]
  rfl

/-! ### New -/
theorem mul_small : ∀ c : Nat, c < 1001 → fnDmath_bits_Mul (1, (c : Int)) = some (0, (c : Int)) := by decide +kernel
theorem refrestart2_eq (ops a : Int) (off : Bool) (sure seen : List (List UInt8)) (waits : Secs) (fails : List Int) (hl : waits.length ≤ 1000000) (hs : sure.length ≤ 1000000) :
    fnDref08_Disk_Restart_2 (ops, a, off, sure, seen, waits, fails) = some () := by
  have key : ∃ y, loopD (stepDref08_Disk_Restart_2_n0 (ops, a, off, sure, seen, waits, fails, sure)) FUEL ((0 : Nat) : Int) = some y ∧ y = () := by
    refine loopD_each waits (fun j (_ : Unit) => (j : Int)) (fun _ _ => True) _ ?_ ?_ (s0 := ()) trivial (by omega)
    · intro j x _ hj hlt _
      left
      refine ⟨(), ?_, trivial⟩
      simp only [stepDref08_Disk_Restart_2_n0, stepref08_Disk_Restart_2_n0, nodeDref08_Disk_Restart_2_n1, noderef08_Disk_Restart_2_n1, nodeDref08_Disk_Restart_2_n2, noderef08_Disk_Restart_2_n2, dec_true (show (j : Int) < (waits.length : Int) by omega), cond_true,
        bindO_pure, dec_false (show ¬ (j : Int) < 0 by omega), cond_false, wrap64_nat (show j < 9223372036854775807 by omega)]
    · intro _ _
      simp only [stepDref08_Disk_Restart_2_n0, stepref08_Disk_Restart_2_n0, dec_false (show ¬ (waits.length : Int) < (waits.length : Int) by omega), cond_false]
      exact ⟨(), by first | trivial | rfl, by first | trivial | rfl⟩
  obtain ⟨y, hy, rfl⟩ := key
  have hy' : loopD (stepDref08_Disk_Restart_2_n0 (ops, a, off, sure, seen, waits, fails, sure)) FUEL 0 = _ := hy
  simp only [fnDref08_Disk_Restart_2, fnref08_Disk_Restart_2, hy', bindO_pure, ble_true (show (0 + sure.length) * 16 ≤ 140737488355328 by omega), cond_true]
def blank : List UInt8 := List.replicate 64 0
theorem refNew_eq (c : Int) (n : Nat) (hn : (n : Int) = (if 1000 < (if 0 > c then 0 else c) then 1000 else if 0 > c then 0 else c)) (h : n ≤ 1000) : fnDref08_New c = some (List.replicate n blank, List.replicate n blank) := by
  have key : ∃ y, loopD (stepDref08_New_n0 c) FUEL (((0 : Nat) : Int), ([] : List (List UInt8))) = some y ∧ y = List.replicate n blank := by
    refine loopD_inv (fun j v => j ≤ n ∧ v = ((j : Int), List.replicate j blank)) n _ ?_ ⟨by omega, rfl⟩ (by omega)
    rintro j v ⟨hj, rfl⟩
    by_cases hlt : j < n
    · left
      refine ⟨_, ?_, hlt, hlt, rfl⟩
      simp only [stepDref08_New_n0, stepref08_New_n0, ← hn, dec_true (show (j : Int) < (n : Int) by omega), cond_true, List.length_replicate, ble_true (show (j + 1) * 16 ≤ 140737488355328 by omega), wrap64_nat (show j < 9223372036854775807 by omega), List.replicate_succ']
      rfl
    · right
      obtain rfl : j = n := by omega
      simp only [stepDref08_New_n0, stepref08_New_n0, ← hn, dec_false (show ¬ (j : Int) < (j : Int) by omega), cond_false]
      exact ⟨_, rfl, rfl⟩
  obtain ⟨y, hy, rfl⟩ := key
  have hy' : loopD (stepDref08_New_n0 c) FUEL (0, []) = _ := hy
  simp only [fnDref08_New, fnref08_New, hy', bindO_pure, List.length_replicate, ble_true (show (0 + n) * 16 ≤ 140737488355328 by omega), cond_true]

/-- A doubling copy. -/
theorem double_loop (n : Nat) (r : List UInt8) (hn : n ≤ 1000) (v0 : List (List UInt8)) (h0 : v0 = List.replicate n r ∨ ∃ t, v0 = r :: t ∧ t.length + 1 = n) (k : Nat) (hk : k = min 1 n) :
    loopD (stepDslices_Repeat_string_string_n3 ()) FUEL ((k : Int), v0) = some (List.replicate n r) := by
  have key : ∃ y, loopD (stepDslices_Repeat_string_string_n3 ()) FUEL ((k : Int), v0) = some y ∧ y = List.replicate n r := by
    refine loopD_inv (fun j v => ∃ (m : Nat) (L : List (List UInt8)), v = ((m : Int), L) ∧ j ≤ m ∧ m ≤ n ∧ (1 ≤ m ∨ n = 0) ∧ L.length = n ∧ L.take m = List.replicate m r) n _ ?_ ?_ (by omega)
    · rintro j v ⟨m, L, rfl, hjm, hmn, h1, hL, htk⟩
      by_cases hlt : m < n
      · left
        have hd : (L.drop 0).take (m - 0) = List.replicate m r := by rw [List.drop_zero, Nat.sub_zero, htk]
        refine ⟨(((m + min m (n - m) : Nat) : Int), L.take m ++ ((List.replicate m r).take (n - m) ++ L.drop (m + min m (n - m)))), ?_, by omega, m + min m (n - m), _, rfl, by omega, by omega, by omega, ?_, ?_⟩
        · simp only [stepDslices_Repeat_string_string_n3, stepslices_Repeat_string_string_n3, hL, dec_true (show (m : Int) < (n : Int) by omega), cond_true, inR_true (show (0 : Int) ≤ (m : Int) ∧ (m : Int) < ((n + 1 : Nat) : Int) by omega), Int.toNat_natCast,
            ble_true (show 0 + (m - 0) ≤ n by omega), ble_true (show m + (n - m) ≤ n by omega), hd, List.length_replicate]
          rw [show Nat.min m (n - m) = min m (n - m) from rfl, wrap64 (x := (m : Int) + ((min m (n - m) : Nat) : Int)) (by omega) (by omega)]
          rfl
        · simp only [List.length_append, List.length_take, List.length_drop, List.length_replicate, hL]
          omega
        · rw [htk, List.take_replicate, ← List.append_assoc, List.replicate_append_replicate, List.take_append_of_le_length (by simp; omega), List.take_replicate]
          congr 1
          omega
      · right
        obtain rfl : m = n := by omega
        simp only [stepDslices_Repeat_string_string_n3, stepslices_Repeat_string_string_n3, hL, dec_false (show ¬ (m : Int) < (m : Int) by omega), cond_false]
        exact ⟨_, rfl, by rw [← htk, List.take_of_length_le (by omega)]⟩
    · refine ⟨k, v0, rfl, by omega, by omega, by omega, ?_, ?_⟩
      · rcases h0 with rfl | ⟨t, rfl, ht⟩
        · simp
        · simpa using ht
      · rcases h0 with rfl | ⟨t, rfl, ht⟩
        · rw [List.take_replicate]; congr 1; omega
        · have : k = 1 := by omega
          subst this
          simp
  obtain ⟨y, hy, rfl⟩ := key
  exact hy

theorem diskNew_eq (c : Int) (n : Nat) (hn : (n : Int) = (if 1000 < (if 0 > c then 0 else c) then 1000 else if 0 > c then 0 else c)) (h : n ≤ 1000) : fnDdisk_New c = some (List.replicate n blank) := by
  have hrep : fnDstrings_Repeat ([0], 64) = some blank := by kernel_rfl
  simp only [fnDdisk_New, fndisk_New, hrep, bindO_pure, ← hn]
  have e1 : IntKind.wrap .u64 ((1 : Nat) : Int) = 1 := by kernel_rfl
  have e2 : IntKind.wrap .u64 (n : Int) = (n : Int) := by
    unfold IntKind.wrap
    simp [IntKind.bits, IntKind.signed]
    omega
  have e3 : IntKind.wrap .i64 (n : Int) = (n : Int) := wrap64 (by omega) (by omega)
  simp only [fnDslices_Repeat_string_string, fnslices_Repeat_string_string, nodeDslices_Repeat_string_string_n0, nodeslices_Repeat_string_string_n0, nodeDslices_Repeat_string_string_n1, nodeslices_Repeat_string_string_n1, nodeDslices_Repeat_string_string_n2, nodeslices_Repeat_string_string_n2,
    dec_false (show ¬ (n : Int) < 0 by omega), cond_false, bindO_pure, e1, e2, mul_small n (by omega), unP, dec_false (show ¬ (0 : Int) > 0 by omega), dec_false (show ¬ (n : Int) > 9223372036854775807 by omega), e3,
    dec_true (show (0 : Int) ≤ (n : Int) by omega), dec_true (show (n : Int) ≤ (n : Int) by omega), dec_true (show (16 : Int) * (n : Int) ≤ 281474976710656 by omega), dec_true (show (n : Int) ≤ 9223372036854775807 by omega), Bool.and_true, cond_true, Int.toNat_natCast, List.length_replicate, List.length_singleton]
  have hd := double_loop n blank h ([blank].take n ++ (List.replicate n (nilL UInt8)).drop 1) ?_ (Nat.min 1 n) rfl
  · rw [hd]
    rfl
  · rcases Nat.eq_zero_or_pos n with h0 | h0
    · subst h0; left; simp
    · right
      refine ⟨(List.replicate n (nilL UInt8)).drop 1, by rw [List.take_of_length_le (by simp; omega)]; rfl, by simp; omega⟩
end Go.Proofs.R3
