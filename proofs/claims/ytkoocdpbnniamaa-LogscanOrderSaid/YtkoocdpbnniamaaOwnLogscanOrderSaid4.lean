/- What the functions that LogscanOrderSaid reaches compute: part 4. -/
import Derived.Test.YtkoocdpbnniamaaOwnLogscanOrderSaid3
set_option linter.unusedVariables false
set_option linter.unusedSimpArgs false
namespace Go.Proofs.R4
open Go Go.AE
--@ region_Region_Read
noncomputable def envregion_Region_Read : Env := [(27, .func FBuilder_String), (30, .pure Fregion_inside), (24, .func Fstrings_Builder_WriteString), (73, .func Fdisk_Disk_Read)]
theorem envregion_Region_ReadOk : EnvOk Try.prog envregion_Region_Read := EnvOk.cons FBuilder_String_ok (EnvOk.cons Fregion_inside_ok (EnvOk.cons Fstrings_Builder_WriteString_ok (EnvOk.cons Fdisk_Disk_Read_ok (EnvOk.nil))))
noncomputable def bregion_Region_Read : Code := Try.f67.body.getD .skip
noncomputable def Lregion_Region_Read_n0 : Code := codeAt [1, 1, 1, 0, 1, 0, 0] bregion_Region_Read
noncomputable def annLregion_Region_Read_n0 : Ann := .at 6 [0, 1, 8, 24, 25] (.loop .none)
theorem annLregion_Region_Read_n0_ok : AnnOk Try.prog 51 (.loop Lregion_Region_Read_n0) annLregion_Region_Read_n0 := annOk_at (annOk_none _ _ _)
abbrev Iregion_Region_Read_n0 := (Int) × (Int) × (Int) × (Int) × (Int) × (List (List UInt8)) × (List (Int × List UInt8)) × (List (Int × List UInt8)) × (List Int)
abbrev Yregion_Region_Read_n0 := ((Int) × (Int) × (Bool)) ⊕ ((Int) × (Bool) × (List Int))
abbrev Vregion_Region_Read_n0 := (Int) × (Int) × (Bool) × (List Int)
def Sregion_Region_Read_n0 : Iregion_Region_Read_n0 → Vregion_Region_Read_n0 → St := fun (t1, t24, o0_1, o0_2, o1_5, o2, o3, o4, o5) (t25, o1_3, o1_6, o7) => { env := [(0, AV.ptr 0 0), (1, AV.int IntKind.i64 t1), (8, AV.ptr 6 0), (24, AV.int IntKind.i64 t24), (25, AV.int IntKind.i64 t25)], stk := [[(0, AV.ptr 0 0), (1, AV.ptr 1 0)]], H := [AE.Obj.cells [AV.ptr 1 0, AV.int IntKind.i64 o0_1, AV.int IntKind.i64 o0_2], AE.Obj.cells [AV.own 2, AV.map 3, AV.own 4, AV.int IntKind.i64 o1_3, AV.own 5, AV.int IntKind.i64 o1_5, AV.bool o1_6], Obj.arr Ty.str o2, Obj.mp IntKind.i64 Ty.str o3, Obj.arr (Ty.st (Ty.pair (Ty.int IntKind.i64) Ty.str)) o4, Obj.arr (Ty.int IntKind.i64) o5, Obj.bcells [AV.own 7], Obj.arr (Ty.int IntKind.u8) o7], blk := 274433 }
def decregion_Region_Read_n0 (s : St) : Option (Iregion_Region_Read_n0 × Vregion_Region_Read_n0) := match s with
  | { env := [(0, AV.ptr 0 0), (1, AV.int IntKind.i64 t1), (8, AV.ptr 6 0), (24, AV.int IntKind.i64 t24), (25, AV.int IntKind.i64 t25)], stk := [[(0, AV.ptr 0 0), (1, AV.ptr 1 0)]], H := [AE.Obj.cells [AV.ptr 1 0, AV.int IntKind.i64 o0_1, AV.int IntKind.i64 o0_2], AE.Obj.cells [AV.own 2, AV.map 3, AV.own 4, AV.int IntKind.i64 o1_3, AV.own 5, AV.int IntKind.i64 o1_5, AV.bool o1_6], Obj.arr Ty.str o2, Obj.mp IntKind.i64 Ty.str o3, Obj.arr (Ty.st (Ty.pair (Ty.int IntKind.i64) Ty.str)) o4, Obj.arr (Ty.int IntKind.i64) o5, Obj.bcells [AV.own 7], Obj.arr (Ty.int IntKind.u8) o7], blk := 274433 } => some ((t1, t24, o0_1, o0_2, o1_5, o2, o3, o4, o5), (t25, o1_3, o1_6, o7))
  | _ => none
theorem decregion_Region_Read_n0_ok (s : St) (x : Iregion_Region_Read_n0 × Vregion_Region_Read_n0) (h : decregion_Region_Read_n0 s = some x) : s = Sregion_Region_Read_n0 x.1 x.2 := by
  unfold decregion_Region_Read_n0 at h
  split at h
  · cases h; rfl
  · cases h
def outregion_Region_Read_n0 : Iregion_Region_Read_n0 → (Ex → St → Ans) → Yregion_Region_Read_n0 → Ans := fun (t1, t24, o0_1, o0_2, o1_5, o2, o3, o4, o5) K => (Sum.elim (unP fun t7_y => unP fun o1_3_y o1_6_y => K (Ex.ret) { env := [(6, AV.str ([])), (7, AV.int IntKind.i64 t7_y)], stk := [[(0, AV.ptr 0 0), (1, AV.ptr 1 0)]], H := [AE.Obj.cells [AV.ptr 1 0, AV.int IntKind.i64 o0_1, AV.int IntKind.i64 o0_2], AE.Obj.cells [AV.own 2, AV.map 3, AV.own 4, AV.int IntKind.i64 o1_3_y, AV.own 5, AV.int IntKind.i64 o1_5, AV.bool o1_6_y], Obj.arr Ty.str o2, Obj.mp IntKind.i64 Ty.str o3, Obj.arr (Ty.st (Ty.pair (Ty.int IntKind.i64) Ty.str)) o4, Obj.arr (Ty.int IntKind.i64) o5], blk := 274434 }) (unP fun o1_3_y => unP fun o1_6_y o7_y => K (Ex.exit 1) { env := [(8, AV.ptr 6 0)], stk := [[(0, AV.ptr 0 0), (1, AV.ptr 1 0)]], H := [AE.Obj.cells [AV.ptr 1 0, AV.int IntKind.i64 o0_1, AV.int IntKind.i64 o0_2], AE.Obj.cells [AV.own 2, AV.map 3, AV.own 4, AV.int IntKind.i64 o1_3_y, AV.own 5, AV.int IntKind.i64 o1_5, AV.bool o1_6_y], Obj.arr Ty.str o2, Obj.mp IntKind.i64 Ty.str o3, Obj.arr (Ty.st (Ty.pair (Ty.int IntKind.i64) Ty.str)) o4, Obj.arr (Ty.int IntKind.i64) o5, Obj.bcells [AV.own 7], Obj.arr (Ty.int IntKind.u8) o7_y], blk := 274433 }))
def stepregion_Region_Read_n0 {β : Type} : Iregion_Region_Read_n0 → Vregion_Region_Read_n0 → (Vregion_Region_Read_n0 → Option β) → (Yregion_Region_Read_n0 → Option β) → Option β := fun (t1, t24, o0_1, o0_2, o1_5, o2, o3, o4, o5) (t25, o1_3, o1_6, o7) next exit => (bif decide (t25 < t24) then (bindO (fnDdisk_Disk_Read (IntKind.wrap IntKind.i64 (IntKind.wrap IntKind.i64 (o0_1 + t1) + t25), o1_3, o1_5, o1_6, o2, o3, o4, o5)) (unP fun r_0 => unP fun r_1 => unP fun o0_3 o0_6 => (bif r_1 != (0 : Int) then (exit (Sum.inl (r_1, o0_3, o0_6))) else (bindO (fnDstrings_Builder_WriteString (r_0, o7)) (unP fun r_0_2 o1 => (next (IntKind.wrap IntKind.i64 (t25 + (1 : Int)), o0_3, o0_6, o1))))))) else (exit (Sum.inr (o1_3, o1_6, o7))))
def stepDregion_Region_Read_n0 (i : Iregion_Region_Read_n0) (v : Vregion_Region_Read_n0) : Option (Vregion_Region_Read_n0 ⊕ Yregion_Region_Read_n0) := stepregion_Region_Read_n0 i v (fun v => some (.inl v)) (fun y => some (.inr y))
theorem stepregion_Region_Read_n0_nat (i : Iregion_Region_Read_n0) (v : Vregion_Region_Read_n0) (next : Vregion_Region_Read_n0 → Ans) (exit : Yregion_Region_Read_n0 → Ans) : stepregion_Region_Read_n0 i v next exit = bindO (stepDregion_Region_Read_n0 i v) (Sum.elim next exit) := by
  obtain ⟨t1, t24, o0_1, o0_2, o1_5, o2, o3, o4, o5⟩ := i
  obtain ⟨t25, o1_3, o1_6, o7⟩ := v
  simp only [stepDregion_Region_Read_n0, stepregion_Region_Read_n0, bindO_cond, bindO_assoc, bindO_none, bindO_pure, bindO_elim, bindO_unP, Sum.elim_inl, Sum.elim_inr]
theorem stepregion_Region_Read_n0_ok (n : Nat) (i : Iregion_Region_Read_n0) (v : Vregion_Region_Read_n0) (K : Ex → St → Ans) : codeI Try.tab envregion_Region_Read noHint (codeD Try.tab envregion_Region_Read noHint 0 64) (n+1) 51 annLregion_Region_Read_n0 (.loop Lregion_Region_Read_n0) (weakP 6 (exk [8] [6, 7] [(1, [8])]) K) (Sregion_Region_Read_n0 i v) = stepregion_Region_Read_n0 i v (fun v' => codeI Try.tab envregion_Region_Read noHint (codeD Try.tab envregion_Region_Read noHint 0 64) n 51 annLregion_Region_Read_n0 (.loop Lregion_Region_Read_n0) (weakP 6 (exk [8] [6, 7] [(1, [8])]) K) (Sregion_Region_Read_n0 i v')) (fun y => outregion_Region_Read_n0 i K y) := by kernel_rfl
theorem GNregion_Region_Read_n0_ok : CSum Try.prog 51 (.loop Lregion_Region_Read_n0) (sumL decregion_Region_Read_n0 stepDregion_Region_Read_n0 outregion_Region_Read_n0) := csum_loop mixed tabOk envregion_Region_ReadOk 6 (exk [8] [6, 7] [(1, [8])]) annLregion_Region_Read_n0_ok decregion_Region_Read_n0_ok stepregion_Region_Read_n0_ok stepregion_Region_Read_n0_nat
noncomputable def Gregion_Region_Read_n0 : (Ex → St → Ans) → St → Ans := (sumL decregion_Region_Read_n0 stepDregion_Region_Read_n0 outregion_Region_Read_n0)
theorem Gregion_Region_Read_n0_ok : CSum Try.prog 51 (.loop Lregion_Region_Read_n0) Gregion_Region_Read_n0 := GNregion_Region_Read_n0_ok
noncomputable def annregion_Region_Read : Ann := (.seq .none (.seq .none (.seq .none (.seq (.seq .none (.block (.cut 6 [0, 1, 8, 24, 25] Gregion_Region_Read_n0))) .none))))
theorem annregion_Region_Read_ok : AnnOk Try.prog 51 bregion_Region_Read annregion_Region_Read := ⟨(annOk_none _ _ _), ⟨(annOk_none _ _ _), ⟨(annOk_none _ _ _), ⟨⟨(annOk_none _ _ _), Gregion_Region_Read_n0_ok⟩, (annOk_none _ _ _)⟩⟩⟩⟩
abbrev Aregion_Region_Read := (Int) × (Int) × (Int) × (Int) × (Int) × (Int) × (Bool) × (List (List UInt8)) × (List (Int × List UInt8)) × (List (Int × List UInt8)) × (List Int)
abbrev Yregion_Region_Read := (List UInt8) × (Int) × (Int) × (Bool)
def fnregion_Region_Read {β : Type} : Aregion_Region_Read → (Yregion_Region_Read → Option β) → Option β := fun (a1, a2, o0_1, o0_2, o1_3, o1_5, o1_6, o2, o3, o4, o5) exit => (bindO (fnDregion_inside (a1, a2, o0_2)) fun r => (bif !r then (exit ([], (3 : Int), o1_3, o1_6)) else (bindO (loopD (stepDregion_Region_Read_n0 (a1, a2, o0_1, o0_2, o1_5, o2, o3, o4, o5)) FUEL ((0 : Int), o1_3, o1_6, [])) (Sum.elim (unP fun t7 => unP fun o1_3_2 o1_6_2 => (exit ([], t7, o1_3_2, o1_6_2))) (unP fun o1_3_2 => unP fun o1_6_2 o7 => (bindO (fnDBuilder_String (o7)) (unP fun r_2 o0 => (exit (r_2, (0 : Int), o1_3_2, o1_6_2)))))))))
def fnDregion_Region_Read (a : Aregion_Region_Read) : Option Yregion_Region_Read := fnregion_Region_Read a some
theorem fnregion_Region_Read_nat (a : Aregion_Region_Read) (k : Yregion_Region_Read → Ans) : fnregion_Region_Read a k = bindO (fnDregion_Region_Read a) k := by
  obtain ⟨a1, a2, o0_1, o0_2, o1_3, o1_5, o1_6, o2, o3, o4, o5⟩ := a
  simp only [fnDregion_Region_Read, fnregion_Region_Read, bindO_cond, bindO_assoc, bindO_none, bindO_pure, bindO_elim, bindO_unP]
def argsregion_Region_Read : Aregion_Region_Read → List AV × List AE.Obj := fun (a1, a2, o0_1, o0_2, o1_3, o1_5, o1_6, o2, o3, o4, o5) => ([AV.ptr 0 0, AV.int IntKind.i64 a1, AV.int IntKind.i64 a2], [AE.Obj.cells [AV.ptr 1 0, AV.int IntKind.i64 o0_1, AV.int IntKind.i64 o0_2], AE.Obj.cells [AV.own 2, AV.map 3, AV.own 4, AV.int IntKind.i64 o1_3, AV.own 5, AV.int IntKind.i64 o1_5, AV.bool o1_6], Obj.arr Ty.str o2, Obj.mp IntKind.i64 Ty.str o3, Obj.arr (Ty.st (Ty.pair (Ty.int IntKind.i64) Ty.str)) o4, Obj.arr (Ty.int IntKind.i64) o5])
def decAregion_Region_Read (l : List AV) (H : List AE.Obj) : Option Aregion_Region_Read := match l, H with
  | [AV.ptr 0 0, AV.int IntKind.i64 a1, AV.int IntKind.i64 a2], [AE.Obj.cells [AV.ptr 1 0, AV.int IntKind.i64 o0_1, AV.int IntKind.i64 o0_2], AE.Obj.cells [AV.own 2, AV.map 3, AV.own 4, AV.int IntKind.i64 o1_3, AV.own 5, AV.int IntKind.i64 o1_5, AV.bool o1_6], Obj.arr Ty.str o2, Obj.mp IntKind.i64 Ty.str o3, Obj.arr (Ty.st (Ty.pair (Ty.int IntKind.i64) Ty.str)) o4, Obj.arr (Ty.int IntKind.i64) o5] => some (a1, a2, o0_1, o0_2, o1_3, o1_5, o1_6, o2, o3, o4, o5)
  | _, _ => none
theorem decAregion_Region_Read_ok (l : List AV) (H : List AE.Obj) (a : Aregion_Region_Read) (h : decAregion_Region_Read l H = some a) : (l, H) = argsregion_Region_Read a := by
  unfold decAregion_Region_Read at h
  split at h
  · cases h; rfl
  · cases h
def outregion_Region_Read : Aregion_Region_Read → (AV → List AE.Obj → Ans) → Yregion_Region_Read → Ans := fun (a1, a2, o0_1, o0_2, o1_3, o1_5, o1_6, o2, o3, o4, o5) K => unP fun r_0_y => unP fun r_1_y => unP fun o1_3_y o1_6_y => K (AV.tup [AV.str r_0_y, AV.int IntKind.i64 r_1_y]) [AE.Obj.cells [AV.ptr 1 0, AV.int IntKind.i64 o0_1, AV.int IntKind.i64 o0_2], AE.Obj.cells [AV.own 2, AV.map 3, AV.own 4, AV.int IntKind.i64 o1_3_y, AV.own 5, AV.int IntKind.i64 o1_5, AV.bool o1_6_y], Obj.arr Ty.str o2, Obj.mp IntKind.i64 Ty.str o3, Obj.arr (Ty.st (Ty.pair (Ty.int IntKind.i64) Ty.str)) o4, Obj.arr (Ty.int IntKind.i64) o5]
theorem fnregion_Region_Read_ok (a : Aregion_Region_Read) (K : AV → List AE.Obj → Ans) : fnE Try.tab envregion_Region_Read noHint 0 70 67 Try.f67.ntmps Try.f67.results.toList annregion_Region_Read bregion_Region_Read (argsregion_Region_Read a).1 (argsregion_Region_Read a).2 K = fnregion_Region_Read a (outregion_Region_Read a K) := by kernel_rfl
def vFregion_Region_Read (a : Aregion_Region_Read) (K : AV → List AE.Obj → Ans) : Ans := bindO (fnDregion_Region_Read a) fun y => outregion_Region_Read a K y
def Fregion_Region_Read : List AV → List AE.Obj → (AV → List AE.Obj → Ans) → Ans := fun l H K => bindO (decAregion_Region_Read l H) fun a => vFregion_Region_Read a K
theorem Fregion_Region_Read_ok : FuncOk Try.prog 67 Fregion_Region_Read := func_mkD (hint := noHint) (d := 0) (n := 70) mixed tabOk envregion_Region_ReadOk Try.func67 (bodySome (by kernel_rfl)) (by decide +kernel) annregion_Region_Read_ok decAregion_Region_Read_ok fnregion_Region_Read_ok fnregion_Region_Read_nat
--@ logscan_scan_read
noncomputable def envlogscan_scan_read : Env := [(21, .func Flogscan_wrap), (67, .func Fregion_Region_Read)]
theorem envlogscan_scan_readOk : EnvOk Try.prog envlogscan_scan_read := EnvOk.cons Flogscan_wrap_ok (EnvOk.cons Fregion_Region_Read_ok (EnvOk.nil))
noncomputable def blogscan_scan_read : Code := Try.f59.body.getD .skip
noncomputable def Llogscan_scan_read_n0 : Code := codeAt [1, 1, 0, 1, 0, 0] blogscan_scan_read
noncomputable def annLlogscan_scan_read_n0 : Ann := .at 7 [0, 1, 8, 12, 13] (.loop .none)
theorem annLlogscan_scan_read_n0_ok : AnnOk Try.prog 40 (.loop Llogscan_scan_read_n0) annLlogscan_scan_read_n0 := annOk_at (annOk_none _ _ _)
abbrev Ilogscan_scan_read_n0 := (Int) × (Int) × (Int) × (Int) × (Int) × (Bool) × (Int) × (Int) × (Int) × (List (List UInt8)) × (List (Int × List UInt8)) × (List (Int × List UInt8)) × (List Int)
abbrev Ylogscan_scan_read_n0 := ((Int) × (Int) × (Bool)) ⊕ ((List UInt8) × (Int) × (Bool))
abbrev Vlogscan_scan_read_n0 := (List UInt8) × (Int) × (Int) × (Bool)
def Slogscan_scan_read_n0 : Ilogscan_scan_read_n0 → Vlogscan_scan_read_n0 → St := fun (t1, t12, o0_1, o0_2, o0_3, o0_5, o1_1, o1_2, o2_5, o3, o4, o5, o6) (t8, t13, o2_3, o2_6) => { env := [(0, AV.ptr 0 0), (1, AV.int IntKind.i64 t1), (8, AV.str t8), (12, AV.int IntKind.i64 t12), (13, AV.int IntKind.i64 t13)], stk := [[(0, AV.ptr 0 0), (1, AV.ptr 1 0), (2, AV.ptr 2 0)]], H := [AE.Obj.cells [AV.ptr 1 0, AV.int IntKind.i64 o0_1, AV.int IntKind.i64 o0_2, AV.int IntKind.i64 o0_3, AV.fn (Fn.func 34) [] [], AV.bool o0_5], AE.Obj.cells [AV.ptr 2 0, AV.int IntKind.i64 o1_1, AV.int IntKind.i64 o1_2], AE.Obj.cells [AV.own 3, AV.map 4, AV.own 5, AV.int IntKind.i64 o2_3, AV.own 6, AV.int IntKind.i64 o2_5, AV.bool o2_6], Obj.arr Ty.str o3, Obj.mp IntKind.i64 Ty.str o4, Obj.arr (Ty.st (Ty.pair (Ty.int IntKind.i64) Ty.str)) o5, Obj.arr (Ty.int IntKind.i64) o6], blk := 241664 }
def declogscan_scan_read_n0 (s : St) : Option (Ilogscan_scan_read_n0 × Vlogscan_scan_read_n0) := match s with
  | { env := [(0, AV.ptr 0 0), (1, AV.int IntKind.i64 t1), (8, AV.str t8), (12, AV.int IntKind.i64 t12), (13, AV.int IntKind.i64 t13)], stk := [[(0, AV.ptr 0 0), (1, AV.ptr 1 0), (2, AV.ptr 2 0)]], H := [AE.Obj.cells [AV.ptr 1 0, AV.int IntKind.i64 o0_1, AV.int IntKind.i64 o0_2, AV.int IntKind.i64 o0_3, AV.fn (Fn.func 34) [] [], AV.bool o0_5], AE.Obj.cells [AV.ptr 2 0, AV.int IntKind.i64 o1_1, AV.int IntKind.i64 o1_2], AE.Obj.cells [AV.own 3, AV.map 4, AV.own 5, AV.int IntKind.i64 o2_3, AV.own 6, AV.int IntKind.i64 o2_5, AV.bool o2_6], Obj.arr Ty.str o3, Obj.mp IntKind.i64 Ty.str o4, Obj.arr (Ty.st (Ty.pair (Ty.int IntKind.i64) Ty.str)) o5, Obj.arr (Ty.int IntKind.i64) o6], blk := 241664 } => some ((t1, t12, o0_1, o0_2, o0_3, o0_5, o1_1, o1_2, o2_5, o3, o4, o5, o6), (t8, t13, o2_3, o2_6))
  | _ => none
theorem declogscan_scan_read_n0_ok (s : St) (x : Ilogscan_scan_read_n0 × Vlogscan_scan_read_n0) (h : declogscan_scan_read_n0 s = some x) : s = Slogscan_scan_read_n0 x.1 x.2 := by
  unfold declogscan_scan_read_n0 at h
  split at h
  · cases h; rfl
  · cases h
def outlogscan_scan_read_n0 : Ilogscan_scan_read_n0 → (Ex → St → Ans) → Ylogscan_scan_read_n0 → Ans := fun (t1, t12, o0_1, o0_2, o0_3, o0_5, o1_1, o1_2, o2_5, o3, o4, o5, o6) K => (Sum.elim (unP fun t7_y => unP fun o2_3_y o2_6_y => K (Ex.ret) { env := [(6, AV.str ([])), (7, AV.int IntKind.i64 t7_y)], stk := [[(0, AV.ptr 0 0), (1, AV.ptr 1 0), (2, AV.ptr 2 0)]], H := [AE.Obj.cells [AV.ptr 1 0, AV.int IntKind.i64 o0_1, AV.int IntKind.i64 o0_2, AV.int IntKind.i64 o0_3, AV.fn (Fn.func 34) [] [], AV.bool o0_5], AE.Obj.cells [AV.ptr 2 0, AV.int IntKind.i64 o1_1, AV.int IntKind.i64 o1_2], AE.Obj.cells [AV.own 3, AV.map 4, AV.own 5, AV.int IntKind.i64 o2_3_y, AV.own 6, AV.int IntKind.i64 o2_5, AV.bool o2_6_y], Obj.arr Ty.str o3, Obj.mp IntKind.i64 Ty.str o4, Obj.arr (Ty.st (Ty.pair (Ty.int IntKind.i64) Ty.str)) o5, Obj.arr (Ty.int IntKind.i64) o6], blk := 241665 }) (unP fun t8_y => unP fun o2_3_y o2_6_y => K (Ex.exit 0) { env := [(8, AV.str t8_y)], stk := [[(0, AV.ptr 0 0), (1, AV.ptr 1 0), (2, AV.ptr 2 0)]], H := [AE.Obj.cells [AV.ptr 1 0, AV.int IntKind.i64 o0_1, AV.int IntKind.i64 o0_2, AV.int IntKind.i64 o0_3, AV.fn (Fn.func 34) [] [], AV.bool o0_5], AE.Obj.cells [AV.ptr 2 0, AV.int IntKind.i64 o1_1, AV.int IntKind.i64 o1_2], AE.Obj.cells [AV.own 3, AV.map 4, AV.own 5, AV.int IntKind.i64 o2_3_y, AV.own 6, AV.int IntKind.i64 o2_5, AV.bool o2_6_y], Obj.arr Ty.str o3, Obj.mp IntKind.i64 Ty.str o4, Obj.arr (Ty.st (Ty.pair (Ty.int IntKind.i64) Ty.str)) o5, Obj.arr (Ty.int IntKind.i64) o6], blk := 241664 }))
def steplogscan_scan_read_n0 {β : Type} : Ilogscan_scan_read_n0 → Vlogscan_scan_read_n0 → (Vlogscan_scan_read_n0 → Option β) → (Ylogscan_scan_read_n0 → Option β) → Option β := fun (t1, t12, o0_1, o0_2, o0_3, o0_5, o1_1, o1_2, o2_5, o3, o4, o5, o6) (t8, t13, o2_3, o2_6) next exit => (bif decide (t13 < t12) then (bindO (fnDlogscan_wrap (IntKind.wrap IntKind.i64 (t1 + t13), o1_1, o1_2, o2_3, o2_5, o2_6, o3, o4, o5, o6)) fun r => (bindO (fnDregion_Region_Read (r, (1 : Int), o1_1, o1_2, o2_3, o2_5, o2_6, o3, o4, o5, o6)) (unP fun r_0 => unP fun r_1 => unP fun o1_3 o1_6 => (bif r_1 != (0 : Int) then (exit (Sum.inl (r_1, o1_3, o1_6))) else (bif Nat.ble (List.length t8 + List.length r_0) (9223372036854775807 : Nat) then (next (t8 ++ r_0, IntKind.wrap IntKind.i64 (t13 + (1 : Int)), o1_3, o1_6)) else none))))) else (exit (Sum.inr (t8, o2_3, o2_6))))
def stepDlogscan_scan_read_n0 (i : Ilogscan_scan_read_n0) (v : Vlogscan_scan_read_n0) : Option (Vlogscan_scan_read_n0 ⊕ Ylogscan_scan_read_n0) := steplogscan_scan_read_n0 i v (fun v => some (.inl v)) (fun y => some (.inr y))
theorem steplogscan_scan_read_n0_nat (i : Ilogscan_scan_read_n0) (v : Vlogscan_scan_read_n0) (next : Vlogscan_scan_read_n0 → Ans) (exit : Ylogscan_scan_read_n0 → Ans) : steplogscan_scan_read_n0 i v next exit = bindO (stepDlogscan_scan_read_n0 i v) (Sum.elim next exit) := by
  obtain ⟨t1, t12, o0_1, o0_2, o0_3, o0_5, o1_1, o1_2, o2_5, o3, o4, o5, o6⟩ := i
  obtain ⟨t8, t13, o2_3, o2_6⟩ := v
  simp only [stepDlogscan_scan_read_n0, steplogscan_scan_read_n0, bindO_cond, bindO_assoc, bindO_none, bindO_pure, bindO_elim, bindO_unP, Sum.elim_inl, Sum.elim_inr]
theorem steplogscan_scan_read_n0_ok (n : Nat) (i : Ilogscan_scan_read_n0) (v : Vlogscan_scan_read_n0) (K : Ex → St → Ans) : codeI Try.tab envlogscan_scan_read noHint (codeD Try.tab envlogscan_scan_read noHint 0 64) (n+1) 40 annLlogscan_scan_read_n0 (.loop Llogscan_scan_read_n0) (weakP 7 (exk [8] [6, 7] [(0, [8])]) K) (Slogscan_scan_read_n0 i v) = steplogscan_scan_read_n0 i v (fun v' => codeI Try.tab envlogscan_scan_read noHint (codeD Try.tab envlogscan_scan_read noHint 0 64) n 40 annLlogscan_scan_read_n0 (.loop Llogscan_scan_read_n0) (weakP 7 (exk [8] [6, 7] [(0, [8])]) K) (Slogscan_scan_read_n0 i v')) (fun y => outlogscan_scan_read_n0 i K y) := by kernel_rfl
theorem GNlogscan_scan_read_n0_ok : CSum Try.prog 40 (.loop Llogscan_scan_read_n0) (sumL declogscan_scan_read_n0 stepDlogscan_scan_read_n0 outlogscan_scan_read_n0) := csum_loop mixed tabOk envlogscan_scan_readOk 7 (exk [8] [6, 7] [(0, [8])]) annLlogscan_scan_read_n0_ok declogscan_scan_read_n0_ok steplogscan_scan_read_n0_ok steplogscan_scan_read_n0_nat
noncomputable def Glogscan_scan_read_n0 : (Ex → St → Ans) → St → Ans := (sumL declogscan_scan_read_n0 stepDlogscan_scan_read_n0 outlogscan_scan_read_n0)
theorem Glogscan_scan_read_n0_ok : CSum Try.prog 40 (.loop Llogscan_scan_read_n0) Glogscan_scan_read_n0 := GNlogscan_scan_read_n0_ok
noncomputable def annlogscan_scan_read : Ann := (.seq .none (.seq .none (.seq (.seq .none (.block (.cut 7 [0, 1, 8, 12, 13] Glogscan_scan_read_n0))) .none)))
theorem annlogscan_scan_read_ok : AnnOk Try.prog 40 blogscan_scan_read annlogscan_scan_read := ⟨(annOk_none _ _ _), ⟨(annOk_none _ _ _), ⟨⟨(annOk_none _ _ _), Glogscan_scan_read_n0_ok⟩, (annOk_none _ _ _)⟩⟩⟩
abbrev Alogscan_scan_read := (Int) × (Int) × (Int) × (Int) × (Int) × (Bool) × (Int) × (Int) × (Int) × (Int) × (Bool) × (List (List UInt8)) × (List (Int × List UInt8)) × (List (Int × List UInt8)) × (List Int)
abbrev Ylogscan_scan_read := (List UInt8) × (Int) × (Int) × (Bool)
def fnlogscan_scan_read {β : Type} : Alogscan_scan_read → (Ylogscan_scan_read → Option β) → Option β := fun (a1, a2, o0_1, o0_2, o0_3, o0_5, o1_1, o1_2, o2_3, o2_5, o2_6, o3, o4, o5, o6) exit => (bindO (loopD (stepDlogscan_scan_read_n0 (a1, a2, o0_1, o0_2, o0_3, o0_5, o1_1, o1_2, o2_5, o3, o4, o5, o6)) FUEL ([], (0 : Int), o2_3, o2_6)) (Sum.elim (unP fun t7 => unP fun o2_3_2 o2_6_2 => (exit ([], t7, o2_3_2, o2_6_2))) (unP fun t8 => unP fun o2_3_2 o2_6_2 => (exit (t8, (0 : Int), o2_3_2, o2_6_2)))))
def fnDlogscan_scan_read (a : Alogscan_scan_read) : Option Ylogscan_scan_read := fnlogscan_scan_read a some
theorem fnlogscan_scan_read_nat (a : Alogscan_scan_read) (k : Ylogscan_scan_read → Ans) : fnlogscan_scan_read a k = bindO (fnDlogscan_scan_read a) k := by
  obtain ⟨a1, a2, o0_1, o0_2, o0_3, o0_5, o1_1, o1_2, o2_3, o2_5, o2_6, o3, o4, o5, o6⟩ := a
  simp only [fnDlogscan_scan_read, fnlogscan_scan_read, bindO_cond, bindO_assoc, bindO_none, bindO_pure, bindO_elim, bindO_unP]
def argslogscan_scan_read : Alogscan_scan_read → List AV × List AE.Obj := fun (a1, a2, o0_1, o0_2, o0_3, o0_5, o1_1, o1_2, o2_3, o2_5, o2_6, o3, o4, o5, o6) => ([AV.ptr 0 0, AV.int IntKind.i64 a1, AV.int IntKind.i64 a2], [AE.Obj.cells [AV.ptr 1 0, AV.int IntKind.i64 o0_1, AV.int IntKind.i64 o0_2, AV.int IntKind.i64 o0_3, AV.fn (Fn.func 34) [] [], AV.bool o0_5], AE.Obj.cells [AV.ptr 2 0, AV.int IntKind.i64 o1_1, AV.int IntKind.i64 o1_2], AE.Obj.cells [AV.own 3, AV.map 4, AV.own 5, AV.int IntKind.i64 o2_3, AV.own 6, AV.int IntKind.i64 o2_5, AV.bool o2_6], Obj.arr Ty.str o3, Obj.mp IntKind.i64 Ty.str o4, Obj.arr (Ty.st (Ty.pair (Ty.int IntKind.i64) Ty.str)) o5, Obj.arr (Ty.int IntKind.i64) o6])
def decAlogscan_scan_read (l : List AV) (H : List AE.Obj) : Option Alogscan_scan_read := match l, H with
  | [AV.ptr 0 0, AV.int IntKind.i64 a1, AV.int IntKind.i64 a2], [AE.Obj.cells [AV.ptr 1 0, AV.int IntKind.i64 o0_1, AV.int IntKind.i64 o0_2, AV.int IntKind.i64 o0_3, AV.fn (Fn.func 34) [] [], AV.bool o0_5], AE.Obj.cells [AV.ptr 2 0, AV.int IntKind.i64 o1_1, AV.int IntKind.i64 o1_2], AE.Obj.cells [AV.own 3, AV.map 4, AV.own 5, AV.int IntKind.i64 o2_3, AV.own 6, AV.int IntKind.i64 o2_5, AV.bool o2_6], Obj.arr Ty.str o3, Obj.mp IntKind.i64 Ty.str o4, Obj.arr (Ty.st (Ty.pair (Ty.int IntKind.i64) Ty.str)) o5, Obj.arr (Ty.int IntKind.i64) o6] => some (a1, a2, o0_1, o0_2, o0_3, o0_5, o1_1, o1_2, o2_3, o2_5, o2_6, o3, o4, o5, o6)
  | _, _ => none
theorem decAlogscan_scan_read_ok (l : List AV) (H : List AE.Obj) (a : Alogscan_scan_read) (h : decAlogscan_scan_read l H = some a) : (l, H) = argslogscan_scan_read a := by
  unfold decAlogscan_scan_read at h
  split at h
  · cases h; rfl
  · cases h
def outlogscan_scan_read : Alogscan_scan_read → (AV → List AE.Obj → Ans) → Ylogscan_scan_read → Ans := fun (a1, a2, o0_1, o0_2, o0_3, o0_5, o1_1, o1_2, o2_3, o2_5, o2_6, o3, o4, o5, o6) K => unP fun r_0_y => unP fun r_1_y => unP fun o2_3_y o2_6_y => K (AV.tup [AV.str r_0_y, AV.int IntKind.i64 r_1_y]) [AE.Obj.cells [AV.ptr 1 0, AV.int IntKind.i64 o0_1, AV.int IntKind.i64 o0_2, AV.int IntKind.i64 o0_3, AV.fn (Fn.func 34) [] [], AV.bool o0_5], AE.Obj.cells [AV.ptr 2 0, AV.int IntKind.i64 o1_1, AV.int IntKind.i64 o1_2], AE.Obj.cells [AV.own 3, AV.map 4, AV.own 5, AV.int IntKind.i64 o2_3_y, AV.own 6, AV.int IntKind.i64 o2_5, AV.bool o2_6_y], Obj.arr Ty.str o3, Obj.mp IntKind.i64 Ty.str o4, Obj.arr (Ty.st (Ty.pair (Ty.int IntKind.i64) Ty.str)) o5, Obj.arr (Ty.int IntKind.i64) o6]
theorem fnlogscan_scan_read_ok (a : Alogscan_scan_read) (K : AV → List AE.Obj → Ans) : fnE Try.tab envlogscan_scan_read noHint 0 70 59 Try.f59.ntmps Try.f59.results.toList annlogscan_scan_read blogscan_scan_read (argslogscan_scan_read a).1 (argslogscan_scan_read a).2 K = fnlogscan_scan_read a (outlogscan_scan_read a K) := by kernel_rfl
def vFlogscan_scan_read (a : Alogscan_scan_read) (K : AV → List AE.Obj → Ans) : Ans := bindO (fnDlogscan_scan_read a) fun y => outlogscan_scan_read a K y
def Flogscan_scan_read : List AV → List AE.Obj → (AV → List AE.Obj → Ans) → Ans := fun l H K => bindO (decAlogscan_scan_read l H) fun a => vFlogscan_scan_read a K
theorem Flogscan_scan_read_ok : FuncOk Try.prog 59 Flogscan_scan_read := func_mkD (hint := noHint) (d := 0) (n := 70) mixed tabOk envlogscan_scan_readOk Try.func59 (bodySome (by kernel_rfl)) (by decide +kernel) annlogscan_scan_read_ok decAlogscan_scan_read_ok fnlogscan_scan_read_ok fnlogscan_scan_read_nat
--@ field_New
noncomputable def envfield_New : Env := []
theorem envfield_NewOk : EnvOk Try.prog envfield_New := EnvOk.nil
noncomputable def bfield_New : Code := Try.f68.body.getD .skip
noncomputable def annfield_New : Ann := .none
theorem annfield_New_ok : AnnOk Try.prog 6 bfield_New annfield_New := (annOk_none _ _ _)
abbrev Afield_New := (List UInt8)
abbrev Yfield_New := Unit
def fnfield_New {β : Type} : Afield_New → (Yfield_New → Option β) → Option β := fun a0 exit => (exit ())
def fnDfield_New (a : Afield_New) : Option Yfield_New := fnfield_New a some
theorem fnfield_New_nat (a : Afield_New) (k : Yfield_New → Ans) : fnfield_New a k = bindO (fnDfield_New a) k := by
  obtain z := a
  simp only [fnDfield_New, fnfield_New, bindO_cond, bindO_assoc, bindO_none, bindO_pure, bindO_elim, bindO_unP]
def argsfield_New : Afield_New → List AV × List AE.Obj := fun a0 => ([AV.str a0], [])
def decAfield_New (l : List AV) (H : List AE.Obj) : Option Afield_New := match l, H with
  | [AV.str a0], [] => some (a0)
  | _, _ => none
theorem decAfield_New_ok (l : List AV) (H : List AE.Obj) (a : Afield_New) (h : decAfield_New l H = some a) : (l, H) = argsfield_New a := by
  unfold decAfield_New at h
  split at h
  · cases h; rfl
  · cases h
def outfield_New : Afield_New → (AV → List AE.Obj → Ans) → Yfield_New → Ans := fun a0 K => fun _ => K (AV.ptr 0 0) [AE.Obj.cells [AV.str a0, AV.int IntKind.i64 (0)]]
theorem fnfield_New_ok (a : Afield_New) (K : AV → List AE.Obj → Ans) : fnE Try.tab envfield_New noHint 0 70 68 Try.f68.ntmps Try.f68.results.toList annfield_New bfield_New (argsfield_New a).1 (argsfield_New a).2 K = fnfield_New a (outfield_New a K) := by kernel_rfl
def vFfield_New (a : Afield_New) (K : AV → List AE.Obj → Ans) : Ans := bindO (fnDfield_New a) fun y => outfield_New a K y
def Ffield_New : List AV → List AE.Obj → (AV → List AE.Obj → Ans) → Ans := fun l H K => bindO (decAfield_New l H) fun a => vFfield_New a K
theorem Ffield_New_ok : FuncOk Try.prog 68 Ffield_New := func_mkD (hint := noHint) (d := 0) (n := 70) mixed tabOk envfield_NewOk Try.func68 (bodySome (by kernel_rfl)) (by decide +kernel) annfield_New_ok decAfield_New_ok fnfield_New_ok fnfield_New_nat
--@ field_Reader_fail
noncomputable def envfield_Reader_fail : Env := []
theorem envfield_Reader_failOk : EnvOk Try.prog envfield_Reader_fail := EnvOk.nil
noncomputable def bfield_Reader_fail : Code := Try.f74.body.getD .skip
noncomputable def annfield_Reader_fail : Ann := .none
theorem annfield_Reader_fail_ok : AnnOk Try.prog 13 bfield_Reader_fail annfield_Reader_fail := (annOk_none _ _ _)
abbrev Afield_Reader_fail := (Int) × (List UInt8) × (Int)
abbrev Yfield_Reader_fail := (Int)
def fnfield_Reader_fail {β : Type} : Afield_Reader_fail → (Yfield_Reader_fail → Option β) → Option β := fun (a1, o0_0, o0_1) exit => (bif o0_1 == (0 : Int) then (exit (a1)) else (exit (o0_1)))
def fnDfield_Reader_fail (a : Afield_Reader_fail) : Option Yfield_Reader_fail := fnfield_Reader_fail a some
theorem fnfield_Reader_fail_nat (a : Afield_Reader_fail) (k : Yfield_Reader_fail → Ans) : fnfield_Reader_fail a k = bindO (fnDfield_Reader_fail a) k := by
  obtain ⟨a1, o0_0, o0_1⟩ := a
  simp only [fnDfield_Reader_fail, fnfield_Reader_fail, bindO_cond, bindO_assoc, bindO_none, bindO_pure, bindO_elim, bindO_unP]
def argsfield_Reader_fail : Afield_Reader_fail → List AV × List AE.Obj := fun (a1, o0_0, o0_1) => ([AV.ptr 0 0, AV.int IntKind.i64 a1], [AE.Obj.cells [AV.str o0_0, AV.int IntKind.i64 o0_1]])
def decAfield_Reader_fail (l : List AV) (H : List AE.Obj) : Option Afield_Reader_fail := match l, H with
  | [AV.ptr 0 0, AV.int IntKind.i64 a1], [AE.Obj.cells [AV.str o0_0, AV.int IntKind.i64 o0_1]] => some (a1, o0_0, o0_1)
  | _, _ => none
theorem decAfield_Reader_fail_ok (l : List AV) (H : List AE.Obj) (a : Afield_Reader_fail) (h : decAfield_Reader_fail l H = some a) : (l, H) = argsfield_Reader_fail a := by
  unfold decAfield_Reader_fail at h
  split at h
  · cases h; rfl
  · cases h
def outfield_Reader_fail : Afield_Reader_fail → (AV → List AE.Obj → Ans) → Yfield_Reader_fail → Ans := fun (a1, o0_0, o0_1) K => fun o0_1_y => K (AV.tup []) [AE.Obj.cells [AV.str o0_0, AV.int IntKind.i64 o0_1_y]]
theorem fnfield_Reader_fail_ok (a : Afield_Reader_fail) (K : AV → List AE.Obj → Ans) : fnE Try.tab envfield_Reader_fail noHint 0 70 74 Try.f74.ntmps Try.f74.results.toList annfield_Reader_fail bfield_Reader_fail (argsfield_Reader_fail a).1 (argsfield_Reader_fail a).2 K = fnfield_Reader_fail a (outfield_Reader_fail a K) := by kernel_rfl
def vFfield_Reader_fail (a : Afield_Reader_fail) (K : AV → List AE.Obj → Ans) : Ans := bindO (fnDfield_Reader_fail a) fun y => outfield_Reader_fail a K y
def Ffield_Reader_fail : List AV → List AE.Obj → (AV → List AE.Obj → Ans) → Ans := fun l H K => bindO (decAfield_Reader_fail l H) fun a => vFfield_Reader_fail a K
theorem Ffield_Reader_fail_ok : FuncOk Try.prog 74 Ffield_Reader_fail := func_mkD (hint := noHint) (d := 0) (n := 70) mixed tabOk envfield_Reader_failOk Try.func74 (bodySome (by kernel_rfl)) (by decide +kernel) annfield_Reader_fail_ok decAfield_Reader_fail_ok fnfield_Reader_fail_ok fnfield_Reader_fail_nat
--@ field_Reader_Bytes
noncomputable def envfield_Reader_Bytes : Env := [(74, .func Ffield_Reader_fail)]
theorem envfield_Reader_BytesOk : EnvOk Try.prog envfield_Reader_Bytes := EnvOk.cons Ffield_Reader_fail_ok (EnvOk.nil)
noncomputable def bfield_Reader_Bytes : Code := Try.f69.body.getD .skip
noncomputable def Lfield_Reader_Bytes_n0 : Code := codeAt [1, 1, 0, 1] bfield_Reader_Bytes
noncomputable def annLfield_Reader_Bytes_n0 : Ann := .none
theorem annLfield_Reader_Bytes_n0_ok : AnnOk Try.prog 42 Lfield_Reader_Bytes_n0 annLfield_Reader_Bytes_n0 := (annOk_none _ _ _)
abbrev Ifield_Reader_Bytes_n0 := (Int) × (Bool) × (List UInt8) × (Int)
abbrev Yfield_Reader_Bytes_n0 := (Int)
def Sfield_Reader_Bytes_n0 : Ifield_Reader_Bytes_n0 → St := fun (t1, t9, o0_0, o0_1) => { env := [(0, AV.ptr 0 0), (1, AV.int IntKind.i64 t1), (9, AV.bool t9)], stk := [[(0, AV.ptr 0 0)]], H := [AE.Obj.cells [AV.str o0_0, AV.int IntKind.i64 o0_1]], blk := 282624 }
def decfield_Reader_Bytes_n0 (s : St) : Option Ifield_Reader_Bytes_n0 := match s with
  | { env := [(0, AV.ptr 0 0), (1, AV.int IntKind.i64 t1), (9, AV.bool t9)], stk := [[(0, AV.ptr 0 0)]], H := [AE.Obj.cells [AV.str o0_0, AV.int IntKind.i64 o0_1]], blk := 282624 } => some (t1, t9, o0_0, o0_1)
  | _ => none
theorem decfield_Reader_Bytes_n0_ok (s : St) (x : Ifield_Reader_Bytes_n0) (h : decfield_Reader_Bytes_n0 s = some x) : s = Sfield_Reader_Bytes_n0 x := by
  unfold decfield_Reader_Bytes_n0 at h
  split at h
  · cases h; rfl
  · cases h
def outfield_Reader_Bytes_n0 : Ifield_Reader_Bytes_n0 → (Ex → St → Ans) → Yfield_Reader_Bytes_n0 → Ans := fun (t1, t9, o0_0, o0_1) K => fun o0_1_y => K (Ex.norm) { env := [(0, AV.ptr 0 0), (1, AV.int IntKind.i64 t1)], stk := [[(0, AV.ptr 0 0)]], H := [AE.Obj.cells [AV.str o0_0, AV.int IntKind.i64 o0_1_y]], blk := 282624 }
def nodefield_Reader_Bytes_n0 {β : Type} : Ifield_Reader_Bytes_n0 → (Yfield_Reader_Bytes_n0 → Option β) → Option β := fun (t1, t9, o0_0, o0_1) exit => (bif t9 then (bindO (fnDfield_Reader_fail ((3 : Int), o0_0, o0_1)) fun o0_1_2 => (exit (o0_1_2))) else (bif decide (t1 > (↑(List.length o0_0) : Int)) then (bindO (fnDfield_Reader_fail ((1 : Int), o0_0, o0_1)) fun o0_1_2 => (exit (o0_1_2))) else (exit (o0_1))))
def nodeDfield_Reader_Bytes_n0 (i : Ifield_Reader_Bytes_n0) : Option Yfield_Reader_Bytes_n0 := nodefield_Reader_Bytes_n0 i some
theorem nodefield_Reader_Bytes_n0_nat (i : Ifield_Reader_Bytes_n0) (k : Yfield_Reader_Bytes_n0 → Ans) : nodefield_Reader_Bytes_n0 i k = bindO (nodeDfield_Reader_Bytes_n0 i) k := by
  obtain ⟨t1, t9, o0_0, o0_1⟩ := i
  simp only [nodeDfield_Reader_Bytes_n0, nodefield_Reader_Bytes_n0, bindO_cond, bindO_assoc, bindO_none, bindO_pure, bindO_elim, bindO_unP]
theorem nodefield_Reader_Bytes_n0_ok (i : Ifield_Reader_Bytes_n0) (K : Ex → St → Ans) : codeI Try.tab envfield_Reader_Bytes noHint (codeD Try.tab envfield_Reader_Bytes noHint 0 64) 70 42 annLfield_Reader_Bytes_n0 Lfield_Reader_Bytes_n0 (weakP 1 (exk [0, 1] [4] []) K) (Sfield_Reader_Bytes_n0 i) = nodefield_Reader_Bytes_n0 i (outfield_Reader_Bytes_n0 i K) := by kernel_rfl
theorem GNfield_Reader_Bytes_n0_ok : CSum Try.prog 42 Lfield_Reader_Bytes_n0 (sumN decfield_Reader_Bytes_n0 nodeDfield_Reader_Bytes_n0 outfield_Reader_Bytes_n0) := csum_node mixed tabOk envfield_Reader_BytesOk 1 (exk [0, 1] [4] []) annLfield_Reader_Bytes_n0_ok decfield_Reader_Bytes_n0_ok nodefield_Reader_Bytes_n0_ok nodefield_Reader_Bytes_n0_nat
noncomputable def Gfield_Reader_Bytes_n0 : (Ex → St → Ans) → St → Ans := (sumN decfield_Reader_Bytes_n0 nodeDfield_Reader_Bytes_n0 outfield_Reader_Bytes_n0)
theorem Gfield_Reader_Bytes_n0_ok : CSum Try.prog 42 Lfield_Reader_Bytes_n0 Gfield_Reader_Bytes_n0 := GNfield_Reader_Bytes_n0_ok
noncomputable def annfield_Reader_Bytes : Ann := (.seq .none (.seq .none (.seq (.seq .none (.cut 1 [0, 1, 9] Gfield_Reader_Bytes_n0)) .none)))
theorem annfield_Reader_Bytes_ok : AnnOk Try.prog 42 bfield_Reader_Bytes annfield_Reader_Bytes := ⟨(annOk_none _ _ _), ⟨(annOk_none _ _ _), ⟨⟨(annOk_none _ _ _), Gfield_Reader_Bytes_n0_ok⟩, (annOk_none _ _ _)⟩⟩⟩
abbrev Afield_Reader_Bytes := (Int) × (List UInt8) × (Int)
abbrev Yfield_Reader_Bytes := (List UInt8) × (List UInt8) × (Int)
def fnfield_Reader_Bytes {β : Type} : Afield_Reader_Bytes → (Yfield_Reader_Bytes → Option β) → Option β := fun (a1, o0_0, o0_1) exit => (bindO (nodeDfield_Reader_Bytes_n0 (a1, decide (a1 < (0 : Int)), o0_0, o0_1)) fun o0_1_2 => (bif o0_1_2 != (0 : Int) then (exit ([], o0_0, o0_1_2)) else (bif inR a1 (List.length o0_0 + (1 : Nat)) then (bif inR a1 (List.length o0_0 + (1 : Nat)) then (exit (List.take (Int.toNat a1) o0_0, List.drop (Int.toNat a1) o0_0, o0_1_2)) else none) else none)))
def fnDfield_Reader_Bytes (a : Afield_Reader_Bytes) : Option Yfield_Reader_Bytes := fnfield_Reader_Bytes a some
theorem fnfield_Reader_Bytes_nat (a : Afield_Reader_Bytes) (k : Yfield_Reader_Bytes → Ans) : fnfield_Reader_Bytes a k = bindO (fnDfield_Reader_Bytes a) k := by
  obtain ⟨a1, o0_0, o0_1⟩ := a
  simp only [fnDfield_Reader_Bytes, fnfield_Reader_Bytes, bindO_cond, bindO_assoc, bindO_none, bindO_pure, bindO_elim, bindO_unP]
def argsfield_Reader_Bytes : Afield_Reader_Bytes → List AV × List AE.Obj := fun (a1, o0_0, o0_1) => ([AV.ptr 0 0, AV.int IntKind.i64 a1], [AE.Obj.cells [AV.str o0_0, AV.int IntKind.i64 o0_1]])
def decAfield_Reader_Bytes (l : List AV) (H : List AE.Obj) : Option Afield_Reader_Bytes := match l, H with
  | [AV.ptr 0 0, AV.int IntKind.i64 a1], [AE.Obj.cells [AV.str o0_0, AV.int IntKind.i64 o0_1]] => some (a1, o0_0, o0_1)
  | _, _ => none
theorem decAfield_Reader_Bytes_ok (l : List AV) (H : List AE.Obj) (a : Afield_Reader_Bytes) (h : decAfield_Reader_Bytes l H = some a) : (l, H) = argsfield_Reader_Bytes a := by
  unfold decAfield_Reader_Bytes at h
  split at h
  · cases h; rfl
  · cases h
def outfield_Reader_Bytes : Afield_Reader_Bytes → (AV → List AE.Obj → Ans) → Yfield_Reader_Bytes → Ans := fun (a1, o0_0, o0_1) K => unP fun r_y => unP fun o0_0_y o0_1_y => K (AV.str r_y) [AE.Obj.cells [AV.str o0_0_y, AV.int IntKind.i64 o0_1_y]]
theorem fnfield_Reader_Bytes_ok (a : Afield_Reader_Bytes) (K : AV → List AE.Obj → Ans) : fnE Try.tab envfield_Reader_Bytes noHint 0 70 69 Try.f69.ntmps Try.f69.results.toList annfield_Reader_Bytes bfield_Reader_Bytes (argsfield_Reader_Bytes a).1 (argsfield_Reader_Bytes a).2 K = fnfield_Reader_Bytes a (outfield_Reader_Bytes a K) := by kernel_rfl
def vFfield_Reader_Bytes (a : Afield_Reader_Bytes) (K : AV → List AE.Obj → Ans) : Ans := bindO (fnDfield_Reader_Bytes a) fun y => outfield_Reader_Bytes a K y
def Ffield_Reader_Bytes : List AV → List AE.Obj → (AV → List AE.Obj → Ans) → Ans := fun l H K => bindO (decAfield_Reader_Bytes l H) fun a => vFfield_Reader_Bytes a K
theorem Ffield_Reader_Bytes_ok : FuncOk Try.prog 69 Ffield_Reader_Bytes := func_mkD (hint := noHint) (d := 0) (n := 70) mixed tabOk envfield_Reader_BytesOk Try.func69 (bodySome (by kernel_rfl)) (by decide +kernel) annfield_Reader_Bytes_ok decAfield_Reader_Bytes_ok fnfield_Reader_Bytes_ok fnfield_Reader_Bytes_nat
--@ field_Reader_Num
noncomputable def envfield_Reader_Num : Env := [(52, .pure Ffield_width), (74, .func Ffield_Reader_fail), (69, .func Ffield_Reader_Bytes)]
theorem envfield_Reader_NumOk : EnvOk Try.prog envfield_Reader_Num := EnvOk.cons Ffield_width_ok (EnvOk.cons Ffield_Reader_fail_ok (EnvOk.cons Ffield_Reader_Bytes_ok (EnvOk.nil)))
noncomputable def bfield_Reader_Num : Code := Try.f70.body.getD .skip
noncomputable def Lfield_Reader_Num_n0 : Code := codeAt [1, 1, 1, 1, 0, 1, 0, 0] bfield_Reader_Num
noncomputable def annLfield_Reader_Num_n0 : Ann := .at 1 [5, 18, 19, 20] (.loop .none)
theorem annLfield_Reader_Num_n0_ok : AnnOk Try.prog 31 (.loop Lfield_Reader_Num_n0) annLfield_Reader_Num_n0 := annOk_at (annOk_none _ _ _)
abbrev Ifield_Reader_Num_n0 := (Int) × (List UInt8) × (Int) × (List Int)
abbrev Yfield_Reader_Num_n0 := (Int)
abbrev Vfield_Reader_Num_n0 := (Int) × (Int)
def Sfield_Reader_Num_n0 : Ifield_Reader_Num_n0 → Vfield_Reader_Num_n0 → St := fun (t19, o0_0, o0_1, o1) (t5, t20) => { env := [(5, AV.int IntKind.i64 t5), (18, AV.own 1), (19, AV.int IntKind.i64 t19), (20, AV.int IntKind.i64 t20)], stk := [[(0, AV.ptr 0 0)]], H := [AE.Obj.cells [AV.str o0_0, AV.int IntKind.i64 o0_1], Obj.arr (Ty.int IntKind.u8) o1], blk := 286720 }
def decfield_Reader_Num_n0 (s : St) : Option (Ifield_Reader_Num_n0 × Vfield_Reader_Num_n0) := match s with
  | { env := [(5, AV.int IntKind.i64 t5), (18, AV.own 1), (19, AV.int IntKind.i64 t19), (20, AV.int IntKind.i64 t20)], stk := [[(0, AV.ptr 0 0)]], H := [AE.Obj.cells [AV.str o0_0, AV.int IntKind.i64 o0_1], Obj.arr (Ty.int IntKind.u8) o1], blk := 286720 } => some ((t19, o0_0, o0_1, o1), (t5, t20))
  | _ => none
theorem decfield_Reader_Num_n0_ok (s : St) (x : Ifield_Reader_Num_n0 × Vfield_Reader_Num_n0) (h : decfield_Reader_Num_n0 s = some x) : s = Sfield_Reader_Num_n0 x.1 x.2 := by
  unfold decfield_Reader_Num_n0 at h
  split at h
  · cases h; rfl
  · cases h
def outfield_Reader_Num_n0 : Ifield_Reader_Num_n0 → (Ex → St → Ans) → Yfield_Reader_Num_n0 → Ans := fun (t19, o0_0, o0_1, o1) K => fun t5_y => K (Ex.exit 0) { env := [(5, AV.int IntKind.i64 t5_y)], stk := [[(0, AV.ptr 0 0)]], H := [AE.Obj.cells [AV.str o0_0, AV.int IntKind.i64 o0_1]], blk := 286720 }
def stepfield_Reader_Num_n0 {β : Type} : Ifield_Reader_Num_n0 → Vfield_Reader_Num_n0 → (Vfield_Reader_Num_n0 → Option β) → (Yfield_Reader_Num_n0 → Option β) → Option β := fun (t19, o0_0, o0_1, o1) (t5, t20) next exit => (bif decide (t20 < t19) then (bif inR t20 (List.length o1) then (bindO (o1[Int.toNat t20]?) fun x => (next (IntKind.wrap IntKind.i64 (↑(Int.toNat (IntKind.wrap IntKind.i64 (t5 * (256 : Int)) % (18446744073709551616 : Int)) ||| Int.toNat (IntKind.wrap IntKind.i64 x % (18446744073709551616 : Int))) : Int), IntKind.wrap IntKind.i64 (t20 + (1 : Int))))) else none) else (exit (t5)))
def stepDfield_Reader_Num_n0 (i : Ifield_Reader_Num_n0) (v : Vfield_Reader_Num_n0) : Option (Vfield_Reader_Num_n0 ⊕ Yfield_Reader_Num_n0) := stepfield_Reader_Num_n0 i v (fun v => some (.inl v)) (fun y => some (.inr y))
theorem stepfield_Reader_Num_n0_nat (i : Ifield_Reader_Num_n0) (v : Vfield_Reader_Num_n0) (next : Vfield_Reader_Num_n0 → Ans) (exit : Yfield_Reader_Num_n0 → Ans) : stepfield_Reader_Num_n0 i v next exit = bindO (stepDfield_Reader_Num_n0 i v) (Sum.elim next exit) := by
  obtain ⟨t19, o0_0, o0_1, o1⟩ := i
  obtain ⟨t5, t20⟩ := v
  simp only [stepDfield_Reader_Num_n0, stepfield_Reader_Num_n0, bindO_cond, bindO_assoc, bindO_none, bindO_pure, bindO_elim, bindO_unP, Sum.elim_inl, Sum.elim_inr]
theorem stepfield_Reader_Num_n0_ok (n : Nat) (i : Ifield_Reader_Num_n0) (v : Vfield_Reader_Num_n0) (K : Ex → St → Ans) : codeI Try.tab envfield_Reader_Num noHint (codeD Try.tab envfield_Reader_Num noHint 0 64) (n+1) 31 annLfield_Reader_Num_n0 (.loop Lfield_Reader_Num_n0) (weakP 1 (exk [5] [4] [(0, [5])]) K) (Sfield_Reader_Num_n0 i v) = stepfield_Reader_Num_n0 i v (fun v' => codeI Try.tab envfield_Reader_Num noHint (codeD Try.tab envfield_Reader_Num noHint 0 64) n 31 annLfield_Reader_Num_n0 (.loop Lfield_Reader_Num_n0) (weakP 1 (exk [5] [4] [(0, [5])]) K) (Sfield_Reader_Num_n0 i v')) (fun y => outfield_Reader_Num_n0 i K y) := by kernel_rfl
theorem GNfield_Reader_Num_n0_ok : CSum Try.prog 31 (.loop Lfield_Reader_Num_n0) (sumL decfield_Reader_Num_n0 stepDfield_Reader_Num_n0 outfield_Reader_Num_n0) := csum_loop mixed tabOk envfield_Reader_NumOk 1 (exk [5] [4] [(0, [5])]) annLfield_Reader_Num_n0_ok decfield_Reader_Num_n0_ok stepfield_Reader_Num_n0_ok stepfield_Reader_Num_n0_nat
noncomputable def Gfield_Reader_Num_n0 : (Ex → St → Ans) → St → Ans := (sumL decfield_Reader_Num_n0 stepDfield_Reader_Num_n0 outfield_Reader_Num_n0)
theorem Gfield_Reader_Num_n0_ok : CSum Try.prog 31 (.loop Lfield_Reader_Num_n0) Gfield_Reader_Num_n0 := GNfield_Reader_Num_n0_ok
noncomputable def annfield_Reader_Num : Ann := (.seq .none (.seq .none (.seq .none (.seq .none (.seq (.seq .none (.block (.cut 1 [5, 18, 19, 20] Gfield_Reader_Num_n0))) .none)))))
theorem annfield_Reader_Num_ok : AnnOk Try.prog 31 bfield_Reader_Num annfield_Reader_Num := ⟨(annOk_none _ _ _), ⟨(annOk_none _ _ _), ⟨(annOk_none _ _ _), ⟨(annOk_none _ _ _), ⟨⟨(annOk_none _ _ _), Gfield_Reader_Num_n0_ok⟩, (annOk_none _ _ _)⟩⟩⟩⟩⟩
abbrev Afield_Reader_Num := (Int) × (List UInt8) × (Int)
abbrev Yfield_Reader_Num := (Int) × (List UInt8) × (Int)
def fnfield_Reader_Num {β : Type} : Afield_Reader_Num → (Yfield_Reader_Num → Option β) → Option β := fun (a1, o0_0, o0_1) exit => (bindO (fnDfield_width (a1)) fun r => (bif !r then (bindO (fnDfield_Reader_fail ((3 : Int), o0_0, o0_1)) fun o0_1_2 => (exit ((0 : Int), o0_0, o0_1_2))) else (bindO (fnDfield_Reader_Bytes (a1, o0_0, o0_1)) (unP fun r_2 => unP fun o0_0_2 o0_1_2 => (bif Nat.ble (List.length r_2) (140737488355328 : Nat) then (bindO (loopD (stepDfield_Reader_Num_n0 ((↑(List.length (intsOf r_2)) : Int), o0_0_2, o0_1_2, intsOf r_2)) FUEL ((0 : Int), (0 : Int))) fun t5 => (exit (t5, o0_0_2, o0_1_2))) else none)))))
def fnDfield_Reader_Num (a : Afield_Reader_Num) : Option Yfield_Reader_Num := fnfield_Reader_Num a some
theorem fnfield_Reader_Num_nat (a : Afield_Reader_Num) (k : Yfield_Reader_Num → Ans) : fnfield_Reader_Num a k = bindO (fnDfield_Reader_Num a) k := by
  obtain ⟨a1, o0_0, o0_1⟩ := a
  simp only [fnDfield_Reader_Num, fnfield_Reader_Num, bindO_cond, bindO_assoc, bindO_none, bindO_pure, bindO_elim, bindO_unP]
def argsfield_Reader_Num : Afield_Reader_Num → List AV × List AE.Obj := fun (a1, o0_0, o0_1) => ([AV.ptr 0 0, AV.int IntKind.i64 a1], [AE.Obj.cells [AV.str o0_0, AV.int IntKind.i64 o0_1]])
def decAfield_Reader_Num (l : List AV) (H : List AE.Obj) : Option Afield_Reader_Num := match l, H with
  | [AV.ptr 0 0, AV.int IntKind.i64 a1], [AE.Obj.cells [AV.str o0_0, AV.int IntKind.i64 o0_1]] => some (a1, o0_0, o0_1)
  | _, _ => none
theorem decAfield_Reader_Num_ok (l : List AV) (H : List AE.Obj) (a : Afield_Reader_Num) (h : decAfield_Reader_Num l H = some a) : (l, H) = argsfield_Reader_Num a := by
  unfold decAfield_Reader_Num at h
  split at h
  · cases h; rfl
  · cases h
def outfield_Reader_Num : Afield_Reader_Num → (AV → List AE.Obj → Ans) → Yfield_Reader_Num → Ans := fun (a1, o0_0, o0_1) K => unP fun r_y => unP fun o0_0_y o0_1_y => K (AV.int IntKind.i64 r_y) [AE.Obj.cells [AV.str o0_0_y, AV.int IntKind.i64 o0_1_y]]
theorem fnfield_Reader_Num_ok (a : Afield_Reader_Num) (K : AV → List AE.Obj → Ans) : fnE Try.tab envfield_Reader_Num noHint 0 70 70 Try.f70.ntmps Try.f70.results.toList annfield_Reader_Num bfield_Reader_Num (argsfield_Reader_Num a).1 (argsfield_Reader_Num a).2 K = fnfield_Reader_Num a (outfield_Reader_Num a K) := by kernel_rfl
def vFfield_Reader_Num (a : Afield_Reader_Num) (K : AV → List AE.Obj → Ans) : Ans := bindO (fnDfield_Reader_Num a) fun y => outfield_Reader_Num a K y
def Ffield_Reader_Num : List AV → List AE.Obj → (AV → List AE.Obj → Ans) → Ans := fun l H K => bindO (decAfield_Reader_Num l H) fun a => vFfield_Reader_Num a K
theorem Ffield_Reader_Num_ok : FuncOk Try.prog 70 Ffield_Reader_Num := func_mkD (hint := noHint) (d := 0) (n := 70) mixed tabOk envfield_Reader_NumOk Try.func70 (bodySome (by kernel_rfl)) (by decide +kernel) annfield_Reader_Num_ok decAfield_Reader_Num_ok fnfield_Reader_Num_ok fnfield_Reader_Num_nat
--@ logrec_Size
noncomputable def envlogrec_Size : Env := [(68, .func Ffield_New), (69, .func Ffield_Reader_Bytes), (70, .func Ffield_Reader_Num)]
theorem envlogrec_SizeOk : EnvOk Try.prog envlogrec_Size := EnvOk.cons Ffield_New_ok (EnvOk.cons Ffield_Reader_Bytes_ok (EnvOk.cons Ffield_Reader_Num_ok (EnvOk.nil)))
noncomputable def blogrec_Size : Code := Try.f60.body.getD .skip
noncomputable def Llogrec_Size_n0 : Code := codeAt [1, 1, 1, 1, 0, 0] blogrec_Size
noncomputable def annLlogrec_Size_n0 : Ann := .none
theorem annLlogrec_Size_n0_ok : AnnOk Try.prog 38 Llogrec_Size_n0 annLlogrec_Size_n0 := (annOk_none _ _ _)
abbrev Ilogrec_Size_n0 := (Int) × (List UInt8) × (Int) × (Int)
abbrev Ylogrec_Size_n0 := (Bool)
def Slogrec_Size_n0 : Ilogrec_Size_n0 → St := fun (t1, t7, t8, t9) => { env := [(1, AV.int IntKind.i64 t1), (7, AV.str t7), (8, AV.int IntKind.i64 t8), (9, AV.int IntKind.i64 t9)], stk := [[]], H := [], blk := 245760 }
def declogrec_Size_n0 (s : St) : Option Ilogrec_Size_n0 := match s with
  | { env := [(1, AV.int IntKind.i64 t1), (7, AV.str t7), (8, AV.int IntKind.i64 t8), (9, AV.int IntKind.i64 t9)], stk := [[]], H := [], blk := 245760 } => some (t1, t7, t8, t9)
  | _ => none
theorem declogrec_Size_n0_ok (s : St) (x : Ilogrec_Size_n0) (h : declogrec_Size_n0 s = some x) : s = Slogrec_Size_n0 x := by
  unfold declogrec_Size_n0 at h
  split at h
  · cases h; rfl
  · cases h
def outlogrec_Size_n0 : Ilogrec_Size_n0 → (Ex → St → Ans) → Ylogrec_Size_n0 → Ans := fun (t1, t7, t8, t9) K => fun t35_y => K (Ex.norm) { env := [(9, AV.int IntKind.i64 t9), (35, AV.bool t35_y)], stk := [[]], H := [], blk := 245760 }
def nodelogrec_Size_n0 {β : Type} : Ilogrec_Size_n0 → (Ylogrec_Size_n0 → Option β) → Option β := fun (t1, t7, t8, t9) exit => (bif !t7 == [(82 : UInt8)] then (exit (true)) else (bif t8 != t1 then (exit (true)) else (bif decide (t9 < (1 : Int)) then (exit (true)) else (exit (decide (t9 > (16 : Int)))))))
def nodeDlogrec_Size_n0 (i : Ilogrec_Size_n0) : Option Ylogrec_Size_n0 := nodelogrec_Size_n0 i some
theorem nodelogrec_Size_n0_nat (i : Ilogrec_Size_n0) (k : Ylogrec_Size_n0 → Ans) : nodelogrec_Size_n0 i k = bindO (nodeDlogrec_Size_n0 i) k := by
  obtain ⟨t1, t7, t8, t9⟩ := i
  simp only [nodeDlogrec_Size_n0, nodelogrec_Size_n0, bindO_cond, bindO_assoc, bindO_none, bindO_pure, bindO_elim, bindO_unP]
theorem nodelogrec_Size_n0_ok (i : Ilogrec_Size_n0) (K : Ex → St → Ans) : codeI Try.tab envlogrec_Size noHint (codeD Try.tab envlogrec_Size noHint 0 64) 70 38 annLlogrec_Size_n0 Llogrec_Size_n0 (weakP 0 (exk [9, 35] [4, 5] []) K) (Slogrec_Size_n0 i) = nodelogrec_Size_n0 i (outlogrec_Size_n0 i K) := by kernel_rfl
theorem GNlogrec_Size_n0_ok : CSum Try.prog 38 Llogrec_Size_n0 (sumN declogrec_Size_n0 nodeDlogrec_Size_n0 outlogrec_Size_n0) := csum_node mixed tabOk envlogrec_SizeOk 0 (exk [9, 35] [4, 5] []) annLlogrec_Size_n0_ok declogrec_Size_n0_ok nodelogrec_Size_n0_ok nodelogrec_Size_n0_nat
noncomputable def Glogrec_Size_n0 : (Ex → St → Ans) → St → Ans := (sumN declogrec_Size_n0 nodeDlogrec_Size_n0 outlogrec_Size_n0)
theorem Glogrec_Size_n0_ok : CSum Try.prog 38 Llogrec_Size_n0 Glogrec_Size_n0 := GNlogrec_Size_n0_ok
noncomputable def annlogrec_Size : Ann := (.seq .none (.seq .none (.seq .none (.seq .none (.seq (.seq (.cut 0 [1, 7, 8, 9] Glogrec_Size_n0) .none) .none)))))
theorem annlogrec_Size_ok : AnnOk Try.prog 38 blogrec_Size annlogrec_Size := ⟨(annOk_none _ _ _), ⟨(annOk_none _ _ _), ⟨(annOk_none _ _ _), ⟨(annOk_none _ _ _), ⟨⟨Glogrec_Size_n0_ok, (annOk_none _ _ _)⟩, (annOk_none _ _ _)⟩⟩⟩⟩⟩
abbrev Alogrec_Size := (List UInt8) × (Int)
abbrev Ylogrec_Size := (Int) × (Int)
def fnlogrec_Size {β : Type} : Alogrec_Size → (Ylogrec_Size → Option β) → Option β := fun (a0, a1) exit => (bif (↑(List.length a0) : Int) != (64 : Int) then (exit ((0 : Int), (12 : Int))) else (bindO (fnDfield_New (a0)) fun _ => (bindO (fnDfield_Reader_Bytes ((1 : Int), a0, (0 : Int))) (unP fun r => unP fun o0_0 o0_1 => (bindO (fnDfield_Reader_Num ((6 : Int), o0_0, o0_1)) (unP fun r_2 => unP fun o0_0_2 o0_1_2 => (bindO (fnDfield_Reader_Num ((1 : Int), o0_0_2, o0_1_2)) (unP fun r_3 => unP fun o0_0_3 o0_1_3 => (bindO (nodeDlogrec_Size_n0 (a1, r, r_2, r_3)) fun t35 => (bif t35 then (exit ((0 : Int), (8 : Int))) else (exit (IntKind.wrap IntKind.i64 (r_3 + (1 : Int)), (0 : Int)))))))))))))
def fnDlogrec_Size (a : Alogrec_Size) : Option Ylogrec_Size := fnlogrec_Size a some
theorem fnlogrec_Size_nat (a : Alogrec_Size) (k : Ylogrec_Size → Ans) : fnlogrec_Size a k = bindO (fnDlogrec_Size a) k := by
  obtain ⟨a0, a1⟩ := a
  simp only [fnDlogrec_Size, fnlogrec_Size, bindO_cond, bindO_assoc, bindO_none, bindO_pure, bindO_elim, bindO_unP]
def argslogrec_Size : Alogrec_Size → List AV := fun (a0, a1) => [AV.str a0, AV.int IntKind.i64 a1]
def decAlogrec_Size (l : List AV) : Option Alogrec_Size := match l with
  | [AV.str a0, AV.int IntKind.i64 a1] => some (a0, a1)
  | _ => none
theorem decAlogrec_Size_ok (l : List AV) (a : Alogrec_Size) (h : decAlogrec_Size l = some a) : l = argslogrec_Size a := by
  unfold decAlogrec_Size at h
  split at h
  · cases h; rfl
  · cases h
def rendlogrec_Size : Alogrec_Size → Ylogrec_Size → AV := fun (a0, a1) => unP fun r_0_y r_1_y => AV.tup [AV.int IntKind.i64 r_0_y, AV.int IntKind.i64 r_1_y]
theorem rendlogrec_Size_ok : ∀ (a : Alogrec_Size) (y : Ylogrec_Size), (rendlogrec_Size a y).closed1 = true := by
  rintro ⟨a0, a1⟩ y <;> first | rfl | exact Empty.elim y
theorem fnlogrec_Size_ok (a : Alogrec_Size) : fnE Try.tab envlogrec_Size noHint 0 70 60 Try.f60.ntmps Try.f60.results.toList annlogrec_Size blogrec_Size (argslogrec_Size a) [] (fun v _ => some (v, [])) = fnlogrec_Size a (fun y => some (rendlogrec_Size a y, [])) := by kernel_rfl
def vFlogrec_Size (a : Alogrec_Size) (K : AV → Ans) : Ans := bindO (fnDlogrec_Size a) fun y => K (rendlogrec_Size a y)
def Flogrec_Size : List AV → (AV → Ans) → Ans := fun l K => bindO (decAlogrec_Size l) fun a => vFlogrec_Size a K
theorem Flogrec_Size_ok : PureOk Try.prog 60 Flogrec_Size := pure_mkD (hint := noHint) (d := 0) (n := 70) mixed tabOk envlogrec_SizeOk Try.func60 (bodySome (by kernel_rfl)) (by decide +kernel) annlogrec_Size_ok decAlogrec_Size_ok fnlogrec_Size_ok fnlogrec_Size_nat rendlogrec_Size_ok
--@ logrec_Get
noncomputable def envlogrec_Get : Env := [(26, .pure Flogrec_tail), (9, .pure Flogrec_Put), (68, .func Ffield_New), (69, .func Ffield_Reader_Bytes), (70, .func Ffield_Reader_Num)]
theorem envlogrec_GetOk : EnvOk Try.prog envlogrec_Get := EnvOk.cons Flogrec_tail_ok (EnvOk.cons Flogrec_Put_ok (EnvOk.cons Ffield_New_ok (EnvOk.cons Ffield_Reader_Bytes_ok (EnvOk.cons Ffield_Reader_Num_ok (EnvOk.nil)))))
noncomputable def blogrec_Get : Code := Try.f61.body.getD .skip
noncomputable def Llogrec_Get_n4 : Code := codeAt [1, 1, 1, 1, 1, 1, 1, 1, 1, 1, 1, 0, 1, 0] blogrec_Get
noncomputable def annLlogrec_Get_n4 : Ann := .none
theorem annLlogrec_Get_n4_ok : AnnOk Try.prog 106 Llogrec_Get_n4 annLlogrec_Get_n4 := (annOk_none _ _ _)
abbrev Ilogrec_Get_n4 := (List UInt8) × (Int) × (List UInt8) × (Int) × (List (Int × List UInt8))
abbrev Ylogrec_Get_n4 := (Bool)
def Slogrec_Get_n4 : Ilogrec_Get_n4 → St := fun (t0, t8, t14, t15, o0) => { env := [(0, AV.str t0), (8, AV.int IntKind.i64 t8), (10, AV.own 0), (14, AV.str t14), (15, AV.int IntKind.i64 t15)], stk := [[]], H := [Obj.arr (Ty.st (Ty.pair (Ty.int IntKind.i64) Ty.str)) o0], blk := 249858 }
def declogrec_Get_n4 (s : St) : Option Ilogrec_Get_n4 := match s with
  | { env := [(0, AV.str t0), (8, AV.int IntKind.i64 t8), (10, AV.own 0), (14, AV.str t14), (15, AV.int IntKind.i64 t15)], stk := [[]], H := [Obj.arr (Ty.st (Ty.pair (Ty.int IntKind.i64) Ty.str)) o0], blk := 249858 } => some (t0, t8, t14, t15, o0)
  | _ => none
theorem declogrec_Get_n4_ok (s : St) (x : Ilogrec_Get_n4) (h : declogrec_Get_n4 s = some x) : s = Slogrec_Get_n4 x := by
  unfold declogrec_Get_n4 at h
  split at h
  · cases h; rfl
  · cases h
def outlogrec_Get_n4 : Ilogrec_Get_n4 → (Ex → St → Ans) → Ylogrec_Get_n4 → Ans := fun (t0, t8, t14, t15, o0) K => fun t103_y => K (Ex.norm) { env := [(8, AV.int IntKind.i64 t8), (10, AV.own 0), (103, AV.bool t103_y)], stk := [[]], H := [Obj.arr (Ty.st (Ty.pair (Ty.int IntKind.i64) Ty.str)) o0], blk := 249858 }
def nodelogrec_Get_n4 {β : Type} : Ilogrec_Get_n4 → (Ylogrec_Get_n4 → Option β) → Option β := fun (t0, t8, t14, t15, o0) exit => (bif t15 != (0 : Int) then (exit (true)) else (exit (!t14 == t0)))
def nodeDlogrec_Get_n4 (i : Ilogrec_Get_n4) : Option Ylogrec_Get_n4 := nodelogrec_Get_n4 i some
theorem nodelogrec_Get_n4_nat (i : Ilogrec_Get_n4) (k : Ylogrec_Get_n4 → Ans) : nodelogrec_Get_n4 i k = bindO (nodeDlogrec_Get_n4 i) k := by
  obtain ⟨t0, t8, t14, t15, o0⟩ := i
  simp only [nodeDlogrec_Get_n4, nodelogrec_Get_n4, bindO_cond, bindO_assoc, bindO_none, bindO_pure, bindO_elim, bindO_unP]
theorem nodelogrec_Get_n4_ok (i : Ilogrec_Get_n4) (K : Ex → St → Ans) : codeI Try.tab envlogrec_Get noHint (codeD Try.tab envlogrec_Get noHint 0 64) 70 106 annLlogrec_Get_n4 Llogrec_Get_n4 (weakP 0 (exk [8, 10, 103] [2, 3, 4] []) K) (Slogrec_Get_n4 i) = nodelogrec_Get_n4 i (outlogrec_Get_n4 i K) := by kernel_rfl
theorem GNlogrec_Get_n4_ok : CSum Try.prog 106 Llogrec_Get_n4 (sumN declogrec_Get_n4 nodeDlogrec_Get_n4 outlogrec_Get_n4) := csum_node mixed tabOk envlogrec_GetOk 0 (exk [8, 10, 103] [2, 3, 4] []) annLlogrec_Get_n4_ok declogrec_Get_n4_ok nodelogrec_Get_n4_ok nodelogrec_Get_n4_nat
noncomputable def Glogrec_Get_n4 : (Ex → St → Ans) → St → Ans := (sumN declogrec_Get_n4 nodeDlogrec_Get_n4 outlogrec_Get_n4)
theorem Glogrec_Get_n4_ok : CSum Try.prog 106 Llogrec_Get_n4 Glogrec_Get_n4 := GNlogrec_Get_n4_ok
noncomputable def Llogrec_Get_n3 : Code := codeAt [1, 1, 1, 1, 1, 1, 1, 1, 1, 1, 0, 1, 0, 0] blogrec_Get
noncomputable def annLlogrec_Get_n3 : Ann := .at 0 [0, 8, 10, 11, 77, 78] (.loop .none)
theorem annLlogrec_Get_n3_ok : AnnOk Try.prog 106 (.loop Llogrec_Get_n3) annLlogrec_Get_n3 := annOk_at (annOk_none _ _ _)
abbrev Ilogrec_Get_n3 := (List UInt8) × (Int) × (List UInt8) × (Int)
abbrev Ylogrec_Get_n3 := (List (Int × List UInt8))
abbrev Vlogrec_Get_n3 := (Int) × (List (Int × List UInt8))
def Slogrec_Get_n3 : Ilogrec_Get_n3 → Vlogrec_Get_n3 → St := fun (t0, t8, t11, t77) (t78, o0) => { env := [(0, AV.str t0), (8, AV.int IntKind.i64 t8), (10, AV.own 0), (11, AV.str t11), (77, AV.int IntKind.i64 t77), (78, AV.int IntKind.i64 t78)], stk := [[]], H := [Obj.arr (Ty.st (Ty.pair (Ty.int IntKind.i64) Ty.str)) o0], blk := 249858 }
def declogrec_Get_n3 (s : St) : Option (Ilogrec_Get_n3 × Vlogrec_Get_n3) := match s with
  | { env := [(0, AV.str t0), (8, AV.int IntKind.i64 t8), (10, AV.own 0), (11, AV.str t11), (77, AV.int IntKind.i64 t77), (78, AV.int IntKind.i64 t78)], stk := [[]], H := [Obj.arr (Ty.st (Ty.pair (Ty.int IntKind.i64) Ty.str)) o0], blk := 249858 } => some ((t0, t8, t11, t77), (t78, o0))
  | _ => none
theorem declogrec_Get_n3_ok (s : St) (x : Ilogrec_Get_n3 × Vlogrec_Get_n3) (h : declogrec_Get_n3 s = some x) : s = Slogrec_Get_n3 x.1 x.2 := by
  unfold declogrec_Get_n3 at h
  split at h
  · cases h; rfl
  · cases h
def outlogrec_Get_n3 : Ilogrec_Get_n3 → (Ex → St → Ans) → Ylogrec_Get_n3 → Ans := fun (t0, t8, t11, t77) K => fun o0_y => K (Ex.exit 2) { env := [(0, AV.str t0), (8, AV.int IntKind.i64 t8), (10, AV.own 0)], stk := [[]], H := [Obj.arr (Ty.st (Ty.pair (Ty.int IntKind.i64) Ty.str)) o0_y], blk := 249858 }
def steplogrec_Get_n3 {β : Type} : Ilogrec_Get_n3 → Vlogrec_Get_n3 → (Vlogrec_Get_n3 → Option β) → (Ylogrec_Get_n3 → Option β) → Option β := fun (t0, t8, t11, t77) (t78, o0) next exit => (bif decide (t78 < t77) then (bif inR (IntKind.wrap IntKind.i64 (t78 * (64 : Int))) (List.length t11 + (1 : Nat)) then (bif inR (64 : Int) (List.length (List.drop (Int.toNat (IntKind.wrap IntKind.i64 (t78 * (64 : Int)))) t11) + (1 : Nat)) then (bif inR t78 (List.length o0) then (bindO (o0[Int.toNat t78]?) fun x => (next (IntKind.wrap IntKind.i64 (t78 + (1 : Int)), List.set o0 (Int.toNat t78) (x.fst, List.take (64 : Nat) (List.drop (Int.toNat (IntKind.wrap IntKind.i64 (t78 * (64 : Int)))) t11))))) else none) else none) else none) else (exit (o0)))
def stepDlogrec_Get_n3 (i : Ilogrec_Get_n3) (v : Vlogrec_Get_n3) : Option (Vlogrec_Get_n3 ⊕ Ylogrec_Get_n3) := steplogrec_Get_n3 i v (fun v => some (.inl v)) (fun y => some (.inr y))
theorem steplogrec_Get_n3_nat (i : Ilogrec_Get_n3) (v : Vlogrec_Get_n3) (next : Vlogrec_Get_n3 → Ans) (exit : Ylogrec_Get_n3 → Ans) : steplogrec_Get_n3 i v next exit = bindO (stepDlogrec_Get_n3 i v) (Sum.elim next exit) := by
  obtain ⟨t0, t8, t11, t77⟩ := i
  obtain ⟨t78, o0⟩ := v
  simp only [stepDlogrec_Get_n3, steplogrec_Get_n3, bindO_cond, bindO_assoc, bindO_none, bindO_pure, bindO_elim, bindO_unP, Sum.elim_inl, Sum.elim_inr]
theorem steplogrec_Get_n3_ok (n : Nat) (i : Ilogrec_Get_n3) (v : Vlogrec_Get_n3) (K : Ex → St → Ans) : codeI Try.tab envlogrec_Get noHint (codeD Try.tab envlogrec_Get noHint 0 64) (n+1) 106 annLlogrec_Get_n3 (.loop Llogrec_Get_n3) (weakP 0 (exk [0, 8, 10] [2, 3, 4] [(2, [0, 8, 10])]) K) (Slogrec_Get_n3 i v) = steplogrec_Get_n3 i v (fun v' => codeI Try.tab envlogrec_Get noHint (codeD Try.tab envlogrec_Get noHint 0 64) n 106 annLlogrec_Get_n3 (.loop Llogrec_Get_n3) (weakP 0 (exk [0, 8, 10] [2, 3, 4] [(2, [0, 8, 10])]) K) (Slogrec_Get_n3 i v')) (fun y => outlogrec_Get_n3 i K y) := by kernel_rfl
theorem GNlogrec_Get_n3_ok : CSum Try.prog 106 (.loop Llogrec_Get_n3) (sumL declogrec_Get_n3 stepDlogrec_Get_n3 outlogrec_Get_n3) := csum_loop mixed tabOk envlogrec_GetOk 0 (exk [0, 8, 10] [2, 3, 4] [(2, [0, 8, 10])]) annLlogrec_Get_n3_ok declogrec_Get_n3_ok steplogrec_Get_n3_ok steplogrec_Get_n3_nat
noncomputable def Glogrec_Get_n3 : (Ex → St → Ans) → St → Ans := (sumL declogrec_Get_n3 stepDlogrec_Get_n3 outlogrec_Get_n3)
theorem Glogrec_Get_n3_ok : CSum Try.prog 106 (.loop Llogrec_Get_n3) Glogrec_Get_n3 := GNlogrec_Get_n3_ok
noncomputable def Llogrec_Get_n2 : Code := codeAt [1, 1, 1, 1, 1, 1, 1, 0, 1, 0, 0] blogrec_Get
noncomputable def annLlogrec_Get_n2 : Ann := .at 0 [0, 5, 6, 8, 10, 51, 52] (.loop .none)
theorem annLlogrec_Get_n2_ok : AnnOk Try.prog 106 (.loop Llogrec_Get_n2) annLlogrec_Get_n2 := annOk_at (annOk_none _ _ _)
abbrev Ilogrec_Get_n2 := (List UInt8) × (Int) × (Int) × (Int)
abbrev Ylogrec_Get_n2 := (List UInt8) × (Int) × (List (Int × List UInt8))
abbrev Vlogrec_Get_n2 := (Int) × (List UInt8) × (Int) × (List (Int × List UInt8))
def Slogrec_Get_n2 : Ilogrec_Get_n2 → Vlogrec_Get_n2 → St := fun (t0, t5, t8, t51) (t52, o0_0, o0_1, o1) => { env := [(0, AV.str t0), (5, AV.int IntKind.i64 t5), (6, AV.ptr 0 0), (8, AV.int IntKind.i64 t8), (10, AV.own 1), (51, AV.int IntKind.i64 t51), (52, AV.int IntKind.i64 t52)], stk := [[]], H := [AE.Obj.cells [AV.str o0_0, AV.int IntKind.i64 o0_1], Obj.arr (Ty.st (Ty.pair (Ty.int IntKind.i64) Ty.str)) o1], blk := 249856 }
def declogrec_Get_n2 (s : St) : Option (Ilogrec_Get_n2 × Vlogrec_Get_n2) := match s with
  | { env := [(0, AV.str t0), (5, AV.int IntKind.i64 t5), (6, AV.ptr 0 0), (8, AV.int IntKind.i64 t8), (10, AV.own 1), (51, AV.int IntKind.i64 t51), (52, AV.int IntKind.i64 t52)], stk := [[]], H := [AE.Obj.cells [AV.str o0_0, AV.int IntKind.i64 o0_1], Obj.arr (Ty.st (Ty.pair (Ty.int IntKind.i64) Ty.str)) o1], blk := 249856 } => some ((t0, t5, t8, t51), (t52, o0_0, o0_1, o1))
  | _ => none
theorem declogrec_Get_n2_ok (s : St) (x : Ilogrec_Get_n2 × Vlogrec_Get_n2) (h : declogrec_Get_n2 s = some x) : s = Slogrec_Get_n2 x.1 x.2 := by
  unfold declogrec_Get_n2 at h
  split at h
  · cases h; rfl
  · cases h
def outlogrec_Get_n2 : Ilogrec_Get_n2 → (Ex → St → Ans) → Ylogrec_Get_n2 → Ans := fun (t0, t5, t8, t51) K => unP fun o0_0_y => unP fun o0_1_y o1_y => K (Ex.exit 0) { env := [(0, AV.str t0), (5, AV.int IntKind.i64 t5), (6, AV.ptr 0 0), (8, AV.int IntKind.i64 t8), (10, AV.own 1)], stk := [[]], H := [AE.Obj.cells [AV.str o0_0_y, AV.int IntKind.i64 o0_1_y], Obj.arr (Ty.st (Ty.pair (Ty.int IntKind.i64) Ty.str)) o1_y], blk := 249856 }
def steplogrec_Get_n2 {β : Type} : Ilogrec_Get_n2 → Vlogrec_Get_n2 → (Vlogrec_Get_n2 → Option β) → (Ylogrec_Get_n2 → Option β) → Option β := fun (t0, t5, t8, t51) (t52, o0_0, o0_1, o1) next exit => (bif decide (t52 < t51) then (bindO (fnDfield_Reader_Num ((2 : Int), o0_0, o0_1)) (unP fun r => unP fun o0_0_2 o0_1_2 => (bif Nat.ble ((List.length o1 + List.length [(r, nilL UInt8)]) * (24 : Nat)) (140737488355328 : Nat) then (next (IntKind.wrap IntKind.i64 (t52 + (1 : Int)), o0_0_2, o0_1_2, o1 ++ [(r, [])])) else none))) else (exit (o0_0, o0_1, o1)))
def stepDlogrec_Get_n2 (i : Ilogrec_Get_n2) (v : Vlogrec_Get_n2) : Option (Vlogrec_Get_n2 ⊕ Ylogrec_Get_n2) := steplogrec_Get_n2 i v (fun v => some (.inl v)) (fun y => some (.inr y))
theorem steplogrec_Get_n2_nat (i : Ilogrec_Get_n2) (v : Vlogrec_Get_n2) (next : Vlogrec_Get_n2 → Ans) (exit : Ylogrec_Get_n2 → Ans) : steplogrec_Get_n2 i v next exit = bindO (stepDlogrec_Get_n2 i v) (Sum.elim next exit) := by
  obtain ⟨t0, t5, t8, t51⟩ := i
  obtain ⟨t52, o0_0, o0_1, o1⟩ := v
  simp only [stepDlogrec_Get_n2, steplogrec_Get_n2, bindO_cond, bindO_assoc, bindO_none, bindO_pure, bindO_elim, bindO_unP, Sum.elim_inl, Sum.elim_inr]
theorem steplogrec_Get_n2_ok (n : Nat) (i : Ilogrec_Get_n2) (v : Vlogrec_Get_n2) (K : Ex → St → Ans) : codeI Try.tab envlogrec_Get noHint (codeD Try.tab envlogrec_Get noHint 0 64) (n+1) 106 annLlogrec_Get_n2 (.loop Llogrec_Get_n2) (weakP 0 (exk [0, 5, 6, 8, 10] [2, 3, 4] [(0, [0, 5, 6, 8, 10])]) K) (Slogrec_Get_n2 i v) = steplogrec_Get_n2 i v (fun v' => codeI Try.tab envlogrec_Get noHint (codeD Try.tab envlogrec_Get noHint 0 64) n 106 annLlogrec_Get_n2 (.loop Llogrec_Get_n2) (weakP 0 (exk [0, 5, 6, 8, 10] [2, 3, 4] [(0, [0, 5, 6, 8, 10])]) K) (Slogrec_Get_n2 i v')) (fun y => outlogrec_Get_n2 i K y) := by kernel_rfl
theorem GNlogrec_Get_n2_ok : CSum Try.prog 106 (.loop Llogrec_Get_n2) (sumL declogrec_Get_n2 stepDlogrec_Get_n2 outlogrec_Get_n2) := csum_loop mixed tabOk envlogrec_GetOk 0 (exk [0, 5, 6, 8, 10] [2, 3, 4] [(0, [0, 5, 6, 8, 10])]) annLlogrec_Get_n2_ok declogrec_Get_n2_ok steplogrec_Get_n2_ok steplogrec_Get_n2_nat
noncomputable def Glogrec_Get_n2 : (Ex → St → Ans) → St → Ans := (sumL declogrec_Get_n2 stepDlogrec_Get_n2 outlogrec_Get_n2)
theorem Glogrec_Get_n2_ok : CSum Try.prog 106 (.loop Llogrec_Get_n2) Glogrec_Get_n2 := GNlogrec_Get_n2_ok
noncomputable def Llogrec_Get_n1 : Code := codeAt [1, 1, 1, 1, 1, 0, 0] blogrec_Get
noncomputable def annLlogrec_Get_n1 : Ann := .none
theorem annLlogrec_Get_n1_ok : AnnOk Try.prog 106 Llogrec_Get_n1 annLlogrec_Get_n1 := (annOk_none _ _ _)
abbrev Ilogrec_Get_n1 := (List UInt8) × (Int) × (List UInt8) × (Int) × (Int) × (List UInt8) × (Int)
abbrev Ylogrec_Get_n1 := (Bool)
def Slogrec_Get_n1 : Ilogrec_Get_n1 → St := fun (t0, t5, t7, t8, t9, o0_0, o0_1) => { env := [(0, AV.str t0), (5, AV.int IntKind.i64 t5), (6, AV.ptr 0 0), (7, AV.str t7), (8, AV.int IntKind.i64 t8), (9, AV.int IntKind.i64 t9)], stk := [[]], H := [AE.Obj.cells [AV.str o0_0, AV.int IntKind.i64 o0_1]], blk := 249856 }
def declogrec_Get_n1 (s : St) : Option Ilogrec_Get_n1 := match s with
  | { env := [(0, AV.str t0), (5, AV.int IntKind.i64 t5), (6, AV.ptr 0 0), (7, AV.str t7), (8, AV.int IntKind.i64 t8), (9, AV.int IntKind.i64 t9)], stk := [[]], H := [AE.Obj.cells [AV.str o0_0, AV.int IntKind.i64 o0_1]], blk := 249856 } => some (t0, t5, t7, t8, t9, o0_0, o0_1)
  | _ => none
theorem declogrec_Get_n1_ok (s : St) (x : Ilogrec_Get_n1) (h : declogrec_Get_n1 s = some x) : s = Slogrec_Get_n1 x := by
  unfold declogrec_Get_n1 at h
  split at h
  · cases h; rfl
  · cases h
def outlogrec_Get_n1 : Ilogrec_Get_n1 → (Ex → St → Ans) → Ylogrec_Get_n1 → Ans := fun (t0, t5, t7, t8, t9, o0_0, o0_1) K => fun t50_y => K (Ex.norm) { env := [(0, AV.str t0), (5, AV.int IntKind.i64 t5), (6, AV.ptr 0 0), (8, AV.int IntKind.i64 t8), (50, AV.bool t50_y)], stk := [[]], H := [AE.Obj.cells [AV.str o0_0, AV.int IntKind.i64 o0_1]], blk := 249856 }
def nodelogrec_Get_n1 {β : Type} : Ilogrec_Get_n1 → (Ylogrec_Get_n1 → Option β) → Option β := fun (t0, t5, t7, t8, t9, o0_0, o0_1) exit => (bif !t7 == [(82 : UInt8)] then (exit (true)) else (bif t9 != t5 then (exit (true)) else (bif decide (t5 < (1 : Int)) then (exit (true)) else (exit (decide (t5 > (16 : Int)))))))
def nodeDlogrec_Get_n1 (i : Ilogrec_Get_n1) : Option Ylogrec_Get_n1 := nodelogrec_Get_n1 i some
theorem nodelogrec_Get_n1_nat (i : Ilogrec_Get_n1) (k : Ylogrec_Get_n1 → Ans) : nodelogrec_Get_n1 i k = bindO (nodeDlogrec_Get_n1 i) k := by
  obtain ⟨t0, t5, t7, t8, t9, o0_0, o0_1⟩ := i
  simp only [nodeDlogrec_Get_n1, nodelogrec_Get_n1, bindO_cond, bindO_assoc, bindO_none, bindO_pure, bindO_elim, bindO_unP]
theorem nodelogrec_Get_n1_ok (i : Ilogrec_Get_n1) (K : Ex → St → Ans) : codeI Try.tab envlogrec_Get noHint (codeD Try.tab envlogrec_Get noHint 0 64) 70 106 annLlogrec_Get_n1 Llogrec_Get_n1 (weakP 0 (exk [0, 5, 6, 8, 50] [2, 3, 4] []) K) (Slogrec_Get_n1 i) = nodelogrec_Get_n1 i (outlogrec_Get_n1 i K) := by kernel_rfl
theorem GNlogrec_Get_n1_ok : CSum Try.prog 106 Llogrec_Get_n1 (sumN declogrec_Get_n1 nodeDlogrec_Get_n1 outlogrec_Get_n1) := csum_node mixed tabOk envlogrec_GetOk 0 (exk [0, 5, 6, 8, 50] [2, 3, 4] []) annLlogrec_Get_n1_ok declogrec_Get_n1_ok nodelogrec_Get_n1_ok nodelogrec_Get_n1_nat
noncomputable def Glogrec_Get_n1 : (Ex → St → Ans) → St → Ans := (sumN declogrec_Get_n1 nodeDlogrec_Get_n1 outlogrec_Get_n1)
theorem Glogrec_Get_n1_ok : CSum Try.prog 106 Llogrec_Get_n1 Glogrec_Get_n1 := GNlogrec_Get_n1_ok
noncomputable def Llogrec_Get_n0 : Code := codeAt [1, 1, 0, 0] blogrec_Get
noncomputable def annLlogrec_Get_n0 : Ann := .none
theorem annLlogrec_Get_n0_ok : AnnOk Try.prog 106 Llogrec_Get_n0 annLlogrec_Get_n0 := (annOk_none _ _ _)
abbrev Ilogrec_Get_n0 := (List UInt8) × (Int)
abbrev Ylogrec_Get_n0 := (Bool)
def Slogrec_Get_n0 : Ilogrec_Get_n0 → St := fun (t0, t5) => { env := [(0, AV.str t0), (5, AV.int IntKind.i64 t5)], stk := [[]], H := [], blk := 249856 }
def declogrec_Get_n0 (s : St) : Option Ilogrec_Get_n0 := match s with
  | { env := [(0, AV.str t0), (5, AV.int IntKind.i64 t5)], stk := [[]], H := [], blk := 249856 } => some (t0, t5)
  | _ => none
theorem declogrec_Get_n0_ok (s : St) (x : Ilogrec_Get_n0) (h : declogrec_Get_n0 s = some x) : s = Slogrec_Get_n0 x := by
  unfold declogrec_Get_n0 at h
  split at h
  · cases h; rfl
  · cases h
def outlogrec_Get_n0 : Ilogrec_Get_n0 → (Ex → St → Ans) → Ylogrec_Get_n0 → Ans := fun (t0, t5) K => fun t27_y => K (Ex.norm) { env := [(0, AV.str t0), (5, AV.int IntKind.i64 t5), (27, AV.bool t27_y)], stk := [[]], H := [], blk := 249856 }
def nodelogrec_Get_n0 {β : Type} : Ilogrec_Get_n0 → (Ylogrec_Get_n0 → Option β) → Option β := fun (t0, t5) exit => (bif decide (t5 < (0 : Int)) then (exit (true)) else (exit (Int.tmod (↑(List.length t0) : Int) (64 : Int) != (0 : Int))))
def nodeDlogrec_Get_n0 (i : Ilogrec_Get_n0) : Option Ylogrec_Get_n0 := nodelogrec_Get_n0 i some
theorem nodelogrec_Get_n0_nat (i : Ilogrec_Get_n0) (k : Ylogrec_Get_n0 → Ans) : nodelogrec_Get_n0 i k = bindO (nodeDlogrec_Get_n0 i) k := by
  obtain ⟨t0, t5⟩ := i
  simp only [nodeDlogrec_Get_n0, nodelogrec_Get_n0, bindO_cond, bindO_assoc, bindO_none, bindO_pure, bindO_elim, bindO_unP]
theorem nodelogrec_Get_n0_ok (i : Ilogrec_Get_n0) (K : Ex → St → Ans) : codeI Try.tab envlogrec_Get noHint (codeD Try.tab envlogrec_Get noHint 0 64) 70 106 annLlogrec_Get_n0 Llogrec_Get_n0 (weakP 0 (exk [0, 5, 27] [2, 3, 4] []) K) (Slogrec_Get_n0 i) = nodelogrec_Get_n0 i (outlogrec_Get_n0 i K) := by kernel_rfl
theorem GNlogrec_Get_n0_ok : CSum Try.prog 106 Llogrec_Get_n0 (sumN declogrec_Get_n0 nodeDlogrec_Get_n0 outlogrec_Get_n0) := csum_node mixed tabOk envlogrec_GetOk 0 (exk [0, 5, 27] [2, 3, 4] []) annLlogrec_Get_n0_ok declogrec_Get_n0_ok nodelogrec_Get_n0_ok nodelogrec_Get_n0_nat
noncomputable def Glogrec_Get_n0 : (Ex → St → Ans) → St → Ans := (sumN declogrec_Get_n0 nodeDlogrec_Get_n0 outlogrec_Get_n0)
theorem Glogrec_Get_n0_ok : CSum Try.prog 106 Llogrec_Get_n0 Glogrec_Get_n0 := GNlogrec_Get_n0_ok
noncomputable def annlogrec_Get : Ann := (.seq .none (.seq .none (.seq (.seq (.cut 0 [0, 5] Glogrec_Get_n0) .none) (.seq .none (.seq .none (.seq (.seq (.cut 0 [0, 5, 6, 7, 8, 9] Glogrec_Get_n1) .none) (.seq .none (.seq (.seq .none (.block (.cut 0 [0, 5, 6, 8, 10, 51, 52] Glogrec_Get_n2))) (.seq .none (.seq .none (.seq (.seq .none (.block (.cut 0 [0, 8, 10, 11, 77, 78] Glogrec_Get_n3))) (.seq (.seq .none (.seq (.cut 0 [0, 8, 10, 14, 15] Glogrec_Get_n4) .none)) .none))))))))))))
theorem annlogrec_Get_ok : AnnOk Try.prog 106 blogrec_Get annlogrec_Get := ⟨(annOk_none _ _ _), ⟨(annOk_none _ _ _), ⟨⟨Glogrec_Get_n0_ok, (annOk_none _ _ _)⟩, ⟨(annOk_none _ _ _), ⟨(annOk_none _ _ _), ⟨⟨Glogrec_Get_n1_ok, (annOk_none _ _ _)⟩, ⟨(annOk_none _ _ _), ⟨⟨(annOk_none _ _ _), Glogrec_Get_n2_ok⟩, ⟨(annOk_none _ _ _), ⟨(annOk_none _ _ _), ⟨⟨(annOk_none _ _ _), Glogrec_Get_n3_ok⟩, ⟨⟨(annOk_none _ _ _), ⟨Glogrec_Get_n4_ok, (annOk_none _ _ _)⟩⟩, (annOk_none _ _ _)⟩⟩⟩⟩⟩⟩⟩⟩⟩⟩⟩⟩
abbrev Alogrec_Get := (List UInt8)
abbrev Ylogrec_Get := (Int) × (Int) × (List (Int × List UInt8))
def fnlogrec_Get {β : Type} : Alogrec_Get → (Ylogrec_Get → Option β) → Option β := fun a0 exit => (bindO (nodeDlogrec_Get_n0 (a0, IntKind.wrap IntKind.i64 (IntKind.wrap IntKind.i64 (Int.tdiv (↑(List.length a0) : Int) (64 : Int)) - (1 : Int)))) fun t27 => (bif t27 then (exit ((0 : Int), (12 : Int), [])) else (bindO (fnDfield_New (a0)) fun _ => (bindO (fnDfield_Reader_Bytes ((1 : Int), a0, (0 : Int))) (unP fun r => unP fun o0_0 o0_1 => (bindO (fnDfield_Reader_Num ((6 : Int), o0_0, o0_1)) (unP fun r_2 => unP fun o0_0_2 o0_1_2 => (bindO (fnDfield_Reader_Num ((1 : Int), o0_0_2, o0_1_2)) (unP fun r_3 => unP fun o0_0_3 o0_1_3 => (bindO (nodeDlogrec_Get_n1 (a0, IntKind.wrap IntKind.i64 (IntKind.wrap IntKind.i64 (Int.tdiv (↑(List.length a0) : Int) (64 : Int)) - (1 : Int)), r, r_2, r_3, o0_0_3, o0_1_3)) fun t50 => (bif t50 then (exit ((0 : Int), (4 : Int), [])) else (bindO (loopD (stepDlogrec_Get_n2 (a0, IntKind.wrap IntKind.i64 (IntKind.wrap IntKind.i64 (Int.tdiv (↑(List.length a0) : Int) (64 : Int)) - (1 : Int)), r_2, IntKind.wrap IntKind.i64 (IntKind.wrap IntKind.i64 (Int.tdiv (↑(List.length a0) : Int) (64 : Int)) - (1 : Int)))) FUEL ((0 : Int), o0_0_3, o0_1_3, [])) (unP fun o0_0_4 => unP fun o0_1_4 o1 => (bif inR (64 : Int) (List.length a0 + (1 : Nat)) then (bif inR (IntKind.wrap IntKind.i64 ((8 : Int) + IntKind.wrap IntKind.i64 ((2 : Int) * IntKind.wrap IntKind.i64 (IntKind.wrap IntKind.i64 (Int.tdiv (↑(List.length a0) : Int) (64 : Int)) - (1 : Int))))) (List.length a0 + (1 : Nat)) then (bindO (fnDlogrec_tail (List.take (Int.toNat (IntKind.wrap IntKind.i64 ((8 : Int) + IntKind.wrap IntKind.i64 ((2 : Int) * IntKind.wrap IntKind.i64 (IntKind.wrap IntKind.i64 (Int.tdiv (↑(List.length a0) : Int) (64 : Int)) - (1 : Int)))))) a0, List.drop (64 : Nat) a0)) fun r_4 => (bindO (fnDfield_Reader_Bytes ((↑(List.length r_4) : Int), o0_0_4, o0_1_4)) (unP fun r_5 => unP fun o0_0_5 o0_1_5 => (bif !r_5 == r_4 then (exit ((0 : Int), (5 : Int), [])) else (bindO (loopD (stepDlogrec_Get_n3 (a0, r_2, List.drop (64 : Nat) a0, (↑(List.length o1) : Int))) FUEL ((0 : Int), o1)) fun o0 => (bindO (fnDlogrec_Put (r_2, o0)) (unP fun r_0 r_1 => (bindO (nodeDlogrec_Get_n4 (a0, r_2, r_0, r_1, o0)) fun t103 => (bif t103 then (exit ((0 : Int), (4 : Int), [])) else (exit (r_2, (0 : Int), o0))))))))))) else none) else none))))))))))))))
def fnDlogrec_Get (a : Alogrec_Get) : Option Ylogrec_Get := fnlogrec_Get a some
theorem fnlogrec_Get_nat (a : Alogrec_Get) (k : Ylogrec_Get → Ans) : fnlogrec_Get a k = bindO (fnDlogrec_Get a) k := by
  obtain z := a
  simp only [fnDlogrec_Get, fnlogrec_Get, bindO_cond, bindO_assoc, bindO_none, bindO_pure, bindO_elim, bindO_unP]
def argslogrec_Get : Alogrec_Get → List AV × List AE.Obj := fun a0 => ([AV.str a0], [])
def decAlogrec_Get (l : List AV) (H : List AE.Obj) : Option Alogrec_Get := match l, H with
  | [AV.str a0], [] => some (a0)
  | _, _ => none
theorem decAlogrec_Get_ok (l : List AV) (H : List AE.Obj) (a : Alogrec_Get) (h : decAlogrec_Get l H = some a) : (l, H) = argslogrec_Get a := by
  unfold decAlogrec_Get at h
  split at h
  · cases h; rfl
  · cases h
def outlogrec_Get : Alogrec_Get → (AV → List AE.Obj → Ans) → Ylogrec_Get → Ans := fun a0 K => unP fun r_0_y => unP fun r_2_y o0_y => K (AV.tup [AV.int IntKind.i64 r_0_y, AV.own 0, AV.int IntKind.i64 r_2_y]) [Obj.arr (Ty.st (Ty.pair (Ty.int IntKind.i64) Ty.str)) o0_y]
theorem fnlogrec_Get_ok (a : Alogrec_Get) (K : AV → List AE.Obj → Ans) : fnE Try.tab envlogrec_Get noHint 0 70 61 Try.f61.ntmps Try.f61.results.toList annlogrec_Get blogrec_Get (argslogrec_Get a).1 (argslogrec_Get a).2 K = fnlogrec_Get a (outlogrec_Get a K) := by kernel_rfl
def vFlogrec_Get (a : Alogrec_Get) (K : AV → List AE.Obj → Ans) : Ans := bindO (fnDlogrec_Get a) fun y => outlogrec_Get a K y
def Flogrec_Get : List AV → List AE.Obj → (AV → List AE.Obj → Ans) → Ans := fun l H K => bindO (decAlogrec_Get l H) fun a => vFlogrec_Get a K
theorem Flogrec_Get_ok : FuncOk Try.prog 61 Flogrec_Get := func_mkD (hint := noHint) (d := 0) (n := 70) mixed tabOk envlogrec_GetOk Try.func61 (bodySome (by kernel_rfl)) (by decide +kernel) annlogrec_Get_ok decAlogrec_Get_ok fnlogrec_Get_ok fnlogrec_Get_nat
--@ logscan_End_1
noncomputable def envlogscan_End_1 : Env := []
theorem envlogscan_End_1Ok : EnvOk Try.prog envlogscan_End_1 := EnvOk.nil
noncomputable def blogscan_End_1 : Code := Try.f34.body.getD .skip
noncomputable def annlogscan_End_1 : Ann := .none
theorem annlogscan_End_1_ok : AnnOk Try.prog 3 blogscan_End_1 annlogscan_End_1 := (annOk_none _ _ _)
abbrev Alogscan_End_1 := (Int) × (Int) × (List (Int × List UInt8))
abbrev Ylogscan_End_1 := Unit
def fnlogscan_End_1 {β : Type} : Alogscan_End_1 → (Ylogscan_End_1 → Option β) → Option β := fun (a0_0, a0_1, a0_2) exit => (exit ())
def fnDlogscan_End_1 (a : Alogscan_End_1) : Option Ylogscan_End_1 := fnlogscan_End_1 a some
theorem fnlogscan_End_1_nat (a : Alogscan_End_1) (k : Ylogscan_End_1 → Ans) : fnlogscan_End_1 a k = bindO (fnDlogscan_End_1 a) k := by
  obtain ⟨a0_0, a0_1, a0_2⟩ := a
  simp only [fnDlogscan_End_1, fnlogscan_End_1, bindO_cond, bindO_assoc, bindO_none, bindO_pure, bindO_elim, bindO_unP]
def argslogscan_End_1 : Alogscan_End_1 → List AV := fun (a0_0, a0_1, a0_2) => [AV.agg [AV.int IntKind.i64 a0_0, AV.int IntKind.i64 a0_1, AV.ro (Ty.st (Ty.pair (Ty.int IntKind.i64) Ty.str)) a0_2]]
def decAlogscan_End_1 (l : List AV) : Option Alogscan_End_1 := match l with
  | [AV.agg [AV.int IntKind.i64 a0_0, AV.int IntKind.i64 a0_1, AV.ro (Ty.st (Ty.pair (Ty.int IntKind.i64) Ty.str)) a0_2]] => some (a0_0, a0_1, a0_2)
  | _ => none
theorem decAlogscan_End_1_ok (l : List AV) (a : Alogscan_End_1) (h : decAlogscan_End_1 l = some a) : l = argslogscan_End_1 a := by
  unfold decAlogscan_End_1 at h
  split at h
  · cases h; rfl
  · cases h
def rendlogscan_End_1 : Alogscan_End_1 → Ylogscan_End_1 → AV := fun (a0_0, a0_1, a0_2) => fun _ => AV.bool (true)
theorem rendlogscan_End_1_ok : ∀ (a : Alogscan_End_1) (y : Ylogscan_End_1), (rendlogscan_End_1 a y).closed1 = true := by
  rintro ⟨a0_0, a0_1, a0_2⟩ y <;> first | rfl | exact Empty.elim y
theorem fnlogscan_End_1_ok (a : Alogscan_End_1) : fnE Try.tab envlogscan_End_1 noHint 0 70 34 Try.f34.ntmps Try.f34.results.toList annlogscan_End_1 blogscan_End_1 (argslogscan_End_1 a) [] (fun v _ => some (v, [])) = fnlogscan_End_1 a (fun y => some (rendlogscan_End_1 a y, [])) := by kernel_rfl
def vFlogscan_End_1 (a : Alogscan_End_1) (K : AV → Ans) : Ans := bindO (fnDlogscan_End_1 a) fun y => K (rendlogscan_End_1 a y)
def Flogscan_End_1 : List AV → (AV → Ans) → Ans := fun l K => bindO (decAlogscan_End_1 l) fun a => vFlogscan_End_1 a K
theorem Flogscan_End_1_ok : PureOk Try.prog 34 Flogscan_End_1 := pure_mkD (hint := noHint) (d := 0) (n := 70) mixed tabOk envlogscan_End_1Ok Try.func34 (bodySome (by kernel_rfl)) (by decide +kernel) annlogscan_End_1_ok decAlogscan_End_1_ok fnlogscan_End_1_ok fnlogscan_End_1_nat rendlogscan_End_1_ok
--@ logscan_scan_next
noncomputable def envlogscan_scan_next : Env := [(18, .func Fregion_Region_Many), (21, .func Flogscan_wrap), (59, .func Flogscan_scan_read), (60, .pure Flogrec_Size), (61, .func Flogrec_Get), (34, .pure Flogscan_End_1)]
theorem envlogscan_scan_nextOk : EnvOk Try.prog envlogscan_scan_next := EnvOk.cons Fregion_Region_Many_ok (EnvOk.cons Flogscan_wrap_ok (EnvOk.cons Flogscan_scan_read_ok (EnvOk.cons Flogrec_Size_ok (EnvOk.cons Flogrec_Get_ok (EnvOk.cons Flogscan_End_1_ok (EnvOk.nil))))))
noncomputable def blogscan_scan_next : Code := Try.f48.body.getD .skip
noncomputable def Llogscan_scan_next_n1 : Code := codeAt [1, 1, 1, 1, 1, 1, 1, 1, 1, 1, 1, 0] blogscan_scan_next
noncomputable def annLlogscan_scan_next_n1 : Ann := .none
theorem annLlogscan_scan_next_n1_ok : AnnOk Try.prog 141 Llogscan_scan_next_n1 annLlogscan_scan_next_n1 := (annOk_none _ _ _)
abbrev Ilogscan_scan_next_n1 := (Int) × (Int) × (Int) × (Bool) × (Int) × (Int) × (Int) × (Int) × (Bool) × (List (List UInt8)) × (List (Int × List UInt8)) × (List (Int × List UInt8)) × (List Int) × (Int) × (Int) × (List (Int × List UInt8))
abbrev Ylogscan_scan_next_n1 := (Bool)
def Slogscan_scan_next_n1 : Ilogscan_scan_next_n1 → St := fun (o0_1, o0_2, o0_3, o0_5, o1_1, o1_2, o2_3, o2_5, o2_6, o3, o4, o5, o6, o7_0, o7_1, o8) => { env := [(0, AV.ptr 0 0), (9, AV.ptr 7 0)], stk := [[(0, AV.ptr 0 0), (1, AV.ptr 1 0), (2, AV.ptr 2 0)]], H := [AE.Obj.cells [AV.ptr 1 0, AV.int IntKind.i64 o0_1, AV.int IntKind.i64 o0_2, AV.int IntKind.i64 o0_3, AV.fn (Fn.func 34) [] [], AV.bool o0_5], AE.Obj.cells [AV.ptr 2 0, AV.int IntKind.i64 o1_1, AV.int IntKind.i64 o1_2], AE.Obj.cells [AV.own 3, AV.map 4, AV.own 5, AV.int IntKind.i64 o2_3, AV.own 6, AV.int IntKind.i64 o2_5, AV.bool o2_6], Obj.arr Ty.str o3, Obj.mp IntKind.i64 Ty.str o4, Obj.arr (Ty.st (Ty.pair (Ty.int IntKind.i64) Ty.str)) o5, Obj.arr (Ty.int IntKind.i64) o6, AE.Obj.cells [AV.int IntKind.i64 o7_0, AV.int IntKind.i64 o7_1, AV.own 8], Obj.arr (Ty.st (Ty.pair (Ty.int IntKind.i64) Ty.str)) o8], blk := 196608 }
def declogscan_scan_next_n1 (s : St) : Option Ilogscan_scan_next_n1 := match s with
  | { env := [(0, AV.ptr 0 0), (9, AV.ptr 7 0)], stk := [[(0, AV.ptr 0 0), (1, AV.ptr 1 0), (2, AV.ptr 2 0)]], H := [AE.Obj.cells [AV.ptr 1 0, AV.int IntKind.i64 o0_1, AV.int IntKind.i64 o0_2, AV.int IntKind.i64 o0_3, AV.fn (Fn.func 34) [] [], AV.bool o0_5], AE.Obj.cells [AV.ptr 2 0, AV.int IntKind.i64 o1_1, AV.int IntKind.i64 o1_2], AE.Obj.cells [AV.own 3, AV.map 4, AV.own 5, AV.int IntKind.i64 o2_3, AV.own 6, AV.int IntKind.i64 o2_5, AV.bool o2_6], Obj.arr Ty.str o3, Obj.mp IntKind.i64 Ty.str o4, Obj.arr (Ty.st (Ty.pair (Ty.int IntKind.i64) Ty.str)) o5, Obj.arr (Ty.int IntKind.i64) o6, AE.Obj.cells [AV.int IntKind.i64 o7_0, AV.int IntKind.i64 o7_1, AV.own 8], Obj.arr (Ty.st (Ty.pair (Ty.int IntKind.i64) Ty.str)) o8], blk := 196608 } => some (o0_1, o0_2, o0_3, o0_5, o1_1, o1_2, o2_3, o2_5, o2_6, o3, o4, o5, o6, o7_0, o7_1, o8)
  | _ => none
theorem declogscan_scan_next_n1_ok (s : St) (x : Ilogscan_scan_next_n1) (h : declogscan_scan_next_n1 s = some x) : s = Slogscan_scan_next_n1 x := by
  unfold declogscan_scan_next_n1 at h
  split at h
  · cases h; rfl
  · cases h
def outlogscan_scan_next_n1 : Ilogscan_scan_next_n1 → (Ex → St → Ans) → Ylogscan_scan_next_n1 → Ans := fun (o0_1, o0_2, o0_3, o0_5, o1_1, o1_2, o2_3, o2_5, o2_6, o3, o4, o5, o6, o7_0, o7_1, o8) K => fun o0_5_y => K (Ex.norm) { env := [], stk := [[(0, AV.ptr 0 0), (1, AV.ptr 1 0), (2, AV.ptr 2 0)]], H := [AE.Obj.cells [AV.ptr 1 0, AV.int IntKind.i64 o0_1, AV.int IntKind.i64 o0_2, AV.int IntKind.i64 o0_3, AV.fn (Fn.func 34) [] [], AV.bool o0_5_y], AE.Obj.cells [AV.ptr 2 0, AV.int IntKind.i64 o1_1, AV.int IntKind.i64 o1_2], AE.Obj.cells [AV.own 3, AV.map 4, AV.own 5, AV.int IntKind.i64 o2_3, AV.own 6, AV.int IntKind.i64 o2_5, AV.bool o2_6], Obj.arr Ty.str o3, Obj.mp IntKind.i64 Ty.str o4, Obj.arr (Ty.st (Ty.pair (Ty.int IntKind.i64) Ty.str)) o5, Obj.arr (Ty.int IntKind.i64) o6], blk := 196608 }
def nodelogscan_scan_next_n1 {β : Type} : Ilogscan_scan_next_n1 → (Ylogscan_scan_next_n1 → Option β) → Option β := fun (o0_1, o0_2, o0_3, o0_5, o1_1, o1_2, o2_3, o2_5, o2_6, o3, o4, o5, o6, o7_0, o7_1, o8) exit => (bindO (fnDlogscan_End_1 (o7_0, o7_1, o8)) fun _ => (bindO (fnDregion_Region_Many (o1_1, o1_2, o2_3, o2_5, o2_6, o3, o4, o5, o6)) fun _ => (exit (o0_3 == o1_2))))
def nodeDlogscan_scan_next_n1 (i : Ilogscan_scan_next_n1) : Option Ylogscan_scan_next_n1 := nodelogscan_scan_next_n1 i some
theorem nodelogscan_scan_next_n1_nat (i : Ilogscan_scan_next_n1) (k : Ylogscan_scan_next_n1 → Ans) : nodelogscan_scan_next_n1 i k = bindO (nodeDlogscan_scan_next_n1 i) k := by
  obtain ⟨o0_1, o0_2, o0_3, o0_5, o1_1, o1_2, o2_3, o2_5, o2_6, o3, o4, o5, o6, o7_0, o7_1, o8⟩ := i
  simp only [nodeDlogscan_scan_next_n1, nodelogscan_scan_next_n1, bindO_cond, bindO_assoc, bindO_none, bindO_pure, bindO_elim, bindO_unP]
theorem nodelogscan_scan_next_n1_ok (i : Ilogscan_scan_next_n1) (K : Ex → St → Ans) : codeI Try.tab envlogscan_scan_next noHint (codeD Try.tab envlogscan_scan_next noHint 0 64) 70 141 annLlogscan_scan_next_n1 Llogscan_scan_next_n1 (weakP 7 (exk [] [2] []) K) (Slogscan_scan_next_n1 i) = nodelogscan_scan_next_n1 i (outlogscan_scan_next_n1 i K) := by kernel_rfl
theorem GNlogscan_scan_next_n1_ok : CSum Try.prog 141 Llogscan_scan_next_n1 (sumN declogscan_scan_next_n1 nodeDlogscan_scan_next_n1 outlogscan_scan_next_n1) := csum_node mixed tabOk envlogscan_scan_nextOk 7 (exk [] [2] []) annLlogscan_scan_next_n1_ok declogscan_scan_next_n1_ok nodelogscan_scan_next_n1_ok nodelogscan_scan_next_n1_nat
noncomputable def Glogscan_scan_next_n1 : (Ex → St → Ans) → St → Ans := (sumN declogscan_scan_next_n1 nodeDlogscan_scan_next_n1 outlogscan_scan_next_n1)
theorem Glogscan_scan_next_n1_ok : CSum Try.prog 141 Llogscan_scan_next_n1 Glogscan_scan_next_n1 := GNlogscan_scan_next_n1_ok
noncomputable def Llogscan_scan_next_n0 : Code := codeAt [1, 1, 1, 1, 0, 0] blogscan_scan_next
noncomputable def annLlogscan_scan_next_n0 : Ann := .none
theorem annLlogscan_scan_next_n0_ok : AnnOk Try.prog 141 Llogscan_scan_next_n0 annLlogscan_scan_next_n0 := (annOk_none _ _ _)
abbrev Ilogscan_scan_next_n0 := (List UInt8) × (Int) × (Int) × (Int) × (Int) × (Int) × (Bool) × (Int) × (Int) × (Int) × (Int) × (Bool) × (List (List UInt8)) × (List (Int × List UInt8)) × (List (Int × List UInt8)) × (List Int)
abbrev Ylogscan_scan_next_n0 := (Bool)
def Slogscan_scan_next_n0 : Ilogscan_scan_next_n0 → St := fun (t3, t4, t5, o0_1, o0_2, o0_3, o0_5, o1_1, o1_2, o2_3, o2_5, o2_6, o3, o4, o5, o6) => { env := [(0, AV.ptr 0 0), (3, AV.str t3), (4, AV.int IntKind.i64 t4), (5, AV.int IntKind.i64 t5)], stk := [[(0, AV.ptr 0 0), (1, AV.ptr 1 0), (2, AV.ptr 2 0)]], H := [AE.Obj.cells [AV.ptr 1 0, AV.int IntKind.i64 o0_1, AV.int IntKind.i64 o0_2, AV.int IntKind.i64 o0_3, AV.fn (Fn.func 34) [] [], AV.bool o0_5], AE.Obj.cells [AV.ptr 2 0, AV.int IntKind.i64 o1_1, AV.int IntKind.i64 o1_2], AE.Obj.cells [AV.own 3, AV.map 4, AV.own 5, AV.int IntKind.i64 o2_3, AV.own 6, AV.int IntKind.i64 o2_5, AV.bool o2_6], Obj.arr Ty.str o3, Obj.mp IntKind.i64 Ty.str o4, Obj.arr (Ty.st (Ty.pair (Ty.int IntKind.i64) Ty.str)) o5, Obj.arr (Ty.int IntKind.i64) o6], blk := 196608 }
def declogscan_scan_next_n0 (s : St) : Option Ilogscan_scan_next_n0 := match s with
  | { env := [(0, AV.ptr 0 0), (3, AV.str t3), (4, AV.int IntKind.i64 t4), (5, AV.int IntKind.i64 t5)], stk := [[(0, AV.ptr 0 0), (1, AV.ptr 1 0), (2, AV.ptr 2 0)]], H := [AE.Obj.cells [AV.ptr 1 0, AV.int IntKind.i64 o0_1, AV.int IntKind.i64 o0_2, AV.int IntKind.i64 o0_3, AV.fn (Fn.func 34) [] [], AV.bool o0_5], AE.Obj.cells [AV.ptr 2 0, AV.int IntKind.i64 o1_1, AV.int IntKind.i64 o1_2], AE.Obj.cells [AV.own 3, AV.map 4, AV.own 5, AV.int IntKind.i64 o2_3, AV.own 6, AV.int IntKind.i64 o2_5, AV.bool o2_6], Obj.arr Ty.str o3, Obj.mp IntKind.i64 Ty.str o4, Obj.arr (Ty.st (Ty.pair (Ty.int IntKind.i64) Ty.str)) o5, Obj.arr (Ty.int IntKind.i64) o6], blk := 196608 } => some (t3, t4, t5, o0_1, o0_2, o0_3, o0_5, o1_1, o1_2, o2_3, o2_5, o2_6, o3, o4, o5, o6)
  | _ => none
theorem declogscan_scan_next_n0_ok (s : St) (x : Ilogscan_scan_next_n0) (h : declogscan_scan_next_n0 s = some x) : s = Slogscan_scan_next_n0 x := by
  unfold declogscan_scan_next_n0 at h
  split at h
  · cases h; rfl
  · cases h
def outlogscan_scan_next_n0 : Ilogscan_scan_next_n0 → (Ex → St → Ans) → Ylogscan_scan_next_n0 → Ans := fun (t3, t4, t5, o0_1, o0_2, o0_3, o0_5, o1_1, o1_2, o2_3, o2_5, o2_6, o3, o4, o5, o6) K => fun t46_y => K (Ex.norm) { env := [(0, AV.ptr 0 0), (3, AV.str t3), (5, AV.int IntKind.i64 t5), (46, AV.bool t46_y)], stk := [[(0, AV.ptr 0 0), (1, AV.ptr 1 0), (2, AV.ptr 2 0)]], H := [AE.Obj.cells [AV.ptr 1 0, AV.int IntKind.i64 o0_1, AV.int IntKind.i64 o0_2, AV.int IntKind.i64 o0_3, AV.fn (Fn.func 34) [] [], AV.bool o0_5], AE.Obj.cells [AV.ptr 2 0, AV.int IntKind.i64 o1_1, AV.int IntKind.i64 o1_2], AE.Obj.cells [AV.own 3, AV.map 4, AV.own 5, AV.int IntKind.i64 o2_3, AV.own 6, AV.int IntKind.i64 o2_5, AV.bool o2_6], Obj.arr Ty.str o3, Obj.mp IntKind.i64 Ty.str o4, Obj.arr (Ty.st (Ty.pair (Ty.int IntKind.i64) Ty.str)) o5, Obj.arr (Ty.int IntKind.i64) o6], blk := 196608 }
def nodelogscan_scan_next_n0 {β : Type} : Ilogscan_scan_next_n0 → (Ylogscan_scan_next_n0 → Option β) → Option β := fun (t3, t4, t5, o0_1, o0_2, o0_3, o0_5, o1_1, o1_2, o2_3, o2_5, o2_6, o3, o4, o5, o6) exit => (bif t4 != (0 : Int) then (exit (true)) else (bindO (fnDregion_Region_Many (o1_1, o1_2, o2_3, o2_5, o2_6, o3, o4, o5, o6)) fun _ => (exit (decide (t5 > IntKind.wrap IntKind.i64 (o1_2 - o0_3))))))
def nodeDlogscan_scan_next_n0 (i : Ilogscan_scan_next_n0) : Option Ylogscan_scan_next_n0 := nodelogscan_scan_next_n0 i some
theorem nodelogscan_scan_next_n0_nat (i : Ilogscan_scan_next_n0) (k : Ylogscan_scan_next_n0 → Ans) : nodelogscan_scan_next_n0 i k = bindO (nodeDlogscan_scan_next_n0 i) k := by
  obtain ⟨t3, t4, t5, o0_1, o0_2, o0_3, o0_5, o1_1, o1_2, o2_3, o2_5, o2_6, o3, o4, o5, o6⟩ := i
  simp only [nodeDlogscan_scan_next_n0, nodelogscan_scan_next_n0, bindO_cond, bindO_assoc, bindO_none, bindO_pure, bindO_elim, bindO_unP]
theorem nodelogscan_scan_next_n0_ok (i : Ilogscan_scan_next_n0) (K : Ex → St → Ans) : codeI Try.tab envlogscan_scan_next noHint (codeD Try.tab envlogscan_scan_next noHint 0 64) 70 141 annLlogscan_scan_next_n0 Llogscan_scan_next_n0 (weakP 7 (exk [0, 3, 5, 46] [2] []) K) (Slogscan_scan_next_n0 i) = nodelogscan_scan_next_n0 i (outlogscan_scan_next_n0 i K) := by kernel_rfl
theorem GNlogscan_scan_next_n0_ok : CSum Try.prog 141 Llogscan_scan_next_n0 (sumN declogscan_scan_next_n0 nodeDlogscan_scan_next_n0 outlogscan_scan_next_n0) := csum_node mixed tabOk envlogscan_scan_nextOk 7 (exk [0, 3, 5, 46] [2] []) annLlogscan_scan_next_n0_ok declogscan_scan_next_n0_ok nodelogscan_scan_next_n0_ok nodelogscan_scan_next_n0_nat
noncomputable def Glogscan_scan_next_n0 : (Ex → St → Ans) → St → Ans := (sumN declogscan_scan_next_n0 nodeDlogscan_scan_next_n0 outlogscan_scan_next_n0)
theorem Glogscan_scan_next_n0_ok : CSum Try.prog 141 Llogscan_scan_next_n0 Glogscan_scan_next_n0 := GNlogscan_scan_next_n0_ok
noncomputable def annlogscan_scan_next : Ann := (.seq .none (.seq .none (.seq .none (.seq .none (.seq (.seq (.cut 7 [0, 3, 4, 5] Glogscan_scan_next_n0) .none) (.seq .none (.seq .none (.seq .none (.seq .none (.seq .none (.seq .none (.seq (.cut 7 [0, 9] Glogscan_scan_next_n1) .none))))))))))))
theorem annlogscan_scan_next_ok : AnnOk Try.prog 141 blogscan_scan_next annlogscan_scan_next := ⟨(annOk_none _ _ _), ⟨(annOk_none _ _ _), ⟨(annOk_none _ _ _), ⟨(annOk_none _ _ _), ⟨⟨Glogscan_scan_next_n0_ok, (annOk_none _ _ _)⟩, ⟨(annOk_none _ _ _), ⟨(annOk_none _ _ _), ⟨(annOk_none _ _ _), ⟨(annOk_none _ _ _), ⟨(annOk_none _ _ _), ⟨(annOk_none _ _ _), ⟨Glogscan_scan_next_n1_ok, (annOk_none _ _ _)⟩⟩⟩⟩⟩⟩⟩⟩⟩⟩⟩⟩
abbrev Alogscan_scan_next := (Int) × (Int) × (Int) × (Bool) × (Int) × (Int) × (Int) × (Int) × (Bool) × (List (List UInt8)) × (List (Int × List UInt8)) × (List (Int × List UInt8)) × (List Int)
abbrev Ylogscan_scan_next := (Int) × (Int) × (Int) × (Int) × (Bool) × (Int) × (Bool)
def fnlogscan_scan_next {β : Type} : Alogscan_scan_next → (Ylogscan_scan_next → Option β) → Option β := fun (o0_1, o0_2, o0_3, o0_5, o1_1, o1_2, o2_3, o2_5, o2_6, o3, o4, o5, o6) exit => (bindO (fnDlogscan_scan_read (o0_1, (1 : Int), o0_1, o0_2, o0_3, o0_5, o1_1, o1_2, o2_3, o2_5, o2_6, o3, o4, o5, o6)) (unP fun r_0 => unP fun r_1 => unP fun o2_3_2 o2_6_2 => (bif r_1 != (0 : Int) then (exit (r_1, o0_1, o0_2, o0_3, o0_5, o2_3_2, o2_6_2)) else (bindO (fnDlogrec_Size (r_0, o0_2)) (unP fun r_0_2 r_1_2 => (bindO (nodeDlogscan_scan_next_n0 (r_0, r_1_2, r_0_2, o0_1, o0_2, o0_3, o0_5, o1_1, o1_2, o2_3_2, o2_5, o2_6_2, o3, o4, o5, o6)) fun t46 => (bif t46 then (exit ((0 : Int), o0_1, o0_2, o0_3, true, o2_3_2, o2_6_2)) else (bindO (fnDlogscan_scan_read (IntKind.wrap IntKind.i64 (o0_1 + (1 : Int)), IntKind.wrap IntKind.i64 (r_0_2 - (1 : Int)), o0_1, o0_2, o0_3, o0_5, o1_1, o1_2, o2_3_2, o2_5, o2_6_2, o3, o4, o5, o6)) (unP fun r_0_3 => unP fun r_1_3 => unP fun o2_3_3 o2_6_3 => (bif r_1_3 != (0 : Int) then (exit (r_1_3, o0_1, o0_2, o0_3, o0_5, o2_3_3, o2_6_3)) else (bif Nat.ble (List.length r_0 + List.length r_0_3) (9223372036854775807 : Nat) then (bindO (fnDlogrec_Get (r_0 ++ r_0_3)) (unP fun r_0_4 => unP fun r_2 o0 => (bif r_2 != (0 : Int) then (exit ((0 : Int), o0_1, o0_2, o0_3, true, o2_3_3, o2_6_3)) else (bindO (fnDlogscan_wrap (IntKind.wrap IntKind.i64 (o0_1 + r_0_2), o1_1, o1_2, o2_3_3, o2_5, o2_6_3, o3, o4, o5, o6)) fun r => (bindO (nodeDlogscan_scan_next_n1 (r, IntKind.wrap IntKind.i64 (o0_2 + (1 : Int)), IntKind.wrap IntKind.i64 (o0_3 + r_0_2), o0_5, o1_1, o1_2, o2_3_3, o2_5, o2_6_3, o3, o4, o5, o6, o0_2, o0_1, o0)) fun o0_5_2 => (exit ((0 : Int), r, IntKind.wrap IntKind.i64 (o0_2 + (1 : Int)), IntKind.wrap IntKind.i64 (o0_3 + r_0_2), o0_5_2, o2_3_3, o2_6_3))))))) else none)))))))))))
def fnDlogscan_scan_next (a : Alogscan_scan_next) : Option Ylogscan_scan_next := fnlogscan_scan_next a some
theorem fnlogscan_scan_next_nat (a : Alogscan_scan_next) (k : Ylogscan_scan_next → Ans) : fnlogscan_scan_next a k = bindO (fnDlogscan_scan_next a) k := by
  obtain ⟨o0_1, o0_2, o0_3, o0_5, o1_1, o1_2, o2_3, o2_5, o2_6, o3, o4, o5, o6⟩ := a
  simp only [fnDlogscan_scan_next, fnlogscan_scan_next, bindO_cond, bindO_assoc, bindO_none, bindO_pure, bindO_elim, bindO_unP]
def argslogscan_scan_next : Alogscan_scan_next → List AV × List AE.Obj := fun (o0_1, o0_2, o0_3, o0_5, o1_1, o1_2, o2_3, o2_5, o2_6, o3, o4, o5, o6) => ([AV.ptr 0 0], [AE.Obj.cells [AV.ptr 1 0, AV.int IntKind.i64 o0_1, AV.int IntKind.i64 o0_2, AV.int IntKind.i64 o0_3, AV.fn (Fn.func 34) [] [], AV.bool o0_5], AE.Obj.cells [AV.ptr 2 0, AV.int IntKind.i64 o1_1, AV.int IntKind.i64 o1_2], AE.Obj.cells [AV.own 3, AV.map 4, AV.own 5, AV.int IntKind.i64 o2_3, AV.own 6, AV.int IntKind.i64 o2_5, AV.bool o2_6], Obj.arr Ty.str o3, Obj.mp IntKind.i64 Ty.str o4, Obj.arr (Ty.st (Ty.pair (Ty.int IntKind.i64) Ty.str)) o5, Obj.arr (Ty.int IntKind.i64) o6])
def decAlogscan_scan_next (l : List AV) (H : List AE.Obj) : Option Alogscan_scan_next := match l, H with
  | [AV.ptr 0 0], [AE.Obj.cells [AV.ptr 1 0, AV.int IntKind.i64 o0_1, AV.int IntKind.i64 o0_2, AV.int IntKind.i64 o0_3, AV.fn (Fn.func 34) [] [], AV.bool o0_5], AE.Obj.cells [AV.ptr 2 0, AV.int IntKind.i64 o1_1, AV.int IntKind.i64 o1_2], AE.Obj.cells [AV.own 3, AV.map 4, AV.own 5, AV.int IntKind.i64 o2_3, AV.own 6, AV.int IntKind.i64 o2_5, AV.bool o2_6], Obj.arr Ty.str o3, Obj.mp IntKind.i64 Ty.str o4, Obj.arr (Ty.st (Ty.pair (Ty.int IntKind.i64) Ty.str)) o5, Obj.arr (Ty.int IntKind.i64) o6] => some (o0_1, o0_2, o0_3, o0_5, o1_1, o1_2, o2_3, o2_5, o2_6, o3, o4, o5, o6)
  | _, _ => none
theorem decAlogscan_scan_next_ok (l : List AV) (H : List AE.Obj) (a : Alogscan_scan_next) (h : decAlogscan_scan_next l H = some a) : (l, H) = argslogscan_scan_next a := by
  unfold decAlogscan_scan_next at h
  split at h
  · cases h; rfl
  · cases h
def outlogscan_scan_next : Alogscan_scan_next → (AV → List AE.Obj → Ans) → Ylogscan_scan_next → Ans := fun (o0_1, o0_2, o0_3, o0_5, o1_1, o1_2, o2_3, o2_5, o2_6, o3, o4, o5, o6) K => unP fun r_y => unP fun o0_1_y => unP fun o0_2_y => unP fun o0_3_y => unP fun o0_5_y => unP fun o2_3_y o2_6_y => K (AV.int IntKind.i64 r_y) [AE.Obj.cells [AV.ptr 1 0, AV.int IntKind.i64 o0_1_y, AV.int IntKind.i64 o0_2_y, AV.int IntKind.i64 o0_3_y, AV.fn (Fn.func 34) [] [], AV.bool o0_5_y], AE.Obj.cells [AV.ptr 2 0, AV.int IntKind.i64 o1_1, AV.int IntKind.i64 o1_2], AE.Obj.cells [AV.own 3, AV.map 4, AV.own 5, AV.int IntKind.i64 o2_3_y, AV.own 6, AV.int IntKind.i64 o2_5, AV.bool o2_6_y], Obj.arr Ty.str o3, Obj.mp IntKind.i64 Ty.str o4, Obj.arr (Ty.st (Ty.pair (Ty.int IntKind.i64) Ty.str)) o5, Obj.arr (Ty.int IntKind.i64) o6]
theorem fnlogscan_scan_next_ok (a : Alogscan_scan_next) (K : AV → List AE.Obj → Ans) : fnE Try.tab envlogscan_scan_next noHint 0 70 48 Try.f48.ntmps Try.f48.results.toList annlogscan_scan_next blogscan_scan_next (argslogscan_scan_next a).1 (argslogscan_scan_next a).2 K = fnlogscan_scan_next a (outlogscan_scan_next a K) := by kernel_rfl
def vFlogscan_scan_next (a : Alogscan_scan_next) (K : AV → List AE.Obj → Ans) : Ans := bindO (fnDlogscan_scan_next a) fun y => outlogscan_scan_next a K y
def Flogscan_scan_next : List AV → List AE.Obj → (AV → List AE.Obj → Ans) → Ans := fun l H K => bindO (decAlogscan_scan_next l H) fun a => vFlogscan_scan_next a K
theorem Flogscan_scan_next_ok : FuncOk Try.prog 48 Flogscan_scan_next := func_mkD (hint := noHint) (d := 0) (n := 70) mixed tabOk envlogscan_scan_nextOk Try.func48 (bodySome (by kernel_rfl)) (by decide +kernel) annlogscan_scan_next_ok decAlogscan_scan_next_ok fnlogscan_scan_next_ok fnlogscan_scan_next_nat
--@ logscan_scan_run
noncomputable def envlogscan_scan_run : Env := [(17, .func Flogscan_there), (48, .func Flogscan_scan_next)]
theorem envlogscan_scan_runOk : EnvOk Try.prog envlogscan_scan_run := EnvOk.cons Flogscan_there_ok (EnvOk.cons Flogscan_scan_next_ok (EnvOk.nil))
noncomputable def blogscan_scan_run : Code := Try.f35.body.getD .skip
noncomputable def Llogscan_scan_run_n0 : Code := codeAt [1, 1, 0, 0, 0] blogscan_scan_run
noncomputable def annLlogscan_scan_run_n0 : Ann := .at 7 [0] (.loop .none)
theorem annLlogscan_scan_run_n0_ok : AnnOk Try.prog 27 (.loop Llogscan_scan_run_n0) annLlogscan_scan_run_n0 := annOk_at (annOk_none _ _ _)
abbrev Ilogscan_scan_run_n0 := (Int) × (Int) × (Int) × (List (List UInt8)) × (List (Int × List UInt8)) × (List (Int × List UInt8)) × (List Int)
abbrev Ylogscan_scan_run_n0 := ((Int) × (Int) × (Int) × (Int) × (Bool) × (Int) × (Bool)) ⊕ ((Int) × (Int) × (Int) × (Bool) × (Int) × (Bool))
abbrev Vlogscan_scan_run_n0 := (Int) × (Int) × (Int) × (Bool) × (Int) × (Bool)
def Slogscan_scan_run_n0 : Ilogscan_scan_run_n0 → Vlogscan_scan_run_n0 → St := fun (o1_1, o1_2, o2_5, o3, o4, o5, o6) (o0_1, o0_2, o0_3, o0_5, o2_3, o2_6) => { env := [(0, AV.ptr 0 0)], stk := [[(0, AV.ptr 0 0), (1, AV.ptr 1 0), (2, AV.ptr 2 0)]], H := [AE.Obj.cells [AV.ptr 1 0, AV.int IntKind.i64 o0_1, AV.int IntKind.i64 o0_2, AV.int IntKind.i64 o0_3, AV.fn (Fn.func 34) [] [], AV.bool o0_5], AE.Obj.cells [AV.ptr 2 0, AV.int IntKind.i64 o1_1, AV.int IntKind.i64 o1_2], AE.Obj.cells [AV.own 3, AV.map 4, AV.own 5, AV.int IntKind.i64 o2_3, AV.own 6, AV.int IntKind.i64 o2_5, AV.bool o2_6], Obj.arr Ty.str o3, Obj.mp IntKind.i64 Ty.str o4, Obj.arr (Ty.st (Ty.pair (Ty.int IntKind.i64) Ty.str)) o5, Obj.arr (Ty.int IntKind.i64) o6], blk := 143360 }
def declogscan_scan_run_n0 (s : St) : Option (Ilogscan_scan_run_n0 × Vlogscan_scan_run_n0) := match s with
  | { env := [(0, AV.ptr 0 0)], stk := [[(0, AV.ptr 0 0), (1, AV.ptr 1 0), (2, AV.ptr 2 0)]], H := [AE.Obj.cells [AV.ptr 1 0, AV.int IntKind.i64 o0_1, AV.int IntKind.i64 o0_2, AV.int IntKind.i64 o0_3, AV.fn (Fn.func 34) [] [], AV.bool o0_5], AE.Obj.cells [AV.ptr 2 0, AV.int IntKind.i64 o1_1, AV.int IntKind.i64 o1_2], AE.Obj.cells [AV.own 3, AV.map 4, AV.own 5, AV.int IntKind.i64 o2_3, AV.own 6, AV.int IntKind.i64 o2_5, AV.bool o2_6], Obj.arr Ty.str o3, Obj.mp IntKind.i64 Ty.str o4, Obj.arr (Ty.st (Ty.pair (Ty.int IntKind.i64) Ty.str)) o5, Obj.arr (Ty.int IntKind.i64) o6], blk := 143360 } => some ((o1_1, o1_2, o2_5, o3, o4, o5, o6), (o0_1, o0_2, o0_3, o0_5, o2_3, o2_6))
  | _ => none
theorem declogscan_scan_run_n0_ok (s : St) (x : Ilogscan_scan_run_n0 × Vlogscan_scan_run_n0) (h : declogscan_scan_run_n0 s = some x) : s = Slogscan_scan_run_n0 x.1 x.2 := by
  unfold declogscan_scan_run_n0 at h
  split at h
  · cases h; rfl
  · cases h
def outlogscan_scan_run_n0 : Ilogscan_scan_run_n0 → (Ex → St → Ans) → Ylogscan_scan_run_n0 → Ans := fun (o1_1, o1_2, o2_5, o3, o4, o5, o6) K => (Sum.elim (unP fun t2_y => unP fun o0_1_y => unP fun o0_2_y => unP fun o0_3_y => unP fun o0_5_y => unP fun o2_3_y o2_6_y => K (Ex.ret) { env := [(2, AV.int IntKind.i64 t2_y)], stk := [[(0, AV.ptr 0 0), (1, AV.ptr 1 0), (2, AV.ptr 2 0)]], H := [AE.Obj.cells [AV.ptr 1 0, AV.int IntKind.i64 o0_1_y, AV.int IntKind.i64 o0_2_y, AV.int IntKind.i64 o0_3_y, AV.fn (Fn.func 34) [] [], AV.bool o0_5_y], AE.Obj.cells [AV.ptr 2 0, AV.int IntKind.i64 o1_1, AV.int IntKind.i64 o1_2], AE.Obj.cells [AV.own 3, AV.map 4, AV.own 5, AV.int IntKind.i64 o2_3_y, AV.own 6, AV.int IntKind.i64 o2_5, AV.bool o2_6_y], Obj.arr Ty.str o3, Obj.mp IntKind.i64 Ty.str o4, Obj.arr (Ty.st (Ty.pair (Ty.int IntKind.i64) Ty.str)) o5, Obj.arr (Ty.int IntKind.i64) o6], blk := 143361 }) (unP fun o0_1_y => unP fun o0_2_y => unP fun o0_3_y => unP fun o0_5_y => unP fun o2_3_y o2_6_y => K (Ex.exit 0) { env := [], stk := [[(0, AV.ptr 0 0), (1, AV.ptr 1 0), (2, AV.ptr 2 0)]], H := [AE.Obj.cells [AV.ptr 1 0, AV.int IntKind.i64 o0_1_y, AV.int IntKind.i64 o0_2_y, AV.int IntKind.i64 o0_3_y, AV.fn (Fn.func 34) [] [], AV.bool o0_5_y], AE.Obj.cells [AV.ptr 2 0, AV.int IntKind.i64 o1_1, AV.int IntKind.i64 o1_2], AE.Obj.cells [AV.own 3, AV.map 4, AV.own 5, AV.int IntKind.i64 o2_3_y, AV.own 6, AV.int IntKind.i64 o2_5, AV.bool o2_6_y], Obj.arr Ty.str o3, Obj.mp IntKind.i64 Ty.str o4, Obj.arr (Ty.st (Ty.pair (Ty.int IntKind.i64) Ty.str)) o5, Obj.arr (Ty.int IntKind.i64) o6], blk := 143360 }))
def steplogscan_scan_run_n0 {β : Type} : Ilogscan_scan_run_n0 → Vlogscan_scan_run_n0 → (Vlogscan_scan_run_n0 → Option β) → (Ylogscan_scan_run_n0 → Option β) → Option β := fun (o1_1, o1_2, o2_5, o3, o4, o5, o6) (o0_1, o0_2, o0_3, o0_5, o2_3, o2_6) next exit => (bif !o0_5 then (bindO (fnDlogscan_scan_next (o0_1, o0_2, o0_3, o0_5, o1_1, o1_2, o2_3, o2_5, o2_6, o3, o4, o5, o6)) (unP fun r => unP fun o0_1_2 => unP fun o0_2_2 => unP fun o0_3_2 => unP fun o0_5_2 => unP fun o2_3_2 o2_6_2 => (bif r != (0 : Int) then (exit (Sum.inl (r, o0_1_2, o0_2_2, o0_3_2, o0_5_2, o2_3_2, o2_6_2))) else (next (o0_1_2, o0_2_2, o0_3_2, o0_5_2, o2_3_2, o2_6_2))))) else (exit (Sum.inr (o0_1, o0_2, o0_3, o0_5, o2_3, o2_6))))
def stepDlogscan_scan_run_n0 (i : Ilogscan_scan_run_n0) (v : Vlogscan_scan_run_n0) : Option (Vlogscan_scan_run_n0 ⊕ Ylogscan_scan_run_n0) := steplogscan_scan_run_n0 i v (fun v => some (.inl v)) (fun y => some (.inr y))
theorem steplogscan_scan_run_n0_nat (i : Ilogscan_scan_run_n0) (v : Vlogscan_scan_run_n0) (next : Vlogscan_scan_run_n0 → Ans) (exit : Ylogscan_scan_run_n0 → Ans) : steplogscan_scan_run_n0 i v next exit = bindO (stepDlogscan_scan_run_n0 i v) (Sum.elim next exit) := by
  obtain ⟨o1_1, o1_2, o2_5, o3, o4, o5, o6⟩ := i
  obtain ⟨o0_1, o0_2, o0_3, o0_5, o2_3, o2_6⟩ := v
  simp only [stepDlogscan_scan_run_n0, steplogscan_scan_run_n0, bindO_cond, bindO_assoc, bindO_none, bindO_pure, bindO_elim, bindO_unP, Sum.elim_inl, Sum.elim_inr]
theorem steplogscan_scan_run_n0_ok (n : Nat) (i : Ilogscan_scan_run_n0) (v : Vlogscan_scan_run_n0) (K : Ex → St → Ans) : codeI Try.tab envlogscan_scan_run noHint (codeD Try.tab envlogscan_scan_run noHint 0 64) (n+1) 27 annLlogscan_scan_run_n0 (.loop Llogscan_scan_run_n0) (weakP 7 (exk [] [2] [(0, [])]) K) (Slogscan_scan_run_n0 i v) = steplogscan_scan_run_n0 i v (fun v' => codeI Try.tab envlogscan_scan_run noHint (codeD Try.tab envlogscan_scan_run noHint 0 64) n 27 annLlogscan_scan_run_n0 (.loop Llogscan_scan_run_n0) (weakP 7 (exk [] [2] [(0, [])]) K) (Slogscan_scan_run_n0 i v')) (fun y => outlogscan_scan_run_n0 i K y) := by kernel_rfl
theorem GNlogscan_scan_run_n0_ok : CSum Try.prog 27 (.loop Llogscan_scan_run_n0) (sumL declogscan_scan_run_n0 stepDlogscan_scan_run_n0 outlogscan_scan_run_n0) := csum_loop mixed tabOk envlogscan_scan_runOk 7 (exk [] [2] [(0, [])]) annLlogscan_scan_run_n0_ok declogscan_scan_run_n0_ok steplogscan_scan_run_n0_ok steplogscan_scan_run_n0_nat
noncomputable def Glogscan_scan_run_n0 : (Ex → St → Ans) → St → Ans := (sumL declogscan_scan_run_n0 stepDlogscan_scan_run_n0 outlogscan_scan_run_n0)
theorem Glogscan_scan_run_n0_ok : CSum Try.prog 27 (.loop Llogscan_scan_run_n0) Glogscan_scan_run_n0 := GNlogscan_scan_run_n0_ok
noncomputable def annlogscan_scan_run : Ann := (.seq .none (.seq .none (.seq (.block (.cut 7 [0] Glogscan_scan_run_n0)) .none)))
theorem annlogscan_scan_run_ok : AnnOk Try.prog 27 blogscan_scan_run annlogscan_scan_run := ⟨(annOk_none _ _ _), ⟨(annOk_none _ _ _), ⟨Glogscan_scan_run_n0_ok, (annOk_none _ _ _)⟩⟩⟩
abbrev Alogscan_scan_run := (Int) × (Int) × (Int) × (Bool) × (Int) × (Int) × (Int) × (Int) × (Bool) × (List (List UInt8)) × (List (Int × List UInt8)) × (List (Int × List UInt8)) × (List Int)
abbrev Ylogscan_scan_run := (Int) × (Int) × (Int) × (Int) × (Bool) × (Int) × (Bool)
def fnlogscan_scan_run {β : Type} : Alogscan_scan_run → (Ylogscan_scan_run → Option β) → Option β := fun (o0_1, o0_2, o0_3, o0_5, o1_1, o1_2, o2_3, o2_5, o2_6, o3, o4, o5, o6) exit => (bindO (fnDlogscan_there (o0_1, o1_1, o1_2, o2_3, o2_5, o2_6, o3, o4, o5, o6)) fun r => (bif r != (0 : Int) then (exit (r, o0_1, o0_2, o0_3, o0_5, o2_3, o2_6)) else (bindO (loopD (stepDlogscan_scan_run_n0 (o1_1, o1_2, o2_5, o3, o4, o5, o6)) FUEL (o0_1, o0_2, o0_3, o0_5, o2_3, o2_6)) (Sum.elim (unP fun t2 => unP fun o0_1_2 => unP fun o0_2_2 => unP fun o0_3_2 => unP fun o0_5_2 => unP fun o2_3_2 o2_6_2 => (exit (t2, o0_1_2, o0_2_2, o0_3_2, o0_5_2, o2_3_2, o2_6_2))) (unP fun o0_1_2 => unP fun o0_2_2 => unP fun o0_3_2 => unP fun o0_5_2 => unP fun o2_3_2 o2_6_2 => (exit ((0 : Int), o0_1_2, o0_2_2, o0_3_2, o0_5_2, o2_3_2, o2_6_2)))))))
def fnDlogscan_scan_run (a : Alogscan_scan_run) : Option Ylogscan_scan_run := fnlogscan_scan_run a some
theorem fnlogscan_scan_run_nat (a : Alogscan_scan_run) (k : Ylogscan_scan_run → Ans) : fnlogscan_scan_run a k = bindO (fnDlogscan_scan_run a) k := by
  obtain ⟨o0_1, o0_2, o0_3, o0_5, o1_1, o1_2, o2_3, o2_5, o2_6, o3, o4, o5, o6⟩ := a
  simp only [fnDlogscan_scan_run, fnlogscan_scan_run, bindO_cond, bindO_assoc, bindO_none, bindO_pure, bindO_elim, bindO_unP]
def argslogscan_scan_run : Alogscan_scan_run → List AV × List AE.Obj := fun (o0_1, o0_2, o0_3, o0_5, o1_1, o1_2, o2_3, o2_5, o2_6, o3, o4, o5, o6) => ([AV.ptr 0 0], [AE.Obj.cells [AV.ptr 1 0, AV.int IntKind.i64 o0_1, AV.int IntKind.i64 o0_2, AV.int IntKind.i64 o0_3, AV.fn (Fn.func 34) [] [], AV.bool o0_5], AE.Obj.cells [AV.ptr 2 0, AV.int IntKind.i64 o1_1, AV.int IntKind.i64 o1_2], AE.Obj.cells [AV.own 3, AV.map 4, AV.own 5, AV.int IntKind.i64 o2_3, AV.own 6, AV.int IntKind.i64 o2_5, AV.bool o2_6], Obj.arr Ty.str o3, Obj.mp IntKind.i64 Ty.str o4, Obj.arr (Ty.st (Ty.pair (Ty.int IntKind.i64) Ty.str)) o5, Obj.arr (Ty.int IntKind.i64) o6])
def decAlogscan_scan_run (l : List AV) (H : List AE.Obj) : Option Alogscan_scan_run := match l, H with
  | [AV.ptr 0 0], [AE.Obj.cells [AV.ptr 1 0, AV.int IntKind.i64 o0_1, AV.int IntKind.i64 o0_2, AV.int IntKind.i64 o0_3, AV.fn (Fn.func 34) [] [], AV.bool o0_5], AE.Obj.cells [AV.ptr 2 0, AV.int IntKind.i64 o1_1, AV.int IntKind.i64 o1_2], AE.Obj.cells [AV.own 3, AV.map 4, AV.own 5, AV.int IntKind.i64 o2_3, AV.own 6, AV.int IntKind.i64 o2_5, AV.bool o2_6], Obj.arr Ty.str o3, Obj.mp IntKind.i64 Ty.str o4, Obj.arr (Ty.st (Ty.pair (Ty.int IntKind.i64) Ty.str)) o5, Obj.arr (Ty.int IntKind.i64) o6] => some (o0_1, o0_2, o0_3, o0_5, o1_1, o1_2, o2_3, o2_5, o2_6, o3, o4, o5, o6)
  | _, _ => none
theorem decAlogscan_scan_run_ok (l : List AV) (H : List AE.Obj) (a : Alogscan_scan_run) (h : decAlogscan_scan_run l H = some a) : (l, H) = argslogscan_scan_run a := by
  unfold decAlogscan_scan_run at h
  split at h
  · cases h; rfl
  · cases h
def outlogscan_scan_run : Alogscan_scan_run → (AV → List AE.Obj → Ans) → Ylogscan_scan_run → Ans := fun (o0_1, o0_2, o0_3, o0_5, o1_1, o1_2, o2_3, o2_5, o2_6, o3, o4, o5, o6) K => unP fun r_y => unP fun o0_1_y => unP fun o0_2_y => unP fun o0_3_y => unP fun o0_5_y => unP fun o2_3_y o2_6_y => K (AV.int IntKind.i64 r_y) [AE.Obj.cells [AV.ptr 1 0, AV.int IntKind.i64 o0_1_y, AV.int IntKind.i64 o0_2_y, AV.int IntKind.i64 o0_3_y, AV.fn (Fn.func 34) [] [], AV.bool o0_5_y], AE.Obj.cells [AV.ptr 2 0, AV.int IntKind.i64 o1_1, AV.int IntKind.i64 o1_2], AE.Obj.cells [AV.own 3, AV.map 4, AV.own 5, AV.int IntKind.i64 o2_3_y, AV.own 6, AV.int IntKind.i64 o2_5, AV.bool o2_6_y], Obj.arr Ty.str o3, Obj.mp IntKind.i64 Ty.str o4, Obj.arr (Ty.st (Ty.pair (Ty.int IntKind.i64) Ty.str)) o5, Obj.arr (Ty.int IntKind.i64) o6]
theorem fnlogscan_scan_run_ok (a : Alogscan_scan_run) (K : AV → List AE.Obj → Ans) : fnE Try.tab envlogscan_scan_run noHint 0 70 35 Try.f35.ntmps Try.f35.results.toList annlogscan_scan_run blogscan_scan_run (argslogscan_scan_run a).1 (argslogscan_scan_run a).2 K = fnlogscan_scan_run a (outlogscan_scan_run a K) := by kernel_rfl
def vFlogscan_scan_run (a : Alogscan_scan_run) (K : AV → List AE.Obj → Ans) : Ans := bindO (fnDlogscan_scan_run a) fun y => outlogscan_scan_run a K y
def Flogscan_scan_run : List AV → List AE.Obj → (AV → List AE.Obj → Ans) → Ans := fun l H K => bindO (decAlogscan_scan_run l H) fun a => vFlogscan_scan_run a K
theorem Flogscan_scan_run_ok : FuncOk Try.prog 35 Flogscan_scan_run := func_mkD (hint := noHint) (d := 0) (n := 70) mixed tabOk envlogscan_scan_runOk Try.func35 (bodySome (by kernel_rfl)) (by decide +kernel) annlogscan_scan_run_ok decAlogscan_scan_run_ok fnlogscan_scan_run_ok fnlogscan_scan_run_nat
--@ logscan_End
noncomputable def envlogscan_End : Env := [(35, .func Flogscan_scan_run)]
theorem envlogscan_EndOk : EnvOk Try.prog envlogscan_End := EnvOk.cons Flogscan_scan_run_ok (EnvOk.nil)
noncomputable def blogscan_End : Code := Try.f14.body.getD .skip
noncomputable def annlogscan_End : Ann := .none
theorem annlogscan_End_ok : AnnOk Try.prog 34 blogscan_End annlogscan_End := (annOk_none _ _ _)
abbrev Alogscan_End := (Int) × (Int) × (Int) × (Int) × (Int) × (Int) × (Bool) × (List (List UInt8)) × (List (Int × List UInt8)) × (List (Int × List UInt8)) × (List Int)
abbrev Ylogscan_End := (Int) × (Int) × (Int) × (Int) × (Int) × (Bool)
def fnlogscan_End {β : Type} : Alogscan_End → (Ylogscan_End → Option β) → Option β := fun (a1, a2, o0_1, o0_2, o1_3, o1_5, o1_6, o2, o3, o4, o5) exit => (bindO (fnDlogscan_scan_run (a1, a2, (0 : Int), false, o0_1, o0_2, o1_3, o1_5, o1_6, o2, o3, o4, o5)) (unP fun r => unP fun o0_1_2 => unP fun o0_2_2 => unP fun o0_3 => unP fun o0_5 => unP fun o2_3 o2_6 => (bif r != (0 : Int) then (exit ((0 : Int), (0 : Int), (0 : Int), r, o2_3, o2_6)) else (exit (o0_1_2, o0_2_2, o0_3, (0 : Int), o2_3, o2_6)))))
def fnDlogscan_End (a : Alogscan_End) : Option Ylogscan_End := fnlogscan_End a some
theorem fnlogscan_End_nat (a : Alogscan_End) (k : Ylogscan_End → Ans) : fnlogscan_End a k = bindO (fnDlogscan_End a) k := by
  obtain ⟨a1, a2, o0_1, o0_2, o1_3, o1_5, o1_6, o2, o3, o4, o5⟩ := a
  simp only [fnDlogscan_End, fnlogscan_End, bindO_cond, bindO_assoc, bindO_none, bindO_pure, bindO_elim, bindO_unP]
def argslogscan_End : Alogscan_End → List AV × List AE.Obj := fun (a1, a2, o0_1, o0_2, o1_3, o1_5, o1_6, o2, o3, o4, o5) => ([AV.ptr 0 0, AV.int IntKind.i64 a1, AV.int IntKind.i64 a2], [AE.Obj.cells [AV.ptr 1 0, AV.int IntKind.i64 o0_1, AV.int IntKind.i64 o0_2], AE.Obj.cells [AV.own 2, AV.map 3, AV.own 4, AV.int IntKind.i64 o1_3, AV.own 5, AV.int IntKind.i64 o1_5, AV.bool o1_6], Obj.arr Ty.str o2, Obj.mp IntKind.i64 Ty.str o3, Obj.arr (Ty.st (Ty.pair (Ty.int IntKind.i64) Ty.str)) o4, Obj.arr (Ty.int IntKind.i64) o5])
def decAlogscan_End (l : List AV) (H : List AE.Obj) : Option Alogscan_End := match l, H with
  | [AV.ptr 0 0, AV.int IntKind.i64 a1, AV.int IntKind.i64 a2], [AE.Obj.cells [AV.ptr 1 0, AV.int IntKind.i64 o0_1, AV.int IntKind.i64 o0_2], AE.Obj.cells [AV.own 2, AV.map 3, AV.own 4, AV.int IntKind.i64 o1_3, AV.own 5, AV.int IntKind.i64 o1_5, AV.bool o1_6], Obj.arr Ty.str o2, Obj.mp IntKind.i64 Ty.str o3, Obj.arr (Ty.st (Ty.pair (Ty.int IntKind.i64) Ty.str)) o4, Obj.arr (Ty.int IntKind.i64) o5] => some (a1, a2, o0_1, o0_2, o1_3, o1_5, o1_6, o2, o3, o4, o5)
  | _, _ => none
theorem decAlogscan_End_ok (l : List AV) (H : List AE.Obj) (a : Alogscan_End) (h : decAlogscan_End l H = some a) : (l, H) = argslogscan_End a := by
  unfold decAlogscan_End at h
  split at h
  · cases h; rfl
  · cases h
def outlogscan_End : Alogscan_End → (AV → List AE.Obj → Ans) → Ylogscan_End → Ans := fun (a1, a2, o0_1, o0_2, o1_3, o1_5, o1_6, o2, o3, o4, o5) K => unP fun r_0_y => unP fun r_1_y => unP fun r_2_y => unP fun r_3_y => unP fun o1_3_y o1_6_y => K (AV.tup [AV.int IntKind.i64 r_0_y, AV.int IntKind.i64 r_1_y, AV.int IntKind.i64 r_2_y, AV.int IntKind.i64 r_3_y]) [AE.Obj.cells [AV.ptr 1 0, AV.int IntKind.i64 o0_1, AV.int IntKind.i64 o0_2], AE.Obj.cells [AV.own 2, AV.map 3, AV.own 4, AV.int IntKind.i64 o1_3_y, AV.own 5, AV.int IntKind.i64 o1_5, AV.bool o1_6_y], Obj.arr Ty.str o2, Obj.mp IntKind.i64 Ty.str o3, Obj.arr (Ty.st (Ty.pair (Ty.int IntKind.i64) Ty.str)) o4, Obj.arr (Ty.int IntKind.i64) o5]
theorem fnlogscan_End_ok (a : Alogscan_End) (K : AV → List AE.Obj → Ans) : fnE Try.tab envlogscan_End noHint 0 70 14 Try.f14.ntmps Try.f14.results.toList annlogscan_End blogscan_End (argslogscan_End a).1 (argslogscan_End a).2 K = fnlogscan_End a (outlogscan_End a K) := by kernel_rfl
def vFlogscan_End (a : Alogscan_End) (K : AV → List AE.Obj → Ans) : Ans := bindO (fnDlogscan_End a) fun y => outlogscan_End a K y
def Flogscan_End : List AV → List AE.Obj → (AV → List AE.Obj → Ans) → Ans := fun l H K => bindO (decAlogscan_End l H) fun a => vFlogscan_End a K
theorem Flogscan_End_ok : FuncOk Try.prog 14 Flogscan_End := func_mkD (hint := noHint) (d := 0) (n := 70) mixed tabOk envlogscan_EndOk Try.func14 (bodySome (by kernel_rfl)) (by decide +kernel) annlogscan_End_ok decAlogscan_End_ok fnlogscan_End_ok fnlogscan_End_nat
--@ law12_works
noncomputable def envlaw12_works : Env := [(13, .func Fdisk_New), (12, .func Fregion_New), (9, .pure Flogrec_Put), (7, .func Flogscan_Put), (14, .func Flogscan_End)]
theorem envlaw12_worksOk : EnvOk Try.prog envlaw12_works := EnvOk.cons Fdisk_New_ok (EnvOk.cons Fregion_New_ok (EnvOk.cons Flogrec_Put_ok (EnvOk.cons Flogscan_Put_ok (EnvOk.cons Flogscan_End_ok (EnvOk.nil)))))
noncomputable def blaw12_works : Code := Try.f4.body.getD .skip
noncomputable def Llaw12_works_n1 : Code := codeAt [1, 1, 1, 1, 1, 1, 1, 0] blaw12_works
noncomputable def annLlaw12_works_n1 : Ann := .none
theorem annLlaw12_works_n1_ok : AnnOk Try.prog 76 Llaw12_works_n1 annLlaw12_works_n1 := (annOk_none _ _ _)
abbrev Ilaw12_works_n1 := (Int) × (Int) × (Int) × (Int)
abbrev Ylaw12_works_n1 := (Bool)
def Slaw12_works_n1 : Ilaw12_works_n1 → St := fun (t8, t9, t10, t11) => { env := [(8, AV.int IntKind.i64 t8), (9, AV.int IntKind.i64 t9), (10, AV.int IntKind.i64 t10), (11, AV.int IntKind.i64 t11)], stk := [[]], H := [], blk := 16384 }
def declaw12_works_n1 (s : St) : Option Ilaw12_works_n1 := match s with
  | { env := [(8, AV.int IntKind.i64 t8), (9, AV.int IntKind.i64 t9), (10, AV.int IntKind.i64 t10), (11, AV.int IntKind.i64 t11)], stk := [[]], H := [], blk := 16384 } => some (t8, t9, t10, t11)
  | _ => none
theorem declaw12_works_n1_ok (s : St) (x : Ilaw12_works_n1) (h : declaw12_works_n1 s = some x) : s = Slaw12_works_n1 x := by
  unfold declaw12_works_n1 at h
  split at h
  · cases h; rfl
  · cases h
def outlaw12_works_n1 : Ilaw12_works_n1 → (Ex → St → Ans) → Ylaw12_works_n1 → Ans := fun (t8, t9, t10, t11) K => fun t0_y => K (Ex.norm) { env := [(0, AV.bool t0_y)], stk := [[]], H := [], blk := 16384 }
def nodelaw12_works_n1 {β : Type} : Ilaw12_works_n1 → (Ylaw12_works_n1 → Option β) → Option β := fun (t8, t9, t10, t11) exit => (bif t8 == (3 : Int) then (bif t9 == (9 : Int) then (bif t10 == (4 : Int) then (exit (t11 == (0 : Int))) else (exit (false))) else (exit (false))) else (exit (false)))
def nodeDlaw12_works_n1 (i : Ilaw12_works_n1) : Option Ylaw12_works_n1 := nodelaw12_works_n1 i some
theorem nodelaw12_works_n1_nat (i : Ilaw12_works_n1) (k : Ylaw12_works_n1 → Ans) : nodelaw12_works_n1 i k = bindO (nodeDlaw12_works_n1 i) k := by
  obtain ⟨t8, t9, t10, t11⟩ := i
  simp only [nodeDlaw12_works_n1, nodelaw12_works_n1, bindO_cond, bindO_assoc, bindO_none, bindO_pure, bindO_elim, bindO_unP]
theorem nodelaw12_works_n1_ok (i : Ilaw12_works_n1) (K : Ex → St → Ans) : codeI Try.tab envlaw12_works noHint (codeD Try.tab envlaw12_works noHint 0 64) 70 76 annLlaw12_works_n1 Llaw12_works_n1 (weakP 0 (exk [0] [0] []) K) (Slaw12_works_n1 i) = nodelaw12_works_n1 i (outlaw12_works_n1 i K) := by kernel_rfl
theorem GNlaw12_works_n1_ok : CSum Try.prog 76 Llaw12_works_n1 (sumN declaw12_works_n1 nodeDlaw12_works_n1 outlaw12_works_n1) := csum_node mixed tabOk envlaw12_worksOk 0 (exk [0] [0] []) annLlaw12_works_n1_ok declaw12_works_n1_ok nodelaw12_works_n1_ok nodelaw12_works_n1_nat
noncomputable def Glaw12_works_n1 : (Ex → St → Ans) → St → Ans := (sumN declaw12_works_n1 nodeDlaw12_works_n1 outlaw12_works_n1)
theorem Glaw12_works_n1_ok : CSum Try.prog 76 Llaw12_works_n1 Glaw12_works_n1 := GNlaw12_works_n1_ok
noncomputable def Llaw12_works_n0 : Code := codeAt [1, 1, 1, 1, 1, 0, 0] blaw12_works
noncomputable def annLlaw12_works_n0 : Ann := .none
theorem annLlaw12_works_n0_ok : AnnOk Try.prog 76 Llaw12_works_n0 annLlaw12_works_n0 := (annOk_none _ _ _)
abbrev Ilaw12_works_n0 := (List UInt8) × (Int) × (List UInt8) × (Int)
abbrev Ylaw12_works_n0 := Unit
def Slaw12_works_n0 : Ilaw12_works_n0 → St := fun (t4, t5, t6, t7) => { env := [(2, AV.nilp), (3, AV.int IntKind.i64 (3)), (4, AV.str t4), (5, AV.int IntKind.i64 t5), (6, AV.str t6), (7, AV.int IntKind.i64 t7)], stk := [[]], H := [], blk := 16384 }
def declaw12_works_n0 (s : St) : Option Ilaw12_works_n0 := match s with
  | { env := [(2, AV.nilp), (3, AV.int IntKind.i64 r0), (4, AV.str t4), (5, AV.int IntKind.i64 t5), (6, AV.str t6), (7, AV.int IntKind.i64 t7)], stk := [[]], H := [], blk := 16384 } => cond (decide (r0 = 3)) (some (t4, t5, t6, t7)) none
  | _ => none
theorem declaw12_works_n0_ok (s : St) (x : Ilaw12_works_n0) (h : declaw12_works_n0 s = some x) : s = Slaw12_works_n0 x := by
  unfold declaw12_works_n0 at h
  split at h
  · replace h := cond_noneO h; obtain ⟨hg, h⟩ := h; simp only [Bool.and_eq_true, decide_eq_true_eq] at hg; simp only [hg]; cases h; rfl
  · cases h
def outlaw12_works_n0 : Ilaw12_works_n0 → (Ex → St → Ans) → Ylaw12_works_n0 → Ans := fun (t4, t5, t6, t7) K => fun _ => K (Ex.norm) { env := [(2, AV.nilp), (54, AV.bool (true))], stk := [[]], H := [], blk := 16384 }
def nodelaw12_works_n0 {β : Type} : Ilaw12_works_n0 → (Ylaw12_works_n0 → Option β) → Option β := fun (t4, t5, t6, t7) exit => (exit ())
def nodeDlaw12_works_n0 (i : Ilaw12_works_n0) : Option Ylaw12_works_n0 := nodelaw12_works_n0 i some
theorem nodelaw12_works_n0_nat (i : Ilaw12_works_n0) (k : Ylaw12_works_n0 → Ans) : nodelaw12_works_n0 i k = bindO (nodeDlaw12_works_n0 i) k := by
  obtain ⟨t4, t5, t6, t7⟩ := i
  simp only [nodeDlaw12_works_n0, nodelaw12_works_n0, bindO_cond, bindO_assoc, bindO_none, bindO_pure, bindO_elim, bindO_unP]
theorem nodelaw12_works_n0_ok (i : Ilaw12_works_n0) (K : Ex → St → Ans) : codeI Try.tab envlaw12_works noHint (codeD Try.tab envlaw12_works noHint 0 64) 70 76 annLlaw12_works_n0 Llaw12_works_n0 (weakP 0 (exk [2, 54] [0] []) K) (Slaw12_works_n0 i) = nodelaw12_works_n0 i (outlaw12_works_n0 i K) := by kernel_rfl
theorem GNlaw12_works_n0_ok : CSum Try.prog 76 Llaw12_works_n0 (sumN declaw12_works_n0 nodeDlaw12_works_n0 outlaw12_works_n0) := csum_node mixed tabOk envlaw12_worksOk 0 (exk [2, 54] [0] []) annLlaw12_works_n0_ok declaw12_works_n0_ok nodelaw12_works_n0_ok nodelaw12_works_n0_nat
abbrev Ilaw12_works_n0v1 := (List UInt8) × (Int) × (List UInt8) × (Int) × (List (List UInt8))
abbrev Ylaw12_works_n0v1 := (Bool) × (Int) × (Bool) × (List (Int × List UInt8)) × (List (Int × List UInt8))
def Slaw12_works_n0v1 : Ilaw12_works_n0v1 → St := fun (t4, t5, t6, t7, o2) => { env := [(2, AV.ptr 0 0), (3, AV.int IntKind.i64 (0)), (4, AV.str t4), (5, AV.int IntKind.i64 t5), (6, AV.str t6), (7, AV.int IntKind.i64 t7)], stk := [[]], H := [AE.Obj.cells [AV.ptr 1 0, AV.int IntKind.i64 (0), AV.int IntKind.i64 (5)], AE.Obj.cells [AV.own 2, AV.map 3, AV.own 4, AV.int IntKind.i64 (0), AV.own 5, AV.int IntKind.i64 (0), AV.bool (false)], Obj.arr Ty.str o2, Obj.mp IntKind.i64 Ty.str ([]), Obj.arr (Ty.st (Ty.pair (Ty.int IntKind.i64) Ty.str)) ([]), Obj.arr (Ty.int IntKind.i64) ([])], blk := 16384 }
def declaw12_works_n0v1 (s : St) : Option Ilaw12_works_n0v1 := match s with
  | { env := [(2, AV.ptr 0 0), (3, AV.int IntKind.i64 r0), (4, AV.str t4), (5, AV.int IntKind.i64 t5), (6, AV.str t6), (7, AV.int IntKind.i64 t7)], stk := [[]], H := [AE.Obj.cells [AV.ptr 1 0, AV.int IntKind.i64 r5, AV.int IntKind.i64 r6], AE.Obj.cells [AV.own 2, AV.map 3, AV.own 4, AV.int IntKind.i64 r7, AV.own 5, AV.int IntKind.i64 r8, AV.bool r9], Obj.arr Ty.str o2, Obj.mp IntKind.i64 Ty.str r11, Obj.arr (Ty.st (Ty.pair (Ty.int IntKind.i64) Ty.str)) r12, Obj.arr (Ty.int IntKind.i64) r13], blk := 16384 } => cond (decide (r0 = 0) && decide (r5 = 0) && decide (r6 = 5) && decide (r7 = 0) && decide (r8 = 0) && decide (r9 = false) && decide (r11 = []) && decide (r12 = []) && decide (r13 = [])) (some (t4, t5, t6, t7, o2)) none
  | _ => none
theorem declaw12_works_n0v1_ok (s : St) (x : Ilaw12_works_n0v1) (h : declaw12_works_n0v1 s = some x) : s = Slaw12_works_n0v1 x := by
  unfold declaw12_works_n0v1 at h
  split at h
  · replace h := cond_noneO h; obtain ⟨hg, h⟩ := h; simp only [Bool.and_eq_true, decide_eq_true_eq] at hg; simp only [hg]; cases h; rfl
  · cases h
def outlaw12_works_n0v1 : Ilaw12_works_n0v1 → (Ex → St → Ans) → Ylaw12_works_n0v1 → Ans := fun (t4, t5, t6, t7, o2) K => unP fun t54_y => unP fun o1_3_y => unP fun o1_6_y => unP fun o3_y o4_y => K (Ex.norm) { env := [(2, AV.ptr 0 0), (54, AV.bool t54_y)], stk := [[]], H := [AE.Obj.cells [AV.ptr 1 0, AV.int IntKind.i64 (0), AV.int IntKind.i64 (5)], AE.Obj.cells [AV.own 2, AV.map 3, AV.own 4, AV.int IntKind.i64 o1_3_y, AV.own 5, AV.int IntKind.i64 (0), AV.bool o1_6_y], Obj.arr Ty.str o2, Obj.mp IntKind.i64 Ty.str o3_y, Obj.arr (Ty.st (Ty.pair (Ty.int IntKind.i64) Ty.str)) o4_y, Obj.arr (Ty.int IntKind.i64) ([])], blk := 16384 }
def nodelaw12_works_n0v1 {β : Type} : Ilaw12_works_n0v1 → (Ylaw12_works_n0v1 → Option β) → Option β := fun (t4, t5, t6, t7, o2) exit => (bif t5 != (0 : Int) then (exit (true, (0 : Int), false, [], [])) else (bif t7 != (0 : Int) then (exit (true, (0 : Int), false, [], [])) else (bindO (fnDlogscan_Put ((4 : Int), t4, (0 : Int), (5 : Int), (0 : Int), (0 : Int), false, o2, [], [], [])) (unP fun r => unP fun o1_3 => unP fun o1_6 => unP fun o3 o4 => (bif r != (0 : Int) then (exit (true, o1_3, o1_6, o3, o4)) else (bindO (fnDlogscan_Put ((1 : Int), t6, (0 : Int), (5 : Int), o1_3, (0 : Int), o1_6, o2, o3, o4, [])) (unP fun r_2 => unP fun o1_3_2 => unP fun o1_6_2 => unP fun o3_2 o4_2 => (exit (r_2 != (0 : Int), o1_3_2, o1_6_2, o3_2, o4_2)))))))))
def nodeDlaw12_works_n0v1 (i : Ilaw12_works_n0v1) : Option Ylaw12_works_n0v1 := nodelaw12_works_n0v1 i some
theorem nodelaw12_works_n0v1_nat (i : Ilaw12_works_n0v1) (k : Ylaw12_works_n0v1 → Ans) : nodelaw12_works_n0v1 i k = bindO (nodeDlaw12_works_n0v1 i) k := by
  obtain ⟨t4, t5, t6, t7, o2⟩ := i
  simp only [nodeDlaw12_works_n0v1, nodelaw12_works_n0v1, bindO_cond, bindO_assoc, bindO_none, bindO_pure, bindO_elim, bindO_unP]
theorem nodelaw12_works_n0v1_ok (i : Ilaw12_works_n0v1) (K : Ex → St → Ans) : codeI Try.tab envlaw12_works noHint (codeD Try.tab envlaw12_works noHint 0 64) 70 76 annLlaw12_works_n0 Llaw12_works_n0 (weakP 0 (exk [2, 54] [0] []) K) (Slaw12_works_n0v1 i) = nodelaw12_works_n0v1 i (outlaw12_works_n0v1 i K) := by kernel_rfl
theorem GNlaw12_works_n0v1_ok : CSum Try.prog 76 Llaw12_works_n0 (sumN declaw12_works_n0v1 nodeDlaw12_works_n0v1 outlaw12_works_n0v1) := csum_node mixed tabOk envlaw12_worksOk 0 (exk [2, 54] [0] []) annLlaw12_works_n0_ok declaw12_works_n0v1_ok nodelaw12_works_n0v1_ok nodelaw12_works_n0v1_nat
noncomputable def Glaw12_works_n0 : (Ex → St → Ans) → St → Ans := (altN declaw12_works_n0 (sumN declaw12_works_n0 nodeDlaw12_works_n0 outlaw12_works_n0) (sumN declaw12_works_n0v1 nodeDlaw12_works_n0v1 outlaw12_works_n0v1))
theorem Glaw12_works_n0_ok : CSum Try.prog 76 Llaw12_works_n0 Glaw12_works_n0 := (csum_altN GNlaw12_works_n0_ok GNlaw12_works_n0v1_ok)
noncomputable def annlaw12_works : Ann := (.seq .none (.seq .none (.seq .none (.seq .none (.seq .none (.seq (.seq (.cut 0 [2, 3, 4, 5, 6, 7] Glaw12_works_n0) .none) (.seq .none (.seq (.cut 0 [8, 9, 10, 11] Glaw12_works_n1) .none))))))))
theorem annlaw12_works_ok : AnnOk Try.prog 76 blaw12_works annlaw12_works := ⟨(annOk_none _ _ _), ⟨(annOk_none _ _ _), ⟨(annOk_none _ _ _), ⟨(annOk_none _ _ _), ⟨(annOk_none _ _ _), ⟨⟨Glaw12_works_n0_ok, (annOk_none _ _ _)⟩, ⟨(annOk_none _ _ _), ⟨Glaw12_works_n1_ok, (annOk_none _ _ _)⟩⟩⟩⟩⟩⟩⟩⟩
abbrev Alaw12_works := Unit
abbrev Ylaw12_works := (Bool)
def fnlaw12_works {β : Type} : Alaw12_works → (Ylaw12_works → Option β) → Option β := fun _ exit => (bindO (fnDdisk_New ((5 : Int))) fun o1 => (bindO (fnDregion_New ((0 : Int), (5 : Int), (0 : Int), (0 : Int), false, o1, [], [], [])) (Sum.elim (fun _ => (bindO (fnDlogrec_Put ((7 : Int), [((1 : Int), [(0 : UInt8), (0 : UInt8), (0 : UInt8), (0 : UInt8), (0 : UInt8), (0 : UInt8), (0 : UInt8), (0 : UInt8), (0 : UInt8), (0 : UInt8), (0 : UInt8), (0 : UInt8), (0 : UInt8), (0 : UInt8), (0 : UInt8), (0 : UInt8), (0 : UInt8), (0 : UInt8), (0 : UInt8), (0 : UInt8), (0 : UInt8), (0 : UInt8), (0 : UInt8), (0 : UInt8), (0 : UInt8), (0 : UInt8), (0 : UInt8), (0 : UInt8), (0 : UInt8), (0 : UInt8), (0 : UInt8), (0 : UInt8), (0 : UInt8), (0 : UInt8), (0 : UInt8), (0 : UInt8), (0 : UInt8), (0 : UInt8), (0 : UInt8), (0 : UInt8), (0 : UInt8), (0 : UInt8), (0 : UInt8), (0 : UInt8), (0 : UInt8), (0 : UInt8), (0 : UInt8), (0 : UInt8), (0 : UInt8), (0 : UInt8), (0 : UInt8), (0 : UInt8), (0 : UInt8), (0 : UInt8), (0 : UInt8), (0 : UInt8), (0 : UInt8), (0 : UInt8), (0 : UInt8), (0 : UInt8), (0 : UInt8), (0 : UInt8), (0 : UInt8), (0 : UInt8)])])) (unP fun r_0 r_1 => (bindO (fnDlogrec_Put ((8 : Int), [((2 : Int), [(0 : UInt8), (0 : UInt8), (0 : UInt8), (0 : UInt8), (0 : UInt8), (0 : UInt8), (0 : UInt8), (0 : UInt8), (0 : UInt8), (0 : UInt8), (0 : UInt8), (0 : UInt8), (0 : UInt8), (0 : UInt8), (0 : UInt8), (0 : UInt8), (0 : UInt8), (0 : UInt8), (0 : UInt8), (0 : UInt8), (0 : UInt8), (0 : UInt8), (0 : UInt8), (0 : UInt8), (0 : UInt8), (0 : UInt8), (0 : UInt8), (0 : UInt8), (0 : UInt8), (0 : UInt8), (0 : UInt8), (0 : UInt8), (0 : UInt8), (0 : UInt8), (0 : UInt8), (0 : UInt8), (0 : UInt8), (0 : UInt8), (0 : UInt8), (0 : UInt8), (0 : UInt8), (0 : UInt8), (0 : UInt8), (0 : UInt8), (0 : UInt8), (0 : UInt8), (0 : UInt8), (0 : UInt8), (0 : UInt8), (0 : UInt8), (0 : UInt8), (0 : UInt8), (0 : UInt8), (0 : UInt8), (0 : UInt8), (0 : UInt8), (0 : UInt8), (0 : UInt8), (0 : UInt8), (0 : UInt8), (0 : UInt8), (0 : UInt8), (0 : UInt8), (0 : UInt8)])])) (unP fun r_0_2 r_1_2 => (bindO (nodeDlaw12_works_n0 (r_0, r_1, r_0_2, r_1_2)) fun _ => (exit (false)))))))) (fun _ => (bindO (fnDlogrec_Put ((7 : Int), [((1 : Int), [(0 : UInt8), (0 : UInt8), (0 : UInt8), (0 : UInt8), (0 : UInt8), (0 : UInt8), (0 : UInt8), (0 : UInt8), (0 : UInt8), (0 : UInt8), (0 : UInt8), (0 : UInt8), (0 : UInt8), (0 : UInt8), (0 : UInt8), (0 : UInt8), (0 : UInt8), (0 : UInt8), (0 : UInt8), (0 : UInt8), (0 : UInt8), (0 : UInt8), (0 : UInt8), (0 : UInt8), (0 : UInt8), (0 : UInt8), (0 : UInt8), (0 : UInt8), (0 : UInt8), (0 : UInt8), (0 : UInt8), (0 : UInt8), (0 : UInt8), (0 : UInt8), (0 : UInt8), (0 : UInt8), (0 : UInt8), (0 : UInt8), (0 : UInt8), (0 : UInt8), (0 : UInt8), (0 : UInt8), (0 : UInt8), (0 : UInt8), (0 : UInt8), (0 : UInt8), (0 : UInt8), (0 : UInt8), (0 : UInt8), (0 : UInt8), (0 : UInt8), (0 : UInt8), (0 : UInt8), (0 : UInt8), (0 : UInt8), (0 : UInt8), (0 : UInt8), (0 : UInt8), (0 : UInt8), (0 : UInt8), (0 : UInt8), (0 : UInt8), (0 : UInt8), (0 : UInt8)])])) (unP fun r_0 r_1 => (bindO (fnDlogrec_Put ((8 : Int), [((2 : Int), [(0 : UInt8), (0 : UInt8), (0 : UInt8), (0 : UInt8), (0 : UInt8), (0 : UInt8), (0 : UInt8), (0 : UInt8), (0 : UInt8), (0 : UInt8), (0 : UInt8), (0 : UInt8), (0 : UInt8), (0 : UInt8), (0 : UInt8), (0 : UInt8), (0 : UInt8), (0 : UInt8), (0 : UInt8), (0 : UInt8), (0 : UInt8), (0 : UInt8), (0 : UInt8), (0 : UInt8), (0 : UInt8), (0 : UInt8), (0 : UInt8), (0 : UInt8), (0 : UInt8), (0 : UInt8), (0 : UInt8), (0 : UInt8), (0 : UInt8), (0 : UInt8), (0 : UInt8), (0 : UInt8), (0 : UInt8), (0 : UInt8), (0 : UInt8), (0 : UInt8), (0 : UInt8), (0 : UInt8), (0 : UInt8), (0 : UInt8), (0 : UInt8), (0 : UInt8), (0 : UInt8), (0 : UInt8), (0 : UInt8), (0 : UInt8), (0 : UInt8), (0 : UInt8), (0 : UInt8), (0 : UInt8), (0 : UInt8), (0 : UInt8), (0 : UInt8), (0 : UInt8), (0 : UInt8), (0 : UInt8), (0 : UInt8), (0 : UInt8), (0 : UInt8), (0 : UInt8)])])) (unP fun r_0_2 r_1_2 => (bindO (nodeDlaw12_works_n0v1 (r_0, r_1, r_0_2, r_1_2, o1)) (unP fun t54 => unP fun o1_3 => unP fun o1_6 => unP fun o3 o4 => (bif t54 then (exit (false)) else (bindO (fnDlogscan_End ((4 : Int), (7 : Int), (0 : Int), (5 : Int), o1_3, (0 : Int), o1_6, o1, o3, o4, [])) (unP fun r_0_3 => unP fun r_1_3 => unP fun r_2 => unP fun r_3 => unP fun o1_3_2 o1_6_2 => (bindO (nodeDlaw12_works_n1 (r_0_3, r_1_3, r_2, r_3)) fun t0 => (exit (t0))))))))))))))))
def fnDlaw12_works (a : Alaw12_works) : Option Ylaw12_works := fnlaw12_works a some
theorem fnlaw12_works_nat (a : Alaw12_works) (k : Ylaw12_works → Ans) : fnlaw12_works a k = bindO (fnDlaw12_works a) k := by
  obtain z := a
  simp only [fnDlaw12_works, fnlaw12_works, bindO_cond, bindO_assoc, bindO_none, bindO_pure, bindO_elim, bindO_unP]
def argslaw12_works : Alaw12_works → List AV := fun _ => []
def decAlaw12_works (l : List AV) : Option Alaw12_works := match l with
  | [] => some ()
  | _ => none
theorem decAlaw12_works_ok (l : List AV) (a : Alaw12_works) (h : decAlaw12_works l = some a) : l = argslaw12_works a := by
  unfold decAlaw12_works at h
  split at h
  · cases h; rfl
  · cases h
def rendlaw12_works : Alaw12_works → Ylaw12_works → AV := fun _ => fun r_y => AV.bool r_y
theorem rendlaw12_works_ok : ∀ (a : Alaw12_works) (y : Ylaw12_works), (rendlaw12_works a y).closed1 = true := by
  rintro z y <;> first | rfl | exact Empty.elim y
theorem fnlaw12_works_ok (a : Alaw12_works) : fnE Try.tab envlaw12_works noHint 0 70 4 Try.f4.ntmps Try.f4.results.toList annlaw12_works blaw12_works (argslaw12_works a) [] (fun v _ => some (v, [])) = fnlaw12_works a (fun y => some (rendlaw12_works a y, [])) := by kernel_rfl
def vFlaw12_works (a : Alaw12_works) (K : AV → Ans) : Ans := bindO (fnDlaw12_works a) fun y => K (rendlaw12_works a y)
def Flaw12_works : List AV → (AV → Ans) → Ans := fun l K => bindO (decAlaw12_works l) fun a => vFlaw12_works a K
theorem Flaw12_works_ok : PureOk Try.prog 4 Flaw12_works := pure_mkD (hint := noHint) (d := 0) (n := 70) mixed tabOk envlaw12_worksOk Try.func4 (bodySome (by kernel_rfl)) (by decide +kernel) annlaw12_works_ok decAlaw12_works_ok fnlaw12_works_ok fnlaw12_works_nat rendlaw12_works_ok
--@ ref08_New
noncomputable def envref08_New : Env := []
theorem envref08_NewOk : EnvOk Try.prog envref08_New := EnvOk.nil
noncomputable def bref08_New : Code := Try.f15.body.getD .skip
noncomputable def Lref08_New_n0 : Code := codeAt [1, 1, 0, 1, 0, 0] bref08_New
noncomputable def annLref08_New_n0 : Ann := .at 0 [0, 3, 4] (.loop .none)
theorem annLref08_New_n0_ok : AnnOk Try.prog 35 (.loop Lref08_New_n0) annLref08_New_n0 := annOk_at (annOk_none _ _ _)
abbrev Iref08_New_n0 := (Int)
abbrev Yref08_New_n0 := (List (List UInt8))
abbrev Vref08_New_n0 := (Int) × (List (List UInt8))
def Sref08_New_n0 : Iref08_New_n0 → Vref08_New_n0 → St := fun t0 (t4, o1) => { env := [(0, AV.int IntKind.i64 t0), (3, AV.ptr 0 0), (4, AV.int IntKind.i64 t4)], stk := [[]], H := [AE.Obj.cells [AV.own 1, AV.own 2, AV.own 3, AV.int IntKind.i64 (0), AV.own 4, AV.int IntKind.i64 (0), AV.bool (false)], Obj.arr Ty.str o1, Obj.arr Ty.str ([]), Obj.arr (Ty.st (Ty.pair (Ty.int IntKind.i64) Ty.str)) ([]), Obj.arr (Ty.int IntKind.i64) ([])], blk := 61440 }
def decref08_New_n0 (s : St) : Option (Iref08_New_n0 × Vref08_New_n0) := match s with
  | { env := [(0, AV.int IntKind.i64 t0), (3, AV.ptr 0 0), (4, AV.int IntKind.i64 t4)], stk := [[]], H := [AE.Obj.cells [AV.own 1, AV.own 2, AV.own 3, AV.int IntKind.i64 r2, AV.own 4, AV.int IntKind.i64 r3, AV.bool r4], Obj.arr Ty.str o1, Obj.arr Ty.str r6, Obj.arr (Ty.st (Ty.pair (Ty.int IntKind.i64) Ty.str)) r7, Obj.arr (Ty.int IntKind.i64) r8], blk := 61440 } => cond (decide (r2 = 0) && decide (r3 = 0) && decide (r4 = false) && decide (r6 = []) && decide (r7 = []) && decide (r8 = [])) (some (t0, (t4, o1))) none
  | _ => none
theorem decref08_New_n0_ok (s : St) (x : Iref08_New_n0 × Vref08_New_n0) (h : decref08_New_n0 s = some x) : s = Sref08_New_n0 x.1 x.2 := by
  unfold decref08_New_n0 at h
  split at h
  · replace h := cond_noneO h; obtain ⟨hg, h⟩ := h; simp only [Bool.and_eq_true, decide_eq_true_eq] at hg; simp only [hg]; cases h; rfl
  · cases h
def outref08_New_n0 : Iref08_New_n0 → (Ex → St → Ans) → Yref08_New_n0 → Ans := fun t0 K => fun o1_y => K (Ex.exit 0) { env := [(3, AV.ptr 0 0)], stk := [[]], H := [AE.Obj.cells [AV.own 1, AV.own 2, AV.own 3, AV.int IntKind.i64 (0), AV.own 4, AV.int IntKind.i64 (0), AV.bool (false)], Obj.arr Ty.str o1_y, Obj.arr Ty.str ([]), Obj.arr (Ty.st (Ty.pair (Ty.int IntKind.i64) Ty.str)) ([]), Obj.arr (Ty.int IntKind.i64) ([])], blk := 61440 }
def stepref08_New_n0 {β : Type} : Iref08_New_n0 → Vref08_New_n0 → (Vref08_New_n0 → Option β) → (Yref08_New_n0 → Option β) → Option β := fun t0 (t4, o1) next exit => (bif decide (t4 < if (1000 : Int) < if (0 : Int) > t0 then (0 : Int) else t0 then (1000 : Int) else if (0 : Int) > t0 then (0 : Int) else t0) then (bif Nat.ble ((List.length o1 + (1 : Nat)) * (16 : Nat)) (140737488355328 : Nat) then (next (IntKind.wrap IntKind.i64 (t4 + (1 : Int)), o1 ++ [[(0 : UInt8), (0 : UInt8), (0 : UInt8), (0 : UInt8), (0 : UInt8), (0 : UInt8), (0 : UInt8), (0 : UInt8), (0 : UInt8), (0 : UInt8), (0 : UInt8), (0 : UInt8), (0 : UInt8), (0 : UInt8), (0 : UInt8), (0 : UInt8), (0 : UInt8), (0 : UInt8), (0 : UInt8), (0 : UInt8), (0 : UInt8), (0 : UInt8), (0 : UInt8), (0 : UInt8), (0 : UInt8), (0 : UInt8), (0 : UInt8), (0 : UInt8), (0 : UInt8), (0 : UInt8), (0 : UInt8), (0 : UInt8), (0 : UInt8), (0 : UInt8), (0 : UInt8), (0 : UInt8), (0 : UInt8), (0 : UInt8), (0 : UInt8), (0 : UInt8), (0 : UInt8), (0 : UInt8), (0 : UInt8), (0 : UInt8), (0 : UInt8), (0 : UInt8), (0 : UInt8), (0 : UInt8), (0 : UInt8), (0 : UInt8), (0 : UInt8), (0 : UInt8), (0 : UInt8), (0 : UInt8), (0 : UInt8), (0 : UInt8), (0 : UInt8), (0 : UInt8), (0 : UInt8), (0 : UInt8), (0 : UInt8), (0 : UInt8), (0 : UInt8), (0 : UInt8)]])) else none) else (exit (o1)))
def stepDref08_New_n0 (i : Iref08_New_n0) (v : Vref08_New_n0) : Option (Vref08_New_n0 ⊕ Yref08_New_n0) := stepref08_New_n0 i v (fun v => some (.inl v)) (fun y => some (.inr y))
theorem stepref08_New_n0_nat (i : Iref08_New_n0) (v : Vref08_New_n0) (next : Vref08_New_n0 → Ans) (exit : Yref08_New_n0 → Ans) : stepref08_New_n0 i v next exit = bindO (stepDref08_New_n0 i v) (Sum.elim next exit) := by
  obtain z := i
  obtain ⟨t4, o1⟩ := v
  simp only [stepDref08_New_n0, stepref08_New_n0, bindO_cond, bindO_assoc, bindO_none, bindO_pure, bindO_elim, bindO_unP, Sum.elim_inl, Sum.elim_inr]
theorem stepref08_New_n0_ok (n : Nat) (i : Iref08_New_n0) (v : Vref08_New_n0) (K : Ex → St → Ans) : codeI Try.tab envref08_New noHint (codeD Try.tab envref08_New noHint 0 64) (n+1) 35 annLref08_New_n0 (.loop Lref08_New_n0) (weakP 0 (exk [3] [2] [(0, [3])]) K) (Sref08_New_n0 i v) = stepref08_New_n0 i v (fun v' => codeI Try.tab envref08_New noHint (codeD Try.tab envref08_New noHint 0 64) n 35 annLref08_New_n0 (.loop Lref08_New_n0) (weakP 0 (exk [3] [2] [(0, [3])]) K) (Sref08_New_n0 i v')) (fun y => outref08_New_n0 i K y) := by kernel_rfl
theorem GNref08_New_n0_ok : CSum Try.prog 35 (.loop Lref08_New_n0) (sumL decref08_New_n0 stepDref08_New_n0 outref08_New_n0) := csum_loop mixed tabOk envref08_NewOk 0 (exk [3] [2] [(0, [3])]) annLref08_New_n0_ok decref08_New_n0_ok stepref08_New_n0_ok stepref08_New_n0_nat
noncomputable def Gref08_New_n0 : (Ex → St → Ans) → St → Ans := (sumL decref08_New_n0 stepDref08_New_n0 outref08_New_n0)
theorem Gref08_New_n0_ok : CSum Try.prog 35 (.loop Lref08_New_n0) Gref08_New_n0 := GNref08_New_n0_ok
noncomputable def annref08_New : Ann := (.seq .none (.seq .none (.seq (.seq .none (.block (.cut 0 [0, 3, 4] Gref08_New_n0))) .none)))
theorem annref08_New_ok : AnnOk Try.prog 35 bref08_New annref08_New := ⟨(annOk_none _ _ _), ⟨(annOk_none _ _ _), ⟨⟨(annOk_none _ _ _), Gref08_New_n0_ok⟩, (annOk_none _ _ _)⟩⟩⟩
abbrev Aref08_New := (Int)
abbrev Yref08_New := (List (List UInt8)) × (List (List UInt8))
def fnref08_New {β : Type} : Aref08_New → (Yref08_New → Option β) → Option β := fun a0 exit => (bindO (loopD (stepDref08_New_n0 (a0)) FUEL ((0 : Int), [])) fun o1 => (bif Nat.ble (((0 : Nat) + List.length o1) * (16 : Nat)) (140737488355328 : Nat) then (exit (o1, o1)) else none))
def fnDref08_New (a : Aref08_New) : Option Yref08_New := fnref08_New a some
theorem fnref08_New_nat (a : Aref08_New) (k : Yref08_New → Ans) : fnref08_New a k = bindO (fnDref08_New a) k := by
  obtain z := a
  simp only [fnDref08_New, fnref08_New, bindO_cond, bindO_assoc, bindO_none, bindO_pure, bindO_elim, bindO_unP]
def argsref08_New : Aref08_New → List AV × List AE.Obj := fun a0 => ([AV.int IntKind.i64 a0], [])
def decAref08_New (l : List AV) (H : List AE.Obj) : Option Aref08_New := match l, H with
  | [AV.int IntKind.i64 a0], [] => some (a0)
  | _, _ => none
theorem decAref08_New_ok (l : List AV) (H : List AE.Obj) (a : Aref08_New) (h : decAref08_New l H = some a) : (l, H) = argsref08_New a := by
  unfold decAref08_New at h
  split at h
  · cases h; rfl
  · cases h
def outref08_New : Aref08_New → (AV → List AE.Obj → Ans) → Yref08_New → Ans := fun a0 K => unP fun o1_y o2_y => K (AV.ptr 0 0) [AE.Obj.cells [AV.own 1, AV.own 2, AV.own 3, AV.int IntKind.i64 (0), AV.own 4, AV.int IntKind.i64 (0), AV.bool (false)], Obj.arr Ty.str o1_y, Obj.arr Ty.str o2_y, Obj.arr (Ty.st (Ty.pair (Ty.int IntKind.i64) Ty.str)) ([]), Obj.arr (Ty.int IntKind.i64) ([])]
theorem fnref08_New_ok (a : Aref08_New) (K : AV → List AE.Obj → Ans) : fnE Try.tab envref08_New noHint 0 70 15 Try.f15.ntmps Try.f15.results.toList annref08_New bref08_New (argsref08_New a).1 (argsref08_New a).2 K = fnref08_New a (outref08_New a K) := by kernel_rfl
def vFref08_New (a : Aref08_New) (K : AV → List AE.Obj → Ans) : Ans := bindO (fnDref08_New a) fun y => outref08_New a K y
def Fref08_New : List AV → List AE.Obj → (AV → List AE.Obj → Ans) → Ans := fun l H K => bindO (decAref08_New l H) fun a => vFref08_New a K
theorem Fref08_New_ok : FuncOk Try.prog 15 Fref08_New := func_mkD (hint := noHint) (d := 0) (n := 70) mixed tabOk envref08_NewOk Try.func15 (bodySome (by kernel_rfl)) (by decide +kernel) annref08_New_ok decAref08_New_ok fnref08_New_ok fnref08_New_nat
--@ ref09_New
noncomputable def envref09_New : Env := []
theorem envref09_NewOk : EnvOk Try.prog envref09_New := EnvOk.nil
noncomputable def bref09_New : Code := Try.f16.body.getD .skip
noncomputable def Lref09_New_n0 : Code := codeAt [1, 0, 0] bref09_New
noncomputable def annLref09_New_n0 : Ann := .none
theorem annLref09_New_n0_ok : AnnOk Try.prog 39 Lref09_New_n0 annLref09_New_n0 := (annOk_none _ _ _)
abbrev Iref09_New_n0 := (Int) × (Int) × (Int) × (Int) × (Bool) × (List (List UInt8)) × (List (List UInt8)) × (List (Int × List UInt8)) × (List Int)
abbrev Yref09_New_n0 := (Bool)
def Sref09_New_n0 : Iref09_New_n0 → St := fun (t1, t2, o0_3, o0_5, o0_6, o1, o2, o3, o4) => { env := [(0, AV.ptr 0 0), (1, AV.int IntKind.i64 t1), (2, AV.int IntKind.i64 t2)], stk := [[(0, AV.ptr 0 0)]], H := [AE.Obj.cells [AV.own 1, AV.own 2, AV.own 3, AV.int IntKind.i64 o0_3, AV.own 4, AV.int IntKind.i64 o0_5, AV.bool o0_6], Obj.arr Ty.str o1, Obj.arr Ty.str o2, Obj.arr (Ty.st (Ty.pair (Ty.int IntKind.i64) Ty.str)) o3, Obj.arr (Ty.int IntKind.i64) o4], blk := 65536 }
def decref09_New_n0 (s : St) : Option Iref09_New_n0 := match s with
  | { env := [(0, AV.ptr 0 0), (1, AV.int IntKind.i64 t1), (2, AV.int IntKind.i64 t2)], stk := [[(0, AV.ptr 0 0)]], H := [AE.Obj.cells [AV.own 1, AV.own 2, AV.own 3, AV.int IntKind.i64 o0_3, AV.own 4, AV.int IntKind.i64 o0_5, AV.bool o0_6], Obj.arr Ty.str o1, Obj.arr Ty.str o2, Obj.arr (Ty.st (Ty.pair (Ty.int IntKind.i64) Ty.str)) o3, Obj.arr (Ty.int IntKind.i64) o4], blk := 65536 } => some (t1, t2, o0_3, o0_5, o0_6, o1, o2, o3, o4)
  | _ => none
theorem decref09_New_n0_ok (s : St) (x : Iref09_New_n0) (h : decref09_New_n0 s = some x) : s = Sref09_New_n0 x := by
  unfold decref09_New_n0 at h
  split at h
  · cases h; rfl
  · cases h
def outref09_New_n0 : Iref09_New_n0 → (Ex → St → Ans) → Yref09_New_n0 → Ans := fun (t1, t2, o0_3, o0_5, o0_6, o1, o2, o3, o4) K => fun t33_y => K (Ex.norm) { env := [(0, AV.ptr 0 0), (1, AV.int IntKind.i64 t1), (2, AV.int IntKind.i64 t2), (33, AV.bool t33_y)], stk := [[(0, AV.ptr 0 0)]], H := [AE.Obj.cells [AV.own 1, AV.own 2, AV.own 3, AV.int IntKind.i64 o0_3, AV.own 4, AV.int IntKind.i64 o0_5, AV.bool o0_6], Obj.arr Ty.str o1, Obj.arr Ty.str o2, Obj.arr (Ty.st (Ty.pair (Ty.int IntKind.i64) Ty.str)) o3, Obj.arr (Ty.int IntKind.i64) o4], blk := 65536 }
def noderef09_New_n0 {β : Type} : Iref09_New_n0 → (Yref09_New_n0 → Option β) → Option β := fun (t1, t2, o0_3, o0_5, o0_6, o1, o2, o3, o4) exit => (bif decide (t1 < (0 : Int)) then (exit (true)) else (bif decide (t2 < (0 : Int)) then (exit (true)) else (bif decide (t1 > (↑(List.length o2) : Int)) then (exit (true)) else (exit (decide (t2 > IntKind.wrap IntKind.i64 ((↑(List.length o2) : Int) - t1)))))))
def nodeDref09_New_n0 (i : Iref09_New_n0) : Option Yref09_New_n0 := noderef09_New_n0 i some
theorem noderef09_New_n0_nat (i : Iref09_New_n0) (k : Yref09_New_n0 → Ans) : noderef09_New_n0 i k = bindO (nodeDref09_New_n0 i) k := by
  obtain ⟨t1, t2, o0_3, o0_5, o0_6, o1, o2, o3, o4⟩ := i
  simp only [nodeDref09_New_n0, noderef09_New_n0, bindO_cond, bindO_assoc, bindO_none, bindO_pure, bindO_elim, bindO_unP]
theorem noderef09_New_n0_ok (i : Iref09_New_n0) (K : Ex → St → Ans) : codeI Try.tab envref09_New noHint (codeD Try.tab envref09_New noHint 0 64) 70 39 annLref09_New_n0 Lref09_New_n0 (weakP 5 (exk [0, 1, 2, 33] [6, 7] []) K) (Sref09_New_n0 i) = noderef09_New_n0 i (outref09_New_n0 i K) := by kernel_rfl
theorem GNref09_New_n0_ok : CSum Try.prog 39 Lref09_New_n0 (sumN decref09_New_n0 nodeDref09_New_n0 outref09_New_n0) := csum_node mixed tabOk envref09_NewOk 5 (exk [0, 1, 2, 33] [6, 7] []) annLref09_New_n0_ok decref09_New_n0_ok noderef09_New_n0_ok noderef09_New_n0_nat
noncomputable def Gref09_New_n0 : (Ex → St → Ans) → St → Ans := (sumN decref09_New_n0 nodeDref09_New_n0 outref09_New_n0)
theorem Gref09_New_n0_ok : CSum Try.prog 39 Lref09_New_n0 Gref09_New_n0 := GNref09_New_n0_ok
noncomputable def annref09_New : Ann := (.seq .none (.seq (.seq (.cut 5 [0, 1, 2] Gref09_New_n0) .none) .none))
theorem annref09_New_ok : AnnOk Try.prog 39 bref09_New annref09_New := ⟨(annOk_none _ _ _), ⟨⟨Gref09_New_n0_ok, (annOk_none _ _ _)⟩, (annOk_none _ _ _)⟩⟩
abbrev Aref09_New := (Int) × (Int) × (Int) × (Int) × (Bool) × (List (List UInt8)) × (List (List UInt8)) × (List (Int × List UInt8)) × (List Int)
abbrev Yref09_New := (Unit) ⊕ (Unit)
def fnref09_New {β : Type} : Aref09_New → (Yref09_New → Option β) → Option β := fun (a1, a2, o0_3, o0_5, o0_6, o1, o2, o3, o4) exit => (bindO (nodeDref09_New_n0 (a1, a2, o0_3, o0_5, o0_6, o1, o2, o3, o4)) fun t33 => (bif t33 then (exit (Sum.inl ())) else (exit (Sum.inr ()))))
def fnDref09_New (a : Aref09_New) : Option Yref09_New := fnref09_New a some
theorem fnref09_New_nat (a : Aref09_New) (k : Yref09_New → Ans) : fnref09_New a k = bindO (fnDref09_New a) k := by
  obtain ⟨a1, a2, o0_3, o0_5, o0_6, o1, o2, o3, o4⟩ := a
  simp only [fnDref09_New, fnref09_New, bindO_cond, bindO_assoc, bindO_none, bindO_pure, bindO_elim, bindO_unP]
def argsref09_New : Aref09_New → List AV × List AE.Obj := fun (a1, a2, o0_3, o0_5, o0_6, o1, o2, o3, o4) => ([AV.ptr 0 0, AV.int IntKind.i64 a1, AV.int IntKind.i64 a2], [AE.Obj.cells [AV.own 1, AV.own 2, AV.own 3, AV.int IntKind.i64 o0_3, AV.own 4, AV.int IntKind.i64 o0_5, AV.bool o0_6], Obj.arr Ty.str o1, Obj.arr Ty.str o2, Obj.arr (Ty.st (Ty.pair (Ty.int IntKind.i64) Ty.str)) o3, Obj.arr (Ty.int IntKind.i64) o4])
def decAref09_New (l : List AV) (H : List AE.Obj) : Option Aref09_New := match l, H with
  | [AV.ptr 0 0, AV.int IntKind.i64 a1, AV.int IntKind.i64 a2], [AE.Obj.cells [AV.own 1, AV.own 2, AV.own 3, AV.int IntKind.i64 o0_3, AV.own 4, AV.int IntKind.i64 o0_5, AV.bool o0_6], Obj.arr Ty.str o1, Obj.arr Ty.str o2, Obj.arr (Ty.st (Ty.pair (Ty.int IntKind.i64) Ty.str)) o3, Obj.arr (Ty.int IntKind.i64) o4] => some (a1, a2, o0_3, o0_5, o0_6, o1, o2, o3, o4)
  | _, _ => none
theorem decAref09_New_ok (l : List AV) (H : List AE.Obj) (a : Aref09_New) (h : decAref09_New l H = some a) : (l, H) = argsref09_New a := by
  unfold decAref09_New at h
  split at h
  · cases h; rfl
  · cases h
def outref09_New : Aref09_New → (AV → List AE.Obj → Ans) → Yref09_New → Ans := fun (a1, a2, o0_3, o0_5, o0_6, o1, o2, o3, o4) K => (Sum.elim (fun _ => K (AV.tup [AV.nilp, AV.int IntKind.i64 (3)]) [AE.Obj.cells [AV.own 1, AV.own 2, AV.own 3, AV.int IntKind.i64 o0_3, AV.own 4, AV.int IntKind.i64 o0_5, AV.bool o0_6], Obj.arr Ty.str o1, Obj.arr Ty.str o2, Obj.arr (Ty.st (Ty.pair (Ty.int IntKind.i64) Ty.str)) o3, Obj.arr (Ty.int IntKind.i64) o4]) (fun _ => K (AV.tup [AV.ptr 5 0, AV.int IntKind.i64 (0)]) [AE.Obj.cells [AV.own 1, AV.own 2, AV.own 3, AV.int IntKind.i64 o0_3, AV.own 4, AV.int IntKind.i64 o0_5, AV.bool o0_6], Obj.arr Ty.str o1, Obj.arr Ty.str o2, Obj.arr (Ty.st (Ty.pair (Ty.int IntKind.i64) Ty.str)) o3, Obj.arr (Ty.int IntKind.i64) o4, AE.Obj.cells [AV.ptr 0 0, AV.int IntKind.i64 a1, AV.int IntKind.i64 a2]]))
theorem fnref09_New_ok (a : Aref09_New) (K : AV → List AE.Obj → Ans) : fnE Try.tab envref09_New noHint 0 70 16 Try.f16.ntmps Try.f16.results.toList annref09_New bref09_New (argsref09_New a).1 (argsref09_New a).2 K = fnref09_New a (outref09_New a K) := by kernel_rfl
def vFref09_New (a : Aref09_New) (K : AV → List AE.Obj → Ans) : Ans := bindO (fnDref09_New a) fun y => outref09_New a K y
def Fref09_New : List AV → List AE.Obj → (AV → List AE.Obj → Ans) → Ans := fun l H K => bindO (decAref09_New l H) fun a => vFref09_New a K
theorem Fref09_New_ok : FuncOk Try.prog 16 Fref09_New := func_mkD (hint := noHint) (d := 0) (n := 70) mixed tabOk envref09_NewOk Try.func16 (bodySome (by kernel_rfl)) (by decide +kernel) annref09_New_ok decAref09_New_ok fnref09_New_ok fnref09_New_nat
end Go.Proofs.R4
