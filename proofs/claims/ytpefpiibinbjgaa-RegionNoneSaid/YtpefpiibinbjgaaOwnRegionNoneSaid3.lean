/- What the functions that RegionNoneSaid reaches compute: part 3. -/
import Derived.Test.YtpefpiibinbjgaaOwnRegionNoneSaid2
set_option linter.unusedVariables false
set_option linter.unusedSimpArgs false
namespace Go.Proofs.R3
open Go Go.AE
--@ ref09_Pad
noncomputable def envref09_Pad : Env := []
theorem envref09_PadOk : EnvOk Try.prog envref09_Pad := EnvOk.nil
noncomputable def bref09_Pad : Code := Try.f30.body.getD .skip
noncomputable def Lref09_Pad_n0 : Code := codeAt [1, 0, 0, 0] bref09_Pad
noncomputable def annLref09_Pad_n0 : Ann := .at 0 [0] (.loop .none)
theorem annLref09_Pad_n0_ok : AnnOk Try.prog 10 (.loop Lref09_Pad_n0) annLref09_Pad_n0 := annOk_at (annOk_none _ _ _)
abbrev Iref09_Pad_n0 := Unit
abbrev Yref09_Pad_n0 := (List UInt8)
abbrev Vref09_Pad_n0 := (List UInt8)
def Sref09_Pad_n0 : Iref09_Pad_n0 → Vref09_Pad_n0 → St := fun _ t0 => { env := [(0, AV.str t0)], stk := [[]], H := [], blk := 122880 }
def decref09_Pad_n0 (s : St) : Option (Iref09_Pad_n0 × Vref09_Pad_n0) := match s with
  | { env := [(0, AV.str t0)], stk := [[]], H := [], blk := 122880 } => some ((), t0)
  | _ => none
theorem decref09_Pad_n0_ok (s : St) (x : Iref09_Pad_n0 × Vref09_Pad_n0) (h : decref09_Pad_n0 s = some x) : s = Sref09_Pad_n0 x.1 x.2 := by
  unfold decref09_Pad_n0 at h
  split at h
  · cases h; rfl
  · cases h
def outref09_Pad_n0 : Iref09_Pad_n0 → (Ex → St → Ans) → Yref09_Pad_n0 → Ans := fun _ K => fun t0_y => K (Ex.exit 0) { env := [(0, AV.str t0_y)], stk := [[]], H := [], blk := 122880 }
def stepref09_Pad_n0 {β : Type} : Iref09_Pad_n0 → Vref09_Pad_n0 → (Vref09_Pad_n0 → Option β) → (Yref09_Pad_n0 → Option β) → Option β := fun _ t0 next exit => (bif Int.tmod (↑(List.length t0) : Int) (64 : Int) != (0 : Int) then (bif Nat.ble (List.length t0 + (1 : Nat)) (9223372036854775807 : Nat) then (next (t0 ++ [(0 : UInt8)])) else none) else (exit (t0)))
def stepDref09_Pad_n0 (i : Iref09_Pad_n0) (v : Vref09_Pad_n0) : Option (Vref09_Pad_n0 ⊕ Yref09_Pad_n0) := stepref09_Pad_n0 i v (fun v => some (.inl v)) (fun y => some (.inr y))
theorem stepref09_Pad_n0_nat (i : Iref09_Pad_n0) (v : Vref09_Pad_n0) (next : Vref09_Pad_n0 → Ans) (exit : Yref09_Pad_n0 → Ans) : stepref09_Pad_n0 i v next exit = bindO (stepDref09_Pad_n0 i v) (Sum.elim next exit) := by
  obtain z := i
  obtain z := v
  simp only [stepDref09_Pad_n0, stepref09_Pad_n0, bindO_cond, bindO_assoc, bindO_none, bindO_pure, bindO_elim, bindO_unP, Sum.elim_inl, Sum.elim_inr]
theorem stepref09_Pad_n0_ok (n : Nat) (i : Iref09_Pad_n0) (v : Vref09_Pad_n0) (K : Ex → St → Ans) : codeI Try.tab envref09_Pad noHint (codeD Try.tab envref09_Pad noHint 0 64) (n+1) 10 annLref09_Pad_n0 (.loop Lref09_Pad_n0) (weakP 0 (exk [0] [2] [(0, [0])]) K) (Sref09_Pad_n0 i v) = stepref09_Pad_n0 i v (fun v' => codeI Try.tab envref09_Pad noHint (codeD Try.tab envref09_Pad noHint 0 64) n 10 annLref09_Pad_n0 (.loop Lref09_Pad_n0) (weakP 0 (exk [0] [2] [(0, [0])]) K) (Sref09_Pad_n0 i v')) (fun y => outref09_Pad_n0 i K y) := by kernel_rfl
theorem GNref09_Pad_n0_ok : CSum Try.prog 10 (.loop Lref09_Pad_n0) (sumL decref09_Pad_n0 stepDref09_Pad_n0 outref09_Pad_n0) := csum_loop mixed tabOk envref09_PadOk 0 (exk [0] [2] [(0, [0])]) annLref09_Pad_n0_ok decref09_Pad_n0_ok stepref09_Pad_n0_ok stepref09_Pad_n0_nat
noncomputable def Gref09_Pad_n0 : (Ex → St → Ans) → St → Ans := (sumL decref09_Pad_n0 stepDref09_Pad_n0 outref09_Pad_n0)
theorem Gref09_Pad_n0_ok : CSum Try.prog 10 (.loop Lref09_Pad_n0) Gref09_Pad_n0 := GNref09_Pad_n0_ok
noncomputable def annref09_Pad : Ann := (.seq .none (.seq (.block (.cut 0 [0] Gref09_Pad_n0)) .none))
theorem annref09_Pad_ok : AnnOk Try.prog 10 bref09_Pad annref09_Pad := ⟨(annOk_none _ _ _), ⟨Gref09_Pad_n0_ok, (annOk_none _ _ _)⟩⟩
abbrev Aref09_Pad := (List UInt8)
abbrev Yref09_Pad := (List UInt8)
def fnref09_Pad {β : Type} : Aref09_Pad → (Yref09_Pad → Option β) → Option β := fun a0 exit => (bindO (loopD (stepDref09_Pad_n0 ()) FUEL (a0)) fun t0 => (exit (t0)))
def fnDref09_Pad (a : Aref09_Pad) : Option Yref09_Pad := fnref09_Pad a some
theorem fnref09_Pad_nat (a : Aref09_Pad) (k : Yref09_Pad → Ans) : fnref09_Pad a k = bindO (fnDref09_Pad a) k := by
  obtain z := a
  simp only [fnDref09_Pad, fnref09_Pad, bindO_cond, bindO_assoc, bindO_none, bindO_pure, bindO_elim, bindO_unP]
def argsref09_Pad : Aref09_Pad → List AV := fun a0 => [AV.str a0]
def decAref09_Pad (l : List AV) : Option Aref09_Pad := match l with
  | [AV.str a0] => some (a0)
  | _ => none
theorem decAref09_Pad_ok (l : List AV) (a : Aref09_Pad) (h : decAref09_Pad l = some a) : l = argsref09_Pad a := by
  unfold decAref09_Pad at h
  split at h
  · cases h; rfl
  · cases h
def rendref09_Pad : Aref09_Pad → Yref09_Pad → AV := fun a0 => fun r_y => AV.str r_y
theorem rendref09_Pad_ok : ∀ (a : Aref09_Pad) (y : Yref09_Pad), (rendref09_Pad a y).closed1 = true := by
  rintro z y <;> first | rfl | exact Empty.elim y
theorem fnref09_Pad_ok (a : Aref09_Pad) : fnE Try.tab envref09_Pad noHint 0 70 30 Try.f30.ntmps Try.f30.results.toList annref09_Pad bref09_Pad (argsref09_Pad a) [] (fun v _ => some (v, [])) = fnref09_Pad a (fun y => some (rendref09_Pad a y, [])) := by kernel_rfl
def vFref09_Pad (a : Aref09_Pad) (K : AV → Ans) : Ans := bindO (fnDref09_Pad a) fun y => K (rendref09_Pad a y)
def Fref09_Pad : List AV → (AV → Ans) → Ans := fun l K => bindO (decAref09_Pad l) fun a => vFref09_Pad a K
theorem Fref09_Pad_ok : PureOk Try.prog 30 Fref09_Pad := pure_mkD (hint := noHint) (d := 0) (n := 70) mixed tabOk envref09_PadOk Try.func30 (bodySome (by kernel_rfl)) (by decide +kernel) annref09_Pad_ok decAref09_Pad_ok fnref09_Pad_ok fnref09_Pad_nat rendref09_Pad_ok
--@ disk_Disk_Waits
noncomputable def envdisk_Disk_Waits : Env := []
theorem envdisk_Disk_WaitsOk : EnvOk Try.prog envdisk_Disk_Waits := EnvOk.nil
noncomputable def bdisk_Disk_Waits : Code := Try.f15.body.getD .skip
noncomputable def anndisk_Disk_Waits : Ann := .none
theorem anndisk_Disk_Waits_ok : AnnOk Try.prog 10 bdisk_Disk_Waits anndisk_Disk_Waits := (annOk_none _ _ _)
abbrev Adisk_Disk_Waits := (Int) × (Int) × (Bool) × (List (List UInt8)) × (List (Int × List UInt8)) × (List (Int × List UInt8)) × (List Int)
abbrev Ydisk_Disk_Waits := (Int)
def fndisk_Disk_Waits {β : Type} : Adisk_Disk_Waits → (Ydisk_Disk_Waits → Option β) → Option β := fun (o0_3, o0_5, o0_6, o1, o2, o3, o4) exit => (exit ((↑(List.length o3) : Int)))
def fnDdisk_Disk_Waits (a : Adisk_Disk_Waits) : Option Ydisk_Disk_Waits := fndisk_Disk_Waits a some
theorem fndisk_Disk_Waits_nat (a : Adisk_Disk_Waits) (k : Ydisk_Disk_Waits → Ans) : fndisk_Disk_Waits a k = bindO (fnDdisk_Disk_Waits a) k := by
  obtain ⟨o0_3, o0_5, o0_6, o1, o2, o3, o4⟩ := a
  simp only [fnDdisk_Disk_Waits, fndisk_Disk_Waits, bindO_cond, bindO_assoc, bindO_none, bindO_pure, bindO_elim, bindO_unP]
def argsdisk_Disk_Waits : Adisk_Disk_Waits → List AV × List AE.Obj := fun (o0_3, o0_5, o0_6, o1, o2, o3, o4) => ([AV.ptr 0 0], [AE.Obj.cells [AV.own 1, AV.map 2, AV.own 3, AV.int IntKind.i64 o0_3, AV.own 4, AV.int IntKind.i64 o0_5, AV.bool o0_6], Obj.arr Ty.str o1, Obj.mp IntKind.i64 Ty.str o2, Obj.arr (Ty.st (Ty.pair (Ty.int IntKind.i64) Ty.str)) o3, Obj.arr (Ty.int IntKind.i64) o4])
def decAdisk_Disk_Waits (l : List AV) (H : List AE.Obj) : Option Adisk_Disk_Waits := match l, H with
  | [AV.ptr 0 0], [AE.Obj.cells [AV.own 1, AV.map 2, AV.own 3, AV.int IntKind.i64 o0_3, AV.own 4, AV.int IntKind.i64 o0_5, AV.bool o0_6], Obj.arr Ty.str o1, Obj.mp IntKind.i64 Ty.str o2, Obj.arr (Ty.st (Ty.pair (Ty.int IntKind.i64) Ty.str)) o3, Obj.arr (Ty.int IntKind.i64) o4] => some (o0_3, o0_5, o0_6, o1, o2, o3, o4)
  | _, _ => none
theorem decAdisk_Disk_Waits_ok (l : List AV) (H : List AE.Obj) (a : Adisk_Disk_Waits) (h : decAdisk_Disk_Waits l H = some a) : (l, H) = argsdisk_Disk_Waits a := by
  unfold decAdisk_Disk_Waits at h
  split at h
  · cases h; rfl
  · cases h
def outdisk_Disk_Waits : Adisk_Disk_Waits → (AV → List AE.Obj → Ans) → Ydisk_Disk_Waits → Ans := fun (o0_3, o0_5, o0_6, o1, o2, o3, o4) K => fun r_y => K (AV.int IntKind.i64 r_y) [AE.Obj.cells [AV.own 1, AV.map 2, AV.own 3, AV.int IntKind.i64 o0_3, AV.own 4, AV.int IntKind.i64 o0_5, AV.bool o0_6], Obj.arr Ty.str o1, Obj.mp IntKind.i64 Ty.str o2, Obj.arr (Ty.st (Ty.pair (Ty.int IntKind.i64) Ty.str)) o3, Obj.arr (Ty.int IntKind.i64) o4]
theorem fndisk_Disk_Waits_ok (a : Adisk_Disk_Waits) (K : AV → List AE.Obj → Ans) : fnE Try.tab envdisk_Disk_Waits noHint 0 70 15 Try.f15.ntmps Try.f15.results.toList anndisk_Disk_Waits bdisk_Disk_Waits (argsdisk_Disk_Waits a).1 (argsdisk_Disk_Waits a).2 K = fndisk_Disk_Waits a (outdisk_Disk_Waits a K) := by kernel_rfl
def vFdisk_Disk_Waits (a : Adisk_Disk_Waits) (K : AV → List AE.Obj → Ans) : Ans := bindO (fnDdisk_Disk_Waits a) fun y => outdisk_Disk_Waits a K y
def Fdisk_Disk_Waits : List AV → List AE.Obj → (AV → List AE.Obj → Ans) → Ans := fun l H K => bindO (decAdisk_Disk_Waits l H) fun a => vFdisk_Disk_Waits a K
theorem Fdisk_Disk_Waits_ok : FuncOk Try.prog 15 Fdisk_Disk_Waits := func_mkD (hint := noHint) (d := 0) (n := 70) mixed tabOk envdisk_Disk_WaitsOk Try.func15 (bodySome (by kernel_rfl)) (by decide +kernel) anndisk_Disk_Waits_ok decAdisk_Disk_Waits_ok fndisk_Disk_Waits_ok fndisk_Disk_Waits_nat
--@ disk_Disk_Read
noncomputable def envdisk_Disk_Read : Env := [(59, .func Fdisk_Disk_call), (60, .func Fdisk_Disk_there)]
theorem envdisk_Disk_ReadOk : EnvOk Try.prog envdisk_Disk_Read := EnvOk.cons Fdisk_Disk_call_ok (EnvOk.cons Fdisk_Disk_there_ok (EnvOk.nil))
noncomputable def bdisk_Disk_Read : Code := Try.f17.body.getD .skip
noncomputable def anndisk_Disk_Read : Ann := .none
theorem anndisk_Disk_Read_ok : AnnOk Try.prog 42 bdisk_Disk_Read anndisk_Disk_Read := (annOk_none _ _ _)
abbrev Adisk_Disk_Read := (Int) × (Int) × (Int) × (Bool) × (List (List UInt8)) × (List (Int × List UInt8)) × (List (Int × List UInt8)) × (List Int)
abbrev Ydisk_Disk_Read := (List UInt8) × (Int) × (Int) × (Bool)
def fndisk_Disk_Read {β : Type} : Adisk_Disk_Read → (Ydisk_Disk_Read → Option β) → Option β := fun (a1, o0_3, o0_5, o0_6, o1, o2, o3, o4) exit => (bindO (fnDdisk_Disk_call (o0_3, o0_5, o0_6, o1, o2, o3, o4)) (unP fun r_0 => unP fun r_1 => unP fun o0_3_2 o0_6_2 => (bif r_0 != (0 : Int) then (exit ([], r_0, o0_3_2, o0_6_2)) else (bindO (fnDdisk_Disk_there (a1, o0_3_2, o0_5, o0_6_2, o1, o2, o3, o4)) fun r => (bif !r then (exit ([], (3 : Int), o0_3_2, o0_6_2)) else (bif mhas a1 o2 then (exit (mget a1 [] o2, (0 : Int), o0_3_2, o0_6_2)) else (bif inR a1 (List.length o1) then (bindO (o1[Int.toNat a1]?) fun x => (exit (x, (0 : Int), o0_3_2, o0_6_2))) else none)))))))
def fnDdisk_Disk_Read (a : Adisk_Disk_Read) : Option Ydisk_Disk_Read := fndisk_Disk_Read a some
theorem fndisk_Disk_Read_nat (a : Adisk_Disk_Read) (k : Ydisk_Disk_Read → Ans) : fndisk_Disk_Read a k = bindO (fnDdisk_Disk_Read a) k := by
  obtain ⟨a1, o0_3, o0_5, o0_6, o1, o2, o3, o4⟩ := a
  simp only [fnDdisk_Disk_Read, fndisk_Disk_Read, bindO_cond, bindO_assoc, bindO_none, bindO_pure, bindO_elim, bindO_unP]
def argsdisk_Disk_Read : Adisk_Disk_Read → List AV × List AE.Obj := fun (a1, o0_3, o0_5, o0_6, o1, o2, o3, o4) => ([AV.ptr 0 0, AV.int IntKind.i64 a1], [AE.Obj.cells [AV.own 1, AV.map 2, AV.own 3, AV.int IntKind.i64 o0_3, AV.own 4, AV.int IntKind.i64 o0_5, AV.bool o0_6], Obj.arr Ty.str o1, Obj.mp IntKind.i64 Ty.str o2, Obj.arr (Ty.st (Ty.pair (Ty.int IntKind.i64) Ty.str)) o3, Obj.arr (Ty.int IntKind.i64) o4])
def decAdisk_Disk_Read (l : List AV) (H : List AE.Obj) : Option Adisk_Disk_Read := match l, H with
  | [AV.ptr 0 0, AV.int IntKind.i64 a1], [AE.Obj.cells [AV.own 1, AV.map 2, AV.own 3, AV.int IntKind.i64 o0_3, AV.own 4, AV.int IntKind.i64 o0_5, AV.bool o0_6], Obj.arr Ty.str o1, Obj.mp IntKind.i64 Ty.str o2, Obj.arr (Ty.st (Ty.pair (Ty.int IntKind.i64) Ty.str)) o3, Obj.arr (Ty.int IntKind.i64) o4] => some (a1, o0_3, o0_5, o0_6, o1, o2, o3, o4)
  | _, _ => none
theorem decAdisk_Disk_Read_ok (l : List AV) (H : List AE.Obj) (a : Adisk_Disk_Read) (h : decAdisk_Disk_Read l H = some a) : (l, H) = argsdisk_Disk_Read a := by
  unfold decAdisk_Disk_Read at h
  split at h
  · cases h; rfl
  · cases h
def outdisk_Disk_Read : Adisk_Disk_Read → (AV → List AE.Obj → Ans) → Ydisk_Disk_Read → Ans := fun (a1, o0_3, o0_5, o0_6, o1, o2, o3, o4) K => unP fun r_0_y => unP fun r_1_y => unP fun o0_3_y o0_6_y => K (AV.tup [AV.str r_0_y, AV.int IntKind.i64 r_1_y]) [AE.Obj.cells [AV.own 1, AV.map 2, AV.own 3, AV.int IntKind.i64 o0_3_y, AV.own 4, AV.int IntKind.i64 o0_5, AV.bool o0_6_y], Obj.arr Ty.str o1, Obj.mp IntKind.i64 Ty.str o2, Obj.arr (Ty.st (Ty.pair (Ty.int IntKind.i64) Ty.str)) o3, Obj.arr (Ty.int IntKind.i64) o4]
theorem fndisk_Disk_Read_ok (a : Adisk_Disk_Read) (K : AV → List AE.Obj → Ans) : fnE Try.tab envdisk_Disk_Read noHint 0 70 17 Try.f17.ntmps Try.f17.results.toList anndisk_Disk_Read bdisk_Disk_Read (argsdisk_Disk_Read a).1 (argsdisk_Disk_Read a).2 K = fndisk_Disk_Read a (outdisk_Disk_Read a K) := by kernel_rfl
def vFdisk_Disk_Read (a : Adisk_Disk_Read) (K : AV → List AE.Obj → Ans) : Ans := bindO (fnDdisk_Disk_Read a) fun y => outdisk_Disk_Read a K y
def Fdisk_Disk_Read : List AV → List AE.Obj → (AV → List AE.Obj → Ans) → Ans := fun l H K => bindO (decAdisk_Disk_Read l H) fun a => vFdisk_Disk_Read a K
theorem Fdisk_Disk_Read_ok : FuncOk Try.prog 17 Fdisk_Disk_Read := func_mkD (hint := noHint) (d := 0) (n := 70) mixed tabOk envdisk_Disk_ReadOk Try.func17 (bodySome (by kernel_rfl)) (by decide +kernel) anndisk_Disk_Read_ok decAdisk_Disk_Read_ok fndisk_Disk_Read_ok fndisk_Disk_Read_nat
--@ strings_Builder_WriteString
noncomputable def envstrings_Builder_WriteString : Env := [(86, .func FBuilder_copyCheck)]
theorem envstrings_Builder_WriteStringOk : EnvOk Try.prog envstrings_Builder_WriteString := EnvOk.cons FBuilder_copyCheck_ok (EnvOk.nil)
noncomputable def bstrings_Builder_WriteString : Code := Try.f68.body.getD .skip
noncomputable def annstrings_Builder_WriteString : Ann := .none
theorem annstrings_Builder_WriteString_ok : AnnOk Try.prog 19 bstrings_Builder_WriteString annstrings_Builder_WriteString := (annOk_none _ _ _)
abbrev Astrings_Builder_WriteString := (List UInt8) × (List Int)
abbrev Ystrings_Builder_WriteString := (Int) × (List Int)
def fnstrings_Builder_WriteString {β : Type} : Astrings_Builder_WriteString → (Ystrings_Builder_WriteString → Option β) → Option β := fun (a1, o1) exit => (bindO (fnDBuilder_copyCheck (o1)) fun o1_2 => (bif Nat.ble ((List.length o1_2 + List.length (intsOf a1)) * (1 : Nat)) (140737488355328 : Nat) then (exit ((↑(List.length a1) : Int), o1_2 ++ intsOf a1)) else none))
def fnDstrings_Builder_WriteString (a : Astrings_Builder_WriteString) : Option Ystrings_Builder_WriteString := fnstrings_Builder_WriteString a some
theorem fnstrings_Builder_WriteString_nat (a : Astrings_Builder_WriteString) (k : Ystrings_Builder_WriteString → Ans) : fnstrings_Builder_WriteString a k = bindO (fnDstrings_Builder_WriteString a) k := by
  obtain ⟨a1, o1⟩ := a
  simp only [fnDstrings_Builder_WriteString, fnstrings_Builder_WriteString, bindO_cond, bindO_assoc, bindO_none, bindO_pure, bindO_elim, bindO_unP]
def argsstrings_Builder_WriteString : Astrings_Builder_WriteString → List AV × List AE.Obj := fun (a1, o1) => ([AV.ptr 0 0, AV.str a1], [Obj.bcells [AV.own 1], Obj.arr (Ty.int IntKind.u8) o1])
def decAstrings_Builder_WriteString (l : List AV) (H : List AE.Obj) : Option Astrings_Builder_WriteString := match l, H with
  | [AV.ptr 0 0, AV.str a1], [Obj.bcells [AV.own 1], Obj.arr (Ty.int IntKind.u8) o1] => some (a1, o1)
  | _, _ => none
theorem decAstrings_Builder_WriteString_ok (l : List AV) (H : List AE.Obj) (a : Astrings_Builder_WriteString) (h : decAstrings_Builder_WriteString l H = some a) : (l, H) = argsstrings_Builder_WriteString a := by
  unfold decAstrings_Builder_WriteString at h
  split at h
  · cases h; rfl
  · cases h
def outstrings_Builder_WriteString : Astrings_Builder_WriteString → (AV → List AE.Obj → Ans) → Ystrings_Builder_WriteString → Ans := fun (a1, o1) K => unP fun r_0_y o1_y => K (AV.tup [AV.int IntKind.i64 r_0_y, AV.nili]) [Obj.bcells [AV.own 1], Obj.arr (Ty.int IntKind.u8) o1_y]
theorem fnstrings_Builder_WriteString_ok (a : Astrings_Builder_WriteString) (K : AV → List AE.Obj → Ans) : fnE Try.tab envstrings_Builder_WriteString noHint 0 70 68 Try.f68.ntmps Try.f68.results.toList annstrings_Builder_WriteString bstrings_Builder_WriteString (argsstrings_Builder_WriteString a).1 (argsstrings_Builder_WriteString a).2 K = fnstrings_Builder_WriteString a (outstrings_Builder_WriteString a K) := by kernel_rfl
def vFstrings_Builder_WriteString (a : Astrings_Builder_WriteString) (K : AV → List AE.Obj → Ans) : Ans := bindO (fnDstrings_Builder_WriteString a) fun y => outstrings_Builder_WriteString a K y
def Fstrings_Builder_WriteString : List AV → List AE.Obj → (AV → List AE.Obj → Ans) → Ans := fun l H K => bindO (decAstrings_Builder_WriteString l H) fun a => vFstrings_Builder_WriteString a K
theorem Fstrings_Builder_WriteString_ok : FuncOk Try.prog 68 Fstrings_Builder_WriteString := func_mkD (hint := noHint) (d := 0) (n := 70) mixed tabOk envstrings_Builder_WriteStringOk Try.func68 (bodySome (by kernel_rfl)) (by decide +kernel) annstrings_Builder_WriteString_ok decAstrings_Builder_WriteString_ok fnstrings_Builder_WriteString_ok fnstrings_Builder_WriteString_nat
--@ region_Region_Read
noncomputable def envregion_Region_Read : Env := [(69, .func FBuilder_String), (67, .pure Fregion_inside), (17, .func Fdisk_Disk_Read), (68, .func Fstrings_Builder_WriteString)]
theorem envregion_Region_ReadOk : EnvOk Try.prog envregion_Region_Read := EnvOk.cons FBuilder_String_ok (EnvOk.cons Fregion_inside_ok (EnvOk.cons Fdisk_Disk_Read_ok (EnvOk.cons Fstrings_Builder_WriteString_ok (EnvOk.nil))))
noncomputable def bregion_Region_Read : Code := Try.f32.body.getD .skip
noncomputable def Lregion_Region_Read_n0 : Code := codeAt [1, 1, 1, 0, 1, 0, 0] bregion_Region_Read
noncomputable def annLregion_Region_Read_n0 : Ann := .at 6 [0, 1, 8, 24, 25] (.loop .none)
theorem annLregion_Region_Read_n0_ok : AnnOk Try.prog 51 (.loop Lregion_Region_Read_n0) annLregion_Region_Read_n0 := annOk_at (annOk_none _ _ _)
abbrev Iregion_Region_Read_n0 := (Int) × (Int) × (Int) × (Int) × (Int) × (List (List UInt8)) × (List (Int × List UInt8)) × (List (Int × List UInt8)) × (List Int)
abbrev Yregion_Region_Read_n0 := ((Int) × (Int) × (Bool)) ⊕ ((Int) × (Bool) × (List Int))
abbrev Vregion_Region_Read_n0 := (Int) × (Int) × (Bool) × (List Int)
def Sregion_Region_Read_n0 : Iregion_Region_Read_n0 → Vregion_Region_Read_n0 → St := fun (t1, t24, o0_1, o0_2, o1_5, o2, o3, o4, o5) (t25, o1_3, o1_6, o7) => { env := [(0, AV.ptr 0 0), (1, AV.int IntKind.i64 t1), (8, AV.ptr 6 0), (24, AV.int IntKind.i64 t24), (25, AV.int IntKind.i64 t25)], stk := [[(0, AV.ptr 0 0), (1, AV.ptr 1 0)]], H := [AE.Obj.cells [AV.ptr 1 0, AV.int IntKind.i64 o0_1, AV.int IntKind.i64 o0_2], AE.Obj.cells [AV.own 2, AV.map 3, AV.own 4, AV.int IntKind.i64 o1_3, AV.own 5, AV.int IntKind.i64 o1_5, AV.bool o1_6], Obj.arr Ty.str o2, Obj.mp IntKind.i64 Ty.str o3, Obj.arr (Ty.st (Ty.pair (Ty.int IntKind.i64) Ty.str)) o4, Obj.arr (Ty.int IntKind.i64) o5, Obj.bcells [AV.own 7], Obj.arr (Ty.int IntKind.u8) o7], blk := 131073 }
def decregion_Region_Read_n0 (s : St) : Option (Iregion_Region_Read_n0 × Vregion_Region_Read_n0) := match s with
  | { env := [(0, AV.ptr 0 0), (1, AV.int IntKind.i64 t1), (8, AV.ptr 6 0), (24, AV.int IntKind.i64 t24), (25, AV.int IntKind.i64 t25)], stk := [[(0, AV.ptr 0 0), (1, AV.ptr 1 0)]], H := [AE.Obj.cells [AV.ptr 1 0, AV.int IntKind.i64 o0_1, AV.int IntKind.i64 o0_2], AE.Obj.cells [AV.own 2, AV.map 3, AV.own 4, AV.int IntKind.i64 o1_3, AV.own 5, AV.int IntKind.i64 o1_5, AV.bool o1_6], Obj.arr Ty.str o2, Obj.mp IntKind.i64 Ty.str o3, Obj.arr (Ty.st (Ty.pair (Ty.int IntKind.i64) Ty.str)) o4, Obj.arr (Ty.int IntKind.i64) o5, Obj.bcells [AV.own 7], Obj.arr (Ty.int IntKind.u8) o7], blk := 131073 } => some ((t1, t24, o0_1, o0_2, o1_5, o2, o3, o4, o5), (t25, o1_3, o1_6, o7))
  | _ => none
theorem decregion_Region_Read_n0_ok (s : St) (x : Iregion_Region_Read_n0 × Vregion_Region_Read_n0) (h : decregion_Region_Read_n0 s = some x) : s = Sregion_Region_Read_n0 x.1 x.2 := by
  unfold decregion_Region_Read_n0 at h
  split at h
  · cases h; rfl
  · cases h
def outregion_Region_Read_n0 : Iregion_Region_Read_n0 → (Ex → St → Ans) → Yregion_Region_Read_n0 → Ans := fun (t1, t24, o0_1, o0_2, o1_5, o2, o3, o4, o5) K => (Sum.elim (unP fun t7_y => unP fun o1_3_y o1_6_y => K (Ex.ret) { env := [(6, AV.str ([])), (7, AV.int IntKind.i64 t7_y)], stk := [[(0, AV.ptr 0 0), (1, AV.ptr 1 0)]], H := [AE.Obj.cells [AV.ptr 1 0, AV.int IntKind.i64 o0_1, AV.int IntKind.i64 o0_2], AE.Obj.cells [AV.own 2, AV.map 3, AV.own 4, AV.int IntKind.i64 o1_3_y, AV.own 5, AV.int IntKind.i64 o1_5, AV.bool o1_6_y], Obj.arr Ty.str o2, Obj.mp IntKind.i64 Ty.str o3, Obj.arr (Ty.st (Ty.pair (Ty.int IntKind.i64) Ty.str)) o4, Obj.arr (Ty.int IntKind.i64) o5], blk := 131074 }) (unP fun o1_3_y => unP fun o1_6_y o7_y => K (Ex.exit 1) { env := [(8, AV.ptr 6 0)], stk := [[(0, AV.ptr 0 0), (1, AV.ptr 1 0)]], H := [AE.Obj.cells [AV.ptr 1 0, AV.int IntKind.i64 o0_1, AV.int IntKind.i64 o0_2], AE.Obj.cells [AV.own 2, AV.map 3, AV.own 4, AV.int IntKind.i64 o1_3_y, AV.own 5, AV.int IntKind.i64 o1_5, AV.bool o1_6_y], Obj.arr Ty.str o2, Obj.mp IntKind.i64 Ty.str o3, Obj.arr (Ty.st (Ty.pair (Ty.int IntKind.i64) Ty.str)) o4, Obj.arr (Ty.int IntKind.i64) o5, Obj.bcells [AV.own 7], Obj.arr (Ty.int IntKind.u8) o7_y], blk := 131073 }))
def stepregion_Region_Read_n0 {β : Type} : Iregion_Region_Read_n0 → Vregion_Region_Read_n0 → (Vregion_Region_Read_n0 → Option β) → (Yregion_Region_Read_n0 → Option β) → Option β := fun (t1, t24, o0_1, o0_2, o1_5, o2, o3, o4, o5) (t25, o1_3, o1_6, o7) next exit => (bif decide (t25 < t24) then (bindO (fnDdisk_Disk_Read (IntKind.wrap IntKind.i64 (IntKind.wrap IntKind.i64 (o0_1 + t1) + t25), o1_3, o1_5, o1_6, o2, o3, o4, o5)) (unP fun r_0 => unP fun r_1 => unP fun o0_3 o0_6 => (bif r_1 != (0 : Int) then (exit (Sum.inl (r_1, o0_3, o0_6))) else (bindO (fnDstrings_Builder_WriteString (r_0, o7)) (unP fun r_0_2 o1 => (next (IntKind.wrap IntKind.i64 (t25 + (1 : Int)), o0_3, o0_6, o1))))))) else (exit (Sum.inr (o1_3, o1_6, o7))))
def stepDregion_Region_Read_n0 (i : Iregion_Region_Read_n0) (v : Vregion_Region_Read_n0) : Option (Vregion_Region_Read_n0 ⊕ Yregion_Region_Read_n0) := stepregion_Region_Read_n0 i v (fun v => some (.inl v)) (fun y => some (.inr y))
theorem stepregion_Region_Read_n0_nat (i : Iregion_Region_Read_n0) (v : Vregion_Region_Read_n0) (next : Vregion_Region_Read_n0 → Ans) (exit : Yregion_Region_Read_n0 → Ans) : stepregion_Region_Read_n0 i v next exit = bindO (stepDregion_Region_Read_n0 i v) (Sum.elim next exit) := by
  obtain ⟨t1, t24, o0_1, o0_2, o1_5, o2, o3, o4, o5⟩ := i
  obtain ⟨t25, o1_3, o1_6, o7⟩ := v
  simp only [stepDregion_Region_Read_n0, stepregion_Region_Read_n0, bindO_cond, bindO_assoc, bindO_none, bindO_pure, bindO_elim, bindO_unP, Sum.elim_inl, Sum.elim_inr]
theorem stepregion_Region_Read_n0_ok (n : Nat) (i : Iregion_Region_Read_n0) (v : Vregion_Region_Read_n0) (K : Ex → St → Ans) : codeI Try.tab envregion_Region_Read noHint (codeD Try.tab envregion_Region_Read noHint 0 64) (n+1) 51 annLregion_Region_Read_n0 (.loop Lregion_Region_Read_n0) (weakP 6 (exk [8] [6, 7] [(1, [8])]) K) (Sregion_Region_Read_n0 i v) = stepregion_Region_Read_n0 i v (fun v' => codeI Try.tab envregion_Region_Read noHint (codeD Try.tab envregion_Region_Read noHint 0 64) n 51 annLregion_Region_Read_n0 (.loop Lregion_Region_Read_n0) (weakP 6 (exk [8] [6, 7] [(1, [8])]) K) (Sregion_Region_Read_n0 i v')) (fun y => outregion_Region_Read_n0 i K y) := by kernel_rfl
theorem GNregion_Region_Read_n0_ok : CSum Try.prog 51 (.loop Lregion_Region_Read_n0) (sumL decregion_Region_Read_n0 stepDregion_Region_Read_n0 outregion_Region_Read_n0) := csum_loop mixed tabOk envregion_Region_ReadOk 6 (exk [8] [6, 7] [(1, [8])]) annLregion_Region_Read_n0_ok decregion_Region_Read_n0_ok stepregion_Region_Read_n0_ok stepregion_Region_Read_n0_nat
noncomputable def Gregion_Region_Read_n0 : (Ex → St → Ans) → St → Ans := (sumL decregion_Region_Read_n0 stepDregion_Region_Read_n0 outregion_Region_Read_n0)
theorem Gregion_Region_Read_n0_ok : CSum Try.prog 51 (.loop Lregion_Region_Read_n0) Gregion_Region_Read_n0 := GNregion_Region_Read_n0_ok
noncomputable def annregion_Region_Read : Ann := (.seq .none (.seq .none (.seq .none (.seq (.seq .none (.block (.cut 6 [0, 1, 8, 24, 25] Gregion_Region_Read_n0))) .none))))
theorem annregion_Region_Read_ok : AnnOk Try.prog 51 bregion_Region_Read annregion_Region_Read := ⟨(annOk_none _ _ _), ⟨(annOk_none _ _ _), ⟨(annOk_none _ _ _), ⟨⟨(annOk_none _ _ _), Gregion_Region_Read_n0_ok⟩, (annOk_none _ _ _)⟩⟩⟩⟩
abbrev Aregion_Region_Read := (Int) × (Int) × (Int) × (Int) × (Int) × (Int) × (Bool) × (List (List UInt8)) × (List (Int × List UInt8)) × (List (Int × List UInt8)) × (List Int)
abbrev Yregion_Region_Read := (List UInt8) × (Int) × (Int) × (Bool)
def fnregion_Region_Read {β : Type} : Aregion_Region_Read → (Yregion_Region_Read → Option β) → Option β := fun (a1, a2, o0_1, o0_2, o1_3, o1_5, o1_6, o2, o3, o4, o5) exit => (bindO (fnDregion_inside (a1, a2, o0_2)) fun r => (bif !r then (exit ([], (3 : Int), o1_3, o1_6)) else (bindO (loopD (stepDregion_Region_Read_n0 (a1, a2, o0_1, o0_2, o1_5, o2, o3, o4, o5)) FUEL ((0 : Int), o1_3, o1_6, [])) (Sum.elim (unP fun t7 => unP fun o1_3_2 o1_6_2 => (exit ([], t7, o1_3_2, o1_6_2))) (unP fun o1_3_2 => unP fun o1_6_2 o7 => (bindO (fnDBuilder_String (o7)) (unP fun r_2 o0 => (exit (r_2, (0 : Int), o1_3_2, o1_6_2)))))))))
def fnDregion_Region_Read (a : Aregion_Region_Read) : Option Yregion_Region_Read := fnregion_Region_Read a some
theorem fnregion_Region_Read_nat (a : Aregion_Region_Read) (k : Yregion_Region_Read → Ans) : fnregion_Region_Read a k = bindO (fnDregion_Region_Read a) k := by
  obtain ⟨a1, a2, o0_1, o0_2, o1_3, o1_5, o1_6, o2, o3, o4, o5⟩ := a
  simp only [fnDregion_Region_Read, fnregion_Region_Read, bindO_cond, bindO_assoc, bindO_none, bindO_pure, bindO_elim, bindO_unP]
def argsregion_Region_Read : Aregion_Region_Read → List AV × List AE.Obj := fun (a1, a2, o0_1, o0_2, o1_3, o1_5, o1_6, o2, o3, o4, o5) => ([AV.ptr 0 0, AV.int IntKind.i64 a1, AV.int IntKind.i64 a2], [AE.Obj.cells [AV.ptr 1 0, AV.int IntKind.i64 o0_1, AV.int IntKind.i64 o0_2], AE.Obj.cells [AV.own 2, AV.map 3, AV.own 4, AV.int IntKind.i64 o1_3, AV.own 5, AV.int IntKind.i64 o1_5, AV.bool o1_6], Obj.arr Ty.str o2, Obj.mp IntKind.i64 Ty.str o3, Obj.arr (Ty.st (Ty.pair (Ty.int IntKind.i64) Ty.str)) o4, Obj.arr (Ty.int IntKind.i64) o5])
def decAregion_Region_Read (l : List AV) (H : List AE.Obj) : Option Aregion_Region_Read := match l, H with
  | [AV.ptr 0 0, AV.int IntKind.i64 a1, AV.int IntKind.i64 a2], [AE.Obj.cells [AV.ptr 1 0, AV.int IntKind.i64 o0_1, AV.int IntKind.i64 o0_2], AE.Obj.cells [AV.own 2, AV.map 3, AV.own 4, AV.int IntKind.i64 o1_3, AV.own 5, AV.int IntKind.i64 o1_5, AV.bool o1_6], Obj.arr Ty.str o2, Obj.mp IntKind.i64 Ty.str o3, Obj.arr (Ty.st (Ty.pair (Ty.int IntKind.i64) Ty.str)) o4, Obj.arr (Ty.int IntKind.i64) o5] => some (a1, a2, o0_1, o0_2, o1_3, o1_5, o1_6, o2, o3, o4, o5)
  | _, _ => none
theorem decAregion_Region_Read_ok (l : List AV) (H : List AE.Obj) (a : Aregion_Region_Read) (h : decAregion_Region_Read l H = some a) : (l, H) = argsregion_Region_Read a := by
  unfold decAregion_Region_Read at h
  split at h
  · cases h; rfl
  · cases h
def outregion_Region_Read : Aregion_Region_Read → (AV → List AE.Obj → Ans) → Yregion_Region_Read → Ans := fun (a1, a2, o0_1, o0_2, o1_3, o1_5, o1_6, o2, o3, o4, o5) K => unP fun r_0_y => unP fun r_1_y => unP fun o1_3_y o1_6_y => K (AV.tup [AV.str r_0_y, AV.int IntKind.i64 r_1_y]) [AE.Obj.cells [AV.ptr 1 0, AV.int IntKind.i64 o0_1, AV.int IntKind.i64 o0_2], AE.Obj.cells [AV.own 2, AV.map 3, AV.own 4, AV.int IntKind.i64 o1_3_y, AV.own 5, AV.int IntKind.i64 o1_5, AV.bool o1_6_y], Obj.arr Ty.str o2, Obj.mp IntKind.i64 Ty.str o3, Obj.arr (Ty.st (Ty.pair (Ty.int IntKind.i64) Ty.str)) o4, Obj.arr (Ty.int IntKind.i64) o5]
theorem fnregion_Region_Read_ok (a : Aregion_Region_Read) (K : AV → List AE.Obj → Ans) : fnE Try.tab envregion_Region_Read noHint 0 70 32 Try.f32.ntmps Try.f32.results.toList annregion_Region_Read bregion_Region_Read (argsregion_Region_Read a).1 (argsregion_Region_Read a).2 K = fnregion_Region_Read a (outregion_Region_Read a K) := by kernel_rfl
def vFregion_Region_Read (a : Aregion_Region_Read) (K : AV → List AE.Obj → Ans) : Ans := bindO (fnDregion_Region_Read a) fun y => outregion_Region_Read a K y
def Fregion_Region_Read : List AV → List AE.Obj → (AV → List AE.Obj → Ans) → Ans := fun l H K => bindO (decAregion_Region_Read l H) fun a => vFregion_Region_Read a K
theorem Fregion_Region_Read_ok : FuncOk Try.prog 32 Fregion_Region_Read := func_mkD (hint := noHint) (d := 0) (n := 70) mixed tabOk envregion_Region_ReadOk Try.func32 (bodySome (by kernel_rfl)) (by decide +kernel) annregion_Region_Read_ok decAregion_Region_Read_ok fnregion_Region_Read_ok fnregion_Region_Read_nat
--@ law09_RegionOwn
noncomputable def envlaw09_RegionOwn : Env := [(12, .func Fdisk_New), (28, .func Fregion_New), (29, .pure Fregion_Pad), (31, .func Fregion_Region_Write), (27, .pure Flaw09_works), (30, .pure Fref09_Pad), (15, .func Fdisk_Disk_Waits), (17, .func Fdisk_Disk_Read), (32, .func Fregion_Region_Read)]
theorem envlaw09_RegionOwnOk : EnvOk Try.prog envlaw09_RegionOwn := EnvOk.cons Fdisk_New_ok (EnvOk.cons Fregion_New_ok (EnvOk.cons Fregion_Pad_ok (EnvOk.cons Fregion_Region_Write_ok (EnvOk.cons Flaw09_works_ok (EnvOk.cons Fref09_Pad_ok (EnvOk.cons Fdisk_Disk_Waits_ok (EnvOk.cons Fdisk_Disk_Read_ok (EnvOk.cons Fregion_Region_Read_ok (EnvOk.nil)))))))))
noncomputable def blaw09_RegionOwn : Code := Try.f6.body.getD .skip
noncomputable def Llaw09_RegionOwn_n6 : Code := codeAt [1, 1, 1, 1, 1, 1, 1, 1, 1, 1, 1, 0] blaw09_RegionOwn
noncomputable def annLlaw09_RegionOwn_n6 : Ann := .none
theorem annLlaw09_RegionOwn_n6_ok : AnnOk Try.prog 118 Llaw09_RegionOwn_n6 annLlaw09_RegionOwn_n6 := (annOk_none _ _ _)
abbrev Ilaw09_RegionOwn_n6 := (List UInt8) × (List UInt8) × (Int)
abbrev Ylaw09_RegionOwn_n6 := (Bool)
def Slaw09_RegionOwn_n6 : Ilaw09_RegionOwn_n6 → St := fun (t12, t14, t15) => { env := [(12, AV.str t12), (14, AV.str t14), (15, AV.int IntKind.i64 t15)], stk := [[]], H := [], blk := 24576 }
def declaw09_RegionOwn_n6 (s : St) : Option Ilaw09_RegionOwn_n6 := match s with
  | { env := [(12, AV.str t12), (14, AV.str t14), (15, AV.int IntKind.i64 t15)], stk := [[]], H := [], blk := 24576 } => some (t12, t14, t15)
  | _ => none
theorem declaw09_RegionOwn_n6_ok (s : St) (x : Ilaw09_RegionOwn_n6) (h : declaw09_RegionOwn_n6 s = some x) : s = Slaw09_RegionOwn_n6 x := by
  unfold declaw09_RegionOwn_n6 at h
  split at h
  · cases h; rfl
  · cases h
def outlaw09_RegionOwn_n6 : Ilaw09_RegionOwn_n6 → (Ex → St → Ans) → Ylaw09_RegionOwn_n6 → Ans := fun (t12, t14, t15) K => fun t8_y => K (Ex.norm) { env := [(8, AV.bool t8_y)], stk := [[]], H := [], blk := 24576 }
def nodelaw09_RegionOwn_n6 {β : Type} : Ilaw09_RegionOwn_n6 → (Ylaw09_RegionOwn_n6 → Option β) → Option β := fun (t12, t14, t15) exit => (bif t14 == t12 then (exit (t15 == (0 : Int))) else (exit (false)))
def nodeDlaw09_RegionOwn_n6 (i : Ilaw09_RegionOwn_n6) : Option Ylaw09_RegionOwn_n6 := nodelaw09_RegionOwn_n6 i some
theorem nodelaw09_RegionOwn_n6_nat (i : Ilaw09_RegionOwn_n6) (k : Ylaw09_RegionOwn_n6 → Ans) : nodelaw09_RegionOwn_n6 i k = bindO (nodeDlaw09_RegionOwn_n6 i) k := by
  obtain ⟨t12, t14, t15⟩ := i
  simp only [nodeDlaw09_RegionOwn_n6, nodelaw09_RegionOwn_n6, bindO_cond, bindO_assoc, bindO_none, bindO_pure, bindO_elim, bindO_unP]
theorem nodelaw09_RegionOwn_n6_ok (i : Ilaw09_RegionOwn_n6) (K : Ex → St → Ans) : codeI Try.tab envlaw09_RegionOwn noHint (codeD Try.tab envlaw09_RegionOwn noHint 0 64) 70 118 annLlaw09_RegionOwn_n6 Llaw09_RegionOwn_n6 (weakP 0 (exk [8] [8] []) K) (Slaw09_RegionOwn_n6 i) = nodelaw09_RegionOwn_n6 i (outlaw09_RegionOwn_n6 i K) := by kernel_rfl
theorem GNlaw09_RegionOwn_n6_ok : CSum Try.prog 118 Llaw09_RegionOwn_n6 (sumN declaw09_RegionOwn_n6 nodeDlaw09_RegionOwn_n6 outlaw09_RegionOwn_n6) := csum_node mixed tabOk envlaw09_RegionOwnOk 0 (exk [8] [8] []) annLlaw09_RegionOwn_n6_ok declaw09_RegionOwn_n6_ok nodelaw09_RegionOwn_n6_ok nodelaw09_RegionOwn_n6_nat
noncomputable def Glaw09_RegionOwn_n6 : (Ex → St → Ans) → St → Ans := (sumN declaw09_RegionOwn_n6 nodeDlaw09_RegionOwn_n6 outlaw09_RegionOwn_n6)
theorem Glaw09_RegionOwn_n6_ok : CSum Try.prog 118 Llaw09_RegionOwn_n6 Glaw09_RegionOwn_n6 := GNlaw09_RegionOwn_n6_ok
noncomputable def Llaw09_RegionOwn_n5 : Code := codeAt [1, 1, 1, 1, 1, 1, 1, 1, 1, 1, 0, 1, 0, 0, 1, 0, 0, 1, 1, 0] blaw09_RegionOwn
noncomputable def annLlaw09_RegionOwn_n5 : Ann := .none
theorem annLlaw09_RegionOwn_n5_ok : AnnOk Try.prog 118 Llaw09_RegionOwn_n5 annLlaw09_RegionOwn_n5 := (annOk_none _ _ _)
abbrev Ilaw09_RegionOwn_n5 := (Int) × (Int) × (List UInt8) × (Int) × (List UInt8) × (Int) × (Int) × (List UInt8) × (Int) × (Bool) × (Int) × (Bool) × (List (List UInt8)) × (List (Int × List UInt8)) × (List (Int × List UInt8))
abbrev Ylaw09_RegionOwn_n5 := (Bool)
def Slaw09_RegionOwn_n5 : Ilaw09_RegionOwn_n5 → St := fun (t0, t2, t12, t13, t14, t15, t16, t17, t18, t19, o0_3, o0_6, o1, o2, o3) => { env := [(0, AV.int IntKind.i64 t0), (2, AV.int IntKind.i64 t2), (9, AV.ptr 0 0), (12, AV.str t12), (13, AV.int IntKind.i64 t13), (14, AV.str t14), (15, AV.int IntKind.i64 t15), (16, AV.int IntKind.i64 t16), (17, AV.str t17), (18, AV.int IntKind.i64 t18), (19, AV.bool t19)], stk := [[]], H := [AE.Obj.cells [AV.own 1, AV.map 2, AV.own 3, AV.int IntKind.i64 o0_3, AV.own 4, AV.int IntKind.i64 (0), AV.bool o0_6], Obj.arr Ty.str o1, Obj.mp IntKind.i64 Ty.str o2, Obj.arr (Ty.st (Ty.pair (Ty.int IntKind.i64) Ty.str)) o3, Obj.arr (Ty.int IntKind.i64) ([])], blk := 24577 }
def declaw09_RegionOwn_n5 (s : St) : Option Ilaw09_RegionOwn_n5 := match s with
  | { env := [(0, AV.int IntKind.i64 t0), (2, AV.int IntKind.i64 t2), (9, AV.ptr 0 0), (12, AV.str t12), (13, AV.int IntKind.i64 t13), (14, AV.str t14), (15, AV.int IntKind.i64 t15), (16, AV.int IntKind.i64 t16), (17, AV.str t17), (18, AV.int IntKind.i64 t18), (19, AV.bool t19)], stk := [[]], H := [AE.Obj.cells [AV.own 1, AV.map 2, AV.own 3, AV.int IntKind.i64 o0_3, AV.own 4, AV.int IntKind.i64 r11, AV.bool o0_6], Obj.arr Ty.str o1, Obj.mp IntKind.i64 Ty.str o2, Obj.arr (Ty.st (Ty.pair (Ty.int IntKind.i64) Ty.str)) o3, Obj.arr (Ty.int IntKind.i64) r16], blk := 24577 } => cond (decide (r11 = 0) && decide (r16 = [])) (some (t0, t2, t12, t13, t14, t15, t16, t17, t18, t19, o0_3, o0_6, o1, o2, o3)) none
  | _ => none
theorem declaw09_RegionOwn_n5_ok (s : St) (x : Ilaw09_RegionOwn_n5) (h : declaw09_RegionOwn_n5 s = some x) : s = Slaw09_RegionOwn_n5 x := by
  unfold declaw09_RegionOwn_n5 at h
  split at h
  · replace h := cond_noneO h; obtain ⟨hg, h⟩ := h; simp only [Bool.and_eq_true, decide_eq_true_eq] at hg; simp only [hg]; cases h; rfl
  · cases h
def outlaw09_RegionOwn_n5 : Ilaw09_RegionOwn_n5 → (Ex → St → Ans) → Ylaw09_RegionOwn_n5 → Ans := fun (t0, t2, t12, t13, t14, t15, t16, t17, t18, t19, o0_3, o0_6, o1, o2, o3) K => fun t110_y => K (Ex.norm) { env := [(0, AV.int IntKind.i64 t0), (2, AV.int IntKind.i64 t2), (9, AV.ptr 0 0), (12, AV.str t12), (13, AV.int IntKind.i64 t13), (14, AV.str t14), (15, AV.int IntKind.i64 t15), (16, AV.int IntKind.i64 t16), (110, AV.bool t110_y)], stk := [[]], H := [AE.Obj.cells [AV.own 1, AV.map 2, AV.own 3, AV.int IntKind.i64 o0_3, AV.own 4, AV.int IntKind.i64 (0), AV.bool o0_6], Obj.arr Ty.str o1, Obj.mp IntKind.i64 Ty.str o2, Obj.arr (Ty.st (Ty.pair (Ty.int IntKind.i64) Ty.str)) o3, Obj.arr (Ty.int IntKind.i64) ([])], blk := 24577 }
def nodelaw09_RegionOwn_n5 {β : Type} : Ilaw09_RegionOwn_n5 → (Ylaw09_RegionOwn_n5 → Option β) → Option β := fun (t0, t2, t12, t13, t14, t15, t16, t17, t18, t19, o0_3, o0_6, o1, o2, o3) exit => (bif t18 != (0 : Int) then (exit (true)) else (bif !t19 then (exit (!t17 == [(0 : UInt8), (0 : UInt8), (0 : UInt8), (0 : UInt8), (0 : UInt8), (0 : UInt8), (0 : UInt8), (0 : UInt8), (0 : UInt8), (0 : UInt8), (0 : UInt8), (0 : UInt8), (0 : UInt8), (0 : UInt8), (0 : UInt8), (0 : UInt8), (0 : UInt8), (0 : UInt8), (0 : UInt8), (0 : UInt8), (0 : UInt8), (0 : UInt8), (0 : UInt8), (0 : UInt8), (0 : UInt8), (0 : UInt8), (0 : UInt8), (0 : UInt8), (0 : UInt8), (0 : UInt8), (0 : UInt8), (0 : UInt8), (0 : UInt8), (0 : UInt8), (0 : UInt8), (0 : UInt8), (0 : UInt8), (0 : UInt8), (0 : UInt8), (0 : UInt8), (0 : UInt8), (0 : UInt8), (0 : UInt8), (0 : UInt8), (0 : UInt8), (0 : UInt8), (0 : UInt8), (0 : UInt8), (0 : UInt8), (0 : UInt8), (0 : UInt8), (0 : UInt8), (0 : UInt8), (0 : UInt8), (0 : UInt8), (0 : UInt8), (0 : UInt8), (0 : UInt8), (0 : UInt8), (0 : UInt8), (0 : UInt8), (0 : UInt8), (0 : UInt8), (0 : UInt8)])) else (exit (false))))
def nodeDlaw09_RegionOwn_n5 (i : Ilaw09_RegionOwn_n5) : Option Ylaw09_RegionOwn_n5 := nodelaw09_RegionOwn_n5 i some
theorem nodelaw09_RegionOwn_n5_nat (i : Ilaw09_RegionOwn_n5) (k : Ylaw09_RegionOwn_n5 → Ans) : nodelaw09_RegionOwn_n5 i k = bindO (nodeDlaw09_RegionOwn_n5 i) k := by
  obtain ⟨t0, t2, t12, t13, t14, t15, t16, t17, t18, t19, o0_3, o0_6, o1, o2, o3⟩ := i
  simp only [nodeDlaw09_RegionOwn_n5, nodelaw09_RegionOwn_n5, bindO_cond, bindO_assoc, bindO_none, bindO_pure, bindO_elim, bindO_unP]
theorem nodelaw09_RegionOwn_n5_ok (i : Ilaw09_RegionOwn_n5) (K : Ex → St → Ans) : codeI Try.tab envlaw09_RegionOwn noHint (codeD Try.tab envlaw09_RegionOwn noHint 0 64) 70 118 annLlaw09_RegionOwn_n5 Llaw09_RegionOwn_n5 (weakP 0 (exk [0, 2, 9, 12, 13, 14, 15, 16, 110] [8] []) K) (Slaw09_RegionOwn_n5 i) = nodelaw09_RegionOwn_n5 i (outlaw09_RegionOwn_n5 i K) := by kernel_rfl
theorem GNlaw09_RegionOwn_n5_ok : CSum Try.prog 118 Llaw09_RegionOwn_n5 (sumN declaw09_RegionOwn_n5 nodeDlaw09_RegionOwn_n5 outlaw09_RegionOwn_n5) := csum_node mixed tabOk envlaw09_RegionOwnOk 0 (exk [0, 2, 9, 12, 13, 14, 15, 16, 110] [8] []) annLlaw09_RegionOwn_n5_ok declaw09_RegionOwn_n5_ok nodelaw09_RegionOwn_n5_ok nodelaw09_RegionOwn_n5_nat
noncomputable def Glaw09_RegionOwn_n5 : (Ex → St → Ans) → St → Ans := (sumN declaw09_RegionOwn_n5 nodeDlaw09_RegionOwn_n5 outlaw09_RegionOwn_n5)
theorem Glaw09_RegionOwn_n5_ok : CSum Try.prog 118 Llaw09_RegionOwn_n5 Glaw09_RegionOwn_n5 := GNlaw09_RegionOwn_n5_ok
noncomputable def Llaw09_RegionOwn_n4 : Code := codeAt [1, 1, 1, 1, 1, 1, 1, 1, 1, 1, 0, 1, 0, 0, 1, 0, 0, 1, 0] blaw09_RegionOwn
noncomputable def annLlaw09_RegionOwn_n4 : Ann := .none
theorem annLlaw09_RegionOwn_n4_ok : AnnOk Try.prog 118 Llaw09_RegionOwn_n4 annLlaw09_RegionOwn_n4 := (annOk_none _ _ _)
abbrev Ilaw09_RegionOwn_n4 := (Int) × (Int) × (List UInt8) × (Int) × (List UInt8) × (Int) × (Int) × (List UInt8) × (Int) × (Int) × (Bool) × (List (List UInt8)) × (List (Int × List UInt8)) × (List (Int × List UInt8))
abbrev Ylaw09_RegionOwn_n4 := (Bool)
def Slaw09_RegionOwn_n4 : Ilaw09_RegionOwn_n4 → St := fun (t0, t2, t12, t13, t14, t15, t16, t17, t18, o0_3, o0_6, o1, o2, o3) => { env := [(0, AV.int IntKind.i64 t0), (2, AV.int IntKind.i64 t2), (9, AV.ptr 0 0), (12, AV.str t12), (13, AV.int IntKind.i64 t13), (14, AV.str t14), (15, AV.int IntKind.i64 t15), (16, AV.int IntKind.i64 t16), (17, AV.str t17), (18, AV.int IntKind.i64 t18)], stk := [[]], H := [AE.Obj.cells [AV.own 1, AV.map 2, AV.own 3, AV.int IntKind.i64 o0_3, AV.own 4, AV.int IntKind.i64 (0), AV.bool o0_6], Obj.arr Ty.str o1, Obj.mp IntKind.i64 Ty.str o2, Obj.arr (Ty.st (Ty.pair (Ty.int IntKind.i64) Ty.str)) o3, Obj.arr (Ty.int IntKind.i64) ([])], blk := 24577 }
def declaw09_RegionOwn_n4 (s : St) : Option Ilaw09_RegionOwn_n4 := match s with
  | { env := [(0, AV.int IntKind.i64 t0), (2, AV.int IntKind.i64 t2), (9, AV.ptr 0 0), (12, AV.str t12), (13, AV.int IntKind.i64 t13), (14, AV.str t14), (15, AV.int IntKind.i64 t15), (16, AV.int IntKind.i64 t16), (17, AV.str t17), (18, AV.int IntKind.i64 t18)], stk := [[]], H := [AE.Obj.cells [AV.own 1, AV.map 2, AV.own 3, AV.int IntKind.i64 o0_3, AV.own 4, AV.int IntKind.i64 r10, AV.bool o0_6], Obj.arr Ty.str o1, Obj.mp IntKind.i64 Ty.str o2, Obj.arr (Ty.st (Ty.pair (Ty.int IntKind.i64) Ty.str)) o3, Obj.arr (Ty.int IntKind.i64) r15], blk := 24577 } => cond (decide (r10 = 0) && decide (r15 = [])) (some (t0, t2, t12, t13, t14, t15, t16, t17, t18, o0_3, o0_6, o1, o2, o3)) none
  | _ => none
theorem declaw09_RegionOwn_n4_ok (s : St) (x : Ilaw09_RegionOwn_n4) (h : declaw09_RegionOwn_n4 s = some x) : s = Slaw09_RegionOwn_n4 x := by
  unfold declaw09_RegionOwn_n4 at h
  split at h
  · replace h := cond_noneO h; obtain ⟨hg, h⟩ := h; simp only [Bool.and_eq_true, decide_eq_true_eq] at hg; simp only [hg]; cases h; rfl
  · cases h
def outlaw09_RegionOwn_n4 : Ilaw09_RegionOwn_n4 → (Ex → St → Ans) → Ylaw09_RegionOwn_n4 → Ans := fun (t0, t2, t12, t13, t14, t15, t16, t17, t18, o0_3, o0_6, o1, o2, o3) K => fun t19_y => K (Ex.norm) { env := [(0, AV.int IntKind.i64 t0), (2, AV.int IntKind.i64 t2), (9, AV.ptr 0 0), (12, AV.str t12), (13, AV.int IntKind.i64 t13), (14, AV.str t14), (15, AV.int IntKind.i64 t15), (16, AV.int IntKind.i64 t16), (17, AV.str t17), (18, AV.int IntKind.i64 t18), (19, AV.bool t19_y)], stk := [[]], H := [AE.Obj.cells [AV.own 1, AV.map 2, AV.own 3, AV.int IntKind.i64 o0_3, AV.own 4, AV.int IntKind.i64 (0), AV.bool o0_6], Obj.arr Ty.str o1, Obj.mp IntKind.i64 Ty.str o2, Obj.arr (Ty.st (Ty.pair (Ty.int IntKind.i64) Ty.str)) o3, Obj.arr (Ty.int IntKind.i64) ([])], blk := 24577 }
def nodelaw09_RegionOwn_n4 {β : Type} : Ilaw09_RegionOwn_n4 → (Ylaw09_RegionOwn_n4 → Option β) → Option β := fun (t0, t2, t12, t13, t14, t15, t16, t17, t18, o0_3, o0_6, o1, o2, o3) exit => (bif decide (IntKind.wrap IntKind.i64 (t16 - t0) ≥ t2) then (exit (decide (IntKind.wrap IntKind.i64 (IntKind.wrap IntKind.i64 (t16 - t0) - t2) < t13))) else (exit (false)))
def nodeDlaw09_RegionOwn_n4 (i : Ilaw09_RegionOwn_n4) : Option Ylaw09_RegionOwn_n4 := nodelaw09_RegionOwn_n4 i some
theorem nodelaw09_RegionOwn_n4_nat (i : Ilaw09_RegionOwn_n4) (k : Ylaw09_RegionOwn_n4 → Ans) : nodelaw09_RegionOwn_n4 i k = bindO (nodeDlaw09_RegionOwn_n4 i) k := by
  obtain ⟨t0, t2, t12, t13, t14, t15, t16, t17, t18, o0_3, o0_6, o1, o2, o3⟩ := i
  simp only [nodeDlaw09_RegionOwn_n4, nodelaw09_RegionOwn_n4, bindO_cond, bindO_assoc, bindO_none, bindO_pure, bindO_elim, bindO_unP]
theorem nodelaw09_RegionOwn_n4_ok (i : Ilaw09_RegionOwn_n4) (K : Ex → St → Ans) : codeI Try.tab envlaw09_RegionOwn noHint (codeD Try.tab envlaw09_RegionOwn noHint 0 64) 70 118 annLlaw09_RegionOwn_n4 Llaw09_RegionOwn_n4 (weakP 0 (exk [0, 2, 9, 12, 13, 14, 15, 16, 17, 18, 19] [8] []) K) (Slaw09_RegionOwn_n4 i) = nodelaw09_RegionOwn_n4 i (outlaw09_RegionOwn_n4 i K) := by kernel_rfl
theorem GNlaw09_RegionOwn_n4_ok : CSum Try.prog 118 Llaw09_RegionOwn_n4 (sumN declaw09_RegionOwn_n4 nodeDlaw09_RegionOwn_n4 outlaw09_RegionOwn_n4) := csum_node mixed tabOk envlaw09_RegionOwnOk 0 (exk [0, 2, 9, 12, 13, 14, 15, 16, 17, 18, 19] [8] []) annLlaw09_RegionOwn_n4_ok declaw09_RegionOwn_n4_ok nodelaw09_RegionOwn_n4_ok nodelaw09_RegionOwn_n4_nat
noncomputable def Glaw09_RegionOwn_n4 : (Ex → St → Ans) → St → Ans := (sumN declaw09_RegionOwn_n4 nodeDlaw09_RegionOwn_n4 outlaw09_RegionOwn_n4)
theorem Glaw09_RegionOwn_n4_ok : CSum Try.prog 118 Llaw09_RegionOwn_n4 Glaw09_RegionOwn_n4 := GNlaw09_RegionOwn_n4_ok
noncomputable def Llaw09_RegionOwn_n3 : Code := codeAt [1, 1, 1, 1, 1, 1, 1, 1, 1, 1, 0, 1, 0, 0, 1, 0] blaw09_RegionOwn
noncomputable def annLlaw09_RegionOwn_n3 : Ann := (.block (.seq .none (.seq (.cut 0 [0, 2, 9, 12, 13, 14, 15, 16, 17, 18] Glaw09_RegionOwn_n4) (.seq (.cut 0 [0, 2, 9, 12, 13, 14, 15, 16, 17, 18, 19] Glaw09_RegionOwn_n5) .none))))
theorem annLlaw09_RegionOwn_n3_ok : AnnOk Try.prog 118 Llaw09_RegionOwn_n3 annLlaw09_RegionOwn_n3 := ⟨(annOk_none _ _ _), ⟨Glaw09_RegionOwn_n4_ok, ⟨Glaw09_RegionOwn_n5_ok, (annOk_none _ _ _)⟩⟩⟩
abbrev Ilaw09_RegionOwn_n3 := (Int) × (Int) × (List UInt8) × (Int) × (List UInt8) × (Int) × (Int) × (Int) × (Bool) × (List (List UInt8)) × (List (Int × List UInt8)) × (List (Int × List UInt8))
abbrev Ylaw09_RegionOwn_n3 := (Unit) ⊕ ((Int) × (Bool))
def Slaw09_RegionOwn_n3 : Ilaw09_RegionOwn_n3 → St := fun (t0, t2, t12, t13, t14, t15, t16, o0_3, o0_6, o1, o2, o3) => { env := [(0, AV.int IntKind.i64 t0), (2, AV.int IntKind.i64 t2), (9, AV.ptr 0 0), (12, AV.str t12), (13, AV.int IntKind.i64 t13), (14, AV.str t14), (15, AV.int IntKind.i64 t15), (16, AV.int IntKind.i64 t16)], stk := [[]], H := [AE.Obj.cells [AV.own 1, AV.map 2, AV.own 3, AV.int IntKind.i64 o0_3, AV.own 4, AV.int IntKind.i64 (0), AV.bool o0_6], Obj.arr Ty.str o1, Obj.mp IntKind.i64 Ty.str o2, Obj.arr (Ty.st (Ty.pair (Ty.int IntKind.i64) Ty.str)) o3, Obj.arr (Ty.int IntKind.i64) ([])], blk := 24576 }
def declaw09_RegionOwn_n3 (s : St) : Option Ilaw09_RegionOwn_n3 := match s with
  | { env := [(0, AV.int IntKind.i64 t0), (2, AV.int IntKind.i64 t2), (9, AV.ptr 0 0), (12, AV.str t12), (13, AV.int IntKind.i64 t13), (14, AV.str t14), (15, AV.int IntKind.i64 t15), (16, AV.int IntKind.i64 t16)], stk := [[]], H := [AE.Obj.cells [AV.own 1, AV.map 2, AV.own 3, AV.int IntKind.i64 o0_3, AV.own 4, AV.int IntKind.i64 r8, AV.bool o0_6], Obj.arr Ty.str o1, Obj.mp IntKind.i64 Ty.str o2, Obj.arr (Ty.st (Ty.pair (Ty.int IntKind.i64) Ty.str)) o3, Obj.arr (Ty.int IntKind.i64) r13], blk := 24576 } => cond (decide (r8 = 0) && decide (r13 = [])) (some (t0, t2, t12, t13, t14, t15, t16, o0_3, o0_6, o1, o2, o3)) none
  | _ => none
theorem declaw09_RegionOwn_n3_ok (s : St) (x : Ilaw09_RegionOwn_n3) (h : declaw09_RegionOwn_n3 s = some x) : s = Slaw09_RegionOwn_n3 x := by
  unfold declaw09_RegionOwn_n3 at h
  split at h
  · replace h := cond_noneO h; obtain ⟨hg, h⟩ := h; simp only [Bool.and_eq_true, decide_eq_true_eq] at hg; simp only [hg]; cases h; rfl
  · cases h
def outlaw09_RegionOwn_n3 : Ilaw09_RegionOwn_n3 → (Ex → St → Ans) → Ylaw09_RegionOwn_n3 → Ans := fun (t0, t2, t12, t13, t14, t15, t16, o0_3, o0_6, o1, o2, o3) K => (Sum.elim (fun _ => K (Ex.ret) { env := [(8, AV.bool (false))], stk := [[]], H := [], blk := 24577 }) (unP fun o0_3_y o0_6_y => K (Ex.norm) { env := [(0, AV.int IntKind.i64 t0), (2, AV.int IntKind.i64 t2), (9, AV.ptr 0 0), (12, AV.str t12), (13, AV.int IntKind.i64 t13), (14, AV.str t14), (15, AV.int IntKind.i64 t15), (16, AV.int IntKind.i64 t16)], stk := [[]], H := [AE.Obj.cells [AV.own 1, AV.map 2, AV.own 3, AV.int IntKind.i64 o0_3_y, AV.own 4, AV.int IntKind.i64 (0), AV.bool o0_6_y], Obj.arr Ty.str o1, Obj.mp IntKind.i64 Ty.str o2, Obj.arr (Ty.st (Ty.pair (Ty.int IntKind.i64) Ty.str)) o3, Obj.arr (Ty.int IntKind.i64) ([])], blk := 24577 }))
def nodelaw09_RegionOwn_n3 {β : Type} : Ilaw09_RegionOwn_n3 → (Ylaw09_RegionOwn_n3 → Option β) → Option β := fun (t0, t2, t12, t13, t14, t15, t16, o0_3, o0_6, o1, o2, o3) exit => (bindO (fnDdisk_Disk_Read (t16, o0_3, (0 : Int), o0_6, o1, o2, o3, [])) (unP fun r_0 => unP fun r_1 => unP fun o0_3_2 o0_6_2 => (bindO (nodeDlaw09_RegionOwn_n4 (t0, t2, t12, t13, t14, t15, t16, r_0, r_1, o0_3_2, o0_6_2, o1, o2, o3)) fun t19 => (bindO (nodeDlaw09_RegionOwn_n5 (t0, t2, t12, t13, t14, t15, t16, r_0, r_1, t19, o0_3_2, o0_6_2, o1, o2, o3)) fun t110 => (bif t110 then (exit (Sum.inl ())) else (exit (Sum.inr (o0_3_2, o0_6_2))))))))
def nodeDlaw09_RegionOwn_n3 (i : Ilaw09_RegionOwn_n3) : Option Ylaw09_RegionOwn_n3 := nodelaw09_RegionOwn_n3 i some
theorem nodelaw09_RegionOwn_n3_nat (i : Ilaw09_RegionOwn_n3) (k : Ylaw09_RegionOwn_n3 → Ans) : nodelaw09_RegionOwn_n3 i k = bindO (nodeDlaw09_RegionOwn_n3 i) k := by
  obtain ⟨t0, t2, t12, t13, t14, t15, t16, o0_3, o0_6, o1, o2, o3⟩ := i
  simp only [nodeDlaw09_RegionOwn_n3, nodelaw09_RegionOwn_n3, bindO_cond, bindO_assoc, bindO_none, bindO_pure, bindO_elim, bindO_unP]
theorem nodelaw09_RegionOwn_n3_ok (i : Ilaw09_RegionOwn_n3) (K : Ex → St → Ans) : codeI Try.tab envlaw09_RegionOwn noHint (codeD Try.tab envlaw09_RegionOwn noHint 0 64) 70 118 annLlaw09_RegionOwn_n3 Llaw09_RegionOwn_n3 (weakP 0 (exk [0, 2, 9, 12, 13, 14, 15, 16] [8] []) K) (Slaw09_RegionOwn_n3 i) = nodelaw09_RegionOwn_n3 i (outlaw09_RegionOwn_n3 i K) := by kernel_rfl
theorem GNlaw09_RegionOwn_n3_ok : CSum Try.prog 118 Llaw09_RegionOwn_n3 (sumN declaw09_RegionOwn_n3 nodeDlaw09_RegionOwn_n3 outlaw09_RegionOwn_n3) := csum_node mixed tabOk envlaw09_RegionOwnOk 0 (exk [0, 2, 9, 12, 13, 14, 15, 16] [8] []) annLlaw09_RegionOwn_n3_ok declaw09_RegionOwn_n3_ok nodelaw09_RegionOwn_n3_ok nodelaw09_RegionOwn_n3_nat
noncomputable def Glaw09_RegionOwn_n3 : (Ex → St → Ans) → St → Ans := (sumN declaw09_RegionOwn_n3 nodeDlaw09_RegionOwn_n3 outlaw09_RegionOwn_n3)
theorem Glaw09_RegionOwn_n3_ok : CSum Try.prog 118 Llaw09_RegionOwn_n3 Glaw09_RegionOwn_n3 := GNlaw09_RegionOwn_n3_ok
noncomputable def Llaw09_RegionOwn_n2 : Code := codeAt [1, 1, 1, 1, 1, 1, 1, 1, 1, 1, 0, 1, 0, 0] blaw09_RegionOwn
noncomputable def annLlaw09_RegionOwn_n2 : Ann := .at 0 [0, 2, 9, 12, 13, 14, 15, 16] (.loop (.seq .none (.seq (.cut 0 [0, 2, 9, 12, 13, 14, 15, 16] Glaw09_RegionOwn_n3) .none)))
theorem annLlaw09_RegionOwn_n2_ok : AnnOk Try.prog 118 (.loop Llaw09_RegionOwn_n2) annLlaw09_RegionOwn_n2 := annOk_at ⟨(annOk_none _ _ _), ⟨Glaw09_RegionOwn_n3_ok, (annOk_none _ _ _)⟩⟩
abbrev Ilaw09_RegionOwn_n2 := (Int) × (Int) × (List UInt8) × (Int) × (List UInt8) × (Int) × (List (List UInt8)) × (List (Int × List UInt8)) × (List (Int × List UInt8))
abbrev Ylaw09_RegionOwn_n2 := (Unit) ⊕ (Unit)
abbrev Vlaw09_RegionOwn_n2 := (Int) × (Int) × (Bool)
def Slaw09_RegionOwn_n2 : Ilaw09_RegionOwn_n2 → Vlaw09_RegionOwn_n2 → St := fun (t0, t2, t12, t13, t14, t15, o1, o2, o3) (t16, o0_3, o0_6) => { env := [(0, AV.int IntKind.i64 t0), (2, AV.int IntKind.i64 t2), (9, AV.ptr 0 0), (12, AV.str t12), (13, AV.int IntKind.i64 t13), (14, AV.str t14), (15, AV.int IntKind.i64 t15), (16, AV.int IntKind.i64 t16)], stk := [[]], H := [AE.Obj.cells [AV.own 1, AV.map 2, AV.own 3, AV.int IntKind.i64 o0_3, AV.own 4, AV.int IntKind.i64 (0), AV.bool o0_6], Obj.arr Ty.str o1, Obj.mp IntKind.i64 Ty.str o2, Obj.arr (Ty.st (Ty.pair (Ty.int IntKind.i64) Ty.str)) o3, Obj.arr (Ty.int IntKind.i64) ([])], blk := 24576 }
def declaw09_RegionOwn_n2 (s : St) : Option (Ilaw09_RegionOwn_n2 × Vlaw09_RegionOwn_n2) := match s with
  | { env := [(0, AV.int IntKind.i64 t0), (2, AV.int IntKind.i64 t2), (9, AV.ptr 0 0), (12, AV.str t12), (13, AV.int IntKind.i64 t13), (14, AV.str t14), (15, AV.int IntKind.i64 t15), (16, AV.int IntKind.i64 t16)], stk := [[]], H := [AE.Obj.cells [AV.own 1, AV.map 2, AV.own 3, AV.int IntKind.i64 o0_3, AV.own 4, AV.int IntKind.i64 r8, AV.bool o0_6], Obj.arr Ty.str o1, Obj.mp IntKind.i64 Ty.str o2, Obj.arr (Ty.st (Ty.pair (Ty.int IntKind.i64) Ty.str)) o3, Obj.arr (Ty.int IntKind.i64) r13], blk := 24576 } => cond (decide (r8 = 0) && decide (r13 = [])) (some ((t0, t2, t12, t13, t14, t15, o1, o2, o3), (t16, o0_3, o0_6))) none
  | _ => none
theorem declaw09_RegionOwn_n2_ok (s : St) (x : Ilaw09_RegionOwn_n2 × Vlaw09_RegionOwn_n2) (h : declaw09_RegionOwn_n2 s = some x) : s = Slaw09_RegionOwn_n2 x.1 x.2 := by
  unfold declaw09_RegionOwn_n2 at h
  split at h
  · replace h := cond_noneO h; obtain ⟨hg, h⟩ := h; simp only [Bool.and_eq_true, decide_eq_true_eq] at hg; simp only [hg]; cases h; rfl
  · cases h
def outlaw09_RegionOwn_n2 : Ilaw09_RegionOwn_n2 → (Ex → St → Ans) → Ylaw09_RegionOwn_n2 → Ans := fun (t0, t2, t12, t13, t14, t15, o1, o2, o3) K => (Sum.elim (fun _ => K (Ex.ret) { env := [(8, AV.bool (false))], stk := [[]], H := [], blk := 24577 }) (fun _ => K (Ex.exit 0) { env := [(12, AV.str t12), (14, AV.str t14), (15, AV.int IntKind.i64 t15)], stk := [[]], H := [], blk := 24576 }))
def steplaw09_RegionOwn_n2 {β : Type} : Ilaw09_RegionOwn_n2 → Vlaw09_RegionOwn_n2 → (Vlaw09_RegionOwn_n2 → Option β) → (Ylaw09_RegionOwn_n2 → Option β) → Option β := fun (t0, t2, t12, t13, t14, t15, o1, o2, o3) (t16, o0_3, o0_6) next exit => (bif decide (t16 < (12 : Int)) then (bindO (nodeDlaw09_RegionOwn_n3 (t0, t2, t12, t13, t14, t15, t16, o0_3, o0_6, o1, o2, o3)) (Sum.elim (fun _ => (exit (Sum.inl ()))) (unP fun o0_3_2 o0_6_2 => (next (IntKind.wrap IntKind.i64 (t16 + (1 : Int)), o0_3_2, o0_6_2))))) else (exit (Sum.inr ())))
def stepDlaw09_RegionOwn_n2 (i : Ilaw09_RegionOwn_n2) (v : Vlaw09_RegionOwn_n2) : Option (Vlaw09_RegionOwn_n2 ⊕ Ylaw09_RegionOwn_n2) := steplaw09_RegionOwn_n2 i v (fun v => some (.inl v)) (fun y => some (.inr y))
theorem steplaw09_RegionOwn_n2_nat (i : Ilaw09_RegionOwn_n2) (v : Vlaw09_RegionOwn_n2) (next : Vlaw09_RegionOwn_n2 → Ans) (exit : Ylaw09_RegionOwn_n2 → Ans) : steplaw09_RegionOwn_n2 i v next exit = bindO (stepDlaw09_RegionOwn_n2 i v) (Sum.elim next exit) := by
  obtain ⟨t0, t2, t12, t13, t14, t15, o1, o2, o3⟩ := i
  obtain ⟨t16, o0_3, o0_6⟩ := v
  simp only [stepDlaw09_RegionOwn_n2, steplaw09_RegionOwn_n2, bindO_cond, bindO_assoc, bindO_none, bindO_pure, bindO_elim, bindO_unP, Sum.elim_inl, Sum.elim_inr]
theorem steplaw09_RegionOwn_n2_ok (n : Nat) (i : Ilaw09_RegionOwn_n2) (v : Vlaw09_RegionOwn_n2) (K : Ex → St → Ans) : codeI Try.tab envlaw09_RegionOwn noHint (codeD Try.tab envlaw09_RegionOwn noHint 0 64) (n+1) 118 annLlaw09_RegionOwn_n2 (.loop Llaw09_RegionOwn_n2) (weakP 0 (exk [12, 14, 15] [8] [(0, [12, 14, 15])]) K) (Slaw09_RegionOwn_n2 i v) = steplaw09_RegionOwn_n2 i v (fun v' => codeI Try.tab envlaw09_RegionOwn noHint (codeD Try.tab envlaw09_RegionOwn noHint 0 64) n 118 annLlaw09_RegionOwn_n2 (.loop Llaw09_RegionOwn_n2) (weakP 0 (exk [12, 14, 15] [8] [(0, [12, 14, 15])]) K) (Slaw09_RegionOwn_n2 i v')) (fun y => outlaw09_RegionOwn_n2 i K y) := by kernel_rfl
theorem GNlaw09_RegionOwn_n2_ok : CSum Try.prog 118 (.loop Llaw09_RegionOwn_n2) (sumL declaw09_RegionOwn_n2 stepDlaw09_RegionOwn_n2 outlaw09_RegionOwn_n2) := csum_loop mixed tabOk envlaw09_RegionOwnOk 0 (exk [12, 14, 15] [8] [(0, [12, 14, 15])]) annLlaw09_RegionOwn_n2_ok declaw09_RegionOwn_n2_ok steplaw09_RegionOwn_n2_ok steplaw09_RegionOwn_n2_nat
noncomputable def Glaw09_RegionOwn_n2 : (Ex → St → Ans) → St → Ans := (sumL declaw09_RegionOwn_n2 stepDlaw09_RegionOwn_n2 outlaw09_RegionOwn_n2)
theorem Glaw09_RegionOwn_n2_ok : CSum Try.prog 118 (.loop Llaw09_RegionOwn_n2) Glaw09_RegionOwn_n2 := GNlaw09_RegionOwn_n2_ok
noncomputable def Llaw09_RegionOwn_n1 : Code := codeAt [1, 1, 1, 1, 1, 1, 1, 0, 0] blaw09_RegionOwn
noncomputable def annLlaw09_RegionOwn_n1 : Ann := .none
theorem annLlaw09_RegionOwn_n1_ok : AnnOk Try.prog 118 Llaw09_RegionOwn_n1 annLlaw09_RegionOwn_n1 := (annOk_none _ _ _)
abbrev Ilaw09_RegionOwn_n1 := (Int) × (Int) × (List UInt8) × (List (List UInt8))
abbrev Ylaw09_RegionOwn_n1 := Unit
def Slaw09_RegionOwn_n1 : Ilaw09_RegionOwn_n1 → St := fun (t0, t2, t12, o1) => { env := [(0, AV.int IntKind.i64 t0), (2, AV.int IntKind.i64 t2), (9, AV.ptr 0 0), (10, AV.nilp), (11, AV.int IntKind.i64 (3)), (12, AV.str t12)], stk := [[]], H := [AE.Obj.cells [AV.own 1, AV.map 2, AV.own 3, AV.int IntKind.i64 (0), AV.own 4, AV.int IntKind.i64 (0), AV.bool (false)], Obj.arr Ty.str o1, Obj.mp IntKind.i64 Ty.str ([]), Obj.arr (Ty.st (Ty.pair (Ty.int IntKind.i64) Ty.str)) ([]), Obj.arr (Ty.int IntKind.i64) ([])], blk := 24576 }
def declaw09_RegionOwn_n1 (s : St) : Option Ilaw09_RegionOwn_n1 := match s with
  | { env := [(0, AV.int IntKind.i64 t0), (2, AV.int IntKind.i64 t2), (9, AV.ptr 0 0), (10, AV.nilp), (11, AV.int IntKind.i64 r2), (12, AV.str t12)], stk := [[]], H := [AE.Obj.cells [AV.own 1, AV.map 2, AV.own 3, AV.int IntKind.i64 r4, AV.own 4, AV.int IntKind.i64 r5, AV.bool r6], Obj.arr Ty.str o1, Obj.mp IntKind.i64 Ty.str r8, Obj.arr (Ty.st (Ty.pair (Ty.int IntKind.i64) Ty.str)) r9, Obj.arr (Ty.int IntKind.i64) r10], blk := 24576 } => cond (decide (r2 = 3) && decide (r4 = 0) && decide (r5 = 0) && decide (r6 = false) && decide (r8 = []) && decide (r9 = []) && decide (r10 = [])) (some (t0, t2, t12, o1)) none
  | _ => none
theorem declaw09_RegionOwn_n1_ok (s : St) (x : Ilaw09_RegionOwn_n1) (h : declaw09_RegionOwn_n1 s = some x) : s = Slaw09_RegionOwn_n1 x := by
  unfold declaw09_RegionOwn_n1 at h
  split at h
  · replace h := cond_noneO h; obtain ⟨hg, h⟩ := h; simp only [Bool.and_eq_true, decide_eq_true_eq] at hg; simp only [hg]; cases h; rfl
  · cases h
def outlaw09_RegionOwn_n1 : Ilaw09_RegionOwn_n1 → (Ex → St → Ans) → Ylaw09_RegionOwn_n1 → Ans := fun (t0, t2, t12, o1) K => fun _ => K (Ex.norm) { env := [(0, AV.int IntKind.i64 t0), (2, AV.int IntKind.i64 t2), (9, AV.ptr 0 0), (10, AV.nilp), (12, AV.str t12), (61, AV.bool (true))], stk := [[]], H := [AE.Obj.cells [AV.own 1, AV.map 2, AV.own 3, AV.int IntKind.i64 (0), AV.own 4, AV.int IntKind.i64 (0), AV.bool (false)], Obj.arr Ty.str o1, Obj.mp IntKind.i64 Ty.str ([]), Obj.arr (Ty.st (Ty.pair (Ty.int IntKind.i64) Ty.str)) ([]), Obj.arr (Ty.int IntKind.i64) ([])], blk := 24576 }
def nodelaw09_RegionOwn_n1 {β : Type} : Ilaw09_RegionOwn_n1 → (Ylaw09_RegionOwn_n1 → Option β) → Option β := fun (t0, t2, t12, o1) exit => (exit ())
def nodeDlaw09_RegionOwn_n1 (i : Ilaw09_RegionOwn_n1) : Option Ylaw09_RegionOwn_n1 := nodelaw09_RegionOwn_n1 i some
theorem nodelaw09_RegionOwn_n1_nat (i : Ilaw09_RegionOwn_n1) (k : Ylaw09_RegionOwn_n1 → Ans) : nodelaw09_RegionOwn_n1 i k = bindO (nodeDlaw09_RegionOwn_n1 i) k := by
  obtain ⟨t0, t2, t12, o1⟩ := i
  simp only [nodeDlaw09_RegionOwn_n1, nodelaw09_RegionOwn_n1, bindO_cond, bindO_assoc, bindO_none, bindO_pure, bindO_elim, bindO_unP]
theorem nodelaw09_RegionOwn_n1_ok (i : Ilaw09_RegionOwn_n1) (K : Ex → St → Ans) : codeI Try.tab envlaw09_RegionOwn noHint (codeD Try.tab envlaw09_RegionOwn noHint 0 64) 70 118 annLlaw09_RegionOwn_n1 Llaw09_RegionOwn_n1 (weakP 0 (exk [0, 2, 9, 10, 12, 61] [8] []) K) (Slaw09_RegionOwn_n1 i) = nodelaw09_RegionOwn_n1 i (outlaw09_RegionOwn_n1 i K) := by kernel_rfl
theorem GNlaw09_RegionOwn_n1_ok : CSum Try.prog 118 Llaw09_RegionOwn_n1 (sumN declaw09_RegionOwn_n1 nodeDlaw09_RegionOwn_n1 outlaw09_RegionOwn_n1) := csum_node mixed tabOk envlaw09_RegionOwnOk 0 (exk [0, 2, 9, 10, 12, 61] [8] []) annLlaw09_RegionOwn_n1_ok declaw09_RegionOwn_n1_ok nodelaw09_RegionOwn_n1_ok nodelaw09_RegionOwn_n1_nat
abbrev Ilaw09_RegionOwn_n1v1 := (Int) × (Int) × (List UInt8) × (Int) × (Int) × (List (List UInt8))
abbrev Ylaw09_RegionOwn_n1v1 := (Bool) × (Int) × (Bool) × (List (Int × List UInt8)) × (List (Int × List UInt8))
def Slaw09_RegionOwn_n1v1 : Ilaw09_RegionOwn_n1v1 → St := fun (t0, t2, t12, o1_1, o1_2, o2) => { env := [(0, AV.int IntKind.i64 t0), (2, AV.int IntKind.i64 t2), (9, AV.ptr 0 0), (10, AV.ptr 1 0), (11, AV.int IntKind.i64 (0)), (12, AV.str t12)], stk := [[]], H := [AE.Obj.cells [AV.own 2, AV.map 3, AV.own 4, AV.int IntKind.i64 (0), AV.own 5, AV.int IntKind.i64 (0), AV.bool (false)], AE.Obj.cells [AV.ptr 0 0, AV.int IntKind.i64 o1_1, AV.int IntKind.i64 o1_2], Obj.arr Ty.str o2, Obj.mp IntKind.i64 Ty.str ([]), Obj.arr (Ty.st (Ty.pair (Ty.int IntKind.i64) Ty.str)) ([]), Obj.arr (Ty.int IntKind.i64) ([])], blk := 24576 }
def declaw09_RegionOwn_n1v1 (s : St) : Option Ilaw09_RegionOwn_n1v1 := match s with
  | { env := [(0, AV.int IntKind.i64 t0), (2, AV.int IntKind.i64 t2), (9, AV.ptr 0 0), (10, AV.ptr 1 0), (11, AV.int IntKind.i64 r2), (12, AV.str t12)], stk := [[]], H := [AE.Obj.cells [AV.own 2, AV.map 3, AV.own 4, AV.int IntKind.i64 r4, AV.own 5, AV.int IntKind.i64 r5, AV.bool r6], AE.Obj.cells [AV.ptr 0 0, AV.int IntKind.i64 o1_1, AV.int IntKind.i64 o1_2], Obj.arr Ty.str o2, Obj.mp IntKind.i64 Ty.str r10, Obj.arr (Ty.st (Ty.pair (Ty.int IntKind.i64) Ty.str)) r11, Obj.arr (Ty.int IntKind.i64) r12], blk := 24576 } => cond (decide (r2 = 0) && decide (r4 = 0) && decide (r5 = 0) && decide (r6 = false) && decide (r10 = []) && decide (r11 = []) && decide (r12 = [])) (some (t0, t2, t12, o1_1, o1_2, o2)) none
  | _ => none
theorem declaw09_RegionOwn_n1v1_ok (s : St) (x : Ilaw09_RegionOwn_n1v1) (h : declaw09_RegionOwn_n1v1 s = some x) : s = Slaw09_RegionOwn_n1v1 x := by
  unfold declaw09_RegionOwn_n1v1 at h
  split at h
  · replace h := cond_noneO h; obtain ⟨hg, h⟩ := h; simp only [Bool.and_eq_true, decide_eq_true_eq] at hg; simp only [hg]; cases h; rfl
  · cases h
def outlaw09_RegionOwn_n1v1 : Ilaw09_RegionOwn_n1v1 → (Ex → St → Ans) → Ylaw09_RegionOwn_n1v1 → Ans := fun (t0, t2, t12, o1_1, o1_2, o2) K => unP fun t61_y => unP fun o0_3_y => unP fun o0_6_y => unP fun o3_y o4_y => K (Ex.norm) { env := [(0, AV.int IntKind.i64 t0), (2, AV.int IntKind.i64 t2), (9, AV.ptr 0 0), (10, AV.ptr 1 0), (12, AV.str t12), (61, AV.bool t61_y)], stk := [[]], H := [AE.Obj.cells [AV.own 2, AV.map 3, AV.own 4, AV.int IntKind.i64 o0_3_y, AV.own 5, AV.int IntKind.i64 (0), AV.bool o0_6_y], AE.Obj.cells [AV.ptr 0 0, AV.int IntKind.i64 o1_1, AV.int IntKind.i64 o1_2], Obj.arr Ty.str o2, Obj.mp IntKind.i64 Ty.str o3_y, Obj.arr (Ty.st (Ty.pair (Ty.int IntKind.i64) Ty.str)) o4_y, Obj.arr (Ty.int IntKind.i64) ([])], blk := 24576 }
def nodelaw09_RegionOwn_n1v1 {β : Type} : Ilaw09_RegionOwn_n1v1 → (Ylaw09_RegionOwn_n1v1 → Option β) → Option β := fun (t0, t2, t12, o1_1, o1_2, o2) exit => (bindO (fnDregion_Region_Write (t2, t12, o1_1, o1_2, (0 : Int), (0 : Int), false, o2, [], [], [])) (unP fun r => unP fun o1_3 => unP fun o1_6 => unP fun o3 o4 => (exit (r != (0 : Int), o1_3, o1_6, o3, o4))))
def nodeDlaw09_RegionOwn_n1v1 (i : Ilaw09_RegionOwn_n1v1) : Option Ylaw09_RegionOwn_n1v1 := nodelaw09_RegionOwn_n1v1 i some
theorem nodelaw09_RegionOwn_n1v1_nat (i : Ilaw09_RegionOwn_n1v1) (k : Ylaw09_RegionOwn_n1v1 → Ans) : nodelaw09_RegionOwn_n1v1 i k = bindO (nodeDlaw09_RegionOwn_n1v1 i) k := by
  obtain ⟨t0, t2, t12, o1_1, o1_2, o2⟩ := i
  simp only [nodeDlaw09_RegionOwn_n1v1, nodelaw09_RegionOwn_n1v1, bindO_cond, bindO_assoc, bindO_none, bindO_pure, bindO_elim, bindO_unP]
theorem nodelaw09_RegionOwn_n1v1_ok (i : Ilaw09_RegionOwn_n1v1) (K : Ex → St → Ans) : codeI Try.tab envlaw09_RegionOwn noHint (codeD Try.tab envlaw09_RegionOwn noHint 0 64) 70 118 annLlaw09_RegionOwn_n1 Llaw09_RegionOwn_n1 (weakP 0 (exk [0, 2, 9, 10, 12, 61] [8] []) K) (Slaw09_RegionOwn_n1v1 i) = nodelaw09_RegionOwn_n1v1 i (outlaw09_RegionOwn_n1v1 i K) := by kernel_rfl
theorem GNlaw09_RegionOwn_n1v1_ok : CSum Try.prog 118 Llaw09_RegionOwn_n1 (sumN declaw09_RegionOwn_n1v1 nodeDlaw09_RegionOwn_n1v1 outlaw09_RegionOwn_n1v1) := csum_node mixed tabOk envlaw09_RegionOwnOk 0 (exk [0, 2, 9, 10, 12, 61] [8] []) annLlaw09_RegionOwn_n1_ok declaw09_RegionOwn_n1v1_ok nodelaw09_RegionOwn_n1v1_ok nodelaw09_RegionOwn_n1v1_nat
noncomputable def Glaw09_RegionOwn_n1 : (Ex → St → Ans) → St → Ans := (altN declaw09_RegionOwn_n1 (sumN declaw09_RegionOwn_n1 nodeDlaw09_RegionOwn_n1 outlaw09_RegionOwn_n1) (sumN declaw09_RegionOwn_n1v1 nodeDlaw09_RegionOwn_n1v1 outlaw09_RegionOwn_n1v1))
theorem Glaw09_RegionOwn_n1_ok : CSum Try.prog 118 Llaw09_RegionOwn_n1 Glaw09_RegionOwn_n1 := (csum_altN GNlaw09_RegionOwn_n1_ok GNlaw09_RegionOwn_n1v1_ok)
noncomputable def Llaw09_RegionOwn_n0 : Code := codeAt [1, 1, 1, 1, 1, 1, 0, 0] blaw09_RegionOwn
noncomputable def annLlaw09_RegionOwn_n0 : Ann := .none
theorem annLlaw09_RegionOwn_n0_ok : AnnOk Try.prog 118 Llaw09_RegionOwn_n0 annLlaw09_RegionOwn_n0 := (annOk_none _ _ _)
abbrev Ilaw09_RegionOwn_n0 := (Int) × (Int) × (List UInt8) × (List UInt8) × (List (List UInt8))
abbrev Ylaw09_RegionOwn_n0 := (Bool)
def Slaw09_RegionOwn_n0 : Ilaw09_RegionOwn_n0 → St := fun (t0, t2, t3, t12, o1) => { env := [(0, AV.int IntKind.i64 t0), (2, AV.int IntKind.i64 t2), (3, AV.str t3), (9, AV.ptr 0 0), (10, AV.nilp), (11, AV.int IntKind.i64 (3)), (12, AV.str t12)], stk := [[]], H := [AE.Obj.cells [AV.own 1, AV.map 2, AV.own 3, AV.int IntKind.i64 (0), AV.own 4, AV.int IntKind.i64 (0), AV.bool (false)], Obj.arr Ty.str o1, Obj.mp IntKind.i64 Ty.str ([]), Obj.arr (Ty.st (Ty.pair (Ty.int IntKind.i64) Ty.str)) ([]), Obj.arr (Ty.int IntKind.i64) ([])], blk := 24576 }
def declaw09_RegionOwn_n0 (s : St) : Option Ilaw09_RegionOwn_n0 := match s with
  | { env := [(0, AV.int IntKind.i64 t0), (2, AV.int IntKind.i64 t2), (3, AV.str t3), (9, AV.ptr 0 0), (10, AV.nilp), (11, AV.int IntKind.i64 r3), (12, AV.str t12)], stk := [[]], H := [AE.Obj.cells [AV.own 1, AV.map 2, AV.own 3, AV.int IntKind.i64 r5, AV.own 4, AV.int IntKind.i64 r6, AV.bool r7], Obj.arr Ty.str o1, Obj.mp IntKind.i64 Ty.str r9, Obj.arr (Ty.st (Ty.pair (Ty.int IntKind.i64) Ty.str)) r10, Obj.arr (Ty.int IntKind.i64) r11], blk := 24576 } => cond (decide (r3 = 3) && decide (r5 = 0) && decide (r6 = 0) && decide (r7 = false) && decide (r9 = []) && decide (r10 = []) && decide (r11 = [])) (some (t0, t2, t3, t12, o1)) none
  | _ => none
theorem declaw09_RegionOwn_n0_ok (s : St) (x : Ilaw09_RegionOwn_n0) (h : declaw09_RegionOwn_n0 s = some x) : s = Slaw09_RegionOwn_n0 x := by
  unfold declaw09_RegionOwn_n0 at h
  split at h
  · replace h := cond_noneO h; obtain ⟨hg, h⟩ := h; simp only [Bool.and_eq_true, decide_eq_true_eq] at hg; simp only [hg]; cases h; rfl
  · cases h
def outlaw09_RegionOwn_n0 : Ilaw09_RegionOwn_n0 → (Ex → St → Ans) → Ylaw09_RegionOwn_n0 → Ans := fun (t0, t2, t3, t12, o1) K => fun t52_y => K (Ex.norm) { env := [(0, AV.int IntKind.i64 t0), (2, AV.int IntKind.i64 t2), (9, AV.ptr 0 0), (10, AV.nilp), (11, AV.int IntKind.i64 (3)), (12, AV.str t12), (52, AV.bool t52_y)], stk := [[]], H := [AE.Obj.cells [AV.own 1, AV.map 2, AV.own 3, AV.int IntKind.i64 (0), AV.own 4, AV.int IntKind.i64 (0), AV.bool (false)], Obj.arr Ty.str o1, Obj.mp IntKind.i64 Ty.str ([]), Obj.arr (Ty.st (Ty.pair (Ty.int IntKind.i64) Ty.str)) ([]), Obj.arr (Ty.int IntKind.i64) ([])], blk := 24576 }
def nodelaw09_RegionOwn_n0 {β : Type} : Ilaw09_RegionOwn_n0 → (Ylaw09_RegionOwn_n0 → Option β) → Option β := fun (t0, t2, t3, t12, o1) exit => (bindO (fnDref09_Pad (t3)) fun r => (bif !t12 == r then (exit (true)) else (bif Int.tmod (↑(List.length t12) : Int) (64 : Int) != (0 : Int) then (exit (true)) else (bif inR (↑(List.length t3) : Int) (List.length t12 + (1 : Nat)) then (exit (!List.take (Int.toNat (↑(List.length t3) : Int)) t12 == t3)) else none))))
def nodeDlaw09_RegionOwn_n0 (i : Ilaw09_RegionOwn_n0) : Option Ylaw09_RegionOwn_n0 := nodelaw09_RegionOwn_n0 i some
theorem nodelaw09_RegionOwn_n0_nat (i : Ilaw09_RegionOwn_n0) (k : Ylaw09_RegionOwn_n0 → Ans) : nodelaw09_RegionOwn_n0 i k = bindO (nodeDlaw09_RegionOwn_n0 i) k := by
  obtain ⟨t0, t2, t3, t12, o1⟩ := i
  simp only [nodeDlaw09_RegionOwn_n0, nodelaw09_RegionOwn_n0, bindO_cond, bindO_assoc, bindO_none, bindO_pure, bindO_elim, bindO_unP]
theorem nodelaw09_RegionOwn_n0_ok (i : Ilaw09_RegionOwn_n0) (K : Ex → St → Ans) : codeI Try.tab envlaw09_RegionOwn noHint (codeD Try.tab envlaw09_RegionOwn noHint 0 64) 70 118 annLlaw09_RegionOwn_n0 Llaw09_RegionOwn_n0 (weakP 0 (exk [0, 2, 9, 10, 11, 12, 52] [8] []) K) (Slaw09_RegionOwn_n0 i) = nodelaw09_RegionOwn_n0 i (outlaw09_RegionOwn_n0 i K) := by kernel_rfl
theorem GNlaw09_RegionOwn_n0_ok : CSum Try.prog 118 Llaw09_RegionOwn_n0 (sumN declaw09_RegionOwn_n0 nodeDlaw09_RegionOwn_n0 outlaw09_RegionOwn_n0) := csum_node mixed tabOk envlaw09_RegionOwnOk 0 (exk [0, 2, 9, 10, 11, 12, 52] [8] []) annLlaw09_RegionOwn_n0_ok declaw09_RegionOwn_n0_ok nodelaw09_RegionOwn_n0_ok nodelaw09_RegionOwn_n0_nat
abbrev Ilaw09_RegionOwn_n0v1 := (Int) × (Int) × (List UInt8) × (List UInt8) × (Int) × (Int) × (List (List UInt8))
abbrev Ylaw09_RegionOwn_n0v1 := (Bool)
def Slaw09_RegionOwn_n0v1 : Ilaw09_RegionOwn_n0v1 → St := fun (t0, t2, t3, t12, o1_1, o1_2, o2) => { env := [(0, AV.int IntKind.i64 t0), (2, AV.int IntKind.i64 t2), (3, AV.str t3), (9, AV.ptr 0 0), (10, AV.ptr 1 0), (11, AV.int IntKind.i64 (0)), (12, AV.str t12)], stk := [[]], H := [AE.Obj.cells [AV.own 2, AV.map 3, AV.own 4, AV.int IntKind.i64 (0), AV.own 5, AV.int IntKind.i64 (0), AV.bool (false)], AE.Obj.cells [AV.ptr 0 0, AV.int IntKind.i64 o1_1, AV.int IntKind.i64 o1_2], Obj.arr Ty.str o2, Obj.mp IntKind.i64 Ty.str ([]), Obj.arr (Ty.st (Ty.pair (Ty.int IntKind.i64) Ty.str)) ([]), Obj.arr (Ty.int IntKind.i64) ([])], blk := 24576 }
def declaw09_RegionOwn_n0v1 (s : St) : Option Ilaw09_RegionOwn_n0v1 := match s with
  | { env := [(0, AV.int IntKind.i64 t0), (2, AV.int IntKind.i64 t2), (3, AV.str t3), (9, AV.ptr 0 0), (10, AV.ptr 1 0), (11, AV.int IntKind.i64 r3), (12, AV.str t12)], stk := [[]], H := [AE.Obj.cells [AV.own 2, AV.map 3, AV.own 4, AV.int IntKind.i64 r5, AV.own 5, AV.int IntKind.i64 r6, AV.bool r7], AE.Obj.cells [AV.ptr 0 0, AV.int IntKind.i64 o1_1, AV.int IntKind.i64 o1_2], Obj.arr Ty.str o2, Obj.mp IntKind.i64 Ty.str r11, Obj.arr (Ty.st (Ty.pair (Ty.int IntKind.i64) Ty.str)) r12, Obj.arr (Ty.int IntKind.i64) r13], blk := 24576 } => cond (decide (r3 = 0) && decide (r5 = 0) && decide (r6 = 0) && decide (r7 = false) && decide (r11 = []) && decide (r12 = []) && decide (r13 = [])) (some (t0, t2, t3, t12, o1_1, o1_2, o2)) none
  | _ => none
theorem declaw09_RegionOwn_n0v1_ok (s : St) (x : Ilaw09_RegionOwn_n0v1) (h : declaw09_RegionOwn_n0v1 s = some x) : s = Slaw09_RegionOwn_n0v1 x := by
  unfold declaw09_RegionOwn_n0v1 at h
  split at h
  · replace h := cond_noneO h; obtain ⟨hg, h⟩ := h; simp only [Bool.and_eq_true, decide_eq_true_eq] at hg; simp only [hg]; cases h; rfl
  · cases h
def outlaw09_RegionOwn_n0v1 : Ilaw09_RegionOwn_n0v1 → (Ex → St → Ans) → Ylaw09_RegionOwn_n0v1 → Ans := fun (t0, t2, t3, t12, o1_1, o1_2, o2) K => fun t52_y => K (Ex.norm) { env := [(0, AV.int IntKind.i64 t0), (2, AV.int IntKind.i64 t2), (9, AV.ptr 0 0), (10, AV.ptr 1 0), (11, AV.int IntKind.i64 (0)), (12, AV.str t12), (52, AV.bool t52_y)], stk := [[]], H := [AE.Obj.cells [AV.own 2, AV.map 3, AV.own 4, AV.int IntKind.i64 (0), AV.own 5, AV.int IntKind.i64 (0), AV.bool (false)], AE.Obj.cells [AV.ptr 0 0, AV.int IntKind.i64 o1_1, AV.int IntKind.i64 o1_2], Obj.arr Ty.str o2, Obj.mp IntKind.i64 Ty.str ([]), Obj.arr (Ty.st (Ty.pair (Ty.int IntKind.i64) Ty.str)) ([]), Obj.arr (Ty.int IntKind.i64) ([])], blk := 24576 }
def nodelaw09_RegionOwn_n0v1 {β : Type} : Ilaw09_RegionOwn_n0v1 → (Ylaw09_RegionOwn_n0v1 → Option β) → Option β := fun (t0, t2, t3, t12, o1_1, o1_2, o2) exit => (bindO (fnDref09_Pad (t3)) fun r => (bif !t12 == r then (exit (true)) else (bif Int.tmod (↑(List.length t12) : Int) (64 : Int) != (0 : Int) then (exit (true)) else (bif inR (↑(List.length t3) : Int) (List.length t12 + (1 : Nat)) then (exit (!List.take (Int.toNat (↑(List.length t3) : Int)) t12 == t3)) else none))))
def nodeDlaw09_RegionOwn_n0v1 (i : Ilaw09_RegionOwn_n0v1) : Option Ylaw09_RegionOwn_n0v1 := nodelaw09_RegionOwn_n0v1 i some
theorem nodelaw09_RegionOwn_n0v1_nat (i : Ilaw09_RegionOwn_n0v1) (k : Ylaw09_RegionOwn_n0v1 → Ans) : nodelaw09_RegionOwn_n0v1 i k = bindO (nodeDlaw09_RegionOwn_n0v1 i) k := by
  obtain ⟨t0, t2, t3, t12, o1_1, o1_2, o2⟩ := i
  simp only [nodeDlaw09_RegionOwn_n0v1, nodelaw09_RegionOwn_n0v1, bindO_cond, bindO_assoc, bindO_none, bindO_pure, bindO_elim, bindO_unP]
theorem nodelaw09_RegionOwn_n0v1_ok (i : Ilaw09_RegionOwn_n0v1) (K : Ex → St → Ans) : codeI Try.tab envlaw09_RegionOwn noHint (codeD Try.tab envlaw09_RegionOwn noHint 0 64) 70 118 annLlaw09_RegionOwn_n0 Llaw09_RegionOwn_n0 (weakP 0 (exk [0, 2, 9, 10, 11, 12, 52] [8] []) K) (Slaw09_RegionOwn_n0v1 i) = nodelaw09_RegionOwn_n0v1 i (outlaw09_RegionOwn_n0v1 i K) := by kernel_rfl
theorem GNlaw09_RegionOwn_n0v1_ok : CSum Try.prog 118 Llaw09_RegionOwn_n0 (sumN declaw09_RegionOwn_n0v1 nodeDlaw09_RegionOwn_n0v1 outlaw09_RegionOwn_n0v1) := csum_node mixed tabOk envlaw09_RegionOwnOk 0 (exk [0, 2, 9, 10, 11, 12, 52] [8] []) annLlaw09_RegionOwn_n0_ok declaw09_RegionOwn_n0v1_ok nodelaw09_RegionOwn_n0v1_ok nodelaw09_RegionOwn_n0v1_nat
noncomputable def Glaw09_RegionOwn_n0 : (Ex → St → Ans) → St → Ans := (altN declaw09_RegionOwn_n0 (sumN declaw09_RegionOwn_n0 nodeDlaw09_RegionOwn_n0 outlaw09_RegionOwn_n0) (sumN declaw09_RegionOwn_n0v1 nodeDlaw09_RegionOwn_n0v1 outlaw09_RegionOwn_n0v1))
theorem Glaw09_RegionOwn_n0_ok : CSum Try.prog 118 Llaw09_RegionOwn_n0 Glaw09_RegionOwn_n0 := (csum_altN GNlaw09_RegionOwn_n0_ok GNlaw09_RegionOwn_n0v1_ok)
noncomputable def annlaw09_RegionOwn : Ann := (.seq .none (.seq .none (.seq .none (.seq .none (.seq .none (.seq .none (.seq (.seq (.cut 0 [0, 2, 3, 9, 10, 11, 12] Glaw09_RegionOwn_n0) .none) (.seq (.seq (.cut 0 [0, 2, 9, 10, 11, 12] Glaw09_RegionOwn_n1) .none) (.seq .none (.seq .none (.seq (.seq .none (.block (.cut 0 [0, 2, 9, 12, 13, 14, 15, 16] Glaw09_RegionOwn_n2))) (.seq (.cut 0 [12, 14, 15] Glaw09_RegionOwn_n6) .none))))))))))))
theorem annlaw09_RegionOwn_ok : AnnOk Try.prog 118 blaw09_RegionOwn annlaw09_RegionOwn := ⟨(annOk_none _ _ _), ⟨(annOk_none _ _ _), ⟨(annOk_none _ _ _), ⟨(annOk_none _ _ _), ⟨(annOk_none _ _ _), ⟨(annOk_none _ _ _), ⟨⟨Glaw09_RegionOwn_n0_ok, (annOk_none _ _ _)⟩, ⟨⟨Glaw09_RegionOwn_n1_ok, (annOk_none _ _ _)⟩, ⟨(annOk_none _ _ _), ⟨(annOk_none _ _ _), ⟨⟨(annOk_none _ _ _), Glaw09_RegionOwn_n2_ok⟩, ⟨Glaw09_RegionOwn_n6_ok, (annOk_none _ _ _)⟩⟩⟩⟩⟩⟩⟩⟩⟩⟩⟩⟩
abbrev Alaw09_RegionOwn := (Int) × (Int) × (Int) × (List UInt8)
abbrev Ylaw09_RegionOwn := (Bool)
def fnlaw09_RegionOwn {β : Type} : Alaw09_RegionOwn → (Ylaw09_RegionOwn → Option β) → Option β := fun (a0, a1, a2, a3) exit => (bindO (fnDlaw09_works ()) fun r => (bif !r then (exit (false)) else (bif decide ((↑(List.length a3) : Int) > (1500 : Int)) then (exit (true)) else (bindO (fnDdisk_New ((12 : Int))) fun o1 => (bindO (fnDregion_New (a0, a1, (0 : Int), (0 : Int), false, o1, [], [], [])) (Sum.elim (fun _ => (bindO (fnDregion_Pad (a3)) fun r_2 => (bindO (nodeDlaw09_RegionOwn_n0 (a0, a2, a3, r_2, o1)) fun t52 => (bif t52 then (exit (false)) else (bindO (nodeDlaw09_RegionOwn_n1 (a0, a2, r_2, o1)) fun _ => (bindO (fnDdisk_Disk_Waits ((0 : Int), (0 : Int), false, o1, [], [], [])) fun r_3 => (exit (r_3 == (0 : Int))))))))) (fun _ => (bindO (fnDregion_Pad (a3)) fun r_2 => (bindO (nodeDlaw09_RegionOwn_n0v1 (a0, a2, a3, r_2, a0, a1, o1)) fun t52 => (bif t52 then (exit (false)) else (bindO (nodeDlaw09_RegionOwn_n1v1 (a0, a2, r_2, a0, a1, o1)) (unP fun t61 => unP fun o0_3 => unP fun o0_6 => unP fun o3 o4 => (bif t61 then (bindO (fnDdisk_Disk_Waits (o0_3, (0 : Int), o0_6, o1, o3, o4, [])) fun r_3 => (exit (r_3 == (0 : Int)))) else (bindO (fnDregion_Region_Read (a2, IntKind.wrap IntKind.i64 (Int.tdiv (↑(List.length r_2) : Int) (64 : Int)), a0, a1, o0_3, (0 : Int), o0_6, o1, o3, o4, [])) (unP fun r_0 => unP fun r_1 => unP fun o1_3 o1_6 => (bindO (loopD (stepDlaw09_RegionOwn_n2 (a0, a2, r_2, IntKind.wrap IntKind.i64 (Int.tdiv (↑(List.length r_2) : Int) (64 : Int)), r_0, r_1, o1, o3, o4)) FUEL ((0 : Int), o1_3, o1_6)) (Sum.elim (fun _ => (exit (false))) (fun _ => (bindO (nodeDlaw09_RegionOwn_n6 (r_2, r_0, r_1)) fun t8 => (exit (t8)))))))))))))))))))))
def fnDlaw09_RegionOwn (a : Alaw09_RegionOwn) : Option Ylaw09_RegionOwn := fnlaw09_RegionOwn a some
theorem fnlaw09_RegionOwn_nat (a : Alaw09_RegionOwn) (k : Ylaw09_RegionOwn → Ans) : fnlaw09_RegionOwn a k = bindO (fnDlaw09_RegionOwn a) k := by
  obtain ⟨a0, a1, a2, a3⟩ := a
  simp only [fnDlaw09_RegionOwn, fnlaw09_RegionOwn, bindO_cond, bindO_assoc, bindO_none, bindO_pure, bindO_elim, bindO_unP]
def argslaw09_RegionOwn : Alaw09_RegionOwn → List AV × List AE.Obj := fun (a0, a1, a2, a3) => ([AV.int IntKind.i64 a0, AV.int IntKind.i64 a1, AV.int IntKind.i64 a2, AV.str a3], [])
def decAlaw09_RegionOwn (l : List AV) (H : List AE.Obj) : Option Alaw09_RegionOwn := match l, H with
  | [AV.int IntKind.i64 a0, AV.int IntKind.i64 a1, AV.int IntKind.i64 a2, AV.str a3], [] => some (a0, a1, a2, a3)
  | _, _ => none
theorem decAlaw09_RegionOwn_ok (l : List AV) (H : List AE.Obj) (a : Alaw09_RegionOwn) (h : decAlaw09_RegionOwn l H = some a) : (l, H) = argslaw09_RegionOwn a := by
  unfold decAlaw09_RegionOwn at h
  split at h
  · cases h; rfl
  · cases h
def outlaw09_RegionOwn : Alaw09_RegionOwn → (AV → List AE.Obj → Ans) → Ylaw09_RegionOwn → Ans := fun (a0, a1, a2, a3) K => fun r_y => K (AV.bool r_y) []
theorem fnlaw09_RegionOwn_ok (a : Alaw09_RegionOwn) (K : AV → List AE.Obj → Ans) : fnE Try.tab envlaw09_RegionOwn noHint 0 70 6 Try.f6.ntmps Try.f6.results.toList annlaw09_RegionOwn blaw09_RegionOwn (argslaw09_RegionOwn a).1 (argslaw09_RegionOwn a).2 K = fnlaw09_RegionOwn a (outlaw09_RegionOwn a K) := by kernel_rfl
def vFlaw09_RegionOwn (a : Alaw09_RegionOwn) (K : AV → List AE.Obj → Ans) : Ans := bindO (fnDlaw09_RegionOwn a) fun y => outlaw09_RegionOwn a K y
def Flaw09_RegionOwn : List AV → List AE.Obj → (AV → List AE.Obj → Ans) → Ans := fun l H K => bindO (decAlaw09_RegionOwn l H) fun a => vFlaw09_RegionOwn a K
theorem Flaw09_RegionOwn_ok : FuncOk Try.prog 6 Flaw09_RegionOwn := func_mkD (hint := noHint) (d := 0) (n := 70) mixed tabOk envlaw09_RegionOwnOk Try.func6 (bodySome (by kernel_rfl)) (by decide +kernel) annlaw09_RegionOwn_ok decAlaw09_RegionOwn_ok fnlaw09_RegionOwn_ok fnlaw09_RegionOwn_nat
--@ region_Region_Read_2
noncomputable def envregion_Region_Read_2 : Env := []
theorem envregion_Region_Read_2Ok : EnvOk Try.prog envregion_Region_Read_2 := EnvOk.nil
noncomputable def bregion_Region_Read_2 : Code := Try.f32.body.getD .skip
noncomputable def annregion_Region_Read_2 : Ann := .none
theorem annregion_Region_Read_2_ok : AnnOk Try.prog 51 bregion_Region_Read_2 annregion_Region_Read_2 := (annOk_none _ _ _)
abbrev Aregion_Region_Read_2 := (Int) × (Int)
abbrev Yregion_Region_Read_2 := Unit
def fnregion_Region_Read_2 {β : Type} : Aregion_Region_Read_2 → (Yregion_Region_Read_2 → Option β) → Option β := fun (a1, a2) exit => (exit ())
def fnDregion_Region_Read_2 (a : Aregion_Region_Read_2) : Option Yregion_Region_Read_2 := fnregion_Region_Read_2 a some
theorem fnregion_Region_Read_2_nat (a : Aregion_Region_Read_2) (k : Yregion_Region_Read_2 → Ans) : fnregion_Region_Read_2 a k = bindO (fnDregion_Region_Read_2 a) k := by
  obtain ⟨a1, a2⟩ := a
  simp only [fnDregion_Region_Read_2, fnregion_Region_Read_2, bindO_cond, bindO_assoc, bindO_none, bindO_pure, bindO_elim, bindO_unP]
def argsregion_Region_Read_2 : Aregion_Region_Read_2 → List AV × List AE.Obj := fun (a1, a2) => ([AV.nilp, AV.int IntKind.i64 a1, AV.int IntKind.i64 a2], [])
def decAregion_Region_Read_2 (l : List AV) (H : List AE.Obj) : Option Aregion_Region_Read_2 := match l, H with
  | [AV.nilp, AV.int IntKind.i64 a1, AV.int IntKind.i64 a2], [] => some (a1, a2)
  | _, _ => none
theorem decAregion_Region_Read_2_ok (l : List AV) (H : List AE.Obj) (a : Aregion_Region_Read_2) (h : decAregion_Region_Read_2 l H = some a) : (l, H) = argsregion_Region_Read_2 a := by
  unfold decAregion_Region_Read_2 at h
  split at h
  · cases h; rfl
  · cases h
def outregion_Region_Read_2 : Aregion_Region_Read_2 → (AV → List AE.Obj → Ans) → Yregion_Region_Read_2 → Ans := fun (a1, a2) K => fun _ => K (AV.tup [AV.str ([]), AV.int IntKind.i64 (10)]) []
theorem fnregion_Region_Read_2_ok (a : Aregion_Region_Read_2) (K : AV → List AE.Obj → Ans) : fnE Try.tab envregion_Region_Read_2 noHint 0 70 32 Try.f32.ntmps Try.f32.results.toList annregion_Region_Read_2 bregion_Region_Read_2 (argsregion_Region_Read_2 a).1 (argsregion_Region_Read_2 a).2 K = fnregion_Region_Read_2 a (outregion_Region_Read_2 a K) := by kernel_rfl
def vFregion_Region_Read_2 (a : Aregion_Region_Read_2) (K : AV → List AE.Obj → Ans) : Ans := bindO (fnDregion_Region_Read_2 a) fun y => outregion_Region_Read_2 a K y
def Fregion_Region_Read_2 : List AV → List AE.Obj → (AV → List AE.Obj → Ans) → Ans := fun l H K => bindO (decAregion_Region_Read_2 l H) fun a => vFregion_Region_Read_2 a K
theorem Fregion_Region_Read_2_ok : FuncOk Try.prog 32 Fregion_Region_Read_2 := func_mkD (hint := noHint) (d := 0) (n := 70) mixed tabOk envregion_Region_Read_2Ok Try.func32 (bodySome (by kernel_rfl)) (by decide +kernel) annregion_Region_Read_2_ok decAregion_Region_Read_2_ok fnregion_Region_Read_2_ok fnregion_Region_Read_2_nat
--@ region_Region_Split_2
noncomputable def envregion_Region_Split_2 : Env := []
theorem envregion_Region_Split_2Ok : EnvOk Try.prog envregion_Region_Split_2 := EnvOk.nil
noncomputable def bregion_Region_Split_2 : Code := Try.f34.body.getD .skip
noncomputable def annregion_Region_Split_2 : Ann := .none
theorem annregion_Region_Split_2_ok : AnnOk Try.prog 52 bregion_Region_Split_2 annregion_Region_Split_2 := (annOk_none _ _ _)
abbrev Aregion_Region_Split_2 := (Int) × (List UInt8)
abbrev Yregion_Region_Split_2 := Unit
def fnregion_Region_Split_2 {β : Type} : Aregion_Region_Split_2 → (Yregion_Region_Split_2 → Option β) → Option β := fun (a1, a2) exit => (exit ())
def fnDregion_Region_Split_2 (a : Aregion_Region_Split_2) : Option Yregion_Region_Split_2 := fnregion_Region_Split_2 a some
theorem fnregion_Region_Split_2_nat (a : Aregion_Region_Split_2) (k : Yregion_Region_Split_2 → Ans) : fnregion_Region_Split_2 a k = bindO (fnDregion_Region_Split_2 a) k := by
  obtain ⟨a1, a2⟩ := a
  simp only [fnDregion_Region_Split_2, fnregion_Region_Split_2, bindO_cond, bindO_assoc, bindO_none, bindO_pure, bindO_elim, bindO_unP]
def argsregion_Region_Split_2 : Aregion_Region_Split_2 → List AV × List AE.Obj := fun (a1, a2) => ([AV.nilp, AV.int IntKind.i64 a1, AV.str a2], [])
def decAregion_Region_Split_2 (l : List AV) (H : List AE.Obj) : Option Aregion_Region_Split_2 := match l, H with
  | [AV.nilp, AV.int IntKind.i64 a1, AV.str a2], [] => some (a1, a2)
  | _, _ => none
theorem decAregion_Region_Split_2_ok (l : List AV) (H : List AE.Obj) (a : Aregion_Region_Split_2) (h : decAregion_Region_Split_2 l H = some a) : (l, H) = argsregion_Region_Split_2 a := by
  unfold decAregion_Region_Split_2 at h
  split at h
  · cases h; rfl
  · cases h
def outregion_Region_Split_2 : Aregion_Region_Split_2 → (AV → List AE.Obj → Ans) → Yregion_Region_Split_2 → Ans := fun (a1, a2) K => fun _ => K (AV.tup [AV.own 0, AV.int IntKind.i64 (10)]) [Obj.arr (Ty.st (Ty.pair (Ty.int IntKind.i64) Ty.str)) ([])]
theorem fnregion_Region_Split_2_ok (a : Aregion_Region_Split_2) (K : AV → List AE.Obj → Ans) : fnE Try.tab envregion_Region_Split_2 noHint 0 70 34 Try.f34.ntmps Try.f34.results.toList annregion_Region_Split_2 bregion_Region_Split_2 (argsregion_Region_Split_2 a).1 (argsregion_Region_Split_2 a).2 K = fnregion_Region_Split_2 a (outregion_Region_Split_2 a K) := by kernel_rfl
def vFregion_Region_Split_2 (a : Aregion_Region_Split_2) (K : AV → List AE.Obj → Ans) : Ans := bindO (fnDregion_Region_Split_2 a) fun y => outregion_Region_Split_2 a K y
def Fregion_Region_Split_2 : List AV → List AE.Obj → (AV → List AE.Obj → Ans) → Ans := fun l H K => bindO (decAregion_Region_Split_2 l H) fun a => vFregion_Region_Split_2 a K
theorem Fregion_Region_Split_2_ok : FuncOk Try.prog 34 Fregion_Region_Split_2 := func_mkD (hint := noHint) (d := 0) (n := 70) mixed tabOk envregion_Region_Split_2Ok Try.func34 (bodySome (by kernel_rfl)) (by decide +kernel) annregion_Region_Split_2_ok decAregion_Region_Split_2_ok fnregion_Region_Split_2_ok fnregion_Region_Split_2_nat
--@ disk_Disk_Sectors_2
noncomputable def envdisk_Disk_Sectors_2 : Env := []
theorem envdisk_Disk_Sectors_2Ok : EnvOk Try.prog envdisk_Disk_Sectors_2 := EnvOk.nil
noncomputable def bdisk_Disk_Sectors_2 : Code := Try.f23.body.getD .skip
noncomputable def anndisk_Disk_Sectors_2 : Ann := .none
theorem anndisk_Disk_Sectors_2_ok : AnnOk Try.prog 10 bdisk_Disk_Sectors_2 anndisk_Disk_Sectors_2 := (annOk_none _ _ _)
abbrev Adisk_Disk_Sectors_2 := Unit
abbrev Ydisk_Disk_Sectors_2 := Unit
def fndisk_Disk_Sectors_2 {β : Type} : Adisk_Disk_Sectors_2 → (Ydisk_Disk_Sectors_2 → Option β) → Option β := fun _ exit => (exit ())
def fnDdisk_Disk_Sectors_2 (a : Adisk_Disk_Sectors_2) : Option Ydisk_Disk_Sectors_2 := fndisk_Disk_Sectors_2 a some
theorem fndisk_Disk_Sectors_2_nat (a : Adisk_Disk_Sectors_2) (k : Ydisk_Disk_Sectors_2 → Ans) : fndisk_Disk_Sectors_2 a k = bindO (fnDdisk_Disk_Sectors_2 a) k := by
  obtain z := a
  simp only [fnDdisk_Disk_Sectors_2, fndisk_Disk_Sectors_2, bindO_cond, bindO_assoc, bindO_none, bindO_pure, bindO_elim, bindO_unP]
def argsdisk_Disk_Sectors_2 : Adisk_Disk_Sectors_2 → List AV × List AE.Obj := fun _ => ([AV.nilp], [])
def decAdisk_Disk_Sectors_2 (l : List AV) (H : List AE.Obj) : Option Adisk_Disk_Sectors_2 := match l, H with
  | [AV.nilp], [] => some ()
  | _, _ => none
theorem decAdisk_Disk_Sectors_2_ok (l : List AV) (H : List AE.Obj) (a : Adisk_Disk_Sectors_2) (h : decAdisk_Disk_Sectors_2 l H = some a) : (l, H) = argsdisk_Disk_Sectors_2 a := by
  unfold decAdisk_Disk_Sectors_2 at h
  split at h
  · cases h; rfl
  · cases h
def outdisk_Disk_Sectors_2 : Adisk_Disk_Sectors_2 → (AV → List AE.Obj → Ans) → Ydisk_Disk_Sectors_2 → Ans := fun _ K => fun _ => K (AV.int IntKind.i64 (0)) []
theorem fndisk_Disk_Sectors_2_ok (a : Adisk_Disk_Sectors_2) (K : AV → List AE.Obj → Ans) : fnE Try.tab envdisk_Disk_Sectors_2 noHint 0 70 23 Try.f23.ntmps Try.f23.results.toList anndisk_Disk_Sectors_2 bdisk_Disk_Sectors_2 (argsdisk_Disk_Sectors_2 a).1 (argsdisk_Disk_Sectors_2 a).2 K = fndisk_Disk_Sectors_2 a (outdisk_Disk_Sectors_2 a K) := by kernel_rfl
def vFdisk_Disk_Sectors_2 (a : Adisk_Disk_Sectors_2) (K : AV → List AE.Obj → Ans) : Ans := bindO (fnDdisk_Disk_Sectors_2 a) fun y => outdisk_Disk_Sectors_2 a K y
def Fdisk_Disk_Sectors_2 : List AV → List AE.Obj → (AV → List AE.Obj → Ans) → Ans := fun l H K => bindO (decAdisk_Disk_Sectors_2 l H) fun a => vFdisk_Disk_Sectors_2 a K
theorem Fdisk_Disk_Sectors_2_ok : FuncOk Try.prog 23 Fdisk_Disk_Sectors_2 := func_mkD (hint := noHint) (d := 0) (n := 70) mixed tabOk envdisk_Disk_Sectors_2Ok Try.func23 (bodySome (by kernel_rfl)) (by decide +kernel) anndisk_Disk_Sectors_2_ok decAdisk_Disk_Sectors_2_ok fndisk_Disk_Sectors_2_ok fndisk_Disk_Sectors_2_nat
--@ region_New_2
noncomputable def envregion_New_2 : Env := [(67, .pure Fregion_inside), (23, .func Fdisk_Disk_Sectors_2)]
theorem envregion_New_2Ok : EnvOk Try.prog envregion_New_2 := EnvOk.cons Fregion_inside_ok (EnvOk.cons Fdisk_Disk_Sectors_2_ok (EnvOk.nil))
noncomputable def bregion_New_2 : Code := Try.f28.body.getD .skip
noncomputable def annregion_New_2 : Ann := .none
theorem annregion_New_2_ok : AnnOk Try.prog 19 bregion_New_2 annregion_New_2 := (annOk_none _ _ _)
abbrev Aregion_New_2 := (Int) × (Int)
abbrev Yregion_New_2 := (Unit) ⊕ (Unit)
def fnregion_New_2 {β : Type} : Aregion_New_2 → (Yregion_New_2 → Option β) → Option β := fun (a1, a2) exit => (bindO (fnDdisk_Disk_Sectors_2 ()) fun _ => (bindO (fnDregion_inside (a1, a2, (0 : Int))) fun r => (bif !r then (exit (Sum.inl ())) else (exit (Sum.inr ())))))
def fnDregion_New_2 (a : Aregion_New_2) : Option Yregion_New_2 := fnregion_New_2 a some
theorem fnregion_New_2_nat (a : Aregion_New_2) (k : Yregion_New_2 → Ans) : fnregion_New_2 a k = bindO (fnDregion_New_2 a) k := by
  obtain ⟨a1, a2⟩ := a
  simp only [fnDregion_New_2, fnregion_New_2, bindO_cond, bindO_assoc, bindO_none, bindO_pure, bindO_elim, bindO_unP]
def argsregion_New_2 : Aregion_New_2 → List AV × List AE.Obj := fun (a1, a2) => ([AV.nilp, AV.int IntKind.i64 a1, AV.int IntKind.i64 a2], [])
def decAregion_New_2 (l : List AV) (H : List AE.Obj) : Option Aregion_New_2 := match l, H with
  | [AV.nilp, AV.int IntKind.i64 a1, AV.int IntKind.i64 a2], [] => some (a1, a2)
  | _, _ => none
theorem decAregion_New_2_ok (l : List AV) (H : List AE.Obj) (a : Aregion_New_2) (h : decAregion_New_2 l H = some a) : (l, H) = argsregion_New_2 a := by
  unfold decAregion_New_2 at h
  split at h
  · cases h; rfl
  · cases h
def outregion_New_2 : Aregion_New_2 → (AV → List AE.Obj → Ans) → Yregion_New_2 → Ans := fun (a1, a2) K => (Sum.elim (fun _ => K (AV.tup [AV.nilp, AV.int IntKind.i64 (3)]) []) (fun _ => K (AV.tup [AV.ptr 0 0, AV.int IntKind.i64 (0)]) [AE.Obj.cells [AV.nilp, AV.int IntKind.i64 a1, AV.int IntKind.i64 a2]]))
theorem fnregion_New_2_ok (a : Aregion_New_2) (K : AV → List AE.Obj → Ans) : fnE Try.tab envregion_New_2 noHint 0 70 28 Try.f28.ntmps Try.f28.results.toList annregion_New_2 bregion_New_2 (argsregion_New_2 a).1 (argsregion_New_2 a).2 K = fnregion_New_2 a (outregion_New_2 a K) := by kernel_rfl
def vFregion_New_2 (a : Aregion_New_2) (K : AV → List AE.Obj → Ans) : Ans := bindO (fnDregion_New_2 a) fun y => outregion_New_2 a K y
def Fregion_New_2 : List AV → List AE.Obj → (AV → List AE.Obj → Ans) → Ans := fun l H K => bindO (decAregion_New_2 l H) fun a => vFregion_New_2 a K
theorem Fregion_New_2_ok : FuncOk Try.prog 28 Fregion_New_2 := func_mkD (hint := noHint) (d := 0) (n := 70) mixed tabOk envregion_New_2Ok Try.func28 (bodySome (by kernel_rfl)) (by decide +kernel) annregion_New_2_ok decAregion_New_2_ok fnregion_New_2_ok fnregion_New_2_nat
--@ region_Region_Write_2
noncomputable def envregion_Region_Write_2 : Env := [(34, .func Fregion_Region_Split_2)]
theorem envregion_Region_Write_2Ok : EnvOk Try.prog envregion_Region_Write_2 := EnvOk.cons Fregion_Region_Split_2_ok (EnvOk.nil)
noncomputable def bregion_Region_Write_2 : Code := Try.f31.body.getD .skip
noncomputable def Lregion_Region_Write_2_n0 : Code := codeAt [1, 1, 0, 1, 0, 0] bregion_Region_Write_2
noncomputable def annLregion_Region_Write_2_n0 : Ann := .at 0 [0, 8, 19, 20, 21] (.loop .none)
theorem annLregion_Region_Write_2_n0_ok : AnnOk Try.prog 39 (.loop Lregion_Region_Write_2_n0) annLregion_Region_Write_2_n0 := annOk_at (annOk_none _ _ _)
abbrev Iregion_Region_Write_2_n0 := Unit
abbrev Yregion_Region_Write_2_n0 := Unit
abbrev Vregion_Region_Write_2_n0 := Unit
def Sregion_Region_Write_2_n0 : Iregion_Region_Write_2_n0 → Vregion_Region_Write_2_n0 → St := fun _ _ => { env := [(0, AV.nilp), (8, AV.int IntKind.i64 (10)), (19, AV.own 0), (20, AV.int IntKind.i64 (0)), (21, AV.int IntKind.i64 (0))], stk := [[]], H := [Obj.arr (Ty.st (Ty.pair (Ty.int IntKind.i64) Ty.str)) ([])], blk := 126976 }
def decregion_Region_Write_2_n0 (s : St) : Option (Iregion_Region_Write_2_n0 × Vregion_Region_Write_2_n0) := match s with
  | { env := [(0, AV.nilp), (8, AV.int IntKind.i64 r0), (19, AV.own 0), (20, AV.int IntKind.i64 r1), (21, AV.int IntKind.i64 r2)], stk := [[]], H := [Obj.arr (Ty.st (Ty.pair (Ty.int IntKind.i64) Ty.str)) r3], blk := 126976 } => cond (decide (r0 = 10) && decide (r1 = 0) && decide (r2 = 0) && decide (r3 = [])) (some ((), ())) none
  | _ => none
theorem decregion_Region_Write_2_n0_ok (s : St) (x : Iregion_Region_Write_2_n0 × Vregion_Region_Write_2_n0) (h : decregion_Region_Write_2_n0 s = some x) : s = Sregion_Region_Write_2_n0 x.1 x.2 := by
  unfold decregion_Region_Write_2_n0 at h
  split at h
  · replace h := cond_noneO h; obtain ⟨hg, h⟩ := h; simp only [Bool.and_eq_true, decide_eq_true_eq] at hg; simp only [hg]; cases h; rfl
  · cases h
def outregion_Region_Write_2_n0 : Iregion_Region_Write_2_n0 → (Ex → St → Ans) → Yregion_Region_Write_2_n0 → Ans := fun _ K => fun _ => K (Ex.exit 0) { env := [(8, AV.int IntKind.i64 (10))], stk := [[]], H := [], blk := 126976 }
def stepregion_Region_Write_2_n0 {β : Type} : Iregion_Region_Write_2_n0 → Vregion_Region_Write_2_n0 → (Vregion_Region_Write_2_n0 → Option β) → (Yregion_Region_Write_2_n0 → Option β) → Option β := fun _ _ next exit => (exit ())
def stepDregion_Region_Write_2_n0 (i : Iregion_Region_Write_2_n0) (v : Vregion_Region_Write_2_n0) : Option (Vregion_Region_Write_2_n0 ⊕ Yregion_Region_Write_2_n0) := stepregion_Region_Write_2_n0 i v (fun v => some (.inl v)) (fun y => some (.inr y))
theorem stepregion_Region_Write_2_n0_nat (i : Iregion_Region_Write_2_n0) (v : Vregion_Region_Write_2_n0) (next : Vregion_Region_Write_2_n0 → Ans) (exit : Yregion_Region_Write_2_n0 → Ans) : stepregion_Region_Write_2_n0 i v next exit = bindO (stepDregion_Region_Write_2_n0 i v) (Sum.elim next exit) := by
  obtain z := i
  obtain z := v
  simp only [stepDregion_Region_Write_2_n0, stepregion_Region_Write_2_n0, bindO_cond, bindO_assoc, bindO_none, bindO_pure, bindO_elim, bindO_unP, Sum.elim_inl, Sum.elim_inr]
theorem stepregion_Region_Write_2_n0_ok (n : Nat) (i : Iregion_Region_Write_2_n0) (v : Vregion_Region_Write_2_n0) (K : Ex → St → Ans) : codeI Try.tab envregion_Region_Write_2 noHint (codeD Try.tab envregion_Region_Write_2 noHint 0 64) (n+1) 39 annLregion_Region_Write_2_n0 (.loop Lregion_Region_Write_2_n0) (weakP 0 (exk [8] [6] [(0, [8])]) K) (Sregion_Region_Write_2_n0 i v) = stepregion_Region_Write_2_n0 i v (fun v' => codeI Try.tab envregion_Region_Write_2 noHint (codeD Try.tab envregion_Region_Write_2 noHint 0 64) n 39 annLregion_Region_Write_2_n0 (.loop Lregion_Region_Write_2_n0) (weakP 0 (exk [8] [6] [(0, [8])]) K) (Sregion_Region_Write_2_n0 i v')) (fun y => outregion_Region_Write_2_n0 i K y) := by kernel_rfl
theorem GNregion_Region_Write_2_n0_ok : CSum Try.prog 39 (.loop Lregion_Region_Write_2_n0) (sumL decregion_Region_Write_2_n0 stepDregion_Region_Write_2_n0 outregion_Region_Write_2_n0) := csum_loop mixed tabOk envregion_Region_Write_2Ok 0 (exk [8] [6] [(0, [8])]) annLregion_Region_Write_2_n0_ok decregion_Region_Write_2_n0_ok stepregion_Region_Write_2_n0_ok stepregion_Region_Write_2_n0_nat
noncomputable def Gregion_Region_Write_2_n0 : (Ex → St → Ans) → St → Ans := (sumL decregion_Region_Write_2_n0 stepDregion_Region_Write_2_n0 outregion_Region_Write_2_n0)
theorem Gregion_Region_Write_2_n0_ok : CSum Try.prog 39 (.loop Lregion_Region_Write_2_n0) Gregion_Region_Write_2_n0 := GNregion_Region_Write_2_n0_ok
noncomputable def annregion_Region_Write_2 : Ann := (.seq .none (.seq .none (.seq (.seq .none (.block (.cut 0 [0, 8, 19, 20, 21] Gregion_Region_Write_2_n0))) .none)))
theorem annregion_Region_Write_2_ok : AnnOk Try.prog 39 bregion_Region_Write_2 annregion_Region_Write_2 := ⟨(annOk_none _ _ _), ⟨(annOk_none _ _ _), ⟨⟨(annOk_none _ _ _), Gregion_Region_Write_2_n0_ok⟩, (annOk_none _ _ _)⟩⟩⟩
abbrev Aregion_Region_Write_2 := (Int) × (List UInt8)
abbrev Yregion_Region_Write_2 := Unit
def fnregion_Region_Write_2 {β : Type} : Aregion_Region_Write_2 → (Yregion_Region_Write_2 → Option β) → Option β := fun (a1, a2) exit => (bindO (fnDregion_Region_Split_2 (a1, a2)) fun _ => (bindO (loopD (stepDregion_Region_Write_2_n0 ()) FUEL ()) fun _ => (exit ())))
def fnDregion_Region_Write_2 (a : Aregion_Region_Write_2) : Option Yregion_Region_Write_2 := fnregion_Region_Write_2 a some
theorem fnregion_Region_Write_2_nat (a : Aregion_Region_Write_2) (k : Yregion_Region_Write_2 → Ans) : fnregion_Region_Write_2 a k = bindO (fnDregion_Region_Write_2 a) k := by
  obtain ⟨a1, a2⟩ := a
  simp only [fnDregion_Region_Write_2, fnregion_Region_Write_2, bindO_cond, bindO_assoc, bindO_none, bindO_pure, bindO_elim, bindO_unP]
def argsregion_Region_Write_2 : Aregion_Region_Write_2 → List AV × List AE.Obj := fun (a1, a2) => ([AV.nilp, AV.int IntKind.i64 a1, AV.str a2], [])
def decAregion_Region_Write_2 (l : List AV) (H : List AE.Obj) : Option Aregion_Region_Write_2 := match l, H with
  | [AV.nilp, AV.int IntKind.i64 a1, AV.str a2], [] => some (a1, a2)
  | _, _ => none
theorem decAregion_Region_Write_2_ok (l : List AV) (H : List AE.Obj) (a : Aregion_Region_Write_2) (h : decAregion_Region_Write_2 l H = some a) : (l, H) = argsregion_Region_Write_2 a := by
  unfold decAregion_Region_Write_2 at h
  split at h
  · cases h; rfl
  · cases h
def outregion_Region_Write_2 : Aregion_Region_Write_2 → (AV → List AE.Obj → Ans) → Yregion_Region_Write_2 → Ans := fun (a1, a2) K => fun _ => K (AV.int IntKind.i64 (10)) []
theorem fnregion_Region_Write_2_ok (a : Aregion_Region_Write_2) (K : AV → List AE.Obj → Ans) : fnE Try.tab envregion_Region_Write_2 noHint 0 70 31 Try.f31.ntmps Try.f31.results.toList annregion_Region_Write_2 bregion_Region_Write_2 (argsregion_Region_Write_2 a).1 (argsregion_Region_Write_2 a).2 K = fnregion_Region_Write_2 a (outregion_Region_Write_2 a K) := by kernel_rfl
def vFregion_Region_Write_2 (a : Aregion_Region_Write_2) (K : AV → List AE.Obj → Ans) : Ans := bindO (fnDregion_Region_Write_2 a) fun y => outregion_Region_Write_2 a K y
def Fregion_Region_Write_2 : List AV → List AE.Obj → (AV → List AE.Obj → Ans) → Ans := fun l H K => bindO (decAregion_Region_Write_2 l H) fun a => vFregion_Region_Write_2 a K
theorem Fregion_Region_Write_2_ok : FuncOk Try.prog 31 Fregion_Region_Write_2 := func_mkD (hint := noHint) (d := 0) (n := 70) mixed tabOk envregion_Region_Write_2Ok Try.func31 (bodySome (by kernel_rfl)) (by decide +kernel) annregion_Region_Write_2_ok decAregion_Region_Write_2_ok fnregion_Region_Write_2_ok fnregion_Region_Write_2_nat
--@ region_Region_Flush
noncomputable def envregion_Region_Flush : Env := []
theorem envregion_Region_FlushOk : EnvOk Try.prog envregion_Region_Flush := EnvOk.nil
noncomputable def bregion_Region_Flush : Code := Try.f35.body.getD .skip
noncomputable def annregion_Region_Flush : Ann := .none
theorem annregion_Region_Flush_ok : AnnOk Try.prog 10 bregion_Region_Flush annregion_Region_Flush := (annOk_none _ _ _)
abbrev Aregion_Region_Flush := Unit
abbrev Yregion_Region_Flush := Unit
def fnregion_Region_Flush {β : Type} : Aregion_Region_Flush → (Yregion_Region_Flush → Option β) → Option β := fun _ exit => (exit ())
def fnDregion_Region_Flush (a : Aregion_Region_Flush) : Option Yregion_Region_Flush := fnregion_Region_Flush a some
theorem fnregion_Region_Flush_nat (a : Aregion_Region_Flush) (k : Yregion_Region_Flush → Ans) : fnregion_Region_Flush a k = bindO (fnDregion_Region_Flush a) k := by
  obtain z := a
  simp only [fnDregion_Region_Flush, fnregion_Region_Flush, bindO_cond, bindO_assoc, bindO_none, bindO_pure, bindO_elim, bindO_unP]
def argsregion_Region_Flush : Aregion_Region_Flush → List AV × List AE.Obj := fun _ => ([AV.nilp], [])
def decAregion_Region_Flush (l : List AV) (H : List AE.Obj) : Option Aregion_Region_Flush := match l, H with
  | [AV.nilp], [] => some ()
  | _, _ => none
theorem decAregion_Region_Flush_ok (l : List AV) (H : List AE.Obj) (a : Aregion_Region_Flush) (h : decAregion_Region_Flush l H = some a) : (l, H) = argsregion_Region_Flush a := by
  unfold decAregion_Region_Flush at h
  split at h
  · cases h; rfl
  · cases h
def outregion_Region_Flush : Aregion_Region_Flush → (AV → List AE.Obj → Ans) → Yregion_Region_Flush → Ans := fun _ K => fun _ => K (AV.int IntKind.i64 (10)) []
theorem fnregion_Region_Flush_ok (a : Aregion_Region_Flush) (K : AV → List AE.Obj → Ans) : fnE Try.tab envregion_Region_Flush noHint 0 70 35 Try.f35.ntmps Try.f35.results.toList annregion_Region_Flush bregion_Region_Flush (argsregion_Region_Flush a).1 (argsregion_Region_Flush a).2 K = fnregion_Region_Flush a (outregion_Region_Flush a K) := by kernel_rfl
def vFregion_Region_Flush (a : Aregion_Region_Flush) (K : AV → List AE.Obj → Ans) : Ans := bindO (fnDregion_Region_Flush a) fun y => outregion_Region_Flush a K y
def Fregion_Region_Flush : List AV → List AE.Obj → (AV → List AE.Obj → Ans) → Ans := fun l H K => bindO (decAregion_Region_Flush l H) fun a => vFregion_Region_Flush a K
theorem Fregion_Region_Flush_ok : FuncOk Try.prog 35 Fregion_Region_Flush := func_mkD (hint := noHint) (d := 0) (n := 70) mixed tabOk envregion_Region_FlushOk Try.func35 (bodySome (by kernel_rfl)) (by decide +kernel) annregion_Region_Flush_ok decAregion_Region_Flush_ok fnregion_Region_Flush_ok fnregion_Region_Flush_nat
--@ region_Region_Many_2
noncomputable def envregion_Region_Many_2 : Env := []
theorem envregion_Region_Many_2Ok : EnvOk Try.prog envregion_Region_Many_2 := EnvOk.nil
noncomputable def bregion_Region_Many_2 : Code := Try.f36.body.getD .skip
noncomputable def annregion_Region_Many_2 : Ann := .none
theorem annregion_Region_Many_2_ok : AnnOk Try.prog 9 bregion_Region_Many_2 annregion_Region_Many_2 := (annOk_none _ _ _)
abbrev Aregion_Region_Many_2 := Unit
abbrev Yregion_Region_Many_2 := Unit
def fnregion_Region_Many_2 {β : Type} : Aregion_Region_Many_2 → (Yregion_Region_Many_2 → Option β) → Option β := fun _ exit => (exit ())
def fnDregion_Region_Many_2 (a : Aregion_Region_Many_2) : Option Yregion_Region_Many_2 := fnregion_Region_Many_2 a some
theorem fnregion_Region_Many_2_nat (a : Aregion_Region_Many_2) (k : Yregion_Region_Many_2 → Ans) : fnregion_Region_Many_2 a k = bindO (fnDregion_Region_Many_2 a) k := by
  obtain z := a
  simp only [fnDregion_Region_Many_2, fnregion_Region_Many_2, bindO_cond, bindO_assoc, bindO_none, bindO_pure, bindO_elim, bindO_unP]
def argsregion_Region_Many_2 : Aregion_Region_Many_2 → List AV × List AE.Obj := fun _ => ([AV.nilp], [])
def decAregion_Region_Many_2 (l : List AV) (H : List AE.Obj) : Option Aregion_Region_Many_2 := match l, H with
  | [AV.nilp], [] => some ()
  | _, _ => none
theorem decAregion_Region_Many_2_ok (l : List AV) (H : List AE.Obj) (a : Aregion_Region_Many_2) (h : decAregion_Region_Many_2 l H = some a) : (l, H) = argsregion_Region_Many_2 a := by
  unfold decAregion_Region_Many_2 at h
  split at h
  · cases h; rfl
  · cases h
def outregion_Region_Many_2 : Aregion_Region_Many_2 → (AV → List AE.Obj → Ans) → Yregion_Region_Many_2 → Ans := fun _ K => fun _ => K (AV.int IntKind.i64 (0)) []
theorem fnregion_Region_Many_2_ok (a : Aregion_Region_Many_2) (K : AV → List AE.Obj → Ans) : fnE Try.tab envregion_Region_Many_2 noHint 0 70 36 Try.f36.ntmps Try.f36.results.toList annregion_Region_Many_2 bregion_Region_Many_2 (argsregion_Region_Many_2 a).1 (argsregion_Region_Many_2 a).2 K = fnregion_Region_Many_2 a (outregion_Region_Many_2 a K) := by kernel_rfl
def vFregion_Region_Many_2 (a : Aregion_Region_Many_2) (K : AV → List AE.Obj → Ans) : Ans := bindO (fnDregion_Region_Many_2 a) fun y => outregion_Region_Many_2 a K y
def Fregion_Region_Many_2 : List AV → List AE.Obj → (AV → List AE.Obj → Ans) → Ans := fun l H K => bindO (decAregion_Region_Many_2 l H) fun a => vFregion_Region_Many_2 a K
theorem Fregion_Region_Many_2_ok : FuncOk Try.prog 36 Fregion_Region_Many_2 := func_mkD (hint := noHint) (d := 0) (n := 70) mixed tabOk envregion_Region_Many_2Ok Try.func36 (bodySome (by kernel_rfl)) (by decide +kernel) annregion_Region_Many_2_ok decAregion_Region_Many_2_ok fnregion_Region_Many_2_ok fnregion_Region_Many_2_nat
--@ law09_RegionNone
noncomputable def envlaw09_RegionNone : Env := [(33, .func Fregion_Region_Place), (27, .pure Flaw09_works), (32, .func Fregion_Region_Read_2), (34, .func Fregion_Region_Split_2), (28, .func Fregion_New_2), (31, .func Fregion_Region_Write_2), (35, .func Fregion_Region_Flush), (36, .func Fregion_Region_Many_2)]
theorem envlaw09_RegionNoneOk : EnvOk Try.prog envlaw09_RegionNone := EnvOk.cons Fregion_Region_Place_ok (EnvOk.cons Flaw09_works_ok (EnvOk.cons Fregion_Region_Read_2_ok (EnvOk.cons Fregion_Region_Split_2_ok (EnvOk.cons Fregion_New_2_ok (EnvOk.cons Fregion_Region_Write_2_ok (EnvOk.cons Fregion_Region_Flush_ok (EnvOk.cons Fregion_Region_Many_2_ok (EnvOk.nil))))))))
noncomputable def blaw09_RegionNone : Code := Try.f7.body.getD .skip
noncomputable def Llaw09_RegionNone_n0 : Code := codeAt [1, 1, 1, 1, 1, 1, 1, 0] blaw09_RegionNone
noncomputable def annLlaw09_RegionNone_n0 : Ann := .none
theorem annLlaw09_RegionNone_n0_ok : AnnOk Try.prog 73 Llaw09_RegionNone_n0 annLlaw09_RegionNone_n0 := (annOk_none _ _ _)
abbrev Ilaw09_RegionNone_n0 := (Int) × (List UInt8) × (Int)
abbrev Ylaw09_RegionNone_n0 := (Bool)
def Slaw09_RegionNone_n0 : Ilaw09_RegionNone_n0 → St := fun (t0, t2, t15) => { env := [(0, AV.int IntKind.i64 t0), (2, AV.str t2), (7, AV.nilp), (9, AV.int IntKind.i64 (10)), (11, AV.int IntKind.i64 (10)), (13, AV.int IntKind.i64 (10)), (15, AV.int IntKind.i64 t15)], stk := [[]], H := [], blk := 28672 }
def declaw09_RegionNone_n0 (s : St) : Option Ilaw09_RegionNone_n0 := match s with
  | { env := [(0, AV.int IntKind.i64 t0), (2, AV.str t2), (7, AV.nilp), (9, AV.int IntKind.i64 r2), (11, AV.int IntKind.i64 r3), (13, AV.int IntKind.i64 r4), (15, AV.int IntKind.i64 t15)], stk := [[]], H := [], blk := 28672 } => cond (decide (r2 = 10) && decide (r3 = 10) && decide (r4 = 10)) (some (t0, t2, t15)) none
  | _ => none
theorem declaw09_RegionNone_n0_ok (s : St) (x : Ilaw09_RegionNone_n0) (h : declaw09_RegionNone_n0 s = some x) : s = Slaw09_RegionNone_n0 x := by
  unfold declaw09_RegionNone_n0 at h
  split at h
  · replace h := cond_noneO h; obtain ⟨hg, h⟩ := h; simp only [Bool.and_eq_true, decide_eq_true_eq] at hg; simp only [hg]; cases h; rfl
  · cases h
def outlaw09_RegionNone_n0 : Ilaw09_RegionNone_n0 → (Ex → St → Ans) → Ylaw09_RegionNone_n0 → Ans := fun (t0, t2, t15) K => fun t6_y => K (Ex.norm) { env := [(6, AV.bool t6_y)], stk := [[]], H := [], blk := 28672 }
def nodelaw09_RegionNone_n0 {β : Type} : Ilaw09_RegionNone_n0 → (Ylaw09_RegionNone_n0 → Option β) → Option β := fun (t0, t2, t15) exit => (bif t15 == (3 : Int) then (bindO (fnDregion_Region_Write_2 (t0, t2)) fun _ => (bindO (fnDregion_Region_Flush ()) fun _ => (bindO (fnDregion_Region_Many_2 ()) fun _ => (exit (true))))) else (exit (false)))
def nodeDlaw09_RegionNone_n0 (i : Ilaw09_RegionNone_n0) : Option Ylaw09_RegionNone_n0 := nodelaw09_RegionNone_n0 i some
theorem nodelaw09_RegionNone_n0_nat (i : Ilaw09_RegionNone_n0) (k : Ylaw09_RegionNone_n0 → Ans) : nodelaw09_RegionNone_n0 i k = bindO (nodeDlaw09_RegionNone_n0 i) k := by
  obtain ⟨t0, t2, t15⟩ := i
  simp only [nodeDlaw09_RegionNone_n0, nodelaw09_RegionNone_n0, bindO_cond, bindO_assoc, bindO_none, bindO_pure, bindO_elim, bindO_unP]
theorem nodelaw09_RegionNone_n0_ok (i : Ilaw09_RegionNone_n0) (K : Ex → St → Ans) : codeI Try.tab envlaw09_RegionNone noHint (codeD Try.tab envlaw09_RegionNone noHint 0 64) 70 73 annLlaw09_RegionNone_n0 Llaw09_RegionNone_n0 (weakP 0 (exk [6] [6] []) K) (Slaw09_RegionNone_n0 i) = nodelaw09_RegionNone_n0 i (outlaw09_RegionNone_n0 i K) := by kernel_rfl
theorem GNlaw09_RegionNone_n0_ok : CSum Try.prog 73 Llaw09_RegionNone_n0 (sumN declaw09_RegionNone_n0 nodeDlaw09_RegionNone_n0 outlaw09_RegionNone_n0) := csum_node mixed tabOk envlaw09_RegionNoneOk 0 (exk [6] [6] []) annLlaw09_RegionNone_n0_ok declaw09_RegionNone_n0_ok nodelaw09_RegionNone_n0_ok nodelaw09_RegionNone_n0_nat
noncomputable def Glaw09_RegionNone_n0 : (Ex → St → Ans) → St → Ans := (sumN declaw09_RegionNone_n0 nodeDlaw09_RegionNone_n0 outlaw09_RegionNone_n0)
theorem Glaw09_RegionNone_n0_ok : CSum Try.prog 73 Llaw09_RegionNone_n0 Glaw09_RegionNone_n0 := GNlaw09_RegionNone_n0_ok
noncomputable def annlaw09_RegionNone : Ann := (.seq .none (.seq .none (.seq .none (.seq .none (.seq .none (.seq .none (.seq .none (.seq (.cut 0 [0, 2, 7, 9, 11, 13, 15] Glaw09_RegionNone_n0) .none))))))))
theorem annlaw09_RegionNone_ok : AnnOk Try.prog 73 blaw09_RegionNone annlaw09_RegionNone := ⟨(annOk_none _ _ _), ⟨(annOk_none _ _ _), ⟨(annOk_none _ _ _), ⟨(annOk_none _ _ _), ⟨(annOk_none _ _ _), ⟨(annOk_none _ _ _), ⟨(annOk_none _ _ _), ⟨Glaw09_RegionNone_n0_ok, (annOk_none _ _ _)⟩⟩⟩⟩⟩⟩⟩⟩
abbrev Alaw09_RegionNone := (Int) × (Int) × (List UInt8)
abbrev Ylaw09_RegionNone := (Bool)
def fnlaw09_RegionNone {β : Type} : Alaw09_RegionNone → (Ylaw09_RegionNone → Option β) → Option β := fun (a0, a1, a2) exit => (bindO (fnDlaw09_works ()) fun r => (bif !r then (exit (false)) else (bindO (fnDregion_Region_Place (a0)) fun _ => (bindO (fnDregion_Region_Read_2 (a0, a1)) fun _ => (bindO (fnDregion_Region_Split_2 (a0, a2)) fun _ => (bindO (fnDregion_New_2 ((0 : Int), (1 : Int))) (Sum.elim (fun _ => (bindO (nodeDlaw09_RegionNone_n0 (a0, a2, (3 : Int))) fun t6 => (exit (t6)))) (fun _ => (bindO (nodeDlaw09_RegionNone_n0 (a0, a2, (0 : Int))) fun t6 => (exit (t6)))))))))))
def fnDlaw09_RegionNone (a : Alaw09_RegionNone) : Option Ylaw09_RegionNone := fnlaw09_RegionNone a some
theorem fnlaw09_RegionNone_nat (a : Alaw09_RegionNone) (k : Ylaw09_RegionNone → Ans) : fnlaw09_RegionNone a k = bindO (fnDlaw09_RegionNone a) k := by
  obtain ⟨a0, a1, a2⟩ := a
  simp only [fnDlaw09_RegionNone, fnlaw09_RegionNone, bindO_cond, bindO_assoc, bindO_none, bindO_pure, bindO_elim, bindO_unP]
def argslaw09_RegionNone : Alaw09_RegionNone → List AV × List AE.Obj := fun (a0, a1, a2) => ([AV.int IntKind.i64 a0, AV.int IntKind.i64 a1, AV.str a2], [])
def decAlaw09_RegionNone (l : List AV) (H : List AE.Obj) : Option Alaw09_RegionNone := match l, H with
  | [AV.int IntKind.i64 a0, AV.int IntKind.i64 a1, AV.str a2], [] => some (a0, a1, a2)
  | _, _ => none
theorem decAlaw09_RegionNone_ok (l : List AV) (H : List AE.Obj) (a : Alaw09_RegionNone) (h : decAlaw09_RegionNone l H = some a) : (l, H) = argslaw09_RegionNone a := by
  unfold decAlaw09_RegionNone at h
  split at h
  · cases h; rfl
  · cases h
def outlaw09_RegionNone : Alaw09_RegionNone → (AV → List AE.Obj → Ans) → Ylaw09_RegionNone → Ans := fun (a0, a1, a2) K => fun r_y => K (AV.bool r_y) []
theorem fnlaw09_RegionNone_ok (a : Alaw09_RegionNone) (K : AV → List AE.Obj → Ans) : fnE Try.tab envlaw09_RegionNone noHint 0 70 7 Try.f7.ntmps Try.f7.results.toList annlaw09_RegionNone blaw09_RegionNone (argslaw09_RegionNone a).1 (argslaw09_RegionNone a).2 K = fnlaw09_RegionNone a (outlaw09_RegionNone a K) := by kernel_rfl
def vFlaw09_RegionNone (a : Alaw09_RegionNone) (K : AV → List AE.Obj → Ans) : Ans := bindO (fnDlaw09_RegionNone a) fun y => outlaw09_RegionNone a K y
def Flaw09_RegionNone : List AV → List AE.Obj → (AV → List AE.Obj → Ans) → Ans := fun l H K => bindO (decAlaw09_RegionNone l H) fun a => vFlaw09_RegionNone a K
theorem Flaw09_RegionNone_ok : FuncOk Try.prog 7 Flaw09_RegionNone := func_mkD (hint := noHint) (d := 0) (n := 70) mixed tabOk envlaw09_RegionNoneOk Try.func7 (bodySome (by kernel_rfl)) (by decide +kernel) annlaw09_RegionNone_ok decAlaw09_RegionNone_ok fnlaw09_RegionNone_ok fnlaw09_RegionNone_nat
end Go.Proofs.R3
namespace Go.Proofs.R3
open Go Go.AE Go.Plain

theorem wrapU32 {m : Nat} (h : m < 4294967296) : IntKind.wrap .u32 (m : Int) = (m : Int) := by
  simp [IntKind.wrap, IntKind.bits, IntKind.signed]; omega
theorem wrapU8 (m : Nat) : IntKind.wrap .u8 (m : Int) = ((m % 256 : Nat) : Int) := by
  simp [IntKind.wrap, IntKind.bits, IntKind.signed]
theorem natU32 {m : Nat} (h : m < 4294967296) : Int.toNat ((m : Int) % 4294967296) = m := by omega
theorem nat64 {m : Nat} (h : m < 9223372036854775808) : Int.toNat ((m : Int) % 18446744073709551616) = m := by omega
theorem wrapN {m : Nat} (h : m ≤ 9223372036854775807) : IntKind.wrap .i64 (m : Int) = (m : Int) := wrap64 (by omega) (by omega)
theorem pow_min (a b : Nat) : (2 : Int) ^ min a b = ((2 ^ min a b : Nat) : Int) := by simp
theorem fdiv_nat (m p : Nat) : Int.fdiv (m : Int) (p : Int) = ((m / p : Nat) : Int) := by rw [Int.fdiv_eq_ediv_of_nonneg _ (by omega)]; rfl
theorem tdiv_nat (m p : Nat) : Int.tdiv (m : Int) (p : Int) = ((m / p : Nat) : Int) := rfl
theorem tmod_nat (m p : Nat) : Int.tmod (m : Int) (p : Int) = ((m % p : Nat) : Int) := rfl

/-! ### cyclic -/
theorem bitStep_eq {n : Nat} (h : n < 4294967296) : IntKind.wrap .u32 (((Int.toNat (Int.fdiv (n : Int) 2 % 4294967296) ^^^ Int.toNat (IntKind.wrap .u32 (((3988292384 &&&
    Int.toNat (IntKind.wrap .u32 ((0 : Int) - IntKind.wrap .u32 (((Int.toNat ((n : Int) % 4294967296) &&& 1 : Nat)) : Int)) % 4294967296) : Nat)) : Int) % 4294967296) : Nat)) : Int) = ((bitStep n : Nat) : Int) := by
  have e1 : Int.fdiv (n : Int) 2 = ((n / 2 : Nat) : Int) := fdiv_nat n 2
  rw [e1, natU32 (m := n / 2) (by omega), natU32 h, Nat.and_one_is_mod]
  have hlt := bitStep_lt (n := n) (by omega)
  unfold bitStep at hlt ⊢
  have hn : n % 2 = 0 ∨ n % 2 = 1 := by omega
  rcases hn with hn | hn <;> rw [hn] at hlt ⊢
  · have : Int.toNat (IntKind.wrap .u32 (((3988292384 &&& Int.toNat (IntKind.wrap .u32 ((0 : Int) - IntKind.wrap .u32 ((0 : Nat) : Int)) % 4294967296) : Nat)) : Int) % 4294967296) = 0 := by decide
    rw [this]
    exact wrapU32 hlt
  · have : Int.toNat (IntKind.wrap .u32 (((3988292384 &&& Int.toNat (IntKind.wrap .u32 ((0 : Int) - IntKind.wrap .u32 ((1 : Nat) : Int)) % 4294967296) : Nat)) : Int) % 4294967296) = poly := by decide
    rw [this]
    exact wrapU32 hlt
theorem bits_succ (k n : Nat) : nbits (k + 1) n = bitStep (nbits k n) := by rw [← bits_add k 1]; rfl
theorem run_take (m : Nat) {s : List UInt8} {j : Nat} {c : UInt8} (h : s[j]? = some c) : crun m (s.take (j + 1)) = byteStep (crun m (s.take j)) c.toNat := by
  rw [List.take_add_one, h, run_append]; rfl
theorem xor_all {n : Nat} (hn : n < 4294967296) : IntKind.wrap .u32 (((Int.toNat ((n : Int) % 4294967296) ^^^ 4294967295 : Nat)) : Int) = ((n ^^^ all32 : Nat) : Int) := by
  rw [natU32 hn, wrapU32 (Nat.xor_lt_two_pow (n := 32) hn (by decide))]
  rfl
theorem byte8 (n p : Nat) : UInt8.ofNat (Int.toNat (IntKind.wrap .u8 (Int.fdiv (n : Int) (p : Int)))) = UInt8.ofNat (n / p % 256) := by
  rw [fdiv_nat, wrapU8]
  rfl
/-! ### padding -/
theorem repeat_zero : ∀ n : Nat, Lib.repeatL [0] n = List.replicate n 0
  | 0 => rfl
  | n + 1 => by rw [Lib.repeatL, repeat_zero n, List.replicate_succ]; rfl
theorem region_Pad_eq (s : List UInt8) (hs : s.length ≤ 1000000000000) : fnDregion_Pad s = some (padTo s) := by
  have e : Int.tmod (s.length : Int) 64 = ((s.length % 64 : Nat) : Int) := rfl
  simp only [fnDregion_Pad, fnregion_Pad, e]
  by_cases h : s.length % 64 = 0
  · rw [dec_false (by omega), cond_false, padTo, h]
    simp
  · have e2 : IntKind.wrap .i64 ((64 : Int) - ((s.length % 64 : Nat) : Int)) = ((64 - s.length % 64 : Nat) : Int) := by rw [wrap64 (by omega) (by omega)]; omega
    rw [dec_true (by omega), cond_true, e2]
    have : fnDstrings_Repeat ([0], ((64 - s.length % 64 : Nat) : Int)) = some (List.replicate (64 - s.length % 64) 0) := by
      unfold fnDstrings_Repeat
      rw [repeat_zero]
      simp only [Int.toNat_natCast, List.length_cons, List.length_nil]
      rw [dec_true (by omega), dec_true (by omega), ble_true (by omega)]
      rfl
    rw [this]
    simp only [bindO_pure]
    rw [ble_true (by rw [List.length_replicate]; omega), cond_true, padTo, show (64 - s.length % 64) % 64 = 64 - s.length % 64 by omega]
theorem ref09_Pad_eq (s : List UInt8) (hs : s.length ≤ 1000000000000) : fnDref09_Pad s = some (padTo s) := by
  have key : ∃ y, loopD (stepDref09_Pad_n0 ()) FUEL s = some y ∧ y = padTo s := by
    refine loopD_inv (fun j v => j ≤ (64 - s.length % 64) % 64 ∧ v = s ++ List.replicate j 0) ((64 - s.length % 64) % 64) _ ?_ ⟨by omega, by simp⟩ (by omega)
    rintro j v ⟨hj, rfl⟩
    have hl : (s ++ List.replicate j (0 : UInt8)).length = s.length + j := by simp
    have e : Int.tmod ((s.length + j : Nat) : Int) 64 = (((s.length + j) % 64 : Nat) : Int) := rfl
    simp only [stepDref09_Pad_n0, stepref09_Pad_n0, hl, e]
    by_cases hlt : j < (64 - s.length % 64) % 64
    · left
      have e1 : ((((s.length + j) % 64 : Nat) : Int) != 0) = true := by rw [bne_iff_ne]; omega
      rw [e1, cond_true, ble_true (by omega), cond_true]
      exact ⟨_, rfl, hlt, by omega, by rw [List.append_assoc, List.replicate_succ']⟩
    · right
      have e1 : ((((s.length + j) % 64 : Nat) : Int) != 0) = false := by rw [bne_eq_false_iff_eq]; omega
      rw [e1, cond_false]
      exact ⟨_, rfl, by rw [padTo, show j = (64 - s.length % 64) % 64 by omega]⟩
  obtain ⟨y, hy, rfl⟩ := key
  simp only [fnDref09_Pad, fnref09_Pad, hy, bindO_pure]

/-! ### numbers of a fixed width -/
theorem pow256 (k : Nat) : (2 : Nat) ^ (8 * k) = 256 ^ k := by rw [Nat.pow_mul]
/-- A number's bytes behind others, if it has so many. -/
def putN (s : List UInt8) (n : Int) (k : Nat) : List UInt8 := if 0 ≤ n ∧ n < ((256 ^ k : Nat) : Int) then s ++ be k n.toNat else s
theorem putN_len (s : List UInt8) (n : Int) (k : Nat) : (putN s n k).length ≤ s.length + k := by
  unfold putN; split
  · rw [List.length_append, be_length]; omega
  · omega
theorem set_byte (k n j : Nat) (hj : j < k) : (bytesOf ((intsOf (be k n)).take j ++ List.replicate (k - j) 0)).length = k := by
  simp [bytesOf, intsOf, be_length]; omega
theorem bytes_ints (s : List UInt8) : bytesOf (intsOf s) = s := by
  unfold bytesOf intsOf
  rw [List.map_map]
  conv => rhs; rw [← List.map_id s]
  refine List.map_congr_left fun c _ => ?_
  simp
end Go.Proofs.R3
namespace Go.Proofs.R3
open Go Go.AE
theorem Builder_String_eq (s : List UInt8) (h : s.length ≤ 9223372036854775807) : fnDBuilder_String (intsOf s) = some (s, intsOf s) := by
  unfold fnDBuilder_String
  rw [ble_true (by simpa [intsOf] using h), cond_true, bytes_ints]
theorem intsOf_append (a b : List UInt8) : intsOf (a ++ b) = intsOf a ++ intsOf b := by simp [intsOf]
theorem Builder_WriteString_eq (s : List UInt8) (l : List UInt8) (h : s.length + l.length ≤ 140737488355328) : fnDstrings_Builder_WriteString (s, intsOf l) = some ((s.length : Int), intsOf (l ++ s)) := by
  have e : (intsOf l).length = l.length := by simp [intsOf]
  have e2 : (intsOf s).length = s.length := by simp [intsOf]
  simp only [fnDstrings_Builder_WriteString, fnstrings_Builder_WriteString, fnDBuilder_copyCheck, bindO_pure, e, e2, intsOf_append]
  rw [ble_true (by omega)]; rfl
theorem Builder_StringAgain_eq (s : List UInt8) (h : s.length ≤ 9223372036854775807) : fnDBuilder_StringAgain (intsOf s) = some (s, intsOf s) := by
  unfold fnDBuilder_StringAgain
  rw [ble_true (by simpa [intsOf] using h), cond_true, bytes_ints]
end Go.Proofs.R3
namespace Go.Proofs.R3
open Go Go.AE

abbrev Secs := List (Int × List UInt8)

theorem mem_take_succ {α : Type} {l : List α} {j : Nat} {x y : α} (h : l[j]? = some y) : x ∈ l.take (j + 1) ↔ x ∈ l.take j ∨ x = y := by
  rw [List.take_add_one, h]; simp

theorem contains_eq (l : List Int) (x : Int) (hl : l.length ≤ 1000000) : fnDslices_Contains_int_int (l, x) = some (decide (x ∈ l)) := by
  have key : ∃ y, loopD (stepDslices_Index_int_int_n0 (l, x, (l.length : Int))) FUEL ((0 : Nat) : Int) = some y ∧ ((x ∈ l ∧ ∃ j : Nat, y = .inl (j : Int)) ∨ (x ∉ l ∧ y = .inr ())) := by
    refine loopD_each l (fun j (_ : Unit) => (j : Int)) (fun j _ => x ∉ l.take j) _ ?_ ?_ (s0 := ()) (by simp) (by omega)
    · intro j y _ hj hlt hi
      simp only [stepDslices_Index_int_int_n0, stepslices_Index_int_int_n0, dec_true (show (j : Int) < (l.length : Int) by omega), cond_true, nth_of hj, bindO_pure, wrap64_nat (show j < 9223372036854775807 by omega)]
      by_cases e : x = y
      · subst e
        right
        exact ⟨.inl j, by simp, .inl ⟨List.mem_of_getElem? hj, j, rfl⟩⟩
      · left
        exact ⟨(), by simp [beq_false_of_ne e], by rw [mem_take_succ hj]; simp [hi, e]⟩
    · intro _ hi
      simp only [stepDslices_Index_int_int_n0, stepslices_Index_int_int_n0, dec_false (show ¬ (l.length : Int) < (l.length : Int) by omega), cond_false]
      rw [List.take_length] at hi
      exact ⟨.inr (), rfl, .inr ⟨hi, rfl⟩⟩
  obtain ⟨y, hy, h⟩ := key
  have hy' : loopD (stepDslices_Index_int_int_n0 (l, x, (l.length : Int))) FUEL 0 = _ := hy
  simp only [fnDslices_Contains_int_int, fnslices_Contains_int_int, fnDslices_Index_int_int, fnslices_Index_int_int, hy', bindO_pure]
  rcases h with ⟨h1, j, rfl⟩ | ⟨h1, rfl⟩
  · simp only [h1, bindO_pure, Sum.elim_inl]; simp
  · simp only [h1, bindO_pure, Sum.elim_inr]; simp

/-- A call: its error, whether the disk goes down at it, the count, whether it is down. -/
def callM (ops at_ : Int) (off : Bool) (fails : List Int) : Int × Bool × Int × Bool :=
  if off = true then (31, false, IntKind.wrap .i64 (ops + 1), off)
  else if IntKind.wrap .i64 (ops + 1) = at_ then (31, true, IntKind.wrap .i64 (ops + 1), true)
  else if IntKind.wrap .i64 (ops + 1) ∈ fails then (30, false, IntKind.wrap .i64 (ops + 1), off)
  else (0, false, IntKind.wrap .i64 (ops + 1), off)

theorem callM_last {ops at_ : Int} {off : Bool} {fails : List Int} (h : (callM ops at_ off fails).2.1 = true) : (callM ops at_ off fails).1 ≠ 0 := by
  unfold callM at h ⊢
  repeat' split at h
  all_goals first | (cases h; done) | skip
  rename_i h1 h2
  rw [if_neg h1, if_pos h2]
  simp
theorem call_eq (ops at_ : Int) (off : Bool) (sure : List (List UInt8)) (seen waits : Secs) (fails : List Int) (hl : fails.length ≤ 1000000) :
    fnDdisk_Disk_call (ops, at_, off, sure, seen, waits, fails) = some (callM ops at_ off fails) := by
  simp only [fnDdisk_Disk_call, fndisk_Disk_call, contains_eq _ _ hl, bindO_pure, callM]
  cases off with
  | true => rfl
  | false =>
    simp only [cond_false, Bool.false_eq_true, if_false]
    by_cases h : IntKind.wrap .i64 (ops + 1) = at_
    · simp [h]
    · rw [if_neg h, beq_false_of_ne h, cond_false]
      by_cases h2 : IntKind.wrap .i64 (ops + 1) ∈ fails <;> simp [h2]

/-- Which sectors there are. -/
def there (at_ : Int) (n : Nat) : Bool := inR at_ n
theorem there_eq (at_ ops a : Int) (off : Bool) (sure : List (List UInt8)) (seen waits : Secs) (fails : List Int) : fnDdisk_Disk_there (at_, ops, a, off, sure, seen, waits, fails) = some (inR at_ sure.length) := by
  simp only [fnDdisk_Disk_there, fndisk_Disk_there, nodeDdisk_Disk_there_n0, nodedisk_Disk_there_n0, fnDdisk_Disk_Sectors, fndisk_Disk_Sectors, bindO_pure]
  by_cases h : at_ ≥ 0
  · rw [dec_true h, cond_true, bindO_pure]
    unfold inR
    rw [dec_true (show 0 ≤ at_ from h), Bool.true_and]
  · rw [dec_false h, cond_false, bindO_pure]
    unfold inR
    rw [dec_false (show ¬ 0 ≤ at_ from h), Bool.false_and]

/-- A write: its error, and what is behind it. -/
def writeE (e : Int) (last : Bool) (at_ : Int) (data : List UInt8) (n : Nat) : Int × Bool :=
  if e ≠ 0 ∧ last = false then (e, false)
  else if inR at_ n = false then (if last = true then e else 3, false)
  else if (data.length : Int) ≠ 64 then (if last = true then e else 12, false)
  else (e, true)
theorem write_eq (at_ : Int) (data : List UInt8) (ops a : Int) (off : Bool) (sure : List (List UInt8)) (seen waits : Secs) (fails : List Int) (hl : fails.length ≤ 1000000) (hw : waits.length ≤ 1000000) :
    fnDdisk_Disk_Write (at_, data, ops, a, off, sure, seen, waits, fails) =
      (let c := callM ops a off fails
       let r := writeE c.1 c.2.1 at_ data sure.length
       some (r.1, c.2.2.1, c.2.2.2, if r.2 = true then mput at_ data seen else seen, if r.2 = true then waits ++ [(at_, data)] else waits)) := by
  simp only [fnDdisk_Disk_Write, fndisk_Disk_Write, call_eq _ _ _ _ _ _ _ hl, bindO_pure]
  generalize callM ops a off fails = c
  obtain ⟨e, last, ops', off'⟩ := c
  simp only [unP, nodeDdisk_Disk_Write_n0, nodedisk_Disk_Write_n0, nodeDdisk_Disk_Write_n1, nodedisk_Disk_Write_n1, nodeDdisk_Disk_Write_n2, nodedisk_Disk_Write_n2, nodeDdisk_Disk_Write_n3, nodedisk_Disk_Write_n3, there_eq, bindO_pure, writeE,
    ble_true (show (waits.length + [(at_, data)].length) * 24 ≤ 140737488355328 by simp only [List.length_cons, List.length_nil]; omega), cond_true]
  by_cases he : e = 0
  · subst he
    cases hr : inR at_ sure.length <;> cases last <;> by_cases hs : (data.length : Int) = 64 <;> simp [ibeq, ibne, hs, bindO_pure]
  · have hb : (e != 0) = true := by simp [he]
    cases hr : inR at_ sure.length <;> cases last <;> by_cases hs : (data.length : Int) = 64 <;> simp [ibeq, ibne, he, hs, bindO_pure]

/-! ### Reading -/
def look (sure : List (List UInt8)) (seen : Secs) (at_ : Int) : List UInt8 := if mhas at_ seen = true then mget at_ [] seen else (sure[at_.toNat]?).getD []
def readR (e : Int) (at_ : Int) (n : Nat) (x : List UInt8) : List UInt8 × Int := if e ≠ 0 then ([], e) else if inR at_ n = false then ([], 3) else (x, 0)
theorem inR_get {α : Type} {at_ : Int} {l : List α} (h : inR at_ l.length = true) : ∃ x, l[at_.toNat]? = some x := by
  have : 0 ≤ at_ ∧ at_ < (l.length : Int) := by unfold inR at h; simpa using h
  exact ⟨_, List.getElem?_eq_getElem (by omega)⟩
theorem read_eq (at_ ops a : Int) (off : Bool) (sure : List (List UInt8)) (seen waits : Secs) (fails : List Int) (hl : fails.length ≤ 1000000) :
    fnDdisk_Disk_Read (at_, ops, a, off, sure, seen, waits, fails) =
      (let c := callM ops a off fails
       let r := readR c.1 at_ sure.length (look sure seen at_)
       some (r.1, r.2, c.2.2.1, c.2.2.2)) := by
  simp only [fnDdisk_Disk_Read, fndisk_Disk_Read, call_eq _ _ _ _ _ _ _ hl, bindO_pure]
  generalize callM ops a off fails = c
  obtain ⟨e, last, ops', off'⟩ := c
  simp only [unP, there_eq, bindO_pure, readR]
  by_cases he : e = 0
  · subst he
    cases hr : inR at_ sure.length with
    | false => rfl
    | true =>
      obtain ⟨x, hx⟩ := inR_get hr
      cases hm : mhas at_ seen <;> simp [look, hm, hx, bindO_pure]
  · simp [ibne, he]
/-! ### What becomes sure -/
def settleM (sure : List (List UInt8)) (l : Secs) : List (List UInt8) := l.foldl (fun s w => s.set w.1.toNat w.2) sure
theorem settleM_length (l : Secs) : ∀ sure, (settleM sure l).length = sure.length := by
  induction l with
  | nil => intro _; rfl
  | cons w r ih => intro s; simp only [settleM, List.foldl_cons] at ih ⊢; rw [ih, List.length_set]
theorem settleM_snoc (sure : List (List UInt8)) (l : Secs) (w : Int × List UInt8) : settleM sure (l ++ [w]) = (settleM sure l).set w.1.toNat w.2 := by
  simp [settleM]
theorem settle_loop {f : Int × List (List UInt8) → Option ((Int × List (List UInt8)) ⊕ List (List UInt8))} (l : Secs) (sure : List (List UInt8)) (hl : l.length ≤ 1000000) (hw : ∀ w ∈ l, inR w.1 sure.length = true)
    (h1 : ∀ (j : Nat) (x : Int × List UInt8) (s : List (List UInt8)), l[j]? = some x → j < l.length → inR x.1 s.length = true → f ((j : Int), s) = some (.inl (((j + 1 : Nat) : Int), s.set x.1.toNat x.2)))
    (h2 : ∀ s, f ((l.length : Int), s) = some (.inr s)) : loopD f FUEL (0, sure) = some (settleM sure l) := by
  have key : ∃ y, loopD f FUEL (((0 : Nat) : Int), sure) = some y ∧ y = settleM sure l := by
    refine loopD_each l (fun j (s : List (List UInt8)) => ((j : Int), s)) (fun j s => s = settleM sure (l.take j)) _ ?_ ?_ (by simp [settleM]) (by omega)
    · rintro j x s hj hlt rfl
      left
      refine ⟨_, h1 j x _ hj hlt (by rw [settleM_length]; exact hw x (List.mem_of_getElem? hj)), ?_⟩
      rw [List.take_add_one, hj]
      exact (settleM_snoc _ _ _).symm
    · rintro s rfl
      exact ⟨_, h2 _, by rw [List.take_length]⟩
  obtain ⟨y, hy, rfl⟩ := key
  exact hy
/-! ### Calls that fail -/
def failM (ops : Int) (fails : List Int) (n : Int) : List Int := if n > ops ∧ n ∉ fails ∧ fails.length < 100 then fails ++ [n] else fails
/-! ### Beginning again -/
def pick (ch : List Int) (i : Nat) : Bool := match ch[i]? with | some x => Int.tmod x 2 != 0 | none => false
def chosen (ch : List Int) : Nat → Secs → Secs
  | _, [] => []
  | i, w :: r => bif pick ch i then w :: chosen ch (i + 1) r else chosen ch (i + 1) r
theorem chosen_snoc (ch : List Int) (w : Int × List UInt8) : ∀ (l : Secs) (i : Nat), chosen ch i (l ++ [w]) = chosen ch i l ++ (bif pick ch (i + l.length) then [w] else [])
  | [], i => by cases h : pick ch i <;> simp [chosen, h]
  | x :: r, i => by
    rw [List.cons_append, chosen, chosen, chosen_snoc ch w r (i + 1), List.length_cons, show i + 1 + r.length = i + (r.length + 1) by omega]
    cases pick ch i <;> rfl
theorem chosen_mem (ch : List Int) {w : Int × List UInt8} : ∀ {l : Secs} {i : Nat}, w ∈ chosen ch i l → w ∈ l
  | [], _, h => by simp [chosen] at h
  | x :: r, i, h => by
    rw [chosen] at h
    cases hp : pick ch i with
    | true =>
      rw [hp, cond_true, List.mem_cons] at h
      rcases h with h | h
      · exact List.mem_cons.2 (.inl h)
      · exact List.mem_cons.2 (.inr (chosen_mem ch h))
    | false =>
      rw [hp, cond_false] at h
      exact List.mem_cons.2 (.inr (chosen_mem ch h))
theorem chosen_length (ch : List Int) : ∀ (l : Secs) (i : Nat), (chosen ch i l).length ≤ l.length
  | [], _ => Nat.le_refl _
  | x :: r, i => by
    have := chosen_length ch r (i + 1)
    rw [chosen]
    cases pick ch i <;> simp <;> omega
theorem pick_eq (ch : List Int) (j : Nat) : (bif decide ((j : Int) < (ch.length : Int)) then bindO (nth ch (j : Int)) fun x => some (Int.tmod x 2 != 0) else some false) = some (pick ch j) := by
  by_cases h : j < ch.length
  · have hg : ch[j]? = some ch[j] := List.getElem?_eq_getElem h
    rw [dec_true (show (j : Int) < (ch.length : Int) by omega), cond_true, nth_of hg, bindO_pure]
    simp [pick, hg]
  · rw [dec_false (show ¬ (j : Int) < (ch.length : Int) by omega), cond_false]
    simp [pick, List.getElem?_eq_none (show ch.length ≤ j by omega)]

/-! ### New -/
theorem mul_small : ∀ c : Nat, c < 1001 → fnDmath_bits_Mul (1, (c : Int)) = some (0, (c : Int)) := by decide +kernel
def blank : List UInt8 := List.replicate 64 0
/-- A doubling copy. -/
theorem double_loop (n : Nat) (r : List UInt8) (hn : n ≤ 1000) (v0 : List (List UInt8)) (h0 : v0 = List.replicate n r ∨ ∃ t, v0 = r :: t ∧ t.length + 1 = n) (k : Nat) (hk : k = min 1 n) :
    loopD (stepDslices_Repeat_string_string_n3 ()) FUEL ((k : Int), v0) = some (List.replicate n r) := by
  have key : ∃ y, loopD (stepDslices_Repeat_string_string_n3 ()) FUEL ((k : Int), v0) = some y ∧ y = List.replicate n r := by
    refine loopD_inv (fun j v => ∃ (m : Nat) (L : List (List UInt8)), v = ((m : Int), L) ∧ j ≤ m ∧ m ≤ n ∧ (1 ≤ m ∨ n = 0) ∧ L.length = n ∧ L.take m = List.replicate m r) n _ ?_ ?_ (by omega)
    · rintro j v ⟨m, L, rfl, hjm, hmn, h1, hL, htk⟩
      by_cases hlt : m < n
      · left
        have hd : (L.drop 0).take (m - 0) = List.replicate m r := by rw [List.drop_zero, Nat.sub_zero, htk]
        refine ⟨(((m + min m (n - m) : Nat) : Int), L.take m ++ ((List.replicate m r).take (n - m) ++ L.drop (m + min m (n - m)))), ?_, by omega, m + min m (n - m), _, rfl, by omega, by omega, by omega, ?_, ?_⟩
        · simp only [stepDslices_Repeat_string_string_n3, stepslices_Repeat_string_string_n3, hL, dec_true (show (m : Int) < (n : Int) by omega), cond_true, inR_true (show (0 : Int) ≤ (m : Int) ∧ (m : Int) < ((n + 1 : Nat) : Int) by omega), Int.toNat_natCast,
            ble_true (show 0 + (m - 0) ≤ n by omega), ble_true (show m + (n - m) ≤ n by omega), hd, List.length_replicate]
          rw [show Nat.min m (n - m) = min m (n - m) from rfl, wrap64 (x := (m : Int) + ((min m (n - m) : Nat) : Int)) (by omega) (by omega)]
          rfl
        · simp only [List.length_append, List.length_take, List.length_drop, List.length_replicate, hL]
          omega
        · rw [htk, List.take_replicate, ← List.append_assoc, List.replicate_append_replicate, List.take_append_of_le_length (by simp; omega), List.take_replicate]
          congr 1
          omega
      · right
        obtain rfl : m = n := by omega
        simp only [stepDslices_Repeat_string_string_n3, stepslices_Repeat_string_string_n3, hL, dec_false (show ¬ (m : Int) < (m : Int) by omega), cond_false]
        exact ⟨_, rfl, by rw [← htk, List.take_of_length_le (by omega)]⟩
    · refine ⟨k, v0, rfl, by omega, by omega, by omega, ?_, ?_⟩
      · rcases h0 with rfl | ⟨t, rfl, ht⟩
        · simp
        · simpa using ht
      · rcases h0 with rfl | ⟨t, rfl, ht⟩
        · rw [List.take_replicate]; congr 1; omega
        · have : k = 1 := by omega
          subst this
          simp
  obtain ⟨y, hy, rfl⟩ := key
  exact hy

theorem diskNew_eq (c : Int) (n : Nat) (hn : (n : Int) = (if 1000 < (if 0 > c then 0 else c) then 1000 else if 0 > c then 0 else c)) (h : n ≤ 1000) : fnDdisk_New c = some (List.replicate n blank) := by
  have hrep : fnDstrings_Repeat ([0], 64) = some blank := by kernel_rfl
  simp only [fnDdisk_New, fndisk_New, hrep, bindO_pure, ← hn]
  have e1 : IntKind.wrap .u64 ((1 : Nat) : Int) = 1 := by kernel_rfl
  have e2 : IntKind.wrap .u64 (n : Int) = (n : Int) := by
    unfold IntKind.wrap
    simp [IntKind.bits, IntKind.signed]
    omega
  have e3 : IntKind.wrap .i64 (n : Int) = (n : Int) := wrap64 (by omega) (by omega)
  simp only [fnDslices_Repeat_string_string, fnslices_Repeat_string_string, nodeDslices_Repeat_string_string_n0, nodeslices_Repeat_string_string_n0, nodeDslices_Repeat_string_string_n1, nodeslices_Repeat_string_string_n1, nodeDslices_Repeat_string_string_n2, nodeslices_Repeat_string_string_n2,
    dec_false (show ¬ (n : Int) < 0 by omega), cond_false, bindO_pure, e1, e2, mul_small n (by omega), unP, dec_false (show ¬ (0 : Int) > 0 by omega), dec_false (show ¬ (n : Int) > 9223372036854775807 by omega), e3,
    dec_true (show (0 : Int) ≤ (n : Int) by omega), dec_true (show (n : Int) ≤ (n : Int) by omega), dec_true (show (16 : Int) * (n : Int) ≤ 281474976710656 by omega), dec_true (show (n : Int) ≤ 9223372036854775807 by omega), Bool.and_true, cond_true, Int.toNat_natCast, List.length_replicate, List.length_singleton]
  have hd := double_loop n blank h ([blank].take n ++ (List.replicate n (nilL UInt8)).drop 1) ?_ (Nat.min 1 n) rfl
  · rw [hd]
    rfl
  · rcases Nat.eq_zero_or_pos n with h0 | h0
    · subst h0; left; simp
    · right
      refine ⟨(List.replicate n (nilL UInt8)).drop 1, by rw [List.take_of_length_le (by simp; omega)]; rfl, by simp; omega⟩
end Go.Proofs.R3
namespace Go.Proofs.R3
open Go Go.AE
/-- What holds between the disk and the reference's, at each step. -/
structure InvD (N k : Nat) (sure : List (List UInt8)) (seen waits : Secs) (fails : List Int) (Seen : List (List UInt8)) : Prop where
  len : sure.length = N
  small : N ≤ 40
  seenIs : Seen = settleM sure waits
  wl : waits.length ≤ k
  fl : fails.length ≤ 100
  inr : ∀ w ∈ waits, inR w.1 N = true
  lk : ∀ i, inR i N = true → look sure seen i = (Seen[i.toNat]?).getD []

theorem mhas_put (i n : Int) (x : List UInt8) : ∀ l : Secs, mhas i (mput n x l) = (decide (i = n) || mhas i l)
  | [] => by simp [ibeq, mput, mhas]
  | (m, y) :: r => by
    by_cases hnm : n = m
    · subst hnm
      by_cases hi : i = n <;> simp [ibeq, mput, mhas, hi]
    · by_cases hi : i = m
      · subst hi
        simp [ibeq, mput, mhas, hnm]
      · simp [ibeq, mput, mhas, hnm, hi, mhas_put i n x r]
theorem mget_put (i n : Int) (x : List UInt8) : ∀ l : Secs, mget i [] (mput n x l) = if i = n then x else mget i [] l
  | [] => by by_cases h : i = n <;> simp [ibeq, mput, mget, h]
  | (m, y) :: r => by
    by_cases hnm : n = m
    · subst hnm
      by_cases hi : i = n <;> simp [ibeq, mput, mget, hi]
    · by_cases hi : i = m
      · subst hi
        simp [ibeq, mput, mget, hnm, Ne.symm hnm]
      · simp [ibeq, mput, mget, hnm, hi, mget_put i n x r]
theorem InvD.put {N k : Nat} {sure : List (List UInt8)} {seen waits : Secs} {fails : List Int} {Seen : List (List UInt8)} (h : InvD N k sure seen waits fails Seen) {at_ : Int} {data : List UInt8} (hr : inR at_ N = true) :
    InvD N (k + 1) sure (mput at_ data seen) (waits ++ [(at_, data)]) fails (Seen.set at_.toNat data) := by
  refine ⟨h.len, h.small, by rw [h.seenIs, settleM_snoc], by have := h.wl; simp; omega, h.fl, ?_, ?_⟩
  · intro w hw
    rw [List.mem_append, List.mem_singleton] at hw
    rcases hw with hw | rfl
    · exact h.inr w hw
    · exact hr
  · intro i hi
    have hl : Seen.length = N := by rw [h.seenIs, settleM_length, h.len]
    have h1 : 0 ≤ i ∧ i < (N : Int) := by unfold inR at hi; simpa using hi
    have h2 : 0 ≤ at_ ∧ at_ < (N : Int) := by unfold inR at hr; simpa using hr
    have := h.lk i hi
    unfold look at this ⊢
    rw [mhas_put, mget_put]
    by_cases e : i = at_
    · subst e
      simp [List.getElem?_set_self (show i.toNat < Seen.length by omega)]
    · rw [List.getElem?_set_ne (show at_.toNat ≠ i.toNat by omega)]
      simpa [e] using this
theorem InvD.flush {N k : Nat} {sure : List (List UInt8)} {seen waits : Secs} {fails : List Int} {Seen : List (List UInt8)} (h : InvD N k sure seen waits fails Seen) : InvD N (k + 1) Seen [] [] fails Seen :=
  ⟨by rw [h.seenIs, settleM_length, h.len], h.small, rfl, by simp, h.fl, by simp, fun i _ => by simp [look, mhas]⟩
theorem InvD.more {N k : Nat} {sure : List (List UInt8)} {seen waits : Secs} {fails : List Int} {Seen : List (List UInt8)} (h : InvD N k sure seen waits fails Seen) : InvD N (k + 1) sure seen waits fails Seen :=
  ⟨h.len, h.small, h.seenIs, by have := h.wl; omega, h.fl, h.inr, h.lk⟩
theorem InvD.fail {N k : Nat} {sure : List (List UInt8)} {seen waits : Secs} {fails : List Int} {Seen : List (List UInt8)} (h : InvD N k sure seen waits fails Seen) (ops n : Int) : InvD N (k + 1) sure seen waits (failM ops fails n) Seen :=
  ⟨h.len, h.small, h.seenIs, by have := h.wl; omega, by
    have := h.fl
    unfold failM
    split
    · rename_i hh
      rw [List.length_append, List.length_singleton]
      omega
    · exact this, h.inr, h.lk⟩
theorem InvD.restart {N k : Nat} {sure : List (List UInt8)} {seen waits : Secs} {fails : List Int} {Seen : List (List UInt8)} (h : InvD N k sure seen waits fails Seen) (l : Secs) : InvD N (k + 1) (settleM sure l) [] [] [] (settleM sure l) :=
  ⟨by rw [settleM_length, h.len], h.small, rfl, by simp, by simp, by simp, fun i _ => by simp [look, mhas]⟩

theorem callM_fine {o : Nat} (h : o < 9223372036854775807) : callM (o : Int) 0 false [] = (0, false, ((o + 1 : Nat) : Int), false) := by
  unfold callM
  rw [wrap64_nat h, if_neg (by decide), if_neg (by omega), if_neg (by simp)]
theorem settle_mem (l : Secs) : ∀ (S : List (List UInt8)) (i : Nat) (x : List UInt8), (settleM S l)[i]? = some x → S[i]? = some x ∨ ∃ w ∈ l, w.1.toNat = i ∧ w.2 = x := by
  induction l with
  | nil => intro S i x h; exact .inl h
  | cons w r ih =>
    intro S i x h
    rcases ih (S.set w.1.toNat w.2) i x h with h | ⟨v, hv, h⟩
    · rw [List.getElem?_set] at h
      by_cases e : w.1.toNat = i
      · rw [if_pos e] at h
        split at h
        · cases h; exact .inr ⟨w, List.mem_cons_self .., e, rfl⟩
        · cases h
      · rw [if_neg e] at h; exact .inl h
    · exact .inr ⟨v, List.mem_cons_of_mem _ hv, h⟩
/-- A read where the disk is not down, and no call fails. -/
theorem InvD.read {N k : Nat} {sure : List (List UInt8)} {seen waits : Secs} {Seen : List (List UInt8)} (h : InvD N k sure seen waits [] Seen) {i : Int} (hi : inR i N = true) {o : Nat} (ho : o < 9223372036854775807) :
    ∃ x, Seen[i.toNat]? = some x ∧ fnDdisk_Disk_Read (i, (o : Int), 0, false, sure, seen, waits, []) = some (x, 0, ((o + 1 : Nat) : Int), false) := by
  have hl : Seen.length = N := by rw [h.seenIs, settleM_length, h.len]
  obtain ⟨x, hx⟩ := inR_get (l := Seen) (at_ := i) (by rw [hl]; exact hi)
  refine ⟨x, hx, ?_⟩
  rw [read_eq _ _ _ _ _ _ _ _ (by simp), callM_fine ho, h.len]
  simp [readR, hi, h.lk i hi, hx]
/-- A write where the disk is not down, and no call fails. -/
theorem InvD.write {N k : Nat} {sure : List (List UInt8)} {seen waits : Secs} {Seen : List (List UInt8)} (h : InvD N k sure seen waits [] Seen) (hk : k ≤ 1000000) {i : Int} (hi : inR i N = true) {d : List UInt8} (hd : d.length = 64) {o : Nat} (ho : o < 9223372036854775807) :
    fnDdisk_Disk_Write (i, d, (o : Int), 0, false, sure, seen, waits, []) = some (0, ((o + 1 : Nat) : Int), false, mput i d seen, waits ++ [(i, d)]) := by
  rw [write_eq _ _ _ _ _ _ _ _ _ (by simp) (by have := h.wl; omega), callM_fine ho, h.len]
  simp [writeE, hi, hd]
end Go.Proofs.R3
namespace Go.Proofs.R3
open Go Go.AE

theorem inside_eq (i many all : Int) (ha : all ≤ 1000000000000) : fnDregion_inside (i, many, all) = some (decide (0 ≤ i ∧ 0 ≤ many ∧ i ≤ all ∧ many ≤ all - i)) := by
  simp only [fnDregion_inside, fnregion_inside, nodeDregion_inside_n0, noderegion_inside_n0]
  by_cases h1 : i ≥ 0
  · by_cases h2 : many ≥ 0
    · by_cases h3 : i ≤ all
      · rw [dec_true h1, dec_true h2, dec_true h3, wrap64 (x := all - i) (by omega) (by omega)]
        simp only [cond_true, bindO_pure]
        by_cases h4 : many ≤ all - i
        · rw [dec_true h4, dec_true (p := 0 ≤ i ∧ 0 ≤ many ∧ i ≤ all ∧ many ≤ all - i) ⟨h1, h2, h3, h4⟩]
        · rw [dec_false h4, dec_false (p := 0 ≤ i ∧ 0 ≤ many ∧ i ≤ all ∧ many ≤ all - i) fun h => h4 h.2.2.2]
      · rw [dec_true h1, dec_true h2, dec_false h3, dec_false (p := 0 ≤ i ∧ 0 ≤ many ∧ i ≤ all ∧ many ≤ all - i) fun h => h3 h.2.2.1]; rfl
    · rw [dec_true h1, dec_false h2, dec_false (p := 0 ≤ i ∧ 0 ≤ many ∧ i ≤ all ∧ many ≤ all - i) fun h => h2 h.2.1]; rfl
  · rw [dec_false h1, dec_false (p := 0 ≤ i ∧ 0 ≤ many ∧ i ≤ all ∧ many ≤ all - i) fun h => h1 h.1]; rfl

/-- Bytes as sectors from one on. -/
def secs (b : Int) (n : Nat) (p : List UInt8) : Secs := (List.range n).map fun (k : Nat) => (b + (k : Int), (p.drop (64 * k)).take 64)
theorem secs_length (b : Int) (n : Nat) (p : List UInt8) : (secs b n p).length = n := by simp [secs]
theorem secs_zero (b : Int) (p : List UInt8) : secs b 0 p = [] := rfl
theorem secs_succ (b : Int) (n : Nat) (p : List UInt8) : secs b (n + 1) p = secs b n p ++ [(b + (n : Int), (p.drop (64 * n)).take 64)] := by
  unfold secs
  rw [List.range_succ, List.map_append]; rfl
theorem secs_get (b : Int) {n k : Nat} (p : List UInt8) (h : k < n) : (secs b n p)[k]? = some (b + (k : Int), (p.drop (64 * k)).take 64) := by
  unfold secs
  rw [List.getElem?_map, List.getElem?_range h]; rfl

theorem region_Split_eq (i : Int) (p : List UInt8) (from_ many ops a : Int) (off : Bool) (sure : List (List UInt8)) (seen waits : Secs) (fails : List Int) (hp : p.length ≤ 1000000) (hf : 0 ≤ from_ ∧ from_ ≤ 1000000) (hm : many ≤ 1000000) :
    fnDregion_Region_Split (i, p, from_, many, ops, a, off, sure, seen, waits, fails) =
      some (if p.length % 64 ≠ 0 then (12, []) else if 0 ≤ i ∧ i ≤ many ∧ ((p.length / 64 : Nat) : Int) ≤ many - i then (0, secs (from_ + i) (p.length / 64) p) else (3, [])) := by
  have e1 : Int.tdiv (p.length : Int) 64 = ((p.length / 64 : Nat) : Int) := rfl
  have e2 : IntKind.wrap .i64 ((p.length / 64 : Nat) : Int) = ((p.length / 64 : Nat) : Int) := wrap64 (by omega) (by omega)
  have e3 : IntKind.wrap .i64 (((p.length / 64 : Nat) : Int) * 64) = ((p.length / 64 * 64 : Nat) : Int) := by rw [wrap64 (by omega) (by omega)]; omega
  simp only [fnDregion_Region_Split, fnregion_Region_Split, e1, e2, e3, ibne]
  by_cases h : p.length % 64 = 0
  · rw [dec_true (show ((p.length / 64 * 64 : Nat) : Int) = (p.length : Int) by omega), if_neg (by simpa using h : ¬ p.length % 64 ≠ 0), inside_eq _ _ _ (by omega)]
    simp only [Bool.not_true, cond_false, bindO_pure]
    by_cases hin : 0 ≤ i ∧ i ≤ many ∧ ((p.length / 64 : Nat) : Int) ≤ many - i
    · rw [if_pos hin, dec_true (p := 0 ≤ i ∧ 0 ≤ ((p.length / 64 : Nat) : Int) ∧ i ≤ many ∧ ((p.length / 64 : Nat) : Int) ≤ many - i) ⟨hin.1, by omega, hin.2⟩]
      simp only [Bool.not_true, cond_false]
      have key : ∃ y, loopD (stepDregion_Region_Split_n0 (from_, many, ops, a, off, sure, seen, waits, fails)) FUEL (p.drop (64 * 0), from_ + i + ((0 : Nat) : Int), secs (from_ + i) 0 p) = some y ∧ y = secs (from_ + i) (p.length / 64) p := by
        refine loopD_inv (fun j v => j ≤ p.length / 64 ∧ v = (p.drop (64 * j), from_ + i + (j : Int), secs (from_ + i) j p)) (p.length / 64) _ ?_ ⟨by omega, rfl⟩ (by omega)
        rintro j v ⟨hj, rfl⟩
        have hdl : (p.drop (64 * j)).length = p.length - 64 * j := by simp
        by_cases hlt : j < p.length / 64
        · left
          refine ⟨_, ?_, hlt, hlt, rfl⟩
          have hne : (p.drop (64 * j) == []) = false := by
            rw [beq_eq_false_iff_ne]
            intro e
            rw [e] at hdl
            simp at hdl
            omega
          have w1 : IntKind.wrap .i64 (from_ + i + (j : Int) + 1) = from_ + i + ((j + 1 : Nat) : Int) := by rw [wrap64 (by omega) (by omega)]; omega
          have r1 : inR 64 ((p.drop (64 * j)).length + 1) = true := inR_true ⟨by omega, by omega⟩
          have r2 : Nat.ble (((secs (from_ + i) j p).length + List.length [(from_ + i + (j : Int), List.take 64 (p.drop (64 * j)))]) * 24) 140737488355328 = true := by
            rw [secs_length]; exact ble_true (by simp; omega)
          simp only [stepDregion_Region_Split_n0, stepregion_Region_Split_n0, hne, Bool.not_false, cond_true, r1, r2, w1, secs_succ, List.drop_drop]
          rfl
        · right
          obtain rfl : j = p.length / 64 := by omega
          have he : p.drop (64 * (p.length / 64)) = [] := List.drop_eq_nil_of_le (by omega)
          rw [he]
          exact ⟨_, rfl, rfl⟩
      obtain ⟨y, hy, rfl⟩ := key
      have w0 : IntKind.wrap .i64 (from_ + i) = from_ + i + ((0 : Nat) : Int) := by rw [wrap64 (by omega) (by omega)]; omega
      rw [secs_zero, Nat.mul_zero, List.drop_zero, ← w0] at hy
      rw [hy]; rfl
    · rw [if_neg hin, dec_false (p := 0 ≤ i ∧ 0 ≤ ((p.length / 64 : Nat) : Int) ∧ i ≤ many ∧ ((p.length / 64 : Nat) : Int) ≤ many - i) fun h => hin ⟨h.1, h.2.2⟩]; rfl
  · rw [dec_false (show ¬ ((p.length / 64 * 64 : Nat) : Int) = (p.length : Int) by omega), if_pos h]; rfl

theorem secs_inR {N : Nat} {b : Int} {n : Nat} {p : List UInt8} (h0 : 0 ≤ b) (hN : b + (n : Int) ≤ (N : Int)) : ∀ w ∈ secs b n p, inR w.1 N = true := by
  intro w hw
  simp only [secs, List.mem_map, List.mem_range] at hw
  obtain ⟨k, hk, rfl⟩ := hw
  exact inR_true ⟨by show (0 : Int) ≤ b + k; omega, by show b + (k : Int) < N; omega⟩

theorem region_Write_out (i : Int) (p : List UInt8) (from_ many ops a : Int) (off : Bool) (sure : List (List UInt8)) (seen waits : Secs) (fails : List Int) (hp : p.length ≤ 1000000) (hf : 0 ≤ from_ ∧ from_ ≤ 1000000) (hm : many ≤ 1000000) (hpm : p.length % 64 = 0)
    (hin : ¬ (0 ≤ i ∧ i ≤ many ∧ ((p.length / 64 : Nat) : Int) ≤ many - i)) : fnDregion_Region_Write (i, p, from_, many, ops, a, off, sure, seen, waits, fails) = some (3, ops, off, seen, waits) := by
  simp only [fnDregion_Region_Write, fnregion_Region_Write, region_Split_eq i p from_ many ops a off sure seen waits fails hp hf hm, if_neg (by simpa using hpm : ¬ p.length % 64 ≠ 0), if_neg hin, bindO_pure, unP]
  rfl
theorem region_Write_fine {N k : Nat} {sure : List (List UInt8)} {seen waits : Secs} {Seen : List (List UInt8)} (h : InvD N k sure seen waits [] Seen) (i : Int) (p : List UInt8) (n : Nat) (from_ many : Int) (o : Nat) (hp : p.length = 64 * n) (hn : n ≤ 10000) (hk : k ≤ 100000) (ho : o ≤ 1000000)
    (hf : 0 ≤ from_) (hm : from_ + many ≤ N) (hin : 0 ≤ i ∧ i + (n : Int) ≤ many) :
    ∃ seen', fnDregion_Region_Write (i, p, from_, many, (o : Int), 0, false, sure, seen, waits, []) = some (0, ((o + n : Nat) : Int), false, seen', waits ++ secs (from_ + i) n p) ∧
      InvD N (k + n) sure seen' (waits ++ secs (from_ + i) n p) [] (settleM Seen (secs (from_ + i) n p)) := by
  have hsm := h.small
  have hd : p.length / 64 = n := by omega
  have hsp := region_Split_eq i p from_ many (o : Int) 0 false sure seen waits [] (by omega) ⟨hf, by omega⟩ (by omega)
  rw [if_neg (by omega), hd, if_pos ⟨hin.1, by omega, by omega⟩] at hsp
  have key : ∃ y, loopD (stepDregion_Region_Write_n0 (0, ((secs (from_ + i) n p).length : Int), from_, many, 0, sure, [], secs (from_ + i) n p)) FUEL (((0 : Nat) : Int), ((o + 0 : Nat) : Int), false, seen, waits ++ secs (from_ + i) 0 p) = some y ∧
      ∃ seen', y = .inr (((o + n : Nat) : Int), false, seen', waits ++ secs (from_ + i) n p) ∧ InvD N (k + n) sure seen' (waits ++ secs (from_ + i) n p) [] (settleM Seen (secs (from_ + i) n p)) := by
    refine loopD_inv (fun j v => ∃ seen', j ≤ n ∧ v = ((j : Int), ((o + j : Nat) : Int), false, seen', waits ++ secs (from_ + i) j p) ∧ InvD N (k + j) sure seen' (waits ++ secs (from_ + i) j p) [] (settleM Seen (secs (from_ + i) j p))) n _ ?_
      ⟨seen, by omega, rfl, by rw [secs_zero, List.append_nil]; exact h⟩ (by omega)
    rintro j v ⟨seen', hj, rfl, hi⟩
    by_cases hlt : j < n
    · left
      have hg := secs_get (from_ + i) p hlt
      have hr : inR (from_ + i + (j : Int)) N = true := inR_true ⟨by omega, by omega⟩
      have hw := hi.write (by omega) hr (d := (p.drop (64 * j)).take 64) (by rw [List.length_take, List.length_drop]; omega) (o := o + j) (by omega)
      refine ⟨_, ?_, hlt, mput (from_ + i + (j : Int)) ((p.drop (64 * j)).take 64) seen', hlt, rfl, ?_⟩
      · simp only [stepDregion_Region_Write_n0, stepregion_Region_Write_n0, secs_length, dec_true (show (j : Int) < (n : Int) by omega), cond_true, inR_true (show (0 : Int) ≤ (j : Int) ∧ (j : Int) < (n : Int) by omega), Int.toNat_natCast, hg, bindO_pure, hw, unP, wrap64_nat (show j < 9223372036854775807 by omega), secs_succ, List.append_assoc, Nat.add_assoc]
        rfl
      · have := hi.put hr (data := (p.drop (64 * j)).take 64)
        rw [secs_succ, settleM_snoc, ← List.append_assoc]
        exact this
    · right
      obtain rfl : j = n := by omega
      simp only [stepDregion_Region_Write_n0, stepregion_Region_Write_n0, secs_length, dec_false (show ¬ (j : Int) < (j : Int) by omega), cond_false]
      exact ⟨_, rfl, seen', rfl, hi⟩
  obtain ⟨y, hy, seen', rfl, hi⟩ := key
  rw [secs_zero, List.append_nil] at hy
  refine ⟨seen', ?_, hi⟩
  have hy' : loopD (stepDregion_Region_Write_n0 (0, ((secs (from_ + i) n p).length : Int), from_, many, 0, sure, [], secs (from_ + i) n p)) FUEL (0, (o : Int), false, seen, waits) = _ := hy
  simp only [fnDregion_Region_Write, fnregion_Region_Write, hsp, bindO_pure, unP, hy', Sum.elim_inr]

/-- What is read of sectors that follow one another. -/
def joined (Seen : List (List UInt8)) (b : Int) (n : Nat) : List UInt8 := (List.range n).flatMap fun (k : Nat) => (Seen[(b + (k : Int)).toNat]?).getD []
theorem joined_succ (Seen : List (List UInt8)) (b : Int) (n : Nat) : joined Seen b (n + 1) = joined Seen b n ++ (Seen[(b + (n : Int)).toNat]?).getD [] := by
  unfold joined
  rw [List.range_succ, List.flatMap_append]; simp
theorem region_Read_fine {N k : Nat} {sure : List (List UInt8)} {seen waits : Secs} {Seen : List (List UInt8)} (h : InvD N k sure seen waits [] Seen) (h64 : ∀ x ∈ Seen, x.length ≤ 64) (i : Int) (n : Nat) (from_ many : Int) (o : Nat) (hn : n ≤ 10000) (ho : o ≤ 1000000)
    (hf : 0 ≤ from_) (hm : from_ + many ≤ N) (hin : 0 ≤ i ∧ i + (n : Int) ≤ many) :
    fnDregion_Region_Read (i, (n : Int), from_, many, (o : Int), 0, false, sure, seen, waits, []) = some (joined Seen (from_ + i) n, 0, ((o + n : Nat) : Int), false) := by
  have hsm := h.small
  have hjl : ∀ j, j ≤ n → (joined Seen (from_ + i) j).length ≤ 64 * j := by
    intro j
    induction j with
    | zero => intro _; simp [joined]
    | succ j ih =>
      intro hj
      rw [joined_succ, List.length_append]
      have := ih (by omega)
      have : ((Seen[(from_ + i + (j : Int)).toNat]?).getD []).length ≤ 64 := by
        cases hx : Seen[(from_ + i + (j : Int)).toNat]? with
        | none => simp
        | some x => exact h64 x (List.mem_of_getElem? hx)
      omega
  have key : ∃ y, loopD (stepDregion_Region_Read_n0 (i, (n : Int), from_, many, 0, sure, seen, waits, [])) FUEL (((0 : Nat) : Int), ((o + 0 : Nat) : Int), false, intsOf (joined Seen (from_ + i) 0)) = some y ∧
      y = .inr (((o + n : Nat) : Int), false, intsOf (joined Seen (from_ + i) n)) := by
    refine loopD_inv (fun j v => j ≤ n ∧ v = ((j : Int), ((o + j : Nat) : Int), false, intsOf (joined Seen (from_ + i) j))) n _ ?_ ⟨by omega, rfl⟩ (by omega)
    rintro j v ⟨hj, rfl⟩
    by_cases hlt : j < n
    · left
      have hr : inR (from_ + i + (j : Int)) N = true := inR_true ⟨by omega, by omega⟩
      obtain ⟨x, hx, hrd⟩ := h.read hr (o := o + j) (by omega)
      have w1 : IntKind.wrap .i64 (IntKind.wrap .i64 (from_ + i) + (j : Int)) = from_ + i + (j : Int) := by rw [wrap64 (x := from_ + i) (by omega) (by omega), wrap64 (by omega) (by omega)]
      have hxl := h64 x (List.mem_of_getElem? hx)
      have := hjl j (by omega)
      refine ⟨_, ?_, hlt, hlt, rfl⟩
      have e0 : ((0 : Int) != 0) = false := rfl
      simp only [stepDregion_Region_Read_n0, stepregion_Region_Read_n0, dec_true (show (j : Int) < (n : Int) by omega), cond_true, w1, hrd, bindO_pure, unP, e0, cond_false, Builder_WriteString_eq x (joined Seen (from_ + i) j) (by omega), wrap64_nat (show j < 9223372036854775807 by omega), joined_succ, hx, Option.getD_some, Nat.add_assoc]
    · right
      obtain rfl : j = n := by omega
      simp only [stepDregion_Region_Read_n0, stepregion_Region_Read_n0, dec_false (show ¬ (j : Int) < (j : Int) by omega), cond_false]
      exact ⟨_, rfl, rfl⟩
  obtain ⟨y, hy, rfl⟩ := key
  have hy' : loopD (stepDregion_Region_Read_n0 (i, (n : Int), from_, many, 0, sure, seen, waits, [])) FUEL (0, (o : Int), false, []) = _ := hy
  have := hjl n (Nat.le_refl _)
  simp only [fnDregion_Region_Read, fnregion_Region_Read, inside_eq i (n : Int) many (by omega), dec_true (show 0 ≤ i ∧ 0 ≤ (n : Int) ∧ i ≤ many ∧ (n : Int) ≤ many - i from ⟨hin.1, by omega, by omega, by omega⟩), bindO_pure, Bool.not_true, cond_false, hy', Sum.elim_inr, unP, Builder_String_eq _ (show (joined Seen (from_ + i) n).length ≤ 9223372036854775807 by omega)]
end Go.Proofs.R3
namespace Go.Proofs.R3
open Go Go.AE Go.Plain
theorem works09 : fnDlaw09_works () = some true := by kernel_rfl
theorem RegionNone_true (a b : Int) (s : List UInt8) : fnDlaw09_RegionNone (a, b, s) = some true := by
  simp only [fnDlaw09_RegionNone, fnlaw09_RegionNone, works09, bindO_pure, Bool.not_true, cond_false]
  rfl

theorem settle_secs (S : List (List UInt8)) (b : Int) (hb : 0 ≤ b) (p : List UInt8) (i : Nat) : ∀ n : Nat, (settleM S (secs b n p))[i]? =
    if b ≤ (i : Int) ∧ (i : Int) < b + (n : Int) ∧ i < S.length then some ((p.drop (64 * ((i : Int) - b).toNat)).take 64) else S[i]?
  | 0 => by rw [secs_zero, if_neg (by omega)]; rfl
  | n + 1 => by
    rw [secs_succ, settleM_snoc, List.getElem?_set, settle_secs S b hb p i n, settleM_length]
    by_cases e : (b + (n : Int)).toNat = i
    · rw [if_pos e]
      by_cases hl : (b + (n : Int)).toNat < S.length
      · rw [if_pos hl, if_pos (by omega), show ((i : Int) - b).toNat = n by omega]
      · rw [if_neg hl, if_neg (by omega), List.getElem?_eq_none (by omega)]
    · rw [if_neg e]
      by_cases h : b ≤ (i : Int) ∧ (i : Int) < b + (n : Int) ∧ i < S.length
      · rw [if_pos h, if_pos (by omega)]
      · rw [if_neg h, if_neg (by omega)]
theorem joined_take (Seen : List (List UInt8)) (b : Int) (p : List UInt8) : ∀ n : Nat, (∀ k : Nat, k < n → Seen[(b + (k : Int)).toNat]? = some ((p.drop (64 * k)).take 64)) → joined Seen b n = p.take (64 * n)
  | 0, _ => by simp [joined]
  | n + 1, h => by
    rw [joined_succ, joined_take Seen b p n (fun k hk => h k (by omega)), h n (by omega), Option.getD_some, show 64 * (n + 1) = 64 * n + 64 by omega, List.take_add]
theorem padTo_take (s : List UInt8) : (padTo s).take s.length = s := by
  unfold padTo
  rw [List.take_append_of_le_length (Nat.le_refl _), List.take_of_length_le (Nat.le_refl _)]
theorem padTo_len (s : List UInt8) : (padTo s).length = s.length + (64 - s.length % 64) % 64 := by simp [padTo]

theorem own_pads (s : List UInt8) (hs : s.length ≤ 1500) : (∀ a0 a2 o1, nodeDlaw09_RegionOwn_n0 (a0, a2, s, padTo s, o1) = some false) ∧ ∀ a0 a2 b c o1, nodeDlaw09_RegionOwn_n0v1 (a0, a2, s, padTo s, b, c, o1) = some false := by
  have hpl := padTo_len s
  have hr : inR (s.length : Int) ((padTo s).length + 1) = true := inR_true ⟨by omega, by omega⟩
  have hm : (Int.tmod ((padTo s).length : Int) 64 != 0) = false := by
    show ((((padTo s).length % 64 : Nat) : Int) != 0) = false
    rw [bne_eq_false_iff_eq]
    omega
  have ht : List.take (Int.toNat (s.length : Int)) (padTo s) = s := by rw [Int.toNat_natCast]; exact padTo_take s
  constructor
  · intro a0 a2 o1
    simp only [nodeDlaw09_RegionOwn_n0, nodelaw09_RegionOwn_n0, ref09_Pad_eq s (by omega), bindO_pure, beq_self_eq_true, Bool.not_true, cond_false, hm, hr, cond_true, ht]
  · intro a0 a2 b c o1
    simp only [nodeDlaw09_RegionOwn_n0v1, nodelaw09_RegionOwn_n0v1, ref09_Pad_eq s (by omega), bindO_pure, beq_self_eq_true, Bool.not_true, cond_false, hm, hr, cond_true, ht]

theorem own_last (from_ at_ : Int) (hf : 0 ≤ from_ ∧ from_ ≤ 12) (ha : 0 ≤ at_ ∧ at_ ≤ 12) (p t : List UInt8) (n : Nat) (hn : from_ + at_ + (n : Int) ≤ 12) (f : Int) (sure : List (List UInt8)) (seen waits : Secs) (k : Nat) (Seen : List (List UInt8)) (h : InvD 12 k sure seen waits [] Seen)
    (hS : Seen = settleM (List.replicate 12 blank) (secs (from_ + at_) n p)) (o : Nat) (ho : o ≤ 100000) :
    loopD (stepDlaw09_RegionOwn_n2 (from_, at_, p, (n : Int), t, f, sure, seen, waits)) FUEL (0, (o : Int), false) = some (.inr ()) := by
  have key : ∃ y, loopD (stepDlaw09_RegionOwn_n2 (from_, at_, p, (n : Int), t, f, sure, seen, waits)) FUEL (((0 : Nat) : Int), ((o + 0 : Nat) : Int), false) = some y ∧ y = .inr () := by
    refine loopD_inv (fun j v => j ≤ 12 ∧ v = ((j : Int), ((o + j : Nat) : Int), false)) 12 _ ?_ ⟨by omega, rfl⟩ (by omega)
    rintro j v ⟨hj, rfl⟩
    by_cases hlt : j < 12
    · left
      have hr : inR (j : Int) 12 = true := inR_true ⟨by omega, by omega⟩
      obtain ⟨x, hx, hrd⟩ := h.read hr (o := o + j) (by omega)
      have w1 : IntKind.wrap .i64 ((j : Int) - from_) = (j : Int) - from_ := wrap64 (by omega) (by omega)
      have w2 : IntKind.wrap .i64 ((j : Int) - from_ - at_) = (j : Int) - from_ - at_ := wrap64 (by omega) (by omega)
      have e0 : ((0 : Int) != 0) = false := rfl
      have hown : (bif decide ((j : Int) - from_ ≥ at_) then some (decide ((j : Int) - from_ - at_ < (n : Int))) else some false) = some (decide (from_ + at_ ≤ (j : Int) ∧ (j : Int) < from_ + at_ + (n : Int))) := by
        by_cases c1 : (j : Int) - from_ ≥ at_
        · rw [dec_true c1, cond_true]
          by_cases c2 : (j : Int) - from_ - at_ < (n : Int)
          · rw [dec_true c2, dec_true (by omega)]
          · rw [dec_false c2, dec_false (by omega)]
        · rw [dec_false c1, cond_false, dec_false (by omega)]
      refine ⟨_, ?_, hlt, hlt, rfl⟩
      simp only [stepDlaw09_RegionOwn_n2, steplaw09_RegionOwn_n2, nodeDlaw09_RegionOwn_n3, nodelaw09_RegionOwn_n3, nodeDlaw09_RegionOwn_n4, nodelaw09_RegionOwn_n4, nodeDlaw09_RegionOwn_n5, nodelaw09_RegionOwn_n5,
        dec_true (show (j : Int) < 12 by omega), cond_true, hrd, bindO_pure, unP, w1, w2, hown, e0, cond_false]
      by_cases c : from_ + at_ ≤ (j : Int) ∧ (j : Int) < from_ + at_ + (n : Int)
      · rw [dec_true c]
        simp only [Bool.not_true, cond_false, bindO_pure, Sum.elim_inr, unP, wrap64_nat (show j < 9223372036854775807 by omega)]
        rfl
      · rw [hS, Int.toNat_natCast, settle_secs _ _ (by omega), if_neg (fun h => c ⟨h.1, h.2.1⟩), List.getElem?_replicate_of_lt (by omega)] at hx
        obtain rfl : blank = x := Option.some.inj hx
        rw [dec_false c]
        have eb : (!(blank == [0, 0, 0, 0, 0, 0, 0, 0, 0, 0, 0, 0, 0, 0, 0, 0, 0, 0, 0, 0, 0, 0, 0, 0, 0, 0, 0, 0, 0, 0, 0, 0, 0, 0, 0, 0, 0, 0, 0, 0, 0, 0, 0, 0, 0, 0, 0, 0, 0, 0, 0, 0, 0, 0, 0, 0, 0, 0, 0, 0, 0, 0, 0, 0])) = false := by decide +kernel
        simp only [Bool.not_false, cond_true, eb, bindO_pure, cond_false, Sum.elim_inr, unP, wrap64_nat (show j < 9223372036854775807 by omega)]
        rfl
    · right
      obtain rfl : j = 12 := by omega
      exact ⟨_, rfl, rfl⟩
  obtain ⟨y, hy, rfl⟩ := key
  exact hy

theorem RegionOwn_true (from_ many at_ : Int) (s : List UInt8) : fnDlaw09_RegionOwn (from_, many, at_, s) = some true := by
  simp only [fnDlaw09_RegionOwn, fnlaw09_RegionOwn, works09, bindO_pure, Bool.not_true, cond_false]
  by_cases c0 : (s.length : Int) > 1500
  · rw [dec_true c0]; rfl
  have hs : s.length ≤ 1500 := by omega
  have hnew : fnDdisk_New 12 = some (List.replicate 12 blank) := diskNew_eq 12 12 rfl (by omega)
  have hpl := padTo_len s
  obtain ⟨hp1, hp2⟩ := own_pads s hs
  have hsec : fnDdisk_Disk_Sectors (0, 0, false, List.replicate 12 blank, [], [], []) = some 12 := by kernel_rfl
  have hi0 : InvD 12 0 (List.replicate 12 blank) [] [] [] (List.replicate 12 blank) := ⟨by simp, by omega, rfl, by simp, by simp, by simp, fun i _ => by simp [look, mhas]⟩
  simp only [dec_false c0, cond_false, hnew, bindO_pure, fnDregion_New, fnregion_New, hsec, inside_eq from_ many 12 (by omega)]
  by_cases hin : 0 ≤ from_ ∧ 0 ≤ many ∧ from_ ≤ 12 ∧ many ≤ 12 - from_
  · rw [dec_true hin]
    simp only [Bool.not_true, cond_false, Sum.elim_inr, region_Pad_eq s (by omega), bindO_pure, hp2, nodeDlaw09_RegionOwn_n1v1, nodelaw09_RegionOwn_n1v1]
    by_cases hat : 0 ≤ at_ ∧ at_ ≤ many ∧ (((padTo s).length / 64 : Nat) : Int) ≤ many - at_
    · obtain ⟨seen', hw, hi⟩ := region_Write_fine hi0 at_ (padTo s) ((padTo s).length / 64) from_ many 0 (by omega) (by omega) (by omega) (by omega) hin.1 (by omega) ⟨hat.1, by omega⟩
      generalize hn : (padTo s).length / 64 = n at hw hi hat
      have hw' : fnDregion_Region_Write (at_, padTo s, from_, many, 0, 0, false, List.replicate 12 blank, [], [], []) = _ := hw
      have e1 : IntKind.wrap .i64 (Int.tdiv ((padTo s).length : Int) 64) = (n : Int) := by
        rw [show Int.tdiv ((padTo s).length : Int) 64 = (((padTo s).length / 64 : Nat) : Int) from rfl, hn]
        exact wrap64 (by omega) (by omega)
      have e0 : ((0 : Int) != 0) = false := rfl
      have hS64 : ∀ x ∈ settleM (List.replicate 12 blank) (secs (from_ + at_) n (padTo s)), x.length ≤ 64 := by
        intro x hx
        obtain ⟨i, hi', rfl⟩ := List.mem_iff_getElem.1 hx
        have hg := List.getElem?_eq_getElem hi'
        rw [settle_secs _ _ (by omega)] at hg
        split at hg
        · rw [← Option.some.inj hg, List.length_take]; omega
        · have := List.mem_of_getElem? hg
          rw [List.eq_of_mem_replicate this]; exact Nat.le_refl _
      have hr := region_Read_fine hi hS64 at_ n from_ many (0 + n) (by omega) (by omega) hin.1 (by omega) ⟨hat.1, by omega⟩
      have hjn : joined (settleM (List.replicate 12 blank) (secs (from_ + at_) n (padTo s))) (from_ + at_) n = padTo s := by
        rw [joined_take _ _ (padTo s) n, List.take_of_length_le (by omega)]
        intro k hk
        rw [settle_secs _ _ (by omega), if_pos (by rw [List.length_replicate]; omega), show (((from_ + at_ + (k : Int)).toNat : Int) - (from_ + at_)).toNat = k by omega]
      rw [hjn] at hr
      have hl := own_last from_ at_ ⟨hin.1, by omega⟩ ⟨hat.1, by omega⟩ (padTo s) (padTo s) n (by omega) 0 _ _ _ _ _ hi rfl (0 + n + n) (by omega)
      simp only [hw', bindO_pure, unP, e0, cond_false, e1, hr, hl, Sum.elim_inr, nodeDlaw09_RegionOwn_n6, nodelaw09_RegionOwn_n6, beq_self_eq_true, cond_true]
    · rw [region_Write_out at_ (padTo s) from_ many 0 0 false (List.replicate 12 blank) [] [] [] (by omega) ⟨hin.1, by omega⟩ (by omega) (by omega) hat]
      rfl
  · rw [dec_false hin]
    simp only [Bool.not_false, cond_true, Sum.elim_inl, region_Pad_eq s (by omega), bindO_pure, hp1, cond_false]
    rfl
end Go.Proofs.R3
