/- What the functions that SlotBackCardSaid reaches compute: part 3. -/
import Derived.Test.YtbhnbhhlmfdepaaDoorOwnSlotBackCardSaid2
set_option linter.unusedVariables false
set_option linter.unusedSimpArgs false
namespace Go.Proofs.R5
open Go Go.AE
--@ field_Reader_fail
noncomputable def envfield_Reader_fail : Env := []
theorem envfield_Reader_failOk : EnvOk Tryd.prog envfield_Reader_fail := EnvOk.nil
noncomputable def bfield_Reader_fail : Code := Tryd.f45.body.getD .skip
noncomputable def annfield_Reader_fail : Ann := .none
theorem annfield_Reader_fail_ok : AnnOk Tryd.prog 13 bfield_Reader_fail annfield_Reader_fail := (annOk_none _ _ _)
abbrev Afield_Reader_fail := (Int) × (List UInt8) × (Int)
abbrev Yfield_Reader_fail := (Int)
noncomputable def fnfield_Reader_fail {β : Type} : Afield_Reader_fail → (Yfield_Reader_fail → Option β) → Option β := fun (a1, o0_0, o0_1) exit => (bif o0_1 == (0 : Int) then (exit (a1)) else (exit (o0_1)))
noncomputable def fnDfield_Reader_fail (a : Afield_Reader_fail) : Option Yfield_Reader_fail := fnfield_Reader_fail a some
theorem fnfield_Reader_fail_nat (a : Afield_Reader_fail) (k : Yfield_Reader_fail → Ans) : fnfield_Reader_fail a k = bindO (fnDfield_Reader_fail a) k := by
  obtain ⟨a1, o0_0, o0_1⟩ := a
  simp only [fnDfield_Reader_fail, fnfield_Reader_fail, bindO_cond, bindO_assoc, bindO_none, bindO_pure, bindO_elim, bindO_unP]
def argsfield_Reader_fail : Afield_Reader_fail → List AV × List AE.Obj := fun (a1, o0_0, o0_1) => ([AV.ptr 0 0, AV.int IntKind.i64 a1], [AE.Obj.cells [AV.str o0_0, AV.int IntKind.i64 o0_1]])
def decAfield_Reader_fail (l : List AV) (H : List AE.Obj) : Option Afield_Reader_fail := match l, H with
  | [AV.ptr 0 0, AV.int IntKind.i64 a1], [AE.Obj.cells [AV.str o0_0, AV.int IntKind.i64 o0_1]] => some (a1, o0_0, o0_1)
  | _, _ => none
theorem decAfield_Reader_fail_ok (l : List AV) (H : List AE.Obj) (a : Afield_Reader_fail) (h : decAfield_Reader_fail l H = some a) : (l, H) = argsfield_Reader_fail a := by
  unfold decAfield_Reader_fail at h
  split at h
  · cases h; rfl
  · cases h
def outfield_Reader_fail : Afield_Reader_fail → (AV → List AE.Obj → Ans) → Yfield_Reader_fail → Ans := fun (a1, o0_0, o0_1) K => fun o0_1_y => K (AV.tup []) [AE.Obj.cells [AV.str o0_0, AV.int IntKind.i64 o0_1_y]]
theorem fnfield_Reader_fail_ok (a : Afield_Reader_fail) (K : AV → List AE.Obj → Ans) : fnE Tryd.tab envfield_Reader_fail noHint 0 70 45 Tryd.f45.ntmps Tryd.f45.results.toList annfield_Reader_fail bfield_Reader_fail (argsfield_Reader_fail a).1 (argsfield_Reader_fail a).2 K = fnfield_Reader_fail a (outfield_Reader_fail a K) := by kernel_rfl
noncomputable def vFfield_Reader_fail (a : Afield_Reader_fail) (K : AV → List AE.Obj → Ans) : Ans := bindO (fnDfield_Reader_fail a) fun y => outfield_Reader_fail a K y
noncomputable def Ffield_Reader_fail : List AV → List AE.Obj → (AV → List AE.Obj → Ans) → Ans := fun l H K => bindO (decAfield_Reader_fail l H) fun a => vFfield_Reader_fail a K
theorem Ffield_Reader_fail_ok : FuncOk Tryd.prog 45 Ffield_Reader_fail := func_mkD (hint := noHint) (d := 0) (n := 70) mixed tabOk envfield_Reader_failOk Tryd.func45 (bodySome (by kernel_rfl)) (by decide +kernel) annfield_Reader_fail_ok decAfield_Reader_fail_ok fnfield_Reader_fail_ok fnfield_Reader_fail_nat
--@ field_Reader_Bytes
noncomputable def envfield_Reader_Bytes : Env := [(45, .func Ffield_Reader_fail)]
theorem envfield_Reader_BytesOk : EnvOk Tryd.prog envfield_Reader_Bytes := EnvOk.cons Ffield_Reader_fail_ok (EnvOk.nil)
noncomputable def bfield_Reader_Bytes : Code := Tryd.f27.body.getD .skip
noncomputable def Lfield_Reader_Bytes_n0 : Code := codeAt [1, 1, 0, 1] bfield_Reader_Bytes
noncomputable def annLfield_Reader_Bytes_n0 : Ann := .none
theorem annLfield_Reader_Bytes_n0_ok : AnnOk Tryd.prog 42 Lfield_Reader_Bytes_n0 annLfield_Reader_Bytes_n0 := (annOk_none _ _ _)
abbrev Ifield_Reader_Bytes_n0 := (Int) × (Bool) × (List UInt8) × (Int)
abbrev Yfield_Reader_Bytes_n0 := (Int)
def Sfield_Reader_Bytes_n0 : Ifield_Reader_Bytes_n0 → St := fun (t1, t9, o0_0, o0_1) => { env := [(0, AV.ptr 0 0), (1, AV.int IntKind.i64 t1), (9, AV.bool t9)], stk := [[(0, AV.ptr 0 0)]], H := [AE.Obj.cells [AV.str o0_0, AV.int IntKind.i64 o0_1]], blk := 110592 }
def decfield_Reader_Bytes_n0 (s : St) : Option Ifield_Reader_Bytes_n0 := match s with
  | { env := [(0, AV.ptr 0 0), (1, AV.int IntKind.i64 t1), (9, AV.bool t9)], stk := [[(0, AV.ptr 0 0)]], H := [AE.Obj.cells [AV.str o0_0, AV.int IntKind.i64 o0_1]], blk := 110592 } => some (t1, t9, o0_0, o0_1)
  | _ => none
theorem decfield_Reader_Bytes_n0_ok (s : St) (x : Ifield_Reader_Bytes_n0) (h : decfield_Reader_Bytes_n0 s = some x) : s = Sfield_Reader_Bytes_n0 x := by
  unfold decfield_Reader_Bytes_n0 at h
  split at h
  · cases h; rfl
  · cases h
def outfield_Reader_Bytes_n0 : Ifield_Reader_Bytes_n0 → (Ex → St → Ans) → Yfield_Reader_Bytes_n0 → Ans := fun (t1, t9, o0_0, o0_1) K => fun o0_1_y => K (Ex.norm) { env := [(0, AV.ptr 0 0), (1, AV.int IntKind.i64 t1)], stk := [[(0, AV.ptr 0 0)]], H := [AE.Obj.cells [AV.str o0_0, AV.int IntKind.i64 o0_1_y]], blk := 110592 }
noncomputable def nodefield_Reader_Bytes_n0 {β : Type} : Ifield_Reader_Bytes_n0 → (Yfield_Reader_Bytes_n0 → Option β) → Option β := fun (t1, t9, o0_0, o0_1) exit => (bif t9 then (bindO (fnDfield_Reader_fail ((3 : Int), o0_0, o0_1)) fun o0_1_2 => (exit (o0_1_2))) else (bif decide (t1 > (↑(List.length o0_0) : Int)) then (bindO (fnDfield_Reader_fail ((1 : Int), o0_0, o0_1)) fun o0_1_2 => (exit (o0_1_2))) else (exit (o0_1))))
noncomputable def nodeDfield_Reader_Bytes_n0 (i : Ifield_Reader_Bytes_n0) : Option Yfield_Reader_Bytes_n0 := nodefield_Reader_Bytes_n0 i some
theorem nodefield_Reader_Bytes_n0_nat (i : Ifield_Reader_Bytes_n0) (k : Yfield_Reader_Bytes_n0 → Ans) : nodefield_Reader_Bytes_n0 i k = bindO (nodeDfield_Reader_Bytes_n0 i) k := by
  obtain ⟨t1, t9, o0_0, o0_1⟩ := i
  simp only [nodeDfield_Reader_Bytes_n0, nodefield_Reader_Bytes_n0, bindO_cond, bindO_assoc, bindO_none, bindO_pure, bindO_elim, bindO_unP]
theorem nodefield_Reader_Bytes_n0_ok (i : Ifield_Reader_Bytes_n0) (K : Ex → St → Ans) : codeI Tryd.tab envfield_Reader_Bytes noHint (codeD Tryd.tab envfield_Reader_Bytes noHint 0 64) 70 42 annLfield_Reader_Bytes_n0 Lfield_Reader_Bytes_n0 (weakP 1 (exk [0, 1] [4] []) K) (Sfield_Reader_Bytes_n0 i) = nodefield_Reader_Bytes_n0 i (outfield_Reader_Bytes_n0 i K) := by kernel_rfl
theorem GNfield_Reader_Bytes_n0_ok : CSum Tryd.prog 42 Lfield_Reader_Bytes_n0 (sumN decfield_Reader_Bytes_n0 nodeDfield_Reader_Bytes_n0 outfield_Reader_Bytes_n0) := csum_node mixed tabOk envfield_Reader_BytesOk 1 (exk [0, 1] [4] []) annLfield_Reader_Bytes_n0_ok decfield_Reader_Bytes_n0_ok nodefield_Reader_Bytes_n0_ok nodefield_Reader_Bytes_n0_nat
noncomputable def Gfield_Reader_Bytes_n0 : (Ex → St → Ans) → St → Ans := (sumN decfield_Reader_Bytes_n0 nodeDfield_Reader_Bytes_n0 outfield_Reader_Bytes_n0)
theorem Gfield_Reader_Bytes_n0_ok : CSum Tryd.prog 42 Lfield_Reader_Bytes_n0 Gfield_Reader_Bytes_n0 := GNfield_Reader_Bytes_n0_ok
noncomputable def annfield_Reader_Bytes : Ann := (.seq .none (.seq .none (.seq (.seq .none (.cut 1 [0, 1, 9] Gfield_Reader_Bytes_n0)) .none)))
theorem annfield_Reader_Bytes_ok : AnnOk Tryd.prog 42 bfield_Reader_Bytes annfield_Reader_Bytes := ⟨(annOk_none _ _ _), ⟨(annOk_none _ _ _), ⟨⟨(annOk_none _ _ _), Gfield_Reader_Bytes_n0_ok⟩, (annOk_none _ _ _)⟩⟩⟩
abbrev Afield_Reader_Bytes := (Int) × (List UInt8) × (Int)
abbrev Yfield_Reader_Bytes := (List UInt8) × (List UInt8) × (Int)
noncomputable def fnfield_Reader_Bytes {β : Type} : Afield_Reader_Bytes → (Yfield_Reader_Bytes → Option β) → Option β := fun (a1, o0_0, o0_1) exit => (bindO (nodeDfield_Reader_Bytes_n0 (a1, decide (a1 < (0 : Int)), o0_0, o0_1)) fun o0_1_2 => (bif o0_1_2 != (0 : Int) then (exit ([], o0_0, o0_1_2)) else (bif inR a1 (List.length o0_0 + (1 : Nat)) then (bif inR a1 (List.length o0_0 + (1 : Nat)) then (exit (List.take (Int.toNat a1) o0_0, List.drop (Int.toNat a1) o0_0, o0_1_2)) else none) else none)))
noncomputable def fnDfield_Reader_Bytes (a : Afield_Reader_Bytes) : Option Yfield_Reader_Bytes := fnfield_Reader_Bytes a some
theorem fnfield_Reader_Bytes_nat (a : Afield_Reader_Bytes) (k : Yfield_Reader_Bytes → Ans) : fnfield_Reader_Bytes a k = bindO (fnDfield_Reader_Bytes a) k := by
  obtain ⟨a1, o0_0, o0_1⟩ := a
  simp only [fnDfield_Reader_Bytes, fnfield_Reader_Bytes, bindO_cond, bindO_assoc, bindO_none, bindO_pure, bindO_elim, bindO_unP]
def argsfield_Reader_Bytes : Afield_Reader_Bytes → List AV × List AE.Obj := fun (a1, o0_0, o0_1) => ([AV.ptr 0 0, AV.int IntKind.i64 a1], [AE.Obj.cells [AV.str o0_0, AV.int IntKind.i64 o0_1]])
def decAfield_Reader_Bytes (l : List AV) (H : List AE.Obj) : Option Afield_Reader_Bytes := match l, H with
  | [AV.ptr 0 0, AV.int IntKind.i64 a1], [AE.Obj.cells [AV.str o0_0, AV.int IntKind.i64 o0_1]] => some (a1, o0_0, o0_1)
  | _, _ => none
theorem decAfield_Reader_Bytes_ok (l : List AV) (H : List AE.Obj) (a : Afield_Reader_Bytes) (h : decAfield_Reader_Bytes l H = some a) : (l, H) = argsfield_Reader_Bytes a := by
  unfold decAfield_Reader_Bytes at h
  split at h
  · cases h; rfl
  · cases h
def outfield_Reader_Bytes : Afield_Reader_Bytes → (AV → List AE.Obj → Ans) → Yfield_Reader_Bytes → Ans := fun (a1, o0_0, o0_1) K => unP fun r_y => unP fun o0_0_y o0_1_y => K (AV.str r_y) [AE.Obj.cells [AV.str o0_0_y, AV.int IntKind.i64 o0_1_y]]
theorem fnfield_Reader_Bytes_ok (a : Afield_Reader_Bytes) (K : AV → List AE.Obj → Ans) : fnE Tryd.tab envfield_Reader_Bytes noHint 0 70 27 Tryd.f27.ntmps Tryd.f27.results.toList annfield_Reader_Bytes bfield_Reader_Bytes (argsfield_Reader_Bytes a).1 (argsfield_Reader_Bytes a).2 K = fnfield_Reader_Bytes a (outfield_Reader_Bytes a K) := by kernel_rfl
noncomputable def vFfield_Reader_Bytes (a : Afield_Reader_Bytes) (K : AV → List AE.Obj → Ans) : Ans := bindO (fnDfield_Reader_Bytes a) fun y => outfield_Reader_Bytes a K y
noncomputable def Ffield_Reader_Bytes : List AV → List AE.Obj → (AV → List AE.Obj → Ans) → Ans := fun l H K => bindO (decAfield_Reader_Bytes l H) fun a => vFfield_Reader_Bytes a K
theorem Ffield_Reader_Bytes_ok : FuncOk Tryd.prog 27 Ffield_Reader_Bytes := func_mkD (hint := noHint) (d := 0) (n := 70) mixed tabOk envfield_Reader_BytesOk Tryd.func27 (bodySome (by kernel_rfl)) (by decide +kernel) annfield_Reader_Bytes_ok decAfield_Reader_Bytes_ok fnfield_Reader_Bytes_ok fnfield_Reader_Bytes_nat
--@ field_Reader_Num
noncomputable def envfield_Reader_Num : Env := [(46, .pure Ffield_width), (45, .func Ffield_Reader_fail), (27, .func Ffield_Reader_Bytes)]
theorem envfield_Reader_NumOk : EnvOk Tryd.prog envfield_Reader_Num := EnvOk.cons Ffield_width_ok (EnvOk.cons Ffield_Reader_fail_ok (EnvOk.cons Ffield_Reader_Bytes_ok (EnvOk.nil)))
noncomputable def bfield_Reader_Num : Code := Tryd.f28.body.getD .skip
noncomputable def Lfield_Reader_Num_n0 : Code := codeAt [1, 1, 1, 1, 0, 1, 0, 0] bfield_Reader_Num
noncomputable def annLfield_Reader_Num_n0 : Ann := .at 1 [5, 18, 19, 20] (.loop .none)
theorem annLfield_Reader_Num_n0_ok : AnnOk Tryd.prog 31 (.loop Lfield_Reader_Num_n0) annLfield_Reader_Num_n0 := annOk_at (annOk_none _ _ _)
abbrev Ifield_Reader_Num_n0 := (Int) × (List UInt8) × (Int) × (List Int)
abbrev Yfield_Reader_Num_n0 := (Int)
abbrev Vfield_Reader_Num_n0 := (Int) × (Int)
def Sfield_Reader_Num_n0 : Ifield_Reader_Num_n0 → Vfield_Reader_Num_n0 → St := fun (t19, o0_0, o0_1, o1) (t5, t20) => { env := [(5, AV.int IntKind.i64 t5), (18, AV.own 1), (19, AV.int IntKind.i64 t19), (20, AV.int IntKind.i64 t20)], stk := [[(0, AV.ptr 0 0)]], H := [AE.Obj.cells [AV.str o0_0, AV.int IntKind.i64 o0_1], Obj.arr (Ty.int IntKind.u8) o1], blk := 114688 }
def decfield_Reader_Num_n0 (s : St) : Option (Ifield_Reader_Num_n0 × Vfield_Reader_Num_n0) := match s with
  | { env := [(5, AV.int IntKind.i64 t5), (18, AV.own 1), (19, AV.int IntKind.i64 t19), (20, AV.int IntKind.i64 t20)], stk := [[(0, AV.ptr 0 0)]], H := [AE.Obj.cells [AV.str o0_0, AV.int IntKind.i64 o0_1], Obj.arr (Ty.int IntKind.u8) o1], blk := 114688 } => some ((t19, o0_0, o0_1, o1), (t5, t20))
  | _ => none
theorem decfield_Reader_Num_n0_ok (s : St) (x : Ifield_Reader_Num_n0 × Vfield_Reader_Num_n0) (h : decfield_Reader_Num_n0 s = some x) : s = Sfield_Reader_Num_n0 x.1 x.2 := by
  unfold decfield_Reader_Num_n0 at h
  split at h
  · cases h; rfl
  · cases h
def outfield_Reader_Num_n0 : Ifield_Reader_Num_n0 → (Ex → St → Ans) → Yfield_Reader_Num_n0 → Ans := fun (t19, o0_0, o0_1, o1) K => fun t5_y => K (Ex.exit 0) { env := [(5, AV.int IntKind.i64 t5_y)], stk := [[(0, AV.ptr 0 0)]], H := [AE.Obj.cells [AV.str o0_0, AV.int IntKind.i64 o0_1]], blk := 114688 }
noncomputable def stepfield_Reader_Num_n0 {β : Type} : Ifield_Reader_Num_n0 → Vfield_Reader_Num_n0 → (Vfield_Reader_Num_n0 → Option β) → (Yfield_Reader_Num_n0 → Option β) → Option β := fun (t19, o0_0, o0_1, o1) (t5, t20) next exit => (bif decide (t20 < t19) then (bif inR t20 (List.length o1) then (bindO (o1[Int.toNat t20]?) fun x => (next (IntKind.wrap IntKind.i64 (↑(Int.toNat (IntKind.wrap IntKind.i64 (t5 * (256 : Int)) % (18446744073709551616 : Int)) ||| Int.toNat (IntKind.wrap IntKind.i64 x % (18446744073709551616 : Int))) : Int), IntKind.wrap IntKind.i64 (t20 + (1 : Int))))) else none) else (exit (t5)))
noncomputable def stepDfield_Reader_Num_n0 (i : Ifield_Reader_Num_n0) (v : Vfield_Reader_Num_n0) : Option (Vfield_Reader_Num_n0 ⊕ Yfield_Reader_Num_n0) := stepfield_Reader_Num_n0 i v (fun v => some (.inl v)) (fun y => some (.inr y))
theorem stepfield_Reader_Num_n0_nat (i : Ifield_Reader_Num_n0) (v : Vfield_Reader_Num_n0) (next : Vfield_Reader_Num_n0 → Ans) (exit : Yfield_Reader_Num_n0 → Ans) : stepfield_Reader_Num_n0 i v next exit = bindO (stepDfield_Reader_Num_n0 i v) (Sum.elim next exit) := by
  obtain ⟨t19, o0_0, o0_1, o1⟩ := i
  obtain ⟨t5, t20⟩ := v
  simp only [stepDfield_Reader_Num_n0, stepfield_Reader_Num_n0, bindO_cond, bindO_assoc, bindO_none, bindO_pure, bindO_elim, bindO_unP, Sum.elim_inl, Sum.elim_inr]
theorem stepfield_Reader_Num_n0_ok (n : Nat) (i : Ifield_Reader_Num_n0) (v : Vfield_Reader_Num_n0) (K : Ex → St → Ans) : codeI Tryd.tab envfield_Reader_Num noHint (codeD Tryd.tab envfield_Reader_Num noHint 0 64) (n+1) 31 annLfield_Reader_Num_n0 (.loop Lfield_Reader_Num_n0) (weakP 1 (exk [5] [4] [(0, [5])]) K) (Sfield_Reader_Num_n0 i v) = stepfield_Reader_Num_n0 i v (fun v' => codeI Tryd.tab envfield_Reader_Num noHint (codeD Tryd.tab envfield_Reader_Num noHint 0 64) n 31 annLfield_Reader_Num_n0 (.loop Lfield_Reader_Num_n0) (weakP 1 (exk [5] [4] [(0, [5])]) K) (Sfield_Reader_Num_n0 i v')) (fun y => outfield_Reader_Num_n0 i K y) := by kernel_rfl
theorem GNfield_Reader_Num_n0_ok : CSum Tryd.prog 31 (.loop Lfield_Reader_Num_n0) (sumL decfield_Reader_Num_n0 stepDfield_Reader_Num_n0 outfield_Reader_Num_n0) := csum_loop mixed tabOk envfield_Reader_NumOk 1 (exk [5] [4] [(0, [5])]) annLfield_Reader_Num_n0_ok decfield_Reader_Num_n0_ok stepfield_Reader_Num_n0_ok stepfield_Reader_Num_n0_nat
noncomputable def Gfield_Reader_Num_n0 : (Ex → St → Ans) → St → Ans := (sumL decfield_Reader_Num_n0 stepDfield_Reader_Num_n0 outfield_Reader_Num_n0)
theorem Gfield_Reader_Num_n0_ok : CSum Tryd.prog 31 (.loop Lfield_Reader_Num_n0) Gfield_Reader_Num_n0 := GNfield_Reader_Num_n0_ok
noncomputable def annfield_Reader_Num : Ann := (.seq .none (.seq .none (.seq .none (.seq .none (.seq (.seq .none (.block (.cut 1 [5, 18, 19, 20] Gfield_Reader_Num_n0))) .none)))))
theorem annfield_Reader_Num_ok : AnnOk Tryd.prog 31 bfield_Reader_Num annfield_Reader_Num := ⟨(annOk_none _ _ _), ⟨(annOk_none _ _ _), ⟨(annOk_none _ _ _), ⟨(annOk_none _ _ _), ⟨⟨(annOk_none _ _ _), Gfield_Reader_Num_n0_ok⟩, (annOk_none _ _ _)⟩⟩⟩⟩⟩
abbrev Afield_Reader_Num := (Int) × (List UInt8) × (Int)
abbrev Yfield_Reader_Num := (Int) × (List UInt8) × (Int)
noncomputable def fnfield_Reader_Num {β : Type} : Afield_Reader_Num → (Yfield_Reader_Num → Option β) → Option β := fun (a1, o0_0, o0_1) exit => (bindO (fnDfield_width (a1)) fun r => (bif !r then (bindO (fnDfield_Reader_fail ((3 : Int), o0_0, o0_1)) fun o0_1_2 => (exit ((0 : Int), o0_0, o0_1_2))) else (bindO (fnDfield_Reader_Bytes (a1, o0_0, o0_1)) (unP fun r_2 => unP fun o0_0_2 o0_1_2 => (bif Nat.ble (List.length r_2) (140737488355328 : Nat) then (bindO (loopD (stepDfield_Reader_Num_n0 ((↑(List.length (intsOf r_2)) : Int), o0_0_2, o0_1_2, intsOf r_2)) FUEL ((0 : Int), (0 : Int))) fun t5 => (exit (t5, o0_0_2, o0_1_2))) else none)))))
noncomputable def fnDfield_Reader_Num (a : Afield_Reader_Num) : Option Yfield_Reader_Num := fnfield_Reader_Num a some
theorem fnfield_Reader_Num_nat (a : Afield_Reader_Num) (k : Yfield_Reader_Num → Ans) : fnfield_Reader_Num a k = bindO (fnDfield_Reader_Num a) k := by
  obtain ⟨a1, o0_0, o0_1⟩ := a
  simp only [fnDfield_Reader_Num, fnfield_Reader_Num, bindO_cond, bindO_assoc, bindO_none, bindO_pure, bindO_elim, bindO_unP]
def argsfield_Reader_Num : Afield_Reader_Num → List AV × List AE.Obj := fun (a1, o0_0, o0_1) => ([AV.ptr 0 0, AV.int IntKind.i64 a1], [AE.Obj.cells [AV.str o0_0, AV.int IntKind.i64 o0_1]])
def decAfield_Reader_Num (l : List AV) (H : List AE.Obj) : Option Afield_Reader_Num := match l, H with
  | [AV.ptr 0 0, AV.int IntKind.i64 a1], [AE.Obj.cells [AV.str o0_0, AV.int IntKind.i64 o0_1]] => some (a1, o0_0, o0_1)
  | _, _ => none
theorem decAfield_Reader_Num_ok (l : List AV) (H : List AE.Obj) (a : Afield_Reader_Num) (h : decAfield_Reader_Num l H = some a) : (l, H) = argsfield_Reader_Num a := by
  unfold decAfield_Reader_Num at h
  split at h
  · cases h; rfl
  · cases h
def outfield_Reader_Num : Afield_Reader_Num → (AV → List AE.Obj → Ans) → Yfield_Reader_Num → Ans := fun (a1, o0_0, o0_1) K => unP fun r_y => unP fun o0_0_y o0_1_y => K (AV.int IntKind.i64 r_y) [AE.Obj.cells [AV.str o0_0_y, AV.int IntKind.i64 o0_1_y]]
theorem fnfield_Reader_Num_ok (a : Afield_Reader_Num) (K : AV → List AE.Obj → Ans) : fnE Tryd.tab envfield_Reader_Num noHint 0 70 28 Tryd.f28.ntmps Tryd.f28.results.toList annfield_Reader_Num bfield_Reader_Num (argsfield_Reader_Num a).1 (argsfield_Reader_Num a).2 K = fnfield_Reader_Num a (outfield_Reader_Num a K) := by kernel_rfl
noncomputable def vFfield_Reader_Num (a : Afield_Reader_Num) (K : AV → List AE.Obj → Ans) : Ans := bindO (fnDfield_Reader_Num a) fun y => outfield_Reader_Num a K y
noncomputable def Ffield_Reader_Num : List AV → List AE.Obj → (AV → List AE.Obj → Ans) → Ans := fun l H K => bindO (decAfield_Reader_Num l H) fun a => vFfield_Reader_Num a K
theorem Ffield_Reader_Num_ok : FuncOk Tryd.prog 28 Ffield_Reader_Num := func_mkD (hint := noHint) (d := 0) (n := 70) mixed tabOk envfield_Reader_NumOk Tryd.func28 (bodySome (by kernel_rfl)) (by decide +kernel) annfield_Reader_Num_ok decAfield_Reader_Num_ok fnfield_Reader_Num_ok fnfield_Reader_Num_nat
--@ slot_Get
noncomputable def envslot_Get : Env := [(15, .pure Fcyclic_Tail), (7, .pure Fslot_Put), (25, .pure Fstrings_Trim), (26, .func Ffield_New), (27, .func Ffield_Reader_Bytes), (28, .func Ffield_Reader_Num)]
theorem envslot_GetOk : EnvOk Tryd.prog envslot_Get := EnvOk.cons Fcyclic_Tail_ok (EnvOk.cons Fslot_Put_ok (EnvOk.cons Fstrings_Trim_ok (EnvOk.cons Ffield_New_ok (EnvOk.cons Ffield_Reader_Bytes_ok (EnvOk.cons Ffield_Reader_Num_ok (EnvOk.nil))))))
noncomputable def bslot_Get : Code := Tryd.f11.body.getD .skip
noncomputable def Lslot_Get_n1 : Code := codeAt [1, 1, 1, 1, 1, 1, 1, 1, 1, 1, 1, 1, 0, 1, 0] bslot_Get
noncomputable def annLslot_Get_n1 : Ann := .none
theorem annLslot_Get_n1_ok : AnnOk Tryd.prog 85 Lslot_Get_n1 annLslot_Get_n1 := (annOk_none _ _ _)
abbrev Islot_Get_n1 := (List UInt8) × (List UInt8) × (Int) × (Int) × (Int) × (Int) × (List UInt8) × (Int) × (Int) × (List UInt8)
abbrev Yslot_Get_n1 := (Bool)
def Sslot_Get_n1 : Islot_Get_n1 → St := fun (t0, t11, t12, o2_0, o2_1, o2_2, o2_3, o2_4, o2_5, o2_6) => { env := [(0, AV.str t0), (2, AV.ptr 0 0), (5, AV.ptr 1 0), (6, AV.ptr 2 0), (11, AV.str t11), (12, AV.int IntKind.i64 t12)], stk := [[]], H := [AE.Obj.cells [AV.int IntKind.i64 (0), AV.int IntKind.i64 (0), AV.int IntKind.i64 (0), AV.str ([]), AV.int IntKind.i64 (0), AV.int IntKind.i64 (0), AV.str ([])], AE.Obj.cells [AV.int IntKind.i64 (0), AV.int IntKind.i64 (0), AV.int IntKind.i64 (0), AV.str ([]), AV.int IntKind.i64 (0), AV.int IntKind.i64 (0), AV.str ([])], AE.Obj.cells [AV.int IntKind.i64 o2_0, AV.int IntKind.i64 o2_1, AV.int IntKind.i64 o2_2, AV.str o2_3, AV.int IntKind.i64 o2_4, AV.int IntKind.i64 o2_5, AV.str o2_6]], blk := 45056 }
def decslot_Get_n1 (s : St) : Option Islot_Get_n1 := match s with
  | { env := [(0, AV.str t0), (2, AV.ptr 0 0), (5, AV.ptr 1 0), (6, AV.ptr 2 0), (11, AV.str t11), (12, AV.int IntKind.i64 t12)], stk := [[]], H := [AE.Obj.cells [AV.int IntKind.i64 r3, AV.int IntKind.i64 r4, AV.int IntKind.i64 r5, AV.str r6, AV.int IntKind.i64 r7, AV.int IntKind.i64 r8, AV.str r9], AE.Obj.cells [AV.int IntKind.i64 r10, AV.int IntKind.i64 r11, AV.int IntKind.i64 r12, AV.str r13, AV.int IntKind.i64 r14, AV.int IntKind.i64 r15, AV.str r16], AE.Obj.cells [AV.int IntKind.i64 o2_0, AV.int IntKind.i64 o2_1, AV.int IntKind.i64 o2_2, AV.str o2_3, AV.int IntKind.i64 o2_4, AV.int IntKind.i64 o2_5, AV.str o2_6]], blk := 45056 } => cond (decide (r3 = 0) && decide (r4 = 0) && decide (r5 = 0) && decide (r6 = []) && decide (r7 = 0) && decide (r8 = 0) && decide (r9 = []) && decide (r10 = 0) && decide (r11 = 0) && decide (r12 = 0) && decide (r13 = []) && decide (r14 = 0) && decide (r15 = 0) && decide (r16 = [])) (some (t0, t11, t12, o2_0, o2_1, o2_2, o2_3, o2_4, o2_5, o2_6)) none
  | _ => none
theorem decslot_Get_n1_ok (s : St) (x : Islot_Get_n1) (h : decslot_Get_n1 s = some x) : s = Sslot_Get_n1 x := by
  unfold decslot_Get_n1 at h
  split at h
  · replace h := cond_noneO h; obtain ⟨hg, h⟩ := h; simp only [Bool.and_eq_true, decide_eq_true_eq] at hg; simp only [hg]; cases h; rfl
  · cases h
def outslot_Get_n1 : Islot_Get_n1 → (Ex → St → Ans) → Yslot_Get_n1 → Ans := fun (t0, t11, t12, o2_0, o2_1, o2_2, o2_3, o2_4, o2_5, o2_6) K => fun t82_y => K (Ex.norm) { env := [(2, AV.ptr 0 0), (5, AV.ptr 1 0), (6, AV.ptr 2 0), (82, AV.bool t82_y)], stk := [[]], H := [AE.Obj.cells [AV.int IntKind.i64 (0), AV.int IntKind.i64 (0), AV.int IntKind.i64 (0), AV.str ([]), AV.int IntKind.i64 (0), AV.int IntKind.i64 (0), AV.str ([])], AE.Obj.cells [AV.int IntKind.i64 (0), AV.int IntKind.i64 (0), AV.int IntKind.i64 (0), AV.str ([]), AV.int IntKind.i64 (0), AV.int IntKind.i64 (0), AV.str ([])], AE.Obj.cells [AV.int IntKind.i64 o2_0, AV.int IntKind.i64 o2_1, AV.int IntKind.i64 o2_2, AV.str o2_3, AV.int IntKind.i64 o2_4, AV.int IntKind.i64 o2_5, AV.str o2_6]], blk := 45056 }
noncomputable def nodeslot_Get_n1 {β : Type} : Islot_Get_n1 → (Yslot_Get_n1 → Option β) → Option β := fun (t0, t11, t12, o2_0, o2_1, o2_2, o2_3, o2_4, o2_5, o2_6) exit => (bif t12 != (0 : Int) then (exit (true)) else (exit (!t11 == t0)))
noncomputable def nodeDslot_Get_n1 (i : Islot_Get_n1) : Option Yslot_Get_n1 := nodeslot_Get_n1 i some
theorem nodeslot_Get_n1_nat (i : Islot_Get_n1) (k : Yslot_Get_n1 → Ans) : nodeslot_Get_n1 i k = bindO (nodeDslot_Get_n1 i) k := by
  obtain ⟨t0, t11, t12, o2_0, o2_1, o2_2, o2_3, o2_4, o2_5, o2_6⟩ := i
  simp only [nodeDslot_Get_n1, nodeslot_Get_n1, bindO_cond, bindO_assoc, bindO_none, bindO_pure, bindO_elim, bindO_unP]
theorem nodeslot_Get_n1_ok (i : Islot_Get_n1) (K : Ex → St → Ans) : codeI Tryd.tab envslot_Get noHint (codeD Tryd.tab envslot_Get noHint 0 64) 70 85 annLslot_Get_n1 Lslot_Get_n1 (weakP 0 (exk [2, 5, 6, 82] [2, 3, 4] []) K) (Sslot_Get_n1 i) = nodeslot_Get_n1 i (outslot_Get_n1 i K) := by kernel_rfl
theorem GNslot_Get_n1_ok : CSum Tryd.prog 85 Lslot_Get_n1 (sumN decslot_Get_n1 nodeDslot_Get_n1 outslot_Get_n1) := csum_node mixed tabOk envslot_GetOk 0 (exk [2, 5, 6, 82] [2, 3, 4] []) annLslot_Get_n1_ok decslot_Get_n1_ok nodeslot_Get_n1_ok nodeslot_Get_n1_nat
noncomputable def Gslot_Get_n1 : (Ex → St → Ans) → St → Ans := (sumN decslot_Get_n1 nodeDslot_Get_n1 outslot_Get_n1)
theorem Gslot_Get_n1_ok : CSum Tryd.prog 85 Lslot_Get_n1 Gslot_Get_n1 := GNslot_Get_n1_ok
noncomputable def Lslot_Get_n0 : Code := codeAt [1, 1, 1, 1, 1, 1, 1, 1, 1, 1, 0, 0] bslot_Get
noncomputable def annLslot_Get_n0 : Ann := .none
theorem annLslot_Get_n0_ok : AnnOk Tryd.prog 85 Lslot_Get_n0 annLslot_Get_n0 := (annOk_none _ _ _)
abbrev Islot_Get_n0 := (List UInt8) × (List UInt8) × (List UInt8) × (List UInt8) × (Int) × (Int) × (Int) × (Int) × (Int)
abbrev Yslot_Get_n0 := (Bool)
def Sslot_Get_n0 : Islot_Get_n0 → St := fun (t0, t8, t9, t10, o2_0, o2_1, o2_2, o2_4, o2_5) => { env := [(0, AV.str t0), (2, AV.ptr 0 0), (5, AV.ptr 1 0), (6, AV.ptr 2 0), (8, AV.str t8), (9, AV.str t9), (10, AV.str t10)], stk := [[]], H := [AE.Obj.cells [AV.int IntKind.i64 (0), AV.int IntKind.i64 (0), AV.int IntKind.i64 (0), AV.str ([]), AV.int IntKind.i64 (0), AV.int IntKind.i64 (0), AV.str ([])], AE.Obj.cells [AV.int IntKind.i64 (0), AV.int IntKind.i64 (0), AV.int IntKind.i64 (0), AV.str ([]), AV.int IntKind.i64 (0), AV.int IntKind.i64 (0), AV.str ([])], AE.Obj.cells [AV.int IntKind.i64 o2_0, AV.int IntKind.i64 o2_1, AV.int IntKind.i64 o2_2, AV.str ([]), AV.int IntKind.i64 o2_4, AV.int IntKind.i64 o2_5, AV.str ([])]], blk := 45056 }
def decslot_Get_n0 (s : St) : Option Islot_Get_n0 := match s with
  | { env := [(0, AV.str t0), (2, AV.ptr 0 0), (5, AV.ptr 1 0), (6, AV.ptr 2 0), (8, AV.str t8), (9, AV.str t9), (10, AV.str t10)], stk := [[]], H := [AE.Obj.cells [AV.int IntKind.i64 r4, AV.int IntKind.i64 r5, AV.int IntKind.i64 r6, AV.str r7, AV.int IntKind.i64 r8, AV.int IntKind.i64 r9, AV.str r10], AE.Obj.cells [AV.int IntKind.i64 r11, AV.int IntKind.i64 r12, AV.int IntKind.i64 r13, AV.str r14, AV.int IntKind.i64 r15, AV.int IntKind.i64 r16, AV.str r17], AE.Obj.cells [AV.int IntKind.i64 o2_0, AV.int IntKind.i64 o2_1, AV.int IntKind.i64 o2_2, AV.str r21, AV.int IntKind.i64 o2_4, AV.int IntKind.i64 o2_5, AV.str r24]], blk := 45056 } => cond (decide (r4 = 0) && decide (r5 = 0) && decide (r6 = 0) && decide (r7 = []) && decide (r8 = 0) && decide (r9 = 0) && decide (r10 = []) && decide (r11 = 0) && decide (r12 = 0) && decide (r13 = 0) && decide (r14 = []) && decide (r15 = 0) && decide (r16 = 0) && decide (r17 = []) && decide (r21 = []) && decide (r24 = [])) (some (t0, t8, t9, t10, o2_0, o2_1, o2_2, o2_4, o2_5)) none
  | _ => none
theorem decslot_Get_n0_ok (s : St) (x : Islot_Get_n0) (h : decslot_Get_n0 s = some x) : s = Sslot_Get_n0 x := by
  unfold decslot_Get_n0 at h
  split at h
  · replace h := cond_noneO h; obtain ⟨hg, h⟩ := h; simp only [Bool.and_eq_true, decide_eq_true_eq] at hg; simp only [hg]; cases h; rfl
  · cases h
def outslot_Get_n0 : Islot_Get_n0 → (Ex → St → Ans) → Yslot_Get_n0 → Ans := fun (t0, t8, t9, t10, o2_0, o2_1, o2_2, o2_4, o2_5) K => fun t61_y => K (Ex.norm) { env := [(0, AV.str t0), (2, AV.ptr 0 0), (5, AV.ptr 1 0), (6, AV.ptr 2 0), (10, AV.str t10), (61, AV.bool t61_y)], stk := [[]], H := [AE.Obj.cells [AV.int IntKind.i64 (0), AV.int IntKind.i64 (0), AV.int IntKind.i64 (0), AV.str ([]), AV.int IntKind.i64 (0), AV.int IntKind.i64 (0), AV.str ([])], AE.Obj.cells [AV.int IntKind.i64 (0), AV.int IntKind.i64 (0), AV.int IntKind.i64 (0), AV.str ([]), AV.int IntKind.i64 (0), AV.int IntKind.i64 (0), AV.str ([])], AE.Obj.cells [AV.int IntKind.i64 o2_0, AV.int IntKind.i64 o2_1, AV.int IntKind.i64 o2_2, AV.str ([]), AV.int IntKind.i64 o2_4, AV.int IntKind.i64 o2_5, AV.str ([])]], blk := 45056 }
noncomputable def nodeslot_Get_n0 {β : Type} : Islot_Get_n0 → (Yslot_Get_n0 → Option β) → Option β := fun (t0, t8, t9, t10, o2_0, o2_1, o2_2, o2_4, o2_5) exit => (bif inR (34 : Int) (List.length t0 + (1 : Nat)) then (bindO (fnDcyclic_Tail (List.take (34 : Nat) t0)) fun r => (bif !t9 == r then (exit (true)) else (bindO (fnDcyclic_Tail (t10)) fun r_2 => (exit (!t8 == r_2))))) else none)
noncomputable def nodeDslot_Get_n0 (i : Islot_Get_n0) : Option Yslot_Get_n0 := nodeslot_Get_n0 i some
theorem nodeslot_Get_n0_nat (i : Islot_Get_n0) (k : Yslot_Get_n0 → Ans) : nodeslot_Get_n0 i k = bindO (nodeDslot_Get_n0 i) k := by
  obtain ⟨t0, t8, t9, t10, o2_0, o2_1, o2_2, o2_4, o2_5⟩ := i
  simp only [nodeDslot_Get_n0, nodeslot_Get_n0, bindO_cond, bindO_assoc, bindO_none, bindO_pure, bindO_elim, bindO_unP]
theorem nodeslot_Get_n0_ok (i : Islot_Get_n0) (K : Ex → St → Ans) : codeI Tryd.tab envslot_Get noHint (codeD Tryd.tab envslot_Get noHint 0 64) 70 85 annLslot_Get_n0 Lslot_Get_n0 (weakP 0 (exk [0, 2, 5, 6, 10, 61] [2, 3, 4] []) K) (Sslot_Get_n0 i) = nodeslot_Get_n0 i (outslot_Get_n0 i K) := by kernel_rfl
theorem GNslot_Get_n0_ok : CSum Tryd.prog 85 Lslot_Get_n0 (sumN decslot_Get_n0 nodeDslot_Get_n0 outslot_Get_n0) := csum_node mixed tabOk envslot_GetOk 0 (exk [0, 2, 5, 6, 10, 61] [2, 3, 4] []) annLslot_Get_n0_ok decslot_Get_n0_ok nodeslot_Get_n0_ok nodeslot_Get_n0_nat
noncomputable def Gslot_Get_n0 : (Ex → St → Ans) → St → Ans := (sumN decslot_Get_n0 nodeDslot_Get_n0 outslot_Get_n0)
theorem Gslot_Get_n0_ok : CSum Tryd.prog 85 Lslot_Get_n0 Gslot_Get_n0 := GNslot_Get_n0_ok
noncomputable def annslot_Get : Ann := (.seq .none (.seq .none (.seq .none (.seq .none (.seq .none (.seq .none (.seq .none (.seq .none (.seq .none (.seq .none (.seq (.seq (.cut 0 [0, 2, 5, 6, 8, 9, 10] Gslot_Get_n0) .none) (.seq .none (.seq (.seq .none (.seq (.cut 0 [0, 2, 5, 6, 11, 12] Gslot_Get_n1) .none)) .none)))))))))))))
theorem annslot_Get_ok : AnnOk Tryd.prog 85 bslot_Get annslot_Get := ⟨(annOk_none _ _ _), ⟨(annOk_none _ _ _), ⟨(annOk_none _ _ _), ⟨(annOk_none _ _ _), ⟨(annOk_none _ _ _), ⟨(annOk_none _ _ _), ⟨(annOk_none _ _ _), ⟨(annOk_none _ _ _), ⟨(annOk_none _ _ _), ⟨(annOk_none _ _ _), ⟨⟨Gslot_Get_n0_ok, (annOk_none _ _ _)⟩, ⟨(annOk_none _ _ _), ⟨⟨(annOk_none _ _ _), ⟨Gslot_Get_n1_ok, (annOk_none _ _ _)⟩⟩, (annOk_none _ _ _)⟩⟩⟩⟩⟩⟩⟩⟩⟩⟩⟩⟩⟩
abbrev Aslot_Get := (List UInt8)
abbrev Yslot_Get := (Int) × (Int) × (Int) × (List UInt8) × (Int) × (Int) × (List UInt8) × (Bool) × (Int)
noncomputable def fnslot_Get {β : Type} : Aslot_Get → (Yslot_Get → Option β) → Option β := fun a0 exit => (bif (↑(List.length a0) : Int) != (320 : Int) then (exit ((0 : Int), (0 : Int), (0 : Int), [], (0 : Int), (0 : Int), [], false, (12 : Int))) else (bif inR (64 : Int) (List.length a0 + (1 : Nat)) then (bindO (fnDstrings_Trim (List.take (64 : Nat) a0, [(0 : UInt8)])) fun r => (bif r == [] then (exit ((0 : Int), (0 : Int), (0 : Int), [], (0 : Int), (0 : Int), [], false, (0 : Int))) else (bindO (fnDfield_New (a0)) fun _ => (bindO (fnDfield_Reader_Bytes ((1 : Int), a0, (0 : Int))) (unP fun r_2 => unP fun o0_0 o0_1 => (bif !r_2 == [(81 : UInt8)] then (exit ((0 : Int), (0 : Int), (0 : Int), [], (0 : Int), (0 : Int), [], false, (4 : Int))) else (bindO (fnDfield_Reader_Num ((1 : Int), o0_0, o0_1)) (unP fun r_3 => unP fun o0_0_2 o0_1_2 => (bindO (fnDfield_Reader_Num ((7 : Int), o0_0_2, o0_1_2)) (unP fun r_4 => unP fun o0_0_3 o0_1_3 => (bindO (fnDfield_Reader_Num ((7 : Int), o0_0_3, o0_1_3)) (unP fun r_5 => unP fun o0_0_4 o0_1_4 => (bindO (fnDfield_Reader_Num ((7 : Int), o0_0_4, o0_1_4)) (unP fun r_6 => unP fun o0_0_5 o0_1_5 => (bindO (fnDfield_Reader_Num ((7 : Int), o0_0_5, o0_1_5)) (unP fun r_7 => unP fun o0_0_6 o0_1_6 => (bif inR (64 : Int) (List.length a0 + (1 : Nat)) then (bindO (fnDfield_Reader_Bytes ((4 : Int), o0_0_6, o0_1_6)) (unP fun r_8 => unP fun o0_0_7 o0_1_7 => (bindO (fnDfield_Reader_Bytes ((4 : Int), o0_0_7, o0_1_7)) (unP fun r_9 => unP fun o0_0_8 o0_1_8 => (bindO (nodeDslot_Get_n0 (a0, r_8, r_9, List.drop (64 : Nat) a0, r_3, r_4, r_5, r_6, r_7)) fun t61 => (bif t61 then (exit ((0 : Int), (0 : Int), (0 : Int), [], (0 : Int), (0 : Int), [], false, (5 : Int))) else (bif inR (128 : Int) (List.length (List.drop (64 : Nat) a0) + (1 : Nat)) then (bif inR (128 : Int) (List.length (List.drop (64 : Nat) a0) + (1 : Nat)) then (bindO (fnDslot_Put (r_3, r_4, r_5, List.take (128 : Nat) (List.drop (64 : Nat) a0), r_6, r_7, List.drop (128 : Nat) (List.drop (64 : Nat) a0))) (unP fun r_0 r_1 => (bindO (nodeDslot_Get_n1 (a0, r_0, r_1, r_3, r_4, r_5, List.take (128 : Nat) (List.drop (64 : Nat) a0), r_6, r_7, List.drop (128 : Nat) (List.drop (64 : Nat) a0))) fun t82 => (bif t82 then (exit ((0 : Int), (0 : Int), (0 : Int), [], (0 : Int), (0 : Int), [], false, (4 : Int))) else (exit (r_3, r_4, r_5, List.take (128 : Nat) (List.drop (64 : Nat) a0), r_6, r_7, List.drop (128 : Nat) (List.drop (64 : Nat) a0), true, (0 : Int))))))) else none) else none))))))) else none))))))))))))))))) else none))
theorem fnDslot_Get_ex (a : Aslot_Get) : ∃ y, y = (fnslot_Get a some : Option Yslot_Get) := ⟨_, rfl⟩
noncomputable def fnDslot_Get (a : Aslot_Get) : Option Yslot_Get := Classical.choose (fnDslot_Get_ex a)
theorem fnDslot_Get_is (a : Aslot_Get) : fnDslot_Get a = fnslot_Get a some := Classical.choose_spec (fnDslot_Get_ex a)
theorem fnslot_Get_nat (a : Aslot_Get) (k : Yslot_Get → Ans) : fnslot_Get a k = bindO (fnDslot_Get a) k := by
  obtain z := a
  simp only [fnDslot_Get_is, fnslot_Get, bindO_cond, bindO_assoc, bindO_none, bindO_pure, bindO_elim, bindO_unP]
def argsslot_Get : Aslot_Get → List AV := fun a0 => [AV.str a0]
def decAslot_Get (l : List AV) : Option Aslot_Get := match l with
  | [AV.str a0] => some (a0)
  | _ => none
theorem decAslot_Get_ok (l : List AV) (a : Aslot_Get) (h : decAslot_Get l = some a) : l = argsslot_Get a := by
  unfold decAslot_Get at h
  split at h
  · cases h; rfl
  · cases h
def rendslot_Get : Aslot_Get → Yslot_Get → AV := fun a0 => unP fun r_0_0_y => unP fun r_0_1_y => unP fun r_0_2_y => unP fun r_0_3_y => unP fun r_0_4_y => unP fun r_0_5_y => unP fun r_0_6_y => unP fun r_1_y r_2_y => AV.tup [AV.agg [AV.int IntKind.i64 r_0_0_y, AV.int IntKind.i64 r_0_1_y, AV.int IntKind.i64 r_0_2_y, AV.str r_0_3_y, AV.int IntKind.i64 r_0_4_y, AV.int IntKind.i64 r_0_5_y, AV.str r_0_6_y], AV.bool r_1_y, AV.int IntKind.i64 r_2_y]
theorem rendslot_Get_ok : ∀ (a : Aslot_Get) (y : Yslot_Get), (rendslot_Get a y).closed1 = true := by
  rintro z y <;> first | rfl | exact Empty.elim y
theorem fnslot_Get_ok (a : Aslot_Get) : fnE Tryd.tab envslot_Get noHint 0 70 11 Tryd.f11.ntmps Tryd.f11.results.toList annslot_Get bslot_Get (argsslot_Get a) [] (fun v _ => some (v, [])) = fnslot_Get a (fun y => some (rendslot_Get a y, [])) := by kernel_rfl
noncomputable def vFslot_Get (a : Aslot_Get) (K : AV → Ans) : Ans := bindO (fnDslot_Get a) fun y => K (rendslot_Get a y)
noncomputable def Fslot_Get : List AV → (AV → Ans) → Ans := fun l K => bindO (decAslot_Get l) fun a => vFslot_Get a K
theorem Fslot_Get_ok : PureOk Tryd.prog 11 Fslot_Get := pure_mkD (hint := noHint) (d := 0) (n := 70) mixed tabOk envslot_GetOk Tryd.func11 (bodySome (by kernel_rfl)) (by decide +kernel) annslot_Get_ok decAslot_Get_ok fnslot_Get_ok fnslot_Get_nat rendslot_Get_ok
--@ law21_works
noncomputable def envlaw21_works : Env := [(7, .pure Fslot_Put), (11, .pure Fslot_Get)]
theorem envlaw21_worksOk : EnvOk Tryd.prog envlaw21_works := EnvOk.cons Fslot_Put_ok (EnvOk.cons Fslot_Get_ok (EnvOk.nil))
noncomputable def blaw21_works : Code := Tryd.f6.body.getD .skip
noncomputable def Llaw21_works_n0 : Code := codeAt [1, 1, 1, 1, 1, 0] blaw21_works
noncomputable def annLlaw21_works_n0 : Ann := .none
theorem annLlaw21_works_n0_ok : AnnOk Tryd.prog 47 Llaw21_works_n0 annLlaw21_works_n0 := (annOk_none _ _ _)
abbrev Ilaw21_works_n0 := (List UInt8) × (Int) × (Bool) × (Int) × (Int) × (Int) × (Int) × (List UInt8) × (Int) × (Int) × (List UInt8)
abbrev Ylaw21_works_n0 := (Bool)
def Slaw21_works_n0 : Ilaw21_works_n0 → St := fun (t3, t4, t6, t7, o1_0, o1_1, o1_2, o1_3, o1_4, o1_5, o1_6) => { env := [(2, AV.ptr 0 0), (3, AV.str t3), (4, AV.int IntKind.i64 t4), (5, AV.ptr 1 0), (6, AV.bool t6), (7, AV.int IntKind.i64 t7)], stk := [[]], H := [AE.Obj.cells [AV.int IntKind.i64 (5), AV.int IntKind.i64 (2), AV.int IntKind.i64 (0), AV.str ([0, 0, 0, 0, 0, 0, 0, 0, 0, 0, 0, 0, 0, 0, 0, 0, 0, 0, 0, 0, 0, 0, 0, 0, 0, 0, 0, 0, 0, 0, 0, 0, 0, 0, 0, 0, 0, 0, 0, 0, 0, 0, 0, 0, 0, 0, 0, 0, 0, 0, 0, 0, 0, 0, 0, 0, 0, 0, 0, 0, 0, 0, 0, 0, 0, 0, 0, 0, 0, 0, 0, 0, 0, 0, 0, 0, 0, 0, 0, 0, 0, 0, 0, 0, 0, 0, 0, 0, 0, 0, 0, 0, 0, 0, 0, 0, 0, 0, 0, 0, 0, 0, 0, 0, 0, 0, 0, 0, 0, 0, 0, 0, 0, 0, 0, 0, 0, 0, 0, 0, 0, 0, 0, 0, 0, 0, 0, 0]), AV.int IntKind.i64 (1), AV.int IntKind.i64 (1), AV.str ([0, 0, 0, 0, 0, 0, 0, 0, 0, 0, 0, 0, 0, 0, 0, 0, 0, 0, 0, 0, 0, 0, 0, 0, 0, 0, 0, 0, 0, 0, 0, 0, 0, 0, 0, 0, 0, 0, 0, 0, 0, 0, 0, 0, 0, 0, 0, 0, 0, 0, 0, 0, 0, 0, 0, 0, 0, 0, 0, 0, 0, 0, 0, 0, 0, 0, 0, 0, 0, 0, 0, 0, 0, 0, 0, 0, 0, 0, 0, 0, 0, 0, 0, 0, 0, 0, 0, 0, 0, 0, 0, 0, 0, 0, 0, 0, 0, 0, 0, 0, 0, 0, 0, 0, 0, 0, 0, 0, 0, 0, 0, 0, 0, 0, 0, 0, 0, 0, 0, 0, 0, 0, 0, 0, 0, 0, 0, 0])], AE.Obj.cells [AV.int IntKind.i64 o1_0, AV.int IntKind.i64 o1_1, AV.int IntKind.i64 o1_2, AV.str o1_3, AV.int IntKind.i64 o1_4, AV.int IntKind.i64 o1_5, AV.str o1_6]], blk := 24576 }
def declaw21_works_n0 (s : St) : Option Ilaw21_works_n0 := match s with
  | { env := [(2, AV.ptr 0 0), (3, AV.str t3), (4, AV.int IntKind.i64 t4), (5, AV.ptr 1 0), (6, AV.bool t6), (7, AV.int IntKind.i64 t7)], stk := [[]], H := [AE.Obj.cells [AV.int IntKind.i64 r4, AV.int IntKind.i64 r5, AV.int IntKind.i64 r6, AV.str r7, AV.int IntKind.i64 r8, AV.int IntKind.i64 r9, AV.str r10], AE.Obj.cells [AV.int IntKind.i64 o1_0, AV.int IntKind.i64 o1_1, AV.int IntKind.i64 o1_2, AV.str o1_3, AV.int IntKind.i64 o1_4, AV.int IntKind.i64 o1_5, AV.str o1_6]], blk := 24576 } => cond (decide (r4 = 5) && decide (r5 = 2) && decide (r6 = 0) && decide (r7 = [0, 0, 0, 0, 0, 0, 0, 0, 0, 0, 0, 0, 0, 0, 0, 0, 0, 0, 0, 0, 0, 0, 0, 0, 0, 0, 0, 0, 0, 0, 0, 0, 0, 0, 0, 0, 0, 0, 0, 0, 0, 0, 0, 0, 0, 0, 0, 0, 0, 0, 0, 0, 0, 0, 0, 0, 0, 0, 0, 0, 0, 0, 0, 0, 0, 0, 0, 0, 0, 0, 0, 0, 0, 0, 0, 0, 0, 0, 0, 0, 0, 0, 0, 0, 0, 0, 0, 0, 0, 0, 0, 0, 0, 0, 0, 0, 0, 0, 0, 0, 0, 0, 0, 0, 0, 0, 0, 0, 0, 0, 0, 0, 0, 0, 0, 0, 0, 0, 0, 0, 0, 0, 0, 0, 0, 0, 0, 0]) && decide (r8 = 1) && decide (r9 = 1) && decide (r10 = [0, 0, 0, 0, 0, 0, 0, 0, 0, 0, 0, 0, 0, 0, 0, 0, 0, 0, 0, 0, 0, 0, 0, 0, 0, 0, 0, 0, 0, 0, 0, 0, 0, 0, 0, 0, 0, 0, 0, 0, 0, 0, 0, 0, 0, 0, 0, 0, 0, 0, 0, 0, 0, 0, 0, 0, 0, 0, 0, 0, 0, 0, 0, 0, 0, 0, 0, 0, 0, 0, 0, 0, 0, 0, 0, 0, 0, 0, 0, 0, 0, 0, 0, 0, 0, 0, 0, 0, 0, 0, 0, 0, 0, 0, 0, 0, 0, 0, 0, 0, 0, 0, 0, 0, 0, 0, 0, 0, 0, 0, 0, 0, 0, 0, 0, 0, 0, 0, 0, 0, 0, 0, 0, 0, 0, 0, 0, 0])) (some (t3, t4, t6, t7, o1_0, o1_1, o1_2, o1_3, o1_4, o1_5, o1_6)) none
  | _ => none
theorem declaw21_works_n0_ok (s : St) (x : Ilaw21_works_n0) (h : declaw21_works_n0 s = some x) : s = Slaw21_works_n0 x := by
  unfold declaw21_works_n0 at h
  split at h
  · replace h := cond_noneO h; obtain ⟨hg, h⟩ := h; simp only [Bool.and_eq_true, decide_eq_true_eq] at hg; simp only [hg]; cases h; rfl
  · cases h
def outlaw21_works_n0 : Ilaw21_works_n0 → (Ex → St → Ans) → Ylaw21_works_n0 → Ans := fun (t3, t4, t6, t7, o1_0, o1_1, o1_2, o1_3, o1_4, o1_5, o1_6) K => fun t0_y => K (Ex.norm) { env := [(0, AV.bool t0_y)], stk := [[]], H := [], blk := 24576 }
noncomputable def nodelaw21_works_n0 {β : Type} : Ilaw21_works_n0 → (Ylaw21_works_n0 → Option β) → Option β := fun (t3, t4, t6, t7, o1_0, o1_1, o1_2, o1_3, o1_4, o1_5, o1_6) exit => (bif t4 == (0 : Int) then (bif (↑(List.length t3) : Int) == (320 : Int) then (bif o1_0 == (5 : Int) && (o1_1 == (2 : Int) && (o1_2 == (0 : Int) && true) && (o1_3 == [(0 : UInt8), (0 : UInt8), (0 : UInt8), (0 : UInt8), (0 : UInt8), (0 : UInt8), (0 : UInt8), (0 : UInt8), (0 : UInt8), (0 : UInt8), (0 : UInt8), (0 : UInt8), (0 : UInt8), (0 : UInt8), (0 : UInt8), (0 : UInt8), (0 : UInt8), (0 : UInt8), (0 : UInt8), (0 : UInt8), (0 : UInt8), (0 : UInt8), (0 : UInt8), (0 : UInt8), (0 : UInt8), (0 : UInt8), (0 : UInt8), (0 : UInt8), (0 : UInt8), (0 : UInt8), (0 : UInt8), (0 : UInt8), (0 : UInt8), (0 : UInt8), (0 : UInt8), (0 : UInt8), (0 : UInt8), (0 : UInt8), (0 : UInt8), (0 : UInt8), (0 : UInt8), (0 : UInt8), (0 : UInt8), (0 : UInt8), (0 : UInt8), (0 : UInt8), (0 : UInt8), (0 : UInt8), (0 : UInt8), (0 : UInt8), (0 : UInt8), (0 : UInt8), (0 : UInt8), (0 : UInt8), (0 : UInt8), (0 : UInt8), (0 : UInt8), (0 : UInt8), (0 : UInt8), (0 : UInt8), (0 : UInt8), (0 : UInt8), (0 : UInt8), (0 : UInt8), (0 : UInt8), (0 : UInt8), (0 : UInt8), (0 : UInt8), (0 : UInt8), (0 : UInt8), (0 : UInt8), (0 : UInt8), (0 : UInt8), (0 : UInt8), (0 : UInt8), (0 : UInt8), (0 : UInt8), (0 : UInt8), (0 : UInt8), (0 : UInt8), (0 : UInt8), (0 : UInt8), (0 : UInt8), (0 : UInt8), (0 : UInt8), (0 : UInt8), (0 : UInt8), (0 : UInt8), (0 : UInt8), (0 : UInt8), (0 : UInt8), (0 : UInt8), (0 : UInt8), (0 : UInt8), (0 : UInt8), (0 : UInt8), (0 : UInt8), (0 : UInt8), (0 : UInt8), (0 : UInt8), (0 : UInt8), (0 : UInt8), (0 : UInt8), (0 : UInt8), (0 : UInt8), (0 : UInt8), (0 : UInt8), (0 : UInt8), (0 : UInt8), (0 : UInt8), (0 : UInt8), (0 : UInt8), (0 : UInt8), (0 : UInt8), (0 : UInt8), (0 : UInt8), (0 : UInt8), (0 : UInt8), (0 : UInt8), (0 : UInt8), (0 : UInt8), (0 : UInt8), (0 : UInt8), (0 : UInt8), (0 : UInt8), (0 : UInt8), (0 : UInt8), (0 : UInt8)] && true) && (o1_4 == (1 : Int) && (o1_5 == (1 : Int) && true) && (o1_6 == [(0 : UInt8), (0 : UInt8), (0 : UInt8), (0 : UInt8), (0 : UInt8), (0 : UInt8), (0 : UInt8), (0 : UInt8), (0 : UInt8), (0 : UInt8), (0 : UInt8), (0 : UInt8), (0 : UInt8), (0 : UInt8), (0 : UInt8), (0 : UInt8), (0 : UInt8), (0 : UInt8), (0 : UInt8), (0 : UInt8), (0 : UInt8), (0 : UInt8), (0 : UInt8), (0 : UInt8), (0 : UInt8), (0 : UInt8), (0 : UInt8), (0 : UInt8), (0 : UInt8), (0 : UInt8), (0 : UInt8), (0 : UInt8), (0 : UInt8), (0 : UInt8), (0 : UInt8), (0 : UInt8), (0 : UInt8), (0 : UInt8), (0 : UInt8), (0 : UInt8), (0 : UInt8), (0 : UInt8), (0 : UInt8), (0 : UInt8), (0 : UInt8), (0 : UInt8), (0 : UInt8), (0 : UInt8), (0 : UInt8), (0 : UInt8), (0 : UInt8), (0 : UInt8), (0 : UInt8), (0 : UInt8), (0 : UInt8), (0 : UInt8), (0 : UInt8), (0 : UInt8), (0 : UInt8), (0 : UInt8), (0 : UInt8), (0 : UInt8), (0 : UInt8), (0 : UInt8), (0 : UInt8), (0 : UInt8), (0 : UInt8), (0 : UInt8), (0 : UInt8), (0 : UInt8), (0 : UInt8), (0 : UInt8), (0 : UInt8), (0 : UInt8), (0 : UInt8), (0 : UInt8), (0 : UInt8), (0 : UInt8), (0 : UInt8), (0 : UInt8), (0 : UInt8), (0 : UInt8), (0 : UInt8), (0 : UInt8), (0 : UInt8), (0 : UInt8), (0 : UInt8), (0 : UInt8), (0 : UInt8), (0 : UInt8), (0 : UInt8), (0 : UInt8), (0 : UInt8), (0 : UInt8), (0 : UInt8), (0 : UInt8), (0 : UInt8), (0 : UInt8), (0 : UInt8), (0 : UInt8), (0 : UInt8), (0 : UInt8), (0 : UInt8), (0 : UInt8), (0 : UInt8), (0 : UInt8), (0 : UInt8), (0 : UInt8), (0 : UInt8), (0 : UInt8), (0 : UInt8), (0 : UInt8), (0 : UInt8), (0 : UInt8), (0 : UInt8), (0 : UInt8), (0 : UInt8), (0 : UInt8), (0 : UInt8), (0 : UInt8), (0 : UInt8), (0 : UInt8), (0 : UInt8), (0 : UInt8), (0 : UInt8), (0 : UInt8), (0 : UInt8), (0 : UInt8)] && true) && true)) then (bif t6 then (exit (t7 == (0 : Int))) else (exit (false))) else (exit (false))) else (exit (false))) else (exit (false)))
noncomputable def nodeDlaw21_works_n0 (i : Ilaw21_works_n0) : Option Ylaw21_works_n0 := nodelaw21_works_n0 i some
theorem nodelaw21_works_n0_nat (i : Ilaw21_works_n0) (k : Ylaw21_works_n0 → Ans) : nodelaw21_works_n0 i k = bindO (nodeDlaw21_works_n0 i) k := by
  obtain ⟨t3, t4, t6, t7, o1_0, o1_1, o1_2, o1_3, o1_4, o1_5, o1_6⟩ := i
  simp only [nodeDlaw21_works_n0, nodelaw21_works_n0, bindO_cond, bindO_assoc, bindO_none, bindO_pure, bindO_elim, bindO_unP]
theorem nodelaw21_works_n0_ok (i : Ilaw21_works_n0) (K : Ex → St → Ans) : codeI Tryd.tab envlaw21_works noHint (codeD Tryd.tab envlaw21_works noHint 0 64) 70 47 annLlaw21_works_n0 Llaw21_works_n0 (weakP 0 (exk [0] [0] []) K) (Slaw21_works_n0 i) = nodelaw21_works_n0 i (outlaw21_works_n0 i K) := by kernel_rfl
theorem GNlaw21_works_n0_ok : CSum Tryd.prog 47 Llaw21_works_n0 (sumN declaw21_works_n0 nodeDlaw21_works_n0 outlaw21_works_n0) := csum_node mixed tabOk envlaw21_worksOk 0 (exk [0] [0] []) annLlaw21_works_n0_ok declaw21_works_n0_ok nodelaw21_works_n0_ok nodelaw21_works_n0_nat
noncomputable def Glaw21_works_n0 : (Ex → St → Ans) → St → Ans := (sumN declaw21_works_n0 nodeDlaw21_works_n0 outlaw21_works_n0)
theorem Glaw21_works_n0_ok : CSum Tryd.prog 47 Llaw21_works_n0 Glaw21_works_n0 := GNlaw21_works_n0_ok
noncomputable def annlaw21_works : Ann := (.seq .none (.seq .none (.seq .none (.seq .none (.seq .none (.seq (.cut 0 [2, 3, 4, 5, 6, 7] Glaw21_works_n0) .none))))))
theorem annlaw21_works_ok : AnnOk Tryd.prog 47 blaw21_works annlaw21_works := ⟨(annOk_none _ _ _), ⟨(annOk_none _ _ _), ⟨(annOk_none _ _ _), ⟨(annOk_none _ _ _), ⟨(annOk_none _ _ _), ⟨Glaw21_works_n0_ok, (annOk_none _ _ _)⟩⟩⟩⟩⟩⟩
abbrev Alaw21_works := Unit
abbrev Ylaw21_works := (Bool)
noncomputable def fnlaw21_works {β : Type} : Alaw21_works → (Ylaw21_works → Option β) → Option β := fun _ exit => (bindO (fnDslot_Put ((5 : Int), (2 : Int), (0 : Int), [(0 : UInt8), (0 : UInt8), (0 : UInt8), (0 : UInt8), (0 : UInt8), (0 : UInt8), (0 : UInt8), (0 : UInt8), (0 : UInt8), (0 : UInt8), (0 : UInt8), (0 : UInt8), (0 : UInt8), (0 : UInt8), (0 : UInt8), (0 : UInt8), (0 : UInt8), (0 : UInt8), (0 : UInt8), (0 : UInt8), (0 : UInt8), (0 : UInt8), (0 : UInt8), (0 : UInt8), (0 : UInt8), (0 : UInt8), (0 : UInt8), (0 : UInt8), (0 : UInt8), (0 : UInt8), (0 : UInt8), (0 : UInt8), (0 : UInt8), (0 : UInt8), (0 : UInt8), (0 : UInt8), (0 : UInt8), (0 : UInt8), (0 : UInt8), (0 : UInt8), (0 : UInt8), (0 : UInt8), (0 : UInt8), (0 : UInt8), (0 : UInt8), (0 : UInt8), (0 : UInt8), (0 : UInt8), (0 : UInt8), (0 : UInt8), (0 : UInt8), (0 : UInt8), (0 : UInt8), (0 : UInt8), (0 : UInt8), (0 : UInt8), (0 : UInt8), (0 : UInt8), (0 : UInt8), (0 : UInt8), (0 : UInt8), (0 : UInt8), (0 : UInt8), (0 : UInt8), (0 : UInt8), (0 : UInt8), (0 : UInt8), (0 : UInt8), (0 : UInt8), (0 : UInt8), (0 : UInt8), (0 : UInt8), (0 : UInt8), (0 : UInt8), (0 : UInt8), (0 : UInt8), (0 : UInt8), (0 : UInt8), (0 : UInt8), (0 : UInt8), (0 : UInt8), (0 : UInt8), (0 : UInt8), (0 : UInt8), (0 : UInt8), (0 : UInt8), (0 : UInt8), (0 : UInt8), (0 : UInt8), (0 : UInt8), (0 : UInt8), (0 : UInt8), (0 : UInt8), (0 : UInt8), (0 : UInt8), (0 : UInt8), (0 : UInt8), (0 : UInt8), (0 : UInt8), (0 : UInt8), (0 : UInt8), (0 : UInt8), (0 : UInt8), (0 : UInt8), (0 : UInt8), (0 : UInt8), (0 : UInt8), (0 : UInt8), (0 : UInt8), (0 : UInt8), (0 : UInt8), (0 : UInt8), (0 : UInt8), (0 : UInt8), (0 : UInt8), (0 : UInt8), (0 : UInt8), (0 : UInt8), (0 : UInt8), (0 : UInt8), (0 : UInt8), (0 : UInt8), (0 : UInt8), (0 : UInt8), (0 : UInt8), (0 : UInt8), (0 : UInt8), (0 : UInt8)], (1 : Int), (1 : Int), [(0 : UInt8), (0 : UInt8), (0 : UInt8), (0 : UInt8), (0 : UInt8), (0 : UInt8), (0 : UInt8), (0 : UInt8), (0 : UInt8), (0 : UInt8), (0 : UInt8), (0 : UInt8), (0 : UInt8), (0 : UInt8), (0 : UInt8), (0 : UInt8), (0 : UInt8), (0 : UInt8), (0 : UInt8), (0 : UInt8), (0 : UInt8), (0 : UInt8), (0 : UInt8), (0 : UInt8), (0 : UInt8), (0 : UInt8), (0 : UInt8), (0 : UInt8), (0 : UInt8), (0 : UInt8), (0 : UInt8), (0 : UInt8), (0 : UInt8), (0 : UInt8), (0 : UInt8), (0 : UInt8), (0 : UInt8), (0 : UInt8), (0 : UInt8), (0 : UInt8), (0 : UInt8), (0 : UInt8), (0 : UInt8), (0 : UInt8), (0 : UInt8), (0 : UInt8), (0 : UInt8), (0 : UInt8), (0 : UInt8), (0 : UInt8), (0 : UInt8), (0 : UInt8), (0 : UInt8), (0 : UInt8), (0 : UInt8), (0 : UInt8), (0 : UInt8), (0 : UInt8), (0 : UInt8), (0 : UInt8), (0 : UInt8), (0 : UInt8), (0 : UInt8), (0 : UInt8), (0 : UInt8), (0 : UInt8), (0 : UInt8), (0 : UInt8), (0 : UInt8), (0 : UInt8), (0 : UInt8), (0 : UInt8), (0 : UInt8), (0 : UInt8), (0 : UInt8), (0 : UInt8), (0 : UInt8), (0 : UInt8), (0 : UInt8), (0 : UInt8), (0 : UInt8), (0 : UInt8), (0 : UInt8), (0 : UInt8), (0 : UInt8), (0 : UInt8), (0 : UInt8), (0 : UInt8), (0 : UInt8), (0 : UInt8), (0 : UInt8), (0 : UInt8), (0 : UInt8), (0 : UInt8), (0 : UInt8), (0 : UInt8), (0 : UInt8), (0 : UInt8), (0 : UInt8), (0 : UInt8), (0 : UInt8), (0 : UInt8), (0 : UInt8), (0 : UInt8), (0 : UInt8), (0 : UInt8), (0 : UInt8), (0 : UInt8), (0 : UInt8), (0 : UInt8), (0 : UInt8), (0 : UInt8), (0 : UInt8), (0 : UInt8), (0 : UInt8), (0 : UInt8), (0 : UInt8), (0 : UInt8), (0 : UInt8), (0 : UInt8), (0 : UInt8), (0 : UInt8), (0 : UInt8), (0 : UInt8), (0 : UInt8), (0 : UInt8), (0 : UInt8), (0 : UInt8)])) (unP fun r_0 r_1 => (bindO (fnDslot_Get (r_0)) (unP fun r_0_0 => unP fun r_0_1 => unP fun r_0_2 => unP fun r_0_3 => unP fun r_0_4 => unP fun r_0_5 => unP fun r_0_6 => unP fun r_1_2 r_2 => (bindO (nodeDlaw21_works_n0 (r_0, r_1, r_1_2, r_2, r_0_0, r_0_1, r_0_2, r_0_3, r_0_4, r_0_5, r_0_6)) fun t0 => (exit (t0)))))))
noncomputable def fnDlaw21_works (a : Alaw21_works) : Option Ylaw21_works := fnlaw21_works a some
theorem fnlaw21_works_nat (a : Alaw21_works) (k : Ylaw21_works → Ans) : fnlaw21_works a k = bindO (fnDlaw21_works a) k := by
  obtain z := a
  simp only [fnDlaw21_works, fnlaw21_works, bindO_cond, bindO_assoc, bindO_none, bindO_pure, bindO_elim, bindO_unP]
def argslaw21_works : Alaw21_works → List AV := fun _ => []
def decAlaw21_works (l : List AV) : Option Alaw21_works := match l with
  | [] => some ()
  | _ => none
theorem decAlaw21_works_ok (l : List AV) (a : Alaw21_works) (h : decAlaw21_works l = some a) : l = argslaw21_works a := by
  unfold decAlaw21_works at h
  split at h
  · cases h; rfl
  · cases h
def rendlaw21_works : Alaw21_works → Ylaw21_works → AV := fun _ => fun r_y => AV.bool r_y
theorem rendlaw21_works_ok : ∀ (a : Alaw21_works) (y : Ylaw21_works), (rendlaw21_works a y).closed1 = true := by
  rintro z y <;> first | rfl | exact Empty.elim y
theorem fnlaw21_works_ok (a : Alaw21_works) : fnE Tryd.tab envlaw21_works noHint 0 70 6 Tryd.f6.ntmps Tryd.f6.results.toList annlaw21_works blaw21_works (argslaw21_works a) [] (fun v _ => some (v, [])) = fnlaw21_works a (fun y => some (rendlaw21_works a y, [])) := by kernel_rfl
noncomputable def vFlaw21_works (a : Alaw21_works) (K : AV → Ans) : Ans := bindO (fnDlaw21_works a) fun y => K (rendlaw21_works a y)
noncomputable def Flaw21_works : List AV → (AV → Ans) → Ans := fun l K => bindO (decAlaw21_works l) fun a => vFlaw21_works a K
theorem Flaw21_works_ok : PureOk Tryd.prog 6 Flaw21_works := pure_mkD (hint := noHint) (d := 0) (n := 70) mixed tabOk envlaw21_worksOk Tryd.func6 (bodySome (by kernel_rfl)) (by decide +kernel) annlaw21_works_ok decAlaw21_works_ok fnlaw21_works_ok fnlaw21_works_nat rendlaw21_works_ok
--@ ref05_Right
noncomputable def envref05_Right : Env := []
theorem envref05_RightOk : EnvOk Tryd.prog envref05_Right := EnvOk.nil
noncomputable def bref05_Right : Code := Tryd.f23.body.getD .skip
noncomputable def Lref05_Right_n0 : Code := codeAt [1, 0] bref05_Right
noncomputable def annLref05_Right_n0 : Ann := .none
theorem annLref05_Right_n0_ok : AnnOk Tryd.prog 21 Lref05_Right_n0 annLref05_Right_n0 := (annOk_none _ _ _)
abbrev Iref05_Right_n0 := (Int) × (Int)
abbrev Yref05_Right_n0 := (Bool)
def Sref05_Right_n0 : Iref05_Right_n0 → St := fun (o0_0, o0_1) => { env := [(1, AV.ptr 0 0)], stk := [[]], H := [AE.Obj.cells [AV.int IntKind.i64 o0_0, AV.int IntKind.i64 o0_1]], blk := 94208 }
def decref05_Right_n0 (s : St) : Option Iref05_Right_n0 := match s with
  | { env := [(1, AV.ptr 0 0)], stk := [[]], H := [AE.Obj.cells [AV.int IntKind.i64 o0_0, AV.int IntKind.i64 o0_1]], blk := 94208 } => some (o0_0, o0_1)
  | _ => none
theorem decref05_Right_n0_ok (s : St) (x : Iref05_Right_n0) (h : decref05_Right_n0 s = some x) : s = Sref05_Right_n0 x := by
  unfold decref05_Right_n0 at h
  split at h
  · cases h; rfl
  · cases h
def outref05_Right_n0 : Iref05_Right_n0 → (Ex → St → Ans) → Yref05_Right_n0 → Ans := fun (o0_0, o0_1) K => fun t2_y => K (Ex.norm) { env := [(2, AV.bool t2_y)], stk := [[]], H := [], blk := 94208 }
noncomputable def noderef05_Right_n0 {β : Type} : Iref05_Right_n0 → (Yref05_Right_n0 → Option β) → Option β := fun (o0_0, o0_1) exit => (bif decide (o0_0 ≥ (0 : Int)) then (bif decide (o0_0 ≤ (1125899906842624 : Int)) then (bif decide (o0_1 ≥ (0 : Int)) then (exit (decide (o0_1 ≤ (1125899906842624 : Int)))) else (exit (false))) else (exit (false))) else (exit (false)))
noncomputable def nodeDref05_Right_n0 (i : Iref05_Right_n0) : Option Yref05_Right_n0 := noderef05_Right_n0 i some
theorem noderef05_Right_n0_nat (i : Iref05_Right_n0) (k : Yref05_Right_n0 → Ans) : noderef05_Right_n0 i k = bindO (nodeDref05_Right_n0 i) k := by
  obtain ⟨o0_0, o0_1⟩ := i
  simp only [nodeDref05_Right_n0, noderef05_Right_n0, bindO_cond, bindO_assoc, bindO_none, bindO_pure, bindO_elim, bindO_unP]
theorem noderef05_Right_n0_ok (i : Iref05_Right_n0) (K : Ex → St → Ans) : codeI Tryd.tab envref05_Right noHint (codeD Tryd.tab envref05_Right noHint 0 64) 70 21 annLref05_Right_n0 Lref05_Right_n0 (weakP 0 (exk [2] [2] []) K) (Sref05_Right_n0 i) = noderef05_Right_n0 i (outref05_Right_n0 i K) := by kernel_rfl
theorem GNref05_Right_n0_ok : CSum Tryd.prog 21 Lref05_Right_n0 (sumN decref05_Right_n0 nodeDref05_Right_n0 outref05_Right_n0) := csum_node mixed tabOk envref05_RightOk 0 (exk [2] [2] []) annLref05_Right_n0_ok decref05_Right_n0_ok noderef05_Right_n0_ok noderef05_Right_n0_nat
noncomputable def Gref05_Right_n0 : (Ex → St → Ans) → St → Ans := (sumN decref05_Right_n0 nodeDref05_Right_n0 outref05_Right_n0)
theorem Gref05_Right_n0_ok : CSum Tryd.prog 21 Lref05_Right_n0 Gref05_Right_n0 := GNref05_Right_n0_ok
noncomputable def annref05_Right : Ann := (.seq .none (.seq (.cut 0 [1] Gref05_Right_n0) .none))
theorem annref05_Right_ok : AnnOk Tryd.prog 21 bref05_Right annref05_Right := ⟨(annOk_none _ _ _), ⟨Gref05_Right_n0_ok, (annOk_none _ _ _)⟩⟩
abbrev Aref05_Right := (Int) × (Int)
abbrev Yref05_Right := (Bool)
noncomputable def fnref05_Right {β : Type} : Aref05_Right → (Yref05_Right → Option β) → Option β := fun (a0_0, a0_1) exit => (bindO (nodeDref05_Right_n0 (a0_0, a0_1)) fun t2 => (exit (t2)))
noncomputable def fnDref05_Right (a : Aref05_Right) : Option Yref05_Right := fnref05_Right a some
theorem fnref05_Right_nat (a : Aref05_Right) (k : Yref05_Right → Ans) : fnref05_Right a k = bindO (fnDref05_Right a) k := by
  obtain ⟨a0_0, a0_1⟩ := a
  simp only [fnDref05_Right, fnref05_Right, bindO_cond, bindO_assoc, bindO_none, bindO_pure, bindO_elim, bindO_unP]
def argsref05_Right : Aref05_Right → List AV := fun (a0_0, a0_1) => [AV.agg [AV.int IntKind.i64 a0_0, AV.int IntKind.i64 a0_1]]
def decAref05_Right (l : List AV) : Option Aref05_Right := match l with
  | [AV.agg [AV.int IntKind.i64 a0_0, AV.int IntKind.i64 a0_1]] => some (a0_0, a0_1)
  | _ => none
theorem decAref05_Right_ok (l : List AV) (a : Aref05_Right) (h : decAref05_Right l = some a) : l = argsref05_Right a := by
  unfold decAref05_Right at h
  split at h
  · cases h; rfl
  · cases h
def rendref05_Right : Aref05_Right → Yref05_Right → AV := fun (a0_0, a0_1) => fun r_y => AV.bool r_y
theorem rendref05_Right_ok : ∀ (a : Aref05_Right) (y : Yref05_Right), (rendref05_Right a y).closed1 = true := by
  rintro ⟨a0_0, a0_1⟩ y <;> first | rfl | exact Empty.elim y
theorem fnref05_Right_ok (a : Aref05_Right) : fnE Tryd.tab envref05_Right noHint 0 70 23 Tryd.f23.ntmps Tryd.f23.results.toList annref05_Right bref05_Right (argsref05_Right a) [] (fun v _ => some (v, [])) = fnref05_Right a (fun y => some (rendref05_Right a y, [])) := by kernel_rfl
noncomputable def vFref05_Right (a : Aref05_Right) (K : AV → Ans) : Ans := bindO (fnDref05_Right a) fun y => K (rendref05_Right a y)
noncomputable def Fref05_Right : List AV → (AV → Ans) → Ans := fun l K => bindO (decAref05_Right l) fun a => vFref05_Right a K
theorem Fref05_Right_ok : PureOk Tryd.prog 23 Fref05_Right := pure_mkD (hint := noHint) (d := 0) (n := 70) mixed tabOk envref05_RightOk Tryd.func23 (bodySome (by kernel_rfl)) (by decide +kernel) annref05_Right_ok decAref05_Right_ok fnref05_Right_ok fnref05_Right_nat rendref05_Right_ok
--@ ref05_Covers
noncomputable def envref05_Covers : Env := []
theorem envref05_CoversOk : EnvOk Tryd.prog envref05_Covers := EnvOk.nil
noncomputable def bref05_Covers : Code := Tryd.f37.body.getD .skip
noncomputable def Lref05_Covers_n0 : Code := codeAt [1, 0] bref05_Covers
noncomputable def annLref05_Covers_n0 : Ann := .none
theorem annLref05_Covers_n0_ok : AnnOk Tryd.prog 17 Lref05_Covers_n0 annLref05_Covers_n0 := (annOk_none _ _ _)
abbrev Iref05_Covers_n0 := (Int) × (Int) × (Int) × (Int)
abbrev Yref05_Covers_n0 := (Bool)
def Sref05_Covers_n0 : Iref05_Covers_n0 → St := fun (o0_0, o0_1, o1_0, o1_1) => { env := [(2, AV.ptr 0 0), (3, AV.ptr 1 0)], stk := [[]], H := [AE.Obj.cells [AV.int IntKind.i64 o0_0, AV.int IntKind.i64 o0_1], AE.Obj.cells [AV.int IntKind.i64 o1_0, AV.int IntKind.i64 o1_1]], blk := 151552 }
def decref05_Covers_n0 (s : St) : Option Iref05_Covers_n0 := match s with
  | { env := [(2, AV.ptr 0 0), (3, AV.ptr 1 0)], stk := [[]], H := [AE.Obj.cells [AV.int IntKind.i64 o0_0, AV.int IntKind.i64 o0_1], AE.Obj.cells [AV.int IntKind.i64 o1_0, AV.int IntKind.i64 o1_1]], blk := 151552 } => some (o0_0, o0_1, o1_0, o1_1)
  | _ => none
theorem decref05_Covers_n0_ok (s : St) (x : Iref05_Covers_n0) (h : decref05_Covers_n0 s = some x) : s = Sref05_Covers_n0 x := by
  unfold decref05_Covers_n0 at h
  split at h
  · cases h; rfl
  · cases h
def outref05_Covers_n0 : Iref05_Covers_n0 → (Ex → St → Ans) → Yref05_Covers_n0 → Ans := fun (o0_0, o0_1, o1_0, o1_1) K => fun t4_y => K (Ex.norm) { env := [(4, AV.bool t4_y)], stk := [[]], H := [], blk := 151552 }
noncomputable def noderef05_Covers_n0 {β : Type} : Iref05_Covers_n0 → (Yref05_Covers_n0 → Option β) → Option β := fun (o0_0, o0_1, o1_0, o1_1) exit => (bif decide (o0_0 ≥ o1_0) then (exit (decide (o0_1 ≥ o1_1))) else (exit (false)))
noncomputable def nodeDref05_Covers_n0 (i : Iref05_Covers_n0) : Option Yref05_Covers_n0 := noderef05_Covers_n0 i some
theorem noderef05_Covers_n0_nat (i : Iref05_Covers_n0) (k : Yref05_Covers_n0 → Ans) : noderef05_Covers_n0 i k = bindO (nodeDref05_Covers_n0 i) k := by
  obtain ⟨o0_0, o0_1, o1_0, o1_1⟩ := i
  simp only [nodeDref05_Covers_n0, noderef05_Covers_n0, bindO_cond, bindO_assoc, bindO_none, bindO_pure, bindO_elim, bindO_unP]
theorem noderef05_Covers_n0_ok (i : Iref05_Covers_n0) (K : Ex → St → Ans) : codeI Tryd.tab envref05_Covers noHint (codeD Tryd.tab envref05_Covers noHint 0 64) 70 17 annLref05_Covers_n0 Lref05_Covers_n0 (weakP 0 (exk [4] [4] []) K) (Sref05_Covers_n0 i) = noderef05_Covers_n0 i (outref05_Covers_n0 i K) := by kernel_rfl
theorem GNref05_Covers_n0_ok : CSum Tryd.prog 17 Lref05_Covers_n0 (sumN decref05_Covers_n0 nodeDref05_Covers_n0 outref05_Covers_n0) := csum_node mixed tabOk envref05_CoversOk 0 (exk [4] [4] []) annLref05_Covers_n0_ok decref05_Covers_n0_ok noderef05_Covers_n0_ok noderef05_Covers_n0_nat
noncomputable def Gref05_Covers_n0 : (Ex → St → Ans) → St → Ans := (sumN decref05_Covers_n0 nodeDref05_Covers_n0 outref05_Covers_n0)
theorem Gref05_Covers_n0_ok : CSum Tryd.prog 17 Lref05_Covers_n0 Gref05_Covers_n0 := GNref05_Covers_n0_ok
noncomputable def annref05_Covers : Ann := (.seq .none (.seq (.cut 0 [2, 3] Gref05_Covers_n0) .none))
theorem annref05_Covers_ok : AnnOk Tryd.prog 17 bref05_Covers annref05_Covers := ⟨(annOk_none _ _ _), ⟨Gref05_Covers_n0_ok, (annOk_none _ _ _)⟩⟩
abbrev Aref05_Covers := (Int) × (Int) × (Int) × (Int)
abbrev Yref05_Covers := (Bool)
noncomputable def fnref05_Covers {β : Type} : Aref05_Covers → (Yref05_Covers → Option β) → Option β := fun (a0_0, a0_1, a1_0, a1_1) exit => (bindO (nodeDref05_Covers_n0 (a0_0, a0_1, a1_0, a1_1)) fun t4 => (exit (t4)))
noncomputable def fnDref05_Covers (a : Aref05_Covers) : Option Yref05_Covers := fnref05_Covers a some
theorem fnref05_Covers_nat (a : Aref05_Covers) (k : Yref05_Covers → Ans) : fnref05_Covers a k = bindO (fnDref05_Covers a) k := by
  obtain ⟨a0_0, a0_1, a1_0, a1_1⟩ := a
  simp only [fnDref05_Covers, fnref05_Covers, bindO_cond, bindO_assoc, bindO_none, bindO_pure, bindO_elim, bindO_unP]
def argsref05_Covers : Aref05_Covers → List AV := fun (a0_0, a0_1, a1_0, a1_1) => [AV.agg [AV.int IntKind.i64 a0_0, AV.int IntKind.i64 a0_1], AV.agg [AV.int IntKind.i64 a1_0, AV.int IntKind.i64 a1_1]]
def decAref05_Covers (l : List AV) : Option Aref05_Covers := match l with
  | [AV.agg [AV.int IntKind.i64 a0_0, AV.int IntKind.i64 a0_1], AV.agg [AV.int IntKind.i64 a1_0, AV.int IntKind.i64 a1_1]] => some (a0_0, a0_1, a1_0, a1_1)
  | _ => none
theorem decAref05_Covers_ok (l : List AV) (a : Aref05_Covers) (h : decAref05_Covers l = some a) : l = argsref05_Covers a := by
  unfold decAref05_Covers at h
  split at h
  · cases h; rfl
  · cases h
def rendref05_Covers : Aref05_Covers → Yref05_Covers → AV := fun (a0_0, a0_1, a1_0, a1_1) => fun r_y => AV.bool r_y
theorem rendref05_Covers_ok : ∀ (a : Aref05_Covers) (y : Yref05_Covers), (rendref05_Covers a y).closed1 = true := by
  rintro ⟨a0_0, a0_1, a1_0, a1_1⟩ y <;> first | rfl | exact Empty.elim y
theorem fnref05_Covers_ok (a : Aref05_Covers) : fnE Tryd.tab envref05_Covers noHint 0 70 37 Tryd.f37.ntmps Tryd.f37.results.toList annref05_Covers bref05_Covers (argsref05_Covers a) [] (fun v _ => some (v, [])) = fnref05_Covers a (fun y => some (rendref05_Covers a y, [])) := by kernel_rfl
noncomputable def vFref05_Covers (a : Aref05_Covers) (K : AV → Ans) : Ans := bindO (fnDref05_Covers a) fun y => K (rendref05_Covers a y)
noncomputable def Fref05_Covers : List AV → (AV → Ans) → Ans := fun l K => bindO (decAref05_Covers l) fun a => vFref05_Covers a K
theorem Fref05_Covers_ok : PureOk Tryd.prog 37 Fref05_Covers := pure_mkD (hint := noHint) (d := 0) (n := 70) mixed tabOk envref05_CoversOk Tryd.func37 (bodySome (by kernel_rfl)) (by decide +kernel) annref05_Covers_ok decAref05_Covers_ok fnref05_Covers_ok fnref05_Covers_nat rendref05_Covers_ok
--@ ref05_Compare
noncomputable def envref05_Compare : Env := [(37, .pure Fref05_Covers)]
theorem envref05_CompareOk : EnvOk Tryd.prog envref05_Compare := EnvOk.cons Fref05_Covers_ok (EnvOk.nil)
noncomputable def bref05_Compare : Code := Tryd.f24.body.getD .skip
noncomputable def Lref05_Compare_n1 : Code := codeAt [1, 0, 0, 0] bref05_Compare
noncomputable def annLref05_Compare_n1 : Ann := .none
theorem annLref05_Compare_n1_ok : AnnOk Tryd.prog 22 Lref05_Compare_n1 annLref05_Compare_n1 := (annOk_none _ _ _)
abbrev Iref05_Compare_n1 := (Int) × (Int) × (Int) × (Int)
abbrev Yref05_Compare_n1 := (Bool)
def Sref05_Compare_n1 : Iref05_Compare_n1 → St := fun (o0_0, o0_1, o1_0, o1_1) => { env := [(2, AV.ptr 0 0), (3, AV.ptr 1 0)], stk := [[]], H := [AE.Obj.cells [AV.int IntKind.i64 o0_0, AV.int IntKind.i64 o0_1], AE.Obj.cells [AV.int IntKind.i64 o1_0, AV.int IntKind.i64 o1_1]], blk := 98304 }
def decref05_Compare_n1 (s : St) : Option Iref05_Compare_n1 := match s with
  | { env := [(2, AV.ptr 0 0), (3, AV.ptr 1 0)], stk := [[]], H := [AE.Obj.cells [AV.int IntKind.i64 o0_0, AV.int IntKind.i64 o0_1], AE.Obj.cells [AV.int IntKind.i64 o1_0, AV.int IntKind.i64 o1_1]], blk := 98304 } => some (o0_0, o0_1, o1_0, o1_1)
  | _ => none
theorem decref05_Compare_n1_ok (s : St) (x : Iref05_Compare_n1) (h : decref05_Compare_n1 s = some x) : s = Sref05_Compare_n1 x := by
  unfold decref05_Compare_n1 at h
  split at h
  · cases h; rfl
  · cases h
def outref05_Compare_n1 : Iref05_Compare_n1 → (Ex → St → Ans) → Yref05_Compare_n1 → Ans := fun (o0_0, o0_1, o1_0, o1_1) K => fun t5_y => K (Ex.norm) { env := [(2, AV.ptr 0 0), (3, AV.ptr 1 0), (5, AV.bool t5_y)], stk := [[]], H := [AE.Obj.cells [AV.int IntKind.i64 o0_0, AV.int IntKind.i64 o0_1], AE.Obj.cells [AV.int IntKind.i64 o1_0, AV.int IntKind.i64 o1_1]], blk := 98304 }
noncomputable def noderef05_Compare_n1 {β : Type} : Iref05_Compare_n1 → (Yref05_Compare_n1 → Option β) → Option β := fun (o0_0, o0_1, o1_0, o1_1) exit => (bindO (fnDref05_Covers (o0_0, o0_1, o1_0, o1_1)) fun r => (bif r then (bindO (fnDref05_Covers (o1_0, o1_1, o0_0, o0_1)) fun r_2 => (exit (r_2))) else (exit (false))))
noncomputable def nodeDref05_Compare_n1 (i : Iref05_Compare_n1) : Option Yref05_Compare_n1 := noderef05_Compare_n1 i some
theorem noderef05_Compare_n1_nat (i : Iref05_Compare_n1) (k : Yref05_Compare_n1 → Ans) : noderef05_Compare_n1 i k = bindO (nodeDref05_Compare_n1 i) k := by
  obtain ⟨o0_0, o0_1, o1_0, o1_1⟩ := i
  simp only [nodeDref05_Compare_n1, noderef05_Compare_n1, bindO_cond, bindO_assoc, bindO_none, bindO_pure, bindO_elim, bindO_unP]
theorem noderef05_Compare_n1_ok (i : Iref05_Compare_n1) (K : Ex → St → Ans) : codeI Tryd.tab envref05_Compare noHint (codeD Tryd.tab envref05_Compare noHint 0 64) 70 22 annLref05_Compare_n1 Lref05_Compare_n1 (weakP 0 (exk [2, 3, 5] [4] []) K) (Sref05_Compare_n1 i) = noderef05_Compare_n1 i (outref05_Compare_n1 i K) := by kernel_rfl
theorem GNref05_Compare_n1_ok : CSum Tryd.prog 22 Lref05_Compare_n1 (sumN decref05_Compare_n1 nodeDref05_Compare_n1 outref05_Compare_n1) := csum_node mixed tabOk envref05_CompareOk 0 (exk [2, 3, 5] [4] []) annLref05_Compare_n1_ok decref05_Compare_n1_ok noderef05_Compare_n1_ok noderef05_Compare_n1_nat
noncomputable def Gref05_Compare_n1 : (Ex → St → Ans) → St → Ans := (sumN decref05_Compare_n1 nodeDref05_Compare_n1 outref05_Compare_n1)
theorem Gref05_Compare_n1_ok : CSum Tryd.prog 22 Lref05_Compare_n1 Gref05_Compare_n1 := GNref05_Compare_n1_ok
noncomputable def Lref05_Compare_n0 : Code := codeAt [1, 0] bref05_Compare
noncomputable def annLref05_Compare_n0 : Ann := (.block (.seq (.cut 0 [2, 3] Gref05_Compare_n1) .none))
theorem annLref05_Compare_n0_ok : AnnOk Tryd.prog 22 Lref05_Compare_n0 annLref05_Compare_n0 := ⟨Gref05_Compare_n1_ok, (annOk_none _ _ _)⟩
abbrev Iref05_Compare_n0 := (Int) × (Int) × (Int) × (Int)
abbrev Yref05_Compare_n0 := ((Int)) ⊕ (Unit)
def Sref05_Compare_n0 : Iref05_Compare_n0 → St := fun (o0_0, o0_1, o1_0, o1_1) => { env := [(2, AV.ptr 0 0), (3, AV.ptr 1 0)], stk := [[]], H := [AE.Obj.cells [AV.int IntKind.i64 o0_0, AV.int IntKind.i64 o0_1], AE.Obj.cells [AV.int IntKind.i64 o1_0, AV.int IntKind.i64 o1_1]], blk := 98304 }
def decref05_Compare_n0 (s : St) : Option Iref05_Compare_n0 := match s with
  | { env := [(2, AV.ptr 0 0), (3, AV.ptr 1 0)], stk := [[]], H := [AE.Obj.cells [AV.int IntKind.i64 o0_0, AV.int IntKind.i64 o0_1], AE.Obj.cells [AV.int IntKind.i64 o1_0, AV.int IntKind.i64 o1_1]], blk := 98304 } => some (o0_0, o0_1, o1_0, o1_1)
  | _ => none
theorem decref05_Compare_n0_ok (s : St) (x : Iref05_Compare_n0) (h : decref05_Compare_n0 s = some x) : s = Sref05_Compare_n0 x := by
  unfold decref05_Compare_n0 at h
  split at h
  · cases h; rfl
  · cases h
def outref05_Compare_n0 : Iref05_Compare_n0 → (Ex → St → Ans) → Yref05_Compare_n0 → Ans := fun (o0_0, o0_1, o1_0, o1_1) K => (Sum.elim (fun t4_y => K (Ex.ret) { env := [(4, AV.int IntKind.i64 t4_y)], stk := [[]], H := [], blk := 98304 }) (fun _ => K (Ex.norm) { env := [], stk := [[]], H := [], blk := 98304 }))
noncomputable def noderef05_Compare_n0 {β : Type} : Iref05_Compare_n0 → (Yref05_Compare_n0 → Option β) → Option β := fun (o0_0, o0_1, o1_0, o1_1) exit => (bindO (nodeDref05_Compare_n1 (o0_0, o0_1, o1_0, o1_1)) fun t5 => (bif t5 then (exit (Sum.inl ((0 : Int)))) else (bindO (fnDref05_Covers (o0_0, o0_1, o1_0, o1_1)) fun r => (bif r then (exit (Sum.inl ((1 : Int)))) else (bindO (fnDref05_Covers (o1_0, o1_1, o0_0, o0_1)) fun r_2 => (bif r_2 then (exit (Sum.inl ((2 : Int)))) else (exit (Sum.inr ()))))))))
noncomputable def nodeDref05_Compare_n0 (i : Iref05_Compare_n0) : Option Yref05_Compare_n0 := noderef05_Compare_n0 i some
theorem noderef05_Compare_n0_nat (i : Iref05_Compare_n0) (k : Yref05_Compare_n0 → Ans) : noderef05_Compare_n0 i k = bindO (nodeDref05_Compare_n0 i) k := by
  obtain ⟨o0_0, o0_1, o1_0, o1_1⟩ := i
  simp only [nodeDref05_Compare_n0, noderef05_Compare_n0, bindO_cond, bindO_assoc, bindO_none, bindO_pure, bindO_elim, bindO_unP]
theorem noderef05_Compare_n0_ok (i : Iref05_Compare_n0) (K : Ex → St → Ans) : codeI Tryd.tab envref05_Compare noHint (codeD Tryd.tab envref05_Compare noHint 0 64) 70 22 annLref05_Compare_n0 Lref05_Compare_n0 (weakP 0 (exk [] [4] []) K) (Sref05_Compare_n0 i) = noderef05_Compare_n0 i (outref05_Compare_n0 i K) := by kernel_rfl
theorem GNref05_Compare_n0_ok : CSum Tryd.prog 22 Lref05_Compare_n0 (sumN decref05_Compare_n0 nodeDref05_Compare_n0 outref05_Compare_n0) := csum_node mixed tabOk envref05_CompareOk 0 (exk [] [4] []) annLref05_Compare_n0_ok decref05_Compare_n0_ok noderef05_Compare_n0_ok noderef05_Compare_n0_nat
noncomputable def Gref05_Compare_n0 : (Ex → St → Ans) → St → Ans := (sumN decref05_Compare_n0 nodeDref05_Compare_n0 outref05_Compare_n0)
theorem Gref05_Compare_n0_ok : CSum Tryd.prog 22 Lref05_Compare_n0 Gref05_Compare_n0 := GNref05_Compare_n0_ok
noncomputable def annref05_Compare : Ann := (.seq .none (.seq (.cut 0 [2, 3] Gref05_Compare_n0) .none))
theorem annref05_Compare_ok : AnnOk Tryd.prog 22 bref05_Compare annref05_Compare := ⟨(annOk_none _ _ _), ⟨Gref05_Compare_n0_ok, (annOk_none _ _ _)⟩⟩
abbrev Aref05_Compare := (Int) × (Int) × (Int) × (Int)
abbrev Yref05_Compare := (Int)
noncomputable def fnref05_Compare {β : Type} : Aref05_Compare → (Yref05_Compare → Option β) → Option β := fun (a0_0, a0_1, a1_0, a1_1) exit => (bindO (nodeDref05_Compare_n0 (a0_0, a0_1, a1_0, a1_1)) (Sum.elim (fun t4 => (exit (t4))) (fun _ => (exit ((3 : Int))))))
noncomputable def fnDref05_Compare (a : Aref05_Compare) : Option Yref05_Compare := fnref05_Compare a some
theorem fnref05_Compare_nat (a : Aref05_Compare) (k : Yref05_Compare → Ans) : fnref05_Compare a k = bindO (fnDref05_Compare a) k := by
  obtain ⟨a0_0, a0_1, a1_0, a1_1⟩ := a
  simp only [fnDref05_Compare, fnref05_Compare, bindO_cond, bindO_assoc, bindO_none, bindO_pure, bindO_elim, bindO_unP]
def argsref05_Compare : Aref05_Compare → List AV := fun (a0_0, a0_1, a1_0, a1_1) => [AV.agg [AV.int IntKind.i64 a0_0, AV.int IntKind.i64 a0_1], AV.agg [AV.int IntKind.i64 a1_0, AV.int IntKind.i64 a1_1]]
def decAref05_Compare (l : List AV) : Option Aref05_Compare := match l with
  | [AV.agg [AV.int IntKind.i64 a0_0, AV.int IntKind.i64 a0_1], AV.agg [AV.int IntKind.i64 a1_0, AV.int IntKind.i64 a1_1]] => some (a0_0, a0_1, a1_0, a1_1)
  | _ => none
theorem decAref05_Compare_ok (l : List AV) (a : Aref05_Compare) (h : decAref05_Compare l = some a) : l = argsref05_Compare a := by
  unfold decAref05_Compare at h
  split at h
  · cases h; rfl
  · cases h
def rendref05_Compare : Aref05_Compare → Yref05_Compare → AV := fun (a0_0, a0_1, a1_0, a1_1) => fun r_y => AV.int IntKind.i64 r_y
theorem rendref05_Compare_ok : ∀ (a : Aref05_Compare) (y : Yref05_Compare), (rendref05_Compare a y).closed1 = true := by
  rintro ⟨a0_0, a0_1, a1_0, a1_1⟩ y <;> first | rfl | exact Empty.elim y
theorem fnref05_Compare_ok (a : Aref05_Compare) : fnE Tryd.tab envref05_Compare noHint 0 70 24 Tryd.f24.ntmps Tryd.f24.results.toList annref05_Compare bref05_Compare (argsref05_Compare a) [] (fun v _ => some (v, [])) = fnref05_Compare a (fun y => some (rendref05_Compare a y, [])) := by kernel_rfl
noncomputable def vFref05_Compare (a : Aref05_Compare) (K : AV → Ans) : Ans := bindO (fnDref05_Compare a) fun y => K (rendref05_Compare a y)
noncomputable def Fref05_Compare : List AV → (AV → Ans) → Ans := fun l K => bindO (decAref05_Compare l) fun a => vFref05_Compare a K
theorem Fref05_Compare_ok : PureOk Tryd.prog 24 Fref05_Compare := pure_mkD (hint := noHint) (d := 0) (n := 70) mixed tabOk envref05_CompareOk Tryd.func24 (bodySome (by kernel_rfl)) (by decide +kernel) annref05_Compare_ok decAref05_Compare_ok fnref05_Compare_ok fnref05_Compare_nat rendref05_Compare_ok
--@ ref21_Check
noncomputable def envref21_Check : Env := [(23, .pure Fref05_Right), (24, .pure Fref05_Compare)]
theorem envref21_CheckOk : EnvOk Tryd.prog envref21_Check := EnvOk.cons Fref05_Right_ok (EnvOk.cons Fref05_Compare_ok (EnvOk.nil))
noncomputable def bref21_Check : Code := Tryd.f10.body.getD .skip
noncomputable def Lref21_Check_n3 : Code := codeAt [1, 0, 0, 1, 1, 1, 1, 0] bref21_Check
noncomputable def annLref21_Check_n3 : Ann := .none
theorem annLref21_Check_n3_ok : AnnOk Tryd.prog 59 Lref21_Check_n3 annLref21_Check_n3 := (annOk_none _ _ _)
abbrev Iref21_Check_n3 := (Int) × (Int) × (Int) × (List UInt8) × (Int) × (Int) × (List UInt8)
abbrev Yref21_Check_n3 := (Bool)
def Sref21_Check_n3 : Iref21_Check_n3 → St := fun (o0_0, o0_1, o0_2, o0_3, o0_4, o0_5, o0_6) => { env := [(1, AV.ptr 0 0)], stk := [[]], H := [AE.Obj.cells [AV.int IntKind.i64 o0_0, AV.int IntKind.i64 o0_1, AV.int IntKind.i64 o0_2, AV.str o0_3, AV.int IntKind.i64 o0_4, AV.int IntKind.i64 o0_5, AV.str o0_6]], blk := 40960 }
def decref21_Check_n3 (s : St) : Option Iref21_Check_n3 := match s with
  | { env := [(1, AV.ptr 0 0)], stk := [[]], H := [AE.Obj.cells [AV.int IntKind.i64 o0_0, AV.int IntKind.i64 o0_1, AV.int IntKind.i64 o0_2, AV.str o0_3, AV.int IntKind.i64 o0_4, AV.int IntKind.i64 o0_5, AV.str o0_6]], blk := 40960 } => some (o0_0, o0_1, o0_2, o0_3, o0_4, o0_5, o0_6)
  | _ => none
theorem decref21_Check_n3_ok (s : St) (x : Iref21_Check_n3) (h : decref21_Check_n3 s = some x) : s = Sref21_Check_n3 x := by
  unfold decref21_Check_n3 at h
  split at h
  · cases h; rfl
  · cases h
def outref21_Check_n3 : Iref21_Check_n3 → (Ex → St → Ans) → Yref21_Check_n3 → Ans := fun (o0_0, o0_1, o0_2, o0_3, o0_4, o0_5, o0_6) K => fun t39_y => K (Ex.norm) { env := [(39, AV.bool t39_y)], stk := [[]], H := [], blk := 40960 }
noncomputable def noderef21_Check_n3 {β : Type} : Iref21_Check_n3 → (Yref21_Check_n3 → Option β) → Option β := fun (o0_0, o0_1, o0_2, o0_3, o0_4, o0_5, o0_6) exit => (bindO (fnDref05_Compare (o0_1, o0_2, o0_4, o0_5)) fun r => (bif r != (3 : Int) then (exit (true)) else (exit (decide (o0_1 ≤ o0_4)))))
noncomputable def nodeDref21_Check_n3 (i : Iref21_Check_n3) : Option Yref21_Check_n3 := noderef21_Check_n3 i some
theorem noderef21_Check_n3_nat (i : Iref21_Check_n3) (k : Yref21_Check_n3 → Ans) : noderef21_Check_n3 i k = bindO (nodeDref21_Check_n3 i) k := by
  obtain ⟨o0_0, o0_1, o0_2, o0_3, o0_4, o0_5, o0_6⟩ := i
  simp only [nodeDref21_Check_n3, noderef21_Check_n3, bindO_cond, bindO_assoc, bindO_none, bindO_pure, bindO_elim, bindO_unP]
theorem noderef21_Check_n3_ok (i : Iref21_Check_n3) (K : Ex → St → Ans) : codeI Tryd.tab envref21_Check noHint (codeD Tryd.tab envref21_Check noHint 0 64) 70 59 annLref21_Check_n3 Lref21_Check_n3 (weakP 0 (exk [39] [2] []) K) (Sref21_Check_n3 i) = noderef21_Check_n3 i (outref21_Check_n3 i K) := by kernel_rfl
theorem GNref21_Check_n3_ok : CSum Tryd.prog 59 Lref21_Check_n3 (sumN decref21_Check_n3 nodeDref21_Check_n3 outref21_Check_n3) := csum_node mixed tabOk envref21_CheckOk 0 (exk [39] [2] []) annLref21_Check_n3_ok decref21_Check_n3_ok noderef21_Check_n3_ok noderef21_Check_n3_nat
noncomputable def Gref21_Check_n3 : (Ex → St → Ans) → St → Ans := (sumN decref21_Check_n3 nodeDref21_Check_n3 outref21_Check_n3)
theorem Gref21_Check_n3_ok : CSum Tryd.prog 59 Lref21_Check_n3 Gref21_Check_n3 := GNref21_Check_n3_ok
noncomputable def Lref21_Check_n2 : Code := codeAt [1, 0, 0, 1, 1, 0] bref21_Check
noncomputable def annLref21_Check_n2 : Ann := .none
theorem annLref21_Check_n2_ok : AnnOk Tryd.prog 59 Lref21_Check_n2 annLref21_Check_n2 := (annOk_none _ _ _)
abbrev Iref21_Check_n2 := (Int) × (Int) × (Int) × (List UInt8) × (Int) × (Int) × (List UInt8)
abbrev Yref21_Check_n2 := (Bool)
def Sref21_Check_n2 : Iref21_Check_n2 → St := fun (o0_0, o0_1, o0_2, o0_3, o0_4, o0_5, o0_6) => { env := [(1, AV.ptr 0 0)], stk := [[]], H := [AE.Obj.cells [AV.int IntKind.i64 o0_0, AV.int IntKind.i64 o0_1, AV.int IntKind.i64 o0_2, AV.str o0_3, AV.int IntKind.i64 o0_4, AV.int IntKind.i64 o0_5, AV.str o0_6]], blk := 40960 }
def decref21_Check_n2 (s : St) : Option Iref21_Check_n2 := match s with
  | { env := [(1, AV.ptr 0 0)], stk := [[]], H := [AE.Obj.cells [AV.int IntKind.i64 o0_0, AV.int IntKind.i64 o0_1, AV.int IntKind.i64 o0_2, AV.str o0_3, AV.int IntKind.i64 o0_4, AV.int IntKind.i64 o0_5, AV.str o0_6]], blk := 40960 } => some (o0_0, o0_1, o0_2, o0_3, o0_4, o0_5, o0_6)
  | _ => none
theorem decref21_Check_n2_ok (s : St) (x : Iref21_Check_n2) (h : decref21_Check_n2 s = some x) : s = Sref21_Check_n2 x := by
  unfold decref21_Check_n2 at h
  split at h
  · cases h; rfl
  · cases h
def outref21_Check_n2 : Iref21_Check_n2 → (Ex → St → Ans) → Yref21_Check_n2 → Ans := fun (o0_0, o0_1, o0_2, o0_3, o0_4, o0_5, o0_6) K => fun t26_y => K (Ex.norm) { env := [(1, AV.ptr 0 0), (26, AV.bool t26_y)], stk := [[]], H := [AE.Obj.cells [AV.int IntKind.i64 o0_0, AV.int IntKind.i64 o0_1, AV.int IntKind.i64 o0_2, AV.str o0_3, AV.int IntKind.i64 o0_4, AV.int IntKind.i64 o0_5, AV.str o0_6]], blk := 40960 }
noncomputable def noderef21_Check_n2 {β : Type} : Iref21_Check_n2 → (Yref21_Check_n2 → Option β) → Option β := fun (o0_0, o0_1, o0_2, o0_3, o0_4, o0_5, o0_6) exit => (bif (↑(List.length o0_3) : Int) != (128 : Int) then (exit (true)) else (exit ((↑(List.length o0_6) : Int) != (128 : Int))))
noncomputable def nodeDref21_Check_n2 (i : Iref21_Check_n2) : Option Yref21_Check_n2 := noderef21_Check_n2 i some
theorem noderef21_Check_n2_nat (i : Iref21_Check_n2) (k : Yref21_Check_n2 → Ans) : noderef21_Check_n2 i k = bindO (nodeDref21_Check_n2 i) k := by
  obtain ⟨o0_0, o0_1, o0_2, o0_3, o0_4, o0_5, o0_6⟩ := i
  simp only [nodeDref21_Check_n2, noderef21_Check_n2, bindO_cond, bindO_assoc, bindO_none, bindO_pure, bindO_elim, bindO_unP]
theorem noderef21_Check_n2_ok (i : Iref21_Check_n2) (K : Ex → St → Ans) : codeI Tryd.tab envref21_Check noHint (codeD Tryd.tab envref21_Check noHint 0 64) 70 59 annLref21_Check_n2 Lref21_Check_n2 (weakP 0 (exk [1, 26] [2] []) K) (Sref21_Check_n2 i) = noderef21_Check_n2 i (outref21_Check_n2 i K) := by kernel_rfl
theorem GNref21_Check_n2_ok : CSum Tryd.prog 59 Lref21_Check_n2 (sumN decref21_Check_n2 nodeDref21_Check_n2 outref21_Check_n2) := csum_node mixed tabOk envref21_CheckOk 0 (exk [1, 26] [2] []) annLref21_Check_n2_ok decref21_Check_n2_ok noderef21_Check_n2_ok noderef21_Check_n2_nat
noncomputable def Gref21_Check_n2 : (Ex → St → Ans) → St → Ans := (sumN decref21_Check_n2 nodeDref21_Check_n2 outref21_Check_n2)
theorem Gref21_Check_n2_ok : CSum Tryd.prog 59 Lref21_Check_n2 Gref21_Check_n2 := GNref21_Check_n2_ok
noncomputable def Lref21_Check_n1 : Code := codeAt [1, 0, 0, 0] bref21_Check
noncomputable def annLref21_Check_n1 : Ann := .none
theorem annLref21_Check_n1_ok : AnnOk Tryd.prog 59 Lref21_Check_n1 annLref21_Check_n1 := (annOk_none _ _ _)
abbrev Iref21_Check_n1 := (Int) × (Int) × (Int) × (List UInt8) × (Int) × (Int) × (List UInt8)
abbrev Yref21_Check_n1 := (Bool)
def Sref21_Check_n1 : Iref21_Check_n1 → St := fun (o0_0, o0_1, o0_2, o0_3, o0_4, o0_5, o0_6) => { env := [(1, AV.ptr 0 0)], stk := [[]], H := [AE.Obj.cells [AV.int IntKind.i64 o0_0, AV.int IntKind.i64 o0_1, AV.int IntKind.i64 o0_2, AV.str o0_3, AV.int IntKind.i64 o0_4, AV.int IntKind.i64 o0_5, AV.str o0_6]], blk := 40960 }
def decref21_Check_n1 (s : St) : Option Iref21_Check_n1 := match s with
  | { env := [(1, AV.ptr 0 0)], stk := [[]], H := [AE.Obj.cells [AV.int IntKind.i64 o0_0, AV.int IntKind.i64 o0_1, AV.int IntKind.i64 o0_2, AV.str o0_3, AV.int IntKind.i64 o0_4, AV.int IntKind.i64 o0_5, AV.str o0_6]], blk := 40960 } => some (o0_0, o0_1, o0_2, o0_3, o0_4, o0_5, o0_6)
  | _ => none
theorem decref21_Check_n1_ok (s : St) (x : Iref21_Check_n1) (h : decref21_Check_n1 s = some x) : s = Sref21_Check_n1 x := by
  unfold decref21_Check_n1 at h
  split at h
  · cases h; rfl
  · cases h
def outref21_Check_n1 : Iref21_Check_n1 → (Ex → St → Ans) → Yref21_Check_n1 → Ans := fun (o0_0, o0_1, o0_2, o0_3, o0_4, o0_5, o0_6) K => fun t3_y => K (Ex.norm) { env := [(1, AV.ptr 0 0), (3, AV.bool t3_y)], stk := [[]], H := [AE.Obj.cells [AV.int IntKind.i64 o0_0, AV.int IntKind.i64 o0_1, AV.int IntKind.i64 o0_2, AV.str o0_3, AV.int IntKind.i64 o0_4, AV.int IntKind.i64 o0_5, AV.str o0_6]], blk := 40960 }
noncomputable def noderef21_Check_n1 {β : Type} : Iref21_Check_n1 → (Yref21_Check_n1 → Option β) → Option β := fun (o0_0, o0_1, o0_2, o0_3, o0_4, o0_5, o0_6) exit => (bif decide (o0_0 < (0 : Int)) then (exit (true)) else (bif decide (o0_0 ≥ (24 : Int)) then (exit (true)) else (bindO (fnDref05_Right (o0_1, o0_2)) fun r => (bif !r then (exit (true)) else (bindO (fnDref05_Right (o0_4, o0_5)) fun r_2 => (exit (!r_2)))))))
noncomputable def nodeDref21_Check_n1 (i : Iref21_Check_n1) : Option Yref21_Check_n1 := noderef21_Check_n1 i some
theorem noderef21_Check_n1_nat (i : Iref21_Check_n1) (k : Yref21_Check_n1 → Ans) : noderef21_Check_n1 i k = bindO (nodeDref21_Check_n1 i) k := by
  obtain ⟨o0_0, o0_1, o0_2, o0_3, o0_4, o0_5, o0_6⟩ := i
  simp only [nodeDref21_Check_n1, noderef21_Check_n1, bindO_cond, bindO_assoc, bindO_none, bindO_pure, bindO_elim, bindO_unP]
theorem noderef21_Check_n1_ok (i : Iref21_Check_n1) (K : Ex → St → Ans) : codeI Tryd.tab envref21_Check noHint (codeD Tryd.tab envref21_Check noHint 0 64) 70 59 annLref21_Check_n1 Lref21_Check_n1 (weakP 0 (exk [1, 3] [2] []) K) (Sref21_Check_n1 i) = noderef21_Check_n1 i (outref21_Check_n1 i K) := by kernel_rfl
theorem GNref21_Check_n1_ok : CSum Tryd.prog 59 Lref21_Check_n1 (sumN decref21_Check_n1 nodeDref21_Check_n1 outref21_Check_n1) := csum_node mixed tabOk envref21_CheckOk 0 (exk [1, 3] [2] []) annLref21_Check_n1_ok decref21_Check_n1_ok noderef21_Check_n1_ok noderef21_Check_n1_nat
noncomputable def Gref21_Check_n1 : (Ex → St → Ans) → St → Ans := (sumN decref21_Check_n1 nodeDref21_Check_n1 outref21_Check_n1)
theorem Gref21_Check_n1_ok : CSum Tryd.prog 59 Lref21_Check_n1 Gref21_Check_n1 := GNref21_Check_n1_ok
noncomputable def Lref21_Check_n0 : Code := codeAt [1, 0] bref21_Check
noncomputable def annLref21_Check_n0 : Ann := (.block (.seq (.cut 0 [1] Gref21_Check_n1) (.cond .none (.seq (.cut 0 [1] Gref21_Check_n2) (.cond .none (.seq (.cut 0 [1] Gref21_Check_n3) .none))))))
theorem annLref21_Check_n0_ok : AnnOk Tryd.prog 59 Lref21_Check_n0 annLref21_Check_n0 := ⟨Gref21_Check_n1_ok, ⟨(annOk_none _ _ _), ⟨Gref21_Check_n2_ok, ⟨(annOk_none _ _ _), ⟨Gref21_Check_n3_ok, (annOk_none _ _ _)⟩⟩⟩⟩⟩
abbrev Iref21_Check_n0 := (Int) × (Int) × (Int) × (List UInt8) × (Int) × (Int) × (List UInt8)
abbrev Yref21_Check_n0 := ((Int)) ⊕ (Unit)
def Sref21_Check_n0 : Iref21_Check_n0 → St := fun (o0_0, o0_1, o0_2, o0_3, o0_4, o0_5, o0_6) => { env := [(1, AV.ptr 0 0)], stk := [[]], H := [AE.Obj.cells [AV.int IntKind.i64 o0_0, AV.int IntKind.i64 o0_1, AV.int IntKind.i64 o0_2, AV.str o0_3, AV.int IntKind.i64 o0_4, AV.int IntKind.i64 o0_5, AV.str o0_6]], blk := 40960 }
def decref21_Check_n0 (s : St) : Option Iref21_Check_n0 := match s with
  | { env := [(1, AV.ptr 0 0)], stk := [[]], H := [AE.Obj.cells [AV.int IntKind.i64 o0_0, AV.int IntKind.i64 o0_1, AV.int IntKind.i64 o0_2, AV.str o0_3, AV.int IntKind.i64 o0_4, AV.int IntKind.i64 o0_5, AV.str o0_6]], blk := 40960 } => some (o0_0, o0_1, o0_2, o0_3, o0_4, o0_5, o0_6)
  | _ => none
theorem decref21_Check_n0_ok (s : St) (x : Iref21_Check_n0) (h : decref21_Check_n0 s = some x) : s = Sref21_Check_n0 x := by
  unfold decref21_Check_n0 at h
  split at h
  · cases h; rfl
  · cases h
def outref21_Check_n0 : Iref21_Check_n0 → (Ex → St → Ans) → Yref21_Check_n0 → Ans := fun (o0_0, o0_1, o0_2, o0_3, o0_4, o0_5, o0_6) K => (Sum.elim (fun t2_y => K (Ex.ret) { env := [(2, AV.int IntKind.i64 t2_y)], stk := [[]], H := [], blk := 40960 }) (fun _ => K (Ex.norm) { env := [], stk := [[]], H := [], blk := 40960 }))
noncomputable def noderef21_Check_n0 {β : Type} : Iref21_Check_n0 → (Yref21_Check_n0 → Option β) → Option β := fun (o0_0, o0_1, o0_2, o0_3, o0_4, o0_5, o0_6) exit => (bindO (nodeDref21_Check_n1 (o0_0, o0_1, o0_2, o0_3, o0_4, o0_5, o0_6)) fun t3 => (bif t3 then (exit (Sum.inl ((3 : Int)))) else (bindO (nodeDref21_Check_n2 (o0_0, o0_1, o0_2, o0_3, o0_4, o0_5, o0_6)) fun t26 => (bif t26 then (exit (Sum.inl ((12 : Int)))) else (bindO (nodeDref21_Check_n3 (o0_0, o0_1, o0_2, o0_3, o0_4, o0_5, o0_6)) fun t39 => (bif t39 then (exit (Sum.inl ((10 : Int)))) else (exit (Sum.inr ()))))))))
noncomputable def nodeDref21_Check_n0 (i : Iref21_Check_n0) : Option Yref21_Check_n0 := noderef21_Check_n0 i some
theorem noderef21_Check_n0_nat (i : Iref21_Check_n0) (k : Yref21_Check_n0 → Ans) : noderef21_Check_n0 i k = bindO (nodeDref21_Check_n0 i) k := by
  obtain ⟨o0_0, o0_1, o0_2, o0_3, o0_4, o0_5, o0_6⟩ := i
  simp only [nodeDref21_Check_n0, noderef21_Check_n0, bindO_cond, bindO_assoc, bindO_none, bindO_pure, bindO_elim, bindO_unP]
theorem noderef21_Check_n0_ok (i : Iref21_Check_n0) (K : Ex → St → Ans) : codeI Tryd.tab envref21_Check noHint (codeD Tryd.tab envref21_Check noHint 0 64) 70 59 annLref21_Check_n0 Lref21_Check_n0 (weakP 0 (exk [] [2] []) K) (Sref21_Check_n0 i) = noderef21_Check_n0 i (outref21_Check_n0 i K) := by kernel_rfl
theorem GNref21_Check_n0_ok : CSum Tryd.prog 59 Lref21_Check_n0 (sumN decref21_Check_n0 nodeDref21_Check_n0 outref21_Check_n0) := csum_node mixed tabOk envref21_CheckOk 0 (exk [] [2] []) annLref21_Check_n0_ok decref21_Check_n0_ok noderef21_Check_n0_ok noderef21_Check_n0_nat
noncomputable def Gref21_Check_n0 : (Ex → St → Ans) → St → Ans := (sumN decref21_Check_n0 nodeDref21_Check_n0 outref21_Check_n0)
theorem Gref21_Check_n0_ok : CSum Tryd.prog 59 Lref21_Check_n0 Gref21_Check_n0 := GNref21_Check_n0_ok
noncomputable def annref21_Check : Ann := (.seq .none (.seq (.cut 0 [1] Gref21_Check_n0) .none))
theorem annref21_Check_ok : AnnOk Tryd.prog 59 bref21_Check annref21_Check := ⟨(annOk_none _ _ _), ⟨Gref21_Check_n0_ok, (annOk_none _ _ _)⟩⟩
abbrev Aref21_Check := (Int) × (Int) × (Int) × (List UInt8) × (Int) × (Int) × (List UInt8)
abbrev Yref21_Check := (Int)
noncomputable def fnref21_Check {β : Type} : Aref21_Check → (Yref21_Check → Option β) → Option β := fun (a0_0, a0_1, a0_2, a0_3, a0_4, a0_5, a0_6) exit => (bindO (nodeDref21_Check_n0 (a0_0, a0_1, a0_2, a0_3, a0_4, a0_5, a0_6)) (Sum.elim (fun t2 => (exit (t2))) (fun _ => (exit ((0 : Int))))))
noncomputable def fnDref21_Check (a : Aref21_Check) : Option Yref21_Check := fnref21_Check a some
theorem fnref21_Check_nat (a : Aref21_Check) (k : Yref21_Check → Ans) : fnref21_Check a k = bindO (fnDref21_Check a) k := by
  obtain ⟨a0_0, a0_1, a0_2, a0_3, a0_4, a0_5, a0_6⟩ := a
  simp only [fnDref21_Check, fnref21_Check, bindO_cond, bindO_assoc, bindO_none, bindO_pure, bindO_elim, bindO_unP]
def argsref21_Check : Aref21_Check → List AV := fun (a0_0, a0_1, a0_2, a0_3, a0_4, a0_5, a0_6) => [AV.agg [AV.int IntKind.i64 a0_0, AV.int IntKind.i64 a0_1, AV.int IntKind.i64 a0_2, AV.str a0_3, AV.int IntKind.i64 a0_4, AV.int IntKind.i64 a0_5, AV.str a0_6]]
def decAref21_Check (l : List AV) : Option Aref21_Check := match l with
  | [AV.agg [AV.int IntKind.i64 a0_0, AV.int IntKind.i64 a0_1, AV.int IntKind.i64 a0_2, AV.str a0_3, AV.int IntKind.i64 a0_4, AV.int IntKind.i64 a0_5, AV.str a0_6]] => some (a0_0, a0_1, a0_2, a0_3, a0_4, a0_5, a0_6)
  | _ => none
theorem decAref21_Check_ok (l : List AV) (a : Aref21_Check) (h : decAref21_Check l = some a) : l = argsref21_Check a := by
  unfold decAref21_Check at h
  split at h
  · cases h; rfl
  · cases h
def rendref21_Check : Aref21_Check → Yref21_Check → AV := fun (a0_0, a0_1, a0_2, a0_3, a0_4, a0_5, a0_6) => fun r_y => AV.int IntKind.i64 r_y
theorem rendref21_Check_ok : ∀ (a : Aref21_Check) (y : Yref21_Check), (rendref21_Check a y).closed1 = true := by
  rintro ⟨a0_0, a0_1, a0_2, a0_3, a0_4, a0_5, a0_6⟩ y <;> first | rfl | exact Empty.elim y
theorem fnref21_Check_ok (a : Aref21_Check) : fnE Tryd.tab envref21_Check noHint 0 70 10 Tryd.f10.ntmps Tryd.f10.results.toList annref21_Check bref21_Check (argsref21_Check a) [] (fun v _ => some (v, [])) = fnref21_Check a (fun y => some (rendref21_Check a y, [])) := by kernel_rfl
noncomputable def vFref21_Check (a : Aref21_Check) (K : AV → Ans) : Ans := bindO (fnDref21_Check a) fun y => K (rendref21_Check a y)
noncomputable def Fref21_Check : List AV → (AV → Ans) → Ans := fun l K => bindO (decAref21_Check l) fun a => vFref21_Check a K
theorem Fref21_Check_ok : PureOk Tryd.prog 10 Fref21_Check := pure_mkD (hint := noHint) (d := 0) (n := 70) mixed tabOk envref21_CheckOk Tryd.func10 (bodySome (by kernel_rfl)) (by decide +kernel) annref21_Check_ok decAref21_Check_ok fnref21_Check_ok fnref21_Check_nat rendref21_Check_ok
--@ ref02_Fits
noncomputable def envref02_Fits : Env := []
theorem envref02_FitsOk : EnvOk Tryd.prog envref02_Fits := EnvOk.nil
noncomputable def bref02_Fits : Code := Tryd.f33.body.getD .skip
noncomputable def Lref02_Fits_n1 : Code := codeAt [1, 1, 0, 1, 0, 0] bref02_Fits
noncomputable def annLref02_Fits_n1 : Ann := .at 0 [0, 1, 5] (.loop .none)
theorem annLref02_Fits_n1_ok : AnnOk Tryd.prog 25 (.loop Lref02_Fits_n1) annLref02_Fits_n1 := annOk_at (annOk_none _ _ _)
abbrev Iref02_Fits_n1 := (Int)
abbrev Yref02_Fits_n1 := (Int)
abbrev Vref02_Fits_n1 := (Int) × (Int)
def Sref02_Fits_n1 : Iref02_Fits_n1 → Vref02_Fits_n1 → St := fun t1 (t0, t5) => { env := [(0, AV.int IntKind.i64 t0), (1, AV.int IntKind.i64 t1), (5, AV.int IntKind.i64 t5)], stk := [[]], H := [], blk := 135168 }
def decref02_Fits_n1 (s : St) : Option (Iref02_Fits_n1 × Vref02_Fits_n1) := match s with
  | { env := [(0, AV.int IntKind.i64 t0), (1, AV.int IntKind.i64 t1), (5, AV.int IntKind.i64 t5)], stk := [[]], H := [], blk := 135168 } => some (t1, (t0, t5))
  | _ => none
theorem decref02_Fits_n1_ok (s : St) (x : Iref02_Fits_n1 × Vref02_Fits_n1) (h : decref02_Fits_n1 s = some x) : s = Sref02_Fits_n1 x.1 x.2 := by
  unfold decref02_Fits_n1 at h
  split at h
  · cases h; rfl
  · cases h
def outref02_Fits_n1 : Iref02_Fits_n1 → (Ex → St → Ans) → Yref02_Fits_n1 → Ans := fun t1 K => fun t0_y => K (Ex.exit 0) { env := [(0, AV.int IntKind.i64 t0_y)], stk := [[]], H := [], blk := 135168 }
noncomputable def stepref02_Fits_n1 {β : Type} : Iref02_Fits_n1 → Vref02_Fits_n1 → (Vref02_Fits_n1 → Option β) → (Yref02_Fits_n1 → Option β) → Option β := fun t1 (t0, t5) next exit => (bif decide (t5 < t1) then (next (IntKind.wrap IntKind.i64 (Int.tdiv t0 (256 : Int)), IntKind.wrap IntKind.i64 (t5 + (1 : Int)))) else (exit (t0)))
noncomputable def stepDref02_Fits_n1 (i : Iref02_Fits_n1) (v : Vref02_Fits_n1) : Option (Vref02_Fits_n1 ⊕ Yref02_Fits_n1) := stepref02_Fits_n1 i v (fun v => some (.inl v)) (fun y => some (.inr y))
theorem stepref02_Fits_n1_nat (i : Iref02_Fits_n1) (v : Vref02_Fits_n1) (next : Vref02_Fits_n1 → Ans) (exit : Yref02_Fits_n1 → Ans) : stepref02_Fits_n1 i v next exit = bindO (stepDref02_Fits_n1 i v) (Sum.elim next exit) := by
  obtain z := i
  obtain ⟨t0, t5⟩ := v
  simp only [stepDref02_Fits_n1, stepref02_Fits_n1, bindO_cond, bindO_assoc, bindO_none, bindO_pure, bindO_elim, bindO_unP, Sum.elim_inl, Sum.elim_inr]
theorem stepref02_Fits_n1_ok (n : Nat) (i : Iref02_Fits_n1) (v : Vref02_Fits_n1) (K : Ex → St → Ans) : codeI Tryd.tab envref02_Fits noHint (codeD Tryd.tab envref02_Fits noHint 0 64) (n+1) 25 annLref02_Fits_n1 (.loop Lref02_Fits_n1) (weakP 0 (exk [0] [4] [(0, [0])]) K) (Sref02_Fits_n1 i v) = stepref02_Fits_n1 i v (fun v' => codeI Tryd.tab envref02_Fits noHint (codeD Tryd.tab envref02_Fits noHint 0 64) n 25 annLref02_Fits_n1 (.loop Lref02_Fits_n1) (weakP 0 (exk [0] [4] [(0, [0])]) K) (Sref02_Fits_n1 i v')) (fun y => outref02_Fits_n1 i K y) := by kernel_rfl
theorem GNref02_Fits_n1_ok : CSum Tryd.prog 25 (.loop Lref02_Fits_n1) (sumL decref02_Fits_n1 stepDref02_Fits_n1 outref02_Fits_n1) := csum_loop mixed tabOk envref02_FitsOk 0 (exk [0] [4] [(0, [0])]) annLref02_Fits_n1_ok decref02_Fits_n1_ok stepref02_Fits_n1_ok stepref02_Fits_n1_nat
noncomputable def Gref02_Fits_n1 : (Ex → St → Ans) → St → Ans := (sumL decref02_Fits_n1 stepDref02_Fits_n1 outref02_Fits_n1)
theorem Gref02_Fits_n1_ok : CSum Tryd.prog 25 (.loop Lref02_Fits_n1) Gref02_Fits_n1 := GNref02_Fits_n1_ok
noncomputable def Lref02_Fits_n0 : Code := codeAt [1, 0, 0] bref02_Fits
noncomputable def annLref02_Fits_n0 : Ann := .none
theorem annLref02_Fits_n0_ok : AnnOk Tryd.prog 25 Lref02_Fits_n0 annLref02_Fits_n0 := (annOk_none _ _ _)
abbrev Iref02_Fits_n0 := (Int) × (Int)
abbrev Yref02_Fits_n0 := (Bool)
def Sref02_Fits_n0 : Iref02_Fits_n0 → St := fun (t0, t1) => { env := [(0, AV.int IntKind.i64 t0), (1, AV.int IntKind.i64 t1)], stk := [[]], H := [], blk := 135168 }
def decref02_Fits_n0 (s : St) : Option Iref02_Fits_n0 := match s with
  | { env := [(0, AV.int IntKind.i64 t0), (1, AV.int IntKind.i64 t1)], stk := [[]], H := [], blk := 135168 } => some (t0, t1)
  | _ => none
theorem decref02_Fits_n0_ok (s : St) (x : Iref02_Fits_n0) (h : decref02_Fits_n0 s = some x) : s = Sref02_Fits_n0 x := by
  unfold decref02_Fits_n0 at h
  split at h
  · cases h; rfl
  · cases h
def outref02_Fits_n0 : Iref02_Fits_n0 → (Ex → St → Ans) → Yref02_Fits_n0 → Ans := fun (t0, t1) K => fun t15_y => K (Ex.norm) { env := [(0, AV.int IntKind.i64 t0), (1, AV.int IntKind.i64 t1), (15, AV.bool t15_y)], stk := [[]], H := [], blk := 135168 }
noncomputable def noderef02_Fits_n0 {β : Type} : Iref02_Fits_n0 → (Yref02_Fits_n0 → Option β) → Option β := fun (t0, t1) exit => (bif decide (t1 < (1 : Int)) then (exit (true)) else (bif decide (t1 > (7 : Int)) then (exit (true)) else (exit (decide (t0 < (0 : Int))))))
noncomputable def nodeDref02_Fits_n0 (i : Iref02_Fits_n0) : Option Yref02_Fits_n0 := noderef02_Fits_n0 i some
theorem noderef02_Fits_n0_nat (i : Iref02_Fits_n0) (k : Yref02_Fits_n0 → Ans) : noderef02_Fits_n0 i k = bindO (nodeDref02_Fits_n0 i) k := by
  obtain ⟨t0, t1⟩ := i
  simp only [nodeDref02_Fits_n0, noderef02_Fits_n0, bindO_cond, bindO_assoc, bindO_none, bindO_pure, bindO_elim, bindO_unP]
theorem noderef02_Fits_n0_ok (i : Iref02_Fits_n0) (K : Ex → St → Ans) : codeI Tryd.tab envref02_Fits noHint (codeD Tryd.tab envref02_Fits noHint 0 64) 70 25 annLref02_Fits_n0 Lref02_Fits_n0 (weakP 0 (exk [0, 1, 15] [4] []) K) (Sref02_Fits_n0 i) = noderef02_Fits_n0 i (outref02_Fits_n0 i K) := by kernel_rfl
theorem GNref02_Fits_n0_ok : CSum Tryd.prog 25 Lref02_Fits_n0 (sumN decref02_Fits_n0 nodeDref02_Fits_n0 outref02_Fits_n0) := csum_node mixed tabOk envref02_FitsOk 0 (exk [0, 1, 15] [4] []) annLref02_Fits_n0_ok decref02_Fits_n0_ok noderef02_Fits_n0_ok noderef02_Fits_n0_nat
noncomputable def Gref02_Fits_n0 : (Ex → St → Ans) → St → Ans := (sumN decref02_Fits_n0 nodeDref02_Fits_n0 outref02_Fits_n0)
theorem Gref02_Fits_n0_ok : CSum Tryd.prog 25 Lref02_Fits_n0 Gref02_Fits_n0 := GNref02_Fits_n0_ok
noncomputable def annref02_Fits : Ann := (.seq .none (.seq (.seq (.cut 0 [0, 1] Gref02_Fits_n0) .none) (.seq (.seq .none (.block (.cut 0 [0, 1, 5] Gref02_Fits_n1))) .none)))
theorem annref02_Fits_ok : AnnOk Tryd.prog 25 bref02_Fits annref02_Fits := ⟨(annOk_none _ _ _), ⟨⟨Gref02_Fits_n0_ok, (annOk_none _ _ _)⟩, ⟨⟨(annOk_none _ _ _), Gref02_Fits_n1_ok⟩, (annOk_none _ _ _)⟩⟩⟩
abbrev Aref02_Fits := (Int) × (Int)
abbrev Yref02_Fits := (Bool)
noncomputable def fnref02_Fits {β : Type} : Aref02_Fits → (Yref02_Fits → Option β) → Option β := fun (a0, a1) exit => (bindO (nodeDref02_Fits_n0 (a0, a1)) fun t15 => (bif t15 then (exit (false)) else (bindO (loopD (stepDref02_Fits_n1 (a1)) FUEL (a0, (0 : Int))) fun t0 => (exit (t0 == (0 : Int))))))
noncomputable def fnDref02_Fits (a : Aref02_Fits) : Option Yref02_Fits := fnref02_Fits a some
theorem fnref02_Fits_nat (a : Aref02_Fits) (k : Yref02_Fits → Ans) : fnref02_Fits a k = bindO (fnDref02_Fits a) k := by
  obtain ⟨a0, a1⟩ := a
  simp only [fnDref02_Fits, fnref02_Fits, bindO_cond, bindO_assoc, bindO_none, bindO_pure, bindO_elim, bindO_unP]
def argsref02_Fits : Aref02_Fits → List AV := fun (a0, a1) => [AV.int IntKind.i64 a0, AV.int IntKind.i64 a1]
def decAref02_Fits (l : List AV) : Option Aref02_Fits := match l with
  | [AV.int IntKind.i64 a0, AV.int IntKind.i64 a1] => some (a0, a1)
  | _ => none
theorem decAref02_Fits_ok (l : List AV) (a : Aref02_Fits) (h : decAref02_Fits l = some a) : l = argsref02_Fits a := by
  unfold decAref02_Fits at h
  split at h
  · cases h; rfl
  · cases h
def rendref02_Fits : Aref02_Fits → Yref02_Fits → AV := fun (a0, a1) => fun r_y => AV.bool r_y
theorem rendref02_Fits_ok : ∀ (a : Aref02_Fits) (y : Yref02_Fits), (rendref02_Fits a y).closed1 = true := by
  rintro ⟨a0, a1⟩ y <;> first | rfl | exact Empty.elim y
theorem fnref02_Fits_ok (a : Aref02_Fits) : fnE Tryd.tab envref02_Fits noHint 0 70 33 Tryd.f33.ntmps Tryd.f33.results.toList annref02_Fits bref02_Fits (argsref02_Fits a) [] (fun v _ => some (v, [])) = fnref02_Fits a (fun y => some (rendref02_Fits a y, [])) := by kernel_rfl
noncomputable def vFref02_Fits (a : Aref02_Fits) (K : AV → Ans) : Ans := bindO (fnDref02_Fits a) fun y => K (rendref02_Fits a y)
noncomputable def Fref02_Fits : List AV → (AV → Ans) → Ans := fun l K => bindO (decAref02_Fits l) fun a => vFref02_Fits a K
theorem Fref02_Fits_ok : PureOk Tryd.prog 33 Fref02_Fits := pure_mkD (hint := noHint) (d := 0) (n := 70) mixed tabOk envref02_FitsOk Tryd.func33 (bodySome (by kernel_rfl)) (by decide +kernel) annref02_Fits_ok decAref02_Fits_ok fnref02_Fits_ok fnref02_Fits_nat rendref02_Fits_ok
--@ ref02_Put
noncomputable def envref02_Put : Env := [(33, .pure Fref02_Fits)]
theorem envref02_PutOk : EnvOk Tryd.prog envref02_Put := EnvOk.cons Fref02_Fits_ok (EnvOk.nil)
noncomputable def bref02_Put : Code := Tryd.f18.body.getD .skip
noncomputable def Lref02_Put_n0 : Code := codeAt [1, 1, 1, 0, 1, 0, 0] bref02_Put
noncomputable def annLref02_Put_n0 : Ann := .at 0 [0, 1, 2, 7, 8] (.loop .none)
theorem annLref02_Put_n0_ok : AnnOk Tryd.prog 31 (.loop Lref02_Put_n0) annLref02_Put_n0 := annOk_at (annOk_none _ _ _)
abbrev Iref02_Put_n0 := (List UInt8) × (Int)
abbrev Yref02_Put_n0 := (List UInt8)
abbrev Vref02_Put_n0 := (Int) × (List UInt8) × (Int)
def Sref02_Put_n0 : Iref02_Put_n0 → Vref02_Put_n0 → St := fun (t0, t2) (t1, t7, t8) => { env := [(0, AV.str t0), (1, AV.int IntKind.i64 t1), (2, AV.int IntKind.i64 t2), (7, AV.str t7), (8, AV.int IntKind.i64 t8)], stk := [[]], H := [], blk := 73728 }
def decref02_Put_n0 (s : St) : Option (Iref02_Put_n0 × Vref02_Put_n0) := match s with
  | { env := [(0, AV.str t0), (1, AV.int IntKind.i64 t1), (2, AV.int IntKind.i64 t2), (7, AV.str t7), (8, AV.int IntKind.i64 t8)], stk := [[]], H := [], blk := 73728 } => some ((t0, t2), (t1, t7, t8))
  | _ => none
theorem decref02_Put_n0_ok (s : St) (x : Iref02_Put_n0 × Vref02_Put_n0) (h : decref02_Put_n0 s = some x) : s = Sref02_Put_n0 x.1 x.2 := by
  unfold decref02_Put_n0 at h
  split at h
  · cases h; rfl
  · cases h
def outref02_Put_n0 : Iref02_Put_n0 → (Ex → St → Ans) → Yref02_Put_n0 → Ans := fun (t0, t2) K => fun t7_y => K (Ex.exit 0) { env := [(0, AV.str t0), (7, AV.str t7_y)], stk := [[]], H := [], blk := 73728 }
noncomputable def stepref02_Put_n0 {β : Type} : Iref02_Put_n0 → Vref02_Put_n0 → (Vref02_Put_n0 → Option β) → (Yref02_Put_n0 → Option β) → Option β := fun (t0, t2) (t1, t7, t8) next exit => (bif decide (t8 < t2) then (bif Nat.ble (List.length (bytesOf [IntKind.wrap IntKind.u8 (Int.tmod t1 (256 : Int))]) + List.length t7) (9223372036854775807 : Nat) then (next (IntKind.wrap IntKind.i64 (Int.tdiv t1 (256 : Int)), bytesOf [IntKind.wrap IntKind.u8 (Int.tmod t1 (256 : Int))] ++ t7, IntKind.wrap IntKind.i64 (t8 + (1 : Int)))) else none) else (exit (t7)))
noncomputable def stepDref02_Put_n0 (i : Iref02_Put_n0) (v : Vref02_Put_n0) : Option (Vref02_Put_n0 ⊕ Yref02_Put_n0) := stepref02_Put_n0 i v (fun v => some (.inl v)) (fun y => some (.inr y))
theorem stepref02_Put_n0_nat (i : Iref02_Put_n0) (v : Vref02_Put_n0) (next : Vref02_Put_n0 → Ans) (exit : Yref02_Put_n0 → Ans) : stepref02_Put_n0 i v next exit = bindO (stepDref02_Put_n0 i v) (Sum.elim next exit) := by
  obtain ⟨t0, t2⟩ := i
  obtain ⟨t1, t7, t8⟩ := v
  simp only [stepDref02_Put_n0, stepref02_Put_n0, bindO_cond, bindO_assoc, bindO_none, bindO_pure, bindO_elim, bindO_unP, Sum.elim_inl, Sum.elim_inr]
theorem stepref02_Put_n0_ok (n : Nat) (i : Iref02_Put_n0) (v : Vref02_Put_n0) (K : Ex → St → Ans) : codeI Tryd.tab envref02_Put noHint (codeD Tryd.tab envref02_Put noHint 0 64) (n+1) 31 annLref02_Put_n0 (.loop Lref02_Put_n0) (weakP 0 (exk [0, 7] [6] [(0, [0, 7])]) K) (Sref02_Put_n0 i v) = stepref02_Put_n0 i v (fun v' => codeI Tryd.tab envref02_Put noHint (codeD Tryd.tab envref02_Put noHint 0 64) n 31 annLref02_Put_n0 (.loop Lref02_Put_n0) (weakP 0 (exk [0, 7] [6] [(0, [0, 7])]) K) (Sref02_Put_n0 i v')) (fun y => outref02_Put_n0 i K y) := by kernel_rfl
theorem GNref02_Put_n0_ok : CSum Tryd.prog 31 (.loop Lref02_Put_n0) (sumL decref02_Put_n0 stepDref02_Put_n0 outref02_Put_n0) := csum_loop mixed tabOk envref02_PutOk 0 (exk [0, 7] [6] [(0, [0, 7])]) annLref02_Put_n0_ok decref02_Put_n0_ok stepref02_Put_n0_ok stepref02_Put_n0_nat
noncomputable def Gref02_Put_n0 : (Ex → St → Ans) → St → Ans := (sumL decref02_Put_n0 stepDref02_Put_n0 outref02_Put_n0)
theorem Gref02_Put_n0_ok : CSum Tryd.prog 31 (.loop Lref02_Put_n0) Gref02_Put_n0 := GNref02_Put_n0_ok
noncomputable def annref02_Put : Ann := (.seq .none (.seq .none (.seq .none (.seq (.seq .none (.block (.cut 0 [0, 1, 2, 7, 8] Gref02_Put_n0))) .none))))
theorem annref02_Put_ok : AnnOk Tryd.prog 31 bref02_Put annref02_Put := ⟨(annOk_none _ _ _), ⟨(annOk_none _ _ _), ⟨(annOk_none _ _ _), ⟨⟨(annOk_none _ _ _), Gref02_Put_n0_ok⟩, (annOk_none _ _ _)⟩⟩⟩⟩
abbrev Aref02_Put := (List UInt8) × (Int) × (Int)
abbrev Yref02_Put := (List UInt8)
noncomputable def fnref02_Put {β : Type} : Aref02_Put → (Yref02_Put → Option β) → Option β := fun (a0, a1, a2) exit => (bindO (fnDref02_Fits (a1, a2)) fun r => (bif !r then (exit (a0)) else (bindO (loopD (stepDref02_Put_n0 (a0, a2)) FUEL (a1, [], (0 : Int))) fun t7 => (bif Nat.ble (List.length a0 + List.length t7) (9223372036854775807 : Nat) then (exit (a0 ++ t7)) else none))))
noncomputable def fnDref02_Put (a : Aref02_Put) : Option Yref02_Put := fnref02_Put a some
theorem fnref02_Put_nat (a : Aref02_Put) (k : Yref02_Put → Ans) : fnref02_Put a k = bindO (fnDref02_Put a) k := by
  obtain ⟨a0, a1, a2⟩ := a
  simp only [fnDref02_Put, fnref02_Put, bindO_cond, bindO_assoc, bindO_none, bindO_pure, bindO_elim, bindO_unP]
def argsref02_Put : Aref02_Put → List AV := fun (a0, a1, a2) => [AV.str a0, AV.int IntKind.i64 a1, AV.int IntKind.i64 a2]
def decAref02_Put (l : List AV) : Option Aref02_Put := match l with
  | [AV.str a0, AV.int IntKind.i64 a1, AV.int IntKind.i64 a2] => some (a0, a1, a2)
  | _ => none
theorem decAref02_Put_ok (l : List AV) (a : Aref02_Put) (h : decAref02_Put l = some a) : l = argsref02_Put a := by
  unfold decAref02_Put at h
  split at h
  · cases h; rfl
  · cases h
def rendref02_Put : Aref02_Put → Yref02_Put → AV := fun (a0, a1, a2) => fun r_y => AV.str r_y
theorem rendref02_Put_ok : ∀ (a : Aref02_Put) (y : Yref02_Put), (rendref02_Put a y).closed1 = true := by
  rintro ⟨a0, a1, a2⟩ y <;> first | rfl | exact Empty.elim y
theorem fnref02_Put_ok (a : Aref02_Put) : fnE Tryd.tab envref02_Put noHint 0 70 18 Tryd.f18.ntmps Tryd.f18.results.toList annref02_Put bref02_Put (argsref02_Put a) [] (fun v _ => some (v, [])) = fnref02_Put a (fun y => some (rendref02_Put a y, [])) := by kernel_rfl
noncomputable def vFref02_Put (a : Aref02_Put) (K : AV → Ans) : Ans := bindO (fnDref02_Put a) fun y => K (rendref02_Put a y)
noncomputable def Fref02_Put : List AV → (AV → Ans) → Ans := fun l K => bindO (decAref02_Put l) fun a => vFref02_Put a K
theorem Fref02_Put_ok : PureOk Tryd.prog 18 Fref02_Put := pure_mkD (hint := noHint) (d := 0) (n := 70) mixed tabOk envref02_PutOk Tryd.func18 (bodySome (by kernel_rfl)) (by decide +kernel) annref02_Put_ok decAref02_Put_ok fnref02_Put_ok fnref02_Put_nat rendref02_Put_ok
--@ ref05_Put
noncomputable def envref05_Put : Env := [(18, .pure Fref02_Put)]
theorem envref05_PutOk : EnvOk Tryd.prog envref05_Put := EnvOk.cons Fref02_Put_ok (EnvOk.nil)
noncomputable def bref05_Put : Code := Tryd.f17.body.getD .skip
noncomputable def annref05_Put : Ann := .none
theorem annref05_Put_ok : AnnOk Tryd.prog 12 bref05_Put annref05_Put := (annOk_none _ _ _)
abbrev Aref05_Put := (List UInt8) × (Int) × (Int)
abbrev Yref05_Put := (List UInt8)
noncomputable def fnref05_Put {β : Type} : Aref05_Put → (Yref05_Put → Option β) → Option β := fun (a0, a1_0, a1_1) exit => (bindO (fnDref02_Put (a0, a1_0, (7 : Int))) fun r => (bindO (fnDref02_Put (r, a1_1, (7 : Int))) fun r_2 => (exit (r_2))))
noncomputable def fnDref05_Put (a : Aref05_Put) : Option Yref05_Put := fnref05_Put a some
theorem fnref05_Put_nat (a : Aref05_Put) (k : Yref05_Put → Ans) : fnref05_Put a k = bindO (fnDref05_Put a) k := by
  obtain ⟨a0, a1_0, a1_1⟩ := a
  simp only [fnDref05_Put, fnref05_Put, bindO_cond, bindO_assoc, bindO_none, bindO_pure, bindO_elim, bindO_unP]
def argsref05_Put : Aref05_Put → List AV := fun (a0, a1_0, a1_1) => [AV.str a0, AV.agg [AV.int IntKind.i64 a1_0, AV.int IntKind.i64 a1_1]]
def decAref05_Put (l : List AV) : Option Aref05_Put := match l with
  | [AV.str a0, AV.agg [AV.int IntKind.i64 a1_0, AV.int IntKind.i64 a1_1]] => some (a0, a1_0, a1_1)
  | _ => none
theorem decAref05_Put_ok (l : List AV) (a : Aref05_Put) (h : decAref05_Put l = some a) : l = argsref05_Put a := by
  unfold decAref05_Put at h
  split at h
  · cases h; rfl
  · cases h
def rendref05_Put : Aref05_Put → Yref05_Put → AV := fun (a0, a1_0, a1_1) => fun r_y => AV.str r_y
theorem rendref05_Put_ok : ∀ (a : Aref05_Put) (y : Yref05_Put), (rendref05_Put a y).closed1 = true := by
  rintro ⟨a0, a1_0, a1_1⟩ y <;> first | rfl | exact Empty.elim y
theorem fnref05_Put_ok (a : Aref05_Put) : fnE Tryd.tab envref05_Put noHint 0 70 17 Tryd.f17.ntmps Tryd.f17.results.toList annref05_Put bref05_Put (argsref05_Put a) [] (fun v _ => some (v, [])) = fnref05_Put a (fun y => some (rendref05_Put a y, [])) := by kernel_rfl
noncomputable def vFref05_Put (a : Aref05_Put) (K : AV → Ans) : Ans := bindO (fnDref05_Put a) fun y => K (rendref05_Put a y)
noncomputable def Fref05_Put : List AV → (AV → Ans) → Ans := fun l K => bindO (decAref05_Put l) fun a => vFref05_Put a K
theorem Fref05_Put_ok : PureOk Tryd.prog 17 Fref05_Put := pure_mkD (hint := noHint) (d := 0) (n := 70) mixed tabOk envref05_PutOk Tryd.func17 (bodySome (by kernel_rfl)) (by decide +kernel) annref05_Put_ok decAref05_Put_ok fnref05_Put_ok fnref05_Put_nat rendref05_Put_ok
--@ ref03_Of
noncomputable def envref03_Of : Env := []
theorem envref03_OfOk : EnvOk Tryd.prog envref03_Of := EnvOk.nil
noncomputable def bref03_Of : Code := Tryd.f34.body.getD .skip
noncomputable def Lref03_Of_n2 : Code := codeAt [1, 1, 0, 1, 0, 0, 1, 0, 0, 1, 1, 0, 0, 1, 0] bref03_Of
noncomputable def annLref03_Of_n2 : Ann := .none
theorem annLref03_Of_n2_ok : AnnOk Tryd.prog 33 Lref03_Of_n2 annLref03_Of_n2 := (annOk_none _ _ _)
abbrev Iref03_Of_n2 := (List UInt8) × (Int) × (Int) × (Int)
abbrev Yref03_Of_n2 := (Int)
def Sref03_Of_n2 : Iref03_Of_n2 → St := fun (t0, t3, t4, t5) => { env := [(0, AV.str t0), (3, AV.int IntKind.i64 t3), (4, AV.int IntKind.i64 t4), (5, AV.int IntKind.i64 t5)], stk := [[]], H := [], blk := 139266 }
def decref03_Of_n2 (s : St) : Option Iref03_Of_n2 := match s with
  | { env := [(0, AV.str t0), (3, AV.int IntKind.i64 t3), (4, AV.int IntKind.i64 t4), (5, AV.int IntKind.i64 t5)], stk := [[]], H := [], blk := 139266 } => some (t0, t3, t4, t5)
  | _ => none
theorem decref03_Of_n2_ok (s : St) (x : Iref03_Of_n2) (h : decref03_Of_n2 s = some x) : s = Sref03_Of_n2 x := by
  unfold decref03_Of_n2 at h
  split at h
  · cases h; rfl
  · cases h
def outref03_Of_n2 : Iref03_Of_n2 → (Ex → St → Ans) → Yref03_Of_n2 → Ans := fun (t0, t3, t4, t5) K => fun t3_y => K (Ex.norm) { env := [(0, AV.str t0), (3, AV.int IntKind.i64 t3_y), (4, AV.int IntKind.i64 t4), (5, AV.int IntKind.i64 t5)], stk := [[]], H := [], blk := 139267 }
noncomputable def noderef03_Of_n2 {β : Type} : Iref03_Of_n2 → (Yref03_Of_n2 → Option β) → Option β := fun (t0, t3, t4, t5) exit => (bif Int.tmod t3 (2 : Int) == (1 : Int) then (exit (IntKind.wrap IntKind.i64 (↑(Int.toNat (IntKind.wrap IntKind.i64 (Int.tdiv t3 (2 : Int)) % (18446744073709551616 : Int)) ^^^ (3988292384 : Nat)) : Int))) else (exit (IntKind.wrap IntKind.i64 (Int.tdiv t3 (2 : Int)))))
noncomputable def nodeDref03_Of_n2 (i : Iref03_Of_n2) : Option Yref03_Of_n2 := noderef03_Of_n2 i some
theorem noderef03_Of_n2_nat (i : Iref03_Of_n2) (k : Yref03_Of_n2 → Ans) : noderef03_Of_n2 i k = bindO (nodeDref03_Of_n2 i) k := by
  obtain ⟨t0, t3, t4, t5⟩ := i
  simp only [nodeDref03_Of_n2, noderef03_Of_n2, bindO_cond, bindO_assoc, bindO_none, bindO_pure, bindO_elim, bindO_unP]
theorem noderef03_Of_n2_ok (i : Iref03_Of_n2) (K : Ex → St → Ans) : codeI Tryd.tab envref03_Of noHint (codeD Tryd.tab envref03_Of noHint 0 64) 70 33 annLref03_Of_n2 Lref03_Of_n2 (weakP 0 (exk [0, 3, 4, 5] [2] []) K) (Sref03_Of_n2 i) = noderef03_Of_n2 i (outref03_Of_n2 i K) := by kernel_rfl
theorem GNref03_Of_n2_ok : CSum Tryd.prog 33 Lref03_Of_n2 (sumN decref03_Of_n2 nodeDref03_Of_n2 outref03_Of_n2) := csum_node mixed tabOk envref03_OfOk 0 (exk [0, 3, 4, 5] [2] []) annLref03_Of_n2_ok decref03_Of_n2_ok noderef03_Of_n2_ok noderef03_Of_n2_nat
noncomputable def Gref03_Of_n2 : (Ex → St → Ans) → St → Ans := (sumN decref03_Of_n2 nodeDref03_Of_n2 outref03_Of_n2)
theorem Gref03_Of_n2_ok : CSum Tryd.prog 33 Lref03_Of_n2 Gref03_Of_n2 := GNref03_Of_n2_ok
noncomputable def Lref03_Of_n1 : Code := codeAt [1, 1, 0, 1, 0, 0, 1, 0, 0, 1, 1, 0, 0] bref03_Of
noncomputable def annLref03_Of_n1 : Ann := .at 0 [0, 3, 4, 5] (.loop (.seq .none (.seq (.cut 0 [0, 3, 4, 5] Gref03_Of_n2) .none)))
theorem annLref03_Of_n1_ok : AnnOk Tryd.prog 33 (.loop Lref03_Of_n1) annLref03_Of_n1 := annOk_at ⟨(annOk_none _ _ _), ⟨Gref03_Of_n2_ok, (annOk_none _ _ _)⟩⟩
abbrev Iref03_Of_n1 := (List UInt8) × (Int)
abbrev Yref03_Of_n1 := (Int)
abbrev Vref03_Of_n1 := (Int) × (Int)
def Sref03_Of_n1 : Iref03_Of_n1 → Vref03_Of_n1 → St := fun (t0, t4) (t3, t5) => { env := [(0, AV.str t0), (3, AV.int IntKind.i64 t3), (4, AV.int IntKind.i64 t4), (5, AV.int IntKind.i64 t5)], stk := [[]], H := [], blk := 139266 }
def decref03_Of_n1 (s : St) : Option (Iref03_Of_n1 × Vref03_Of_n1) := match s with
  | { env := [(0, AV.str t0), (3, AV.int IntKind.i64 t3), (4, AV.int IntKind.i64 t4), (5, AV.int IntKind.i64 t5)], stk := [[]], H := [], blk := 139266 } => some ((t0, t4), (t3, t5))
  | _ => none
theorem decref03_Of_n1_ok (s : St) (x : Iref03_Of_n1 × Vref03_Of_n1) (h : decref03_Of_n1 s = some x) : s = Sref03_Of_n1 x.1 x.2 := by
  unfold decref03_Of_n1 at h
  split at h
  · cases h; rfl
  · cases h
def outref03_Of_n1 : Iref03_Of_n1 → (Ex → St → Ans) → Yref03_Of_n1 → Ans := fun (t0, t4) K => fun t3_y => K (Ex.exit 2) { env := [(0, AV.str t0), (3, AV.int IntKind.i64 t3_y), (4, AV.int IntKind.i64 t4)], stk := [[]], H := [], blk := 139266 }
noncomputable def stepref03_Of_n1 {β : Type} : Iref03_Of_n1 → Vref03_Of_n1 → (Vref03_Of_n1 → Option β) → (Yref03_Of_n1 → Option β) → Option β := fun (t0, t4) (t3, t5) next exit => (bif decide (t5 < (8 : Int)) then (bindO (nodeDref03_Of_n2 (t0, t3, t4, t5)) fun t3_2 => (next (t3_2, IntKind.wrap IntKind.i64 (t5 + (1 : Int))))) else (exit (t3)))
noncomputable def stepDref03_Of_n1 (i : Iref03_Of_n1) (v : Vref03_Of_n1) : Option (Vref03_Of_n1 ⊕ Yref03_Of_n1) := stepref03_Of_n1 i v (fun v => some (.inl v)) (fun y => some (.inr y))
theorem stepref03_Of_n1_nat (i : Iref03_Of_n1) (v : Vref03_Of_n1) (next : Vref03_Of_n1 → Ans) (exit : Yref03_Of_n1 → Ans) : stepref03_Of_n1 i v next exit = bindO (stepDref03_Of_n1 i v) (Sum.elim next exit) := by
  obtain ⟨t0, t4⟩ := i
  obtain ⟨t3, t5⟩ := v
  simp only [stepDref03_Of_n1, stepref03_Of_n1, bindO_cond, bindO_assoc, bindO_none, bindO_pure, bindO_elim, bindO_unP, Sum.elim_inl, Sum.elim_inr]
theorem stepref03_Of_n1_ok (n : Nat) (i : Iref03_Of_n1) (v : Vref03_Of_n1) (K : Ex → St → Ans) : codeI Tryd.tab envref03_Of noHint (codeD Tryd.tab envref03_Of noHint 0 64) (n+1) 33 annLref03_Of_n1 (.loop Lref03_Of_n1) (weakP 0 (exk [0, 3, 4] [2] [(2, [0, 3, 4])]) K) (Sref03_Of_n1 i v) = stepref03_Of_n1 i v (fun v' => codeI Tryd.tab envref03_Of noHint (codeD Tryd.tab envref03_Of noHint 0 64) n 33 annLref03_Of_n1 (.loop Lref03_Of_n1) (weakP 0 (exk [0, 3, 4] [2] [(2, [0, 3, 4])]) K) (Sref03_Of_n1 i v')) (fun y => outref03_Of_n1 i K y) := by kernel_rfl
theorem GNref03_Of_n1_ok : CSum Tryd.prog 33 (.loop Lref03_Of_n1) (sumL decref03_Of_n1 stepDref03_Of_n1 outref03_Of_n1) := csum_loop mixed tabOk envref03_OfOk 0 (exk [0, 3, 4] [2] [(2, [0, 3, 4])]) annLref03_Of_n1_ok decref03_Of_n1_ok stepref03_Of_n1_ok stepref03_Of_n1_nat
noncomputable def Gref03_Of_n1 : (Ex → St → Ans) → St → Ans := (sumL decref03_Of_n1 stepDref03_Of_n1 outref03_Of_n1)
theorem Gref03_Of_n1_ok : CSum Tryd.prog 33 (.loop Lref03_Of_n1) Gref03_Of_n1 := GNref03_Of_n1_ok
noncomputable def Lref03_Of_n0 : Code := codeAt [1, 1, 0, 1, 0, 0] bref03_Of
noncomputable def annLref03_Of_n0 : Ann := .at 0 [0, 3, 4] (.loop (.seq .none (.seq (.block (.seq .none (.seq .none (.block (.cut 0 [0, 3, 4, 5] Gref03_Of_n1))))) .none)))
theorem annLref03_Of_n0_ok : AnnOk Tryd.prog 33 (.loop Lref03_Of_n0) annLref03_Of_n0 := annOk_at ⟨(annOk_none _ _ _), ⟨⟨(annOk_none _ _ _), ⟨(annOk_none _ _ _), Gref03_Of_n1_ok⟩⟩, (annOk_none _ _ _)⟩⟩
abbrev Iref03_Of_n0 := (List UInt8)
abbrev Yref03_Of_n0 := (Int)
abbrev Vref03_Of_n0 := (Int) × (Int)
def Sref03_Of_n0 : Iref03_Of_n0 → Vref03_Of_n0 → St := fun t0 (t3, t4) => { env := [(0, AV.str t0), (3, AV.int IntKind.i64 t3), (4, AV.int IntKind.i64 t4)], stk := [[]], H := [], blk := 139264 }
def decref03_Of_n0 (s : St) : Option (Iref03_Of_n0 × Vref03_Of_n0) := match s with
  | { env := [(0, AV.str t0), (3, AV.int IntKind.i64 t3), (4, AV.int IntKind.i64 t4)], stk := [[]], H := [], blk := 139264 } => some (t0, (t3, t4))
  | _ => none
theorem decref03_Of_n0_ok (s : St) (x : Iref03_Of_n0 × Vref03_Of_n0) (h : decref03_Of_n0 s = some x) : s = Sref03_Of_n0 x.1 x.2 := by
  unfold decref03_Of_n0 at h
  split at h
  · cases h; rfl
  · cases h
def outref03_Of_n0 : Iref03_Of_n0 → (Ex → St → Ans) → Yref03_Of_n0 → Ans := fun t0 K => fun t3_y => K (Ex.exit 0) { env := [(3, AV.int IntKind.i64 t3_y)], stk := [[]], H := [], blk := 139264 }
noncomputable def stepref03_Of_n0 {β : Type} : Iref03_Of_n0 → Vref03_Of_n0 → (Vref03_Of_n0 → Option β) → (Yref03_Of_n0 → Option β) → Option β := fun t0 (t3, t4) next exit => (bif decide (t4 < (↑(List.length t0) : Int)) then (bindO (nth t0 t4) fun x => (bindO (loopD (stepDref03_Of_n1 (t0, t4)) FUEL (IntKind.wrap IntKind.i64 (↑(Int.toNat (t3 % (18446744073709551616 : Int)) ^^^ Int.toNat (IntKind.wrap IntKind.i64 (↑(UInt8.toNat x) : Int) % (18446744073709551616 : Int))) : Int), (0 : Int))) fun t3_2 => (next (t3_2, IntKind.wrap IntKind.i64 (t4 + (1 : Int)))))) else (exit (t3)))
noncomputable def stepDref03_Of_n0 (i : Iref03_Of_n0) (v : Vref03_Of_n0) : Option (Vref03_Of_n0 ⊕ Yref03_Of_n0) := stepref03_Of_n0 i v (fun v => some (.inl v)) (fun y => some (.inr y))
theorem stepref03_Of_n0_nat (i : Iref03_Of_n0) (v : Vref03_Of_n0) (next : Vref03_Of_n0 → Ans) (exit : Yref03_Of_n0 → Ans) : stepref03_Of_n0 i v next exit = bindO (stepDref03_Of_n0 i v) (Sum.elim next exit) := by
  obtain z := i
  obtain ⟨t3, t4⟩ := v
  simp only [stepDref03_Of_n0, stepref03_Of_n0, bindO_cond, bindO_assoc, bindO_none, bindO_pure, bindO_elim, bindO_unP, Sum.elim_inl, Sum.elim_inr]
theorem stepref03_Of_n0_ok (n : Nat) (i : Iref03_Of_n0) (v : Vref03_Of_n0) (K : Ex → St → Ans) : codeI Tryd.tab envref03_Of noHint (codeD Tryd.tab envref03_Of noHint 0 64) (n+1) 33 annLref03_Of_n0 (.loop Lref03_Of_n0) (weakP 0 (exk [3] [2] [(0, [3])]) K) (Sref03_Of_n0 i v) = stepref03_Of_n0 i v (fun v' => codeI Tryd.tab envref03_Of noHint (codeD Tryd.tab envref03_Of noHint 0 64) n 33 annLref03_Of_n0 (.loop Lref03_Of_n0) (weakP 0 (exk [3] [2] [(0, [3])]) K) (Sref03_Of_n0 i v')) (fun y => outref03_Of_n0 i K y) := by kernel_rfl
theorem GNref03_Of_n0_ok : CSum Tryd.prog 33 (.loop Lref03_Of_n0) (sumL decref03_Of_n0 stepDref03_Of_n0 outref03_Of_n0) := csum_loop mixed tabOk envref03_OfOk 0 (exk [3] [2] [(0, [3])]) annLref03_Of_n0_ok decref03_Of_n0_ok stepref03_Of_n0_ok stepref03_Of_n0_nat
noncomputable def Gref03_Of_n0 : (Ex → St → Ans) → St → Ans := (sumL decref03_Of_n0 stepDref03_Of_n0 outref03_Of_n0)
theorem Gref03_Of_n0_ok : CSum Tryd.prog 33 (.loop Lref03_Of_n0) Gref03_Of_n0 := GNref03_Of_n0_ok
noncomputable def annref03_Of : Ann := (.seq .none (.seq .none (.seq (.seq .none (.block (.cut 0 [0, 3, 4] Gref03_Of_n0))) .none)))
theorem annref03_Of_ok : AnnOk Tryd.prog 33 bref03_Of annref03_Of := ⟨(annOk_none _ _ _), ⟨(annOk_none _ _ _), ⟨⟨(annOk_none _ _ _), Gref03_Of_n0_ok⟩, (annOk_none _ _ _)⟩⟩⟩
abbrev Aref03_Of := (List UInt8)
abbrev Yref03_Of := (Int)
noncomputable def fnref03_Of {β : Type} : Aref03_Of → (Yref03_Of → Option β) → Option β := fun a0 exit => (bindO (loopD (stepDref03_Of_n0 (a0)) FUEL ((4294967295 : Int), (0 : Int))) fun t3 => (exit (IntKind.wrap IntKind.i64 (↑(Int.toNat (t3 % (18446744073709551616 : Int)) ^^^ (4294967295 : Nat)) : Int))))
noncomputable def fnDref03_Of (a : Aref03_Of) : Option Yref03_Of := fnref03_Of a some
theorem fnref03_Of_nat (a : Aref03_Of) (k : Yref03_Of → Ans) : fnref03_Of a k = bindO (fnDref03_Of a) k := by
  obtain z := a
  simp only [fnDref03_Of, fnref03_Of, bindO_cond, bindO_assoc, bindO_none, bindO_pure, bindO_elim, bindO_unP]
def argsref03_Of : Aref03_Of → List AV := fun a0 => [AV.str a0]
def decAref03_Of (l : List AV) : Option Aref03_Of := match l with
  | [AV.str a0] => some (a0)
  | _ => none
theorem decAref03_Of_ok (l : List AV) (a : Aref03_Of) (h : decAref03_Of l = some a) : l = argsref03_Of a := by
  unfold decAref03_Of at h
  split at h
  · cases h; rfl
  · cases h
def rendref03_Of : Aref03_Of → Yref03_Of → AV := fun a0 => fun r_y => AV.int IntKind.i64 r_y
theorem rendref03_Of_ok : ∀ (a : Aref03_Of) (y : Yref03_Of), (rendref03_Of a y).closed1 = true := by
  rintro z y <;> first | rfl | exact Empty.elim y
theorem fnref03_Of_ok (a : Aref03_Of) : fnE Tryd.tab envref03_Of noHint 0 70 34 Tryd.f34.ntmps Tryd.f34.results.toList annref03_Of bref03_Of (argsref03_Of a) [] (fun v _ => some (v, [])) = fnref03_Of a (fun y => some (rendref03_Of a y, [])) := by kernel_rfl
noncomputable def vFref03_Of (a : Aref03_Of) (K : AV → Ans) : Ans := bindO (fnDref03_Of a) fun y => K (rendref03_Of a y)
noncomputable def Fref03_Of : List AV → (AV → Ans) → Ans := fun l K => bindO (decAref03_Of l) fun a => vFref03_Of a K
theorem Fref03_Of_ok : PureOk Tryd.prog 34 Fref03_Of := pure_mkD (hint := noHint) (d := 0) (n := 70) mixed tabOk envref03_OfOk Tryd.func34 (bodySome (by kernel_rfl)) (by decide +kernel) annref03_Of_ok decAref03_Of_ok fnref03_Of_ok fnref03_Of_nat rendref03_Of_ok
--@ ref03_Tail
noncomputable def envref03_Tail : Env := [(34, .pure Fref03_Of)]
theorem envref03_TailOk : EnvOk Tryd.prog envref03_Tail := EnvOk.cons Fref03_Of_ok (EnvOk.nil)
noncomputable def bref03_Tail : Code := Tryd.f19.body.getD .skip
noncomputable def annref03_Tail : Ann := .none
theorem annref03_Tail_ok : AnnOk Tryd.prog 23 bref03_Tail annref03_Tail := (annOk_none _ _ _)
abbrev Aref03_Tail := (List UInt8)
abbrev Yref03_Tail := (List UInt8)
noncomputable def fnref03_Tail {β : Type} : Aref03_Tail → (Yref03_Tail → Option β) → Option β := fun a0 exit => (bindO (fnDref03_Of (a0)) fun r => (exit (bytesOf [IntKind.wrap IntKind.u8 (Int.tmod r (256 : Int)), IntKind.wrap IntKind.u8 (Int.tmod (IntKind.wrap IntKind.i64 (Int.tdiv r (256 : Int))) (256 : Int)), IntKind.wrap IntKind.u8 (Int.tmod (IntKind.wrap IntKind.i64 (Int.tdiv r (65536 : Int))) (256 : Int)), IntKind.wrap IntKind.u8 (Int.tmod (IntKind.wrap IntKind.i64 (Int.tdiv r (16777216 : Int))) (256 : Int))])))
noncomputable def fnDref03_Tail (a : Aref03_Tail) : Option Yref03_Tail := fnref03_Tail a some
theorem fnref03_Tail_nat (a : Aref03_Tail) (k : Yref03_Tail → Ans) : fnref03_Tail a k = bindO (fnDref03_Tail a) k := by
  obtain z := a
  simp only [fnDref03_Tail, fnref03_Tail, bindO_cond, bindO_assoc, bindO_none, bindO_pure, bindO_elim, bindO_unP]
def argsref03_Tail : Aref03_Tail → List AV := fun a0 => [AV.str a0]
def decAref03_Tail (l : List AV) : Option Aref03_Tail := match l with
  | [AV.str a0] => some (a0)
  | _ => none
theorem decAref03_Tail_ok (l : List AV) (a : Aref03_Tail) (h : decAref03_Tail l = some a) : l = argsref03_Tail a := by
  unfold decAref03_Tail at h
  split at h
  · cases h; rfl
  · cases h
def rendref03_Tail : Aref03_Tail → Yref03_Tail → AV := fun a0 => fun r_y => AV.str r_y
theorem rendref03_Tail_ok : ∀ (a : Aref03_Tail) (y : Yref03_Tail), (rendref03_Tail a y).closed1 = true := by
  rintro z y <;> first | rfl | exact Empty.elim y
theorem fnref03_Tail_ok (a : Aref03_Tail) : fnE Tryd.tab envref03_Tail noHint 0 70 19 Tryd.f19.ntmps Tryd.f19.results.toList annref03_Tail bref03_Tail (argsref03_Tail a) [] (fun v _ => some (v, [])) = fnref03_Tail a (fun y => some (rendref03_Tail a y, [])) := by kernel_rfl
noncomputable def vFref03_Tail (a : Aref03_Tail) (K : AV → Ans) : Ans := bindO (fnDref03_Tail a) fun y => K (rendref03_Tail a y)
noncomputable def Fref03_Tail : List AV → (AV → Ans) → Ans := fun l K => bindO (decAref03_Tail l) fun a => vFref03_Tail a K
theorem Fref03_Tail_ok : PureOk Tryd.prog 19 Fref03_Tail := pure_mkD (hint := noHint) (d := 0) (n := 70) mixed tabOk envref03_TailOk Tryd.func19 (bodySome (by kernel_rfl)) (by decide +kernel) annref03_Tail_ok decAref03_Tail_ok fnref03_Tail_ok fnref03_Tail_nat rendref03_Tail_ok
--@ ref09_Pad
noncomputable def envref09_Pad : Env := []
theorem envref09_PadOk : EnvOk Tryd.prog envref09_Pad := EnvOk.nil
noncomputable def bref09_Pad : Code := Tryd.f20.body.getD .skip
noncomputable def Lref09_Pad_n0 : Code := codeAt [1, 0, 0, 0] bref09_Pad
noncomputable def annLref09_Pad_n0 : Ann := .at 0 [0] (.loop .none)
theorem annLref09_Pad_n0_ok : AnnOk Tryd.prog 10 (.loop Lref09_Pad_n0) annLref09_Pad_n0 := annOk_at (annOk_none _ _ _)
abbrev Iref09_Pad_n0 := Unit
abbrev Yref09_Pad_n0 := (List UInt8)
abbrev Vref09_Pad_n0 := (List UInt8)
def Sref09_Pad_n0 : Iref09_Pad_n0 → Vref09_Pad_n0 → St := fun _ t0 => { env := [(0, AV.str t0)], stk := [[]], H := [], blk := 81920 }
def decref09_Pad_n0 (s : St) : Option (Iref09_Pad_n0 × Vref09_Pad_n0) := match s with
  | { env := [(0, AV.str t0)], stk := [[]], H := [], blk := 81920 } => some ((), t0)
  | _ => none
theorem decref09_Pad_n0_ok (s : St) (x : Iref09_Pad_n0 × Vref09_Pad_n0) (h : decref09_Pad_n0 s = some x) : s = Sref09_Pad_n0 x.1 x.2 := by
  unfold decref09_Pad_n0 at h
  split at h
  · cases h; rfl
  · cases h
def outref09_Pad_n0 : Iref09_Pad_n0 → (Ex → St → Ans) → Yref09_Pad_n0 → Ans := fun _ K => fun t0_y => K (Ex.exit 0) { env := [(0, AV.str t0_y)], stk := [[]], H := [], blk := 81920 }
noncomputable def stepref09_Pad_n0 {β : Type} : Iref09_Pad_n0 → Vref09_Pad_n0 → (Vref09_Pad_n0 → Option β) → (Yref09_Pad_n0 → Option β) → Option β := fun _ t0 next exit => (bif Int.tmod (↑(List.length t0) : Int) (64 : Int) != (0 : Int) then (bif Nat.ble (List.length t0 + (1 : Nat)) (9223372036854775807 : Nat) then (next (t0 ++ [(0 : UInt8)])) else none) else (exit (t0)))
noncomputable def stepDref09_Pad_n0 (i : Iref09_Pad_n0) (v : Vref09_Pad_n0) : Option (Vref09_Pad_n0 ⊕ Yref09_Pad_n0) := stepref09_Pad_n0 i v (fun v => some (.inl v)) (fun y => some (.inr y))
theorem stepref09_Pad_n0_nat (i : Iref09_Pad_n0) (v : Vref09_Pad_n0) (next : Vref09_Pad_n0 → Ans) (exit : Yref09_Pad_n0 → Ans) : stepref09_Pad_n0 i v next exit = bindO (stepDref09_Pad_n0 i v) (Sum.elim next exit) := by
  obtain z := i
  obtain z := v
  simp only [stepDref09_Pad_n0, stepref09_Pad_n0, bindO_cond, bindO_assoc, bindO_none, bindO_pure, bindO_elim, bindO_unP, Sum.elim_inl, Sum.elim_inr]
theorem stepref09_Pad_n0_ok (n : Nat) (i : Iref09_Pad_n0) (v : Vref09_Pad_n0) (K : Ex → St → Ans) : codeI Tryd.tab envref09_Pad noHint (codeD Tryd.tab envref09_Pad noHint 0 64) (n+1) 10 annLref09_Pad_n0 (.loop Lref09_Pad_n0) (weakP 0 (exk [0] [2] [(0, [0])]) K) (Sref09_Pad_n0 i v) = stepref09_Pad_n0 i v (fun v' => codeI Tryd.tab envref09_Pad noHint (codeD Tryd.tab envref09_Pad noHint 0 64) n 10 annLref09_Pad_n0 (.loop Lref09_Pad_n0) (weakP 0 (exk [0] [2] [(0, [0])]) K) (Sref09_Pad_n0 i v')) (fun y => outref09_Pad_n0 i K y) := by kernel_rfl
theorem GNref09_Pad_n0_ok : CSum Tryd.prog 10 (.loop Lref09_Pad_n0) (sumL decref09_Pad_n0 stepDref09_Pad_n0 outref09_Pad_n0) := csum_loop mixed tabOk envref09_PadOk 0 (exk [0] [2] [(0, [0])]) annLref09_Pad_n0_ok decref09_Pad_n0_ok stepref09_Pad_n0_ok stepref09_Pad_n0_nat
noncomputable def Gref09_Pad_n0 : (Ex → St → Ans) → St → Ans := (sumL decref09_Pad_n0 stepDref09_Pad_n0 outref09_Pad_n0)
theorem Gref09_Pad_n0_ok : CSum Tryd.prog 10 (.loop Lref09_Pad_n0) Gref09_Pad_n0 := GNref09_Pad_n0_ok
noncomputable def annref09_Pad : Ann := (.seq .none (.seq (.block (.cut 0 [0] Gref09_Pad_n0)) .none))
theorem annref09_Pad_ok : AnnOk Tryd.prog 10 bref09_Pad annref09_Pad := ⟨(annOk_none _ _ _), ⟨Gref09_Pad_n0_ok, (annOk_none _ _ _)⟩⟩
abbrev Aref09_Pad := (List UInt8)
abbrev Yref09_Pad := (List UInt8)
noncomputable def fnref09_Pad {β : Type} : Aref09_Pad → (Yref09_Pad → Option β) → Option β := fun a0 exit => (bindO (loopD (stepDref09_Pad_n0 ()) FUEL (a0)) fun t0 => (exit (t0)))
noncomputable def fnDref09_Pad (a : Aref09_Pad) : Option Yref09_Pad := fnref09_Pad a some
theorem fnref09_Pad_nat (a : Aref09_Pad) (k : Yref09_Pad → Ans) : fnref09_Pad a k = bindO (fnDref09_Pad a) k := by
  obtain z := a
  simp only [fnDref09_Pad, fnref09_Pad, bindO_cond, bindO_assoc, bindO_none, bindO_pure, bindO_elim, bindO_unP]
def argsref09_Pad : Aref09_Pad → List AV := fun a0 => [AV.str a0]
def decAref09_Pad (l : List AV) : Option Aref09_Pad := match l with
  | [AV.str a0] => some (a0)
  | _ => none
theorem decAref09_Pad_ok (l : List AV) (a : Aref09_Pad) (h : decAref09_Pad l = some a) : l = argsref09_Pad a := by
  unfold decAref09_Pad at h
  split at h
  · cases h; rfl
  · cases h
def rendref09_Pad : Aref09_Pad → Yref09_Pad → AV := fun a0 => fun r_y => AV.str r_y
theorem rendref09_Pad_ok : ∀ (a : Aref09_Pad) (y : Yref09_Pad), (rendref09_Pad a y).closed1 = true := by
  rintro z y <;> first | rfl | exact Empty.elim y
theorem fnref09_Pad_ok (a : Aref09_Pad) : fnE Tryd.tab envref09_Pad noHint 0 70 20 Tryd.f20.ntmps Tryd.f20.results.toList annref09_Pad bref09_Pad (argsref09_Pad a) [] (fun v _ => some (v, [])) = fnref09_Pad a (fun y => some (rendref09_Pad a y, [])) := by kernel_rfl
noncomputable def vFref09_Pad (a : Aref09_Pad) (K : AV → Ans) : Ans := bindO (fnDref09_Pad a) fun y => K (rendref09_Pad a y)
noncomputable def Fref09_Pad : List AV → (AV → Ans) → Ans := fun l K => bindO (decAref09_Pad l) fun a => vFref09_Pad a K
theorem Fref09_Pad_ok : PureOk Tryd.prog 20 Fref09_Pad := pure_mkD (hint := noHint) (d := 0) (n := 70) mixed tabOk envref09_PadOk Tryd.func20 (bodySome (by kernel_rfl)) (by decide +kernel) annref09_Pad_ok decAref09_Pad_ok fnref09_Pad_ok fnref09_Pad_nat rendref09_Pad_ok
--@ ref21_Put
noncomputable def envref21_Put : Env := [(10, .pure Fref21_Check), (18, .pure Fref02_Put), (17, .pure Fref05_Put), (19, .pure Fref03_Tail), (20, .pure Fref09_Pad)]
theorem envref21_PutOk : EnvOk Tryd.prog envref21_Put := EnvOk.cons Fref21_Check_ok (EnvOk.cons Fref02_Put_ok (EnvOk.cons Fref05_Put_ok (EnvOk.cons Fref03_Tail_ok (EnvOk.cons Fref09_Pad_ok (EnvOk.nil)))))
noncomputable def bref21_Put : Code := Tryd.f8.body.getD .skip
noncomputable def annref21_Put : Ann := .none
theorem annref21_Put_ok : AnnOk Tryd.prog 45 bref21_Put annref21_Put := (annOk_none _ _ _)
abbrev Aref21_Put := (Int) × (Int) × (Int) × (List UInt8) × (Int) × (Int) × (List UInt8)
abbrev Yref21_Put := (List UInt8) × (Int)
noncomputable def fnref21_Put {β : Type} : Aref21_Put → (Yref21_Put → Option β) → Option β := fun (a0_0, a0_1, a0_2, a0_3, a0_4, a0_5, a0_6) exit => (bindO (fnDref21_Check (a0_0, a0_1, a0_2, a0_3, a0_4, a0_5, a0_6)) fun r => (bif r != (0 : Int) then (exit ([], r)) else (bindO (fnDref02_Put ([(81 : UInt8)], a0_0, (1 : Int))) fun r_2 => (bindO (fnDref05_Put (r_2, a0_1, a0_2)) fun r_3 => (bindO (fnDref05_Put (r_3, a0_4, a0_5)) fun r_4 => (bif Nat.ble (List.length a0_3 + List.length a0_6) (9223372036854775807 : Nat) then (bindO (fnDref03_Tail (a0_3 ++ a0_6)) fun r_5 => (bif Nat.ble (List.length r_4 + List.length r_5) (9223372036854775807 : Nat) then (bindO (fnDref03_Tail (r_4 ++ r_5)) fun r_6 => (bif Nat.ble (List.length (r_4 ++ r_5) + List.length r_6) (9223372036854775807 : Nat) then (bindO (fnDref09_Pad (r_4 ++ r_5 ++ r_6)) fun r_7 => (bif Nat.ble (List.length r_7 + List.length a0_3) (9223372036854775807 : Nat) then (bif Nat.ble (List.length (r_7 ++ a0_3) + List.length a0_6) (9223372036854775807 : Nat) then (exit (r_7 ++ a0_3 ++ a0_6, (0 : Int))) else none) else none)) else none)) else none)) else none))))))
noncomputable def fnDref21_Put (a : Aref21_Put) : Option Yref21_Put := fnref21_Put a some
theorem fnref21_Put_nat (a : Aref21_Put) (k : Yref21_Put → Ans) : fnref21_Put a k = bindO (fnDref21_Put a) k := by
  obtain ⟨a0_0, a0_1, a0_2, a0_3, a0_4, a0_5, a0_6⟩ := a
  simp only [fnDref21_Put, fnref21_Put, bindO_cond, bindO_assoc, bindO_none, bindO_pure, bindO_elim, bindO_unP]
def argsref21_Put : Aref21_Put → List AV := fun (a0_0, a0_1, a0_2, a0_3, a0_4, a0_5, a0_6) => [AV.agg [AV.int IntKind.i64 a0_0, AV.int IntKind.i64 a0_1, AV.int IntKind.i64 a0_2, AV.str a0_3, AV.int IntKind.i64 a0_4, AV.int IntKind.i64 a0_5, AV.str a0_6]]
def decAref21_Put (l : List AV) : Option Aref21_Put := match l with
  | [AV.agg [AV.int IntKind.i64 a0_0, AV.int IntKind.i64 a0_1, AV.int IntKind.i64 a0_2, AV.str a0_3, AV.int IntKind.i64 a0_4, AV.int IntKind.i64 a0_5, AV.str a0_6]] => some (a0_0, a0_1, a0_2, a0_3, a0_4, a0_5, a0_6)
  | _ => none
theorem decAref21_Put_ok (l : List AV) (a : Aref21_Put) (h : decAref21_Put l = some a) : l = argsref21_Put a := by
  unfold decAref21_Put at h
  split at h
  · cases h; rfl
  · cases h
def rendref21_Put : Aref21_Put → Yref21_Put → AV := fun (a0_0, a0_1, a0_2, a0_3, a0_4, a0_5, a0_6) => unP fun r_0_y r_1_y => AV.tup [AV.str r_0_y, AV.int IntKind.i64 r_1_y]
theorem rendref21_Put_ok : ∀ (a : Aref21_Put) (y : Yref21_Put), (rendref21_Put a y).closed1 = true := by
  rintro ⟨a0_0, a0_1, a0_2, a0_3, a0_4, a0_5, a0_6⟩ y <;> first | rfl | exact Empty.elim y
theorem fnref21_Put_ok (a : Aref21_Put) : fnE Tryd.tab envref21_Put noHint 0 70 8 Tryd.f8.ntmps Tryd.f8.results.toList annref21_Put bref21_Put (argsref21_Put a) [] (fun v _ => some (v, [])) = fnref21_Put a (fun y => some (rendref21_Put a y, [])) := by kernel_rfl
noncomputable def vFref21_Put (a : Aref21_Put) (K : AV → Ans) : Ans := bindO (fnDref21_Put a) fun y => K (rendref21_Put a y)
noncomputable def Fref21_Put : List AV → (AV → Ans) → Ans := fun l K => bindO (decAref21_Put l) fun a => vFref21_Put a K
theorem Fref21_Put_ok : PureOk Tryd.prog 8 Fref21_Put := pure_mkD (hint := noHint) (d := 0) (n := 70) mixed tabOk envref21_PutOk Tryd.func8 (bodySome (by kernel_rfl)) (by decide +kernel) annref21_Put_ok decAref21_Put_ok fnref21_Put_ok fnref21_Put_nat rendref21_Put_ok
--@ law21_SlotPuts
noncomputable def envlaw21_SlotPuts : Env := [(9, .pure Fslot_Check), (7, .pure Fslot_Put), (6, .pure Flaw21_works), (10, .pure Fref21_Check), (8, .pure Fref21_Put)]
theorem envlaw21_SlotPutsOk : EnvOk Tryd.prog envlaw21_SlotPuts := EnvOk.cons Fslot_Check_ok (EnvOk.cons Fslot_Put_ok (EnvOk.cons Flaw21_works_ok (EnvOk.cons Fref21_Check_ok (EnvOk.cons Fref21_Put_ok (EnvOk.nil)))))
noncomputable def blaw21_SlotPuts : Code := Tryd.f3.body.getD .skip
noncomputable def Llaw21_SlotPuts_n1 : Code := codeAt [1, 1, 1, 1, 1, 0] blaw21_SlotPuts
noncomputable def annLlaw21_SlotPuts_n1 : Ann := .none
theorem annLlaw21_SlotPuts_n1_ok : AnnOk Tryd.prog 46 Llaw21_SlotPuts_n1 annLlaw21_SlotPuts_n1 := (annOk_none _ _ _)
abbrev Ilaw21_SlotPuts_n1 := (List UInt8) × (Int) × (List UInt8) × (Int) × (Int) × (Int) × (Int) × (List UInt8) × (Int) × (Int) × (List UInt8)
abbrev Ylaw21_SlotPuts_n1 := (Bool)
def Slaw21_SlotPuts_n1 : Ilaw21_SlotPuts_n1 → St := fun (t3, t4, t5, t6, o0_0, o0_1, o0_2, o0_3, o0_4, o0_5, o0_6) => { env := [(1, AV.ptr 0 0), (3, AV.str t3), (4, AV.int IntKind.i64 t4), (5, AV.str t5), (6, AV.int IntKind.i64 t6)], stk := [[]], H := [AE.Obj.cells [AV.int IntKind.i64 o0_0, AV.int IntKind.i64 o0_1, AV.int IntKind.i64 o0_2, AV.str o0_3, AV.int IntKind.i64 o0_4, AV.int IntKind.i64 o0_5, AV.str o0_6]], blk := 12288 }
def declaw21_SlotPuts_n1 (s : St) : Option Ilaw21_SlotPuts_n1 := match s with
  | { env := [(1, AV.ptr 0 0), (3, AV.str t3), (4, AV.int IntKind.i64 t4), (5, AV.str t5), (6, AV.int IntKind.i64 t6)], stk := [[]], H := [AE.Obj.cells [AV.int IntKind.i64 o0_0, AV.int IntKind.i64 o0_1, AV.int IntKind.i64 o0_2, AV.str o0_3, AV.int IntKind.i64 o0_4, AV.int IntKind.i64 o0_5, AV.str o0_6]], blk := 12288 } => some (t3, t4, t5, t6, o0_0, o0_1, o0_2, o0_3, o0_4, o0_5, o0_6)
  | _ => none
theorem declaw21_SlotPuts_n1_ok (s : St) (x : Ilaw21_SlotPuts_n1) (h : declaw21_SlotPuts_n1 s = some x) : s = Slaw21_SlotPuts_n1 x := by
  unfold declaw21_SlotPuts_n1 at h
  split at h
  · cases h; rfl
  · cases h
def outlaw21_SlotPuts_n1 : Ilaw21_SlotPuts_n1 → (Ex → St → Ans) → Ylaw21_SlotPuts_n1 → Ans := fun (t3, t4, t5, t6, o0_0, o0_1, o0_2, o0_3, o0_4, o0_5, o0_6) K => fun t2_y => K (Ex.norm) { env := [(2, AV.bool t2_y)], stk := [[]], H := [], blk := 12288 }
noncomputable def nodelaw21_SlotPuts_n1 {β : Type} : Ilaw21_SlotPuts_n1 → (Ylaw21_SlotPuts_n1 → Option β) → Option β := fun (t3, t4, t5, t6, o0_0, o0_1, o0_2, o0_3, o0_4, o0_5, o0_6) exit => (bif t3 == t5 then (bif t4 == t6 then (bindO (fnDslot_Check (o0_0, o0_1, o0_2, o0_3, o0_4, o0_5, o0_6)) fun r => (bindO (fnDref21_Check (o0_0, o0_1, o0_2, o0_3, o0_4, o0_5, o0_6)) fun r_2 => (exit (r == r_2)))) else (exit (false))) else (exit (false)))
noncomputable def nodeDlaw21_SlotPuts_n1 (i : Ilaw21_SlotPuts_n1) : Option Ylaw21_SlotPuts_n1 := nodelaw21_SlotPuts_n1 i some
theorem nodelaw21_SlotPuts_n1_nat (i : Ilaw21_SlotPuts_n1) (k : Ylaw21_SlotPuts_n1 → Ans) : nodelaw21_SlotPuts_n1 i k = bindO (nodeDlaw21_SlotPuts_n1 i) k := by
  obtain ⟨t3, t4, t5, t6, o0_0, o0_1, o0_2, o0_3, o0_4, o0_5, o0_6⟩ := i
  simp only [nodeDlaw21_SlotPuts_n1, nodelaw21_SlotPuts_n1, bindO_cond, bindO_assoc, bindO_none, bindO_pure, bindO_elim, bindO_unP]
theorem nodelaw21_SlotPuts_n1_ok (i : Ilaw21_SlotPuts_n1) (K : Ex → St → Ans) : codeI Tryd.tab envlaw21_SlotPuts noHint (codeD Tryd.tab envlaw21_SlotPuts noHint 0 64) 70 46 annLlaw21_SlotPuts_n1 Llaw21_SlotPuts_n1 (weakP 0 (exk [2] [2] []) K) (Slaw21_SlotPuts_n1 i) = nodelaw21_SlotPuts_n1 i (outlaw21_SlotPuts_n1 i K) := by kernel_rfl
theorem GNlaw21_SlotPuts_n1_ok : CSum Tryd.prog 46 Llaw21_SlotPuts_n1 (sumN declaw21_SlotPuts_n1 nodeDlaw21_SlotPuts_n1 outlaw21_SlotPuts_n1) := csum_node mixed tabOk envlaw21_SlotPutsOk 0 (exk [2] [2] []) annLlaw21_SlotPuts_n1_ok declaw21_SlotPuts_n1_ok nodelaw21_SlotPuts_n1_ok nodelaw21_SlotPuts_n1_nat
noncomputable def Glaw21_SlotPuts_n1 : (Ex → St → Ans) → St → Ans := (sumN declaw21_SlotPuts_n1 nodeDlaw21_SlotPuts_n1 outlaw21_SlotPuts_n1)
theorem Glaw21_SlotPuts_n1_ok : CSum Tryd.prog 46 Llaw21_SlotPuts_n1 Glaw21_SlotPuts_n1 := GNlaw21_SlotPuts_n1_ok
noncomputable def Llaw21_SlotPuts_n0 : Code := codeAt [1, 1, 0, 0] blaw21_SlotPuts
noncomputable def annLlaw21_SlotPuts_n0 : Ann := .none
theorem annLlaw21_SlotPuts_n0_ok : AnnOk Tryd.prog 46 Llaw21_SlotPuts_n0 annLlaw21_SlotPuts_n0 := (annOk_none _ _ _)
abbrev Ilaw21_SlotPuts_n0 := (Int) × (Int) × (Int) × (List UInt8) × (Int) × (Int) × (List UInt8)
abbrev Ylaw21_SlotPuts_n0 := (Bool)
def Slaw21_SlotPuts_n0 : Ilaw21_SlotPuts_n0 → St := fun (o0_0, o0_1, o0_2, o0_3, o0_4, o0_5, o0_6) => { env := [(1, AV.ptr 0 0)], stk := [[]], H := [AE.Obj.cells [AV.int IntKind.i64 o0_0, AV.int IntKind.i64 o0_1, AV.int IntKind.i64 o0_2, AV.str o0_3, AV.int IntKind.i64 o0_4, AV.int IntKind.i64 o0_5, AV.str o0_6]], blk := 12288 }
def declaw21_SlotPuts_n0 (s : St) : Option Ilaw21_SlotPuts_n0 := match s with
  | { env := [(1, AV.ptr 0 0)], stk := [[]], H := [AE.Obj.cells [AV.int IntKind.i64 o0_0, AV.int IntKind.i64 o0_1, AV.int IntKind.i64 o0_2, AV.str o0_3, AV.int IntKind.i64 o0_4, AV.int IntKind.i64 o0_5, AV.str o0_6]], blk := 12288 } => some (o0_0, o0_1, o0_2, o0_3, o0_4, o0_5, o0_6)
  | _ => none
theorem declaw21_SlotPuts_n0_ok (s : St) (x : Ilaw21_SlotPuts_n0) (h : declaw21_SlotPuts_n0 s = some x) : s = Slaw21_SlotPuts_n0 x := by
  unfold declaw21_SlotPuts_n0 at h
  split at h
  · cases h; rfl
  · cases h
def outlaw21_SlotPuts_n0 : Ilaw21_SlotPuts_n0 → (Ex → St → Ans) → Ylaw21_SlotPuts_n0 → Ans := fun (o0_0, o0_1, o0_2, o0_3, o0_4, o0_5, o0_6) K => fun t20_y => K (Ex.norm) { env := [(1, AV.ptr 0 0), (20, AV.bool t20_y)], stk := [[]], H := [AE.Obj.cells [AV.int IntKind.i64 o0_0, AV.int IntKind.i64 o0_1, AV.int IntKind.i64 o0_2, AV.str o0_3, AV.int IntKind.i64 o0_4, AV.int IntKind.i64 o0_5, AV.str o0_6]], blk := 12288 }
noncomputable def nodelaw21_SlotPuts_n0 {β : Type} : Ilaw21_SlotPuts_n0 → (Ylaw21_SlotPuts_n0 → Option β) → Option β := fun (o0_0, o0_1, o0_2, o0_3, o0_4, o0_5, o0_6) exit => (bif decide ((↑(List.length o0_3) : Int) > (1000 : Int)) then (exit (true)) else (exit (decide ((↑(List.length o0_6) : Int) > (1000 : Int)))))
noncomputable def nodeDlaw21_SlotPuts_n0 (i : Ilaw21_SlotPuts_n0) : Option Ylaw21_SlotPuts_n0 := nodelaw21_SlotPuts_n0 i some
theorem nodelaw21_SlotPuts_n0_nat (i : Ilaw21_SlotPuts_n0) (k : Ylaw21_SlotPuts_n0 → Ans) : nodelaw21_SlotPuts_n0 i k = bindO (nodeDlaw21_SlotPuts_n0 i) k := by
  obtain ⟨o0_0, o0_1, o0_2, o0_3, o0_4, o0_5, o0_6⟩ := i
  simp only [nodeDlaw21_SlotPuts_n0, nodelaw21_SlotPuts_n0, bindO_cond, bindO_assoc, bindO_none, bindO_pure, bindO_elim, bindO_unP]
theorem nodelaw21_SlotPuts_n0_ok (i : Ilaw21_SlotPuts_n0) (K : Ex → St → Ans) : codeI Tryd.tab envlaw21_SlotPuts noHint (codeD Tryd.tab envlaw21_SlotPuts noHint 0 64) 70 46 annLlaw21_SlotPuts_n0 Llaw21_SlotPuts_n0 (weakP 0 (exk [1, 20] [2] []) K) (Slaw21_SlotPuts_n0 i) = nodelaw21_SlotPuts_n0 i (outlaw21_SlotPuts_n0 i K) := by kernel_rfl
theorem GNlaw21_SlotPuts_n0_ok : CSum Tryd.prog 46 Llaw21_SlotPuts_n0 (sumN declaw21_SlotPuts_n0 nodeDlaw21_SlotPuts_n0 outlaw21_SlotPuts_n0) := csum_node mixed tabOk envlaw21_SlotPutsOk 0 (exk [1, 20] [2] []) annLlaw21_SlotPuts_n0_ok declaw21_SlotPuts_n0_ok nodelaw21_SlotPuts_n0_ok nodelaw21_SlotPuts_n0_nat
noncomputable def Glaw21_SlotPuts_n0 : (Ex → St → Ans) → St → Ans := (sumN declaw21_SlotPuts_n0 nodeDlaw21_SlotPuts_n0 outlaw21_SlotPuts_n0)
theorem Glaw21_SlotPuts_n0_ok : CSum Tryd.prog 46 Llaw21_SlotPuts_n0 Glaw21_SlotPuts_n0 := GNlaw21_SlotPuts_n0_ok
noncomputable def annlaw21_SlotPuts : Ann := (.seq .none (.seq .none (.seq (.seq (.cut 0 [1] Glaw21_SlotPuts_n0) .none) (.seq .none (.seq .none (.seq (.cut 0 [1, 3, 4, 5, 6] Glaw21_SlotPuts_n1) .none))))))
theorem annlaw21_SlotPuts_ok : AnnOk Tryd.prog 46 blaw21_SlotPuts annlaw21_SlotPuts := ⟨(annOk_none _ _ _), ⟨(annOk_none _ _ _), ⟨⟨Glaw21_SlotPuts_n0_ok, (annOk_none _ _ _)⟩, ⟨(annOk_none _ _ _), ⟨(annOk_none _ _ _), ⟨Glaw21_SlotPuts_n1_ok, (annOk_none _ _ _)⟩⟩⟩⟩⟩⟩
abbrev Alaw21_SlotPuts := (Int) × (Int) × (Int) × (List UInt8) × (Int) × (Int) × (List UInt8)
abbrev Ylaw21_SlotPuts := (Bool)
noncomputable def fnlaw21_SlotPuts {β : Type} : Alaw21_SlotPuts → (Ylaw21_SlotPuts → Option β) → Option β := fun (a0_0, a0_1, a0_2, a0_3, a0_4, a0_5, a0_6) exit => (bindO (fnDlaw21_works ()) fun r => (bif !r then (exit (false)) else (bindO (nodeDlaw21_SlotPuts_n0 (a0_0, a0_1, a0_2, a0_3, a0_4, a0_5, a0_6)) fun t20 => (bif t20 then (exit (true)) else (bindO (fnDslot_Put (a0_0, a0_1, a0_2, a0_3, a0_4, a0_5, a0_6)) (unP fun r_0 r_1 => (bindO (fnDref21_Put (a0_0, a0_1, a0_2, a0_3, a0_4, a0_5, a0_6)) (unP fun r_0_2 r_1_2 => (bindO (nodeDlaw21_SlotPuts_n1 (r_0, r_1, r_0_2, r_1_2, a0_0, a0_1, a0_2, a0_3, a0_4, a0_5, a0_6)) fun t2 => (exit (t2)))))))))))
noncomputable def fnDlaw21_SlotPuts (a : Alaw21_SlotPuts) : Option Ylaw21_SlotPuts := fnlaw21_SlotPuts a some
theorem fnlaw21_SlotPuts_nat (a : Alaw21_SlotPuts) (k : Ylaw21_SlotPuts → Ans) : fnlaw21_SlotPuts a k = bindO (fnDlaw21_SlotPuts a) k := by
  obtain ⟨a0_0, a0_1, a0_2, a0_3, a0_4, a0_5, a0_6⟩ := a
  simp only [fnDlaw21_SlotPuts, fnlaw21_SlotPuts, bindO_cond, bindO_assoc, bindO_none, bindO_pure, bindO_elim, bindO_unP]
def argslaw21_SlotPuts : Alaw21_SlotPuts → List AV × List AE.Obj := fun (a0_0, a0_1, a0_2, a0_3, a0_4, a0_5, a0_6) => ([AV.agg [AV.int IntKind.i64 a0_0, AV.int IntKind.i64 a0_1, AV.int IntKind.i64 a0_2, AV.str a0_3, AV.int IntKind.i64 a0_4, AV.int IntKind.i64 a0_5, AV.str a0_6]], [])
def decAlaw21_SlotPuts (l : List AV) (H : List AE.Obj) : Option Alaw21_SlotPuts := match l, H with
  | [AV.agg [AV.int IntKind.i64 a0_0, AV.int IntKind.i64 a0_1, AV.int IntKind.i64 a0_2, AV.str a0_3, AV.int IntKind.i64 a0_4, AV.int IntKind.i64 a0_5, AV.str a0_6]], [] => some (a0_0, a0_1, a0_2, a0_3, a0_4, a0_5, a0_6)
  | _, _ => none
theorem decAlaw21_SlotPuts_ok (l : List AV) (H : List AE.Obj) (a : Alaw21_SlotPuts) (h : decAlaw21_SlotPuts l H = some a) : (l, H) = argslaw21_SlotPuts a := by
  unfold decAlaw21_SlotPuts at h
  split at h
  · cases h; rfl
  · cases h
def outlaw21_SlotPuts : Alaw21_SlotPuts → (AV → List AE.Obj → Ans) → Ylaw21_SlotPuts → Ans := fun (a0_0, a0_1, a0_2, a0_3, a0_4, a0_5, a0_6) K => fun r_y => K (AV.bool r_y) []
theorem fnlaw21_SlotPuts_ok (a : Alaw21_SlotPuts) (K : AV → List AE.Obj → Ans) : fnE Tryd.tab envlaw21_SlotPuts noHint 0 70 3 Tryd.f3.ntmps Tryd.f3.results.toList annlaw21_SlotPuts blaw21_SlotPuts (argslaw21_SlotPuts a).1 (argslaw21_SlotPuts a).2 K = fnlaw21_SlotPuts a (outlaw21_SlotPuts a K) := by kernel_rfl
noncomputable def vFlaw21_SlotPuts (a : Alaw21_SlotPuts) (K : AV → List AE.Obj → Ans) : Ans := bindO (fnDlaw21_SlotPuts a) fun y => outlaw21_SlotPuts a K y
noncomputable def Flaw21_SlotPuts : List AV → List AE.Obj → (AV → List AE.Obj → Ans) → Ans := fun l H K => bindO (decAlaw21_SlotPuts l H) fun a => vFlaw21_SlotPuts a K
theorem Flaw21_SlotPuts_ok : FuncOk Tryd.prog 3 Flaw21_SlotPuts := func_mkD (hint := noHint) (d := 0) (n := 70) mixed tabOk envlaw21_SlotPutsOk Tryd.func3 (bodySome (by kernel_rfl)) (by decide +kernel) annlaw21_SlotPuts_ok decAlaw21_SlotPuts_ok fnlaw21_SlotPuts_ok fnlaw21_SlotPuts_nat
--@ ref21_number
noncomputable def envref21_number : Env := []
theorem envref21_numberOk : EnvOk Tryd.prog envref21_number := EnvOk.nil
noncomputable def bref21_number : Code := Tryd.f29.body.getD .skip
noncomputable def Lref21_number_n0 : Code := codeAt [1, 1, 0, 1, 0, 0] bref21_number
noncomputable def annLref21_number_n0 : Ann := .at 0 [0, 3, 4] (.loop .none)
theorem annLref21_number_n0_ok : AnnOk Tryd.prog 19 (.loop Lref21_number_n0) annLref21_number_n0 := annOk_at (annOk_none _ _ _)
abbrev Iref21_number_n0 := (List UInt8)
abbrev Yref21_number_n0 := (Int)
abbrev Vref21_number_n0 := (Int) × (Int)
def Sref21_number_n0 : Iref21_number_n0 → Vref21_number_n0 → St := fun t0 (t3, t4) => { env := [(0, AV.str t0), (3, AV.int IntKind.i64 t3), (4, AV.int IntKind.i64 t4)], stk := [[]], H := [], blk := 118784 }
def decref21_number_n0 (s : St) : Option (Iref21_number_n0 × Vref21_number_n0) := match s with
  | { env := [(0, AV.str t0), (3, AV.int IntKind.i64 t3), (4, AV.int IntKind.i64 t4)], stk := [[]], H := [], blk := 118784 } => some (t0, (t3, t4))
  | _ => none
theorem decref21_number_n0_ok (s : St) (x : Iref21_number_n0 × Vref21_number_n0) (h : decref21_number_n0 s = some x) : s = Sref21_number_n0 x.1 x.2 := by
  unfold decref21_number_n0 at h
  split at h
  · cases h; rfl
  · cases h
def outref21_number_n0 : Iref21_number_n0 → (Ex → St → Ans) → Yref21_number_n0 → Ans := fun t0 K => fun t3_y => K (Ex.exit 0) { env := [(3, AV.int IntKind.i64 t3_y)], stk := [[]], H := [], blk := 118784 }
noncomputable def stepref21_number_n0 {β : Type} : Iref21_number_n0 → Vref21_number_n0 → (Vref21_number_n0 → Option β) → (Yref21_number_n0 → Option β) → Option β := fun t0 (t3, t4) next exit => (bif decide (t4 < (↑(List.length t0) : Int)) then (bindO (nth t0 t4) fun x => (next (IntKind.wrap IntKind.i64 (IntKind.wrap IntKind.i64 ((256 : Int) * t3) + IntKind.wrap IntKind.i64 (↑(UInt8.toNat x) : Int)), IntKind.wrap IntKind.i64 (t4 + (1 : Int))))) else (exit (t3)))
noncomputable def stepDref21_number_n0 (i : Iref21_number_n0) (v : Vref21_number_n0) : Option (Vref21_number_n0 ⊕ Yref21_number_n0) := stepref21_number_n0 i v (fun v => some (.inl v)) (fun y => some (.inr y))
theorem stepref21_number_n0_nat (i : Iref21_number_n0) (v : Vref21_number_n0) (next : Vref21_number_n0 → Ans) (exit : Yref21_number_n0 → Ans) : stepref21_number_n0 i v next exit = bindO (stepDref21_number_n0 i v) (Sum.elim next exit) := by
  obtain z := i
  obtain ⟨t3, t4⟩ := v
  simp only [stepDref21_number_n0, stepref21_number_n0, bindO_cond, bindO_assoc, bindO_none, bindO_pure, bindO_elim, bindO_unP, Sum.elim_inl, Sum.elim_inr]
theorem stepref21_number_n0_ok (n : Nat) (i : Iref21_number_n0) (v : Vref21_number_n0) (K : Ex → St → Ans) : codeI Tryd.tab envref21_number noHint (codeD Tryd.tab envref21_number noHint 0 64) (n+1) 19 annLref21_number_n0 (.loop Lref21_number_n0) (weakP 0 (exk [3] [2] [(0, [3])]) K) (Sref21_number_n0 i v) = stepref21_number_n0 i v (fun v' => codeI Tryd.tab envref21_number noHint (codeD Tryd.tab envref21_number noHint 0 64) n 19 annLref21_number_n0 (.loop Lref21_number_n0) (weakP 0 (exk [3] [2] [(0, [3])]) K) (Sref21_number_n0 i v')) (fun y => outref21_number_n0 i K y) := by kernel_rfl
theorem GNref21_number_n0_ok : CSum Tryd.prog 19 (.loop Lref21_number_n0) (sumL decref21_number_n0 stepDref21_number_n0 outref21_number_n0) := csum_loop mixed tabOk envref21_numberOk 0 (exk [3] [2] [(0, [3])]) annLref21_number_n0_ok decref21_number_n0_ok stepref21_number_n0_ok stepref21_number_n0_nat
noncomputable def Gref21_number_n0 : (Ex → St → Ans) → St → Ans := (sumL decref21_number_n0 stepDref21_number_n0 outref21_number_n0)
theorem Gref21_number_n0_ok : CSum Tryd.prog 19 (.loop Lref21_number_n0) Gref21_number_n0 := GNref21_number_n0_ok
noncomputable def annref21_number : Ann := (.seq .none (.seq .none (.seq (.seq .none (.block (.cut 0 [0, 3, 4] Gref21_number_n0))) .none)))
theorem annref21_number_ok : AnnOk Tryd.prog 19 bref21_number annref21_number := ⟨(annOk_none _ _ _), ⟨(annOk_none _ _ _), ⟨⟨(annOk_none _ _ _), Gref21_number_n0_ok⟩, (annOk_none _ _ _)⟩⟩⟩
abbrev Aref21_number := (List UInt8)
abbrev Yref21_number := (Int)
noncomputable def fnref21_number {β : Type} : Aref21_number → (Yref21_number → Option β) → Option β := fun a0 exit => (bindO (loopD (stepDref21_number_n0 (a0)) FUEL ((0 : Int), (0 : Int))) fun t3 => (exit (t3)))
noncomputable def fnDref21_number (a : Aref21_number) : Option Yref21_number := fnref21_number a some
theorem fnref21_number_nat (a : Aref21_number) (k : Yref21_number → Ans) : fnref21_number a k = bindO (fnDref21_number a) k := by
  obtain z := a
  simp only [fnDref21_number, fnref21_number, bindO_cond, bindO_assoc, bindO_none, bindO_pure, bindO_elim, bindO_unP]
def argsref21_number : Aref21_number → List AV := fun a0 => [AV.str a0]
def decAref21_number (l : List AV) : Option Aref21_number := match l with
  | [AV.str a0] => some (a0)
  | _ => none
theorem decAref21_number_ok (l : List AV) (a : Aref21_number) (h : decAref21_number l = some a) : l = argsref21_number a := by
  unfold decAref21_number at h
  split at h
  · cases h; rfl
  · cases h
def rendref21_number : Aref21_number → Yref21_number → AV := fun a0 => fun r_y => AV.int IntKind.i64 r_y
theorem rendref21_number_ok : ∀ (a : Aref21_number) (y : Yref21_number), (rendref21_number a y).closed1 = true := by
  rintro z y <;> first | rfl | exact Empty.elim y
theorem fnref21_number_ok (a : Aref21_number) : fnE Tryd.tab envref21_number noHint 0 70 29 Tryd.f29.ntmps Tryd.f29.results.toList annref21_number bref21_number (argsref21_number a) [] (fun v _ => some (v, [])) = fnref21_number a (fun y => some (rendref21_number a y, [])) := by kernel_rfl
noncomputable def vFref21_number (a : Aref21_number) (K : AV → Ans) : Ans := bindO (fnDref21_number a) fun y => K (rendref21_number a y)
noncomputable def Fref21_number : List AV → (AV → Ans) → Ans := fun l K => bindO (decAref21_number l) fun a => vFref21_number a K
theorem Fref21_number_ok : PureOk Tryd.prog 29 Fref21_number := pure_mkD (hint := noHint) (d := 0) (n := 70) mixed tabOk envref21_numberOk Tryd.func29 (bodySome (by kernel_rfl)) (by decide +kernel) annref21_number_ok decAref21_number_ok fnref21_number_ok fnref21_number_nat rendref21_number_ok
end Go.Proofs.R5
