/- What the functions that LogscanOrderSaid reaches compute: part 3. -/
import Derived.Test.YtkoocdpbnniamaaOwnLogscanOrderSaid2
set_option linter.unusedVariables false
set_option linter.unusedSimpArgs false
namespace Go.Proofs.R4
open Go Go.AE
--@ logrec_Put
noncomputable def envlogrec_Put : Env := [(27, .func (altF decABuilder_String vFBuilder_String FBuilder_StringAgain)), (22, .pure Flogrec_Check), (23, .pure Ffield_Put), (24, .func Fstrings_Builder_WriteString), (26, .pure Flogrec_tail), (25, .pure Fregion_Pad)]
theorem envlogrec_PutOk : EnvOk Try.prog envlogrec_Put := EnvOk.cons (func_altF FBuilder_String_ok FBuilder_StringAgain_ok) (EnvOk.cons Flogrec_Check_ok (EnvOk.cons Ffield_Put_ok (EnvOk.cons Fstrings_Builder_WriteString_ok (EnvOk.cons Flogrec_tail_ok (EnvOk.cons Fregion_Pad_ok (EnvOk.nil))))))
noncomputable def blogrec_Put : Code := Try.f9.body.getD .skip
noncomputable def Llogrec_Put_n1 : Code := codeAt [1, 1, 1, 1, 1, 0, 1, 0, 0] blogrec_Put
noncomputable def annLlogrec_Put_n1 : Ann := .at 0 [7, 8, 27, 28, 29] (.loop .none)
theorem annLlogrec_Put_n1_ok : AnnOk Try.prog 49 (.loop Llogrec_Put_n1) annLlogrec_Put_n1 := annOk_at (annOk_none _ _ _)
abbrev Ilogrec_Put_n1 := (List (Int × List UInt8)) × (Int)
abbrev Ylogrec_Put_n1 := (List UInt8) × (List Int)
abbrev Vlogrec_Put_n1 := (List UInt8) × (Int) × (List Int)
def Slogrec_Put_n1 : Ilogrec_Put_n1 → Vlogrec_Put_n1 → St := fun (t27, t28) (t7, t29, o1) => { env := [(7, AV.str t7), (8, AV.ptr 0 0), (27, AV.ro (Ty.st (Ty.pair (Ty.int IntKind.i64) Ty.str)) t27), (28, AV.int IntKind.i64 t28), (29, AV.int IntKind.i64 t29)], stk := [[]], H := [Obj.bcells [AV.own 1], Obj.arr (Ty.int IntKind.u8) o1], blk := 36864 }
def declogrec_Put_n1 (s : St) : Option (Ilogrec_Put_n1 × Vlogrec_Put_n1) := match s with
  | { env := [(7, AV.str t7), (8, AV.ptr 0 0), (27, AV.ro (Ty.st (Ty.pair (Ty.int IntKind.i64) Ty.str)) t27), (28, AV.int IntKind.i64 t28), (29, AV.int IntKind.i64 t29)], stk := [[]], H := [Obj.bcells [AV.own 1], Obj.arr (Ty.int IntKind.u8) o1], blk := 36864 } => some ((t27, t28), (t7, t29, o1))
  | _ => none
theorem declogrec_Put_n1_ok (s : St) (x : Ilogrec_Put_n1 × Vlogrec_Put_n1) (h : declogrec_Put_n1 s = some x) : s = Slogrec_Put_n1 x.1 x.2 := by
  unfold declogrec_Put_n1 at h
  split at h
  · cases h; rfl
  · cases h
def outlogrec_Put_n1 : Ilogrec_Put_n1 → (Ex → St → Ans) → Ylogrec_Put_n1 → Ans := fun (t27, t28) K => unP fun t7_y o1_y => K (Ex.exit 0) { env := [(7, AV.str t7_y), (8, AV.ptr 0 0)], stk := [[]], H := [Obj.bcells [AV.own 1], Obj.arr (Ty.int IntKind.u8) o1_y], blk := 36864 }
def steplogrec_Put_n1 {β : Type} : Ilogrec_Put_n1 → Vlogrec_Put_n1 → (Vlogrec_Put_n1 → Option β) → (Ylogrec_Put_n1 → Option β) → Option β := fun (t27, t28) (t7, t29, o1) next exit => (bif decide (t29 < t28) then (bindO (nth t27 t29) fun x => (bindO (fnDfield_Put (t7, x.fst, (2 : Int))) fun r => (bindO (fnDstrings_Builder_WriteString (x.snd, o1)) (unP fun r_0 o1_2 => (next (r, IntKind.wrap IntKind.i64 (t29 + (1 : Int)), o1_2)))))) else (exit (t7, o1)))
def stepDlogrec_Put_n1 (i : Ilogrec_Put_n1) (v : Vlogrec_Put_n1) : Option (Vlogrec_Put_n1 ⊕ Ylogrec_Put_n1) := steplogrec_Put_n1 i v (fun v => some (.inl v)) (fun y => some (.inr y))
theorem steplogrec_Put_n1_nat (i : Ilogrec_Put_n1) (v : Vlogrec_Put_n1) (next : Vlogrec_Put_n1 → Ans) (exit : Ylogrec_Put_n1 → Ans) : steplogrec_Put_n1 i v next exit = bindO (stepDlogrec_Put_n1 i v) (Sum.elim next exit) := by
  obtain ⟨t27, t28⟩ := i
  obtain ⟨t7, t29, o1⟩ := v
  simp only [stepDlogrec_Put_n1, steplogrec_Put_n1, bindO_cond, bindO_assoc, bindO_none, bindO_pure, bindO_elim, bindO_unP, Sum.elim_inl, Sum.elim_inr]
theorem steplogrec_Put_n1_ok (n : Nat) (i : Ilogrec_Put_n1) (v : Vlogrec_Put_n1) (K : Ex → St → Ans) : codeI Try.tab envlogrec_Put noHint (codeD Try.tab envlogrec_Put noHint 0 64) (n+1) 49 annLlogrec_Put_n1 (.loop Llogrec_Put_n1) (weakP 0 (exk [7, 8] [4, 5] [(0, [7, 8])]) K) (Slogrec_Put_n1 i v) = steplogrec_Put_n1 i v (fun v' => codeI Try.tab envlogrec_Put noHint (codeD Try.tab envlogrec_Put noHint 0 64) n 49 annLlogrec_Put_n1 (.loop Llogrec_Put_n1) (weakP 0 (exk [7, 8] [4, 5] [(0, [7, 8])]) K) (Slogrec_Put_n1 i v')) (fun y => outlogrec_Put_n1 i K y) := by kernel_rfl
theorem GNlogrec_Put_n1_ok : CSum Try.prog 49 (.loop Llogrec_Put_n1) (sumL declogrec_Put_n1 stepDlogrec_Put_n1 outlogrec_Put_n1) := csum_loop mixed tabOk envlogrec_PutOk 0 (exk [7, 8] [4, 5] [(0, [7, 8])]) annLlogrec_Put_n1_ok declogrec_Put_n1_ok steplogrec_Put_n1_ok steplogrec_Put_n1_nat
noncomputable def Glogrec_Put_n1 : (Ex → St → Ans) → St → Ans := (sumL declogrec_Put_n1 stepDlogrec_Put_n1 outlogrec_Put_n1)
theorem Glogrec_Put_n1_ok : CSum Try.prog 49 (.loop Llogrec_Put_n1) Glogrec_Put_n1 := GNlogrec_Put_n1_ok
noncomputable def Llogrec_Put_n0 : Code := codeAt [1, 0, 0] blogrec_Put
noncomputable def annLlogrec_Put_n0 : Ann := .none
theorem annLlogrec_Put_n0_ok : AnnOk Try.prog 49 Llogrec_Put_n0 annLlogrec_Put_n0 := (annOk_none _ _ _)
abbrev Ilogrec_Put_n0 := (Int) × (List (Int × List UInt8))
abbrev Ylogrec_Put_n0 := (Bool)
def Slogrec_Put_n0 : Ilogrec_Put_n0 → St := fun (t0, t1) => { env := [(0, AV.int IntKind.i64 t0), (1, AV.ro (Ty.st (Ty.pair (Ty.int IntKind.i64) Ty.str)) t1)], stk := [[]], H := [], blk := 36864 }
def declogrec_Put_n0 (s : St) : Option Ilogrec_Put_n0 := match s with
  | { env := [(0, AV.int IntKind.i64 t0), (1, AV.ro (Ty.st (Ty.pair (Ty.int IntKind.i64) Ty.str)) t1)], stk := [[]], H := [], blk := 36864 } => some (t0, t1)
  | _ => none
theorem declogrec_Put_n0_ok (s : St) (x : Ilogrec_Put_n0) (h : declogrec_Put_n0 s = some x) : s = Slogrec_Put_n0 x := by
  unfold declogrec_Put_n0 at h
  split at h
  · cases h; rfl
  · cases h
def outlogrec_Put_n0 : Ilogrec_Put_n0 → (Ex → St → Ans) → Ylogrec_Put_n0 → Ans := fun (t0, t1) K => fun t16_y => K (Ex.norm) { env := [(0, AV.int IntKind.i64 t0), (1, AV.ro (Ty.st (Ty.pair (Ty.int IntKind.i64) Ty.str)) t1), (16, AV.bool t16_y)], stk := [[]], H := [], blk := 36864 }
def nodelogrec_Put_n0 {β : Type} : Ilogrec_Put_n0 → (Ylogrec_Put_n0 → Option β) → Option β := fun (t0, t1) exit => (bif decide (t0 < (0 : Int)) then (exit (true)) else (exit (decide (t0 ≥ (281474976710656 : Int)))))
def nodeDlogrec_Put_n0 (i : Ilogrec_Put_n0) : Option Ylogrec_Put_n0 := nodelogrec_Put_n0 i some
theorem nodelogrec_Put_n0_nat (i : Ilogrec_Put_n0) (k : Ylogrec_Put_n0 → Ans) : nodelogrec_Put_n0 i k = bindO (nodeDlogrec_Put_n0 i) k := by
  obtain ⟨t0, t1⟩ := i
  simp only [nodeDlogrec_Put_n0, nodelogrec_Put_n0, bindO_cond, bindO_assoc, bindO_none, bindO_pure, bindO_elim, bindO_unP]
theorem nodelogrec_Put_n0_ok (i : Ilogrec_Put_n0) (K : Ex → St → Ans) : codeI Try.tab envlogrec_Put noHint (codeD Try.tab envlogrec_Put noHint 0 64) 70 49 annLlogrec_Put_n0 Llogrec_Put_n0 (weakP 0 (exk [0, 1, 16] [4, 5] []) K) (Slogrec_Put_n0 i) = nodelogrec_Put_n0 i (outlogrec_Put_n0 i K) := by kernel_rfl
theorem GNlogrec_Put_n0_ok : CSum Try.prog 49 Llogrec_Put_n0 (sumN declogrec_Put_n0 nodeDlogrec_Put_n0 outlogrec_Put_n0) := csum_node mixed tabOk envlogrec_PutOk 0 (exk [0, 1, 16] [4, 5] []) annLlogrec_Put_n0_ok declogrec_Put_n0_ok nodelogrec_Put_n0_ok nodelogrec_Put_n0_nat
noncomputable def Glogrec_Put_n0 : (Ex → St → Ans) → St → Ans := (sumN declogrec_Put_n0 nodeDlogrec_Put_n0 outlogrec_Put_n0)
theorem Glogrec_Put_n0_ok : CSum Try.prog 49 Llogrec_Put_n0 Glogrec_Put_n0 := GNlogrec_Put_n0_ok
noncomputable def annlogrec_Put : Ann := (.seq .none (.seq (.seq (.cut 0 [0, 1] Glogrec_Put_n0) .none) (.seq .none (.seq .none (.seq .none (.seq (.seq .none (.block (.cut 0 [7, 8, 27, 28, 29] Glogrec_Put_n1))) .none))))))
theorem annlogrec_Put_ok : AnnOk Try.prog 49 blogrec_Put annlogrec_Put := ⟨(annOk_none _ _ _), ⟨⟨Glogrec_Put_n0_ok, (annOk_none _ _ _)⟩, ⟨(annOk_none _ _ _), ⟨(annOk_none _ _ _), ⟨(annOk_none _ _ _), ⟨⟨(annOk_none _ _ _), Glogrec_Put_n1_ok⟩, (annOk_none _ _ _)⟩⟩⟩⟩⟩⟩
abbrev Alogrec_Put := (Int) × (List (Int × List UInt8))
abbrev Ylogrec_Put := (List UInt8) × (Int)
def fnlogrec_Put {β : Type} : Alogrec_Put → (Ylogrec_Put → Option β) → Option β := fun (a0, a1) exit => (bindO (nodeDlogrec_Put_n0 (a0, a1)) fun t16 => (bif t16 then (exit ([], (3 : Int))) else (bindO (fnDlogrec_Check (a1)) fun r => (bif r != (0 : Int) then (exit ([], r)) else (bindO (fnDfield_Put ([(82 : UInt8)], a0, (6 : Int))) fun r_2 => (bindO (fnDfield_Put (r_2, (↑(List.length a1) : Int), (1 : Int))) fun r_3 => (bindO (loopD (stepDlogrec_Put_n1 (a1, (↑(List.length a1) : Int))) FUEL (r_3, (0 : Int), [])) (unP fun t7 o1 => (bindO (fnDBuilder_String (o1)) (unP fun r_4 o0 => (bindO (fnDlogrec_tail (t7, r_4)) fun r_5 => (bif Nat.ble (List.length t7 + List.length r_5) (9223372036854775807 : Nat) then (bindO (fnDregion_Pad (t7 ++ r_5)) fun r_6 => (bindO (fnDBuilder_StringAgain (o0)) (unP fun r_7 o0_2 => (bif Nat.ble (List.length r_6 + List.length r_7) (9223372036854775807 : Nat) then (exit (r_6 ++ r_7, (0 : Int))) else none)))) else none))))))))))))
def fnDlogrec_Put (a : Alogrec_Put) : Option Ylogrec_Put := fnlogrec_Put a some
theorem fnlogrec_Put_nat (a : Alogrec_Put) (k : Ylogrec_Put → Ans) : fnlogrec_Put a k = bindO (fnDlogrec_Put a) k := by
  obtain ⟨a0, a1⟩ := a
  simp only [fnDlogrec_Put, fnlogrec_Put, bindO_cond, bindO_assoc, bindO_none, bindO_pure, bindO_elim, bindO_unP]
def argslogrec_Put : Alogrec_Put → List AV := fun (a0, a1) => [AV.int IntKind.i64 a0, AV.ro (Ty.st (Ty.pair (Ty.int IntKind.i64) Ty.str)) a1]
def decAlogrec_Put (l : List AV) : Option Alogrec_Put := match l with
  | [AV.int IntKind.i64 a0, AV.ro (Ty.st (Ty.pair (Ty.int IntKind.i64) Ty.str)) a1] => some (a0, a1)
  | _ => none
theorem decAlogrec_Put_ok (l : List AV) (a : Alogrec_Put) (h : decAlogrec_Put l = some a) : l = argslogrec_Put a := by
  unfold decAlogrec_Put at h
  split at h
  · cases h; rfl
  · cases h
def rendlogrec_Put : Alogrec_Put → Ylogrec_Put → AV := fun (a0, a1) => unP fun r_0_y r_1_y => AV.tup [AV.str r_0_y, AV.int IntKind.i64 r_1_y]
theorem rendlogrec_Put_ok : ∀ (a : Alogrec_Put) (y : Ylogrec_Put), (rendlogrec_Put a y).closed1 = true := by
  rintro ⟨a0, a1⟩ y <;> first | rfl | exact Empty.elim y
theorem fnlogrec_Put_ok (a : Alogrec_Put) : fnE Try.tab envlogrec_Put noHint 0 70 9 Try.f9.ntmps Try.f9.results.toList annlogrec_Put blogrec_Put (argslogrec_Put a) [] (fun v _ => some (v, [])) = fnlogrec_Put a (fun y => some (rendlogrec_Put a y, [])) := by kernel_rfl
def vFlogrec_Put (a : Alogrec_Put) (K : AV → Ans) : Ans := bindO (fnDlogrec_Put a) fun y => K (rendlogrec_Put a y)
def Flogrec_Put : List AV → (AV → Ans) → Ans := fun l K => bindO (decAlogrec_Put l) fun a => vFlogrec_Put a K
theorem Flogrec_Put_ok : PureOk Try.prog 9 Flogrec_Put := pure_mkD (hint := noHint) (d := 0) (n := 70) mixed tabOk envlogrec_PutOk Try.func9 (bodySome (by kernel_rfl)) (by decide +kernel) annlogrec_Put_ok decAlogrec_Put_ok fnlogrec_Put_ok fnlogrec_Put_nat rendlogrec_Put_ok
--@ region_Region_Place
noncomputable def envregion_Region_Place : Env := []
theorem envregion_Region_PlaceOk : EnvOk Try.prog envregion_Region_Place := EnvOk.nil
noncomputable def bregion_Region_Place : Code := Try.f36.body.getD .skip
noncomputable def Lregion_Region_Place_n1 : Code := codeAt [1, 0, 0, 1, 1, 0] bregion_Region_Place
noncomputable def annLregion_Region_Place_n1 : Ann := .none
theorem annLregion_Region_Place_n1_ok : AnnOk Try.prog 26 Lregion_Region_Place_n1 annLregion_Region_Place_n1 := (annOk_none _ _ _)
abbrev Iregion_Region_Place_n1 := (Int) × (Int) × (Int) × (Int) × (Int) × (Bool) × (List (List UInt8)) × (List (Int × List UInt8)) × (List (Int × List UInt8)) × (List Int)
abbrev Yregion_Region_Place_n1 := (Bool)
def Sregion_Region_Place_n1 : Iregion_Region_Place_n1 → St := fun (t1, o0_1, o0_2, o1_3, o1_5, o1_6, o2, o3, o4, o5) => { env := [(0, AV.ptr 0 0), (1, AV.int IntKind.i64 t1)], stk := [[(0, AV.ptr 0 0), (1, AV.ptr 1 0)]], H := [AE.Obj.cells [AV.ptr 1 0, AV.int IntKind.i64 o0_1, AV.int IntKind.i64 o0_2], AE.Obj.cells [AV.own 2, AV.map 3, AV.own 4, AV.int IntKind.i64 o1_3, AV.own 5, AV.int IntKind.i64 o1_5, AV.bool o1_6], Obj.arr Ty.str o2, Obj.mp IntKind.i64 Ty.str o3, Obj.arr (Ty.st (Ty.pair (Ty.int IntKind.i64) Ty.str)) o4, Obj.arr (Ty.int IntKind.i64) o5], blk := 147456 }
def decregion_Region_Place_n1 (s : St) : Option Iregion_Region_Place_n1 := match s with
  | { env := [(0, AV.ptr 0 0), (1, AV.int IntKind.i64 t1)], stk := [[(0, AV.ptr 0 0), (1, AV.ptr 1 0)]], H := [AE.Obj.cells [AV.ptr 1 0, AV.int IntKind.i64 o0_1, AV.int IntKind.i64 o0_2], AE.Obj.cells [AV.own 2, AV.map 3, AV.own 4, AV.int IntKind.i64 o1_3, AV.own 5, AV.int IntKind.i64 o1_5, AV.bool o1_6], Obj.arr Ty.str o2, Obj.mp IntKind.i64 Ty.str o3, Obj.arr (Ty.st (Ty.pair (Ty.int IntKind.i64) Ty.str)) o4, Obj.arr (Ty.int IntKind.i64) o5], blk := 147456 } => some (t1, o0_1, o0_2, o1_3, o1_5, o1_6, o2, o3, o4, o5)
  | _ => none
theorem decregion_Region_Place_n1_ok (s : St) (x : Iregion_Region_Place_n1) (h : decregion_Region_Place_n1 s = some x) : s = Sregion_Region_Place_n1 x := by
  unfold decregion_Region_Place_n1 at h
  split at h
  · cases h; rfl
  · cases h
def outregion_Region_Place_n1 : Iregion_Region_Place_n1 → (Ex → St → Ans) → Yregion_Region_Place_n1 → Ans := fun (t1, o0_1, o0_2, o1_3, o1_5, o1_6, o2, o3, o4, o5) K => fun t9_y => K (Ex.norm) { env := [(0, AV.ptr 0 0), (1, AV.int IntKind.i64 t1), (9, AV.bool t9_y)], stk := [[(0, AV.ptr 0 0), (1, AV.ptr 1 0)]], H := [AE.Obj.cells [AV.ptr 1 0, AV.int IntKind.i64 o0_1, AV.int IntKind.i64 o0_2], AE.Obj.cells [AV.own 2, AV.map 3, AV.own 4, AV.int IntKind.i64 o1_3, AV.own 5, AV.int IntKind.i64 o1_5, AV.bool o1_6], Obj.arr Ty.str o2, Obj.mp IntKind.i64 Ty.str o3, Obj.arr (Ty.st (Ty.pair (Ty.int IntKind.i64) Ty.str)) o4, Obj.arr (Ty.int IntKind.i64) o5], blk := 147456 }
def noderegion_Region_Place_n1 {β : Type} : Iregion_Region_Place_n1 → (Yregion_Region_Place_n1 → Option β) → Option β := fun (t1, o0_1, o0_2, o1_3, o1_5, o1_6, o2, o3, o4, o5) exit => (bif decide (t1 < (0 : Int)) then (exit (true)) else (exit (decide (t1 ≥ o0_2))))
def nodeDregion_Region_Place_n1 (i : Iregion_Region_Place_n1) : Option Yregion_Region_Place_n1 := noderegion_Region_Place_n1 i some
theorem noderegion_Region_Place_n1_nat (i : Iregion_Region_Place_n1) (k : Yregion_Region_Place_n1 → Ans) : noderegion_Region_Place_n1 i k = bindO (nodeDregion_Region_Place_n1 i) k := by
  obtain ⟨t1, o0_1, o0_2, o1_3, o1_5, o1_6, o2, o3, o4, o5⟩ := i
  simp only [nodeDregion_Region_Place_n1, noderegion_Region_Place_n1, bindO_cond, bindO_assoc, bindO_none, bindO_pure, bindO_elim, bindO_unP]
theorem noderegion_Region_Place_n1_ok (i : Iregion_Region_Place_n1) (K : Ex → St → Ans) : codeI Try.tab envregion_Region_Place noHint (codeD Try.tab envregion_Region_Place noHint 0 64) 70 26 annLregion_Region_Place_n1 Lregion_Region_Place_n1 (weakP 6 (exk [0, 1, 9] [4, 5] []) K) (Sregion_Region_Place_n1 i) = noderegion_Region_Place_n1 i (outregion_Region_Place_n1 i K) := by kernel_rfl
theorem GNregion_Region_Place_n1_ok : CSum Try.prog 26 Lregion_Region_Place_n1 (sumN decregion_Region_Place_n1 nodeDregion_Region_Place_n1 outregion_Region_Place_n1) := csum_node mixed tabOk envregion_Region_PlaceOk 6 (exk [0, 1, 9] [4, 5] []) annLregion_Region_Place_n1_ok decregion_Region_Place_n1_ok noderegion_Region_Place_n1_ok noderegion_Region_Place_n1_nat
noncomputable def Gregion_Region_Place_n1 : (Ex → St → Ans) → St → Ans := (sumN decregion_Region_Place_n1 nodeDregion_Region_Place_n1 outregion_Region_Place_n1)
theorem Gregion_Region_Place_n1_ok : CSum Try.prog 26 Lregion_Region_Place_n1 Gregion_Region_Place_n1 := GNregion_Region_Place_n1_ok
noncomputable def Lregion_Region_Place_n0 : Code := codeAt [1, 0] bregion_Region_Place
noncomputable def annLregion_Region_Place_n0 : Ann := (.block (.seq .none (.cond .none (.seq (.cut 6 [0, 1] Gregion_Region_Place_n1) .none))))
theorem annLregion_Region_Place_n0_ok : AnnOk Try.prog 26 Lregion_Region_Place_n0 annLregion_Region_Place_n0 := ⟨(annOk_none _ _ _), ⟨(annOk_none _ _ _), ⟨Gregion_Region_Place_n1_ok, (annOk_none _ _ _)⟩⟩⟩
abbrev Iregion_Region_Place_n0 := (Int) × (Int) × (Int) × (Int) × (Int) × (Bool) × (List (List UInt8)) × (List (Int × List UInt8)) × (List (Int × List UInt8)) × (List Int)
abbrev Yregion_Region_Place_n0 := (Unit) ⊕ (Unit)
def Sregion_Region_Place_n0 : Iregion_Region_Place_n0 → St := fun (t1, o0_1, o0_2, o1_3, o1_5, o1_6, o2, o3, o4, o5) => { env := [(0, AV.ptr 0 0), (1, AV.int IntKind.i64 t1)], stk := [[(0, AV.ptr 0 0), (1, AV.ptr 1 0)]], H := [AE.Obj.cells [AV.ptr 1 0, AV.int IntKind.i64 o0_1, AV.int IntKind.i64 o0_2], AE.Obj.cells [AV.own 2, AV.map 3, AV.own 4, AV.int IntKind.i64 o1_3, AV.own 5, AV.int IntKind.i64 o1_5, AV.bool o1_6], Obj.arr Ty.str o2, Obj.mp IntKind.i64 Ty.str o3, Obj.arr (Ty.st (Ty.pair (Ty.int IntKind.i64) Ty.str)) o4, Obj.arr (Ty.int IntKind.i64) o5], blk := 147456 }
def decregion_Region_Place_n0 (s : St) : Option Iregion_Region_Place_n0 := match s with
  | { env := [(0, AV.ptr 0 0), (1, AV.int IntKind.i64 t1)], stk := [[(0, AV.ptr 0 0), (1, AV.ptr 1 0)]], H := [AE.Obj.cells [AV.ptr 1 0, AV.int IntKind.i64 o0_1, AV.int IntKind.i64 o0_2], AE.Obj.cells [AV.own 2, AV.map 3, AV.own 4, AV.int IntKind.i64 o1_3, AV.own 5, AV.int IntKind.i64 o1_5, AV.bool o1_6], Obj.arr Ty.str o2, Obj.mp IntKind.i64 Ty.str o3, Obj.arr (Ty.st (Ty.pair (Ty.int IntKind.i64) Ty.str)) o4, Obj.arr (Ty.int IntKind.i64) o5], blk := 147456 } => some (t1, o0_1, o0_2, o1_3, o1_5, o1_6, o2, o3, o4, o5)
  | _ => none
theorem decregion_Region_Place_n0_ok (s : St) (x : Iregion_Region_Place_n0) (h : decregion_Region_Place_n0 s = some x) : s = Sregion_Region_Place_n0 x := by
  unfold decregion_Region_Place_n0 at h
  split at h
  · cases h; rfl
  · cases h
def outregion_Region_Place_n0 : Iregion_Region_Place_n0 → (Ex → St → Ans) → Yregion_Region_Place_n0 → Ans := fun (t1, o0_1, o0_2, o1_3, o1_5, o1_6, o2, o3, o4, o5) K => (Sum.elim (fun _ => K (Ex.ret) { env := [(4, AV.int IntKind.i64 (0)), (5, AV.int IntKind.i64 (3))], stk := [[(0, AV.ptr 0 0), (1, AV.ptr 1 0)]], H := [AE.Obj.cells [AV.ptr 1 0, AV.int IntKind.i64 o0_1, AV.int IntKind.i64 o0_2], AE.Obj.cells [AV.own 2, AV.map 3, AV.own 4, AV.int IntKind.i64 o1_3, AV.own 5, AV.int IntKind.i64 o1_5, AV.bool o1_6], Obj.arr Ty.str o2, Obj.mp IntKind.i64 Ty.str o3, Obj.arr (Ty.st (Ty.pair (Ty.int IntKind.i64) Ty.str)) o4, Obj.arr (Ty.int IntKind.i64) o5], blk := 147456 }) (fun _ => K (Ex.norm) { env := [(0, AV.ptr 0 0), (1, AV.int IntKind.i64 t1)], stk := [[(0, AV.ptr 0 0), (1, AV.ptr 1 0)]], H := [AE.Obj.cells [AV.ptr 1 0, AV.int IntKind.i64 o0_1, AV.int IntKind.i64 o0_2], AE.Obj.cells [AV.own 2, AV.map 3, AV.own 4, AV.int IntKind.i64 o1_3, AV.own 5, AV.int IntKind.i64 o1_5, AV.bool o1_6], Obj.arr Ty.str o2, Obj.mp IntKind.i64 Ty.str o3, Obj.arr (Ty.st (Ty.pair (Ty.int IntKind.i64) Ty.str)) o4, Obj.arr (Ty.int IntKind.i64) o5], blk := 147456 }))
def noderegion_Region_Place_n0 {β : Type} : Iregion_Region_Place_n0 → (Yregion_Region_Place_n0 → Option β) → Option β := fun (t1, o0_1, o0_2, o1_3, o1_5, o1_6, o2, o3, o4, o5) exit => (bindO (nodeDregion_Region_Place_n1 (t1, o0_1, o0_2, o1_3, o1_5, o1_6, o2, o3, o4, o5)) fun t9 => (bif t9 then (exit (Sum.inl ())) else (exit (Sum.inr ()))))
def nodeDregion_Region_Place_n0 (i : Iregion_Region_Place_n0) : Option Yregion_Region_Place_n0 := noderegion_Region_Place_n0 i some
theorem noderegion_Region_Place_n0_nat (i : Iregion_Region_Place_n0) (k : Yregion_Region_Place_n0 → Ans) : noderegion_Region_Place_n0 i k = bindO (nodeDregion_Region_Place_n0 i) k := by
  obtain ⟨t1, o0_1, o0_2, o1_3, o1_5, o1_6, o2, o3, o4, o5⟩ := i
  simp only [nodeDregion_Region_Place_n0, noderegion_Region_Place_n0, bindO_cond, bindO_assoc, bindO_none, bindO_pure, bindO_elim, bindO_unP]
theorem noderegion_Region_Place_n0_ok (i : Iregion_Region_Place_n0) (K : Ex → St → Ans) : codeI Try.tab envregion_Region_Place noHint (codeD Try.tab envregion_Region_Place noHint 0 64) 70 26 annLregion_Region_Place_n0 Lregion_Region_Place_n0 (weakP 6 (exk [0, 1] [4, 5] []) K) (Sregion_Region_Place_n0 i) = noderegion_Region_Place_n0 i (outregion_Region_Place_n0 i K) := by kernel_rfl
theorem GNregion_Region_Place_n0_ok : CSum Try.prog 26 Lregion_Region_Place_n0 (sumN decregion_Region_Place_n0 nodeDregion_Region_Place_n0 outregion_Region_Place_n0) := csum_node mixed tabOk envregion_Region_PlaceOk 6 (exk [0, 1] [4, 5] []) annLregion_Region_Place_n0_ok decregion_Region_Place_n0_ok noderegion_Region_Place_n0_ok noderegion_Region_Place_n0_nat
noncomputable def Gregion_Region_Place_n0 : (Ex → St → Ans) → St → Ans := (sumN decregion_Region_Place_n0 nodeDregion_Region_Place_n0 outregion_Region_Place_n0)
theorem Gregion_Region_Place_n0_ok : CSum Try.prog 26 Lregion_Region_Place_n0 Gregion_Region_Place_n0 := GNregion_Region_Place_n0_ok
noncomputable def annregion_Region_Place : Ann := (.seq .none (.seq (.cut 6 [0, 1] Gregion_Region_Place_n0) .none))
theorem annregion_Region_Place_ok : AnnOk Try.prog 26 bregion_Region_Place annregion_Region_Place := ⟨(annOk_none _ _ _), ⟨Gregion_Region_Place_n0_ok, (annOk_none _ _ _)⟩⟩
abbrev Aregion_Region_Place := (Int) × (Int) × (Int) × (Int) × (Int) × (Bool) × (List (List UInt8)) × (List (Int × List UInt8)) × (List (Int × List UInt8)) × (List Int)
abbrev Yregion_Region_Place := (Int) × (Int)
def fnregion_Region_Place {β : Type} : Aregion_Region_Place → (Yregion_Region_Place → Option β) → Option β := fun (a1, o0_1, o0_2, o1_3, o1_5, o1_6, o2, o3, o4, o5) exit => (bindO (nodeDregion_Region_Place_n0 (a1, o0_1, o0_2, o1_3, o1_5, o1_6, o2, o3, o4, o5)) (Sum.elim (fun _ => (exit ((0 : Int), (3 : Int)))) (fun _ => (exit (IntKind.wrap IntKind.i64 (o0_1 + a1), (0 : Int))))))
def fnDregion_Region_Place (a : Aregion_Region_Place) : Option Yregion_Region_Place := fnregion_Region_Place a some
theorem fnregion_Region_Place_nat (a : Aregion_Region_Place) (k : Yregion_Region_Place → Ans) : fnregion_Region_Place a k = bindO (fnDregion_Region_Place a) k := by
  obtain ⟨a1, o0_1, o0_2, o1_3, o1_5, o1_6, o2, o3, o4, o5⟩ := a
  simp only [fnDregion_Region_Place, fnregion_Region_Place, bindO_cond, bindO_assoc, bindO_none, bindO_pure, bindO_elim, bindO_unP]
def argsregion_Region_Place : Aregion_Region_Place → List AV × List AE.Obj := fun (a1, o0_1, o0_2, o1_3, o1_5, o1_6, o2, o3, o4, o5) => ([AV.ptr 0 0, AV.int IntKind.i64 a1], [AE.Obj.cells [AV.ptr 1 0, AV.int IntKind.i64 o0_1, AV.int IntKind.i64 o0_2], AE.Obj.cells [AV.own 2, AV.map 3, AV.own 4, AV.int IntKind.i64 o1_3, AV.own 5, AV.int IntKind.i64 o1_5, AV.bool o1_6], Obj.arr Ty.str o2, Obj.mp IntKind.i64 Ty.str o3, Obj.arr (Ty.st (Ty.pair (Ty.int IntKind.i64) Ty.str)) o4, Obj.arr (Ty.int IntKind.i64) o5])
def decAregion_Region_Place (l : List AV) (H : List AE.Obj) : Option Aregion_Region_Place := match l, H with
  | [AV.ptr 0 0, AV.int IntKind.i64 a1], [AE.Obj.cells [AV.ptr 1 0, AV.int IntKind.i64 o0_1, AV.int IntKind.i64 o0_2], AE.Obj.cells [AV.own 2, AV.map 3, AV.own 4, AV.int IntKind.i64 o1_3, AV.own 5, AV.int IntKind.i64 o1_5, AV.bool o1_6], Obj.arr Ty.str o2, Obj.mp IntKind.i64 Ty.str o3, Obj.arr (Ty.st (Ty.pair (Ty.int IntKind.i64) Ty.str)) o4, Obj.arr (Ty.int IntKind.i64) o5] => some (a1, o0_1, o0_2, o1_3, o1_5, o1_6, o2, o3, o4, o5)
  | _, _ => none
theorem decAregion_Region_Place_ok (l : List AV) (H : List AE.Obj) (a : Aregion_Region_Place) (h : decAregion_Region_Place l H = some a) : (l, H) = argsregion_Region_Place a := by
  unfold decAregion_Region_Place at h
  split at h
  · cases h; rfl
  · cases h
def outregion_Region_Place : Aregion_Region_Place → (AV → List AE.Obj → Ans) → Yregion_Region_Place → Ans := fun (a1, o0_1, o0_2, o1_3, o1_5, o1_6, o2, o3, o4, o5) K => unP fun r_0_y r_1_y => K (AV.tup [AV.int IntKind.i64 r_0_y, AV.int IntKind.i64 r_1_y]) [AE.Obj.cells [AV.ptr 1 0, AV.int IntKind.i64 o0_1, AV.int IntKind.i64 o0_2], AE.Obj.cells [AV.own 2, AV.map 3, AV.own 4, AV.int IntKind.i64 o1_3, AV.own 5, AV.int IntKind.i64 o1_5, AV.bool o1_6], Obj.arr Ty.str o2, Obj.mp IntKind.i64 Ty.str o3, Obj.arr (Ty.st (Ty.pair (Ty.int IntKind.i64) Ty.str)) o4, Obj.arr (Ty.int IntKind.i64) o5]
theorem fnregion_Region_Place_ok (a : Aregion_Region_Place) (K : AV → List AE.Obj → Ans) : fnE Try.tab envregion_Region_Place noHint 0 70 36 Try.f36.ntmps Try.f36.results.toList annregion_Region_Place bregion_Region_Place (argsregion_Region_Place a).1 (argsregion_Region_Place a).2 K = fnregion_Region_Place a (outregion_Region_Place a K) := by kernel_rfl
def vFregion_Region_Place (a : Aregion_Region_Place) (K : AV → List AE.Obj → Ans) : Ans := bindO (fnDregion_Region_Place a) fun y => outregion_Region_Place a K y
def Fregion_Region_Place : List AV → List AE.Obj → (AV → List AE.Obj → Ans) → Ans := fun l H K => bindO (decAregion_Region_Place l H) fun a => vFregion_Region_Place a K
theorem Fregion_Region_Place_ok : FuncOk Try.prog 36 Fregion_Region_Place := func_mkD (hint := noHint) (d := 0) (n := 70) mixed tabOk envregion_Region_PlaceOk Try.func36 (bodySome (by kernel_rfl)) (by decide +kernel) annregion_Region_Place_ok decAregion_Region_Place_ok fnregion_Region_Place_ok fnregion_Region_Place_nat
--@ logscan_there
noncomputable def envlogscan_there : Env := [(36, .func Fregion_Region_Place)]
theorem envlogscan_thereOk : EnvOk Try.prog envlogscan_there := EnvOk.cons Fregion_Region_Place_ok (EnvOk.nil)
noncomputable def blogscan_there : Code := Try.f17.body.getD .skip
noncomputable def annlogscan_there : Ann := .none
theorem annlogscan_there_ok : AnnOk Try.prog 14 blogscan_there annlogscan_there := (annOk_none _ _ _)
abbrev Alogscan_there := (Int) × (Int) × (Int) × (Int) × (Int) × (Bool) × (List (List UInt8)) × (List (Int × List UInt8)) × (List (Int × List UInt8)) × (List Int)
abbrev Ylogscan_there := (Int)
def fnlogscan_there {β : Type} : Alogscan_there → (Ylogscan_there → Option β) → Option β := fun (a1, o0_1, o0_2, o1_3, o1_5, o1_6, o2, o3, o4, o5) exit => (bindO (fnDregion_Region_Place (a1, o0_1, o0_2, o1_3, o1_5, o1_6, o2, o3, o4, o5)) (unP fun r_0 r_1 => (exit (r_1))))
def fnDlogscan_there (a : Alogscan_there) : Option Ylogscan_there := fnlogscan_there a some
theorem fnlogscan_there_nat (a : Alogscan_there) (k : Ylogscan_there → Ans) : fnlogscan_there a k = bindO (fnDlogscan_there a) k := by
  obtain ⟨a1, o0_1, o0_2, o1_3, o1_5, o1_6, o2, o3, o4, o5⟩ := a
  simp only [fnDlogscan_there, fnlogscan_there, bindO_cond, bindO_assoc, bindO_none, bindO_pure, bindO_elim, bindO_unP]
def argslogscan_there : Alogscan_there → List AV × List AE.Obj := fun (a1, o0_1, o0_2, o1_3, o1_5, o1_6, o2, o3, o4, o5) => ([AV.ptr 0 0, AV.int IntKind.i64 a1], [AE.Obj.cells [AV.ptr 1 0, AV.int IntKind.i64 o0_1, AV.int IntKind.i64 o0_2], AE.Obj.cells [AV.own 2, AV.map 3, AV.own 4, AV.int IntKind.i64 o1_3, AV.own 5, AV.int IntKind.i64 o1_5, AV.bool o1_6], Obj.arr Ty.str o2, Obj.mp IntKind.i64 Ty.str o3, Obj.arr (Ty.st (Ty.pair (Ty.int IntKind.i64) Ty.str)) o4, Obj.arr (Ty.int IntKind.i64) o5])
def decAlogscan_there (l : List AV) (H : List AE.Obj) : Option Alogscan_there := match l, H with
  | [AV.ptr 0 0, AV.int IntKind.i64 a1], [AE.Obj.cells [AV.ptr 1 0, AV.int IntKind.i64 o0_1, AV.int IntKind.i64 o0_2], AE.Obj.cells [AV.own 2, AV.map 3, AV.own 4, AV.int IntKind.i64 o1_3, AV.own 5, AV.int IntKind.i64 o1_5, AV.bool o1_6], Obj.arr Ty.str o2, Obj.mp IntKind.i64 Ty.str o3, Obj.arr (Ty.st (Ty.pair (Ty.int IntKind.i64) Ty.str)) o4, Obj.arr (Ty.int IntKind.i64) o5] => some (a1, o0_1, o0_2, o1_3, o1_5, o1_6, o2, o3, o4, o5)
  | _, _ => none
theorem decAlogscan_there_ok (l : List AV) (H : List AE.Obj) (a : Alogscan_there) (h : decAlogscan_there l H = some a) : (l, H) = argslogscan_there a := by
  unfold decAlogscan_there at h
  split at h
  · cases h; rfl
  · cases h
def outlogscan_there : Alogscan_there → (AV → List AE.Obj → Ans) → Ylogscan_there → Ans := fun (a1, o0_1, o0_2, o1_3, o1_5, o1_6, o2, o3, o4, o5) K => fun r_y => K (AV.int IntKind.i64 r_y) [AE.Obj.cells [AV.ptr 1 0, AV.int IntKind.i64 o0_1, AV.int IntKind.i64 o0_2], AE.Obj.cells [AV.own 2, AV.map 3, AV.own 4, AV.int IntKind.i64 o1_3, AV.own 5, AV.int IntKind.i64 o1_5, AV.bool o1_6], Obj.arr Ty.str o2, Obj.mp IntKind.i64 Ty.str o3, Obj.arr (Ty.st (Ty.pair (Ty.int IntKind.i64) Ty.str)) o4, Obj.arr (Ty.int IntKind.i64) o5]
theorem fnlogscan_there_ok (a : Alogscan_there) (K : AV → List AE.Obj → Ans) : fnE Try.tab envlogscan_there noHint 0 70 17 Try.f17.ntmps Try.f17.results.toList annlogscan_there blogscan_there (argslogscan_there a).1 (argslogscan_there a).2 K = fnlogscan_there a (outlogscan_there a K) := by kernel_rfl
def vFlogscan_there (a : Alogscan_there) (K : AV → List AE.Obj → Ans) : Ans := bindO (fnDlogscan_there a) fun y => outlogscan_there a K y
def Flogscan_there : List AV → List AE.Obj → (AV → List AE.Obj → Ans) → Ans := fun l H K => bindO (decAlogscan_there l H) fun a => vFlogscan_there a K
theorem Flogscan_there_ok : FuncOk Try.prog 17 Flogscan_there := func_mkD (hint := noHint) (d := 0) (n := 70) mixed tabOk envlogscan_thereOk Try.func17 (bodySome (by kernel_rfl)) (by decide +kernel) annlogscan_there_ok decAlogscan_there_ok fnlogscan_there_ok fnlogscan_there_nat
--@ region_Region_Many
noncomputable def envregion_Region_Many : Env := []
theorem envregion_Region_ManyOk : EnvOk Try.prog envregion_Region_Many := EnvOk.nil
noncomputable def bregion_Region_Many : Code := Try.f18.body.getD .skip
noncomputable def annregion_Region_Many : Ann := .none
theorem annregion_Region_Many_ok : AnnOk Try.prog 9 bregion_Region_Many annregion_Region_Many := (annOk_none _ _ _)
abbrev Aregion_Region_Many := (Int) × (Int) × (Int) × (Int) × (Bool) × (List (List UInt8)) × (List (Int × List UInt8)) × (List (Int × List UInt8)) × (List Int)
abbrev Yregion_Region_Many := Unit
def fnregion_Region_Many {β : Type} : Aregion_Region_Many → (Yregion_Region_Many → Option β) → Option β := fun (o0_1, o0_2, o1_3, o1_5, o1_6, o2, o3, o4, o5) exit => (exit ())
def fnDregion_Region_Many (a : Aregion_Region_Many) : Option Yregion_Region_Many := fnregion_Region_Many a some
theorem fnregion_Region_Many_nat (a : Aregion_Region_Many) (k : Yregion_Region_Many → Ans) : fnregion_Region_Many a k = bindO (fnDregion_Region_Many a) k := by
  obtain ⟨o0_1, o0_2, o1_3, o1_5, o1_6, o2, o3, o4, o5⟩ := a
  simp only [fnDregion_Region_Many, fnregion_Region_Many, bindO_cond, bindO_assoc, bindO_none, bindO_pure, bindO_elim, bindO_unP]
def argsregion_Region_Many : Aregion_Region_Many → List AV × List AE.Obj := fun (o0_1, o0_2, o1_3, o1_5, o1_6, o2, o3, o4, o5) => ([AV.ptr 0 0], [AE.Obj.cells [AV.ptr 1 0, AV.int IntKind.i64 o0_1, AV.int IntKind.i64 o0_2], AE.Obj.cells [AV.own 2, AV.map 3, AV.own 4, AV.int IntKind.i64 o1_3, AV.own 5, AV.int IntKind.i64 o1_5, AV.bool o1_6], Obj.arr Ty.str o2, Obj.mp IntKind.i64 Ty.str o3, Obj.arr (Ty.st (Ty.pair (Ty.int IntKind.i64) Ty.str)) o4, Obj.arr (Ty.int IntKind.i64) o5])
def decAregion_Region_Many (l : List AV) (H : List AE.Obj) : Option Aregion_Region_Many := match l, H with
  | [AV.ptr 0 0], [AE.Obj.cells [AV.ptr 1 0, AV.int IntKind.i64 o0_1, AV.int IntKind.i64 o0_2], AE.Obj.cells [AV.own 2, AV.map 3, AV.own 4, AV.int IntKind.i64 o1_3, AV.own 5, AV.int IntKind.i64 o1_5, AV.bool o1_6], Obj.arr Ty.str o2, Obj.mp IntKind.i64 Ty.str o3, Obj.arr (Ty.st (Ty.pair (Ty.int IntKind.i64) Ty.str)) o4, Obj.arr (Ty.int IntKind.i64) o5] => some (o0_1, o0_2, o1_3, o1_5, o1_6, o2, o3, o4, o5)
  | _, _ => none
theorem decAregion_Region_Many_ok (l : List AV) (H : List AE.Obj) (a : Aregion_Region_Many) (h : decAregion_Region_Many l H = some a) : (l, H) = argsregion_Region_Many a := by
  unfold decAregion_Region_Many at h
  split at h
  · cases h; rfl
  · cases h
def outregion_Region_Many : Aregion_Region_Many → (AV → List AE.Obj → Ans) → Yregion_Region_Many → Ans := fun (o0_1, o0_2, o1_3, o1_5, o1_6, o2, o3, o4, o5) K => fun _ => K (AV.int IntKind.i64 o0_2) [AE.Obj.cells [AV.ptr 1 0, AV.int IntKind.i64 o0_1, AV.int IntKind.i64 o0_2], AE.Obj.cells [AV.own 2, AV.map 3, AV.own 4, AV.int IntKind.i64 o1_3, AV.own 5, AV.int IntKind.i64 o1_5, AV.bool o1_6], Obj.arr Ty.str o2, Obj.mp IntKind.i64 Ty.str o3, Obj.arr (Ty.st (Ty.pair (Ty.int IntKind.i64) Ty.str)) o4, Obj.arr (Ty.int IntKind.i64) o5]
theorem fnregion_Region_Many_ok (a : Aregion_Region_Many) (K : AV → List AE.Obj → Ans) : fnE Try.tab envregion_Region_Many noHint 0 70 18 Try.f18.ntmps Try.f18.results.toList annregion_Region_Many bregion_Region_Many (argsregion_Region_Many a).1 (argsregion_Region_Many a).2 K = fnregion_Region_Many a (outregion_Region_Many a K) := by kernel_rfl
def vFregion_Region_Many (a : Aregion_Region_Many) (K : AV → List AE.Obj → Ans) : Ans := bindO (fnDregion_Region_Many a) fun y => outregion_Region_Many a K y
def Fregion_Region_Many : List AV → List AE.Obj → (AV → List AE.Obj → Ans) → Ans := fun l H K => bindO (decAregion_Region_Many l H) fun a => vFregion_Region_Many a K
theorem Fregion_Region_Many_ok : FuncOk Try.prog 18 Fregion_Region_Many := func_mkD (hint := noHint) (d := 0) (n := 70) mixed tabOk envregion_Region_ManyOk Try.func18 (bodySome (by kernel_rfl)) (by decide +kernel) annregion_Region_Many_ok decAregion_Region_Many_ok fnregion_Region_Many_ok fnregion_Region_Many_nat
--@ logscan_wrap
noncomputable def envlogscan_wrap : Env := [(18, .func Fregion_Region_Many)]
theorem envlogscan_wrapOk : EnvOk Try.prog envlogscan_wrap := EnvOk.cons Fregion_Region_Many_ok (EnvOk.nil)
noncomputable def blogscan_wrap : Code := Try.f21.body.getD .skip
noncomputable def annlogscan_wrap : Ann := .none
theorem annlogscan_wrap_ok : AnnOk Try.prog 9 blogscan_wrap annlogscan_wrap := (annOk_none _ _ _)
abbrev Alogscan_wrap := (Int) × (Int) × (Int) × (Int) × (Int) × (Bool) × (List (List UInt8)) × (List (Int × List UInt8)) × (List (Int × List UInt8)) × (List Int)
abbrev Ylogscan_wrap := (Int)
def fnlogscan_wrap {β : Type} : Alogscan_wrap → (Ylogscan_wrap → Option β) → Option β := fun (a1, o0_1, o0_2, o1_3, o1_5, o1_6, o2, o3, o4, o5) exit => (bindO (fnDregion_Region_Many (o0_1, o0_2, o1_3, o1_5, o1_6, o2, o3, o4, o5)) fun _ => (bif o0_2 == (0 : Int) then none else (exit (Int.tmod a1 o0_2))))
def fnDlogscan_wrap (a : Alogscan_wrap) : Option Ylogscan_wrap := fnlogscan_wrap a some
theorem fnlogscan_wrap_nat (a : Alogscan_wrap) (k : Ylogscan_wrap → Ans) : fnlogscan_wrap a k = bindO (fnDlogscan_wrap a) k := by
  obtain ⟨a1, o0_1, o0_2, o1_3, o1_5, o1_6, o2, o3, o4, o5⟩ := a
  simp only [fnDlogscan_wrap, fnlogscan_wrap, bindO_cond, bindO_assoc, bindO_none, bindO_pure, bindO_elim, bindO_unP]
def argslogscan_wrap : Alogscan_wrap → List AV × List AE.Obj := fun (a1, o0_1, o0_2, o1_3, o1_5, o1_6, o2, o3, o4, o5) => ([AV.ptr 0 0, AV.int IntKind.i64 a1], [AE.Obj.cells [AV.ptr 1 0, AV.int IntKind.i64 o0_1, AV.int IntKind.i64 o0_2], AE.Obj.cells [AV.own 2, AV.map 3, AV.own 4, AV.int IntKind.i64 o1_3, AV.own 5, AV.int IntKind.i64 o1_5, AV.bool o1_6], Obj.arr Ty.str o2, Obj.mp IntKind.i64 Ty.str o3, Obj.arr (Ty.st (Ty.pair (Ty.int IntKind.i64) Ty.str)) o4, Obj.arr (Ty.int IntKind.i64) o5])
def decAlogscan_wrap (l : List AV) (H : List AE.Obj) : Option Alogscan_wrap := match l, H with
  | [AV.ptr 0 0, AV.int IntKind.i64 a1], [AE.Obj.cells [AV.ptr 1 0, AV.int IntKind.i64 o0_1, AV.int IntKind.i64 o0_2], AE.Obj.cells [AV.own 2, AV.map 3, AV.own 4, AV.int IntKind.i64 o1_3, AV.own 5, AV.int IntKind.i64 o1_5, AV.bool o1_6], Obj.arr Ty.str o2, Obj.mp IntKind.i64 Ty.str o3, Obj.arr (Ty.st (Ty.pair (Ty.int IntKind.i64) Ty.str)) o4, Obj.arr (Ty.int IntKind.i64) o5] => some (a1, o0_1, o0_2, o1_3, o1_5, o1_6, o2, o3, o4, o5)
  | _, _ => none
theorem decAlogscan_wrap_ok (l : List AV) (H : List AE.Obj) (a : Alogscan_wrap) (h : decAlogscan_wrap l H = some a) : (l, H) = argslogscan_wrap a := by
  unfold decAlogscan_wrap at h
  split at h
  · cases h; rfl
  · cases h
def outlogscan_wrap : Alogscan_wrap → (AV → List AE.Obj → Ans) → Ylogscan_wrap → Ans := fun (a1, o0_1, o0_2, o1_3, o1_5, o1_6, o2, o3, o4, o5) K => fun r_y => K (AV.int IntKind.i64 r_y) [AE.Obj.cells [AV.ptr 1 0, AV.int IntKind.i64 o0_1, AV.int IntKind.i64 o0_2], AE.Obj.cells [AV.own 2, AV.map 3, AV.own 4, AV.int IntKind.i64 o1_3, AV.own 5, AV.int IntKind.i64 o1_5, AV.bool o1_6], Obj.arr Ty.str o2, Obj.mp IntKind.i64 Ty.str o3, Obj.arr (Ty.st (Ty.pair (Ty.int IntKind.i64) Ty.str)) o4, Obj.arr (Ty.int IntKind.i64) o5]
theorem fnlogscan_wrap_ok (a : Alogscan_wrap) (K : AV → List AE.Obj → Ans) : fnE Try.tab envlogscan_wrap noHint 0 70 21 Try.f21.ntmps Try.f21.results.toList annlogscan_wrap blogscan_wrap (argslogscan_wrap a).1 (argslogscan_wrap a).2 K = fnlogscan_wrap a (outlogscan_wrap a K) := by kernel_rfl
def vFlogscan_wrap (a : Alogscan_wrap) (K : AV → List AE.Obj → Ans) : Ans := bindO (fnDlogscan_wrap a) fun y => outlogscan_wrap a K y
def Flogscan_wrap : List AV → List AE.Obj → (AV → List AE.Obj → Ans) → Ans := fun l H K => bindO (decAlogscan_wrap l H) fun a => vFlogscan_wrap a K
theorem Flogscan_wrap_ok : FuncOk Try.prog 21 Flogscan_wrap := func_mkD (hint := noHint) (d := 0) (n := 70) mixed tabOk envlogscan_wrapOk Try.func21 (bodySome (by kernel_rfl)) (by decide +kernel) annlogscan_wrap_ok decAlogscan_wrap_ok fnlogscan_wrap_ok fnlogscan_wrap_nat
--@ region_Region_Split
noncomputable def envregion_Region_Split : Env := [(30, .pure Fregion_inside)]
theorem envregion_Region_SplitOk : EnvOk Try.prog envregion_Region_Split := EnvOk.cons Fregion_inside_ok (EnvOk.nil)
noncomputable def bregion_Region_Split : Code := Try.f37.body.getD .skip
noncomputable def Lregion_Region_Split_n0 : Code := codeAt [1, 1, 1, 1, 0, 1, 0, 0] bregion_Region_Split
noncomputable def annLregion_Region_Split_n0 : Ann := .at 6 [2, 9, 10] (.loop .none)
theorem annLregion_Region_Split_n0_ok : AnnOk Try.prog 52 (.loop Lregion_Region_Split_n0) annLregion_Region_Split_n0 := annOk_at (annOk_none _ _ _)
abbrev Iregion_Region_Split_n0 := (Int) × (Int) × (Int) × (Int) × (Bool) × (List (List UInt8)) × (List (Int × List UInt8)) × (List (Int × List UInt8)) × (List Int)
abbrev Yregion_Region_Split_n0 := (List (Int × List UInt8))
abbrev Vregion_Region_Split_n0 := (List UInt8) × (Int) × (List (Int × List UInt8))
def Sregion_Region_Split_n0 : Iregion_Region_Split_n0 → Vregion_Region_Split_n0 → St := fun (o0_1, o0_2, o1_3, o1_5, o1_6, o2, o3, o4, o5) (t2, t10, o6) => { env := [(2, AV.str t2), (9, AV.own 6), (10, AV.int IntKind.i64 t10)], stk := [[(0, AV.ptr 0 0), (1, AV.ptr 1 0)]], H := [AE.Obj.cells [AV.ptr 1 0, AV.int IntKind.i64 o0_1, AV.int IntKind.i64 o0_2], AE.Obj.cells [AV.own 2, AV.map 3, AV.own 4, AV.int IntKind.i64 o1_3, AV.own 5, AV.int IntKind.i64 o1_5, AV.bool o1_6], Obj.arr Ty.str o2, Obj.mp IntKind.i64 Ty.str o3, Obj.arr (Ty.st (Ty.pair (Ty.int IntKind.i64) Ty.str)) o4, Obj.arr (Ty.int IntKind.i64) o5, Obj.arr (Ty.st (Ty.pair (Ty.int IntKind.i64) Ty.str)) o6], blk := 151553 }
def decregion_Region_Split_n0 (s : St) : Option (Iregion_Region_Split_n0 × Vregion_Region_Split_n0) := match s with
  | { env := [(2, AV.str t2), (9, AV.own 6), (10, AV.int IntKind.i64 t10)], stk := [[(0, AV.ptr 0 0), (1, AV.ptr 1 0)]], H := [AE.Obj.cells [AV.ptr 1 0, AV.int IntKind.i64 o0_1, AV.int IntKind.i64 o0_2], AE.Obj.cells [AV.own 2, AV.map 3, AV.own 4, AV.int IntKind.i64 o1_3, AV.own 5, AV.int IntKind.i64 o1_5, AV.bool o1_6], Obj.arr Ty.str o2, Obj.mp IntKind.i64 Ty.str o3, Obj.arr (Ty.st (Ty.pair (Ty.int IntKind.i64) Ty.str)) o4, Obj.arr (Ty.int IntKind.i64) o5, Obj.arr (Ty.st (Ty.pair (Ty.int IntKind.i64) Ty.str)) o6], blk := 151553 } => some ((o0_1, o0_2, o1_3, o1_5, o1_6, o2, o3, o4, o5), (t2, t10, o6))
  | _ => none
theorem decregion_Region_Split_n0_ok (s : St) (x : Iregion_Region_Split_n0 × Vregion_Region_Split_n0) (h : decregion_Region_Split_n0 s = some x) : s = Sregion_Region_Split_n0 x.1 x.2 := by
  unfold decregion_Region_Split_n0 at h
  split at h
  · cases h; rfl
  · cases h
def outregion_Region_Split_n0 : Iregion_Region_Split_n0 → (Ex → St → Ans) → Yregion_Region_Split_n0 → Ans := fun (o0_1, o0_2, o1_3, o1_5, o1_6, o2, o3, o4, o5) K => fun o6_y => K (Ex.exit 1) { env := [(9, AV.own 6)], stk := [[(0, AV.ptr 0 0), (1, AV.ptr 1 0)]], H := [AE.Obj.cells [AV.ptr 1 0, AV.int IntKind.i64 o0_1, AV.int IntKind.i64 o0_2], AE.Obj.cells [AV.own 2, AV.map 3, AV.own 4, AV.int IntKind.i64 o1_3, AV.own 5, AV.int IntKind.i64 o1_5, AV.bool o1_6], Obj.arr Ty.str o2, Obj.mp IntKind.i64 Ty.str o3, Obj.arr (Ty.st (Ty.pair (Ty.int IntKind.i64) Ty.str)) o4, Obj.arr (Ty.int IntKind.i64) o5, Obj.arr (Ty.st (Ty.pair (Ty.int IntKind.i64) Ty.str)) o6_y], blk := 151553 }
def stepregion_Region_Split_n0 {β : Type} : Iregion_Region_Split_n0 → Vregion_Region_Split_n0 → (Vregion_Region_Split_n0 → Option β) → (Yregion_Region_Split_n0 → Option β) → Option β := fun (o0_1, o0_2, o1_3, o1_5, o1_6, o2, o3, o4, o5) (t2, t10, o6) next exit => (bif !t2 == [] then (bif inR (64 : Int) (List.length t2 + (1 : Nat)) then (bif Nat.ble ((List.length o6 + List.length [(t10, List.take (64 : Nat) t2)]) * (24 : Nat)) (140737488355328 : Nat) then (bif inR (64 : Int) (List.length t2 + (1 : Nat)) then (next (List.drop (64 : Nat) t2, IntKind.wrap IntKind.i64 (t10 + (1 : Int)), o6 ++ [(t10, List.take (64 : Nat) t2)])) else none) else none) else none) else (exit (o6)))
def stepDregion_Region_Split_n0 (i : Iregion_Region_Split_n0) (v : Vregion_Region_Split_n0) : Option (Vregion_Region_Split_n0 ⊕ Yregion_Region_Split_n0) := stepregion_Region_Split_n0 i v (fun v => some (.inl v)) (fun y => some (.inr y))
theorem stepregion_Region_Split_n0_nat (i : Iregion_Region_Split_n0) (v : Vregion_Region_Split_n0) (next : Vregion_Region_Split_n0 → Ans) (exit : Yregion_Region_Split_n0 → Ans) : stepregion_Region_Split_n0 i v next exit = bindO (stepDregion_Region_Split_n0 i v) (Sum.elim next exit) := by
  obtain ⟨o0_1, o0_2, o1_3, o1_5, o1_6, o2, o3, o4, o5⟩ := i
  obtain ⟨t2, t10, o6⟩ := v
  simp only [stepDregion_Region_Split_n0, stepregion_Region_Split_n0, bindO_cond, bindO_assoc, bindO_none, bindO_pure, bindO_elim, bindO_unP, Sum.elim_inl, Sum.elim_inr]
theorem stepregion_Region_Split_n0_ok (n : Nat) (i : Iregion_Region_Split_n0) (v : Vregion_Region_Split_n0) (K : Ex → St → Ans) : codeI Try.tab envregion_Region_Split noHint (codeD Try.tab envregion_Region_Split noHint 0 64) (n+1) 52 annLregion_Region_Split_n0 (.loop Lregion_Region_Split_n0) (weakP 6 (exk [9] [6, 7] [(1, [9])]) K) (Sregion_Region_Split_n0 i v) = stepregion_Region_Split_n0 i v (fun v' => codeI Try.tab envregion_Region_Split noHint (codeD Try.tab envregion_Region_Split noHint 0 64) n 52 annLregion_Region_Split_n0 (.loop Lregion_Region_Split_n0) (weakP 6 (exk [9] [6, 7] [(1, [9])]) K) (Sregion_Region_Split_n0 i v')) (fun y => outregion_Region_Split_n0 i K y) := by kernel_rfl
theorem GNregion_Region_Split_n0_ok : CSum Try.prog 52 (.loop Lregion_Region_Split_n0) (sumL decregion_Region_Split_n0 stepDregion_Region_Split_n0 outregion_Region_Split_n0) := csum_loop mixed tabOk envregion_Region_SplitOk 6 (exk [9] [6, 7] [(1, [9])]) annLregion_Region_Split_n0_ok decregion_Region_Split_n0_ok stepregion_Region_Split_n0_ok stepregion_Region_Split_n0_nat
noncomputable def Gregion_Region_Split_n0 : (Ex → St → Ans) → St → Ans := (sumL decregion_Region_Split_n0 stepDregion_Region_Split_n0 outregion_Region_Split_n0)
theorem Gregion_Region_Split_n0_ok : CSum Try.prog 52 (.loop Lregion_Region_Split_n0) Gregion_Region_Split_n0 := GNregion_Region_Split_n0_ok
noncomputable def annregion_Region_Split : Ann := (.seq .none (.seq .none (.seq .none (.seq .none (.seq (.seq .none (.block (.cut 6 [2, 9, 10] Gregion_Region_Split_n0))) .none)))))
theorem annregion_Region_Split_ok : AnnOk Try.prog 52 bregion_Region_Split annregion_Region_Split := ⟨(annOk_none _ _ _), ⟨(annOk_none _ _ _), ⟨(annOk_none _ _ _), ⟨(annOk_none _ _ _), ⟨⟨(annOk_none _ _ _), Gregion_Region_Split_n0_ok⟩, (annOk_none _ _ _)⟩⟩⟩⟩⟩
abbrev Aregion_Region_Split := (Int) × (List UInt8) × (Int) × (Int) × (Int) × (Int) × (Bool) × (List (List UInt8)) × (List (Int × List UInt8)) × (List (Int × List UInt8)) × (List Int)
abbrev Yregion_Region_Split := (Int) × (List (Int × List UInt8))
def fnregion_Region_Split {β : Type} : Aregion_Region_Split → (Yregion_Region_Split → Option β) → Option β := fun (a1, a2, o0_1, o0_2, o1_3, o1_5, o1_6, o2, o3, o4, o5) exit => (bif IntKind.wrap IntKind.i64 (IntKind.wrap IntKind.i64 (Int.tdiv (↑(List.length a2) : Int) (64 : Int)) * (64 : Int)) != (↑(List.length a2) : Int) then (exit ((12 : Int), [])) else (bindO (fnDregion_inside (a1, IntKind.wrap IntKind.i64 (Int.tdiv (↑(List.length a2) : Int) (64 : Int)), o0_2)) fun r => (bif !r then (exit ((3 : Int), [])) else (bindO (loopD (stepDregion_Region_Split_n0 (o0_1, o0_2, o1_3, o1_5, o1_6, o2, o3, o4, o5)) FUEL (a2, IntKind.wrap IntKind.i64 (o0_1 + a1), [])) fun o6 => (exit ((0 : Int), o6))))))
def fnDregion_Region_Split (a : Aregion_Region_Split) : Option Yregion_Region_Split := fnregion_Region_Split a some
theorem fnregion_Region_Split_nat (a : Aregion_Region_Split) (k : Yregion_Region_Split → Ans) : fnregion_Region_Split a k = bindO (fnDregion_Region_Split a) k := by
  obtain ⟨a1, a2, o0_1, o0_2, o1_3, o1_5, o1_6, o2, o3, o4, o5⟩ := a
  simp only [fnDregion_Region_Split, fnregion_Region_Split, bindO_cond, bindO_assoc, bindO_none, bindO_pure, bindO_elim, bindO_unP]
def argsregion_Region_Split : Aregion_Region_Split → List AV × List AE.Obj := fun (a1, a2, o0_1, o0_2, o1_3, o1_5, o1_6, o2, o3, o4, o5) => ([AV.ptr 0 0, AV.int IntKind.i64 a1, AV.str a2], [AE.Obj.cells [AV.ptr 1 0, AV.int IntKind.i64 o0_1, AV.int IntKind.i64 o0_2], AE.Obj.cells [AV.own 2, AV.map 3, AV.own 4, AV.int IntKind.i64 o1_3, AV.own 5, AV.int IntKind.i64 o1_5, AV.bool o1_6], Obj.arr Ty.str o2, Obj.mp IntKind.i64 Ty.str o3, Obj.arr (Ty.st (Ty.pair (Ty.int IntKind.i64) Ty.str)) o4, Obj.arr (Ty.int IntKind.i64) o5])
def decAregion_Region_Split (l : List AV) (H : List AE.Obj) : Option Aregion_Region_Split := match l, H with
  | [AV.ptr 0 0, AV.int IntKind.i64 a1, AV.str a2], [AE.Obj.cells [AV.ptr 1 0, AV.int IntKind.i64 o0_1, AV.int IntKind.i64 o0_2], AE.Obj.cells [AV.own 2, AV.map 3, AV.own 4, AV.int IntKind.i64 o1_3, AV.own 5, AV.int IntKind.i64 o1_5, AV.bool o1_6], Obj.arr Ty.str o2, Obj.mp IntKind.i64 Ty.str o3, Obj.arr (Ty.st (Ty.pair (Ty.int IntKind.i64) Ty.str)) o4, Obj.arr (Ty.int IntKind.i64) o5] => some (a1, a2, o0_1, o0_2, o1_3, o1_5, o1_6, o2, o3, o4, o5)
  | _, _ => none
theorem decAregion_Region_Split_ok (l : List AV) (H : List AE.Obj) (a : Aregion_Region_Split) (h : decAregion_Region_Split l H = some a) : (l, H) = argsregion_Region_Split a := by
  unfold decAregion_Region_Split at h
  split at h
  · cases h; rfl
  · cases h
def outregion_Region_Split : Aregion_Region_Split → (AV → List AE.Obj → Ans) → Yregion_Region_Split → Ans := fun (a1, a2, o0_1, o0_2, o1_3, o1_5, o1_6, o2, o3, o4, o5) K => unP fun r_1_y o6_y => K (AV.tup [AV.own 6, AV.int IntKind.i64 r_1_y]) [AE.Obj.cells [AV.ptr 1 0, AV.int IntKind.i64 o0_1, AV.int IntKind.i64 o0_2], AE.Obj.cells [AV.own 2, AV.map 3, AV.own 4, AV.int IntKind.i64 o1_3, AV.own 5, AV.int IntKind.i64 o1_5, AV.bool o1_6], Obj.arr Ty.str o2, Obj.mp IntKind.i64 Ty.str o3, Obj.arr (Ty.st (Ty.pair (Ty.int IntKind.i64) Ty.str)) o4, Obj.arr (Ty.int IntKind.i64) o5, Obj.arr (Ty.st (Ty.pair (Ty.int IntKind.i64) Ty.str)) o6_y]
theorem fnregion_Region_Split_ok (a : Aregion_Region_Split) (K : AV → List AE.Obj → Ans) : fnE Try.tab envregion_Region_Split noHint 0 70 37 Try.f37.ntmps Try.f37.results.toList annregion_Region_Split bregion_Region_Split (argsregion_Region_Split a).1 (argsregion_Region_Split a).2 K = fnregion_Region_Split a (outregion_Region_Split a K) := by kernel_rfl
def vFregion_Region_Split (a : Aregion_Region_Split) (K : AV → List AE.Obj → Ans) : Ans := bindO (fnDregion_Region_Split a) fun y => outregion_Region_Split a K y
def Fregion_Region_Split : List AV → List AE.Obj → (AV → List AE.Obj → Ans) → Ans := fun l H K => bindO (decAregion_Region_Split l H) fun a => vFregion_Region_Split a K
theorem Fregion_Region_Split_ok : FuncOk Try.prog 37 Fregion_Region_Split := func_mkD (hint := noHint) (d := 0) (n := 70) mixed tabOk envregion_Region_SplitOk Try.func37 (bodySome (by kernel_rfl)) (by decide +kernel) annregion_Region_Split_ok decAregion_Region_Split_ok fnregion_Region_Split_ok fnregion_Region_Split_nat
--@ slices_Index_int_int
noncomputable def envslices_Index_int_int : Env := []
theorem envslices_Index_int_intOk : EnvOk Try.prog envslices_Index_int_int := EnvOk.nil
noncomputable def bslices_Index_int_int : Code := Try.f71.body.getD .skip
noncomputable def Lslices_Index_int_int_n0 : Code := codeAt [1, 0, 1, 0, 0] bslices_Index_int_int
noncomputable def annLslices_Index_int_int_n0 : Ann := .at 0 [0, 1, 7, 8] (.loop .none)
theorem annLslices_Index_int_int_n0_ok : AnnOk Try.prog 19 (.loop Lslices_Index_int_int_n0) annLslices_Index_int_int_n0 := annOk_at (annOk_none _ _ _)
abbrev Islices_Index_int_int_n0 := (List Int) × (Int) × (Int)
abbrev Yslices_Index_int_int_n0 := ((Int)) ⊕ (Unit)
abbrev Vslices_Index_int_int_n0 := (Int)
def Sslices_Index_int_int_n0 : Islices_Index_int_int_n0 → Vslices_Index_int_int_n0 → St := fun (t0, t1, t7) t8 => { env := [(0, AV.ro (Ty.int IntKind.i64) t0), (1, AV.int IntKind.i64 t1), (7, AV.int IntKind.i64 t7), (8, AV.int IntKind.i64 t8)], stk := [[]], H := [], blk := 290816 }
def decslices_Index_int_int_n0 (s : St) : Option (Islices_Index_int_int_n0 × Vslices_Index_int_int_n0) := match s with
  | { env := [(0, AV.ro (Ty.int IntKind.i64) t0), (1, AV.int IntKind.i64 t1), (7, AV.int IntKind.i64 t7), (8, AV.int IntKind.i64 t8)], stk := [[]], H := [], blk := 290816 } => some ((t0, t1, t7), t8)
  | _ => none
theorem decslices_Index_int_int_n0_ok (s : St) (x : Islices_Index_int_int_n0 × Vslices_Index_int_int_n0) (h : decslices_Index_int_int_n0 s = some x) : s = Sslices_Index_int_int_n0 x.1 x.2 := by
  unfold decslices_Index_int_int_n0 at h
  split at h
  · cases h; rfl
  · cases h
def outslices_Index_int_int_n0 : Islices_Index_int_int_n0 → (Ex → St → Ans) → Yslices_Index_int_int_n0 → Ans := fun (t0, t1, t7) K => (Sum.elim (fun t4_y => K (Ex.ret) { env := [(4, AV.int IntKind.i64 t4_y)], stk := [[]], H := [], blk := 290817 }) (fun _ => K (Ex.exit 0) { env := [], stk := [[]], H := [], blk := 290816 }))
def stepslices_Index_int_int_n0 {β : Type} : Islices_Index_int_int_n0 → Vslices_Index_int_int_n0 → (Vslices_Index_int_int_n0 → Option β) → (Yslices_Index_int_int_n0 → Option β) → Option β := fun (t0, t1, t7) t8 next exit => (bif decide (t8 < t7) then (bindO (nth t0 t8) fun x => (bif t1 == x then (exit (Sum.inl (t8))) else (next (IntKind.wrap IntKind.i64 (t8 + (1 : Int)))))) else (exit (Sum.inr ())))
def stepDslices_Index_int_int_n0 (i : Islices_Index_int_int_n0) (v : Vslices_Index_int_int_n0) : Option (Vslices_Index_int_int_n0 ⊕ Yslices_Index_int_int_n0) := stepslices_Index_int_int_n0 i v (fun v => some (.inl v)) (fun y => some (.inr y))
theorem stepslices_Index_int_int_n0_nat (i : Islices_Index_int_int_n0) (v : Vslices_Index_int_int_n0) (next : Vslices_Index_int_int_n0 → Ans) (exit : Yslices_Index_int_int_n0 → Ans) : stepslices_Index_int_int_n0 i v next exit = bindO (stepDslices_Index_int_int_n0 i v) (Sum.elim next exit) := by
  obtain ⟨t0, t1, t7⟩ := i
  obtain z := v
  simp only [stepDslices_Index_int_int_n0, stepslices_Index_int_int_n0, bindO_cond, bindO_assoc, bindO_none, bindO_pure, bindO_elim, bindO_unP, Sum.elim_inl, Sum.elim_inr]
theorem stepslices_Index_int_int_n0_ok (n : Nat) (i : Islices_Index_int_int_n0) (v : Vslices_Index_int_int_n0) (K : Ex → St → Ans) : codeI Try.tab envslices_Index_int_int noHint (codeD Try.tab envslices_Index_int_int noHint 0 64) (n+1) 19 annLslices_Index_int_int_n0 (.loop Lslices_Index_int_int_n0) (weakP 0 (exk [] [4] [(0, [])]) K) (Sslices_Index_int_int_n0 i v) = stepslices_Index_int_int_n0 i v (fun v' => codeI Try.tab envslices_Index_int_int noHint (codeD Try.tab envslices_Index_int_int noHint 0 64) n 19 annLslices_Index_int_int_n0 (.loop Lslices_Index_int_int_n0) (weakP 0 (exk [] [4] [(0, [])]) K) (Sslices_Index_int_int_n0 i v')) (fun y => outslices_Index_int_int_n0 i K y) := by kernel_rfl
theorem GNslices_Index_int_int_n0_ok : CSum Try.prog 19 (.loop Lslices_Index_int_int_n0) (sumL decslices_Index_int_int_n0 stepDslices_Index_int_int_n0 outslices_Index_int_int_n0) := csum_loop mixed tabOk envslices_Index_int_intOk 0 (exk [] [4] [(0, [])]) annLslices_Index_int_int_n0_ok decslices_Index_int_int_n0_ok stepslices_Index_int_int_n0_ok stepslices_Index_int_int_n0_nat
noncomputable def Gslices_Index_int_int_n0 : (Ex → St → Ans) → St → Ans := (sumL decslices_Index_int_int_n0 stepDslices_Index_int_int_n0 outslices_Index_int_int_n0)
theorem Gslices_Index_int_int_n0_ok : CSum Try.prog 19 (.loop Lslices_Index_int_int_n0) Gslices_Index_int_int_n0 := GNslices_Index_int_int_n0_ok
noncomputable def annslices_Index_int_int : Ann := (.seq .none (.seq (.seq .none (.block (.cut 0 [0, 1, 7, 8] Gslices_Index_int_int_n0))) .none))
theorem annslices_Index_int_int_ok : AnnOk Try.prog 19 bslices_Index_int_int annslices_Index_int_int := ⟨(annOk_none _ _ _), ⟨⟨(annOk_none _ _ _), Gslices_Index_int_int_n0_ok⟩, (annOk_none _ _ _)⟩⟩
abbrev Aslices_Index_int_int := (List Int) × (Int)
abbrev Yslices_Index_int_int := (Int)
def fnslices_Index_int_int {β : Type} : Aslices_Index_int_int → (Yslices_Index_int_int → Option β) → Option β := fun (a0, a1) exit => (bindO (loopD (stepDslices_Index_int_int_n0 (a0, a1, (↑(List.length a0) : Int))) FUEL ((0 : Int))) (Sum.elim (fun t4 => (exit (t4))) (fun _ => (exit ((-1 : Int))))))
def fnDslices_Index_int_int (a : Aslices_Index_int_int) : Option Yslices_Index_int_int := fnslices_Index_int_int a some
theorem fnslices_Index_int_int_nat (a : Aslices_Index_int_int) (k : Yslices_Index_int_int → Ans) : fnslices_Index_int_int a k = bindO (fnDslices_Index_int_int a) k := by
  obtain ⟨a0, a1⟩ := a
  simp only [fnDslices_Index_int_int, fnslices_Index_int_int, bindO_cond, bindO_assoc, bindO_none, bindO_pure, bindO_elim, bindO_unP]
def argsslices_Index_int_int : Aslices_Index_int_int → List AV := fun (a0, a1) => [AV.ro (Ty.int IntKind.i64) a0, AV.int IntKind.i64 a1]
def decAslices_Index_int_int (l : List AV) : Option Aslices_Index_int_int := match l with
  | [AV.ro (Ty.int IntKind.i64) a0, AV.int IntKind.i64 a1] => some (a0, a1)
  | _ => none
theorem decAslices_Index_int_int_ok (l : List AV) (a : Aslices_Index_int_int) (h : decAslices_Index_int_int l = some a) : l = argsslices_Index_int_int a := by
  unfold decAslices_Index_int_int at h
  split at h
  · cases h; rfl
  · cases h
def rendslices_Index_int_int : Aslices_Index_int_int → Yslices_Index_int_int → AV := fun (a0, a1) => fun r_y => AV.int IntKind.i64 r_y
theorem rendslices_Index_int_int_ok : ∀ (a : Aslices_Index_int_int) (y : Yslices_Index_int_int), (rendslices_Index_int_int a y).closed1 = true := by
  rintro ⟨a0, a1⟩ y <;> first | rfl | exact Empty.elim y
theorem fnslices_Index_int_int_ok (a : Aslices_Index_int_int) : fnE Try.tab envslices_Index_int_int noHint 0 70 71 Try.f71.ntmps Try.f71.results.toList annslices_Index_int_int bslices_Index_int_int (argsslices_Index_int_int a) [] (fun v _ => some (v, [])) = fnslices_Index_int_int a (fun y => some (rendslices_Index_int_int a y, [])) := by kernel_rfl
def vFslices_Index_int_int (a : Aslices_Index_int_int) (K : AV → Ans) : Ans := bindO (fnDslices_Index_int_int a) fun y => K (rendslices_Index_int_int a y)
def Fslices_Index_int_int : List AV → (AV → Ans) → Ans := fun l K => bindO (decAslices_Index_int_int l) fun a => vFslices_Index_int_int a K
theorem Fslices_Index_int_int_ok : PureOk Try.prog 71 Fslices_Index_int_int := pure_mkD (hint := noHint) (d := 0) (n := 70) mixed tabOk envslices_Index_int_intOk Try.func71 (bodySome (by kernel_rfl)) (by decide +kernel) annslices_Index_int_int_ok decAslices_Index_int_int_ok fnslices_Index_int_int_ok fnslices_Index_int_int_nat rendslices_Index_int_int_ok
--@ slices_Contains_int_int
noncomputable def envslices_Contains_int_int : Env := [(71, .pure Fslices_Index_int_int)]
theorem envslices_Contains_int_intOk : EnvOk Try.prog envslices_Contains_int_int := EnvOk.cons Fslices_Index_int_int_ok (EnvOk.nil)
noncomputable def bslices_Contains_int_int : Code := Try.f62.body.getD .skip
noncomputable def annslices_Contains_int_int : Ann := .none
theorem annslices_Contains_int_int_ok : AnnOk Try.prog 9 bslices_Contains_int_int annslices_Contains_int_int := (annOk_none _ _ _)
abbrev Aslices_Contains_int_int := (List Int) × (Int)
abbrev Yslices_Contains_int_int := (Bool)
def fnslices_Contains_int_int {β : Type} : Aslices_Contains_int_int → (Yslices_Contains_int_int → Option β) → Option β := fun (a0, a1) exit => (bindO (fnDslices_Index_int_int (a0, a1)) fun r => (exit (decide (r ≥ (0 : Int)))))
def fnDslices_Contains_int_int (a : Aslices_Contains_int_int) : Option Yslices_Contains_int_int := fnslices_Contains_int_int a some
theorem fnslices_Contains_int_int_nat (a : Aslices_Contains_int_int) (k : Yslices_Contains_int_int → Ans) : fnslices_Contains_int_int a k = bindO (fnDslices_Contains_int_int a) k := by
  obtain ⟨a0, a1⟩ := a
  simp only [fnDslices_Contains_int_int, fnslices_Contains_int_int, bindO_cond, bindO_assoc, bindO_none, bindO_pure, bindO_elim, bindO_unP]
def argsslices_Contains_int_int : Aslices_Contains_int_int → List AV := fun (a0, a1) => [AV.ro (Ty.int IntKind.i64) a0, AV.int IntKind.i64 a1]
def decAslices_Contains_int_int (l : List AV) : Option Aslices_Contains_int_int := match l with
  | [AV.ro (Ty.int IntKind.i64) a0, AV.int IntKind.i64 a1] => some (a0, a1)
  | _ => none
theorem decAslices_Contains_int_int_ok (l : List AV) (a : Aslices_Contains_int_int) (h : decAslices_Contains_int_int l = some a) : l = argsslices_Contains_int_int a := by
  unfold decAslices_Contains_int_int at h
  split at h
  · cases h; rfl
  · cases h
def rendslices_Contains_int_int : Aslices_Contains_int_int → Yslices_Contains_int_int → AV := fun (a0, a1) => fun r_y => AV.bool r_y
theorem rendslices_Contains_int_int_ok : ∀ (a : Aslices_Contains_int_int) (y : Yslices_Contains_int_int), (rendslices_Contains_int_int a y).closed1 = true := by
  rintro ⟨a0, a1⟩ y <;> first | rfl | exact Empty.elim y
theorem fnslices_Contains_int_int_ok (a : Aslices_Contains_int_int) : fnE Try.tab envslices_Contains_int_int noHint 0 70 62 Try.f62.ntmps Try.f62.results.toList annslices_Contains_int_int bslices_Contains_int_int (argsslices_Contains_int_int a) [] (fun v _ => some (v, [])) = fnslices_Contains_int_int a (fun y => some (rendslices_Contains_int_int a y, [])) := by kernel_rfl
def vFslices_Contains_int_int (a : Aslices_Contains_int_int) (K : AV → Ans) : Ans := bindO (fnDslices_Contains_int_int a) fun y => K (rendslices_Contains_int_int a y)
def Fslices_Contains_int_int : List AV → (AV → Ans) → Ans := fun l K => bindO (decAslices_Contains_int_int l) fun a => vFslices_Contains_int_int a K
theorem Fslices_Contains_int_int_ok : PureOk Try.prog 62 Fslices_Contains_int_int := pure_mkD (hint := noHint) (d := 0) (n := 70) mixed tabOk envslices_Contains_int_intOk Try.func62 (bodySome (by kernel_rfl)) (by decide +kernel) annslices_Contains_int_int_ok decAslices_Contains_int_int_ok fnslices_Contains_int_int_ok fnslices_Contains_int_int_nat rendslices_Contains_int_int_ok
--@ disk_Disk_call
noncomputable def envdisk_Disk_call : Env := [(62, .pure Fslices_Contains_int_int)]
theorem envdisk_Disk_callOk : EnvOk Try.prog envdisk_Disk_call := EnvOk.cons Fslices_Contains_int_int_ok (EnvOk.nil)
noncomputable def bdisk_Disk_call : Code := Try.f49.body.getD .skip
noncomputable def anndisk_Disk_call : Ann := .none
theorem anndisk_Disk_call_ok : AnnOk Try.prog 41 bdisk_Disk_call anndisk_Disk_call := (annOk_none _ _ _)
abbrev Adisk_Disk_call := (Int) × (Int) × (Bool) × (List (List UInt8)) × (List (Int × List UInt8)) × (List (Int × List UInt8)) × (List Int)
abbrev Ydisk_Disk_call := (Int) × (Bool) × (Int) × (Bool)
def fndisk_Disk_call {β : Type} : Adisk_Disk_call → (Ydisk_Disk_call → Option β) → Option β := fun (o0_3, o0_5, o0_6, o1, o2, o3, o4) exit => (bif o0_6 then (exit ((31 : Int), false, IntKind.wrap IntKind.i64 (o0_3 + (1 : Int)), o0_6)) else (bif IntKind.wrap IntKind.i64 (o0_3 + (1 : Int)) == o0_5 then (exit ((31 : Int), true, IntKind.wrap IntKind.i64 (o0_3 + (1 : Int)), true)) else (bindO (fnDslices_Contains_int_int (o4, IntKind.wrap IntKind.i64 (o0_3 + (1 : Int)))) fun r => (bif r then (exit ((30 : Int), false, IntKind.wrap IntKind.i64 (o0_3 + (1 : Int)), o0_6)) else (exit ((0 : Int), false, IntKind.wrap IntKind.i64 (o0_3 + (1 : Int)), o0_6))))))
def fnDdisk_Disk_call (a : Adisk_Disk_call) : Option Ydisk_Disk_call := fndisk_Disk_call a some
theorem fndisk_Disk_call_nat (a : Adisk_Disk_call) (k : Ydisk_Disk_call → Ans) : fndisk_Disk_call a k = bindO (fnDdisk_Disk_call a) k := by
  obtain ⟨o0_3, o0_5, o0_6, o1, o2, o3, o4⟩ := a
  simp only [fnDdisk_Disk_call, fndisk_Disk_call, bindO_cond, bindO_assoc, bindO_none, bindO_pure, bindO_elim, bindO_unP]
def argsdisk_Disk_call : Adisk_Disk_call → List AV × List AE.Obj := fun (o0_3, o0_5, o0_6, o1, o2, o3, o4) => ([AV.ptr 0 0], [AE.Obj.cells [AV.own 1, AV.map 2, AV.own 3, AV.int IntKind.i64 o0_3, AV.own 4, AV.int IntKind.i64 o0_5, AV.bool o0_6], Obj.arr Ty.str o1, Obj.mp IntKind.i64 Ty.str o2, Obj.arr (Ty.st (Ty.pair (Ty.int IntKind.i64) Ty.str)) o3, Obj.arr (Ty.int IntKind.i64) o4])
def decAdisk_Disk_call (l : List AV) (H : List AE.Obj) : Option Adisk_Disk_call := match l, H with
  | [AV.ptr 0 0], [AE.Obj.cells [AV.own 1, AV.map 2, AV.own 3, AV.int IntKind.i64 o0_3, AV.own 4, AV.int IntKind.i64 o0_5, AV.bool o0_6], Obj.arr Ty.str o1, Obj.mp IntKind.i64 Ty.str o2, Obj.arr (Ty.st (Ty.pair (Ty.int IntKind.i64) Ty.str)) o3, Obj.arr (Ty.int IntKind.i64) o4] => some (o0_3, o0_5, o0_6, o1, o2, o3, o4)
  | _, _ => none
theorem decAdisk_Disk_call_ok (l : List AV) (H : List AE.Obj) (a : Adisk_Disk_call) (h : decAdisk_Disk_call l H = some a) : (l, H) = argsdisk_Disk_call a := by
  unfold decAdisk_Disk_call at h
  split at h
  · cases h; rfl
  · cases h
def outdisk_Disk_call : Adisk_Disk_call → (AV → List AE.Obj → Ans) → Ydisk_Disk_call → Ans := fun (o0_3, o0_5, o0_6, o1, o2, o3, o4) K => unP fun r_0_y => unP fun r_1_y => unP fun o0_3_y o0_6_y => K (AV.tup [AV.int IntKind.i64 r_0_y, AV.bool r_1_y]) [AE.Obj.cells [AV.own 1, AV.map 2, AV.own 3, AV.int IntKind.i64 o0_3_y, AV.own 4, AV.int IntKind.i64 o0_5, AV.bool o0_6_y], Obj.arr Ty.str o1, Obj.mp IntKind.i64 Ty.str o2, Obj.arr (Ty.st (Ty.pair (Ty.int IntKind.i64) Ty.str)) o3, Obj.arr (Ty.int IntKind.i64) o4]
theorem fndisk_Disk_call_ok (a : Adisk_Disk_call) (K : AV → List AE.Obj → Ans) : fnE Try.tab envdisk_Disk_call noHint 0 70 49 Try.f49.ntmps Try.f49.results.toList anndisk_Disk_call bdisk_Disk_call (argsdisk_Disk_call a).1 (argsdisk_Disk_call a).2 K = fndisk_Disk_call a (outdisk_Disk_call a K) := by kernel_rfl
def vFdisk_Disk_call (a : Adisk_Disk_call) (K : AV → List AE.Obj → Ans) : Ans := bindO (fnDdisk_Disk_call a) fun y => outdisk_Disk_call a K y
def Fdisk_Disk_call : List AV → List AE.Obj → (AV → List AE.Obj → Ans) → Ans := fun l H K => bindO (decAdisk_Disk_call l H) fun a => vFdisk_Disk_call a K
theorem Fdisk_Disk_call_ok : FuncOk Try.prog 49 Fdisk_Disk_call := func_mkD (hint := noHint) (d := 0) (n := 70) mixed tabOk envdisk_Disk_callOk Try.func49 (bodySome (by kernel_rfl)) (by decide +kernel) anndisk_Disk_call_ok decAdisk_Disk_call_ok fndisk_Disk_call_ok fndisk_Disk_call_nat
--@ disk_Disk_there
noncomputable def envdisk_Disk_there : Env := [(31, .func Fdisk_Disk_Sectors)]
theorem envdisk_Disk_thereOk : EnvOk Try.prog envdisk_Disk_there := EnvOk.cons Fdisk_Disk_Sectors_ok (EnvOk.nil)
noncomputable def bdisk_Disk_there : Code := Try.f50.body.getD .skip
noncomputable def Ldisk_Disk_there_n0 : Code := codeAt [1, 0] bdisk_Disk_there
noncomputable def annLdisk_Disk_there_n0 : Ann := .none
theorem annLdisk_Disk_there_n0_ok : AnnOk Try.prog 13 Ldisk_Disk_there_n0 annLdisk_Disk_there_n0 := (annOk_none _ _ _)
abbrev Idisk_Disk_there_n0 := (Int) × (Int) × (Int) × (Bool) × (List (List UInt8)) × (List (Int × List UInt8)) × (List (Int × List UInt8)) × (List Int)
abbrev Ydisk_Disk_there_n0 := (Bool)
def Sdisk_Disk_there_n0 : Idisk_Disk_there_n0 → St := fun (t1, o0_3, o0_5, o0_6, o1, o2, o3, o4) => { env := [(0, AV.ptr 0 0), (1, AV.int IntKind.i64 t1)], stk := [[(0, AV.ptr 0 0)]], H := [AE.Obj.cells [AV.own 1, AV.map 2, AV.own 3, AV.int IntKind.i64 o0_3, AV.own 4, AV.int IntKind.i64 o0_5, AV.bool o0_6], Obj.arr Ty.str o1, Obj.mp IntKind.i64 Ty.str o2, Obj.arr (Ty.st (Ty.pair (Ty.int IntKind.i64) Ty.str)) o3, Obj.arr (Ty.int IntKind.i64) o4], blk := 204800 }
def decdisk_Disk_there_n0 (s : St) : Option Idisk_Disk_there_n0 := match s with
  | { env := [(0, AV.ptr 0 0), (1, AV.int IntKind.i64 t1)], stk := [[(0, AV.ptr 0 0)]], H := [AE.Obj.cells [AV.own 1, AV.map 2, AV.own 3, AV.int IntKind.i64 o0_3, AV.own 4, AV.int IntKind.i64 o0_5, AV.bool o0_6], Obj.arr Ty.str o1, Obj.mp IntKind.i64 Ty.str o2, Obj.arr (Ty.st (Ty.pair (Ty.int IntKind.i64) Ty.str)) o3, Obj.arr (Ty.int IntKind.i64) o4], blk := 204800 } => some (t1, o0_3, o0_5, o0_6, o1, o2, o3, o4)
  | _ => none
theorem decdisk_Disk_there_n0_ok (s : St) (x : Idisk_Disk_there_n0) (h : decdisk_Disk_there_n0 s = some x) : s = Sdisk_Disk_there_n0 x := by
  unfold decdisk_Disk_there_n0 at h
  split at h
  · cases h; rfl
  · cases h
def outdisk_Disk_there_n0 : Idisk_Disk_there_n0 → (Ex → St → Ans) → Ydisk_Disk_there_n0 → Ans := fun (t1, o0_3, o0_5, o0_6, o1, o2, o3, o4) K => fun t4_y => K (Ex.norm) { env := [(4, AV.bool t4_y)], stk := [[(0, AV.ptr 0 0)]], H := [AE.Obj.cells [AV.own 1, AV.map 2, AV.own 3, AV.int IntKind.i64 o0_3, AV.own 4, AV.int IntKind.i64 o0_5, AV.bool o0_6], Obj.arr Ty.str o1, Obj.mp IntKind.i64 Ty.str o2, Obj.arr (Ty.st (Ty.pair (Ty.int IntKind.i64) Ty.str)) o3, Obj.arr (Ty.int IntKind.i64) o4], blk := 204800 }
def nodedisk_Disk_there_n0 {β : Type} : Idisk_Disk_there_n0 → (Ydisk_Disk_there_n0 → Option β) → Option β := fun (t1, o0_3, o0_5, o0_6, o1, o2, o3, o4) exit => (bif decide (t1 ≥ (0 : Int)) then (bindO (fnDdisk_Disk_Sectors (o0_3, o0_5, o0_6, o1, o2, o3, o4)) fun r => (exit (decide (t1 < r)))) else (exit (false)))
def nodeDdisk_Disk_there_n0 (i : Idisk_Disk_there_n0) : Option Ydisk_Disk_there_n0 := nodedisk_Disk_there_n0 i some
theorem nodedisk_Disk_there_n0_nat (i : Idisk_Disk_there_n0) (k : Ydisk_Disk_there_n0 → Ans) : nodedisk_Disk_there_n0 i k = bindO (nodeDdisk_Disk_there_n0 i) k := by
  obtain ⟨t1, o0_3, o0_5, o0_6, o1, o2, o3, o4⟩ := i
  simp only [nodeDdisk_Disk_there_n0, nodedisk_Disk_there_n0, bindO_cond, bindO_assoc, bindO_none, bindO_pure, bindO_elim, bindO_unP]
theorem nodedisk_Disk_there_n0_ok (i : Idisk_Disk_there_n0) (K : Ex → St → Ans) : codeI Try.tab envdisk_Disk_there noHint (codeD Try.tab envdisk_Disk_there noHint 0 64) 70 13 annLdisk_Disk_there_n0 Ldisk_Disk_there_n0 (weakP 5 (exk [4] [4] []) K) (Sdisk_Disk_there_n0 i) = nodedisk_Disk_there_n0 i (outdisk_Disk_there_n0 i K) := by kernel_rfl
theorem GNdisk_Disk_there_n0_ok : CSum Try.prog 13 Ldisk_Disk_there_n0 (sumN decdisk_Disk_there_n0 nodeDdisk_Disk_there_n0 outdisk_Disk_there_n0) := csum_node mixed tabOk envdisk_Disk_thereOk 5 (exk [4] [4] []) annLdisk_Disk_there_n0_ok decdisk_Disk_there_n0_ok nodedisk_Disk_there_n0_ok nodedisk_Disk_there_n0_nat
noncomputable def Gdisk_Disk_there_n0 : (Ex → St → Ans) → St → Ans := (sumN decdisk_Disk_there_n0 nodeDdisk_Disk_there_n0 outdisk_Disk_there_n0)
theorem Gdisk_Disk_there_n0_ok : CSum Try.prog 13 Ldisk_Disk_there_n0 Gdisk_Disk_there_n0 := GNdisk_Disk_there_n0_ok
noncomputable def anndisk_Disk_there : Ann := (.seq .none (.seq (.cut 5 [0, 1] Gdisk_Disk_there_n0) .none))
theorem anndisk_Disk_there_ok : AnnOk Try.prog 13 bdisk_Disk_there anndisk_Disk_there := ⟨(annOk_none _ _ _), ⟨Gdisk_Disk_there_n0_ok, (annOk_none _ _ _)⟩⟩
abbrev Adisk_Disk_there := (Int) × (Int) × (Int) × (Bool) × (List (List UInt8)) × (List (Int × List UInt8)) × (List (Int × List UInt8)) × (List Int)
abbrev Ydisk_Disk_there := (Bool)
def fndisk_Disk_there {β : Type} : Adisk_Disk_there → (Ydisk_Disk_there → Option β) → Option β := fun (a1, o0_3, o0_5, o0_6, o1, o2, o3, o4) exit => (bindO (nodeDdisk_Disk_there_n0 (a1, o0_3, o0_5, o0_6, o1, o2, o3, o4)) fun t4 => (exit (t4)))
def fnDdisk_Disk_there (a : Adisk_Disk_there) : Option Ydisk_Disk_there := fndisk_Disk_there a some
theorem fndisk_Disk_there_nat (a : Adisk_Disk_there) (k : Ydisk_Disk_there → Ans) : fndisk_Disk_there a k = bindO (fnDdisk_Disk_there a) k := by
  obtain ⟨a1, o0_3, o0_5, o0_6, o1, o2, o3, o4⟩ := a
  simp only [fnDdisk_Disk_there, fndisk_Disk_there, bindO_cond, bindO_assoc, bindO_none, bindO_pure, bindO_elim, bindO_unP]
def argsdisk_Disk_there : Adisk_Disk_there → List AV × List AE.Obj := fun (a1, o0_3, o0_5, o0_6, o1, o2, o3, o4) => ([AV.ptr 0 0, AV.int IntKind.i64 a1], [AE.Obj.cells [AV.own 1, AV.map 2, AV.own 3, AV.int IntKind.i64 o0_3, AV.own 4, AV.int IntKind.i64 o0_5, AV.bool o0_6], Obj.arr Ty.str o1, Obj.mp IntKind.i64 Ty.str o2, Obj.arr (Ty.st (Ty.pair (Ty.int IntKind.i64) Ty.str)) o3, Obj.arr (Ty.int IntKind.i64) o4])
def decAdisk_Disk_there (l : List AV) (H : List AE.Obj) : Option Adisk_Disk_there := match l, H with
  | [AV.ptr 0 0, AV.int IntKind.i64 a1], [AE.Obj.cells [AV.own 1, AV.map 2, AV.own 3, AV.int IntKind.i64 o0_3, AV.own 4, AV.int IntKind.i64 o0_5, AV.bool o0_6], Obj.arr Ty.str o1, Obj.mp IntKind.i64 Ty.str o2, Obj.arr (Ty.st (Ty.pair (Ty.int IntKind.i64) Ty.str)) o3, Obj.arr (Ty.int IntKind.i64) o4] => some (a1, o0_3, o0_5, o0_6, o1, o2, o3, o4)
  | _, _ => none
theorem decAdisk_Disk_there_ok (l : List AV) (H : List AE.Obj) (a : Adisk_Disk_there) (h : decAdisk_Disk_there l H = some a) : (l, H) = argsdisk_Disk_there a := by
  unfold decAdisk_Disk_there at h
  split at h
  · cases h; rfl
  · cases h
def outdisk_Disk_there : Adisk_Disk_there → (AV → List AE.Obj → Ans) → Ydisk_Disk_there → Ans := fun (a1, o0_3, o0_5, o0_6, o1, o2, o3, o4) K => fun r_y => K (AV.bool r_y) [AE.Obj.cells [AV.own 1, AV.map 2, AV.own 3, AV.int IntKind.i64 o0_3, AV.own 4, AV.int IntKind.i64 o0_5, AV.bool o0_6], Obj.arr Ty.str o1, Obj.mp IntKind.i64 Ty.str o2, Obj.arr (Ty.st (Ty.pair (Ty.int IntKind.i64) Ty.str)) o3, Obj.arr (Ty.int IntKind.i64) o4]
theorem fndisk_Disk_there_ok (a : Adisk_Disk_there) (K : AV → List AE.Obj → Ans) : fnE Try.tab envdisk_Disk_there noHint 0 70 50 Try.f50.ntmps Try.f50.results.toList anndisk_Disk_there bdisk_Disk_there (argsdisk_Disk_there a).1 (argsdisk_Disk_there a).2 K = fndisk_Disk_there a (outdisk_Disk_there a K) := by kernel_rfl
def vFdisk_Disk_there (a : Adisk_Disk_there) (K : AV → List AE.Obj → Ans) : Ans := bindO (fnDdisk_Disk_there a) fun y => outdisk_Disk_there a K y
def Fdisk_Disk_there : List AV → List AE.Obj → (AV → List AE.Obj → Ans) → Ans := fun l H K => bindO (decAdisk_Disk_there l H) fun a => vFdisk_Disk_there a K
theorem Fdisk_Disk_there_ok : FuncOk Try.prog 50 Fdisk_Disk_there := func_mkD (hint := noHint) (d := 0) (n := 70) mixed tabOk envdisk_Disk_thereOk Try.func50 (bodySome (by kernel_rfl)) (by decide +kernel) anndisk_Disk_there_ok decAdisk_Disk_there_ok fndisk_Disk_there_ok fndisk_Disk_there_nat
--@ disk_Disk_Write
noncomputable def envdisk_Disk_Write : Env := [(49, .func Fdisk_Disk_call), (50, .func Fdisk_Disk_there)]
theorem envdisk_Disk_WriteOk : EnvOk Try.prog envdisk_Disk_Write := EnvOk.cons Fdisk_Disk_call_ok (EnvOk.cons Fdisk_Disk_there_ok (EnvOk.nil))
noncomputable def bdisk_Disk_Write : Code := Try.f38.body.getD .skip
noncomputable def Ldisk_Disk_Write_n3 : Code := codeAt [1, 1, 1, 1, 0, 1] bdisk_Disk_Write
noncomputable def annLdisk_Disk_Write_n3 : Ann := .none
theorem annLdisk_Disk_Write_n3_ok : AnnOk Try.prog 64 Ldisk_Disk_Write_n3 annLdisk_Disk_Write_n3 := (annOk_none _ _ _)
abbrev Idisk_Disk_Write_n3 := (Int) × (List UInt8) × (Int) × (Int) × (Int) × (Bool) × (List (List UInt8)) × (List (Int × List UInt8)) × (List (Int × List UInt8)) × (List Int)
abbrev Ydisk_Disk_Write_n3 := Unit
def Sdisk_Disk_Write_n3 : Idisk_Disk_Write_n3 → St := fun (t1, t2, t7, o0_3, o0_5, o0_6, o1, o2, o3, o4) => { env := [(0, AV.ptr 0 0), (1, AV.int IntKind.i64 t1), (2, AV.str t2), (7, AV.int IntKind.i64 t7), (40, AV.bool (false))], stk := [[(0, AV.ptr 0 0)]], H := [AE.Obj.cells [AV.own 1, AV.map 2, AV.own 3, AV.int IntKind.i64 o0_3, AV.own 4, AV.int IntKind.i64 o0_5, AV.bool o0_6], Obj.arr Ty.str o1, Obj.mp IntKind.i64 Ty.str o2, Obj.arr (Ty.st (Ty.pair (Ty.int IntKind.i64) Ty.str)) o3, Obj.arr (Ty.int IntKind.i64) o4], blk := 155648 }
def decdisk_Disk_Write_n3 (s : St) : Option Idisk_Disk_Write_n3 := match s with
  | { env := [(0, AV.ptr 0 0), (1, AV.int IntKind.i64 t1), (2, AV.str t2), (7, AV.int IntKind.i64 t7), (40, AV.bool r3)], stk := [[(0, AV.ptr 0 0)]], H := [AE.Obj.cells [AV.own 1, AV.map 2, AV.own 3, AV.int IntKind.i64 o0_3, AV.own 4, AV.int IntKind.i64 o0_5, AV.bool o0_6], Obj.arr Ty.str o1, Obj.mp IntKind.i64 Ty.str o2, Obj.arr (Ty.st (Ty.pair (Ty.int IntKind.i64) Ty.str)) o3, Obj.arr (Ty.int IntKind.i64) o4], blk := 155648 } => cond (decide (r3 = false)) (some (t1, t2, t7, o0_3, o0_5, o0_6, o1, o2, o3, o4)) none
  | _ => none
theorem decdisk_Disk_Write_n3_ok (s : St) (x : Idisk_Disk_Write_n3) (h : decdisk_Disk_Write_n3 s = some x) : s = Sdisk_Disk_Write_n3 x := by
  unfold decdisk_Disk_Write_n3 at h
  split at h
  · replace h := cond_noneO h; obtain ⟨hg, h⟩ := h; simp only [Bool.and_eq_true, decide_eq_true_eq] at hg; simp only [hg]; cases h; rfl
  · cases h
def outdisk_Disk_Write_n3 : Idisk_Disk_Write_n3 → (Ex → St → Ans) → Ydisk_Disk_Write_n3 → Ans := fun (t1, t2, t7, o0_3, o0_5, o0_6, o1, o2, o3, o4) K => fun _ => K (Ex.norm) { env := [(0, AV.ptr 0 0), (1, AV.int IntKind.i64 t1), (2, AV.str t2), (7, AV.int IntKind.i64 t7)], stk := [[(0, AV.ptr 0 0)]], H := [AE.Obj.cells [AV.own 1, AV.map 2, AV.own 3, AV.int IntKind.i64 o0_3, AV.own 4, AV.int IntKind.i64 o0_5, AV.bool o0_6], Obj.arr Ty.str o1, Obj.mp IntKind.i64 Ty.str o2, Obj.arr (Ty.st (Ty.pair (Ty.int IntKind.i64) Ty.str)) o3, Obj.arr (Ty.int IntKind.i64) o4], blk := 155648 }
def nodedisk_Disk_Write_n3 {β : Type} : Idisk_Disk_Write_n3 → (Ydisk_Disk_Write_n3 → Option β) → Option β := fun (t1, t2, t7, o0_3, o0_5, o0_6, o1, o2, o3, o4) exit => (exit ())
def nodeDdisk_Disk_Write_n3 (i : Idisk_Disk_Write_n3) : Option Ydisk_Disk_Write_n3 := nodedisk_Disk_Write_n3 i some
theorem nodedisk_Disk_Write_n3_nat (i : Idisk_Disk_Write_n3) (k : Ydisk_Disk_Write_n3 → Ans) : nodedisk_Disk_Write_n3 i k = bindO (nodeDdisk_Disk_Write_n3 i) k := by
  obtain ⟨t1, t2, t7, o0_3, o0_5, o0_6, o1, o2, o3, o4⟩ := i
  simp only [nodeDdisk_Disk_Write_n3, nodedisk_Disk_Write_n3, bindO_cond, bindO_assoc, bindO_none, bindO_pure, bindO_elim, bindO_unP]
theorem nodedisk_Disk_Write_n3_ok (i : Idisk_Disk_Write_n3) (K : Ex → St → Ans) : codeI Try.tab envdisk_Disk_Write noHint (codeD Try.tab envdisk_Disk_Write noHint 0 64) 70 64 annLdisk_Disk_Write_n3 Ldisk_Disk_Write_n3 (weakP 5 (exk [0, 1, 2, 7] [6] []) K) (Sdisk_Disk_Write_n3 i) = nodedisk_Disk_Write_n3 i (outdisk_Disk_Write_n3 i K) := by kernel_rfl
theorem GNdisk_Disk_Write_n3_ok : CSum Try.prog 64 Ldisk_Disk_Write_n3 (sumN decdisk_Disk_Write_n3 nodeDdisk_Disk_Write_n3 outdisk_Disk_Write_n3) := csum_node mixed tabOk envdisk_Disk_WriteOk 5 (exk [0, 1, 2, 7] [6] []) annLdisk_Disk_Write_n3_ok decdisk_Disk_Write_n3_ok nodedisk_Disk_Write_n3_ok nodedisk_Disk_Write_n3_nat
noncomputable def Gdisk_Disk_Write_n3 : (Ex → St → Ans) → St → Ans := (sumN decdisk_Disk_Write_n3 nodeDdisk_Disk_Write_n3 outdisk_Disk_Write_n3)
theorem Gdisk_Disk_Write_n3_ok : CSum Try.prog 64 Ldisk_Disk_Write_n3 Gdisk_Disk_Write_n3 := GNdisk_Disk_Write_n3_ok
noncomputable def Ldisk_Disk_Write_n2 : Code := codeAt [1, 1, 1, 0, 0, 1, 1, 1, 0, 0, 1] bdisk_Disk_Write
noncomputable def annLdisk_Disk_Write_n2 : Ann := .none
theorem annLdisk_Disk_Write_n2_ok : AnnOk Try.prog 64 Ldisk_Disk_Write_n2 annLdisk_Disk_Write_n2 := (annOk_none _ _ _)
abbrev Idisk_Disk_Write_n2 := (Int) × (Bool) × (Int) × (Int) × (Bool) × (List (List UInt8)) × (List (Int × List UInt8)) × (List (Int × List UInt8)) × (List Int)
abbrev Ydisk_Disk_Write_n2 := (Int)
def Sdisk_Disk_Write_n2 : Idisk_Disk_Write_n2 → St := fun (t7, t34, o0_3, o0_5, o0_6, o1, o2, o3, o4) => { env := [(7, AV.int IntKind.i64 t7), (34, AV.bool t34)], stk := [[(0, AV.ptr 0 0)]], H := [AE.Obj.cells [AV.own 1, AV.map 2, AV.own 3, AV.int IntKind.i64 o0_3, AV.own 4, AV.int IntKind.i64 o0_5, AV.bool o0_6], Obj.arr Ty.str o1, Obj.mp IntKind.i64 Ty.str o2, Obj.arr (Ty.st (Ty.pair (Ty.int IntKind.i64) Ty.str)) o3, Obj.arr (Ty.int IntKind.i64) o4], blk := 155648 }
def decdisk_Disk_Write_n2 (s : St) : Option Idisk_Disk_Write_n2 := match s with
  | { env := [(7, AV.int IntKind.i64 t7), (34, AV.bool t34)], stk := [[(0, AV.ptr 0 0)]], H := [AE.Obj.cells [AV.own 1, AV.map 2, AV.own 3, AV.int IntKind.i64 o0_3, AV.own 4, AV.int IntKind.i64 o0_5, AV.bool o0_6], Obj.arr Ty.str o1, Obj.mp IntKind.i64 Ty.str o2, Obj.arr (Ty.st (Ty.pair (Ty.int IntKind.i64) Ty.str)) o3, Obj.arr (Ty.int IntKind.i64) o4], blk := 155648 } => some (t7, t34, o0_3, o0_5, o0_6, o1, o2, o3, o4)
  | _ => none
theorem decdisk_Disk_Write_n2_ok (s : St) (x : Idisk_Disk_Write_n2) (h : decdisk_Disk_Write_n2 s = some x) : s = Sdisk_Disk_Write_n2 x := by
  unfold decdisk_Disk_Write_n2 at h
  split at h
  · cases h; rfl
  · cases h
def outdisk_Disk_Write_n2 : Idisk_Disk_Write_n2 → (Ex → St → Ans) → Ydisk_Disk_Write_n2 → Ans := fun (t7, t34, o0_3, o0_5, o0_6, o1, o2, o3, o4) K => fun t7_y => K (Ex.norm) { env := [(7, AV.int IntKind.i64 t7_y)], stk := [[(0, AV.ptr 0 0)]], H := [AE.Obj.cells [AV.own 1, AV.map 2, AV.own 3, AV.int IntKind.i64 o0_3, AV.own 4, AV.int IntKind.i64 o0_5, AV.bool o0_6], Obj.arr Ty.str o1, Obj.mp IntKind.i64 Ty.str o2, Obj.arr (Ty.st (Ty.pair (Ty.int IntKind.i64) Ty.str)) o3, Obj.arr (Ty.int IntKind.i64) o4], blk := 155648 }
def nodedisk_Disk_Write_n2 {β : Type} : Idisk_Disk_Write_n2 → (Ydisk_Disk_Write_n2 → Option β) → Option β := fun (t7, t34, o0_3, o0_5, o0_6, o1, o2, o3, o4) exit => (bif t34 then (exit ((12 : Int))) else (exit (t7)))
def nodeDdisk_Disk_Write_n2 (i : Idisk_Disk_Write_n2) : Option Ydisk_Disk_Write_n2 := nodedisk_Disk_Write_n2 i some
theorem nodedisk_Disk_Write_n2_nat (i : Idisk_Disk_Write_n2) (k : Ydisk_Disk_Write_n2 → Ans) : nodedisk_Disk_Write_n2 i k = bindO (nodeDdisk_Disk_Write_n2 i) k := by
  obtain ⟨t7, t34, o0_3, o0_5, o0_6, o1, o2, o3, o4⟩ := i
  simp only [nodeDdisk_Disk_Write_n2, nodedisk_Disk_Write_n2, bindO_cond, bindO_assoc, bindO_none, bindO_pure, bindO_elim, bindO_unP]
theorem nodedisk_Disk_Write_n2_ok (i : Idisk_Disk_Write_n2) (K : Ex → St → Ans) : codeI Try.tab envdisk_Disk_Write noHint (codeD Try.tab envdisk_Disk_Write noHint 0 64) 70 64 annLdisk_Disk_Write_n2 Ldisk_Disk_Write_n2 (weakP 5 (exk [7] [6] []) K) (Sdisk_Disk_Write_n2 i) = nodedisk_Disk_Write_n2 i (outdisk_Disk_Write_n2 i K) := by kernel_rfl
theorem GNdisk_Disk_Write_n2_ok : CSum Try.prog 64 Ldisk_Disk_Write_n2 (sumN decdisk_Disk_Write_n2 nodeDdisk_Disk_Write_n2 outdisk_Disk_Write_n2) := csum_node mixed tabOk envdisk_Disk_WriteOk 5 (exk [7] [6] []) annLdisk_Disk_Write_n2_ok decdisk_Disk_Write_n2_ok nodedisk_Disk_Write_n2_ok nodedisk_Disk_Write_n2_nat
noncomputable def Gdisk_Disk_Write_n2 : (Ex → St → Ans) → St → Ans := (sumN decdisk_Disk_Write_n2 nodeDdisk_Disk_Write_n2 outdisk_Disk_Write_n2)
theorem Gdisk_Disk_Write_n2_ok : CSum Try.prog 64 Ldisk_Disk_Write_n2 Gdisk_Disk_Write_n2 := GNdisk_Disk_Write_n2_ok
noncomputable def Ldisk_Disk_Write_n1 : Code := codeAt [1, 1, 1, 0, 0, 1, 0, 0, 1] bdisk_Disk_Write
noncomputable def annLdisk_Disk_Write_n1 : Ann := .none
theorem annLdisk_Disk_Write_n1_ok : AnnOk Try.prog 64 Ldisk_Disk_Write_n1 annLdisk_Disk_Write_n1 := (annOk_none _ _ _)
abbrev Idisk_Disk_Write_n1 := (Int) × (Bool) × (Int) × (Int) × (Bool) × (List (List UInt8)) × (List (Int × List UInt8)) × (List (Int × List UInt8)) × (List Int)
abbrev Ydisk_Disk_Write_n1 := (Int)
def Sdisk_Disk_Write_n1 : Idisk_Disk_Write_n1 → St := fun (t7, t27, o0_3, o0_5, o0_6, o1, o2, o3, o4) => { env := [(7, AV.int IntKind.i64 t7), (27, AV.bool t27)], stk := [[(0, AV.ptr 0 0)]], H := [AE.Obj.cells [AV.own 1, AV.map 2, AV.own 3, AV.int IntKind.i64 o0_3, AV.own 4, AV.int IntKind.i64 o0_5, AV.bool o0_6], Obj.arr Ty.str o1, Obj.mp IntKind.i64 Ty.str o2, Obj.arr (Ty.st (Ty.pair (Ty.int IntKind.i64) Ty.str)) o3, Obj.arr (Ty.int IntKind.i64) o4], blk := 155648 }
def decdisk_Disk_Write_n1 (s : St) : Option Idisk_Disk_Write_n1 := match s with
  | { env := [(7, AV.int IntKind.i64 t7), (27, AV.bool t27)], stk := [[(0, AV.ptr 0 0)]], H := [AE.Obj.cells [AV.own 1, AV.map 2, AV.own 3, AV.int IntKind.i64 o0_3, AV.own 4, AV.int IntKind.i64 o0_5, AV.bool o0_6], Obj.arr Ty.str o1, Obj.mp IntKind.i64 Ty.str o2, Obj.arr (Ty.st (Ty.pair (Ty.int IntKind.i64) Ty.str)) o3, Obj.arr (Ty.int IntKind.i64) o4], blk := 155648 } => some (t7, t27, o0_3, o0_5, o0_6, o1, o2, o3, o4)
  | _ => none
theorem decdisk_Disk_Write_n1_ok (s : St) (x : Idisk_Disk_Write_n1) (h : decdisk_Disk_Write_n1 s = some x) : s = Sdisk_Disk_Write_n1 x := by
  unfold decdisk_Disk_Write_n1 at h
  split at h
  · cases h; rfl
  · cases h
def outdisk_Disk_Write_n1 : Idisk_Disk_Write_n1 → (Ex → St → Ans) → Ydisk_Disk_Write_n1 → Ans := fun (t7, t27, o0_3, o0_5, o0_6, o1, o2, o3, o4) K => fun t7_y => K (Ex.norm) { env := [(7, AV.int IntKind.i64 t7_y)], stk := [[(0, AV.ptr 0 0)]], H := [AE.Obj.cells [AV.own 1, AV.map 2, AV.own 3, AV.int IntKind.i64 o0_3, AV.own 4, AV.int IntKind.i64 o0_5, AV.bool o0_6], Obj.arr Ty.str o1, Obj.mp IntKind.i64 Ty.str o2, Obj.arr (Ty.st (Ty.pair (Ty.int IntKind.i64) Ty.str)) o3, Obj.arr (Ty.int IntKind.i64) o4], blk := 155648 }
def nodedisk_Disk_Write_n1 {β : Type} : Idisk_Disk_Write_n1 → (Ydisk_Disk_Write_n1 → Option β) → Option β := fun (t7, t27, o0_3, o0_5, o0_6, o1, o2, o3, o4) exit => (bif t27 then (exit ((3 : Int))) else (exit (t7)))
def nodeDdisk_Disk_Write_n1 (i : Idisk_Disk_Write_n1) : Option Ydisk_Disk_Write_n1 := nodedisk_Disk_Write_n1 i some
theorem nodedisk_Disk_Write_n1_nat (i : Idisk_Disk_Write_n1) (k : Ydisk_Disk_Write_n1 → Ans) : nodedisk_Disk_Write_n1 i k = bindO (nodeDdisk_Disk_Write_n1 i) k := by
  obtain ⟨t7, t27, o0_3, o0_5, o0_6, o1, o2, o3, o4⟩ := i
  simp only [nodeDdisk_Disk_Write_n1, nodedisk_Disk_Write_n1, bindO_cond, bindO_assoc, bindO_none, bindO_pure, bindO_elim, bindO_unP]
theorem nodedisk_Disk_Write_n1_ok (i : Idisk_Disk_Write_n1) (K : Ex → St → Ans) : codeI Try.tab envdisk_Disk_Write noHint (codeD Try.tab envdisk_Disk_Write noHint 0 64) 70 64 annLdisk_Disk_Write_n1 Ldisk_Disk_Write_n1 (weakP 5 (exk [7] [6] []) K) (Sdisk_Disk_Write_n1 i) = nodedisk_Disk_Write_n1 i (outdisk_Disk_Write_n1 i K) := by kernel_rfl
theorem GNdisk_Disk_Write_n1_ok : CSum Try.prog 64 Ldisk_Disk_Write_n1 (sumN decdisk_Disk_Write_n1 nodeDdisk_Disk_Write_n1 outdisk_Disk_Write_n1) := csum_node mixed tabOk envdisk_Disk_WriteOk 5 (exk [7] [6] []) annLdisk_Disk_Write_n1_ok decdisk_Disk_Write_n1_ok nodedisk_Disk_Write_n1_ok nodedisk_Disk_Write_n1_nat
noncomputable def Gdisk_Disk_Write_n1 : (Ex → St → Ans) → St → Ans := (sumN decdisk_Disk_Write_n1 nodeDdisk_Disk_Write_n1 outdisk_Disk_Write_n1)
theorem Gdisk_Disk_Write_n1_ok : CSum Try.prog 64 Ldisk_Disk_Write_n1 Gdisk_Disk_Write_n1 := GNdisk_Disk_Write_n1_ok
noncomputable def Ldisk_Disk_Write_n0 : Code := codeAt [1, 1, 0, 0] bdisk_Disk_Write
noncomputable def annLdisk_Disk_Write_n0 : Ann := .none
theorem annLdisk_Disk_Write_n0_ok : AnnOk Try.prog 64 Ldisk_Disk_Write_n0 annLdisk_Disk_Write_n0 := (annOk_none _ _ _)
abbrev Idisk_Disk_Write_n0 := (Int) × (List UInt8) × (Int) × (Bool) × (Int) × (Int) × (Bool) × (List (List UInt8)) × (List (Int × List UInt8)) × (List (Int × List UInt8)) × (List Int)
abbrev Ydisk_Disk_Write_n0 := (Bool)
def Sdisk_Disk_Write_n0 : Idisk_Disk_Write_n0 → St := fun (t1, t2, t7, t8, o0_3, o0_5, o0_6, o1, o2, o3, o4) => { env := [(0, AV.ptr 0 0), (1, AV.int IntKind.i64 t1), (2, AV.str t2), (7, AV.int IntKind.i64 t7), (8, AV.bool t8)], stk := [[(0, AV.ptr 0 0)]], H := [AE.Obj.cells [AV.own 1, AV.map 2, AV.own 3, AV.int IntKind.i64 o0_3, AV.own 4, AV.int IntKind.i64 o0_5, AV.bool o0_6], Obj.arr Ty.str o1, Obj.mp IntKind.i64 Ty.str o2, Obj.arr (Ty.st (Ty.pair (Ty.int IntKind.i64) Ty.str)) o3, Obj.arr (Ty.int IntKind.i64) o4], blk := 155648 }
def decdisk_Disk_Write_n0 (s : St) : Option Idisk_Disk_Write_n0 := match s with
  | { env := [(0, AV.ptr 0 0), (1, AV.int IntKind.i64 t1), (2, AV.str t2), (7, AV.int IntKind.i64 t7), (8, AV.bool t8)], stk := [[(0, AV.ptr 0 0)]], H := [AE.Obj.cells [AV.own 1, AV.map 2, AV.own 3, AV.int IntKind.i64 o0_3, AV.own 4, AV.int IntKind.i64 o0_5, AV.bool o0_6], Obj.arr Ty.str o1, Obj.mp IntKind.i64 Ty.str o2, Obj.arr (Ty.st (Ty.pair (Ty.int IntKind.i64) Ty.str)) o3, Obj.arr (Ty.int IntKind.i64) o4], blk := 155648 } => some (t1, t2, t7, t8, o0_3, o0_5, o0_6, o1, o2, o3, o4)
  | _ => none
theorem decdisk_Disk_Write_n0_ok (s : St) (x : Idisk_Disk_Write_n0) (h : decdisk_Disk_Write_n0 s = some x) : s = Sdisk_Disk_Write_n0 x := by
  unfold decdisk_Disk_Write_n0 at h
  split at h
  · cases h; rfl
  · cases h
def outdisk_Disk_Write_n0 : Idisk_Disk_Write_n0 → (Ex → St → Ans) → Ydisk_Disk_Write_n0 → Ans := fun (t1, t2, t7, t8, o0_3, o0_5, o0_6, o1, o2, o3, o4) K => fun t19_y => K (Ex.norm) { env := [(0, AV.ptr 0 0), (1, AV.int IntKind.i64 t1), (2, AV.str t2), (7, AV.int IntKind.i64 t7), (8, AV.bool t8), (19, AV.bool t19_y)], stk := [[(0, AV.ptr 0 0)]], H := [AE.Obj.cells [AV.own 1, AV.map 2, AV.own 3, AV.int IntKind.i64 o0_3, AV.own 4, AV.int IntKind.i64 o0_5, AV.bool o0_6], Obj.arr Ty.str o1, Obj.mp IntKind.i64 Ty.str o2, Obj.arr (Ty.st (Ty.pair (Ty.int IntKind.i64) Ty.str)) o3, Obj.arr (Ty.int IntKind.i64) o4], blk := 155648 }
def nodedisk_Disk_Write_n0 {β : Type} : Idisk_Disk_Write_n0 → (Ydisk_Disk_Write_n0 → Option β) → Option β := fun (t1, t2, t7, t8, o0_3, o0_5, o0_6, o1, o2, o3, o4) exit => (bif t7 != (0 : Int) then (exit (!t8)) else (exit (false)))
def nodeDdisk_Disk_Write_n0 (i : Idisk_Disk_Write_n0) : Option Ydisk_Disk_Write_n0 := nodedisk_Disk_Write_n0 i some
theorem nodedisk_Disk_Write_n0_nat (i : Idisk_Disk_Write_n0) (k : Ydisk_Disk_Write_n0 → Ans) : nodedisk_Disk_Write_n0 i k = bindO (nodeDdisk_Disk_Write_n0 i) k := by
  obtain ⟨t1, t2, t7, t8, o0_3, o0_5, o0_6, o1, o2, o3, o4⟩ := i
  simp only [nodeDdisk_Disk_Write_n0, nodedisk_Disk_Write_n0, bindO_cond, bindO_assoc, bindO_none, bindO_pure, bindO_elim, bindO_unP]
theorem nodedisk_Disk_Write_n0_ok (i : Idisk_Disk_Write_n0) (K : Ex → St → Ans) : codeI Try.tab envdisk_Disk_Write noHint (codeD Try.tab envdisk_Disk_Write noHint 0 64) 70 64 annLdisk_Disk_Write_n0 Ldisk_Disk_Write_n0 (weakP 5 (exk [0, 1, 2, 7, 8, 19] [6] []) K) (Sdisk_Disk_Write_n0 i) = nodedisk_Disk_Write_n0 i (outdisk_Disk_Write_n0 i K) := by kernel_rfl
theorem GNdisk_Disk_Write_n0_ok : CSum Try.prog 64 Ldisk_Disk_Write_n0 (sumN decdisk_Disk_Write_n0 nodeDdisk_Disk_Write_n0 outdisk_Disk_Write_n0) := csum_node mixed tabOk envdisk_Disk_WriteOk 5 (exk [0, 1, 2, 7, 8, 19] [6] []) annLdisk_Disk_Write_n0_ok decdisk_Disk_Write_n0_ok nodedisk_Disk_Write_n0_ok nodedisk_Disk_Write_n0_nat
noncomputable def Gdisk_Disk_Write_n0 : (Ex → St → Ans) → St → Ans := (sumN decdisk_Disk_Write_n0 nodeDdisk_Disk_Write_n0 outdisk_Disk_Write_n0)
theorem Gdisk_Disk_Write_n0_ok : CSum Try.prog 64 Ldisk_Disk_Write_n0 Gdisk_Disk_Write_n0 := GNdisk_Disk_Write_n0_ok
noncomputable def anndisk_Disk_Write : Ann := (.seq .none (.seq .none (.seq (.seq (.cut 5 [0, 1, 2, 7, 8] Gdisk_Disk_Write_n0) .none) (.seq (.block (.seq .none (.cond (.seq (.seq .none (.cut 5 [7, 27] Gdisk_Disk_Write_n1)) .none) (.seq .none (.cond (.seq (.seq .none (.cut 5 [7, 34] Gdisk_Disk_Write_n2)) .none) .none))))) (.seq (.seq .none (.cut 5 [0, 1, 2, 7, 40] Gdisk_Disk_Write_n3)) .none)))))
theorem anndisk_Disk_Write_ok : AnnOk Try.prog 64 bdisk_Disk_Write anndisk_Disk_Write := ⟨(annOk_none _ _ _), ⟨(annOk_none _ _ _), ⟨⟨Gdisk_Disk_Write_n0_ok, (annOk_none _ _ _)⟩, ⟨⟨(annOk_none _ _ _), ⟨⟨⟨(annOk_none _ _ _), Gdisk_Disk_Write_n1_ok⟩, (annOk_none _ _ _)⟩, ⟨(annOk_none _ _ _), ⟨⟨⟨(annOk_none _ _ _), Gdisk_Disk_Write_n2_ok⟩, (annOk_none _ _ _)⟩, (annOk_none _ _ _)⟩⟩⟩⟩, ⟨⟨(annOk_none _ _ _), Gdisk_Disk_Write_n3_ok⟩, (annOk_none _ _ _)⟩⟩⟩⟩⟩
abbrev Adisk_Disk_Write := (Int) × (List UInt8) × (Int) × (Int) × (Bool) × (List (List UInt8)) × (List (Int × List UInt8)) × (List (Int × List UInt8)) × (List Int)
abbrev Ydisk_Disk_Write := (Int) × (Int) × (Bool) × (List (Int × List UInt8)) × (List (Int × List UInt8))
def fndisk_Disk_Write {β : Type} : Adisk_Disk_Write → (Ydisk_Disk_Write → Option β) → Option β := fun (a1, a2, o0_3, o0_5, o0_6, o1, o2, o3, o4) exit => (bindO (fnDdisk_Disk_call (o0_3, o0_5, o0_6, o1, o2, o3, o4)) (unP fun r_0 => unP fun r_1 => unP fun o0_3_2 o0_6_2 => (bindO (nodeDdisk_Disk_Write_n0 (a1, a2, r_0, r_1, o0_3_2, o0_5, o0_6_2, o1, o2, o3, o4)) fun t19 => (bif t19 then (exit (r_0, o0_3_2, o0_6_2, o2, o3)) else (bindO (fnDdisk_Disk_there (a1, o0_3_2, o0_5, o0_6_2, o1, o2, o3, o4)) fun r => (bif !r then (bindO (nodeDdisk_Disk_Write_n1 (r_0, !r_1, o0_3_2, o0_5, o0_6_2, o1, o2, o3, o4)) fun t7 => (exit (t7, o0_3_2, o0_6_2, o2, o3))) else (bif (↑(List.length a2) : Int) != (64 : Int) then (bindO (nodeDdisk_Disk_Write_n2 (r_0, !r_1, o0_3_2, o0_5, o0_6_2, o1, o2, o3, o4)) fun t7 => (exit (t7, o0_3_2, o0_6_2, o2, o3))) else (bindO (nodeDdisk_Disk_Write_n3 (a1, a2, r_0, o0_3_2, o0_5, o0_6_2, o1, o2, o3, o4)) fun _ => (bif Nat.ble ((List.length o3 + List.length [(a1, a2)]) * (24 : Nat)) (140737488355328 : Nat) then (exit (r_0, o0_3_2, o0_6_2, mput a1 a2 o2, o3 ++ [(a1, a2)])) else none)))))))))
def fnDdisk_Disk_Write (a : Adisk_Disk_Write) : Option Ydisk_Disk_Write := fndisk_Disk_Write a some
theorem fndisk_Disk_Write_nat (a : Adisk_Disk_Write) (k : Ydisk_Disk_Write → Ans) : fndisk_Disk_Write a k = bindO (fnDdisk_Disk_Write a) k := by
  obtain ⟨a1, a2, o0_3, o0_5, o0_6, o1, o2, o3, o4⟩ := a
  simp only [fnDdisk_Disk_Write, fndisk_Disk_Write, bindO_cond, bindO_assoc, bindO_none, bindO_pure, bindO_elim, bindO_unP]
def argsdisk_Disk_Write : Adisk_Disk_Write → List AV × List AE.Obj := fun (a1, a2, o0_3, o0_5, o0_6, o1, o2, o3, o4) => ([AV.ptr 0 0, AV.int IntKind.i64 a1, AV.str a2], [AE.Obj.cells [AV.own 1, AV.map 2, AV.own 3, AV.int IntKind.i64 o0_3, AV.own 4, AV.int IntKind.i64 o0_5, AV.bool o0_6], Obj.arr Ty.str o1, Obj.mp IntKind.i64 Ty.str o2, Obj.arr (Ty.st (Ty.pair (Ty.int IntKind.i64) Ty.str)) o3, Obj.arr (Ty.int IntKind.i64) o4])
def decAdisk_Disk_Write (l : List AV) (H : List AE.Obj) : Option Adisk_Disk_Write := match l, H with
  | [AV.ptr 0 0, AV.int IntKind.i64 a1, AV.str a2], [AE.Obj.cells [AV.own 1, AV.map 2, AV.own 3, AV.int IntKind.i64 o0_3, AV.own 4, AV.int IntKind.i64 o0_5, AV.bool o0_6], Obj.arr Ty.str o1, Obj.mp IntKind.i64 Ty.str o2, Obj.arr (Ty.st (Ty.pair (Ty.int IntKind.i64) Ty.str)) o3, Obj.arr (Ty.int IntKind.i64) o4] => some (a1, a2, o0_3, o0_5, o0_6, o1, o2, o3, o4)
  | _, _ => none
theorem decAdisk_Disk_Write_ok (l : List AV) (H : List AE.Obj) (a : Adisk_Disk_Write) (h : decAdisk_Disk_Write l H = some a) : (l, H) = argsdisk_Disk_Write a := by
  unfold decAdisk_Disk_Write at h
  split at h
  · cases h; rfl
  · cases h
def outdisk_Disk_Write : Adisk_Disk_Write → (AV → List AE.Obj → Ans) → Ydisk_Disk_Write → Ans := fun (a1, a2, o0_3, o0_5, o0_6, o1, o2, o3, o4) K => unP fun r_y => unP fun o0_3_y => unP fun o0_6_y => unP fun o2_y o3_y => K (AV.int IntKind.i64 r_y) [AE.Obj.cells [AV.own 1, AV.map 2, AV.own 3, AV.int IntKind.i64 o0_3_y, AV.own 4, AV.int IntKind.i64 o0_5, AV.bool o0_6_y], Obj.arr Ty.str o1, Obj.mp IntKind.i64 Ty.str o2_y, Obj.arr (Ty.st (Ty.pair (Ty.int IntKind.i64) Ty.str)) o3_y, Obj.arr (Ty.int IntKind.i64) o4]
theorem fndisk_Disk_Write_ok (a : Adisk_Disk_Write) (K : AV → List AE.Obj → Ans) : fnE Try.tab envdisk_Disk_Write noHint 0 70 38 Try.f38.ntmps Try.f38.results.toList anndisk_Disk_Write bdisk_Disk_Write (argsdisk_Disk_Write a).1 (argsdisk_Disk_Write a).2 K = fndisk_Disk_Write a (outdisk_Disk_Write a K) := by kernel_rfl
def vFdisk_Disk_Write (a : Adisk_Disk_Write) (K : AV → List AE.Obj → Ans) : Ans := bindO (fnDdisk_Disk_Write a) fun y => outdisk_Disk_Write a K y
def Fdisk_Disk_Write : List AV → List AE.Obj → (AV → List AE.Obj → Ans) → Ans := fun l H K => bindO (decAdisk_Disk_Write l H) fun a => vFdisk_Disk_Write a K
theorem Fdisk_Disk_Write_ok : FuncOk Try.prog 38 Fdisk_Disk_Write := func_mkD (hint := noHint) (d := 0) (n := 70) mixed tabOk envdisk_Disk_WriteOk Try.func38 (bodySome (by kernel_rfl)) (by decide +kernel) anndisk_Disk_Write_ok decAdisk_Disk_Write_ok fndisk_Disk_Write_ok fndisk_Disk_Write_nat
--@ region_Region_Write
noncomputable def envregion_Region_Write : Env := [(37, .func Fregion_Region_Split), (38, .func Fdisk_Disk_Write)]
theorem envregion_Region_WriteOk : EnvOk Try.prog envregion_Region_Write := EnvOk.cons Fregion_Region_Split_ok (EnvOk.cons Fdisk_Disk_Write_ok (EnvOk.nil))
noncomputable def bregion_Region_Write : Code := Try.f20.body.getD .skip
noncomputable def Lregion_Region_Write_n0 : Code := codeAt [1, 1, 0, 1, 0, 0] bregion_Region_Write
noncomputable def annLregion_Region_Write_n0 : Ann := .at 6 [0, 8, 19, 20, 21] (.loop .none)
theorem annLregion_Region_Write_n0_ok : AnnOk Try.prog 39 (.loop Lregion_Region_Write_n0) annLregion_Region_Write_n0 := annOk_at (annOk_none _ _ _)
abbrev Iregion_Region_Write_n0 := (Int) × (Int) × (Int) × (Int) × (Int) × (List (List UInt8)) × (List Int) × (List (Int × List UInt8))
abbrev Yregion_Region_Write_n0 := ((Int) × (Int) × (Bool) × (List (Int × List UInt8)) × (List (Int × List UInt8))) ⊕ ((Int) × (Bool) × (List (Int × List UInt8)) × (List (Int × List UInt8)))
abbrev Vregion_Region_Write_n0 := (Int) × (Int) × (Bool) × (List (Int × List UInt8)) × (List (Int × List UInt8))
def Sregion_Region_Write_n0 : Iregion_Region_Write_n0 → Vregion_Region_Write_n0 → St := fun (t8, t20, o0_1, o0_2, o1_5, o2, o5, o6) (t21, o1_3, o1_6, o3, o4) => { env := [(0, AV.ptr 0 0), (8, AV.int IntKind.i64 t8), (19, AV.own 6), (20, AV.int IntKind.i64 t20), (21, AV.int IntKind.i64 t21)], stk := [[(0, AV.ptr 0 0), (1, AV.ptr 1 0)]], H := [AE.Obj.cells [AV.ptr 1 0, AV.int IntKind.i64 o0_1, AV.int IntKind.i64 o0_2], AE.Obj.cells [AV.own 2, AV.map 3, AV.own 4, AV.int IntKind.i64 o1_3, AV.own 5, AV.int IntKind.i64 o1_5, AV.bool o1_6], Obj.arr Ty.str o2, Obj.mp IntKind.i64 Ty.str o3, Obj.arr (Ty.st (Ty.pair (Ty.int IntKind.i64) Ty.str)) o4, Obj.arr (Ty.int IntKind.i64) o5, Obj.arr (Ty.st (Ty.pair (Ty.int IntKind.i64) Ty.str)) o6], blk := 81920 }
def decregion_Region_Write_n0 (s : St) : Option (Iregion_Region_Write_n0 × Vregion_Region_Write_n0) := match s with
  | { env := [(0, AV.ptr 0 0), (8, AV.int IntKind.i64 t8), (19, AV.own 6), (20, AV.int IntKind.i64 t20), (21, AV.int IntKind.i64 t21)], stk := [[(0, AV.ptr 0 0), (1, AV.ptr 1 0)]], H := [AE.Obj.cells [AV.ptr 1 0, AV.int IntKind.i64 o0_1, AV.int IntKind.i64 o0_2], AE.Obj.cells [AV.own 2, AV.map 3, AV.own 4, AV.int IntKind.i64 o1_3, AV.own 5, AV.int IntKind.i64 o1_5, AV.bool o1_6], Obj.arr Ty.str o2, Obj.mp IntKind.i64 Ty.str o3, Obj.arr (Ty.st (Ty.pair (Ty.int IntKind.i64) Ty.str)) o4, Obj.arr (Ty.int IntKind.i64) o5, Obj.arr (Ty.st (Ty.pair (Ty.int IntKind.i64) Ty.str)) o6], blk := 81920 } => some ((t8, t20, o0_1, o0_2, o1_5, o2, o5, o6), (t21, o1_3, o1_6, o3, o4))
  | _ => none
theorem decregion_Region_Write_n0_ok (s : St) (x : Iregion_Region_Write_n0 × Vregion_Region_Write_n0) (h : decregion_Region_Write_n0 s = some x) : s = Sregion_Region_Write_n0 x.1 x.2 := by
  unfold decregion_Region_Write_n0 at h
  split at h
  · cases h; rfl
  · cases h
def outregion_Region_Write_n0 : Iregion_Region_Write_n0 → (Ex → St → Ans) → Yregion_Region_Write_n0 → Ans := fun (t8, t20, o0_1, o0_2, o1_5, o2, o5, o6) K => (Sum.elim (unP fun t6_y => unP fun o1_3_y => unP fun o1_6_y => unP fun o3_y o4_y => K (Ex.ret) { env := [(6, AV.int IntKind.i64 t6_y)], stk := [[(0, AV.ptr 0 0), (1, AV.ptr 1 0)]], H := [AE.Obj.cells [AV.ptr 1 0, AV.int IntKind.i64 o0_1, AV.int IntKind.i64 o0_2], AE.Obj.cells [AV.own 2, AV.map 3, AV.own 4, AV.int IntKind.i64 o1_3_y, AV.own 5, AV.int IntKind.i64 o1_5, AV.bool o1_6_y], Obj.arr Ty.str o2, Obj.mp IntKind.i64 Ty.str o3_y, Obj.arr (Ty.st (Ty.pair (Ty.int IntKind.i64) Ty.str)) o4_y, Obj.arr (Ty.int IntKind.i64) o5], blk := 81921 }) (unP fun o1_3_y => unP fun o1_6_y => unP fun o3_y o4_y => K (Ex.exit 0) { env := [(8, AV.int IntKind.i64 t8)], stk := [[(0, AV.ptr 0 0), (1, AV.ptr 1 0)]], H := [AE.Obj.cells [AV.ptr 1 0, AV.int IntKind.i64 o0_1, AV.int IntKind.i64 o0_2], AE.Obj.cells [AV.own 2, AV.map 3, AV.own 4, AV.int IntKind.i64 o1_3_y, AV.own 5, AV.int IntKind.i64 o1_5, AV.bool o1_6_y], Obj.arr Ty.str o2, Obj.mp IntKind.i64 Ty.str o3_y, Obj.arr (Ty.st (Ty.pair (Ty.int IntKind.i64) Ty.str)) o4_y, Obj.arr (Ty.int IntKind.i64) o5], blk := 81920 }))
def stepregion_Region_Write_n0 {β : Type} : Iregion_Region_Write_n0 → Vregion_Region_Write_n0 → (Vregion_Region_Write_n0 → Option β) → (Yregion_Region_Write_n0 → Option β) → Option β := fun (t8, t20, o0_1, o0_2, o1_5, o2, o5, o6) (t21, o1_3, o1_6, o3, o4) next exit => (bif decide (t21 < t20) then (bif inR t21 (List.length o6) then (bindO (o6[Int.toNat t21]?) fun x => (bindO (fnDdisk_Disk_Write (x.fst, x.snd, o1_3, o1_5, o1_6, o2, o3, o4, o5)) (unP fun r => unP fun o0_3 => unP fun o0_6 => unP fun o2_2 o3_2 => (bif r != (0 : Int) then (exit (Sum.inl (r, o0_3, o0_6, o2_2, o3_2))) else (next (IntKind.wrap IntKind.i64 (t21 + (1 : Int)), o0_3, o0_6, o2_2, o3_2)))))) else none) else (exit (Sum.inr (o1_3, o1_6, o3, o4))))
def stepDregion_Region_Write_n0 (i : Iregion_Region_Write_n0) (v : Vregion_Region_Write_n0) : Option (Vregion_Region_Write_n0 ⊕ Yregion_Region_Write_n0) := stepregion_Region_Write_n0 i v (fun v => some (.inl v)) (fun y => some (.inr y))
theorem stepregion_Region_Write_n0_nat (i : Iregion_Region_Write_n0) (v : Vregion_Region_Write_n0) (next : Vregion_Region_Write_n0 → Ans) (exit : Yregion_Region_Write_n0 → Ans) : stepregion_Region_Write_n0 i v next exit = bindO (stepDregion_Region_Write_n0 i v) (Sum.elim next exit) := by
  obtain ⟨t8, t20, o0_1, o0_2, o1_5, o2, o5, o6⟩ := i
  obtain ⟨t21, o1_3, o1_6, o3, o4⟩ := v
  simp only [stepDregion_Region_Write_n0, stepregion_Region_Write_n0, bindO_cond, bindO_assoc, bindO_none, bindO_pure, bindO_elim, bindO_unP, Sum.elim_inl, Sum.elim_inr]
theorem stepregion_Region_Write_n0_ok (n : Nat) (i : Iregion_Region_Write_n0) (v : Vregion_Region_Write_n0) (K : Ex → St → Ans) : codeI Try.tab envregion_Region_Write noHint (codeD Try.tab envregion_Region_Write noHint 0 64) (n+1) 39 annLregion_Region_Write_n0 (.loop Lregion_Region_Write_n0) (weakP 6 (exk [8] [6] [(0, [8])]) K) (Sregion_Region_Write_n0 i v) = stepregion_Region_Write_n0 i v (fun v' => codeI Try.tab envregion_Region_Write noHint (codeD Try.tab envregion_Region_Write noHint 0 64) n 39 annLregion_Region_Write_n0 (.loop Lregion_Region_Write_n0) (weakP 6 (exk [8] [6] [(0, [8])]) K) (Sregion_Region_Write_n0 i v')) (fun y => outregion_Region_Write_n0 i K y) := by kernel_rfl
theorem GNregion_Region_Write_n0_ok : CSum Try.prog 39 (.loop Lregion_Region_Write_n0) (sumL decregion_Region_Write_n0 stepDregion_Region_Write_n0 outregion_Region_Write_n0) := csum_loop mixed tabOk envregion_Region_WriteOk 6 (exk [8] [6] [(0, [8])]) annLregion_Region_Write_n0_ok decregion_Region_Write_n0_ok stepregion_Region_Write_n0_ok stepregion_Region_Write_n0_nat
noncomputable def Gregion_Region_Write_n0 : (Ex → St → Ans) → St → Ans := (sumL decregion_Region_Write_n0 stepDregion_Region_Write_n0 outregion_Region_Write_n0)
theorem Gregion_Region_Write_n0_ok : CSum Try.prog 39 (.loop Lregion_Region_Write_n0) Gregion_Region_Write_n0 := GNregion_Region_Write_n0_ok
noncomputable def annregion_Region_Write : Ann := (.seq .none (.seq .none (.seq (.seq .none (.block (.cut 6 [0, 8, 19, 20, 21] Gregion_Region_Write_n0))) .none)))
theorem annregion_Region_Write_ok : AnnOk Try.prog 39 bregion_Region_Write annregion_Region_Write := ⟨(annOk_none _ _ _), ⟨(annOk_none _ _ _), ⟨⟨(annOk_none _ _ _), Gregion_Region_Write_n0_ok⟩, (annOk_none _ _ _)⟩⟩⟩
abbrev Aregion_Region_Write := (Int) × (List UInt8) × (Int) × (Int) × (Int) × (Int) × (Bool) × (List (List UInt8)) × (List (Int × List UInt8)) × (List (Int × List UInt8)) × (List Int)
abbrev Yregion_Region_Write := (Int) × (Int) × (Bool) × (List (Int × List UInt8)) × (List (Int × List UInt8))
def fnregion_Region_Write {β : Type} : Aregion_Region_Write → (Yregion_Region_Write → Option β) → Option β := fun (a1, a2, o0_1, o0_2, o1_3, o1_5, o1_6, o2, o3, o4, o5) exit => (bindO (fnDregion_Region_Split (a1, a2, o0_1, o0_2, o1_3, o1_5, o1_6, o2, o3, o4, o5)) (unP fun r_1 o6 => (bindO (loopD (stepDregion_Region_Write_n0 (r_1, (↑(List.length o6) : Int), o0_1, o0_2, o1_5, o2, o5, o6)) FUEL ((0 : Int), o1_3, o1_6, o3, o4)) (Sum.elim (unP fun t6 => unP fun o1_3_2 => unP fun o1_6_2 => unP fun o3_2 o4_2 => (exit (t6, o1_3_2, o1_6_2, o3_2, o4_2))) (unP fun o1_3_2 => unP fun o1_6_2 => unP fun o3_2 o4_2 => (exit (r_1, o1_3_2, o1_6_2, o3_2, o4_2)))))))
def fnDregion_Region_Write (a : Aregion_Region_Write) : Option Yregion_Region_Write := fnregion_Region_Write a some
theorem fnregion_Region_Write_nat (a : Aregion_Region_Write) (k : Yregion_Region_Write → Ans) : fnregion_Region_Write a k = bindO (fnDregion_Region_Write a) k := by
  obtain ⟨a1, a2, o0_1, o0_2, o1_3, o1_5, o1_6, o2, o3, o4, o5⟩ := a
  simp only [fnDregion_Region_Write, fnregion_Region_Write, bindO_cond, bindO_assoc, bindO_none, bindO_pure, bindO_elim, bindO_unP]
def argsregion_Region_Write : Aregion_Region_Write → List AV × List AE.Obj := fun (a1, a2, o0_1, o0_2, o1_3, o1_5, o1_6, o2, o3, o4, o5) => ([AV.ptr 0 0, AV.int IntKind.i64 a1, AV.str a2], [AE.Obj.cells [AV.ptr 1 0, AV.int IntKind.i64 o0_1, AV.int IntKind.i64 o0_2], AE.Obj.cells [AV.own 2, AV.map 3, AV.own 4, AV.int IntKind.i64 o1_3, AV.own 5, AV.int IntKind.i64 o1_5, AV.bool o1_6], Obj.arr Ty.str o2, Obj.mp IntKind.i64 Ty.str o3, Obj.arr (Ty.st (Ty.pair (Ty.int IntKind.i64) Ty.str)) o4, Obj.arr (Ty.int IntKind.i64) o5])
def decAregion_Region_Write (l : List AV) (H : List AE.Obj) : Option Aregion_Region_Write := match l, H with
  | [AV.ptr 0 0, AV.int IntKind.i64 a1, AV.str a2], [AE.Obj.cells [AV.ptr 1 0, AV.int IntKind.i64 o0_1, AV.int IntKind.i64 o0_2], AE.Obj.cells [AV.own 2, AV.map 3, AV.own 4, AV.int IntKind.i64 o1_3, AV.own 5, AV.int IntKind.i64 o1_5, AV.bool o1_6], Obj.arr Ty.str o2, Obj.mp IntKind.i64 Ty.str o3, Obj.arr (Ty.st (Ty.pair (Ty.int IntKind.i64) Ty.str)) o4, Obj.arr (Ty.int IntKind.i64) o5] => some (a1, a2, o0_1, o0_2, o1_3, o1_5, o1_6, o2, o3, o4, o5)
  | _, _ => none
theorem decAregion_Region_Write_ok (l : List AV) (H : List AE.Obj) (a : Aregion_Region_Write) (h : decAregion_Region_Write l H = some a) : (l, H) = argsregion_Region_Write a := by
  unfold decAregion_Region_Write at h
  split at h
  · cases h; rfl
  · cases h
def outregion_Region_Write : Aregion_Region_Write → (AV → List AE.Obj → Ans) → Yregion_Region_Write → Ans := fun (a1, a2, o0_1, o0_2, o1_3, o1_5, o1_6, o2, o3, o4, o5) K => unP fun r_y => unP fun o1_3_y => unP fun o1_6_y => unP fun o3_y o4_y => K (AV.int IntKind.i64 r_y) [AE.Obj.cells [AV.ptr 1 0, AV.int IntKind.i64 o0_1, AV.int IntKind.i64 o0_2], AE.Obj.cells [AV.own 2, AV.map 3, AV.own 4, AV.int IntKind.i64 o1_3_y, AV.own 5, AV.int IntKind.i64 o1_5, AV.bool o1_6_y], Obj.arr Ty.str o2, Obj.mp IntKind.i64 Ty.str o3_y, Obj.arr (Ty.st (Ty.pair (Ty.int IntKind.i64) Ty.str)) o4_y, Obj.arr (Ty.int IntKind.i64) o5]
theorem fnregion_Region_Write_ok (a : Aregion_Region_Write) (K : AV → List AE.Obj → Ans) : fnE Try.tab envregion_Region_Write noHint 0 70 20 Try.f20.ntmps Try.f20.results.toList annregion_Region_Write bregion_Region_Write (argsregion_Region_Write a).1 (argsregion_Region_Write a).2 K = fnregion_Region_Write a (outregion_Region_Write a K) := by kernel_rfl
def vFregion_Region_Write (a : Aregion_Region_Write) (K : AV → List AE.Obj → Ans) : Ans := bindO (fnDregion_Region_Write a) fun y => outregion_Region_Write a K y
def Fregion_Region_Write : List AV → List AE.Obj → (AV → List AE.Obj → Ans) → Ans := fun l H K => bindO (decAregion_Region_Write l H) fun a => vFregion_Region_Write a K
theorem Fregion_Region_Write_ok : FuncOk Try.prog 20 Fregion_Region_Write := func_mkD (hint := noHint) (d := 0) (n := 70) mixed tabOk envregion_Region_WriteOk Try.func20 (bodySome (by kernel_rfl)) (by decide +kernel) annregion_Region_Write_ok decAregion_Region_Write_ok fnregion_Region_Write_ok fnregion_Region_Write_nat
--@ logscan_Put_1
noncomputable def envlogscan_Put_1 : Env := [(21, .func Flogscan_wrap), (20, .func Fregion_Region_Write)]
theorem envlogscan_Put_1Ok : EnvOk Try.prog envlogscan_Put_1 := EnvOk.cons Flogscan_wrap_ok (EnvOk.cons Fregion_Region_Write_ok (EnvOk.nil))
noncomputable def blogscan_Put_1 : Code := Try.f19.body.getD .skip
noncomputable def annlogscan_Put_1 : Ann := .none
theorem annlogscan_Put_1_ok : AnnOk Try.prog 18 blogscan_Put_1 annlogscan_Put_1 := (annOk_none _ _ _)
abbrev Alogscan_Put_1 := (Int) × (Int) × (List UInt8) × (Int) × (Int) × (Int) × (Int) × (Bool) × (List (List UInt8)) × (List (Int × List UInt8)) × (List (Int × List UInt8)) × (List Int)
abbrev Ylogscan_Put_1 := (Int) × (Int) × (Bool) × (List (Int × List UInt8)) × (List (Int × List UInt8))
def fnlogscan_Put_1 {β : Type} : Alogscan_Put_1 → (Ylogscan_Put_1 → Option β) → Option β := fun (a0, o1_0, o2_0, o3_1, o3_2, o4_3, o4_5, o4_6, o5, o6, o7, o8) exit => (bif inR (IntKind.wrap IntKind.i64 (a0 * (64 : Int))) (List.length o2_0 + (1 : Nat)) then (bif inR (64 : Int) (List.length (List.drop (Int.toNat (IntKind.wrap IntKind.i64 (a0 * (64 : Int)))) o2_0) + (1 : Nat)) then (bindO (fnDlogscan_wrap (IntKind.wrap IntKind.i64 (o1_0 + a0), o3_1, o3_2, o4_3, o4_5, o4_6, o5, o6, o7, o8)) fun r => (bindO (fnDregion_Region_Write (r, List.take (64 : Nat) (List.drop (Int.toNat (IntKind.wrap IntKind.i64 (a0 * (64 : Int)))) o2_0), o3_1, o3_2, o4_3, o4_5, o4_6, o5, o6, o7, o8)) (unP fun r_2 => unP fun o1_3 => unP fun o1_6 => unP fun o3 o4 => (exit (r_2, o1_3, o1_6, o3, o4))))) else none) else none)
def fnDlogscan_Put_1 (a : Alogscan_Put_1) : Option Ylogscan_Put_1 := fnlogscan_Put_1 a some
theorem fnlogscan_Put_1_nat (a : Alogscan_Put_1) (k : Ylogscan_Put_1 → Ans) : fnlogscan_Put_1 a k = bindO (fnDlogscan_Put_1 a) k := by
  obtain ⟨a0, o1_0, o2_0, o3_1, o3_2, o4_3, o4_5, o4_6, o5, o6, o7, o8⟩ := a
  simp only [fnDlogscan_Put_1, fnlogscan_Put_1, bindO_cond, bindO_assoc, bindO_none, bindO_pure, bindO_elim, bindO_unP]
def argslogscan_Put_1 : Alogscan_Put_1 → List AV × List AE.Obj := fun (a0, o1_0, o2_0, o3_1, o3_2, o4_3, o4_5, o4_6, o5, o6, o7, o8) => ([AV.int IntKind.i64 a0, AV.ptr 0 0, AV.ptr 1 0, AV.ptr 2 0], [AE.Obj.cells [AV.ptr 3 0], AE.Obj.cells [AV.int IntKind.i64 o1_0], AE.Obj.cells [AV.str o2_0], AE.Obj.cells [AV.ptr 4 0, AV.int IntKind.i64 o3_1, AV.int IntKind.i64 o3_2], AE.Obj.cells [AV.own 5, AV.map 6, AV.own 7, AV.int IntKind.i64 o4_3, AV.own 8, AV.int IntKind.i64 o4_5, AV.bool o4_6], Obj.arr Ty.str o5, Obj.mp IntKind.i64 Ty.str o6, Obj.arr (Ty.st (Ty.pair (Ty.int IntKind.i64) Ty.str)) o7, Obj.arr (Ty.int IntKind.i64) o8])
def decAlogscan_Put_1 (l : List AV) (H : List AE.Obj) : Option Alogscan_Put_1 := match l, H with
  | [AV.int IntKind.i64 a0, AV.ptr 0 0, AV.ptr 1 0, AV.ptr 2 0], [AE.Obj.cells [AV.ptr 3 0], AE.Obj.cells [AV.int IntKind.i64 o1_0], AE.Obj.cells [AV.str o2_0], AE.Obj.cells [AV.ptr 4 0, AV.int IntKind.i64 o3_1, AV.int IntKind.i64 o3_2], AE.Obj.cells [AV.own 5, AV.map 6, AV.own 7, AV.int IntKind.i64 o4_3, AV.own 8, AV.int IntKind.i64 o4_5, AV.bool o4_6], Obj.arr Ty.str o5, Obj.mp IntKind.i64 Ty.str o6, Obj.arr (Ty.st (Ty.pair (Ty.int IntKind.i64) Ty.str)) o7, Obj.arr (Ty.int IntKind.i64) o8] => some (a0, o1_0, o2_0, o3_1, o3_2, o4_3, o4_5, o4_6, o5, o6, o7, o8)
  | _, _ => none
theorem decAlogscan_Put_1_ok (l : List AV) (H : List AE.Obj) (a : Alogscan_Put_1) (h : decAlogscan_Put_1 l H = some a) : (l, H) = argslogscan_Put_1 a := by
  unfold decAlogscan_Put_1 at h
  split at h
  · cases h; rfl
  · cases h
def outlogscan_Put_1 : Alogscan_Put_1 → (AV → List AE.Obj → Ans) → Ylogscan_Put_1 → Ans := fun (a0, o1_0, o2_0, o3_1, o3_2, o4_3, o4_5, o4_6, o5, o6, o7, o8) K => unP fun r_y => unP fun o4_3_y => unP fun o4_6_y => unP fun o6_y o7_y => K (AV.int IntKind.i64 r_y) [AE.Obj.cells [AV.ptr 3 0], AE.Obj.cells [AV.int IntKind.i64 o1_0], AE.Obj.cells [AV.str o2_0], AE.Obj.cells [AV.ptr 4 0, AV.int IntKind.i64 o3_1, AV.int IntKind.i64 o3_2], AE.Obj.cells [AV.own 5, AV.map 6, AV.own 7, AV.int IntKind.i64 o4_3_y, AV.own 8, AV.int IntKind.i64 o4_5, AV.bool o4_6_y], Obj.arr Ty.str o5, Obj.mp IntKind.i64 Ty.str o6_y, Obj.arr (Ty.st (Ty.pair (Ty.int IntKind.i64) Ty.str)) o7_y, Obj.arr (Ty.int IntKind.i64) o8]
theorem fnlogscan_Put_1_ok (a : Alogscan_Put_1) (K : AV → List AE.Obj → Ans) : fnE Try.tab envlogscan_Put_1 noHint 0 70 19 Try.f19.ntmps Try.f19.results.toList annlogscan_Put_1 blogscan_Put_1 (argslogscan_Put_1 a).1 (argslogscan_Put_1 a).2 K = fnlogscan_Put_1 a (outlogscan_Put_1 a K) := by kernel_rfl
def vFlogscan_Put_1 (a : Alogscan_Put_1) (K : AV → List AE.Obj → Ans) : Ans := bindO (fnDlogscan_Put_1 a) fun y => outlogscan_Put_1 a K y
def Flogscan_Put_1 : List AV → List AE.Obj → (AV → List AE.Obj → Ans) → Ans := fun l H K => bindO (decAlogscan_Put_1 l H) fun a => vFlogscan_Put_1 a K
theorem Flogscan_Put_1_ok : FuncOk Try.prog 19 Flogscan_Put_1 := func_mkD (hint := noHint) (d := 0) (n := 70) mixed tabOk envlogscan_Put_1Ok Try.func19 (bodySome (by kernel_rfl)) (by decide +kernel) annlogscan_Put_1_ok decAlogscan_Put_1_ok fnlogscan_Put_1_ok fnlogscan_Put_1_nat
--@ logscan_Put
noncomputable def envlogscan_Put : Env := [(17, .func Flogscan_there), (18, .func Fregion_Region_Many), (19, .func Flogscan_Put_1)]
theorem envlogscan_PutOk : EnvOk Try.prog envlogscan_Put := EnvOk.cons Flogscan_there_ok (EnvOk.cons Fregion_Region_Many_ok (EnvOk.cons Flogscan_Put_1_ok (EnvOk.nil)))
noncomputable def blogscan_Put : Code := Try.f7.body.getD .skip
noncomputable def Llogscan_Put_n3 : Code := codeAt [1, 1, 1, 1, 0, 1, 0, 0] blogscan_Put
noncomputable def annLlogscan_Put_n3 : Ann := .at 6 [7, 9, 10] (.loop .none)
theorem annLlogscan_Put_n3_ok : AnnOk Try.prog 55 (.loop Llogscan_Put_n3) annLlogscan_Put_n3 := annOk_at (annOk_none _ _ _)
abbrev Ilogscan_Put_n3 := (Int) × (Int) × (Int) × (Int) × (List (List UInt8)) × (List Int) × (Int) × (List UInt8)
abbrev Ylogscan_Put_n3 := ((Int) × (Int) × (Bool) × (List (Int × List UInt8)) × (List (Int × List UInt8))) ⊕ ((Int) × (Bool) × (List (Int × List UInt8)) × (List (Int × List UInt8)))
abbrev Vlogscan_Put_n3 := (Int) × (Int) × (Bool) × (List (Int × List UInt8)) × (List (Int × List UInt8))
def Slogscan_Put_n3 : Ilogscan_Put_n3 → Vlogscan_Put_n3 → St := fun (t7, o0_1, o0_2, o1_5, o2, o5, o7_0, o8_0) (t10, o1_3, o1_6, o3, o4) => { env := [(7, AV.int IntKind.i64 t7), (9, AV.fn (Fn.func 19) [] [AV.ptr 6 0, AV.ptr 7 0, AV.ptr 8 0]), (10, AV.int IntKind.i64 t10)], stk := [[(0, AV.ptr 0 0), (1, AV.ptr 1 0)]], H := [AE.Obj.cells [AV.ptr 1 0, AV.int IntKind.i64 o0_1, AV.int IntKind.i64 o0_2], AE.Obj.cells [AV.own 2, AV.map 3, AV.own 4, AV.int IntKind.i64 o1_3, AV.own 5, AV.int IntKind.i64 o1_5, AV.bool o1_6], Obj.arr Ty.str o2, Obj.mp IntKind.i64 Ty.str o3, Obj.arr (Ty.st (Ty.pair (Ty.int IntKind.i64) Ty.str)) o4, Obj.arr (Ty.int IntKind.i64) o5, AE.Obj.cells [AV.ptr 0 0], AE.Obj.cells [AV.int IntKind.i64 o7_0], AE.Obj.cells [AV.str o8_0]], blk := 28673 }
def declogscan_Put_n3 (s : St) : Option (Ilogscan_Put_n3 × Vlogscan_Put_n3) := match s with
  | { env := [(7, AV.int IntKind.i64 t7), (9, AV.fn (Fn.func 19) [] [AV.ptr 6 0, AV.ptr 7 0, AV.ptr 8 0]), (10, AV.int IntKind.i64 t10)], stk := [[(0, AV.ptr 0 0), (1, AV.ptr 1 0)]], H := [AE.Obj.cells [AV.ptr 1 0, AV.int IntKind.i64 o0_1, AV.int IntKind.i64 o0_2], AE.Obj.cells [AV.own 2, AV.map 3, AV.own 4, AV.int IntKind.i64 o1_3, AV.own 5, AV.int IntKind.i64 o1_5, AV.bool o1_6], Obj.arr Ty.str o2, Obj.mp IntKind.i64 Ty.str o3, Obj.arr (Ty.st (Ty.pair (Ty.int IntKind.i64) Ty.str)) o4, Obj.arr (Ty.int IntKind.i64) o5, AE.Obj.cells [AV.ptr 0 0], AE.Obj.cells [AV.int IntKind.i64 o7_0], AE.Obj.cells [AV.str o8_0]], blk := 28673 } => some ((t7, o0_1, o0_2, o1_5, o2, o5, o7_0, o8_0), (t10, o1_3, o1_6, o3, o4))
  | _ => none
theorem declogscan_Put_n3_ok (s : St) (x : Ilogscan_Put_n3 × Vlogscan_Put_n3) (h : declogscan_Put_n3 s = some x) : s = Slogscan_Put_n3 x.1 x.2 := by
  unfold declogscan_Put_n3 at h
  split at h
  · cases h; rfl
  · cases h
def outlogscan_Put_n3 : Ilogscan_Put_n3 → (Ex → St → Ans) → Ylogscan_Put_n3 → Ans := fun (t7, o0_1, o0_2, o1_5, o2, o5, o7_0, o8_0) K => (Sum.elim (unP fun t6_y => unP fun o1_3_y => unP fun o1_6_y => unP fun o3_y o4_y => K (Ex.ret) { env := [(6, AV.int IntKind.i64 t6_y)], stk := [[(0, AV.ptr 0 0), (1, AV.ptr 1 0)]], H := [AE.Obj.cells [AV.ptr 1 0, AV.int IntKind.i64 o0_1, AV.int IntKind.i64 o0_2], AE.Obj.cells [AV.own 2, AV.map 3, AV.own 4, AV.int IntKind.i64 o1_3_y, AV.own 5, AV.int IntKind.i64 o1_5, AV.bool o1_6_y], Obj.arr Ty.str o2, Obj.mp IntKind.i64 Ty.str o3_y, Obj.arr (Ty.st (Ty.pair (Ty.int IntKind.i64) Ty.str)) o4_y, Obj.arr (Ty.int IntKind.i64) o5], blk := 28674 }) (unP fun o1_3_y => unP fun o1_6_y => unP fun o3_y o4_y => K (Ex.exit 1) { env := [(9, AV.fn (Fn.func 19) [] [AV.ptr 6 0, AV.ptr 7 0, AV.ptr 8 0])], stk := [[(0, AV.ptr 0 0), (1, AV.ptr 1 0)]], H := [AE.Obj.cells [AV.ptr 1 0, AV.int IntKind.i64 o0_1, AV.int IntKind.i64 o0_2], AE.Obj.cells [AV.own 2, AV.map 3, AV.own 4, AV.int IntKind.i64 o1_3_y, AV.own 5, AV.int IntKind.i64 o1_5, AV.bool o1_6_y], Obj.arr Ty.str o2, Obj.mp IntKind.i64 Ty.str o3_y, Obj.arr (Ty.st (Ty.pair (Ty.int IntKind.i64) Ty.str)) o4_y, Obj.arr (Ty.int IntKind.i64) o5, AE.Obj.cells [AV.ptr 0 0], AE.Obj.cells [AV.int IntKind.i64 o7_0], AE.Obj.cells [AV.str o8_0]], blk := 28673 }))
def steplogscan_Put_n3 {β : Type} : Ilogscan_Put_n3 → Vlogscan_Put_n3 → (Vlogscan_Put_n3 → Option β) → (Ylogscan_Put_n3 → Option β) → Option β := fun (t7, o0_1, o0_2, o1_5, o2, o5, o7_0, o8_0) (t10, o1_3, o1_6, o3, o4) next exit => (bif decide (t10 < t7) then (bindO (fnDlogscan_Put_1 (t10, o7_0, o8_0, o0_1, o0_2, o1_3, o1_5, o1_6, o2, o3, o4, o5)) (unP fun r => unP fun o4_3 => unP fun o4_6 => unP fun o6 o7 => (bif r != (0 : Int) then (exit (Sum.inl (r, o4_3, o4_6, o6, o7))) else (next (IntKind.wrap IntKind.i64 (t10 + (1 : Int)), o4_3, o4_6, o6, o7))))) else (exit (Sum.inr (o1_3, o1_6, o3, o4))))
def stepDlogscan_Put_n3 (i : Ilogscan_Put_n3) (v : Vlogscan_Put_n3) : Option (Vlogscan_Put_n3 ⊕ Ylogscan_Put_n3) := steplogscan_Put_n3 i v (fun v => some (.inl v)) (fun y => some (.inr y))
theorem steplogscan_Put_n3_nat (i : Ilogscan_Put_n3) (v : Vlogscan_Put_n3) (next : Vlogscan_Put_n3 → Ans) (exit : Ylogscan_Put_n3 → Ans) : steplogscan_Put_n3 i v next exit = bindO (stepDlogscan_Put_n3 i v) (Sum.elim next exit) := by
  obtain ⟨t7, o0_1, o0_2, o1_5, o2, o5, o7_0, o8_0⟩ := i
  obtain ⟨t10, o1_3, o1_6, o3, o4⟩ := v
  simp only [stepDlogscan_Put_n3, steplogscan_Put_n3, bindO_cond, bindO_assoc, bindO_none, bindO_pure, bindO_elim, bindO_unP, Sum.elim_inl, Sum.elim_inr]
theorem steplogscan_Put_n3_ok (n : Nat) (i : Ilogscan_Put_n3) (v : Vlogscan_Put_n3) (K : Ex → St → Ans) : codeI Try.tab envlogscan_Put noHint (codeD Try.tab envlogscan_Put noHint 0 64) (n+1) 55 annLlogscan_Put_n3 (.loop Llogscan_Put_n3) (weakP 6 (exk [9] [6] [(1, [9])]) K) (Slogscan_Put_n3 i v) = steplogscan_Put_n3 i v (fun v' => codeI Try.tab envlogscan_Put noHint (codeD Try.tab envlogscan_Put noHint 0 64) n 55 annLlogscan_Put_n3 (.loop Llogscan_Put_n3) (weakP 6 (exk [9] [6] [(1, [9])]) K) (Slogscan_Put_n3 i v')) (fun y => outlogscan_Put_n3 i K y) := by kernel_rfl
theorem GNlogscan_Put_n3_ok : CSum Try.prog 55 (.loop Llogscan_Put_n3) (sumL declogscan_Put_n3 stepDlogscan_Put_n3 outlogscan_Put_n3) := csum_loop mixed tabOk envlogscan_PutOk 6 (exk [9] [6] [(1, [9])]) annLlogscan_Put_n3_ok declogscan_Put_n3_ok steplogscan_Put_n3_ok steplogscan_Put_n3_nat
noncomputable def Glogscan_Put_n3 : (Ex → St → Ans) → St → Ans := (sumL declogscan_Put_n3 stepDlogscan_Put_n3 outlogscan_Put_n3)
theorem Glogscan_Put_n3_ok : CSum Try.prog 55 (.loop Llogscan_Put_n3) Glogscan_Put_n3 := GNlogscan_Put_n3_ok
noncomputable def Llogscan_Put_n2 : Code := codeAt [1, 1, 0, 1, 0, 1, 1, 1, 1, 0] blogscan_Put
noncomputable def annLlogscan_Put_n2 : Ann := .none
theorem annLlogscan_Put_n2_ok : AnnOk Try.prog 55 Llogscan_Put_n2 annLlogscan_Put_n2 := (annOk_none _ _ _)
abbrev Ilogscan_Put_n2 := (Int) × (Int) × (Int) × (Int) × (Int) × (Int) × (Bool) × (List (List UInt8)) × (List (Int × List UInt8)) × (List (Int × List UInt8)) × (List Int) × (Int) × (List UInt8)
abbrev Ylogscan_Put_n2 := (Bool)
def Slogscan_Put_n2 : Ilogscan_Put_n2 → St := fun (t7, t8, o0_1, o0_2, o1_3, o1_5, o1_6, o2, o3, o4, o5, o7_0, o8_0) => { env := [(3, AV.ptr 6 0), (4, AV.ptr 7 0), (5, AV.ptr 8 0), (7, AV.int IntKind.i64 t7), (8, AV.int IntKind.i64 t8)], stk := [[(0, AV.ptr 0 0), (1, AV.ptr 1 0)]], H := [AE.Obj.cells [AV.ptr 1 0, AV.int IntKind.i64 o0_1, AV.int IntKind.i64 o0_2], AE.Obj.cells [AV.own 2, AV.map 3, AV.own 4, AV.int IntKind.i64 o1_3, AV.own 5, AV.int IntKind.i64 o1_5, AV.bool o1_6], Obj.arr Ty.str o2, Obj.mp IntKind.i64 Ty.str o3, Obj.arr (Ty.st (Ty.pair (Ty.int IntKind.i64) Ty.str)) o4, Obj.arr (Ty.int IntKind.i64) o5, AE.Obj.cells [AV.ptr 0 0], AE.Obj.cells [AV.int IntKind.i64 o7_0], AE.Obj.cells [AV.str o8_0]], blk := 28672 }
def declogscan_Put_n2 (s : St) : Option Ilogscan_Put_n2 := match s with
  | { env := [(3, AV.ptr 6 0), (4, AV.ptr 7 0), (5, AV.ptr 8 0), (7, AV.int IntKind.i64 t7), (8, AV.int IntKind.i64 t8)], stk := [[(0, AV.ptr 0 0), (1, AV.ptr 1 0)]], H := [AE.Obj.cells [AV.ptr 1 0, AV.int IntKind.i64 o0_1, AV.int IntKind.i64 o0_2], AE.Obj.cells [AV.own 2, AV.map 3, AV.own 4, AV.int IntKind.i64 o1_3, AV.own 5, AV.int IntKind.i64 o1_5, AV.bool o1_6], Obj.arr Ty.str o2, Obj.mp IntKind.i64 Ty.str o3, Obj.arr (Ty.st (Ty.pair (Ty.int IntKind.i64) Ty.str)) o4, Obj.arr (Ty.int IntKind.i64) o5, AE.Obj.cells [AV.ptr 0 0], AE.Obj.cells [AV.int IntKind.i64 o7_0], AE.Obj.cells [AV.str o8_0]], blk := 28672 } => some (t7, t8, o0_1, o0_2, o1_3, o1_5, o1_6, o2, o3, o4, o5, o7_0, o8_0)
  | _ => none
theorem declogscan_Put_n2_ok (s : St) (x : Ilogscan_Put_n2) (h : declogscan_Put_n2 s = some x) : s = Slogscan_Put_n2 x := by
  unfold declogscan_Put_n2 at h
  split at h
  · cases h; rfl
  · cases h
def outlogscan_Put_n2 : Ilogscan_Put_n2 → (Ex → St → Ans) → Ylogscan_Put_n2 → Ans := fun (t7, t8, o0_1, o0_2, o1_3, o1_5, o1_6, o2, o3, o4, o5, o7_0, o8_0) K => fun t32_y => K (Ex.norm) { env := [(3, AV.ptr 6 0), (4, AV.ptr 7 0), (5, AV.ptr 8 0), (7, AV.int IntKind.i64 t7), (32, AV.bool t32_y)], stk := [[(0, AV.ptr 0 0), (1, AV.ptr 1 0)]], H := [AE.Obj.cells [AV.ptr 1 0, AV.int IntKind.i64 o0_1, AV.int IntKind.i64 o0_2], AE.Obj.cells [AV.own 2, AV.map 3, AV.own 4, AV.int IntKind.i64 o1_3, AV.own 5, AV.int IntKind.i64 o1_5, AV.bool o1_6], Obj.arr Ty.str o2, Obj.mp IntKind.i64 Ty.str o3, Obj.arr (Ty.st (Ty.pair (Ty.int IntKind.i64) Ty.str)) o4, Obj.arr (Ty.int IntKind.i64) o5, AE.Obj.cells [AV.ptr 0 0], AE.Obj.cells [AV.int IntKind.i64 o7_0], AE.Obj.cells [AV.str o8_0]], blk := 28672 }
def nodelogscan_Put_n2 {β : Type} : Ilogscan_Put_n2 → (Ylogscan_Put_n2 → Option β) → Option β := fun (t7, t8, o0_1, o0_2, o1_3, o1_5, o1_6, o2, o3, o4, o5, o7_0, o8_0) exit => (bif t8 != (0 : Int) then (exit (true)) else (bindO (fnDregion_Region_Many (o0_1, o0_2, o1_3, o1_5, o1_6, o2, o3, o4, o5)) fun _ => (exit (decide (t7 > o0_2)))))
def nodeDlogscan_Put_n2 (i : Ilogscan_Put_n2) : Option Ylogscan_Put_n2 := nodelogscan_Put_n2 i some
theorem nodelogscan_Put_n2_nat (i : Ilogscan_Put_n2) (k : Ylogscan_Put_n2 → Ans) : nodelogscan_Put_n2 i k = bindO (nodeDlogscan_Put_n2 i) k := by
  obtain ⟨t7, t8, o0_1, o0_2, o1_3, o1_5, o1_6, o2, o3, o4, o5, o7_0, o8_0⟩ := i
  simp only [nodeDlogscan_Put_n2, nodelogscan_Put_n2, bindO_cond, bindO_assoc, bindO_none, bindO_pure, bindO_elim, bindO_unP]
theorem nodelogscan_Put_n2_ok (i : Ilogscan_Put_n2) (K : Ex → St → Ans) : codeI Try.tab envlogscan_Put noHint (codeD Try.tab envlogscan_Put noHint 0 64) 70 55 annLlogscan_Put_n2 Llogscan_Put_n2 (weakP 6 (exk [3, 4, 5, 7, 32] [6] []) K) (Slogscan_Put_n2 i) = nodelogscan_Put_n2 i (outlogscan_Put_n2 i K) := by kernel_rfl
theorem GNlogscan_Put_n2_ok : CSum Try.prog 55 Llogscan_Put_n2 (sumN declogscan_Put_n2 nodeDlogscan_Put_n2 outlogscan_Put_n2) := csum_node mixed tabOk envlogscan_PutOk 6 (exk [3, 4, 5, 7, 32] [6] []) annLlogscan_Put_n2_ok declogscan_Put_n2_ok nodelogscan_Put_n2_ok nodelogscan_Put_n2_nat
noncomputable def Glogscan_Put_n2 : (Ex → St → Ans) → St → Ans := (sumN declogscan_Put_n2 nodeDlogscan_Put_n2 outlogscan_Put_n2)
theorem Glogscan_Put_n2_ok : CSum Try.prog 55 Llogscan_Put_n2 Glogscan_Put_n2 := GNlogscan_Put_n2_ok
noncomputable def Llogscan_Put_n1 : Code := codeAt [1, 1, 0, 1, 0, 1, 1, 0] blogscan_Put
noncomputable def annLlogscan_Put_n1 : Ann := .none
theorem annLlogscan_Put_n1_ok : AnnOk Try.prog 55 Llogscan_Put_n1 annLlogscan_Put_n1 := (annOk_none _ _ _)
abbrev Ilogscan_Put_n1 := (Int) × (Int) × (Int) × (Int) × (Int) × (Int) × (Bool) × (List (List UInt8)) × (List (Int × List UInt8)) × (List (Int × List UInt8)) × (List Int) × (Int) × (List UInt8)
abbrev Ylogscan_Put_n1 := (Bool)
def Slogscan_Put_n1 : Ilogscan_Put_n1 → St := fun (t7, t8, o0_1, o0_2, o1_3, o1_5, o1_6, o2, o3, o4, o5, o7_0, o8_0) => { env := [(3, AV.ptr 6 0), (4, AV.ptr 7 0), (5, AV.ptr 8 0), (7, AV.int IntKind.i64 t7), (8, AV.int IntKind.i64 t8)], stk := [[(0, AV.ptr 0 0), (1, AV.ptr 1 0)]], H := [AE.Obj.cells [AV.ptr 1 0, AV.int IntKind.i64 o0_1, AV.int IntKind.i64 o0_2], AE.Obj.cells [AV.own 2, AV.map 3, AV.own 4, AV.int IntKind.i64 o1_3, AV.own 5, AV.int IntKind.i64 o1_5, AV.bool o1_6], Obj.arr Ty.str o2, Obj.mp IntKind.i64 Ty.str o3, Obj.arr (Ty.st (Ty.pair (Ty.int IntKind.i64) Ty.str)) o4, Obj.arr (Ty.int IntKind.i64) o5, AE.Obj.cells [AV.ptr 0 0], AE.Obj.cells [AV.int IntKind.i64 o7_0], AE.Obj.cells [AV.str o8_0]], blk := 28672 }
def declogscan_Put_n1 (s : St) : Option Ilogscan_Put_n1 := match s with
  | { env := [(3, AV.ptr 6 0), (4, AV.ptr 7 0), (5, AV.ptr 8 0), (7, AV.int IntKind.i64 t7), (8, AV.int IntKind.i64 t8)], stk := [[(0, AV.ptr 0 0), (1, AV.ptr 1 0)]], H := [AE.Obj.cells [AV.ptr 1 0, AV.int IntKind.i64 o0_1, AV.int IntKind.i64 o0_2], AE.Obj.cells [AV.own 2, AV.map 3, AV.own 4, AV.int IntKind.i64 o1_3, AV.own 5, AV.int IntKind.i64 o1_5, AV.bool o1_6], Obj.arr Ty.str o2, Obj.mp IntKind.i64 Ty.str o3, Obj.arr (Ty.st (Ty.pair (Ty.int IntKind.i64) Ty.str)) o4, Obj.arr (Ty.int IntKind.i64) o5, AE.Obj.cells [AV.ptr 0 0], AE.Obj.cells [AV.int IntKind.i64 o7_0], AE.Obj.cells [AV.str o8_0]], blk := 28672 } => some (t7, t8, o0_1, o0_2, o1_3, o1_5, o1_6, o2, o3, o4, o5, o7_0, o8_0)
  | _ => none
theorem declogscan_Put_n1_ok (s : St) (x : Ilogscan_Put_n1) (h : declogscan_Put_n1 s = some x) : s = Slogscan_Put_n1 x := by
  unfold declogscan_Put_n1 at h
  split at h
  · cases h; rfl
  · cases h
def outlogscan_Put_n1 : Ilogscan_Put_n1 → (Ex → St → Ans) → Ylogscan_Put_n1 → Ans := fun (t7, t8, o0_1, o0_2, o1_3, o1_5, o1_6, o2, o3, o4, o5, o7_0, o8_0) K => fun t22_y => K (Ex.norm) { env := [(3, AV.ptr 6 0), (4, AV.ptr 7 0), (5, AV.ptr 8 0), (7, AV.int IntKind.i64 t7), (8, AV.int IntKind.i64 t8), (22, AV.bool t22_y)], stk := [[(0, AV.ptr 0 0), (1, AV.ptr 1 0)]], H := [AE.Obj.cells [AV.ptr 1 0, AV.int IntKind.i64 o0_1, AV.int IntKind.i64 o0_2], AE.Obj.cells [AV.own 2, AV.map 3, AV.own 4, AV.int IntKind.i64 o1_3, AV.own 5, AV.int IntKind.i64 o1_5, AV.bool o1_6], Obj.arr Ty.str o2, Obj.mp IntKind.i64 Ty.str o3, Obj.arr (Ty.st (Ty.pair (Ty.int IntKind.i64) Ty.str)) o4, Obj.arr (Ty.int IntKind.i64) o5, AE.Obj.cells [AV.ptr 0 0], AE.Obj.cells [AV.int IntKind.i64 o7_0], AE.Obj.cells [AV.str o8_0]], blk := 28672 }
def nodelogscan_Put_n1 {β : Type} : Ilogscan_Put_n1 → (Ylogscan_Put_n1 → Option β) → Option β := fun (t7, t8, o0_1, o0_2, o1_3, o1_5, o1_6, o2, o3, o4, o5, o7_0, o8_0) exit => (bif t7 == (0 : Int) then (exit (true)) else (exit ((↑(List.length o8_0) : Int) != IntKind.wrap IntKind.i64 (t7 * (64 : Int)))))
def nodeDlogscan_Put_n1 (i : Ilogscan_Put_n1) : Option Ylogscan_Put_n1 := nodelogscan_Put_n1 i some
theorem nodelogscan_Put_n1_nat (i : Ilogscan_Put_n1) (k : Ylogscan_Put_n1 → Ans) : nodelogscan_Put_n1 i k = bindO (nodeDlogscan_Put_n1 i) k := by
  obtain ⟨t7, t8, o0_1, o0_2, o1_3, o1_5, o1_6, o2, o3, o4, o5, o7_0, o8_0⟩ := i
  simp only [nodeDlogscan_Put_n1, nodelogscan_Put_n1, bindO_cond, bindO_assoc, bindO_none, bindO_pure, bindO_elim, bindO_unP]
theorem nodelogscan_Put_n1_ok (i : Ilogscan_Put_n1) (K : Ex → St → Ans) : codeI Try.tab envlogscan_Put noHint (codeD Try.tab envlogscan_Put noHint 0 64) 70 55 annLlogscan_Put_n1 Llogscan_Put_n1 (weakP 6 (exk [3, 4, 5, 7, 8, 22] [6] []) K) (Slogscan_Put_n1 i) = nodelogscan_Put_n1 i (outlogscan_Put_n1 i K) := by kernel_rfl
theorem GNlogscan_Put_n1_ok : CSum Try.prog 55 Llogscan_Put_n1 (sumN declogscan_Put_n1 nodeDlogscan_Put_n1 outlogscan_Put_n1) := csum_node mixed tabOk envlogscan_PutOk 6 (exk [3, 4, 5, 7, 8, 22] [6] []) annLlogscan_Put_n1_ok declogscan_Put_n1_ok nodelogscan_Put_n1_ok nodelogscan_Put_n1_nat
noncomputable def Glogscan_Put_n1 : (Ex → St → Ans) → St → Ans := (sumN declogscan_Put_n1 nodeDlogscan_Put_n1 outlogscan_Put_n1)
theorem Glogscan_Put_n1_ok : CSum Try.prog 55 Llogscan_Put_n1 Glogscan_Put_n1 := GNlogscan_Put_n1_ok
noncomputable def Llogscan_Put_n0 : Code := codeAt [1, 1, 0, 1] blogscan_Put
noncomputable def annLlogscan_Put_n0 : Ann := (.block (.seq .none (.cond .none (.seq (.cut 6 [3, 4, 5, 7, 8] Glogscan_Put_n1) (.cond .none (.seq (.cut 6 [3, 4, 5, 7, 8] Glogscan_Put_n2) .none))))))
theorem annLlogscan_Put_n0_ok : AnnOk Try.prog 55 Llogscan_Put_n0 annLlogscan_Put_n0 := ⟨(annOk_none _ _ _), ⟨(annOk_none _ _ _), ⟨Glogscan_Put_n1_ok, ⟨(annOk_none _ _ _), ⟨Glogscan_Put_n2_ok, (annOk_none _ _ _)⟩⟩⟩⟩⟩
abbrev Ilogscan_Put_n0 := (Int) × (Int) × (Int) × (Int) × (Int) × (Int) × (Bool) × (List (List UInt8)) × (List (Int × List UInt8)) × (List (Int × List UInt8)) × (List Int) × (Int) × (List UInt8)
abbrev Ylogscan_Put_n0 := ((Int)) ⊕ (Unit)
def Slogscan_Put_n0 : Ilogscan_Put_n0 → St := fun (t7, t8, o0_1, o0_2, o1_3, o1_5, o1_6, o2, o3, o4, o5, o7_0, o8_0) => { env := [(3, AV.ptr 6 0), (4, AV.ptr 7 0), (5, AV.ptr 8 0), (7, AV.int IntKind.i64 t7), (8, AV.int IntKind.i64 t8)], stk := [[(0, AV.ptr 0 0), (1, AV.ptr 1 0)]], H := [AE.Obj.cells [AV.ptr 1 0, AV.int IntKind.i64 o0_1, AV.int IntKind.i64 o0_2], AE.Obj.cells [AV.own 2, AV.map 3, AV.own 4, AV.int IntKind.i64 o1_3, AV.own 5, AV.int IntKind.i64 o1_5, AV.bool o1_6], Obj.arr Ty.str o2, Obj.mp IntKind.i64 Ty.str o3, Obj.arr (Ty.st (Ty.pair (Ty.int IntKind.i64) Ty.str)) o4, Obj.arr (Ty.int IntKind.i64) o5, AE.Obj.cells [AV.ptr 0 0], AE.Obj.cells [AV.int IntKind.i64 o7_0], AE.Obj.cells [AV.str o8_0]], blk := 28672 }
def declogscan_Put_n0 (s : St) : Option Ilogscan_Put_n0 := match s with
  | { env := [(3, AV.ptr 6 0), (4, AV.ptr 7 0), (5, AV.ptr 8 0), (7, AV.int IntKind.i64 t7), (8, AV.int IntKind.i64 t8)], stk := [[(0, AV.ptr 0 0), (1, AV.ptr 1 0)]], H := [AE.Obj.cells [AV.ptr 1 0, AV.int IntKind.i64 o0_1, AV.int IntKind.i64 o0_2], AE.Obj.cells [AV.own 2, AV.map 3, AV.own 4, AV.int IntKind.i64 o1_3, AV.own 5, AV.int IntKind.i64 o1_5, AV.bool o1_6], Obj.arr Ty.str o2, Obj.mp IntKind.i64 Ty.str o3, Obj.arr (Ty.st (Ty.pair (Ty.int IntKind.i64) Ty.str)) o4, Obj.arr (Ty.int IntKind.i64) o5, AE.Obj.cells [AV.ptr 0 0], AE.Obj.cells [AV.int IntKind.i64 o7_0], AE.Obj.cells [AV.str o8_0]], blk := 28672 } => some (t7, t8, o0_1, o0_2, o1_3, o1_5, o1_6, o2, o3, o4, o5, o7_0, o8_0)
  | _ => none
theorem declogscan_Put_n0_ok (s : St) (x : Ilogscan_Put_n0) (h : declogscan_Put_n0 s = some x) : s = Slogscan_Put_n0 x := by
  unfold declogscan_Put_n0 at h
  split at h
  · cases h; rfl
  · cases h
def outlogscan_Put_n0 : Ilogscan_Put_n0 → (Ex → St → Ans) → Ylogscan_Put_n0 → Ans := fun (t7, t8, o0_1, o0_2, o1_3, o1_5, o1_6, o2, o3, o4, o5, o7_0, o8_0) K => (Sum.elim (fun t6_y => K (Ex.ret) { env := [(6, AV.int IntKind.i64 t6_y)], stk := [[(0, AV.ptr 0 0), (1, AV.ptr 1 0)]], H := [AE.Obj.cells [AV.ptr 1 0, AV.int IntKind.i64 o0_1, AV.int IntKind.i64 o0_2], AE.Obj.cells [AV.own 2, AV.map 3, AV.own 4, AV.int IntKind.i64 o1_3, AV.own 5, AV.int IntKind.i64 o1_5, AV.bool o1_6], Obj.arr Ty.str o2, Obj.mp IntKind.i64 Ty.str o3, Obj.arr (Ty.st (Ty.pair (Ty.int IntKind.i64) Ty.str)) o4, Obj.arr (Ty.int IntKind.i64) o5], blk := 28672 }) (fun _ => K (Ex.norm) { env := [(3, AV.ptr 6 0), (4, AV.ptr 7 0), (5, AV.ptr 8 0), (7, AV.int IntKind.i64 t7)], stk := [[(0, AV.ptr 0 0), (1, AV.ptr 1 0)]], H := [AE.Obj.cells [AV.ptr 1 0, AV.int IntKind.i64 o0_1, AV.int IntKind.i64 o0_2], AE.Obj.cells [AV.own 2, AV.map 3, AV.own 4, AV.int IntKind.i64 o1_3, AV.own 5, AV.int IntKind.i64 o1_5, AV.bool o1_6], Obj.arr Ty.str o2, Obj.mp IntKind.i64 Ty.str o3, Obj.arr (Ty.st (Ty.pair (Ty.int IntKind.i64) Ty.str)) o4, Obj.arr (Ty.int IntKind.i64) o5, AE.Obj.cells [AV.ptr 0 0], AE.Obj.cells [AV.int IntKind.i64 o7_0], AE.Obj.cells [AV.str o8_0]], blk := 28672 }))
def nodelogscan_Put_n0 {β : Type} : Ilogscan_Put_n0 → (Ylogscan_Put_n0 → Option β) → Option β := fun (t7, t8, o0_1, o0_2, o1_3, o1_5, o1_6, o2, o3, o4, o5, o7_0, o8_0) exit => (bif t8 == (10 : Int) then (exit (Sum.inl (t8))) else (bindO (nodeDlogscan_Put_n1 (t7, t8, o0_1, o0_2, o1_3, o1_5, o1_6, o2, o3, o4, o5, o7_0, o8_0)) fun t22 => (bif t22 then (exit (Sum.inl ((12 : Int)))) else (bindO (nodeDlogscan_Put_n2 (t7, t8, o0_1, o0_2, o1_3, o1_5, o1_6, o2, o3, o4, o5, o7_0, o8_0)) fun t32 => (bif t32 then (exit (Sum.inl ((3 : Int)))) else (exit (Sum.inr ())))))))
def nodeDlogscan_Put_n0 (i : Ilogscan_Put_n0) : Option Ylogscan_Put_n0 := nodelogscan_Put_n0 i some
theorem nodelogscan_Put_n0_nat (i : Ilogscan_Put_n0) (k : Ylogscan_Put_n0 → Ans) : nodelogscan_Put_n0 i k = bindO (nodeDlogscan_Put_n0 i) k := by
  obtain ⟨t7, t8, o0_1, o0_2, o1_3, o1_5, o1_6, o2, o3, o4, o5, o7_0, o8_0⟩ := i
  simp only [nodeDlogscan_Put_n0, nodelogscan_Put_n0, bindO_cond, bindO_assoc, bindO_none, bindO_pure, bindO_elim, bindO_unP]
theorem nodelogscan_Put_n0_ok (i : Ilogscan_Put_n0) (K : Ex → St → Ans) : codeI Try.tab envlogscan_Put noHint (codeD Try.tab envlogscan_Put noHint 0 64) 70 55 annLlogscan_Put_n0 Llogscan_Put_n0 (weakP 6 (exk [3, 4, 5, 7] [6] []) K) (Slogscan_Put_n0 i) = nodelogscan_Put_n0 i (outlogscan_Put_n0 i K) := by kernel_rfl
theorem GNlogscan_Put_n0_ok : CSum Try.prog 55 Llogscan_Put_n0 (sumN declogscan_Put_n0 nodeDlogscan_Put_n0 outlogscan_Put_n0) := csum_node mixed tabOk envlogscan_PutOk 6 (exk [3, 4, 5, 7] [6] []) annLlogscan_Put_n0_ok declogscan_Put_n0_ok nodelogscan_Put_n0_ok nodelogscan_Put_n0_nat
noncomputable def Glogscan_Put_n0 : (Ex → St → Ans) → St → Ans := (sumN declogscan_Put_n0 nodeDlogscan_Put_n0 outlogscan_Put_n0)
theorem Glogscan_Put_n0_ok : CSum Try.prog 55 Llogscan_Put_n0 Glogscan_Put_n0 := GNlogscan_Put_n0_ok
noncomputable def annlogscan_Put : Ann := (.seq .none (.seq .none (.seq (.seq .none (.cut 6 [3, 4, 5, 7, 8] Glogscan_Put_n0)) (.seq .none (.seq (.seq .none (.block (.cut 6 [7, 9, 10] Glogscan_Put_n3))) .none)))))
theorem annlogscan_Put_ok : AnnOk Try.prog 55 blogscan_Put annlogscan_Put := ⟨(annOk_none _ _ _), ⟨(annOk_none _ _ _), ⟨⟨(annOk_none _ _ _), Glogscan_Put_n0_ok⟩, ⟨(annOk_none _ _ _), ⟨⟨(annOk_none _ _ _), Glogscan_Put_n3_ok⟩, (annOk_none _ _ _)⟩⟩⟩⟩⟩
abbrev Alogscan_Put := (Int) × (List UInt8) × (Int) × (Int) × (Int) × (Int) × (Bool) × (List (List UInt8)) × (List (Int × List UInt8)) × (List (Int × List UInt8)) × (List Int)
abbrev Ylogscan_Put := (Int) × (Int) × (Bool) × (List (Int × List UInt8)) × (List (Int × List UInt8))
def fnlogscan_Put {β : Type} : Alogscan_Put → (Ylogscan_Put → Option β) → Option β := fun (a1, a2, o0_1, o0_2, o1_3, o1_5, o1_6, o2, o3, o4, o5) exit => (bindO (fnDlogscan_there (a1, o0_1, o0_2, o1_3, o1_5, o1_6, o2, o3, o4, o5)) fun r => (bindO (nodeDlogscan_Put_n0 (IntKind.wrap IntKind.i64 (Int.tdiv (↑(List.length a2) : Int) (64 : Int)), r, o0_1, o0_2, o1_3, o1_5, o1_6, o2, o3, o4, o5, a1, a2)) (Sum.elim (fun t6 => (exit (t6, o1_3, o1_6, o3, o4))) (fun _ => (bindO (loopD (stepDlogscan_Put_n3 (IntKind.wrap IntKind.i64 (Int.tdiv (↑(List.length a2) : Int) (64 : Int)), o0_1, o0_2, o1_5, o2, o5, a1, a2)) FUEL ((1 : Int), o1_3, o1_6, o3, o4)) (Sum.elim (unP fun t6 => unP fun o1_3_2 => unP fun o1_6_2 => unP fun o3_2 o4_2 => (exit (t6, o1_3_2, o1_6_2, o3_2, o4_2))) (unP fun o1_3_2 => unP fun o1_6_2 => unP fun o3_2 o4_2 => (bindO (fnDlogscan_Put_1 ((0 : Int), a1, a2, o0_1, o0_2, o1_3_2, o1_5, o1_6_2, o2, o3_2, o4_2, o5)) (unP fun r_2 => unP fun o4_3 => unP fun o4_6 => unP fun o6 o7 => (exit (r_2, o4_3, o4_6, o6, o7)))))))))))
def fnDlogscan_Put (a : Alogscan_Put) : Option Ylogscan_Put := fnlogscan_Put a some
theorem fnlogscan_Put_nat (a : Alogscan_Put) (k : Ylogscan_Put → Ans) : fnlogscan_Put a k = bindO (fnDlogscan_Put a) k := by
  obtain ⟨a1, a2, o0_1, o0_2, o1_3, o1_5, o1_6, o2, o3, o4, o5⟩ := a
  simp only [fnDlogscan_Put, fnlogscan_Put, bindO_cond, bindO_assoc, bindO_none, bindO_pure, bindO_elim, bindO_unP]
def argslogscan_Put : Alogscan_Put → List AV × List AE.Obj := fun (a1, a2, o0_1, o0_2, o1_3, o1_5, o1_6, o2, o3, o4, o5) => ([AV.ptr 0 0, AV.int IntKind.i64 a1, AV.str a2], [AE.Obj.cells [AV.ptr 1 0, AV.int IntKind.i64 o0_1, AV.int IntKind.i64 o0_2], AE.Obj.cells [AV.own 2, AV.map 3, AV.own 4, AV.int IntKind.i64 o1_3, AV.own 5, AV.int IntKind.i64 o1_5, AV.bool o1_6], Obj.arr Ty.str o2, Obj.mp IntKind.i64 Ty.str o3, Obj.arr (Ty.st (Ty.pair (Ty.int IntKind.i64) Ty.str)) o4, Obj.arr (Ty.int IntKind.i64) o5])
def decAlogscan_Put (l : List AV) (H : List AE.Obj) : Option Alogscan_Put := match l, H with
  | [AV.ptr 0 0, AV.int IntKind.i64 a1, AV.str a2], [AE.Obj.cells [AV.ptr 1 0, AV.int IntKind.i64 o0_1, AV.int IntKind.i64 o0_2], AE.Obj.cells [AV.own 2, AV.map 3, AV.own 4, AV.int IntKind.i64 o1_3, AV.own 5, AV.int IntKind.i64 o1_5, AV.bool o1_6], Obj.arr Ty.str o2, Obj.mp IntKind.i64 Ty.str o3, Obj.arr (Ty.st (Ty.pair (Ty.int IntKind.i64) Ty.str)) o4, Obj.arr (Ty.int IntKind.i64) o5] => some (a1, a2, o0_1, o0_2, o1_3, o1_5, o1_6, o2, o3, o4, o5)
  | _, _ => none
theorem decAlogscan_Put_ok (l : List AV) (H : List AE.Obj) (a : Alogscan_Put) (h : decAlogscan_Put l H = some a) : (l, H) = argslogscan_Put a := by
  unfold decAlogscan_Put at h
  split at h
  · cases h; rfl
  · cases h
def outlogscan_Put : Alogscan_Put → (AV → List AE.Obj → Ans) → Ylogscan_Put → Ans := fun (a1, a2, o0_1, o0_2, o1_3, o1_5, o1_6, o2, o3, o4, o5) K => unP fun r_y => unP fun o1_3_y => unP fun o1_6_y => unP fun o3_y o4_y => K (AV.int IntKind.i64 r_y) [AE.Obj.cells [AV.ptr 1 0, AV.int IntKind.i64 o0_1, AV.int IntKind.i64 o0_2], AE.Obj.cells [AV.own 2, AV.map 3, AV.own 4, AV.int IntKind.i64 o1_3_y, AV.own 5, AV.int IntKind.i64 o1_5, AV.bool o1_6_y], Obj.arr Ty.str o2, Obj.mp IntKind.i64 Ty.str o3_y, Obj.arr (Ty.st (Ty.pair (Ty.int IntKind.i64) Ty.str)) o4_y, Obj.arr (Ty.int IntKind.i64) o5]
theorem fnlogscan_Put_ok (a : Alogscan_Put) (K : AV → List AE.Obj → Ans) : fnE Try.tab envlogscan_Put noHint 0 70 7 Try.f7.ntmps Try.f7.results.toList annlogscan_Put blogscan_Put (argslogscan_Put a).1 (argslogscan_Put a).2 K = fnlogscan_Put a (outlogscan_Put a K) := by kernel_rfl
def vFlogscan_Put (a : Alogscan_Put) (K : AV → List AE.Obj → Ans) : Ans := bindO (fnDlogscan_Put a) fun y => outlogscan_Put a K y
def Flogscan_Put : List AV → List AE.Obj → (AV → List AE.Obj → Ans) → Ans := fun l H K => bindO (decAlogscan_Put l H) fun a => vFlogscan_Put a K
theorem Flogscan_Put_ok : FuncOk Try.prog 7 Flogscan_Put := func_mkD (hint := noHint) (d := 0) (n := 70) mixed tabOk envlogscan_PutOk Try.func7 (bodySome (by kernel_rfl)) (by decide +kernel) annlogscan_Put_ok decAlogscan_Put_ok fnlogscan_Put_ok fnlogscan_Put_nat
--@ disk_Disk_Read
noncomputable def envdisk_Disk_Read : Env := [(49, .func Fdisk_Disk_call), (50, .func Fdisk_Disk_there)]
theorem envdisk_Disk_ReadOk : EnvOk Try.prog envdisk_Disk_Read := EnvOk.cons Fdisk_Disk_call_ok (EnvOk.cons Fdisk_Disk_there_ok (EnvOk.nil))
noncomputable def bdisk_Disk_Read : Code := Try.f73.body.getD .skip
noncomputable def anndisk_Disk_Read : Ann := .none
theorem anndisk_Disk_Read_ok : AnnOk Try.prog 42 bdisk_Disk_Read anndisk_Disk_Read := (annOk_none _ _ _)
abbrev Adisk_Disk_Read := (Int) × (Int) × (Int) × (Bool) × (List (List UInt8)) × (List (Int × List UInt8)) × (List (Int × List UInt8)) × (List Int)
abbrev Ydisk_Disk_Read := (List UInt8) × (Int) × (Int) × (Bool)
def fndisk_Disk_Read {β : Type} : Adisk_Disk_Read → (Ydisk_Disk_Read → Option β) → Option β := fun (a1, o0_3, o0_5, o0_6, o1, o2, o3, o4) exit => (bindO (fnDdisk_Disk_call (o0_3, o0_5, o0_6, o1, o2, o3, o4)) (unP fun r_0 => unP fun r_1 => unP fun o0_3_2 o0_6_2 => (bif r_0 != (0 : Int) then (exit ([], r_0, o0_3_2, o0_6_2)) else (bindO (fnDdisk_Disk_there (a1, o0_3_2, o0_5, o0_6_2, o1, o2, o3, o4)) fun r => (bif !r then (exit ([], (3 : Int), o0_3_2, o0_6_2)) else (bif mhas a1 o2 then (exit (mget a1 [] o2, (0 : Int), o0_3_2, o0_6_2)) else (bif inR a1 (List.length o1) then (bindO (o1[Int.toNat a1]?) fun x => (exit (x, (0 : Int), o0_3_2, o0_6_2))) else none)))))))
def fnDdisk_Disk_Read (a : Adisk_Disk_Read) : Option Ydisk_Disk_Read := fndisk_Disk_Read a some
theorem fndisk_Disk_Read_nat (a : Adisk_Disk_Read) (k : Ydisk_Disk_Read → Ans) : fndisk_Disk_Read a k = bindO (fnDdisk_Disk_Read a) k := by
  obtain ⟨a1, o0_3, o0_5, o0_6, o1, o2, o3, o4⟩ := a
  simp only [fnDdisk_Disk_Read, fndisk_Disk_Read, bindO_cond, bindO_assoc, bindO_none, bindO_pure, bindO_elim, bindO_unP]
def argsdisk_Disk_Read : Adisk_Disk_Read → List AV × List AE.Obj := fun (a1, o0_3, o0_5, o0_6, o1, o2, o3, o4) => ([AV.ptr 0 0, AV.int IntKind.i64 a1], [AE.Obj.cells [AV.own 1, AV.map 2, AV.own 3, AV.int IntKind.i64 o0_3, AV.own 4, AV.int IntKind.i64 o0_5, AV.bool o0_6], Obj.arr Ty.str o1, Obj.mp IntKind.i64 Ty.str o2, Obj.arr (Ty.st (Ty.pair (Ty.int IntKind.i64) Ty.str)) o3, Obj.arr (Ty.int IntKind.i64) o4])
def decAdisk_Disk_Read (l : List AV) (H : List AE.Obj) : Option Adisk_Disk_Read := match l, H with
  | [AV.ptr 0 0, AV.int IntKind.i64 a1], [AE.Obj.cells [AV.own 1, AV.map 2, AV.own 3, AV.int IntKind.i64 o0_3, AV.own 4, AV.int IntKind.i64 o0_5, AV.bool o0_6], Obj.arr Ty.str o1, Obj.mp IntKind.i64 Ty.str o2, Obj.arr (Ty.st (Ty.pair (Ty.int IntKind.i64) Ty.str)) o3, Obj.arr (Ty.int IntKind.i64) o4] => some (a1, o0_3, o0_5, o0_6, o1, o2, o3, o4)
  | _, _ => none
theorem decAdisk_Disk_Read_ok (l : List AV) (H : List AE.Obj) (a : Adisk_Disk_Read) (h : decAdisk_Disk_Read l H = some a) : (l, H) = argsdisk_Disk_Read a := by
  unfold decAdisk_Disk_Read at h
  split at h
  · cases h; rfl
  · cases h
def outdisk_Disk_Read : Adisk_Disk_Read → (AV → List AE.Obj → Ans) → Ydisk_Disk_Read → Ans := fun (a1, o0_3, o0_5, o0_6, o1, o2, o3, o4) K => unP fun r_0_y => unP fun r_1_y => unP fun o0_3_y o0_6_y => K (AV.tup [AV.str r_0_y, AV.int IntKind.i64 r_1_y]) [AE.Obj.cells [AV.own 1, AV.map 2, AV.own 3, AV.int IntKind.i64 o0_3_y, AV.own 4, AV.int IntKind.i64 o0_5, AV.bool o0_6_y], Obj.arr Ty.str o1, Obj.mp IntKind.i64 Ty.str o2, Obj.arr (Ty.st (Ty.pair (Ty.int IntKind.i64) Ty.str)) o3, Obj.arr (Ty.int IntKind.i64) o4]
theorem fndisk_Disk_Read_ok (a : Adisk_Disk_Read) (K : AV → List AE.Obj → Ans) : fnE Try.tab envdisk_Disk_Read noHint 0 70 73 Try.f73.ntmps Try.f73.results.toList anndisk_Disk_Read bdisk_Disk_Read (argsdisk_Disk_Read a).1 (argsdisk_Disk_Read a).2 K = fndisk_Disk_Read a (outdisk_Disk_Read a K) := by kernel_rfl
def vFdisk_Disk_Read (a : Adisk_Disk_Read) (K : AV → List AE.Obj → Ans) : Ans := bindO (fnDdisk_Disk_Read a) fun y => outdisk_Disk_Read a K y
def Fdisk_Disk_Read : List AV → List AE.Obj → (AV → List AE.Obj → Ans) → Ans := fun l H K => bindO (decAdisk_Disk_Read l H) fun a => vFdisk_Disk_Read a K
theorem Fdisk_Disk_Read_ok : FuncOk Try.prog 73 Fdisk_Disk_Read := func_mkD (hint := noHint) (d := 0) (n := 70) mixed tabOk envdisk_Disk_ReadOk Try.func73 (bodySome (by kernel_rfl)) (by decide +kernel) anndisk_Disk_Read_ok decAdisk_Disk_Read_ok fndisk_Disk_Read_ok fndisk_Disk_Read_nat
end Go.Proofs.R4
