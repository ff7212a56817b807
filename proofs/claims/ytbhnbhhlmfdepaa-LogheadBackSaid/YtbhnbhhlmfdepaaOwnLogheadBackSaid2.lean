/- What the functions that LogheadBackSaid reaches compute: part 2. -/
import Derived.Test.YtbhnbhhlmfdepaaOwnLogheadBackSaid1
set_option linter.unusedVariables false
set_option linter.unusedSimpArgs false
namespace Go.Proofs.R2
open Go Go.AE
--@ ref10_Get
noncomputable def envref10_Get : Env := [(45, .pure Fref03_Tail), (22, .pure Fref10_Put), (54, .pure Fref10_number)]
theorem envref10_GetOk : EnvOk Try.prog envref10_Get := EnvOk.cons Fref03_Tail_ok (EnvOk.cons Fref10_Put_ok (EnvOk.cons Fref10_number_ok (EnvOk.nil)))
noncomputable def bref10_Get : Code := Try.f24.body.getD .skip
noncomputable def Lref10_Get_n0 : Code := codeAt [1, 1, 1, 1, 0, 0] bref10_Get
noncomputable def annLref10_Get_n0 : Ann := .none
theorem annLref10_Get_n0_ok : AnnOk Try.prog 49 Lref10_Get_n0 annLref10_Get_n0 := (annOk_none _ _ _)
abbrev Iref10_Get_n0 := (List UInt8) × (List UInt8) × (Int) × (Int) × (Int) × (Int)
abbrev Yref10_Get_n0 := (Bool)
def Sref10_Get_n0 : Iref10_Get_n0 → St := fun (t0, t5, t6, o1_0, o1_1, o1_2) => { env := [(0, AV.str t0), (2, AV.ptr 0 0), (4, AV.ptr 1 0), (5, AV.str t5), (6, AV.int IntKind.i64 t6)], stk := [[]], H := [AE.Obj.cells [AV.int IntKind.i64 (0), AV.int IntKind.i64 (0), AV.int IntKind.i64 (0)], AE.Obj.cells [AV.int IntKind.i64 o1_0, AV.int IntKind.i64 o1_1, AV.int IntKind.i64 o1_2]], blk := 98304 }
def decref10_Get_n0 (s : St) : Option Iref10_Get_n0 := match s with
  | { env := [(0, AV.str t0), (2, AV.ptr 0 0), (4, AV.ptr 1 0), (5, AV.str t5), (6, AV.int IntKind.i64 t6)], stk := [[]], H := [AE.Obj.cells [AV.int IntKind.i64 r3, AV.int IntKind.i64 r4, AV.int IntKind.i64 r5], AE.Obj.cells [AV.int IntKind.i64 o1_0, AV.int IntKind.i64 o1_1, AV.int IntKind.i64 o1_2]], blk := 98304 } => cond (decide (r3 = 0) && decide (r4 = 0) && decide (r5 = 0)) (some (t0, t5, t6, o1_0, o1_1, o1_2)) none
  | _ => none
theorem decref10_Get_n0_ok (s : St) (x : Iref10_Get_n0) (h : decref10_Get_n0 s = some x) : s = Sref10_Get_n0 x := by
  unfold decref10_Get_n0 at h
  split at h
  · replace h := cond_noneO h; obtain ⟨hg, h⟩ := h; simp only [Bool.and_eq_true, decide_eq_true_eq] at hg; simp only [hg]; cases h; rfl
  · cases h
def outref10_Get_n0 : Iref10_Get_n0 → (Ex → St → Ans) → Yref10_Get_n0 → Ans := fun (t0, t5, t6, o1_0, o1_1, o1_2) K => fun t46_y => K (Ex.norm) { env := [(2, AV.ptr 0 0), (4, AV.ptr 1 0), (46, AV.bool t46_y)], stk := [[]], H := [AE.Obj.cells [AV.int IntKind.i64 (0), AV.int IntKind.i64 (0), AV.int IntKind.i64 (0)], AE.Obj.cells [AV.int IntKind.i64 o1_0, AV.int IntKind.i64 o1_1, AV.int IntKind.i64 o1_2]], blk := 98304 }
def noderef10_Get_n0 {β : Type} : Iref10_Get_n0 → (Yref10_Get_n0 → Option β) → Option β := fun (t0, t5, t6, o1_0, o1_1, o1_2) exit => (bif t6 != (0 : Int) then (exit (true)) else (exit (!t5 == t0)))
def nodeDref10_Get_n0 (i : Iref10_Get_n0) : Option Yref10_Get_n0 := noderef10_Get_n0 i some
theorem noderef10_Get_n0_nat (i : Iref10_Get_n0) (k : Yref10_Get_n0 → Ans) : noderef10_Get_n0 i k = bindO (nodeDref10_Get_n0 i) k := by
  obtain ⟨t0, t5, t6, o1_0, o1_1, o1_2⟩ := i
  simp only [nodeDref10_Get_n0, noderef10_Get_n0, bindO_cond, bindO_assoc, bindO_none, bindO_pure, bindO_elim, bindO_unP]
theorem noderef10_Get_n0_ok (i : Iref10_Get_n0) (K : Ex → St → Ans) : codeI Try.tab envref10_Get noHint (codeD Try.tab envref10_Get noHint 0 64) 70 49 annLref10_Get_n0 Lref10_Get_n0 (weakP 0 (exk [2, 4, 46] [2, 3] []) K) (Sref10_Get_n0 i) = noderef10_Get_n0 i (outref10_Get_n0 i K) := by kernel_rfl
theorem GNref10_Get_n0_ok : CSum Try.prog 49 Lref10_Get_n0 (sumN decref10_Get_n0 nodeDref10_Get_n0 outref10_Get_n0) := csum_node mixed tabOk envref10_GetOk 0 (exk [2, 4, 46] [2, 3] []) annLref10_Get_n0_ok decref10_Get_n0_ok noderef10_Get_n0_ok noderef10_Get_n0_nat
noncomputable def Gref10_Get_n0 : (Ex → St → Ans) → St → Ans := (sumN decref10_Get_n0 nodeDref10_Get_n0 outref10_Get_n0)
theorem Gref10_Get_n0_ok : CSum Try.prog 49 Lref10_Get_n0 Gref10_Get_n0 := GNref10_Get_n0_ok
noncomputable def annref10_Get : Ann := (.seq .none (.seq .none (.seq .none (.seq .none (.seq (.seq (.cut 0 [0, 2, 4, 5, 6] Gref10_Get_n0) .none) .none)))))
theorem annref10_Get_ok : AnnOk Try.prog 49 bref10_Get annref10_Get := ⟨(annOk_none _ _ _), ⟨(annOk_none _ _ _), ⟨(annOk_none _ _ _), ⟨(annOk_none _ _ _), ⟨⟨Gref10_Get_n0_ok, (annOk_none _ _ _)⟩, (annOk_none _ _ _)⟩⟩⟩⟩⟩
abbrev Aref10_Get := (List UInt8)
abbrev Yref10_Get := (Int) × (Int) × (Int) × (Int)
def fnref10_Get {β : Type} : Aref10_Get → (Yref10_Get → Option β) → Option β := fun a0 exit => (bif (↑(List.length a0) : Int) != (64 : Int) then (exit ((0 : Int), (0 : Int), (0 : Int), (12 : Int))) else (bindO (nth a0 (0 : Int)) fun x => (bif (↑(UInt8.toNat x) : Int) != (76 : Int) then (exit ((0 : Int), (0 : Int), (0 : Int), (4 : Int))) else (bif inR (19 : Int) (List.length a0 + (1 : Nat)) && true then (bif inR (15 : Int) (List.length a0 + (1 : Nat)) then (bindO (fnDref03_Tail (List.take (15 : Nat) a0)) fun r => (bif !List.take ((19 : Nat) - (15 : Nat)) (List.drop (15 : Nat) a0) == r then (exit ((0 : Int), (0 : Int), (0 : Int), (5 : Int))) else (bif inR (7 : Int) (List.length a0 + (1 : Nat)) && true then (bindO (fnDref10_number (List.take ((7 : Nat) - (1 : Nat)) (List.drop (1 : Nat) a0))) fun r_2 => (bif inR (13 : Int) (List.length a0 + (1 : Nat)) && true then (bindO (fnDref10_number (List.take ((13 : Nat) - (7 : Nat)) (List.drop (7 : Nat) a0))) fun r_3 => (bif inR (15 : Int) (List.length a0 + (1 : Nat)) && true then (bindO (fnDref10_number (List.take ((15 : Nat) - (13 : Nat)) (List.drop (13 : Nat) a0))) fun r_4 => (bindO (fnDref10_Put (r_2, r_3, r_4)) (unP fun r_0 r_1 => (bindO (nodeDref10_Get_n0 (a0, r_0, r_1, r_2, r_3, r_4)) fun t46 => (bif t46 then (exit ((0 : Int), (0 : Int), (0 : Int), (4 : Int))) else (exit (r_2, r_3, r_4, (0 : Int)))))))) else none)) else none)) else none))) else none) else none))))
def fnDref10_Get (a : Aref10_Get) : Option Yref10_Get := fnref10_Get a some
theorem fnref10_Get_nat (a : Aref10_Get) (k : Yref10_Get → Ans) : fnref10_Get a k = bindO (fnDref10_Get a) k := by
  obtain z := a
  simp only [fnDref10_Get, fnref10_Get, bindO_cond, bindO_assoc, bindO_none, bindO_pure, bindO_elim, bindO_unP]
def argsref10_Get : Aref10_Get → List AV := fun a0 => [AV.str a0]
def decAref10_Get (l : List AV) : Option Aref10_Get := match l with
  | [AV.str a0] => some (a0)
  | _ => none
theorem decAref10_Get_ok (l : List AV) (a : Aref10_Get) (h : decAref10_Get l = some a) : l = argsref10_Get a := by
  unfold decAref10_Get at h
  split at h
  · cases h; rfl
  · cases h
def rendref10_Get : Aref10_Get → Yref10_Get → AV := fun a0 => unP fun r_0_0_y => unP fun r_0_1_y => unP fun r_0_2_y r_1_y => AV.tup [AV.agg [AV.int IntKind.i64 r_0_0_y, AV.int IntKind.i64 r_0_1_y, AV.int IntKind.i64 r_0_2_y], AV.int IntKind.i64 r_1_y]
theorem rendref10_Get_ok : ∀ (a : Aref10_Get) (y : Yref10_Get), (rendref10_Get a y).closed1 = true := by
  rintro z y <;> first | rfl | exact Empty.elim y
theorem fnref10_Get_ok (a : Aref10_Get) : fnE Try.tab envref10_Get noHint 0 70 24 Try.f24.ntmps Try.f24.results.toList annref10_Get bref10_Get (argsref10_Get a) [] (fun v _ => some (v, [])) = fnref10_Get a (fun y => some (rendref10_Get a y, [])) := by kernel_rfl
def vFref10_Get (a : Aref10_Get) (K : AV → Ans) : Ans := bindO (fnDref10_Get a) fun y => K (rendref10_Get a y)
def Fref10_Get : List AV → (AV → Ans) → Ans := fun l K => bindO (decAref10_Get l) fun a => vFref10_Get a K
theorem Fref10_Get_ok : PureOk Try.prog 24 Fref10_Get := pure_mkD (hint := noHint) (d := 0) (n := 70) mixed tabOk envref10_GetOk Try.func24 (bodySome (by kernel_rfl)) (by decide +kernel) annref10_Get_ok decAref10_Get_ok fnref10_Get_ok fnref10_Get_nat rendref10_Get_ok
--@ ref10_Newer
noncomputable def envref10_Newer : Env := [(24, .pure Fref10_Get)]
theorem envref10_NewerOk : EnvOk Try.prog envref10_Newer := EnvOk.cons Fref10_Get_ok (EnvOk.nil)
noncomputable def bref10_Newer : Code := Try.f26.body.getD .skip
noncomputable def Lref10_Newer_n2 : Code := codeAt [1, 1, 1, 0, 0, 1, 1, 0] bref10_Newer
noncomputable def annLref10_Newer_n2 : Ann := .none
theorem annLref10_Newer_n2_ok : AnnOk Try.prog 44 Lref10_Newer_n2 annLref10_Newer_n2 := (annOk_none _ _ _)
abbrev Iref10_Newer_n2 := (Int) × (Int) × (Int) × (Int) × (Int) × (Int) × (Int) × (Int)
abbrev Yref10_Newer_n2 := (Bool)
def Sref10_Newer_n2 : Iref10_Newer_n2 → St := fun (t7, t9, o1_0, o1_1, o1_2, o2_0, o2_1, o2_2) => { env := [(4, AV.ptr 0 0), (6, AV.ptr 1 0), (7, AV.int IntKind.i64 t7), (8, AV.ptr 2 0), (9, AV.int IntKind.i64 t9)], stk := [[]], H := [AE.Obj.cells [AV.int IntKind.i64 (0), AV.int IntKind.i64 (0), AV.int IntKind.i64 (0)], AE.Obj.cells [AV.int IntKind.i64 o1_0, AV.int IntKind.i64 o1_1, AV.int IntKind.i64 o1_2], AE.Obj.cells [AV.int IntKind.i64 o2_0, AV.int IntKind.i64 o2_1, AV.int IntKind.i64 o2_2]], blk := 106496 }
def decref10_Newer_n2 (s : St) : Option Iref10_Newer_n2 := match s with
  | { env := [(4, AV.ptr 0 0), (6, AV.ptr 1 0), (7, AV.int IntKind.i64 t7), (8, AV.ptr 2 0), (9, AV.int IntKind.i64 t9)], stk := [[]], H := [AE.Obj.cells [AV.int IntKind.i64 r2, AV.int IntKind.i64 r3, AV.int IntKind.i64 r4], AE.Obj.cells [AV.int IntKind.i64 o1_0, AV.int IntKind.i64 o1_1, AV.int IntKind.i64 o1_2], AE.Obj.cells [AV.int IntKind.i64 o2_0, AV.int IntKind.i64 o2_1, AV.int IntKind.i64 o2_2]], blk := 106496 } => cond (decide (r2 = 0) && decide (r3 = 0) && decide (r4 = 0)) (some (t7, t9, o1_0, o1_1, o1_2, o2_0, o2_1, o2_2)) none
  | _ => none
theorem decref10_Newer_n2_ok (s : St) (x : Iref10_Newer_n2) (h : decref10_Newer_n2 s = some x) : s = Sref10_Newer_n2 x := by
  unfold decref10_Newer_n2 at h
  split at h
  · replace h := cond_noneO h; obtain ⟨hg, h⟩ := h; simp only [Bool.and_eq_true, decide_eq_true_eq] at hg; simp only [hg]; cases h; rfl
  · cases h
def outref10_Newer_n2 : Iref10_Newer_n2 → (Ex → St → Ans) → Yref10_Newer_n2 → Ans := fun (t7, t9, o1_0, o1_1, o1_2, o2_0, o2_1, o2_2) K => fun t28_y => K (Ex.norm) { env := [(4, AV.ptr 0 0), (6, AV.ptr 1 0), (8, AV.ptr 2 0), (28, AV.bool t28_y)], stk := [[]], H := [AE.Obj.cells [AV.int IntKind.i64 (0), AV.int IntKind.i64 (0), AV.int IntKind.i64 (0)], AE.Obj.cells [AV.int IntKind.i64 o1_0, AV.int IntKind.i64 o1_1, AV.int IntKind.i64 o1_2], AE.Obj.cells [AV.int IntKind.i64 o2_0, AV.int IntKind.i64 o2_1, AV.int IntKind.i64 o2_2]], blk := 106496 }
def noderef10_Newer_n2 {β : Type} : Iref10_Newer_n2 → (Yref10_Newer_n2 → Option β) → Option β := fun (t7, t9, o1_0, o1_1, o1_2, o2_0, o2_1, o2_2) exit => (bif t7 != (0 : Int) then (exit (true)) else (bif t9 == (0 : Int) then (exit (decide (o2_0 > o1_0))) else (exit (false))))
def nodeDref10_Newer_n2 (i : Iref10_Newer_n2) : Option Yref10_Newer_n2 := noderef10_Newer_n2 i some
theorem noderef10_Newer_n2_nat (i : Iref10_Newer_n2) (k : Yref10_Newer_n2 → Ans) : noderef10_Newer_n2 i k = bindO (nodeDref10_Newer_n2 i) k := by
  obtain ⟨t7, t9, o1_0, o1_1, o1_2, o2_0, o2_1, o2_2⟩ := i
  simp only [nodeDref10_Newer_n2, noderef10_Newer_n2, bindO_cond, bindO_assoc, bindO_none, bindO_pure, bindO_elim, bindO_unP]
theorem noderef10_Newer_n2_ok (i : Iref10_Newer_n2) (K : Ex → St → Ans) : codeI Try.tab envref10_Newer noHint (codeD Try.tab envref10_Newer noHint 0 64) 70 44 annLref10_Newer_n2 Lref10_Newer_n2 (weakP 0 (exk [4, 6, 8, 28] [4, 5] []) K) (Sref10_Newer_n2 i) = noderef10_Newer_n2 i (outref10_Newer_n2 i K) := by kernel_rfl
theorem GNref10_Newer_n2_ok : CSum Try.prog 44 Lref10_Newer_n2 (sumN decref10_Newer_n2 nodeDref10_Newer_n2 outref10_Newer_n2) := csum_node mixed tabOk envref10_NewerOk 0 (exk [4, 6, 8, 28] [4, 5] []) annLref10_Newer_n2_ok decref10_Newer_n2_ok noderef10_Newer_n2_ok noderef10_Newer_n2_nat
noncomputable def Gref10_Newer_n2 : (Ex → St → Ans) → St → Ans := (sumN decref10_Newer_n2 nodeDref10_Newer_n2 outref10_Newer_n2)
theorem Gref10_Newer_n2_ok : CSum Try.prog 44 Lref10_Newer_n2 Gref10_Newer_n2 := GNref10_Newer_n2_ok
noncomputable def Lref10_Newer_n1 : Code := codeAt [1, 1, 1, 0, 0, 0] bref10_Newer
noncomputable def annLref10_Newer_n1 : Ann := .none
theorem annLref10_Newer_n1_ok : AnnOk Try.prog 44 Lref10_Newer_n1 annLref10_Newer_n1 := (annOk_none _ _ _)
abbrev Iref10_Newer_n1 := (Int) × (Int) × (Int) × (Int) × (Int) × (Int) × (Int) × (Int)
abbrev Yref10_Newer_n1 := (Bool)
def Sref10_Newer_n1 : Iref10_Newer_n1 → St := fun (t7, t9, o1_0, o1_1, o1_2, o2_0, o2_1, o2_2) => { env := [(4, AV.ptr 0 0), (6, AV.ptr 1 0), (7, AV.int IntKind.i64 t7), (8, AV.ptr 2 0), (9, AV.int IntKind.i64 t9)], stk := [[]], H := [AE.Obj.cells [AV.int IntKind.i64 (0), AV.int IntKind.i64 (0), AV.int IntKind.i64 (0)], AE.Obj.cells [AV.int IntKind.i64 o1_0, AV.int IntKind.i64 o1_1, AV.int IntKind.i64 o1_2], AE.Obj.cells [AV.int IntKind.i64 o2_0, AV.int IntKind.i64 o2_1, AV.int IntKind.i64 o2_2]], blk := 106496 }
def decref10_Newer_n1 (s : St) : Option Iref10_Newer_n1 := match s with
  | { env := [(4, AV.ptr 0 0), (6, AV.ptr 1 0), (7, AV.int IntKind.i64 t7), (8, AV.ptr 2 0), (9, AV.int IntKind.i64 t9)], stk := [[]], H := [AE.Obj.cells [AV.int IntKind.i64 r2, AV.int IntKind.i64 r3, AV.int IntKind.i64 r4], AE.Obj.cells [AV.int IntKind.i64 o1_0, AV.int IntKind.i64 o1_1, AV.int IntKind.i64 o1_2], AE.Obj.cells [AV.int IntKind.i64 o2_0, AV.int IntKind.i64 o2_1, AV.int IntKind.i64 o2_2]], blk := 106496 } => cond (decide (r2 = 0) && decide (r3 = 0) && decide (r4 = 0)) (some (t7, t9, o1_0, o1_1, o1_2, o2_0, o2_1, o2_2)) none
  | _ => none
theorem decref10_Newer_n1_ok (s : St) (x : Iref10_Newer_n1) (h : decref10_Newer_n1 s = some x) : s = Sref10_Newer_n1 x := by
  unfold decref10_Newer_n1 at h
  split at h
  · replace h := cond_noneO h; obtain ⟨hg, h⟩ := h; simp only [Bool.and_eq_true, decide_eq_true_eq] at hg; simp only [hg]; cases h; rfl
  · cases h
def outref10_Newer_n1 : Iref10_Newer_n1 → (Ex → St → Ans) → Yref10_Newer_n1 → Ans := fun (t7, t9, o1_0, o1_1, o1_2, o2_0, o2_1, o2_2) K => fun t20_y => K (Ex.norm) { env := [(4, AV.ptr 0 0), (6, AV.ptr 1 0), (7, AV.int IntKind.i64 t7), (8, AV.ptr 2 0), (9, AV.int IntKind.i64 t9), (20, AV.bool t20_y)], stk := [[]], H := [AE.Obj.cells [AV.int IntKind.i64 (0), AV.int IntKind.i64 (0), AV.int IntKind.i64 (0)], AE.Obj.cells [AV.int IntKind.i64 o1_0, AV.int IntKind.i64 o1_1, AV.int IntKind.i64 o1_2], AE.Obj.cells [AV.int IntKind.i64 o2_0, AV.int IntKind.i64 o2_1, AV.int IntKind.i64 o2_2]], blk := 106496 }
def noderef10_Newer_n1 {β : Type} : Iref10_Newer_n1 → (Yref10_Newer_n1 → Option β) → Option β := fun (t7, t9, o1_0, o1_1, o1_2, o2_0, o2_1, o2_2) exit => (bif t7 != (0 : Int) then (exit (t9 != (0 : Int))) else (exit (false)))
def nodeDref10_Newer_n1 (i : Iref10_Newer_n1) : Option Yref10_Newer_n1 := noderef10_Newer_n1 i some
theorem noderef10_Newer_n1_nat (i : Iref10_Newer_n1) (k : Yref10_Newer_n1 → Ans) : noderef10_Newer_n1 i k = bindO (nodeDref10_Newer_n1 i) k := by
  obtain ⟨t7, t9, o1_0, o1_1, o1_2, o2_0, o2_1, o2_2⟩ := i
  simp only [nodeDref10_Newer_n1, noderef10_Newer_n1, bindO_cond, bindO_assoc, bindO_none, bindO_pure, bindO_elim, bindO_unP]
theorem noderef10_Newer_n1_ok (i : Iref10_Newer_n1) (K : Ex → St → Ans) : codeI Try.tab envref10_Newer noHint (codeD Try.tab envref10_Newer noHint 0 64) 70 44 annLref10_Newer_n1 Lref10_Newer_n1 (weakP 0 (exk [4, 6, 7, 8, 9, 20] [4, 5] []) K) (Sref10_Newer_n1 i) = noderef10_Newer_n1 i (outref10_Newer_n1 i K) := by kernel_rfl
theorem GNref10_Newer_n1_ok : CSum Try.prog 44 Lref10_Newer_n1 (sumN decref10_Newer_n1 nodeDref10_Newer_n1 outref10_Newer_n1) := csum_node mixed tabOk envref10_NewerOk 0 (exk [4, 6, 7, 8, 9, 20] [4, 5] []) annLref10_Newer_n1_ok decref10_Newer_n1_ok noderef10_Newer_n1_ok noderef10_Newer_n1_nat
noncomputable def Gref10_Newer_n1 : (Ex → St → Ans) → St → Ans := (sumN decref10_Newer_n1 nodeDref10_Newer_n1 outref10_Newer_n1)
theorem Gref10_Newer_n1_ok : CSum Try.prog 44 Lref10_Newer_n1 Gref10_Newer_n1 := GNref10_Newer_n1_ok
noncomputable def Lref10_Newer_n0 : Code := codeAt [1, 1, 1, 0] bref10_Newer
noncomputable def annLref10_Newer_n0 : Ann := (.block (.seq (.cut 0 [4, 6, 7, 8, 9] Gref10_Newer_n1) (.cond .none (.seq (.cut 0 [4, 6, 7, 8, 9] Gref10_Newer_n2) .none))))
theorem annLref10_Newer_n0_ok : AnnOk Try.prog 44 Lref10_Newer_n0 annLref10_Newer_n0 := ⟨Gref10_Newer_n1_ok, ⟨(annOk_none _ _ _), ⟨Gref10_Newer_n2_ok, (annOk_none _ _ _)⟩⟩⟩
abbrev Iref10_Newer_n0 := (Int) × (Int) × (Int) × (Int) × (Int) × (Int) × (Int) × (Int)
abbrev Yref10_Newer_n0 := ((Int) × (Int) × (Int) × (Int)) ⊕ (Unit)
def Sref10_Newer_n0 : Iref10_Newer_n0 → St := fun (t7, t9, o1_0, o1_1, o1_2, o2_0, o2_1, o2_2) => { env := [(4, AV.ptr 0 0), (6, AV.ptr 1 0), (7, AV.int IntKind.i64 t7), (8, AV.ptr 2 0), (9, AV.int IntKind.i64 t9)], stk := [[]], H := [AE.Obj.cells [AV.int IntKind.i64 (0), AV.int IntKind.i64 (0), AV.int IntKind.i64 (0)], AE.Obj.cells [AV.int IntKind.i64 o1_0, AV.int IntKind.i64 o1_1, AV.int IntKind.i64 o1_2], AE.Obj.cells [AV.int IntKind.i64 o2_0, AV.int IntKind.i64 o2_1, AV.int IntKind.i64 o2_2]], blk := 106496 }
def decref10_Newer_n0 (s : St) : Option Iref10_Newer_n0 := match s with
  | { env := [(4, AV.ptr 0 0), (6, AV.ptr 1 0), (7, AV.int IntKind.i64 t7), (8, AV.ptr 2 0), (9, AV.int IntKind.i64 t9)], stk := [[]], H := [AE.Obj.cells [AV.int IntKind.i64 r2, AV.int IntKind.i64 r3, AV.int IntKind.i64 r4], AE.Obj.cells [AV.int IntKind.i64 o1_0, AV.int IntKind.i64 o1_1, AV.int IntKind.i64 o1_2], AE.Obj.cells [AV.int IntKind.i64 o2_0, AV.int IntKind.i64 o2_1, AV.int IntKind.i64 o2_2]], blk := 106496 } => cond (decide (r2 = 0) && decide (r3 = 0) && decide (r4 = 0)) (some (t7, t9, o1_0, o1_1, o1_2, o2_0, o2_1, o2_2)) none
  | _ => none
theorem decref10_Newer_n0_ok (s : St) (x : Iref10_Newer_n0) (h : decref10_Newer_n0 s = some x) : s = Sref10_Newer_n0 x := by
  unfold decref10_Newer_n0 at h
  split at h
  · replace h := cond_noneO h; obtain ⟨hg, h⟩ := h; simp only [Bool.and_eq_true, decide_eq_true_eq] at hg; simp only [hg]; cases h; rfl
  · cases h
def outref10_Newer_n0 : Iref10_Newer_n0 → (Ex → St → Ans) → Yref10_Newer_n0 → Ans := fun (t7, t9, o1_0, o1_1, o1_2, o2_0, o2_1, o2_2) K => (Sum.elim (unP fun t5_y => unP fun o0_0_y => unP fun o0_1_y o0_2_y => K (Ex.ret) { env := [(4, AV.ptr 0 0), (5, AV.int IntKind.i64 t5_y)], stk := [[]], H := [AE.Obj.cells [AV.int IntKind.i64 o0_0_y, AV.int IntKind.i64 o0_1_y, AV.int IntKind.i64 o0_2_y]], blk := 106496 }) (fun _ => K (Ex.norm) { env := [(4, AV.ptr 0 0), (6, AV.ptr 1 0)], stk := [[]], H := [AE.Obj.cells [AV.int IntKind.i64 (0), AV.int IntKind.i64 (0), AV.int IntKind.i64 (0)], AE.Obj.cells [AV.int IntKind.i64 o1_0, AV.int IntKind.i64 o1_1, AV.int IntKind.i64 o1_2]], blk := 106496 }))
def noderef10_Newer_n0 {β : Type} : Iref10_Newer_n0 → (Yref10_Newer_n0 → Option β) → Option β := fun (t7, t9, o1_0, o1_1, o1_2, o2_0, o2_1, o2_2) exit => (bindO (nodeDref10_Newer_n1 (t7, t9, o1_0, o1_1, o1_2, o2_0, o2_1, o2_2)) fun t20 => (bif t20 then (exit (Sum.inl ((8 : Int), (0 : Int), (0 : Int), (0 : Int)))) else (bindO (nodeDref10_Newer_n2 (t7, t9, o1_0, o1_1, o1_2, o2_0, o2_1, o2_2)) fun t28 => (bif t28 then (exit (Sum.inl ((0 : Int), o2_0, o2_1, o2_2))) else (exit (Sum.inr ()))))))
def nodeDref10_Newer_n0 (i : Iref10_Newer_n0) : Option Yref10_Newer_n0 := noderef10_Newer_n0 i some
theorem noderef10_Newer_n0_nat (i : Iref10_Newer_n0) (k : Yref10_Newer_n0 → Ans) : noderef10_Newer_n0 i k = bindO (nodeDref10_Newer_n0 i) k := by
  obtain ⟨t7, t9, o1_0, o1_1, o1_2, o2_0, o2_1, o2_2⟩ := i
  simp only [nodeDref10_Newer_n0, noderef10_Newer_n0, bindO_cond, bindO_assoc, bindO_none, bindO_pure, bindO_elim, bindO_unP]
theorem noderef10_Newer_n0_ok (i : Iref10_Newer_n0) (K : Ex → St → Ans) : codeI Try.tab envref10_Newer noHint (codeD Try.tab envref10_Newer noHint 0 64) 70 44 annLref10_Newer_n0 Lref10_Newer_n0 (weakP 0 (exk [4, 6] [4, 5] []) K) (Sref10_Newer_n0 i) = noderef10_Newer_n0 i (outref10_Newer_n0 i K) := by kernel_rfl
theorem GNref10_Newer_n0_ok : CSum Try.prog 44 Lref10_Newer_n0 (sumN decref10_Newer_n0 nodeDref10_Newer_n0 outref10_Newer_n0) := csum_node mixed tabOk envref10_NewerOk 0 (exk [4, 6] [4, 5] []) annLref10_Newer_n0_ok decref10_Newer_n0_ok noderef10_Newer_n0_ok noderef10_Newer_n0_nat
noncomputable def Gref10_Newer_n0 : (Ex → St → Ans) → St → Ans := (sumN decref10_Newer_n0 nodeDref10_Newer_n0 outref10_Newer_n0)
theorem Gref10_Newer_n0_ok : CSum Try.prog 44 Lref10_Newer_n0 Gref10_Newer_n0 := GNref10_Newer_n0_ok
noncomputable def annref10_Newer : Ann := (.seq .none (.seq .none (.seq .none (.seq (.cut 0 [4, 6, 7, 8, 9] Gref10_Newer_n0) .none))))
theorem annref10_Newer_ok : AnnOk Try.prog 44 bref10_Newer annref10_Newer := ⟨(annOk_none _ _ _), ⟨(annOk_none _ _ _), ⟨(annOk_none _ _ _), ⟨Gref10_Newer_n0_ok, (annOk_none _ _ _)⟩⟩⟩⟩
abbrev Aref10_Newer := (List UInt8) × (List UInt8)
abbrev Yref10_Newer := (Int) × (Int) × (Int) × (Int)
def fnref10_Newer {β : Type} : Aref10_Newer → (Yref10_Newer → Option β) → Option β := fun (a0, a1) exit => (bindO (fnDref10_Get (a0)) (unP fun r_0_0 => unP fun r_0_1 => unP fun r_0_2 r_1 => (bindO (fnDref10_Get (a1)) (unP fun r_0_0_2 => unP fun r_0_1_2 => unP fun r_0_2_2 r_1_2 => (bindO (nodeDref10_Newer_n0 (r_1, r_1_2, r_0_0, r_0_1, r_0_2, r_0_0_2, r_0_1_2, r_0_2_2)) (Sum.elim (unP fun t5 => unP fun o0_0 => unP fun o0_1 o0_2 => (exit (o0_0, o0_1, o0_2, t5))) (fun _ => (exit (r_0_0, r_0_1, r_0_2, (0 : Int))))))))))
def fnDref10_Newer (a : Aref10_Newer) : Option Yref10_Newer := fnref10_Newer a some
theorem fnref10_Newer_nat (a : Aref10_Newer) (k : Yref10_Newer → Ans) : fnref10_Newer a k = bindO (fnDref10_Newer a) k := by
  obtain ⟨a0, a1⟩ := a
  simp only [fnDref10_Newer, fnref10_Newer, bindO_cond, bindO_assoc, bindO_none, bindO_pure, bindO_elim, bindO_unP]
def argsref10_Newer : Aref10_Newer → List AV := fun (a0, a1) => [AV.str a0, AV.str a1]
def decAref10_Newer (l : List AV) : Option Aref10_Newer := match l with
  | [AV.str a0, AV.str a1] => some (a0, a1)
  | _ => none
theorem decAref10_Newer_ok (l : List AV) (a : Aref10_Newer) (h : decAref10_Newer l = some a) : l = argsref10_Newer a := by
  unfold decAref10_Newer at h
  split at h
  · cases h; rfl
  · cases h
def rendref10_Newer : Aref10_Newer → Yref10_Newer → AV := fun (a0, a1) => unP fun r_0_0_y => unP fun r_0_1_y => unP fun r_0_2_y r_1_y => AV.tup [AV.agg [AV.int IntKind.i64 r_0_0_y, AV.int IntKind.i64 r_0_1_y, AV.int IntKind.i64 r_0_2_y], AV.int IntKind.i64 r_1_y]
theorem rendref10_Newer_ok : ∀ (a : Aref10_Newer) (y : Yref10_Newer), (rendref10_Newer a y).closed1 = true := by
  rintro ⟨a0, a1⟩ y <;> first | rfl | exact Empty.elim y
theorem fnref10_Newer_ok (a : Aref10_Newer) : fnE Try.tab envref10_Newer noHint 0 70 26 Try.f26.ntmps Try.f26.results.toList annref10_Newer bref10_Newer (argsref10_Newer a) [] (fun v _ => some (v, [])) = fnref10_Newer a (fun y => some (rendref10_Newer a y, [])) := by kernel_rfl
def vFref10_Newer (a : Aref10_Newer) (K : AV → Ans) : Ans := bindO (fnDref10_Newer a) fun y => K (rendref10_Newer a y)
def Fref10_Newer : List AV → (AV → Ans) → Ans := fun l K => bindO (decAref10_Newer l) fun a => vFref10_Newer a K
theorem Fref10_Newer_ok : PureOk Try.prog 26 Fref10_Newer := pure_mkD (hint := noHint) (d := 0) (n := 70) mixed tabOk envref10_NewerOk Try.func26 (bodySome (by kernel_rfl)) (by decide +kernel) annref10_Newer_ok decAref10_Newer_ok fnref10_Newer_ok fnref10_Newer_nat rendref10_Newer_ok
--@ law10_LogheadGets
noncomputable def envlaw10_LogheadGets : Env := [(23, .pure Floghead_Get), (25, .pure Floghead_Newer), (19, .pure Flaw10_works), (21, .pure Flaw10_own), (24, .pure Fref10_Get), (26, .pure Fref10_Newer)]
theorem envlaw10_LogheadGetsOk : EnvOk Try.prog envlaw10_LogheadGets := EnvOk.cons Floghead_Get_ok (EnvOk.cons Floghead_Newer_ok (EnvOk.cons Flaw10_works_ok (EnvOk.cons Flaw10_own_ok (EnvOk.cons Fref10_Get_ok (EnvOk.cons Fref10_Newer_ok (EnvOk.nil))))))
noncomputable def blaw10_LogheadGets : Code := Try.f7.body.getD .skip
noncomputable def Llaw10_LogheadGets_n1 : Code := codeAt [1, 1, 1, 1, 1, 1, 1, 0] blaw10_LogheadGets
noncomputable def annLlaw10_LogheadGets_n1 : Ann := .none
theorem annLlaw10_LogheadGets_n1_ok : AnnOk Try.prog 65 Llaw10_LogheadGets_n1 annLlaw10_LogheadGets_n1 := (annOk_none _ _ _)
abbrev Ilaw10_LogheadGets_n1 := (Int) × (Int) × (Int) × (Int) × (Int) × (Int) × (Int) × (Int) × (Int) × (Int) × (Int) × (Int) × (Int) × (Int) × (Int) × (Int)
abbrev Ylaw10_LogheadGets_n1 := (Bool)
def Slaw10_LogheadGets_n1 : Ilaw10_LogheadGets_n1 → St := fun (t6, t8, t10, t12, o0_0, o0_1, o0_2, o1_0, o1_1, o1_2, o2_0, o2_1, o2_2, o3_0, o3_1, o3_2) => { env := [(5, AV.ptr 0 0), (6, AV.int IntKind.i64 t6), (7, AV.ptr 1 0), (8, AV.int IntKind.i64 t8), (9, AV.ptr 2 0), (10, AV.int IntKind.i64 t10), (11, AV.ptr 3 0), (12, AV.int IntKind.i64 t12)], stk := [[]], H := [AE.Obj.cells [AV.int IntKind.i64 o0_0, AV.int IntKind.i64 o0_1, AV.int IntKind.i64 o0_2], AE.Obj.cells [AV.int IntKind.i64 o1_0, AV.int IntKind.i64 o1_1, AV.int IntKind.i64 o1_2], AE.Obj.cells [AV.int IntKind.i64 o2_0, AV.int IntKind.i64 o2_1, AV.int IntKind.i64 o2_2], AE.Obj.cells [AV.int IntKind.i64 o3_0, AV.int IntKind.i64 o3_1, AV.int IntKind.i64 o3_2]], blk := 28672 }
def declaw10_LogheadGets_n1 (s : St) : Option Ilaw10_LogheadGets_n1 := match s with
  | { env := [(5, AV.ptr 0 0), (6, AV.int IntKind.i64 t6), (7, AV.ptr 1 0), (8, AV.int IntKind.i64 t8), (9, AV.ptr 2 0), (10, AV.int IntKind.i64 t10), (11, AV.ptr 3 0), (12, AV.int IntKind.i64 t12)], stk := [[]], H := [AE.Obj.cells [AV.int IntKind.i64 o0_0, AV.int IntKind.i64 o0_1, AV.int IntKind.i64 o0_2], AE.Obj.cells [AV.int IntKind.i64 o1_0, AV.int IntKind.i64 o1_1, AV.int IntKind.i64 o1_2], AE.Obj.cells [AV.int IntKind.i64 o2_0, AV.int IntKind.i64 o2_1, AV.int IntKind.i64 o2_2], AE.Obj.cells [AV.int IntKind.i64 o3_0, AV.int IntKind.i64 o3_1, AV.int IntKind.i64 o3_2]], blk := 28672 } => some (t6, t8, t10, t12, o0_0, o0_1, o0_2, o1_0, o1_1, o1_2, o2_0, o2_1, o2_2, o3_0, o3_1, o3_2)
  | _ => none
theorem declaw10_LogheadGets_n1_ok (s : St) (x : Ilaw10_LogheadGets_n1) (h : declaw10_LogheadGets_n1 s = some x) : s = Slaw10_LogheadGets_n1 x := by
  unfold declaw10_LogheadGets_n1 at h
  split at h
  · cases h; rfl
  · cases h
def outlaw10_LogheadGets_n1 : Ilaw10_LogheadGets_n1 → (Ex → St → Ans) → Ylaw10_LogheadGets_n1 → Ans := fun (t6, t8, t10, t12, o0_0, o0_1, o0_2, o1_0, o1_1, o1_2, o2_0, o2_1, o2_2, o3_0, o3_1, o3_2) K => fun t4_y => K (Ex.norm) { env := [(4, AV.bool t4_y)], stk := [[]], H := [], blk := 28672 }
def nodelaw10_LogheadGets_n1 {β : Type} : Ilaw10_LogheadGets_n1 → (Ylaw10_LogheadGets_n1 → Option β) → Option β := fun (t6, t8, t10, t12, o0_0, o0_1, o0_2, o1_0, o1_1, o1_2, o2_0, o2_1, o2_2, o3_0, o3_1, o3_2) exit => (bindO (fnDlaw10_own (o1_0, o1_1, o1_2)) fun _ => (bif o0_0 == o1_0 && (o0_1 == o1_1 && (o0_2 == o1_2 && true)) then (bif t6 == t8 then (bindO (fnDlaw10_own (o3_0, o3_1, o3_2)) fun _ => (bif o2_0 == o3_0 && (o2_1 == o3_1 && (o2_2 == o3_2 && true)) then (exit (t10 == t12)) else (exit (false)))) else (exit (false))) else (exit (false))))
def nodeDlaw10_LogheadGets_n1 (i : Ilaw10_LogheadGets_n1) : Option Ylaw10_LogheadGets_n1 := nodelaw10_LogheadGets_n1 i some
theorem nodelaw10_LogheadGets_n1_nat (i : Ilaw10_LogheadGets_n1) (k : Ylaw10_LogheadGets_n1 → Ans) : nodelaw10_LogheadGets_n1 i k = bindO (nodeDlaw10_LogheadGets_n1 i) k := by
  obtain ⟨t6, t8, t10, t12, o0_0, o0_1, o0_2, o1_0, o1_1, o1_2, o2_0, o2_1, o2_2, o3_0, o3_1, o3_2⟩ := i
  simp only [nodeDlaw10_LogheadGets_n1, nodelaw10_LogheadGets_n1, bindO_cond, bindO_assoc, bindO_none, bindO_pure, bindO_elim, bindO_unP]
theorem nodelaw10_LogheadGets_n1_ok (i : Ilaw10_LogheadGets_n1) (K : Ex → St → Ans) : codeI Try.tab envlaw10_LogheadGets noHint (codeD Try.tab envlaw10_LogheadGets noHint 0 64) 70 65 annLlaw10_LogheadGets_n1 Llaw10_LogheadGets_n1 (weakP 0 (exk [4] [4] []) K) (Slaw10_LogheadGets_n1 i) = nodelaw10_LogheadGets_n1 i (outlaw10_LogheadGets_n1 i K) := by kernel_rfl
theorem GNlaw10_LogheadGets_n1_ok : CSum Try.prog 65 Llaw10_LogheadGets_n1 (sumN declaw10_LogheadGets_n1 nodeDlaw10_LogheadGets_n1 outlaw10_LogheadGets_n1) := csum_node mixed tabOk envlaw10_LogheadGetsOk 0 (exk [4] [4] []) annLlaw10_LogheadGets_n1_ok declaw10_LogheadGets_n1_ok nodelaw10_LogheadGets_n1_ok nodelaw10_LogheadGets_n1_nat
noncomputable def Glaw10_LogheadGets_n1 : (Ex → St → Ans) → St → Ans := (sumN declaw10_LogheadGets_n1 nodeDlaw10_LogheadGets_n1 outlaw10_LogheadGets_n1)
theorem Glaw10_LogheadGets_n1_ok : CSum Try.prog 65 Llaw10_LogheadGets_n1 Glaw10_LogheadGets_n1 := GNlaw10_LogheadGets_n1_ok
noncomputable def Llaw10_LogheadGets_n0 : Code := codeAt [1, 1, 0, 0] blaw10_LogheadGets
noncomputable def annLlaw10_LogheadGets_n0 : Ann := .none
theorem annLlaw10_LogheadGets_n0_ok : AnnOk Try.prog 65 Llaw10_LogheadGets_n0 annLlaw10_LogheadGets_n0 := (annOk_none _ _ _)
abbrev Ilaw10_LogheadGets_n0 := (List UInt8) × (List UInt8)
abbrev Ylaw10_LogheadGets_n0 := (Bool)
def Slaw10_LogheadGets_n0 : Ilaw10_LogheadGets_n0 → St := fun (t0, t1) => { env := [(0, AV.str t0), (1, AV.str t1)], stk := [[]], H := [], blk := 28672 }
def declaw10_LogheadGets_n0 (s : St) : Option Ilaw10_LogheadGets_n0 := match s with
  | { env := [(0, AV.str t0), (1, AV.str t1)], stk := [[]], H := [], blk := 28672 } => some (t0, t1)
  | _ => none
theorem declaw10_LogheadGets_n0_ok (s : St) (x : Ilaw10_LogheadGets_n0) (h : declaw10_LogheadGets_n0 s = some x) : s = Slaw10_LogheadGets_n0 x := by
  unfold declaw10_LogheadGets_n0 at h
  split at h
  · cases h; rfl
  · cases h
def outlaw10_LogheadGets_n0 : Ilaw10_LogheadGets_n0 → (Ex → St → Ans) → Ylaw10_LogheadGets_n0 → Ans := fun (t0, t1) K => fun t22_y => K (Ex.norm) { env := [(0, AV.str t0), (1, AV.str t1), (22, AV.bool t22_y)], stk := [[]], H := [], blk := 28672 }
def nodelaw10_LogheadGets_n0 {β : Type} : Ilaw10_LogheadGets_n0 → (Ylaw10_LogheadGets_n0 → Option β) → Option β := fun (t0, t1) exit => (bif decide ((↑(List.length t0) : Int) > (3000 : Int)) then (exit (true)) else (exit (decide ((↑(List.length t1) : Int) > (3000 : Int)))))
def nodeDlaw10_LogheadGets_n0 (i : Ilaw10_LogheadGets_n0) : Option Ylaw10_LogheadGets_n0 := nodelaw10_LogheadGets_n0 i some
theorem nodelaw10_LogheadGets_n0_nat (i : Ilaw10_LogheadGets_n0) (k : Ylaw10_LogheadGets_n0 → Ans) : nodelaw10_LogheadGets_n0 i k = bindO (nodeDlaw10_LogheadGets_n0 i) k := by
  obtain ⟨t0, t1⟩ := i
  simp only [nodeDlaw10_LogheadGets_n0, nodelaw10_LogheadGets_n0, bindO_cond, bindO_assoc, bindO_none, bindO_pure, bindO_elim, bindO_unP]
theorem nodelaw10_LogheadGets_n0_ok (i : Ilaw10_LogheadGets_n0) (K : Ex → St → Ans) : codeI Try.tab envlaw10_LogheadGets noHint (codeD Try.tab envlaw10_LogheadGets noHint 0 64) 70 65 annLlaw10_LogheadGets_n0 Llaw10_LogheadGets_n0 (weakP 0 (exk [0, 1, 22] [4] []) K) (Slaw10_LogheadGets_n0 i) = nodelaw10_LogheadGets_n0 i (outlaw10_LogheadGets_n0 i K) := by kernel_rfl
theorem GNlaw10_LogheadGets_n0_ok : CSum Try.prog 65 Llaw10_LogheadGets_n0 (sumN declaw10_LogheadGets_n0 nodeDlaw10_LogheadGets_n0 outlaw10_LogheadGets_n0) := csum_node mixed tabOk envlaw10_LogheadGetsOk 0 (exk [0, 1, 22] [4] []) annLlaw10_LogheadGets_n0_ok declaw10_LogheadGets_n0_ok nodelaw10_LogheadGets_n0_ok nodelaw10_LogheadGets_n0_nat
noncomputable def Glaw10_LogheadGets_n0 : (Ex → St → Ans) → St → Ans := (sumN declaw10_LogheadGets_n0 nodeDlaw10_LogheadGets_n0 outlaw10_LogheadGets_n0)
theorem Glaw10_LogheadGets_n0_ok : CSum Try.prog 65 Llaw10_LogheadGets_n0 Glaw10_LogheadGets_n0 := GNlaw10_LogheadGets_n0_ok
noncomputable def annlaw10_LogheadGets : Ann := (.seq .none (.seq .none (.seq (.seq (.cut 0 [0, 1] Glaw10_LogheadGets_n0) .none) (.seq .none (.seq .none (.seq .none (.seq .none (.seq (.cut 0 [5, 6, 7, 8, 9, 10, 11, 12] Glaw10_LogheadGets_n1) .none))))))))
theorem annlaw10_LogheadGets_ok : AnnOk Try.prog 65 blaw10_LogheadGets annlaw10_LogheadGets := ⟨(annOk_none _ _ _), ⟨(annOk_none _ _ _), ⟨⟨Glaw10_LogheadGets_n0_ok, (annOk_none _ _ _)⟩, ⟨(annOk_none _ _ _), ⟨(annOk_none _ _ _), ⟨(annOk_none _ _ _), ⟨(annOk_none _ _ _), ⟨Glaw10_LogheadGets_n1_ok, (annOk_none _ _ _)⟩⟩⟩⟩⟩⟩⟩⟩
abbrev Alaw10_LogheadGets := (List UInt8) × (List UInt8)
abbrev Ylaw10_LogheadGets := (Bool)
def fnlaw10_LogheadGets {β : Type} : Alaw10_LogheadGets → (Ylaw10_LogheadGets → Option β) → Option β := fun (a0, a1) exit => (bindO (fnDlaw10_works ()) fun r => (bif !r then (exit (false)) else (bindO (nodeDlaw10_LogheadGets_n0 (a0, a1)) fun t22 => (bif t22 then (exit (true)) else (bindO (fnDloghead_Get (a0)) (unP fun r_0_0 => unP fun r_0_1 => unP fun r_0_2 r_1 => (bindO (fnDref10_Get (a0)) (unP fun r_0_0_2 => unP fun r_0_1_2 => unP fun r_0_2_2 r_1_2 => (bindO (fnDloghead_Newer (a0, a1)) (unP fun r_0_0_3 => unP fun r_0_1_3 => unP fun r_0_2_3 r_1_3 => (bindO (fnDref10_Newer (a0, a1)) (unP fun r_0_0_4 => unP fun r_0_1_4 => unP fun r_0_2_4 r_1_4 => (bindO (nodeDlaw10_LogheadGets_n1 (r_1, r_1_2, r_1_3, r_1_4, r_0_0, r_0_1, r_0_2, r_0_0_2, r_0_1_2, r_0_2_2, r_0_0_3, r_0_1_3, r_0_2_3, r_0_0_4, r_0_1_4, r_0_2_4)) fun t4 => (exit (t4)))))))))))))))
def fnDlaw10_LogheadGets (a : Alaw10_LogheadGets) : Option Ylaw10_LogheadGets := fnlaw10_LogheadGets a some
theorem fnlaw10_LogheadGets_nat (a : Alaw10_LogheadGets) (k : Ylaw10_LogheadGets → Ans) : fnlaw10_LogheadGets a k = bindO (fnDlaw10_LogheadGets a) k := by
  obtain ⟨a0, a1⟩ := a
  simp only [fnDlaw10_LogheadGets, fnlaw10_LogheadGets, bindO_cond, bindO_assoc, bindO_none, bindO_pure, bindO_elim, bindO_unP]
def argslaw10_LogheadGets : Alaw10_LogheadGets → List AV × List AE.Obj := fun (a0, a1) => ([AV.str a0, AV.str a1], [])
def decAlaw10_LogheadGets (l : List AV) (H : List AE.Obj) : Option Alaw10_LogheadGets := match l, H with
  | [AV.str a0, AV.str a1], [] => some (a0, a1)
  | _, _ => none
theorem decAlaw10_LogheadGets_ok (l : List AV) (H : List AE.Obj) (a : Alaw10_LogheadGets) (h : decAlaw10_LogheadGets l H = some a) : (l, H) = argslaw10_LogheadGets a := by
  unfold decAlaw10_LogheadGets at h
  split at h
  · cases h; rfl
  · cases h
def outlaw10_LogheadGets : Alaw10_LogheadGets → (AV → List AE.Obj → Ans) → Ylaw10_LogheadGets → Ans := fun (a0, a1) K => fun r_y => K (AV.bool r_y) []
theorem fnlaw10_LogheadGets_ok (a : Alaw10_LogheadGets) (K : AV → List AE.Obj → Ans) : fnE Try.tab envlaw10_LogheadGets noHint 0 70 7 Try.f7.ntmps Try.f7.results.toList annlaw10_LogheadGets blaw10_LogheadGets (argslaw10_LogheadGets a).1 (argslaw10_LogheadGets a).2 K = fnlaw10_LogheadGets a (outlaw10_LogheadGets a K) := by kernel_rfl
def vFlaw10_LogheadGets (a : Alaw10_LogheadGets) (K : AV → List AE.Obj → Ans) : Ans := bindO (fnDlaw10_LogheadGets a) fun y => outlaw10_LogheadGets a K y
def Flaw10_LogheadGets : List AV → List AE.Obj → (AV → List AE.Obj → Ans) → Ans := fun l H K => bindO (decAlaw10_LogheadGets l H) fun a => vFlaw10_LogheadGets a K
theorem Flaw10_LogheadGets_ok : FuncOk Try.prog 7 Flaw10_LogheadGets := func_mkD (hint := noHint) (d := 0) (n := 70) mixed tabOk envlaw10_LogheadGetsOk Try.func7 (bodySome (by kernel_rfl)) (by decide +kernel) annlaw10_LogheadGets_ok decAlaw10_LogheadGets_ok fnlaw10_LogheadGets_ok fnlaw10_LogheadGets_nat
--@ law10_LogheadBack
noncomputable def envlaw10_LogheadBack : Env := [(20, .pure Floghead_Put), (23, .pure Floghead_Get), (25, .pure Floghead_Newer), (19, .pure Flaw10_works), (21, .pure Flaw10_own)]
theorem envlaw10_LogheadBackOk : EnvOk Try.prog envlaw10_LogheadBack := EnvOk.cons Floghead_Put_ok (EnvOk.cons Floghead_Get_ok (EnvOk.cons Floghead_Newer_ok (EnvOk.cons Flaw10_works_ok (EnvOk.cons Flaw10_own_ok (EnvOk.nil)))))
noncomputable def blaw10_LogheadBack : Code := Try.f8.body.getD .skip
noncomputable def Llaw10_LogheadBack_n6 : Code := codeAt [1, 1, 1, 1, 1, 1, 1, 1, 1, 1, 1, 1, 0] blaw10_LogheadBack
noncomputable def annLlaw10_LogheadBack_n6 : Ann := .none
theorem annLlaw10_LogheadBack_n6_ok : AnnOk Try.prog 136 Llaw10_LogheadBack_n6 annLlaw10_LogheadBack_n6 := (annOk_none _ _ _)
abbrev Ilaw10_LogheadBack_n6 := (Int) × (Int) × (Int) × (Int) × (Int) × (Int) × (Int)
abbrev Ylaw10_LogheadBack_n6 := (Bool)
def Slaw10_LogheadBack_n6 : Ilaw10_LogheadBack_n6 → St := fun (t19, o0_0, o0_1, o0_2, o1_0, o1_1, o1_2) => { env := [(5, AV.ptr 0 0), (19, AV.int IntKind.i64 t19), (20, AV.ptr 1 0)], stk := [[]], H := [AE.Obj.cells [AV.int IntKind.i64 o0_0, AV.int IntKind.i64 o0_1, AV.int IntKind.i64 o0_2], AE.Obj.cells [AV.int IntKind.i64 o1_0, AV.int IntKind.i64 o1_1, AV.int IntKind.i64 o1_2]], blk := 32768 }
def declaw10_LogheadBack_n6 (s : St) : Option Ilaw10_LogheadBack_n6 := match s with
  | { env := [(5, AV.ptr 0 0), (19, AV.int IntKind.i64 t19), (20, AV.ptr 1 0)], stk := [[]], H := [AE.Obj.cells [AV.int IntKind.i64 o0_0, AV.int IntKind.i64 o0_1, AV.int IntKind.i64 o0_2], AE.Obj.cells [AV.int IntKind.i64 o1_0, AV.int IntKind.i64 o1_1, AV.int IntKind.i64 o1_2]], blk := 32768 } => some (t19, o0_0, o0_1, o0_2, o1_0, o1_1, o1_2)
  | _ => none
theorem declaw10_LogheadBack_n6_ok (s : St) (x : Ilaw10_LogheadBack_n6) (h : declaw10_LogheadBack_n6 s = some x) : s = Slaw10_LogheadBack_n6 x := by
  unfold declaw10_LogheadBack_n6 at h
  split at h
  · cases h; rfl
  · cases h
def outlaw10_LogheadBack_n6 : Ilaw10_LogheadBack_n6 → (Ex → St → Ans) → Ylaw10_LogheadBack_n6 → Ans := fun (t19, o0_0, o0_1, o0_2, o1_0, o1_1, o1_2) K => fun t8_y => K (Ex.norm) { env := [(8, AV.bool t8_y)], stk := [[]], H := [], blk := 32768 }
def nodelaw10_LogheadBack_n6 {β : Type} : Ilaw10_LogheadBack_n6 → (Ylaw10_LogheadBack_n6 → Option β) → Option β := fun (t19, o0_0, o0_1, o0_2, o1_0, o1_1, o1_2) exit => (bif t19 == (0 : Int) then (exit (true)) else (bindO (fnDlaw10_own (o0_0, o0_1, o0_2)) fun _ => (exit (o1_0 == o0_0 && (o1_1 == o0_1 && (o1_2 == o0_2 && true))))))
def nodeDlaw10_LogheadBack_n6 (i : Ilaw10_LogheadBack_n6) : Option Ylaw10_LogheadBack_n6 := nodelaw10_LogheadBack_n6 i some
theorem nodelaw10_LogheadBack_n6_nat (i : Ilaw10_LogheadBack_n6) (k : Ylaw10_LogheadBack_n6 → Ans) : nodelaw10_LogheadBack_n6 i k = bindO (nodeDlaw10_LogheadBack_n6 i) k := by
  obtain ⟨t19, o0_0, o0_1, o0_2, o1_0, o1_1, o1_2⟩ := i
  simp only [nodeDlaw10_LogheadBack_n6, nodelaw10_LogheadBack_n6, bindO_cond, bindO_assoc, bindO_none, bindO_pure, bindO_elim, bindO_unP]
theorem nodelaw10_LogheadBack_n6_ok (i : Ilaw10_LogheadBack_n6) (K : Ex → St → Ans) : codeI Try.tab envlaw10_LogheadBack noHint (codeD Try.tab envlaw10_LogheadBack noHint 0 64) 70 136 annLlaw10_LogheadBack_n6 Llaw10_LogheadBack_n6 (weakP 0 (exk [8] [8] []) K) (Slaw10_LogheadBack_n6 i) = nodelaw10_LogheadBack_n6 i (outlaw10_LogheadBack_n6 i K) := by kernel_rfl
theorem GNlaw10_LogheadBack_n6_ok : CSum Try.prog 136 Llaw10_LogheadBack_n6 (sumN declaw10_LogheadBack_n6 nodeDlaw10_LogheadBack_n6 outlaw10_LogheadBack_n6) := csum_node mixed tabOk envlaw10_LogheadBackOk 0 (exk [8] [8] []) annLlaw10_LogheadBack_n6_ok declaw10_LogheadBack_n6_ok nodelaw10_LogheadBack_n6_ok nodelaw10_LogheadBack_n6_nat
noncomputable def Glaw10_LogheadBack_n6 : (Ex → St → Ans) → St → Ans := (sumN declaw10_LogheadBack_n6 nodeDlaw10_LogheadBack_n6 outlaw10_LogheadBack_n6)
theorem Glaw10_LogheadBack_n6_ok : CSum Try.prog 136 Llaw10_LogheadBack_n6 Glaw10_LogheadBack_n6 := GNlaw10_LogheadBack_n6_ok
noncomputable def Llaw10_LogheadBack_n5 : Code := codeAt [1, 1, 1, 1, 1, 1, 1, 1, 1, 1, 1, 0, 0] blaw10_LogheadBack
noncomputable def annLlaw10_LogheadBack_n5 : Ann := .none
theorem annLlaw10_LogheadBack_n5_ok : AnnOk Try.prog 136 Llaw10_LogheadBack_n5 annLlaw10_LogheadBack_n5 := (annOk_none _ _ _)
abbrev Ilaw10_LogheadBack_n5 := (List UInt8) × (Int) × (Int) × (Int) × (Int) × (Int) × (Int) × (Int) × (Int) × (Int) × (List Int) × (Int) × (Int) × (Int) × (Int) × (Int) × (Int)
abbrev Ylaw10_LogheadBack_n5 := (Bool)
def Slaw10_LogheadBack_n5 : Ilaw10_LogheadBack_n5 → St := fun (t9, t17, t19, t21, o0_0, o0_1, o0_2, o1_0, o1_1, o1_2, o2, o3_0, o3_1, o3_2, o4_0, o4_1, o4_2) => { env := [(4, AV.ptr 0 0), (5, AV.ptr 1 0), (9, AV.str t9), (13, AV.own 2), (16, AV.ptr 3 0), (17, AV.int IntKind.i64 t17), (19, AV.int IntKind.i64 t19), (20, AV.ptr 4 0), (21, AV.int IntKind.i64 t21)], stk := [[]], H := [AE.Obj.cells [AV.int IntKind.i64 o0_0, AV.int IntKind.i64 o0_1, AV.int IntKind.i64 o0_2], AE.Obj.cells [AV.int IntKind.i64 o1_0, AV.int IntKind.i64 o1_1, AV.int IntKind.i64 o1_2], Obj.arr (Ty.int IntKind.u8) o2, AE.Obj.cells [AV.int IntKind.i64 o3_0, AV.int IntKind.i64 o3_1, AV.int IntKind.i64 o3_2], AE.Obj.cells [AV.int IntKind.i64 o4_0, AV.int IntKind.i64 o4_1, AV.int IntKind.i64 o4_2]], blk := 32768 }
def declaw10_LogheadBack_n5 (s : St) : Option Ilaw10_LogheadBack_n5 := match s with
  | { env := [(4, AV.ptr 0 0), (5, AV.ptr 1 0), (9, AV.str t9), (13, AV.own 2), (16, AV.ptr 3 0), (17, AV.int IntKind.i64 t17), (19, AV.int IntKind.i64 t19), (20, AV.ptr 4 0), (21, AV.int IntKind.i64 t21)], stk := [[]], H := [AE.Obj.cells [AV.int IntKind.i64 o0_0, AV.int IntKind.i64 o0_1, AV.int IntKind.i64 o0_2], AE.Obj.cells [AV.int IntKind.i64 o1_0, AV.int IntKind.i64 o1_1, AV.int IntKind.i64 o1_2], Obj.arr (Ty.int IntKind.u8) o2, AE.Obj.cells [AV.int IntKind.i64 o3_0, AV.int IntKind.i64 o3_1, AV.int IntKind.i64 o3_2], AE.Obj.cells [AV.int IntKind.i64 o4_0, AV.int IntKind.i64 o4_1, AV.int IntKind.i64 o4_2]], blk := 32768 } => some (t9, t17, t19, t21, o0_0, o0_1, o0_2, o1_0, o1_1, o1_2, o2, o3_0, o3_1, o3_2, o4_0, o4_1, o4_2)
  | _ => none
theorem declaw10_LogheadBack_n5_ok (s : St) (x : Ilaw10_LogheadBack_n5) (h : declaw10_LogheadBack_n5 s = some x) : s = Slaw10_LogheadBack_n5 x := by
  unfold declaw10_LogheadBack_n5 at h
  split at h
  · cases h; rfl
  · cases h
def outlaw10_LogheadBack_n5 : Ilaw10_LogheadBack_n5 → (Ex → St → Ans) → Ylaw10_LogheadBack_n5 → Ans := fun (t9, t17, t19, t21, o0_0, o0_1, o0_2, o1_0, o1_1, o1_2, o2, o3_0, o3_1, o3_2, o4_0, o4_1, o4_2) K => fun t127_y => K (Ex.norm) { env := [(5, AV.ptr 0 0), (19, AV.int IntKind.i64 t19), (20, AV.ptr 1 0), (127, AV.bool t127_y)], stk := [[]], H := [AE.Obj.cells [AV.int IntKind.i64 o1_0, AV.int IntKind.i64 o1_1, AV.int IntKind.i64 o1_2], AE.Obj.cells [AV.int IntKind.i64 o4_0, AV.int IntKind.i64 o4_1, AV.int IntKind.i64 o4_2]], blk := 32768 }
def nodelaw10_LogheadBack_n5 {β : Type} : Ilaw10_LogheadBack_n5 → (Ylaw10_LogheadBack_n5 → Option β) → Option β := fun (t9, t17, t19, t21, o0_0, o0_1, o0_2, o1_0, o1_1, o1_2, o2, o3_0, o3_1, o3_2, o4_0, o4_1, o4_2) exit => (bindO (fnDlaw10_own (o0_0, o0_1, o0_2)) fun _ => (bif !(o3_0 == o0_0 && (o3_1 == o0_1 && (o3_2 == o0_2 && true))) then (exit (true)) else (bif t17 != (0 : Int) then (exit (true)) else (bif t21 != (0 : Int) then (exit (true)) else (exit (!(t19 == (0 : Int)) == (bytesOf o2 == t9)))))))
def nodeDlaw10_LogheadBack_n5 (i : Ilaw10_LogheadBack_n5) : Option Ylaw10_LogheadBack_n5 := nodelaw10_LogheadBack_n5 i some
theorem nodelaw10_LogheadBack_n5_nat (i : Ilaw10_LogheadBack_n5) (k : Ylaw10_LogheadBack_n5 → Ans) : nodelaw10_LogheadBack_n5 i k = bindO (nodeDlaw10_LogheadBack_n5 i) k := by
  obtain ⟨t9, t17, t19, t21, o0_0, o0_1, o0_2, o1_0, o1_1, o1_2, o2, o3_0, o3_1, o3_2, o4_0, o4_1, o4_2⟩ := i
  simp only [nodeDlaw10_LogheadBack_n5, nodelaw10_LogheadBack_n5, bindO_cond, bindO_assoc, bindO_none, bindO_pure, bindO_elim, bindO_unP]
theorem nodelaw10_LogheadBack_n5_ok (i : Ilaw10_LogheadBack_n5) (K : Ex → St → Ans) : codeI Try.tab envlaw10_LogheadBack noHint (codeD Try.tab envlaw10_LogheadBack noHint 0 64) 70 136 annLlaw10_LogheadBack_n5 Llaw10_LogheadBack_n5 (weakP 0 (exk [5, 19, 20, 127] [8] []) K) (Slaw10_LogheadBack_n5 i) = nodelaw10_LogheadBack_n5 i (outlaw10_LogheadBack_n5 i K) := by kernel_rfl
theorem GNlaw10_LogheadBack_n5_ok : CSum Try.prog 136 Llaw10_LogheadBack_n5 (sumN declaw10_LogheadBack_n5 nodeDlaw10_LogheadBack_n5 outlaw10_LogheadBack_n5) := csum_node mixed tabOk envlaw10_LogheadBackOk 0 (exk [5, 19, 20, 127] [8] []) annLlaw10_LogheadBack_n5_ok declaw10_LogheadBack_n5_ok nodelaw10_LogheadBack_n5_ok nodelaw10_LogheadBack_n5_nat
noncomputable def Glaw10_LogheadBack_n5 : (Ex → St → Ans) → St → Ans := (sumN declaw10_LogheadBack_n5 nodeDlaw10_LogheadBack_n5 outlaw10_LogheadBack_n5)
theorem Glaw10_LogheadBack_n5_ok : CSum Try.prog 136 Llaw10_LogheadBack_n5 Glaw10_LogheadBack_n5 := GNlaw10_LogheadBack_n5_ok
noncomputable def Llaw10_LogheadBack_n4 : Code := codeAt [1, 1, 1, 1, 1, 1, 1, 0, 1, 0, 0, 0, 0] blaw10_LogheadBack
noncomputable def annLlaw10_LogheadBack_n4 : Ann := .none
theorem annLlaw10_LogheadBack_n4_ok : AnnOk Try.prog 136 Llaw10_LogheadBack_n4 annLlaw10_LogheadBack_n4 := (annOk_none _ _ _)
abbrev Ilaw10_LogheadBack_n4 := (List UInt8) × (List UInt8) × (Int) × (Int) × (Int) × (Int) × (Int) × (Int) × (Int) × (Int) × (Int) × (Int) × (Int) × (List Int)
abbrev Ylaw10_LogheadBack_n4 := (Bool)
def Slaw10_LogheadBack_n4 : Ilaw10_LogheadBack_n4 → St := fun (t9, t11, t14, o0_0, o0_1, o0_2, o1_0, o1_1, o1_2, o2_0, o2_1, o2_2, o2_3, o3) => { env := [(4, AV.ptr 0 0), (5, AV.ptr 1 0), (7, AV.ptr 2 0), (9, AV.str t9), (11, AV.str t11), (13, AV.own 3), (14, AV.int IntKind.i64 t14), (15, AV.int IntKind.i64 (0))], stk := [[]], H := [AE.Obj.cells [AV.int IntKind.i64 o0_0, AV.int IntKind.i64 o0_1, AV.int IntKind.i64 o0_2], AE.Obj.cells [AV.int IntKind.i64 o1_0, AV.int IntKind.i64 o1_1, AV.int IntKind.i64 o1_2], AE.Obj.cells [AV.int IntKind.u8 o2_0, AV.int IntKind.u8 o2_1, AV.int IntKind.u8 o2_2, AV.int IntKind.u8 o2_3], Obj.arr (Ty.int IntKind.u8) o3], blk := 32768 }
def declaw10_LogheadBack_n4 (s : St) : Option Ilaw10_LogheadBack_n4 := match s with
  | { env := [(4, AV.ptr 0 0), (5, AV.ptr 1 0), (7, AV.ptr 2 0), (9, AV.str t9), (11, AV.str t11), (13, AV.own 3), (14, AV.int IntKind.i64 t14), (15, AV.int IntKind.i64 r3)], stk := [[]], H := [AE.Obj.cells [AV.int IntKind.i64 o0_0, AV.int IntKind.i64 o0_1, AV.int IntKind.i64 o0_2], AE.Obj.cells [AV.int IntKind.i64 o1_0, AV.int IntKind.i64 o1_1, AV.int IntKind.i64 o1_2], AE.Obj.cells [AV.int IntKind.u8 o2_0, AV.int IntKind.u8 o2_1, AV.int IntKind.u8 o2_2, AV.int IntKind.u8 o2_3], Obj.arr (Ty.int IntKind.u8) o3], blk := 32768 } => cond (decide (r3 = 0)) (some (t9, t11, t14, o0_0, o0_1, o0_2, o1_0, o1_1, o1_2, o2_0, o2_1, o2_2, o2_3, o3)) none
  | _ => none
theorem declaw10_LogheadBack_n4_ok (s : St) (x : Ilaw10_LogheadBack_n4) (h : declaw10_LogheadBack_n4 s = some x) : s = Slaw10_LogheadBack_n4 x := by
  unfold declaw10_LogheadBack_n4 at h
  split at h
  · replace h := cond_noneO h; obtain ⟨hg, h⟩ := h; simp only [Bool.and_eq_true, decide_eq_true_eq] at hg; simp only [hg]; cases h; rfl
  · cases h
def outlaw10_LogheadBack_n4 : Ilaw10_LogheadBack_n4 → (Ex → St → Ans) → Ylaw10_LogheadBack_n4 → Ans := fun (t9, t11, t14, o0_0, o0_1, o0_2, o1_0, o1_1, o1_2, o2_0, o2_1, o2_2, o2_3, o3) K => fun t71_y => K (Ex.norm) { env := [(4, AV.ptr 0 0), (5, AV.ptr 1 0), (7, AV.ptr 2 0), (9, AV.str t9), (11, AV.str t11), (13, AV.own 3), (14, AV.int IntKind.i64 t14), (15, AV.int IntKind.i64 (0)), (71, AV.bool t71_y)], stk := [[]], H := [AE.Obj.cells [AV.int IntKind.i64 o0_0, AV.int IntKind.i64 o0_1, AV.int IntKind.i64 o0_2], AE.Obj.cells [AV.int IntKind.i64 o1_0, AV.int IntKind.i64 o1_1, AV.int IntKind.i64 o1_2], AE.Obj.cells [AV.int IntKind.u8 o2_0, AV.int IntKind.u8 o2_1, AV.int IntKind.u8 o2_2, AV.int IntKind.u8 o2_3], Obj.arr (Ty.int IntKind.u8) o3], blk := 32768 }
def nodelaw10_LogheadBack_n4 {β : Type} : Ilaw10_LogheadBack_n4 → (Ylaw10_LogheadBack_n4 → Option β) → Option β := fun (t9, t11, t14, o0_0, o0_1, o0_2, o1_0, o1_1, o1_2, o2_0, o2_1, o2_2, o2_3, o3) exit => (exit (decide (IntKind.wrap IntKind.i64 (t14 + (0 : Int)) < (↑(List.length o3) : Int))))
def nodeDlaw10_LogheadBack_n4 (i : Ilaw10_LogheadBack_n4) : Option Ylaw10_LogheadBack_n4 := nodelaw10_LogheadBack_n4 i some
theorem nodelaw10_LogheadBack_n4_nat (i : Ilaw10_LogheadBack_n4) (k : Ylaw10_LogheadBack_n4 → Ans) : nodelaw10_LogheadBack_n4 i k = bindO (nodeDlaw10_LogheadBack_n4 i) k := by
  obtain ⟨t9, t11, t14, o0_0, o0_1, o0_2, o1_0, o1_1, o1_2, o2_0, o2_1, o2_2, o2_3, o3⟩ := i
  simp only [nodeDlaw10_LogheadBack_n4, nodelaw10_LogheadBack_n4, bindO_cond, bindO_assoc, bindO_none, bindO_pure, bindO_elim, bindO_unP]
theorem nodelaw10_LogheadBack_n4_ok (i : Ilaw10_LogheadBack_n4) (K : Ex → St → Ans) : codeI Try.tab envlaw10_LogheadBack noHint (codeD Try.tab envlaw10_LogheadBack noHint 0 64) 70 136 annLlaw10_LogheadBack_n4 Llaw10_LogheadBack_n4 (weakP 0 (exk [4, 5, 7, 9, 11, 13, 14, 15, 71] [8] []) K) (Slaw10_LogheadBack_n4 i) = nodelaw10_LogheadBack_n4 i (outlaw10_LogheadBack_n4 i K) := by kernel_rfl
theorem GNlaw10_LogheadBack_n4_ok : CSum Try.prog 136 Llaw10_LogheadBack_n4 (sumN declaw10_LogheadBack_n4 nodeDlaw10_LogheadBack_n4 outlaw10_LogheadBack_n4) := csum_node mixed tabOk envlaw10_LogheadBackOk 0 (exk [4, 5, 7, 9, 11, 13, 14, 15, 71] [8] []) annLlaw10_LogheadBack_n4_ok declaw10_LogheadBack_n4_ok nodelaw10_LogheadBack_n4_ok nodelaw10_LogheadBack_n4_nat
abbrev Ilaw10_LogheadBack_n4v1 := (List UInt8) × (List UInt8) × (Int) × (Int) × (Int) × (Int) × (Int) × (Int) × (Int) × (Int) × (Int) × (Int) × (Int) × (List Int)
abbrev Ylaw10_LogheadBack_n4v1 := (Bool)
def Slaw10_LogheadBack_n4v1 : Ilaw10_LogheadBack_n4v1 → St := fun (t9, t11, t14, o0_0, o0_1, o0_2, o1_0, o1_1, o1_2, o2_0, o2_1, o2_2, o2_3, o3) => { env := [(4, AV.ptr 0 0), (5, AV.ptr 1 0), (7, AV.ptr 2 0), (9, AV.str t9), (11, AV.str t11), (13, AV.own 3), (14, AV.int IntKind.i64 t14), (15, AV.int IntKind.i64 (1))], stk := [[]], H := [AE.Obj.cells [AV.int IntKind.i64 o0_0, AV.int IntKind.i64 o0_1, AV.int IntKind.i64 o0_2], AE.Obj.cells [AV.int IntKind.i64 o1_0, AV.int IntKind.i64 o1_1, AV.int IntKind.i64 o1_2], AE.Obj.cells [AV.int IntKind.u8 o2_0, AV.int IntKind.u8 o2_1, AV.int IntKind.u8 o2_2, AV.int IntKind.u8 o2_3], Obj.arr (Ty.int IntKind.u8) o3], blk := 32768 }
def declaw10_LogheadBack_n4v1 (s : St) : Option Ilaw10_LogheadBack_n4v1 := match s with
  | { env := [(4, AV.ptr 0 0), (5, AV.ptr 1 0), (7, AV.ptr 2 0), (9, AV.str t9), (11, AV.str t11), (13, AV.own 3), (14, AV.int IntKind.i64 t14), (15, AV.int IntKind.i64 r3)], stk := [[]], H := [AE.Obj.cells [AV.int IntKind.i64 o0_0, AV.int IntKind.i64 o0_1, AV.int IntKind.i64 o0_2], AE.Obj.cells [AV.int IntKind.i64 o1_0, AV.int IntKind.i64 o1_1, AV.int IntKind.i64 o1_2], AE.Obj.cells [AV.int IntKind.u8 o2_0, AV.int IntKind.u8 o2_1, AV.int IntKind.u8 o2_2, AV.int IntKind.u8 o2_3], Obj.arr (Ty.int IntKind.u8) o3], blk := 32768 } => cond (decide (r3 = 1)) (some (t9, t11, t14, o0_0, o0_1, o0_2, o1_0, o1_1, o1_2, o2_0, o2_1, o2_2, o2_3, o3)) none
  | _ => none
theorem declaw10_LogheadBack_n4v1_ok (s : St) (x : Ilaw10_LogheadBack_n4v1) (h : declaw10_LogheadBack_n4v1 s = some x) : s = Slaw10_LogheadBack_n4v1 x := by
  unfold declaw10_LogheadBack_n4v1 at h
  split at h
  · replace h := cond_noneO h; obtain ⟨hg, h⟩ := h; simp only [Bool.and_eq_true, decide_eq_true_eq] at hg; simp only [hg]; cases h; rfl
  · cases h
def outlaw10_LogheadBack_n4v1 : Ilaw10_LogheadBack_n4v1 → (Ex → St → Ans) → Ylaw10_LogheadBack_n4v1 → Ans := fun (t9, t11, t14, o0_0, o0_1, o0_2, o1_0, o1_1, o1_2, o2_0, o2_1, o2_2, o2_3, o3) K => fun t71_y => K (Ex.norm) { env := [(4, AV.ptr 0 0), (5, AV.ptr 1 0), (7, AV.ptr 2 0), (9, AV.str t9), (11, AV.str t11), (13, AV.own 3), (14, AV.int IntKind.i64 t14), (15, AV.int IntKind.i64 (1)), (71, AV.bool t71_y)], stk := [[]], H := [AE.Obj.cells [AV.int IntKind.i64 o0_0, AV.int IntKind.i64 o0_1, AV.int IntKind.i64 o0_2], AE.Obj.cells [AV.int IntKind.i64 o1_0, AV.int IntKind.i64 o1_1, AV.int IntKind.i64 o1_2], AE.Obj.cells [AV.int IntKind.u8 o2_0, AV.int IntKind.u8 o2_1, AV.int IntKind.u8 o2_2, AV.int IntKind.u8 o2_3], Obj.arr (Ty.int IntKind.u8) o3], blk := 32768 }
def nodelaw10_LogheadBack_n4v1 {β : Type} : Ilaw10_LogheadBack_n4v1 → (Ylaw10_LogheadBack_n4v1 → Option β) → Option β := fun (t9, t11, t14, o0_0, o0_1, o0_2, o1_0, o1_1, o1_2, o2_0, o2_1, o2_2, o2_3, o3) exit => (exit (decide (IntKind.wrap IntKind.i64 (t14 + (1 : Int)) < (↑(List.length o3) : Int))))
def nodeDlaw10_LogheadBack_n4v1 (i : Ilaw10_LogheadBack_n4v1) : Option Ylaw10_LogheadBack_n4v1 := nodelaw10_LogheadBack_n4v1 i some
theorem nodelaw10_LogheadBack_n4v1_nat (i : Ilaw10_LogheadBack_n4v1) (k : Ylaw10_LogheadBack_n4v1 → Ans) : nodelaw10_LogheadBack_n4v1 i k = bindO (nodeDlaw10_LogheadBack_n4v1 i) k := by
  obtain ⟨t9, t11, t14, o0_0, o0_1, o0_2, o1_0, o1_1, o1_2, o2_0, o2_1, o2_2, o2_3, o3⟩ := i
  simp only [nodeDlaw10_LogheadBack_n4v1, nodelaw10_LogheadBack_n4v1, bindO_cond, bindO_assoc, bindO_none, bindO_pure, bindO_elim, bindO_unP]
theorem nodelaw10_LogheadBack_n4v1_ok (i : Ilaw10_LogheadBack_n4v1) (K : Ex → St → Ans) : codeI Try.tab envlaw10_LogheadBack noHint (codeD Try.tab envlaw10_LogheadBack noHint 0 64) 70 136 annLlaw10_LogheadBack_n4 Llaw10_LogheadBack_n4 (weakP 0 (exk [4, 5, 7, 9, 11, 13, 14, 15, 71] [8] []) K) (Slaw10_LogheadBack_n4v1 i) = nodelaw10_LogheadBack_n4v1 i (outlaw10_LogheadBack_n4v1 i K) := by kernel_rfl
theorem GNlaw10_LogheadBack_n4v1_ok : CSum Try.prog 136 Llaw10_LogheadBack_n4 (sumN declaw10_LogheadBack_n4v1 nodeDlaw10_LogheadBack_n4v1 outlaw10_LogheadBack_n4v1) := csum_node mixed tabOk envlaw10_LogheadBackOk 0 (exk [4, 5, 7, 9, 11, 13, 14, 15, 71] [8] []) annLlaw10_LogheadBack_n4_ok declaw10_LogheadBack_n4v1_ok nodelaw10_LogheadBack_n4v1_ok nodelaw10_LogheadBack_n4v1_nat
abbrev Ilaw10_LogheadBack_n4v2 := (List UInt8) × (List UInt8) × (Int) × (Int) × (Int) × (Int) × (Int) × (Int) × (Int) × (Int) × (Int) × (Int) × (Int) × (List Int)
abbrev Ylaw10_LogheadBack_n4v2 := (Bool)
def Slaw10_LogheadBack_n4v2 : Ilaw10_LogheadBack_n4v2 → St := fun (t9, t11, t14, o0_0, o0_1, o0_2, o1_0, o1_1, o1_2, o2_0, o2_1, o2_2, o2_3, o3) => { env := [(4, AV.ptr 0 0), (5, AV.ptr 1 0), (7, AV.ptr 2 0), (9, AV.str t9), (11, AV.str t11), (13, AV.own 3), (14, AV.int IntKind.i64 t14), (15, AV.int IntKind.i64 (2))], stk := [[]], H := [AE.Obj.cells [AV.int IntKind.i64 o0_0, AV.int IntKind.i64 o0_1, AV.int IntKind.i64 o0_2], AE.Obj.cells [AV.int IntKind.i64 o1_0, AV.int IntKind.i64 o1_1, AV.int IntKind.i64 o1_2], AE.Obj.cells [AV.int IntKind.u8 o2_0, AV.int IntKind.u8 o2_1, AV.int IntKind.u8 o2_2, AV.int IntKind.u8 o2_3], Obj.arr (Ty.int IntKind.u8) o3], blk := 32768 }
def declaw10_LogheadBack_n4v2 (s : St) : Option Ilaw10_LogheadBack_n4v2 := match s with
  | { env := [(4, AV.ptr 0 0), (5, AV.ptr 1 0), (7, AV.ptr 2 0), (9, AV.str t9), (11, AV.str t11), (13, AV.own 3), (14, AV.int IntKind.i64 t14), (15, AV.int IntKind.i64 r3)], stk := [[]], H := [AE.Obj.cells [AV.int IntKind.i64 o0_0, AV.int IntKind.i64 o0_1, AV.int IntKind.i64 o0_2], AE.Obj.cells [AV.int IntKind.i64 o1_0, AV.int IntKind.i64 o1_1, AV.int IntKind.i64 o1_2], AE.Obj.cells [AV.int IntKind.u8 o2_0, AV.int IntKind.u8 o2_1, AV.int IntKind.u8 o2_2, AV.int IntKind.u8 o2_3], Obj.arr (Ty.int IntKind.u8) o3], blk := 32768 } => cond (decide (r3 = 2)) (some (t9, t11, t14, o0_0, o0_1, o0_2, o1_0, o1_1, o1_2, o2_0, o2_1, o2_2, o2_3, o3)) none
  | _ => none
theorem declaw10_LogheadBack_n4v2_ok (s : St) (x : Ilaw10_LogheadBack_n4v2) (h : declaw10_LogheadBack_n4v2 s = some x) : s = Slaw10_LogheadBack_n4v2 x := by
  unfold declaw10_LogheadBack_n4v2 at h
  split at h
  · replace h := cond_noneO h; obtain ⟨hg, h⟩ := h; simp only [Bool.and_eq_true, decide_eq_true_eq] at hg; simp only [hg]; cases h; rfl
  · cases h
def outlaw10_LogheadBack_n4v2 : Ilaw10_LogheadBack_n4v2 → (Ex → St → Ans) → Ylaw10_LogheadBack_n4v2 → Ans := fun (t9, t11, t14, o0_0, o0_1, o0_2, o1_0, o1_1, o1_2, o2_0, o2_1, o2_2, o2_3, o3) K => fun t71_y => K (Ex.norm) { env := [(4, AV.ptr 0 0), (5, AV.ptr 1 0), (7, AV.ptr 2 0), (9, AV.str t9), (11, AV.str t11), (13, AV.own 3), (14, AV.int IntKind.i64 t14), (15, AV.int IntKind.i64 (2)), (71, AV.bool t71_y)], stk := [[]], H := [AE.Obj.cells [AV.int IntKind.i64 o0_0, AV.int IntKind.i64 o0_1, AV.int IntKind.i64 o0_2], AE.Obj.cells [AV.int IntKind.i64 o1_0, AV.int IntKind.i64 o1_1, AV.int IntKind.i64 o1_2], AE.Obj.cells [AV.int IntKind.u8 o2_0, AV.int IntKind.u8 o2_1, AV.int IntKind.u8 o2_2, AV.int IntKind.u8 o2_3], Obj.arr (Ty.int IntKind.u8) o3], blk := 32768 }
def nodelaw10_LogheadBack_n4v2 {β : Type} : Ilaw10_LogheadBack_n4v2 → (Ylaw10_LogheadBack_n4v2 → Option β) → Option β := fun (t9, t11, t14, o0_0, o0_1, o0_2, o1_0, o1_1, o1_2, o2_0, o2_1, o2_2, o2_3, o3) exit => (exit (decide (IntKind.wrap IntKind.i64 (t14 + (2 : Int)) < (↑(List.length o3) : Int))))
def nodeDlaw10_LogheadBack_n4v2 (i : Ilaw10_LogheadBack_n4v2) : Option Ylaw10_LogheadBack_n4v2 := nodelaw10_LogheadBack_n4v2 i some
theorem nodelaw10_LogheadBack_n4v2_nat (i : Ilaw10_LogheadBack_n4v2) (k : Ylaw10_LogheadBack_n4v2 → Ans) : nodelaw10_LogheadBack_n4v2 i k = bindO (nodeDlaw10_LogheadBack_n4v2 i) k := by
  obtain ⟨t9, t11, t14, o0_0, o0_1, o0_2, o1_0, o1_1, o1_2, o2_0, o2_1, o2_2, o2_3, o3⟩ := i
  simp only [nodeDlaw10_LogheadBack_n4v2, nodelaw10_LogheadBack_n4v2, bindO_cond, bindO_assoc, bindO_none, bindO_pure, bindO_elim, bindO_unP]
theorem nodelaw10_LogheadBack_n4v2_ok (i : Ilaw10_LogheadBack_n4v2) (K : Ex → St → Ans) : codeI Try.tab envlaw10_LogheadBack noHint (codeD Try.tab envlaw10_LogheadBack noHint 0 64) 70 136 annLlaw10_LogheadBack_n4 Llaw10_LogheadBack_n4 (weakP 0 (exk [4, 5, 7, 9, 11, 13, 14, 15, 71] [8] []) K) (Slaw10_LogheadBack_n4v2 i) = nodelaw10_LogheadBack_n4v2 i (outlaw10_LogheadBack_n4v2 i K) := by kernel_rfl
theorem GNlaw10_LogheadBack_n4v2_ok : CSum Try.prog 136 Llaw10_LogheadBack_n4 (sumN declaw10_LogheadBack_n4v2 nodeDlaw10_LogheadBack_n4v2 outlaw10_LogheadBack_n4v2) := csum_node mixed tabOk envlaw10_LogheadBackOk 0 (exk [4, 5, 7, 9, 11, 13, 14, 15, 71] [8] []) annLlaw10_LogheadBack_n4_ok declaw10_LogheadBack_n4v2_ok nodelaw10_LogheadBack_n4v2_ok nodelaw10_LogheadBack_n4v2_nat
abbrev Ilaw10_LogheadBack_n4v3 := (List UInt8) × (List UInt8) × (Int) × (Int) × (Int) × (Int) × (Int) × (Int) × (Int) × (Int) × (Int) × (Int) × (Int) × (List Int)
abbrev Ylaw10_LogheadBack_n4v3 := (Bool)
def Slaw10_LogheadBack_n4v3 : Ilaw10_LogheadBack_n4v3 → St := fun (t9, t11, t14, o0_0, o0_1, o0_2, o1_0, o1_1, o1_2, o2_0, o2_1, o2_2, o2_3, o3) => { env := [(4, AV.ptr 0 0), (5, AV.ptr 1 0), (7, AV.ptr 2 0), (9, AV.str t9), (11, AV.str t11), (13, AV.own 3), (14, AV.int IntKind.i64 t14), (15, AV.int IntKind.i64 (3))], stk := [[]], H := [AE.Obj.cells [AV.int IntKind.i64 o0_0, AV.int IntKind.i64 o0_1, AV.int IntKind.i64 o0_2], AE.Obj.cells [AV.int IntKind.i64 o1_0, AV.int IntKind.i64 o1_1, AV.int IntKind.i64 o1_2], AE.Obj.cells [AV.int IntKind.u8 o2_0, AV.int IntKind.u8 o2_1, AV.int IntKind.u8 o2_2, AV.int IntKind.u8 o2_3], Obj.arr (Ty.int IntKind.u8) o3], blk := 32768 }
def declaw10_LogheadBack_n4v3 (s : St) : Option Ilaw10_LogheadBack_n4v3 := match s with
  | { env := [(4, AV.ptr 0 0), (5, AV.ptr 1 0), (7, AV.ptr 2 0), (9, AV.str t9), (11, AV.str t11), (13, AV.own 3), (14, AV.int IntKind.i64 t14), (15, AV.int IntKind.i64 r3)], stk := [[]], H := [AE.Obj.cells [AV.int IntKind.i64 o0_0, AV.int IntKind.i64 o0_1, AV.int IntKind.i64 o0_2], AE.Obj.cells [AV.int IntKind.i64 o1_0, AV.int IntKind.i64 o1_1, AV.int IntKind.i64 o1_2], AE.Obj.cells [AV.int IntKind.u8 o2_0, AV.int IntKind.u8 o2_1, AV.int IntKind.u8 o2_2, AV.int IntKind.u8 o2_3], Obj.arr (Ty.int IntKind.u8) o3], blk := 32768 } => cond (decide (r3 = 3)) (some (t9, t11, t14, o0_0, o0_1, o0_2, o1_0, o1_1, o1_2, o2_0, o2_1, o2_2, o2_3, o3)) none
  | _ => none
theorem declaw10_LogheadBack_n4v3_ok (s : St) (x : Ilaw10_LogheadBack_n4v3) (h : declaw10_LogheadBack_n4v3 s = some x) : s = Slaw10_LogheadBack_n4v3 x := by
  unfold declaw10_LogheadBack_n4v3 at h
  split at h
  · replace h := cond_noneO h; obtain ⟨hg, h⟩ := h; simp only [Bool.and_eq_true, decide_eq_true_eq] at hg; simp only [hg]; cases h; rfl
  · cases h
def outlaw10_LogheadBack_n4v3 : Ilaw10_LogheadBack_n4v3 → (Ex → St → Ans) → Ylaw10_LogheadBack_n4v3 → Ans := fun (t9, t11, t14, o0_0, o0_1, o0_2, o1_0, o1_1, o1_2, o2_0, o2_1, o2_2, o2_3, o3) K => fun t71_y => K (Ex.norm) { env := [(4, AV.ptr 0 0), (5, AV.ptr 1 0), (7, AV.ptr 2 0), (9, AV.str t9), (11, AV.str t11), (13, AV.own 3), (14, AV.int IntKind.i64 t14), (15, AV.int IntKind.i64 (3)), (71, AV.bool t71_y)], stk := [[]], H := [AE.Obj.cells [AV.int IntKind.i64 o0_0, AV.int IntKind.i64 o0_1, AV.int IntKind.i64 o0_2], AE.Obj.cells [AV.int IntKind.i64 o1_0, AV.int IntKind.i64 o1_1, AV.int IntKind.i64 o1_2], AE.Obj.cells [AV.int IntKind.u8 o2_0, AV.int IntKind.u8 o2_1, AV.int IntKind.u8 o2_2, AV.int IntKind.u8 o2_3], Obj.arr (Ty.int IntKind.u8) o3], blk := 32768 }
def nodelaw10_LogheadBack_n4v3 {β : Type} : Ilaw10_LogheadBack_n4v3 → (Ylaw10_LogheadBack_n4v3 → Option β) → Option β := fun (t9, t11, t14, o0_0, o0_1, o0_2, o1_0, o1_1, o1_2, o2_0, o2_1, o2_2, o2_3, o3) exit => (exit (decide (IntKind.wrap IntKind.i64 (t14 + (3 : Int)) < (↑(List.length o3) : Int))))
def nodeDlaw10_LogheadBack_n4v3 (i : Ilaw10_LogheadBack_n4v3) : Option Ylaw10_LogheadBack_n4v3 := nodelaw10_LogheadBack_n4v3 i some
theorem nodelaw10_LogheadBack_n4v3_nat (i : Ilaw10_LogheadBack_n4v3) (k : Ylaw10_LogheadBack_n4v3 → Ans) : nodelaw10_LogheadBack_n4v3 i k = bindO (nodeDlaw10_LogheadBack_n4v3 i) k := by
  obtain ⟨t9, t11, t14, o0_0, o0_1, o0_2, o1_0, o1_1, o1_2, o2_0, o2_1, o2_2, o2_3, o3⟩ := i
  simp only [nodeDlaw10_LogheadBack_n4v3, nodelaw10_LogheadBack_n4v3, bindO_cond, bindO_assoc, bindO_none, bindO_pure, bindO_elim, bindO_unP]
theorem nodelaw10_LogheadBack_n4v3_ok (i : Ilaw10_LogheadBack_n4v3) (K : Ex → St → Ans) : codeI Try.tab envlaw10_LogheadBack noHint (codeD Try.tab envlaw10_LogheadBack noHint 0 64) 70 136 annLlaw10_LogheadBack_n4 Llaw10_LogheadBack_n4 (weakP 0 (exk [4, 5, 7, 9, 11, 13, 14, 15, 71] [8] []) K) (Slaw10_LogheadBack_n4v3 i) = nodelaw10_LogheadBack_n4v3 i (outlaw10_LogheadBack_n4v3 i K) := by kernel_rfl
theorem GNlaw10_LogheadBack_n4v3_ok : CSum Try.prog 136 Llaw10_LogheadBack_n4 (sumN declaw10_LogheadBack_n4v3 nodeDlaw10_LogheadBack_n4v3 outlaw10_LogheadBack_n4v3) := csum_node mixed tabOk envlaw10_LogheadBackOk 0 (exk [4, 5, 7, 9, 11, 13, 14, 15, 71] [8] []) annLlaw10_LogheadBack_n4_ok declaw10_LogheadBack_n4v3_ok nodelaw10_LogheadBack_n4v3_ok nodelaw10_LogheadBack_n4v3_nat
abbrev Ilaw10_LogheadBack_n4v4 := (List UInt8) × (List UInt8) × (Int) × (Int) × (Int) × (Int) × (Int) × (Int) × (Int) × (Int) × (Int) × (Int) × (Int) × (List Int)
abbrev Ylaw10_LogheadBack_n4v4 := Unit
def Slaw10_LogheadBack_n4v4 : Ilaw10_LogheadBack_n4v4 → St := fun (t9, t11, t14, o0_0, o0_1, o0_2, o1_0, o1_1, o1_2, o2_0, o2_1, o2_2, o2_3, o3) => { env := [(4, AV.ptr 0 0), (5, AV.ptr 1 0), (7, AV.ptr 2 0), (9, AV.str t9), (11, AV.str t11), (13, AV.own 3), (14, AV.int IntKind.i64 t14), (15, AV.int IntKind.i64 (4))], stk := [[]], H := [AE.Obj.cells [AV.int IntKind.i64 o0_0, AV.int IntKind.i64 o0_1, AV.int IntKind.i64 o0_2], AE.Obj.cells [AV.int IntKind.i64 o1_0, AV.int IntKind.i64 o1_1, AV.int IntKind.i64 o1_2], AE.Obj.cells [AV.int IntKind.u8 o2_0, AV.int IntKind.u8 o2_1, AV.int IntKind.u8 o2_2, AV.int IntKind.u8 o2_3], Obj.arr (Ty.int IntKind.u8) o3], blk := 32768 }
def declaw10_LogheadBack_n4v4 (s : St) : Option Ilaw10_LogheadBack_n4v4 := match s with
  | { env := [(4, AV.ptr 0 0), (5, AV.ptr 1 0), (7, AV.ptr 2 0), (9, AV.str t9), (11, AV.str t11), (13, AV.own 3), (14, AV.int IntKind.i64 t14), (15, AV.int IntKind.i64 r3)], stk := [[]], H := [AE.Obj.cells [AV.int IntKind.i64 o0_0, AV.int IntKind.i64 o0_1, AV.int IntKind.i64 o0_2], AE.Obj.cells [AV.int IntKind.i64 o1_0, AV.int IntKind.i64 o1_1, AV.int IntKind.i64 o1_2], AE.Obj.cells [AV.int IntKind.u8 o2_0, AV.int IntKind.u8 o2_1, AV.int IntKind.u8 o2_2, AV.int IntKind.u8 o2_3], Obj.arr (Ty.int IntKind.u8) o3], blk := 32768 } => cond (decide (r3 = 4)) (some (t9, t11, t14, o0_0, o0_1, o0_2, o1_0, o1_1, o1_2, o2_0, o2_1, o2_2, o2_3, o3)) none
  | _ => none
theorem declaw10_LogheadBack_n4v4_ok (s : St) (x : Ilaw10_LogheadBack_n4v4) (h : declaw10_LogheadBack_n4v4 s = some x) : s = Slaw10_LogheadBack_n4v4 x := by
  unfold declaw10_LogheadBack_n4v4 at h
  split at h
  · replace h := cond_noneO h; obtain ⟨hg, h⟩ := h; simp only [Bool.and_eq_true, decide_eq_true_eq] at hg; simp only [hg]; cases h; rfl
  · cases h
def outlaw10_LogheadBack_n4v4 : Ilaw10_LogheadBack_n4v4 → (Ex → St → Ans) → Ylaw10_LogheadBack_n4v4 → Ans := fun (t9, t11, t14, o0_0, o0_1, o0_2, o1_0, o1_1, o1_2, o2_0, o2_1, o2_2, o2_3, o3) K => fun _ => K (Ex.norm) { env := [(4, AV.ptr 0 0), (5, AV.ptr 1 0), (7, AV.ptr 2 0), (9, AV.str t9), (11, AV.str t11), (13, AV.own 3), (14, AV.int IntKind.i64 t14), (15, AV.int IntKind.i64 (4)), (71, AV.bool (false))], stk := [[]], H := [AE.Obj.cells [AV.int IntKind.i64 o0_0, AV.int IntKind.i64 o0_1, AV.int IntKind.i64 o0_2], AE.Obj.cells [AV.int IntKind.i64 o1_0, AV.int IntKind.i64 o1_1, AV.int IntKind.i64 o1_2], AE.Obj.cells [AV.int IntKind.u8 o2_0, AV.int IntKind.u8 o2_1, AV.int IntKind.u8 o2_2, AV.int IntKind.u8 o2_3], Obj.arr (Ty.int IntKind.u8) o3], blk := 32768 }
def nodelaw10_LogheadBack_n4v4 {β : Type} : Ilaw10_LogheadBack_n4v4 → (Ylaw10_LogheadBack_n4v4 → Option β) → Option β := fun (t9, t11, t14, o0_0, o0_1, o0_2, o1_0, o1_1, o1_2, o2_0, o2_1, o2_2, o2_3, o3) exit => (exit ())
def nodeDlaw10_LogheadBack_n4v4 (i : Ilaw10_LogheadBack_n4v4) : Option Ylaw10_LogheadBack_n4v4 := nodelaw10_LogheadBack_n4v4 i some
theorem nodelaw10_LogheadBack_n4v4_nat (i : Ilaw10_LogheadBack_n4v4) (k : Ylaw10_LogheadBack_n4v4 → Ans) : nodelaw10_LogheadBack_n4v4 i k = bindO (nodeDlaw10_LogheadBack_n4v4 i) k := by
  obtain ⟨t9, t11, t14, o0_0, o0_1, o0_2, o1_0, o1_1, o1_2, o2_0, o2_1, o2_2, o2_3, o3⟩ := i
  simp only [nodeDlaw10_LogheadBack_n4v4, nodelaw10_LogheadBack_n4v4, bindO_cond, bindO_assoc, bindO_none, bindO_pure, bindO_elim, bindO_unP]
theorem nodelaw10_LogheadBack_n4v4_ok (i : Ilaw10_LogheadBack_n4v4) (K : Ex → St → Ans) : codeI Try.tab envlaw10_LogheadBack noHint (codeD Try.tab envlaw10_LogheadBack noHint 0 64) 70 136 annLlaw10_LogheadBack_n4 Llaw10_LogheadBack_n4 (weakP 0 (exk [4, 5, 7, 9, 11, 13, 14, 15, 71] [8] []) K) (Slaw10_LogheadBack_n4v4 i) = nodelaw10_LogheadBack_n4v4 i (outlaw10_LogheadBack_n4v4 i K) := by kernel_rfl
theorem GNlaw10_LogheadBack_n4v4_ok : CSum Try.prog 136 Llaw10_LogheadBack_n4 (sumN declaw10_LogheadBack_n4v4 nodeDlaw10_LogheadBack_n4v4 outlaw10_LogheadBack_n4v4) := csum_node mixed tabOk envlaw10_LogheadBackOk 0 (exk [4, 5, 7, 9, 11, 13, 14, 15, 71] [8] []) annLlaw10_LogheadBack_n4_ok declaw10_LogheadBack_n4v4_ok nodelaw10_LogheadBack_n4v4_ok nodelaw10_LogheadBack_n4v4_nat
noncomputable def Glaw10_LogheadBack_n4 : (Ex → St → Ans) → St → Ans := (altN declaw10_LogheadBack_n4 (sumN declaw10_LogheadBack_n4 nodeDlaw10_LogheadBack_n4 outlaw10_LogheadBack_n4) (altN declaw10_LogheadBack_n4v1 (sumN declaw10_LogheadBack_n4v1 nodeDlaw10_LogheadBack_n4v1 outlaw10_LogheadBack_n4v1) (altN declaw10_LogheadBack_n4v2 (sumN declaw10_LogheadBack_n4v2 nodeDlaw10_LogheadBack_n4v2 outlaw10_LogheadBack_n4v2) (altN declaw10_LogheadBack_n4v3 (sumN declaw10_LogheadBack_n4v3 nodeDlaw10_LogheadBack_n4v3 outlaw10_LogheadBack_n4v3) (sumN declaw10_LogheadBack_n4v4 nodeDlaw10_LogheadBack_n4v4 outlaw10_LogheadBack_n4v4)))))
theorem Glaw10_LogheadBack_n4_ok : CSum Try.prog 136 Llaw10_LogheadBack_n4 Glaw10_LogheadBack_n4 := (csum_altN GNlaw10_LogheadBack_n4_ok (csum_altN GNlaw10_LogheadBack_n4v1_ok (csum_altN GNlaw10_LogheadBack_n4v2_ok (csum_altN GNlaw10_LogheadBack_n4v3_ok GNlaw10_LogheadBack_n4v4_ok))))
noncomputable def Llaw10_LogheadBack_n3 : Code := codeAt [1, 1, 1, 1, 1, 1, 1, 0, 1, 0, 0] blaw10_LogheadBack
noncomputable def annLlaw10_LogheadBack_n3 : Ann := (.seq (.seq (.cut 0 [4, 5, 7, 9, 11, 13, 14, 15] Glaw10_LogheadBack_n4) .none) .none)
theorem annLlaw10_LogheadBack_n3_ok : AnnOk Try.prog 136 Llaw10_LogheadBack_n3 annLlaw10_LogheadBack_n3 := ⟨⟨Glaw10_LogheadBack_n4_ok, (annOk_none _ _ _)⟩, (annOk_none _ _ _)⟩
abbrev Ilaw10_LogheadBack_n3 := (List UInt8) × (List UInt8) × (Int) × (Int) × (Int) × (Int) × (Int) × (Int) × (Int) × (Int) × (Int) × (Int) × (Int) × (List Int)
abbrev Ylaw10_LogheadBack_n3 := ((List Int)) ⊕ (Unit)
def Slaw10_LogheadBack_n3 : Ilaw10_LogheadBack_n3 → St := fun (t9, t11, t14, o0_0, o0_1, o0_2, o1_0, o1_1, o1_2, o2_0, o2_1, o2_2, o2_3, o3) => { env := [(4, AV.ptr 0 0), (5, AV.ptr 1 0), (7, AV.ptr 2 0), (9, AV.str t9), (11, AV.str t11), (13, AV.own 3), (14, AV.int IntKind.i64 t14), (15, AV.int IntKind.i64 (0))], stk := [[]], H := [AE.Obj.cells [AV.int IntKind.i64 o0_0, AV.int IntKind.i64 o0_1, AV.int IntKind.i64 o0_2], AE.Obj.cells [AV.int IntKind.i64 o1_0, AV.int IntKind.i64 o1_1, AV.int IntKind.i64 o1_2], AE.Obj.cells [AV.int IntKind.u8 o2_0, AV.int IntKind.u8 o2_1, AV.int IntKind.u8 o2_2, AV.int IntKind.u8 o2_3], Obj.arr (Ty.int IntKind.u8) o3], blk := 32768 }
def declaw10_LogheadBack_n3 (s : St) : Option Ilaw10_LogheadBack_n3 := match s with
  | { env := [(4, AV.ptr 0 0), (5, AV.ptr 1 0), (7, AV.ptr 2 0), (9, AV.str t9), (11, AV.str t11), (13, AV.own 3), (14, AV.int IntKind.i64 t14), (15, AV.int IntKind.i64 r3)], stk := [[]], H := [AE.Obj.cells [AV.int IntKind.i64 o0_0, AV.int IntKind.i64 o0_1, AV.int IntKind.i64 o0_2], AE.Obj.cells [AV.int IntKind.i64 o1_0, AV.int IntKind.i64 o1_1, AV.int IntKind.i64 o1_2], AE.Obj.cells [AV.int IntKind.u8 o2_0, AV.int IntKind.u8 o2_1, AV.int IntKind.u8 o2_2, AV.int IntKind.u8 o2_3], Obj.arr (Ty.int IntKind.u8) o3], blk := 32768 } => cond (decide (r3 = 0)) (some (t9, t11, t14, o0_0, o0_1, o0_2, o1_0, o1_1, o1_2, o2_0, o2_1, o2_2, o2_3, o3)) none
  | _ => none
theorem declaw10_LogheadBack_n3_ok (s : St) (x : Ilaw10_LogheadBack_n3) (h : declaw10_LogheadBack_n3 s = some x) : s = Slaw10_LogheadBack_n3 x := by
  unfold declaw10_LogheadBack_n3 at h
  split at h
  · replace h := cond_noneO h; obtain ⟨hg, h⟩ := h; simp only [Bool.and_eq_true, decide_eq_true_eq] at hg; simp only [hg]; cases h; rfl
  · cases h
def outlaw10_LogheadBack_n3 : Ilaw10_LogheadBack_n3 → (Ex → St → Ans) → Ylaw10_LogheadBack_n3 → Ans := fun (t9, t11, t14, o0_0, o0_1, o0_2, o1_0, o1_1, o1_2, o2_0, o2_1, o2_2, o2_3, o3) K => (Sum.elim (fun o3_y => K (Ex.norm) { env := [(4, AV.ptr 0 0), (5, AV.ptr 1 0), (7, AV.ptr 2 0), (9, AV.str t9), (11, AV.str t11), (13, AV.own 3), (14, AV.int IntKind.i64 t14), (15, AV.int IntKind.i64 (1))], stk := [[]], H := [AE.Obj.cells [AV.int IntKind.i64 o0_0, AV.int IntKind.i64 o0_1, AV.int IntKind.i64 o0_2], AE.Obj.cells [AV.int IntKind.i64 o1_0, AV.int IntKind.i64 o1_1, AV.int IntKind.i64 o1_2], AE.Obj.cells [AV.int IntKind.u8 o2_0, AV.int IntKind.u8 o2_1, AV.int IntKind.u8 o2_2, AV.int IntKind.u8 o2_3], Obj.arr (Ty.int IntKind.u8) o3_y], blk := 32769 }) (fun _ => K (Ex.exit 0) { env := [(4, AV.ptr 0 0), (5, AV.ptr 1 0), (9, AV.str t9), (11, AV.str t11), (13, AV.own 2)], stk := [[]], H := [AE.Obj.cells [AV.int IntKind.i64 o0_0, AV.int IntKind.i64 o0_1, AV.int IntKind.i64 o0_2], AE.Obj.cells [AV.int IntKind.i64 o1_0, AV.int IntKind.i64 o1_1, AV.int IntKind.i64 o1_2], Obj.arr (Ty.int IntKind.u8) o3], blk := 32768 }))
def nodelaw10_LogheadBack_n3 {β : Type} : Ilaw10_LogheadBack_n3 → (Ylaw10_LogheadBack_n3 → Option β) → Option β := fun (t9, t11, t14, o0_0, o0_1, o0_2, o1_0, o1_1, o1_2, o2_0, o2_1, o2_2, o2_3, o3) exit => (bindO (nodeDlaw10_LogheadBack_n4 (t9, t11, t14, o0_0, o0_1, o0_2, o1_0, o1_1, o1_2, o2_0, o2_1, o2_2, o2_3, o3)) fun t71 => (bif t71 then (bif inR (IntKind.wrap IntKind.i64 (t14 + (0 : Int))) (List.length o3) then (bindO (o3[Int.toNat (IntKind.wrap IntKind.i64 (t14 + (0 : Int)))]?) fun x => (bif inR (IntKind.wrap IntKind.i64 (t14 + (0 : Int))) (List.length o3) then (bindO (o3[Int.toNat (IntKind.wrap IntKind.i64 (t14 + (0 : Int)))]?) fun x_2 => (exit (Sum.inl (List.set o3 (Int.toNat (IntKind.wrap IntKind.i64 (t14 + (0 : Int)))) (IntKind.wrap IntKind.u8 (↑(Int.toNat (x % (256 : Int)) ^^^ Int.toNat (o2_0 % (256 : Int))) : Int)))))) else none)) else none) else (exit (Sum.inr ()))))
def nodeDlaw10_LogheadBack_n3 (i : Ilaw10_LogheadBack_n3) : Option Ylaw10_LogheadBack_n3 := nodelaw10_LogheadBack_n3 i some
theorem nodelaw10_LogheadBack_n3_nat (i : Ilaw10_LogheadBack_n3) (k : Ylaw10_LogheadBack_n3 → Ans) : nodelaw10_LogheadBack_n3 i k = bindO (nodeDlaw10_LogheadBack_n3 i) k := by
  obtain ⟨t9, t11, t14, o0_0, o0_1, o0_2, o1_0, o1_1, o1_2, o2_0, o2_1, o2_2, o2_3, o3⟩ := i
  simp only [nodeDlaw10_LogheadBack_n3, nodelaw10_LogheadBack_n3, bindO_cond, bindO_assoc, bindO_none, bindO_pure, bindO_elim, bindO_unP]
theorem nodelaw10_LogheadBack_n3_ok (i : Ilaw10_LogheadBack_n3) (K : Ex → St → Ans) : codeI Try.tab envlaw10_LogheadBack noHint (codeD Try.tab envlaw10_LogheadBack noHint 0 64) 70 136 annLlaw10_LogheadBack_n3 Llaw10_LogheadBack_n3 (weakP 0 (exk [4, 5, 7, 9, 11, 13, 14, 15] [8] [(0, [4, 5, 9, 11, 13])]) K) (Slaw10_LogheadBack_n3 i) = nodelaw10_LogheadBack_n3 i (outlaw10_LogheadBack_n3 i K) := by kernel_rfl
theorem GNlaw10_LogheadBack_n3_ok : CSum Try.prog 136 Llaw10_LogheadBack_n3 (sumN declaw10_LogheadBack_n3 nodeDlaw10_LogheadBack_n3 outlaw10_LogheadBack_n3) := csum_node mixed tabOk envlaw10_LogheadBackOk 0 (exk [4, 5, 7, 9, 11, 13, 14, 15] [8] [(0, [4, 5, 9, 11, 13])]) annLlaw10_LogheadBack_n3_ok declaw10_LogheadBack_n3_ok nodelaw10_LogheadBack_n3_ok nodelaw10_LogheadBack_n3_nat
abbrev Ilaw10_LogheadBack_n3v1 := (List UInt8) × (List UInt8) × (Int) × (Int) × (Int) × (Int) × (Int) × (Int) × (Int) × (Int) × (Int) × (Int) × (Int) × (List Int)
abbrev Ylaw10_LogheadBack_n3v1 := ((List Int)) ⊕ (Unit)
def Slaw10_LogheadBack_n3v1 : Ilaw10_LogheadBack_n3v1 → St := fun (t9, t11, t14, o0_0, o0_1, o0_2, o1_0, o1_1, o1_2, o2_0, o2_1, o2_2, o2_3, o3) => { env := [(4, AV.ptr 0 0), (5, AV.ptr 1 0), (7, AV.ptr 2 0), (9, AV.str t9), (11, AV.str t11), (13, AV.own 3), (14, AV.int IntKind.i64 t14), (15, AV.int IntKind.i64 (1))], stk := [[]], H := [AE.Obj.cells [AV.int IntKind.i64 o0_0, AV.int IntKind.i64 o0_1, AV.int IntKind.i64 o0_2], AE.Obj.cells [AV.int IntKind.i64 o1_0, AV.int IntKind.i64 o1_1, AV.int IntKind.i64 o1_2], AE.Obj.cells [AV.int IntKind.u8 o2_0, AV.int IntKind.u8 o2_1, AV.int IntKind.u8 o2_2, AV.int IntKind.u8 o2_3], Obj.arr (Ty.int IntKind.u8) o3], blk := 32768 }
def declaw10_LogheadBack_n3v1 (s : St) : Option Ilaw10_LogheadBack_n3v1 := match s with
  | { env := [(4, AV.ptr 0 0), (5, AV.ptr 1 0), (7, AV.ptr 2 0), (9, AV.str t9), (11, AV.str t11), (13, AV.own 3), (14, AV.int IntKind.i64 t14), (15, AV.int IntKind.i64 r3)], stk := [[]], H := [AE.Obj.cells [AV.int IntKind.i64 o0_0, AV.int IntKind.i64 o0_1, AV.int IntKind.i64 o0_2], AE.Obj.cells [AV.int IntKind.i64 o1_0, AV.int IntKind.i64 o1_1, AV.int IntKind.i64 o1_2], AE.Obj.cells [AV.int IntKind.u8 o2_0, AV.int IntKind.u8 o2_1, AV.int IntKind.u8 o2_2, AV.int IntKind.u8 o2_3], Obj.arr (Ty.int IntKind.u8) o3], blk := 32768 } => cond (decide (r3 = 1)) (some (t9, t11, t14, o0_0, o0_1, o0_2, o1_0, o1_1, o1_2, o2_0, o2_1, o2_2, o2_3, o3)) none
  | _ => none
theorem declaw10_LogheadBack_n3v1_ok (s : St) (x : Ilaw10_LogheadBack_n3v1) (h : declaw10_LogheadBack_n3v1 s = some x) : s = Slaw10_LogheadBack_n3v1 x := by
  unfold declaw10_LogheadBack_n3v1 at h
  split at h
  · replace h := cond_noneO h; obtain ⟨hg, h⟩ := h; simp only [Bool.and_eq_true, decide_eq_true_eq] at hg; simp only [hg]; cases h; rfl
  · cases h
def outlaw10_LogheadBack_n3v1 : Ilaw10_LogheadBack_n3v1 → (Ex → St → Ans) → Ylaw10_LogheadBack_n3v1 → Ans := fun (t9, t11, t14, o0_0, o0_1, o0_2, o1_0, o1_1, o1_2, o2_0, o2_1, o2_2, o2_3, o3) K => (Sum.elim (fun o3_y => K (Ex.norm) { env := [(4, AV.ptr 0 0), (5, AV.ptr 1 0), (7, AV.ptr 2 0), (9, AV.str t9), (11, AV.str t11), (13, AV.own 3), (14, AV.int IntKind.i64 t14), (15, AV.int IntKind.i64 (2))], stk := [[]], H := [AE.Obj.cells [AV.int IntKind.i64 o0_0, AV.int IntKind.i64 o0_1, AV.int IntKind.i64 o0_2], AE.Obj.cells [AV.int IntKind.i64 o1_0, AV.int IntKind.i64 o1_1, AV.int IntKind.i64 o1_2], AE.Obj.cells [AV.int IntKind.u8 o2_0, AV.int IntKind.u8 o2_1, AV.int IntKind.u8 o2_2, AV.int IntKind.u8 o2_3], Obj.arr (Ty.int IntKind.u8) o3_y], blk := 32769 }) (fun _ => K (Ex.exit 0) { env := [(4, AV.ptr 0 0), (5, AV.ptr 1 0), (9, AV.str t9), (11, AV.str t11), (13, AV.own 2)], stk := [[]], H := [AE.Obj.cells [AV.int IntKind.i64 o0_0, AV.int IntKind.i64 o0_1, AV.int IntKind.i64 o0_2], AE.Obj.cells [AV.int IntKind.i64 o1_0, AV.int IntKind.i64 o1_1, AV.int IntKind.i64 o1_2], Obj.arr (Ty.int IntKind.u8) o3], blk := 32768 }))
def nodelaw10_LogheadBack_n3v1 {β : Type} : Ilaw10_LogheadBack_n3v1 → (Ylaw10_LogheadBack_n3v1 → Option β) → Option β := fun (t9, t11, t14, o0_0, o0_1, o0_2, o1_0, o1_1, o1_2, o2_0, o2_1, o2_2, o2_3, o3) exit => (bindO (nodeDlaw10_LogheadBack_n4v1 (t9, t11, t14, o0_0, o0_1, o0_2, o1_0, o1_1, o1_2, o2_0, o2_1, o2_2, o2_3, o3)) fun t71 => (bif t71 then (bif inR (IntKind.wrap IntKind.i64 (t14 + (1 : Int))) (List.length o3) then (bindO (o3[Int.toNat (IntKind.wrap IntKind.i64 (t14 + (1 : Int)))]?) fun x => (bif inR (IntKind.wrap IntKind.i64 (t14 + (1 : Int))) (List.length o3) then (bindO (o3[Int.toNat (IntKind.wrap IntKind.i64 (t14 + (1 : Int)))]?) fun x_2 => (exit (Sum.inl (List.set o3 (Int.toNat (IntKind.wrap IntKind.i64 (t14 + (1 : Int)))) (IntKind.wrap IntKind.u8 (↑(Int.toNat (x % (256 : Int)) ^^^ Int.toNat (o2_1 % (256 : Int))) : Int)))))) else none)) else none) else (exit (Sum.inr ()))))
def nodeDlaw10_LogheadBack_n3v1 (i : Ilaw10_LogheadBack_n3v1) : Option Ylaw10_LogheadBack_n3v1 := nodelaw10_LogheadBack_n3v1 i some
theorem nodelaw10_LogheadBack_n3v1_nat (i : Ilaw10_LogheadBack_n3v1) (k : Ylaw10_LogheadBack_n3v1 → Ans) : nodelaw10_LogheadBack_n3v1 i k = bindO (nodeDlaw10_LogheadBack_n3v1 i) k := by
  obtain ⟨t9, t11, t14, o0_0, o0_1, o0_2, o1_0, o1_1, o1_2, o2_0, o2_1, o2_2, o2_3, o3⟩ := i
  simp only [nodeDlaw10_LogheadBack_n3v1, nodelaw10_LogheadBack_n3v1, bindO_cond, bindO_assoc, bindO_none, bindO_pure, bindO_elim, bindO_unP]
theorem nodelaw10_LogheadBack_n3v1_ok (i : Ilaw10_LogheadBack_n3v1) (K : Ex → St → Ans) : codeI Try.tab envlaw10_LogheadBack noHint (codeD Try.tab envlaw10_LogheadBack noHint 0 64) 70 136 annLlaw10_LogheadBack_n3 Llaw10_LogheadBack_n3 (weakP 0 (exk [4, 5, 7, 9, 11, 13, 14, 15] [8] [(0, [4, 5, 9, 11, 13])]) K) (Slaw10_LogheadBack_n3v1 i) = nodelaw10_LogheadBack_n3v1 i (outlaw10_LogheadBack_n3v1 i K) := by kernel_rfl
theorem GNlaw10_LogheadBack_n3v1_ok : CSum Try.prog 136 Llaw10_LogheadBack_n3 (sumN declaw10_LogheadBack_n3v1 nodeDlaw10_LogheadBack_n3v1 outlaw10_LogheadBack_n3v1) := csum_node mixed tabOk envlaw10_LogheadBackOk 0 (exk [4, 5, 7, 9, 11, 13, 14, 15] [8] [(0, [4, 5, 9, 11, 13])]) annLlaw10_LogheadBack_n3_ok declaw10_LogheadBack_n3v1_ok nodelaw10_LogheadBack_n3v1_ok nodelaw10_LogheadBack_n3v1_nat
abbrev Ilaw10_LogheadBack_n3v2 := (List UInt8) × (List UInt8) × (Int) × (Int) × (Int) × (Int) × (Int) × (Int) × (Int) × (Int) × (Int) × (Int) × (Int) × (List Int)
abbrev Ylaw10_LogheadBack_n3v2 := ((List Int)) ⊕ (Unit)
def Slaw10_LogheadBack_n3v2 : Ilaw10_LogheadBack_n3v2 → St := fun (t9, t11, t14, o0_0, o0_1, o0_2, o1_0, o1_1, o1_2, o2_0, o2_1, o2_2, o2_3, o3) => { env := [(4, AV.ptr 0 0), (5, AV.ptr 1 0), (7, AV.ptr 2 0), (9, AV.str t9), (11, AV.str t11), (13, AV.own 3), (14, AV.int IntKind.i64 t14), (15, AV.int IntKind.i64 (2))], stk := [[]], H := [AE.Obj.cells [AV.int IntKind.i64 o0_0, AV.int IntKind.i64 o0_1, AV.int IntKind.i64 o0_2], AE.Obj.cells [AV.int IntKind.i64 o1_0, AV.int IntKind.i64 o1_1, AV.int IntKind.i64 o1_2], AE.Obj.cells [AV.int IntKind.u8 o2_0, AV.int IntKind.u8 o2_1, AV.int IntKind.u8 o2_2, AV.int IntKind.u8 o2_3], Obj.arr (Ty.int IntKind.u8) o3], blk := 32768 }
def declaw10_LogheadBack_n3v2 (s : St) : Option Ilaw10_LogheadBack_n3v2 := match s with
  | { env := [(4, AV.ptr 0 0), (5, AV.ptr 1 0), (7, AV.ptr 2 0), (9, AV.str t9), (11, AV.str t11), (13, AV.own 3), (14, AV.int IntKind.i64 t14), (15, AV.int IntKind.i64 r3)], stk := [[]], H := [AE.Obj.cells [AV.int IntKind.i64 o0_0, AV.int IntKind.i64 o0_1, AV.int IntKind.i64 o0_2], AE.Obj.cells [AV.int IntKind.i64 o1_0, AV.int IntKind.i64 o1_1, AV.int IntKind.i64 o1_2], AE.Obj.cells [AV.int IntKind.u8 o2_0, AV.int IntKind.u8 o2_1, AV.int IntKind.u8 o2_2, AV.int IntKind.u8 o2_3], Obj.arr (Ty.int IntKind.u8) o3], blk := 32768 } => cond (decide (r3 = 2)) (some (t9, t11, t14, o0_0, o0_1, o0_2, o1_0, o1_1, o1_2, o2_0, o2_1, o2_2, o2_3, o3)) none
  | _ => none
theorem declaw10_LogheadBack_n3v2_ok (s : St) (x : Ilaw10_LogheadBack_n3v2) (h : declaw10_LogheadBack_n3v2 s = some x) : s = Slaw10_LogheadBack_n3v2 x := by
  unfold declaw10_LogheadBack_n3v2 at h
  split at h
  · replace h := cond_noneO h; obtain ⟨hg, h⟩ := h; simp only [Bool.and_eq_true, decide_eq_true_eq] at hg; simp only [hg]; cases h; rfl
  · cases h
def outlaw10_LogheadBack_n3v2 : Ilaw10_LogheadBack_n3v2 → (Ex → St → Ans) → Ylaw10_LogheadBack_n3v2 → Ans := fun (t9, t11, t14, o0_0, o0_1, o0_2, o1_0, o1_1, o1_2, o2_0, o2_1, o2_2, o2_3, o3) K => (Sum.elim (fun o3_y => K (Ex.norm) { env := [(4, AV.ptr 0 0), (5, AV.ptr 1 0), (7, AV.ptr 2 0), (9, AV.str t9), (11, AV.str t11), (13, AV.own 3), (14, AV.int IntKind.i64 t14), (15, AV.int IntKind.i64 (3))], stk := [[]], H := [AE.Obj.cells [AV.int IntKind.i64 o0_0, AV.int IntKind.i64 o0_1, AV.int IntKind.i64 o0_2], AE.Obj.cells [AV.int IntKind.i64 o1_0, AV.int IntKind.i64 o1_1, AV.int IntKind.i64 o1_2], AE.Obj.cells [AV.int IntKind.u8 o2_0, AV.int IntKind.u8 o2_1, AV.int IntKind.u8 o2_2, AV.int IntKind.u8 o2_3], Obj.arr (Ty.int IntKind.u8) o3_y], blk := 32769 }) (fun _ => K (Ex.exit 0) { env := [(4, AV.ptr 0 0), (5, AV.ptr 1 0), (9, AV.str t9), (11, AV.str t11), (13, AV.own 2)], stk := [[]], H := [AE.Obj.cells [AV.int IntKind.i64 o0_0, AV.int IntKind.i64 o0_1, AV.int IntKind.i64 o0_2], AE.Obj.cells [AV.int IntKind.i64 o1_0, AV.int IntKind.i64 o1_1, AV.int IntKind.i64 o1_2], Obj.arr (Ty.int IntKind.u8) o3], blk := 32768 }))
def nodelaw10_LogheadBack_n3v2 {β : Type} : Ilaw10_LogheadBack_n3v2 → (Ylaw10_LogheadBack_n3v2 → Option β) → Option β := fun (t9, t11, t14, o0_0, o0_1, o0_2, o1_0, o1_1, o1_2, o2_0, o2_1, o2_2, o2_3, o3) exit => (bindO (nodeDlaw10_LogheadBack_n4v2 (t9, t11, t14, o0_0, o0_1, o0_2, o1_0, o1_1, o1_2, o2_0, o2_1, o2_2, o2_3, o3)) fun t71 => (bif t71 then (bif inR (IntKind.wrap IntKind.i64 (t14 + (2 : Int))) (List.length o3) then (bindO (o3[Int.toNat (IntKind.wrap IntKind.i64 (t14 + (2 : Int)))]?) fun x => (bif inR (IntKind.wrap IntKind.i64 (t14 + (2 : Int))) (List.length o3) then (bindO (o3[Int.toNat (IntKind.wrap IntKind.i64 (t14 + (2 : Int)))]?) fun x_2 => (exit (Sum.inl (List.set o3 (Int.toNat (IntKind.wrap IntKind.i64 (t14 + (2 : Int)))) (IntKind.wrap IntKind.u8 (↑(Int.toNat (x % (256 : Int)) ^^^ Int.toNat (o2_2 % (256 : Int))) : Int)))))) else none)) else none) else (exit (Sum.inr ()))))
def nodeDlaw10_LogheadBack_n3v2 (i : Ilaw10_LogheadBack_n3v2) : Option Ylaw10_LogheadBack_n3v2 := nodelaw10_LogheadBack_n3v2 i some
theorem nodelaw10_LogheadBack_n3v2_nat (i : Ilaw10_LogheadBack_n3v2) (k : Ylaw10_LogheadBack_n3v2 → Ans) : nodelaw10_LogheadBack_n3v2 i k = bindO (nodeDlaw10_LogheadBack_n3v2 i) k := by
  obtain ⟨t9, t11, t14, o0_0, o0_1, o0_2, o1_0, o1_1, o1_2, o2_0, o2_1, o2_2, o2_3, o3⟩ := i
  simp only [nodeDlaw10_LogheadBack_n3v2, nodelaw10_LogheadBack_n3v2, bindO_cond, bindO_assoc, bindO_none, bindO_pure, bindO_elim, bindO_unP]
theorem nodelaw10_LogheadBack_n3v2_ok (i : Ilaw10_LogheadBack_n3v2) (K : Ex → St → Ans) : codeI Try.tab envlaw10_LogheadBack noHint (codeD Try.tab envlaw10_LogheadBack noHint 0 64) 70 136 annLlaw10_LogheadBack_n3 Llaw10_LogheadBack_n3 (weakP 0 (exk [4, 5, 7, 9, 11, 13, 14, 15] [8] [(0, [4, 5, 9, 11, 13])]) K) (Slaw10_LogheadBack_n3v2 i) = nodelaw10_LogheadBack_n3v2 i (outlaw10_LogheadBack_n3v2 i K) := by kernel_rfl
theorem GNlaw10_LogheadBack_n3v2_ok : CSum Try.prog 136 Llaw10_LogheadBack_n3 (sumN declaw10_LogheadBack_n3v2 nodeDlaw10_LogheadBack_n3v2 outlaw10_LogheadBack_n3v2) := csum_node mixed tabOk envlaw10_LogheadBackOk 0 (exk [4, 5, 7, 9, 11, 13, 14, 15] [8] [(0, [4, 5, 9, 11, 13])]) annLlaw10_LogheadBack_n3_ok declaw10_LogheadBack_n3v2_ok nodelaw10_LogheadBack_n3v2_ok nodelaw10_LogheadBack_n3v2_nat
abbrev Ilaw10_LogheadBack_n3v3 := (List UInt8) × (List UInt8) × (Int) × (Int) × (Int) × (Int) × (Int) × (Int) × (Int) × (Int) × (Int) × (Int) × (Int) × (List Int)
abbrev Ylaw10_LogheadBack_n3v3 := ((List Int)) ⊕ (Unit)
def Slaw10_LogheadBack_n3v3 : Ilaw10_LogheadBack_n3v3 → St := fun (t9, t11, t14, o0_0, o0_1, o0_2, o1_0, o1_1, o1_2, o2_0, o2_1, o2_2, o2_3, o3) => { env := [(4, AV.ptr 0 0), (5, AV.ptr 1 0), (7, AV.ptr 2 0), (9, AV.str t9), (11, AV.str t11), (13, AV.own 3), (14, AV.int IntKind.i64 t14), (15, AV.int IntKind.i64 (3))], stk := [[]], H := [AE.Obj.cells [AV.int IntKind.i64 o0_0, AV.int IntKind.i64 o0_1, AV.int IntKind.i64 o0_2], AE.Obj.cells [AV.int IntKind.i64 o1_0, AV.int IntKind.i64 o1_1, AV.int IntKind.i64 o1_2], AE.Obj.cells [AV.int IntKind.u8 o2_0, AV.int IntKind.u8 o2_1, AV.int IntKind.u8 o2_2, AV.int IntKind.u8 o2_3], Obj.arr (Ty.int IntKind.u8) o3], blk := 32768 }
def declaw10_LogheadBack_n3v3 (s : St) : Option Ilaw10_LogheadBack_n3v3 := match s with
  | { env := [(4, AV.ptr 0 0), (5, AV.ptr 1 0), (7, AV.ptr 2 0), (9, AV.str t9), (11, AV.str t11), (13, AV.own 3), (14, AV.int IntKind.i64 t14), (15, AV.int IntKind.i64 r3)], stk := [[]], H := [AE.Obj.cells [AV.int IntKind.i64 o0_0, AV.int IntKind.i64 o0_1, AV.int IntKind.i64 o0_2], AE.Obj.cells [AV.int IntKind.i64 o1_0, AV.int IntKind.i64 o1_1, AV.int IntKind.i64 o1_2], AE.Obj.cells [AV.int IntKind.u8 o2_0, AV.int IntKind.u8 o2_1, AV.int IntKind.u8 o2_2, AV.int IntKind.u8 o2_3], Obj.arr (Ty.int IntKind.u8) o3], blk := 32768 } => cond (decide (r3 = 3)) (some (t9, t11, t14, o0_0, o0_1, o0_2, o1_0, o1_1, o1_2, o2_0, o2_1, o2_2, o2_3, o3)) none
  | _ => none
theorem declaw10_LogheadBack_n3v3_ok (s : St) (x : Ilaw10_LogheadBack_n3v3) (h : declaw10_LogheadBack_n3v3 s = some x) : s = Slaw10_LogheadBack_n3v3 x := by
  unfold declaw10_LogheadBack_n3v3 at h
  split at h
  · replace h := cond_noneO h; obtain ⟨hg, h⟩ := h; simp only [Bool.and_eq_true, decide_eq_true_eq] at hg; simp only [hg]; cases h; rfl
  · cases h
def outlaw10_LogheadBack_n3v3 : Ilaw10_LogheadBack_n3v3 → (Ex → St → Ans) → Ylaw10_LogheadBack_n3v3 → Ans := fun (t9, t11, t14, o0_0, o0_1, o0_2, o1_0, o1_1, o1_2, o2_0, o2_1, o2_2, o2_3, o3) K => (Sum.elim (fun o3_y => K (Ex.norm) { env := [(4, AV.ptr 0 0), (5, AV.ptr 1 0), (7, AV.ptr 2 0), (9, AV.str t9), (11, AV.str t11), (13, AV.own 3), (14, AV.int IntKind.i64 t14), (15, AV.int IntKind.i64 (4))], stk := [[]], H := [AE.Obj.cells [AV.int IntKind.i64 o0_0, AV.int IntKind.i64 o0_1, AV.int IntKind.i64 o0_2], AE.Obj.cells [AV.int IntKind.i64 o1_0, AV.int IntKind.i64 o1_1, AV.int IntKind.i64 o1_2], AE.Obj.cells [AV.int IntKind.u8 o2_0, AV.int IntKind.u8 o2_1, AV.int IntKind.u8 o2_2, AV.int IntKind.u8 o2_3], Obj.arr (Ty.int IntKind.u8) o3_y], blk := 32769 }) (fun _ => K (Ex.exit 0) { env := [(4, AV.ptr 0 0), (5, AV.ptr 1 0), (9, AV.str t9), (11, AV.str t11), (13, AV.own 2)], stk := [[]], H := [AE.Obj.cells [AV.int IntKind.i64 o0_0, AV.int IntKind.i64 o0_1, AV.int IntKind.i64 o0_2], AE.Obj.cells [AV.int IntKind.i64 o1_0, AV.int IntKind.i64 o1_1, AV.int IntKind.i64 o1_2], Obj.arr (Ty.int IntKind.u8) o3], blk := 32768 }))
def nodelaw10_LogheadBack_n3v3 {β : Type} : Ilaw10_LogheadBack_n3v3 → (Ylaw10_LogheadBack_n3v3 → Option β) → Option β := fun (t9, t11, t14, o0_0, o0_1, o0_2, o1_0, o1_1, o1_2, o2_0, o2_1, o2_2, o2_3, o3) exit => (bindO (nodeDlaw10_LogheadBack_n4v3 (t9, t11, t14, o0_0, o0_1, o0_2, o1_0, o1_1, o1_2, o2_0, o2_1, o2_2, o2_3, o3)) fun t71 => (bif t71 then (bif inR (IntKind.wrap IntKind.i64 (t14 + (3 : Int))) (List.length o3) then (bindO (o3[Int.toNat (IntKind.wrap IntKind.i64 (t14 + (3 : Int)))]?) fun x => (bif inR (IntKind.wrap IntKind.i64 (t14 + (3 : Int))) (List.length o3) then (bindO (o3[Int.toNat (IntKind.wrap IntKind.i64 (t14 + (3 : Int)))]?) fun x_2 => (exit (Sum.inl (List.set o3 (Int.toNat (IntKind.wrap IntKind.i64 (t14 + (3 : Int)))) (IntKind.wrap IntKind.u8 (↑(Int.toNat (x % (256 : Int)) ^^^ Int.toNat (o2_3 % (256 : Int))) : Int)))))) else none)) else none) else (exit (Sum.inr ()))))
def nodeDlaw10_LogheadBack_n3v3 (i : Ilaw10_LogheadBack_n3v3) : Option Ylaw10_LogheadBack_n3v3 := nodelaw10_LogheadBack_n3v3 i some
theorem nodelaw10_LogheadBack_n3v3_nat (i : Ilaw10_LogheadBack_n3v3) (k : Ylaw10_LogheadBack_n3v3 → Ans) : nodelaw10_LogheadBack_n3v3 i k = bindO (nodeDlaw10_LogheadBack_n3v3 i) k := by
  obtain ⟨t9, t11, t14, o0_0, o0_1, o0_2, o1_0, o1_1, o1_2, o2_0, o2_1, o2_2, o2_3, o3⟩ := i
  simp only [nodeDlaw10_LogheadBack_n3v3, nodelaw10_LogheadBack_n3v3, bindO_cond, bindO_assoc, bindO_none, bindO_pure, bindO_elim, bindO_unP]
theorem nodelaw10_LogheadBack_n3v3_ok (i : Ilaw10_LogheadBack_n3v3) (K : Ex → St → Ans) : codeI Try.tab envlaw10_LogheadBack noHint (codeD Try.tab envlaw10_LogheadBack noHint 0 64) 70 136 annLlaw10_LogheadBack_n3 Llaw10_LogheadBack_n3 (weakP 0 (exk [4, 5, 7, 9, 11, 13, 14, 15] [8] [(0, [4, 5, 9, 11, 13])]) K) (Slaw10_LogheadBack_n3v3 i) = nodelaw10_LogheadBack_n3v3 i (outlaw10_LogheadBack_n3v3 i K) := by kernel_rfl
theorem GNlaw10_LogheadBack_n3v3_ok : CSum Try.prog 136 Llaw10_LogheadBack_n3 (sumN declaw10_LogheadBack_n3v3 nodeDlaw10_LogheadBack_n3v3 outlaw10_LogheadBack_n3v3) := csum_node mixed tabOk envlaw10_LogheadBackOk 0 (exk [4, 5, 7, 9, 11, 13, 14, 15] [8] [(0, [4, 5, 9, 11, 13])]) annLlaw10_LogheadBack_n3_ok declaw10_LogheadBack_n3v3_ok nodelaw10_LogheadBack_n3v3_ok nodelaw10_LogheadBack_n3v3_nat
abbrev Ilaw10_LogheadBack_n3v4 := (List UInt8) × (List UInt8) × (Int) × (Int) × (Int) × (Int) × (Int) × (Int) × (Int) × (Int) × (Int) × (Int) × (Int) × (List Int)
abbrev Ylaw10_LogheadBack_n3v4 := Unit
def Slaw10_LogheadBack_n3v4 : Ilaw10_LogheadBack_n3v4 → St := fun (t9, t11, t14, o0_0, o0_1, o0_2, o1_0, o1_1, o1_2, o2_0, o2_1, o2_2, o2_3, o3) => { env := [(4, AV.ptr 0 0), (5, AV.ptr 1 0), (7, AV.ptr 2 0), (9, AV.str t9), (11, AV.str t11), (13, AV.own 3), (14, AV.int IntKind.i64 t14), (15, AV.int IntKind.i64 (4))], stk := [[]], H := [AE.Obj.cells [AV.int IntKind.i64 o0_0, AV.int IntKind.i64 o0_1, AV.int IntKind.i64 o0_2], AE.Obj.cells [AV.int IntKind.i64 o1_0, AV.int IntKind.i64 o1_1, AV.int IntKind.i64 o1_2], AE.Obj.cells [AV.int IntKind.u8 o2_0, AV.int IntKind.u8 o2_1, AV.int IntKind.u8 o2_2, AV.int IntKind.u8 o2_3], Obj.arr (Ty.int IntKind.u8) o3], blk := 32768 }
def declaw10_LogheadBack_n3v4 (s : St) : Option Ilaw10_LogheadBack_n3v4 := match s with
  | { env := [(4, AV.ptr 0 0), (5, AV.ptr 1 0), (7, AV.ptr 2 0), (9, AV.str t9), (11, AV.str t11), (13, AV.own 3), (14, AV.int IntKind.i64 t14), (15, AV.int IntKind.i64 r3)], stk := [[]], H := [AE.Obj.cells [AV.int IntKind.i64 o0_0, AV.int IntKind.i64 o0_1, AV.int IntKind.i64 o0_2], AE.Obj.cells [AV.int IntKind.i64 o1_0, AV.int IntKind.i64 o1_1, AV.int IntKind.i64 o1_2], AE.Obj.cells [AV.int IntKind.u8 o2_0, AV.int IntKind.u8 o2_1, AV.int IntKind.u8 o2_2, AV.int IntKind.u8 o2_3], Obj.arr (Ty.int IntKind.u8) o3], blk := 32768 } => cond (decide (r3 = 4)) (some (t9, t11, t14, o0_0, o0_1, o0_2, o1_0, o1_1, o1_2, o2_0, o2_1, o2_2, o2_3, o3)) none
  | _ => none
theorem declaw10_LogheadBack_n3v4_ok (s : St) (x : Ilaw10_LogheadBack_n3v4) (h : declaw10_LogheadBack_n3v4 s = some x) : s = Slaw10_LogheadBack_n3v4 x := by
  unfold declaw10_LogheadBack_n3v4 at h
  split at h
  · replace h := cond_noneO h; obtain ⟨hg, h⟩ := h; simp only [Bool.and_eq_true, decide_eq_true_eq] at hg; simp only [hg]; cases h; rfl
  · cases h
def outlaw10_LogheadBack_n3v4 : Ilaw10_LogheadBack_n3v4 → (Ex → St → Ans) → Ylaw10_LogheadBack_n3v4 → Ans := fun (t9, t11, t14, o0_0, o0_1, o0_2, o1_0, o1_1, o1_2, o2_0, o2_1, o2_2, o2_3, o3) K => fun _ => K (Ex.exit 0) { env := [(4, AV.ptr 0 0), (5, AV.ptr 1 0), (9, AV.str t9), (11, AV.str t11), (13, AV.own 2)], stk := [[]], H := [AE.Obj.cells [AV.int IntKind.i64 o0_0, AV.int IntKind.i64 o0_1, AV.int IntKind.i64 o0_2], AE.Obj.cells [AV.int IntKind.i64 o1_0, AV.int IntKind.i64 o1_1, AV.int IntKind.i64 o1_2], Obj.arr (Ty.int IntKind.u8) o3], blk := 32768 }
def nodelaw10_LogheadBack_n3v4 {β : Type} : Ilaw10_LogheadBack_n3v4 → (Ylaw10_LogheadBack_n3v4 → Option β) → Option β := fun (t9, t11, t14, o0_0, o0_1, o0_2, o1_0, o1_1, o1_2, o2_0, o2_1, o2_2, o2_3, o3) exit => (bindO (nodeDlaw10_LogheadBack_n4v4 (t9, t11, t14, o0_0, o0_1, o0_2, o1_0, o1_1, o1_2, o2_0, o2_1, o2_2, o2_3, o3)) fun _ => (exit ()))
def nodeDlaw10_LogheadBack_n3v4 (i : Ilaw10_LogheadBack_n3v4) : Option Ylaw10_LogheadBack_n3v4 := nodelaw10_LogheadBack_n3v4 i some
theorem nodelaw10_LogheadBack_n3v4_nat (i : Ilaw10_LogheadBack_n3v4) (k : Ylaw10_LogheadBack_n3v4 → Ans) : nodelaw10_LogheadBack_n3v4 i k = bindO (nodeDlaw10_LogheadBack_n3v4 i) k := by
  obtain ⟨t9, t11, t14, o0_0, o0_1, o0_2, o1_0, o1_1, o1_2, o2_0, o2_1, o2_2, o2_3, o3⟩ := i
  simp only [nodeDlaw10_LogheadBack_n3v4, nodelaw10_LogheadBack_n3v4, bindO_cond, bindO_assoc, bindO_none, bindO_pure, bindO_elim, bindO_unP]
theorem nodelaw10_LogheadBack_n3v4_ok (i : Ilaw10_LogheadBack_n3v4) (K : Ex → St → Ans) : codeI Try.tab envlaw10_LogheadBack noHint (codeD Try.tab envlaw10_LogheadBack noHint 0 64) 70 136 annLlaw10_LogheadBack_n3 Llaw10_LogheadBack_n3 (weakP 0 (exk [4, 5, 7, 9, 11, 13, 14, 15] [8] [(0, [4, 5, 9, 11, 13])]) K) (Slaw10_LogheadBack_n3v4 i) = nodelaw10_LogheadBack_n3v4 i (outlaw10_LogheadBack_n3v4 i K) := by kernel_rfl
theorem GNlaw10_LogheadBack_n3v4_ok : CSum Try.prog 136 Llaw10_LogheadBack_n3 (sumN declaw10_LogheadBack_n3v4 nodeDlaw10_LogheadBack_n3v4 outlaw10_LogheadBack_n3v4) := csum_node mixed tabOk envlaw10_LogheadBackOk 0 (exk [4, 5, 7, 9, 11, 13, 14, 15] [8] [(0, [4, 5, 9, 11, 13])]) annLlaw10_LogheadBack_n3_ok declaw10_LogheadBack_n3v4_ok nodelaw10_LogheadBack_n3v4_ok nodelaw10_LogheadBack_n3v4_nat
noncomputable def Glaw10_LogheadBack_n3 : (Ex → St → Ans) → St → Ans := (altN declaw10_LogheadBack_n3 (sumN declaw10_LogheadBack_n3 nodeDlaw10_LogheadBack_n3 outlaw10_LogheadBack_n3) (altN declaw10_LogheadBack_n3v1 (sumN declaw10_LogheadBack_n3v1 nodeDlaw10_LogheadBack_n3v1 outlaw10_LogheadBack_n3v1) (altN declaw10_LogheadBack_n3v2 (sumN declaw10_LogheadBack_n3v2 nodeDlaw10_LogheadBack_n3v2 outlaw10_LogheadBack_n3v2) (altN declaw10_LogheadBack_n3v3 (sumN declaw10_LogheadBack_n3v3 nodeDlaw10_LogheadBack_n3v3 outlaw10_LogheadBack_n3v3) (sumN declaw10_LogheadBack_n3v4 nodeDlaw10_LogheadBack_n3v4 outlaw10_LogheadBack_n3v4)))))
theorem Glaw10_LogheadBack_n3_ok : CSum Try.prog 136 Llaw10_LogheadBack_n3 Glaw10_LogheadBack_n3 := (csum_altN GNlaw10_LogheadBack_n3_ok (csum_altN GNlaw10_LogheadBack_n3v1_ok (csum_altN GNlaw10_LogheadBack_n3v2_ok (csum_altN GNlaw10_LogheadBack_n3v3_ok GNlaw10_LogheadBack_n3v4_ok))))
noncomputable def Llaw10_LogheadBack_n2 : Code := codeAt [1, 1, 1, 1, 1, 1, 1, 0, 1] blaw10_LogheadBack
noncomputable def annLlaw10_LogheadBack_n2 : Ann := (.block (.at 0 [4, 5, 7, 9, 11, 13, 14, 15] (.loop (.cut 0 [4, 5, 7, 9, 11, 13, 14, 15] Glaw10_LogheadBack_n3))))
theorem annLlaw10_LogheadBack_n2_ok : AnnOk Try.prog 136 Llaw10_LogheadBack_n2 annLlaw10_LogheadBack_n2 := (annOk_at Glaw10_LogheadBack_n3_ok)
abbrev Ilaw10_LogheadBack_n2 := (List UInt8) × (List UInt8) × (Int) × (Int) × (Int) × (Int) × (Int) × (Int) × (Int) × (Int) × (Int) × (Int) × (Int) × (List Int)
abbrev Ylaw10_LogheadBack_n2 := (List Int)
def Slaw10_LogheadBack_n2 : Ilaw10_LogheadBack_n2 → St := fun (t9, t11, t14, o0_0, o0_1, o0_2, o1_0, o1_1, o1_2, o2_0, o2_1, o2_2, o2_3, o3) => { env := [(4, AV.ptr 0 0), (5, AV.ptr 1 0), (7, AV.ptr 2 0), (9, AV.str t9), (11, AV.str t11), (13, AV.own 3), (14, AV.int IntKind.i64 t14), (15, AV.int IntKind.i64 (0))], stk := [[]], H := [AE.Obj.cells [AV.int IntKind.i64 o0_0, AV.int IntKind.i64 o0_1, AV.int IntKind.i64 o0_2], AE.Obj.cells [AV.int IntKind.i64 o1_0, AV.int IntKind.i64 o1_1, AV.int IntKind.i64 o1_2], AE.Obj.cells [AV.int IntKind.u8 o2_0, AV.int IntKind.u8 o2_1, AV.int IntKind.u8 o2_2, AV.int IntKind.u8 o2_3], Obj.arr (Ty.int IntKind.u8) o3], blk := 32768 }
def declaw10_LogheadBack_n2 (s : St) : Option Ilaw10_LogheadBack_n2 := match s with
  | { env := [(4, AV.ptr 0 0), (5, AV.ptr 1 0), (7, AV.ptr 2 0), (9, AV.str t9), (11, AV.str t11), (13, AV.own 3), (14, AV.int IntKind.i64 t14), (15, AV.int IntKind.i64 r3)], stk := [[]], H := [AE.Obj.cells [AV.int IntKind.i64 o0_0, AV.int IntKind.i64 o0_1, AV.int IntKind.i64 o0_2], AE.Obj.cells [AV.int IntKind.i64 o1_0, AV.int IntKind.i64 o1_1, AV.int IntKind.i64 o1_2], AE.Obj.cells [AV.int IntKind.u8 o2_0, AV.int IntKind.u8 o2_1, AV.int IntKind.u8 o2_2, AV.int IntKind.u8 o2_3], Obj.arr (Ty.int IntKind.u8) o3], blk := 32768 } => cond (decide (r3 = 0)) (some (t9, t11, t14, o0_0, o0_1, o0_2, o1_0, o1_1, o1_2, o2_0, o2_1, o2_2, o2_3, o3)) none
  | _ => none
theorem declaw10_LogheadBack_n2_ok (s : St) (x : Ilaw10_LogheadBack_n2) (h : declaw10_LogheadBack_n2 s = some x) : s = Slaw10_LogheadBack_n2 x := by
  unfold declaw10_LogheadBack_n2 at h
  split at h
  · replace h := cond_noneO h; obtain ⟨hg, h⟩ := h; simp only [Bool.and_eq_true, decide_eq_true_eq] at hg; simp only [hg]; cases h; rfl
  · cases h
def outlaw10_LogheadBack_n2 : Ilaw10_LogheadBack_n2 → (Ex → St → Ans) → Ylaw10_LogheadBack_n2 → Ans := fun (t9, t11, t14, o0_0, o0_1, o0_2, o1_0, o1_1, o1_2, o2_0, o2_1, o2_2, o2_3, o3) K => fun o2_y => K (Ex.norm) { env := [(4, AV.ptr 0 0), (5, AV.ptr 1 0), (9, AV.str t9), (11, AV.str t11), (13, AV.own 2)], stk := [[]], H := [AE.Obj.cells [AV.int IntKind.i64 o0_0, AV.int IntKind.i64 o0_1, AV.int IntKind.i64 o0_2], AE.Obj.cells [AV.int IntKind.i64 o1_0, AV.int IntKind.i64 o1_1, AV.int IntKind.i64 o1_2], Obj.arr (Ty.int IntKind.u8) o2_y], blk := 32768 }
def nodelaw10_LogheadBack_n2 {β : Type} : Ilaw10_LogheadBack_n2 → (Ylaw10_LogheadBack_n2 → Option β) → Option β := fun (t9, t11, t14, o0_0, o0_1, o0_2, o1_0, o1_1, o1_2, o2_0, o2_1, o2_2, o2_3, o3) exit => (bindO (nodeDlaw10_LogheadBack_n3 (t9, t11, t14, o0_0, o0_1, o0_2, o1_0, o1_1, o1_2, o2_0, o2_1, o2_2, o2_3, o3)) (Sum.elim (fun o3_2 => (bindO (nodeDlaw10_LogheadBack_n3v1 (t9, t11, t14, o0_0, o0_1, o0_2, o1_0, o1_1, o1_2, o2_0, o2_1, o2_2, o2_3, o3_2)) (Sum.elim (fun o3_3 => (bindO (nodeDlaw10_LogheadBack_n3v2 (t9, t11, t14, o0_0, o0_1, o0_2, o1_0, o1_1, o1_2, o2_0, o2_1, o2_2, o2_3, o3_3)) (Sum.elim (fun o3_4 => (bindO (nodeDlaw10_LogheadBack_n3v3 (t9, t11, t14, o0_0, o0_1, o0_2, o1_0, o1_1, o1_2, o2_0, o2_1, o2_2, o2_3, o3_4)) (Sum.elim (fun o3_5 => (bindO (nodeDlaw10_LogheadBack_n3v4 (t9, t11, t14, o0_0, o0_1, o0_2, o1_0, o1_1, o1_2, o2_0, o2_1, o2_2, o2_3, o3_5)) fun _ => (exit (o3_5)))) (fun _ => (exit (o3_4)))))) (fun _ => (exit (o3_3)))))) (fun _ => (exit (o3_2)))))) (fun _ => (exit (o3)))))
def nodeDlaw10_LogheadBack_n2 (i : Ilaw10_LogheadBack_n2) : Option Ylaw10_LogheadBack_n2 := nodelaw10_LogheadBack_n2 i some
theorem nodelaw10_LogheadBack_n2_nat (i : Ilaw10_LogheadBack_n2) (k : Ylaw10_LogheadBack_n2 → Ans) : nodelaw10_LogheadBack_n2 i k = bindO (nodeDlaw10_LogheadBack_n2 i) k := by
  obtain ⟨t9, t11, t14, o0_0, o0_1, o0_2, o1_0, o1_1, o1_2, o2_0, o2_1, o2_2, o2_3, o3⟩ := i
  simp only [nodeDlaw10_LogheadBack_n2, nodelaw10_LogheadBack_n2, bindO_cond, bindO_assoc, bindO_none, bindO_pure, bindO_elim, bindO_unP]
theorem nodelaw10_LogheadBack_n2_ok (i : Ilaw10_LogheadBack_n2) (K : Ex → St → Ans) : codeI Try.tab envlaw10_LogheadBack noHint (codeD Try.tab envlaw10_LogheadBack noHint 0 64) 70 136 annLlaw10_LogheadBack_n2 Llaw10_LogheadBack_n2 (weakP 0 (exk [4, 5, 9, 11, 13] [8] []) K) (Slaw10_LogheadBack_n2 i) = nodelaw10_LogheadBack_n2 i (outlaw10_LogheadBack_n2 i K) := by kernel_rfl
theorem GNlaw10_LogheadBack_n2_ok : CSum Try.prog 136 Llaw10_LogheadBack_n2 (sumN declaw10_LogheadBack_n2 nodeDlaw10_LogheadBack_n2 outlaw10_LogheadBack_n2) := csum_node mixed tabOk envlaw10_LogheadBackOk 0 (exk [4, 5, 9, 11, 13] [8] []) annLlaw10_LogheadBack_n2_ok declaw10_LogheadBack_n2_ok nodelaw10_LogheadBack_n2_ok nodelaw10_LogheadBack_n2_nat
noncomputable def Glaw10_LogheadBack_n2 : (Ex → St → Ans) → St → Ans := (sumN declaw10_LogheadBack_n2 nodeDlaw10_LogheadBack_n2 outlaw10_LogheadBack_n2)
theorem Glaw10_LogheadBack_n2_ok : CSum Try.prog 136 Llaw10_LogheadBack_n2 Glaw10_LogheadBack_n2 := GNlaw10_LogheadBack_n2_ok
noncomputable def Llaw10_LogheadBack_n1 : Code := codeAt [1, 1, 1, 1, 0, 1, 0, 0] blaw10_LogheadBack
noncomputable def annLlaw10_LogheadBack_n1 : Ann := .none
theorem annLlaw10_LogheadBack_n1_ok : AnnOk Try.prog 136 Llaw10_LogheadBack_n1 annLlaw10_LogheadBack_n1 := (annOk_none _ _ _)
abbrev Ilaw10_LogheadBack_n1 := (Int) × (Int)
abbrev Ylaw10_LogheadBack_n1 := (Bool)
def Slaw10_LogheadBack_n1 : Ilaw10_LogheadBack_n1 → St := fun (t10, t12) => { env := [(10, AV.int IntKind.i64 t10), (12, AV.int IntKind.i64 t12)], stk := [[]], H := [], blk := 32768 }
def declaw10_LogheadBack_n1 (s : St) : Option Ilaw10_LogheadBack_n1 := match s with
  | { env := [(10, AV.int IntKind.i64 t10), (12, AV.int IntKind.i64 t12)], stk := [[]], H := [], blk := 32768 } => some (t10, t12)
  | _ => none
theorem declaw10_LogheadBack_n1_ok (s : St) (x : Ilaw10_LogheadBack_n1) (h : declaw10_LogheadBack_n1 s = some x) : s = Slaw10_LogheadBack_n1 x := by
  unfold declaw10_LogheadBack_n1 at h
  split at h
  · cases h; rfl
  · cases h
def outlaw10_LogheadBack_n1 : Ilaw10_LogheadBack_n1 → (Ex → St → Ans) → Ylaw10_LogheadBack_n1 → Ans := fun (t10, t12) K => fun t8_y => K (Ex.norm) { env := [(8, AV.bool t8_y)], stk := [[]], H := [], blk := 32768 }
def nodelaw10_LogheadBack_n1 {β : Type} : Ilaw10_LogheadBack_n1 → (Ylaw10_LogheadBack_n1 → Option β) → Option β := fun (t10, t12) exit => (bif t10 != (0 : Int) then (exit (true)) else (exit (t12 != (0 : Int))))
def nodeDlaw10_LogheadBack_n1 (i : Ilaw10_LogheadBack_n1) : Option Ylaw10_LogheadBack_n1 := nodelaw10_LogheadBack_n1 i some
theorem nodelaw10_LogheadBack_n1_nat (i : Ilaw10_LogheadBack_n1) (k : Ylaw10_LogheadBack_n1 → Ans) : nodelaw10_LogheadBack_n1 i k = bindO (nodeDlaw10_LogheadBack_n1 i) k := by
  obtain ⟨t10, t12⟩ := i
  simp only [nodeDlaw10_LogheadBack_n1, nodelaw10_LogheadBack_n1, bindO_cond, bindO_assoc, bindO_none, bindO_pure, bindO_elim, bindO_unP]
theorem nodelaw10_LogheadBack_n1_ok (i : Ilaw10_LogheadBack_n1) (K : Ex → St → Ans) : codeI Try.tab envlaw10_LogheadBack noHint (codeD Try.tab envlaw10_LogheadBack noHint 0 64) 70 136 annLlaw10_LogheadBack_n1 Llaw10_LogheadBack_n1 (weakP 0 (exk [8] [8] []) K) (Slaw10_LogheadBack_n1 i) = nodelaw10_LogheadBack_n1 i (outlaw10_LogheadBack_n1 i K) := by kernel_rfl
theorem GNlaw10_LogheadBack_n1_ok : CSum Try.prog 136 Llaw10_LogheadBack_n1 (sumN declaw10_LogheadBack_n1 nodeDlaw10_LogheadBack_n1 outlaw10_LogheadBack_n1) := csum_node mixed tabOk envlaw10_LogheadBackOk 0 (exk [8] [8] []) annLlaw10_LogheadBack_n1_ok declaw10_LogheadBack_n1_ok nodelaw10_LogheadBack_n1_ok nodelaw10_LogheadBack_n1_nat
noncomputable def Glaw10_LogheadBack_n1 : (Ex → St → Ans) → St → Ans := (sumN declaw10_LogheadBack_n1 nodeDlaw10_LogheadBack_n1 outlaw10_LogheadBack_n1)
theorem Glaw10_LogheadBack_n1_ok : CSum Try.prog 136 Llaw10_LogheadBack_n1 Glaw10_LogheadBack_n1 := GNlaw10_LogheadBack_n1_ok
noncomputable def Llaw10_LogheadBack_n0 : Code := codeAt [1, 1, 1, 1, 0, 0] blaw10_LogheadBack
noncomputable def annLlaw10_LogheadBack_n0 : Ann := .none
theorem annLlaw10_LogheadBack_n0_ok : AnnOk Try.prog 136 Llaw10_LogheadBack_n0 annLlaw10_LogheadBack_n0 := (annOk_none _ _ _)
abbrev Ilaw10_LogheadBack_n0 := (Int) × (List UInt8) × (Int) × (List UInt8) × (Int) × (Int) × (Int) × (Int) × (Int) × (Int) × (Int) × (Int) × (Int) × (Int) × (Int)
abbrev Ylaw10_LogheadBack_n0 := (Bool)
def Slaw10_LogheadBack_n0 : Ilaw10_LogheadBack_n0 → St := fun (t2, t9, t10, t11, t12, o0_0, o0_1, o0_2, o1_0, o1_1, o1_2, o2_0, o2_1, o2_2, o2_3) => { env := [(2, AV.int IntKind.i64 t2), (4, AV.ptr 0 0), (5, AV.ptr 1 0), (7, AV.ptr 2 0), (9, AV.str t9), (10, AV.int IntKind.i64 t10), (11, AV.str t11), (12, AV.int IntKind.i64 t12)], stk := [[]], H := [AE.Obj.cells [AV.int IntKind.i64 o0_0, AV.int IntKind.i64 o0_1, AV.int IntKind.i64 o0_2], AE.Obj.cells [AV.int IntKind.i64 o1_0, AV.int IntKind.i64 o1_1, AV.int IntKind.i64 o1_2], AE.Obj.cells [AV.int IntKind.u8 o2_0, AV.int IntKind.u8 o2_1, AV.int IntKind.u8 o2_2, AV.int IntKind.u8 o2_3]], blk := 32768 }
def declaw10_LogheadBack_n0 (s : St) : Option Ilaw10_LogheadBack_n0 := match s with
  | { env := [(2, AV.int IntKind.i64 t2), (4, AV.ptr 0 0), (5, AV.ptr 1 0), (7, AV.ptr 2 0), (9, AV.str t9), (10, AV.int IntKind.i64 t10), (11, AV.str t11), (12, AV.int IntKind.i64 t12)], stk := [[]], H := [AE.Obj.cells [AV.int IntKind.i64 o0_0, AV.int IntKind.i64 o0_1, AV.int IntKind.i64 o0_2], AE.Obj.cells [AV.int IntKind.i64 o1_0, AV.int IntKind.i64 o1_1, AV.int IntKind.i64 o1_2], AE.Obj.cells [AV.int IntKind.u8 o2_0, AV.int IntKind.u8 o2_1, AV.int IntKind.u8 o2_2, AV.int IntKind.u8 o2_3]], blk := 32768 } => some (t2, t9, t10, t11, t12, o0_0, o0_1, o0_2, o1_0, o1_1, o1_2, o2_0, o2_1, o2_2, o2_3)
  | _ => none
theorem declaw10_LogheadBack_n0_ok (s : St) (x : Ilaw10_LogheadBack_n0) (h : declaw10_LogheadBack_n0 s = some x) : s = Slaw10_LogheadBack_n0 x := by
  unfold declaw10_LogheadBack_n0 at h
  split at h
  · cases h; rfl
  · cases h
def outlaw10_LogheadBack_n0 : Ilaw10_LogheadBack_n0 → (Ex → St → Ans) → Ylaw10_LogheadBack_n0 → Ans := fun (t2, t9, t10, t11, t12, o0_0, o0_1, o0_2, o1_0, o1_1, o1_2, o2_0, o2_1, o2_2, o2_3) K => fun t46_y => K (Ex.norm) { env := [(2, AV.int IntKind.i64 t2), (4, AV.ptr 0 0), (5, AV.ptr 1 0), (7, AV.ptr 2 0), (9, AV.str t9), (10, AV.int IntKind.i64 t10), (11, AV.str t11), (12, AV.int IntKind.i64 t12), (46, AV.bool t46_y)], stk := [[]], H := [AE.Obj.cells [AV.int IntKind.i64 o0_0, AV.int IntKind.i64 o0_1, AV.int IntKind.i64 o0_2], AE.Obj.cells [AV.int IntKind.i64 o1_0, AV.int IntKind.i64 o1_1, AV.int IntKind.i64 o1_2], AE.Obj.cells [AV.int IntKind.u8 o2_0, AV.int IntKind.u8 o2_1, AV.int IntKind.u8 o2_2, AV.int IntKind.u8 o2_3]], blk := 32768 }
def nodelaw10_LogheadBack_n0 {β : Type} : Ilaw10_LogheadBack_n0 → (Ylaw10_LogheadBack_n0 → Option β) → Option β := fun (t2, t9, t10, t11, t12, o0_0, o0_1, o0_2, o1_0, o1_1, o1_2, o2_0, o2_1, o2_2, o2_3) exit => (bif t10 != (0 : Int) then (exit (true)) else (bif t12 != (0 : Int) then (exit (true)) else (exit ((↑(List.length t9) : Int) != (64 : Int)))))
def nodeDlaw10_LogheadBack_n0 (i : Ilaw10_LogheadBack_n0) : Option Ylaw10_LogheadBack_n0 := nodelaw10_LogheadBack_n0 i some
theorem nodelaw10_LogheadBack_n0_nat (i : Ilaw10_LogheadBack_n0) (k : Ylaw10_LogheadBack_n0 → Ans) : nodelaw10_LogheadBack_n0 i k = bindO (nodeDlaw10_LogheadBack_n0 i) k := by
  obtain ⟨t2, t9, t10, t11, t12, o0_0, o0_1, o0_2, o1_0, o1_1, o1_2, o2_0, o2_1, o2_2, o2_3⟩ := i
  simp only [nodeDlaw10_LogheadBack_n0, nodelaw10_LogheadBack_n0, bindO_cond, bindO_assoc, bindO_none, bindO_pure, bindO_elim, bindO_unP]
theorem nodelaw10_LogheadBack_n0_ok (i : Ilaw10_LogheadBack_n0) (K : Ex → St → Ans) : codeI Try.tab envlaw10_LogheadBack noHint (codeD Try.tab envlaw10_LogheadBack noHint 0 64) 70 136 annLlaw10_LogheadBack_n0 Llaw10_LogheadBack_n0 (weakP 0 (exk [2, 4, 5, 7, 9, 10, 11, 12, 46] [8] []) K) (Slaw10_LogheadBack_n0 i) = nodelaw10_LogheadBack_n0 i (outlaw10_LogheadBack_n0 i K) := by kernel_rfl
theorem GNlaw10_LogheadBack_n0_ok : CSum Try.prog 136 Llaw10_LogheadBack_n0 (sumN declaw10_LogheadBack_n0 nodeDlaw10_LogheadBack_n0 outlaw10_LogheadBack_n0) := csum_node mixed tabOk envlaw10_LogheadBackOk 0 (exk [2, 4, 5, 7, 9, 10, 11, 12, 46] [8] []) annLlaw10_LogheadBack_n0_ok declaw10_LogheadBack_n0_ok nodelaw10_LogheadBack_n0_ok nodelaw10_LogheadBack_n0_nat
noncomputable def Glaw10_LogheadBack_n0 : (Ex → St → Ans) → St → Ans := (sumN declaw10_LogheadBack_n0 nodeDlaw10_LogheadBack_n0 outlaw10_LogheadBack_n0)
theorem Glaw10_LogheadBack_n0_ok : CSum Try.prog 136 Llaw10_LogheadBack_n0 Glaw10_LogheadBack_n0 := GNlaw10_LogheadBack_n0_ok
noncomputable def annlaw10_LogheadBack : Ann := (.seq .none (.seq .none (.seq .none (.seq .none (.seq (.seq (.cut 0 [2, 4, 5, 7, 9, 10, 11, 12] Glaw10_LogheadBack_n0) (.cond (.seq (.cut 0 [10, 12] Glaw10_LogheadBack_n1) .none) .none)) (.seq .none (.seq .none (.seq (.seq .none (.cut 0 [4, 5, 7, 9, 11, 13, 14, 15] Glaw10_LogheadBack_n2)) (.seq .none (.seq .none (.seq .none (.seq (.seq (.cut 0 [4, 5, 9, 13, 16, 17, 19, 20, 21] Glaw10_LogheadBack_n5) .none) (.seq (.cut 0 [5, 19, 20] Glaw10_LogheadBack_n6) .none)))))))))))))
theorem annlaw10_LogheadBack_ok : AnnOk Try.prog 136 blaw10_LogheadBack annlaw10_LogheadBack := ⟨(annOk_none _ _ _), ⟨(annOk_none _ _ _), ⟨(annOk_none _ _ _), ⟨(annOk_none _ _ _), ⟨⟨Glaw10_LogheadBack_n0_ok, ⟨⟨Glaw10_LogheadBack_n1_ok, (annOk_none _ _ _)⟩, (annOk_none _ _ _)⟩⟩, ⟨(annOk_none _ _ _), ⟨(annOk_none _ _ _), ⟨⟨(annOk_none _ _ _), Glaw10_LogheadBack_n2_ok⟩, ⟨(annOk_none _ _ _), ⟨(annOk_none _ _ _), ⟨(annOk_none _ _ _), ⟨⟨Glaw10_LogheadBack_n5_ok, (annOk_none _ _ _)⟩, ⟨Glaw10_LogheadBack_n6_ok, (annOk_none _ _ _)⟩⟩⟩⟩⟩⟩⟩⟩⟩⟩⟩⟩⟩
abbrev Alaw10_LogheadBack := (Int) × (Int) × (Int) × (Int) × (Int) × (Int) × (Int) × (Int) × (Int) × (Int) × (Int)
abbrev Ylaw10_LogheadBack := (Bool)
def fnlaw10_LogheadBack {β : Type} : Alaw10_LogheadBack → (Ylaw10_LogheadBack → Option β) → Option β := fun (a0_0, a0_1, a0_2, a1_0, a1_1, a1_2, a2, a3_0, a3_1, a3_2, a3_3) exit => (bindO (fnDlaw10_works ()) fun r => (bif !r then (exit (false)) else (bindO (fnDlaw10_own (a0_0, a0_1, a0_2)) fun _ => (bindO (fnDloghead_Put (a0_0, a0_1, a0_2)) (unP fun r_0 r_1 => (bindO (fnDlaw10_own (a1_0, a1_1, a1_2)) fun _ => (bindO (fnDloghead_Put (a1_0, a1_1, a1_2)) (unP fun r_0_2 r_1_2 => (bindO (nodeDlaw10_LogheadBack_n0 (a2, r_0, r_1, r_0_2, r_1_2, a0_0, a0_1, a0_2, a1_0, a1_1, a1_2, a3_0, a3_1, a3_2, a3_3)) fun t46 => (bif t46 then (bindO (nodeDlaw10_LogheadBack_n1 (r_1, r_1_2)) fun t8 => (exit (t8))) else (bif Nat.ble (List.length r_0) (140737488355328 : Nat) then (bif IntKind.wrap IntKind.u64 (↑(List.length (intsOf r_0)) : Int) == (0 : Int) then none else (bindO (nodeDlaw10_LogheadBack_n2 (r_0, r_0_2, IntKind.wrap IntKind.i64 (Int.tmod (IntKind.wrap IntKind.u64 a2) (IntKind.wrap IntKind.u64 (↑(List.length (intsOf r_0)) : Int))), a0_0, a0_1, a0_2, a1_0, a1_1, a1_2, a3_0, a3_1, a3_2, a3_3, intsOf r_0)) fun o2 => (bindO (fnDloghead_Get (r_0)) (unP fun r_0_0 => unP fun r_0_1 => unP fun r_0_2_2 r_1_3 => (bindO (fnDloghead_Get (bytesOf o2)) (unP fun r_0_0_2 => unP fun r_0_1_2 => unP fun r_0_2_3 r_1_4 => (bindO (fnDloghead_Newer (bytesOf o2, r_0_2)) (unP fun r_0_0_3 => unP fun r_0_1_3 => unP fun r_0_2_4 r_1_5 => (bindO (nodeDlaw10_LogheadBack_n5 (r_0, r_1_3, r_1_4, r_1_5, a0_0, a0_1, a0_2, a1_0, a1_1, a1_2, o2, r_0_0, r_0_1, r_0_2_2, r_0_0_3, r_0_1_3, r_0_2_4)) fun t127 => (bif t127 then (exit (false)) else (bindO (nodeDlaw10_LogheadBack_n6 (r_1_4, a1_0, a1_1, a1_2, r_0_0_3, r_0_1_3, r_0_2_4)) fun t8 => (exit (t8))))))))))))) else none)))))))))))
def fnDlaw10_LogheadBack (a : Alaw10_LogheadBack) : Option Ylaw10_LogheadBack := fnlaw10_LogheadBack a some
theorem fnlaw10_LogheadBack_nat (a : Alaw10_LogheadBack) (k : Ylaw10_LogheadBack → Ans) : fnlaw10_LogheadBack a k = bindO (fnDlaw10_LogheadBack a) k := by
  obtain ⟨a0_0, a0_1, a0_2, a1_0, a1_1, a1_2, a2, a3_0, a3_1, a3_2, a3_3⟩ := a
  simp only [fnDlaw10_LogheadBack, fnlaw10_LogheadBack, bindO_cond, bindO_assoc, bindO_none, bindO_pure, bindO_elim, bindO_unP]
def argslaw10_LogheadBack : Alaw10_LogheadBack → List AV × List AE.Obj := fun (a0_0, a0_1, a0_2, a1_0, a1_1, a1_2, a2, a3_0, a3_1, a3_2, a3_3) => ([AV.agg [AV.int IntKind.i64 a0_0, AV.int IntKind.i64 a0_1, AV.int IntKind.i64 a0_2], AV.agg [AV.int IntKind.i64 a1_0, AV.int IntKind.i64 a1_1, AV.int IntKind.i64 a1_2], AV.int IntKind.i64 a2, AV.agg [AV.int IntKind.u8 a3_0, AV.int IntKind.u8 a3_1, AV.int IntKind.u8 a3_2, AV.int IntKind.u8 a3_3]], [])
def decAlaw10_LogheadBack (l : List AV) (H : List AE.Obj) : Option Alaw10_LogheadBack := match l, H with
  | [AV.agg [AV.int IntKind.i64 a0_0, AV.int IntKind.i64 a0_1, AV.int IntKind.i64 a0_2], AV.agg [AV.int IntKind.i64 a1_0, AV.int IntKind.i64 a1_1, AV.int IntKind.i64 a1_2], AV.int IntKind.i64 a2, AV.agg [AV.int IntKind.u8 a3_0, AV.int IntKind.u8 a3_1, AV.int IntKind.u8 a3_2, AV.int IntKind.u8 a3_3]], [] => some (a0_0, a0_1, a0_2, a1_0, a1_1, a1_2, a2, a3_0, a3_1, a3_2, a3_3)
  | _, _ => none
theorem decAlaw10_LogheadBack_ok (l : List AV) (H : List AE.Obj) (a : Alaw10_LogheadBack) (h : decAlaw10_LogheadBack l H = some a) : (l, H) = argslaw10_LogheadBack a := by
  unfold decAlaw10_LogheadBack at h
  split at h
  · cases h; rfl
  · cases h
def outlaw10_LogheadBack : Alaw10_LogheadBack → (AV → List AE.Obj → Ans) → Ylaw10_LogheadBack → Ans := fun (a0_0, a0_1, a0_2, a1_0, a1_1, a1_2, a2, a3_0, a3_1, a3_2, a3_3) K => fun r_y => K (AV.bool r_y) []
theorem fnlaw10_LogheadBack_ok (a : Alaw10_LogheadBack) (K : AV → List AE.Obj → Ans) : fnE Try.tab envlaw10_LogheadBack noHint 0 70 8 Try.f8.ntmps Try.f8.results.toList annlaw10_LogheadBack blaw10_LogheadBack (argslaw10_LogheadBack a).1 (argslaw10_LogheadBack a).2 K = fnlaw10_LogheadBack a (outlaw10_LogheadBack a K) := by kernel_rfl
def vFlaw10_LogheadBack (a : Alaw10_LogheadBack) (K : AV → List AE.Obj → Ans) : Ans := bindO (fnDlaw10_LogheadBack a) fun y => outlaw10_LogheadBack a K y
def Flaw10_LogheadBack : List AV → List AE.Obj → (AV → List AE.Obj → Ans) → Ans := fun l H K => bindO (decAlaw10_LogheadBack l H) fun a => vFlaw10_LogheadBack a K
theorem Flaw10_LogheadBack_ok : FuncOk Try.prog 8 Flaw10_LogheadBack := func_mkD (hint := noHint) (d := 0) (n := 70) mixed tabOk envlaw10_LogheadBackOk Try.func8 (bodySome (by kernel_rfl)) (by decide +kernel) annlaw10_LogheadBack_ok decAlaw10_LogheadBack_ok fnlaw10_LogheadBack_ok fnlaw10_LogheadBack_nat
end Go.Proofs.R2
namespace Go.Proofs.R2
open Go Go.AE Go.Plain

abbrev MayH (g s a : Int) : Prop := (0 ≤ g ∧ g < 281474976710656) ∧ (0 ≤ s ∧ s < 281474976710656) ∧ 0 ≤ a ∧ a ≤ 200
def bodyH (g s a : Int) : List UInt8 := putN (putN (putN [76] g 6) s 6) a 2
def sectH (g s a : Int) : List UInt8 := padTo (bodyH g s a ++ tail (bodyH g s a))
theorem bodyH_le (g s a : Int) : (bodyH g s a).length ≤ 15 := by
  unfold bodyH
  have h1 := putN_len [76] g 6
  have h2 := putN_len (putN [76] g 6) s 6
  have h3 := putN_len (putN (putN [76] g 6) s 6) a 2
  simp only [List.length_cons, List.length_nil] at h1
  omega
theorem may_eq (g s a : Int) : fnDloghead_Head_may (g, s, a) = some (decide (MayH g s a)) := by
  have w : ∀ n b : Int, fnDloghead_within (n, b) = some (decide (0 ≤ n ∧ n < b)) := fun n b => by
    simp only [fnDloghead_within, fnloghead_within, nodeDloghead_within_n0, nodeloghead_within_n0]
    by_cases h : n ≥ 0 <;> simp [h, bindO_pure, show 0 ≤ n ↔ n ≥ 0 from Iff.rfl]
  simp only [fnDloghead_Head_may, fnloghead_Head_may, nodeDloghead_Head_may_n0, nodeloghead_Head_may_n0, w, bindO_pure]
  have h : ∀ (p q r : Prop) [Decidable p] [Decidable q] [Decidable r], (bindO (bif decide p then bif decide q then some (decide r) else some false else some false) fun t2 => some t2) = some (decide (p ∧ q ∧ r)) := by
    intro p q r _ _ _
    by_cases hp : p <;> by_cases hq : q <;> by_cases hr : r <;> simp [hp, hq, hr, bindO_pure]
  have e := h (0 ≤ g ∧ g < 281474976710656) (0 ≤ s ∧ s < 281474976710656) (0 ≤ a ∧ a < 201)
  rw [e]
  congr 1
  rw [decide_eq_decide]
  omega
theorem refmay_eq (g s a : Int) : fnDref10_May (g, s, a) = some (decide (MayH g s a)) := by
  simp only [fnDref10_May, fnref10_May, nodeDref10_May_n0, noderef10_May_n0]
  by_cases h1 : g ≥ 0 <;> by_cases h2 : g < 281474976710656 <;> by_cases h3 : s ≥ 0 <;> by_cases h4 : s < 281474976710656 <;> by_cases h5 : a ≥ 0 <;>
    simp [h1, h2, h3, h4, h5, bindO_pure, show 0 ≤ g ↔ g ≥ 0 from Iff.rfl, show 0 ≤ s ↔ s ≥ 0 from Iff.rfl, show 0 ≤ a ↔ a ≥ 0 from Iff.rfl]
def putH (g s a : Int) : List UInt8 × Int := if MayH g s a then (sectH g s a, 0) else ([], 3)
theorem put_eq (g s a : Int) : fnDloghead_Put (g, s, a) = some (putH g s a) := by
  simp only [fnDloghead_Put, fnloghead_Put, may_eq, bindO_pure]
  unfold putH
  by_cases h : MayH g s a
  · rw [if_pos h, dec_true h]
    have h1 := putN_len [76] g 6
    have h2 := putN_len (putN [76] g 6) s 6
    simp only [List.length_cons, List.length_nil] at h1
    have hb := bodyH_le g s a
    have e1 := field_Put_eq [76] g 6 (by omega) (by simp)
    have e2 := field_Put_eq (putN [76] g 6) s 6 (by omega) (by omega)
    have e3 := field_Put_eq (putN (putN [76] g 6) s 6) a 2 (by omega) (by omega)
    simp only [Int.cast_ofNat_Int] at e1 e2 e3
    change fnDfield_Put (_, _, _) = some (bodyH g s a) at e3
    simp only [Bool.not_true, cond_false, e1, e2, e3, bindO_pure, cyclic_Tail_eq _ (show (bodyH g s a).length ≤ 1000000000000 by omega), tail_length, ble_true (show (bodyH g s a).length + 4 ≤ 9223372036854775807 by omega), cond_true,
      region_Pad_eq _ (show (bodyH g s a ++ tail (bodyH g s a)).length ≤ 1000000000000 by rw [List.length_append, tail_length]; omega)]
    rfl
  · rw [if_neg h, dec_false h]
    rfl
theorem refput_eq (g s a : Int) (hg : -9223372036854775808 ≤ g ∧ g ≤ 9223372036854775807) (hs : -9223372036854775808 ≤ s ∧ s ≤ 9223372036854775807) (ha : -9223372036854775808 ≤ a ∧ a ≤ 9223372036854775807) : fnDref10_Put (g, s, a) = some (putH g s a) := by
  simp only [fnDref10_Put, fnref10_Put, refmay_eq, bindO_pure]
  unfold putH
  by_cases h : MayH g s a
  · rw [if_pos h, dec_true h]
    have h1 := putN_len [76] g 6
    have h2 := putN_len (putN [76] g 6) s 6
    simp only [List.length_cons, List.length_nil] at h1
    have hb := bodyH_le g s a
    have e1 := ref02_Put_eq [76] g 6 (by omega) hg (by simp)
    have e2 := ref02_Put_eq (putN [76] g 6) s 6 (by omega) hs (by omega)
    have e3 := ref02_Put_eq (putN (putN [76] g 6) s 6) a 2 (by omega) ha (by omega)
    simp only [Int.cast_ofNat_Int] at e1 e2 e3
    change fnDref02_Put (_, _, _) = some (bodyH g s a) at e3
    simp only [Bool.not_true, cond_false, e1, e2, e3, bindO_pure, ref03_Tail_eq _ (show (bodyH g s a).length ≤ 1000000000000 by omega), tail_length, ble_true (show (bodyH g s a).length + 4 ≤ 9223372036854775807 by omega), cond_true,
      ref09_Pad_eq _ (show (bodyH g s a ++ tail (bodyH g s a)).length ≤ 1000000000000 by rw [List.length_append, tail_length]; omega)]
    rfl
  · rw [if_neg h, dec_false h]
    rfl
/-- The head that bytes say. -/
abbrev nH (t : List UInt8) (i k : Nat) : Int := ((num ((t.drop i).take k) : Nat) : Int)
def finH (p : List UInt8 × Int) (t : List UInt8) (x : Int × Int × Int) : Int × Int × Int × Int := if p = (t, 0) then (x.1, x.2.1, x.2.2, 0) else (0, 0, 0, 4)
def getH' (t : List UInt8) : Int × Int × Int × Int :=
  if t.length ≠ 64 then (0, 0, 0, 12) else if t.take 1 ≠ [76] then (0, 0, 0, 4) else if (t.drop 15).take 4 ≠ tail (t.take 15) then (0, 0, 0, 5) else
    finH (putH (nH t 1 6) (nH t 7 6) (nH t 13 2)) t (nH t 1 6, nH t 7 6, nH t 13 2)
theorem fin_eq (p : List UInt8 × Int) (t : List UInt8) (x : Int × Int × Int) :
    (bindO (bif p.2 != 0 then some true else some (!p.1 == t) : Option Bool) fun b => bif b then some (0, 0, 0, 4) else some (x.1, x.2.1, x.2.2, 0)) = some (finH p t x) := by
  obtain ⟨s, e⟩ := p
  unfold finH
  by_cases he : e = 0
  · subst he
    by_cases hs : s = t
    · subst hs; simp [bindO_pure]
    · have : (s == t) = false := by simpa using hs
      simp [hs, this, bindO_pure]
  · have : (e != 0) = true := by simpa using he
    simp [this, he, bindO_pure]
theorem get_tail (t : List UInt8) (pp : List UInt8 × Int) (x1 x2 x3 : Int) :
    (unP (fun r_0 r_1 => bindO (nodeDloghead_Get_n0 (t, r_0, r_1, x1, x2, x3)) fun b => bif b then some (0, 0, 0, 4) else some (x1, x2, x3, 0)) pp : Option (Int × Int × Int × Int)) = some (finH pp t (x1, x2, x3)) := by
  obtain ⟨s, e⟩ := pp
  simp only [unP, nodeDloghead_Get_n0, nodeloghead_Get_n0]
  exact fin_eq (s, e) t (x1, x2, x3)
theorem refget_tail (t : List UInt8) (pp : List UInt8 × Int) (x1 x2 x3 : Int) :
    (unP (fun r_0 r_1 => bindO (nodeDref10_Get_n0 (t, r_0, r_1, x1, x2, x3)) fun b => bif b then some (0, 0, 0, 4) else some (x1, x2, x3, 0)) pp : Option (Int × Int × Int × Int)) = some (finH pp t (x1, x2, x3)) := by
  obtain ⟨s, e⟩ := pp
  simp only [unP, nodeDref10_Get_n0, noderef10_Get_n0]
  exact fin_eq (s, e) t (x1, x2, x3)
theorem get_eq (t : List UInt8) (hl : t.length ≤ 1000000000000) : fnDloghead_Get t = some (getH' t) := by
  unfold getH'
  simp only [fnDloghead_Get, fnloghead_Get]
  by_cases h64 : t.length = 64
  · have e1 : ((t.length : Int) != 64) = false := by rw [h64]; rfl
    rw [if_neg (by simpa using h64), e1, cond_false]
    simp only [fnDfield_New, fnfield_New, bindO_pure]
    have b1 := Reader_Bytes_eq 1 t (by omega) hl
    simp only [Int.cast_ofNat_Int] at b1
    rw [b1]
    simp only [bindO_pure, unP]
    by_cases hm : t.take 1 = [76]
    · rw [if_neg (by simpa using hm), hm]
      have n1 := Reader_Num_eq 6 (t.drop 1) (by omega) (by rw [List.length_drop]; omega) (by rw [List.length_drop]; omega)
      have n2 := Reader_Num_eq 6 (t.drop 7) (by omega) (by rw [List.length_drop]; omega) (by rw [List.length_drop]; omega)
      have n3 := Reader_Num_eq 2 (t.drop 13) (by omega) (by rw [List.length_drop]; omega) (by rw [List.length_drop]; omega)
      have b4 := Reader_Bytes_eq 4 (t.drop 15) (by rw [List.length_drop]; omega) (by rw [List.length_drop]; omega)
      simp only [Int.cast_ofNat_Int, List.drop_drop, Nat.reduceAdd] at n1 n2 n3 b4
      simp only [beq_self_eq_true, Bool.not_true, cond_false, n1, n2, n3, bindO_pure, unP]
      rw [inR_true (show (0 : Int) ≤ 15 ∧ (15 : Int) < ((t.length + 1 : Nat) : Int) by omega), cond_true]
      simp only [cyclic_Tail_eq _ (show (t.take 15).length ≤ 1000000000000 by rw [List.length_take]; omega), bindO_pure, tail_length, Int.cast_ofNat_Int]
      rw [b4]
      simp only [bindO_pure, unP]
      generalize tail (t.take 15) = tl
      by_cases ht : (t.drop 15).take 4 = tl
      · rw [if_neg (fun h => h ht), ht, beq_self_eq_true, Bool.not_true, cond_false]
        rw [put_eq (nH t 1 6) (nH t 7 6) (nH t 13 2), bindO_pure]
        exact get_tail t _ _ _ _
      · have : ((t.drop 15).take 4 == tl) = false := beq_eq_false_iff_ne.2 ht
        rw [if_pos ht, this]
        rfl
    · have : (t.take 1 == [76]) = false := by simpa using hm
      rw [if_pos (by simpa using hm), this]
      rfl
  · have e1 : ((t.length : Int) != 64) = true := by rw [bne_iff_ne]; omega
    rw [if_pos (by simpa using h64), e1]
    rfl
theorem refnumber_eq (s : List UInt8) (hs : s.length ≤ 7) : fnDref10_number s = some ((num s : Nat) : Int) := by
  have := number_loop (fun s => stepDref10_number_n0 s) s hs (fun n j h => by simp only [stepDref10_number_n0, stepref10_number_n0, h, cond_true]) (fun n j h => by simp only [stepDref10_number_n0, stepref10_number_n0, h, cond_false])
  simp only [fnDref10_number, fnref10_number, this, bindO_pure]
theorem num_bound (s : List UInt8) (hs : s.length ≤ 6) : -9223372036854775808 ≤ ((num s : Nat) : Int) ∧ ((num s : Nat) : Int) ≤ 9223372036854775807 := by
  have hn := num_lt s
  have hp : 256 ^ s.length ≤ 256 ^ 6 := Nat.pow_le_pow_right (by omega) hs
  omega
theorem refget_eq (t : List UInt8) (hl : t.length ≤ 1000000000000) : fnDref10_Get t = some (getH' t) := by
  unfold getH'
  simp only [fnDref10_Get, fnref10_Get]
  by_cases h64 : t.length = 64
  · have e1 : ((t.length : Int) != 64) = false := by rw [h64]; rfl
    rw [if_neg (by simpa using h64), e1, cond_false]
    obtain ⟨c, r, rfl⟩ : ∃ c r, t = c :: r := by
      cases t with
      | nil => simp at h64
      | cons c r => exact ⟨c, r, rfl⟩
    have h0 : nth (c :: r) 0 = some c := rfl
    rw [h0]
    simp only [bindO_pure]
    by_cases hm : c = 76
    · subst hm
      have e2 : (((76 : UInt8).toNat : Int) != 76) = false := rfl
      rw [e2, cond_false, if_neg (by simp)]
      generalize ht : (76 : UInt8) :: r = t at h64 hl
      have i1 : (inR 19 (t.length + 1) && inR 15 20) = true := by rw [inR_true (by omega), inR_true (by omega)]; rfl
      have i2 : inR 15 (t.length + 1) = true := inR_true (by omega)
      have i3 : (inR 7 (t.length + 1) && inR 1 8) = true := by rw [inR_true (by omega), inR_true (by omega)]; rfl
      have i4 : (inR 13 (t.length + 1) && inR 7 14) = true := by rw [inR_true (by omega), inR_true (by omega)]; rfl
      have i5 : (inR 15 (t.length + 1) && inR 13 16) = true := by rw [inR_true (by omega), inR_true (by omega)]; rfl
      have l1 : ((t.drop 1).take 6).length ≤ 6 := by rw [List.length_take]; omega
      have l2 : ((t.drop 7).take 6).length ≤ 6 := by rw [List.length_take]; omega
      have l3 : ((t.drop 13).take 2).length ≤ 6 := by rw [List.length_take]; omega
      simp only [Bool.and_eq_true] at i1 i3 i4 i5
      simp only [i1.1, i1.2, i2, i3.1, i3.2, i4.1, i4.2, i5.2, Bool.and_self, cond_true, ref03_Tail_eq _ (show (t.take 15).length ≤ 1000000000000 by rw [List.length_take]; omega), bindO_pure]
      generalize tail (t.take 15) = tl
      by_cases htt : (t.drop 15).take 4 = tl
      · rw [if_neg (fun h => h htt), htt]
        rw [beq_self_eq_true, Bool.not_true, cond_false, refnumber_eq _ (Nat.le_trans l1 (by omega)), bindO_pure, refnumber_eq _ (Nat.le_trans l2 (by omega)), bindO_pure, refnumber_eq _ (Nat.le_trans l3 (by omega)), bindO_pure,
          refput_eq (nH t 1 6) (nH t 7 6) (nH t 13 2) (num_bound _ l1) (num_bound _ l2) (num_bound _ l3), bindO_pure]
        exact refget_tail t _ _ _ _
      · have : ((t.drop 15).take 4 == tl) = false := beq_eq_false_iff_ne.2 htt
        rw [if_pos htt, this]
        rfl
    · have e2 : ((c.toNat : Int) != 76) = true := by
        rw [bne_iff_ne]
        intro h
        apply hm
        have : c.toNat = (76 : UInt8).toNat := by
          have : c.toNat = 76 := by omega
          rw [this]; rfl
        exact UInt8.toNat_inj.1 this
      rw [e2, if_pos (by simpa using hm)]
      rfl
  · have e1 : ((t.length : Int) != 64) = true := by rw [bne_iff_ne]; omega
    rw [if_pos (by simpa using h64), e1]
    rfl
def newerH (a b : List UInt8) : Int × Int × Int × Int :=
  let x := getH' a; let y := getH' b
  if x.2.2.2 ≠ 0 ∧ y.2.2.2 ≠ 0 then (0, 0, 0, 8) else if x.2.2.2 ≠ 0 ∨ y.2.2.2 = 0 ∧ y.1 > x.1 then (y.1, y.2.1, y.2.2.1, 0) else (x.1, x.2.1, x.2.2.1, 0)
theorem refnewer_eq (a b : List UInt8) (ha : a.length ≤ 1000000000000) (hb : b.length ≤ 1000000000000) : fnDref10_Newer (a, b) = some (newerH a b) := by
  simp only [fnDref10_Newer, fnref10_Newer, refget_eq a ha, refget_eq b hb, bindO_pure, unP, nodeDref10_Newer_n0, noderef10_Newer_n0, nodeDref10_Newer_n1, noderef10_Newer_n1, nodeDref10_Newer_n2, noderef10_Newer_n2]
  unfold newerH
  generalize getH' a = x
  generalize getH' b = y
  obtain ⟨x1, x2, x3, x4⟩ := x
  obtain ⟨y1, y2, y3, y4⟩ := y
  by_cases h1 : x4 = 0 <;> by_cases h2 : y4 = 0 <;> by_cases h3 : y1 > x1 <;> simp [h1, h2, h3, bindO_pure, unP, ibeq, ibne]
theorem newer_eq (a b : List UInt8) (ha : a.length ≤ 1000000000000) (hb : b.length ≤ 1000000000000) : fnDloghead_Newer (a, b) = some (newerH a b) := by
  have step : ∀ (l : List (List UInt8)) (n : Int) (t7 : Bool) (j : Nat) (p q r : Int) (t : List UInt8), l[j]? = some t → t.length ≤ 1000000000000 → (j : Int) < n → n ≤ 100 →
      stepDloghead_Newer_n0 (n, l) (t7, (j : Int), p, q, r) = some (.inl (let x := getH' t; if x.2.2.2 = 0 ∧ (t7 = false ∨ x.1 > p) then (true, ((j + 1 : Nat) : Int), x.1, x.2.1, x.2.2.1) else (t7, ((j + 1 : Nat) : Int), p, q, r))) := by
    intro l n t7 j p q r t hj ht hn hn'
    have hlt : j < l.length := (List.getElem?_eq_some_iff.1 hj).1
    simp only [stepDloghead_Newer_n0, steploghead_Newer_n0, nodeDloghead_Newer_n1, nodeloghead_Newer_n1, nodeDloghead_Newer_n2, nodeloghead_Newer_n2, dec_true hn, cond_true, inR_true (show (0 : Int) ≤ (j : Int) ∧ (j : Int) < (l.length : Int) by omega), Int.toNat_natCast, hj, bindO_pure, get_eq t ht, unP]
    generalize getH' t = x
    obtain ⟨x1, x2, x3, x4⟩ := x
    rw [wrap64_nat (show j < 9223372036854775807 by omega)]
    by_cases h4 : x4 = 0
    · subst h4
      cases t7 with
      | false => simp [bindO_pure, unP]
      | true =>
        by_cases hg : x1 > p
        · have : (x1 == p) = false := by rw [beq_eq_false_iff_ne]; omega
          simp [this, hg, bindO_pure, unP]
        · generalize (x1 == p && (x2 == q && (x3 == r && true))) = bb
          cases bb <;> simp [hg, bindO_pure, unP]
    · have : (x4 == 0) = false := by simpa using h4
      simp [this, h4, bindO_pure, unP]
  have s0 := step [a, b] 2 false 0 0 0 0 a rfl ha (by omega) (by omega)
  have key : ∃ y, loopD (stepDloghead_Newer_n0 (2, [a, b])) FUEL (false, 0, 0, 0, 0) = some y ∧ (bif !y.1 then (y.2.1, y.2.2.1, y.2.2.2, (8 : Int)) else (y.2.1, y.2.2.1, y.2.2.2, 0)) = newerH a b := by
    have e : ∀ (n : Nat) (v : Bool × Int × Int × Int × Int), 3 ≤ n → loopD (stepDloghead_Newer_n0 (2, [a, b])) n v = some (v.1, v.2.2.1, v.2.2.2.1, v.2.2.2.2) ∨ True := fun _ _ _ => .inr trivial
    let x := getH' a
    let v1 : Bool × Int × Int × Int × Int := if x.2.2.2 = 0 ∧ (false = false ∨ x.1 > 0) then (true, ((0 + 1 : Nat) : Int), x.1, x.2.1, x.2.2.1) else (false, ((0 + 1 : Nat) : Int), 0, 0, 0)
    have hv1 : ∃ t p q r, v1 = (t, 1, p, q, r) ∧ (t = true → x.2.2.2 = 0 ∧ p = x.1 ∧ q = x.2.1 ∧ r = x.2.2.1) ∧ (t = false → x.2.2.2 ≠ 0 ∧ p = 0 ∧ q = 0 ∧ r = 0) := by
      by_cases h : x.2.2.2 = 0
      · exact ⟨true, x.1, x.2.1, x.2.2.1, by show (if _ then _ else _) = _; rw [if_pos ⟨h, .inl rfl⟩]; rfl, fun _ => ⟨h, rfl, rfl, rfl⟩, fun hh => by cases hh⟩
      · exact ⟨false, 0, 0, 0, by show (if _ then _ else _) = _; rw [if_neg fun g => h g.1]; rfl, fun hh => (by cases hh), fun _ => ⟨h, rfl, rfl, rfl⟩⟩
    obtain ⟨t, p, q, r, hv, ht, hf⟩ := hv1
    have s1 := step [a, b] 2 t 1 p q r b rfl hb (by omega) (by omega)
    have s2 : ∀ (t : Bool) (p q r : Int), stepDloghead_Newer_n0 (2, [a, b]) (t, 2, p, q, r) = some (.inr (t, p, q, r)) := fun t p q r => by
      simp only [stepDloghead_Newer_n0, steploghead_Newer_n0]
      rfl
    have run3 : ∃ y, loopD (stepDloghead_Newer_n0 (2, [a, b])) 3 (false, 0, 0, 0, 0) = some y ∧ (bif !y.1 then (y.2.1, y.2.2.1, y.2.2.2, (8 : Int)) else (y.2.1, y.2.2.1, y.2.2.2, 0)) = newerH a b := by
      have s0' : stepDloghead_Newer_n0 (2, [a, b]) (false, 0, 0, 0, 0) = some (.inl v1) := s0
      rw [loopD, s0', bindO_pure, Sum.elim_inl, hv, loopD]
      have s1' : stepDloghead_Newer_n0 (2, [a, b]) (t, 1, p, q, r) = _ := s1
      rw [s1', bindO_pure, Sum.elim_inl]
      have hx : getH' a = x := rfl
      unfold newerH
      rw [hx]
      generalize getH' b = y
      obtain ⟨y1, y2, y3, y4⟩ := y
      obtain ⟨x1, x2, x3, x4⟩ := x
      simp only at ht hf ⊢
      split
      · rename_i hc
        refine ⟨(true, y1, y2, y3), by rw [loopD]; exact congrArg (fun o => bindO o _) (s2 true y1 y2 y3), ?_⟩
        cases t with
        | false =>
          obtain ⟨h1, _⟩ := hf rfl
          rw [if_neg (fun h => h.2 hc.1), if_pos (.inl h1)]; rfl
        | true =>
          obtain ⟨h1, rfl, rfl, rfl⟩ := ht rfl
          have hgt := hc.2.resolve_left (by simp)
          rw [if_neg (fun h => h.2 hc.1), if_pos (.inr ⟨hc.1, hgt⟩)]; rfl
      · rename_i hc
        refine ⟨(t, p, q, r), by rw [loopD]; exact congrArg (fun o => bindO o _) (s2 t p q r), ?_⟩
        cases t with
        | false =>
          obtain ⟨h1, rfl, rfl, rfl⟩ := hf rfl
          have h2 : y4 ≠ 0 := fun h => hc ⟨h, .inl rfl⟩
          rw [if_pos ⟨h1, h2⟩]; rfl
        | true =>
          obtain ⟨h1, rfl, rfl, rfl⟩ := ht rfl
          rw [if_neg (fun h => h.1 h1), if_neg]
          · rfl
          · rintro (h | ⟨h, h'⟩)
            · exact h h1
            · exact hc ⟨h, .inr h'⟩
    obtain ⟨y, hy, h⟩ := run3
    exact ⟨y, loopD_more _ _ _ _ (by unfold FUEL; omega) hy, h⟩
  obtain ⟨⟨t, p, q, r⟩, hy, h⟩ := key
  simp only [fnDloghead_Newer, fnloghead_Newer, List.length_cons, List.length_nil]
  have hy' : loopD (stepDloghead_Newer_n0 ((((0 + 1 + 1 : Nat)) : Int), [a, b])) FUEL (false, 0, 0, 0, 0) = _ := hy
  rw [hy']
  simp only [bindO_pure, unP]
  cases t <;> exact congrArg some h
theorem own_eq (g s a : Int) : fnDlaw10_own (g, s, a) = some () := rfl
theorem works10 : fnDlaw10_works () = some true := by kernel_rfl
theorem LogheadPuts_true (g s a : Int) (hg : -9223372036854775808 ≤ g ∧ g ≤ 9223372036854775807) (hs : -9223372036854775808 ≤ s ∧ s ≤ 9223372036854775807) (ha : -9223372036854775808 ≤ a ∧ a ≤ 9223372036854775807) : fnDlaw10_LogheadPuts (g, s, a) = some true := by
  simp only [fnDlaw10_LogheadPuts, fnlaw10_LogheadPuts, works10, own_eq, put_eq, refput_eq g s a hg hs ha, bindO_pure, Bool.not_true, cond_false, unP, nodeDlaw10_LogheadPuts_n0, nodelaw10_LogheadPuts_n0, beq_self_eq_true, cond_true]
theorem LogheadGets_true (a b : List UInt8) (ha : a.length ≤ 9223372036854775807) (hb : b.length ≤ 9223372036854775807) : fnDlaw10_LogheadGets (a, b) = some true := by
  simp only [fnDlaw10_LogheadGets, fnlaw10_LogheadGets, works10, bindO_pure, Bool.not_true, cond_false, nodeDlaw10_LogheadGets_n0, nodelaw10_LogheadGets_n0]
  by_cases h1 : (a.length : Int) > 3000
  · rw [dec_true h1]; rfl
  · rw [dec_false h1, cond_false]
    simp only [bindO_pure]
    by_cases h2 : (b.length : Int) > 3000
    · rw [dec_true h2]; rfl
    · rw [dec_false h2, cond_false]
      simp only [get_eq a (by omega), refget_eq a (by omega), newer_eq a b (by omega) (by omega), refnewer_eq a b (by omega) (by omega), bindO_pure, unP, nodeDlaw10_LogheadGets_n1, nodelaw10_LogheadGets_n1, own_eq, beq_self_eq_true, Bool.and_self, cond_true]
end Go.Proofs.R2
namespace Go.Proofs.R2
open Go Go.AE Go.Plain
theorem law10_LogheadBack_turned (p0 : List UInt8) (p1 : List UInt8) (m0 m1 m2 m3 m4 m5 m6 m7 m8 m9 : Int) (k : Nat) (hk : k ≤ 1000) (o : List Int) (hl : o.length ≤ 1000) : ∃ o', nodeDlaw10_LogheadBack_n2 (p0, p1, (k : Int), m0, m1, m2, m3, m4, m5, m6, m7, m8, m9, o) = some o' ∧ Turned k o o' := by
  have r0 : ∀ o : List Int, o.length ≤ 1000 → ∃ v, nodeDlaw10_LogheadBack_n3 (p0, p1, (k : Int), m0, m1, m2, m3, m4, m5, m6, m7, m8, m9, o) = some (if k + 0 < o.length then .inl (o.set (k + 0) v) else .inr ()) := by
    intro o hl
    have w : IntKind.wrap .i64 ((k : Int) + 0) = ((k + 0 : Nat) : Int) := by rw [wrap64 (by omega) (by omega)]; omega
    simp only [nodeDlaw10_LogheadBack_n3, nodelaw10_LogheadBack_n3, nodeDlaw10_LogheadBack_n4, nodelaw10_LogheadBack_n4, bindO_pure, w]
    by_cases h : k + 0 < o.length
    · have hx : o[k + 0]? = some o[k + 0] := List.getElem?_eq_getElem h
      generalize o[k + 0] = x at hx
      simp only [dec_true (show ((k + 0 : Nat) : Int) < (o.length : Int) by omega), inR_true (show (0 : Int) ≤ ((k + 0 : Nat) : Int) ∧ ((k + 0 : Nat) : Int) < (o.length : Int) by omega), cond_true, Int.toNat_natCast, hx, bindO_pure, if_pos h]
      exact ⟨_, rfl⟩
    · simp only [dec_false (show ¬ ((k + 0 : Nat) : Int) < (o.length : Int) by omega), cond_false, if_neg h]
      first | exact ⟨0, rfl⟩ | exact ⟨0, True.intro⟩
  have r1 : ∀ o : List Int, o.length ≤ 1000 → ∃ v, nodeDlaw10_LogheadBack_n3v1 (p0, p1, (k : Int), m0, m1, m2, m3, m4, m5, m6, m7, m8, m9, o) = some (if k + 1 < o.length then .inl (o.set (k + 1) v) else .inr ()) := by
    intro o hl
    have w : IntKind.wrap .i64 ((k : Int) + 1) = ((k + 1 : Nat) : Int) := by rw [wrap64 (by omega) (by omega)]; omega
    simp only [nodeDlaw10_LogheadBack_n3v1, nodelaw10_LogheadBack_n3v1, nodeDlaw10_LogheadBack_n4v1, nodelaw10_LogheadBack_n4v1, bindO_pure, w]
    by_cases h : k + 1 < o.length
    · have hx : o[k + 1]? = some o[k + 1] := List.getElem?_eq_getElem h
      generalize o[k + 1] = x at hx
      simp only [dec_true (show ((k + 1 : Nat) : Int) < (o.length : Int) by omega), inR_true (show (0 : Int) ≤ ((k + 1 : Nat) : Int) ∧ ((k + 1 : Nat) : Int) < (o.length : Int) by omega), cond_true, Int.toNat_natCast, hx, bindO_pure, if_pos h]
      exact ⟨_, rfl⟩
    · simp only [dec_false (show ¬ ((k + 1 : Nat) : Int) < (o.length : Int) by omega), cond_false, if_neg h]
      first | exact ⟨0, rfl⟩ | exact ⟨0, True.intro⟩
  have r2 : ∀ o : List Int, o.length ≤ 1000 → ∃ v, nodeDlaw10_LogheadBack_n3v2 (p0, p1, (k : Int), m0, m1, m2, m3, m4, m5, m6, m7, m8, m9, o) = some (if k + 2 < o.length then .inl (o.set (k + 2) v) else .inr ()) := by
    intro o hl
    have w : IntKind.wrap .i64 ((k : Int) + 2) = ((k + 2 : Nat) : Int) := by rw [wrap64 (by omega) (by omega)]; omega
    simp only [nodeDlaw10_LogheadBack_n3v2, nodelaw10_LogheadBack_n3v2, nodeDlaw10_LogheadBack_n4v2, nodelaw10_LogheadBack_n4v2, bindO_pure, w]
    by_cases h : k + 2 < o.length
    · have hx : o[k + 2]? = some o[k + 2] := List.getElem?_eq_getElem h
      generalize o[k + 2] = x at hx
      simp only [dec_true (show ((k + 2 : Nat) : Int) < (o.length : Int) by omega), inR_true (show (0 : Int) ≤ ((k + 2 : Nat) : Int) ∧ ((k + 2 : Nat) : Int) < (o.length : Int) by omega), cond_true, Int.toNat_natCast, hx, bindO_pure, if_pos h]
      exact ⟨_, rfl⟩
    · simp only [dec_false (show ¬ ((k + 2 : Nat) : Int) < (o.length : Int) by omega), cond_false, if_neg h]
      first | exact ⟨0, rfl⟩ | exact ⟨0, True.intro⟩
  have r3 : ∀ o : List Int, o.length ≤ 1000 → ∃ v, nodeDlaw10_LogheadBack_n3v3 (p0, p1, (k : Int), m0, m1, m2, m3, m4, m5, m6, m7, m8, m9, o) = some (if k + 3 < o.length then .inl (o.set (k + 3) v) else .inr ()) := by
    intro o hl
    have w : IntKind.wrap .i64 ((k : Int) + 3) = ((k + 3 : Nat) : Int) := by rw [wrap64 (by omega) (by omega)]; omega
    simp only [nodeDlaw10_LogheadBack_n3v3, nodelaw10_LogheadBack_n3v3, nodeDlaw10_LogheadBack_n4v3, nodelaw10_LogheadBack_n4v3, bindO_pure, w]
    by_cases h : k + 3 < o.length
    · have hx : o[k + 3]? = some o[k + 3] := List.getElem?_eq_getElem h
      generalize o[k + 3] = x at hx
      simp only [dec_true (show ((k + 3 : Nat) : Int) < (o.length : Int) by omega), inR_true (show (0 : Int) ≤ ((k + 3 : Nat) : Int) ∧ ((k + 3 : Nat) : Int) < (o.length : Int) by omega), cond_true, Int.toNat_natCast, hx, bindO_pure, if_pos h]
      exact ⟨_, rfl⟩
    · simp only [dec_false (show ¬ ((k + 3 : Nat) : Int) < (o.length : Int) by omega), cond_false, if_neg h]
      first | exact ⟨0, rfl⟩ | exact ⟨0, True.intro⟩
  simp only [nodeDlaw10_LogheadBack_n2, nodelaw10_LogheadBack_n2]
  obtain ⟨v0, h0⟩ := r0 o hl
  rw [h0, bindO_pure]
  by_cases c0 : k + 0 < (o).length
  rotate_left
  · rw [if_neg c0, Sum.elim_inr]
    exact ⟨_, rfl, Turned.refl k o⟩
  rw [if_pos c0, Sum.elim_inl]
  obtain ⟨v1, h1⟩ := r1 ((o).set (k + 0) v0) (by rw [List.length_set]; exact hl)
  rw [h1, bindO_pure]
  by_cases c1 : k + 1 < ((o).set (k + 0) v0).length
  rotate_left
  · rw [if_neg c1, Sum.elim_inr]
    exact ⟨_, rfl, (Turned.refl k o).set ⟨by omega, by omega⟩ v0⟩
  rw [if_pos c1, Sum.elim_inl]
  obtain ⟨v2, h2⟩ := r2 (((o).set (k + 0) v0).set (k + 1) v1) (by rw [List.length_set]; exact (by rw [List.length_set]; exact hl))
  rw [h2, bindO_pure]
  by_cases c2 : k + 2 < (((o).set (k + 0) v0).set (k + 1) v1).length
  rotate_left
  · rw [if_neg c2, Sum.elim_inr]
    exact ⟨_, rfl, ((Turned.refl k o).set ⟨by omega, by omega⟩ v0).set ⟨by omega, by omega⟩ v1⟩
  rw [if_pos c2, Sum.elim_inl]
  obtain ⟨v3, h3⟩ := r3 ((((o).set (k + 0) v0).set (k + 1) v1).set (k + 2) v2) (by rw [List.length_set]; exact (by rw [List.length_set]; exact (by rw [List.length_set]; exact hl)))
  rw [h3, bindO_pure]
  by_cases c3 : k + 3 < ((((o).set (k + 0) v0).set (k + 1) v1).set (k + 2) v2).length
  rotate_left
  · rw [if_neg c3, Sum.elim_inr]
    exact ⟨_, rfl, (((Turned.refl k o).set ⟨by omega, by omega⟩ v0).set ⟨by omega, by omega⟩ v1).set ⟨by omega, by omega⟩ v2⟩
  rw [if_pos c3, Sum.elim_inl]
  exact ⟨_, rfl, ((((Turned.refl k o).set ⟨by omega, by omega⟩ v0).set ⟨by omega, by omega⟩ v1).set ⟨by omega, by omega⟩ v2).set ⟨by omega, by omega⟩ v3⟩

theorem putN_in (s : List UInt8) {n : Int} {k : Nat} (h : 0 ≤ n ∧ n < ((256 ^ k : Nat) : Int)) : putN s n k = s ++ be k n.toNat := by unfold putN; rw [if_pos h]
theorem bodyH_may {g s a : Int} (h : MayH g s a) : bodyH g s a = 76 :: (be 6 g.toNat ++ (be 6 s.toNat ++ be 2 a.toNat)) := by
  unfold bodyH
  rw [putN_in _ (k := 6) (n := g) (by omega), putN_in _ (k := 6) (n := s) (by omega), putN_in _ (k := 2) (n := a) (by omega)]
  simp
theorem sectH_sealed {g s a : Int} (h : MayH g s a) : Sealed 15 (sectH g s a) := ⟨bodyH g s a, by rw [bodyH_may h]; simp [be_length], rfl⟩
theorem sectH_get {g s a : Int} (h : MayH g s a) : getH' (sectH g s a) = (g, s, a, 0) := by
  have hs := sectH_sealed h
  have hlen := hs.length (by omega)
  have hb : (bodyH g s a).length = 15 := by rw [bodyH_may h]; simp [be_length]
  have e : sectH g s a = bodyH g s a ++ (tail (bodyH g s a) ++ List.replicate (60 - 15) 0) := by
    unfold sectH
    rw [padTo_sealed (by omega), hb, List.append_assoc]
  have t15 : (sectH g s a).take 15 = bodyH g s a := by rw [e, List.take_append_of_le_length (by omega), List.take_of_length_le (by omega)]
  have d15 : ((sectH g s a).drop 15).take 4 = tail (bodyH g s a) := by
    rw [e, List.drop_append_of_le_length (by omega), List.drop_eq_nil_of_le (by omega), List.nil_append, List.take_append_of_le_length (by rw [tail_length]; omega), List.take_of_length_le (by rw [tail_length]; omega)]
  have part : ∀ i k, i + k ≤ 15 → ((sectH g s a).drop i).take k = ((bodyH g s a).drop i).take k := by
    intro i k hik
    rw [e, List.drop_append_of_le_length (by omega), List.take_append_of_le_length (by rw [List.length_drop]; omega)]
  have p1 : ((bodyH g s a).drop 1).take 6 = be 6 g.toNat := by
    rw [bodyH_may h, List.drop_succ_cons, List.drop_zero, List.take_append_of_le_length (by rw [be_length]; omega), List.take_of_length_le (by rw [be_length]; omega)]
  have p2 : ((bodyH g s a).drop 7).take 6 = be 6 s.toNat := by
    rw [bodyH_may h, List.drop_succ_cons, List.drop_append, List.drop_eq_nil_of_le (by rw [be_length]; omega), List.nil_append, be_length, Nat.sub_self, List.drop_zero, List.take_append_of_le_length (by rw [be_length]; omega), List.take_of_length_le (by rw [be_length]; omega)]
  have p3 : ((bodyH g s a).drop 13).take 2 = be 2 a.toNat := by
    rw [bodyH_may h, List.drop_succ_cons, List.drop_append, List.drop_eq_nil_of_le (by rw [be_length]; omega), List.nil_append, be_length, List.drop_append, List.drop_eq_nil_of_le (by rw [be_length]; omega), List.nil_append, be_length, List.drop_zero, List.take_of_length_le (by rw [be_length]; omega)]
  have n1 : nH (sectH g s a) 1 6 = g := by show ((num (((sectH g s a).drop 1).take 6) : Nat) : Int) = g; rw [part 1 6 (by omega), p1, num_be_small (by omega)]; omega
  have n2 : nH (sectH g s a) 7 6 = s := by show ((num (((sectH g s a).drop 7).take 6) : Nat) : Int) = s; rw [part 7 6 (by omega), p2, num_be_small (by omega)]; omega
  have n3 : nH (sectH g s a) 13 2 = a := by show ((num (((sectH g s a).drop 13).take 2) : Nat) : Int) = a; rw [part 13 2 (by omega), p3, num_be_small (by omega)]; omega
  have h1 : (sectH g s a).take 1 = [76] := by
    have := part 0 1 (by omega)
    rw [List.drop_zero, List.drop_zero] at this
    rw [this, bodyH_may h]; rfl
  have hp : putH g s a = (sectH g s a, 0) := by unfold putH; rw [if_pos h]
  unfold getH'
  rw [if_neg (fun x => x hlen), if_neg (fun x => x h1), if_neg (fun x => x (by rw [d15, t15])), n1, n2, n3, hp]
  unfold finH
  rw [if_pos rfl]
theorem getH_ok {t : List UInt8} (h : (getH' t).2.2.2 = 0) : ∃ g s a, MayH g s a ∧ t = sectH g s a ∧ getH' t = (g, s, a, 0) := by
  unfold getH' at h
  split at h
  · simp at h
  · split at h
    · simp at h
    · split at h
      · simp at h
      · unfold finH at h
        split at h
        · rename_i hp
          generalize nH t 1 6 = g at hp
          generalize nH t 7 6 = s at hp
          generalize nH t 13 2 = a at hp
          unfold putH at hp
          split at hp
          · rename_i hm
            have : t = sectH g s a := by
              have := congrArg Prod.fst hp
              exact this.symm
            exact ⟨g, s, a, hm, this, by rw [this]; exact sectH_get hm⟩
          · have := congrArg Prod.snd hp
            simp at this
        · simp at h
theorem eq3 (a b c x y z : Int) (h : (a, b, c) = (x, y, z)) : (a == x && (b == y && (c == z && true))) = true := by cases h; simp
theorem LogheadBack_true (g s a g' s' a' at_ b0 b1 b2 b3 : Int) : fnDlaw10_LogheadBack (g, s, a, g', s', a', at_, b0, b1, b2, b3) = some true := by
  simp only [fnDlaw10_LogheadBack, fnlaw10_LogheadBack, works10, bindO_pure, Bool.not_true, cond_false, own_eq, put_eq]
  by_cases h : MayH g s a
  · by_cases h' : MayH g' s' a'
    · have e1 : putH g s a = (sectH g s a, 0) := by unfold putH; rw [if_pos h]
      have e2 : putH g' s' a' = (sectH g' s' a', 0) := by unfold putH; rw [if_pos h']
      rw [e1, e2]
      have hs := sectH_sealed h
      have hlen := hs.length (by omega)
      have hs' := sectH_sealed h'
      have hlen' := hs'.length (by omega)
      have hg := sectH_get h
      have hg' := sectH_get h'
      generalize sectH g s a = S at *
      generalize sectH g' s' a' = S' at *
      have il : (intsOf S).length = 64 := by rw [intsOf, List.length_map, hlen]
      have n0 : nodeDlaw10_LogheadBack_n0 (at_, S, 0, S', 0, g, s, a, g', s', a', b0, b1, b2, b3) = some false := by
        simp only [nodeDlaw10_LogheadBack_n0, nodelaw10_LogheadBack_n0, hlen]; rfl
      have u64 : IntKind.wrap .u64 ((64 : Nat) : Int) = 64 := by decide
      obtain ⟨k, hk, hkl⟩ : ∃ k : Nat, IntKind.wrap .i64 (Int.tmod (IntKind.wrap .u64 at_) 64) = (k : Int) ∧ k < 64 := by
        have h0 : 0 ≤ IntKind.wrap .u64 at_ := by simp [IntKind.wrap, IntKind.bits, IntKind.signed]; omega
        obtain ⟨m, hm⟩ := Int.eq_ofNat_of_zero_le h0
        refine ⟨m % 64, ?_, by omega⟩
        rw [hm]
        have : Int.tmod (m : Int) 64 = ((m % 64 : Nat) : Int) := rfl
        rw [this, wrapN (by omega)]
      obtain ⟨o', ho, ht⟩ := law10_LogheadBack_turned S S' g s a g' s' a' b0 b1 b2 b3 k (by omega) (intsOf S) (by omega)
      have htb : Turned k S (bytesOf o') := by
        have := ht.map (fun n : Int => UInt8.ofNat n.toNat)
        rw [show (intsOf S).map (fun n : Int => UInt8.ofNat n.toNat) = S from bytes_ints S] at this
        exact this
      have z0 : ((64 : Int) == 0) = false := rfl
      simp only [unP, n0, bindO_pure, cond_false, hlen, ble_true (show (64 : Nat) ≤ 140737488355328 by omega), cond_true, il, u64, z0, hk, ho]
      obtain ⟨B, hBe⟩ : ∃ B, bytesOf o' = B := ⟨_, rfl⟩
      rw [hBe] at htb
      have hB : B.length = 64 := by rw [htb.len, hlen]
      rw [hBe, get_eq S (by omega), bindO_pure, hg, unP_mk, unP_mk, unP_mk, get_eq B (by omega), bindO_pure, newer_eq B S' (by omega) (by omega)]
      have key : (getH' B).2.2.2 = 0 ↔ B = S := by
        constructor
        · intro h0
          obtain ⟨_, _, _, hm, hB2, _⟩ := getH_ok h0
          exact Sealed.turned hs (hB2 ▸ sectH_sealed hm) (by omega) htb
        · intro e; rw [e, hg]
      by_cases hBS : B = S
      · rw [hBS, hg, unP_mk, unP_mk, unP_mk]
        have hn : ∃ y1 y2 y3, newerH S S' = (y1, y2, y3, 0) := by
          unfold newerH
          rw [hg, hg']
          simp only [ne_eq, not_true, false_and, if_false, false_or, true_and]
          split <;> exact ⟨_, _, _, rfl⟩
        obtain ⟨y1, y2, y3, hn⟩ := hn
        rw [hn, bindO_pure, unP_mk, unP_mk, unP_mk]
        simp only [nodeDlaw10_LogheadBack_n5, nodelaw10_LogheadBack_n5, nodeDlaw10_LogheadBack_n6, nodelaw10_LogheadBack_n6, own_eq, bindO_pure, hBe, hBS]
        simp [bindO_pure]
      · have h0 : (getH' B).2.2.2 ≠ 0 := fun x => hBS (key.1 x)
        have hn : newerH B S' = (g', s', a', 0) := by
          unfold newerH
          rw [hg']
          simp only [ne_eq, not_true, and_false, if_false]
          rw [if_pos (.inl h0)]
        rw [hn]
        generalize getH' B = x at h0
        obtain ⟨x1, x2, x3, x4⟩ := x
        simp only at h0
        rw [unP_mk, unP_mk, unP_mk, bindO_pure, unP_mk, unP_mk, unP_mk]
        have b1 : (x4 == 0) = false := beq_eq_false_iff_ne.2 h0
        have b2 : (B == S) = false := beq_eq_false_iff_ne.2 hBS
        simp only [nodeDlaw10_LogheadBack_n5, nodelaw10_LogheadBack_n5, nodeDlaw10_LogheadBack_n6, nodelaw10_LogheadBack_n6, own_eq, bindO_pure, hBe, b1, b2]
        simp [bindO_pure]
    · have e1 : putH g s a = (sectH g s a, 0) := by unfold putH; rw [if_pos h]
      have e2 : putH g' s' a' = ([], 3) := by unfold putH; rw [if_neg h']
      rw [e1, e2]
      rfl
  · have e1 : putH g s a = ([], 3) := by unfold putH; rw [if_neg h]
    rw [e1]
    rfl
end Go.Proofs.R2
