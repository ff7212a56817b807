/- What the functions that EntryBackSaid reaches compute: part 2. -/
import Derived.Test.YtbhnbhhlmfdepaaOwnEntryBackSaid1
set_option linter.unusedVariables false
set_option linter.unusedSimpArgs false
namespace Go.Proofs.R2
open Go Go.AE
--@ law17_works
noncomputable def envlaw17_works : Env := [(13, .pure Fentry_Put), (17, .pure Fentry_Get)]
theorem envlaw17_worksOk : EnvOk Try.prog envlaw17_works := EnvOk.cons Fentry_Put_ok (EnvOk.cons Fentry_Get_ok (EnvOk.nil))
noncomputable def blaw17_works : Code := Try.f12.body.getD .skip
noncomputable def Llaw17_works_n0 : Code := codeAt [1, 1, 1, 1, 0] blaw17_works
noncomputable def annLlaw17_works_n0 : Ann := .none
theorem annLlaw17_works_n0_ok : AnnOk Try.prog 37 Llaw17_works_n0 annLlaw17_works_n0 := (annOk_none _ _ _)
abbrev Ilaw17_works_n0 := (List UInt8) × (Int) × (Int) × (Int) × (Int) × (Int) × (Int) × (Int) × (Int)
abbrev Ylaw17_works_n0 := (Bool)
def Slaw17_works_n0 : Ilaw17_works_n0 → St := fun (t2, t3, t5, o1_0, o1_1, o1_2, o1_3, o1_4, o1_5) => { env := [(1, AV.ptr 0 0), (2, AV.str t2), (3, AV.int IntKind.i64 t3), (4, AV.ptr 1 0), (5, AV.int IntKind.i64 t5)], stk := [[]], H := [AE.Obj.cells [AV.int IntKind.i64 (1), AV.int IntKind.i64 (0), AV.int IntKind.i64 (-1), AV.int IntKind.i64 (0), AV.int IntKind.i64 (2), AV.int IntKind.i64 (7)], AE.Obj.cells [AV.int IntKind.i64 o1_0, AV.int IntKind.i64 o1_1, AV.int IntKind.i64 o1_2, AV.int IntKind.i64 o1_3, AV.int IntKind.i64 o1_4, AV.int IntKind.i64 o1_5]], blk := 49152 }
def declaw17_works_n0 (s : St) : Option Ilaw17_works_n0 := match s with
  | { env := [(1, AV.ptr 0 0), (2, AV.str t2), (3, AV.int IntKind.i64 t3), (4, AV.ptr 1 0), (5, AV.int IntKind.i64 t5)], stk := [[]], H := [AE.Obj.cells [AV.int IntKind.i64 r3, AV.int IntKind.i64 r4, AV.int IntKind.i64 r5, AV.int IntKind.i64 r6, AV.int IntKind.i64 r7, AV.int IntKind.i64 r8], AE.Obj.cells [AV.int IntKind.i64 o1_0, AV.int IntKind.i64 o1_1, AV.int IntKind.i64 o1_2, AV.int IntKind.i64 o1_3, AV.int IntKind.i64 o1_4, AV.int IntKind.i64 o1_5]], blk := 49152 } => cond (decide (r3 = 1) && decide (r4 = 0) && decide (r5 = -1) && decide (r6 = 0) && decide (r7 = 2) && decide (r8 = 7)) (some (t2, t3, t5, o1_0, o1_1, o1_2, o1_3, o1_4, o1_5)) none
  | _ => none
theorem declaw17_works_n0_ok (s : St) (x : Ilaw17_works_n0) (h : declaw17_works_n0 s = some x) : s = Slaw17_works_n0 x := by
  unfold declaw17_works_n0 at h
  split at h
  · replace h := cond_noneO h; obtain ⟨hg, h⟩ := h; simp only [Bool.and_eq_true, decide_eq_true_eq] at hg; simp only [hg]; cases h; rfl
  · cases h
def outlaw17_works_n0 : Ilaw17_works_n0 → (Ex → St → Ans) → Ylaw17_works_n0 → Ans := fun (t2, t3, t5, o1_0, o1_1, o1_2, o1_3, o1_4, o1_5) K => fun t0_y => K (Ex.norm) { env := [(0, AV.bool t0_y)], stk := [[]], H := [], blk := 49152 }
def nodelaw17_works_n0 {β : Type} : Ilaw17_works_n0 → (Ylaw17_works_n0 → Option β) → Option β := fun (t2, t3, t5, o1_0, o1_1, o1_2, o1_3, o1_4, o1_5) exit => (bif t3 == (0 : Int) then (bif (↑(List.length t2) : Int) == (64 : Int) then (bif (1 : Int) == o1_0 && ((0 : Int) == o1_1 && true) && ((-1 : Int) == o1_2 && true) && ((0 : Int) == o1_3 && ((2 : Int) == o1_4 && true) && ((7 : Int) == o1_5 && true) && true) then (exit (t5 == (0 : Int))) else (exit (false))) else (exit (false))) else (exit (false)))
def nodeDlaw17_works_n0 (i : Ilaw17_works_n0) : Option Ylaw17_works_n0 := nodelaw17_works_n0 i some
theorem nodelaw17_works_n0_nat (i : Ilaw17_works_n0) (k : Ylaw17_works_n0 → Ans) : nodelaw17_works_n0 i k = bindO (nodeDlaw17_works_n0 i) k := by
  obtain ⟨t2, t3, t5, o1_0, o1_1, o1_2, o1_3, o1_4, o1_5⟩ := i
  simp only [nodeDlaw17_works_n0, nodelaw17_works_n0, bindO_cond, bindO_assoc, bindO_none, bindO_pure, bindO_elim, bindO_unP]
theorem nodelaw17_works_n0_ok (i : Ilaw17_works_n0) (K : Ex → St → Ans) : codeI Try.tab envlaw17_works noHint (codeD Try.tab envlaw17_works noHint 0 64) 70 37 annLlaw17_works_n0 Llaw17_works_n0 (weakP 0 (exk [0] [0] []) K) (Slaw17_works_n0 i) = nodelaw17_works_n0 i (outlaw17_works_n0 i K) := by kernel_rfl
theorem GNlaw17_works_n0_ok : CSum Try.prog 37 Llaw17_works_n0 (sumN declaw17_works_n0 nodeDlaw17_works_n0 outlaw17_works_n0) := csum_node mixed tabOk envlaw17_worksOk 0 (exk [0] [0] []) annLlaw17_works_n0_ok declaw17_works_n0_ok nodelaw17_works_n0_ok nodelaw17_works_n0_nat
noncomputable def Glaw17_works_n0 : (Ex → St → Ans) → St → Ans := (sumN declaw17_works_n0 nodeDlaw17_works_n0 outlaw17_works_n0)
theorem Glaw17_works_n0_ok : CSum Try.prog 37 Llaw17_works_n0 Glaw17_works_n0 := GNlaw17_works_n0_ok
noncomputable def annlaw17_works : Ann := (.seq .none (.seq .none (.seq .none (.seq .none (.seq (.cut 0 [1, 2, 3, 4, 5] Glaw17_works_n0) .none)))))
theorem annlaw17_works_ok : AnnOk Try.prog 37 blaw17_works annlaw17_works := ⟨(annOk_none _ _ _), ⟨(annOk_none _ _ _), ⟨(annOk_none _ _ _), ⟨(annOk_none _ _ _), ⟨Glaw17_works_n0_ok, (annOk_none _ _ _)⟩⟩⟩⟩⟩
abbrev Alaw17_works := Unit
abbrev Ylaw17_works := (Bool)
def fnlaw17_works {β : Type} : Alaw17_works → (Ylaw17_works → Option β) → Option β := fun _ exit => (bindO (fnDentry_Put ((1 : Int), (0 : Int), (-1 : Int), (0 : Int), (2 : Int), (7 : Int))) (unP fun r_0 r_1 => (bindO (fnDentry_Get (r_0)) (unP fun r_0_0 => unP fun r_0_1 => unP fun r_0_2 => unP fun r_0_3 => unP fun r_0_4 => unP fun r_0_5 r_1_2 => (bindO (nodeDlaw17_works_n0 (r_0, r_1, r_1_2, r_0_0, r_0_1, r_0_2, r_0_3, r_0_4, r_0_5)) fun t0 => (exit (t0)))))))
def fnDlaw17_works (a : Alaw17_works) : Option Ylaw17_works := fnlaw17_works a some
theorem fnlaw17_works_nat (a : Alaw17_works) (k : Ylaw17_works → Ans) : fnlaw17_works a k = bindO (fnDlaw17_works a) k := by
  obtain z := a
  simp only [fnDlaw17_works, fnlaw17_works, bindO_cond, bindO_assoc, bindO_none, bindO_pure, bindO_elim, bindO_unP]
def argslaw17_works : Alaw17_works → List AV := fun _ => []
def decAlaw17_works (l : List AV) : Option Alaw17_works := match l with
  | [] => some ()
  | _ => none
theorem decAlaw17_works_ok (l : List AV) (a : Alaw17_works) (h : decAlaw17_works l = some a) : l = argslaw17_works a := by
  unfold decAlaw17_works at h
  split at h
  · cases h; rfl
  · cases h
def rendlaw17_works : Alaw17_works → Ylaw17_works → AV := fun _ => fun r_y => AV.bool r_y
theorem rendlaw17_works_ok : ∀ (a : Alaw17_works) (y : Ylaw17_works), (rendlaw17_works a y).closed1 = true := by
  rintro z y <;> first | rfl | exact Empty.elim y
theorem fnlaw17_works_ok (a : Alaw17_works) : fnE Try.tab envlaw17_works noHint 0 70 12 Try.f12.ntmps Try.f12.results.toList annlaw17_works blaw17_works (argslaw17_works a) [] (fun v _ => some (v, [])) = fnlaw17_works a (fun y => some (rendlaw17_works a y, [])) := by kernel_rfl
def vFlaw17_works (a : Alaw17_works) (K : AV → Ans) : Ans := bindO (fnDlaw17_works a) fun y => K (rendlaw17_works a y)
def Flaw17_works : List AV → (AV → Ans) → Ans := fun l K => bindO (decAlaw17_works l) fun a => vFlaw17_works a K
theorem Flaw17_works_ok : PureOk Try.prog 12 Flaw17_works := pure_mkD (hint := noHint) (d := 0) (n := 70) mixed tabOk envlaw17_worksOk Try.func12 (bodySome (by kernel_rfl)) (by decide +kernel) annlaw17_works_ok decAlaw17_works_ok fnlaw17_works_ok fnlaw17_works_nat rendlaw17_works_ok
--@ ref05_Right
noncomputable def envref05_Right : Env := []
theorem envref05_RightOk : EnvOk Try.prog envref05_Right := EnvOk.nil
noncomputable def bref05_Right : Code := Try.f47.body.getD .skip
noncomputable def Lref05_Right_n0 : Code := codeAt [1, 0] bref05_Right
noncomputable def annLref05_Right_n0 : Ann := .none
theorem annLref05_Right_n0_ok : AnnOk Try.prog 21 Lref05_Right_n0 annLref05_Right_n0 := (annOk_none _ _ _)
abbrev Iref05_Right_n0 := (Int) × (Int)
abbrev Yref05_Right_n0 := (Bool)
def Sref05_Right_n0 : Iref05_Right_n0 → St := fun (o0_0, o0_1) => { env := [(1, AV.ptr 0 0)], stk := [[]], H := [AE.Obj.cells [AV.int IntKind.i64 o0_0, AV.int IntKind.i64 o0_1]], blk := 192512 }
def decref05_Right_n0 (s : St) : Option Iref05_Right_n0 := match s with
  | { env := [(1, AV.ptr 0 0)], stk := [[]], H := [AE.Obj.cells [AV.int IntKind.i64 o0_0, AV.int IntKind.i64 o0_1]], blk := 192512 } => some (o0_0, o0_1)
  | _ => none
theorem decref05_Right_n0_ok (s : St) (x : Iref05_Right_n0) (h : decref05_Right_n0 s = some x) : s = Sref05_Right_n0 x := by
  unfold decref05_Right_n0 at h
  split at h
  · cases h; rfl
  · cases h
def outref05_Right_n0 : Iref05_Right_n0 → (Ex → St → Ans) → Yref05_Right_n0 → Ans := fun (o0_0, o0_1) K => fun t2_y => K (Ex.norm) { env := [(2, AV.bool t2_y)], stk := [[]], H := [], blk := 192512 }
def noderef05_Right_n0 {β : Type} : Iref05_Right_n0 → (Yref05_Right_n0 → Option β) → Option β := fun (o0_0, o0_1) exit => (bif decide (o0_0 ≥ (0 : Int)) then (bif decide (o0_0 ≤ (1125899906842624 : Int)) then (bif decide (o0_1 ≥ (0 : Int)) then (exit (decide (o0_1 ≤ (1125899906842624 : Int)))) else (exit (false))) else (exit (false))) else (exit (false)))
def nodeDref05_Right_n0 (i : Iref05_Right_n0) : Option Yref05_Right_n0 := noderef05_Right_n0 i some
theorem noderef05_Right_n0_nat (i : Iref05_Right_n0) (k : Yref05_Right_n0 → Ans) : noderef05_Right_n0 i k = bindO (nodeDref05_Right_n0 i) k := by
  obtain ⟨o0_0, o0_1⟩ := i
  simp only [nodeDref05_Right_n0, noderef05_Right_n0, bindO_cond, bindO_assoc, bindO_none, bindO_pure, bindO_elim, bindO_unP]
theorem noderef05_Right_n0_ok (i : Iref05_Right_n0) (K : Ex → St → Ans) : codeI Try.tab envref05_Right noHint (codeD Try.tab envref05_Right noHint 0 64) 70 21 annLref05_Right_n0 Lref05_Right_n0 (weakP 0 (exk [2] [2] []) K) (Sref05_Right_n0 i) = noderef05_Right_n0 i (outref05_Right_n0 i K) := by kernel_rfl
theorem GNref05_Right_n0_ok : CSum Try.prog 21 Lref05_Right_n0 (sumN decref05_Right_n0 nodeDref05_Right_n0 outref05_Right_n0) := csum_node mixed tabOk envref05_RightOk 0 (exk [2] [2] []) annLref05_Right_n0_ok decref05_Right_n0_ok noderef05_Right_n0_ok noderef05_Right_n0_nat
noncomputable def Gref05_Right_n0 : (Ex → St → Ans) → St → Ans := (sumN decref05_Right_n0 nodeDref05_Right_n0 outref05_Right_n0)
theorem Gref05_Right_n0_ok : CSum Try.prog 21 Lref05_Right_n0 Gref05_Right_n0 := GNref05_Right_n0_ok
noncomputable def annref05_Right : Ann := (.seq .none (.seq (.cut 0 [1] Gref05_Right_n0) .none))
theorem annref05_Right_ok : AnnOk Try.prog 21 bref05_Right annref05_Right := ⟨(annOk_none _ _ _), ⟨Gref05_Right_n0_ok, (annOk_none _ _ _)⟩⟩
abbrev Aref05_Right := (Int) × (Int)
abbrev Yref05_Right := (Bool)
def fnref05_Right {β : Type} : Aref05_Right → (Yref05_Right → Option β) → Option β := fun (a0_0, a0_1) exit => (bindO (nodeDref05_Right_n0 (a0_0, a0_1)) fun t2 => (exit (t2)))
def fnDref05_Right (a : Aref05_Right) : Option Yref05_Right := fnref05_Right a some
theorem fnref05_Right_nat (a : Aref05_Right) (k : Yref05_Right → Ans) : fnref05_Right a k = bindO (fnDref05_Right a) k := by
  obtain ⟨a0_0, a0_1⟩ := a
  simp only [fnDref05_Right, fnref05_Right, bindO_cond, bindO_assoc, bindO_none, bindO_pure, bindO_elim, bindO_unP]
def argsref05_Right : Aref05_Right → List AV := fun (a0_0, a0_1) => [AV.agg [AV.int IntKind.i64 a0_0, AV.int IntKind.i64 a0_1]]
def decAref05_Right (l : List AV) : Option Aref05_Right := match l with
  | [AV.agg [AV.int IntKind.i64 a0_0, AV.int IntKind.i64 a0_1]] => some (a0_0, a0_1)
  | _ => none
theorem decAref05_Right_ok (l : List AV) (a : Aref05_Right) (h : decAref05_Right l = some a) : l = argsref05_Right a := by
  unfold decAref05_Right at h
  split at h
  · cases h; rfl
  · cases h
def rendref05_Right : Aref05_Right → Yref05_Right → AV := fun (a0_0, a0_1) => fun r_y => AV.bool r_y
theorem rendref05_Right_ok : ∀ (a : Aref05_Right) (y : Yref05_Right), (rendref05_Right a y).closed1 = true := by
  rintro ⟨a0_0, a0_1⟩ y <;> first | rfl | exact Empty.elim y
theorem fnref05_Right_ok (a : Aref05_Right) : fnE Try.tab envref05_Right noHint 0 70 47 Try.f47.ntmps Try.f47.results.toList annref05_Right bref05_Right (argsref05_Right a) [] (fun v _ => some (v, [])) = fnref05_Right a (fun y => some (rendref05_Right a y, [])) := by kernel_rfl
def vFref05_Right (a : Aref05_Right) (K : AV → Ans) : Ans := bindO (fnDref05_Right a) fun y => K (rendref05_Right a y)
def Fref05_Right : List AV → (AV → Ans) → Ans := fun l K => bindO (decAref05_Right l) fun a => vFref05_Right a K
theorem Fref05_Right_ok : PureOk Try.prog 47 Fref05_Right := pure_mkD (hint := noHint) (d := 0) (n := 70) mixed tabOk envref05_RightOk Try.func47 (bodySome (by kernel_rfl)) (by decide +kernel) annref05_Right_ok decAref05_Right_ok fnref05_Right_ok fnref05_Right_nat rendref05_Right_ok
--@ ref17_Check
noncomputable def envref17_Check : Env := [(47, .pure Fref05_Right)]
theorem envref17_CheckOk : EnvOk Try.prog envref17_Check := EnvOk.cons Fref05_Right_ok (EnvOk.nil)
noncomputable def bref17_Check : Code := Try.f16.body.getD .skip
noncomputable def Lref17_Check_n0 : Code := codeAt [1, 0, 0] bref17_Check
noncomputable def annLref17_Check_n0 : Ann := .none
theorem annLref17_Check_n0_ok : AnnOk Try.prog 17 Lref17_Check_n0 annLref17_Check_n0 := (annOk_none _ _ _)
abbrev Iref17_Check_n0 := (Int) × (Int) × (Int)
abbrev Yref17_Check_n0 := (Bool)
def Sref17_Check_n0 : Iref17_Check_n0 → St := fun (o0_0, o0_1, o0_2) => { env := [(1, AV.ptr 0 0)], stk := [[]], H := [AE.Obj.cells [AV.int IntKind.i64 o0_0, AV.int IntKind.i64 o0_1, AV.int IntKind.i64 o0_2]], blk := 65536 }
def decref17_Check_n0 (s : St) : Option Iref17_Check_n0 := match s with
  | { env := [(1, AV.ptr 0 0)], stk := [[]], H := [AE.Obj.cells [AV.int IntKind.i64 o0_0, AV.int IntKind.i64 o0_1, AV.int IntKind.i64 o0_2]], blk := 65536 } => some (o0_0, o0_1, o0_2)
  | _ => none
theorem decref17_Check_n0_ok (s : St) (x : Iref17_Check_n0) (h : decref17_Check_n0 s = some x) : s = Sref17_Check_n0 x := by
  unfold decref17_Check_n0 at h
  split at h
  · cases h; rfl
  · cases h
def outref17_Check_n0 : Iref17_Check_n0 → (Ex → St → Ans) → Yref17_Check_n0 → Ans := fun (o0_0, o0_1, o0_2) K => fun t16_y => K (Ex.norm) { env := [(16, AV.bool t16_y)], stk := [[]], H := [], blk := 65536 }
def noderef17_Check_n0 {β : Type} : Iref17_Check_n0 → (Yref17_Check_n0 → Option β) → Option β := fun (o0_0, o0_1, o0_2) exit => (bindO (fnDref05_Right (o0_0, o0_1)) fun r => (bif !r then (exit (true)) else (bif decide (o0_2 < (-1 : Int)) then (exit (true)) else (exit (decide (o0_2 ≥ (8 : Int)))))))
def nodeDref17_Check_n0 (i : Iref17_Check_n0) : Option Yref17_Check_n0 := noderef17_Check_n0 i some
theorem noderef17_Check_n0_nat (i : Iref17_Check_n0) (k : Yref17_Check_n0 → Ans) : noderef17_Check_n0 i k = bindO (nodeDref17_Check_n0 i) k := by
  obtain ⟨o0_0, o0_1, o0_2⟩ := i
  simp only [nodeDref17_Check_n0, noderef17_Check_n0, bindO_cond, bindO_assoc, bindO_none, bindO_pure, bindO_elim, bindO_unP]
theorem noderef17_Check_n0_ok (i : Iref17_Check_n0) (K : Ex → St → Ans) : codeI Try.tab envref17_Check noHint (codeD Try.tab envref17_Check noHint 0 64) 70 17 annLref17_Check_n0 Lref17_Check_n0 (weakP 0 (exk [16] [2] []) K) (Sref17_Check_n0 i) = noderef17_Check_n0 i (outref17_Check_n0 i K) := by kernel_rfl
theorem GNref17_Check_n0_ok : CSum Try.prog 17 Lref17_Check_n0 (sumN decref17_Check_n0 nodeDref17_Check_n0 outref17_Check_n0) := csum_node mixed tabOk envref17_CheckOk 0 (exk [16] [2] []) annLref17_Check_n0_ok decref17_Check_n0_ok noderef17_Check_n0_ok noderef17_Check_n0_nat
noncomputable def Gref17_Check_n0 : (Ex → St → Ans) → St → Ans := (sumN decref17_Check_n0 nodeDref17_Check_n0 outref17_Check_n0)
theorem Gref17_Check_n0_ok : CSum Try.prog 17 Lref17_Check_n0 Gref17_Check_n0 := GNref17_Check_n0_ok
noncomputable def annref17_Check : Ann := (.seq .none (.seq (.seq (.cut 0 [1] Gref17_Check_n0) .none) .none))
theorem annref17_Check_ok : AnnOk Try.prog 17 bref17_Check annref17_Check := ⟨(annOk_none _ _ _), ⟨⟨Gref17_Check_n0_ok, (annOk_none _ _ _)⟩, (annOk_none _ _ _)⟩⟩
abbrev Aref17_Check := (Int) × (Int) × (Int)
abbrev Yref17_Check := (Int)
def fnref17_Check {β : Type} : Aref17_Check → (Yref17_Check → Option β) → Option β := fun (a0_0, a0_1, a0_2) exit => (bindO (nodeDref17_Check_n0 (a0_0, a0_1, a0_2)) fun t16 => (bif t16 then (exit ((3 : Int))) else (exit ((0 : Int)))))
def fnDref17_Check (a : Aref17_Check) : Option Yref17_Check := fnref17_Check a some
theorem fnref17_Check_nat (a : Aref17_Check) (k : Yref17_Check → Ans) : fnref17_Check a k = bindO (fnDref17_Check a) k := by
  obtain ⟨a0_0, a0_1, a0_2⟩ := a
  simp only [fnDref17_Check, fnref17_Check, bindO_cond, bindO_assoc, bindO_none, bindO_pure, bindO_elim, bindO_unP]
def argsref17_Check : Aref17_Check → List AV := fun (a0_0, a0_1, a0_2) => [AV.agg [AV.int IntKind.i64 a0_0, AV.int IntKind.i64 a0_1, AV.int IntKind.i64 a0_2]]
def decAref17_Check (l : List AV) : Option Aref17_Check := match l with
  | [AV.agg [AV.int IntKind.i64 a0_0, AV.int IntKind.i64 a0_1, AV.int IntKind.i64 a0_2]] => some (a0_0, a0_1, a0_2)
  | _ => none
theorem decAref17_Check_ok (l : List AV) (a : Aref17_Check) (h : decAref17_Check l = some a) : l = argsref17_Check a := by
  unfold decAref17_Check at h
  split at h
  · cases h; rfl
  · cases h
def rendref17_Check : Aref17_Check → Yref17_Check → AV := fun (a0_0, a0_1, a0_2) => fun r_y => AV.int IntKind.i64 r_y
theorem rendref17_Check_ok : ∀ (a : Aref17_Check) (y : Yref17_Check), (rendref17_Check a y).closed1 = true := by
  rintro ⟨a0_0, a0_1, a0_2⟩ y <;> first | rfl | exact Empty.elim y
theorem fnref17_Check_ok (a : Aref17_Check) : fnE Try.tab envref17_Check noHint 0 70 16 Try.f16.ntmps Try.f16.results.toList annref17_Check bref17_Check (argsref17_Check a) [] (fun v _ => some (v, [])) = fnref17_Check a (fun y => some (rendref17_Check a y, [])) := by kernel_rfl
def vFref17_Check (a : Aref17_Check) (K : AV → Ans) : Ans := bindO (fnDref17_Check a) fun y => K (rendref17_Check a y)
def Fref17_Check : List AV → (AV → Ans) → Ans := fun l K => bindO (decAref17_Check l) fun a => vFref17_Check a K
theorem Fref17_Check_ok : PureOk Try.prog 16 Fref17_Check := pure_mkD (hint := noHint) (d := 0) (n := 70) mixed tabOk envref17_CheckOk Try.func16 (bodySome (by kernel_rfl)) (by decide +kernel) annref17_Check_ok decAref17_Check_ok fnref17_Check_ok fnref17_Check_nat rendref17_Check_ok
--@ ref02_Fits
noncomputable def envref02_Fits : Env := []
theorem envref02_FitsOk : EnvOk Try.prog envref02_Fits := EnvOk.nil
noncomputable def bref02_Fits : Code := Try.f61.body.getD .skip
noncomputable def Lref02_Fits_n1 : Code := codeAt [1, 1, 0, 1, 0, 0] bref02_Fits
noncomputable def annLref02_Fits_n1 : Ann := .at 0 [0, 1, 5] (.loop .none)
theorem annLref02_Fits_n1_ok : AnnOk Try.prog 25 (.loop Lref02_Fits_n1) annLref02_Fits_n1 := annOk_at (annOk_none _ _ _)
abbrev Iref02_Fits_n1 := (Int)
abbrev Yref02_Fits_n1 := (Int)
abbrev Vref02_Fits_n1 := (Int) × (Int)
def Sref02_Fits_n1 : Iref02_Fits_n1 → Vref02_Fits_n1 → St := fun t1 (t0, t5) => { env := [(0, AV.int IntKind.i64 t0), (1, AV.int IntKind.i64 t1), (5, AV.int IntKind.i64 t5)], stk := [[]], H := [], blk := 249856 }
def decref02_Fits_n1 (s : St) : Option (Iref02_Fits_n1 × Vref02_Fits_n1) := match s with
  | { env := [(0, AV.int IntKind.i64 t0), (1, AV.int IntKind.i64 t1), (5, AV.int IntKind.i64 t5)], stk := [[]], H := [], blk := 249856 } => some (t1, (t0, t5))
  | _ => none
theorem decref02_Fits_n1_ok (s : St) (x : Iref02_Fits_n1 × Vref02_Fits_n1) (h : decref02_Fits_n1 s = some x) : s = Sref02_Fits_n1 x.1 x.2 := by
  unfold decref02_Fits_n1 at h
  split at h
  · cases h; rfl
  · cases h
def outref02_Fits_n1 : Iref02_Fits_n1 → (Ex → St → Ans) → Yref02_Fits_n1 → Ans := fun t1 K => fun t0_y => K (Ex.exit 0) { env := [(0, AV.int IntKind.i64 t0_y)], stk := [[]], H := [], blk := 249856 }
def stepref02_Fits_n1 {β : Type} : Iref02_Fits_n1 → Vref02_Fits_n1 → (Vref02_Fits_n1 → Option β) → (Yref02_Fits_n1 → Option β) → Option β := fun t1 (t0, t5) next exit => (bif decide (t5 < t1) then (next (IntKind.wrap IntKind.i64 (Int.tdiv t0 (256 : Int)), IntKind.wrap IntKind.i64 (t5 + (1 : Int)))) else (exit (t0)))
def stepDref02_Fits_n1 (i : Iref02_Fits_n1) (v : Vref02_Fits_n1) : Option (Vref02_Fits_n1 ⊕ Yref02_Fits_n1) := stepref02_Fits_n1 i v (fun v => some (.inl v)) (fun y => some (.inr y))
theorem stepref02_Fits_n1_nat (i : Iref02_Fits_n1) (v : Vref02_Fits_n1) (next : Vref02_Fits_n1 → Ans) (exit : Yref02_Fits_n1 → Ans) : stepref02_Fits_n1 i v next exit = bindO (stepDref02_Fits_n1 i v) (Sum.elim next exit) := by
  obtain z := i
  obtain ⟨t0, t5⟩ := v
  simp only [stepDref02_Fits_n1, stepref02_Fits_n1, bindO_cond, bindO_assoc, bindO_none, bindO_pure, bindO_elim, bindO_unP, Sum.elim_inl, Sum.elim_inr]
theorem stepref02_Fits_n1_ok (n : Nat) (i : Iref02_Fits_n1) (v : Vref02_Fits_n1) (K : Ex → St → Ans) : codeI Try.tab envref02_Fits noHint (codeD Try.tab envref02_Fits noHint 0 64) (n+1) 25 annLref02_Fits_n1 (.loop Lref02_Fits_n1) (weakP 0 (exk [0] [4] [(0, [0])]) K) (Sref02_Fits_n1 i v) = stepref02_Fits_n1 i v (fun v' => codeI Try.tab envref02_Fits noHint (codeD Try.tab envref02_Fits noHint 0 64) n 25 annLref02_Fits_n1 (.loop Lref02_Fits_n1) (weakP 0 (exk [0] [4] [(0, [0])]) K) (Sref02_Fits_n1 i v')) (fun y => outref02_Fits_n1 i K y) := by kernel_rfl
theorem GNref02_Fits_n1_ok : CSum Try.prog 25 (.loop Lref02_Fits_n1) (sumL decref02_Fits_n1 stepDref02_Fits_n1 outref02_Fits_n1) := csum_loop mixed tabOk envref02_FitsOk 0 (exk [0] [4] [(0, [0])]) annLref02_Fits_n1_ok decref02_Fits_n1_ok stepref02_Fits_n1_ok stepref02_Fits_n1_nat
noncomputable def Gref02_Fits_n1 : (Ex → St → Ans) → St → Ans := (sumL decref02_Fits_n1 stepDref02_Fits_n1 outref02_Fits_n1)
theorem Gref02_Fits_n1_ok : CSum Try.prog 25 (.loop Lref02_Fits_n1) Gref02_Fits_n1 := GNref02_Fits_n1_ok
noncomputable def Lref02_Fits_n0 : Code := codeAt [1, 0, 0] bref02_Fits
noncomputable def annLref02_Fits_n0 : Ann := .none
theorem annLref02_Fits_n0_ok : AnnOk Try.prog 25 Lref02_Fits_n0 annLref02_Fits_n0 := (annOk_none _ _ _)
abbrev Iref02_Fits_n0 := (Int) × (Int)
abbrev Yref02_Fits_n0 := (Bool)
def Sref02_Fits_n0 : Iref02_Fits_n0 → St := fun (t0, t1) => { env := [(0, AV.int IntKind.i64 t0), (1, AV.int IntKind.i64 t1)], stk := [[]], H := [], blk := 249856 }
def decref02_Fits_n0 (s : St) : Option Iref02_Fits_n0 := match s with
  | { env := [(0, AV.int IntKind.i64 t0), (1, AV.int IntKind.i64 t1)], stk := [[]], H := [], blk := 249856 } => some (t0, t1)
  | _ => none
theorem decref02_Fits_n0_ok (s : St) (x : Iref02_Fits_n0) (h : decref02_Fits_n0 s = some x) : s = Sref02_Fits_n0 x := by
  unfold decref02_Fits_n0 at h
  split at h
  · cases h; rfl
  · cases h
def outref02_Fits_n0 : Iref02_Fits_n0 → (Ex → St → Ans) → Yref02_Fits_n0 → Ans := fun (t0, t1) K => fun t15_y => K (Ex.norm) { env := [(0, AV.int IntKind.i64 t0), (1, AV.int IntKind.i64 t1), (15, AV.bool t15_y)], stk := [[]], H := [], blk := 249856 }
def noderef02_Fits_n0 {β : Type} : Iref02_Fits_n0 → (Yref02_Fits_n0 → Option β) → Option β := fun (t0, t1) exit => (bif decide (t1 < (1 : Int)) then (exit (true)) else (bif decide (t1 > (7 : Int)) then (exit (true)) else (exit (decide (t0 < (0 : Int))))))
def nodeDref02_Fits_n0 (i : Iref02_Fits_n0) : Option Yref02_Fits_n0 := noderef02_Fits_n0 i some
theorem noderef02_Fits_n0_nat (i : Iref02_Fits_n0) (k : Yref02_Fits_n0 → Ans) : noderef02_Fits_n0 i k = bindO (nodeDref02_Fits_n0 i) k := by
  obtain ⟨t0, t1⟩ := i
  simp only [nodeDref02_Fits_n0, noderef02_Fits_n0, bindO_cond, bindO_assoc, bindO_none, bindO_pure, bindO_elim, bindO_unP]
theorem noderef02_Fits_n0_ok (i : Iref02_Fits_n0) (K : Ex → St → Ans) : codeI Try.tab envref02_Fits noHint (codeD Try.tab envref02_Fits noHint 0 64) 70 25 annLref02_Fits_n0 Lref02_Fits_n0 (weakP 0 (exk [0, 1, 15] [4] []) K) (Sref02_Fits_n0 i) = noderef02_Fits_n0 i (outref02_Fits_n0 i K) := by kernel_rfl
theorem GNref02_Fits_n0_ok : CSum Try.prog 25 Lref02_Fits_n0 (sumN decref02_Fits_n0 nodeDref02_Fits_n0 outref02_Fits_n0) := csum_node mixed tabOk envref02_FitsOk 0 (exk [0, 1, 15] [4] []) annLref02_Fits_n0_ok decref02_Fits_n0_ok noderef02_Fits_n0_ok noderef02_Fits_n0_nat
noncomputable def Gref02_Fits_n0 : (Ex → St → Ans) → St → Ans := (sumN decref02_Fits_n0 nodeDref02_Fits_n0 outref02_Fits_n0)
theorem Gref02_Fits_n0_ok : CSum Try.prog 25 Lref02_Fits_n0 Gref02_Fits_n0 := GNref02_Fits_n0_ok
noncomputable def annref02_Fits : Ann := (.seq .none (.seq (.seq (.cut 0 [0, 1] Gref02_Fits_n0) .none) (.seq (.seq .none (.block (.cut 0 [0, 1, 5] Gref02_Fits_n1))) .none)))
theorem annref02_Fits_ok : AnnOk Try.prog 25 bref02_Fits annref02_Fits := ⟨(annOk_none _ _ _), ⟨⟨Gref02_Fits_n0_ok, (annOk_none _ _ _)⟩, ⟨⟨(annOk_none _ _ _), Gref02_Fits_n1_ok⟩, (annOk_none _ _ _)⟩⟩⟩
abbrev Aref02_Fits := (Int) × (Int)
abbrev Yref02_Fits := (Bool)
def fnref02_Fits {β : Type} : Aref02_Fits → (Yref02_Fits → Option β) → Option β := fun (a0, a1) exit => (bindO (nodeDref02_Fits_n0 (a0, a1)) fun t15 => (bif t15 then (exit (false)) else (bindO (loopD (stepDref02_Fits_n1 (a1)) FUEL (a0, (0 : Int))) fun t0 => (exit (t0 == (0 : Int))))))
def fnDref02_Fits (a : Aref02_Fits) : Option Yref02_Fits := fnref02_Fits a some
theorem fnref02_Fits_nat (a : Aref02_Fits) (k : Yref02_Fits → Ans) : fnref02_Fits a k = bindO (fnDref02_Fits a) k := by
  obtain ⟨a0, a1⟩ := a
  simp only [fnDref02_Fits, fnref02_Fits, bindO_cond, bindO_assoc, bindO_none, bindO_pure, bindO_elim, bindO_unP]
def argsref02_Fits : Aref02_Fits → List AV := fun (a0, a1) => [AV.int IntKind.i64 a0, AV.int IntKind.i64 a1]
def decAref02_Fits (l : List AV) : Option Aref02_Fits := match l with
  | [AV.int IntKind.i64 a0, AV.int IntKind.i64 a1] => some (a0, a1)
  | _ => none
theorem decAref02_Fits_ok (l : List AV) (a : Aref02_Fits) (h : decAref02_Fits l = some a) : l = argsref02_Fits a := by
  unfold decAref02_Fits at h
  split at h
  · cases h; rfl
  · cases h
def rendref02_Fits : Aref02_Fits → Yref02_Fits → AV := fun (a0, a1) => fun r_y => AV.bool r_y
theorem rendref02_Fits_ok : ∀ (a : Aref02_Fits) (y : Yref02_Fits), (rendref02_Fits a y).closed1 = true := by
  rintro ⟨a0, a1⟩ y <;> first | rfl | exact Empty.elim y
theorem fnref02_Fits_ok (a : Aref02_Fits) : fnE Try.tab envref02_Fits noHint 0 70 61 Try.f61.ntmps Try.f61.results.toList annref02_Fits bref02_Fits (argsref02_Fits a) [] (fun v _ => some (v, [])) = fnref02_Fits a (fun y => some (rendref02_Fits a y, [])) := by kernel_rfl
def vFref02_Fits (a : Aref02_Fits) (K : AV → Ans) : Ans := bindO (fnDref02_Fits a) fun y => K (rendref02_Fits a y)
def Fref02_Fits : List AV → (AV → Ans) → Ans := fun l K => bindO (decAref02_Fits l) fun a => vFref02_Fits a K
theorem Fref02_Fits_ok : PureOk Try.prog 61 Fref02_Fits := pure_mkD (hint := noHint) (d := 0) (n := 70) mixed tabOk envref02_FitsOk Try.func61 (bodySome (by kernel_rfl)) (by decide +kernel) annref02_Fits_ok decAref02_Fits_ok fnref02_Fits_ok fnref02_Fits_nat rendref02_Fits_ok
--@ ref02_Put
noncomputable def envref02_Put : Env := [(61, .pure Fref02_Fits)]
theorem envref02_PutOk : EnvOk Try.prog envref02_Put := EnvOk.cons Fref02_Fits_ok (EnvOk.nil)
noncomputable def bref02_Put : Code := Try.f42.body.getD .skip
noncomputable def Lref02_Put_n0 : Code := codeAt [1, 1, 1, 0, 1, 0, 0] bref02_Put
noncomputable def annLref02_Put_n0 : Ann := .at 0 [0, 1, 2, 7, 8] (.loop .none)
theorem annLref02_Put_n0_ok : AnnOk Try.prog 31 (.loop Lref02_Put_n0) annLref02_Put_n0 := annOk_at (annOk_none _ _ _)
abbrev Iref02_Put_n0 := (List UInt8) × (Int)
abbrev Yref02_Put_n0 := (List UInt8)
abbrev Vref02_Put_n0 := (Int) × (List UInt8) × (Int)
def Sref02_Put_n0 : Iref02_Put_n0 → Vref02_Put_n0 → St := fun (t0, t2) (t1, t7, t8) => { env := [(0, AV.str t0), (1, AV.int IntKind.i64 t1), (2, AV.int IntKind.i64 t2), (7, AV.str t7), (8, AV.int IntKind.i64 t8)], stk := [[]], H := [], blk := 172032 }
def decref02_Put_n0 (s : St) : Option (Iref02_Put_n0 × Vref02_Put_n0) := match s with
  | { env := [(0, AV.str t0), (1, AV.int IntKind.i64 t1), (2, AV.int IntKind.i64 t2), (7, AV.str t7), (8, AV.int IntKind.i64 t8)], stk := [[]], H := [], blk := 172032 } => some ((t0, t2), (t1, t7, t8))
  | _ => none
theorem decref02_Put_n0_ok (s : St) (x : Iref02_Put_n0 × Vref02_Put_n0) (h : decref02_Put_n0 s = some x) : s = Sref02_Put_n0 x.1 x.2 := by
  unfold decref02_Put_n0 at h
  split at h
  · cases h; rfl
  · cases h
def outref02_Put_n0 : Iref02_Put_n0 → (Ex → St → Ans) → Yref02_Put_n0 → Ans := fun (t0, t2) K => fun t7_y => K (Ex.exit 0) { env := [(0, AV.str t0), (7, AV.str t7_y)], stk := [[]], H := [], blk := 172032 }
def stepref02_Put_n0 {β : Type} : Iref02_Put_n0 → Vref02_Put_n0 → (Vref02_Put_n0 → Option β) → (Yref02_Put_n0 → Option β) → Option β := fun (t0, t2) (t1, t7, t8) next exit => (bif decide (t8 < t2) then (bif Nat.ble (List.length (bytesOf [IntKind.wrap IntKind.u8 (Int.tmod t1 (256 : Int))]) + List.length t7) (9223372036854775807 : Nat) then (next (IntKind.wrap IntKind.i64 (Int.tdiv t1 (256 : Int)), bytesOf [IntKind.wrap IntKind.u8 (Int.tmod t1 (256 : Int))] ++ t7, IntKind.wrap IntKind.i64 (t8 + (1 : Int)))) else none) else (exit (t7)))
def stepDref02_Put_n0 (i : Iref02_Put_n0) (v : Vref02_Put_n0) : Option (Vref02_Put_n0 ⊕ Yref02_Put_n0) := stepref02_Put_n0 i v (fun v => some (.inl v)) (fun y => some (.inr y))
theorem stepref02_Put_n0_nat (i : Iref02_Put_n0) (v : Vref02_Put_n0) (next : Vref02_Put_n0 → Ans) (exit : Yref02_Put_n0 → Ans) : stepref02_Put_n0 i v next exit = bindO (stepDref02_Put_n0 i v) (Sum.elim next exit) := by
  obtain ⟨t0, t2⟩ := i
  obtain ⟨t1, t7, t8⟩ := v
  simp only [stepDref02_Put_n0, stepref02_Put_n0, bindO_cond, bindO_assoc, bindO_none, bindO_pure, bindO_elim, bindO_unP, Sum.elim_inl, Sum.elim_inr]
theorem stepref02_Put_n0_ok (n : Nat) (i : Iref02_Put_n0) (v : Vref02_Put_n0) (K : Ex → St → Ans) : codeI Try.tab envref02_Put noHint (codeD Try.tab envref02_Put noHint 0 64) (n+1) 31 annLref02_Put_n0 (.loop Lref02_Put_n0) (weakP 0 (exk [0, 7] [6] [(0, [0, 7])]) K) (Sref02_Put_n0 i v) = stepref02_Put_n0 i v (fun v' => codeI Try.tab envref02_Put noHint (codeD Try.tab envref02_Put noHint 0 64) n 31 annLref02_Put_n0 (.loop Lref02_Put_n0) (weakP 0 (exk [0, 7] [6] [(0, [0, 7])]) K) (Sref02_Put_n0 i v')) (fun y => outref02_Put_n0 i K y) := by kernel_rfl
theorem GNref02_Put_n0_ok : CSum Try.prog 31 (.loop Lref02_Put_n0) (sumL decref02_Put_n0 stepDref02_Put_n0 outref02_Put_n0) := csum_loop mixed tabOk envref02_PutOk 0 (exk [0, 7] [6] [(0, [0, 7])]) annLref02_Put_n0_ok decref02_Put_n0_ok stepref02_Put_n0_ok stepref02_Put_n0_nat
noncomputable def Gref02_Put_n0 : (Ex → St → Ans) → St → Ans := (sumL decref02_Put_n0 stepDref02_Put_n0 outref02_Put_n0)
theorem Gref02_Put_n0_ok : CSum Try.prog 31 (.loop Lref02_Put_n0) Gref02_Put_n0 := GNref02_Put_n0_ok
noncomputable def annref02_Put : Ann := (.seq .none (.seq .none (.seq .none (.seq (.seq .none (.block (.cut 0 [0, 1, 2, 7, 8] Gref02_Put_n0))) .none))))
theorem annref02_Put_ok : AnnOk Try.prog 31 bref02_Put annref02_Put := ⟨(annOk_none _ _ _), ⟨(annOk_none _ _ _), ⟨(annOk_none _ _ _), ⟨⟨(annOk_none _ _ _), Gref02_Put_n0_ok⟩, (annOk_none _ _ _)⟩⟩⟩⟩
abbrev Aref02_Put := (List UInt8) × (Int) × (Int)
abbrev Yref02_Put := (List UInt8)
def fnref02_Put {β : Type} : Aref02_Put → (Yref02_Put → Option β) → Option β := fun (a0, a1, a2) exit => (bindO (fnDref02_Fits (a1, a2)) fun r => (bif !r then (exit (a0)) else (bindO (loopD (stepDref02_Put_n0 (a0, a2)) FUEL (a1, [], (0 : Int))) fun t7 => (bif Nat.ble (List.length a0 + List.length t7) (9223372036854775807 : Nat) then (exit (a0 ++ t7)) else none))))
def fnDref02_Put (a : Aref02_Put) : Option Yref02_Put := fnref02_Put a some
theorem fnref02_Put_nat (a : Aref02_Put) (k : Yref02_Put → Ans) : fnref02_Put a k = bindO (fnDref02_Put a) k := by
  obtain ⟨a0, a1, a2⟩ := a
  simp only [fnDref02_Put, fnref02_Put, bindO_cond, bindO_assoc, bindO_none, bindO_pure, bindO_elim, bindO_unP]
def argsref02_Put : Aref02_Put → List AV := fun (a0, a1, a2) => [AV.str a0, AV.int IntKind.i64 a1, AV.int IntKind.i64 a2]
def decAref02_Put (l : List AV) : Option Aref02_Put := match l with
  | [AV.str a0, AV.int IntKind.i64 a1, AV.int IntKind.i64 a2] => some (a0, a1, a2)
  | _ => none
theorem decAref02_Put_ok (l : List AV) (a : Aref02_Put) (h : decAref02_Put l = some a) : l = argsref02_Put a := by
  unfold decAref02_Put at h
  split at h
  · cases h; rfl
  · cases h
def rendref02_Put : Aref02_Put → Yref02_Put → AV := fun (a0, a1, a2) => fun r_y => AV.str r_y
theorem rendref02_Put_ok : ∀ (a : Aref02_Put) (y : Yref02_Put), (rendref02_Put a y).closed1 = true := by
  rintro ⟨a0, a1, a2⟩ y <;> first | rfl | exact Empty.elim y
theorem fnref02_Put_ok (a : Aref02_Put) : fnE Try.tab envref02_Put noHint 0 70 42 Try.f42.ntmps Try.f42.results.toList annref02_Put bref02_Put (argsref02_Put a) [] (fun v _ => some (v, [])) = fnref02_Put a (fun y => some (rendref02_Put a y, [])) := by kernel_rfl
def vFref02_Put (a : Aref02_Put) (K : AV → Ans) : Ans := bindO (fnDref02_Put a) fun y => K (rendref02_Put a y)
def Fref02_Put : List AV → (AV → Ans) → Ans := fun l K => bindO (decAref02_Put l) fun a => vFref02_Put a K
theorem Fref02_Put_ok : PureOk Try.prog 42 Fref02_Put := pure_mkD (hint := noHint) (d := 0) (n := 70) mixed tabOk envref02_PutOk Try.func42 (bodySome (by kernel_rfl)) (by decide +kernel) annref02_Put_ok decAref02_Put_ok fnref02_Put_ok fnref02_Put_nat rendref02_Put_ok
--@ ref05_Put
noncomputable def envref05_Put : Env := [(42, .pure Fref02_Put)]
theorem envref05_PutOk : EnvOk Try.prog envref05_Put := EnvOk.cons Fref02_Put_ok (EnvOk.nil)
noncomputable def bref05_Put : Code := Try.f43.body.getD .skip
noncomputable def annref05_Put : Ann := .none
theorem annref05_Put_ok : AnnOk Try.prog 12 bref05_Put annref05_Put := (annOk_none _ _ _)
abbrev Aref05_Put := (List UInt8) × (Int) × (Int)
abbrev Yref05_Put := (List UInt8)
def fnref05_Put {β : Type} : Aref05_Put → (Yref05_Put → Option β) → Option β := fun (a0, a1_0, a1_1) exit => (bindO (fnDref02_Put (a0, a1_0, (7 : Int))) fun r => (bindO (fnDref02_Put (r, a1_1, (7 : Int))) fun r_2 => (exit (r_2))))
def fnDref05_Put (a : Aref05_Put) : Option Yref05_Put := fnref05_Put a some
theorem fnref05_Put_nat (a : Aref05_Put) (k : Yref05_Put → Ans) : fnref05_Put a k = bindO (fnDref05_Put a) k := by
  obtain ⟨a0, a1_0, a1_1⟩ := a
  simp only [fnDref05_Put, fnref05_Put, bindO_cond, bindO_assoc, bindO_none, bindO_pure, bindO_elim, bindO_unP]
def argsref05_Put : Aref05_Put → List AV := fun (a0, a1_0, a1_1) => [AV.str a0, AV.agg [AV.int IntKind.i64 a1_0, AV.int IntKind.i64 a1_1]]
def decAref05_Put (l : List AV) : Option Aref05_Put := match l with
  | [AV.str a0, AV.agg [AV.int IntKind.i64 a1_0, AV.int IntKind.i64 a1_1]] => some (a0, a1_0, a1_1)
  | _ => none
theorem decAref05_Put_ok (l : List AV) (a : Aref05_Put) (h : decAref05_Put l = some a) : l = argsref05_Put a := by
  unfold decAref05_Put at h
  split at h
  · cases h; rfl
  · cases h
def rendref05_Put : Aref05_Put → Yref05_Put → AV := fun (a0, a1_0, a1_1) => fun r_y => AV.str r_y
theorem rendref05_Put_ok : ∀ (a : Aref05_Put) (y : Yref05_Put), (rendref05_Put a y).closed1 = true := by
  rintro ⟨a0, a1_0, a1_1⟩ y <;> first | rfl | exact Empty.elim y
theorem fnref05_Put_ok (a : Aref05_Put) : fnE Try.tab envref05_Put noHint 0 70 43 Try.f43.ntmps Try.f43.results.toList annref05_Put bref05_Put (argsref05_Put a) [] (fun v _ => some (v, [])) = fnref05_Put a (fun y => some (rendref05_Put a y, [])) := by kernel_rfl
def vFref05_Put (a : Aref05_Put) (K : AV → Ans) : Ans := bindO (fnDref05_Put a) fun y => K (rendref05_Put a y)
def Fref05_Put : List AV → (AV → Ans) → Ans := fun l K => bindO (decAref05_Put l) fun a => vFref05_Put a K
theorem Fref05_Put_ok : PureOk Try.prog 43 Fref05_Put := pure_mkD (hint := noHint) (d := 0) (n := 70) mixed tabOk envref05_PutOk Try.func43 (bodySome (by kernel_rfl)) (by decide +kernel) annref05_Put_ok decAref05_Put_ok fnref05_Put_ok fnref05_Put_nat rendref05_Put_ok
--@ ref03_Of
noncomputable def envref03_Of : Env := []
theorem envref03_OfOk : EnvOk Try.prog envref03_Of := EnvOk.nil
noncomputable def bref03_Of : Code := Try.f65.body.getD .skip
noncomputable def Lref03_Of_n2 : Code := codeAt [1, 1, 0, 1, 0, 0, 1, 0, 0, 1, 1, 0, 0, 1, 0] bref03_Of
noncomputable def annLref03_Of_n2 : Ann := .none
theorem annLref03_Of_n2_ok : AnnOk Try.prog 33 Lref03_Of_n2 annLref03_Of_n2 := (annOk_none _ _ _)
abbrev Iref03_Of_n2 := (List UInt8) × (Int) × (Int) × (Int)
abbrev Yref03_Of_n2 := (Int)
def Sref03_Of_n2 : Iref03_Of_n2 → St := fun (t0, t3, t4, t5) => { env := [(0, AV.str t0), (3, AV.int IntKind.i64 t3), (4, AV.int IntKind.i64 t4), (5, AV.int IntKind.i64 t5)], stk := [[]], H := [], blk := 266242 }
def decref03_Of_n2 (s : St) : Option Iref03_Of_n2 := match s with
  | { env := [(0, AV.str t0), (3, AV.int IntKind.i64 t3), (4, AV.int IntKind.i64 t4), (5, AV.int IntKind.i64 t5)], stk := [[]], H := [], blk := 266242 } => some (t0, t3, t4, t5)
  | _ => none
theorem decref03_Of_n2_ok (s : St) (x : Iref03_Of_n2) (h : decref03_Of_n2 s = some x) : s = Sref03_Of_n2 x := by
  unfold decref03_Of_n2 at h
  split at h
  · cases h; rfl
  · cases h
def outref03_Of_n2 : Iref03_Of_n2 → (Ex → St → Ans) → Yref03_Of_n2 → Ans := fun (t0, t3, t4, t5) K => fun t3_y => K (Ex.norm) { env := [(0, AV.str t0), (3, AV.int IntKind.i64 t3_y), (4, AV.int IntKind.i64 t4), (5, AV.int IntKind.i64 t5)], stk := [[]], H := [], blk := 266243 }
def noderef03_Of_n2 {β : Type} : Iref03_Of_n2 → (Yref03_Of_n2 → Option β) → Option β := fun (t0, t3, t4, t5) exit => (bif Int.tmod t3 (2 : Int) == (1 : Int) then (exit (IntKind.wrap IntKind.i64 (↑(Int.toNat (IntKind.wrap IntKind.i64 (Int.tdiv t3 (2 : Int)) % (18446744073709551616 : Int)) ^^^ (3988292384 : Nat)) : Int))) else (exit (IntKind.wrap IntKind.i64 (Int.tdiv t3 (2 : Int)))))
def nodeDref03_Of_n2 (i : Iref03_Of_n2) : Option Yref03_Of_n2 := noderef03_Of_n2 i some
theorem noderef03_Of_n2_nat (i : Iref03_Of_n2) (k : Yref03_Of_n2 → Ans) : noderef03_Of_n2 i k = bindO (nodeDref03_Of_n2 i) k := by
  obtain ⟨t0, t3, t4, t5⟩ := i
  simp only [nodeDref03_Of_n2, noderef03_Of_n2, bindO_cond, bindO_assoc, bindO_none, bindO_pure, bindO_elim, bindO_unP]
theorem noderef03_Of_n2_ok (i : Iref03_Of_n2) (K : Ex → St → Ans) : codeI Try.tab envref03_Of noHint (codeD Try.tab envref03_Of noHint 0 64) 70 33 annLref03_Of_n2 Lref03_Of_n2 (weakP 0 (exk [0, 3, 4, 5] [2] []) K) (Sref03_Of_n2 i) = noderef03_Of_n2 i (outref03_Of_n2 i K) := by kernel_rfl
theorem GNref03_Of_n2_ok : CSum Try.prog 33 Lref03_Of_n2 (sumN decref03_Of_n2 nodeDref03_Of_n2 outref03_Of_n2) := csum_node mixed tabOk envref03_OfOk 0 (exk [0, 3, 4, 5] [2] []) annLref03_Of_n2_ok decref03_Of_n2_ok noderef03_Of_n2_ok noderef03_Of_n2_nat
noncomputable def Gref03_Of_n2 : (Ex → St → Ans) → St → Ans := (sumN decref03_Of_n2 nodeDref03_Of_n2 outref03_Of_n2)
theorem Gref03_Of_n2_ok : CSum Try.prog 33 Lref03_Of_n2 Gref03_Of_n2 := GNref03_Of_n2_ok
noncomputable def Lref03_Of_n1 : Code := codeAt [1, 1, 0, 1, 0, 0, 1, 0, 0, 1, 1, 0, 0] bref03_Of
noncomputable def annLref03_Of_n1 : Ann := .at 0 [0, 3, 4, 5] (.loop (.seq .none (.seq (.cut 0 [0, 3, 4, 5] Gref03_Of_n2) .none)))
theorem annLref03_Of_n1_ok : AnnOk Try.prog 33 (.loop Lref03_Of_n1) annLref03_Of_n1 := annOk_at ⟨(annOk_none _ _ _), ⟨Gref03_Of_n2_ok, (annOk_none _ _ _)⟩⟩
abbrev Iref03_Of_n1 := (List UInt8) × (Int)
abbrev Yref03_Of_n1 := (Int)
abbrev Vref03_Of_n1 := (Int) × (Int)
def Sref03_Of_n1 : Iref03_Of_n1 → Vref03_Of_n1 → St := fun (t0, t4) (t3, t5) => { env := [(0, AV.str t0), (3, AV.int IntKind.i64 t3), (4, AV.int IntKind.i64 t4), (5, AV.int IntKind.i64 t5)], stk := [[]], H := [], blk := 266242 }
def decref03_Of_n1 (s : St) : Option (Iref03_Of_n1 × Vref03_Of_n1) := match s with
  | { env := [(0, AV.str t0), (3, AV.int IntKind.i64 t3), (4, AV.int IntKind.i64 t4), (5, AV.int IntKind.i64 t5)], stk := [[]], H := [], blk := 266242 } => some ((t0, t4), (t3, t5))
  | _ => none
theorem decref03_Of_n1_ok (s : St) (x : Iref03_Of_n1 × Vref03_Of_n1) (h : decref03_Of_n1 s = some x) : s = Sref03_Of_n1 x.1 x.2 := by
  unfold decref03_Of_n1 at h
  split at h
  · cases h; rfl
  · cases h
def outref03_Of_n1 : Iref03_Of_n1 → (Ex → St → Ans) → Yref03_Of_n1 → Ans := fun (t0, t4) K => fun t3_y => K (Ex.exit 2) { env := [(0, AV.str t0), (3, AV.int IntKind.i64 t3_y), (4, AV.int IntKind.i64 t4)], stk := [[]], H := [], blk := 266242 }
def stepref03_Of_n1 {β : Type} : Iref03_Of_n1 → Vref03_Of_n1 → (Vref03_Of_n1 → Option β) → (Yref03_Of_n1 → Option β) → Option β := fun (t0, t4) (t3, t5) next exit => (bif decide (t5 < (8 : Int)) then (bindO (nodeDref03_Of_n2 (t0, t3, t4, t5)) fun t3_2 => (next (t3_2, IntKind.wrap IntKind.i64 (t5 + (1 : Int))))) else (exit (t3)))
def stepDref03_Of_n1 (i : Iref03_Of_n1) (v : Vref03_Of_n1) : Option (Vref03_Of_n1 ⊕ Yref03_Of_n1) := stepref03_Of_n1 i v (fun v => some (.inl v)) (fun y => some (.inr y))
theorem stepref03_Of_n1_nat (i : Iref03_Of_n1) (v : Vref03_Of_n1) (next : Vref03_Of_n1 → Ans) (exit : Yref03_Of_n1 → Ans) : stepref03_Of_n1 i v next exit = bindO (stepDref03_Of_n1 i v) (Sum.elim next exit) := by
  obtain ⟨t0, t4⟩ := i
  obtain ⟨t3, t5⟩ := v
  simp only [stepDref03_Of_n1, stepref03_Of_n1, bindO_cond, bindO_assoc, bindO_none, bindO_pure, bindO_elim, bindO_unP, Sum.elim_inl, Sum.elim_inr]
theorem stepref03_Of_n1_ok (n : Nat) (i : Iref03_Of_n1) (v : Vref03_Of_n1) (K : Ex → St → Ans) : codeI Try.tab envref03_Of noHint (codeD Try.tab envref03_Of noHint 0 64) (n+1) 33 annLref03_Of_n1 (.loop Lref03_Of_n1) (weakP 0 (exk [0, 3, 4] [2] [(2, [0, 3, 4])]) K) (Sref03_Of_n1 i v) = stepref03_Of_n1 i v (fun v' => codeI Try.tab envref03_Of noHint (codeD Try.tab envref03_Of noHint 0 64) n 33 annLref03_Of_n1 (.loop Lref03_Of_n1) (weakP 0 (exk [0, 3, 4] [2] [(2, [0, 3, 4])]) K) (Sref03_Of_n1 i v')) (fun y => outref03_Of_n1 i K y) := by kernel_rfl
theorem GNref03_Of_n1_ok : CSum Try.prog 33 (.loop Lref03_Of_n1) (sumL decref03_Of_n1 stepDref03_Of_n1 outref03_Of_n1) := csum_loop mixed tabOk envref03_OfOk 0 (exk [0, 3, 4] [2] [(2, [0, 3, 4])]) annLref03_Of_n1_ok decref03_Of_n1_ok stepref03_Of_n1_ok stepref03_Of_n1_nat
noncomputable def Gref03_Of_n1 : (Ex → St → Ans) → St → Ans := (sumL decref03_Of_n1 stepDref03_Of_n1 outref03_Of_n1)
theorem Gref03_Of_n1_ok : CSum Try.prog 33 (.loop Lref03_Of_n1) Gref03_Of_n1 := GNref03_Of_n1_ok
noncomputable def Lref03_Of_n0 : Code := codeAt [1, 1, 0, 1, 0, 0] bref03_Of
noncomputable def annLref03_Of_n0 : Ann := .at 0 [0, 3, 4] (.loop (.seq .none (.seq (.block (.seq .none (.seq .none (.block (.cut 0 [0, 3, 4, 5] Gref03_Of_n1))))) .none)))
theorem annLref03_Of_n0_ok : AnnOk Try.prog 33 (.loop Lref03_Of_n0) annLref03_Of_n0 := annOk_at ⟨(annOk_none _ _ _), ⟨⟨(annOk_none _ _ _), ⟨(annOk_none _ _ _), Gref03_Of_n1_ok⟩⟩, (annOk_none _ _ _)⟩⟩
abbrev Iref03_Of_n0 := (List UInt8)
abbrev Yref03_Of_n0 := (Int)
abbrev Vref03_Of_n0 := (Int) × (Int)
def Sref03_Of_n0 : Iref03_Of_n0 → Vref03_Of_n0 → St := fun t0 (t3, t4) => { env := [(0, AV.str t0), (3, AV.int IntKind.i64 t3), (4, AV.int IntKind.i64 t4)], stk := [[]], H := [], blk := 266240 }
def decref03_Of_n0 (s : St) : Option (Iref03_Of_n0 × Vref03_Of_n0) := match s with
  | { env := [(0, AV.str t0), (3, AV.int IntKind.i64 t3), (4, AV.int IntKind.i64 t4)], stk := [[]], H := [], blk := 266240 } => some (t0, (t3, t4))
  | _ => none
theorem decref03_Of_n0_ok (s : St) (x : Iref03_Of_n0 × Vref03_Of_n0) (h : decref03_Of_n0 s = some x) : s = Sref03_Of_n0 x.1 x.2 := by
  unfold decref03_Of_n0 at h
  split at h
  · cases h; rfl
  · cases h
def outref03_Of_n0 : Iref03_Of_n0 → (Ex → St → Ans) → Yref03_Of_n0 → Ans := fun t0 K => fun t3_y => K (Ex.exit 0) { env := [(3, AV.int IntKind.i64 t3_y)], stk := [[]], H := [], blk := 266240 }
def stepref03_Of_n0 {β : Type} : Iref03_Of_n0 → Vref03_Of_n0 → (Vref03_Of_n0 → Option β) → (Yref03_Of_n0 → Option β) → Option β := fun t0 (t3, t4) next exit => (bif decide (t4 < (↑(List.length t0) : Int)) then (bindO (nth t0 t4) fun x => (bindO (loopD (stepDref03_Of_n1 (t0, t4)) FUEL (IntKind.wrap IntKind.i64 (↑(Int.toNat (t3 % (18446744073709551616 : Int)) ^^^ Int.toNat (IntKind.wrap IntKind.i64 (↑(UInt8.toNat x) : Int) % (18446744073709551616 : Int))) : Int), (0 : Int))) fun t3_2 => (next (t3_2, IntKind.wrap IntKind.i64 (t4 + (1 : Int)))))) else (exit (t3)))
def stepDref03_Of_n0 (i : Iref03_Of_n0) (v : Vref03_Of_n0) : Option (Vref03_Of_n0 ⊕ Yref03_Of_n0) := stepref03_Of_n0 i v (fun v => some (.inl v)) (fun y => some (.inr y))
theorem stepref03_Of_n0_nat (i : Iref03_Of_n0) (v : Vref03_Of_n0) (next : Vref03_Of_n0 → Ans) (exit : Yref03_Of_n0 → Ans) : stepref03_Of_n0 i v next exit = bindO (stepDref03_Of_n0 i v) (Sum.elim next exit) := by
  obtain z := i
  obtain ⟨t3, t4⟩ := v
  simp only [stepDref03_Of_n0, stepref03_Of_n0, bindO_cond, bindO_assoc, bindO_none, bindO_pure, bindO_elim, bindO_unP, Sum.elim_inl, Sum.elim_inr]
theorem stepref03_Of_n0_ok (n : Nat) (i : Iref03_Of_n0) (v : Vref03_Of_n0) (K : Ex → St → Ans) : codeI Try.tab envref03_Of noHint (codeD Try.tab envref03_Of noHint 0 64) (n+1) 33 annLref03_Of_n0 (.loop Lref03_Of_n0) (weakP 0 (exk [3] [2] [(0, [3])]) K) (Sref03_Of_n0 i v) = stepref03_Of_n0 i v (fun v' => codeI Try.tab envref03_Of noHint (codeD Try.tab envref03_Of noHint 0 64) n 33 annLref03_Of_n0 (.loop Lref03_Of_n0) (weakP 0 (exk [3] [2] [(0, [3])]) K) (Sref03_Of_n0 i v')) (fun y => outref03_Of_n0 i K y) := by kernel_rfl
theorem GNref03_Of_n0_ok : CSum Try.prog 33 (.loop Lref03_Of_n0) (sumL decref03_Of_n0 stepDref03_Of_n0 outref03_Of_n0) := csum_loop mixed tabOk envref03_OfOk 0 (exk [3] [2] [(0, [3])]) annLref03_Of_n0_ok decref03_Of_n0_ok stepref03_Of_n0_ok stepref03_Of_n0_nat
noncomputable def Gref03_Of_n0 : (Ex → St → Ans) → St → Ans := (sumL decref03_Of_n0 stepDref03_Of_n0 outref03_Of_n0)
theorem Gref03_Of_n0_ok : CSum Try.prog 33 (.loop Lref03_Of_n0) Gref03_Of_n0 := GNref03_Of_n0_ok
noncomputable def annref03_Of : Ann := (.seq .none (.seq .none (.seq (.seq .none (.block (.cut 0 [0, 3, 4] Gref03_Of_n0))) .none)))
theorem annref03_Of_ok : AnnOk Try.prog 33 bref03_Of annref03_Of := ⟨(annOk_none _ _ _), ⟨(annOk_none _ _ _), ⟨⟨(annOk_none _ _ _), Gref03_Of_n0_ok⟩, (annOk_none _ _ _)⟩⟩⟩
abbrev Aref03_Of := (List UInt8)
abbrev Yref03_Of := (Int)
def fnref03_Of {β : Type} : Aref03_Of → (Yref03_Of → Option β) → Option β := fun a0 exit => (bindO (loopD (stepDref03_Of_n0 (a0)) FUEL ((4294967295 : Int), (0 : Int))) fun t3 => (exit (IntKind.wrap IntKind.i64 (↑(Int.toNat (t3 % (18446744073709551616 : Int)) ^^^ (4294967295 : Nat)) : Int))))
def fnDref03_Of (a : Aref03_Of) : Option Yref03_Of := fnref03_Of a some
theorem fnref03_Of_nat (a : Aref03_Of) (k : Yref03_Of → Ans) : fnref03_Of a k = bindO (fnDref03_Of a) k := by
  obtain z := a
  simp only [fnDref03_Of, fnref03_Of, bindO_cond, bindO_assoc, bindO_none, bindO_pure, bindO_elim, bindO_unP]
def argsref03_Of : Aref03_Of → List AV := fun a0 => [AV.str a0]
def decAref03_Of (l : List AV) : Option Aref03_Of := match l with
  | [AV.str a0] => some (a0)
  | _ => none
theorem decAref03_Of_ok (l : List AV) (a : Aref03_Of) (h : decAref03_Of l = some a) : l = argsref03_Of a := by
  unfold decAref03_Of at h
  split at h
  · cases h; rfl
  · cases h
def rendref03_Of : Aref03_Of → Yref03_Of → AV := fun a0 => fun r_y => AV.int IntKind.i64 r_y
theorem rendref03_Of_ok : ∀ (a : Aref03_Of) (y : Yref03_Of), (rendref03_Of a y).closed1 = true := by
  rintro z y <;> first | rfl | exact Empty.elim y
theorem fnref03_Of_ok (a : Aref03_Of) : fnE Try.tab envref03_Of noHint 0 70 65 Try.f65.ntmps Try.f65.results.toList annref03_Of bref03_Of (argsref03_Of a) [] (fun v _ => some (v, [])) = fnref03_Of a (fun y => some (rendref03_Of a y, [])) := by kernel_rfl
def vFref03_Of (a : Aref03_Of) (K : AV → Ans) : Ans := bindO (fnDref03_Of a) fun y => K (rendref03_Of a y)
def Fref03_Of : List AV → (AV → Ans) → Ans := fun l K => bindO (decAref03_Of l) fun a => vFref03_Of a K
theorem Fref03_Of_ok : PureOk Try.prog 65 Fref03_Of := pure_mkD (hint := noHint) (d := 0) (n := 70) mixed tabOk envref03_OfOk Try.func65 (bodySome (by kernel_rfl)) (by decide +kernel) annref03_Of_ok decAref03_Of_ok fnref03_Of_ok fnref03_Of_nat rendref03_Of_ok
--@ ref03_Tail
noncomputable def envref03_Tail : Env := [(65, .pure Fref03_Of)]
theorem envref03_TailOk : EnvOk Try.prog envref03_Tail := EnvOk.cons Fref03_Of_ok (EnvOk.nil)
noncomputable def bref03_Tail : Code := Try.f45.body.getD .skip
noncomputable def annref03_Tail : Ann := .none
theorem annref03_Tail_ok : AnnOk Try.prog 23 bref03_Tail annref03_Tail := (annOk_none _ _ _)
abbrev Aref03_Tail := (List UInt8)
abbrev Yref03_Tail := (List UInt8)
def fnref03_Tail {β : Type} : Aref03_Tail → (Yref03_Tail → Option β) → Option β := fun a0 exit => (bindO (fnDref03_Of (a0)) fun r => (exit (bytesOf [IntKind.wrap IntKind.u8 (Int.tmod r (256 : Int)), IntKind.wrap IntKind.u8 (Int.tmod (IntKind.wrap IntKind.i64 (Int.tdiv r (256 : Int))) (256 : Int)), IntKind.wrap IntKind.u8 (Int.tmod (IntKind.wrap IntKind.i64 (Int.tdiv r (65536 : Int))) (256 : Int)), IntKind.wrap IntKind.u8 (Int.tmod (IntKind.wrap IntKind.i64 (Int.tdiv r (16777216 : Int))) (256 : Int))])))
def fnDref03_Tail (a : Aref03_Tail) : Option Yref03_Tail := fnref03_Tail a some
theorem fnref03_Tail_nat (a : Aref03_Tail) (k : Yref03_Tail → Ans) : fnref03_Tail a k = bindO (fnDref03_Tail a) k := by
  obtain z := a
  simp only [fnDref03_Tail, fnref03_Tail, bindO_cond, bindO_assoc, bindO_none, bindO_pure, bindO_elim, bindO_unP]
def argsref03_Tail : Aref03_Tail → List AV := fun a0 => [AV.str a0]
def decAref03_Tail (l : List AV) : Option Aref03_Tail := match l with
  | [AV.str a0] => some (a0)
  | _ => none
theorem decAref03_Tail_ok (l : List AV) (a : Aref03_Tail) (h : decAref03_Tail l = some a) : l = argsref03_Tail a := by
  unfold decAref03_Tail at h
  split at h
  · cases h; rfl
  · cases h
def rendref03_Tail : Aref03_Tail → Yref03_Tail → AV := fun a0 => fun r_y => AV.str r_y
theorem rendref03_Tail_ok : ∀ (a : Aref03_Tail) (y : Yref03_Tail), (rendref03_Tail a y).closed1 = true := by
  rintro z y <;> first | rfl | exact Empty.elim y
theorem fnref03_Tail_ok (a : Aref03_Tail) : fnE Try.tab envref03_Tail noHint 0 70 45 Try.f45.ntmps Try.f45.results.toList annref03_Tail bref03_Tail (argsref03_Tail a) [] (fun v _ => some (v, [])) = fnref03_Tail a (fun y => some (rendref03_Tail a y, [])) := by kernel_rfl
def vFref03_Tail (a : Aref03_Tail) (K : AV → Ans) : Ans := bindO (fnDref03_Tail a) fun y => K (rendref03_Tail a y)
def Fref03_Tail : List AV → (AV → Ans) → Ans := fun l K => bindO (decAref03_Tail l) fun a => vFref03_Tail a K
theorem Fref03_Tail_ok : PureOk Try.prog 45 Fref03_Tail := pure_mkD (hint := noHint) (d := 0) (n := 70) mixed tabOk envref03_TailOk Try.func45 (bodySome (by kernel_rfl)) (by decide +kernel) annref03_Tail_ok decAref03_Tail_ok fnref03_Tail_ok fnref03_Tail_nat rendref03_Tail_ok
--@ ref09_Pad
noncomputable def envref09_Pad : Env := []
theorem envref09_PadOk : EnvOk Try.prog envref09_Pad := EnvOk.nil
noncomputable def bref09_Pad : Code := Try.f44.body.getD .skip
noncomputable def Lref09_Pad_n0 : Code := codeAt [1, 0, 0, 0] bref09_Pad
noncomputable def annLref09_Pad_n0 : Ann := .at 0 [0] (.loop .none)
theorem annLref09_Pad_n0_ok : AnnOk Try.prog 10 (.loop Lref09_Pad_n0) annLref09_Pad_n0 := annOk_at (annOk_none _ _ _)
abbrev Iref09_Pad_n0 := Unit
abbrev Yref09_Pad_n0 := (List UInt8)
abbrev Vref09_Pad_n0 := (List UInt8)
def Sref09_Pad_n0 : Iref09_Pad_n0 → Vref09_Pad_n0 → St := fun _ t0 => { env := [(0, AV.str t0)], stk := [[]], H := [], blk := 180224 }
def decref09_Pad_n0 (s : St) : Option (Iref09_Pad_n0 × Vref09_Pad_n0) := match s with
  | { env := [(0, AV.str t0)], stk := [[]], H := [], blk := 180224 } => some ((), t0)
  | _ => none
theorem decref09_Pad_n0_ok (s : St) (x : Iref09_Pad_n0 × Vref09_Pad_n0) (h : decref09_Pad_n0 s = some x) : s = Sref09_Pad_n0 x.1 x.2 := by
  unfold decref09_Pad_n0 at h
  split at h
  · cases h; rfl
  · cases h
def outref09_Pad_n0 : Iref09_Pad_n0 → (Ex → St → Ans) → Yref09_Pad_n0 → Ans := fun _ K => fun t0_y => K (Ex.exit 0) { env := [(0, AV.str t0_y)], stk := [[]], H := [], blk := 180224 }
def stepref09_Pad_n0 {β : Type} : Iref09_Pad_n0 → Vref09_Pad_n0 → (Vref09_Pad_n0 → Option β) → (Yref09_Pad_n0 → Option β) → Option β := fun _ t0 next exit => (bif Int.tmod (↑(List.length t0) : Int) (64 : Int) != (0 : Int) then (bif Nat.ble (List.length t0 + (1 : Nat)) (9223372036854775807 : Nat) then (next (t0 ++ [(0 : UInt8)])) else none) else (exit (t0)))
def stepDref09_Pad_n0 (i : Iref09_Pad_n0) (v : Vref09_Pad_n0) : Option (Vref09_Pad_n0 ⊕ Yref09_Pad_n0) := stepref09_Pad_n0 i v (fun v => some (.inl v)) (fun y => some (.inr y))
theorem stepref09_Pad_n0_nat (i : Iref09_Pad_n0) (v : Vref09_Pad_n0) (next : Vref09_Pad_n0 → Ans) (exit : Yref09_Pad_n0 → Ans) : stepref09_Pad_n0 i v next exit = bindO (stepDref09_Pad_n0 i v) (Sum.elim next exit) := by
  obtain z := i
  obtain z := v
  simp only [stepDref09_Pad_n0, stepref09_Pad_n0, bindO_cond, bindO_assoc, bindO_none, bindO_pure, bindO_elim, bindO_unP, Sum.elim_inl, Sum.elim_inr]
theorem stepref09_Pad_n0_ok (n : Nat) (i : Iref09_Pad_n0) (v : Vref09_Pad_n0) (K : Ex → St → Ans) : codeI Try.tab envref09_Pad noHint (codeD Try.tab envref09_Pad noHint 0 64) (n+1) 10 annLref09_Pad_n0 (.loop Lref09_Pad_n0) (weakP 0 (exk [0] [2] [(0, [0])]) K) (Sref09_Pad_n0 i v) = stepref09_Pad_n0 i v (fun v' => codeI Try.tab envref09_Pad noHint (codeD Try.tab envref09_Pad noHint 0 64) n 10 annLref09_Pad_n0 (.loop Lref09_Pad_n0) (weakP 0 (exk [0] [2] [(0, [0])]) K) (Sref09_Pad_n0 i v')) (fun y => outref09_Pad_n0 i K y) := by kernel_rfl
theorem GNref09_Pad_n0_ok : CSum Try.prog 10 (.loop Lref09_Pad_n0) (sumL decref09_Pad_n0 stepDref09_Pad_n0 outref09_Pad_n0) := csum_loop mixed tabOk envref09_PadOk 0 (exk [0] [2] [(0, [0])]) annLref09_Pad_n0_ok decref09_Pad_n0_ok stepref09_Pad_n0_ok stepref09_Pad_n0_nat
noncomputable def Gref09_Pad_n0 : (Ex → St → Ans) → St → Ans := (sumL decref09_Pad_n0 stepDref09_Pad_n0 outref09_Pad_n0)
theorem Gref09_Pad_n0_ok : CSum Try.prog 10 (.loop Lref09_Pad_n0) Gref09_Pad_n0 := GNref09_Pad_n0_ok
noncomputable def annref09_Pad : Ann := (.seq .none (.seq (.block (.cut 0 [0] Gref09_Pad_n0)) .none))
theorem annref09_Pad_ok : AnnOk Try.prog 10 bref09_Pad annref09_Pad := ⟨(annOk_none _ _ _), ⟨Gref09_Pad_n0_ok, (annOk_none _ _ _)⟩⟩
abbrev Aref09_Pad := (List UInt8)
abbrev Yref09_Pad := (List UInt8)
def fnref09_Pad {β : Type} : Aref09_Pad → (Yref09_Pad → Option β) → Option β := fun a0 exit => (bindO (loopD (stepDref09_Pad_n0 ()) FUEL (a0)) fun t0 => (exit (t0)))
def fnDref09_Pad (a : Aref09_Pad) : Option Yref09_Pad := fnref09_Pad a some
theorem fnref09_Pad_nat (a : Aref09_Pad) (k : Yref09_Pad → Ans) : fnref09_Pad a k = bindO (fnDref09_Pad a) k := by
  obtain z := a
  simp only [fnDref09_Pad, fnref09_Pad, bindO_cond, bindO_assoc, bindO_none, bindO_pure, bindO_elim, bindO_unP]
def argsref09_Pad : Aref09_Pad → List AV := fun a0 => [AV.str a0]
def decAref09_Pad (l : List AV) : Option Aref09_Pad := match l with
  | [AV.str a0] => some (a0)
  | _ => none
theorem decAref09_Pad_ok (l : List AV) (a : Aref09_Pad) (h : decAref09_Pad l = some a) : l = argsref09_Pad a := by
  unfold decAref09_Pad at h
  split at h
  · cases h; rfl
  · cases h
def rendref09_Pad : Aref09_Pad → Yref09_Pad → AV := fun a0 => fun r_y => AV.str r_y
theorem rendref09_Pad_ok : ∀ (a : Aref09_Pad) (y : Yref09_Pad), (rendref09_Pad a y).closed1 = true := by
  rintro z y <;> first | rfl | exact Empty.elim y
theorem fnref09_Pad_ok (a : Aref09_Pad) : fnE Try.tab envref09_Pad noHint 0 70 44 Try.f44.ntmps Try.f44.results.toList annref09_Pad bref09_Pad (argsref09_Pad a) [] (fun v _ => some (v, [])) = fnref09_Pad a (fun y => some (rendref09_Pad a y, [])) := by kernel_rfl
def vFref09_Pad (a : Aref09_Pad) (K : AV → Ans) : Ans := bindO (fnDref09_Pad a) fun y => K (rendref09_Pad a y)
def Fref09_Pad : List AV → (AV → Ans) → Ans := fun l K => bindO (decAref09_Pad l) fun a => vFref09_Pad a K
theorem Fref09_Pad_ok : PureOk Try.prog 44 Fref09_Pad := pure_mkD (hint := noHint) (d := 0) (n := 70) mixed tabOk envref09_PadOk Try.func44 (bodySome (by kernel_rfl)) (by decide +kernel) annref09_Pad_ok decAref09_Pad_ok fnref09_Pad_ok fnref09_Pad_nat rendref09_Pad_ok
--@ ref17_Put
noncomputable def envref17_Put : Env := [(16, .pure Fref17_Check), (42, .pure Fref02_Put), (43, .pure Fref05_Put), (45, .pure Fref03_Tail), (44, .pure Fref09_Pad)]
theorem envref17_PutOk : EnvOk Try.prog envref17_Put := EnvOk.cons Fref17_Check_ok (EnvOk.cons Fref02_Put_ok (EnvOk.cons Fref05_Put_ok (EnvOk.cons Fref03_Tail_ok (EnvOk.cons Fref09_Pad_ok (EnvOk.nil)))))
noncomputable def bref17_Put : Code := Try.f14.body.getD .skip
noncomputable def Lref17_Put_n1 : Code := codeAt [1, 1, 0, 1, 0, 0] bref17_Put
noncomputable def annLref17_Put_n1 : Ann := .none
theorem annLref17_Put_n1_ok : AnnOk Try.prog 35 Lref17_Put_n1 annLref17_Put_n1 := (annOk_none _ _ _)
abbrev Iref17_Put_n1 := (List UInt8) × (Int) × (Int) × (Int) × (Int) × (Int) × (Int)
abbrev Yref17_Put_n1 := ((Int)) ⊕ ((List UInt8))
def Sref17_Put_n1 : Iref17_Put_n1 → St := fun (t4, o0_0, o0_1, o0_2, o0_3, o0_4, o0_5) => { env := [(1, AV.ptr 0 0), (4, AV.str t4), (5, AV.int IntKind.i64 (1))], stk := [[]], H := [AE.Obj.cells [AV.int IntKind.i64 o0_0, AV.int IntKind.i64 o0_1, AV.int IntKind.i64 o0_2, AV.int IntKind.i64 o0_3, AV.int IntKind.i64 o0_4, AV.int IntKind.i64 o0_5]], blk := 57344 }
def decref17_Put_n1 (s : St) : Option Iref17_Put_n1 := match s with
  | { env := [(1, AV.ptr 0 0), (4, AV.str t4), (5, AV.int IntKind.i64 r1)], stk := [[]], H := [AE.Obj.cells [AV.int IntKind.i64 o0_0, AV.int IntKind.i64 o0_1, AV.int IntKind.i64 o0_2, AV.int IntKind.i64 o0_3, AV.int IntKind.i64 o0_4, AV.int IntKind.i64 o0_5]], blk := 57344 } => cond (decide (r1 = 1)) (some (t4, o0_0, o0_1, o0_2, o0_3, o0_4, o0_5)) none
  | _ => none
theorem decref17_Put_n1_ok (s : St) (x : Iref17_Put_n1) (h : decref17_Put_n1 s = some x) : s = Sref17_Put_n1 x := by
  unfold decref17_Put_n1 at h
  split at h
  · replace h := cond_noneO h; obtain ⟨hg, h⟩ := h; simp only [Bool.and_eq_true, decide_eq_true_eq] at hg; simp only [hg]; cases h; rfl
  · cases h
def outref17_Put_n1 : Iref17_Put_n1 → (Ex → St → Ans) → Yref17_Put_n1 → Ans := fun (t4, o0_0, o0_1, o0_2, o0_3, o0_4, o0_5) K => (Sum.elim (fun t3_y => K (Ex.ret) { env := [(2, AV.str ([])), (3, AV.int IntKind.i64 t3_y)], stk := [[]], H := [], blk := 57345 }) (fun t4_y => K (Ex.norm) { env := [(1, AV.ptr 0 0), (4, AV.str t4_y), (5, AV.int IntKind.i64 (2))], stk := [[]], H := [AE.Obj.cells [AV.int IntKind.i64 o0_0, AV.int IntKind.i64 o0_1, AV.int IntKind.i64 o0_2, AV.int IntKind.i64 o0_3, AV.int IntKind.i64 o0_4, AV.int IntKind.i64 o0_5]], blk := 57345 }))
def noderef17_Put_n1 {β : Type} : Iref17_Put_n1 → (Yref17_Put_n1 → Option β) → Option β := fun (t4, o0_0, o0_1, o0_2, o0_3, o0_4, o0_5) exit => (bindO (fnDref17_Check (o0_3, o0_4, o0_5)) fun r => (bif r != (0 : Int) then (exit (Sum.inl (r))) else (bindO (fnDref05_Put (t4, o0_3, o0_4)) fun r_2 => (bindO (fnDref02_Put (r_2, IntKind.wrap IntKind.i64 (o0_5 + (1 : Int)), (1 : Int))) fun r_3 => (exit (Sum.inr (r_3)))))))
def nodeDref17_Put_n1 (i : Iref17_Put_n1) : Option Yref17_Put_n1 := noderef17_Put_n1 i some
theorem noderef17_Put_n1_nat (i : Iref17_Put_n1) (k : Yref17_Put_n1 → Ans) : noderef17_Put_n1 i k = bindO (nodeDref17_Put_n1 i) k := by
  obtain ⟨t4, o0_0, o0_1, o0_2, o0_3, o0_4, o0_5⟩ := i
  simp only [nodeDref17_Put_n1, noderef17_Put_n1, bindO_cond, bindO_assoc, bindO_none, bindO_pure, bindO_elim, bindO_unP]
theorem noderef17_Put_n1_ok (i : Iref17_Put_n1) (K : Ex → St → Ans) : codeI Try.tab envref17_Put noHint (codeD Try.tab envref17_Put noHint 0 64) 70 35 annLref17_Put_n1 Lref17_Put_n1 (weakP 0 (exk [1, 4, 5] [2, 3] [(0, [4])]) K) (Sref17_Put_n1 i) = noderef17_Put_n1 i (outref17_Put_n1 i K) := by kernel_rfl
theorem GNref17_Put_n1_ok : CSum Try.prog 35 Lref17_Put_n1 (sumN decref17_Put_n1 nodeDref17_Put_n1 outref17_Put_n1) := csum_node mixed tabOk envref17_PutOk 0 (exk [1, 4, 5] [2, 3] [(0, [4])]) annLref17_Put_n1_ok decref17_Put_n1_ok noderef17_Put_n1_ok noderef17_Put_n1_nat
abbrev Iref17_Put_n1v1 := (List UInt8) × (Int) × (Int) × (Int) × (Int) × (Int) × (Int)
abbrev Yref17_Put_n1v1 := Unit
def Sref17_Put_n1v1 : Iref17_Put_n1v1 → St := fun (t4, o0_0, o0_1, o0_2, o0_3, o0_4, o0_5) => { env := [(1, AV.ptr 0 0), (4, AV.str t4), (5, AV.int IntKind.i64 (2))], stk := [[]], H := [AE.Obj.cells [AV.int IntKind.i64 o0_0, AV.int IntKind.i64 o0_1, AV.int IntKind.i64 o0_2, AV.int IntKind.i64 o0_3, AV.int IntKind.i64 o0_4, AV.int IntKind.i64 o0_5]], blk := 57344 }
def decref17_Put_n1v1 (s : St) : Option Iref17_Put_n1v1 := match s with
  | { env := [(1, AV.ptr 0 0), (4, AV.str t4), (5, AV.int IntKind.i64 r1)], stk := [[]], H := [AE.Obj.cells [AV.int IntKind.i64 o0_0, AV.int IntKind.i64 o0_1, AV.int IntKind.i64 o0_2, AV.int IntKind.i64 o0_3, AV.int IntKind.i64 o0_4, AV.int IntKind.i64 o0_5]], blk := 57344 } => cond (decide (r1 = 2)) (some (t4, o0_0, o0_1, o0_2, o0_3, o0_4, o0_5)) none
  | _ => none
theorem decref17_Put_n1v1_ok (s : St) (x : Iref17_Put_n1v1) (h : decref17_Put_n1v1 s = some x) : s = Sref17_Put_n1v1 x := by
  unfold decref17_Put_n1v1 at h
  split at h
  · replace h := cond_noneO h; obtain ⟨hg, h⟩ := h; simp only [Bool.and_eq_true, decide_eq_true_eq] at hg; simp only [hg]; cases h; rfl
  · cases h
def outref17_Put_n1v1 : Iref17_Put_n1v1 → (Ex → St → Ans) → Yref17_Put_n1v1 → Ans := fun (t4, o0_0, o0_1, o0_2, o0_3, o0_4, o0_5) K => fun _ => K (Ex.exit 0) { env := [(4, AV.str t4)], stk := [[]], H := [], blk := 57344 }
def noderef17_Put_n1v1 {β : Type} : Iref17_Put_n1v1 → (Yref17_Put_n1v1 → Option β) → Option β := fun (t4, o0_0, o0_1, o0_2, o0_3, o0_4, o0_5) exit => (exit ())
def nodeDref17_Put_n1v1 (i : Iref17_Put_n1v1) : Option Yref17_Put_n1v1 := noderef17_Put_n1v1 i some
theorem noderef17_Put_n1v1_nat (i : Iref17_Put_n1v1) (k : Yref17_Put_n1v1 → Ans) : noderef17_Put_n1v1 i k = bindO (nodeDref17_Put_n1v1 i) k := by
  obtain ⟨t4, o0_0, o0_1, o0_2, o0_3, o0_4, o0_5⟩ := i
  simp only [nodeDref17_Put_n1v1, noderef17_Put_n1v1, bindO_cond, bindO_assoc, bindO_none, bindO_pure, bindO_elim, bindO_unP]
theorem noderef17_Put_n1v1_ok (i : Iref17_Put_n1v1) (K : Ex → St → Ans) : codeI Try.tab envref17_Put noHint (codeD Try.tab envref17_Put noHint 0 64) 70 35 annLref17_Put_n1 Lref17_Put_n1 (weakP 0 (exk [1, 4, 5] [2, 3] [(0, [4])]) K) (Sref17_Put_n1v1 i) = noderef17_Put_n1v1 i (outref17_Put_n1v1 i K) := by kernel_rfl
theorem GNref17_Put_n1v1_ok : CSum Try.prog 35 Lref17_Put_n1 (sumN decref17_Put_n1v1 nodeDref17_Put_n1v1 outref17_Put_n1v1) := csum_node mixed tabOk envref17_PutOk 0 (exk [1, 4, 5] [2, 3] [(0, [4])]) annLref17_Put_n1_ok decref17_Put_n1v1_ok noderef17_Put_n1v1_ok noderef17_Put_n1v1_nat
abbrev Iref17_Put_n1v2 := (List UInt8) × (Int) × (Int) × (Int) × (Int) × (Int) × (Int)
abbrev Yref17_Put_n1v2 := ((Int)) ⊕ ((List UInt8))
def Sref17_Put_n1v2 : Iref17_Put_n1v2 → St := fun (t4, o0_0, o0_1, o0_2, o0_3, o0_4, o0_5) => { env := [(1, AV.ptr 0 0), (4, AV.str t4), (5, AV.int IntKind.i64 (0))], stk := [[]], H := [AE.Obj.cells [AV.int IntKind.i64 o0_0, AV.int IntKind.i64 o0_1, AV.int IntKind.i64 o0_2, AV.int IntKind.i64 o0_3, AV.int IntKind.i64 o0_4, AV.int IntKind.i64 o0_5]], blk := 57344 }
def decref17_Put_n1v2 (s : St) : Option Iref17_Put_n1v2 := match s with
  | { env := [(1, AV.ptr 0 0), (4, AV.str t4), (5, AV.int IntKind.i64 r1)], stk := [[]], H := [AE.Obj.cells [AV.int IntKind.i64 o0_0, AV.int IntKind.i64 o0_1, AV.int IntKind.i64 o0_2, AV.int IntKind.i64 o0_3, AV.int IntKind.i64 o0_4, AV.int IntKind.i64 o0_5]], blk := 57344 } => cond (decide (r1 = 0)) (some (t4, o0_0, o0_1, o0_2, o0_3, o0_4, o0_5)) none
  | _ => none
theorem decref17_Put_n1v2_ok (s : St) (x : Iref17_Put_n1v2) (h : decref17_Put_n1v2 s = some x) : s = Sref17_Put_n1v2 x := by
  unfold decref17_Put_n1v2 at h
  split at h
  · replace h := cond_noneO h; obtain ⟨hg, h⟩ := h; simp only [Bool.and_eq_true, decide_eq_true_eq] at hg; simp only [hg]; cases h; rfl
  · cases h
def outref17_Put_n1v2 : Iref17_Put_n1v2 → (Ex → St → Ans) → Yref17_Put_n1v2 → Ans := fun (t4, o0_0, o0_1, o0_2, o0_3, o0_4, o0_5) K => (Sum.elim (fun t3_y => K (Ex.ret) { env := [(2, AV.str ([])), (3, AV.int IntKind.i64 t3_y)], stk := [[]], H := [], blk := 57345 }) (fun t4_y => K (Ex.norm) { env := [(1, AV.ptr 0 0), (4, AV.str t4_y), (5, AV.int IntKind.i64 (1))], stk := [[]], H := [AE.Obj.cells [AV.int IntKind.i64 o0_0, AV.int IntKind.i64 o0_1, AV.int IntKind.i64 o0_2, AV.int IntKind.i64 o0_3, AV.int IntKind.i64 o0_4, AV.int IntKind.i64 o0_5]], blk := 57345 }))
def noderef17_Put_n1v2 {β : Type} : Iref17_Put_n1v2 → (Yref17_Put_n1v2 → Option β) → Option β := fun (t4, o0_0, o0_1, o0_2, o0_3, o0_4, o0_5) exit => (bindO (fnDref17_Check (o0_0, o0_1, o0_2)) fun r => (bif r != (0 : Int) then (exit (Sum.inl (r))) else (bindO (fnDref05_Put (t4, o0_0, o0_1)) fun r_2 => (bindO (fnDref02_Put (r_2, IntKind.wrap IntKind.i64 (o0_2 + (1 : Int)), (1 : Int))) fun r_3 => (exit (Sum.inr (r_3)))))))
def nodeDref17_Put_n1v2 (i : Iref17_Put_n1v2) : Option Yref17_Put_n1v2 := noderef17_Put_n1v2 i some
theorem noderef17_Put_n1v2_nat (i : Iref17_Put_n1v2) (k : Yref17_Put_n1v2 → Ans) : noderef17_Put_n1v2 i k = bindO (nodeDref17_Put_n1v2 i) k := by
  obtain ⟨t4, o0_0, o0_1, o0_2, o0_3, o0_4, o0_5⟩ := i
  simp only [nodeDref17_Put_n1v2, noderef17_Put_n1v2, bindO_cond, bindO_assoc, bindO_none, bindO_pure, bindO_elim, bindO_unP]
theorem noderef17_Put_n1v2_ok (i : Iref17_Put_n1v2) (K : Ex → St → Ans) : codeI Try.tab envref17_Put noHint (codeD Try.tab envref17_Put noHint 0 64) 70 35 annLref17_Put_n1 Lref17_Put_n1 (weakP 0 (exk [1, 4, 5] [2, 3] [(0, [4])]) K) (Sref17_Put_n1v2 i) = noderef17_Put_n1v2 i (outref17_Put_n1v2 i K) := by kernel_rfl
theorem GNref17_Put_n1v2_ok : CSum Try.prog 35 Lref17_Put_n1 (sumN decref17_Put_n1v2 nodeDref17_Put_n1v2 outref17_Put_n1v2) := csum_node mixed tabOk envref17_PutOk 0 (exk [1, 4, 5] [2, 3] [(0, [4])]) annLref17_Put_n1_ok decref17_Put_n1v2_ok noderef17_Put_n1v2_ok noderef17_Put_n1v2_nat
noncomputable def Gref17_Put_n1 : (Ex → St → Ans) → St → Ans := (altN decref17_Put_n1 (sumN decref17_Put_n1 nodeDref17_Put_n1 outref17_Put_n1) (altN decref17_Put_n1v1 (sumN decref17_Put_n1v1 nodeDref17_Put_n1v1 outref17_Put_n1v1) (sumN decref17_Put_n1v2 nodeDref17_Put_n1v2 outref17_Put_n1v2)))
theorem Gref17_Put_n1_ok : CSum Try.prog 35 Lref17_Put_n1 Gref17_Put_n1 := (csum_altN GNref17_Put_n1_ok (csum_altN GNref17_Put_n1v1_ok GNref17_Put_n1v2_ok))
noncomputable def Lref17_Put_n0 : Code := codeAt [1, 1, 0, 1] bref17_Put
noncomputable def annLref17_Put_n0 : Ann := (.block (.at 0 [1, 4, 5] (.loop (.cut 0 [1, 4, 5] Gref17_Put_n1))))
theorem annLref17_Put_n0_ok : AnnOk Try.prog 35 Lref17_Put_n0 annLref17_Put_n0 := (annOk_at Gref17_Put_n1_ok)
abbrev Iref17_Put_n0 := (Int) × (Int) × (Int) × (Int) × (Int) × (Int)
abbrev Yref17_Put_n0 := ((Int)) ⊕ ((List UInt8))
def Sref17_Put_n0 : Iref17_Put_n0 → St := fun (o0_0, o0_1, o0_2, o0_3, o0_4, o0_5) => { env := [(1, AV.ptr 0 0), (4, AV.str ([69])), (5, AV.int IntKind.i64 (0))], stk := [[]], H := [AE.Obj.cells [AV.int IntKind.i64 o0_0, AV.int IntKind.i64 o0_1, AV.int IntKind.i64 o0_2, AV.int IntKind.i64 o0_3, AV.int IntKind.i64 o0_4, AV.int IntKind.i64 o0_5]], blk := 57344 }
def decref17_Put_n0 (s : St) : Option Iref17_Put_n0 := match s with
  | { env := [(1, AV.ptr 0 0), (4, AV.str r0), (5, AV.int IntKind.i64 r1)], stk := [[]], H := [AE.Obj.cells [AV.int IntKind.i64 o0_0, AV.int IntKind.i64 o0_1, AV.int IntKind.i64 o0_2, AV.int IntKind.i64 o0_3, AV.int IntKind.i64 o0_4, AV.int IntKind.i64 o0_5]], blk := 57344 } => cond (decide (r0 = [69]) && decide (r1 = 0)) (some (o0_0, o0_1, o0_2, o0_3, o0_4, o0_5)) none
  | _ => none
theorem decref17_Put_n0_ok (s : St) (x : Iref17_Put_n0) (h : decref17_Put_n0 s = some x) : s = Sref17_Put_n0 x := by
  unfold decref17_Put_n0 at h
  split at h
  · replace h := cond_noneO h; obtain ⟨hg, h⟩ := h; simp only [Bool.and_eq_true, decide_eq_true_eq] at hg; simp only [hg]; cases h; rfl
  · cases h
def outref17_Put_n0 : Iref17_Put_n0 → (Ex → St → Ans) → Yref17_Put_n0 → Ans := fun (o0_0, o0_1, o0_2, o0_3, o0_4, o0_5) K => (Sum.elim (fun t3_y => K (Ex.ret) { env := [(2, AV.str ([])), (3, AV.int IntKind.i64 t3_y)], stk := [[]], H := [], blk := 57345 }) (fun t4_y => K (Ex.norm) { env := [(4, AV.str t4_y)], stk := [[]], H := [], blk := 57344 }))
def noderef17_Put_n0 {β : Type} : Iref17_Put_n0 → (Yref17_Put_n0 → Option β) → Option β := fun (o0_0, o0_1, o0_2, o0_3, o0_4, o0_5) exit => (bindO (nodeDref17_Put_n1v2 ([(69 : UInt8)], o0_0, o0_1, o0_2, o0_3, o0_4, o0_5)) (Sum.elim (fun t3 => (exit (Sum.inl (t3)))) (fun t4 => (bindO (nodeDref17_Put_n1 (t4, o0_0, o0_1, o0_2, o0_3, o0_4, o0_5)) (Sum.elim (fun t3 => (exit (Sum.inl (t3)))) (fun t4_2 => (bindO (nodeDref17_Put_n1v1 (t4_2, o0_0, o0_1, o0_2, o0_3, o0_4, o0_5)) fun _ => (exit (Sum.inr (t4_2))))))))))
def nodeDref17_Put_n0 (i : Iref17_Put_n0) : Option Yref17_Put_n0 := noderef17_Put_n0 i some
theorem noderef17_Put_n0_nat (i : Iref17_Put_n0) (k : Yref17_Put_n0 → Ans) : noderef17_Put_n0 i k = bindO (nodeDref17_Put_n0 i) k := by
  obtain ⟨o0_0, o0_1, o0_2, o0_3, o0_4, o0_5⟩ := i
  simp only [nodeDref17_Put_n0, noderef17_Put_n0, bindO_cond, bindO_assoc, bindO_none, bindO_pure, bindO_elim, bindO_unP]
theorem noderef17_Put_n0_ok (i : Iref17_Put_n0) (K : Ex → St → Ans) : codeI Try.tab envref17_Put noHint (codeD Try.tab envref17_Put noHint 0 64) 70 35 annLref17_Put_n0 Lref17_Put_n0 (weakP 0 (exk [4] [2, 3] []) K) (Sref17_Put_n0 i) = noderef17_Put_n0 i (outref17_Put_n0 i K) := by kernel_rfl
theorem GNref17_Put_n0_ok : CSum Try.prog 35 Lref17_Put_n0 (sumN decref17_Put_n0 nodeDref17_Put_n0 outref17_Put_n0) := csum_node mixed tabOk envref17_PutOk 0 (exk [4] [2, 3] []) annLref17_Put_n0_ok decref17_Put_n0_ok noderef17_Put_n0_ok noderef17_Put_n0_nat
noncomputable def Gref17_Put_n0 : (Ex → St → Ans) → St → Ans := (sumN decref17_Put_n0 nodeDref17_Put_n0 outref17_Put_n0)
theorem Gref17_Put_n0_ok : CSum Try.prog 35 Lref17_Put_n0 Gref17_Put_n0 := GNref17_Put_n0_ok
noncomputable def annref17_Put : Ann := (.seq .none (.seq .none (.seq (.seq .none (.cut 0 [1, 4, 5] Gref17_Put_n0)) .none)))
theorem annref17_Put_ok : AnnOk Try.prog 35 bref17_Put annref17_Put := ⟨(annOk_none _ _ _), ⟨(annOk_none _ _ _), ⟨⟨(annOk_none _ _ _), Gref17_Put_n0_ok⟩, (annOk_none _ _ _)⟩⟩⟩
abbrev Aref17_Put := (Int) × (Int) × (Int) × (Int) × (Int) × (Int)
abbrev Yref17_Put := (List UInt8) × (Int)
def fnref17_Put {β : Type} : Aref17_Put → (Yref17_Put → Option β) → Option β := fun (a0_0, a0_1, a0_2, a0_3, a0_4, a0_5) exit => (bindO (nodeDref17_Put_n0 (a0_0, a0_1, a0_2, a0_3, a0_4, a0_5)) (Sum.elim (fun t3 => (exit ([], t3))) (fun t4 => (bindO (fnDref03_Tail (t4)) fun r => (bif Nat.ble (List.length t4 + List.length r) (9223372036854775807 : Nat) then (bindO (fnDref09_Pad (t4 ++ r)) fun r_2 => (exit (r_2, (0 : Int)))) else none)))))
def fnDref17_Put (a : Aref17_Put) : Option Yref17_Put := fnref17_Put a some
theorem fnref17_Put_nat (a : Aref17_Put) (k : Yref17_Put → Ans) : fnref17_Put a k = bindO (fnDref17_Put a) k := by
  obtain ⟨a0_0, a0_1, a0_2, a0_3, a0_4, a0_5⟩ := a
  simp only [fnDref17_Put, fnref17_Put, bindO_cond, bindO_assoc, bindO_none, bindO_pure, bindO_elim, bindO_unP]
def argsref17_Put : Aref17_Put → List AV := fun (a0_0, a0_1, a0_2, a0_3, a0_4, a0_5) => [AV.agg [AV.int IntKind.i64 a0_0, AV.int IntKind.i64 a0_1, AV.int IntKind.i64 a0_2, AV.int IntKind.i64 a0_3, AV.int IntKind.i64 a0_4, AV.int IntKind.i64 a0_5]]
def decAref17_Put (l : List AV) : Option Aref17_Put := match l with
  | [AV.agg [AV.int IntKind.i64 a0_0, AV.int IntKind.i64 a0_1, AV.int IntKind.i64 a0_2, AV.int IntKind.i64 a0_3, AV.int IntKind.i64 a0_4, AV.int IntKind.i64 a0_5]] => some (a0_0, a0_1, a0_2, a0_3, a0_4, a0_5)
  | _ => none
theorem decAref17_Put_ok (l : List AV) (a : Aref17_Put) (h : decAref17_Put l = some a) : l = argsref17_Put a := by
  unfold decAref17_Put at h
  split at h
  · cases h; rfl
  · cases h
def rendref17_Put : Aref17_Put → Yref17_Put → AV := fun (a0_0, a0_1, a0_2, a0_3, a0_4, a0_5) => unP fun r_0_y r_1_y => AV.tup [AV.str r_0_y, AV.int IntKind.i64 r_1_y]
theorem rendref17_Put_ok : ∀ (a : Aref17_Put) (y : Yref17_Put), (rendref17_Put a y).closed1 = true := by
  rintro ⟨a0_0, a0_1, a0_2, a0_3, a0_4, a0_5⟩ y <;> first | rfl | exact Empty.elim y
theorem fnref17_Put_ok (a : Aref17_Put) : fnE Try.tab envref17_Put noHint 0 70 14 Try.f14.ntmps Try.f14.results.toList annref17_Put bref17_Put (argsref17_Put a) [] (fun v _ => some (v, [])) = fnref17_Put a (fun y => some (rendref17_Put a y, [])) := by kernel_rfl
def vFref17_Put (a : Aref17_Put) (K : AV → Ans) : Ans := bindO (fnDref17_Put a) fun y => K (rendref17_Put a y)
def Fref17_Put : List AV → (AV → Ans) → Ans := fun l K => bindO (decAref17_Put l) fun a => vFref17_Put a K
theorem Fref17_Put_ok : PureOk Try.prog 14 Fref17_Put := pure_mkD (hint := noHint) (d := 0) (n := 70) mixed tabOk envref17_PutOk Try.func14 (bodySome (by kernel_rfl)) (by decide +kernel) annref17_Put_ok decAref17_Put_ok fnref17_Put_ok fnref17_Put_nat rendref17_Put_ok
--@ law17_EntryPuts
noncomputable def envlaw17_EntryPuts : Env := [(15, .pure Fentry_Check), (13, .pure Fentry_Put), (12, .pure Flaw17_works), (16, .pure Fref17_Check), (14, .pure Fref17_Put)]
theorem envlaw17_EntryPutsOk : EnvOk Try.prog envlaw17_EntryPuts := EnvOk.cons Fentry_Check_ok (EnvOk.cons Fentry_Put_ok (EnvOk.cons Flaw17_works_ok (EnvOk.cons Fref17_Check_ok (EnvOk.cons Fref17_Put_ok (EnvOk.nil)))))
noncomputable def blaw17_EntryPuts : Code := Try.f3.body.getD .skip
noncomputable def Llaw17_EntryPuts_n0 : Code := codeAt [1, 1, 1, 1, 0] blaw17_EntryPuts
noncomputable def annLlaw17_EntryPuts_n0 : Ann := .none
theorem annLlaw17_EntryPuts_n0_ok : AnnOk Try.prog 45 Llaw17_EntryPuts_n0 annLlaw17_EntryPuts_n0 := (annOk_none _ _ _)
abbrev Ilaw17_EntryPuts_n0 := (List UInt8) × (Int) × (List UInt8) × (Int) × (Int) × (Int) × (Int) × (Int) × (Int) × (Int)
abbrev Ylaw17_EntryPuts_n0 := (Bool)
def Slaw17_EntryPuts_n0 : Ilaw17_EntryPuts_n0 → St := fun (t3, t4, t5, t6, o0_0, o0_1, o0_2, o0_3, o0_4, o0_5) => { env := [(1, AV.ptr 0 0), (3, AV.str t3), (4, AV.int IntKind.i64 t4), (5, AV.str t5), (6, AV.int IntKind.i64 t6)], stk := [[]], H := [AE.Obj.cells [AV.int IntKind.i64 o0_0, AV.int IntKind.i64 o0_1, AV.int IntKind.i64 o0_2, AV.int IntKind.i64 o0_3, AV.int IntKind.i64 o0_4, AV.int IntKind.i64 o0_5]], blk := 12288 }
def declaw17_EntryPuts_n0 (s : St) : Option Ilaw17_EntryPuts_n0 := match s with
  | { env := [(1, AV.ptr 0 0), (3, AV.str t3), (4, AV.int IntKind.i64 t4), (5, AV.str t5), (6, AV.int IntKind.i64 t6)], stk := [[]], H := [AE.Obj.cells [AV.int IntKind.i64 o0_0, AV.int IntKind.i64 o0_1, AV.int IntKind.i64 o0_2, AV.int IntKind.i64 o0_3, AV.int IntKind.i64 o0_4, AV.int IntKind.i64 o0_5]], blk := 12288 } => some (t3, t4, t5, t6, o0_0, o0_1, o0_2, o0_3, o0_4, o0_5)
  | _ => none
theorem declaw17_EntryPuts_n0_ok (s : St) (x : Ilaw17_EntryPuts_n0) (h : declaw17_EntryPuts_n0 s = some x) : s = Slaw17_EntryPuts_n0 x := by
  unfold declaw17_EntryPuts_n0 at h
  split at h
  · cases h; rfl
  · cases h
def outlaw17_EntryPuts_n0 : Ilaw17_EntryPuts_n0 → (Ex → St → Ans) → Ylaw17_EntryPuts_n0 → Ans := fun (t3, t4, t5, t6, o0_0, o0_1, o0_2, o0_3, o0_4, o0_5) K => fun t2_y => K (Ex.norm) { env := [(2, AV.bool t2_y)], stk := [[]], H := [], blk := 12288 }
def nodelaw17_EntryPuts_n0 {β : Type} : Ilaw17_EntryPuts_n0 → (Ylaw17_EntryPuts_n0 → Option β) → Option β := fun (t3, t4, t5, t6, o0_0, o0_1, o0_2, o0_3, o0_4, o0_5) exit => (bif t3 == t5 then (bif t4 == t6 then (bindO (fnDentry_Check (o0_0, o0_1, o0_2)) fun r => (bindO (fnDref17_Check (o0_0, o0_1, o0_2)) fun r_2 => (bif r == r_2 then (bindO (fnDentry_Check (o0_3, o0_4, o0_5)) fun r_3 => (bindO (fnDref17_Check (o0_3, o0_4, o0_5)) fun r_4 => (exit (r_3 == r_4)))) else (exit (false))))) else (exit (false))) else (exit (false)))
def nodeDlaw17_EntryPuts_n0 (i : Ilaw17_EntryPuts_n0) : Option Ylaw17_EntryPuts_n0 := nodelaw17_EntryPuts_n0 i some
theorem nodelaw17_EntryPuts_n0_nat (i : Ilaw17_EntryPuts_n0) (k : Ylaw17_EntryPuts_n0 → Ans) : nodelaw17_EntryPuts_n0 i k = bindO (nodeDlaw17_EntryPuts_n0 i) k := by
  obtain ⟨t3, t4, t5, t6, o0_0, o0_1, o0_2, o0_3, o0_4, o0_5⟩ := i
  simp only [nodeDlaw17_EntryPuts_n0, nodelaw17_EntryPuts_n0, bindO_cond, bindO_assoc, bindO_none, bindO_pure, bindO_elim, bindO_unP]
theorem nodelaw17_EntryPuts_n0_ok (i : Ilaw17_EntryPuts_n0) (K : Ex → St → Ans) : codeI Try.tab envlaw17_EntryPuts noHint (codeD Try.tab envlaw17_EntryPuts noHint 0 64) 70 45 annLlaw17_EntryPuts_n0 Llaw17_EntryPuts_n0 (weakP 0 (exk [2] [2] []) K) (Slaw17_EntryPuts_n0 i) = nodelaw17_EntryPuts_n0 i (outlaw17_EntryPuts_n0 i K) := by kernel_rfl
theorem GNlaw17_EntryPuts_n0_ok : CSum Try.prog 45 Llaw17_EntryPuts_n0 (sumN declaw17_EntryPuts_n0 nodeDlaw17_EntryPuts_n0 outlaw17_EntryPuts_n0) := csum_node mixed tabOk envlaw17_EntryPutsOk 0 (exk [2] [2] []) annLlaw17_EntryPuts_n0_ok declaw17_EntryPuts_n0_ok nodelaw17_EntryPuts_n0_ok nodelaw17_EntryPuts_n0_nat
noncomputable def Glaw17_EntryPuts_n0 : (Ex → St → Ans) → St → Ans := (sumN declaw17_EntryPuts_n0 nodeDlaw17_EntryPuts_n0 outlaw17_EntryPuts_n0)
theorem Glaw17_EntryPuts_n0_ok : CSum Try.prog 45 Llaw17_EntryPuts_n0 Glaw17_EntryPuts_n0 := GNlaw17_EntryPuts_n0_ok
noncomputable def annlaw17_EntryPuts : Ann := (.seq .none (.seq .none (.seq .none (.seq .none (.seq (.cut 0 [1, 3, 4, 5, 6] Glaw17_EntryPuts_n0) .none)))))
theorem annlaw17_EntryPuts_ok : AnnOk Try.prog 45 blaw17_EntryPuts annlaw17_EntryPuts := ⟨(annOk_none _ _ _), ⟨(annOk_none _ _ _), ⟨(annOk_none _ _ _), ⟨(annOk_none _ _ _), ⟨Glaw17_EntryPuts_n0_ok, (annOk_none _ _ _)⟩⟩⟩⟩⟩
abbrev Alaw17_EntryPuts := (Int) × (Int) × (Int) × (Int) × (Int) × (Int)
abbrev Ylaw17_EntryPuts := (Bool)
def fnlaw17_EntryPuts {β : Type} : Alaw17_EntryPuts → (Ylaw17_EntryPuts → Option β) → Option β := fun (a0_0, a0_1, a0_2, a0_3, a0_4, a0_5) exit => (bindO (fnDlaw17_works ()) fun r => (bif !r then (exit (false)) else (bindO (fnDentry_Put (a0_0, a0_1, a0_2, a0_3, a0_4, a0_5)) (unP fun r_0 r_1 => (bindO (fnDref17_Put (a0_0, a0_1, a0_2, a0_3, a0_4, a0_5)) (unP fun r_0_2 r_1_2 => (bindO (nodeDlaw17_EntryPuts_n0 (r_0, r_1, r_0_2, r_1_2, a0_0, a0_1, a0_2, a0_3, a0_4, a0_5)) fun t2 => (exit (t2)))))))))
def fnDlaw17_EntryPuts (a : Alaw17_EntryPuts) : Option Ylaw17_EntryPuts := fnlaw17_EntryPuts a some
theorem fnlaw17_EntryPuts_nat (a : Alaw17_EntryPuts) (k : Ylaw17_EntryPuts → Ans) : fnlaw17_EntryPuts a k = bindO (fnDlaw17_EntryPuts a) k := by
  obtain ⟨a0_0, a0_1, a0_2, a0_3, a0_4, a0_5⟩ := a
  simp only [fnDlaw17_EntryPuts, fnlaw17_EntryPuts, bindO_cond, bindO_assoc, bindO_none, bindO_pure, bindO_elim, bindO_unP]
def argslaw17_EntryPuts : Alaw17_EntryPuts → List AV × List AE.Obj := fun (a0_0, a0_1, a0_2, a0_3, a0_4, a0_5) => ([AV.agg [AV.int IntKind.i64 a0_0, AV.int IntKind.i64 a0_1, AV.int IntKind.i64 a0_2, AV.int IntKind.i64 a0_3, AV.int IntKind.i64 a0_4, AV.int IntKind.i64 a0_5]], [])
def decAlaw17_EntryPuts (l : List AV) (H : List AE.Obj) : Option Alaw17_EntryPuts := match l, H with
  | [AV.agg [AV.int IntKind.i64 a0_0, AV.int IntKind.i64 a0_1, AV.int IntKind.i64 a0_2, AV.int IntKind.i64 a0_3, AV.int IntKind.i64 a0_4, AV.int IntKind.i64 a0_5]], [] => some (a0_0, a0_1, a0_2, a0_3, a0_4, a0_5)
  | _, _ => none
theorem decAlaw17_EntryPuts_ok (l : List AV) (H : List AE.Obj) (a : Alaw17_EntryPuts) (h : decAlaw17_EntryPuts l H = some a) : (l, H) = argslaw17_EntryPuts a := by
  unfold decAlaw17_EntryPuts at h
  split at h
  · cases h; rfl
  · cases h
def outlaw17_EntryPuts : Alaw17_EntryPuts → (AV → List AE.Obj → Ans) → Ylaw17_EntryPuts → Ans := fun (a0_0, a0_1, a0_2, a0_3, a0_4, a0_5) K => fun r_y => K (AV.bool r_y) []
theorem fnlaw17_EntryPuts_ok (a : Alaw17_EntryPuts) (K : AV → List AE.Obj → Ans) : fnE Try.tab envlaw17_EntryPuts noHint 0 70 3 Try.f3.ntmps Try.f3.results.toList annlaw17_EntryPuts blaw17_EntryPuts (argslaw17_EntryPuts a).1 (argslaw17_EntryPuts a).2 K = fnlaw17_EntryPuts a (outlaw17_EntryPuts a K) := by kernel_rfl
def vFlaw17_EntryPuts (a : Alaw17_EntryPuts) (K : AV → List AE.Obj → Ans) : Ans := bindO (fnDlaw17_EntryPuts a) fun y => outlaw17_EntryPuts a K y
def Flaw17_EntryPuts : List AV → List AE.Obj → (AV → List AE.Obj → Ans) → Ans := fun l H K => bindO (decAlaw17_EntryPuts l H) fun a => vFlaw17_EntryPuts a K
theorem Flaw17_EntryPuts_ok : FuncOk Try.prog 3 Flaw17_EntryPuts := func_mkD (hint := noHint) (d := 0) (n := 70) mixed tabOk envlaw17_EntryPutsOk Try.func3 (bodySome (by kernel_rfl)) (by decide +kernel) annlaw17_EntryPuts_ok decAlaw17_EntryPuts_ok fnlaw17_EntryPuts_ok fnlaw17_EntryPuts_nat
--@ ref17_number
noncomputable def envref17_number : Env := []
theorem envref17_numberOk : EnvOk Try.prog envref17_number := EnvOk.nil
noncomputable def bref17_number : Code := Try.f51.body.getD .skip
noncomputable def Lref17_number_n0 : Code := codeAt [1, 1, 0, 1, 0, 0] bref17_number
noncomputable def annLref17_number_n0 : Ann := .at 0 [0, 3, 4] (.loop .none)
theorem annLref17_number_n0_ok : AnnOk Try.prog 19 (.loop Lref17_number_n0) annLref17_number_n0 := annOk_at (annOk_none _ _ _)
abbrev Iref17_number_n0 := (List UInt8)
abbrev Yref17_number_n0 := (Int)
abbrev Vref17_number_n0 := (Int) × (Int)
def Sref17_number_n0 : Iref17_number_n0 → Vref17_number_n0 → St := fun t0 (t3, t4) => { env := [(0, AV.str t0), (3, AV.int IntKind.i64 t3), (4, AV.int IntKind.i64 t4)], stk := [[]], H := [], blk := 208896 }
def decref17_number_n0 (s : St) : Option (Iref17_number_n0 × Vref17_number_n0) := match s with
  | { env := [(0, AV.str t0), (3, AV.int IntKind.i64 t3), (4, AV.int IntKind.i64 t4)], stk := [[]], H := [], blk := 208896 } => some (t0, (t3, t4))
  | _ => none
theorem decref17_number_n0_ok (s : St) (x : Iref17_number_n0 × Vref17_number_n0) (h : decref17_number_n0 s = some x) : s = Sref17_number_n0 x.1 x.2 := by
  unfold decref17_number_n0 at h
  split at h
  · cases h; rfl
  · cases h
def outref17_number_n0 : Iref17_number_n0 → (Ex → St → Ans) → Yref17_number_n0 → Ans := fun t0 K => fun t3_y => K (Ex.exit 0) { env := [(3, AV.int IntKind.i64 t3_y)], stk := [[]], H := [], blk := 208896 }
def stepref17_number_n0 {β : Type} : Iref17_number_n0 → Vref17_number_n0 → (Vref17_number_n0 → Option β) → (Yref17_number_n0 → Option β) → Option β := fun t0 (t3, t4) next exit => (bif decide (t4 < (↑(List.length t0) : Int)) then (bindO (nth t0 t4) fun x => (next (IntKind.wrap IntKind.i64 (IntKind.wrap IntKind.i64 ((256 : Int) * t3) + IntKind.wrap IntKind.i64 (↑(UInt8.toNat x) : Int)), IntKind.wrap IntKind.i64 (t4 + (1 : Int))))) else (exit (t3)))
def stepDref17_number_n0 (i : Iref17_number_n0) (v : Vref17_number_n0) : Option (Vref17_number_n0 ⊕ Yref17_number_n0) := stepref17_number_n0 i v (fun v => some (.inl v)) (fun y => some (.inr y))
theorem stepref17_number_n0_nat (i : Iref17_number_n0) (v : Vref17_number_n0) (next : Vref17_number_n0 → Ans) (exit : Yref17_number_n0 → Ans) : stepref17_number_n0 i v next exit = bindO (stepDref17_number_n0 i v) (Sum.elim next exit) := by
  obtain z := i
  obtain ⟨t3, t4⟩ := v
  simp only [stepDref17_number_n0, stepref17_number_n0, bindO_cond, bindO_assoc, bindO_none, bindO_pure, bindO_elim, bindO_unP, Sum.elim_inl, Sum.elim_inr]
theorem stepref17_number_n0_ok (n : Nat) (i : Iref17_number_n0) (v : Vref17_number_n0) (K : Ex → St → Ans) : codeI Try.tab envref17_number noHint (codeD Try.tab envref17_number noHint 0 64) (n+1) 19 annLref17_number_n0 (.loop Lref17_number_n0) (weakP 0 (exk [3] [2] [(0, [3])]) K) (Sref17_number_n0 i v) = stepref17_number_n0 i v (fun v' => codeI Try.tab envref17_number noHint (codeD Try.tab envref17_number noHint 0 64) n 19 annLref17_number_n0 (.loop Lref17_number_n0) (weakP 0 (exk [3] [2] [(0, [3])]) K) (Sref17_number_n0 i v')) (fun y => outref17_number_n0 i K y) := by kernel_rfl
theorem GNref17_number_n0_ok : CSum Try.prog 19 (.loop Lref17_number_n0) (sumL decref17_number_n0 stepDref17_number_n0 outref17_number_n0) := csum_loop mixed tabOk envref17_numberOk 0 (exk [3] [2] [(0, [3])]) annLref17_number_n0_ok decref17_number_n0_ok stepref17_number_n0_ok stepref17_number_n0_nat
noncomputable def Gref17_number_n0 : (Ex → St → Ans) → St → Ans := (sumL decref17_number_n0 stepDref17_number_n0 outref17_number_n0)
theorem Gref17_number_n0_ok : CSum Try.prog 19 (.loop Lref17_number_n0) Gref17_number_n0 := GNref17_number_n0_ok
noncomputable def annref17_number : Ann := (.seq .none (.seq .none (.seq (.seq .none (.block (.cut 0 [0, 3, 4] Gref17_number_n0))) .none)))
theorem annref17_number_ok : AnnOk Try.prog 19 bref17_number annref17_number := ⟨(annOk_none _ _ _), ⟨(annOk_none _ _ _), ⟨⟨(annOk_none _ _ _), Gref17_number_n0_ok⟩, (annOk_none _ _ _)⟩⟩⟩
abbrev Aref17_number := (List UInt8)
abbrev Yref17_number := (Int)
def fnref17_number {β : Type} : Aref17_number → (Yref17_number → Option β) → Option β := fun a0 exit => (bindO (loopD (stepDref17_number_n0 (a0)) FUEL ((0 : Int), (0 : Int))) fun t3 => (exit (t3)))
def fnDref17_number (a : Aref17_number) : Option Yref17_number := fnref17_number a some
theorem fnref17_number_nat (a : Aref17_number) (k : Yref17_number → Ans) : fnref17_number a k = bindO (fnDref17_number a) k := by
  obtain z := a
  simp only [fnDref17_number, fnref17_number, bindO_cond, bindO_assoc, bindO_none, bindO_pure, bindO_elim, bindO_unP]
def argsref17_number : Aref17_number → List AV := fun a0 => [AV.str a0]
def decAref17_number (l : List AV) : Option Aref17_number := match l with
  | [AV.str a0] => some (a0)
  | _ => none
theorem decAref17_number_ok (l : List AV) (a : Aref17_number) (h : decAref17_number l = some a) : l = argsref17_number a := by
  unfold decAref17_number at h
  split at h
  · cases h; rfl
  · cases h
def rendref17_number : Aref17_number → Yref17_number → AV := fun a0 => fun r_y => AV.int IntKind.i64 r_y
theorem rendref17_number_ok : ∀ (a : Aref17_number) (y : Yref17_number), (rendref17_number a y).closed1 = true := by
  rintro z y <;> first | rfl | exact Empty.elim y
theorem fnref17_number_ok (a : Aref17_number) : fnE Try.tab envref17_number noHint 0 70 51 Try.f51.ntmps Try.f51.results.toList annref17_number bref17_number (argsref17_number a) [] (fun v _ => some (v, [])) = fnref17_number a (fun y => some (rendref17_number a y, [])) := by kernel_rfl
def vFref17_number (a : Aref17_number) (K : AV → Ans) : Ans := bindO (fnDref17_number a) fun y => K (rendref17_number a y)
def Fref17_number : List AV → (AV → Ans) → Ans := fun l K => bindO (decAref17_number l) fun a => vFref17_number a K
theorem Fref17_number_ok : PureOk Try.prog 51 Fref17_number := pure_mkD (hint := noHint) (d := 0) (n := 70) mixed tabOk envref17_numberOk Try.func51 (bodySome (by kernel_rfl)) (by decide +kernel) annref17_number_ok decAref17_number_ok fnref17_number_ok fnref17_number_nat rendref17_number_ok
--@ ref17_Get
noncomputable def envref17_Get : Env := [(45, .pure Fref03_Tail), (14, .pure Fref17_Put), (51, .pure Fref17_number)]
theorem envref17_GetOk : EnvOk Try.prog envref17_Get := EnvOk.cons Fref03_Tail_ok (EnvOk.cons Fref17_Put_ok (EnvOk.cons Fref17_number_ok (EnvOk.nil)))
noncomputable def bref17_Get : Code := Try.f18.body.getD .skip
noncomputable def Lref17_Get_n2 : Code := codeAt [1, 1, 1, 1, 1, 0, 0] bref17_Get
noncomputable def annLref17_Get_n2 : Ann := .none
theorem annLref17_Get_n2_ok : AnnOk Try.prog 67 Lref17_Get_n2 annLref17_Get_n2 := (annOk_none _ _ _)
abbrev Iref17_Get_n2 := (List UInt8) × (List UInt8) × (Int) × (Int) × (Int) × (Int) × (Int) × (Int) × (Int)
abbrev Yref17_Get_n2 := (Bool)
def Sref17_Get_n2 : Iref17_Get_n2 → St := fun (t0, t7, t8, o1_0, o1_1, o1_2, o1_3, o1_4, o1_5) => { env := [(0, AV.str t0), (2, AV.ptr 0 0), (4, AV.ptr 1 0), (7, AV.str t7), (8, AV.int IntKind.i64 t8)], stk := [[]], H := [AE.Obj.cells [AV.int IntKind.i64 (0), AV.int IntKind.i64 (0), AV.int IntKind.i64 (0), AV.int IntKind.i64 (0), AV.int IntKind.i64 (0), AV.int IntKind.i64 (0)], AE.Obj.cells [AV.int IntKind.i64 o1_0, AV.int IntKind.i64 o1_1, AV.int IntKind.i64 o1_2, AV.int IntKind.i64 o1_3, AV.int IntKind.i64 o1_4, AV.int IntKind.i64 o1_5]], blk := 73729 }
def decref17_Get_n2 (s : St) : Option Iref17_Get_n2 := match s with
  | { env := [(0, AV.str t0), (2, AV.ptr 0 0), (4, AV.ptr 1 0), (7, AV.str t7), (8, AV.int IntKind.i64 t8)], stk := [[]], H := [AE.Obj.cells [AV.int IntKind.i64 r3, AV.int IntKind.i64 r4, AV.int IntKind.i64 r5, AV.int IntKind.i64 r6, AV.int IntKind.i64 r7, AV.int IntKind.i64 r8], AE.Obj.cells [AV.int IntKind.i64 o1_0, AV.int IntKind.i64 o1_1, AV.int IntKind.i64 o1_2, AV.int IntKind.i64 o1_3, AV.int IntKind.i64 o1_4, AV.int IntKind.i64 o1_5]], blk := 73729 } => cond (decide (r3 = 0) && decide (r4 = 0) && decide (r5 = 0) && decide (r6 = 0) && decide (r7 = 0) && decide (r8 = 0)) (some (t0, t7, t8, o1_0, o1_1, o1_2, o1_3, o1_4, o1_5)) none
  | _ => none
theorem decref17_Get_n2_ok (s : St) (x : Iref17_Get_n2) (h : decref17_Get_n2 s = some x) : s = Sref17_Get_n2 x := by
  unfold decref17_Get_n2 at h
  split at h
  · replace h := cond_noneO h; obtain ⟨hg, h⟩ := h; simp only [Bool.and_eq_true, decide_eq_true_eq] at hg; simp only [hg]; cases h; rfl
  · cases h
def outref17_Get_n2 : Iref17_Get_n2 → (Ex → St → Ans) → Yref17_Get_n2 → Ans := fun (t0, t7, t8, o1_0, o1_1, o1_2, o1_3, o1_4, o1_5) K => fun t64_y => K (Ex.norm) { env := [(2, AV.ptr 0 0), (4, AV.ptr 1 0), (64, AV.bool t64_y)], stk := [[]], H := [AE.Obj.cells [AV.int IntKind.i64 (0), AV.int IntKind.i64 (0), AV.int IntKind.i64 (0), AV.int IntKind.i64 (0), AV.int IntKind.i64 (0), AV.int IntKind.i64 (0)], AE.Obj.cells [AV.int IntKind.i64 o1_0, AV.int IntKind.i64 o1_1, AV.int IntKind.i64 o1_2, AV.int IntKind.i64 o1_3, AV.int IntKind.i64 o1_4, AV.int IntKind.i64 o1_5]], blk := 73729 }
def noderef17_Get_n2 {β : Type} : Iref17_Get_n2 → (Yref17_Get_n2 → Option β) → Option β := fun (t0, t7, t8, o1_0, o1_1, o1_2, o1_3, o1_4, o1_5) exit => (bif t8 != (0 : Int) then (exit (true)) else (exit (!t7 == t0)))
def nodeDref17_Get_n2 (i : Iref17_Get_n2) : Option Yref17_Get_n2 := noderef17_Get_n2 i some
theorem noderef17_Get_n2_nat (i : Iref17_Get_n2) (k : Yref17_Get_n2 → Ans) : noderef17_Get_n2 i k = bindO (nodeDref17_Get_n2 i) k := by
  obtain ⟨t0, t7, t8, o1_0, o1_1, o1_2, o1_3, o1_4, o1_5⟩ := i
  simp only [nodeDref17_Get_n2, noderef17_Get_n2, bindO_cond, bindO_assoc, bindO_none, bindO_pure, bindO_elim, bindO_unP]
theorem noderef17_Get_n2_ok (i : Iref17_Get_n2) (K : Ex → St → Ans) : codeI Try.tab envref17_Get noHint (codeD Try.tab envref17_Get noHint 0 64) 70 67 annLref17_Get_n2 Lref17_Get_n2 (weakP 0 (exk [2, 4, 64] [2, 3] []) K) (Sref17_Get_n2 i) = noderef17_Get_n2 i (outref17_Get_n2 i K) := by kernel_rfl
theorem GNref17_Get_n2_ok : CSum Try.prog 67 Lref17_Get_n2 (sumN decref17_Get_n2 nodeDref17_Get_n2 outref17_Get_n2) := csum_node mixed tabOk envref17_GetOk 0 (exk [2, 4, 64] [2, 3] []) annLref17_Get_n2_ok decref17_Get_n2_ok noderef17_Get_n2_ok noderef17_Get_n2_nat
noncomputable def Gref17_Get_n2 : (Ex → St → Ans) → St → Ans := (sumN decref17_Get_n2 nodeDref17_Get_n2 outref17_Get_n2)
theorem Gref17_Get_n2_ok : CSum Try.prog 67 Lref17_Get_n2 Gref17_Get_n2 := GNref17_Get_n2_ok
noncomputable def Lref17_Get_n1 : Code := codeAt [1, 1, 1, 0, 1, 0, 0] bref17_Get
noncomputable def annLref17_Get_n1 : Ann := .none
theorem annLref17_Get_n1_ok : AnnOk Try.prog 67 Lref17_Get_n1 annLref17_Get_n1 := (annOk_none _ _ _)
abbrev Iref17_Get_n1 := (List UInt8) × (Int) × (Int) × (Int) × (Int) × (Int) × (Int)
abbrev Yref17_Get_n1 := Unit
def Sref17_Get_n1 : Iref17_Get_n1 → St := fun (t0, o1_0, o1_1, o1_2, o1_3, o1_4, o1_5) => { env := [(0, AV.str t0), (2, AV.ptr 0 0), (4, AV.ptr 1 0), (5, AV.int IntKind.i64 (2))], stk := [[]], H := [AE.Obj.cells [AV.int IntKind.i64 (0), AV.int IntKind.i64 (0), AV.int IntKind.i64 (0), AV.int IntKind.i64 (0), AV.int IntKind.i64 (0), AV.int IntKind.i64 (0)], AE.Obj.cells [AV.int IntKind.i64 o1_0, AV.int IntKind.i64 o1_1, AV.int IntKind.i64 o1_2, AV.int IntKind.i64 o1_3, AV.int IntKind.i64 o1_4, AV.int IntKind.i64 o1_5]], blk := 73729 }
def decref17_Get_n1 (s : St) : Option Iref17_Get_n1 := match s with
  | { env := [(0, AV.str t0), (2, AV.ptr 0 0), (4, AV.ptr 1 0), (5, AV.int IntKind.i64 r1)], stk := [[]], H := [AE.Obj.cells [AV.int IntKind.i64 r2, AV.int IntKind.i64 r3, AV.int IntKind.i64 r4, AV.int IntKind.i64 r5, AV.int IntKind.i64 r6, AV.int IntKind.i64 r7], AE.Obj.cells [AV.int IntKind.i64 o1_0, AV.int IntKind.i64 o1_1, AV.int IntKind.i64 o1_2, AV.int IntKind.i64 o1_3, AV.int IntKind.i64 o1_4, AV.int IntKind.i64 o1_5]], blk := 73729 } => cond (decide (r1 = 2) && decide (r2 = 0) && decide (r3 = 0) && decide (r4 = 0) && decide (r5 = 0) && decide (r6 = 0) && decide (r7 = 0)) (some (t0, o1_0, o1_1, o1_2, o1_3, o1_4, o1_5)) none
  | _ => none
theorem decref17_Get_n1_ok (s : St) (x : Iref17_Get_n1) (h : decref17_Get_n1 s = some x) : s = Sref17_Get_n1 x := by
  unfold decref17_Get_n1 at h
  split at h
  · replace h := cond_noneO h; obtain ⟨hg, h⟩ := h; simp only [Bool.and_eq_true, decide_eq_true_eq] at hg; simp only [hg]; cases h; rfl
  · cases h
def outref17_Get_n1 : Iref17_Get_n1 → (Ex → St → Ans) → Yref17_Get_n1 → Ans := fun (t0, o1_0, o1_1, o1_2, o1_3, o1_4, o1_5) K => fun _ => K (Ex.exit 1) { env := [(0, AV.str t0), (2, AV.ptr 0 0), (4, AV.ptr 1 0)], stk := [[]], H := [AE.Obj.cells [AV.int IntKind.i64 (0), AV.int IntKind.i64 (0), AV.int IntKind.i64 (0), AV.int IntKind.i64 (0), AV.int IntKind.i64 (0), AV.int IntKind.i64 (0)], AE.Obj.cells [AV.int IntKind.i64 o1_0, AV.int IntKind.i64 o1_1, AV.int IntKind.i64 o1_2, AV.int IntKind.i64 o1_3, AV.int IntKind.i64 o1_4, AV.int IntKind.i64 o1_5]], blk := 73729 }
def noderef17_Get_n1 {β : Type} : Iref17_Get_n1 → (Yref17_Get_n1 → Option β) → Option β := fun (t0, o1_0, o1_1, o1_2, o1_3, o1_4, o1_5) exit => (exit ())
def nodeDref17_Get_n1 (i : Iref17_Get_n1) : Option Yref17_Get_n1 := noderef17_Get_n1 i some
theorem noderef17_Get_n1_nat (i : Iref17_Get_n1) (k : Yref17_Get_n1 → Ans) : noderef17_Get_n1 i k = bindO (nodeDref17_Get_n1 i) k := by
  obtain ⟨t0, o1_0, o1_1, o1_2, o1_3, o1_4, o1_5⟩ := i
  simp only [nodeDref17_Get_n1, noderef17_Get_n1, bindO_cond, bindO_assoc, bindO_none, bindO_pure, bindO_elim, bindO_unP]
theorem noderef17_Get_n1_ok (i : Iref17_Get_n1) (K : Ex → St → Ans) : codeI Try.tab envref17_Get noHint (codeD Try.tab envref17_Get noHint 0 64) 70 67 annLref17_Get_n1 Lref17_Get_n1 (weakP 0 (exk [0, 2, 4, 5] [2, 3] [(1, [0, 2, 4])]) K) (Sref17_Get_n1 i) = noderef17_Get_n1 i (outref17_Get_n1 i K) := by kernel_rfl
theorem GNref17_Get_n1_ok : CSum Try.prog 67 Lref17_Get_n1 (sumN decref17_Get_n1 nodeDref17_Get_n1 outref17_Get_n1) := csum_node mixed tabOk envref17_GetOk 0 (exk [0, 2, 4, 5] [2, 3] [(1, [0, 2, 4])]) annLref17_Get_n1_ok decref17_Get_n1_ok noderef17_Get_n1_ok noderef17_Get_n1_nat
abbrev Iref17_Get_n1v1 := (List UInt8) × (Int) × (Int) × (Int) × (Int) × (Int) × (Int)
abbrev Yref17_Get_n1v1 := (Int) × (Int) × (Int)
def Sref17_Get_n1v1 : Iref17_Get_n1v1 → St := fun (t0, o1_0, o1_1, o1_2, o1_3, o1_4, o1_5) => { env := [(0, AV.str t0), (2, AV.ptr 0 0), (4, AV.ptr 1 0), (5, AV.int IntKind.i64 (0))], stk := [[]], H := [AE.Obj.cells [AV.int IntKind.i64 (0), AV.int IntKind.i64 (0), AV.int IntKind.i64 (0), AV.int IntKind.i64 (0), AV.int IntKind.i64 (0), AV.int IntKind.i64 (0)], AE.Obj.cells [AV.int IntKind.i64 o1_0, AV.int IntKind.i64 o1_1, AV.int IntKind.i64 o1_2, AV.int IntKind.i64 o1_3, AV.int IntKind.i64 o1_4, AV.int IntKind.i64 o1_5]], blk := 73729 }
def decref17_Get_n1v1 (s : St) : Option Iref17_Get_n1v1 := match s with
  | { env := [(0, AV.str t0), (2, AV.ptr 0 0), (4, AV.ptr 1 0), (5, AV.int IntKind.i64 r1)], stk := [[]], H := [AE.Obj.cells [AV.int IntKind.i64 r2, AV.int IntKind.i64 r3, AV.int IntKind.i64 r4, AV.int IntKind.i64 r5, AV.int IntKind.i64 r6, AV.int IntKind.i64 r7], AE.Obj.cells [AV.int IntKind.i64 o1_0, AV.int IntKind.i64 o1_1, AV.int IntKind.i64 o1_2, AV.int IntKind.i64 o1_3, AV.int IntKind.i64 o1_4, AV.int IntKind.i64 o1_5]], blk := 73729 } => cond (decide (r1 = 0) && decide (r2 = 0) && decide (r3 = 0) && decide (r4 = 0) && decide (r5 = 0) && decide (r6 = 0) && decide (r7 = 0)) (some (t0, o1_0, o1_1, o1_2, o1_3, o1_4, o1_5)) none
  | _ => none
theorem decref17_Get_n1v1_ok (s : St) (x : Iref17_Get_n1v1) (h : decref17_Get_n1v1 s = some x) : s = Sref17_Get_n1v1 x := by
  unfold decref17_Get_n1v1 at h
  split at h
  · replace h := cond_noneO h; obtain ⟨hg, h⟩ := h; simp only [Bool.and_eq_true, decide_eq_true_eq] at hg; simp only [hg]; cases h; rfl
  · cases h
def outref17_Get_n1v1 : Iref17_Get_n1v1 → (Ex → St → Ans) → Yref17_Get_n1v1 → Ans := fun (t0, o1_0, o1_1, o1_2, o1_3, o1_4, o1_5) K => unP fun o1_0_y => unP fun o1_1_y o1_2_y => K (Ex.norm) { env := [(0, AV.str t0), (2, AV.ptr 0 0), (4, AV.ptr 1 0), (5, AV.int IntKind.i64 (1))], stk := [[]], H := [AE.Obj.cells [AV.int IntKind.i64 (0), AV.int IntKind.i64 (0), AV.int IntKind.i64 (0), AV.int IntKind.i64 (0), AV.int IntKind.i64 (0), AV.int IntKind.i64 (0)], AE.Obj.cells [AV.int IntKind.i64 o1_0_y, AV.int IntKind.i64 o1_1_y, AV.int IntKind.i64 o1_2_y, AV.int IntKind.i64 o1_3, AV.int IntKind.i64 o1_4, AV.int IntKind.i64 o1_5]], blk := 73730 }
def noderef17_Get_n1v1 {β : Type} : Iref17_Get_n1v1 → (Yref17_Get_n1v1 → Option β) → Option β := fun (t0, o1_0, o1_1, o1_2, o1_3, o1_4, o1_5) exit => (bif inR (16 : Int) (List.length t0 + (1 : Nat)) && true then (bif inR (7 : Int) (List.length (List.take ((16 : Nat) - (1 : Nat)) (List.drop (1 : Nat) t0)) + (1 : Nat)) then (bindO (fnDref17_number (List.take (7 : Nat) (List.take ((16 : Nat) - (1 : Nat)) (List.drop (1 : Nat) t0)))) fun r => (bif inR (14 : Int) (List.length (List.take ((16 : Nat) - (1 : Nat)) (List.drop (1 : Nat) t0)) + (1 : Nat)) && true then (bindO (fnDref17_number (List.take ((14 : Nat) - (7 : Nat)) (List.drop (7 : Nat) (List.take ((16 : Nat) - (1 : Nat)) (List.drop (1 : Nat) t0))))) fun r_2 => (bindO (nth (List.take ((16 : Nat) - (1 : Nat)) (List.drop (1 : Nat) t0)) (14 : Int)) fun x => (exit (r, r_2, IntKind.wrap IntKind.i64 (IntKind.wrap IntKind.i64 (↑(UInt8.toNat x) : Int) - (1 : Int)))))) else none)) else none) else none)
def nodeDref17_Get_n1v1 (i : Iref17_Get_n1v1) : Option Yref17_Get_n1v1 := noderef17_Get_n1v1 i some
theorem noderef17_Get_n1v1_nat (i : Iref17_Get_n1v1) (k : Yref17_Get_n1v1 → Ans) : noderef17_Get_n1v1 i k = bindO (nodeDref17_Get_n1v1 i) k := by
  obtain ⟨t0, o1_0, o1_1, o1_2, o1_3, o1_4, o1_5⟩ := i
  simp only [nodeDref17_Get_n1v1, noderef17_Get_n1v1, bindO_cond, bindO_assoc, bindO_none, bindO_pure, bindO_elim, bindO_unP]
theorem noderef17_Get_n1v1_ok (i : Iref17_Get_n1v1) (K : Ex → St → Ans) : codeI Try.tab envref17_Get noHint (codeD Try.tab envref17_Get noHint 0 64) 70 67 annLref17_Get_n1 Lref17_Get_n1 (weakP 0 (exk [0, 2, 4, 5] [2, 3] [(1, [0, 2, 4])]) K) (Sref17_Get_n1v1 i) = noderef17_Get_n1v1 i (outref17_Get_n1v1 i K) := by kernel_rfl
theorem GNref17_Get_n1v1_ok : CSum Try.prog 67 Lref17_Get_n1 (sumN decref17_Get_n1v1 nodeDref17_Get_n1v1 outref17_Get_n1v1) := csum_node mixed tabOk envref17_GetOk 0 (exk [0, 2, 4, 5] [2, 3] [(1, [0, 2, 4])]) annLref17_Get_n1_ok decref17_Get_n1v1_ok noderef17_Get_n1v1_ok noderef17_Get_n1v1_nat
abbrev Iref17_Get_n1v2 := (List UInt8) × (Int) × (Int) × (Int) × (Int) × (Int) × (Int)
abbrev Yref17_Get_n1v2 := (Int) × (Int) × (Int)
def Sref17_Get_n1v2 : Iref17_Get_n1v2 → St := fun (t0, o1_0, o1_1, o1_2, o1_3, o1_4, o1_5) => { env := [(0, AV.str t0), (2, AV.ptr 0 0), (4, AV.ptr 1 0), (5, AV.int IntKind.i64 (1))], stk := [[]], H := [AE.Obj.cells [AV.int IntKind.i64 (0), AV.int IntKind.i64 (0), AV.int IntKind.i64 (0), AV.int IntKind.i64 (0), AV.int IntKind.i64 (0), AV.int IntKind.i64 (0)], AE.Obj.cells [AV.int IntKind.i64 o1_0, AV.int IntKind.i64 o1_1, AV.int IntKind.i64 o1_2, AV.int IntKind.i64 o1_3, AV.int IntKind.i64 o1_4, AV.int IntKind.i64 o1_5]], blk := 73729 }
def decref17_Get_n1v2 (s : St) : Option Iref17_Get_n1v2 := match s with
  | { env := [(0, AV.str t0), (2, AV.ptr 0 0), (4, AV.ptr 1 0), (5, AV.int IntKind.i64 r1)], stk := [[]], H := [AE.Obj.cells [AV.int IntKind.i64 r2, AV.int IntKind.i64 r3, AV.int IntKind.i64 r4, AV.int IntKind.i64 r5, AV.int IntKind.i64 r6, AV.int IntKind.i64 r7], AE.Obj.cells [AV.int IntKind.i64 o1_0, AV.int IntKind.i64 o1_1, AV.int IntKind.i64 o1_2, AV.int IntKind.i64 o1_3, AV.int IntKind.i64 o1_4, AV.int IntKind.i64 o1_5]], blk := 73729 } => cond (decide (r1 = 1) && decide (r2 = 0) && decide (r3 = 0) && decide (r4 = 0) && decide (r5 = 0) && decide (r6 = 0) && decide (r7 = 0)) (some (t0, o1_0, o1_1, o1_2, o1_3, o1_4, o1_5)) none
  | _ => none
theorem decref17_Get_n1v2_ok (s : St) (x : Iref17_Get_n1v2) (h : decref17_Get_n1v2 s = some x) : s = Sref17_Get_n1v2 x := by
  unfold decref17_Get_n1v2 at h
  split at h
  · replace h := cond_noneO h; obtain ⟨hg, h⟩ := h; simp only [Bool.and_eq_true, decide_eq_true_eq] at hg; simp only [hg]; cases h; rfl
  · cases h
def outref17_Get_n1v2 : Iref17_Get_n1v2 → (Ex → St → Ans) → Yref17_Get_n1v2 → Ans := fun (t0, o1_0, o1_1, o1_2, o1_3, o1_4, o1_5) K => unP fun o1_3_y => unP fun o1_4_y o1_5_y => K (Ex.norm) { env := [(0, AV.str t0), (2, AV.ptr 0 0), (4, AV.ptr 1 0), (5, AV.int IntKind.i64 (2))], stk := [[]], H := [AE.Obj.cells [AV.int IntKind.i64 (0), AV.int IntKind.i64 (0), AV.int IntKind.i64 (0), AV.int IntKind.i64 (0), AV.int IntKind.i64 (0), AV.int IntKind.i64 (0)], AE.Obj.cells [AV.int IntKind.i64 o1_0, AV.int IntKind.i64 o1_1, AV.int IntKind.i64 o1_2, AV.int IntKind.i64 o1_3_y, AV.int IntKind.i64 o1_4_y, AV.int IntKind.i64 o1_5_y]], blk := 73730 }
def noderef17_Get_n1v2 {β : Type} : Iref17_Get_n1v2 → (Yref17_Get_n1v2 → Option β) → Option β := fun (t0, o1_0, o1_1, o1_2, o1_3, o1_4, o1_5) exit => (bif inR (31 : Int) (List.length t0 + (1 : Nat)) && true then (bif inR (7 : Int) (List.length (List.take ((31 : Nat) - (16 : Nat)) (List.drop (16 : Nat) t0)) + (1 : Nat)) then (bindO (fnDref17_number (List.take (7 : Nat) (List.take ((31 : Nat) - (16 : Nat)) (List.drop (16 : Nat) t0)))) fun r => (bif inR (14 : Int) (List.length (List.take ((31 : Nat) - (16 : Nat)) (List.drop (16 : Nat) t0)) + (1 : Nat)) && true then (bindO (fnDref17_number (List.take ((14 : Nat) - (7 : Nat)) (List.drop (7 : Nat) (List.take ((31 : Nat) - (16 : Nat)) (List.drop (16 : Nat) t0))))) fun r_2 => (bindO (nth (List.take ((31 : Nat) - (16 : Nat)) (List.drop (16 : Nat) t0)) (14 : Int)) fun x => (exit (r, r_2, IntKind.wrap IntKind.i64 (IntKind.wrap IntKind.i64 (↑(UInt8.toNat x) : Int) - (1 : Int)))))) else none)) else none) else none)
def nodeDref17_Get_n1v2 (i : Iref17_Get_n1v2) : Option Yref17_Get_n1v2 := noderef17_Get_n1v2 i some
theorem noderef17_Get_n1v2_nat (i : Iref17_Get_n1v2) (k : Yref17_Get_n1v2 → Ans) : noderef17_Get_n1v2 i k = bindO (nodeDref17_Get_n1v2 i) k := by
  obtain ⟨t0, o1_0, o1_1, o1_2, o1_3, o1_4, o1_5⟩ := i
  simp only [nodeDref17_Get_n1v2, noderef17_Get_n1v2, bindO_cond, bindO_assoc, bindO_none, bindO_pure, bindO_elim, bindO_unP]
theorem noderef17_Get_n1v2_ok (i : Iref17_Get_n1v2) (K : Ex → St → Ans) : codeI Try.tab envref17_Get noHint (codeD Try.tab envref17_Get noHint 0 64) 70 67 annLref17_Get_n1 Lref17_Get_n1 (weakP 0 (exk [0, 2, 4, 5] [2, 3] [(1, [0, 2, 4])]) K) (Sref17_Get_n1v2 i) = noderef17_Get_n1v2 i (outref17_Get_n1v2 i K) := by kernel_rfl
theorem GNref17_Get_n1v2_ok : CSum Try.prog 67 Lref17_Get_n1 (sumN decref17_Get_n1v2 nodeDref17_Get_n1v2 outref17_Get_n1v2) := csum_node mixed tabOk envref17_GetOk 0 (exk [0, 2, 4, 5] [2, 3] [(1, [0, 2, 4])]) annLref17_Get_n1_ok decref17_Get_n1v2_ok noderef17_Get_n1v2_ok noderef17_Get_n1v2_nat
noncomputable def Gref17_Get_n1 : (Ex → St → Ans) → St → Ans := (altN decref17_Get_n1 (sumN decref17_Get_n1 nodeDref17_Get_n1 outref17_Get_n1) (altN decref17_Get_n1v1 (sumN decref17_Get_n1v1 nodeDref17_Get_n1v1 outref17_Get_n1v1) (sumN decref17_Get_n1v2 nodeDref17_Get_n1v2 outref17_Get_n1v2)))
theorem Gref17_Get_n1_ok : CSum Try.prog 67 Lref17_Get_n1 Gref17_Get_n1 := (csum_altN GNref17_Get_n1_ok (csum_altN GNref17_Get_n1v1_ok GNref17_Get_n1v2_ok))
noncomputable def Lref17_Get_n0 : Code := codeAt [1, 1, 1, 0, 1] bref17_Get
noncomputable def annLref17_Get_n0 : Ann := (.block (.at 0 [0, 2, 4, 5] (.loop (.cut 0 [0, 2, 4, 5] Gref17_Get_n1))))
theorem annLref17_Get_n0_ok : AnnOk Try.prog 67 Lref17_Get_n0 annLref17_Get_n0 := (annOk_at Gref17_Get_n1_ok)
abbrev Iref17_Get_n0 := (List UInt8)
abbrev Yref17_Get_n0 := (Int) × (Int) × (Int) × (Int) × (Int) × (Int)
def Sref17_Get_n0 : Iref17_Get_n0 → St := fun t0 => { env := [(0, AV.str t0), (2, AV.ptr 0 0), (4, AV.ptr 1 0), (5, AV.int IntKind.i64 (0))], stk := [[]], H := [AE.Obj.cells [AV.int IntKind.i64 (0), AV.int IntKind.i64 (0), AV.int IntKind.i64 (0), AV.int IntKind.i64 (0), AV.int IntKind.i64 (0), AV.int IntKind.i64 (0)], AE.Obj.cells [AV.int IntKind.i64 (0), AV.int IntKind.i64 (0), AV.int IntKind.i64 (0), AV.int IntKind.i64 (0), AV.int IntKind.i64 (0), AV.int IntKind.i64 (0)]], blk := 73728 }
def decref17_Get_n0 (s : St) : Option Iref17_Get_n0 := match s with
  | { env := [(0, AV.str t0), (2, AV.ptr 0 0), (4, AV.ptr 1 0), (5, AV.int IntKind.i64 r1)], stk := [[]], H := [AE.Obj.cells [AV.int IntKind.i64 r2, AV.int IntKind.i64 r3, AV.int IntKind.i64 r4, AV.int IntKind.i64 r5, AV.int IntKind.i64 r6, AV.int IntKind.i64 r7], AE.Obj.cells [AV.int IntKind.i64 r8, AV.int IntKind.i64 r9, AV.int IntKind.i64 r10, AV.int IntKind.i64 r11, AV.int IntKind.i64 r12, AV.int IntKind.i64 r13]], blk := 73728 } => cond (decide (r1 = 0) && decide (r2 = 0) && decide (r3 = 0) && decide (r4 = 0) && decide (r5 = 0) && decide (r6 = 0) && decide (r7 = 0) && decide (r8 = 0) && decide (r9 = 0) && decide (r10 = 0) && decide (r11 = 0) && decide (r12 = 0) && decide (r13 = 0)) (some (t0)) none
  | _ => none
theorem decref17_Get_n0_ok (s : St) (x : Iref17_Get_n0) (h : decref17_Get_n0 s = some x) : s = Sref17_Get_n0 x := by
  unfold decref17_Get_n0 at h
  split at h
  · replace h := cond_noneO h; obtain ⟨hg, h⟩ := h; simp only [Bool.and_eq_true, decide_eq_true_eq] at hg; simp only [hg]; cases h; rfl
  · cases h
def outref17_Get_n0 : Iref17_Get_n0 → (Ex → St → Ans) → Yref17_Get_n0 → Ans := fun t0 K => unP fun o1_0_y => unP fun o1_1_y => unP fun o1_2_y => unP fun o1_3_y => unP fun o1_4_y o1_5_y => K (Ex.norm) { env := [(0, AV.str t0), (2, AV.ptr 0 0), (4, AV.ptr 1 0)], stk := [[]], H := [AE.Obj.cells [AV.int IntKind.i64 (0), AV.int IntKind.i64 (0), AV.int IntKind.i64 (0), AV.int IntKind.i64 (0), AV.int IntKind.i64 (0), AV.int IntKind.i64 (0)], AE.Obj.cells [AV.int IntKind.i64 o1_0_y, AV.int IntKind.i64 o1_1_y, AV.int IntKind.i64 o1_2_y, AV.int IntKind.i64 o1_3_y, AV.int IntKind.i64 o1_4_y, AV.int IntKind.i64 o1_5_y]], blk := 73729 }
def noderef17_Get_n0 {β : Type} : Iref17_Get_n0 → (Yref17_Get_n0 → Option β) → Option β := fun t0 exit => (bindO (nodeDref17_Get_n1v1 (t0, (0 : Int), (0 : Int), (0 : Int), (0 : Int), (0 : Int), (0 : Int))) (unP fun o1_0 => unP fun o1_1 o1_2 => (bindO (nodeDref17_Get_n1v2 (t0, o1_0, o1_1, o1_2, (0 : Int), (0 : Int), (0 : Int))) (unP fun o1_3 => unP fun o1_4 o1_5 => (bindO (nodeDref17_Get_n1 (t0, o1_0, o1_1, o1_2, o1_3, o1_4, o1_5)) fun _ => (exit (o1_0, o1_1, o1_2, o1_3, o1_4, o1_5)))))))
def nodeDref17_Get_n0 (i : Iref17_Get_n0) : Option Yref17_Get_n0 := noderef17_Get_n0 i some
theorem noderef17_Get_n0_nat (i : Iref17_Get_n0) (k : Yref17_Get_n0 → Ans) : noderef17_Get_n0 i k = bindO (nodeDref17_Get_n0 i) k := by
  obtain z := i
  simp only [nodeDref17_Get_n0, noderef17_Get_n0, bindO_cond, bindO_assoc, bindO_none, bindO_pure, bindO_elim, bindO_unP]
theorem noderef17_Get_n0_ok (i : Iref17_Get_n0) (K : Ex → St → Ans) : codeI Try.tab envref17_Get noHint (codeD Try.tab envref17_Get noHint 0 64) 70 67 annLref17_Get_n0 Lref17_Get_n0 (weakP 0 (exk [0, 2, 4] [2, 3] []) K) (Sref17_Get_n0 i) = noderef17_Get_n0 i (outref17_Get_n0 i K) := by kernel_rfl
theorem GNref17_Get_n0_ok : CSum Try.prog 67 Lref17_Get_n0 (sumN decref17_Get_n0 nodeDref17_Get_n0 outref17_Get_n0) := csum_node mixed tabOk envref17_GetOk 0 (exk [0, 2, 4] [2, 3] []) annLref17_Get_n0_ok decref17_Get_n0_ok noderef17_Get_n0_ok noderef17_Get_n0_nat
noncomputable def Gref17_Get_n0 : (Ex → St → Ans) → St → Ans := (sumN decref17_Get_n0 nodeDref17_Get_n0 outref17_Get_n0)
theorem Gref17_Get_n0_ok : CSum Try.prog 67 Lref17_Get_n0 Gref17_Get_n0 := GNref17_Get_n0_ok
noncomputable def annref17_Get : Ann := (.seq .none (.seq .none (.seq .none (.seq (.seq .none (.cut 0 [0, 2, 4, 5] Gref17_Get_n0)) (.seq .none (.seq (.seq (.cut 0 [0, 2, 4, 7, 8] Gref17_Get_n2) .none) .none))))))
theorem annref17_Get_ok : AnnOk Try.prog 67 bref17_Get annref17_Get := ⟨(annOk_none _ _ _), ⟨(annOk_none _ _ _), ⟨(annOk_none _ _ _), ⟨⟨(annOk_none _ _ _), Gref17_Get_n0_ok⟩, ⟨(annOk_none _ _ _), ⟨⟨Gref17_Get_n2_ok, (annOk_none _ _ _)⟩, (annOk_none _ _ _)⟩⟩⟩⟩⟩⟩
abbrev Aref17_Get := (List UInt8)
abbrev Yref17_Get := (Int) × (Int) × (Int) × (Int) × (Int) × (Int) × (Int)
def fnref17_Get {β : Type} : Aref17_Get → (Yref17_Get → Option β) → Option β := fun a0 exit => (bif (↑(List.length a0) : Int) != (64 : Int) then (exit ((0 : Int), (0 : Int), (0 : Int), (0 : Int), (0 : Int), (0 : Int), (12 : Int))) else (bindO (nth a0 (0 : Int)) fun x => (bif (↑(UInt8.toNat x) : Int) != (69 : Int) then (exit ((0 : Int), (0 : Int), (0 : Int), (0 : Int), (0 : Int), (0 : Int), (4 : Int))) else (bif inR (35 : Int) (List.length a0 + (1 : Nat)) && true then (bif inR (31 : Int) (List.length a0 + (1 : Nat)) then (bindO (fnDref03_Tail (List.take (31 : Nat) a0)) fun r => (bif !List.take ((35 : Nat) - (31 : Nat)) (List.drop (31 : Nat) a0) == r then (exit ((0 : Int), (0 : Int), (0 : Int), (0 : Int), (0 : Int), (0 : Int), (5 : Int))) else (bindO (nodeDref17_Get_n0 (a0)) (unP fun o1_0 => unP fun o1_1 => unP fun o1_2 => unP fun o1_3 => unP fun o1_4 o1_5 => (bindO (fnDref17_Put (o1_0, o1_1, o1_2, o1_3, o1_4, o1_5)) (unP fun r_0 r_1 => (bindO (nodeDref17_Get_n2 (a0, r_0, r_1, o1_0, o1_1, o1_2, o1_3, o1_4, o1_5)) fun t64 => (bif t64 then (exit ((0 : Int), (0 : Int), (0 : Int), (0 : Int), (0 : Int), (0 : Int), (4 : Int))) else (exit (o1_0, o1_1, o1_2, o1_3, o1_4, o1_5, (0 : Int))))))))))) else none) else none))))
def fnDref17_Get (a : Aref17_Get) : Option Yref17_Get := fnref17_Get a some
theorem fnref17_Get_nat (a : Aref17_Get) (k : Yref17_Get → Ans) : fnref17_Get a k = bindO (fnDref17_Get a) k := by
  obtain z := a
  simp only [fnDref17_Get, fnref17_Get, bindO_cond, bindO_assoc, bindO_none, bindO_pure, bindO_elim, bindO_unP]
def argsref17_Get : Aref17_Get → List AV := fun a0 => [AV.str a0]
def decAref17_Get (l : List AV) : Option Aref17_Get := match l with
  | [AV.str a0] => some (a0)
  | _ => none
theorem decAref17_Get_ok (l : List AV) (a : Aref17_Get) (h : decAref17_Get l = some a) : l = argsref17_Get a := by
  unfold decAref17_Get at h
  split at h
  · cases h; rfl
  · cases h
def rendref17_Get : Aref17_Get → Yref17_Get → AV := fun a0 => unP fun r_0_0_y => unP fun r_0_1_y => unP fun r_0_2_y => unP fun r_0_3_y => unP fun r_0_4_y => unP fun r_0_5_y r_1_y => AV.tup [AV.agg [AV.int IntKind.i64 r_0_0_y, AV.int IntKind.i64 r_0_1_y, AV.int IntKind.i64 r_0_2_y, AV.int IntKind.i64 r_0_3_y, AV.int IntKind.i64 r_0_4_y, AV.int IntKind.i64 r_0_5_y], AV.int IntKind.i64 r_1_y]
theorem rendref17_Get_ok : ∀ (a : Aref17_Get) (y : Yref17_Get), (rendref17_Get a y).closed1 = true := by
  rintro z y <;> first | rfl | exact Empty.elim y
theorem fnref17_Get_ok (a : Aref17_Get) : fnE Try.tab envref17_Get noHint 0 70 18 Try.f18.ntmps Try.f18.results.toList annref17_Get bref17_Get (argsref17_Get a) [] (fun v _ => some (v, [])) = fnref17_Get a (fun y => some (rendref17_Get a y, [])) := by kernel_rfl
def vFref17_Get (a : Aref17_Get) (K : AV → Ans) : Ans := bindO (fnDref17_Get a) fun y => K (rendref17_Get a y)
def Fref17_Get : List AV → (AV → Ans) → Ans := fun l K => bindO (decAref17_Get l) fun a => vFref17_Get a K
theorem Fref17_Get_ok : PureOk Try.prog 18 Fref17_Get := pure_mkD (hint := noHint) (d := 0) (n := 70) mixed tabOk envref17_GetOk Try.func18 (bodySome (by kernel_rfl)) (by decide +kernel) annref17_Get_ok decAref17_Get_ok fnref17_Get_ok fnref17_Get_nat rendref17_Get_ok
--@ law17_EntryGets
noncomputable def envlaw17_EntryGets : Env := [(17, .pure Fentry_Get), (12, .pure Flaw17_works), (18, .pure Fref17_Get)]
theorem envlaw17_EntryGetsOk : EnvOk Try.prog envlaw17_EntryGets := EnvOk.cons Fentry_Get_ok (EnvOk.cons Flaw17_works_ok (EnvOk.cons Fref17_Get_ok (EnvOk.nil)))
noncomputable def blaw17_EntryGets : Code := Try.f4.body.getD .skip
noncomputable def Llaw17_EntryGets_n0 : Code := codeAt [1, 1, 1, 1, 1, 0] blaw17_EntryGets
noncomputable def annLlaw17_EntryGets_n0 : Ann := .none
theorem annLlaw17_EntryGets_n0_ok : AnnOk Try.prog 30 Llaw17_EntryGets_n0 annLlaw17_EntryGets_n0 := (annOk_none _ _ _)
abbrev Ilaw17_EntryGets_n0 := (Int) × (Int) × (Int) × (Int) × (Int) × (Int) × (Int) × (Int) × (Int) × (Int) × (Int) × (Int) × (Int) × (Int)
abbrev Ylaw17_EntryGets_n0 := (Bool)
def Slaw17_EntryGets_n0 : Ilaw17_EntryGets_n0 → St := fun (t4, t6, o0_0, o0_1, o0_2, o0_3, o0_4, o0_5, o1_0, o1_1, o1_2, o1_3, o1_4, o1_5) => { env := [(3, AV.ptr 0 0), (4, AV.int IntKind.i64 t4), (5, AV.ptr 1 0), (6, AV.int IntKind.i64 t6)], stk := [[]], H := [AE.Obj.cells [AV.int IntKind.i64 o0_0, AV.int IntKind.i64 o0_1, AV.int IntKind.i64 o0_2, AV.int IntKind.i64 o0_3, AV.int IntKind.i64 o0_4, AV.int IntKind.i64 o0_5], AE.Obj.cells [AV.int IntKind.i64 o1_0, AV.int IntKind.i64 o1_1, AV.int IntKind.i64 o1_2, AV.int IntKind.i64 o1_3, AV.int IntKind.i64 o1_4, AV.int IntKind.i64 o1_5]], blk := 16384 }
def declaw17_EntryGets_n0 (s : St) : Option Ilaw17_EntryGets_n0 := match s with
  | { env := [(3, AV.ptr 0 0), (4, AV.int IntKind.i64 t4), (5, AV.ptr 1 0), (6, AV.int IntKind.i64 t6)], stk := [[]], H := [AE.Obj.cells [AV.int IntKind.i64 o0_0, AV.int IntKind.i64 o0_1, AV.int IntKind.i64 o0_2, AV.int IntKind.i64 o0_3, AV.int IntKind.i64 o0_4, AV.int IntKind.i64 o0_5], AE.Obj.cells [AV.int IntKind.i64 o1_0, AV.int IntKind.i64 o1_1, AV.int IntKind.i64 o1_2, AV.int IntKind.i64 o1_3, AV.int IntKind.i64 o1_4, AV.int IntKind.i64 o1_5]], blk := 16384 } => some (t4, t6, o0_0, o0_1, o0_2, o0_3, o0_4, o0_5, o1_0, o1_1, o1_2, o1_3, o1_4, o1_5)
  | _ => none
theorem declaw17_EntryGets_n0_ok (s : St) (x : Ilaw17_EntryGets_n0) (h : declaw17_EntryGets_n0 s = some x) : s = Slaw17_EntryGets_n0 x := by
  unfold declaw17_EntryGets_n0 at h
  split at h
  · cases h; rfl
  · cases h
def outlaw17_EntryGets_n0 : Ilaw17_EntryGets_n0 → (Ex → St → Ans) → Ylaw17_EntryGets_n0 → Ans := fun (t4, t6, o0_0, o0_1, o0_2, o0_3, o0_4, o0_5, o1_0, o1_1, o1_2, o1_3, o1_4, o1_5) K => fun t2_y => K (Ex.norm) { env := [(2, AV.bool t2_y)], stk := [[]], H := [], blk := 16384 }
def nodelaw17_EntryGets_n0 {β : Type} : Ilaw17_EntryGets_n0 → (Ylaw17_EntryGets_n0 → Option β) → Option β := fun (t4, t6, o0_0, o0_1, o0_2, o0_3, o0_4, o0_5, o1_0, o1_1, o1_2, o1_3, o1_4, o1_5) exit => (bif o0_0 == o1_0 && (o0_1 == o1_1 && true) && (o0_2 == o1_2 && true) && (o0_3 == o1_3 && (o0_4 == o1_4 && true) && (o0_5 == o1_5 && true) && true) then (exit (t4 == t6)) else (exit (false)))
def nodeDlaw17_EntryGets_n0 (i : Ilaw17_EntryGets_n0) : Option Ylaw17_EntryGets_n0 := nodelaw17_EntryGets_n0 i some
theorem nodelaw17_EntryGets_n0_nat (i : Ilaw17_EntryGets_n0) (k : Ylaw17_EntryGets_n0 → Ans) : nodelaw17_EntryGets_n0 i k = bindO (nodeDlaw17_EntryGets_n0 i) k := by
  obtain ⟨t4, t6, o0_0, o0_1, o0_2, o0_3, o0_4, o0_5, o1_0, o1_1, o1_2, o1_3, o1_4, o1_5⟩ := i
  simp only [nodeDlaw17_EntryGets_n0, nodelaw17_EntryGets_n0, bindO_cond, bindO_assoc, bindO_none, bindO_pure, bindO_elim, bindO_unP]
theorem nodelaw17_EntryGets_n0_ok (i : Ilaw17_EntryGets_n0) (K : Ex → St → Ans) : codeI Try.tab envlaw17_EntryGets noHint (codeD Try.tab envlaw17_EntryGets noHint 0 64) 70 30 annLlaw17_EntryGets_n0 Llaw17_EntryGets_n0 (weakP 0 (exk [2] [2] []) K) (Slaw17_EntryGets_n0 i) = nodelaw17_EntryGets_n0 i (outlaw17_EntryGets_n0 i K) := by kernel_rfl
theorem GNlaw17_EntryGets_n0_ok : CSum Try.prog 30 Llaw17_EntryGets_n0 (sumN declaw17_EntryGets_n0 nodeDlaw17_EntryGets_n0 outlaw17_EntryGets_n0) := csum_node mixed tabOk envlaw17_EntryGetsOk 0 (exk [2] [2] []) annLlaw17_EntryGets_n0_ok declaw17_EntryGets_n0_ok nodelaw17_EntryGets_n0_ok nodelaw17_EntryGets_n0_nat
noncomputable def Glaw17_EntryGets_n0 : (Ex → St → Ans) → St → Ans := (sumN declaw17_EntryGets_n0 nodeDlaw17_EntryGets_n0 outlaw17_EntryGets_n0)
theorem Glaw17_EntryGets_n0_ok : CSum Try.prog 30 Llaw17_EntryGets_n0 Glaw17_EntryGets_n0 := GNlaw17_EntryGets_n0_ok
noncomputable def annlaw17_EntryGets : Ann := (.seq .none (.seq .none (.seq .none (.seq .none (.seq .none (.seq (.cut 0 [3, 4, 5, 6] Glaw17_EntryGets_n0) .none))))))
theorem annlaw17_EntryGets_ok : AnnOk Try.prog 30 blaw17_EntryGets annlaw17_EntryGets := ⟨(annOk_none _ _ _), ⟨(annOk_none _ _ _), ⟨(annOk_none _ _ _), ⟨(annOk_none _ _ _), ⟨(annOk_none _ _ _), ⟨Glaw17_EntryGets_n0_ok, (annOk_none _ _ _)⟩⟩⟩⟩⟩⟩
abbrev Alaw17_EntryGets := (List UInt8)
abbrev Ylaw17_EntryGets := (Bool)
def fnlaw17_EntryGets {β : Type} : Alaw17_EntryGets → (Ylaw17_EntryGets → Option β) → Option β := fun a0 exit => (bindO (fnDlaw17_works ()) fun r => (bif !r then (exit (false)) else (bif decide ((↑(List.length a0) : Int) > (3000 : Int)) then (exit (true)) else (bindO (fnDentry_Get (a0)) (unP fun r_0_0 => unP fun r_0_1 => unP fun r_0_2 => unP fun r_0_3 => unP fun r_0_4 => unP fun r_0_5 r_1 => (bindO (fnDref17_Get (a0)) (unP fun r_0_0_2 => unP fun r_0_1_2 => unP fun r_0_2_2 => unP fun r_0_3_2 => unP fun r_0_4_2 => unP fun r_0_5_2 r_1_2 => (bindO (nodeDlaw17_EntryGets_n0 (r_1, r_1_2, r_0_0, r_0_1, r_0_2, r_0_3, r_0_4, r_0_5, r_0_0_2, r_0_1_2, r_0_2_2, r_0_3_2, r_0_4_2, r_0_5_2)) fun t2 => (exit (t2))))))))))
def fnDlaw17_EntryGets (a : Alaw17_EntryGets) : Option Ylaw17_EntryGets := fnlaw17_EntryGets a some
theorem fnlaw17_EntryGets_nat (a : Alaw17_EntryGets) (k : Ylaw17_EntryGets → Ans) : fnlaw17_EntryGets a k = bindO (fnDlaw17_EntryGets a) k := by
  obtain z := a
  simp only [fnDlaw17_EntryGets, fnlaw17_EntryGets, bindO_cond, bindO_assoc, bindO_none, bindO_pure, bindO_elim, bindO_unP]
def argslaw17_EntryGets : Alaw17_EntryGets → List AV × List AE.Obj := fun a0 => ([AV.str a0], [])
def decAlaw17_EntryGets (l : List AV) (H : List AE.Obj) : Option Alaw17_EntryGets := match l, H with
  | [AV.str a0], [] => some (a0)
  | _, _ => none
theorem decAlaw17_EntryGets_ok (l : List AV) (H : List AE.Obj) (a : Alaw17_EntryGets) (h : decAlaw17_EntryGets l H = some a) : (l, H) = argslaw17_EntryGets a := by
  unfold decAlaw17_EntryGets at h
  split at h
  · cases h; rfl
  · cases h
def outlaw17_EntryGets : Alaw17_EntryGets → (AV → List AE.Obj → Ans) → Ylaw17_EntryGets → Ans := fun a0 K => fun r_y => K (AV.bool r_y) []
theorem fnlaw17_EntryGets_ok (a : Alaw17_EntryGets) (K : AV → List AE.Obj → Ans) : fnE Try.tab envlaw17_EntryGets noHint 0 70 4 Try.f4.ntmps Try.f4.results.toList annlaw17_EntryGets blaw17_EntryGets (argslaw17_EntryGets a).1 (argslaw17_EntryGets a).2 K = fnlaw17_EntryGets a (outlaw17_EntryGets a K) := by kernel_rfl
def vFlaw17_EntryGets (a : Alaw17_EntryGets) (K : AV → List AE.Obj → Ans) : Ans := bindO (fnDlaw17_EntryGets a) fun y => outlaw17_EntryGets a K y
def Flaw17_EntryGets : List AV → List AE.Obj → (AV → List AE.Obj → Ans) → Ans := fun l H K => bindO (decAlaw17_EntryGets l H) fun a => vFlaw17_EntryGets a K
theorem Flaw17_EntryGets_ok : FuncOk Try.prog 4 Flaw17_EntryGets := func_mkD (hint := noHint) (d := 0) (n := 70) mixed tabOk envlaw17_EntryGetsOk Try.func4 (bodySome (by kernel_rfl)) (by decide +kernel) annlaw17_EntryGets_ok decAlaw17_EntryGets_ok fnlaw17_EntryGets_ok fnlaw17_EntryGets_nat
end Go.Proofs.R2
namespace Go.Proofs.R2
open Go Go.AE Go.Plain

theorem wrapU32 {m : Nat} (h : m < 4294967296) : IntKind.wrap .u32 (m : Int) = (m : Int) := by
  simp [IntKind.wrap, IntKind.bits, IntKind.signed]; omega
theorem wrapU8 (m : Nat) : IntKind.wrap .u8 (m : Int) = ((m % 256 : Nat) : Int) := by
  simp [IntKind.wrap, IntKind.bits, IntKind.signed]
theorem natU32 {m : Nat} (h : m < 4294967296) : Int.toNat ((m : Int) % 4294967296) = m := by omega
theorem nat64 {m : Nat} (h : m < 9223372036854775808) : Int.toNat ((m : Int) % 18446744073709551616) = m := by omega
theorem wrapN {m : Nat} (h : m ≤ 9223372036854775807) : IntKind.wrap .i64 (m : Int) = (m : Int) := wrap64 (by omega) (by omega)
theorem pow_min (a b : Nat) : (2 : Int) ^ min a b = ((2 ^ min a b : Nat) : Int) := by simp
theorem fdiv_nat (m p : Nat) : Int.fdiv (m : Int) (p : Int) = ((m / p : Nat) : Int) := by rw [Int.fdiv_eq_ediv_of_nonneg _ (by omega)]; rfl
theorem tdiv_nat (m p : Nat) : Int.tdiv (m : Int) (p : Int) = ((m / p : Nat) : Int) := rfl
theorem tmod_nat (m p : Nat) : Int.tmod (m : Int) (p : Int) = ((m % p : Nat) : Int) := rfl

/-! ### cyclic -/
theorem bitStep_eq {n : Nat} (h : n < 4294967296) : IntKind.wrap .u32 (((Int.toNat (Int.fdiv (n : Int) 2 % 4294967296) ^^^ Int.toNat (IntKind.wrap .u32 (((3988292384 &&&
    Int.toNat (IntKind.wrap .u32 ((0 : Int) - IntKind.wrap .u32 (((Int.toNat ((n : Int) % 4294967296) &&& 1 : Nat)) : Int)) % 4294967296) : Nat)) : Int) % 4294967296) : Nat)) : Int) = ((bitStep n : Nat) : Int) := by
  have e1 : Int.fdiv (n : Int) 2 = ((n / 2 : Nat) : Int) := fdiv_nat n 2
  rw [e1, natU32 (m := n / 2) (by omega), natU32 h, Nat.and_one_is_mod]
  have hlt := bitStep_lt (n := n) (by omega)
  unfold bitStep at hlt ⊢
  have hn : n % 2 = 0 ∨ n % 2 = 1 := by omega
  rcases hn with hn | hn <;> rw [hn] at hlt ⊢
  · have : Int.toNat (IntKind.wrap .u32 (((3988292384 &&& Int.toNat (IntKind.wrap .u32 ((0 : Int) - IntKind.wrap .u32 ((0 : Nat) : Int)) % 4294967296) : Nat)) : Int) % 4294967296) = 0 := by decide
    rw [this]
    exact wrapU32 hlt
  · have : Int.toNat (IntKind.wrap .u32 (((3988292384 &&& Int.toNat (IntKind.wrap .u32 ((0 : Int) - IntKind.wrap .u32 ((1 : Nat) : Int)) % 4294967296) : Nat)) : Int) % 4294967296) = poly := by decide
    rw [this]
    exact wrapU32 hlt
theorem bits_succ (k n : Nat) : nbits (k + 1) n = bitStep (nbits k n) := by rw [← bits_add k 1]; rfl
theorem cyclic_step_eq {n c : Nat} (hn : n < 4294967296) (hc : c < 256) : fnDcyclic_step ((n : Int), (c : Int)) = some ((byteStep n c : Nat) : Int) := by
  have hx : n ^^^ c < 4294967296 := Nat.xor_lt_two_pow (n := 32) hn (by omega)
  have key : ∃ y, loopD (stepDcyclic_step_n0 ()) FUEL (((n ^^^ c : Nat) : Int), (0 : Int)) = some y ∧ y = ((byteStep n c : Nat) : Int) := by
    refine loopD_inv (fun j v => j ≤ 8 ∧ v = (((nbits j (n ^^^ c) : Nat) : Int), (j : Int))) 8 _ ?_ ⟨by omega, rfl⟩ (by omega)
    rintro j v ⟨hj, rfl⟩
    have hb := bits_lt j (n := n ^^^ c) hx
    by_cases h8 : j < 8
    · left
      refine ⟨_, ?_, h8, by omega, rfl⟩
      simp only [stepDcyclic_step_n0, stepcyclic_step_n0, dec_true (show (j : Int) < 8 by omega), cond_true]
      rw [bitStep_eq hb, wrap64_nat (by omega), bits_succ]
    · right
      obtain rfl : j = 8 := by omega
      refine ⟨_, ?_, rfl⟩
      simp only [stepDcyclic_step_n0, stepcyclic_step_n0, dec_false (show ¬ ((8 : Nat) : Int) < 8 by omega), cond_false]
      rfl
  obtain ⟨y, hy, rfl⟩ := key
  have e : IntKind.wrap .u32 (((Int.toNat ((n : Int) % 4294967296) ^^^ Int.toNat (IntKind.wrap .u32 (c : Int) % 4294967296) : Nat)) : Int) = ((n ^^^ c : Nat) : Int) := by
    rw [natU32 hn, wrapU32 (m := c) (by omega), natU32 (m := c) (by omega), wrapU32 hx]
  simp only [fnDcyclic_step, fncyclic_step]
  rw [e, hy]
  rfl
theorem run_take (m : Nat) {s : List UInt8} {j : Nat} {c : UInt8} (h : s[j]? = some c) : crun m (s.take (j + 1)) = byteStep (crun m (s.take j)) c.toNat := by
  rw [List.take_add_one, h, run_append]; rfl
theorem xor_all {n : Nat} (hn : n < 4294967296) : IntKind.wrap .u32 (((Int.toNat ((n : Int) % 4294967296) ^^^ 4294967295 : Nat)) : Int) = ((n ^^^ all32 : Nat) : Int) := by
  rw [natU32 hn, wrapU32 (Nat.xor_lt_two_pow (n := 32) hn (by decide))]
  rfl
theorem cyclic_Of_eq (s : List UInt8) (hs : s.length ≤ 1000000000000) : fnDcyclic_Of s = some ((crc s : Nat) : Int) := by
  have key : ∃ y, loopD (stepDcyclic_State_Add_n0 (s, (s.length : Int), 0)) FUEL (((all32 : Nat) : Int), ((0 : Nat) : Int)) = some y ∧ y = ((crun all32 s : Nat) : Int) := by
    refine loopD_each s (fun j (_ : Unit) => (((crun all32 (s.take j) : Nat) : Int), (j : Int))) (fun _ _ => True) _ ?_ ?_ (s0 := ()) trivial (by omega)
    · intro j c _ hj hlt _
      left
      refine ⟨(), ?_, trivial⟩
      have hr := run_lt (s.take j) (n := all32) (by decide)
      simp only [stepDcyclic_State_Add_n0, stepcyclic_State_Add_n0, dec_true (show (j : Int) < (s.length : Int) by omega), cond_true, nth_of hj, bindO_pure, wrap64_nat (show j < 9223372036854775807 by omega), cyclic_step_eq hr c.toNat_lt, run_take all32 hj]
    · intro _ _
      simp only [stepDcyclic_State_Add_n0, stepcyclic_State_Add_n0, dec_false (show ¬ (s.length : Int) < (s.length : Int) by omega), cond_false]
      exact ⟨_, rfl, by rw [List.take_length]⟩
  obtain ⟨y, hy, rfl⟩ := key
  have hr := run_lt s (n := all32) (by decide)
  have hc : crun all32 s ^^^ all32 < 4294967296 := crc_lt s
  have h0 : IntKind.wrap .u32 (((Int.toNat ((0 : Int) % 4294967296) ^^^ 4294967295 : Nat)) : Int) = ((all32 : Nat) : Int) := by decide
  simp only [fnDcyclic_Of, fncyclic_Of, fnDcyclic_New, fncyclic_New, fnDcyclic_State_Add, fncyclic_State_Add, fnDcyclic_State_Sum, fncyclic_State_Sum, bindO_pure]
  have hy' : loopD (stepDcyclic_State_Add_n0 (s, (s.length : Int), 0)) FUEL (((all32 : Nat) : Int), 0) = _ := hy
  rw [h0, hy']
  simp only [bindO_pure]
  rw [xor_all hr, wrapN (by omega)]
  rfl
theorem byte8 (n p : Nat) : UInt8.ofNat (Int.toNat (IntKind.wrap .u8 (Int.fdiv (n : Int) (p : Int)))) = UInt8.ofNat (n / p % 256) := by
  rw [fdiv_nat, wrapU8]
  rfl
theorem cyclic_Tail_eq (s : List UInt8) (hs : s.length ≤ 1000000000000) : fnDcyclic_Tail s = some (tail s) := by
  simp only [fnDcyclic_Tail, fncyclic_Tail, cyclic_Of_eq s hs, bindO_pure, nodeDcyclic_Tail_n0, nodecyclic_Tail_n0, nodeDcyclic_Tail_n1, nodecyclic_Tail_n1, nodeDcyclic_Tail_n1v1, nodecyclic_Tail_n1v1, nodeDcyclic_Tail_n1v2, nodecyclic_Tail_n1v2, nodeDcyclic_Tail_n1v3, nodecyclic_Tail_n1v3, nodeDcyclic_Tail_n1v4, nodecyclic_Tail_n1v4, unP]
  have b0 := byte8 (crc s) 1
  have b1 := byte8 (crc s) 256
  have b2 := byte8 (crc s) 65536
  have b3 := byte8 (crc s) 16777216
  simp only [Int.cast_ofNat_Int] at b0 b1 b2 b3
  unfold bytesOf tail le4
  simp only [List.map_cons, List.map_nil]
  rw [b0, b1, b2, b3, Nat.div_one]
theorem refbit_eq (t0 : List UInt8) {n : Nat} (t4 t5 : Int) (h : n < 4294967296) : nodeDref03_Of_n2 (t0, (n : Int), t4, t5) = some ((bitStep n : Nat) : Int) := by
  simp only [nodeDref03_Of_n2, noderef03_Of_n2]
  have e1 : Int.tmod (n : Int) 2 = ((n % 2 : Nat) : Int) := rfl
  have e2 : Int.tdiv (n : Int) 2 = ((n / 2 : Nat) : Int) := rfl
  have hlt := bitStep_lt (n := n) (by omega)
  rw [e1, e2, wrapN (m := n / 2) (by omega), nat64 (m := n / 2) (by omega)]
  change (bif (((n % 2 : Nat) : Int) == 1) then some (IntKind.wrap .i64 ((n / 2 ^^^ poly : Nat) : Int)) else some ((n / 2 : Nat) : Int)) = _
  unfold bitStep at hlt ⊢
  by_cases hn : n % 2 = 1
  · rw [if_pos hn] at hlt ⊢
    have : (((n % 2 : Nat) : Int) == 1) = true := by rw [hn]; rfl
    rw [this, cond_true, wrapN (by omega)]
  · rw [if_neg hn] at hlt ⊢
    have : (((n % 2 : Nat) : Int) == 1) = false := by rw [beq_eq_false_iff_ne]; omega
    rw [this, cond_false, Nat.xor_zero]
theorem ref03_Of_eq (s : List UInt8) (hs : s.length ≤ 1000000000000) : fnDref03_Of s = some ((crc s : Nat) : Int) := by
  have inner : ∀ (t4 : Int) {n : Nat}, n < 4294967296 → loopD (stepDref03_Of_n1 (s, t4)) FUEL ((n : Int), 0) = some ((nbits 8 n : Nat) : Int) := by
    intro t4 n hn
    have key : ∃ y, loopD (stepDref03_Of_n1 (s, t4)) FUEL ((n : Int), ((0 : Nat) : Int)) = some y ∧ y = ((nbits 8 n : Nat) : Int) := by
      refine loopD_inv (fun j v => j ≤ 8 ∧ v = (((nbits j n : Nat) : Int), (j : Int))) 8 _ ?_ ⟨by omega, rfl⟩ (by omega)
      rintro j v ⟨hj, rfl⟩
      by_cases h8 : j < 8
      · left
        refine ⟨_, ?_, h8, by omega, rfl⟩
        simp only [stepDref03_Of_n1, stepref03_Of_n1, dec_true (show (j : Int) < 8 by omega), cond_true, refbit_eq _ _ _ (bits_lt j hn), bindO_pure, wrap64_nat (show j < 9223372036854775807 by omega), bits_succ]
      · right
        obtain rfl : j = 8 := by omega
        simp only [stepDref03_Of_n1, stepref03_Of_n1, dec_false (show ¬ ((8 : Nat) : Int) < 8 by omega), cond_false]
        exact ⟨_, rfl, rfl⟩
    obtain ⟨y, hy, rfl⟩ := key
    exact hy
  have key : ∃ y, loopD (stepDref03_Of_n0 s) FUEL (((all32 : Nat) : Int), ((0 : Nat) : Int)) = some y ∧ y = ((crun all32 s : Nat) : Int) := by
    refine loopD_each s (fun j (_ : Unit) => (((crun all32 (s.take j) : Nat) : Int), (j : Int))) (fun _ _ => True) _ ?_ ?_ (s0 := ()) trivial (by omega)
    · intro j c _ hj hlt _
      left
      refine ⟨(), ?_, trivial⟩
      have hr := run_lt (s.take j) (n := all32) (by decide)
      have hc : c.toNat < 256 := c.toNat_lt
      have hx : crun all32 (s.take j) ^^^ c.toNat < 4294967296 := Nat.xor_lt_two_pow (n := 32) hr (by omega)
      simp only [stepDref03_Of_n0, stepref03_Of_n0, dec_true (show (j : Int) < (s.length : Int) by omega), cond_true, nth_of hj, bindO_pure, wrap64_nat (show j < 9223372036854775807 by omega), run_take all32 hj]
      rw [wrapN (m := c.toNat) (by omega), nat64 (m := crun all32 (s.take j)) (by omega), nat64 (m := c.toNat) (by omega), wrapN (by omega), inner _ hx]
      rfl
    · intro _ _
      simp only [stepDref03_Of_n0, stepref03_Of_n0, dec_false (show ¬ (s.length : Int) < (s.length : Int) by omega), cond_false]
      exact ⟨_, rfl, by rw [List.take_length]⟩
  obtain ⟨y, hy, rfl⟩ := key
  have hy' : loopD (stepDref03_Of_n0 s) FUEL ((4294967295 : Int), 0) = _ := hy
  have hr := run_lt s (n := all32) (by decide)
  have hc := crc_lt s
  simp only [fnDref03_Of, fnref03_Of, hy', bindO_pure]
  rw [nat64 (m := crun all32 s) (by omega)]
  change some (IntKind.wrap .i64 ((crc s : Nat) : Int)) = _
  rw [wrapN (by omega)]
theorem ref03_Tail_eq (s : List UInt8) (hs : s.length ≤ 1000000000000) : fnDref03_Tail s = some (tail s) := by
  simp only [fnDref03_Tail, fnref03_Tail, ref03_Of_eq s hs, bindO_pure]
  have hc := crc_lt s
  have e : ∀ p : Nat, p ≤ 16777216 → IntKind.wrap .i64 (Int.tdiv ((crc s : Nat) : Int) (p : Int)) = ((crc s / p : Nat) : Int) := fun p _ => by
    rw [tdiv_nat, wrapN]
    have := Nat.div_le_self (crc s) p
    omega
  have e1 := e 256 (by omega)
  have e2 := e 65536 (by omega)
  have e3 := e 16777216 (by omega)
  simp only [Int.cast_ofNat_Int] at e1 e2 e3
  rw [e1, e2, e3]
  have m : ∀ n : Nat, Int.tmod (n : Int) 256 = ((n % 256 : Nat) : Int) := fun n => rfl
  rw [m, m, m, m, wrapU8, wrapU8, wrapU8, wrapU8]
  unfold bytesOf tail le4
  simp only [List.map_cons, List.map_nil, Int.toNat_natCast, Nat.mod_mod]

/-! ### padding -/
theorem repeat_zero : ∀ n : Nat, Lib.repeatL [0] n = List.replicate n 0
  | 0 => rfl
  | n + 1 => by rw [Lib.repeatL, repeat_zero n, List.replicate_succ]; rfl
theorem region_Pad_eq (s : List UInt8) (hs : s.length ≤ 1000000000000) : fnDregion_Pad s = some (padTo s) := by
  have e : Int.tmod (s.length : Int) 64 = ((s.length % 64 : Nat) : Int) := rfl
  simp only [fnDregion_Pad, fnregion_Pad, e]
  by_cases h : s.length % 64 = 0
  · rw [dec_false (by omega), cond_false, padTo, h]
    simp
  · have e2 : IntKind.wrap .i64 ((64 : Int) - ((s.length % 64 : Nat) : Int)) = ((64 - s.length % 64 : Nat) : Int) := by rw [wrap64 (by omega) (by omega)]; omega
    rw [dec_true (by omega), cond_true, e2]
    have : fnDstrings_Repeat ([0], ((64 - s.length % 64 : Nat) : Int)) = some (List.replicate (64 - s.length % 64) 0) := by
      unfold fnDstrings_Repeat
      rw [repeat_zero]
      simp only [Int.toNat_natCast, List.length_cons, List.length_nil]
      rw [dec_true (by omega), dec_true (by omega), ble_true (by omega)]
      rfl
    rw [this]
    simp only [bindO_pure]
    rw [ble_true (by rw [List.length_replicate]; omega), cond_true, padTo, show (64 - s.length % 64) % 64 = 64 - s.length % 64 by omega]
theorem ref09_Pad_eq (s : List UInt8) (hs : s.length ≤ 1000000000000) : fnDref09_Pad s = some (padTo s) := by
  have key : ∃ y, loopD (stepDref09_Pad_n0 ()) FUEL s = some y ∧ y = padTo s := by
    refine loopD_inv (fun j v => j ≤ (64 - s.length % 64) % 64 ∧ v = s ++ List.replicate j 0) ((64 - s.length % 64) % 64) _ ?_ ⟨by omega, by simp⟩ (by omega)
    rintro j v ⟨hj, rfl⟩
    have hl : (s ++ List.replicate j (0 : UInt8)).length = s.length + j := by simp
    have e : Int.tmod ((s.length + j : Nat) : Int) 64 = (((s.length + j) % 64 : Nat) : Int) := rfl
    simp only [stepDref09_Pad_n0, stepref09_Pad_n0, hl, e]
    by_cases hlt : j < (64 - s.length % 64) % 64
    · left
      have e1 : ((((s.length + j) % 64 : Nat) : Int) != 0) = true := by rw [bne_iff_ne]; omega
      rw [e1, cond_true, ble_true (by omega), cond_true]
      exact ⟨_, rfl, hlt, by omega, by rw [List.append_assoc, List.replicate_succ']⟩
    · right
      have e1 : ((((s.length + j) % 64 : Nat) : Int) != 0) = false := by rw [bne_eq_false_iff_eq]; omega
      rw [e1, cond_false]
      exact ⟨_, rfl, by rw [padTo, show j = (64 - s.length % 64) % 64 by omega]⟩
  obtain ⟨y, hy, rfl⟩ := key
  simp only [fnDref09_Pad, fnref09_Pad, hy, bindO_pure]

/-! ### numbers of a fixed width -/
theorem pow256 (k : Nat) : (2 : Nat) ^ (8 * k) = 256 ^ k := by rw [Nat.pow_mul]
theorem field_Fits_eq (n : Int) (k : Nat) (hk : 1 ≤ k ∧ k ≤ 7) : fnDfield_Fits (n, (k : Int)) = some (decide (0 ≤ n ∧ n < ((256 ^ k : Nat) : Int))) := by
  have w : IntKind.wrap .i64 ((8 : Int) * (k : Int)) = ((8 * k : Nat) : Int) := by rw [wrap64 (by omega) (by omega)]; omega
  simp only [fnDfield_Fits, fnfield_Fits, nodeDfield_Fits_n0, nodefield_Fits_n0, fnDfield_width, fnfield_width, nodeDfield_width_n0, nodefield_width_n0, bindO_pure]
  rw [dec_true (show (k : Int) ≥ 1 by omega), dec_true (show (k : Int) ≤ 7 by omega), cond_true]
  simp only [bindO_pure, cond_true]
  by_cases h0 : n ≥ 0
  · rw [dec_true h0, cond_true, w, dec_false (by omega), cond_false]
    simp only [bindO_pure]
    obtain ⟨m, rfl⟩ := Int.eq_ofNat_of_zero_le h0
    have : min (Int.toNat ((8 * k : Nat) : Int)) 64 = 8 * k := by simp only [Int.toNat_natCast]; omega
    rw [this]
    have : (2 : Int) ^ (8 * k) = ((2 ^ (8 * k) : Nat) : Int) := by simp
    rw [this, fdiv_nat, pow256]
    have hp : 0 < 256 ^ k := Nat.pow_pos (by omega)
    congr 1
    rw [Bool.eq_iff_iff, beq_iff_eq, decide_eq_true_eq]
    have : m / 256 ^ k = 0 ↔ m < 256 ^ k := Nat.div_eq_zero_iff_lt hp
    omega
  · rw [dec_false h0, cond_false]
    simp only [bindO_pure]
    rw [dec_false (by omega)]
/-- A number's bytes behind others, if it has so many. -/
def putN (s : List UInt8) (n : Int) (k : Nat) : List UInt8 := if 0 ≤ n ∧ n < ((256 ^ k : Nat) : Int) then s ++ be k n.toNat else s
theorem putN_len (s : List UInt8) (n : Int) (k : Nat) : (putN s n k).length ≤ s.length + k := by
  unfold putN; split
  · rw [List.length_append, be_length]; omega
  · omega
theorem set_byte (k n j : Nat) (hj : j < k) : (bytesOf ((intsOf (be k n)).take j ++ List.replicate (k - j) 0)).length = k := by
  simp [bytesOf, intsOf, be_length]; omega
theorem bytes_ints (s : List UInt8) : bytesOf (intsOf s) = s := by
  unfold bytesOf intsOf
  rw [List.map_map]
  conv => rhs; rw [← List.map_id s]
  refine List.map_congr_left fun c _ => ?_
  simp
theorem field_Put_eq (s : List UInt8) (n : Int) (k : Nat) (hk : 1 ≤ k ∧ k ≤ 7) (hs : s.length ≤ 1000000000000) : fnDfield_Put (s, n, (k : Int)) = some (putN s n k) := by
  simp only [fnDfield_Put, fnfield_Put, field_Fits_eq n k hk, bindO_pure]
  unfold putN
  by_cases hf : 0 ≤ n ∧ n < ((256 ^ k : Nat) : Int)
  · rw [if_pos hf, dec_true hf]
    obtain ⟨m, rfl⟩ := Int.eq_ofNat_of_zero_le hf.1
    simp only [Bool.not_true, cond_false, Int.toNat_natCast]
    rw [dec_true (show (0 : Int) ≤ k by omega), dec_true (show (k : Int) ≤ k by omega), dec_true (show (1 : Int) * k ≤ 281474976710656 by omega), dec_true (show (k : Int) ≤ 9223372036854775807 by omega)]
    simp only [Bool.and_self, cond_true, List.length_replicate]
    have key : ∃ y, loopD (stepDfield_Put_n0 (s, (m : Int), (k : Int), (k : Int))) FUEL (((0 : Nat) : Int), List.replicate k (0 : Int)) = some y ∧ y = intsOf (be k m) := by
      refine loopD_inv (fun j v => j ≤ k ∧ v = ((j : Int), (intsOf (be k m)).take j ++ List.replicate (k - j) 0)) k _ ?_ ⟨by omega, by simp⟩ (by omega)
      rintro j v ⟨hj, rfl⟩
      by_cases hlt : j < k
      · left
        refine ⟨_, ?_, hlt, by omega, rfl⟩
        have w1 : IntKind.wrap .i64 ((k : Int) - 1) = ((k - 1 : Nat) : Int) := by rw [wrap64 (by omega) (by omega)]; omega
        have w2 : IntKind.wrap .i64 (((k - 1 : Nat) : Int) - (j : Int)) = ((k - 1 - j : Nat) : Int) := by rw [wrap64 (by omega) (by omega)]; omega
        have w3 : IntKind.wrap .i64 ((8 : Int) * ((k - 1 - j : Nat) : Int)) = ((8 * (k - 1 - j) : Nat) : Int) := by rw [wrap64 (by omega) (by omega)]; omega
        have hlen : ((intsOf (be k m)).take j ++ List.replicate (k - j) (0 : Int)).length = k := by simp [intsOf, be_length]; omega
        have hget : ((intsOf (be k m)).take j ++ List.replicate (k - j) (0 : Int))[j]? = some 0 := by
          rw [List.getElem?_append_right (by simp [intsOf, be_length]; omega), List.getElem?_replicate, if_pos (by simp [intsOf, be_length]; omega)]
        simp only [stepDfield_Put_n0, stepfield_Put_n0, dec_true (show (j : Int) < (k : Int) by omega), cond_true, w1, w2, w3, dec_false (show ¬ ((8 * (k - 1 - j) : Nat) : Int) < 0 by omega), cond_false, hlen,
          inR_true (show (0 : Int) ≤ (j : Int) ∧ (j : Int) < (k : Int) by omega), Int.toNat_natCast, hget, bindO_pure, wrap64_nat (show j < 9223372036854775807 by omega)]
        have hm : min (8 * (k - 1 - j)) 64 = 8 * (k - 1 - j) := by omega
        have hp : (2 : Int) ^ (8 * (k - 1 - j)) = ((256 ^ (k - 1 - j) : Nat) : Int) := by rw [← pow256]; simp
        rw [hm, hp, fdiv_nat, wrapU8]
        have hb := be_get k m j hlt
        have hi : (intsOf (be k m))[j]? = some ((m / 256 ^ (k - 1 - j) % 256 : Nat) : Int) := by
          unfold intsOf
          rw [List.getElem?_map, hb]
          simp [ofNat_mod]
        congr 3
        apply List.ext_getElem?
        intro i
        have h1 : (intsOf (be k m)).length = k := by simp [intsOf, be_length]
        rw [List.getElem?_set]
        by_cases hij : j = i
        · subst hij
          rw [if_pos rfl, if_pos (by rw [hlen]; omega), List.getElem?_append_left (by rw [List.length_take]; omega), List.getElem?_take_of_lt (by omega), hi]
        · rw [if_neg hij]
          by_cases hij2 : i < j
          · rw [List.getElem?_append_left (by rw [List.length_take]; omega), List.getElem?_append_left (by rw [List.length_take]; omega), List.getElem?_take_of_lt hij2, List.getElem?_take_of_lt (by omega)]
          · rw [List.getElem?_append_right (by rw [List.length_take]; omega), List.getElem?_append_right (by rw [List.length_take]; omega), List.getElem?_replicate, List.getElem?_replicate, List.length_take, List.length_take]
            split <;> split <;> first | rfl | omega
      · right
        obtain rfl : j = k := by omega
        simp only [stepDfield_Put_n0, stepfield_Put_n0, dec_false (show ¬ (j : Int) < (j : Int) by omega), cond_false]
        refine ⟨_, rfl, ?_⟩
        rw [Nat.sub_self, List.replicate_zero, List.append_nil, List.take_of_length_le (by simp [intsOf, be_length])]
    obtain ⟨y, hy, rfl⟩ := key
    have hy' : loopD (stepDfield_Put_n0 (s, (m : Int), (k : Int), (k : Int))) FUEL (0, List.replicate k (0 : Int)) = _ := hy
    rw [hy']
    simp only [bindO_pure, bytes_ints, be_length]
    rw [ble_true (by omega), cond_true]
  · rw [if_neg hf, dec_false hf]
    rfl
theorem ref02_Fits_eq (n : Int) (k : Nat) (hk : 1 ≤ k ∧ k ≤ 7) (hn : -9223372036854775808 ≤ n ∧ n ≤ 9223372036854775807) : fnDref02_Fits (n, (k : Int)) = some (decide (0 ≤ n ∧ n < ((256 ^ k : Nat) : Int))) := by
  simp only [fnDref02_Fits, fnref02_Fits, nodeDref02_Fits_n0, noderef02_Fits_n0, bindO_pure]
  rw [dec_false (show ¬ (k : Int) < 1 by omega), dec_false (show ¬ (k : Int) > 7 by omega), cond_false, cond_false]
  simp only [bindO_pure]
  by_cases h0 : n < 0
  · rw [dec_true h0, cond_true, dec_false (by omega)]
  · rw [dec_false h0, cond_false]
    obtain ⟨m, rfl⟩ := Int.eq_ofNat_of_zero_le (show 0 ≤ n by omega)
    have key : ∃ y, loopD (stepDref02_Fits_n1 (k : Int)) FUEL ((m : Int), ((0 : Nat) : Int)) = some y ∧ y = ((m / 256 ^ k : Nat) : Int) := by
      refine loopD_inv (fun j v => j ≤ k ∧ v = (((m / 256 ^ j : Nat) : Int), (j : Int))) k _ ?_ ⟨by omega, by simp⟩ (by omega)
      rintro j v ⟨hj, rfl⟩
      by_cases hlt : j < k
      · left
        refine ⟨_, ?_, hlt, by omega, rfl⟩
        have e : Int.tdiv ((m / 256 ^ j : Nat) : Int) 256 = ((m / 256 ^ (j + 1) : Nat) : Int) := by
          rw [Nat.pow_succ, ← Nat.div_div_eq_div_mul]; rfl
        have hle := Nat.div_le_self m (256 ^ (j + 1))
        simp only [stepDref02_Fits_n1, stepref02_Fits_n1, dec_true (show (j : Int) < (k : Int) by omega), cond_true, e, wrapN (show m / 256 ^ (j + 1) ≤ 9223372036854775807 by omega), wrap64_nat (show j < 9223372036854775807 by omega)]
      · right
        obtain rfl : j = k := by omega
        simp only [stepDref02_Fits_n1, stepref02_Fits_n1, dec_false (show ¬ (j : Int) < (j : Int) by omega), cond_false]
        exact ⟨_, rfl, rfl⟩
    obtain ⟨y, hy, rfl⟩ := key
    have hy' : loopD (stepDref02_Fits_n1 (k : Int)) FUEL ((m : Int), 0) = _ := hy
    rw [hy']
    simp only [bindO_pure]
    have hp : 0 < 256 ^ k := Nat.pow_pos (by omega)
    congr 1
    rw [Bool.eq_iff_iff, beq_iff_eq, decide_eq_true_eq, Int.natCast_eq_zero, Nat.div_eq_zero_iff_lt hp]
    omega
theorem ref02_Put_eq (s : List UInt8) (n : Int) (k : Nat) (hk : 1 ≤ k ∧ k ≤ 7) (hn : -9223372036854775808 ≤ n ∧ n ≤ 9223372036854775807) (hs : s.length ≤ 1000000000000) : fnDref02_Put (s, n, (k : Int)) = some (putN s n k) := by
  simp only [fnDref02_Put, fnref02_Put, ref02_Fits_eq n k hk hn, bindO_pure]
  unfold putN
  by_cases hf : 0 ≤ n ∧ n < ((256 ^ k : Nat) : Int)
  · rw [if_pos hf, dec_true hf]
    obtain ⟨m, rfl⟩ := Int.eq_ofNat_of_zero_le hf.1
    simp only [Bool.not_true, cond_false, Int.toNat_natCast]
    have key : ∃ y, loopD (stepDref02_Put_n0 (s, (k : Int))) FUEL ((m : Int), ([] : List UInt8), ((0 : Nat) : Int)) = some y ∧ y = be k m := by
      refine loopD_inv (fun j v => j ≤ k ∧ v = (((m / 256 ^ j : Nat) : Int), be j m, (j : Int))) k _ ?_ ⟨by omega, by simp [be]⟩ (by omega)
      rintro j v ⟨hj, rfl⟩
      by_cases hlt : j < k
      · left
        refine ⟨_, ?_, hlt, by omega, rfl⟩
        have e : Int.tdiv ((m / 256 ^ j : Nat) : Int) 256 = ((m / 256 ^ (j + 1) : Nat) : Int) := by
          rw [Nat.pow_succ, ← Nat.div_div_eq_div_mul]; rfl
        have hle := Nat.div_le_self m (256 ^ (j + 1))
        have e2 : IntKind.wrap .u8 (Int.tmod ((m / 256 ^ j : Nat) : Int) 256) = ((m / 256 ^ j % 256 : Nat) : Int) := by
          rw [show Int.tmod ((m / 256 ^ j : Nat) : Int) 256 = ((m / 256 ^ j % 256 : Nat) : Int) from rfl, wrapU8, Nat.mod_mod]
        simp only [stepDref02_Put_n0, stepref02_Put_n0, dec_true (show (j : Int) < (k : Int) by omega), cond_true, e, e2, wrapN (show m / 256 ^ (j + 1) ≤ 9223372036854775807 by omega), wrap64_nat (show j < 9223372036854775807 by omega)]
        have e3 : bytesOf [((m / 256 ^ j % 256 : Nat) : Int)] = [UInt8.ofNat (m / 256 ^ j % 256)] := rfl
        rw [e3, List.length_singleton, be_length, ble_true (by omega), cond_true, be]
        rfl
      · right
        obtain rfl : j = k := by omega
        simp only [stepDref02_Put_n0, stepref02_Put_n0, dec_false (show ¬ (j : Int) < (j : Int) by omega), cond_false]
        exact ⟨_, rfl, rfl⟩
    obtain ⟨y, hy, rfl⟩ := key
    have hy' : loopD (stepDref02_Put_n0 (s, (k : Int))) FUEL ((m : Int), [], 0) = _ := hy
    rw [hy']
    simp only [bindO_pure, be_length]
    rw [ble_true (by omega), cond_true]
  · rw [if_neg hf, dec_false hf]
    rfl
end Go.Proofs.R2
namespace Go.Proofs.R2
open Go Go.AE Go.Plain

theorem Reader_Bytes_eq (n : Nat) (r : List UInt8) (h : n ≤ r.length) (hl : r.length ≤ 1000000000000) : fnDfield_Reader_Bytes ((n : Int), r, 0) = some (r.take n, r.drop n, 0) := by
  simp only [fnDfield_Reader_Bytes, fnfield_Reader_Bytes, nodeDfield_Reader_Bytes_n0, nodefield_Reader_Bytes_n0]
  rw [dec_false (show ¬ (n : Int) < 0 by omega), cond_false, dec_false (show ¬ (n : Int) > (r.length : Int) by omega), cond_false]
  simp only [bindO_pure]
  rw [inR_true (show (0 : Int) ≤ (n : Int) ∧ (n : Int) < ((r.length + 1 : Nat) : Int) by omega)]
  rfl
theorem or_byte (n c : Nat) (hc : c < 256) : (n * 256) ||| c = 256 * n + c := by
  have := Nat.shiftLeft_add_eq_or_of_lt (i := 8) (b := c) (by omega) n
  rw [Nat.shiftLeft_eq] at this
  simp only [show (2 : Nat) ^ 8 = 256 from rfl] at this
  omega
theorem Reader_Num_eq (k : Nat) (r : List UInt8) (hk : 1 ≤ k ∧ k ≤ 7) (h : k ≤ r.length) (hl : r.length ≤ 1000000000000) : fnDfield_Reader_Num ((k : Int), r, 0) = some (((num (r.take k) : Nat) : Int), r.drop k, 0) := by
  simp only [fnDfield_Reader_Num, fnfield_Reader_Num, fnDfield_width, fnfield_width, nodeDfield_width_n0, nodefield_width_n0, bindO_pure]
  rw [dec_true (show (k : Int) ≥ 1 by omega), dec_true (show (k : Int) ≤ 7 by omega), cond_true]
  simp only [bindO_pure, Bool.not_true, cond_false, Reader_Bytes_eq k r h hl, unP]
  have hlen : (r.take k).length = k := by rw [List.length_take]; omega
  have hil : (intsOf (r.take k)).length = k := by rw [intsOf, List.length_map, hlen]
  rw [ble_true (by omega), cond_true, hil]
  have key : ∃ y, loopD (stepDfield_Reader_Num_n0 ((k : Int), r.drop k, 0, intsOf (r.take k))) FUEL ((0 : Int), ((0 : Nat) : Int)) = some y ∧ y = ((num (r.take k) : Nat) : Int) := by
    refine loopD_inv (fun j v => j ≤ k ∧ v = (((num (r.take j) : Nat) : Int), (j : Int))) k _ ?_ ⟨by omega, by simp [num]⟩ (by omega)
    rintro j v ⟨hj, rfl⟩
    by_cases hlt : j < k
    · left
      refine ⟨_, ?_, hlt, by omega, rfl⟩
      have hget : r[j]? = some r[j] := List.getElem?_eq_getElem (by omega)
      generalize r[j] = c at hget
      have hi : (intsOf (r.take k))[j]? = some ((c.toNat : Nat) : Int) := by
        rw [intsOf, List.getElem?_map, List.getElem?_take_of_lt hlt, hget]; rfl
      have hn := num_lt (r.take j)
      have hp : 256 ^ (r.take j).length ≤ 256 ^ 6 := Nat.pow_le_pow_right (by omega) (by rw [List.length_take]; omega)
      have hc : c.toNat < 256 := c.toNat_lt
      have e1 : IntKind.wrap .i64 (((num (r.take j) : Nat) : Int) * 256) = ((num (r.take j) * 256 : Nat) : Int) := by rw [wrap64 (by omega) (by omega)]; omega
      have e2 : num (r.take (j + 1)) = 256 * num (r.take j) + c.toNat := by rw [List.take_add_one, hget]; exact num_snoc _ _
      simp only [stepDfield_Reader_Num_n0, stepfield_Reader_Num_n0, dec_true (show (j : Int) < (k : Int) by omega), cond_true, hil, inR_true (show (0 : Int) ≤ (j : Int) ∧ (j : Int) < (k : Int) by omega), Int.toNat_natCast, hi, bindO_pure, e1,
        wrapN (m := c.toNat) (show c.toNat ≤ 9223372036854775807 by omega), nat64 (m := num (r.take j) * 256) (show num (r.take j) * 256 < 9223372036854775808 by omega), nat64 (m := c.toNat) (show c.toNat < 9223372036854775808 by omega), or_byte _ _ hc,
        wrapN (m := 256 * num (r.take j) + c.toNat) (show 256 * num (r.take j) + c.toNat ≤ 9223372036854775807 by omega), wrap64_nat (show j < 9223372036854775807 by omega), e2]
    · right
      obtain rfl : j = k := by omega
      simp only [stepDfield_Reader_Num_n0, stepfield_Reader_Num_n0, dec_false (show ¬ (j : Int) < (j : Int) by omega), cond_false]
      exact ⟨_, rfl, rfl⟩
  obtain ⟨y, hy, rfl⟩ := key
  have hy' : loopD (stepDfield_Reader_Num_n0 ((k : Int), r.drop k, 0, intsOf (r.take k))) FUEL (0, 0) = _ := hy
  rw [hy']
  rfl
/-- A reference's own 'number': a loop that is alike in all of them. -/
theorem number_loop (f : List UInt8 → Int × Int → Option ((Int × Int) ⊕ Int)) (s : List UInt8) (hs : s.length ≤ 7)
    (h1 : ∀ (n j : Int), decide (j < (s.length : Int)) = true → f s (n, j) = bindO (nth s j) fun x => some (.inl (IntKind.wrap .i64 (IntKind.wrap .i64 (256 * n) + IntKind.wrap .i64 (x.toNat : Int)), IntKind.wrap .i64 (j + 1))))
    (h2 : ∀ (n j : Int), decide (j < (s.length : Int)) = false → f s (n, j) = some (.inr n)) : loopD (f s) FUEL (0, 0) = some ((num s : Nat) : Int) := by
  have key : ∃ y, loopD (f s) FUEL ((0 : Int), ((0 : Nat) : Int)) = some y ∧ y = ((num s : Nat) : Int) := by
    refine loopD_each s (fun j (_ : Unit) => (((num (s.take j) : Nat) : Int), (j : Int))) (fun _ _ => True) _ ?_ ?_ (s0 := ()) trivial (by omega)
    · intro j c _ hj hlt _
      left
      refine ⟨(), ?_, trivial⟩
      have hn := num_lt (s.take j)
      have hp : 256 ^ (s.take j).length ≤ 256 ^ 6 := Nat.pow_le_pow_right (by omega) (by rw [List.length_take]; omega)
      have hc : c.toNat < 256 := c.toNat_lt
      have e2 : num (s.take (j + 1)) = 256 * num (s.take j) + c.toNat := by rw [List.take_add_one, hj]; exact num_snoc _ _
      rw [h1 _ _ (dec_true (by omega)), nth_of hj, bindO_pure, wrap64_nat (by omega), wrap64 (x := 256 * ((num (s.take j) : Nat) : Int)) (by omega) (by omega), wrapN (m := c.toNat) (by omega), wrap64 (by omega) (by omega), e2]
      congr 3
    · intro _ _
      rw [h2 _ _ (dec_false (by omega)), List.take_length]
      exact ⟨_, rfl, rfl⟩
  obtain ⟨y, hy, rfl⟩ := key
  exact hy
end Go.Proofs.R2
namespace Go.Proofs.R2
open Go Go.AE
--@ law17_EntryBack
noncomputable def envlaw17_EntryBack : Env := [(13, .pure Fentry_Put), (17, .pure Fentry_Get), (12, .pure Flaw17_works)]
theorem envlaw17_EntryBackOk : EnvOk Try.prog envlaw17_EntryBack := EnvOk.cons Fentry_Put_ok (EnvOk.cons Fentry_Get_ok (EnvOk.cons Flaw17_works_ok (EnvOk.nil)))
noncomputable def blaw17_EntryBack : Code := Try.f5.body.getD .skip
noncomputable def Llaw17_EntryBack_n6 : Code := codeAt [1, 1, 1, 1, 1, 1, 1, 1, 1, 1, 1, 1, 1, 0] blaw17_EntryBack
noncomputable def annLlaw17_EntryBack_n6 : Ann := .none
theorem annLlaw17_EntryBack_n6_ok : AnnOk Try.prog 129 Llaw17_EntryBack_n6 annLlaw17_EntryBack_n6 := (annOk_none _ _ _)
abbrev Ilaw17_EntryBack_n6 := (List UInt8) × (Int) × (Int) × (Int) × (Int) × (Int) × (Int) × (Int) × (Int) × (List Int) × (Int) × (Int) × (Int) × (Int) × (Int) × (Int)
abbrev Ylaw17_EntryBack_n6 := (Bool)
def Slaw17_EntryBack_n6 : Ilaw17_EntryBack_n6 → St := fun (t13, t19, t21, o0_0, o0_1, o0_2, o0_3, o0_4, o0_5, o1, o2_0, o2_1, o2_2, o2_3, o2_4, o2_5) => { env := [(4, AV.ptr 0 0), (13, AV.str t13), (15, AV.own 1), (18, AV.ptr 2 0), (19, AV.int IntKind.i64 t19), (21, AV.int IntKind.i64 t21)], stk := [[]], H := [AE.Obj.cells [AV.int IntKind.i64 o0_0, AV.int IntKind.i64 o0_1, AV.int IntKind.i64 o0_2, AV.int IntKind.i64 o0_3, AV.int IntKind.i64 o0_4, AV.int IntKind.i64 o0_5], Obj.arr (Ty.int IntKind.u8) o1, AE.Obj.cells [AV.int IntKind.i64 o2_0, AV.int IntKind.i64 o2_1, AV.int IntKind.i64 o2_2, AV.int IntKind.i64 o2_3, AV.int IntKind.i64 o2_4, AV.int IntKind.i64 o2_5]], blk := 20480 }
def declaw17_EntryBack_n6 (s : St) : Option Ilaw17_EntryBack_n6 := match s with
  | { env := [(4, AV.ptr 0 0), (13, AV.str t13), (15, AV.own 1), (18, AV.ptr 2 0), (19, AV.int IntKind.i64 t19), (21, AV.int IntKind.i64 t21)], stk := [[]], H := [AE.Obj.cells [AV.int IntKind.i64 o0_0, AV.int IntKind.i64 o0_1, AV.int IntKind.i64 o0_2, AV.int IntKind.i64 o0_3, AV.int IntKind.i64 o0_4, AV.int IntKind.i64 o0_5], Obj.arr (Ty.int IntKind.u8) o1, AE.Obj.cells [AV.int IntKind.i64 o2_0, AV.int IntKind.i64 o2_1, AV.int IntKind.i64 o2_2, AV.int IntKind.i64 o2_3, AV.int IntKind.i64 o2_4, AV.int IntKind.i64 o2_5]], blk := 20480 } => some (t13, t19, t21, o0_0, o0_1, o0_2, o0_3, o0_4, o0_5, o1, o2_0, o2_1, o2_2, o2_3, o2_4, o2_5)
  | _ => none
theorem declaw17_EntryBack_n6_ok (s : St) (x : Ilaw17_EntryBack_n6) (h : declaw17_EntryBack_n6 s = some x) : s = Slaw17_EntryBack_n6 x := by
  unfold declaw17_EntryBack_n6 at h
  split at h
  · cases h; rfl
  · cases h
def outlaw17_EntryBack_n6 : Ilaw17_EntryBack_n6 → (Ex → St → Ans) → Ylaw17_EntryBack_n6 → Ans := fun (t13, t19, t21, o0_0, o0_1, o0_2, o0_3, o0_4, o0_5, o1, o2_0, o2_1, o2_2, o2_3, o2_4, o2_5) K => fun t8_y => K (Ex.norm) { env := [(8, AV.bool t8_y)], stk := [[]], H := [], blk := 20480 }
def nodelaw17_EntryBack_n6 {β : Type} : Ilaw17_EntryBack_n6 → (Ylaw17_EntryBack_n6 → Option β) → Option β := fun (t13, t19, t21, o0_0, o0_1, o0_2, o0_3, o0_4, o0_5, o1, o2_0, o2_1, o2_2, o2_3, o2_4, o2_5) exit => (bif o2_0 == o0_0 && (o2_1 == o0_1 && true) && (o2_2 == o0_2 && true) && (o2_3 == o0_3 && (o2_4 == o0_4 && true) && (o2_5 == o0_5 && true) && true) then (bif t19 == (0 : Int) then (exit ((t21 == (0 : Int)) == (bytesOf o1 == t13))) else (exit (false))) else (exit (false)))
def nodeDlaw17_EntryBack_n6 (i : Ilaw17_EntryBack_n6) : Option Ylaw17_EntryBack_n6 := nodelaw17_EntryBack_n6 i some
theorem nodelaw17_EntryBack_n6_nat (i : Ilaw17_EntryBack_n6) (k : Ylaw17_EntryBack_n6 → Ans) : nodelaw17_EntryBack_n6 i k = bindO (nodeDlaw17_EntryBack_n6 i) k := by
  obtain ⟨t13, t19, t21, o0_0, o0_1, o0_2, o0_3, o0_4, o0_5, o1, o2_0, o2_1, o2_2, o2_3, o2_4, o2_5⟩ := i
  simp only [nodeDlaw17_EntryBack_n6, nodelaw17_EntryBack_n6, bindO_cond, bindO_assoc, bindO_none, bindO_pure, bindO_elim, bindO_unP]
theorem nodelaw17_EntryBack_n6_ok (i : Ilaw17_EntryBack_n6) (K : Ex → St → Ans) : codeI Try.tab envlaw17_EntryBack noHint (codeD Try.tab envlaw17_EntryBack noHint 0 64) 70 129 annLlaw17_EntryBack_n6 Llaw17_EntryBack_n6 (weakP 0 (exk [8] [8] []) K) (Slaw17_EntryBack_n6 i) = nodelaw17_EntryBack_n6 i (outlaw17_EntryBack_n6 i K) := by kernel_rfl
theorem GNlaw17_EntryBack_n6_ok : CSum Try.prog 129 Llaw17_EntryBack_n6 (sumN declaw17_EntryBack_n6 nodeDlaw17_EntryBack_n6 outlaw17_EntryBack_n6) := csum_node mixed tabOk envlaw17_EntryBackOk 0 (exk [8] [8] []) annLlaw17_EntryBack_n6_ok declaw17_EntryBack_n6_ok nodelaw17_EntryBack_n6_ok nodelaw17_EntryBack_n6_nat
noncomputable def Glaw17_EntryBack_n6 : (Ex → St → Ans) → St → Ans := (sumN declaw17_EntryBack_n6 nodeDlaw17_EntryBack_n6 outlaw17_EntryBack_n6)
theorem Glaw17_EntryBack_n6_ok : CSum Try.prog 129 Llaw17_EntryBack_n6 Glaw17_EntryBack_n6 := GNlaw17_EntryBack_n6_ok
noncomputable def Llaw17_EntryBack_n5 : Code := codeAt [1, 1, 1, 1, 1, 1, 1, 1, 1, 1, 0, 1, 0, 0, 0, 0] blaw17_EntryBack
noncomputable def annLlaw17_EntryBack_n5 : Ann := .none
theorem annLlaw17_EntryBack_n5_ok : AnnOk Try.prog 129 Llaw17_EntryBack_n5 annLlaw17_EntryBack_n5 := (annOk_none _ _ _)
abbrev Ilaw17_EntryBack_n5 := (List UInt8) × (Int) × (Int) × (Int) × (Int) × (Int) × (Int) × (Int) × (Int) × (Int) × (Int) × (Int) × (List Int)
abbrev Ylaw17_EntryBack_n5 := (Bool)
def Slaw17_EntryBack_n5 : Ilaw17_EntryBack_n5 → St := fun (t13, t16, o0_0, o0_1, o0_2, o0_3, o0_4, o0_5, o1_0, o1_1, o1_2, o1_3, o2) => { env := [(4, AV.ptr 0 0), (6, AV.ptr 1 0), (13, AV.str t13), (15, AV.own 2), (16, AV.int IntKind.i64 t16), (17, AV.int IntKind.i64 (0))], stk := [[]], H := [AE.Obj.cells [AV.int IntKind.i64 o0_0, AV.int IntKind.i64 o0_1, AV.int IntKind.i64 o0_2, AV.int IntKind.i64 o0_3, AV.int IntKind.i64 o0_4, AV.int IntKind.i64 o0_5], AE.Obj.cells [AV.int IntKind.u8 o1_0, AV.int IntKind.u8 o1_1, AV.int IntKind.u8 o1_2, AV.int IntKind.u8 o1_3], Obj.arr (Ty.int IntKind.u8) o2], blk := 20480 }
def declaw17_EntryBack_n5 (s : St) : Option Ilaw17_EntryBack_n5 := match s with
  | { env := [(4, AV.ptr 0 0), (6, AV.ptr 1 0), (13, AV.str t13), (15, AV.own 2), (16, AV.int IntKind.i64 t16), (17, AV.int IntKind.i64 r2)], stk := [[]], H := [AE.Obj.cells [AV.int IntKind.i64 o0_0, AV.int IntKind.i64 o0_1, AV.int IntKind.i64 o0_2, AV.int IntKind.i64 o0_3, AV.int IntKind.i64 o0_4, AV.int IntKind.i64 o0_5], AE.Obj.cells [AV.int IntKind.u8 o1_0, AV.int IntKind.u8 o1_1, AV.int IntKind.u8 o1_2, AV.int IntKind.u8 o1_3], Obj.arr (Ty.int IntKind.u8) o2], blk := 20480 } => cond (decide (r2 = 0)) (some (t13, t16, o0_0, o0_1, o0_2, o0_3, o0_4, o0_5, o1_0, o1_1, o1_2, o1_3, o2)) none
  | _ => none
theorem declaw17_EntryBack_n5_ok (s : St) (x : Ilaw17_EntryBack_n5) (h : declaw17_EntryBack_n5 s = some x) : s = Slaw17_EntryBack_n5 x := by
  unfold declaw17_EntryBack_n5 at h
  split at h
  · replace h := cond_noneO h; obtain ⟨hg, h⟩ := h; simp only [Bool.and_eq_true, decide_eq_true_eq] at hg; simp only [hg]; cases h; rfl
  · cases h
def outlaw17_EntryBack_n5 : Ilaw17_EntryBack_n5 → (Ex → St → Ans) → Ylaw17_EntryBack_n5 → Ans := fun (t13, t16, o0_0, o0_1, o0_2, o0_3, o0_4, o0_5, o1_0, o1_1, o1_2, o1_3, o2) K => fun t84_y => K (Ex.norm) { env := [(4, AV.ptr 0 0), (6, AV.ptr 1 0), (13, AV.str t13), (15, AV.own 2), (16, AV.int IntKind.i64 t16), (17, AV.int IntKind.i64 (0)), (84, AV.bool t84_y)], stk := [[]], H := [AE.Obj.cells [AV.int IntKind.i64 o0_0, AV.int IntKind.i64 o0_1, AV.int IntKind.i64 o0_2, AV.int IntKind.i64 o0_3, AV.int IntKind.i64 o0_4, AV.int IntKind.i64 o0_5], AE.Obj.cells [AV.int IntKind.u8 o1_0, AV.int IntKind.u8 o1_1, AV.int IntKind.u8 o1_2, AV.int IntKind.u8 o1_3], Obj.arr (Ty.int IntKind.u8) o2], blk := 20480 }
def nodelaw17_EntryBack_n5 {β : Type} : Ilaw17_EntryBack_n5 → (Ylaw17_EntryBack_n5 → Option β) → Option β := fun (t13, t16, o0_0, o0_1, o0_2, o0_3, o0_4, o0_5, o1_0, o1_1, o1_2, o1_3, o2) exit => (exit (decide (IntKind.wrap IntKind.i64 (t16 + (0 : Int)) < (↑(List.length o2) : Int))))
def nodeDlaw17_EntryBack_n5 (i : Ilaw17_EntryBack_n5) : Option Ylaw17_EntryBack_n5 := nodelaw17_EntryBack_n5 i some
theorem nodelaw17_EntryBack_n5_nat (i : Ilaw17_EntryBack_n5) (k : Ylaw17_EntryBack_n5 → Ans) : nodelaw17_EntryBack_n5 i k = bindO (nodeDlaw17_EntryBack_n5 i) k := by
  obtain ⟨t13, t16, o0_0, o0_1, o0_2, o0_3, o0_4, o0_5, o1_0, o1_1, o1_2, o1_3, o2⟩ := i
  simp only [nodeDlaw17_EntryBack_n5, nodelaw17_EntryBack_n5, bindO_cond, bindO_assoc, bindO_none, bindO_pure, bindO_elim, bindO_unP]
theorem nodelaw17_EntryBack_n5_ok (i : Ilaw17_EntryBack_n5) (K : Ex → St → Ans) : codeI Try.tab envlaw17_EntryBack noHint (codeD Try.tab envlaw17_EntryBack noHint 0 64) 70 129 annLlaw17_EntryBack_n5 Llaw17_EntryBack_n5 (weakP 0 (exk [4, 6, 13, 15, 16, 17, 84] [8] []) K) (Slaw17_EntryBack_n5 i) = nodelaw17_EntryBack_n5 i (outlaw17_EntryBack_n5 i K) := by kernel_rfl
theorem GNlaw17_EntryBack_n5_ok : CSum Try.prog 129 Llaw17_EntryBack_n5 (sumN declaw17_EntryBack_n5 nodeDlaw17_EntryBack_n5 outlaw17_EntryBack_n5) := csum_node mixed tabOk envlaw17_EntryBackOk 0 (exk [4, 6, 13, 15, 16, 17, 84] [8] []) annLlaw17_EntryBack_n5_ok declaw17_EntryBack_n5_ok nodelaw17_EntryBack_n5_ok nodelaw17_EntryBack_n5_nat
abbrev Ilaw17_EntryBack_n5v1 := (List UInt8) × (Int) × (Int) × (Int) × (Int) × (Int) × (Int) × (Int) × (Int) × (Int) × (Int) × (Int) × (List Int)
abbrev Ylaw17_EntryBack_n5v1 := (Bool)
def Slaw17_EntryBack_n5v1 : Ilaw17_EntryBack_n5v1 → St := fun (t13, t16, o0_0, o0_1, o0_2, o0_3, o0_4, o0_5, o1_0, o1_1, o1_2, o1_3, o2) => { env := [(4, AV.ptr 0 0), (6, AV.ptr 1 0), (13, AV.str t13), (15, AV.own 2), (16, AV.int IntKind.i64 t16), (17, AV.int IntKind.i64 (1))], stk := [[]], H := [AE.Obj.cells [AV.int IntKind.i64 o0_0, AV.int IntKind.i64 o0_1, AV.int IntKind.i64 o0_2, AV.int IntKind.i64 o0_3, AV.int IntKind.i64 o0_4, AV.int IntKind.i64 o0_5], AE.Obj.cells [AV.int IntKind.u8 o1_0, AV.int IntKind.u8 o1_1, AV.int IntKind.u8 o1_2, AV.int IntKind.u8 o1_3], Obj.arr (Ty.int IntKind.u8) o2], blk := 20480 }
def declaw17_EntryBack_n5v1 (s : St) : Option Ilaw17_EntryBack_n5v1 := match s with
  | { env := [(4, AV.ptr 0 0), (6, AV.ptr 1 0), (13, AV.str t13), (15, AV.own 2), (16, AV.int IntKind.i64 t16), (17, AV.int IntKind.i64 r2)], stk := [[]], H := [AE.Obj.cells [AV.int IntKind.i64 o0_0, AV.int IntKind.i64 o0_1, AV.int IntKind.i64 o0_2, AV.int IntKind.i64 o0_3, AV.int IntKind.i64 o0_4, AV.int IntKind.i64 o0_5], AE.Obj.cells [AV.int IntKind.u8 o1_0, AV.int IntKind.u8 o1_1, AV.int IntKind.u8 o1_2, AV.int IntKind.u8 o1_3], Obj.arr (Ty.int IntKind.u8) o2], blk := 20480 } => cond (decide (r2 = 1)) (some (t13, t16, o0_0, o0_1, o0_2, o0_3, o0_4, o0_5, o1_0, o1_1, o1_2, o1_3, o2)) none
  | _ => none
theorem declaw17_EntryBack_n5v1_ok (s : St) (x : Ilaw17_EntryBack_n5v1) (h : declaw17_EntryBack_n5v1 s = some x) : s = Slaw17_EntryBack_n5v1 x := by
  unfold declaw17_EntryBack_n5v1 at h
  split at h
  · replace h := cond_noneO h; obtain ⟨hg, h⟩ := h; simp only [Bool.and_eq_true, decide_eq_true_eq] at hg; simp only [hg]; cases h; rfl
  · cases h
def outlaw17_EntryBack_n5v1 : Ilaw17_EntryBack_n5v1 → (Ex → St → Ans) → Ylaw17_EntryBack_n5v1 → Ans := fun (t13, t16, o0_0, o0_1, o0_2, o0_3, o0_4, o0_5, o1_0, o1_1, o1_2, o1_3, o2) K => fun t84_y => K (Ex.norm) { env := [(4, AV.ptr 0 0), (6, AV.ptr 1 0), (13, AV.str t13), (15, AV.own 2), (16, AV.int IntKind.i64 t16), (17, AV.int IntKind.i64 (1)), (84, AV.bool t84_y)], stk := [[]], H := [AE.Obj.cells [AV.int IntKind.i64 o0_0, AV.int IntKind.i64 o0_1, AV.int IntKind.i64 o0_2, AV.int IntKind.i64 o0_3, AV.int IntKind.i64 o0_4, AV.int IntKind.i64 o0_5], AE.Obj.cells [AV.int IntKind.u8 o1_0, AV.int IntKind.u8 o1_1, AV.int IntKind.u8 o1_2, AV.int IntKind.u8 o1_3], Obj.arr (Ty.int IntKind.u8) o2], blk := 20480 }
def nodelaw17_EntryBack_n5v1 {β : Type} : Ilaw17_EntryBack_n5v1 → (Ylaw17_EntryBack_n5v1 → Option β) → Option β := fun (t13, t16, o0_0, o0_1, o0_2, o0_3, o0_4, o0_5, o1_0, o1_1, o1_2, o1_3, o2) exit => (exit (decide (IntKind.wrap IntKind.i64 (t16 + (1 : Int)) < (↑(List.length o2) : Int))))
def nodeDlaw17_EntryBack_n5v1 (i : Ilaw17_EntryBack_n5v1) : Option Ylaw17_EntryBack_n5v1 := nodelaw17_EntryBack_n5v1 i some
theorem nodelaw17_EntryBack_n5v1_nat (i : Ilaw17_EntryBack_n5v1) (k : Ylaw17_EntryBack_n5v1 → Ans) : nodelaw17_EntryBack_n5v1 i k = bindO (nodeDlaw17_EntryBack_n5v1 i) k := by
  obtain ⟨t13, t16, o0_0, o0_1, o0_2, o0_3, o0_4, o0_5, o1_0, o1_1, o1_2, o1_3, o2⟩ := i
  simp only [nodeDlaw17_EntryBack_n5v1, nodelaw17_EntryBack_n5v1, bindO_cond, bindO_assoc, bindO_none, bindO_pure, bindO_elim, bindO_unP]
theorem nodelaw17_EntryBack_n5v1_ok (i : Ilaw17_EntryBack_n5v1) (K : Ex → St → Ans) : codeI Try.tab envlaw17_EntryBack noHint (codeD Try.tab envlaw17_EntryBack noHint 0 64) 70 129 annLlaw17_EntryBack_n5 Llaw17_EntryBack_n5 (weakP 0 (exk [4, 6, 13, 15, 16, 17, 84] [8] []) K) (Slaw17_EntryBack_n5v1 i) = nodelaw17_EntryBack_n5v1 i (outlaw17_EntryBack_n5v1 i K) := by kernel_rfl
theorem GNlaw17_EntryBack_n5v1_ok : CSum Try.prog 129 Llaw17_EntryBack_n5 (sumN declaw17_EntryBack_n5v1 nodeDlaw17_EntryBack_n5v1 outlaw17_EntryBack_n5v1) := csum_node mixed tabOk envlaw17_EntryBackOk 0 (exk [4, 6, 13, 15, 16, 17, 84] [8] []) annLlaw17_EntryBack_n5_ok declaw17_EntryBack_n5v1_ok nodelaw17_EntryBack_n5v1_ok nodelaw17_EntryBack_n5v1_nat
abbrev Ilaw17_EntryBack_n5v2 := (List UInt8) × (Int) × (Int) × (Int) × (Int) × (Int) × (Int) × (Int) × (Int) × (Int) × (Int) × (Int) × (List Int)
abbrev Ylaw17_EntryBack_n5v2 := (Bool)
def Slaw17_EntryBack_n5v2 : Ilaw17_EntryBack_n5v2 → St := fun (t13, t16, o0_0, o0_1, o0_2, o0_3, o0_4, o0_5, o1_0, o1_1, o1_2, o1_3, o2) => { env := [(4, AV.ptr 0 0), (6, AV.ptr 1 0), (13, AV.str t13), (15, AV.own 2), (16, AV.int IntKind.i64 t16), (17, AV.int IntKind.i64 (2))], stk := [[]], H := [AE.Obj.cells [AV.int IntKind.i64 o0_0, AV.int IntKind.i64 o0_1, AV.int IntKind.i64 o0_2, AV.int IntKind.i64 o0_3, AV.int IntKind.i64 o0_4, AV.int IntKind.i64 o0_5], AE.Obj.cells [AV.int IntKind.u8 o1_0, AV.int IntKind.u8 o1_1, AV.int IntKind.u8 o1_2, AV.int IntKind.u8 o1_3], Obj.arr (Ty.int IntKind.u8) o2], blk := 20480 }
def declaw17_EntryBack_n5v2 (s : St) : Option Ilaw17_EntryBack_n5v2 := match s with
  | { env := [(4, AV.ptr 0 0), (6, AV.ptr 1 0), (13, AV.str t13), (15, AV.own 2), (16, AV.int IntKind.i64 t16), (17, AV.int IntKind.i64 r2)], stk := [[]], H := [AE.Obj.cells [AV.int IntKind.i64 o0_0, AV.int IntKind.i64 o0_1, AV.int IntKind.i64 o0_2, AV.int IntKind.i64 o0_3, AV.int IntKind.i64 o0_4, AV.int IntKind.i64 o0_5], AE.Obj.cells [AV.int IntKind.u8 o1_0, AV.int IntKind.u8 o1_1, AV.int IntKind.u8 o1_2, AV.int IntKind.u8 o1_3], Obj.arr (Ty.int IntKind.u8) o2], blk := 20480 } => cond (decide (r2 = 2)) (some (t13, t16, o0_0, o0_1, o0_2, o0_3, o0_4, o0_5, o1_0, o1_1, o1_2, o1_3, o2)) none
  | _ => none
theorem declaw17_EntryBack_n5v2_ok (s : St) (x : Ilaw17_EntryBack_n5v2) (h : declaw17_EntryBack_n5v2 s = some x) : s = Slaw17_EntryBack_n5v2 x := by
  unfold declaw17_EntryBack_n5v2 at h
  split at h
  · replace h := cond_noneO h; obtain ⟨hg, h⟩ := h; simp only [Bool.and_eq_true, decide_eq_true_eq] at hg; simp only [hg]; cases h; rfl
  · cases h
def outlaw17_EntryBack_n5v2 : Ilaw17_EntryBack_n5v2 → (Ex → St → Ans) → Ylaw17_EntryBack_n5v2 → Ans := fun (t13, t16, o0_0, o0_1, o0_2, o0_3, o0_4, o0_5, o1_0, o1_1, o1_2, o1_3, o2) K => fun t84_y => K (Ex.norm) { env := [(4, AV.ptr 0 0), (6, AV.ptr 1 0), (13, AV.str t13), (15, AV.own 2), (16, AV.int IntKind.i64 t16), (17, AV.int IntKind.i64 (2)), (84, AV.bool t84_y)], stk := [[]], H := [AE.Obj.cells [AV.int IntKind.i64 o0_0, AV.int IntKind.i64 o0_1, AV.int IntKind.i64 o0_2, AV.int IntKind.i64 o0_3, AV.int IntKind.i64 o0_4, AV.int IntKind.i64 o0_5], AE.Obj.cells [AV.int IntKind.u8 o1_0, AV.int IntKind.u8 o1_1, AV.int IntKind.u8 o1_2, AV.int IntKind.u8 o1_3], Obj.arr (Ty.int IntKind.u8) o2], blk := 20480 }
def nodelaw17_EntryBack_n5v2 {β : Type} : Ilaw17_EntryBack_n5v2 → (Ylaw17_EntryBack_n5v2 → Option β) → Option β := fun (t13, t16, o0_0, o0_1, o0_2, o0_3, o0_4, o0_5, o1_0, o1_1, o1_2, o1_3, o2) exit => (exit (decide (IntKind.wrap IntKind.i64 (t16 + (2 : Int)) < (↑(List.length o2) : Int))))
def nodeDlaw17_EntryBack_n5v2 (i : Ilaw17_EntryBack_n5v2) : Option Ylaw17_EntryBack_n5v2 := nodelaw17_EntryBack_n5v2 i some
theorem nodelaw17_EntryBack_n5v2_nat (i : Ilaw17_EntryBack_n5v2) (k : Ylaw17_EntryBack_n5v2 → Ans) : nodelaw17_EntryBack_n5v2 i k = bindO (nodeDlaw17_EntryBack_n5v2 i) k := by
  obtain ⟨t13, t16, o0_0, o0_1, o0_2, o0_3, o0_4, o0_5, o1_0, o1_1, o1_2, o1_3, o2⟩ := i
  simp only [nodeDlaw17_EntryBack_n5v2, nodelaw17_EntryBack_n5v2, bindO_cond, bindO_assoc, bindO_none, bindO_pure, bindO_elim, bindO_unP]
theorem nodelaw17_EntryBack_n5v2_ok (i : Ilaw17_EntryBack_n5v2) (K : Ex → St → Ans) : codeI Try.tab envlaw17_EntryBack noHint (codeD Try.tab envlaw17_EntryBack noHint 0 64) 70 129 annLlaw17_EntryBack_n5 Llaw17_EntryBack_n5 (weakP 0 (exk [4, 6, 13, 15, 16, 17, 84] [8] []) K) (Slaw17_EntryBack_n5v2 i) = nodelaw17_EntryBack_n5v2 i (outlaw17_EntryBack_n5v2 i K) := by kernel_rfl
theorem GNlaw17_EntryBack_n5v2_ok : CSum Try.prog 129 Llaw17_EntryBack_n5 (sumN declaw17_EntryBack_n5v2 nodeDlaw17_EntryBack_n5v2 outlaw17_EntryBack_n5v2) := csum_node mixed tabOk envlaw17_EntryBackOk 0 (exk [4, 6, 13, 15, 16, 17, 84] [8] []) annLlaw17_EntryBack_n5_ok declaw17_EntryBack_n5v2_ok nodelaw17_EntryBack_n5v2_ok nodelaw17_EntryBack_n5v2_nat
abbrev Ilaw17_EntryBack_n5v3 := (List UInt8) × (Int) × (Int) × (Int) × (Int) × (Int) × (Int) × (Int) × (Int) × (Int) × (Int) × (Int) × (List Int)
abbrev Ylaw17_EntryBack_n5v3 := (Bool)
def Slaw17_EntryBack_n5v3 : Ilaw17_EntryBack_n5v3 → St := fun (t13, t16, o0_0, o0_1, o0_2, o0_3, o0_4, o0_5, o1_0, o1_1, o1_2, o1_3, o2) => { env := [(4, AV.ptr 0 0), (6, AV.ptr 1 0), (13, AV.str t13), (15, AV.own 2), (16, AV.int IntKind.i64 t16), (17, AV.int IntKind.i64 (3))], stk := [[]], H := [AE.Obj.cells [AV.int IntKind.i64 o0_0, AV.int IntKind.i64 o0_1, AV.int IntKind.i64 o0_2, AV.int IntKind.i64 o0_3, AV.int IntKind.i64 o0_4, AV.int IntKind.i64 o0_5], AE.Obj.cells [AV.int IntKind.u8 o1_0, AV.int IntKind.u8 o1_1, AV.int IntKind.u8 o1_2, AV.int IntKind.u8 o1_3], Obj.arr (Ty.int IntKind.u8) o2], blk := 20480 }
def declaw17_EntryBack_n5v3 (s : St) : Option Ilaw17_EntryBack_n5v3 := match s with
  | { env := [(4, AV.ptr 0 0), (6, AV.ptr 1 0), (13, AV.str t13), (15, AV.own 2), (16, AV.int IntKind.i64 t16), (17, AV.int IntKind.i64 r2)], stk := [[]], H := [AE.Obj.cells [AV.int IntKind.i64 o0_0, AV.int IntKind.i64 o0_1, AV.int IntKind.i64 o0_2, AV.int IntKind.i64 o0_3, AV.int IntKind.i64 o0_4, AV.int IntKind.i64 o0_5], AE.Obj.cells [AV.int IntKind.u8 o1_0, AV.int IntKind.u8 o1_1, AV.int IntKind.u8 o1_2, AV.int IntKind.u8 o1_3], Obj.arr (Ty.int IntKind.u8) o2], blk := 20480 } => cond (decide (r2 = 3)) (some (t13, t16, o0_0, o0_1, o0_2, o0_3, o0_4, o0_5, o1_0, o1_1, o1_2, o1_3, o2)) none
  | _ => none
theorem declaw17_EntryBack_n5v3_ok (s : St) (x : Ilaw17_EntryBack_n5v3) (h : declaw17_EntryBack_n5v3 s = some x) : s = Slaw17_EntryBack_n5v3 x := by
  unfold declaw17_EntryBack_n5v3 at h
  split at h
  · replace h := cond_noneO h; obtain ⟨hg, h⟩ := h; simp only [Bool.and_eq_true, decide_eq_true_eq] at hg; simp only [hg]; cases h; rfl
  · cases h
def outlaw17_EntryBack_n5v3 : Ilaw17_EntryBack_n5v3 → (Ex → St → Ans) → Ylaw17_EntryBack_n5v3 → Ans := fun (t13, t16, o0_0, o0_1, o0_2, o0_3, o0_4, o0_5, o1_0, o1_1, o1_2, o1_3, o2) K => fun t84_y => K (Ex.norm) { env := [(4, AV.ptr 0 0), (6, AV.ptr 1 0), (13, AV.str t13), (15, AV.own 2), (16, AV.int IntKind.i64 t16), (17, AV.int IntKind.i64 (3)), (84, AV.bool t84_y)], stk := [[]], H := [AE.Obj.cells [AV.int IntKind.i64 o0_0, AV.int IntKind.i64 o0_1, AV.int IntKind.i64 o0_2, AV.int IntKind.i64 o0_3, AV.int IntKind.i64 o0_4, AV.int IntKind.i64 o0_5], AE.Obj.cells [AV.int IntKind.u8 o1_0, AV.int IntKind.u8 o1_1, AV.int IntKind.u8 o1_2, AV.int IntKind.u8 o1_3], Obj.arr (Ty.int IntKind.u8) o2], blk := 20480 }
def nodelaw17_EntryBack_n5v3 {β : Type} : Ilaw17_EntryBack_n5v3 → (Ylaw17_EntryBack_n5v3 → Option β) → Option β := fun (t13, t16, o0_0, o0_1, o0_2, o0_3, o0_4, o0_5, o1_0, o1_1, o1_2, o1_3, o2) exit => (exit (decide (IntKind.wrap IntKind.i64 (t16 + (3 : Int)) < (↑(List.length o2) : Int))))
def nodeDlaw17_EntryBack_n5v3 (i : Ilaw17_EntryBack_n5v3) : Option Ylaw17_EntryBack_n5v3 := nodelaw17_EntryBack_n5v3 i some
theorem nodelaw17_EntryBack_n5v3_nat (i : Ilaw17_EntryBack_n5v3) (k : Ylaw17_EntryBack_n5v3 → Ans) : nodelaw17_EntryBack_n5v3 i k = bindO (nodeDlaw17_EntryBack_n5v3 i) k := by
  obtain ⟨t13, t16, o0_0, o0_1, o0_2, o0_3, o0_4, o0_5, o1_0, o1_1, o1_2, o1_3, o2⟩ := i
  simp only [nodeDlaw17_EntryBack_n5v3, nodelaw17_EntryBack_n5v3, bindO_cond, bindO_assoc, bindO_none, bindO_pure, bindO_elim, bindO_unP]
theorem nodelaw17_EntryBack_n5v3_ok (i : Ilaw17_EntryBack_n5v3) (K : Ex → St → Ans) : codeI Try.tab envlaw17_EntryBack noHint (codeD Try.tab envlaw17_EntryBack noHint 0 64) 70 129 annLlaw17_EntryBack_n5 Llaw17_EntryBack_n5 (weakP 0 (exk [4, 6, 13, 15, 16, 17, 84] [8] []) K) (Slaw17_EntryBack_n5v3 i) = nodelaw17_EntryBack_n5v3 i (outlaw17_EntryBack_n5v3 i K) := by kernel_rfl
theorem GNlaw17_EntryBack_n5v3_ok : CSum Try.prog 129 Llaw17_EntryBack_n5 (sumN declaw17_EntryBack_n5v3 nodeDlaw17_EntryBack_n5v3 outlaw17_EntryBack_n5v3) := csum_node mixed tabOk envlaw17_EntryBackOk 0 (exk [4, 6, 13, 15, 16, 17, 84] [8] []) annLlaw17_EntryBack_n5_ok declaw17_EntryBack_n5v3_ok nodelaw17_EntryBack_n5v3_ok nodelaw17_EntryBack_n5v3_nat
abbrev Ilaw17_EntryBack_n5v4 := (List UInt8) × (Int) × (Int) × (Int) × (Int) × (Int) × (Int) × (Int) × (Int) × (Int) × (Int) × (Int) × (List Int)
abbrev Ylaw17_EntryBack_n5v4 := Unit
def Slaw17_EntryBack_n5v4 : Ilaw17_EntryBack_n5v4 → St := fun (t13, t16, o0_0, o0_1, o0_2, o0_3, o0_4, o0_5, o1_0, o1_1, o1_2, o1_3, o2) => { env := [(4, AV.ptr 0 0), (6, AV.ptr 1 0), (13, AV.str t13), (15, AV.own 2), (16, AV.int IntKind.i64 t16), (17, AV.int IntKind.i64 (4))], stk := [[]], H := [AE.Obj.cells [AV.int IntKind.i64 o0_0, AV.int IntKind.i64 o0_1, AV.int IntKind.i64 o0_2, AV.int IntKind.i64 o0_3, AV.int IntKind.i64 o0_4, AV.int IntKind.i64 o0_5], AE.Obj.cells [AV.int IntKind.u8 o1_0, AV.int IntKind.u8 o1_1, AV.int IntKind.u8 o1_2, AV.int IntKind.u8 o1_3], Obj.arr (Ty.int IntKind.u8) o2], blk := 20480 }
def declaw17_EntryBack_n5v4 (s : St) : Option Ilaw17_EntryBack_n5v4 := match s with
  | { env := [(4, AV.ptr 0 0), (6, AV.ptr 1 0), (13, AV.str t13), (15, AV.own 2), (16, AV.int IntKind.i64 t16), (17, AV.int IntKind.i64 r2)], stk := [[]], H := [AE.Obj.cells [AV.int IntKind.i64 o0_0, AV.int IntKind.i64 o0_1, AV.int IntKind.i64 o0_2, AV.int IntKind.i64 o0_3, AV.int IntKind.i64 o0_4, AV.int IntKind.i64 o0_5], AE.Obj.cells [AV.int IntKind.u8 o1_0, AV.int IntKind.u8 o1_1, AV.int IntKind.u8 o1_2, AV.int IntKind.u8 o1_3], Obj.arr (Ty.int IntKind.u8) o2], blk := 20480 } => cond (decide (r2 = 4)) (some (t13, t16, o0_0, o0_1, o0_2, o0_3, o0_4, o0_5, o1_0, o1_1, o1_2, o1_3, o2)) none
  | _ => none
theorem declaw17_EntryBack_n5v4_ok (s : St) (x : Ilaw17_EntryBack_n5v4) (h : declaw17_EntryBack_n5v4 s = some x) : s = Slaw17_EntryBack_n5v4 x := by
  unfold declaw17_EntryBack_n5v4 at h
  split at h
  · replace h := cond_noneO h; obtain ⟨hg, h⟩ := h; simp only [Bool.and_eq_true, decide_eq_true_eq] at hg; simp only [hg]; cases h; rfl
  · cases h
def outlaw17_EntryBack_n5v4 : Ilaw17_EntryBack_n5v4 → (Ex → St → Ans) → Ylaw17_EntryBack_n5v4 → Ans := fun (t13, t16, o0_0, o0_1, o0_2, o0_3, o0_4, o0_5, o1_0, o1_1, o1_2, o1_3, o2) K => fun _ => K (Ex.norm) { env := [(4, AV.ptr 0 0), (6, AV.ptr 1 0), (13, AV.str t13), (15, AV.own 2), (16, AV.int IntKind.i64 t16), (17, AV.int IntKind.i64 (4)), (84, AV.bool (false))], stk := [[]], H := [AE.Obj.cells [AV.int IntKind.i64 o0_0, AV.int IntKind.i64 o0_1, AV.int IntKind.i64 o0_2, AV.int IntKind.i64 o0_3, AV.int IntKind.i64 o0_4, AV.int IntKind.i64 o0_5], AE.Obj.cells [AV.int IntKind.u8 o1_0, AV.int IntKind.u8 o1_1, AV.int IntKind.u8 o1_2, AV.int IntKind.u8 o1_3], Obj.arr (Ty.int IntKind.u8) o2], blk := 20480 }
def nodelaw17_EntryBack_n5v4 {β : Type} : Ilaw17_EntryBack_n5v4 → (Ylaw17_EntryBack_n5v4 → Option β) → Option β := fun (t13, t16, o0_0, o0_1, o0_2, o0_3, o0_4, o0_5, o1_0, o1_1, o1_2, o1_3, o2) exit => (exit ())
def nodeDlaw17_EntryBack_n5v4 (i : Ilaw17_EntryBack_n5v4) : Option Ylaw17_EntryBack_n5v4 := nodelaw17_EntryBack_n5v4 i some
theorem nodelaw17_EntryBack_n5v4_nat (i : Ilaw17_EntryBack_n5v4) (k : Ylaw17_EntryBack_n5v4 → Ans) : nodelaw17_EntryBack_n5v4 i k = bindO (nodeDlaw17_EntryBack_n5v4 i) k := by
  obtain ⟨t13, t16, o0_0, o0_1, o0_2, o0_3, o0_4, o0_5, o1_0, o1_1, o1_2, o1_3, o2⟩ := i
  simp only [nodeDlaw17_EntryBack_n5v4, nodelaw17_EntryBack_n5v4, bindO_cond, bindO_assoc, bindO_none, bindO_pure, bindO_elim, bindO_unP]
theorem nodelaw17_EntryBack_n5v4_ok (i : Ilaw17_EntryBack_n5v4) (K : Ex → St → Ans) : codeI Try.tab envlaw17_EntryBack noHint (codeD Try.tab envlaw17_EntryBack noHint 0 64) 70 129 annLlaw17_EntryBack_n5 Llaw17_EntryBack_n5 (weakP 0 (exk [4, 6, 13, 15, 16, 17, 84] [8] []) K) (Slaw17_EntryBack_n5v4 i) = nodelaw17_EntryBack_n5v4 i (outlaw17_EntryBack_n5v4 i K) := by kernel_rfl
theorem GNlaw17_EntryBack_n5v4_ok : CSum Try.prog 129 Llaw17_EntryBack_n5 (sumN declaw17_EntryBack_n5v4 nodeDlaw17_EntryBack_n5v4 outlaw17_EntryBack_n5v4) := csum_node mixed tabOk envlaw17_EntryBackOk 0 (exk [4, 6, 13, 15, 16, 17, 84] [8] []) annLlaw17_EntryBack_n5_ok declaw17_EntryBack_n5v4_ok nodelaw17_EntryBack_n5v4_ok nodelaw17_EntryBack_n5v4_nat
noncomputable def Glaw17_EntryBack_n5 : (Ex → St → Ans) → St → Ans := (altN declaw17_EntryBack_n5 (sumN declaw17_EntryBack_n5 nodeDlaw17_EntryBack_n5 outlaw17_EntryBack_n5) (altN declaw17_EntryBack_n5v1 (sumN declaw17_EntryBack_n5v1 nodeDlaw17_EntryBack_n5v1 outlaw17_EntryBack_n5v1) (altN declaw17_EntryBack_n5v2 (sumN declaw17_EntryBack_n5v2 nodeDlaw17_EntryBack_n5v2 outlaw17_EntryBack_n5v2) (altN declaw17_EntryBack_n5v3 (sumN declaw17_EntryBack_n5v3 nodeDlaw17_EntryBack_n5v3 outlaw17_EntryBack_n5v3) (sumN declaw17_EntryBack_n5v4 nodeDlaw17_EntryBack_n5v4 outlaw17_EntryBack_n5v4)))))
theorem Glaw17_EntryBack_n5_ok : CSum Try.prog 129 Llaw17_EntryBack_n5 Glaw17_EntryBack_n5 := (csum_altN GNlaw17_EntryBack_n5_ok (csum_altN GNlaw17_EntryBack_n5v1_ok (csum_altN GNlaw17_EntryBack_n5v2_ok (csum_altN GNlaw17_EntryBack_n5v3_ok GNlaw17_EntryBack_n5v4_ok))))
noncomputable def Llaw17_EntryBack_n4 : Code := codeAt [1, 1, 1, 1, 1, 1, 1, 1, 1, 1, 0, 1, 0, 0] blaw17_EntryBack
noncomputable def annLlaw17_EntryBack_n4 : Ann := (.seq (.seq (.cut 0 [4, 6, 13, 15, 16, 17] Glaw17_EntryBack_n5) .none) .none)
theorem annLlaw17_EntryBack_n4_ok : AnnOk Try.prog 129 Llaw17_EntryBack_n4 annLlaw17_EntryBack_n4 := ⟨⟨Glaw17_EntryBack_n5_ok, (annOk_none _ _ _)⟩, (annOk_none _ _ _)⟩
abbrev Ilaw17_EntryBack_n4 := (List UInt8) × (Int) × (Int) × (Int) × (Int) × (Int) × (Int) × (Int) × (Int) × (Int) × (Int) × (Int) × (List Int)
abbrev Ylaw17_EntryBack_n4 := ((List Int)) ⊕ (Unit)
def Slaw17_EntryBack_n4 : Ilaw17_EntryBack_n4 → St := fun (t13, t16, o0_0, o0_1, o0_2, o0_3, o0_4, o0_5, o1_0, o1_1, o1_2, o1_3, o2) => { env := [(4, AV.ptr 0 0), (6, AV.ptr 1 0), (13, AV.str t13), (15, AV.own 2), (16, AV.int IntKind.i64 t16), (17, AV.int IntKind.i64 (0))], stk := [[]], H := [AE.Obj.cells [AV.int IntKind.i64 o0_0, AV.int IntKind.i64 o0_1, AV.int IntKind.i64 o0_2, AV.int IntKind.i64 o0_3, AV.int IntKind.i64 o0_4, AV.int IntKind.i64 o0_5], AE.Obj.cells [AV.int IntKind.u8 o1_0, AV.int IntKind.u8 o1_1, AV.int IntKind.u8 o1_2, AV.int IntKind.u8 o1_3], Obj.arr (Ty.int IntKind.u8) o2], blk := 20480 }
def declaw17_EntryBack_n4 (s : St) : Option Ilaw17_EntryBack_n4 := match s with
  | { env := [(4, AV.ptr 0 0), (6, AV.ptr 1 0), (13, AV.str t13), (15, AV.own 2), (16, AV.int IntKind.i64 t16), (17, AV.int IntKind.i64 r2)], stk := [[]], H := [AE.Obj.cells [AV.int IntKind.i64 o0_0, AV.int IntKind.i64 o0_1, AV.int IntKind.i64 o0_2, AV.int IntKind.i64 o0_3, AV.int IntKind.i64 o0_4, AV.int IntKind.i64 o0_5], AE.Obj.cells [AV.int IntKind.u8 o1_0, AV.int IntKind.u8 o1_1, AV.int IntKind.u8 o1_2, AV.int IntKind.u8 o1_3], Obj.arr (Ty.int IntKind.u8) o2], blk := 20480 } => cond (decide (r2 = 0)) (some (t13, t16, o0_0, o0_1, o0_2, o0_3, o0_4, o0_5, o1_0, o1_1, o1_2, o1_3, o2)) none
  | _ => none
theorem declaw17_EntryBack_n4_ok (s : St) (x : Ilaw17_EntryBack_n4) (h : declaw17_EntryBack_n4 s = some x) : s = Slaw17_EntryBack_n4 x := by
  unfold declaw17_EntryBack_n4 at h
  split at h
  · replace h := cond_noneO h; obtain ⟨hg, h⟩ := h; simp only [Bool.and_eq_true, decide_eq_true_eq] at hg; simp only [hg]; cases h; rfl
  · cases h
def outlaw17_EntryBack_n4 : Ilaw17_EntryBack_n4 → (Ex → St → Ans) → Ylaw17_EntryBack_n4 → Ans := fun (t13, t16, o0_0, o0_1, o0_2, o0_3, o0_4, o0_5, o1_0, o1_1, o1_2, o1_3, o2) K => (Sum.elim (fun o2_y => K (Ex.norm) { env := [(4, AV.ptr 0 0), (6, AV.ptr 1 0), (13, AV.str t13), (15, AV.own 2), (16, AV.int IntKind.i64 t16), (17, AV.int IntKind.i64 (1))], stk := [[]], H := [AE.Obj.cells [AV.int IntKind.i64 o0_0, AV.int IntKind.i64 o0_1, AV.int IntKind.i64 o0_2, AV.int IntKind.i64 o0_3, AV.int IntKind.i64 o0_4, AV.int IntKind.i64 o0_5], AE.Obj.cells [AV.int IntKind.u8 o1_0, AV.int IntKind.u8 o1_1, AV.int IntKind.u8 o1_2, AV.int IntKind.u8 o1_3], Obj.arr (Ty.int IntKind.u8) o2_y], blk := 20481 }) (fun _ => K (Ex.exit 0) { env := [(4, AV.ptr 0 0), (13, AV.str t13), (15, AV.own 1)], stk := [[]], H := [AE.Obj.cells [AV.int IntKind.i64 o0_0, AV.int IntKind.i64 o0_1, AV.int IntKind.i64 o0_2, AV.int IntKind.i64 o0_3, AV.int IntKind.i64 o0_4, AV.int IntKind.i64 o0_5], Obj.arr (Ty.int IntKind.u8) o2], blk := 20480 }))
def nodelaw17_EntryBack_n4 {β : Type} : Ilaw17_EntryBack_n4 → (Ylaw17_EntryBack_n4 → Option β) → Option β := fun (t13, t16, o0_0, o0_1, o0_2, o0_3, o0_4, o0_5, o1_0, o1_1, o1_2, o1_3, o2) exit => (bindO (nodeDlaw17_EntryBack_n5 (t13, t16, o0_0, o0_1, o0_2, o0_3, o0_4, o0_5, o1_0, o1_1, o1_2, o1_3, o2)) fun t84 => (bif t84 then (bif inR (IntKind.wrap IntKind.i64 (t16 + (0 : Int))) (List.length o2) then (bindO (o2[Int.toNat (IntKind.wrap IntKind.i64 (t16 + (0 : Int)))]?) fun x => (bif inR (IntKind.wrap IntKind.i64 (t16 + (0 : Int))) (List.length o2) then (bindO (o2[Int.toNat (IntKind.wrap IntKind.i64 (t16 + (0 : Int)))]?) fun x_2 => (exit (Sum.inl (List.set o2 (Int.toNat (IntKind.wrap IntKind.i64 (t16 + (0 : Int)))) (IntKind.wrap IntKind.u8 (↑(Int.toNat (x % (256 : Int)) ^^^ Int.toNat (o1_0 % (256 : Int))) : Int)))))) else none)) else none) else (exit (Sum.inr ()))))
def nodeDlaw17_EntryBack_n4 (i : Ilaw17_EntryBack_n4) : Option Ylaw17_EntryBack_n4 := nodelaw17_EntryBack_n4 i some
theorem nodelaw17_EntryBack_n4_nat (i : Ilaw17_EntryBack_n4) (k : Ylaw17_EntryBack_n4 → Ans) : nodelaw17_EntryBack_n4 i k = bindO (nodeDlaw17_EntryBack_n4 i) k := by
  obtain ⟨t13, t16, o0_0, o0_1, o0_2, o0_3, o0_4, o0_5, o1_0, o1_1, o1_2, o1_3, o2⟩ := i
  simp only [nodeDlaw17_EntryBack_n4, nodelaw17_EntryBack_n4, bindO_cond, bindO_assoc, bindO_none, bindO_pure, bindO_elim, bindO_unP]
theorem nodelaw17_EntryBack_n4_ok (i : Ilaw17_EntryBack_n4) (K : Ex → St → Ans) : codeI Try.tab envlaw17_EntryBack noHint (codeD Try.tab envlaw17_EntryBack noHint 0 64) 70 129 annLlaw17_EntryBack_n4 Llaw17_EntryBack_n4 (weakP 0 (exk [4, 6, 13, 15, 16, 17] [8] [(0, [4, 13, 15])]) K) (Slaw17_EntryBack_n4 i) = nodelaw17_EntryBack_n4 i (outlaw17_EntryBack_n4 i K) := by kernel_rfl
theorem GNlaw17_EntryBack_n4_ok : CSum Try.prog 129 Llaw17_EntryBack_n4 (sumN declaw17_EntryBack_n4 nodeDlaw17_EntryBack_n4 outlaw17_EntryBack_n4) := csum_node mixed tabOk envlaw17_EntryBackOk 0 (exk [4, 6, 13, 15, 16, 17] [8] [(0, [4, 13, 15])]) annLlaw17_EntryBack_n4_ok declaw17_EntryBack_n4_ok nodelaw17_EntryBack_n4_ok nodelaw17_EntryBack_n4_nat
abbrev Ilaw17_EntryBack_n4v1 := (List UInt8) × (Int) × (Int) × (Int) × (Int) × (Int) × (Int) × (Int) × (Int) × (Int) × (Int) × (Int) × (List Int)
abbrev Ylaw17_EntryBack_n4v1 := ((List Int)) ⊕ (Unit)
def Slaw17_EntryBack_n4v1 : Ilaw17_EntryBack_n4v1 → St := fun (t13, t16, o0_0, o0_1, o0_2, o0_3, o0_4, o0_5, o1_0, o1_1, o1_2, o1_3, o2) => { env := [(4, AV.ptr 0 0), (6, AV.ptr 1 0), (13, AV.str t13), (15, AV.own 2), (16, AV.int IntKind.i64 t16), (17, AV.int IntKind.i64 (1))], stk := [[]], H := [AE.Obj.cells [AV.int IntKind.i64 o0_0, AV.int IntKind.i64 o0_1, AV.int IntKind.i64 o0_2, AV.int IntKind.i64 o0_3, AV.int IntKind.i64 o0_4, AV.int IntKind.i64 o0_5], AE.Obj.cells [AV.int IntKind.u8 o1_0, AV.int IntKind.u8 o1_1, AV.int IntKind.u8 o1_2, AV.int IntKind.u8 o1_3], Obj.arr (Ty.int IntKind.u8) o2], blk := 20480 }
def declaw17_EntryBack_n4v1 (s : St) : Option Ilaw17_EntryBack_n4v1 := match s with
  | { env := [(4, AV.ptr 0 0), (6, AV.ptr 1 0), (13, AV.str t13), (15, AV.own 2), (16, AV.int IntKind.i64 t16), (17, AV.int IntKind.i64 r2)], stk := [[]], H := [AE.Obj.cells [AV.int IntKind.i64 o0_0, AV.int IntKind.i64 o0_1, AV.int IntKind.i64 o0_2, AV.int IntKind.i64 o0_3, AV.int IntKind.i64 o0_4, AV.int IntKind.i64 o0_5], AE.Obj.cells [AV.int IntKind.u8 o1_0, AV.int IntKind.u8 o1_1, AV.int IntKind.u8 o1_2, AV.int IntKind.u8 o1_3], Obj.arr (Ty.int IntKind.u8) o2], blk := 20480 } => cond (decide (r2 = 1)) (some (t13, t16, o0_0, o0_1, o0_2, o0_3, o0_4, o0_5, o1_0, o1_1, o1_2, o1_3, o2)) none
  | _ => none
theorem declaw17_EntryBack_n4v1_ok (s : St) (x : Ilaw17_EntryBack_n4v1) (h : declaw17_EntryBack_n4v1 s = some x) : s = Slaw17_EntryBack_n4v1 x := by
  unfold declaw17_EntryBack_n4v1 at h
  split at h
  · replace h := cond_noneO h; obtain ⟨hg, h⟩ := h; simp only [Bool.and_eq_true, decide_eq_true_eq] at hg; simp only [hg]; cases h; rfl
  · cases h
def outlaw17_EntryBack_n4v1 : Ilaw17_EntryBack_n4v1 → (Ex → St → Ans) → Ylaw17_EntryBack_n4v1 → Ans := fun (t13, t16, o0_0, o0_1, o0_2, o0_3, o0_4, o0_5, o1_0, o1_1, o1_2, o1_3, o2) K => (Sum.elim (fun o2_y => K (Ex.norm) { env := [(4, AV.ptr 0 0), (6, AV.ptr 1 0), (13, AV.str t13), (15, AV.own 2), (16, AV.int IntKind.i64 t16), (17, AV.int IntKind.i64 (2))], stk := [[]], H := [AE.Obj.cells [AV.int IntKind.i64 o0_0, AV.int IntKind.i64 o0_1, AV.int IntKind.i64 o0_2, AV.int IntKind.i64 o0_3, AV.int IntKind.i64 o0_4, AV.int IntKind.i64 o0_5], AE.Obj.cells [AV.int IntKind.u8 o1_0, AV.int IntKind.u8 o1_1, AV.int IntKind.u8 o1_2, AV.int IntKind.u8 o1_3], Obj.arr (Ty.int IntKind.u8) o2_y], blk := 20481 }) (fun _ => K (Ex.exit 0) { env := [(4, AV.ptr 0 0), (13, AV.str t13), (15, AV.own 1)], stk := [[]], H := [AE.Obj.cells [AV.int IntKind.i64 o0_0, AV.int IntKind.i64 o0_1, AV.int IntKind.i64 o0_2, AV.int IntKind.i64 o0_3, AV.int IntKind.i64 o0_4, AV.int IntKind.i64 o0_5], Obj.arr (Ty.int IntKind.u8) o2], blk := 20480 }))
def nodelaw17_EntryBack_n4v1 {β : Type} : Ilaw17_EntryBack_n4v1 → (Ylaw17_EntryBack_n4v1 → Option β) → Option β := fun (t13, t16, o0_0, o0_1, o0_2, o0_3, o0_4, o0_5, o1_0, o1_1, o1_2, o1_3, o2) exit => (bindO (nodeDlaw17_EntryBack_n5v1 (t13, t16, o0_0, o0_1, o0_2, o0_3, o0_4, o0_5, o1_0, o1_1, o1_2, o1_3, o2)) fun t84 => (bif t84 then (bif inR (IntKind.wrap IntKind.i64 (t16 + (1 : Int))) (List.length o2) then (bindO (o2[Int.toNat (IntKind.wrap IntKind.i64 (t16 + (1 : Int)))]?) fun x => (bif inR (IntKind.wrap IntKind.i64 (t16 + (1 : Int))) (List.length o2) then (bindO (o2[Int.toNat (IntKind.wrap IntKind.i64 (t16 + (1 : Int)))]?) fun x_2 => (exit (Sum.inl (List.set o2 (Int.toNat (IntKind.wrap IntKind.i64 (t16 + (1 : Int)))) (IntKind.wrap IntKind.u8 (↑(Int.toNat (x % (256 : Int)) ^^^ Int.toNat (o1_1 % (256 : Int))) : Int)))))) else none)) else none) else (exit (Sum.inr ()))))
def nodeDlaw17_EntryBack_n4v1 (i : Ilaw17_EntryBack_n4v1) : Option Ylaw17_EntryBack_n4v1 := nodelaw17_EntryBack_n4v1 i some
theorem nodelaw17_EntryBack_n4v1_nat (i : Ilaw17_EntryBack_n4v1) (k : Ylaw17_EntryBack_n4v1 → Ans) : nodelaw17_EntryBack_n4v1 i k = bindO (nodeDlaw17_EntryBack_n4v1 i) k := by
  obtain ⟨t13, t16, o0_0, o0_1, o0_2, o0_3, o0_4, o0_5, o1_0, o1_1, o1_2, o1_3, o2⟩ := i
  simp only [nodeDlaw17_EntryBack_n4v1, nodelaw17_EntryBack_n4v1, bindO_cond, bindO_assoc, bindO_none, bindO_pure, bindO_elim, bindO_unP]
theorem nodelaw17_EntryBack_n4v1_ok (i : Ilaw17_EntryBack_n4v1) (K : Ex → St → Ans) : codeI Try.tab envlaw17_EntryBack noHint (codeD Try.tab envlaw17_EntryBack noHint 0 64) 70 129 annLlaw17_EntryBack_n4 Llaw17_EntryBack_n4 (weakP 0 (exk [4, 6, 13, 15, 16, 17] [8] [(0, [4, 13, 15])]) K) (Slaw17_EntryBack_n4v1 i) = nodelaw17_EntryBack_n4v1 i (outlaw17_EntryBack_n4v1 i K) := by kernel_rfl
theorem GNlaw17_EntryBack_n4v1_ok : CSum Try.prog 129 Llaw17_EntryBack_n4 (sumN declaw17_EntryBack_n4v1 nodeDlaw17_EntryBack_n4v1 outlaw17_EntryBack_n4v1) := csum_node mixed tabOk envlaw17_EntryBackOk 0 (exk [4, 6, 13, 15, 16, 17] [8] [(0, [4, 13, 15])]) annLlaw17_EntryBack_n4_ok declaw17_EntryBack_n4v1_ok nodelaw17_EntryBack_n4v1_ok nodelaw17_EntryBack_n4v1_nat
abbrev Ilaw17_EntryBack_n4v2 := (List UInt8) × (Int) × (Int) × (Int) × (Int) × (Int) × (Int) × (Int) × (Int) × (Int) × (Int) × (Int) × (List Int)
abbrev Ylaw17_EntryBack_n4v2 := ((List Int)) ⊕ (Unit)
def Slaw17_EntryBack_n4v2 : Ilaw17_EntryBack_n4v2 → St := fun (t13, t16, o0_0, o0_1, o0_2, o0_3, o0_4, o0_5, o1_0, o1_1, o1_2, o1_3, o2) => { env := [(4, AV.ptr 0 0), (6, AV.ptr 1 0), (13, AV.str t13), (15, AV.own 2), (16, AV.int IntKind.i64 t16), (17, AV.int IntKind.i64 (2))], stk := [[]], H := [AE.Obj.cells [AV.int IntKind.i64 o0_0, AV.int IntKind.i64 o0_1, AV.int IntKind.i64 o0_2, AV.int IntKind.i64 o0_3, AV.int IntKind.i64 o0_4, AV.int IntKind.i64 o0_5], AE.Obj.cells [AV.int IntKind.u8 o1_0, AV.int IntKind.u8 o1_1, AV.int IntKind.u8 o1_2, AV.int IntKind.u8 o1_3], Obj.arr (Ty.int IntKind.u8) o2], blk := 20480 }
def declaw17_EntryBack_n4v2 (s : St) : Option Ilaw17_EntryBack_n4v2 := match s with
  | { env := [(4, AV.ptr 0 0), (6, AV.ptr 1 0), (13, AV.str t13), (15, AV.own 2), (16, AV.int IntKind.i64 t16), (17, AV.int IntKind.i64 r2)], stk := [[]], H := [AE.Obj.cells [AV.int IntKind.i64 o0_0, AV.int IntKind.i64 o0_1, AV.int IntKind.i64 o0_2, AV.int IntKind.i64 o0_3, AV.int IntKind.i64 o0_4, AV.int IntKind.i64 o0_5], AE.Obj.cells [AV.int IntKind.u8 o1_0, AV.int IntKind.u8 o1_1, AV.int IntKind.u8 o1_2, AV.int IntKind.u8 o1_3], Obj.arr (Ty.int IntKind.u8) o2], blk := 20480 } => cond (decide (r2 = 2)) (some (t13, t16, o0_0, o0_1, o0_2, o0_3, o0_4, o0_5, o1_0, o1_1, o1_2, o1_3, o2)) none
  | _ => none
theorem declaw17_EntryBack_n4v2_ok (s : St) (x : Ilaw17_EntryBack_n4v2) (h : declaw17_EntryBack_n4v2 s = some x) : s = Slaw17_EntryBack_n4v2 x := by
  unfold declaw17_EntryBack_n4v2 at h
  split at h
  · replace h := cond_noneO h; obtain ⟨hg, h⟩ := h; simp only [Bool.and_eq_true, decide_eq_true_eq] at hg; simp only [hg]; cases h; rfl
  · cases h
def outlaw17_EntryBack_n4v2 : Ilaw17_EntryBack_n4v2 → (Ex → St → Ans) → Ylaw17_EntryBack_n4v2 → Ans := fun (t13, t16, o0_0, o0_1, o0_2, o0_3, o0_4, o0_5, o1_0, o1_1, o1_2, o1_3, o2) K => (Sum.elim (fun o2_y => K (Ex.norm) { env := [(4, AV.ptr 0 0), (6, AV.ptr 1 0), (13, AV.str t13), (15, AV.own 2), (16, AV.int IntKind.i64 t16), (17, AV.int IntKind.i64 (3))], stk := [[]], H := [AE.Obj.cells [AV.int IntKind.i64 o0_0, AV.int IntKind.i64 o0_1, AV.int IntKind.i64 o0_2, AV.int IntKind.i64 o0_3, AV.int IntKind.i64 o0_4, AV.int IntKind.i64 o0_5], AE.Obj.cells [AV.int IntKind.u8 o1_0, AV.int IntKind.u8 o1_1, AV.int IntKind.u8 o1_2, AV.int IntKind.u8 o1_3], Obj.arr (Ty.int IntKind.u8) o2_y], blk := 20481 }) (fun _ => K (Ex.exit 0) { env := [(4, AV.ptr 0 0), (13, AV.str t13), (15, AV.own 1)], stk := [[]], H := [AE.Obj.cells [AV.int IntKind.i64 o0_0, AV.int IntKind.i64 o0_1, AV.int IntKind.i64 o0_2, AV.int IntKind.i64 o0_3, AV.int IntKind.i64 o0_4, AV.int IntKind.i64 o0_5], Obj.arr (Ty.int IntKind.u8) o2], blk := 20480 }))
def nodelaw17_EntryBack_n4v2 {β : Type} : Ilaw17_EntryBack_n4v2 → (Ylaw17_EntryBack_n4v2 → Option β) → Option β := fun (t13, t16, o0_0, o0_1, o0_2, o0_3, o0_4, o0_5, o1_0, o1_1, o1_2, o1_3, o2) exit => (bindO (nodeDlaw17_EntryBack_n5v2 (t13, t16, o0_0, o0_1, o0_2, o0_3, o0_4, o0_5, o1_0, o1_1, o1_2, o1_3, o2)) fun t84 => (bif t84 then (bif inR (IntKind.wrap IntKind.i64 (t16 + (2 : Int))) (List.length o2) then (bindO (o2[Int.toNat (IntKind.wrap IntKind.i64 (t16 + (2 : Int)))]?) fun x => (bif inR (IntKind.wrap IntKind.i64 (t16 + (2 : Int))) (List.length o2) then (bindO (o2[Int.toNat (IntKind.wrap IntKind.i64 (t16 + (2 : Int)))]?) fun x_2 => (exit (Sum.inl (List.set o2 (Int.toNat (IntKind.wrap IntKind.i64 (t16 + (2 : Int)))) (IntKind.wrap IntKind.u8 (↑(Int.toNat (x % (256 : Int)) ^^^ Int.toNat (o1_2 % (256 : Int))) : Int)))))) else none)) else none) else (exit (Sum.inr ()))))
def nodeDlaw17_EntryBack_n4v2 (i : Ilaw17_EntryBack_n4v2) : Option Ylaw17_EntryBack_n4v2 := nodelaw17_EntryBack_n4v2 i some
theorem nodelaw17_EntryBack_n4v2_nat (i : Ilaw17_EntryBack_n4v2) (k : Ylaw17_EntryBack_n4v2 → Ans) : nodelaw17_EntryBack_n4v2 i k = bindO (nodeDlaw17_EntryBack_n4v2 i) k := by
  obtain ⟨t13, t16, o0_0, o0_1, o0_2, o0_3, o0_4, o0_5, o1_0, o1_1, o1_2, o1_3, o2⟩ := i
  simp only [nodeDlaw17_EntryBack_n4v2, nodelaw17_EntryBack_n4v2, bindO_cond, bindO_assoc, bindO_none, bindO_pure, bindO_elim, bindO_unP]
theorem nodelaw17_EntryBack_n4v2_ok (i : Ilaw17_EntryBack_n4v2) (K : Ex → St → Ans) : codeI Try.tab envlaw17_EntryBack noHint (codeD Try.tab envlaw17_EntryBack noHint 0 64) 70 129 annLlaw17_EntryBack_n4 Llaw17_EntryBack_n4 (weakP 0 (exk [4, 6, 13, 15, 16, 17] [8] [(0, [4, 13, 15])]) K) (Slaw17_EntryBack_n4v2 i) = nodelaw17_EntryBack_n4v2 i (outlaw17_EntryBack_n4v2 i K) := by kernel_rfl
theorem GNlaw17_EntryBack_n4v2_ok : CSum Try.prog 129 Llaw17_EntryBack_n4 (sumN declaw17_EntryBack_n4v2 nodeDlaw17_EntryBack_n4v2 outlaw17_EntryBack_n4v2) := csum_node mixed tabOk envlaw17_EntryBackOk 0 (exk [4, 6, 13, 15, 16, 17] [8] [(0, [4, 13, 15])]) annLlaw17_EntryBack_n4_ok declaw17_EntryBack_n4v2_ok nodelaw17_EntryBack_n4v2_ok nodelaw17_EntryBack_n4v2_nat
abbrev Ilaw17_EntryBack_n4v3 := (List UInt8) × (Int) × (Int) × (Int) × (Int) × (Int) × (Int) × (Int) × (Int) × (Int) × (Int) × (Int) × (List Int)
abbrev Ylaw17_EntryBack_n4v3 := ((List Int)) ⊕ (Unit)
def Slaw17_EntryBack_n4v3 : Ilaw17_EntryBack_n4v3 → St := fun (t13, t16, o0_0, o0_1, o0_2, o0_3, o0_4, o0_5, o1_0, o1_1, o1_2, o1_3, o2) => { env := [(4, AV.ptr 0 0), (6, AV.ptr 1 0), (13, AV.str t13), (15, AV.own 2), (16, AV.int IntKind.i64 t16), (17, AV.int IntKind.i64 (3))], stk := [[]], H := [AE.Obj.cells [AV.int IntKind.i64 o0_0, AV.int IntKind.i64 o0_1, AV.int IntKind.i64 o0_2, AV.int IntKind.i64 o0_3, AV.int IntKind.i64 o0_4, AV.int IntKind.i64 o0_5], AE.Obj.cells [AV.int IntKind.u8 o1_0, AV.int IntKind.u8 o1_1, AV.int IntKind.u8 o1_2, AV.int IntKind.u8 o1_3], Obj.arr (Ty.int IntKind.u8) o2], blk := 20480 }
def declaw17_EntryBack_n4v3 (s : St) : Option Ilaw17_EntryBack_n4v3 := match s with
  | { env := [(4, AV.ptr 0 0), (6, AV.ptr 1 0), (13, AV.str t13), (15, AV.own 2), (16, AV.int IntKind.i64 t16), (17, AV.int IntKind.i64 r2)], stk := [[]], H := [AE.Obj.cells [AV.int IntKind.i64 o0_0, AV.int IntKind.i64 o0_1, AV.int IntKind.i64 o0_2, AV.int IntKind.i64 o0_3, AV.int IntKind.i64 o0_4, AV.int IntKind.i64 o0_5], AE.Obj.cells [AV.int IntKind.u8 o1_0, AV.int IntKind.u8 o1_1, AV.int IntKind.u8 o1_2, AV.int IntKind.u8 o1_3], Obj.arr (Ty.int IntKind.u8) o2], blk := 20480 } => cond (decide (r2 = 3)) (some (t13, t16, o0_0, o0_1, o0_2, o0_3, o0_4, o0_5, o1_0, o1_1, o1_2, o1_3, o2)) none
  | _ => none
theorem declaw17_EntryBack_n4v3_ok (s : St) (x : Ilaw17_EntryBack_n4v3) (h : declaw17_EntryBack_n4v3 s = some x) : s = Slaw17_EntryBack_n4v3 x := by
  unfold declaw17_EntryBack_n4v3 at h
  split at h
  · replace h := cond_noneO h; obtain ⟨hg, h⟩ := h; simp only [Bool.and_eq_true, decide_eq_true_eq] at hg; simp only [hg]; cases h; rfl
  · cases h
def outlaw17_EntryBack_n4v3 : Ilaw17_EntryBack_n4v3 → (Ex → St → Ans) → Ylaw17_EntryBack_n4v3 → Ans := fun (t13, t16, o0_0, o0_1, o0_2, o0_3, o0_4, o0_5, o1_0, o1_1, o1_2, o1_3, o2) K => (Sum.elim (fun o2_y => K (Ex.norm) { env := [(4, AV.ptr 0 0), (6, AV.ptr 1 0), (13, AV.str t13), (15, AV.own 2), (16, AV.int IntKind.i64 t16), (17, AV.int IntKind.i64 (4))], stk := [[]], H := [AE.Obj.cells [AV.int IntKind.i64 o0_0, AV.int IntKind.i64 o0_1, AV.int IntKind.i64 o0_2, AV.int IntKind.i64 o0_3, AV.int IntKind.i64 o0_4, AV.int IntKind.i64 o0_5], AE.Obj.cells [AV.int IntKind.u8 o1_0, AV.int IntKind.u8 o1_1, AV.int IntKind.u8 o1_2, AV.int IntKind.u8 o1_3], Obj.arr (Ty.int IntKind.u8) o2_y], blk := 20481 }) (fun _ => K (Ex.exit 0) { env := [(4, AV.ptr 0 0), (13, AV.str t13), (15, AV.own 1)], stk := [[]], H := [AE.Obj.cells [AV.int IntKind.i64 o0_0, AV.int IntKind.i64 o0_1, AV.int IntKind.i64 o0_2, AV.int IntKind.i64 o0_3, AV.int IntKind.i64 o0_4, AV.int IntKind.i64 o0_5], Obj.arr (Ty.int IntKind.u8) o2], blk := 20480 }))
def nodelaw17_EntryBack_n4v3 {β : Type} : Ilaw17_EntryBack_n4v3 → (Ylaw17_EntryBack_n4v3 → Option β) → Option β := fun (t13, t16, o0_0, o0_1, o0_2, o0_3, o0_4, o0_5, o1_0, o1_1, o1_2, o1_3, o2) exit => (bindO (nodeDlaw17_EntryBack_n5v3 (t13, t16, o0_0, o0_1, o0_2, o0_3, o0_4, o0_5, o1_0, o1_1, o1_2, o1_3, o2)) fun t84 => (bif t84 then (bif inR (IntKind.wrap IntKind.i64 (t16 + (3 : Int))) (List.length o2) then (bindO (o2[Int.toNat (IntKind.wrap IntKind.i64 (t16 + (3 : Int)))]?) fun x => (bif inR (IntKind.wrap IntKind.i64 (t16 + (3 : Int))) (List.length o2) then (bindO (o2[Int.toNat (IntKind.wrap IntKind.i64 (t16 + (3 : Int)))]?) fun x_2 => (exit (Sum.inl (List.set o2 (Int.toNat (IntKind.wrap IntKind.i64 (t16 + (3 : Int)))) (IntKind.wrap IntKind.u8 (↑(Int.toNat (x % (256 : Int)) ^^^ Int.toNat (o1_3 % (256 : Int))) : Int)))))) else none)) else none) else (exit (Sum.inr ()))))
def nodeDlaw17_EntryBack_n4v3 (i : Ilaw17_EntryBack_n4v3) : Option Ylaw17_EntryBack_n4v3 := nodelaw17_EntryBack_n4v3 i some
theorem nodelaw17_EntryBack_n4v3_nat (i : Ilaw17_EntryBack_n4v3) (k : Ylaw17_EntryBack_n4v3 → Ans) : nodelaw17_EntryBack_n4v3 i k = bindO (nodeDlaw17_EntryBack_n4v3 i) k := by
  obtain ⟨t13, t16, o0_0, o0_1, o0_2, o0_3, o0_4, o0_5, o1_0, o1_1, o1_2, o1_3, o2⟩ := i
  simp only [nodeDlaw17_EntryBack_n4v3, nodelaw17_EntryBack_n4v3, bindO_cond, bindO_assoc, bindO_none, bindO_pure, bindO_elim, bindO_unP]
theorem nodelaw17_EntryBack_n4v3_ok (i : Ilaw17_EntryBack_n4v3) (K : Ex → St → Ans) : codeI Try.tab envlaw17_EntryBack noHint (codeD Try.tab envlaw17_EntryBack noHint 0 64) 70 129 annLlaw17_EntryBack_n4 Llaw17_EntryBack_n4 (weakP 0 (exk [4, 6, 13, 15, 16, 17] [8] [(0, [4, 13, 15])]) K) (Slaw17_EntryBack_n4v3 i) = nodelaw17_EntryBack_n4v3 i (outlaw17_EntryBack_n4v3 i K) := by kernel_rfl
theorem GNlaw17_EntryBack_n4v3_ok : CSum Try.prog 129 Llaw17_EntryBack_n4 (sumN declaw17_EntryBack_n4v3 nodeDlaw17_EntryBack_n4v3 outlaw17_EntryBack_n4v3) := csum_node mixed tabOk envlaw17_EntryBackOk 0 (exk [4, 6, 13, 15, 16, 17] [8] [(0, [4, 13, 15])]) annLlaw17_EntryBack_n4_ok declaw17_EntryBack_n4v3_ok nodelaw17_EntryBack_n4v3_ok nodelaw17_EntryBack_n4v3_nat
abbrev Ilaw17_EntryBack_n4v4 := (List UInt8) × (Int) × (Int) × (Int) × (Int) × (Int) × (Int) × (Int) × (Int) × (Int) × (Int) × (Int) × (List Int)
abbrev Ylaw17_EntryBack_n4v4 := Unit
def Slaw17_EntryBack_n4v4 : Ilaw17_EntryBack_n4v4 → St := fun (t13, t16, o0_0, o0_1, o0_2, o0_3, o0_4, o0_5, o1_0, o1_1, o1_2, o1_3, o2) => { env := [(4, AV.ptr 0 0), (6, AV.ptr 1 0), (13, AV.str t13), (15, AV.own 2), (16, AV.int IntKind.i64 t16), (17, AV.int IntKind.i64 (4))], stk := [[]], H := [AE.Obj.cells [AV.int IntKind.i64 o0_0, AV.int IntKind.i64 o0_1, AV.int IntKind.i64 o0_2, AV.int IntKind.i64 o0_3, AV.int IntKind.i64 o0_4, AV.int IntKind.i64 o0_5], AE.Obj.cells [AV.int IntKind.u8 o1_0, AV.int IntKind.u8 o1_1, AV.int IntKind.u8 o1_2, AV.int IntKind.u8 o1_3], Obj.arr (Ty.int IntKind.u8) o2], blk := 20480 }
def declaw17_EntryBack_n4v4 (s : St) : Option Ilaw17_EntryBack_n4v4 := match s with
  | { env := [(4, AV.ptr 0 0), (6, AV.ptr 1 0), (13, AV.str t13), (15, AV.own 2), (16, AV.int IntKind.i64 t16), (17, AV.int IntKind.i64 r2)], stk := [[]], H := [AE.Obj.cells [AV.int IntKind.i64 o0_0, AV.int IntKind.i64 o0_1, AV.int IntKind.i64 o0_2, AV.int IntKind.i64 o0_3, AV.int IntKind.i64 o0_4, AV.int IntKind.i64 o0_5], AE.Obj.cells [AV.int IntKind.u8 o1_0, AV.int IntKind.u8 o1_1, AV.int IntKind.u8 o1_2, AV.int IntKind.u8 o1_3], Obj.arr (Ty.int IntKind.u8) o2], blk := 20480 } => cond (decide (r2 = 4)) (some (t13, t16, o0_0, o0_1, o0_2, o0_3, o0_4, o0_5, o1_0, o1_1, o1_2, o1_3, o2)) none
  | _ => none
theorem declaw17_EntryBack_n4v4_ok (s : St) (x : Ilaw17_EntryBack_n4v4) (h : declaw17_EntryBack_n4v4 s = some x) : s = Slaw17_EntryBack_n4v4 x := by
  unfold declaw17_EntryBack_n4v4 at h
  split at h
  · replace h := cond_noneO h; obtain ⟨hg, h⟩ := h; simp only [Bool.and_eq_true, decide_eq_true_eq] at hg; simp only [hg]; cases h; rfl
  · cases h
def outlaw17_EntryBack_n4v4 : Ilaw17_EntryBack_n4v4 → (Ex → St → Ans) → Ylaw17_EntryBack_n4v4 → Ans := fun (t13, t16, o0_0, o0_1, o0_2, o0_3, o0_4, o0_5, o1_0, o1_1, o1_2, o1_3, o2) K => fun _ => K (Ex.exit 0) { env := [(4, AV.ptr 0 0), (13, AV.str t13), (15, AV.own 1)], stk := [[]], H := [AE.Obj.cells [AV.int IntKind.i64 o0_0, AV.int IntKind.i64 o0_1, AV.int IntKind.i64 o0_2, AV.int IntKind.i64 o0_3, AV.int IntKind.i64 o0_4, AV.int IntKind.i64 o0_5], Obj.arr (Ty.int IntKind.u8) o2], blk := 20480 }
def nodelaw17_EntryBack_n4v4 {β : Type} : Ilaw17_EntryBack_n4v4 → (Ylaw17_EntryBack_n4v4 → Option β) → Option β := fun (t13, t16, o0_0, o0_1, o0_2, o0_3, o0_4, o0_5, o1_0, o1_1, o1_2, o1_3, o2) exit => (bindO (nodeDlaw17_EntryBack_n5v4 (t13, t16, o0_0, o0_1, o0_2, o0_3, o0_4, o0_5, o1_0, o1_1, o1_2, o1_3, o2)) fun _ => (exit ()))
def nodeDlaw17_EntryBack_n4v4 (i : Ilaw17_EntryBack_n4v4) : Option Ylaw17_EntryBack_n4v4 := nodelaw17_EntryBack_n4v4 i some
theorem nodelaw17_EntryBack_n4v4_nat (i : Ilaw17_EntryBack_n4v4) (k : Ylaw17_EntryBack_n4v4 → Ans) : nodelaw17_EntryBack_n4v4 i k = bindO (nodeDlaw17_EntryBack_n4v4 i) k := by
  obtain ⟨t13, t16, o0_0, o0_1, o0_2, o0_3, o0_4, o0_5, o1_0, o1_1, o1_2, o1_3, o2⟩ := i
  simp only [nodeDlaw17_EntryBack_n4v4, nodelaw17_EntryBack_n4v4, bindO_cond, bindO_assoc, bindO_none, bindO_pure, bindO_elim, bindO_unP]
theorem nodelaw17_EntryBack_n4v4_ok (i : Ilaw17_EntryBack_n4v4) (K : Ex → St → Ans) : codeI Try.tab envlaw17_EntryBack noHint (codeD Try.tab envlaw17_EntryBack noHint 0 64) 70 129 annLlaw17_EntryBack_n4 Llaw17_EntryBack_n4 (weakP 0 (exk [4, 6, 13, 15, 16, 17] [8] [(0, [4, 13, 15])]) K) (Slaw17_EntryBack_n4v4 i) = nodelaw17_EntryBack_n4v4 i (outlaw17_EntryBack_n4v4 i K) := by kernel_rfl
theorem GNlaw17_EntryBack_n4v4_ok : CSum Try.prog 129 Llaw17_EntryBack_n4 (sumN declaw17_EntryBack_n4v4 nodeDlaw17_EntryBack_n4v4 outlaw17_EntryBack_n4v4) := csum_node mixed tabOk envlaw17_EntryBackOk 0 (exk [4, 6, 13, 15, 16, 17] [8] [(0, [4, 13, 15])]) annLlaw17_EntryBack_n4_ok declaw17_EntryBack_n4v4_ok nodelaw17_EntryBack_n4v4_ok nodelaw17_EntryBack_n4v4_nat
noncomputable def Glaw17_EntryBack_n4 : (Ex → St → Ans) → St → Ans := (altN declaw17_EntryBack_n4 (sumN declaw17_EntryBack_n4 nodeDlaw17_EntryBack_n4 outlaw17_EntryBack_n4) (altN declaw17_EntryBack_n4v1 (sumN declaw17_EntryBack_n4v1 nodeDlaw17_EntryBack_n4v1 outlaw17_EntryBack_n4v1) (altN declaw17_EntryBack_n4v2 (sumN declaw17_EntryBack_n4v2 nodeDlaw17_EntryBack_n4v2 outlaw17_EntryBack_n4v2) (altN declaw17_EntryBack_n4v3 (sumN declaw17_EntryBack_n4v3 nodeDlaw17_EntryBack_n4v3 outlaw17_EntryBack_n4v3) (sumN declaw17_EntryBack_n4v4 nodeDlaw17_EntryBack_n4v4 outlaw17_EntryBack_n4v4)))))
theorem Glaw17_EntryBack_n4_ok : CSum Try.prog 129 Llaw17_EntryBack_n4 Glaw17_EntryBack_n4 := (csum_altN GNlaw17_EntryBack_n4_ok (csum_altN GNlaw17_EntryBack_n4v1_ok (csum_altN GNlaw17_EntryBack_n4v2_ok (csum_altN GNlaw17_EntryBack_n4v3_ok GNlaw17_EntryBack_n4v4_ok))))
noncomputable def Llaw17_EntryBack_n3 : Code := codeAt [1, 1, 1, 1, 1, 1, 1, 1, 1, 1, 0, 1] blaw17_EntryBack
noncomputable def annLlaw17_EntryBack_n3 : Ann := (.block (.at 0 [4, 6, 13, 15, 16, 17] (.loop (.cut 0 [4, 6, 13, 15, 16, 17] Glaw17_EntryBack_n4))))
theorem annLlaw17_EntryBack_n3_ok : AnnOk Try.prog 129 Llaw17_EntryBack_n3 annLlaw17_EntryBack_n3 := (annOk_at Glaw17_EntryBack_n4_ok)
abbrev Ilaw17_EntryBack_n3 := (List UInt8) × (Int) × (Int) × (Int) × (Int) × (Int) × (Int) × (Int) × (Int) × (Int) × (Int) × (Int) × (List Int)
abbrev Ylaw17_EntryBack_n3 := (List Int)
def Slaw17_EntryBack_n3 : Ilaw17_EntryBack_n3 → St := fun (t13, t16, o0_0, o0_1, o0_2, o0_3, o0_4, o0_5, o1_0, o1_1, o1_2, o1_3, o2) => { env := [(4, AV.ptr 0 0), (6, AV.ptr 1 0), (13, AV.str t13), (15, AV.own 2), (16, AV.int IntKind.i64 t16), (17, AV.int IntKind.i64 (0))], stk := [[]], H := [AE.Obj.cells [AV.int IntKind.i64 o0_0, AV.int IntKind.i64 o0_1, AV.int IntKind.i64 o0_2, AV.int IntKind.i64 o0_3, AV.int IntKind.i64 o0_4, AV.int IntKind.i64 o0_5], AE.Obj.cells [AV.int IntKind.u8 o1_0, AV.int IntKind.u8 o1_1, AV.int IntKind.u8 o1_2, AV.int IntKind.u8 o1_3], Obj.arr (Ty.int IntKind.u8) o2], blk := 20480 }
def declaw17_EntryBack_n3 (s : St) : Option Ilaw17_EntryBack_n3 := match s with
  | { env := [(4, AV.ptr 0 0), (6, AV.ptr 1 0), (13, AV.str t13), (15, AV.own 2), (16, AV.int IntKind.i64 t16), (17, AV.int IntKind.i64 r2)], stk := [[]], H := [AE.Obj.cells [AV.int IntKind.i64 o0_0, AV.int IntKind.i64 o0_1, AV.int IntKind.i64 o0_2, AV.int IntKind.i64 o0_3, AV.int IntKind.i64 o0_4, AV.int IntKind.i64 o0_5], AE.Obj.cells [AV.int IntKind.u8 o1_0, AV.int IntKind.u8 o1_1, AV.int IntKind.u8 o1_2, AV.int IntKind.u8 o1_3], Obj.arr (Ty.int IntKind.u8) o2], blk := 20480 } => cond (decide (r2 = 0)) (some (t13, t16, o0_0, o0_1, o0_2, o0_3, o0_4, o0_5, o1_0, o1_1, o1_2, o1_3, o2)) none
  | _ => none
theorem declaw17_EntryBack_n3_ok (s : St) (x : Ilaw17_EntryBack_n3) (h : declaw17_EntryBack_n3 s = some x) : s = Slaw17_EntryBack_n3 x := by
  unfold declaw17_EntryBack_n3 at h
  split at h
  · replace h := cond_noneO h; obtain ⟨hg, h⟩ := h; simp only [Bool.and_eq_true, decide_eq_true_eq] at hg; simp only [hg]; cases h; rfl
  · cases h
def outlaw17_EntryBack_n3 : Ilaw17_EntryBack_n3 → (Ex → St → Ans) → Ylaw17_EntryBack_n3 → Ans := fun (t13, t16, o0_0, o0_1, o0_2, o0_3, o0_4, o0_5, o1_0, o1_1, o1_2, o1_3, o2) K => fun o1_y => K (Ex.norm) { env := [(4, AV.ptr 0 0), (13, AV.str t13), (15, AV.own 1)], stk := [[]], H := [AE.Obj.cells [AV.int IntKind.i64 o0_0, AV.int IntKind.i64 o0_1, AV.int IntKind.i64 o0_2, AV.int IntKind.i64 o0_3, AV.int IntKind.i64 o0_4, AV.int IntKind.i64 o0_5], Obj.arr (Ty.int IntKind.u8) o1_y], blk := 20480 }
def nodelaw17_EntryBack_n3 {β : Type} : Ilaw17_EntryBack_n3 → (Ylaw17_EntryBack_n3 → Option β) → Option β := fun (t13, t16, o0_0, o0_1, o0_2, o0_3, o0_4, o0_5, o1_0, o1_1, o1_2, o1_3, o2) exit => (bindO (nodeDlaw17_EntryBack_n4 (t13, t16, o0_0, o0_1, o0_2, o0_3, o0_4, o0_5, o1_0, o1_1, o1_2, o1_3, o2)) (Sum.elim (fun o2_2 => (bindO (nodeDlaw17_EntryBack_n4v1 (t13, t16, o0_0, o0_1, o0_2, o0_3, o0_4, o0_5, o1_0, o1_1, o1_2, o1_3, o2_2)) (Sum.elim (fun o2_3 => (bindO (nodeDlaw17_EntryBack_n4v2 (t13, t16, o0_0, o0_1, o0_2, o0_3, o0_4, o0_5, o1_0, o1_1, o1_2, o1_3, o2_3)) (Sum.elim (fun o2_4 => (bindO (nodeDlaw17_EntryBack_n4v3 (t13, t16, o0_0, o0_1, o0_2, o0_3, o0_4, o0_5, o1_0, o1_1, o1_2, o1_3, o2_4)) (Sum.elim (fun o2_5 => (bindO (nodeDlaw17_EntryBack_n4v4 (t13, t16, o0_0, o0_1, o0_2, o0_3, o0_4, o0_5, o1_0, o1_1, o1_2, o1_3, o2_5)) fun _ => (exit (o2_5)))) (fun _ => (exit (o2_4)))))) (fun _ => (exit (o2_3)))))) (fun _ => (exit (o2_2)))))) (fun _ => (exit (o2)))))
def nodeDlaw17_EntryBack_n3 (i : Ilaw17_EntryBack_n3) : Option Ylaw17_EntryBack_n3 := nodelaw17_EntryBack_n3 i some
theorem nodelaw17_EntryBack_n3_nat (i : Ilaw17_EntryBack_n3) (k : Ylaw17_EntryBack_n3 → Ans) : nodelaw17_EntryBack_n3 i k = bindO (nodeDlaw17_EntryBack_n3 i) k := by
  obtain ⟨t13, t16, o0_0, o0_1, o0_2, o0_3, o0_4, o0_5, o1_0, o1_1, o1_2, o1_3, o2⟩ := i
  simp only [nodeDlaw17_EntryBack_n3, nodelaw17_EntryBack_n3, bindO_cond, bindO_assoc, bindO_none, bindO_pure, bindO_elim, bindO_unP]
theorem nodelaw17_EntryBack_n3_ok (i : Ilaw17_EntryBack_n3) (K : Ex → St → Ans) : codeI Try.tab envlaw17_EntryBack noHint (codeD Try.tab envlaw17_EntryBack noHint 0 64) 70 129 annLlaw17_EntryBack_n3 Llaw17_EntryBack_n3 (weakP 0 (exk [4, 13, 15] [8] []) K) (Slaw17_EntryBack_n3 i) = nodelaw17_EntryBack_n3 i (outlaw17_EntryBack_n3 i K) := by kernel_rfl
theorem GNlaw17_EntryBack_n3_ok : CSum Try.prog 129 Llaw17_EntryBack_n3 (sumN declaw17_EntryBack_n3 nodeDlaw17_EntryBack_n3 outlaw17_EntryBack_n3) := csum_node mixed tabOk envlaw17_EntryBackOk 0 (exk [4, 13, 15] [8] []) annLlaw17_EntryBack_n3_ok declaw17_EntryBack_n3_ok nodelaw17_EntryBack_n3_ok nodelaw17_EntryBack_n3_nat
noncomputable def Glaw17_EntryBack_n3 : (Ex → St → Ans) → St → Ans := (sumN declaw17_EntryBack_n3 nodeDlaw17_EntryBack_n3 outlaw17_EntryBack_n3)
theorem Glaw17_EntryBack_n3_ok : CSum Try.prog 129 Llaw17_EntryBack_n3 Glaw17_EntryBack_n3 := GNlaw17_EntryBack_n3_ok
noncomputable def Llaw17_EntryBack_n2 : Code := codeAt [1, 1, 1, 1, 1, 1, 1, 0, 1, 0, 0] blaw17_EntryBack
noncomputable def annLlaw17_EntryBack_n2 : Ann := .none
theorem annLlaw17_EntryBack_n2_ok : AnnOk Try.prog 129 Llaw17_EntryBack_n2 annLlaw17_EntryBack_n2 := (annOk_none _ _ _)
abbrev Ilaw17_EntryBack_n2 := (List UInt8) × (Int)
abbrev Ylaw17_EntryBack_n2 := (Bool)
def Slaw17_EntryBack_n2 : Ilaw17_EntryBack_n2 → St := fun (t13, t14) => { env := [(13, AV.str t13), (14, AV.int IntKind.i64 t14)], stk := [[]], H := [], blk := 20480 }
def declaw17_EntryBack_n2 (s : St) : Option Ilaw17_EntryBack_n2 := match s with
  | { env := [(13, AV.str t13), (14, AV.int IntKind.i64 t14)], stk := [[]], H := [], blk := 20480 } => some (t13, t14)
  | _ => none
theorem declaw17_EntryBack_n2_ok (s : St) (x : Ilaw17_EntryBack_n2) (h : declaw17_EntryBack_n2 s = some x) : s = Slaw17_EntryBack_n2 x := by
  unfold declaw17_EntryBack_n2 at h
  split at h
  · cases h; rfl
  · cases h
def outlaw17_EntryBack_n2 : Ilaw17_EntryBack_n2 → (Ex → St → Ans) → Ylaw17_EntryBack_n2 → Ans := fun (t13, t14) K => fun t8_y => K (Ex.norm) { env := [(8, AV.bool t8_y)], stk := [[]], H := [], blk := 20480 }
def nodelaw17_EntryBack_n2 {β : Type} : Ilaw17_EntryBack_n2 → (Ylaw17_EntryBack_n2 → Option β) → Option β := fun (t13, t14) exit => (bif t14 != (0 : Int) then (exit (t13 == [])) else (exit (false)))
def nodeDlaw17_EntryBack_n2 (i : Ilaw17_EntryBack_n2) : Option Ylaw17_EntryBack_n2 := nodelaw17_EntryBack_n2 i some
theorem nodelaw17_EntryBack_n2_nat (i : Ilaw17_EntryBack_n2) (k : Ylaw17_EntryBack_n2 → Ans) : nodelaw17_EntryBack_n2 i k = bindO (nodeDlaw17_EntryBack_n2 i) k := by
  obtain ⟨t13, t14⟩ := i
  simp only [nodeDlaw17_EntryBack_n2, nodelaw17_EntryBack_n2, bindO_cond, bindO_assoc, bindO_none, bindO_pure, bindO_elim, bindO_unP]
theorem nodelaw17_EntryBack_n2_ok (i : Ilaw17_EntryBack_n2) (K : Ex → St → Ans) : codeI Try.tab envlaw17_EntryBack noHint (codeD Try.tab envlaw17_EntryBack noHint 0 64) 70 129 annLlaw17_EntryBack_n2 Llaw17_EntryBack_n2 (weakP 0 (exk [8] [8] []) K) (Slaw17_EntryBack_n2 i) = nodelaw17_EntryBack_n2 i (outlaw17_EntryBack_n2 i K) := by kernel_rfl
theorem GNlaw17_EntryBack_n2_ok : CSum Try.prog 129 Llaw17_EntryBack_n2 (sumN declaw17_EntryBack_n2 nodeDlaw17_EntryBack_n2 outlaw17_EntryBack_n2) := csum_node mixed tabOk envlaw17_EntryBackOk 0 (exk [8] [8] []) annLlaw17_EntryBack_n2_ok declaw17_EntryBack_n2_ok nodelaw17_EntryBack_n2_ok nodelaw17_EntryBack_n2_nat
noncomputable def Glaw17_EntryBack_n2 : (Ex → St → Ans) → St → Ans := (sumN declaw17_EntryBack_n2 nodeDlaw17_EntryBack_n2 outlaw17_EntryBack_n2)
theorem Glaw17_EntryBack_n2_ok : CSum Try.prog 129 Llaw17_EntryBack_n2 Glaw17_EntryBack_n2 := GNlaw17_EntryBack_n2_ok
noncomputable def Llaw17_EntryBack_n1 : Code := codeAt [1, 1, 1, 1, 1, 1, 1, 0, 0] blaw17_EntryBack
noncomputable def annLlaw17_EntryBack_n1 : Ann := .none
theorem annLlaw17_EntryBack_n1_ok : AnnOk Try.prog 129 Llaw17_EntryBack_n1 annLlaw17_EntryBack_n1 := (annOk_none _ _ _)
abbrev Ilaw17_EntryBack_n1 := (Int) × (List UInt8) × (Int) × (Int) × (Int) × (Int) × (Int) × (Int) × (Int) × (Int) × (Int) × (Int) × (Int)
abbrev Ylaw17_EntryBack_n1 := (Bool)
def Slaw17_EntryBack_n1 : Ilaw17_EntryBack_n1 → St := fun (t1, t13, t14, o0_0, o0_1, o0_2, o0_3, o0_4, o0_5, o1_0, o1_1, o1_2, o1_3) => { env := [(1, AV.int IntKind.i64 t1), (4, AV.ptr 0 0), (6, AV.ptr 1 0), (13, AV.str t13), (14, AV.int IntKind.i64 t14)], stk := [[]], H := [AE.Obj.cells [AV.int IntKind.i64 o0_0, AV.int IntKind.i64 o0_1, AV.int IntKind.i64 o0_2, AV.int IntKind.i64 o0_3, AV.int IntKind.i64 o0_4, AV.int IntKind.i64 o0_5], AE.Obj.cells [AV.int IntKind.u8 o1_0, AV.int IntKind.u8 o1_1, AV.int IntKind.u8 o1_2, AV.int IntKind.u8 o1_3]], blk := 20480 }
def declaw17_EntryBack_n1 (s : St) : Option Ilaw17_EntryBack_n1 := match s with
  | { env := [(1, AV.int IntKind.i64 t1), (4, AV.ptr 0 0), (6, AV.ptr 1 0), (13, AV.str t13), (14, AV.int IntKind.i64 t14)], stk := [[]], H := [AE.Obj.cells [AV.int IntKind.i64 o0_0, AV.int IntKind.i64 o0_1, AV.int IntKind.i64 o0_2, AV.int IntKind.i64 o0_3, AV.int IntKind.i64 o0_4, AV.int IntKind.i64 o0_5], AE.Obj.cells [AV.int IntKind.u8 o1_0, AV.int IntKind.u8 o1_1, AV.int IntKind.u8 o1_2, AV.int IntKind.u8 o1_3]], blk := 20480 } => some (t1, t13, t14, o0_0, o0_1, o0_2, o0_3, o0_4, o0_5, o1_0, o1_1, o1_2, o1_3)
  | _ => none
theorem declaw17_EntryBack_n1_ok (s : St) (x : Ilaw17_EntryBack_n1) (h : declaw17_EntryBack_n1 s = some x) : s = Slaw17_EntryBack_n1 x := by
  unfold declaw17_EntryBack_n1 at h
  split at h
  · cases h; rfl
  · cases h
def outlaw17_EntryBack_n1 : Ilaw17_EntryBack_n1 → (Ex → St → Ans) → Ylaw17_EntryBack_n1 → Ans := fun (t1, t13, t14, o0_0, o0_1, o0_2, o0_3, o0_4, o0_5, o1_0, o1_1, o1_2, o1_3) K => fun t59_y => K (Ex.norm) { env := [(1, AV.int IntKind.i64 t1), (4, AV.ptr 0 0), (6, AV.ptr 1 0), (13, AV.str t13), (14, AV.int IntKind.i64 t14), (59, AV.bool t59_y)], stk := [[]], H := [AE.Obj.cells [AV.int IntKind.i64 o0_0, AV.int IntKind.i64 o0_1, AV.int IntKind.i64 o0_2, AV.int IntKind.i64 o0_3, AV.int IntKind.i64 o0_4, AV.int IntKind.i64 o0_5], AE.Obj.cells [AV.int IntKind.u8 o1_0, AV.int IntKind.u8 o1_1, AV.int IntKind.u8 o1_2, AV.int IntKind.u8 o1_3]], blk := 20480 }
def nodelaw17_EntryBack_n1 {β : Type} : Ilaw17_EntryBack_n1 → (Ylaw17_EntryBack_n1 → Option β) → Option β := fun (t1, t13, t14, o0_0, o0_1, o0_2, o0_3, o0_4, o0_5, o1_0, o1_1, o1_2, o1_3) exit => (bif t14 != (0 : Int) then (exit (true)) else (exit ((↑(List.length t13) : Int) != (64 : Int))))
def nodeDlaw17_EntryBack_n1 (i : Ilaw17_EntryBack_n1) : Option Ylaw17_EntryBack_n1 := nodelaw17_EntryBack_n1 i some
theorem nodelaw17_EntryBack_n1_nat (i : Ilaw17_EntryBack_n1) (k : Ylaw17_EntryBack_n1 → Ans) : nodelaw17_EntryBack_n1 i k = bindO (nodeDlaw17_EntryBack_n1 i) k := by
  obtain ⟨t1, t13, t14, o0_0, o0_1, o0_2, o0_3, o0_4, o0_5, o1_0, o1_1, o1_2, o1_3⟩ := i
  simp only [nodeDlaw17_EntryBack_n1, nodelaw17_EntryBack_n1, bindO_cond, bindO_assoc, bindO_none, bindO_pure, bindO_elim, bindO_unP]
theorem nodelaw17_EntryBack_n1_ok (i : Ilaw17_EntryBack_n1) (K : Ex → St → Ans) : codeI Try.tab envlaw17_EntryBack noHint (codeD Try.tab envlaw17_EntryBack noHint 0 64) 70 129 annLlaw17_EntryBack_n1 Llaw17_EntryBack_n1 (weakP 0 (exk [1, 4, 6, 13, 14, 59] [8] []) K) (Slaw17_EntryBack_n1 i) = nodelaw17_EntryBack_n1 i (outlaw17_EntryBack_n1 i K) := by kernel_rfl
theorem GNlaw17_EntryBack_n1_ok : CSum Try.prog 129 Llaw17_EntryBack_n1 (sumN declaw17_EntryBack_n1 nodeDlaw17_EntryBack_n1 outlaw17_EntryBack_n1) := csum_node mixed tabOk envlaw17_EntryBackOk 0 (exk [1, 4, 6, 13, 14, 59] [8] []) annLlaw17_EntryBack_n1_ok declaw17_EntryBack_n1_ok nodelaw17_EntryBack_n1_ok nodelaw17_EntryBack_n1_nat
noncomputable def Glaw17_EntryBack_n1 : (Ex → St → Ans) → St → Ans := (sumN declaw17_EntryBack_n1 nodeDlaw17_EntryBack_n1 outlaw17_EntryBack_n1)
theorem Glaw17_EntryBack_n1_ok : CSum Try.prog 129 Llaw17_EntryBack_n1 Glaw17_EntryBack_n1 := GNlaw17_EntryBack_n1_ok
noncomputable def Llaw17_EntryBack_n0 : Code := codeAt [1, 1, 1, 1, 1, 0, 0] blaw17_EntryBack
noncomputable def annLlaw17_EntryBack_n0 : Ann := .none
theorem annLlaw17_EntryBack_n0_ok : AnnOk Try.prog 129 Llaw17_EntryBack_n0 annLlaw17_EntryBack_n0 := (annOk_none _ _ _)
abbrev Ilaw17_EntryBack_n0 := (Int) × (List UInt8) × (Int) × (List UInt8) × (Int) × (Int) × (Int) × (Int) × (Int) × (Int) × (Int) × (Int) × (Int) × (Int) × (Int)
abbrev Ylaw17_EntryBack_n0 := (Bool)
def Slaw17_EntryBack_n0 : Ilaw17_EntryBack_n0 → St := fun (t1, t3, t10, t11, t12, o0_0, o0_1, o0_2, o0_3, o0_4, o0_5, o1_0, o1_1, o1_2, o1_3) => { env := [(1, AV.int IntKind.i64 t1), (3, AV.str t3), (4, AV.ptr 0 0), (6, AV.ptr 1 0), (10, AV.int IntKind.i64 t10), (11, AV.str t11), (12, AV.int IntKind.i64 t12)], stk := [[]], H := [AE.Obj.cells [AV.int IntKind.i64 o0_0, AV.int IntKind.i64 o0_1, AV.int IntKind.i64 o0_2, AV.int IntKind.i64 o0_3, AV.int IntKind.i64 o0_4, AV.int IntKind.i64 o0_5], AE.Obj.cells [AV.int IntKind.u8 o1_0, AV.int IntKind.u8 o1_1, AV.int IntKind.u8 o1_2, AV.int IntKind.u8 o1_3]], blk := 20480 }
def declaw17_EntryBack_n0 (s : St) : Option Ilaw17_EntryBack_n0 := match s with
  | { env := [(1, AV.int IntKind.i64 t1), (3, AV.str t3), (4, AV.ptr 0 0), (6, AV.ptr 1 0), (10, AV.int IntKind.i64 t10), (11, AV.str t11), (12, AV.int IntKind.i64 t12)], stk := [[]], H := [AE.Obj.cells [AV.int IntKind.i64 o0_0, AV.int IntKind.i64 o0_1, AV.int IntKind.i64 o0_2, AV.int IntKind.i64 o0_3, AV.int IntKind.i64 o0_4, AV.int IntKind.i64 o0_5], AE.Obj.cells [AV.int IntKind.u8 o1_0, AV.int IntKind.u8 o1_1, AV.int IntKind.u8 o1_2, AV.int IntKind.u8 o1_3]], blk := 20480 } => some (t1, t3, t10, t11, t12, o0_0, o0_1, o0_2, o0_3, o0_4, o0_5, o1_0, o1_1, o1_2, o1_3)
  | _ => none
theorem declaw17_EntryBack_n0_ok (s : St) (x : Ilaw17_EntryBack_n0) (h : declaw17_EntryBack_n0 s = some x) : s = Slaw17_EntryBack_n0 x := by
  unfold declaw17_EntryBack_n0 at h
  split at h
  · cases h; rfl
  · cases h
def outlaw17_EntryBack_n0 : Ilaw17_EntryBack_n0 → (Ex → St → Ans) → Ylaw17_EntryBack_n0 → Ans := fun (t1, t3, t10, t11, t12, o0_0, o0_1, o0_2, o0_3, o0_4, o0_5, o1_0, o1_1, o1_2, o1_3) K => fun t47_y => K (Ex.norm) { env := [(1, AV.int IntKind.i64 t1), (4, AV.ptr 0 0), (6, AV.ptr 1 0), (47, AV.bool t47_y)], stk := [[]], H := [AE.Obj.cells [AV.int IntKind.i64 o0_0, AV.int IntKind.i64 o0_1, AV.int IntKind.i64 o0_2, AV.int IntKind.i64 o0_3, AV.int IntKind.i64 o0_4, AV.int IntKind.i64 o0_5], AE.Obj.cells [AV.int IntKind.u8 o1_0, AV.int IntKind.u8 o1_1, AV.int IntKind.u8 o1_2, AV.int IntKind.u8 o1_3]], blk := 20480 }
def nodelaw17_EntryBack_n0 {β : Type} : Ilaw17_EntryBack_n0 → (Ylaw17_EntryBack_n0 → Option β) → Option β := fun (t1, t3, t10, t11, t12, o0_0, o0_1, o0_2, o0_3, o0_4, o0_5, o1_0, o1_1, o1_2, o1_3) exit => (bif t10 == (0 : Int) then (bif t12 != (0 : Int) then (exit (true)) else (exit (!t11 == t3))) else (exit (false)))
def nodeDlaw17_EntryBack_n0 (i : Ilaw17_EntryBack_n0) : Option Ylaw17_EntryBack_n0 := nodelaw17_EntryBack_n0 i some
theorem nodelaw17_EntryBack_n0_nat (i : Ilaw17_EntryBack_n0) (k : Ylaw17_EntryBack_n0 → Ans) : nodelaw17_EntryBack_n0 i k = bindO (nodeDlaw17_EntryBack_n0 i) k := by
  obtain ⟨t1, t3, t10, t11, t12, o0_0, o0_1, o0_2, o0_3, o0_4, o0_5, o1_0, o1_1, o1_2, o1_3⟩ := i
  simp only [nodeDlaw17_EntryBack_n0, nodelaw17_EntryBack_n0, bindO_cond, bindO_assoc, bindO_none, bindO_pure, bindO_elim, bindO_unP]
theorem nodelaw17_EntryBack_n0_ok (i : Ilaw17_EntryBack_n0) (K : Ex → St → Ans) : codeI Try.tab envlaw17_EntryBack noHint (codeD Try.tab envlaw17_EntryBack noHint 0 64) 70 129 annLlaw17_EntryBack_n0 Llaw17_EntryBack_n0 (weakP 0 (exk [1, 4, 6, 47] [8] []) K) (Slaw17_EntryBack_n0 i) = nodelaw17_EntryBack_n0 i (outlaw17_EntryBack_n0 i K) := by kernel_rfl
theorem GNlaw17_EntryBack_n0_ok : CSum Try.prog 129 Llaw17_EntryBack_n0 (sumN declaw17_EntryBack_n0 nodeDlaw17_EntryBack_n0 outlaw17_EntryBack_n0) := csum_node mixed tabOk envlaw17_EntryBackOk 0 (exk [1, 4, 6, 47] [8] []) annLlaw17_EntryBack_n0_ok declaw17_EntryBack_n0_ok nodelaw17_EntryBack_n0_ok nodelaw17_EntryBack_n0_nat
noncomputable def Glaw17_EntryBack_n0 : (Ex → St → Ans) → St → Ans := (sumN declaw17_EntryBack_n0 nodeDlaw17_EntryBack_n0 outlaw17_EntryBack_n0)
theorem Glaw17_EntryBack_n0_ok : CSum Try.prog 129 Llaw17_EntryBack_n0 Glaw17_EntryBack_n0 := GNlaw17_EntryBack_n0_ok
noncomputable def annlaw17_EntryBack : Ann := (.seq .none (.seq .none (.seq .none (.seq .none (.seq .none (.seq (.seq (.cut 0 [1, 3, 4, 6, 10, 11, 12] Glaw17_EntryBack_n0) .none) (.seq .none (.seq (.seq (.cut 0 [1, 4, 6, 13, 14] Glaw17_EntryBack_n1) (.cond (.seq (.cut 0 [13, 14] Glaw17_EntryBack_n2) .none) .none)) (.seq .none (.seq .none (.seq (.seq .none (.cut 0 [4, 6, 13, 15, 16, 17] Glaw17_EntryBack_n3)) (.seq .none (.seq .none (.seq (.cut 0 [4, 13, 15, 18, 19, 21] Glaw17_EntryBack_n6) .none))))))))))))))
theorem annlaw17_EntryBack_ok : AnnOk Try.prog 129 blaw17_EntryBack annlaw17_EntryBack := ⟨(annOk_none _ _ _), ⟨(annOk_none _ _ _), ⟨(annOk_none _ _ _), ⟨(annOk_none _ _ _), ⟨(annOk_none _ _ _), ⟨⟨Glaw17_EntryBack_n0_ok, (annOk_none _ _ _)⟩, ⟨(annOk_none _ _ _), ⟨⟨Glaw17_EntryBack_n1_ok, ⟨⟨Glaw17_EntryBack_n2_ok, (annOk_none _ _ _)⟩, (annOk_none _ _ _)⟩⟩, ⟨(annOk_none _ _ _), ⟨(annOk_none _ _ _), ⟨⟨(annOk_none _ _ _), Glaw17_EntryBack_n3_ok⟩, ⟨(annOk_none _ _ _), ⟨(annOk_none _ _ _), ⟨Glaw17_EntryBack_n6_ok, (annOk_none _ _ _)⟩⟩⟩⟩⟩⟩⟩⟩⟩⟩⟩⟩⟩⟩
abbrev Alaw17_EntryBack := (Int) × (Int) × (Int) × (Int) × (Int) × (Int) × (Int) × (Int) × (Int) × (Int) × (Int) × (List UInt8)
abbrev Ylaw17_EntryBack := (Bool)
def fnlaw17_EntryBack {β : Type} : Alaw17_EntryBack → (Ylaw17_EntryBack → Option β) → Option β := fun (a0_0, a0_1, a0_2, a0_3, a0_4, a0_5, a1, a2_0, a2_1, a2_2, a2_3, a3) exit => (bindO (fnDlaw17_works ()) fun r => (bif !r then (exit (false)) else (bif decide ((↑(List.length a3) : Int) > (3000 : Int)) then (exit (true)) else (bindO (fnDentry_Get (a3)) (unP fun r_0_0 => unP fun r_0_1 => unP fun r_0_2 => unP fun r_0_3 => unP fun r_0_4 => unP fun r_0_5 r_1 => (bindO (fnDentry_Put (r_0_0, r_0_1, r_0_2, r_0_3, r_0_4, r_0_5)) (unP fun r_0 r_1_2 => (bindO (nodeDlaw17_EntryBack_n0 (a1, a3, r_1, r_0, r_1_2, a0_0, a0_1, a0_2, a0_3, a0_4, a0_5, a2_0, a2_1, a2_2, a2_3)) fun t47 => (bif t47 then (exit (false)) else (bindO (fnDentry_Put (a0_0, a0_1, a0_2, a0_3, a0_4, a0_5)) (unP fun r_0_6 r_1_3 => (bindO (nodeDlaw17_EntryBack_n1 (a1, r_0_6, r_1_3, a0_0, a0_1, a0_2, a0_3, a0_4, a0_5, a2_0, a2_1, a2_2, a2_3)) fun t59 => (bif t59 then (bindO (nodeDlaw17_EntryBack_n2 (r_0_6, r_1_3)) fun t8 => (exit (t8))) else (bif Nat.ble (List.length r_0_6) (140737488355328 : Nat) then (bif IntKind.wrap IntKind.u64 (↑(List.length (intsOf r_0_6)) : Int) == (0 : Int) then none else (bindO (nodeDlaw17_EntryBack_n3 (r_0_6, IntKind.wrap IntKind.i64 (Int.tmod (IntKind.wrap IntKind.u64 a1) (IntKind.wrap IntKind.u64 (↑(List.length (intsOf r_0_6)) : Int))), a0_0, a0_1, a0_2, a0_3, a0_4, a0_5, a2_0, a2_1, a2_2, a2_3, intsOf r_0_6)) fun o1 => (bindO (fnDentry_Get (r_0_6)) (unP fun r_0_0_2 => unP fun r_0_1_2 => unP fun r_0_2_2 => unP fun r_0_3_2 => unP fun r_0_4_2 => unP fun r_0_5_2 r_1_4 => (bindO (fnDentry_Get (bytesOf o1)) (unP fun r_0_0_3 => unP fun r_0_1_3 => unP fun r_0_2_3 => unP fun r_0_3_3 => unP fun r_0_4_3 => unP fun r_0_5_3 r_1_5 => (bindO (nodeDlaw17_EntryBack_n6 (r_0_6, r_1_4, r_1_5, a0_0, a0_1, a0_2, a0_3, a0_4, a0_5, o1, r_0_0_2, r_0_1_2, r_0_2_2, r_0_3_2, r_0_4_2, r_0_5_2)) fun t8 => (exit (t8))))))))) else none))))))))))))))
def fnDlaw17_EntryBack (a : Alaw17_EntryBack) : Option Ylaw17_EntryBack := fnlaw17_EntryBack a some
theorem fnlaw17_EntryBack_nat (a : Alaw17_EntryBack) (k : Ylaw17_EntryBack → Ans) : fnlaw17_EntryBack a k = bindO (fnDlaw17_EntryBack a) k := by
  obtain ⟨a0_0, a0_1, a0_2, a0_3, a0_4, a0_5, a1, a2_0, a2_1, a2_2, a2_3, a3⟩ := a
  simp only [fnDlaw17_EntryBack, fnlaw17_EntryBack, bindO_cond, bindO_assoc, bindO_none, bindO_pure, bindO_elim, bindO_unP]
def argslaw17_EntryBack : Alaw17_EntryBack → List AV × List AE.Obj := fun (a0_0, a0_1, a0_2, a0_3, a0_4, a0_5, a1, a2_0, a2_1, a2_2, a2_3, a3) => ([AV.agg [AV.int IntKind.i64 a0_0, AV.int IntKind.i64 a0_1, AV.int IntKind.i64 a0_2, AV.int IntKind.i64 a0_3, AV.int IntKind.i64 a0_4, AV.int IntKind.i64 a0_5], AV.int IntKind.i64 a1, AV.agg [AV.int IntKind.u8 a2_0, AV.int IntKind.u8 a2_1, AV.int IntKind.u8 a2_2, AV.int IntKind.u8 a2_3], AV.str a3], [])
def decAlaw17_EntryBack (l : List AV) (H : List AE.Obj) : Option Alaw17_EntryBack := match l, H with
  | [AV.agg [AV.int IntKind.i64 a0_0, AV.int IntKind.i64 a0_1, AV.int IntKind.i64 a0_2, AV.int IntKind.i64 a0_3, AV.int IntKind.i64 a0_4, AV.int IntKind.i64 a0_5], AV.int IntKind.i64 a1, AV.agg [AV.int IntKind.u8 a2_0, AV.int IntKind.u8 a2_1, AV.int IntKind.u8 a2_2, AV.int IntKind.u8 a2_3], AV.str a3], [] => some (a0_0, a0_1, a0_2, a0_3, a0_4, a0_5, a1, a2_0, a2_1, a2_2, a2_3, a3)
  | _, _ => none
theorem decAlaw17_EntryBack_ok (l : List AV) (H : List AE.Obj) (a : Alaw17_EntryBack) (h : decAlaw17_EntryBack l H = some a) : (l, H) = argslaw17_EntryBack a := by
  unfold decAlaw17_EntryBack at h
  split at h
  · cases h; rfl
  · cases h
def outlaw17_EntryBack : Alaw17_EntryBack → (AV → List AE.Obj → Ans) → Ylaw17_EntryBack → Ans := fun (a0_0, a0_1, a0_2, a0_3, a0_4, a0_5, a1, a2_0, a2_1, a2_2, a2_3, a3) K => fun r_y => K (AV.bool r_y) []
theorem fnlaw17_EntryBack_ok (a : Alaw17_EntryBack) (K : AV → List AE.Obj → Ans) : fnE Try.tab envlaw17_EntryBack noHint 0 70 5 Try.f5.ntmps Try.f5.results.toList annlaw17_EntryBack blaw17_EntryBack (argslaw17_EntryBack a).1 (argslaw17_EntryBack a).2 K = fnlaw17_EntryBack a (outlaw17_EntryBack a K) := by kernel_rfl
def vFlaw17_EntryBack (a : Alaw17_EntryBack) (K : AV → List AE.Obj → Ans) : Ans := bindO (fnDlaw17_EntryBack a) fun y => outlaw17_EntryBack a K y
def Flaw17_EntryBack : List AV → List AE.Obj → (AV → List AE.Obj → Ans) → Ans := fun l H K => bindO (decAlaw17_EntryBack l H) fun a => vFlaw17_EntryBack a K
theorem Flaw17_EntryBack_ok : FuncOk Try.prog 5 Flaw17_EntryBack := func_mkD (hint := noHint) (d := 0) (n := 70) mixed tabOk envlaw17_EntryBackOk Try.func5 (bodySome (by kernel_rfl)) (by decide +kernel) annlaw17_EntryBack_ok decAlaw17_EntryBack_ok fnlaw17_EntryBack_ok fnlaw17_EntryBack_nat
end Go.Proofs.R2
namespace Go.Proofs.R2
open Go Go.AE
end Go.Proofs.R2
namespace Go.Proofs.R2
open Go Go.AE Go.Plain

abbrev MayE (a b s : Int) : Prop := (0 ≤ a ∧ a ≤ 1125899906842624) ∧ (0 ≤ b ∧ b ≤ 1125899906842624) ∧ -1 ≤ s ∧ s < 8
def chkE (a b s : Int) : Int := if MayE a b s then 0 else 3
theorem within_eq (n b : Int) : fnDvector_within (n, b) = some (decide (0 ≤ n ∧ n ≤ b)) := by
  simp only [fnDvector_within, fnvector_within, nodeDvector_within_n0, nodevector_within_n0]
  by_cases h : n ≥ 0 <;> simp [h, bindO_pure, show 0 ≤ n ↔ n ≥ 0 from Iff.rfl]
theorem right_eq (a b : Int) : fnDvector_Right (a, b) = some (decide ((0 ≤ a ∧ a ≤ 1125899906842624) ∧ (0 ≤ b ∧ b ≤ 1125899906842624))) := by
  simp only [fnDvector_Right, fnvector_Right, nodeDvector_Right_n0, nodevector_Right_n0, within_eq, bindO_pure]
  by_cases h1 : 0 ≤ a ∧ a ≤ 1125899906842624
  · rw [dec_true h1, cond_true]
    show some _ = some _
    congr 1
    rw [decide_eq_decide]
    exact ⟨fun h => ⟨h1, h⟩, fun h => h.2⟩
  · rw [dec_false h1, cond_false, dec_false (fun h => h1 h.1)]
    rfl
theorem refright_eq (a b : Int) : fnDref05_Right (a, b) = some (decide ((0 ≤ a ∧ a ≤ 1125899906842624) ∧ (0 ≤ b ∧ b ≤ 1125899906842624))) := by
  simp only [fnDref05_Right, fnref05_Right, nodeDref05_Right_n0, noderef05_Right_n0]
  by_cases h1 : a ≥ 0 <;> by_cases h2 : a ≤ 1125899906842624 <;> by_cases h3 : b ≥ 0 <;>
    simp [h1, h2, h3, bindO_pure, show 0 ≤ a ↔ a ≥ 0 from Iff.rfl, show 0 ≤ b ↔ b ≥ 0 from Iff.rfl]
theorem chk_fin (p : Prop) [Decidable p] (s : Int) : (bindO (bif !decide p then some true else bif decide (s < -1) then some true else some (decide (s ≥ 8))) fun t16 => bif t16 then some (3 : Int) else some 0) = some (if p ∧ -1 ≤ s ∧ s < 8 then 0 else 3) := by
  by_cases hp : p
  · rw [dec_true hp, Bool.not_true, cond_false]
    by_cases h1 : s < -1
    · rw [dec_true h1, cond_true, bindO_pure, cond_true, if_neg (fun h => by omega)]
    · rw [dec_false h1, cond_false, bindO_pure]
      by_cases h2 : s ≥ 8
      · rw [dec_true h2, cond_true, if_neg (fun h => by omega)]
      · rw [dec_false h2, cond_false, if_pos ⟨hp, by omega, by omega⟩]
  · rw [dec_false hp, Bool.not_false, cond_true, bindO_pure, cond_true, if_neg (fun h => hp h.1)]
theorem chk_and (a b s : Int) : (if ((0 ≤ a ∧ a ≤ 1125899906842624) ∧ (0 ≤ b ∧ b ≤ 1125899906842624)) ∧ -1 ≤ s ∧ s < 8 then (0 : Int) else 3) = chkE a b s := by
  unfold chkE
  by_cases h : MayE a b s
  · rw [if_pos h, if_pos ⟨⟨h.1, h.2.1⟩, h.2.2⟩]
  · rw [if_neg h, if_neg (fun x => h ⟨x.1.1, x.1.2, x.2⟩)]
theorem check_eq (a b s : Int) : fnDentry_Check (a, b, s) = some (chkE a b s) := by
  simp only [fnDentry_Check, fnentry_Check, nodeDentry_Check_n0, nodeentry_Check_n0, right_eq, bindO_pure]
  rw [chk_fin, chk_and]
theorem refcheck_eq (a b s : Int) : fnDref17_Check (a, b, s) = some (chkE a b s) := by
  simp only [fnDref17_Check, fnref17_Check, nodeDref17_Check_n0, noderef17_Check_n0, refright_eq, bindO_pure]
  rw [chk_fin, chk_and]
abbrev E6 := Int × Int × Int × Int × Int × Int
abbrev In (n : Int) : Prop := -9223372036854775808 ≤ n ∧ n ≤ 9223372036854775807
def oneE (s : List UInt8) (a b k : Int) : List UInt8 := putN (putN (putN s a 7) b 7) (k + 1) 1
def bodyE (a b k c d l : Int) : List UInt8 := oneE (oneE [69] a b k) c d l
def sectE (a b k c d l : Int) : List UInt8 := padTo (bodyE a b k c d l ++ tail (bodyE a b k c d l))
def putE (a b k c d l : Int) : List UInt8 × Int := if ¬ MayE a b k then ([], 3) else if ¬ MayE c d l then ([], 3) else (sectE a b k c d l, 0)
theorem oneE_le (s : List UInt8) (a b k : Int) : (oneE s a b k).length ≤ s.length + 15 := by
  unfold oneE
  have h1 := putN_len s a 7
  have h2 := putN_len (putN s a 7) b 7
  have h3 := putN_len (putN (putN s a 7) b 7) (k + 1) 1
  omega
theorem vput_eq (s : List UInt8) (a b : Int) (hs : s.length ≤ 100000) : fnDvector_Put (s, a, b) = some (putN (putN s a 7) b 7) := by
  have h1 := putN_len s a 7
  have e1 := field_Put_eq s a 7 (by omega) (by omega)
  have e2 := field_Put_eq (putN s a 7) b 7 (by omega) (by omega)
  simp only [Int.cast_ofNat_Int] at e1 e2
  simp only [fnDvector_Put, fnvector_Put, e1, e2, bindO_pure]
theorem refvput_eq (s : List UInt8) (a b : Int) (ha : In a) (hb : In b) (hs : s.length ≤ 100000) : fnDref05_Put (s, a, b) = some (putN (putN s a 7) b 7) := by
  have h1 := putN_len s a 7
  have e1 := ref02_Put_eq s a 7 (by omega) ha (by omega)
  have e2 := ref02_Put_eq (putN s a 7) b 7 (by omega) hb (by omega)
  simp only [Int.cast_ofNat_Int] at e1 e2
  simp only [fnDref05_Put, fnref05_Put, e1, e2, bindO_pure]
theorem may_in {a b k : Int} (h : MayE a b k) : In a ∧ In b ∧ In (k + 1) ∧ IntKind.wrap .i64 (k + 1) = k + 1 := by
  obtain ⟨h1, h2, h3⟩ := h
  exact ⟨by omega, by omega, by omega, wrap64 (by omega) (by omega)⟩
def roundE (s : List UInt8) (a b k : Int) : Int ⊕ List UInt8 := if MayE a b k then .inr (oneE s a b k) else .inl 3
theorem round_eq (s : List UInt8) (a b k : Int) (hs : s.length ≤ 100) :
    (bindO (fnDentry_Check (a, b, k)) fun r => bif r != 0 then some (Sum.inl r) else bindO (fnDvector_Put (s, a, b)) fun r_2 => bindO (fnDfield_Put (r_2, IntKind.wrap IntKind.i64 (k + 1), 1)) fun r_3 => some (Sum.inr r_3) : Option (Int ⊕ List UInt8)) = some (roundE s a b k) := by
  rw [check_eq, bindO_pure]
  unfold roundE chkE
  by_cases h : MayE a b k
  · rw [if_pos h, if_pos h]
    obtain ⟨_, _, _, hw⟩ := may_in h
    have h1 := putN_len s a 7
    have h2 := putN_len (putN s a 7) b 7
    have e3 := field_Put_eq (putN (putN s a 7) b 7) (k + 1) 1 (by omega) (by omega)
    simp only [Int.cast_ofNat_Int] at e3
    rw [vput_eq s a b (by omega), hw, bindO_pure, e3]
    rfl
  · rw [if_neg h, if_neg h]; rfl
theorem refround_eq (s : List UInt8) (a b k : Int) (hs : s.length ≤ 100) :
    (bindO (fnDref17_Check (a, b, k)) fun r => bif r != 0 then some (Sum.inl r) else bindO (fnDref05_Put (s, a, b)) fun r_2 => bindO (fnDref02_Put (r_2, IntKind.wrap IntKind.i64 (k + 1), 1)) fun r_3 => some (Sum.inr r_3) : Option (Int ⊕ List UInt8)) = some (roundE s a b k) := by
  rw [refcheck_eq, bindO_pure]
  unfold roundE chkE
  by_cases h : MayE a b k
  · rw [if_pos h, if_pos h]
    obtain ⟨ha, hb, hk, hw⟩ := may_in h
    have h1 := putN_len s a 7
    have h2 := putN_len (putN s a 7) b 7
    have e3 := ref02_Put_eq (putN (putN s a 7) b 7) (k + 1) 1 (by omega) hk (by omega)
    simp only [Int.cast_ofNat_Int] at e3
    rw [refvput_eq s a b ha hb (by omega), hw, bindO_pure, e3]
    rfl
  · rw [if_neg h, if_neg h]; rfl
theorem put_tail (f : List UInt8 → Option (List UInt8)) (p : List UInt8 → Option (List UInt8)) (s : List UInt8) (hs : s.length ≤ 100) (hf : f s = some (tail s)) (hp : p (s ++ tail s) = some (padTo (s ++ tail s))) :
    (bindO (f s) fun r => bif Nat.ble (s.length + r.length) 9223372036854775807 then bindO (p (s ++ r)) fun r_2 => some (r_2, (0 : Int)) else none) = some (padTo (s ++ tail s), 0) := by
  rw [hf, bindO_pure, tail_length, ble_true (by omega), cond_true, hp, bindO_pure]
theorem put_eq (a b k c d l : Int) : fnDentry_Put (a, b, k, c, d, l) = some (putE a b k c d l) := by
  have r1 := round_eq [69] a b k (by simp)
  have l1 := oneE_le [69] a b k
  simp only [List.length_cons, List.length_nil] at l1
  have r2 := round_eq (oneE [69] a b k) c d l (by omega)
  have l2 := oneE_le (oneE [69] a b k) c d l
  simp only [fnDentry_Put, fnentry_Put, nodeDentry_Put_n0, nodeentry_Put_n0, nodeDentry_Put_n1v2, nodeentry_Put_n1v2, r1, bindO_pure]
  unfold putE
  by_cases h : MayE a b k
  · have e1 : roundE [69] a b k = .inr (oneE [69] a b k) := by unfold roundE; rw [if_pos h]
    rw [if_neg (fun x => x h), e1, Sum.elim_inr]
    simp only [nodeDentry_Put_n1, nodeentry_Put_n1, r2, bindO_pure]
    by_cases h' : MayE c d l
    · have e2 : roundE (oneE [69] a b k) c d l = .inr (bodyE a b k c d l) := by unfold roundE; rw [if_pos h']; rfl
      rw [if_neg (fun x => x h'), e2, Sum.elim_inr]
      simp only [nodeDentry_Put_n1v1, nodeentry_Put_n1v1, bindO_pure, Sum.elim_inr]
      have hb : (bodyE a b k c d l).length ≤ 100 := by unfold bodyE; omega
      exact put_tail _ _ _ hb (cyclic_Tail_eq _ (by omega)) (region_Pad_eq _ (by rw [List.length_append, tail_length]; omega))
    · have e2 : roundE (oneE [69] a b k) c d l = .inl 3 := by unfold roundE; rw [if_neg h']
      rw [if_pos h', e2]
      rfl
  · have e1 : roundE [69] a b k = .inl 3 := by unfold roundE; rw [if_neg h]
    rw [if_pos h, e1]
    rfl
theorem refput_eq (a b k c d l : Int) : fnDref17_Put (a, b, k, c, d, l) = some (putE a b k c d l) := by
  have r1 := refround_eq [69] a b k (by simp)
  have l1 := oneE_le [69] a b k
  simp only [List.length_cons, List.length_nil] at l1
  have r2 := refround_eq (oneE [69] a b k) c d l (by omega)
  have l2 := oneE_le (oneE [69] a b k) c d l
  simp only [fnDref17_Put, fnref17_Put, nodeDref17_Put_n0, noderef17_Put_n0, nodeDref17_Put_n1v2, noderef17_Put_n1v2, r1, bindO_pure]
  unfold putE
  by_cases h : MayE a b k
  · have e1 : roundE [69] a b k = .inr (oneE [69] a b k) := by unfold roundE; rw [if_pos h]
    rw [if_neg (fun x => x h), e1, Sum.elim_inr]
    simp only [nodeDref17_Put_n1, noderef17_Put_n1, r2, bindO_pure]
    by_cases h' : MayE c d l
    · have e2 : roundE (oneE [69] a b k) c d l = .inr (bodyE a b k c d l) := by unfold roundE; rw [if_pos h']; rfl
      rw [if_neg (fun x => x h'), e2, Sum.elim_inr]
      simp only [nodeDref17_Put_n1v1, noderef17_Put_n1v1, bindO_pure, Sum.elim_inr]
      have hb : (bodyE a b k c d l).length ≤ 100 := by unfold bodyE; omega
      exact put_tail _ _ _ hb (ref03_Tail_eq _ (by omega)) (ref09_Pad_eq _ (by rw [List.length_append, tail_length]; omega))
    · have e2 : roundE (oneE [69] a b k) c d l = .inl 3 := by unfold roundE; rw [if_neg h']
      rw [if_pos h', e2]
      rfl
  · have e1 : roundE [69] a b k = .inl 3 := by unfold roundE; rw [if_neg h]
    rw [if_pos h, e1]
    rfl
/-- The entries that bytes say. -/
abbrev nE (t : List UInt8) (i k : Nat) : Int := ((num ((t.drop i).take k) : Nat) : Int)
abbrev R7 := Int × Int × Int × Int × Int × Int × Int
def finE (p : List UInt8 × Int) (t : List UInt8) (a b k c d l : Int) : R7 := if p = (t, 0) then (a, b, k, c, d, l, 0) else (0, 0, 0, 0, 0, 0, 4)
def getE (t : List UInt8) : R7 :=
  if t.length ≠ 64 then (0, 0, 0, 0, 0, 0, 12) else if t.take 1 ≠ [69] then (0, 0, 0, 0, 0, 0, 4) else if (t.drop 31).take 4 ≠ tail (t.take 31) then (0, 0, 0, 0, 0, 0, 5) else
    finE (putE (nE t 1 7) (nE t 8 7) (nE t 15 1 - 1) (nE t 16 7) (nE t 23 7) (nE t 30 1 - 1)) t (nE t 1 7) (nE t 8 7) (nE t 15 1 - 1) (nE t 16 7) (nE t 23 7) (nE t 30 1 - 1)
theorem finE_eq (p : List UInt8 × Int) (t : List UInt8) (a b k c d l : Int) :
    (bindO (bif p.2 != 0 then some true else some (!p.1 == t) : Option Bool) fun x => bif x then some (0, 0, 0, 0, 0, 0, 4) else some (a, b, k, c, d, l, 0)) = some (finE p t a b k c d l) := by
  obtain ⟨s, e⟩ := p
  unfold finE
  by_cases he : e = 0
  · subst he
    by_cases hs : s = t
    · subst hs; simp [bindO_pure]
    · have : (s == t) = false := by simpa using hs
      simp [hs, this, bindO_pure]
  · have : (e != 0) = true := by simpa using he
    simp [this, he, bindO_pure]
theorem get_tail (t : List UInt8) (pp : List UInt8 × Int) (a b k c d l : Int) :
    (unP (fun r_0 r_1 => bindO (nodeDentry_Get_n2 (t, r_0, r_1, a, b, k, c, d, l)) fun x => bif x then some (0, 0, 0, 0, 0, 0, 4) else some (a, b, k, c, d, l, 0)) pp : Option R7) = some (finE pp t a b k c d l) := by
  obtain ⟨s, e⟩ := pp
  simp only [unP, nodeDentry_Get_n2, nodeentry_Get_n2]
  exact finE_eq (s, e) t a b k c d l
theorem refget_tail (t : List UInt8) (pp : List UInt8 × Int) (a b k c d l : Int) :
    (unP (fun r_0 r_1 => bindO (nodeDref17_Get_n2 (t, r_0, r_1, a, b, k, c, d, l)) fun x => bif x then some (0, 0, 0, 0, 0, 0, 4) else some (a, b, k, c, d, l, 0)) pp : Option R7) = some (finE pp t a b k c d l) := by
  obtain ⟨s, e⟩ := pp
  simp only [unP, nodeDref17_Get_n2, noderef17_Get_n2]
  exact finE_eq (s, e) t a b k c d l
theorem one_byte (s : List UInt8) (h : s.length = 1) : 0 ≤ ((num s : Nat) : Int) ∧ ((num s : Nat) : Int) < 256 := by
  have := num_lt s
  rw [h] at this
  omega
theorem one_wrap (t : List UInt8) (i : Nat) (h : i + 1 ≤ t.length) : IntKind.wrap .i64 (nE t i 1 - 1) = nE t i 1 - 1 := by
  have := one_byte ((t.drop i).take 1) (by rw [List.length_take, List.length_drop]; omega)
  exact wrap64 (x := ((num ((t.drop i).take 1) : Nat) : Int) - 1) (by omega) (by omega)
theorem read3 (t : List UInt8) (i : Nat) (h : i + 15 ≤ t.length) (hl : t.length ≤ 1000) :
    (bindO (fnDfield_Reader_Num (7, t.drop i, 0)) (unP fun r => unP fun o0_0 o0_1 => bindO (fnDfield_Reader_Num (7, o0_0, o0_1)) (unP fun r_2 => unP fun o0_0_2 o0_1_2 => bindO (fnDfield_Reader_Num (1, o0_0_2, o0_1_2)) (unP fun r_3 => unP fun o0_0_3 o0_1_3 =>
      some (r, r_2, IntKind.wrap IntKind.i64 (r_3 - 1), o0_0_3, o0_1_3)))) : Option (Int × Int × Int × List UInt8 × Int)) = some (nE t i 7, nE t (i + 7) 7, nE t (i + 14) 1 - 1, t.drop (i + 15), 0) := by
  have n1 := Reader_Num_eq 7 (t.drop i) (by omega) (by rw [List.length_drop]; omega) (by rw [List.length_drop]; omega)
  have n2 := Reader_Num_eq 7 (t.drop (i + 7)) (by omega) (by rw [List.length_drop]; omega) (by rw [List.length_drop]; omega)
  have n3 := Reader_Num_eq 1 (t.drop (i + 14)) (by omega) (by rw [List.length_drop]; omega) (by rw [List.length_drop]; omega)
  simp only [Int.cast_ofNat_Int, List.drop_drop, Nat.add_assoc, Nat.reduceAdd] at n1 n2 n3
  rw [n1, bindO_pure, unP_mk, unP_mk, n2, bindO_pure, unP_mk, unP_mk, n3, bindO_pure, unP_mk, unP_mk]
  have w := one_wrap t (i + 14) (by omega)
  rw [w]
theorem get_eq (t : List UInt8) (hl : t.length ≤ 1000000000000) : fnDentry_Get t = some (getE t) := by
  unfold getE
  simp only [fnDentry_Get, fnentry_Get]
  by_cases h64 : t.length = 64
  · have e1 : ((t.length : Int) != 64) = false := by rw [h64]; rfl
    rw [if_neg (fun x => x h64), e1, cond_false]
    simp only [fnDfield_New, fnfield_New, bindO_pure]
    have b1 := Reader_Bytes_eq 1 t (by omega) hl
    simp only [Int.cast_ofNat_Int] at b1
    rw [b1, bindO_pure, unP_mk, unP_mk]
    by_cases hm : t.take 1 = [69]
    · rw [if_neg (fun x => x hm), hm, beq_self_eq_true, Bool.not_true, cond_false]
      have b4 := Reader_Bytes_eq 4 (t.drop 31) (by rw [List.length_drop]; omega) (by rw [List.length_drop]; omega)
      have n0 : nodeDentry_Get_n0 (t, t.drop 1, 0) = some (nE t 1 7, nE t 8 7, nE t 15 1 - 1, nE t 16 7, nE t 23 7, nE t 30 1 - 1, t.drop 31, 0) := by
        have x1 := read3 t 1 (by omega) (by omega)
        have x2 := read3 t 16 (by omega) (by omega)
        simp only [nodeDentry_Get_n0, nodeentry_Get_n0, nodeDentry_Get_n1v1, nodeentry_Get_n1v1, x1, bindO_pure, unP_mk, nodeDentry_Get_n1v2, nodeentry_Get_n1v2, x2, nodeDentry_Get_n1, nodeentry_Get_n1]
      rw [n0, bindO_pure, unP_mk, unP_mk, unP_mk, unP_mk, unP_mk, unP_mk, unP_mk, inR_true (show (0 : Int) ≤ 31 ∧ (31 : Int) < ((t.length + 1 : Nat) : Int) by omega), cond_true, cyclic_Tail_eq _ (show (t.take 31).length ≤ 1000000000000 by rw [List.length_take]; omega), bindO_pure, tail_length, b4, bindO_pure, unP_mk, unP_mk]
      generalize tail (t.take 31) = tl
      by_cases ht : (t.drop 31).take 4 = tl
      · rw [if_neg (fun x => x ht), ht, beq_self_eq_true, Bool.not_true, cond_false, put_eq, bindO_pure]
        exact get_tail t _ _ _ _ _ _ _
      · have : ((t.drop 31).take 4 == tl) = false := beq_eq_false_iff_ne.2 ht
        rw [if_pos ht, this]
        rfl
    · have : (t.take 1 == [69]) = false := beq_eq_false_iff_ne.2 hm
      rw [if_pos hm, this]
      rfl
  · have e1 : ((t.length : Int) != 64) = true := by rw [bne_iff_ne]; omega
    rw [if_pos h64, e1]
    rfl
theorem refnumber_eq (s : List UInt8) (hs : s.length ≤ 7) : fnDref17_number s = some ((num s : Nat) : Int) := by
  have := number_loop (fun s => stepDref17_number_n0 s) s hs (fun n j h => by simp only [stepDref17_number_n0, stepref17_number_n0, h, cond_true]) (fun n j h => by simp only [stepDref17_number_n0, stepref17_number_n0, h, cond_false])
  simp only [fnDref17_number, fnref17_number, this, bindO_pure]
theorem refread3 (t : List UInt8) (i : Nat) (h : i + 15 ≤ t.length) :
    (bif inR 7 (List.length (List.take 15 (List.drop i t)) + 1) then bindO (fnDref17_number (List.take 7 (List.take 15 (List.drop i t)))) fun r => bif inR 14 (List.length (List.take 15 (List.drop i t)) + 1) && true then
      bindO (fnDref17_number (List.take (14 - 7) (List.drop 7 (List.take 15 (List.drop i t))))) fun r_2 => bindO (nth (List.take 15 (List.drop i t)) 14) fun x => some (r, r_2, IntKind.wrap IntKind.i64 (IntKind.wrap IntKind.i64 (x.toNat : Int) - 1)) else none else none : Option (Int × Int × Int)) =
      some (nE t i 7, nE t (i + 7) 7, nE t (i + 14) 1 - 1) := by
  have hlen : (List.take 15 (List.drop i t)).length = 15 := by rw [List.length_take, List.length_drop]; omega
  have e1 : List.take 7 (List.take 15 (List.drop i t)) = List.take 7 (List.drop i t) := by rw [List.take_take]; rfl
  have e2 : List.take (14 - 7) (List.drop 7 (List.take 15 (List.drop i t))) = List.take 7 (List.drop (i + 7) t) := by
    rw [List.drop_take, List.take_take, List.drop_drop]; rfl
  have hget : t[i + 14]? = some t[i + 14] := List.getElem?_eq_getElem (by omega)
  generalize t[i + 14] = c at hget
  have e3 : nth (List.take 15 (List.drop i t)) 14 = some c := by
    have : nth (List.take 15 (List.drop i t)) ((14 : Nat) : Int) = some c := by
      rw [nth_nat, List.getElem?_take_of_lt (by omega), List.getElem?_drop, hget]
    exact this
  have e4 : List.take 1 (List.drop (i + 14) t) = [c] := by
    rw [List.take_one, List.head?_drop, hget]; rfl
  have hc : c.toNat < 256 := c.toNat_lt
  have e5 : nE t (i + 14) 1 = ((c.toNat : Nat) : Int) := by
    show ((num (List.take 1 (List.drop (i + 14) t)) : Nat) : Int) = _
    rw [e4]; simp [num]
  rw [hlen, inR_true (show (0 : Int) ≤ 7 ∧ (7 : Int) < ((15 + 1 : Nat) : Int) by omega), cond_true, e1, refnumber_eq _ (by rw [List.length_take]; omega), bindO_pure, inR_true (show (0 : Int) ≤ 14 ∧ (14 : Int) < ((15 + 1 : Nat) : Int) by omega), Bool.and_self, cond_true, e2,
    refnumber_eq _ (by rw [List.length_take]; omega), bindO_pure, e3, bindO_pure, e5, wrapN (by omega), wrap64 (by omega) (by omega)]
theorem refget_eq (t : List UInt8) (hl : t.length ≤ 1000000000000) : fnDref17_Get t = some (getE t) := by
  unfold getE
  simp only [fnDref17_Get, fnref17_Get]
  by_cases h64 : t.length = 64
  · have e1 : ((t.length : Int) != 64) = false := by rw [h64]; rfl
    rw [if_neg (fun x => x h64), e1, cond_false]
    obtain ⟨c, r, hcr⟩ : ∃ c r, t = c :: r := by
      cases t with
      | nil => simp at h64
      | cons c r => exact ⟨c, r, rfl⟩
    have h0 : nth t 0 = some c := by rw [hcr]; rfl
    have ht1 : t.take 1 = [c] := by rw [hcr]; rfl
    rw [h0, bindO_pure, ht1]
    by_cases hm : c = 69
    · have e2 : ((c.toNat : Int) != 69) = false := by rw [hm]; rfl
      rw [e2, cond_false, if_neg (fun x => x (by rw [hm])), inR_true (show (0 : Int) ≤ 35 ∧ (35 : Int) < ((t.length + 1 : Nat) : Int) by omega), Bool.and_self, cond_true, inR_true (show (0 : Int) ≤ 31 ∧ (31 : Int) < ((t.length + 1 : Nat) : Int) by omega), cond_true,
        ref03_Tail_eq _ (show (t.take 31).length ≤ 1000000000000 by rw [List.length_take]; omega), bindO_pure]
      have e35 : List.take (35 - 31) (List.drop 31 t) = List.take 4 (List.drop 31 t) := rfl
      rw [e35]
      generalize tail (t.take 31) = tl
      by_cases ht : (t.drop 31).take 4 = tl
      · have n0 : nodeDref17_Get_n0 t = some (nE t 1 7, nE t 8 7, nE t 15 1 - 1, nE t 16 7, nE t 23 7, nE t 30 1 - 1) := by
          have x1 := refread3 t 1 (by omega)
          have x2 := refread3 t 16 (by omega)
          have i1 : (inR 16 (t.length + 1) && true) = true := by rw [inR_true (by omega)]; rfl
          have i2 : (inR 31 (t.length + 1) && true) = true := by rw [inR_true (by omega)]; rfl
          simp only [Nat.reduceAdd] at x1 x2
          simp only [nodeDref17_Get_n0, noderef17_Get_n0, nodeDref17_Get_n1v1, noderef17_Get_n1v1, i1, cond_true, show (16 : Nat) - 1 = 15 from rfl, x1, bindO_pure, unP_mk, nodeDref17_Get_n1v2, noderef17_Get_n1v2, i2, show (31 : Nat) - 16 = 15 from rfl, x2, nodeDref17_Get_n1, noderef17_Get_n1]
        rw [if_neg (fun x => x ht), ht, beq_self_eq_true, Bool.not_true, cond_false, n0, bindO_pure, unP_mk, unP_mk, unP_mk, unP_mk, unP_mk, refput_eq, bindO_pure]
        exact refget_tail t _ _ _ _ _ _ _
      · have : ((t.drop 31).take 4 == tl) = false := beq_eq_false_iff_ne.2 ht
        rw [if_pos ht, this]
        rfl
    · have e2 : ((c.toNat : Int) != 69) = true := by
        rw [bne_iff_ne]
        intro h
        apply hm
        have : c.toNat = (69 : UInt8).toNat := by
          have : c.toNat = 69 := by omega
          rw [this]; rfl
        exact UInt8.toNat_inj.1 this
      rw [e2, if_pos (fun x => hm (by simpa using x))]
      rfl
  · have e1 : ((t.length : Int) != 64) = true := by rw [bne_iff_ne]; omega
    rw [if_pos h64, e1]
    rfl
theorem works17 : fnDlaw17_works () = some true := by kernel_rfl
theorem EntryPuts_true (a b k c d l : Int) : fnDlaw17_EntryPuts (a, b, k, c, d, l) = some true := by
  simp only [fnDlaw17_EntryPuts, fnlaw17_EntryPuts, works17, put_eq, refput_eq, bindO_pure, Bool.not_true, cond_false]
  generalize putE a b k c d l = p
  obtain ⟨s, e⟩ := p
  simp only [unP, nodeDlaw17_EntryPuts_n0, nodelaw17_EntryPuts_n0, check_eq, refcheck_eq, bindO_pure, beq_self_eq_true, cond_true]
theorem EntryGets_true (t : List UInt8) (h : t.length ≤ 9223372036854775807) : fnDlaw17_EntryGets t = some true := by
  simp only [fnDlaw17_EntryGets, fnlaw17_EntryGets, works17, bindO_pure, Bool.not_true, cond_false]
  by_cases h1 : (t.length : Int) > 3000
  · rw [dec_true h1]; rfl
  · rw [dec_false h1, cond_false, get_eq t (by omega), refget_eq t (by omega)]
    generalize getE t = g
    obtain ⟨a, b, k, c, d, l, e⟩ := g
    simp only [bindO_pure, unP, nodeDlaw17_EntryGets_n0, nodelaw17_EntryGets_n0, beq_self_eq_true, Bool.and_self, cond_true]
end Go.Proofs.R2
