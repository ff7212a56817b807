/- What the functions that PendingDoesSaid reaches compute: part 1. -/
import Derived.Test.YtcmbbkhnocjgeaaAe2
import Derived.Test.YtcmbbkhnocjgeaaProg
import Derived.Test.YtcmbbkhnocjgeaaChecked
import Derived.Eval
set_option linter.unusedVariables false
set_option linter.unusedSimpArgs false
namespace Go.Proofs
def Try.tab : Go.AE.Tab := [
  (1, ⟨.sc, 1, 8, [.nilf], none⟩),
  (2, ⟨.sc, 1, 8, [.int .i64 0], some (.int .i64)⟩),
  (3, ⟨.sc, 1, 8, [.int .i64 0], some (.int .i64)⟩),
  (4, ⟨.sc, 1, 1, [.bool false], some .bool⟩),
  (5, ⟨.sc, 1, 1, [.int .u8 0], some (.int .u8)⟩),
  (7, ⟨.struct [(2, 0), (3, 1), (4, 2), (6, 3)], 4, 24, [.int .i64 0, .int .i64 0, .bool false, .int .u8 0], some (.st (.pair (.int .i64) (.pair (.int .i64) (.pair .bool (.int .u8)))))⟩),
  (9, ⟨.sc, 1, 16, [.str []], some .str⟩),
  (12, ⟨.sc, 1, 8, [.int .u64 0], some (.int .u64)⟩),
  (20, ⟨.sc, 1, 16, [.nili], none⟩),
  (21, ⟨.sc, 1, 4, [.int .i32 0], some (.int .i32)⟩),
  (22, ⟨.struct [(3, 0), (3, 1), (3, 2)], 3, 24, [.int .i64 0, .int .i64 0, .int .i64 0], some (.st (.pair (.int .i64) (.pair (.int .i64) (.int .i64))))⟩),
  (23, ⟨.struct [(3, 0), (3, 1), (3, 2)], 3, 24, [.int .i64 0, .int .i64 0, .int .i64 0], some (.st (.pair (.int .i64) (.pair (.int .i64) (.int .i64))))⟩),
  (24, ⟨.sc, 1, 8, [.nilf], none⟩),
  (25, ⟨.sc, 1, 8, [.int .i64 0], some (.int .i64)⟩),
  (27, ⟨.sc, 1, 8, [.nilf], none⟩),
  (29, ⟨.sc, 1, 8, [.nilf], none⟩),
  (30, ⟨.sc, 1, 8, [.nilf], none⟩),
  (31, ⟨.sc, 1, 8, [.nilf], none⟩),
  (32, ⟨.slice 74, 1, 24, [.nils], some (.list (.st (.pair (.int .i64) (.int .i64))))⟩),
  (33, ⟨.sc, 1, 8, [.nilf], none⟩),
  (34, ⟨.sc, 1, 8, [.nilf], none⟩),
  (35, ⟨.sc, 1, 8, [.nilf], none⟩),
  (36, ⟨.sc, 1, 8, [.nilf], none⟩),
  (37, ⟨.slice 3, 1, 24, [.nils], some (.list (.int .i64))⟩),
  (38, ⟨.sc, 1, 8, [.nilf], none⟩),
  (39, ⟨.sc, 1, 8, [.nilf], none⟩),
  (40, ⟨.slice 41, 1, 24, [.nils], some (.list (.list .str))⟩),
  (41, ⟨.slice 9, 1, 24, [.nils], some (.list .str)⟩),
  (42, ⟨.ptr 77, 1, 8, [.nilp], none⟩),
  (43, ⟨.sc, 1, 8, [.nilf], none⟩),
  (44, ⟨.slice 46, 1, 24, [.nils], some (.list (.st (.pair (.int .i64) (.int .i64))))⟩),
  (45, ⟨.struct [(3, 0), (3, 1)], 2, 16, [.int .i64 0, .int .i64 0], some (.st (.pair (.int .i64) (.int .i64)))⟩),
  (46, ⟨.struct [(3, 0), (3, 1)], 2, 16, [.int .i64 0, .int .i64 0], some (.st (.pair (.int .i64) (.int .i64)))⟩),
  (47, ⟨.sc, 1, 8, [.nilf], none⟩),
  (48, ⟨.sc, 1, 8, [.nilf], none⟩),
  (49, ⟨.sc, 1, 8, [.nilf], none⟩),
  (50, ⟨.sc, 1, 8, [.nilf], none⟩),
  (51, ⟨.sc, 1, 8, [.nilf], none⟩),
  (52, ⟨.sc, 1, 8, [.nilf], none⟩),
  (53, ⟨.slice 62, 1, 24, [.nils], some (.list (.st (.pair (.int .i64) (.pair (.int .i64) (.list (.int .i64))))))⟩),
  (54, ⟨.sc, 1, 8, [.nilf], none⟩),
  (55, ⟨.ptr 85, 1, 8, [.nilp], none⟩),
  (56, ⟨.sc, 1, 8, [.nilf], none⟩),
  (57, ⟨.ptr 60, 1, 8, [.nilp], none⟩),
  (58, ⟨.slice 90, 1, 24, [.nils], some (.list (.st (.pair (.int .i64) (.list (.int .i64)))))⟩),
  (59, ⟨.struct [(58, 0), (3, 1)], 2, 32, [.nils, .int .i64 0], some (.st (.pair (.list (.st (.pair (.int .i64) (.list (.int .i64))))) (.int .i64)))⟩),
  (60, ⟨.struct [(58, 0), (3, 1)], 2, 32, [.nils, .int .i64 0], some (.st (.pair (.list (.st (.pair (.int .i64) (.list (.int .i64))))) (.int .i64)))⟩),
  (61, ⟨.struct [(3, 0), (3, 1), (37, 2)], 3, 40, [.int .i64 0, .int .i64 0, .nils], some (.st (.pair (.int .i64) (.pair (.int .i64) (.list (.int .i64)))))⟩),
  (62, ⟨.struct [(3, 0), (3, 1), (37, 2)], 3, 40, [.int .i64 0, .int .i64 0, .nils], some (.st (.pair (.int .i64) (.pair (.int .i64) (.list (.int .i64)))))⟩),
  (63, ⟨.sc, 1, 8, [.nilf], none⟩),
  (64, ⟨.sc, 1, 8, [.nilf], none⟩),
  (65, ⟨.sc, 1, 8, [.nilf], none⟩),
  (66, ⟨.sc, 1, 8, [.nilf], none⟩),
  (67, ⟨.sc, 1, 8, [.nilf], none⟩),
  (68, ⟨.sc, 1, 8, [.nilf], none⟩),
  (69, ⟨.sc, 1, 8, [.nilf], none⟩),
  (70, ⟨.struct [(3, 0), (3, 1), (3, 2), (3, 3), (3, 4), (3, 5), (3, 6)], 7, 56, [.int .i64 0, .int .i64 0, .int .i64 0, .int .i64 0, .int .i64 0, .int .i64 0, .int .i64 0], some (.st (.pair (.int .i64) (.pair (.int .i64) (.pair (.int .i64) (.pair (.int .i64) (.pair (.int .i64) (.pair (.int .i64) (.int .i64))))))))⟩),
  (71, ⟨.struct [(3, 0), (3, 1), (3, 2), (3, 3), (3, 4), (3, 5), (3, 6)], 7, 56, [.int .i64 0, .int .i64 0, .int .i64 0, .int .i64 0, .int .i64 0, .int .i64 0, .int .i64 0], some (.st (.pair (.int .i64) (.pair (.int .i64) (.pair (.int .i64) (.pair (.int .i64) (.pair (.int .i64) (.pair (.int .i64) (.int .i64))))))))⟩),
  (72, ⟨.sc, 1, 8, [.nilf], none⟩),
  (73, ⟨.sc, 1, 8, [.nilf], none⟩),
  (74, ⟨.array 2 3, 2, 16, [.int .i64 0, .int .i64 0], some (.st (.pair (.int .i64) (.int .i64)))⟩),
  (75, ⟨.slice 80, 1, 24, [.nils], some (.list (.st (.pair (.int .i64) (.list .str))))⟩),
  (76, ⟨.struct [(75, 0), (3, 1)], 2, 32, [.nils, .int .i64 0], some (.st (.pair (.list (.st (.pair (.int .i64) (.list .str)))) (.int .i64)))⟩),
  (77, ⟨.struct [(75, 0), (3, 1)], 2, 32, [.nils, .int .i64 0], some (.st (.pair (.list (.st (.pair (.int .i64) (.list .str)))) (.int .i64)))⟩),
  (78, ⟨.sc, 1, 8, [.nilf], none⟩),
  (79, ⟨.struct [(3, 0), (41, 1)], 2, 32, [.int .i64 0, .nils], some (.st (.pair (.int .i64) (.list .str)))⟩),
  (80, ⟨.struct [(3, 0), (41, 1)], 2, 32, [.int .i64 0, .nils], some (.st (.pair (.int .i64) (.list .str)))⟩),
  (81, ⟨.ptr 9, 1, 8, [.nilp], none⟩),
  (82, ⟨.sc, 1, 8, [.nilf], none⟩),
  (83, ⟨.slice 88, 1, 24, [.nils], some (.list (.st (.pair (.int .i64) (.list (.int .i64)))))⟩),
  (84, ⟨.struct [(83, 0), (3, 1)], 2, 32, [.nils, .int .i64 0], some (.st (.pair (.list (.st (.pair (.int .i64) (.list (.int .i64))))) (.int .i64)))⟩),
  (85, ⟨.struct [(83, 0), (3, 1)], 2, 32, [.nils, .int .i64 0], some (.st (.pair (.list (.st (.pair (.int .i64) (.list (.int .i64))))) (.int .i64)))⟩),
  (86, ⟨.sc, 1, 8, [.nilf], none⟩),
  (87, ⟨.struct [(3, 0), (37, 1)], 2, 32, [.int .i64 0, .nils], some (.st (.pair (.int .i64) (.list (.int .i64))))⟩),
  (88, ⟨.struct [(3, 0), (37, 1)], 2, 32, [.int .i64 0, .nils], some (.st (.pair (.int .i64) (.list (.int .i64))))⟩),
  (89, ⟨.struct [(3, 0), (37, 1)], 2, 32, [.int .i64 0, .nils], some (.st (.pair (.int .i64) (.list (.int .i64))))⟩),
  (90, ⟨.struct [(3, 0), (37, 1)], 2, 32, [.int .i64 0, .nils], some (.st (.pair (.int .i64) (.list (.int .i64))))⟩),
  (91, ⟨.ptr 3, 1, 8, [.nilp], none⟩),
  (92, ⟨.sc, 1, 8, [.nilf], none⟩),
  (93, ⟨.sc, 1, 8, [.nilf], none⟩),
  (99, ⟨.sc, 1, 4, [.int .u32 0], some (.int .u32)⟩),
  (102, ⟨.sc, 1, 8, [.nilf], none⟩),
  (103, ⟨.ptr 5, 1, 8, [.nilp], none⟩)]
def Try.hint : Go.AE.Hint := fun b =>
  cond (Nat.beq b 16384) [1, 3, 4, 5, 6, 7] (
  cond (Nat.beq b 16386) [1, 3, 4, 5, 6, 13] (
  cond (Nat.beq b 16388) [3, 4, 6, 16] (
  cond (Nat.beq b 20480) [0, 1, 5, 6, 7, 8] (
  cond (Nat.beq b 20482) [0, 1, 5, 6, 9, 10] (
  cond (Nat.beq b 20484) [0, 5, 6, 9, 13] (
  cond (Nat.beq b 20486) [0, 5, 6, 9, 13, 14] (
  cond (Nat.beq b 20488) [5, 6, 15] (
  cond (Nat.beq b 24576) [0, 3, 4, 5, 6] (
  cond (Nat.beq b 57344) [1, 3, 4] (
  cond (Nat.beq b 57346) [1, 3, 5] (
  cond (Nat.beq b 57348) [1, 3, 6] (
  cond (Nat.beq b 57350) [1, 3, 7] (
  cond (Nat.beq b 77824) [1, 2, 7, 8] (
  cond (Nat.beq b 81920) [0, 1, 2, 6] (
  cond (Nat.beq b 94208) [0, 1, 4] (
  cond (Nat.beq b 102400) [0, 3, 5, 6, 14, 15, 16] (
  cond (Nat.beq b 106496) [1, 12, 13, 14] (
  cond (Nat.beq b 114688) [0, 3, 4] (
  cond (Nat.beq b 131072) [0, 1, 5] (
  cond (Nat.beq b 135168) [0, 3, 5, 6, 14, 15, 16] (
  cond (Nat.beq b 139264) [0, 1, 5, 6, 7] (
  cond (Nat.beq b 139266) [0, 1, 5, 6, 7, 8, 9] (
  cond (Nat.beq b 143360) [0, 3, 11, 12, 13] (
  cond (Nat.beq b 147456) [0, 3, 4] (
  cond (Nat.beq b 155648) [1, 12, 13, 14] (
  cond (Nat.beq b 159744) [0, 1, 5] (
  cond (Nat.beq b 176128) [1, 5, 8, 9, 10] (
  cond (Nat.beq b 180224) [1, 7, 8, 9] (
  cond (Nat.beq b 184320) [1, 5, 8, 9, 10] (
  cond (Nat.beq b 188416) [1, 7, 8, 9] (
  cond (Nat.beq b 192512) [0, 1, 5] (
  []))))))))))))))))))))))))))))))))
end Go.Proofs
namespace Go.Proofs.R1
open Go Go.AE
theorem tabOk : TabOk Try.prog Try.tab := tabOk_of_check (by kernel_rfl)
theorem mixed : Try.prog.follows .mixedOrders = true := Checked.mixed Try.checked
end Go.Proofs.R1
namespace Go.Proofs.R1
open Go Go.AE
--@ pending_New_int
noncomputable def envpending_New_int : Env := []
theorem envpending_New_intOk : EnvOk Try.prog envpending_New_int := EnvOk.nil
noncomputable def bpending_New_int : Code := Try.f29.body.getD .skip
noncomputable def annpending_New_int : Ann := .none
theorem annpending_New_int_ok : AnnOk Try.prog 3 bpending_New_int annpending_New_int := (annOk_none _ _ _)
abbrev Apending_New_int := Unit
abbrev Ypending_New_int := Unit
def fnpending_New_int {β : Type} : Apending_New_int → (Ypending_New_int → Option β) → Option β := fun _ exit => (exit ())
def fnDpending_New_int (a : Apending_New_int) : Option Ypending_New_int := fnpending_New_int a some
theorem fnpending_New_int_nat (a : Apending_New_int) (k : Ypending_New_int → Ans) : fnpending_New_int a k = bindO (fnDpending_New_int a) k := by
  obtain z := a
  simp only [fnDpending_New_int, fnpending_New_int, bindO_cond, bindO_assoc, bindO_none, bindO_pure, bindO_elim, bindO_unP]
def argspending_New_int : Apending_New_int → List AV × List AE.Obj := fun _ => ([], [])
def decApending_New_int (l : List AV) (H : List AE.Obj) : Option Apending_New_int := match l, H with
  | [], [] => some ()
  | _, _ => none
theorem decApending_New_int_ok (l : List AV) (H : List AE.Obj) (a : Apending_New_int) (h : decApending_New_int l H = some a) : (l, H) = argspending_New_int a := by
  unfold decApending_New_int at h
  split at h
  · cases h; rfl
  · cases h
def outpending_New_int : Apending_New_int → (AV → List AE.Obj → Ans) → Ypending_New_int → Ans := fun _ K => fun _ => K (AV.ptr 0 0) [AE.Obj.cells [AV.own 1, AV.int IntKind.i64 (0)], Obj.arr (Ty.st (Ty.pair (Ty.int IntKind.i64) (Ty.list (Ty.int IntKind.i64)))) ([])]
theorem fnpending_New_int_ok (a : Apending_New_int) (K : AV → List AE.Obj → Ans) : fnE Try.tab envpending_New_int noHint 0 70 29 Try.f29.ntmps Try.f29.results.toList annpending_New_int bpending_New_int (argspending_New_int a).1 (argspending_New_int a).2 K = fnpending_New_int a (outpending_New_int a K) := by kernel_rfl
def vFpending_New_int (a : Apending_New_int) (K : AV → List AE.Obj → Ans) : Ans := bindO (fnDpending_New_int a) fun y => outpending_New_int a K y
def Fpending_New_int : List AV → List AE.Obj → (AV → List AE.Obj → Ans) → Ans := fun l H K => bindO (decApending_New_int l H) fun a => vFpending_New_int a K
theorem Fpending_New_int_ok : FuncOk Try.prog 29 Fpending_New_int := func_mkD (hint := noHint) (d := 0) (n := 70) mixed tabOk envpending_New_intOk Try.func29 (bodySome (by kernel_rfl)) (by decide +kernel) annpending_New_int_ok decApending_New_int_ok fnpending_New_int_ok fnpending_New_int_nat
--@ pending_among_int
noncomputable def envpending_among_int : Env := []
theorem envpending_among_intOk : EnvOk Try.prog envpending_among_int := EnvOk.nil
noncomputable def bpending_among_int : Code := Try.f46.body.getD .skip
noncomputable def Lpending_among_int_n0 : Code := codeAt [1, 0, 1, 0, 0] bpending_among_int
noncomputable def annLpending_among_int_n0 : Ann := .at 0 [1, 7, 8, 9] (.loop .none)
theorem annLpending_among_int_n0_ok : AnnOk Try.prog 17 (.loop Lpending_among_int_n0) annLpending_among_int_n0 := annOk_at (annOk_none _ _ _)
abbrev Ipending_among_int_n0 := (Int) × (List Int) × (Int)
abbrev Ypending_among_int_n0 := (Unit) ⊕ (Unit)
abbrev Vpending_among_int_n0 := (Int)
def Spending_among_int_n0 : Ipending_among_int_n0 → Vpending_among_int_n0 → St := fun (t1, t7, t8) t9 => { env := [(1, AV.int IntKind.i64 t1), (7, AV.ro (Ty.int IntKind.i64) t7), (8, AV.int IntKind.i64 t8), (9, AV.int IntKind.i64 t9)], stk := [[]], H := [], blk := 188416 }
def decpending_among_int_n0 (s : St) : Option (Ipending_among_int_n0 × Vpending_among_int_n0) := match s with
  | { env := [(1, AV.int IntKind.i64 t1), (7, AV.ro (Ty.int IntKind.i64) t7), (8, AV.int IntKind.i64 t8), (9, AV.int IntKind.i64 t9)], stk := [[]], H := [], blk := 188416 } => some ((t1, t7, t8), t9)
  | _ => none
theorem decpending_among_int_n0_ok (s : St) (x : Ipending_among_int_n0 × Vpending_among_int_n0) (h : decpending_among_int_n0 s = some x) : s = Spending_among_int_n0 x.1 x.2 := by
  unfold decpending_among_int_n0 at h
  split at h
  · cases h; rfl
  · cases h
def outpending_among_int_n0 : Ipending_among_int_n0 → (Ex → St → Ans) → Ypending_among_int_n0 → Ans := fun (t1, t7, t8) K => (Sum.elim (fun _ => K (Ex.ret) { env := [(4, AV.bool (true))], stk := [[]], H := [], blk := 188417 }) (fun _ => K (Ex.exit 0) { env := [], stk := [[]], H := [], blk := 188416 }))
def steppending_among_int_n0 {β : Type} : Ipending_among_int_n0 → Vpending_among_int_n0 → (Vpending_among_int_n0 → Option β) → (Ypending_among_int_n0 → Option β) → Option β := fun (t1, t7, t8) t9 next exit => (bif decide (t9 < t8) then (bindO (nth t7 t9) fun x => (bif x == t1 then (exit (Sum.inl ())) else (next (IntKind.wrap IntKind.i64 (t9 + (1 : Int)))))) else (exit (Sum.inr ())))
def stepDpending_among_int_n0 (i : Ipending_among_int_n0) (v : Vpending_among_int_n0) : Option (Vpending_among_int_n0 ⊕ Ypending_among_int_n0) := steppending_among_int_n0 i v (fun v => some (.inl v)) (fun y => some (.inr y))
theorem steppending_among_int_n0_nat (i : Ipending_among_int_n0) (v : Vpending_among_int_n0) (next : Vpending_among_int_n0 → Ans) (exit : Ypending_among_int_n0 → Ans) : steppending_among_int_n0 i v next exit = bindO (stepDpending_among_int_n0 i v) (Sum.elim next exit) := by
  obtain ⟨t1, t7, t8⟩ := i
  obtain z := v
  simp only [stepDpending_among_int_n0, steppending_among_int_n0, bindO_cond, bindO_assoc, bindO_none, bindO_pure, bindO_elim, bindO_unP, Sum.elim_inl, Sum.elim_inr]
theorem steppending_among_int_n0_ok (n : Nat) (i : Ipending_among_int_n0) (v : Vpending_among_int_n0) (K : Ex → St → Ans) : codeI Try.tab envpending_among_int noHint (codeD Try.tab envpending_among_int noHint 0 64) (n+1) 17 annLpending_among_int_n0 (.loop Lpending_among_int_n0) (weakP 0 (exk [] [4] [(0, [])]) K) (Spending_among_int_n0 i v) = steppending_among_int_n0 i v (fun v' => codeI Try.tab envpending_among_int noHint (codeD Try.tab envpending_among_int noHint 0 64) n 17 annLpending_among_int_n0 (.loop Lpending_among_int_n0) (weakP 0 (exk [] [4] [(0, [])]) K) (Spending_among_int_n0 i v')) (fun y => outpending_among_int_n0 i K y) := by kernel_rfl
theorem GNpending_among_int_n0_ok : CSum Try.prog 17 (.loop Lpending_among_int_n0) (sumL decpending_among_int_n0 stepDpending_among_int_n0 outpending_among_int_n0) := csum_loop mixed tabOk envpending_among_intOk 0 (exk [] [4] [(0, [])]) annLpending_among_int_n0_ok decpending_among_int_n0_ok steppending_among_int_n0_ok steppending_among_int_n0_nat
noncomputable def Gpending_among_int_n0 : (Ex → St → Ans) → St → Ans := (sumL decpending_among_int_n0 stepDpending_among_int_n0 outpending_among_int_n0)
theorem Gpending_among_int_n0_ok : CSum Try.prog 17 (.loop Lpending_among_int_n0) Gpending_among_int_n0 := GNpending_among_int_n0_ok
noncomputable def annpending_among_int : Ann := (.seq .none (.seq (.seq .none (.block (.cut 0 [1, 7, 8, 9] Gpending_among_int_n0))) .none))
theorem annpending_among_int_ok : AnnOk Try.prog 17 bpending_among_int annpending_among_int := ⟨(annOk_none _ _ _), ⟨⟨(annOk_none _ _ _), Gpending_among_int_n0_ok⟩, (annOk_none _ _ _)⟩⟩
abbrev Apending_among_int := (List Int) × (Int)
abbrev Ypending_among_int := (Bool)
def fnpending_among_int {β : Type} : Apending_among_int → (Ypending_among_int → Option β) → Option β := fun (a0, a1) exit => (bindO (loopD (stepDpending_among_int_n0 (a1, a0, (↑(List.length a0) : Int))) FUEL ((0 : Int))) (Sum.elim (fun _ => (exit (true))) (fun _ => (exit (false)))))
def fnDpending_among_int (a : Apending_among_int) : Option Ypending_among_int := fnpending_among_int a some
theorem fnpending_among_int_nat (a : Apending_among_int) (k : Ypending_among_int → Ans) : fnpending_among_int a k = bindO (fnDpending_among_int a) k := by
  obtain ⟨a0, a1⟩ := a
  simp only [fnDpending_among_int, fnpending_among_int, bindO_cond, bindO_assoc, bindO_none, bindO_pure, bindO_elim, bindO_unP]
def argspending_among_int : Apending_among_int → List AV := fun (a0, a1) => [AV.ro (Ty.int IntKind.i64) a0, AV.int IntKind.i64 a1]
def decApending_among_int (l : List AV) : Option Apending_among_int := match l with
  | [AV.ro (Ty.int IntKind.i64) a0, AV.int IntKind.i64 a1] => some (a0, a1)
  | _ => none
theorem decApending_among_int_ok (l : List AV) (a : Apending_among_int) (h : decApending_among_int l = some a) : l = argspending_among_int a := by
  unfold decApending_among_int at h
  split at h
  · cases h; rfl
  · cases h
def rendpending_among_int : Apending_among_int → Ypending_among_int → AV := fun (a0, a1) => fun r_y => AV.bool r_y
theorem rendpending_among_int_ok : ∀ (a : Apending_among_int) (y : Ypending_among_int), (rendpending_among_int a y).closed1 = true := by
  rintro ⟨a0, a1⟩ y <;> first | rfl | exact Empty.elim y
theorem fnpending_among_int_ok (a : Apending_among_int) : fnE Try.tab envpending_among_int noHint 0 70 46 Try.f46.ntmps Try.f46.results.toList annpending_among_int bpending_among_int (argspending_among_int a) [] (fun v _ => some (v, [])) = fnpending_among_int a (fun y => some (rendpending_among_int a y, [])) := by kernel_rfl
def vFpending_among_int (a : Apending_among_int) (K : AV → Ans) : Ans := bindO (fnDpending_among_int a) fun y => K (rendpending_among_int a y)
def Fpending_among_int : List AV → (AV → Ans) → Ans := fun l K => bindO (decApending_among_int l) fun a => vFpending_among_int a K
theorem Fpending_among_int_ok : PureOk Try.prog 46 Fpending_among_int := pure_mkD (hint := noHint) (d := 0) (n := 70) mixed tabOk envpending_among_intOk Try.func46 (bodySome (by kernel_rfl)) (by decide +kernel) annpending_among_int_ok decApending_among_int_ok fnpending_among_int_ok fnpending_among_int_nat rendpending_among_int_ok
--@ pending_without_int
noncomputable def envpending_without_int : Env := [(46, .pure Fpending_among_int)]
theorem envpending_without_intOk : EnvOk Try.prog envpending_without_int := EnvOk.cons Fpending_among_int_ok (EnvOk.nil)
noncomputable def bpending_without_int : Code := Try.f45.body.getD .skip
noncomputable def Lpending_without_int_n2 : Code := codeAt [1, 1, 0, 1, 0, 0, 1, 1, 0, 0, 1, 0, 0] bpending_without_int
noncomputable def annLpending_without_int_n2 : Ann := .none
theorem annLpending_without_int_n2_ok : AnnOk Try.prog 34 Lpending_without_int_n2 annLpending_without_int_n2 := (annOk_none _ _ _)
abbrev Ipending_without_int_n2 := (Int) × (List Int) × (Int) × (Int) × (List Int)
abbrev Ypending_without_int_n2 := (Bool)
def Spending_without_int_n2 : Ipending_without_int_n2 → St := fun (t7, t8, t9, t10, o0) => { env := [(1, AV.nilp), (5, AV.own 0), (7, AV.int IntKind.i64 t7), (8, AV.ro (Ty.int IntKind.i64) t8), (9, AV.int IntKind.i64 t9), (10, AV.int IntKind.i64 t10)], stk := [[]], H := [Obj.arr (Ty.int IntKind.i64) o0], blk := 184321 }
def decpending_without_int_n2 (s : St) : Option Ipending_without_int_n2 := match s with
  | { env := [(1, AV.nilp), (5, AV.own 0), (7, AV.int IntKind.i64 t7), (8, AV.ro (Ty.int IntKind.i64) t8), (9, AV.int IntKind.i64 t9), (10, AV.int IntKind.i64 t10)], stk := [[]], H := [Obj.arr (Ty.int IntKind.i64) o0], blk := 184321 } => some (t7, t8, t9, t10, o0)
  | _ => none
theorem decpending_without_int_n2_ok (s : St) (x : Ipending_without_int_n2) (h : decpending_without_int_n2 s = some x) : s = Spending_without_int_n2 x := by
  unfold decpending_without_int_n2 at h
  split at h
  · cases h; rfl
  · cases h
def outpending_without_int_n2 : Ipending_without_int_n2 → (Ex → St → Ans) → Ypending_without_int_n2 → Ans := fun (t7, t8, t9, t10, o0) K => fun t27_y => K (Ex.norm) { env := [(1, AV.nilp), (5, AV.own 0), (7, AV.int IntKind.i64 t7), (8, AV.ro (Ty.int IntKind.i64) t8), (9, AV.int IntKind.i64 t9), (10, AV.int IntKind.i64 t10), (27, AV.bool t27_y)], stk := [[]], H := [Obj.arr (Ty.int IntKind.i64) o0], blk := 184321 }
def nodepending_without_int_n2 {β : Type} : Ipending_without_int_n2 → (Ypending_without_int_n2 → Option β) → Option β := fun (t7, t8, t9, t10, o0) exit => (bindO (fnDpending_among_int (o0, t7)) fun r => (exit (r)))
def nodeDpending_without_int_n2 (i : Ipending_without_int_n2) : Option Ypending_without_int_n2 := nodepending_without_int_n2 i some
theorem nodepending_without_int_n2_nat (i : Ipending_without_int_n2) (k : Ypending_without_int_n2 → Ans) : nodepending_without_int_n2 i k = bindO (nodeDpending_without_int_n2 i) k := by
  obtain ⟨t7, t8, t9, t10, o0⟩ := i
  simp only [nodeDpending_without_int_n2, nodepending_without_int_n2, bindO_cond, bindO_assoc, bindO_none, bindO_pure, bindO_elim, bindO_unP]
theorem nodepending_without_int_n2_ok (i : Ipending_without_int_n2) (K : Ex → St → Ans) : codeI Try.tab envpending_without_int noHint (codeD Try.tab envpending_without_int noHint 0 64) 70 34 annLpending_without_int_n2 Lpending_without_int_n2 (weakP 0 (exk [1, 5, 7, 8, 9, 10, 27] [4] []) K) (Spending_without_int_n2 i) = nodepending_without_int_n2 i (outpending_without_int_n2 i K) := by kernel_rfl
theorem GNpending_without_int_n2_ok : CSum Try.prog 34 Lpending_without_int_n2 (sumN decpending_without_int_n2 nodeDpending_without_int_n2 outpending_without_int_n2) := csum_node mixed tabOk envpending_without_intOk 0 (exk [1, 5, 7, 8, 9, 10, 27] [4] []) annLpending_without_int_n2_ok decpending_without_int_n2_ok nodepending_without_int_n2_ok nodepending_without_int_n2_nat
noncomputable def Gpending_without_int_n2 : (Ex → St → Ans) → St → Ans := (sumN decpending_without_int_n2 nodeDpending_without_int_n2 outpending_without_int_n2)
theorem Gpending_without_int_n2_ok : CSum Try.prog 34 Lpending_without_int_n2 Gpending_without_int_n2 := GNpending_without_int_n2_ok
noncomputable def Lpending_without_int_n1 : Code := codeAt [1, 1, 0, 1, 0, 0, 1, 1, 0] bpending_without_int
noncomputable def annLpending_without_int_n1 : Ann := (.block (.seq .none (.seq (.seq (.cut 0 [1, 5, 7, 8, 9, 10] Gpending_without_int_n2) .none) .none)))
theorem annLpending_without_int_n1_ok : AnnOk Try.prog 34 Lpending_without_int_n1 annLpending_without_int_n1 := ⟨(annOk_none _ _ _), ⟨⟨Gpending_without_int_n2_ok, (annOk_none _ _ _)⟩, (annOk_none _ _ _)⟩⟩
abbrev Ipending_without_int_n1 := (List Int) × (Int) × (Int) × (List Int)
abbrev Ypending_without_int_n1 := (List Int)
def Spending_without_int_n1 : Ipending_without_int_n1 → St := fun (t8, t9, t10, o0) => { env := [(1, AV.nilp), (5, AV.own 0), (8, AV.ro (Ty.int IntKind.i64) t8), (9, AV.int IntKind.i64 t9), (10, AV.int IntKind.i64 t10)], stk := [[]], H := [Obj.arr (Ty.int IntKind.i64) o0], blk := 184320 }
def decpending_without_int_n1 (s : St) : Option Ipending_without_int_n1 := match s with
  | { env := [(1, AV.nilp), (5, AV.own 0), (8, AV.ro (Ty.int IntKind.i64) t8), (9, AV.int IntKind.i64 t9), (10, AV.int IntKind.i64 t10)], stk := [[]], H := [Obj.arr (Ty.int IntKind.i64) o0], blk := 184320 } => some (t8, t9, t10, o0)
  | _ => none
theorem decpending_without_int_n1_ok (s : St) (x : Ipending_without_int_n1) (h : decpending_without_int_n1 s = some x) : s = Spending_without_int_n1 x := by
  unfold decpending_without_int_n1 at h
  split at h
  · cases h; rfl
  · cases h
def outpending_without_int_n1 : Ipending_without_int_n1 → (Ex → St → Ans) → Ypending_without_int_n1 → Ans := fun (t8, t9, t10, o0) K => fun o0_y => K (Ex.norm) { env := [(1, AV.nilp), (5, AV.own 0), (8, AV.ro (Ty.int IntKind.i64) t8), (9, AV.int IntKind.i64 t9), (10, AV.int IntKind.i64 t10)], stk := [[]], H := [Obj.arr (Ty.int IntKind.i64) o0_y], blk := 184321 }
def nodepending_without_int_n1 {β : Type} : Ipending_without_int_n1 → (Ypending_without_int_n1 → Option β) → Option β := fun (t8, t9, t10, o0) exit => (bindO (nth t8 t10) fun x => (bindO (nodeDpending_without_int_n2 (x, t8, t9, t10, o0)) fun t27 => (bif t27 then (exit (o0)) else (bif Nat.ble ((List.length o0 + List.length [x]) * nat_lit 8) (140737488355328 : Nat) then (exit (o0 ++ [x])) else none))))
def nodeDpending_without_int_n1 (i : Ipending_without_int_n1) : Option Ypending_without_int_n1 := nodepending_without_int_n1 i some
theorem nodepending_without_int_n1_nat (i : Ipending_without_int_n1) (k : Ypending_without_int_n1 → Ans) : nodepending_without_int_n1 i k = bindO (nodeDpending_without_int_n1 i) k := by
  obtain ⟨t8, t9, t10, o0⟩ := i
  simp only [nodeDpending_without_int_n1, nodepending_without_int_n1, bindO_cond, bindO_assoc, bindO_none, bindO_pure, bindO_elim, bindO_unP]
theorem nodepending_without_int_n1_ok (i : Ipending_without_int_n1) (K : Ex → St → Ans) : codeI Try.tab envpending_without_int noHint (codeD Try.tab envpending_without_int noHint 0 64) 70 34 annLpending_without_int_n1 Lpending_without_int_n1 (weakP 0 (exk [1, 5, 8, 9, 10] [4] []) K) (Spending_without_int_n1 i) = nodepending_without_int_n1 i (outpending_without_int_n1 i K) := by kernel_rfl
theorem GNpending_without_int_n1_ok : CSum Try.prog 34 Lpending_without_int_n1 (sumN decpending_without_int_n1 nodeDpending_without_int_n1 outpending_without_int_n1) := csum_node mixed tabOk envpending_without_intOk 0 (exk [1, 5, 8, 9, 10] [4] []) annLpending_without_int_n1_ok decpending_without_int_n1_ok nodepending_without_int_n1_ok nodepending_without_int_n1_nat
noncomputable def Gpending_without_int_n1 : (Ex → St → Ans) → St → Ans := (sumN decpending_without_int_n1 nodeDpending_without_int_n1 outpending_without_int_n1)
theorem Gpending_without_int_n1_ok : CSum Try.prog 34 Lpending_without_int_n1 Gpending_without_int_n1 := GNpending_without_int_n1_ok
noncomputable def Lpending_without_int_n0 : Code := codeAt [1, 1, 0, 1, 0, 0] bpending_without_int
noncomputable def annLpending_without_int_n0 : Ann := .at 0 [1, 5, 8, 9, 10] (.loop (.seq .none (.seq .none (.seq (.cut 0 [1, 5, 8, 9, 10] Gpending_without_int_n1) .none))))
theorem annLpending_without_int_n0_ok : AnnOk Try.prog 34 (.loop Lpending_without_int_n0) annLpending_without_int_n0 := annOk_at ⟨(annOk_none _ _ _), ⟨(annOk_none _ _ _), ⟨Gpending_without_int_n1_ok, (annOk_none _ _ _)⟩⟩⟩
abbrev Ipending_without_int_n0 := (List Int) × (Int)
abbrev Ypending_without_int_n0 := (List Int)
abbrev Vpending_without_int_n0 := (Int) × (List Int)
def Spending_without_int_n0 : Ipending_without_int_n0 → Vpending_without_int_n0 → St := fun (t8, t9) (t10, o0) => { env := [(1, AV.nilp), (5, AV.own 0), (8, AV.ro (Ty.int IntKind.i64) t8), (9, AV.int IntKind.i64 t9), (10, AV.int IntKind.i64 t10)], stk := [[]], H := [Obj.arr (Ty.int IntKind.i64) o0], blk := 184320 }
def decpending_without_int_n0 (s : St) : Option (Ipending_without_int_n0 × Vpending_without_int_n0) := match s with
  | { env := [(1, AV.nilp), (5, AV.own 0), (8, AV.ro (Ty.int IntKind.i64) t8), (9, AV.int IntKind.i64 t9), (10, AV.int IntKind.i64 t10)], stk := [[]], H := [Obj.arr (Ty.int IntKind.i64) o0], blk := 184320 } => some ((t8, t9), (t10, o0))
  | _ => none
theorem decpending_without_int_n0_ok (s : St) (x : Ipending_without_int_n0 × Vpending_without_int_n0) (h : decpending_without_int_n0 s = some x) : s = Spending_without_int_n0 x.1 x.2 := by
  unfold decpending_without_int_n0 at h
  split at h
  · cases h; rfl
  · cases h
def outpending_without_int_n0 : Ipending_without_int_n0 → (Ex → St → Ans) → Ypending_without_int_n0 → Ans := fun (t8, t9) K => fun o0_y => K (Ex.exit 0) { env := [(5, AV.own 0)], stk := [[]], H := [Obj.arr (Ty.int IntKind.i64) o0_y], blk := 184320 }
def steppending_without_int_n0 {β : Type} : Ipending_without_int_n0 → Vpending_without_int_n0 → (Vpending_without_int_n0 → Option β) → (Ypending_without_int_n0 → Option β) → Option β := fun (t8, t9) (t10, o0) next exit => (bif decide (t10 < t9) then (bindO (nodeDpending_without_int_n1 (t8, t9, t10, o0)) fun o0_2 => (next (IntKind.wrap IntKind.i64 (t10 + (1 : Int)), o0_2))) else (exit (o0)))
def stepDpending_without_int_n0 (i : Ipending_without_int_n0) (v : Vpending_without_int_n0) : Option (Vpending_without_int_n0 ⊕ Ypending_without_int_n0) := steppending_without_int_n0 i v (fun v => some (.inl v)) (fun y => some (.inr y))
theorem steppending_without_int_n0_nat (i : Ipending_without_int_n0) (v : Vpending_without_int_n0) (next : Vpending_without_int_n0 → Ans) (exit : Ypending_without_int_n0 → Ans) : steppending_without_int_n0 i v next exit = bindO (stepDpending_without_int_n0 i v) (Sum.elim next exit) := by
  obtain ⟨t8, t9⟩ := i
  obtain ⟨t10, o0⟩ := v
  simp only [stepDpending_without_int_n0, steppending_without_int_n0, bindO_cond, bindO_assoc, bindO_none, bindO_pure, bindO_elim, bindO_unP, Sum.elim_inl, Sum.elim_inr]
theorem steppending_without_int_n0_ok (n : Nat) (i : Ipending_without_int_n0) (v : Vpending_without_int_n0) (K : Ex → St → Ans) : codeI Try.tab envpending_without_int noHint (codeD Try.tab envpending_without_int noHint 0 64) (n+1) 34 annLpending_without_int_n0 (.loop Lpending_without_int_n0) (weakP 0 (exk [5] [4] [(0, [5])]) K) (Spending_without_int_n0 i v) = steppending_without_int_n0 i v (fun v' => codeI Try.tab envpending_without_int noHint (codeD Try.tab envpending_without_int noHint 0 64) n 34 annLpending_without_int_n0 (.loop Lpending_without_int_n0) (weakP 0 (exk [5] [4] [(0, [5])]) K) (Spending_without_int_n0 i v')) (fun y => outpending_without_int_n0 i K y) := by kernel_rfl
theorem GNpending_without_int_n0_ok : CSum Try.prog 34 (.loop Lpending_without_int_n0) (sumL decpending_without_int_n0 stepDpending_without_int_n0 outpending_without_int_n0) := csum_loop mixed tabOk envpending_without_intOk 0 (exk [5] [4] [(0, [5])]) annLpending_without_int_n0_ok decpending_without_int_n0_ok steppending_without_int_n0_ok steppending_without_int_n0_nat
noncomputable def Gpending_without_int_n0 : (Ex → St → Ans) → St → Ans := (sumL decpending_without_int_n0 stepDpending_without_int_n0 outpending_without_int_n0)
theorem Gpending_without_int_n0_ok : CSum Try.prog 34 (.loop Lpending_without_int_n0) Gpending_without_int_n0 := GNpending_without_int_n0_ok
noncomputable def annpending_without_int : Ann := (.seq .none (.seq .none (.seq (.seq .none (.block (.cut 0 [1, 5, 8, 9, 10] Gpending_without_int_n0))) .none)))
theorem annpending_without_int_ok : AnnOk Try.prog 34 bpending_without_int annpending_without_int := ⟨(annOk_none _ _ _), ⟨(annOk_none _ _ _), ⟨⟨(annOk_none _ _ _), Gpending_without_int_n0_ok⟩, (annOk_none _ _ _)⟩⟩⟩
abbrev Apending_without_int := (List Int)
abbrev Ypending_without_int := (List Int)
def fnpending_without_int {β : Type} : Apending_without_int → (Ypending_without_int → Option β) → Option β := fun a0 exit => (bindO (loopD (stepDpending_without_int_n0 (a0, (↑(List.length a0) : Int))) FUEL ((0 : Int), [])) fun o0 => (exit (o0)))
def fnDpending_without_int (a : Apending_without_int) : Option Ypending_without_int := fnpending_without_int a some
theorem fnpending_without_int_nat (a : Apending_without_int) (k : Ypending_without_int → Ans) : fnpending_without_int a k = bindO (fnDpending_without_int a) k := by
  obtain z := a
  simp only [fnDpending_without_int, fnpending_without_int, bindO_cond, bindO_assoc, bindO_none, bindO_pure, bindO_elim, bindO_unP]
def argspending_without_int : Apending_without_int → List AV × List AE.Obj := fun a0 => ([AV.ro (Ty.int IntKind.i64) a0, AV.nilp], [])
def decApending_without_int (l : List AV) (H : List AE.Obj) : Option Apending_without_int := match l, H with
  | [AV.ro (Ty.int IntKind.i64) a0, AV.nilp], [] => some (a0)
  | _, _ => none
theorem decApending_without_int_ok (l : List AV) (H : List AE.Obj) (a : Apending_without_int) (h : decApending_without_int l H = some a) : (l, H) = argspending_without_int a := by
  unfold decApending_without_int at h
  split at h
  · cases h; rfl
  · cases h
def outpending_without_int : Apending_without_int → (AV → List AE.Obj → Ans) → Ypending_without_int → Ans := fun a0 K => fun o0_y => K (AV.own 0) [Obj.arr (Ty.int IntKind.i64) o0_y]
theorem fnpending_without_int_ok (a : Apending_without_int) (K : AV → List AE.Obj → Ans) : fnE Try.tab envpending_without_int noHint 0 70 45 Try.f45.ntmps Try.f45.results.toList annpending_without_int bpending_without_int (argspending_without_int a).1 (argspending_without_int a).2 K = fnpending_without_int a (outpending_without_int a K) := by kernel_rfl
def vFpending_without_int (a : Apending_without_int) (K : AV → List AE.Obj → Ans) : Ans := bindO (fnDpending_without_int a) fun y => outpending_without_int a K y
def Fpending_without_int : List AV → List AE.Obj → (AV → List AE.Obj → Ans) → Ans := fun l H K => bindO (decApending_without_int l H) fun a => vFpending_without_int a K
theorem Fpending_without_int_ok : FuncOk Try.prog 45 Fpending_without_int := func_mkD (hint := noHint) (d := 0) (n := 70) mixed tabOk envpending_without_intOk Try.func45 (bodySome (by kernel_rfl)) (by decide +kernel) annpending_without_int_ok decApending_without_int_ok fnpending_without_int_ok fnpending_without_int_nat
--@ pending_Set_int_Add
noncomputable def envpending_Set_int_Add : Env := [(45, .func Fpending_without_int)]
theorem envpending_Set_int_AddOk : EnvOk Try.prog envpending_Set_int_Add := EnvOk.cons Fpending_without_int_ok (EnvOk.nil)
noncomputable def bpending_Set_int_Add : Code := Try.f30.body.getD .skip
noncomputable def annpending_Set_int_Add : Ann := .none
theorem annpending_Set_int_Add_ok : AnnOk Try.prog 43 bpending_Set_int_Add annpending_Set_int_Add := (annOk_none _ _ _)
abbrev Apending_Set_int_Add := (List Int) × (Int) × (List (Int × List Int))
abbrev Ypending_Set_int_Add := (Int) × (Int) × (Int) × (List (Int × List Int))
def fnpending_Set_int_Add {β : Type} : Apending_Set_int_Add → (Ypending_Set_int_Add → Option β) → Option β := fun (a1, o0_1, o1) exit => (bif decide ((↑(List.length o1) : Int) ≥ (32 : Int)) then (exit ((0 : Int), (6 : Int), o0_1, o1)) else (bindO (fnDpending_without_int (a1)) fun o0 => (bif Nat.ble ((List.length o1 + List.length [(IntKind.wrap IntKind.i64 (o0_1 + (1 : Int)), o0)]) * nat_lit 32) (140737488355328 : Nat) then (exit (IntKind.wrap IntKind.i64 (o0_1 + (1 : Int)), (0 : Int), IntKind.wrap IntKind.i64 (o0_1 + (1 : Int)), o1 ++ [(IntKind.wrap IntKind.i64 (o0_1 + (1 : Int)), o0)])) else none)))
def fnDpending_Set_int_Add (a : Apending_Set_int_Add) : Option Ypending_Set_int_Add := fnpending_Set_int_Add a some
theorem fnpending_Set_int_Add_nat (a : Apending_Set_int_Add) (k : Ypending_Set_int_Add → Ans) : fnpending_Set_int_Add a k = bindO (fnDpending_Set_int_Add a) k := by
  obtain ⟨a1, o0_1, o1⟩ := a
  simp only [fnDpending_Set_int_Add, fnpending_Set_int_Add, bindO_cond, bindO_assoc, bindO_none, bindO_pure, bindO_elim, bindO_unP]
def argspending_Set_int_Add : Apending_Set_int_Add → List AV × List AE.Obj := fun (a1, o0_1, o1) => ([AV.ptr 0 0, AV.ro (Ty.int IntKind.i64) a1], [AE.Obj.cells [AV.own 1, AV.int IntKind.i64 o0_1], Obj.arr (Ty.st (Ty.pair (Ty.int IntKind.i64) (Ty.list (Ty.int IntKind.i64)))) o1])
def decApending_Set_int_Add (l : List AV) (H : List AE.Obj) : Option Apending_Set_int_Add := match l, H with
  | [AV.ptr 0 0, AV.ro (Ty.int IntKind.i64) a1], [AE.Obj.cells [AV.own 1, AV.int IntKind.i64 o0_1], Obj.arr (Ty.st (Ty.pair (Ty.int IntKind.i64) (Ty.list (Ty.int IntKind.i64)))) o1] => some (a1, o0_1, o1)
  | _, _ => none
theorem decApending_Set_int_Add_ok (l : List AV) (H : List AE.Obj) (a : Apending_Set_int_Add) (h : decApending_Set_int_Add l H = some a) : (l, H) = argspending_Set_int_Add a := by
  unfold decApending_Set_int_Add at h
  split at h
  · cases h; rfl
  · cases h
def outpending_Set_int_Add : Apending_Set_int_Add → (AV → List AE.Obj → Ans) → Ypending_Set_int_Add → Ans := fun (a1, o0_1, o1) K => unP fun r_0_y => unP fun r_1_y => unP fun o0_1_y o1_y => K (AV.tup [AV.int IntKind.i64 r_0_y, AV.int IntKind.i64 r_1_y]) [AE.Obj.cells [AV.own 1, AV.int IntKind.i64 o0_1_y], Obj.arr (Ty.st (Ty.pair (Ty.int IntKind.i64) (Ty.list (Ty.int IntKind.i64)))) o1_y]
theorem fnpending_Set_int_Add_ok (a : Apending_Set_int_Add) (K : AV → List AE.Obj → Ans) : fnE Try.tab envpending_Set_int_Add noHint 0 70 30 Try.f30.ntmps Try.f30.results.toList annpending_Set_int_Add bpending_Set_int_Add (argspending_Set_int_Add a).1 (argspending_Set_int_Add a).2 K = fnpending_Set_int_Add a (outpending_Set_int_Add a K) := by kernel_rfl
def vFpending_Set_int_Add (a : Apending_Set_int_Add) (K : AV → List AE.Obj → Ans) : Ans := bindO (fnDpending_Set_int_Add a) fun y => outpending_Set_int_Add a K y
def Fpending_Set_int_Add : List AV → List AE.Obj → (AV → List AE.Obj → Ans) → Ans := fun l H K => bindO (decApending_Set_int_Add l H) fun a => vFpending_Set_int_Add a K
theorem Fpending_Set_int_Add_ok : FuncOk Try.prog 30 Fpending_Set_int_Add := func_mkD (hint := noHint) (d := 0) (n := 70) mixed tabOk envpending_Set_int_AddOk Try.func30 (bodySome (by kernel_rfl)) (by decide +kernel) annpending_Set_int_Add_ok decApending_Set_int_Add_ok fnpending_Set_int_Add_ok fnpending_Set_int_Add_nat
--@ pending_without_int_2
noncomputable def envpending_without_int_2 : Env := [(46, .pure Fpending_among_int)]
theorem envpending_without_int_2Ok : EnvOk Try.prog envpending_without_int_2 := EnvOk.cons Fpending_among_int_ok (EnvOk.nil)
noncomputable def bpending_without_int_2 : Code := Try.f45.body.getD .skip
noncomputable def Lpending_without_int_2_n2 : Code := codeAt [1, 1, 0, 1, 0, 0, 1, 1, 0, 0, 1, 0, 0] bpending_without_int_2
noncomputable def annLpending_without_int_2_n2 : Ann := .none
theorem annLpending_without_int_2_n2_ok : AnnOk Try.prog 34 Lpending_without_int_2_n2 annLpending_without_int_2_n2 := (annOk_none _ _ _)
abbrev Ipending_without_int_2_n2 := (Int) × (List Int) × (Int) × (Int) × (Int) × (List Int)
abbrev Ypending_without_int_2_n2 := (Bool)
def Spending_without_int_2_n2 : Ipending_without_int_2_n2 → St := fun (t7, t8, t9, t10, o0_0, o1) => { env := [(1, AV.ptr 0 0), (5, AV.own 1), (7, AV.int IntKind.i64 t7), (8, AV.ro (Ty.int IntKind.i64) t8), (9, AV.int IntKind.i64 t9), (10, AV.int IntKind.i64 t10)], stk := [[(0, AV.ptr 0 0)]], H := [AE.Obj.cells [AV.int IntKind.i64 o0_0], Obj.arr (Ty.int IntKind.i64) o1], blk := 184321 }
def decpending_without_int_2_n2 (s : St) : Option Ipending_without_int_2_n2 := match s with
  | { env := [(1, AV.ptr 0 0), (5, AV.own 1), (7, AV.int IntKind.i64 t7), (8, AV.ro (Ty.int IntKind.i64) t8), (9, AV.int IntKind.i64 t9), (10, AV.int IntKind.i64 t10)], stk := [[(0, AV.ptr 0 0)]], H := [AE.Obj.cells [AV.int IntKind.i64 o0_0], Obj.arr (Ty.int IntKind.i64) o1], blk := 184321 } => some (t7, t8, t9, t10, o0_0, o1)
  | _ => none
theorem decpending_without_int_2_n2_ok (s : St) (x : Ipending_without_int_2_n2) (h : decpending_without_int_2_n2 s = some x) : s = Spending_without_int_2_n2 x := by
  unfold decpending_without_int_2_n2 at h
  split at h
  · cases h; rfl
  · cases h
def outpending_without_int_2_n2 : Ipending_without_int_2_n2 → (Ex → St → Ans) → Ypending_without_int_2_n2 → Ans := fun (t7, t8, t9, t10, o0_0, o1) K => fun t27_y => K (Ex.norm) { env := [(1, AV.ptr 0 0), (5, AV.own 1), (7, AV.int IntKind.i64 t7), (8, AV.ro (Ty.int IntKind.i64) t8), (9, AV.int IntKind.i64 t9), (10, AV.int IntKind.i64 t10), (27, AV.bool t27_y)], stk := [[(0, AV.ptr 0 0)]], H := [AE.Obj.cells [AV.int IntKind.i64 o0_0], Obj.arr (Ty.int IntKind.i64) o1], blk := 184321 }
def nodepending_without_int_2_n2 {β : Type} : Ipending_without_int_2_n2 → (Ypending_without_int_2_n2 → Option β) → Option β := fun (t7, t8, t9, t10, o0_0, o1) exit => (bif t7 == o0_0 then (exit (true)) else (bindO (fnDpending_among_int (o1, t7)) fun r => (exit (r))))
def nodeDpending_without_int_2_n2 (i : Ipending_without_int_2_n2) : Option Ypending_without_int_2_n2 := nodepending_without_int_2_n2 i some
theorem nodepending_without_int_2_n2_nat (i : Ipending_without_int_2_n2) (k : Ypending_without_int_2_n2 → Ans) : nodepending_without_int_2_n2 i k = bindO (nodeDpending_without_int_2_n2 i) k := by
  obtain ⟨t7, t8, t9, t10, o0_0, o1⟩ := i
  simp only [nodeDpending_without_int_2_n2, nodepending_without_int_2_n2, bindO_cond, bindO_assoc, bindO_none, bindO_pure, bindO_elim, bindO_unP]
theorem nodepending_without_int_2_n2_ok (i : Ipending_without_int_2_n2) (K : Ex → St → Ans) : codeI Try.tab envpending_without_int_2 noHint (codeD Try.tab envpending_without_int_2 noHint 0 64) 70 34 annLpending_without_int_2_n2 Lpending_without_int_2_n2 (weakP 1 (exk [1, 5, 7, 8, 9, 10, 27] [4] []) K) (Spending_without_int_2_n2 i) = nodepending_without_int_2_n2 i (outpending_without_int_2_n2 i K) := by kernel_rfl
theorem GNpending_without_int_2_n2_ok : CSum Try.prog 34 Lpending_without_int_2_n2 (sumN decpending_without_int_2_n2 nodeDpending_without_int_2_n2 outpending_without_int_2_n2) := csum_node mixed tabOk envpending_without_int_2Ok 1 (exk [1, 5, 7, 8, 9, 10, 27] [4] []) annLpending_without_int_2_n2_ok decpending_without_int_2_n2_ok nodepending_without_int_2_n2_ok nodepending_without_int_2_n2_nat
noncomputable def Gpending_without_int_2_n2 : (Ex → St → Ans) → St → Ans := (sumN decpending_without_int_2_n2 nodeDpending_without_int_2_n2 outpending_without_int_2_n2)
theorem Gpending_without_int_2_n2_ok : CSum Try.prog 34 Lpending_without_int_2_n2 Gpending_without_int_2_n2 := GNpending_without_int_2_n2_ok
noncomputable def Lpending_without_int_2_n1 : Code := codeAt [1, 1, 0, 1, 0, 0, 1, 1, 0] bpending_without_int_2
noncomputable def annLpending_without_int_2_n1 : Ann := (.block (.seq .none (.seq (.seq (.cut 1 [1, 5, 7, 8, 9, 10] Gpending_without_int_2_n2) .none) .none)))
theorem annLpending_without_int_2_n1_ok : AnnOk Try.prog 34 Lpending_without_int_2_n1 annLpending_without_int_2_n1 := ⟨(annOk_none _ _ _), ⟨⟨Gpending_without_int_2_n2_ok, (annOk_none _ _ _)⟩, (annOk_none _ _ _)⟩⟩
abbrev Ipending_without_int_2_n1 := (List Int) × (Int) × (Int) × (Int) × (List Int)
abbrev Ypending_without_int_2_n1 := (List Int)
def Spending_without_int_2_n1 : Ipending_without_int_2_n1 → St := fun (t8, t9, t10, o0_0, o1) => { env := [(1, AV.ptr 0 0), (5, AV.own 1), (8, AV.ro (Ty.int IntKind.i64) t8), (9, AV.int IntKind.i64 t9), (10, AV.int IntKind.i64 t10)], stk := [[(0, AV.ptr 0 0)]], H := [AE.Obj.cells [AV.int IntKind.i64 o0_0], Obj.arr (Ty.int IntKind.i64) o1], blk := 184320 }
def decpending_without_int_2_n1 (s : St) : Option Ipending_without_int_2_n1 := match s with
  | { env := [(1, AV.ptr 0 0), (5, AV.own 1), (8, AV.ro (Ty.int IntKind.i64) t8), (9, AV.int IntKind.i64 t9), (10, AV.int IntKind.i64 t10)], stk := [[(0, AV.ptr 0 0)]], H := [AE.Obj.cells [AV.int IntKind.i64 o0_0], Obj.arr (Ty.int IntKind.i64) o1], blk := 184320 } => some (t8, t9, t10, o0_0, o1)
  | _ => none
theorem decpending_without_int_2_n1_ok (s : St) (x : Ipending_without_int_2_n1) (h : decpending_without_int_2_n1 s = some x) : s = Spending_without_int_2_n1 x := by
  unfold decpending_without_int_2_n1 at h
  split at h
  · cases h; rfl
  · cases h
def outpending_without_int_2_n1 : Ipending_without_int_2_n1 → (Ex → St → Ans) → Ypending_without_int_2_n1 → Ans := fun (t8, t9, t10, o0_0, o1) K => fun o1_y => K (Ex.norm) { env := [(1, AV.ptr 0 0), (5, AV.own 1), (8, AV.ro (Ty.int IntKind.i64) t8), (9, AV.int IntKind.i64 t9), (10, AV.int IntKind.i64 t10)], stk := [[(0, AV.ptr 0 0)]], H := [AE.Obj.cells [AV.int IntKind.i64 o0_0], Obj.arr (Ty.int IntKind.i64) o1_y], blk := 184321 }
def nodepending_without_int_2_n1 {β : Type} : Ipending_without_int_2_n1 → (Ypending_without_int_2_n1 → Option β) → Option β := fun (t8, t9, t10, o0_0, o1) exit => (bindO (nth t8 t10) fun x => (bindO (nodeDpending_without_int_2_n2 (x, t8, t9, t10, o0_0, o1)) fun t27 => (bif t27 then (exit (o1)) else (bif Nat.ble ((List.length o1 + List.length [x]) * nat_lit 8) (140737488355328 : Nat) then (exit (o1 ++ [x])) else none))))
def nodeDpending_without_int_2_n1 (i : Ipending_without_int_2_n1) : Option Ypending_without_int_2_n1 := nodepending_without_int_2_n1 i some
theorem nodepending_without_int_2_n1_nat (i : Ipending_without_int_2_n1) (k : Ypending_without_int_2_n1 → Ans) : nodepending_without_int_2_n1 i k = bindO (nodeDpending_without_int_2_n1 i) k := by
  obtain ⟨t8, t9, t10, o0_0, o1⟩ := i
  simp only [nodeDpending_without_int_2_n1, nodepending_without_int_2_n1, bindO_cond, bindO_assoc, bindO_none, bindO_pure, bindO_elim, bindO_unP]
theorem nodepending_without_int_2_n1_ok (i : Ipending_without_int_2_n1) (K : Ex → St → Ans) : codeI Try.tab envpending_without_int_2 noHint (codeD Try.tab envpending_without_int_2 noHint 0 64) 70 34 annLpending_without_int_2_n1 Lpending_without_int_2_n1 (weakP 1 (exk [1, 5, 8, 9, 10] [4] []) K) (Spending_without_int_2_n1 i) = nodepending_without_int_2_n1 i (outpending_without_int_2_n1 i K) := by kernel_rfl
theorem GNpending_without_int_2_n1_ok : CSum Try.prog 34 Lpending_without_int_2_n1 (sumN decpending_without_int_2_n1 nodeDpending_without_int_2_n1 outpending_without_int_2_n1) := csum_node mixed tabOk envpending_without_int_2Ok 1 (exk [1, 5, 8, 9, 10] [4] []) annLpending_without_int_2_n1_ok decpending_without_int_2_n1_ok nodepending_without_int_2_n1_ok nodepending_without_int_2_n1_nat
noncomputable def Gpending_without_int_2_n1 : (Ex → St → Ans) → St → Ans := (sumN decpending_without_int_2_n1 nodeDpending_without_int_2_n1 outpending_without_int_2_n1)
theorem Gpending_without_int_2_n1_ok : CSum Try.prog 34 Lpending_without_int_2_n1 Gpending_without_int_2_n1 := GNpending_without_int_2_n1_ok
noncomputable def Lpending_without_int_2_n0 : Code := codeAt [1, 1, 0, 1, 0, 0] bpending_without_int_2
noncomputable def annLpending_without_int_2_n0 : Ann := .at 1 [1, 5, 8, 9, 10] (.loop (.seq .none (.seq .none (.seq (.cut 1 [1, 5, 8, 9, 10] Gpending_without_int_2_n1) .none))))
theorem annLpending_without_int_2_n0_ok : AnnOk Try.prog 34 (.loop Lpending_without_int_2_n0) annLpending_without_int_2_n0 := annOk_at ⟨(annOk_none _ _ _), ⟨(annOk_none _ _ _), ⟨Gpending_without_int_2_n1_ok, (annOk_none _ _ _)⟩⟩⟩
abbrev Ipending_without_int_2_n0 := (List Int) × (Int) × (Int)
abbrev Ypending_without_int_2_n0 := (List Int)
abbrev Vpending_without_int_2_n0 := (Int) × (List Int)
def Spending_without_int_2_n0 : Ipending_without_int_2_n0 → Vpending_without_int_2_n0 → St := fun (t8, t9, o0_0) (t10, o1) => { env := [(1, AV.ptr 0 0), (5, AV.own 1), (8, AV.ro (Ty.int IntKind.i64) t8), (9, AV.int IntKind.i64 t9), (10, AV.int IntKind.i64 t10)], stk := [[(0, AV.ptr 0 0)]], H := [AE.Obj.cells [AV.int IntKind.i64 o0_0], Obj.arr (Ty.int IntKind.i64) o1], blk := 184320 }
def decpending_without_int_2_n0 (s : St) : Option (Ipending_without_int_2_n0 × Vpending_without_int_2_n0) := match s with
  | { env := [(1, AV.ptr 0 0), (5, AV.own 1), (8, AV.ro (Ty.int IntKind.i64) t8), (9, AV.int IntKind.i64 t9), (10, AV.int IntKind.i64 t10)], stk := [[(0, AV.ptr 0 0)]], H := [AE.Obj.cells [AV.int IntKind.i64 o0_0], Obj.arr (Ty.int IntKind.i64) o1], blk := 184320 } => some ((t8, t9, o0_0), (t10, o1))
  | _ => none
theorem decpending_without_int_2_n0_ok (s : St) (x : Ipending_without_int_2_n0 × Vpending_without_int_2_n0) (h : decpending_without_int_2_n0 s = some x) : s = Spending_without_int_2_n0 x.1 x.2 := by
  unfold decpending_without_int_2_n0 at h
  split at h
  · cases h; rfl
  · cases h
def outpending_without_int_2_n0 : Ipending_without_int_2_n0 → (Ex → St → Ans) → Ypending_without_int_2_n0 → Ans := fun (t8, t9, o0_0) K => fun o1_y => K (Ex.exit 0) { env := [(5, AV.own 1)], stk := [[(0, AV.ptr 0 0)]], H := [AE.Obj.cells [AV.int IntKind.i64 o0_0], Obj.arr (Ty.int IntKind.i64) o1_y], blk := 184320 }
def steppending_without_int_2_n0 {β : Type} : Ipending_without_int_2_n0 → Vpending_without_int_2_n0 → (Vpending_without_int_2_n0 → Option β) → (Ypending_without_int_2_n0 → Option β) → Option β := fun (t8, t9, o0_0) (t10, o1) next exit => (bif decide (t10 < t9) then (bindO (nodeDpending_without_int_2_n1 (t8, t9, t10, o0_0, o1)) fun o1_2 => (next (IntKind.wrap IntKind.i64 (t10 + (1 : Int)), o1_2))) else (exit (o1)))
def stepDpending_without_int_2_n0 (i : Ipending_without_int_2_n0) (v : Vpending_without_int_2_n0) : Option (Vpending_without_int_2_n0 ⊕ Ypending_without_int_2_n0) := steppending_without_int_2_n0 i v (fun v => some (.inl v)) (fun y => some (.inr y))
theorem steppending_without_int_2_n0_nat (i : Ipending_without_int_2_n0) (v : Vpending_without_int_2_n0) (next : Vpending_without_int_2_n0 → Ans) (exit : Ypending_without_int_2_n0 → Ans) : steppending_without_int_2_n0 i v next exit = bindO (stepDpending_without_int_2_n0 i v) (Sum.elim next exit) := by
  obtain ⟨t8, t9, o0_0⟩ := i
  obtain ⟨t10, o1⟩ := v
  simp only [stepDpending_without_int_2_n0, steppending_without_int_2_n0, bindO_cond, bindO_assoc, bindO_none, bindO_pure, bindO_elim, bindO_unP, Sum.elim_inl, Sum.elim_inr]
theorem steppending_without_int_2_n0_ok (n : Nat) (i : Ipending_without_int_2_n0) (v : Vpending_without_int_2_n0) (K : Ex → St → Ans) : codeI Try.tab envpending_without_int_2 noHint (codeD Try.tab envpending_without_int_2 noHint 0 64) (n+1) 34 annLpending_without_int_2_n0 (.loop Lpending_without_int_2_n0) (weakP 1 (exk [5] [4] [(0, [5])]) K) (Spending_without_int_2_n0 i v) = steppending_without_int_2_n0 i v (fun v' => codeI Try.tab envpending_without_int_2 noHint (codeD Try.tab envpending_without_int_2 noHint 0 64) n 34 annLpending_without_int_2_n0 (.loop Lpending_without_int_2_n0) (weakP 1 (exk [5] [4] [(0, [5])]) K) (Spending_without_int_2_n0 i v')) (fun y => outpending_without_int_2_n0 i K y) := by kernel_rfl
theorem GNpending_without_int_2_n0_ok : CSum Try.prog 34 (.loop Lpending_without_int_2_n0) (sumL decpending_without_int_2_n0 stepDpending_without_int_2_n0 outpending_without_int_2_n0) := csum_loop mixed tabOk envpending_without_int_2Ok 1 (exk [5] [4] [(0, [5])]) annLpending_without_int_2_n0_ok decpending_without_int_2_n0_ok steppending_without_int_2_n0_ok steppending_without_int_2_n0_nat
noncomputable def Gpending_without_int_2_n0 : (Ex → St → Ans) → St → Ans := (sumL decpending_without_int_2_n0 stepDpending_without_int_2_n0 outpending_without_int_2_n0)
theorem Gpending_without_int_2_n0_ok : CSum Try.prog 34 (.loop Lpending_without_int_2_n0) Gpending_without_int_2_n0 := GNpending_without_int_2_n0_ok
noncomputable def annpending_without_int_2 : Ann := (.seq .none (.seq .none (.seq (.seq .none (.block (.cut 1 [1, 5, 8, 9, 10] Gpending_without_int_2_n0))) .none)))
theorem annpending_without_int_2_ok : AnnOk Try.prog 34 bpending_without_int_2 annpending_without_int_2 := ⟨(annOk_none _ _ _), ⟨(annOk_none _ _ _), ⟨⟨(annOk_none _ _ _), Gpending_without_int_2_n0_ok⟩, (annOk_none _ _ _)⟩⟩⟩
abbrev Apending_without_int_2 := (List Int) × (Int)
abbrev Ypending_without_int_2 := (List Int)
def fnpending_without_int_2 {β : Type} : Apending_without_int_2 → (Ypending_without_int_2 → Option β) → Option β := fun (a0, o0_0) exit => (bindO (loopD (stepDpending_without_int_2_n0 (a0, (↑(List.length a0) : Int), o0_0)) FUEL ((0 : Int), [])) fun o1 => (exit (o1)))
def fnDpending_without_int_2 (a : Apending_without_int_2) : Option Ypending_without_int_2 := fnpending_without_int_2 a some
theorem fnpending_without_int_2_nat (a : Apending_without_int_2) (k : Ypending_without_int_2 → Ans) : fnpending_without_int_2 a k = bindO (fnDpending_without_int_2 a) k := by
  obtain ⟨a0, o0_0⟩ := a
  simp only [fnDpending_without_int_2, fnpending_without_int_2, bindO_cond, bindO_assoc, bindO_none, bindO_pure, bindO_elim, bindO_unP]
def argspending_without_int_2 : Apending_without_int_2 → List AV × List AE.Obj := fun (a0, o0_0) => ([AV.ro (Ty.int IntKind.i64) a0, AV.ptr 0 0], [AE.Obj.cells [AV.int IntKind.i64 o0_0]])
def decApending_without_int_2 (l : List AV) (H : List AE.Obj) : Option Apending_without_int_2 := match l, H with
  | [AV.ro (Ty.int IntKind.i64) a0, AV.ptr 0 0], [AE.Obj.cells [AV.int IntKind.i64 o0_0]] => some (a0, o0_0)
  | _, _ => none
theorem decApending_without_int_2_ok (l : List AV) (H : List AE.Obj) (a : Apending_without_int_2) (h : decApending_without_int_2 l H = some a) : (l, H) = argspending_without_int_2 a := by
  unfold decApending_without_int_2 at h
  split at h
  · cases h; rfl
  · cases h
def outpending_without_int_2 : Apending_without_int_2 → (AV → List AE.Obj → Ans) → Ypending_without_int_2 → Ans := fun (a0, o0_0) K => fun o1_y => K (AV.own 1) [AE.Obj.cells [AV.int IntKind.i64 o0_0], Obj.arr (Ty.int IntKind.i64) o1_y]
theorem fnpending_without_int_2_ok (a : Apending_without_int_2) (K : AV → List AE.Obj → Ans) : fnE Try.tab envpending_without_int_2 noHint 0 70 45 Try.f45.ntmps Try.f45.results.toList annpending_without_int_2 bpending_without_int_2 (argspending_without_int_2 a).1 (argspending_without_int_2 a).2 K = fnpending_without_int_2 a (outpending_without_int_2 a K) := by kernel_rfl
def vFpending_without_int_2 (a : Apending_without_int_2) (K : AV → List AE.Obj → Ans) : Ans := bindO (fnDpending_without_int_2 a) fun y => outpending_without_int_2 a K y
def Fpending_without_int_2 : List AV → List AE.Obj → (AV → List AE.Obj → Ans) → Ans := fun l H K => bindO (decApending_without_int_2 l H) fun a => vFpending_without_int_2 a K
theorem Fpending_without_int_2_ok : FuncOk Try.prog 45 Fpending_without_int_2 := func_mkD (hint := noHint) (d := 0) (n := 70) mixed tabOk envpending_without_int_2Ok Try.func45 (bodySome (by kernel_rfl)) (by decide +kernel) annpending_without_int_2_ok decApending_without_int_2_ok fnpending_without_int_2_ok fnpending_without_int_2_nat
--@ pending_Set_int_Done
noncomputable def envpending_Set_int_Done : Env := [(45, .func Fpending_without_int_2)]
theorem envpending_Set_int_DoneOk : EnvOk Try.prog envpending_Set_int_Done := EnvOk.cons Fpending_without_int_2_ok (EnvOk.nil)
noncomputable def bpending_Set_int_Done : Code := Try.f33.body.getD .skip
noncomputable def Lpending_Set_int_Done_n1 : Code := codeAt [1, 1, 1, 1, 0, 1, 0, 0, 1, 1, 0] bpending_Set_int_Done
noncomputable def annLpending_Set_int_Done_n1 : Ann := .none
theorem annLpending_Set_int_Done_n1_ok : AnnOk Try.prog 44 Lpending_Set_int_Done_n1 annLpending_Set_int_Done_n1 := (annOk_none _ _ _)
abbrev Ipending_Set_int_Done_n1 := (Int) × (Int) × (Int) × (List (Int × List Int)) × (Int) × (List (Int × Int)) × (List (Int × List Int))
abbrev Ypending_Set_int_Done_n1 := (List (Int × Int)) × (List (Int × List Int))
def Spending_Set_int_Done_n1 : Ipending_Set_int_Done_n1 → St := fun (t15, t16, o0_1, o1, o2_0, o3, o4) => { env := [(0, AV.ptr 0 0), (3, AV.ptr 2 0), (5, AV.own 3), (6, AV.own 4), (14, AV.own 1), (15, AV.int IntKind.i64 t15), (16, AV.int IntKind.i64 t16)], stk := [[(0, AV.ptr 0 0)]], H := [AE.Obj.cells [AV.own 1, AV.int IntKind.i64 o0_1], Obj.arr (Ty.st (Ty.pair (Ty.int IntKind.i64) (Ty.list (Ty.int IntKind.i64)))) o1, AE.Obj.cells [AV.int IntKind.i64 o2_0], Obj.arr (Ty.st (Ty.pair (Ty.int IntKind.i64) (Ty.int IntKind.i64))) o3, Obj.arr (Ty.st (Ty.pair (Ty.int IntKind.i64) (Ty.list (Ty.int IntKind.i64)))) o4], blk := 135168 }
def decpending_Set_int_Done_n1 (s : St) : Option Ipending_Set_int_Done_n1 := match s with
  | { env := [(0, AV.ptr 0 0), (3, AV.ptr 2 0), (5, AV.own 3), (6, AV.own 4), (14, AV.own 1), (15, AV.int IntKind.i64 t15), (16, AV.int IntKind.i64 t16)], stk := [[(0, AV.ptr 0 0)]], H := [AE.Obj.cells [AV.own 1, AV.int IntKind.i64 o0_1], Obj.arr (Ty.st (Ty.pair (Ty.int IntKind.i64) (Ty.list (Ty.int IntKind.i64)))) o1, AE.Obj.cells [AV.int IntKind.i64 o2_0], Obj.arr (Ty.st (Ty.pair (Ty.int IntKind.i64) (Ty.int IntKind.i64))) o3, Obj.arr (Ty.st (Ty.pair (Ty.int IntKind.i64) (Ty.list (Ty.int IntKind.i64)))) o4], blk := 135168 } => some (t15, t16, o0_1, o1, o2_0, o3, o4)
  | _ => none
theorem decpending_Set_int_Done_n1_ok (s : St) (x : Ipending_Set_int_Done_n1) (h : decpending_Set_int_Done_n1 s = some x) : s = Spending_Set_int_Done_n1 x := by
  unfold decpending_Set_int_Done_n1 at h
  split at h
  · cases h; rfl
  · cases h
def outpending_Set_int_Done_n1 : Ipending_Set_int_Done_n1 → (Ex → St → Ans) → Ypending_Set_int_Done_n1 → Ans := fun (t15, t16, o0_1, o1, o2_0, o3, o4) K => unP fun o3_y o4_y => K (Ex.norm) { env := [(0, AV.ptr 0 0), (3, AV.ptr 2 0), (5, AV.own 3), (6, AV.own 4), (14, AV.own 1), (15, AV.int IntKind.i64 t15), (16, AV.int IntKind.i64 t16)], stk := [[(0, AV.ptr 0 0)]], H := [AE.Obj.cells [AV.own 1, AV.int IntKind.i64 o0_1], Obj.arr (Ty.st (Ty.pair (Ty.int IntKind.i64) (Ty.list (Ty.int IntKind.i64)))) o1, AE.Obj.cells [AV.int IntKind.i64 o2_0], Obj.arr (Ty.st (Ty.pair (Ty.int IntKind.i64) (Ty.int IntKind.i64))) o3_y, Obj.arr (Ty.st (Ty.pair (Ty.int IntKind.i64) (Ty.list (Ty.int IntKind.i64)))) o4_y], blk := 135169 }
def nodepending_Set_int_Done_n1 {β : Type} : Ipending_Set_int_Done_n1 → (Ypending_Set_int_Done_n1 → Option β) → Option β := fun (t15, t16, o0_1, o1, o2_0, o3, o4) exit => (bif inR t16 (List.length o1) then (bindO (o1[Int.toNat t16]?) fun x => (bindO (fnDpending_without_int_2 (x.snd, o2_0)) fun o1_2 => (bif (↑(List.length o1_2) : Int) == (0 : Int) then (bif Nat.ble ((List.length o3 + List.length [(x.fst, (2 : Int))]) * nat_lit 16) (140737488355328 : Nat) then (exit (o3 ++ [(x.fst, (2 : Int))], o4)) else none) else (bif Nat.ble ((List.length o4 + List.length [(x.fst, o1_2)]) * nat_lit 32) (140737488355328 : Nat) then (exit (o3, o4 ++ [(x.fst, o1_2)])) else none)))) else none)
def nodeDpending_Set_int_Done_n1 (i : Ipending_Set_int_Done_n1) : Option Ypending_Set_int_Done_n1 := nodepending_Set_int_Done_n1 i some
theorem nodepending_Set_int_Done_n1_nat (i : Ipending_Set_int_Done_n1) (k : Ypending_Set_int_Done_n1 → Ans) : nodepending_Set_int_Done_n1 i k = bindO (nodeDpending_Set_int_Done_n1 i) k := by
  obtain ⟨t15, t16, o0_1, o1, o2_0, o3, o4⟩ := i
  simp only [nodeDpending_Set_int_Done_n1, nodepending_Set_int_Done_n1, bindO_cond, bindO_assoc, bindO_none, bindO_pure, bindO_elim, bindO_unP]
theorem nodepending_Set_int_Done_n1_ok (i : Ipending_Set_int_Done_n1) (K : Ex → St → Ans) : codeI Try.tab envpending_Set_int_Done noHint (codeD Try.tab envpending_Set_int_Done noHint 0 64) 70 44 annLpending_Set_int_Done_n1 Lpending_Set_int_Done_n1 (weakP 2 (exk [0, 3, 5, 6, 14, 15, 16] [4] []) K) (Spending_Set_int_Done_n1 i) = nodepending_Set_int_Done_n1 i (outpending_Set_int_Done_n1 i K) := by kernel_rfl
theorem GNpending_Set_int_Done_n1_ok : CSum Try.prog 44 Lpending_Set_int_Done_n1 (sumN decpending_Set_int_Done_n1 nodeDpending_Set_int_Done_n1 outpending_Set_int_Done_n1) := csum_node mixed tabOk envpending_Set_int_DoneOk 2 (exk [0, 3, 5, 6, 14, 15, 16] [4] []) annLpending_Set_int_Done_n1_ok decpending_Set_int_Done_n1_ok nodepending_Set_int_Done_n1_ok nodepending_Set_int_Done_n1_nat
noncomputable def Gpending_Set_int_Done_n1 : (Ex → St → Ans) → St → Ans := (sumN decpending_Set_int_Done_n1 nodeDpending_Set_int_Done_n1 outpending_Set_int_Done_n1)
theorem Gpending_Set_int_Done_n1_ok : CSum Try.prog 44 Lpending_Set_int_Done_n1 Gpending_Set_int_Done_n1 := GNpending_Set_int_Done_n1_ok
noncomputable def Lpending_Set_int_Done_n0 : Code := codeAt [1, 1, 1, 1, 0, 1, 0, 0] bpending_Set_int_Done
noncomputable def annLpending_Set_int_Done_n0 : Ann := .at 2 [0, 3, 5, 6, 14, 15, 16] (.loop (.seq .none (.seq .none (.seq (.cut 2 [0, 3, 5, 6, 14, 15, 16] Gpending_Set_int_Done_n1) .none))))
theorem annLpending_Set_int_Done_n0_ok : AnnOk Try.prog 44 (.loop Lpending_Set_int_Done_n0) annLpending_Set_int_Done_n0 := annOk_at ⟨(annOk_none _ _ _), ⟨(annOk_none _ _ _), ⟨Gpending_Set_int_Done_n1_ok, (annOk_none _ _ _)⟩⟩⟩
abbrev Ipending_Set_int_Done_n0 := (Int) × (Int) × (List (Int × List Int)) × (Int)
abbrev Ypending_Set_int_Done_n0 := (List (Int × Int)) × (List (Int × List Int))
abbrev Vpending_Set_int_Done_n0 := (Int) × (List (Int × Int)) × (List (Int × List Int))
def Spending_Set_int_Done_n0 : Ipending_Set_int_Done_n0 → Vpending_Set_int_Done_n0 → St := fun (t15, o0_1, o1, o2_0) (t16, o3, o4) => { env := [(0, AV.ptr 0 0), (3, AV.ptr 2 0), (5, AV.own 3), (6, AV.own 4), (14, AV.own 1), (15, AV.int IntKind.i64 t15), (16, AV.int IntKind.i64 t16)], stk := [[(0, AV.ptr 0 0)]], H := [AE.Obj.cells [AV.own 1, AV.int IntKind.i64 o0_1], Obj.arr (Ty.st (Ty.pair (Ty.int IntKind.i64) (Ty.list (Ty.int IntKind.i64)))) o1, AE.Obj.cells [AV.int IntKind.i64 o2_0], Obj.arr (Ty.st (Ty.pair (Ty.int IntKind.i64) (Ty.int IntKind.i64))) o3, Obj.arr (Ty.st (Ty.pair (Ty.int IntKind.i64) (Ty.list (Ty.int IntKind.i64)))) o4], blk := 135168 }
def decpending_Set_int_Done_n0 (s : St) : Option (Ipending_Set_int_Done_n0 × Vpending_Set_int_Done_n0) := match s with
  | { env := [(0, AV.ptr 0 0), (3, AV.ptr 2 0), (5, AV.own 3), (6, AV.own 4), (14, AV.own 1), (15, AV.int IntKind.i64 t15), (16, AV.int IntKind.i64 t16)], stk := [[(0, AV.ptr 0 0)]], H := [AE.Obj.cells [AV.own 1, AV.int IntKind.i64 o0_1], Obj.arr (Ty.st (Ty.pair (Ty.int IntKind.i64) (Ty.list (Ty.int IntKind.i64)))) o1, AE.Obj.cells [AV.int IntKind.i64 o2_0], Obj.arr (Ty.st (Ty.pair (Ty.int IntKind.i64) (Ty.int IntKind.i64))) o3, Obj.arr (Ty.st (Ty.pair (Ty.int IntKind.i64) (Ty.list (Ty.int IntKind.i64)))) o4], blk := 135168 } => some ((t15, o0_1, o1, o2_0), (t16, o3, o4))
  | _ => none
theorem decpending_Set_int_Done_n0_ok (s : St) (x : Ipending_Set_int_Done_n0 × Vpending_Set_int_Done_n0) (h : decpending_Set_int_Done_n0 s = some x) : s = Spending_Set_int_Done_n0 x.1 x.2 := by
  unfold decpending_Set_int_Done_n0 at h
  split at h
  · cases h; rfl
  · cases h
def outpending_Set_int_Done_n0 : Ipending_Set_int_Done_n0 → (Ex → St → Ans) → Ypending_Set_int_Done_n0 → Ans := fun (t15, o0_1, o1, o2_0) K => unP fun o2_y o3_y => K (Ex.exit 0) { env := [(0, AV.ptr 0 0), (5, AV.own 2), (6, AV.own 3)], stk := [[(0, AV.ptr 0 0)]], H := [AE.Obj.cells [AV.own 1, AV.int IntKind.i64 o0_1], Obj.arr (Ty.st (Ty.pair (Ty.int IntKind.i64) (Ty.list (Ty.int IntKind.i64)))) o1, Obj.arr (Ty.st (Ty.pair (Ty.int IntKind.i64) (Ty.int IntKind.i64))) o2_y, Obj.arr (Ty.st (Ty.pair (Ty.int IntKind.i64) (Ty.list (Ty.int IntKind.i64)))) o3_y], blk := 135168 }
def steppending_Set_int_Done_n0 {β : Type} : Ipending_Set_int_Done_n0 → Vpending_Set_int_Done_n0 → (Vpending_Set_int_Done_n0 → Option β) → (Ypending_Set_int_Done_n0 → Option β) → Option β := fun (t15, o0_1, o1, o2_0) (t16, o3, o4) next exit => (bif decide (t16 < t15) then (bindO (nodeDpending_Set_int_Done_n1 (t15, t16, o0_1, o1, o2_0, o3, o4)) (unP fun o3_2 o4_2 => (next (IntKind.wrap IntKind.i64 (t16 + (1 : Int)), o3_2, o4_2)))) else (exit (o3, o4)))
def stepDpending_Set_int_Done_n0 (i : Ipending_Set_int_Done_n0) (v : Vpending_Set_int_Done_n0) : Option (Vpending_Set_int_Done_n0 ⊕ Ypending_Set_int_Done_n0) := steppending_Set_int_Done_n0 i v (fun v => some (.inl v)) (fun y => some (.inr y))
theorem steppending_Set_int_Done_n0_nat (i : Ipending_Set_int_Done_n0) (v : Vpending_Set_int_Done_n0) (next : Vpending_Set_int_Done_n0 → Ans) (exit : Ypending_Set_int_Done_n0 → Ans) : steppending_Set_int_Done_n0 i v next exit = bindO (stepDpending_Set_int_Done_n0 i v) (Sum.elim next exit) := by
  obtain ⟨t15, o0_1, o1, o2_0⟩ := i
  obtain ⟨t16, o3, o4⟩ := v
  simp only [stepDpending_Set_int_Done_n0, steppending_Set_int_Done_n0, bindO_cond, bindO_assoc, bindO_none, bindO_pure, bindO_elim, bindO_unP, Sum.elim_inl, Sum.elim_inr]
theorem steppending_Set_int_Done_n0_ok (n : Nat) (i : Ipending_Set_int_Done_n0) (v : Vpending_Set_int_Done_n0) (K : Ex → St → Ans) : codeI Try.tab envpending_Set_int_Done noHint (codeD Try.tab envpending_Set_int_Done noHint 0 64) (n+1) 44 annLpending_Set_int_Done_n0 (.loop Lpending_Set_int_Done_n0) (weakP 2 (exk [0, 5, 6] [4] [(0, [0, 5, 6])]) K) (Spending_Set_int_Done_n0 i v) = steppending_Set_int_Done_n0 i v (fun v' => codeI Try.tab envpending_Set_int_Done noHint (codeD Try.tab envpending_Set_int_Done noHint 0 64) n 44 annLpending_Set_int_Done_n0 (.loop Lpending_Set_int_Done_n0) (weakP 2 (exk [0, 5, 6] [4] [(0, [0, 5, 6])]) K) (Spending_Set_int_Done_n0 i v')) (fun y => outpending_Set_int_Done_n0 i K y) := by kernel_rfl
theorem GNpending_Set_int_Done_n0_ok : CSum Try.prog 44 (.loop Lpending_Set_int_Done_n0) (sumL decpending_Set_int_Done_n0 stepDpending_Set_int_Done_n0 outpending_Set_int_Done_n0) := csum_loop mixed tabOk envpending_Set_int_DoneOk 2 (exk [0, 5, 6] [4] [(0, [0, 5, 6])]) annLpending_Set_int_Done_n0_ok decpending_Set_int_Done_n0_ok steppending_Set_int_Done_n0_ok steppending_Set_int_Done_n0_nat
noncomputable def Gpending_Set_int_Done_n0 : (Ex → St → Ans) → St → Ans := (sumL decpending_Set_int_Done_n0 stepDpending_Set_int_Done_n0 outpending_Set_int_Done_n0)
theorem Gpending_Set_int_Done_n0_ok : CSum Try.prog 44 (.loop Lpending_Set_int_Done_n0) Gpending_Set_int_Done_n0 := GNpending_Set_int_Done_n0_ok
noncomputable def annpending_Set_int_Done : Ann := (.seq .none (.seq .none (.seq .none (.seq .none (.seq (.seq .none (.block (.cut 2 [0, 3, 5, 6, 14, 15, 16] Gpending_Set_int_Done_n0))) .none)))))
theorem annpending_Set_int_Done_ok : AnnOk Try.prog 44 bpending_Set_int_Done annpending_Set_int_Done := ⟨(annOk_none _ _ _), ⟨(annOk_none _ _ _), ⟨(annOk_none _ _ _), ⟨(annOk_none _ _ _), ⟨⟨(annOk_none _ _ _), Gpending_Set_int_Done_n0_ok⟩, (annOk_none _ _ _)⟩⟩⟩⟩⟩
abbrev Apending_Set_int_Done := (Int) × (Int) × (List (Int × List Int))
abbrev Ypending_Set_int_Done := (List (Int × Int)) × (List (Int × List Int))
def fnpending_Set_int_Done {β : Type} : Apending_Set_int_Done → (Ypending_Set_int_Done → Option β) → Option β := fun (a1, o0_1, o1) exit => (bindO (loopD (stepDpending_Set_int_Done_n0 ((↑(List.length o1) : Int), o0_1, o1, a1)) FUEL ((0 : Int), [], [])) (unP fun o2 o3 => (exit (o2, o3))))
def fnDpending_Set_int_Done (a : Apending_Set_int_Done) : Option Ypending_Set_int_Done := fnpending_Set_int_Done a some
theorem fnpending_Set_int_Done_nat (a : Apending_Set_int_Done) (k : Ypending_Set_int_Done → Ans) : fnpending_Set_int_Done a k = bindO (fnDpending_Set_int_Done a) k := by
  obtain ⟨a1, o0_1, o1⟩ := a
  simp only [fnDpending_Set_int_Done, fnpending_Set_int_Done, bindO_cond, bindO_assoc, bindO_none, bindO_pure, bindO_elim, bindO_unP]
def argspending_Set_int_Done : Apending_Set_int_Done → List AV × List AE.Obj := fun (a1, o0_1, o1) => ([AV.ptr 0 0, AV.int IntKind.i64 a1], [AE.Obj.cells [AV.own 1, AV.int IntKind.i64 o0_1], Obj.arr (Ty.st (Ty.pair (Ty.int IntKind.i64) (Ty.list (Ty.int IntKind.i64)))) o1])
def decApending_Set_int_Done (l : List AV) (H : List AE.Obj) : Option Apending_Set_int_Done := match l, H with
  | [AV.ptr 0 0, AV.int IntKind.i64 a1], [AE.Obj.cells [AV.own 1, AV.int IntKind.i64 o0_1], Obj.arr (Ty.st (Ty.pair (Ty.int IntKind.i64) (Ty.list (Ty.int IntKind.i64)))) o1] => some (a1, o0_1, o1)
  | _, _ => none
theorem decApending_Set_int_Done_ok (l : List AV) (H : List AE.Obj) (a : Apending_Set_int_Done) (h : decApending_Set_int_Done l H = some a) : (l, H) = argspending_Set_int_Done a := by
  unfold decApending_Set_int_Done at h
  split at h
  · cases h; rfl
  · cases h
def outpending_Set_int_Done : Apending_Set_int_Done → (AV → List AE.Obj → Ans) → Ypending_Set_int_Done → Ans := fun (a1, o0_1, o1) K => unP fun o2_y o3_y => K (AV.own 2) [AE.Obj.cells [AV.own 3, AV.int IntKind.i64 o0_1], Obj.arr (Ty.st (Ty.pair (Ty.int IntKind.i64) (Ty.list (Ty.int IntKind.i64)))) o1, Obj.arr (Ty.st (Ty.pair (Ty.int IntKind.i64) (Ty.int IntKind.i64))) o2_y, Obj.arr (Ty.st (Ty.pair (Ty.int IntKind.i64) (Ty.list (Ty.int IntKind.i64)))) o3_y]
theorem fnpending_Set_int_Done_ok (a : Apending_Set_int_Done) (K : AV → List AE.Obj → Ans) : fnE Try.tab envpending_Set_int_Done noHint 0 70 33 Try.f33.ntmps Try.f33.results.toList annpending_Set_int_Done bpending_Set_int_Done (argspending_Set_int_Done a).1 (argspending_Set_int_Done a).2 K = fnpending_Set_int_Done a (outpending_Set_int_Done a K) := by kernel_rfl
def vFpending_Set_int_Done (a : Apending_Set_int_Done) (K : AV → List AE.Obj → Ans) : Ans := bindO (fnDpending_Set_int_Done a) fun y => outpending_Set_int_Done a K y
def Fpending_Set_int_Done : List AV → List AE.Obj → (AV → List AE.Obj → Ans) → Ans := fun l H K => bindO (decApending_Set_int_Done l H) fun a => vFpending_Set_int_Done a K
theorem Fpending_Set_int_Done_ok : FuncOk Try.prog 33 Fpending_Set_int_Done := func_mkD (hint := noHint) (d := 0) (n := 70) mixed tabOk envpending_Set_int_DoneOk Try.func33 (bodySome (by kernel_rfl)) (by decide +kernel) annpending_Set_int_Done_ok decApending_Set_int_Done_ok fnpending_Set_int_Done_ok fnpending_Set_int_Done_nat
--@ law30_Same
noncomputable def envlaw30_Same : Env := []
theorem envlaw30_SameOk : EnvOk Try.prog envlaw30_Same := EnvOk.nil
noncomputable def blaw30_Same : Code := Try.f32.body.getD .skip
noncomputable def Llaw30_Same_n1 : Code := codeAt [1, 1, 0, 1, 0, 0, 0, 0] blaw30_Same
noncomputable def annLlaw30_Same_n1 : Ann := .none
theorem annLlaw30_Same_n1_ok : AnnOk Try.prog 32 Llaw30_Same_n1 annLlaw30_Same_n1 := (annOk_none _ _ _)
abbrev Ilaw30_Same_n1 := (List (Int × Int)) × (List (Int × Int)) × (Int)
abbrev Ylaw30_Same_n1 := (Bool)
def Slaw30_Same_n1 : Ilaw30_Same_n1 → St := fun (t0, t1, t5) => { env := [(0, AV.ro (Ty.st (Ty.pair (Ty.int IntKind.i64) (Ty.int IntKind.i64))) t0), (1, AV.ro (Ty.st (Ty.pair (Ty.int IntKind.i64) (Ty.int IntKind.i64))) t1), (5, AV.int IntKind.i64 t5)], stk := [[]], H := [], blk := 131072 }
def declaw30_Same_n1 (s : St) : Option Ilaw30_Same_n1 := match s with
  | { env := [(0, AV.ro (Ty.st (Ty.pair (Ty.int IntKind.i64) (Ty.int IntKind.i64))) t0), (1, AV.ro (Ty.st (Ty.pair (Ty.int IntKind.i64) (Ty.int IntKind.i64))) t1), (5, AV.int IntKind.i64 t5)], stk := [[]], H := [], blk := 131072 } => some (t0, t1, t5)
  | _ => none
theorem declaw30_Same_n1_ok (s : St) (x : Ilaw30_Same_n1) (h : declaw30_Same_n1 s = some x) : s = Slaw30_Same_n1 x := by
  unfold declaw30_Same_n1 at h
  split at h
  · cases h; rfl
  · cases h
def outlaw30_Same_n1 : Ilaw30_Same_n1 → (Ex → St → Ans) → Ylaw30_Same_n1 → Ans := fun (t0, t1, t5) K => fun t20_y => K (Ex.norm) { env := [(0, AV.ro (Ty.st (Ty.pair (Ty.int IntKind.i64) (Ty.int IntKind.i64))) t0), (1, AV.ro (Ty.st (Ty.pair (Ty.int IntKind.i64) (Ty.int IntKind.i64))) t1), (5, AV.int IntKind.i64 t5), (20, AV.bool t20_y)], stk := [[]], H := [], blk := 131072 }
def nodelaw30_Same_n1 {β : Type} : Ilaw30_Same_n1 → (Ylaw30_Same_n1 → Option β) → Option β := fun (t0, t1, t5) exit => (bif decide (t5 < (↑(List.length t0) : Int)) then (exit (decide (t5 < (↑(List.length t1) : Int)))) else (exit (false)))
def nodeDlaw30_Same_n1 (i : Ilaw30_Same_n1) : Option Ylaw30_Same_n1 := nodelaw30_Same_n1 i some
theorem nodelaw30_Same_n1_nat (i : Ilaw30_Same_n1) (k : Ylaw30_Same_n1 → Ans) : nodelaw30_Same_n1 i k = bindO (nodeDlaw30_Same_n1 i) k := by
  obtain ⟨t0, t1, t5⟩ := i
  simp only [nodeDlaw30_Same_n1, nodelaw30_Same_n1, bindO_cond, bindO_assoc, bindO_none, bindO_pure, bindO_elim, bindO_unP]
theorem nodelaw30_Same_n1_ok (i : Ilaw30_Same_n1) (K : Ex → St → Ans) : codeI Try.tab envlaw30_Same noHint (codeD Try.tab envlaw30_Same noHint 0 64) 70 32 annLlaw30_Same_n1 Llaw30_Same_n1 (weakP 0 (exk [0, 1, 5, 20] [4] []) K) (Slaw30_Same_n1 i) = nodelaw30_Same_n1 i (outlaw30_Same_n1 i K) := by kernel_rfl
theorem GNlaw30_Same_n1_ok : CSum Try.prog 32 Llaw30_Same_n1 (sumN declaw30_Same_n1 nodeDlaw30_Same_n1 outlaw30_Same_n1) := csum_node mixed tabOk envlaw30_SameOk 0 (exk [0, 1, 5, 20] [4] []) annLlaw30_Same_n1_ok declaw30_Same_n1_ok nodelaw30_Same_n1_ok nodelaw30_Same_n1_nat
noncomputable def Glaw30_Same_n1 : (Ex → St → Ans) → St → Ans := (sumN declaw30_Same_n1 nodeDlaw30_Same_n1 outlaw30_Same_n1)
theorem Glaw30_Same_n1_ok : CSum Try.prog 32 Llaw30_Same_n1 Glaw30_Same_n1 := GNlaw30_Same_n1_ok
noncomputable def Llaw30_Same_n0 : Code := codeAt [1, 1, 0, 1, 0, 0] blaw30_Same
noncomputable def annLlaw30_Same_n0 : Ann := .at 0 [0, 1, 5] (.loop (.seq (.seq (.cut 0 [0, 1, 5] Glaw30_Same_n1) .none) .none))
theorem annLlaw30_Same_n0_ok : AnnOk Try.prog 32 (.loop Llaw30_Same_n0) annLlaw30_Same_n0 := annOk_at ⟨⟨Glaw30_Same_n1_ok, (annOk_none _ _ _)⟩, (annOk_none _ _ _)⟩
abbrev Ilaw30_Same_n0 := (List (Int × Int)) × (List (Int × Int))
abbrev Ylaw30_Same_n0 := (Unit) ⊕ (Unit)
abbrev Vlaw30_Same_n0 := (Int)
def Slaw30_Same_n0 : Ilaw30_Same_n0 → Vlaw30_Same_n0 → St := fun (t0, t1) t5 => { env := [(0, AV.ro (Ty.st (Ty.pair (Ty.int IntKind.i64) (Ty.int IntKind.i64))) t0), (1, AV.ro (Ty.st (Ty.pair (Ty.int IntKind.i64) (Ty.int IntKind.i64))) t1), (5, AV.int IntKind.i64 t5)], stk := [[]], H := [], blk := 131072 }
def declaw30_Same_n0 (s : St) : Option (Ilaw30_Same_n0 × Vlaw30_Same_n0) := match s with
  | { env := [(0, AV.ro (Ty.st (Ty.pair (Ty.int IntKind.i64) (Ty.int IntKind.i64))) t0), (1, AV.ro (Ty.st (Ty.pair (Ty.int IntKind.i64) (Ty.int IntKind.i64))) t1), (5, AV.int IntKind.i64 t5)], stk := [[]], H := [], blk := 131072 } => some ((t0, t1), t5)
  | _ => none
theorem declaw30_Same_n0_ok (s : St) (x : Ilaw30_Same_n0 × Vlaw30_Same_n0) (h : declaw30_Same_n0 s = some x) : s = Slaw30_Same_n0 x.1 x.2 := by
  unfold declaw30_Same_n0 at h
  split at h
  · cases h; rfl
  · cases h
def outlaw30_Same_n0 : Ilaw30_Same_n0 → (Ex → St → Ans) → Ylaw30_Same_n0 → Ans := fun (t0, t1) K => (Sum.elim (fun _ => K (Ex.ret) { env := [(4, AV.bool (false))], stk := [[]], H := [], blk := 131073 }) (fun _ => K (Ex.exit 0) { env := [], stk := [[]], H := [], blk := 131072 }))
def steplaw30_Same_n0 {β : Type} : Ilaw30_Same_n0 → Vlaw30_Same_n0 → (Vlaw30_Same_n0 → Option β) → (Ylaw30_Same_n0 → Option β) → Option β := fun (t0, t1) t5 next exit => (bindO (nodeDlaw30_Same_n1 (t0, t1, t5)) fun t20 => (bif t20 then (bindO (nth t0 t5) fun x => (bindO (nth t1 t5) fun x_2 => (bif !(x.fst == x_2.fst && (x.snd == x_2.snd && true)) then (exit (Sum.inl ())) else (next (IntKind.wrap IntKind.i64 (t5 + (1 : Int))))))) else (exit (Sum.inr ()))))
def stepDlaw30_Same_n0 (i : Ilaw30_Same_n0) (v : Vlaw30_Same_n0) : Option (Vlaw30_Same_n0 ⊕ Ylaw30_Same_n0) := steplaw30_Same_n0 i v (fun v => some (.inl v)) (fun y => some (.inr y))
theorem steplaw30_Same_n0_nat (i : Ilaw30_Same_n0) (v : Vlaw30_Same_n0) (next : Vlaw30_Same_n0 → Ans) (exit : Ylaw30_Same_n0 → Ans) : steplaw30_Same_n0 i v next exit = bindO (stepDlaw30_Same_n0 i v) (Sum.elim next exit) := by
  obtain ⟨t0, t1⟩ := i
  obtain z := v
  simp only [stepDlaw30_Same_n0, steplaw30_Same_n0, bindO_cond, bindO_assoc, bindO_none, bindO_pure, bindO_elim, bindO_unP, Sum.elim_inl, Sum.elim_inr]
theorem steplaw30_Same_n0_ok (n : Nat) (i : Ilaw30_Same_n0) (v : Vlaw30_Same_n0) (K : Ex → St → Ans) : codeI Try.tab envlaw30_Same noHint (codeD Try.tab envlaw30_Same noHint 0 64) (n+1) 32 annLlaw30_Same_n0 (.loop Llaw30_Same_n0) (weakP 0 (exk [] [4] [(0, [])]) K) (Slaw30_Same_n0 i v) = steplaw30_Same_n0 i v (fun v' => codeI Try.tab envlaw30_Same noHint (codeD Try.tab envlaw30_Same noHint 0 64) n 32 annLlaw30_Same_n0 (.loop Llaw30_Same_n0) (weakP 0 (exk [] [4] [(0, [])]) K) (Slaw30_Same_n0 i v')) (fun y => outlaw30_Same_n0 i K y) := by kernel_rfl
theorem GNlaw30_Same_n0_ok : CSum Try.prog 32 (.loop Llaw30_Same_n0) (sumL declaw30_Same_n0 stepDlaw30_Same_n0 outlaw30_Same_n0) := csum_loop mixed tabOk envlaw30_SameOk 0 (exk [] [4] [(0, [])]) annLlaw30_Same_n0_ok declaw30_Same_n0_ok steplaw30_Same_n0_ok steplaw30_Same_n0_nat
noncomputable def Glaw30_Same_n0 : (Ex → St → Ans) → St → Ans := (sumL declaw30_Same_n0 stepDlaw30_Same_n0 outlaw30_Same_n0)
theorem Glaw30_Same_n0_ok : CSum Try.prog 32 (.loop Llaw30_Same_n0) Glaw30_Same_n0 := GNlaw30_Same_n0_ok
noncomputable def annlaw30_Same : Ann := (.seq .none (.seq .none (.seq (.seq .none (.block (.cut 0 [0, 1, 5] Glaw30_Same_n0))) .none)))
theorem annlaw30_Same_ok : AnnOk Try.prog 32 blaw30_Same annlaw30_Same := ⟨(annOk_none _ _ _), ⟨(annOk_none _ _ _), ⟨⟨(annOk_none _ _ _), Glaw30_Same_n0_ok⟩, (annOk_none _ _ _)⟩⟩⟩
abbrev Alaw30_Same := (List (Int × Int)) × (List (Int × Int))
abbrev Ylaw30_Same := (Bool)
def fnlaw30_Same {β : Type} : Alaw30_Same → (Ylaw30_Same → Option β) → Option β := fun (a0, a1) exit => (bif (↑(List.length a0) : Int) != (↑(List.length a1) : Int) then (exit (false)) else (bindO (loopD (stepDlaw30_Same_n0 (a0, a1)) FUEL ((0 : Int))) (Sum.elim (fun _ => (exit (false))) (fun _ => (exit (true))))))
def fnDlaw30_Same (a : Alaw30_Same) : Option Ylaw30_Same := fnlaw30_Same a some
theorem fnlaw30_Same_nat (a : Alaw30_Same) (k : Ylaw30_Same → Ans) : fnlaw30_Same a k = bindO (fnDlaw30_Same a) k := by
  obtain ⟨a0, a1⟩ := a
  simp only [fnDlaw30_Same, fnlaw30_Same, bindO_cond, bindO_assoc, bindO_none, bindO_pure, bindO_elim, bindO_unP]
def argslaw30_Same : Alaw30_Same → List AV := fun (a0, a1) => [AV.ro (Ty.st (Ty.pair (Ty.int IntKind.i64) (Ty.int IntKind.i64))) a0, AV.ro (Ty.st (Ty.pair (Ty.int IntKind.i64) (Ty.int IntKind.i64))) a1]
def decAlaw30_Same (l : List AV) : Option Alaw30_Same := match l with
  | [AV.ro (Ty.st (Ty.pair (Ty.int IntKind.i64) (Ty.int IntKind.i64))) a0, AV.ro (Ty.st (Ty.pair (Ty.int IntKind.i64) (Ty.int IntKind.i64))) a1] => some (a0, a1)
  | _ => none
theorem decAlaw30_Same_ok (l : List AV) (a : Alaw30_Same) (h : decAlaw30_Same l = some a) : l = argslaw30_Same a := by
  unfold decAlaw30_Same at h
  split at h
  · cases h; rfl
  · cases h
def rendlaw30_Same : Alaw30_Same → Ylaw30_Same → AV := fun (a0, a1) => fun r_y => AV.bool r_y
theorem rendlaw30_Same_ok : ∀ (a : Alaw30_Same) (y : Ylaw30_Same), (rendlaw30_Same a y).closed1 = true := by
  rintro ⟨a0, a1⟩ y <;> first | rfl | exact Empty.elim y
theorem fnlaw30_Same_ok (a : Alaw30_Same) : fnE Try.tab envlaw30_Same noHint 0 70 32 Try.f32.ntmps Try.f32.results.toList annlaw30_Same blaw30_Same (argslaw30_Same a) [] (fun v _ => some (v, [])) = fnlaw30_Same a (fun y => some (rendlaw30_Same a y, [])) := by kernel_rfl
def vFlaw30_Same (a : Alaw30_Same) (K : AV → Ans) : Ans := bindO (fnDlaw30_Same a) fun y => K (rendlaw30_Same a y)
def Flaw30_Same : List AV → (AV → Ans) → Ans := fun l K => bindO (decAlaw30_Same l) fun a => vFlaw30_Same a K
theorem Flaw30_Same_ok : PureOk Try.prog 32 Flaw30_Same := pure_mkD (hint := noHint) (d := 0) (n := 70) mixed tabOk envlaw30_SameOk Try.func32 (bodySome (by kernel_rfl)) (by decide +kernel) annlaw30_Same_ok decAlaw30_Same_ok fnlaw30_Same_ok fnlaw30_Same_nat rendlaw30_Same_ok
--@ pending_Set_int_Len
noncomputable def envpending_Set_int_Len : Env := []
theorem envpending_Set_int_LenOk : EnvOk Try.prog envpending_Set_int_Len := EnvOk.nil
noncomputable def bpending_Set_int_Len : Code := Try.f37.body.getD .skip
noncomputable def annpending_Set_int_Len : Ann := .none
theorem annpending_Set_int_Len_ok : AnnOk Try.prog 10 bpending_Set_int_Len annpending_Set_int_Len := (annOk_none _ _ _)
abbrev Apending_Set_int_Len := (Int) × (List (Int × List Int))
abbrev Ypending_Set_int_Len := (Int)
def fnpending_Set_int_Len {β : Type} : Apending_Set_int_Len → (Ypending_Set_int_Len → Option β) → Option β := fun (o0_1, o1) exit => (exit ((↑(List.length o1) : Int)))
def fnDpending_Set_int_Len (a : Apending_Set_int_Len) : Option Ypending_Set_int_Len := fnpending_Set_int_Len a some
theorem fnpending_Set_int_Len_nat (a : Apending_Set_int_Len) (k : Ypending_Set_int_Len → Ans) : fnpending_Set_int_Len a k = bindO (fnDpending_Set_int_Len a) k := by
  obtain ⟨o0_1, o1⟩ := a
  simp only [fnDpending_Set_int_Len, fnpending_Set_int_Len, bindO_cond, bindO_assoc, bindO_none, bindO_pure, bindO_elim, bindO_unP]
def argspending_Set_int_Len : Apending_Set_int_Len → List AV × List AE.Obj := fun (o0_1, o1) => ([AV.ptr 0 0], [AE.Obj.cells [AV.own 1, AV.int IntKind.i64 o0_1], Obj.arr (Ty.st (Ty.pair (Ty.int IntKind.i64) (Ty.list (Ty.int IntKind.i64)))) o1])
def decApending_Set_int_Len (l : List AV) (H : List AE.Obj) : Option Apending_Set_int_Len := match l, H with
  | [AV.ptr 0 0], [AE.Obj.cells [AV.own 1, AV.int IntKind.i64 o0_1], Obj.arr (Ty.st (Ty.pair (Ty.int IntKind.i64) (Ty.list (Ty.int IntKind.i64)))) o1] => some (o0_1, o1)
  | _, _ => none
theorem decApending_Set_int_Len_ok (l : List AV) (H : List AE.Obj) (a : Apending_Set_int_Len) (h : decApending_Set_int_Len l H = some a) : (l, H) = argspending_Set_int_Len a := by
  unfold decApending_Set_int_Len at h
  split at h
  · cases h; rfl
  · cases h
def outpending_Set_int_Len : Apending_Set_int_Len → (AV → List AE.Obj → Ans) → Ypending_Set_int_Len → Ans := fun (o0_1, o1) K => fun r_y => K (AV.int IntKind.i64 r_y) [AE.Obj.cells [AV.own 1, AV.int IntKind.i64 o0_1], Obj.arr (Ty.st (Ty.pair (Ty.int IntKind.i64) (Ty.list (Ty.int IntKind.i64)))) o1]
theorem fnpending_Set_int_Len_ok (a : Apending_Set_int_Len) (K : AV → List AE.Obj → Ans) : fnE Try.tab envpending_Set_int_Len noHint 0 70 37 Try.f37.ntmps Try.f37.results.toList annpending_Set_int_Len bpending_Set_int_Len (argspending_Set_int_Len a).1 (argspending_Set_int_Len a).2 K = fnpending_Set_int_Len a (outpending_Set_int_Len a K) := by kernel_rfl
def vFpending_Set_int_Len (a : Apending_Set_int_Len) (K : AV → List AE.Obj → Ans) : Ans := bindO (fnDpending_Set_int_Len a) fun y => outpending_Set_int_Len a K y
def Fpending_Set_int_Len : List AV → List AE.Obj → (AV → List AE.Obj → Ans) → Ans := fun l H K => bindO (decApending_Set_int_Len l H) fun a => vFpending_Set_int_Len a K
theorem Fpending_Set_int_Len_ok : FuncOk Try.prog 37 Fpending_Set_int_Len := func_mkD (hint := noHint) (d := 0) (n := 70) mixed tabOk envpending_Set_int_LenOk Try.func37 (bodySome (by kernel_rfl)) (by decide +kernel) annpending_Set_int_Len_ok decApending_Set_int_Len_ok fnpending_Set_int_Len_ok fnpending_Set_int_Len_nat
--@ law30_works
noncomputable def envlaw30_works : Env := [(29, .func Fpending_New_int), (30, .func Fpending_Set_int_Add), (33, .func Fpending_Set_int_Done), (32, .pure Flaw30_Same), (37, .func Fpending_Set_int_Len)]
theorem envlaw30_worksOk : EnvOk Try.prog envlaw30_works := EnvOk.cons Fpending_New_int_ok (EnvOk.cons Fpending_Set_int_Add_ok (EnvOk.cons Fpending_Set_int_Done_ok (EnvOk.cons Flaw30_Same_ok (EnvOk.cons Fpending_Set_int_Len_ok (EnvOk.nil)))))
noncomputable def blaw30_works : Code := Try.f21.body.getD .skip
noncomputable def Llaw30_works_n0 : Code := codeAt [1, 1, 1, 1, 0] blaw30_works
noncomputable def annLlaw30_works_n0 : Ann := .none
theorem annLlaw30_works_n0_ok : AnnOk Try.prog 39 Llaw30_works_n0 annLlaw30_works_n0 := (annOk_none _ _ _)
abbrev Ilaw30_works_n0 := (Int) × (Int) × (Int) × (List (Int × Int)) × (List (Int × Int)) × (List (Int × List Int))
abbrev Ylaw30_works_n0 := (Bool)
def Slaw30_works_n0 : Ilaw30_works_n0 → St := fun (t2, t3, o0_1, o1, o2, o3) => { env := [(1, AV.ptr 0 0), (2, AV.int IntKind.i64 t2), (3, AV.int IntKind.i64 t3), (4, AV.own 1), (5, AV.own 2)], stk := [[]], H := [AE.Obj.cells [AV.own 3, AV.int IntKind.i64 o0_1], Obj.arr (Ty.st (Ty.pair (Ty.int IntKind.i64) (Ty.int IntKind.i64))) o1, Obj.arr (Ty.st (Ty.pair (Ty.int IntKind.i64) (Ty.int IntKind.i64))) o2, Obj.arr (Ty.st (Ty.pair (Ty.int IntKind.i64) (Ty.list (Ty.int IntKind.i64)))) o3], blk := 86016 }
def declaw30_works_n0 (s : St) : Option Ilaw30_works_n0 := match s with
  | { env := [(1, AV.ptr 0 0), (2, AV.int IntKind.i64 t2), (3, AV.int IntKind.i64 t3), (4, AV.own 1), (5, AV.own 2)], stk := [[]], H := [AE.Obj.cells [AV.own 3, AV.int IntKind.i64 o0_1], Obj.arr (Ty.st (Ty.pair (Ty.int IntKind.i64) (Ty.int IntKind.i64))) o1, Obj.arr (Ty.st (Ty.pair (Ty.int IntKind.i64) (Ty.int IntKind.i64))) o2, Obj.arr (Ty.st (Ty.pair (Ty.int IntKind.i64) (Ty.list (Ty.int IntKind.i64)))) o3], blk := 86016 } => some (t2, t3, o0_1, o1, o2, o3)
  | _ => none
theorem declaw30_works_n0_ok (s : St) (x : Ilaw30_works_n0) (h : declaw30_works_n0 s = some x) : s = Slaw30_works_n0 x := by
  unfold declaw30_works_n0 at h
  split at h
  · cases h; rfl
  · cases h
def outlaw30_works_n0 : Ilaw30_works_n0 → (Ex → St → Ans) → Ylaw30_works_n0 → Ans := fun (t2, t3, o0_1, o1, o2, o3) K => fun t0_y => K (Ex.norm) { env := [(0, AV.bool t0_y)], stk := [[]], H := [], blk := 86016 }
def nodelaw30_works_n0 {β : Type} : Ilaw30_works_n0 → (Ylaw30_works_n0 → Option β) → Option β := fun (t2, t3, o0_1, o1, o2, o3) exit => (bif t2 == (1 : Int) then (bif t3 == (0 : Int) then (bif (↑(List.length o1) : Int) == (0 : Int) then (bindO (fnDlaw30_Same (o2, [((1 : Int), (2 : Int))])) fun r => (bif r then (bindO (fnDpending_Set_int_Len (o0_1, o3)) fun r_2 => (exit (r_2 == (0 : Int)))) else (exit (false)))) else (exit (false))) else (exit (false))) else (exit (false)))
def nodeDlaw30_works_n0 (i : Ilaw30_works_n0) : Option Ylaw30_works_n0 := nodelaw30_works_n0 i some
theorem nodelaw30_works_n0_nat (i : Ilaw30_works_n0) (k : Ylaw30_works_n0 → Ans) : nodelaw30_works_n0 i k = bindO (nodeDlaw30_works_n0 i) k := by
  obtain ⟨t2, t3, o0_1, o1, o2, o3⟩ := i
  simp only [nodeDlaw30_works_n0, nodelaw30_works_n0, bindO_cond, bindO_assoc, bindO_none, bindO_pure, bindO_elim, bindO_unP]
theorem nodelaw30_works_n0_ok (i : Ilaw30_works_n0) (K : Ex → St → Ans) : codeI Try.tab envlaw30_works noHint (codeD Try.tab envlaw30_works noHint 0 64) 70 39 annLlaw30_works_n0 Llaw30_works_n0 (weakP 0 (exk [0] [0] []) K) (Slaw30_works_n0 i) = nodelaw30_works_n0 i (outlaw30_works_n0 i K) := by kernel_rfl
theorem GNlaw30_works_n0_ok : CSum Try.prog 39 Llaw30_works_n0 (sumN declaw30_works_n0 nodeDlaw30_works_n0 outlaw30_works_n0) := csum_node mixed tabOk envlaw30_worksOk 0 (exk [0] [0] []) annLlaw30_works_n0_ok declaw30_works_n0_ok nodelaw30_works_n0_ok nodelaw30_works_n0_nat
noncomputable def Glaw30_works_n0 : (Ex → St → Ans) → St → Ans := (sumN declaw30_works_n0 nodeDlaw30_works_n0 outlaw30_works_n0)
theorem Glaw30_works_n0_ok : CSum Try.prog 39 Llaw30_works_n0 Glaw30_works_n0 := GNlaw30_works_n0_ok
noncomputable def annlaw30_works : Ann := (.seq .none (.seq .none (.seq .none (.seq .none (.seq (.cut 0 [1, 2, 3, 4, 5] Glaw30_works_n0) .none)))))
theorem annlaw30_works_ok : AnnOk Try.prog 39 blaw30_works annlaw30_works := ⟨(annOk_none _ _ _), ⟨(annOk_none _ _ _), ⟨(annOk_none _ _ _), ⟨(annOk_none _ _ _), ⟨Glaw30_works_n0_ok, (annOk_none _ _ _)⟩⟩⟩⟩⟩
abbrev Alaw30_works := Unit
abbrev Ylaw30_works := (Bool)
def fnlaw30_works {β : Type} : Alaw30_works → (Ylaw30_works → Option β) → Option β := fun _ exit => (bindO (fnDpending_New_int ()) fun _ => (bindO (fnDpending_Set_int_Add ([(5 : Int), (6 : Int), (5 : Int)], (0 : Int), [])) (unP fun r_0 => unP fun r_1 => unP fun o0_1 o1 => (bindO (fnDpending_Set_int_Done ((5 : Int), o0_1, o1)) (unP fun o2 o3 => (bindO (fnDpending_Set_int_Done ((6 : Int), o0_1, o3)) (unP fun o2_2 o3_2 => (bindO (nodeDlaw30_works_n0 (r_0, r_1, o0_1, o2, o2_2, o3_2)) fun t0 => (exit (t0))))))))))
def fnDlaw30_works (a : Alaw30_works) : Option Ylaw30_works := fnlaw30_works a some
theorem fnlaw30_works_nat (a : Alaw30_works) (k : Ylaw30_works → Ans) : fnlaw30_works a k = bindO (fnDlaw30_works a) k := by
  obtain z := a
  simp only [fnDlaw30_works, fnlaw30_works, bindO_cond, bindO_assoc, bindO_none, bindO_pure, bindO_elim, bindO_unP]
def argslaw30_works : Alaw30_works → List AV := fun _ => []
def decAlaw30_works (l : List AV) : Option Alaw30_works := match l with
  | [] => some ()
  | _ => none
theorem decAlaw30_works_ok (l : List AV) (a : Alaw30_works) (h : decAlaw30_works l = some a) : l = argslaw30_works a := by
  unfold decAlaw30_works at h
  split at h
  · cases h; rfl
  · cases h
def rendlaw30_works : Alaw30_works → Ylaw30_works → AV := fun _ => fun r_y => AV.bool r_y
theorem rendlaw30_works_ok : ∀ (a : Alaw30_works) (y : Ylaw30_works), (rendlaw30_works a y).closed1 = true := by
  rintro z y <;> first | rfl | exact Empty.elim y
theorem fnlaw30_works_ok (a : Alaw30_works) : fnE Try.tab envlaw30_works noHint 0 70 21 Try.f21.ntmps Try.f21.results.toList annlaw30_works blaw30_works (argslaw30_works a) [] (fun v _ => some (v, [])) = fnlaw30_works a (fun y => some (rendlaw30_works a y, [])) := by kernel_rfl
def vFlaw30_works (a : Alaw30_works) (K : AV → Ans) : Ans := bindO (fnDlaw30_works a) fun y => K (rendlaw30_works a y)
def Flaw30_works : List AV → (AV → Ans) → Ans := fun l K => bindO (decAlaw30_works l) fun a => vFlaw30_works a K
theorem Flaw30_works_ok : PureOk Try.prog 21 Flaw30_works := pure_mkD (hint := noHint) (d := 0) (n := 70) mixed tabOk envlaw30_worksOk Try.func21 (bodySome (by kernel_rfl)) (by decide +kernel) annlaw30_works_ok decAlaw30_works_ok fnlaw30_works_ok fnlaw30_works_nat rendlaw30_works_ok
--@ law30_great
noncomputable def envlaw30_great : Env := []
theorem envlaw30_greatOk : EnvOk Try.prog envlaw30_great := EnvOk.nil
noncomputable def blaw30_great : Code := Try.f28.body.getD .skip
noncomputable def Llaw30_great_n2 : Code := codeAt [1, 1, 0, 1, 0, 0, 1, 0, 0, 1, 0] blaw30_great
noncomputable def annLlaw30_great_n2 : Ann := .none
theorem annLlaw30_great_n2_ok : AnnOk Try.prog 26 Llaw30_great_n2 annLlaw30_great_n2 := (annOk_none _ _ _)
abbrev Ilaw30_great_n2 := (List (Int × Int × List Int)) × (Int) × (Int)
abbrev Ylaw30_great_n2 := (Bool)
def Slaw30_great_n2 : Ilaw30_great_n2 → St := fun (t0, t3, t4) => { env := [(0, AV.ro (Ty.st (Ty.pair (Ty.int IntKind.i64) (Ty.pair (Ty.int IntKind.i64) (Ty.list (Ty.int IntKind.i64))))) t0), (3, AV.int IntKind.i64 t3), (4, AV.int IntKind.i64 t4)], stk := [[]], H := [], blk := 114689 }
def declaw30_great_n2 (s : St) : Option Ilaw30_great_n2 := match s with
  | { env := [(0, AV.ro (Ty.st (Ty.pair (Ty.int IntKind.i64) (Ty.pair (Ty.int IntKind.i64) (Ty.list (Ty.int IntKind.i64))))) t0), (3, AV.int IntKind.i64 t3), (4, AV.int IntKind.i64 t4)], stk := [[]], H := [], blk := 114689 } => some (t0, t3, t4)
  | _ => none
theorem declaw30_great_n2_ok (s : St) (x : Ilaw30_great_n2) (h : declaw30_great_n2 s = some x) : s = Slaw30_great_n2 x := by
  unfold declaw30_great_n2 at h
  split at h
  · cases h; rfl
  · cases h
def outlaw30_great_n2 : Ilaw30_great_n2 → (Ex → St → Ans) → Ylaw30_great_n2 → Ans := fun (t0, t3, t4) K => fun t25_y => K (Ex.norm) { env := [(0, AV.ro (Ty.st (Ty.pair (Ty.int IntKind.i64) (Ty.pair (Ty.int IntKind.i64) (Ty.list (Ty.int IntKind.i64))))) t0), (3, AV.int IntKind.i64 t3), (4, AV.int IntKind.i64 t4), (25, AV.bool t25_y)], stk := [[]], H := [], blk := 114689 }
def nodelaw30_great_n2 {β : Type} : Ilaw30_great_n2 → (Ylaw30_great_n2 → Option β) → Option β := fun (t0, t3, t4) exit => (bif decide (t4 ≥ (150 : Int)) then (exit (true)) else (exit (decide (t3 > (2000 : Int)))))
def nodeDlaw30_great_n2 (i : Ilaw30_great_n2) : Option Ylaw30_great_n2 := nodelaw30_great_n2 i some
theorem nodelaw30_great_n2_nat (i : Ilaw30_great_n2) (k : Ylaw30_great_n2 → Ans) : nodelaw30_great_n2 i k = bindO (nodeDlaw30_great_n2 i) k := by
  obtain ⟨t0, t3, t4⟩ := i
  simp only [nodeDlaw30_great_n2, nodelaw30_great_n2, bindO_cond, bindO_assoc, bindO_none, bindO_pure, bindO_elim, bindO_unP]
theorem nodelaw30_great_n2_ok (i : Ilaw30_great_n2) (K : Ex → St → Ans) : codeI Try.tab envlaw30_great noHint (codeD Try.tab envlaw30_great noHint 0 64) 70 26 annLlaw30_great_n2 Llaw30_great_n2 (weakP 0 (exk [0, 3, 4, 25] [2] []) K) (Slaw30_great_n2 i) = nodelaw30_great_n2 i (outlaw30_great_n2 i K) := by kernel_rfl
theorem GNlaw30_great_n2_ok : CSum Try.prog 26 Llaw30_great_n2 (sumN declaw30_great_n2 nodeDlaw30_great_n2 outlaw30_great_n2) := csum_node mixed tabOk envlaw30_greatOk 0 (exk [0, 3, 4, 25] [2] []) annLlaw30_great_n2_ok declaw30_great_n2_ok nodelaw30_great_n2_ok nodelaw30_great_n2_nat
noncomputable def Glaw30_great_n2 : (Ex → St → Ans) → St → Ans := (sumN declaw30_great_n2 nodeDlaw30_great_n2 outlaw30_great_n2)
theorem Glaw30_great_n2_ok : CSum Try.prog 26 Llaw30_great_n2 Glaw30_great_n2 := GNlaw30_great_n2_ok
noncomputable def Llaw30_great_n1 : Code := codeAt [1, 1, 0, 1, 0, 0, 1, 0] blaw30_great
noncomputable def annLlaw30_great_n1 : Ann := (.block (.seq .none (.seq (.cut 0 [0, 3, 4] Glaw30_great_n2) .none)))
theorem annLlaw30_great_n1_ok : AnnOk Try.prog 26 Llaw30_great_n1 annLlaw30_great_n1 := ⟨(annOk_none _ _ _), ⟨Glaw30_great_n2_ok, (annOk_none _ _ _)⟩⟩
abbrev Ilaw30_great_n1 := (List (Int × Int × List Int)) × (Int) × (Int)
abbrev Ylaw30_great_n1 := (Unit) ⊕ ((Int))
def Slaw30_great_n1 : Ilaw30_great_n1 → St := fun (t0, t3, t4) => { env := [(0, AV.ro (Ty.st (Ty.pair (Ty.int IntKind.i64) (Ty.pair (Ty.int IntKind.i64) (Ty.list (Ty.int IntKind.i64))))) t0), (3, AV.int IntKind.i64 t3), (4, AV.int IntKind.i64 t4)], stk := [[]], H := [], blk := 114688 }
def declaw30_great_n1 (s : St) : Option Ilaw30_great_n1 := match s with
  | { env := [(0, AV.ro (Ty.st (Ty.pair (Ty.int IntKind.i64) (Ty.pair (Ty.int IntKind.i64) (Ty.list (Ty.int IntKind.i64))))) t0), (3, AV.int IntKind.i64 t3), (4, AV.int IntKind.i64 t4)], stk := [[]], H := [], blk := 114688 } => some (t0, t3, t4)
  | _ => none
theorem declaw30_great_n1_ok (s : St) (x : Ilaw30_great_n1) (h : declaw30_great_n1 s = some x) : s = Slaw30_great_n1 x := by
  unfold declaw30_great_n1 at h
  split at h
  · cases h; rfl
  · cases h
def outlaw30_great_n1 : Ilaw30_great_n1 → (Ex → St → Ans) → Ylaw30_great_n1 → Ans := fun (t0, t3, t4) K => (Sum.elim (fun _ => K (Ex.ret) { env := [(2, AV.bool (true))], stk := [[]], H := [], blk := 114689 }) (fun t3_y => K (Ex.norm) { env := [(0, AV.ro (Ty.st (Ty.pair (Ty.int IntKind.i64) (Ty.pair (Ty.int IntKind.i64) (Ty.list (Ty.int IntKind.i64))))) t0), (3, AV.int IntKind.i64 t3_y), (4, AV.int IntKind.i64 t4)], stk := [[]], H := [], blk := 114689 }))
def nodelaw30_great_n1 {β : Type} : Ilaw30_great_n1 → (Ylaw30_great_n1 → Option β) → Option β := fun (t0, t3, t4) exit => (bindO (nth t0 t4) fun x => (bindO (nodeDlaw30_great_n2 (t0, IntKind.wrap IntKind.i64 (t3 + if (3000 : Int) < (↑(List.length x.snd.snd) : Int) then (3000 : Int) else (↑(List.length x.snd.snd) : Int)), t4)) fun t25 => (bif t25 then (exit (Sum.inl ())) else (exit (Sum.inr (IntKind.wrap IntKind.i64 (t3 + if (3000 : Int) < (↑(List.length x.snd.snd) : Int) then (3000 : Int) else (↑(List.length x.snd.snd) : Int))))))))
def nodeDlaw30_great_n1 (i : Ilaw30_great_n1) : Option Ylaw30_great_n1 := nodelaw30_great_n1 i some
theorem nodelaw30_great_n1_nat (i : Ilaw30_great_n1) (k : Ylaw30_great_n1 → Ans) : nodelaw30_great_n1 i k = bindO (nodeDlaw30_great_n1 i) k := by
  obtain ⟨t0, t3, t4⟩ := i
  simp only [nodeDlaw30_great_n1, nodelaw30_great_n1, bindO_cond, bindO_assoc, bindO_none, bindO_pure, bindO_elim, bindO_unP]
theorem nodelaw30_great_n1_ok (i : Ilaw30_great_n1) (K : Ex → St → Ans) : codeI Try.tab envlaw30_great noHint (codeD Try.tab envlaw30_great noHint 0 64) 70 26 annLlaw30_great_n1 Llaw30_great_n1 (weakP 0 (exk [0, 3, 4] [2] []) K) (Slaw30_great_n1 i) = nodelaw30_great_n1 i (outlaw30_great_n1 i K) := by kernel_rfl
theorem GNlaw30_great_n1_ok : CSum Try.prog 26 Llaw30_great_n1 (sumN declaw30_great_n1 nodeDlaw30_great_n1 outlaw30_great_n1) := csum_node mixed tabOk envlaw30_greatOk 0 (exk [0, 3, 4] [2] []) annLlaw30_great_n1_ok declaw30_great_n1_ok nodelaw30_great_n1_ok nodelaw30_great_n1_nat
noncomputable def Glaw30_great_n1 : (Ex → St → Ans) → St → Ans := (sumN declaw30_great_n1 nodeDlaw30_great_n1 outlaw30_great_n1)
theorem Glaw30_great_n1_ok : CSum Try.prog 26 Llaw30_great_n1 Glaw30_great_n1 := GNlaw30_great_n1_ok
noncomputable def Llaw30_great_n0 : Code := codeAt [1, 1, 0, 1, 0, 0] blaw30_great
noncomputable def annLlaw30_great_n0 : Ann := .at 0 [0, 3, 4] (.loop (.seq .none (.seq (.cut 0 [0, 3, 4] Glaw30_great_n1) .none)))
theorem annLlaw30_great_n0_ok : AnnOk Try.prog 26 (.loop Llaw30_great_n0) annLlaw30_great_n0 := annOk_at ⟨(annOk_none _ _ _), ⟨Glaw30_great_n1_ok, (annOk_none _ _ _)⟩⟩
abbrev Ilaw30_great_n0 := (List (Int × Int × List Int))
abbrev Ylaw30_great_n0 := (Unit) ⊕ (Unit)
abbrev Vlaw30_great_n0 := (Int) × (Int)
def Slaw30_great_n0 : Ilaw30_great_n0 → Vlaw30_great_n0 → St := fun t0 (t3, t4) => { env := [(0, AV.ro (Ty.st (Ty.pair (Ty.int IntKind.i64) (Ty.pair (Ty.int IntKind.i64) (Ty.list (Ty.int IntKind.i64))))) t0), (3, AV.int IntKind.i64 t3), (4, AV.int IntKind.i64 t4)], stk := [[]], H := [], blk := 114688 }
def declaw30_great_n0 (s : St) : Option (Ilaw30_great_n0 × Vlaw30_great_n0) := match s with
  | { env := [(0, AV.ro (Ty.st (Ty.pair (Ty.int IntKind.i64) (Ty.pair (Ty.int IntKind.i64) (Ty.list (Ty.int IntKind.i64))))) t0), (3, AV.int IntKind.i64 t3), (4, AV.int IntKind.i64 t4)], stk := [[]], H := [], blk := 114688 } => some (t0, (t3, t4))
  | _ => none
theorem declaw30_great_n0_ok (s : St) (x : Ilaw30_great_n0 × Vlaw30_great_n0) (h : declaw30_great_n0 s = some x) : s = Slaw30_great_n0 x.1 x.2 := by
  unfold declaw30_great_n0 at h
  split at h
  · cases h; rfl
  · cases h
def outlaw30_great_n0 : Ilaw30_great_n0 → (Ex → St → Ans) → Ylaw30_great_n0 → Ans := fun t0 K => (Sum.elim (fun _ => K (Ex.ret) { env := [(2, AV.bool (true))], stk := [[]], H := [], blk := 114689 }) (fun _ => K (Ex.exit 0) { env := [], stk := [[]], H := [], blk := 114688 }))
def steplaw30_great_n0 {β : Type} : Ilaw30_great_n0 → Vlaw30_great_n0 → (Vlaw30_great_n0 → Option β) → (Ylaw30_great_n0 → Option β) → Option β := fun t0 (t3, t4) next exit => (bif decide (t4 < (↑(List.length t0) : Int)) then (bindO (nodeDlaw30_great_n1 (t0, t3, t4)) (Sum.elim (fun _ => (exit (Sum.inl ()))) (fun t3_2 => (next (t3_2, IntKind.wrap IntKind.i64 (t4 + (1 : Int))))))) else (exit (Sum.inr ())))
def stepDlaw30_great_n0 (i : Ilaw30_great_n0) (v : Vlaw30_great_n0) : Option (Vlaw30_great_n0 ⊕ Ylaw30_great_n0) := steplaw30_great_n0 i v (fun v => some (.inl v)) (fun y => some (.inr y))
theorem steplaw30_great_n0_nat (i : Ilaw30_great_n0) (v : Vlaw30_great_n0) (next : Vlaw30_great_n0 → Ans) (exit : Ylaw30_great_n0 → Ans) : steplaw30_great_n0 i v next exit = bindO (stepDlaw30_great_n0 i v) (Sum.elim next exit) := by
  obtain z := i
  obtain ⟨t3, t4⟩ := v
  simp only [stepDlaw30_great_n0, steplaw30_great_n0, bindO_cond, bindO_assoc, bindO_none, bindO_pure, bindO_elim, bindO_unP, Sum.elim_inl, Sum.elim_inr]
theorem steplaw30_great_n0_ok (n : Nat) (i : Ilaw30_great_n0) (v : Vlaw30_great_n0) (K : Ex → St → Ans) : codeI Try.tab envlaw30_great noHint (codeD Try.tab envlaw30_great noHint 0 64) (n+1) 26 annLlaw30_great_n0 (.loop Llaw30_great_n0) (weakP 0 (exk [] [2] [(0, [])]) K) (Slaw30_great_n0 i v) = steplaw30_great_n0 i v (fun v' => codeI Try.tab envlaw30_great noHint (codeD Try.tab envlaw30_great noHint 0 64) n 26 annLlaw30_great_n0 (.loop Llaw30_great_n0) (weakP 0 (exk [] [2] [(0, [])]) K) (Slaw30_great_n0 i v')) (fun y => outlaw30_great_n0 i K y) := by kernel_rfl
theorem GNlaw30_great_n0_ok : CSum Try.prog 26 (.loop Llaw30_great_n0) (sumL declaw30_great_n0 stepDlaw30_great_n0 outlaw30_great_n0) := csum_loop mixed tabOk envlaw30_greatOk 0 (exk [] [2] [(0, [])]) annLlaw30_great_n0_ok declaw30_great_n0_ok steplaw30_great_n0_ok steplaw30_great_n0_nat
noncomputable def Glaw30_great_n0 : (Ex → St → Ans) → St → Ans := (sumL declaw30_great_n0 stepDlaw30_great_n0 outlaw30_great_n0)
theorem Glaw30_great_n0_ok : CSum Try.prog 26 (.loop Llaw30_great_n0) Glaw30_great_n0 := GNlaw30_great_n0_ok
noncomputable def annlaw30_great : Ann := (.seq .none (.seq .none (.seq (.seq .none (.block (.cut 0 [0, 3, 4] Glaw30_great_n0))) .none)))
theorem annlaw30_great_ok : AnnOk Try.prog 26 blaw30_great annlaw30_great := ⟨(annOk_none _ _ _), ⟨(annOk_none _ _ _), ⟨⟨(annOk_none _ _ _), Glaw30_great_n0_ok⟩, (annOk_none _ _ _)⟩⟩⟩
abbrev Alaw30_great := (List (Int × Int × List Int))
abbrev Ylaw30_great := (Bool)
def fnlaw30_great {β : Type} : Alaw30_great → (Ylaw30_great → Option β) → Option β := fun a0 exit => (bindO (loopD (stepDlaw30_great_n0 (a0)) FUEL ((0 : Int), (0 : Int))) (Sum.elim (fun _ => (exit (true))) (fun _ => (exit (false)))))
def fnDlaw30_great (a : Alaw30_great) : Option Ylaw30_great := fnlaw30_great a some
theorem fnlaw30_great_nat (a : Alaw30_great) (k : Ylaw30_great → Ans) : fnlaw30_great a k = bindO (fnDlaw30_great a) k := by
  obtain z := a
  simp only [fnDlaw30_great, fnlaw30_great, bindO_cond, bindO_assoc, bindO_none, bindO_pure, bindO_elim, bindO_unP]
def argslaw30_great : Alaw30_great → List AV := fun a0 => [AV.ro (Ty.st (Ty.pair (Ty.int IntKind.i64) (Ty.pair (Ty.int IntKind.i64) (Ty.list (Ty.int IntKind.i64))))) a0]
def decAlaw30_great (l : List AV) : Option Alaw30_great := match l with
  | [AV.ro (Ty.st (Ty.pair (Ty.int IntKind.i64) (Ty.pair (Ty.int IntKind.i64) (Ty.list (Ty.int IntKind.i64))))) a0] => some (a0)
  | _ => none
theorem decAlaw30_great_ok (l : List AV) (a : Alaw30_great) (h : decAlaw30_great l = some a) : l = argslaw30_great a := by
  unfold decAlaw30_great at h
  split at h
  · cases h; rfl
  · cases h
def rendlaw30_great : Alaw30_great → Ylaw30_great → AV := fun a0 => fun r_y => AV.bool r_y
theorem rendlaw30_great_ok : ∀ (a : Alaw30_great) (y : Ylaw30_great), (rendlaw30_great a y).closed1 = true := by
  rintro z y <;> first | rfl | exact Empty.elim y
theorem fnlaw30_great_ok (a : Alaw30_great) : fnE Try.tab envlaw30_great noHint 0 70 28 Try.f28.ntmps Try.f28.results.toList annlaw30_great blaw30_great (argslaw30_great a) [] (fun v _ => some (v, [])) = fnlaw30_great a (fun y => some (rendlaw30_great a y, [])) := by kernel_rfl
def vFlaw30_great (a : Alaw30_great) (K : AV → Ans) : Ans := bindO (fnDlaw30_great a) fun y => K (rendlaw30_great a y)
def Flaw30_great : List AV → (AV → Ans) → Ans := fun l K => bindO (decAlaw30_great l) fun a => vFlaw30_great a K
theorem Flaw30_great_ok : PureOk Try.prog 28 Flaw30_great := pure_mkD (hint := noHint) (d := 0) (n := 70) mixed tabOk envlaw30_greatOk Try.func28 (bodySome (by kernel_rfl)) (by decide +kernel) annlaw30_great_ok decAlaw30_great_ok fnlaw30_great_ok fnlaw30_great_nat rendlaw30_great_ok
--@ ref30_Set_Add
noncomputable def envref30_Set_Add : Env := []
theorem envref30_Set_AddOk : EnvOk Try.prog envref30_Set_Add := EnvOk.nil
noncomputable def bref30_Set_Add : Code := Try.f31.body.getD .skip
noncomputable def Lref30_Set_Add_n0 : Code := codeAt [1, 1, 1, 0] bref30_Set_Add
noncomputable def annLref30_Set_Add_n0 : Ann := .none
theorem annLref30_Set_Add_n0_ok : AnnOk Try.prog 42 Lref30_Set_Add_n0 annLref30_Set_Add_n0 := (annOk_none _ _ _)
abbrev Iref30_Set_Add_n0 := (List Int) × (Int) × (List (Int × List Int))
abbrev Yref30_Set_Add_n0 := (List (Int × List Int))
def Sref30_Set_Add_n0 : Iref30_Set_Add_n0 → St := fun (t1, o0_1, o1) => { env := [(0, AV.ptr 0 0), (1, AV.ro (Ty.int IntKind.i64) t1)], stk := [[(0, AV.ptr 0 0)]], H := [AE.Obj.cells [AV.own 1, AV.int IntKind.i64 o0_1], Obj.arr (Ty.st (Ty.pair (Ty.int IntKind.i64) (Ty.list (Ty.int IntKind.i64)))) o1], blk := 126976 }
def decref30_Set_Add_n0 (s : St) : Option Iref30_Set_Add_n0 := match s with
  | { env := [(0, AV.ptr 0 0), (1, AV.ro (Ty.int IntKind.i64) t1)], stk := [[(0, AV.ptr 0 0)]], H := [AE.Obj.cells [AV.own 1, AV.int IntKind.i64 o0_1], Obj.arr (Ty.st (Ty.pair (Ty.int IntKind.i64) (Ty.list (Ty.int IntKind.i64)))) o1], blk := 126976 } => some (t1, o0_1, o1)
  | _ => none
theorem decref30_Set_Add_n0_ok (s : St) (x : Iref30_Set_Add_n0) (h : decref30_Set_Add_n0 s = some x) : s = Sref30_Set_Add_n0 x := by
  unfold decref30_Set_Add_n0 at h
  split at h
  · cases h; rfl
  · cases h
def outref30_Set_Add_n0 : Iref30_Set_Add_n0 → (Ex → St → Ans) → Yref30_Set_Add_n0 → Ans := fun (t1, o0_1, o1) K => fun o2_y => K (Ex.norm) { env := [(0, AV.ptr 0 0)], stk := [[(0, AV.ptr 0 0)]], H := [AE.Obj.cells [AV.own 2, AV.int IntKind.i64 o0_1], Obj.arr (Ty.st (Ty.pair (Ty.int IntKind.i64) (Ty.list (Ty.int IntKind.i64)))) o1, Obj.arr (Ty.st (Ty.pair (Ty.int IntKind.i64) (Ty.list (Ty.int IntKind.i64)))) o2_y], blk := 126976 }
def noderef30_Set_Add_n0 {β : Type} : Iref30_Set_Add_n0 → (Yref30_Set_Add_n0 → Option β) → Option β := fun (t1, o0_1, o1) exit => (bif Nat.ble (((0 : Nat) + List.length o1) * nat_lit 32) (140737488355328 : Nat) then (bif Nat.ble (((0 : Nat) + List.length t1) * nat_lit 8) (140737488355328 : Nat) then (bif Nat.ble ((List.length o1 + List.length [(o0_1, t1)]) * nat_lit 32) (140737488355328 : Nat) then (exit (o1 ++ [(o0_1, t1)])) else none) else none) else none)
def nodeDref30_Set_Add_n0 (i : Iref30_Set_Add_n0) : Option Yref30_Set_Add_n0 := noderef30_Set_Add_n0 i some
theorem noderef30_Set_Add_n0_nat (i : Iref30_Set_Add_n0) (k : Yref30_Set_Add_n0 → Ans) : noderef30_Set_Add_n0 i k = bindO (nodeDref30_Set_Add_n0 i) k := by
  obtain ⟨t1, o0_1, o1⟩ := i
  simp only [nodeDref30_Set_Add_n0, noderef30_Set_Add_n0, bindO_cond, bindO_assoc, bindO_none, bindO_pure, bindO_elim, bindO_unP]
noncomputable def nodeXref30_Set_Add_n0 {β : Type} : Iref30_Set_Add_n0 → (Yref30_Set_Add_n0 → Option β) → Option β := fun (t1, o0_1, o1) exit => (agree (agree (bif Nat.ble (((0 : Nat) + List.length o1) * nat_lit 32) (140737488355328 : Nat) then (bif Nat.ble (((0 : Nat) + List.length t1) * nat_lit 8) (140737488355328 : Nat) then (bif Nat.ble ((List.length o1 + List.length [(o0_1, t1)]) * nat_lit 32) (140737488355328 : Nat) then (exit (o1 ++ [(o0_1, t1)])) else none) else none) else none) (bif Nat.ble (((0 : Nat) + List.length o1) * nat_lit 32) (140737488355328 : Nat) then (bif Nat.ble (((0 : Nat) + List.length t1) * nat_lit 8) (140737488355328 : Nat) then (bif Nat.ble ((List.length o1 + List.length [(o0_1, t1)]) * nat_lit 32) (140737488355328 : Nat) then (exit (o1 ++ [(o0_1, t1)])) else none) else none) else none)) (bif Nat.ble (((0 : Nat) + List.length o1) * nat_lit 32) (140737488355328 : Nat) then (bif Nat.ble (((0 : Nat) + List.length t1) * nat_lit 8) (140737488355328 : Nat) then (bif Nat.ble ((List.length o1 + List.length [(o0_1, t1)]) * nat_lit 32) (140737488355328 : Nat) then (exit (o1 ++ [(o0_1, t1)])) else none) else none) else none))
theorem nodeXref30_Set_Add_n0_eq : ∀ (i : Iref30_Set_Add_n0) (exit : Yref30_Set_Add_n0 → Ans), nodeXref30_Set_Add_n0 i exit = noderef30_Set_Add_n0 i exit := by
  rintro ⟨t1, o0_1, o1⟩ exit
  simp only [nodeXref30_Set_Add_n0, noderef30_Set_Add_n0, agree_self]
theorem noderef30_Set_Add_n0_ok (i : Iref30_Set_Add_n0) (K : Ex → St → Ans) : codeI Try.tab envref30_Set_Add noHint (codeD Try.tab envref30_Set_Add noHint 0 64) 70 42 annLref30_Set_Add_n0 Lref30_Set_Add_n0 (weakP 2 (exk [0] [4, 5] []) K) (Sref30_Set_Add_n0 i) = noderef30_Set_Add_n0 i (outref30_Set_Add_n0 i K) := (show _ = nodeXref30_Set_Add_n0 i _ from by kernel_rfl).trans (nodeXref30_Set_Add_n0_eq _ _)
theorem GNref30_Set_Add_n0_ok : CSum Try.prog 42 Lref30_Set_Add_n0 (sumN decref30_Set_Add_n0 nodeDref30_Set_Add_n0 outref30_Set_Add_n0) := csum_node mixed tabOk envref30_Set_AddOk 2 (exk [0] [4, 5] []) annLref30_Set_Add_n0_ok decref30_Set_Add_n0_ok noderef30_Set_Add_n0_ok noderef30_Set_Add_n0_nat
noncomputable def Gref30_Set_Add_n0 : (Ex → St → Ans) → St → Ans := (sumN decref30_Set_Add_n0 nodeDref30_Set_Add_n0 outref30_Set_Add_n0)
theorem Gref30_Set_Add_n0_ok : CSum Try.prog 42 Lref30_Set_Add_n0 Gref30_Set_Add_n0 := GNref30_Set_Add_n0_ok
noncomputable def annref30_Set_Add : Ann := (.seq .none (.seq .none (.seq .none (.seq (.cut 2 [0, 1] Gref30_Set_Add_n0) .none))))
theorem annref30_Set_Add_ok : AnnOk Try.prog 42 bref30_Set_Add annref30_Set_Add := ⟨(annOk_none _ _ _), ⟨(annOk_none _ _ _), ⟨(annOk_none _ _ _), ⟨Gref30_Set_Add_n0_ok, (annOk_none _ _ _)⟩⟩⟩⟩
abbrev Aref30_Set_Add := (List Int) × (Int) × (List (Int × List Int))
abbrev Yref30_Set_Add := (Unit) ⊕ ((Int) × (Int) × (List (Int × List Int)))
def fnref30_Set_Add {β : Type} : Aref30_Set_Add → (Yref30_Set_Add → Option β) → Option β := fun (a1, o0_1, o1) exit => (bif decide ((↑(List.length o1) : Int) ≥ (32 : Int)) then (exit (Sum.inl ())) else (bindO (nodeDref30_Set_Add_n0 (a1, IntKind.wrap IntKind.i64 (o0_1 + (1 : Int)), o1)) fun o2 => (exit (Sum.inr (IntKind.wrap IntKind.i64 (o0_1 + (1 : Int)), IntKind.wrap IntKind.i64 (o0_1 + (1 : Int)), o2)))))
def fnDref30_Set_Add (a : Aref30_Set_Add) : Option Yref30_Set_Add := fnref30_Set_Add a some
theorem fnref30_Set_Add_nat (a : Aref30_Set_Add) (k : Yref30_Set_Add → Ans) : fnref30_Set_Add a k = bindO (fnDref30_Set_Add a) k := by
  obtain ⟨a1, o0_1, o1⟩ := a
  simp only [fnDref30_Set_Add, fnref30_Set_Add, bindO_cond, bindO_assoc, bindO_none, bindO_pure, bindO_elim, bindO_unP]
def argsref30_Set_Add : Aref30_Set_Add → List AV × List AE.Obj := fun (a1, o0_1, o1) => ([AV.ptr 0 0, AV.ro (Ty.int IntKind.i64) a1], [AE.Obj.cells [AV.own 1, AV.int IntKind.i64 o0_1], Obj.arr (Ty.st (Ty.pair (Ty.int IntKind.i64) (Ty.list (Ty.int IntKind.i64)))) o1])
def decAref30_Set_Add (l : List AV) (H : List AE.Obj) : Option Aref30_Set_Add := match l, H with
  | [AV.ptr 0 0, AV.ro (Ty.int IntKind.i64) a1], [AE.Obj.cells [AV.own 1, AV.int IntKind.i64 o0_1], Obj.arr (Ty.st (Ty.pair (Ty.int IntKind.i64) (Ty.list (Ty.int IntKind.i64)))) o1] => some (a1, o0_1, o1)
  | _, _ => none
theorem decAref30_Set_Add_ok (l : List AV) (H : List AE.Obj) (a : Aref30_Set_Add) (h : decAref30_Set_Add l H = some a) : (l, H) = argsref30_Set_Add a := by
  unfold decAref30_Set_Add at h
  split at h
  · cases h; rfl
  · cases h
def outref30_Set_Add : Aref30_Set_Add → (AV → List AE.Obj → Ans) → Yref30_Set_Add → Ans := fun (a1, o0_1, o1) K => (Sum.elim (fun _ => K (AV.tup [AV.int IntKind.i64 (0), AV.int IntKind.i64 (6)]) [AE.Obj.cells [AV.own 1, AV.int IntKind.i64 o0_1], Obj.arr (Ty.st (Ty.pair (Ty.int IntKind.i64) (Ty.list (Ty.int IntKind.i64)))) o1]) (unP fun r_0_y => unP fun o0_1_y o2_y => K (AV.tup [AV.int IntKind.i64 r_0_y, AV.int IntKind.i64 (0)]) [AE.Obj.cells [AV.own 2, AV.int IntKind.i64 o0_1_y], Obj.arr (Ty.st (Ty.pair (Ty.int IntKind.i64) (Ty.list (Ty.int IntKind.i64)))) o1, Obj.arr (Ty.st (Ty.pair (Ty.int IntKind.i64) (Ty.list (Ty.int IntKind.i64)))) o2_y]))
theorem fnref30_Set_Add_ok (a : Aref30_Set_Add) (K : AV → List AE.Obj → Ans) : fnE Try.tab envref30_Set_Add noHint 0 70 31 Try.f31.ntmps Try.f31.results.toList annref30_Set_Add bref30_Set_Add (argsref30_Set_Add a).1 (argsref30_Set_Add a).2 K = fnref30_Set_Add a (outref30_Set_Add a K) := by kernel_rfl
def vFref30_Set_Add (a : Aref30_Set_Add) (K : AV → List AE.Obj → Ans) : Ans := bindO (fnDref30_Set_Add a) fun y => outref30_Set_Add a K y
def Fref30_Set_Add : List AV → List AE.Obj → (AV → List AE.Obj → Ans) → Ans := fun l H K => bindO (decAref30_Set_Add l H) fun a => vFref30_Set_Add a K
theorem Fref30_Set_Add_ok : FuncOk Try.prog 31 Fref30_Set_Add := func_mkD (hint := noHint) (d := 0) (n := 70) mixed tabOk envref30_Set_AddOk Try.func31 (bodySome (by kernel_rfl)) (by decide +kernel) annref30_Set_Add_ok decAref30_Set_Add_ok fnref30_Set_Add_ok fnref30_Set_Add_nat
--@ pending_Set_int_Add_2
noncomputable def envpending_Set_int_Add_2 : Env := []
theorem envpending_Set_int_Add_2Ok : EnvOk Try.prog envpending_Set_int_Add_2 := EnvOk.nil
noncomputable def bpending_Set_int_Add_2 : Code := Try.f30.body.getD .skip
noncomputable def annpending_Set_int_Add_2 : Ann := .none
theorem annpending_Set_int_Add_2_ok : AnnOk Try.prog 43 bpending_Set_int_Add_2 annpending_Set_int_Add_2 := (annOk_none _ _ _)
abbrev Apending_Set_int_Add_2 := (List Int)
abbrev Ypending_Set_int_Add_2 := Unit
def fnpending_Set_int_Add_2 {β : Type} : Apending_Set_int_Add_2 → (Ypending_Set_int_Add_2 → Option β) → Option β := fun a1 exit => (exit ())
def fnDpending_Set_int_Add_2 (a : Apending_Set_int_Add_2) : Option Ypending_Set_int_Add_2 := fnpending_Set_int_Add_2 a some
theorem fnpending_Set_int_Add_2_nat (a : Apending_Set_int_Add_2) (k : Ypending_Set_int_Add_2 → Ans) : fnpending_Set_int_Add_2 a k = bindO (fnDpending_Set_int_Add_2 a) k := by
  obtain z := a
  simp only [fnDpending_Set_int_Add_2, fnpending_Set_int_Add_2, bindO_cond, bindO_assoc, bindO_none, bindO_pure, bindO_elim, bindO_unP]
def argspending_Set_int_Add_2 : Apending_Set_int_Add_2 → List AV × List AE.Obj := fun a1 => ([AV.nilp, AV.ro (Ty.int IntKind.i64) a1], [])
def decApending_Set_int_Add_2 (l : List AV) (H : List AE.Obj) : Option Apending_Set_int_Add_2 := match l, H with
  | [AV.nilp, AV.ro (Ty.int IntKind.i64) a1], [] => some (a1)
  | _, _ => none
theorem decApending_Set_int_Add_2_ok (l : List AV) (H : List AE.Obj) (a : Apending_Set_int_Add_2) (h : decApending_Set_int_Add_2 l H = some a) : (l, H) = argspending_Set_int_Add_2 a := by
  unfold decApending_Set_int_Add_2 at h
  split at h
  · cases h; rfl
  · cases h
def outpending_Set_int_Add_2 : Apending_Set_int_Add_2 → (AV → List AE.Obj → Ans) → Ypending_Set_int_Add_2 → Ans := fun a1 K => fun _ => K (AV.tup [AV.int IntKind.i64 (0), AV.int IntKind.i64 (10)]) []
theorem fnpending_Set_int_Add_2_ok (a : Apending_Set_int_Add_2) (K : AV → List AE.Obj → Ans) : fnE Try.tab envpending_Set_int_Add_2 noHint 0 70 30 Try.f30.ntmps Try.f30.results.toList annpending_Set_int_Add_2 bpending_Set_int_Add_2 (argspending_Set_int_Add_2 a).1 (argspending_Set_int_Add_2 a).2 K = fnpending_Set_int_Add_2 a (outpending_Set_int_Add_2 a K) := by kernel_rfl
def vFpending_Set_int_Add_2 (a : Apending_Set_int_Add_2) (K : AV → List AE.Obj → Ans) : Ans := bindO (fnDpending_Set_int_Add_2 a) fun y => outpending_Set_int_Add_2 a K y
def Fpending_Set_int_Add_2 : List AV → List AE.Obj → (AV → List AE.Obj → Ans) → Ans := fun l H K => bindO (decApending_Set_int_Add_2 l H) fun a => vFpending_Set_int_Add_2 a K
theorem Fpending_Set_int_Add_2_ok : FuncOk Try.prog 30 Fpending_Set_int_Add_2 := func_mkD (hint := noHint) (d := 0) (n := 70) mixed tabOk envpending_Set_int_Add_2Ok Try.func30 (bodySome (by kernel_rfl)) (by decide +kernel) annpending_Set_int_Add_2_ok decApending_Set_int_Add_2_ok fnpending_Set_int_Add_2_ok fnpending_Set_int_Add_2_nat
--@ ref30_Set_Done
noncomputable def envref30_Set_Done : Env := []
theorem envref30_Set_DoneOk : EnvOk Try.prog envref30_Set_Done := EnvOk.nil
noncomputable def bref30_Set_Done : Code := Try.f34.body.getD .skip
noncomputable def Lref30_Set_Done_n3 : Code := codeAt [1, 1, 1, 0, 1, 0, 0, 1, 0, 0, 1, 0, 1, 0, 0, 1, 0] bref30_Set_Done
noncomputable def annLref30_Set_Done_n3 : Ann := .none
theorem annLref30_Set_Done_n3_ok : AnnOk Try.prog 89 Lref30_Set_Done_n3 annLref30_Set_Done_n3 := (annOk_none _ _ _)
abbrev Iref30_Set_Done_n3 := (Int) × (Int) × (Int) × (Int) × (List (Int × List Int)) × (List (Int × Int)) × (List (Int × List Int)) × (Int) × (List Int)
abbrev Yref30_Set_Done_n3 := (List Int)
def Sref30_Set_Done_n3 : Iref30_Set_Done_n3 → St := fun (t1, t7, t9, o0_1, o1, o2, o3, o4_0, o5) => { env := [(0, AV.ptr 0 0), (1, AV.int IntKind.i64 t1), (5, AV.own 2), (6, AV.own 3), (7, AV.int IntKind.i64 t7), (8, AV.ptr 4 0), (9, AV.int IntKind.i64 t9)], stk := [[(0, AV.ptr 0 0)]], H := [AE.Obj.cells [AV.own 1, AV.int IntKind.i64 o0_1], Obj.arr (Ty.st (Ty.pair (Ty.int IntKind.i64) (Ty.list (Ty.int IntKind.i64)))) o1, Obj.arr (Ty.st (Ty.pair (Ty.int IntKind.i64) (Ty.int IntKind.i64))) o2, Obj.arr (Ty.st (Ty.pair (Ty.int IntKind.i64) (Ty.list (Ty.int IntKind.i64)))) o3, AE.Obj.cells [AV.int IntKind.i64 o4_0, AV.own 5], Obj.arr (Ty.int IntKind.i64) o5], blk := 139266 }
def decref30_Set_Done_n3 (s : St) : Option Iref30_Set_Done_n3 := match s with
  | { env := [(0, AV.ptr 0 0), (1, AV.int IntKind.i64 t1), (5, AV.own 2), (6, AV.own 3), (7, AV.int IntKind.i64 t7), (8, AV.ptr 4 0), (9, AV.int IntKind.i64 t9)], stk := [[(0, AV.ptr 0 0)]], H := [AE.Obj.cells [AV.own 1, AV.int IntKind.i64 o0_1], Obj.arr (Ty.st (Ty.pair (Ty.int IntKind.i64) (Ty.list (Ty.int IntKind.i64)))) o1, Obj.arr (Ty.st (Ty.pair (Ty.int IntKind.i64) (Ty.int IntKind.i64))) o2, Obj.arr (Ty.st (Ty.pair (Ty.int IntKind.i64) (Ty.list (Ty.int IntKind.i64)))) o3, AE.Obj.cells [AV.int IntKind.i64 o4_0, AV.own 5], Obj.arr (Ty.int IntKind.i64) o5], blk := 139266 } => some (t1, t7, t9, o0_1, o1, o2, o3, o4_0, o5)
  | _ => none
theorem decref30_Set_Done_n3_ok (s : St) (x : Iref30_Set_Done_n3) (h : decref30_Set_Done_n3 s = some x) : s = Sref30_Set_Done_n3 x := by
  unfold decref30_Set_Done_n3 at h
  split at h
  · cases h; rfl
  · cases h
def outref30_Set_Done_n3 : Iref30_Set_Done_n3 → (Ex → St → Ans) → Yref30_Set_Done_n3 → Ans := fun (t1, t7, t9, o0_1, o1, o2, o3, o4_0, o5) K => fun o5_y => K (Ex.norm) { env := [(0, AV.ptr 0 0), (1, AV.int IntKind.i64 t1), (5, AV.own 2), (6, AV.own 3), (7, AV.int IntKind.i64 t7), (8, AV.ptr 4 0), (9, AV.int IntKind.i64 t9)], stk := [[(0, AV.ptr 0 0)]], H := [AE.Obj.cells [AV.own 1, AV.int IntKind.i64 o0_1], Obj.arr (Ty.st (Ty.pair (Ty.int IntKind.i64) (Ty.list (Ty.int IntKind.i64)))) o1, Obj.arr (Ty.st (Ty.pair (Ty.int IntKind.i64) (Ty.int IntKind.i64))) o2, Obj.arr (Ty.st (Ty.pair (Ty.int IntKind.i64) (Ty.list (Ty.int IntKind.i64)))) o3, AE.Obj.cells [AV.int IntKind.i64 o4_0, AV.own 5], Obj.arr (Ty.int IntKind.i64) o5_y], blk := 139267 }
def noderef30_Set_Done_n3 {β : Type} : Iref30_Set_Done_n3 → (Yref30_Set_Done_n3 → Option β) → Option β := fun (t1, t7, t9, o0_1, o1, o2, o3, o4_0, o5) exit => (bif inR t7 (List.length o1) then (bindO (o1[Int.toNat t7]?) fun x => (bindO (nth x.snd t9) fun x_2 => (bif x_2 != t1 then (bif inR t7 (List.length o1) then (bindO (o1[Int.toNat t7]?) fun x_3 => (bindO (nth x_3.snd t9) fun x_4 => (bif Nat.ble ((List.length o5 + List.length [x_4]) * nat_lit 8) (140737488355328 : Nat) then (exit (o5 ++ [x_4])) else none))) else none) else (exit (o5))))) else none)
def nodeDref30_Set_Done_n3 (i : Iref30_Set_Done_n3) : Option Yref30_Set_Done_n3 := noderef30_Set_Done_n3 i some
theorem noderef30_Set_Done_n3_nat (i : Iref30_Set_Done_n3) (k : Yref30_Set_Done_n3 → Ans) : noderef30_Set_Done_n3 i k = bindO (nodeDref30_Set_Done_n3 i) k := by
  obtain ⟨t1, t7, t9, o0_1, o1, o2, o3, o4_0, o5⟩ := i
  simp only [nodeDref30_Set_Done_n3, noderef30_Set_Done_n3, bindO_cond, bindO_assoc, bindO_none, bindO_pure, bindO_elim, bindO_unP]
theorem noderef30_Set_Done_n3_ok (i : Iref30_Set_Done_n3) (K : Ex → St → Ans) : codeI Try.tab envref30_Set_Done noHint (codeD Try.tab envref30_Set_Done noHint 0 64) 70 89 annLref30_Set_Done_n3 Lref30_Set_Done_n3 (weakP 2 (exk [0, 1, 5, 6, 7, 8, 9] [4] []) K) (Sref30_Set_Done_n3 i) = noderef30_Set_Done_n3 i (outref30_Set_Done_n3 i K) := by kernel_rfl
theorem GNref30_Set_Done_n3_ok : CSum Try.prog 89 Lref30_Set_Done_n3 (sumN decref30_Set_Done_n3 nodeDref30_Set_Done_n3 outref30_Set_Done_n3) := csum_node mixed tabOk envref30_Set_DoneOk 2 (exk [0, 1, 5, 6, 7, 8, 9] [4] []) annLref30_Set_Done_n3_ok decref30_Set_Done_n3_ok noderef30_Set_Done_n3_ok noderef30_Set_Done_n3_nat
noncomputable def Gref30_Set_Done_n3 : (Ex → St → Ans) → St → Ans := (sumN decref30_Set_Done_n3 nodeDref30_Set_Done_n3 outref30_Set_Done_n3)
theorem Gref30_Set_Done_n3_ok : CSum Try.prog 89 Lref30_Set_Done_n3 Gref30_Set_Done_n3 := GNref30_Set_Done_n3_ok
noncomputable def Lref30_Set_Done_n2 : Code := codeAt [1, 1, 1, 0, 1, 0, 0, 1, 0, 0, 1, 0, 1, 0, 0] bref30_Set_Done
noncomputable def annLref30_Set_Done_n2 : Ann := .at 2 [0, 1, 5, 6, 7, 8, 9] (.loop (.seq .none (.seq (.cut 2 [0, 1, 5, 6, 7, 8, 9] Gref30_Set_Done_n3) .none)))
theorem annLref30_Set_Done_n2_ok : AnnOk Try.prog 89 (.loop Lref30_Set_Done_n2) annLref30_Set_Done_n2 := annOk_at ⟨(annOk_none _ _ _), ⟨Gref30_Set_Done_n3_ok, (annOk_none _ _ _)⟩⟩
abbrev Iref30_Set_Done_n2 := (Int) × (Int) × (Int) × (List (Int × List Int)) × (List (Int × Int)) × (List (Int × List Int)) × (Int)
abbrev Yref30_Set_Done_n2 := (List Int)
abbrev Vref30_Set_Done_n2 := (Int) × (List Int)
def Sref30_Set_Done_n2 : Iref30_Set_Done_n2 → Vref30_Set_Done_n2 → St := fun (t1, t7, o0_1, o1, o2, o3, o4_0) (t9, o5) => { env := [(0, AV.ptr 0 0), (1, AV.int IntKind.i64 t1), (5, AV.own 2), (6, AV.own 3), (7, AV.int IntKind.i64 t7), (8, AV.ptr 4 0), (9, AV.int IntKind.i64 t9)], stk := [[(0, AV.ptr 0 0)]], H := [AE.Obj.cells [AV.own 1, AV.int IntKind.i64 o0_1], Obj.arr (Ty.st (Ty.pair (Ty.int IntKind.i64) (Ty.list (Ty.int IntKind.i64)))) o1, Obj.arr (Ty.st (Ty.pair (Ty.int IntKind.i64) (Ty.int IntKind.i64))) o2, Obj.arr (Ty.st (Ty.pair (Ty.int IntKind.i64) (Ty.list (Ty.int IntKind.i64)))) o3, AE.Obj.cells [AV.int IntKind.i64 o4_0, AV.own 5], Obj.arr (Ty.int IntKind.i64) o5], blk := 139266 }
def decref30_Set_Done_n2 (s : St) : Option (Iref30_Set_Done_n2 × Vref30_Set_Done_n2) := match s with
  | { env := [(0, AV.ptr 0 0), (1, AV.int IntKind.i64 t1), (5, AV.own 2), (6, AV.own 3), (7, AV.int IntKind.i64 t7), (8, AV.ptr 4 0), (9, AV.int IntKind.i64 t9)], stk := [[(0, AV.ptr 0 0)]], H := [AE.Obj.cells [AV.own 1, AV.int IntKind.i64 o0_1], Obj.arr (Ty.st (Ty.pair (Ty.int IntKind.i64) (Ty.list (Ty.int IntKind.i64)))) o1, Obj.arr (Ty.st (Ty.pair (Ty.int IntKind.i64) (Ty.int IntKind.i64))) o2, Obj.arr (Ty.st (Ty.pair (Ty.int IntKind.i64) (Ty.list (Ty.int IntKind.i64)))) o3, AE.Obj.cells [AV.int IntKind.i64 o4_0, AV.own 5], Obj.arr (Ty.int IntKind.i64) o5], blk := 139266 } => some ((t1, t7, o0_1, o1, o2, o3, o4_0), (t9, o5))
  | _ => none
theorem decref30_Set_Done_n2_ok (s : St) (x : Iref30_Set_Done_n2 × Vref30_Set_Done_n2) (h : decref30_Set_Done_n2 s = some x) : s = Sref30_Set_Done_n2 x.1 x.2 := by
  unfold decref30_Set_Done_n2 at h
  split at h
  · cases h; rfl
  · cases h
def outref30_Set_Done_n2 : Iref30_Set_Done_n2 → (Ex → St → Ans) → Yref30_Set_Done_n2 → Ans := fun (t1, t7, o0_1, o1, o2, o3, o4_0) K => fun o5_y => K (Ex.exit 2) { env := [(0, AV.ptr 0 0), (1, AV.int IntKind.i64 t1), (5, AV.own 2), (6, AV.own 3), (7, AV.int IntKind.i64 t7), (8, AV.ptr 4 0)], stk := [[(0, AV.ptr 0 0)]], H := [AE.Obj.cells [AV.own 1, AV.int IntKind.i64 o0_1], Obj.arr (Ty.st (Ty.pair (Ty.int IntKind.i64) (Ty.list (Ty.int IntKind.i64)))) o1, Obj.arr (Ty.st (Ty.pair (Ty.int IntKind.i64) (Ty.int IntKind.i64))) o2, Obj.arr (Ty.st (Ty.pair (Ty.int IntKind.i64) (Ty.list (Ty.int IntKind.i64)))) o3, AE.Obj.cells [AV.int IntKind.i64 o4_0, AV.own 5], Obj.arr (Ty.int IntKind.i64) o5_y], blk := 139266 }
def stepref30_Set_Done_n2 {β : Type} : Iref30_Set_Done_n2 → Vref30_Set_Done_n2 → (Vref30_Set_Done_n2 → Option β) → (Yref30_Set_Done_n2 → Option β) → Option β := fun (t1, t7, o0_1, o1, o2, o3, o4_0) (t9, o5) next exit => (bif inR t7 (List.length o1) then (bindO (o1[Int.toNat t7]?) fun x => (bif decide (t9 < (↑(List.length x.snd) : Int)) then (bindO (nodeDref30_Set_Done_n3 (t1, t7, t9, o0_1, o1, o2, o3, o4_0, o5)) fun o5_2 => (next (IntKind.wrap IntKind.i64 (t9 + (1 : Int)), o5_2))) else (exit (o5)))) else none)
def stepDref30_Set_Done_n2 (i : Iref30_Set_Done_n2) (v : Vref30_Set_Done_n2) : Option (Vref30_Set_Done_n2 ⊕ Yref30_Set_Done_n2) := stepref30_Set_Done_n2 i v (fun v => some (.inl v)) (fun y => some (.inr y))
theorem stepref30_Set_Done_n2_nat (i : Iref30_Set_Done_n2) (v : Vref30_Set_Done_n2) (next : Vref30_Set_Done_n2 → Ans) (exit : Yref30_Set_Done_n2 → Ans) : stepref30_Set_Done_n2 i v next exit = bindO (stepDref30_Set_Done_n2 i v) (Sum.elim next exit) := by
  obtain ⟨t1, t7, o0_1, o1, o2, o3, o4_0⟩ := i
  obtain ⟨t9, o5⟩ := v
  simp only [stepDref30_Set_Done_n2, stepref30_Set_Done_n2, bindO_cond, bindO_assoc, bindO_none, bindO_pure, bindO_elim, bindO_unP, Sum.elim_inl, Sum.elim_inr]
theorem stepref30_Set_Done_n2_ok (n : Nat) (i : Iref30_Set_Done_n2) (v : Vref30_Set_Done_n2) (K : Ex → St → Ans) : codeI Try.tab envref30_Set_Done noHint (codeD Try.tab envref30_Set_Done noHint 0 64) (n+1) 89 annLref30_Set_Done_n2 (.loop Lref30_Set_Done_n2) (weakP 2 (exk [0, 1, 5, 6, 7, 8] [4] [(2, [0, 1, 5, 6, 7, 8])]) K) (Sref30_Set_Done_n2 i v) = stepref30_Set_Done_n2 i v (fun v' => codeI Try.tab envref30_Set_Done noHint (codeD Try.tab envref30_Set_Done noHint 0 64) n 89 annLref30_Set_Done_n2 (.loop Lref30_Set_Done_n2) (weakP 2 (exk [0, 1, 5, 6, 7, 8] [4] [(2, [0, 1, 5, 6, 7, 8])]) K) (Sref30_Set_Done_n2 i v')) (fun y => outref30_Set_Done_n2 i K y) := by kernel_rfl
theorem GNref30_Set_Done_n2_ok : CSum Try.prog 89 (.loop Lref30_Set_Done_n2) (sumL decref30_Set_Done_n2 stepDref30_Set_Done_n2 outref30_Set_Done_n2) := csum_loop mixed tabOk envref30_Set_DoneOk 2 (exk [0, 1, 5, 6, 7, 8] [4] [(2, [0, 1, 5, 6, 7, 8])]) annLref30_Set_Done_n2_ok decref30_Set_Done_n2_ok stepref30_Set_Done_n2_ok stepref30_Set_Done_n2_nat
noncomputable def Gref30_Set_Done_n2 : (Ex → St → Ans) → St → Ans := (sumL decref30_Set_Done_n2 stepDref30_Set_Done_n2 outref30_Set_Done_n2)
theorem Gref30_Set_Done_n2_ok : CSum Try.prog 89 (.loop Lref30_Set_Done_n2) Gref30_Set_Done_n2 := GNref30_Set_Done_n2_ok
noncomputable def Lref30_Set_Done_n1 : Code := codeAt [1, 1, 1, 0, 1, 0, 0, 1, 0] bref30_Set_Done
noncomputable def annLref30_Set_Done_n1 : Ann := (.block (.seq .none (.seq (.seq .none (.block (.cut 2 [0, 1, 5, 6, 7, 8, 9] Gref30_Set_Done_n2))) .none)))
theorem annLref30_Set_Done_n1_ok : AnnOk Try.prog 89 Lref30_Set_Done_n1 annLref30_Set_Done_n1 := ⟨(annOk_none _ _ _), ⟨⟨(annOk_none _ _ _), Gref30_Set_Done_n2_ok⟩, (annOk_none _ _ _)⟩⟩
abbrev Iref30_Set_Done_n1 := (Int) × (Int) × (Int) × (List (Int × List Int)) × (List (Int × Int)) × (List (Int × List Int))
abbrev Yref30_Set_Done_n1 := (List (Int × Int)) × (List (Int × List Int))
def Sref30_Set_Done_n1 : Iref30_Set_Done_n1 → St := fun (t1, t7, o0_1, o1, o2, o3) => { env := [(0, AV.ptr 0 0), (1, AV.int IntKind.i64 t1), (5, AV.own 2), (6, AV.own 3), (7, AV.int IntKind.i64 t7)], stk := [[(0, AV.ptr 0 0)]], H := [AE.Obj.cells [AV.own 1, AV.int IntKind.i64 o0_1], Obj.arr (Ty.st (Ty.pair (Ty.int IntKind.i64) (Ty.list (Ty.int IntKind.i64)))) o1, Obj.arr (Ty.st (Ty.pair (Ty.int IntKind.i64) (Ty.int IntKind.i64))) o2, Obj.arr (Ty.st (Ty.pair (Ty.int IntKind.i64) (Ty.list (Ty.int IntKind.i64)))) o3], blk := 139264 }
def decref30_Set_Done_n1 (s : St) : Option Iref30_Set_Done_n1 := match s with
  | { env := [(0, AV.ptr 0 0), (1, AV.int IntKind.i64 t1), (5, AV.own 2), (6, AV.own 3), (7, AV.int IntKind.i64 t7)], stk := [[(0, AV.ptr 0 0)]], H := [AE.Obj.cells [AV.own 1, AV.int IntKind.i64 o0_1], Obj.arr (Ty.st (Ty.pair (Ty.int IntKind.i64) (Ty.list (Ty.int IntKind.i64)))) o1, Obj.arr (Ty.st (Ty.pair (Ty.int IntKind.i64) (Ty.int IntKind.i64))) o2, Obj.arr (Ty.st (Ty.pair (Ty.int IntKind.i64) (Ty.list (Ty.int IntKind.i64)))) o3], blk := 139264 } => some (t1, t7, o0_1, o1, o2, o3)
  | _ => none
theorem decref30_Set_Done_n1_ok (s : St) (x : Iref30_Set_Done_n1) (h : decref30_Set_Done_n1 s = some x) : s = Sref30_Set_Done_n1 x := by
  unfold decref30_Set_Done_n1 at h
  split at h
  · cases h; rfl
  · cases h
def outref30_Set_Done_n1 : Iref30_Set_Done_n1 → (Ex → St → Ans) → Yref30_Set_Done_n1 → Ans := fun (t1, t7, o0_1, o1, o2, o3) K => unP fun o2_y o3_y => K (Ex.norm) { env := [(0, AV.ptr 0 0), (1, AV.int IntKind.i64 t1), (5, AV.own 2), (6, AV.own 3), (7, AV.int IntKind.i64 t7)], stk := [[(0, AV.ptr 0 0)]], H := [AE.Obj.cells [AV.own 1, AV.int IntKind.i64 o0_1], Obj.arr (Ty.st (Ty.pair (Ty.int IntKind.i64) (Ty.list (Ty.int IntKind.i64)))) o1, Obj.arr (Ty.st (Ty.pair (Ty.int IntKind.i64) (Ty.int IntKind.i64))) o2_y, Obj.arr (Ty.st (Ty.pair (Ty.int IntKind.i64) (Ty.list (Ty.int IntKind.i64)))) o3_y], blk := 139266 }
def noderef30_Set_Done_n1 {β : Type} : Iref30_Set_Done_n1 → (Yref30_Set_Done_n1 → Option β) → Option β := fun (t1, t7, o0_1, o1, o2, o3) exit => (bif inR t7 (List.length o1) then (bindO (o1[Int.toNat t7]?) fun x => (bindO (loopD (stepDref30_Set_Done_n2 (t1, t7, o0_1, o1, o2, o3, x.fst)) FUEL ((0 : Int), [])) fun o5 => (bif (↑(List.length o5) : Int) == (0 : Int) then (bif Nat.ble ((List.length o2 + List.length [(x.fst, (2 : Int))]) * nat_lit 16) (140737488355328 : Nat) then (exit (o2 ++ [(x.fst, (2 : Int))], o3)) else none) else (bif Nat.ble ((List.length o3 + List.length [(x.fst, o5)]) * nat_lit 32) (140737488355328 : Nat) then (exit (o2, o3 ++ [(x.fst, o5)])) else none)))) else none)
def nodeDref30_Set_Done_n1 (i : Iref30_Set_Done_n1) : Option Yref30_Set_Done_n1 := noderef30_Set_Done_n1 i some
theorem noderef30_Set_Done_n1_nat (i : Iref30_Set_Done_n1) (k : Yref30_Set_Done_n1 → Ans) : noderef30_Set_Done_n1 i k = bindO (nodeDref30_Set_Done_n1 i) k := by
  obtain ⟨t1, t7, o0_1, o1, o2, o3⟩ := i
  simp only [nodeDref30_Set_Done_n1, noderef30_Set_Done_n1, bindO_cond, bindO_assoc, bindO_none, bindO_pure, bindO_elim, bindO_unP]
theorem noderef30_Set_Done_n1_ok (i : Iref30_Set_Done_n1) (K : Ex → St → Ans) : codeI Try.tab envref30_Set_Done noHint (codeD Try.tab envref30_Set_Done noHint 0 64) 70 89 annLref30_Set_Done_n1 Lref30_Set_Done_n1 (weakP 2 (exk [0, 1, 5, 6, 7] [4] []) K) (Sref30_Set_Done_n1 i) = noderef30_Set_Done_n1 i (outref30_Set_Done_n1 i K) := by kernel_rfl
theorem GNref30_Set_Done_n1_ok : CSum Try.prog 89 Lref30_Set_Done_n1 (sumN decref30_Set_Done_n1 nodeDref30_Set_Done_n1 outref30_Set_Done_n1) := csum_node mixed tabOk envref30_Set_DoneOk 2 (exk [0, 1, 5, 6, 7] [4] []) annLref30_Set_Done_n1_ok decref30_Set_Done_n1_ok noderef30_Set_Done_n1_ok noderef30_Set_Done_n1_nat
noncomputable def Gref30_Set_Done_n1 : (Ex → St → Ans) → St → Ans := (sumN decref30_Set_Done_n1 nodeDref30_Set_Done_n1 outref30_Set_Done_n1)
theorem Gref30_Set_Done_n1_ok : CSum Try.prog 89 Lref30_Set_Done_n1 Gref30_Set_Done_n1 := GNref30_Set_Done_n1_ok
noncomputable def Lref30_Set_Done_n0 : Code := codeAt [1, 1, 1, 0, 1, 0, 0] bref30_Set_Done
noncomputable def annLref30_Set_Done_n0 : Ann := .at 2 [0, 1, 5, 6, 7] (.loop (.seq .none (.seq (.cut 2 [0, 1, 5, 6, 7] Gref30_Set_Done_n1) .none)))
theorem annLref30_Set_Done_n0_ok : AnnOk Try.prog 89 (.loop Lref30_Set_Done_n0) annLref30_Set_Done_n0 := annOk_at ⟨(annOk_none _ _ _), ⟨Gref30_Set_Done_n1_ok, (annOk_none _ _ _)⟩⟩
abbrev Iref30_Set_Done_n0 := (Int) × (Int) × (List (Int × List Int))
abbrev Yref30_Set_Done_n0 := (List (Int × Int)) × (List (Int × List Int))
abbrev Vref30_Set_Done_n0 := (Int) × (List (Int × Int)) × (List (Int × List Int))
def Sref30_Set_Done_n0 : Iref30_Set_Done_n0 → Vref30_Set_Done_n0 → St := fun (t1, o0_1, o1) (t7, o2, o3) => { env := [(0, AV.ptr 0 0), (1, AV.int IntKind.i64 t1), (5, AV.own 2), (6, AV.own 3), (7, AV.int IntKind.i64 t7)], stk := [[(0, AV.ptr 0 0)]], H := [AE.Obj.cells [AV.own 1, AV.int IntKind.i64 o0_1], Obj.arr (Ty.st (Ty.pair (Ty.int IntKind.i64) (Ty.list (Ty.int IntKind.i64)))) o1, Obj.arr (Ty.st (Ty.pair (Ty.int IntKind.i64) (Ty.int IntKind.i64))) o2, Obj.arr (Ty.st (Ty.pair (Ty.int IntKind.i64) (Ty.list (Ty.int IntKind.i64)))) o3], blk := 139264 }
def decref30_Set_Done_n0 (s : St) : Option (Iref30_Set_Done_n0 × Vref30_Set_Done_n0) := match s with
  | { env := [(0, AV.ptr 0 0), (1, AV.int IntKind.i64 t1), (5, AV.own 2), (6, AV.own 3), (7, AV.int IntKind.i64 t7)], stk := [[(0, AV.ptr 0 0)]], H := [AE.Obj.cells [AV.own 1, AV.int IntKind.i64 o0_1], Obj.arr (Ty.st (Ty.pair (Ty.int IntKind.i64) (Ty.list (Ty.int IntKind.i64)))) o1, Obj.arr (Ty.st (Ty.pair (Ty.int IntKind.i64) (Ty.int IntKind.i64))) o2, Obj.arr (Ty.st (Ty.pair (Ty.int IntKind.i64) (Ty.list (Ty.int IntKind.i64)))) o3], blk := 139264 } => some ((t1, o0_1, o1), (t7, o2, o3))
  | _ => none
theorem decref30_Set_Done_n0_ok (s : St) (x : Iref30_Set_Done_n0 × Vref30_Set_Done_n0) (h : decref30_Set_Done_n0 s = some x) : s = Sref30_Set_Done_n0 x.1 x.2 := by
  unfold decref30_Set_Done_n0 at h
  split at h
  · cases h; rfl
  · cases h
def outref30_Set_Done_n0 : Iref30_Set_Done_n0 → (Ex → St → Ans) → Yref30_Set_Done_n0 → Ans := fun (t1, o0_1, o1) K => unP fun o2_y o3_y => K (Ex.exit 0) { env := [(0, AV.ptr 0 0), (5, AV.own 2), (6, AV.own 3)], stk := [[(0, AV.ptr 0 0)]], H := [AE.Obj.cells [AV.own 1, AV.int IntKind.i64 o0_1], Obj.arr (Ty.st (Ty.pair (Ty.int IntKind.i64) (Ty.list (Ty.int IntKind.i64)))) o1, Obj.arr (Ty.st (Ty.pair (Ty.int IntKind.i64) (Ty.int IntKind.i64))) o2_y, Obj.arr (Ty.st (Ty.pair (Ty.int IntKind.i64) (Ty.list (Ty.int IntKind.i64)))) o3_y], blk := 139264 }
def stepref30_Set_Done_n0 {β : Type} : Iref30_Set_Done_n0 → Vref30_Set_Done_n0 → (Vref30_Set_Done_n0 → Option β) → (Yref30_Set_Done_n0 → Option β) → Option β := fun (t1, o0_1, o1) (t7, o2, o3) next exit => (bif decide (t7 < (↑(List.length o1) : Int)) then (bindO (nodeDref30_Set_Done_n1 (t1, t7, o0_1, o1, o2, o3)) (unP fun o2_2 o3_2 => (next (IntKind.wrap IntKind.i64 (t7 + (1 : Int)), o2_2, o3_2)))) else (exit (o2, o3)))
def stepDref30_Set_Done_n0 (i : Iref30_Set_Done_n0) (v : Vref30_Set_Done_n0) : Option (Vref30_Set_Done_n0 ⊕ Yref30_Set_Done_n0) := stepref30_Set_Done_n0 i v (fun v => some (.inl v)) (fun y => some (.inr y))
theorem stepref30_Set_Done_n0_nat (i : Iref30_Set_Done_n0) (v : Vref30_Set_Done_n0) (next : Vref30_Set_Done_n0 → Ans) (exit : Yref30_Set_Done_n0 → Ans) : stepref30_Set_Done_n0 i v next exit = bindO (stepDref30_Set_Done_n0 i v) (Sum.elim next exit) := by
  obtain ⟨t1, o0_1, o1⟩ := i
  obtain ⟨t7, o2, o3⟩ := v
  simp only [stepDref30_Set_Done_n0, stepref30_Set_Done_n0, bindO_cond, bindO_assoc, bindO_none, bindO_pure, bindO_elim, bindO_unP, Sum.elim_inl, Sum.elim_inr]
theorem stepref30_Set_Done_n0_ok (n : Nat) (i : Iref30_Set_Done_n0) (v : Vref30_Set_Done_n0) (K : Ex → St → Ans) : codeI Try.tab envref30_Set_Done noHint (codeD Try.tab envref30_Set_Done noHint 0 64) (n+1) 89 annLref30_Set_Done_n0 (.loop Lref30_Set_Done_n0) (weakP 2 (exk [0, 5, 6] [4] [(0, [0, 5, 6])]) K) (Sref30_Set_Done_n0 i v) = stepref30_Set_Done_n0 i v (fun v' => codeI Try.tab envref30_Set_Done noHint (codeD Try.tab envref30_Set_Done noHint 0 64) n 89 annLref30_Set_Done_n0 (.loop Lref30_Set_Done_n0) (weakP 2 (exk [0, 5, 6] [4] [(0, [0, 5, 6])]) K) (Sref30_Set_Done_n0 i v')) (fun y => outref30_Set_Done_n0 i K y) := by kernel_rfl
theorem GNref30_Set_Done_n0_ok : CSum Try.prog 89 (.loop Lref30_Set_Done_n0) (sumL decref30_Set_Done_n0 stepDref30_Set_Done_n0 outref30_Set_Done_n0) := csum_loop mixed tabOk envref30_Set_DoneOk 2 (exk [0, 5, 6] [4] [(0, [0, 5, 6])]) annLref30_Set_Done_n0_ok decref30_Set_Done_n0_ok stepref30_Set_Done_n0_ok stepref30_Set_Done_n0_nat
noncomputable def Gref30_Set_Done_n0 : (Ex → St → Ans) → St → Ans := (sumL decref30_Set_Done_n0 stepDref30_Set_Done_n0 outref30_Set_Done_n0)
theorem Gref30_Set_Done_n0_ok : CSum Try.prog 89 (.loop Lref30_Set_Done_n0) Gref30_Set_Done_n0 := GNref30_Set_Done_n0_ok
noncomputable def annref30_Set_Done : Ann := (.seq .none (.seq .none (.seq .none (.seq (.seq .none (.block (.cut 2 [0, 1, 5, 6, 7] Gref30_Set_Done_n0))) .none))))
theorem annref30_Set_Done_ok : AnnOk Try.prog 89 bref30_Set_Done annref30_Set_Done := ⟨(annOk_none _ _ _), ⟨(annOk_none _ _ _), ⟨(annOk_none _ _ _), ⟨⟨(annOk_none _ _ _), Gref30_Set_Done_n0_ok⟩, (annOk_none _ _ _)⟩⟩⟩⟩
abbrev Aref30_Set_Done := (Int) × (Int) × (List (Int × List Int))
abbrev Yref30_Set_Done := (List (Int × Int)) × (List (Int × List Int))
def fnref30_Set_Done {β : Type} : Aref30_Set_Done → (Yref30_Set_Done → Option β) → Option β := fun (a1, o0_1, o1) exit => (bindO (loopD (stepDref30_Set_Done_n0 (a1, o0_1, o1)) FUEL ((0 : Int), [], [])) (unP fun o2 o3 => (exit (o2, o3))))
def fnDref30_Set_Done (a : Aref30_Set_Done) : Option Yref30_Set_Done := fnref30_Set_Done a some
theorem fnref30_Set_Done_nat (a : Aref30_Set_Done) (k : Yref30_Set_Done → Ans) : fnref30_Set_Done a k = bindO (fnDref30_Set_Done a) k := by
  obtain ⟨a1, o0_1, o1⟩ := a
  simp only [fnDref30_Set_Done, fnref30_Set_Done, bindO_cond, bindO_assoc, bindO_none, bindO_pure, bindO_elim, bindO_unP]
def argsref30_Set_Done : Aref30_Set_Done → List AV × List AE.Obj := fun (a1, o0_1, o1) => ([AV.ptr 0 0, AV.int IntKind.i64 a1], [AE.Obj.cells [AV.own 1, AV.int IntKind.i64 o0_1], Obj.arr (Ty.st (Ty.pair (Ty.int IntKind.i64) (Ty.list (Ty.int IntKind.i64)))) o1])
def decAref30_Set_Done (l : List AV) (H : List AE.Obj) : Option Aref30_Set_Done := match l, H with
  | [AV.ptr 0 0, AV.int IntKind.i64 a1], [AE.Obj.cells [AV.own 1, AV.int IntKind.i64 o0_1], Obj.arr (Ty.st (Ty.pair (Ty.int IntKind.i64) (Ty.list (Ty.int IntKind.i64)))) o1] => some (a1, o0_1, o1)
  | _, _ => none
theorem decAref30_Set_Done_ok (l : List AV) (H : List AE.Obj) (a : Aref30_Set_Done) (h : decAref30_Set_Done l H = some a) : (l, H) = argsref30_Set_Done a := by
  unfold decAref30_Set_Done at h
  split at h
  · cases h; rfl
  · cases h
def outref30_Set_Done : Aref30_Set_Done → (AV → List AE.Obj → Ans) → Yref30_Set_Done → Ans := fun (a1, o0_1, o1) K => unP fun o2_y o3_y => K (AV.own 2) [AE.Obj.cells [AV.own 3, AV.int IntKind.i64 o0_1], Obj.arr (Ty.st (Ty.pair (Ty.int IntKind.i64) (Ty.list (Ty.int IntKind.i64)))) o1, Obj.arr (Ty.st (Ty.pair (Ty.int IntKind.i64) (Ty.int IntKind.i64))) o2_y, Obj.arr (Ty.st (Ty.pair (Ty.int IntKind.i64) (Ty.list (Ty.int IntKind.i64)))) o3_y]
theorem fnref30_Set_Done_ok (a : Aref30_Set_Done) (K : AV → List AE.Obj → Ans) : fnE Try.tab envref30_Set_Done noHint 0 70 34 Try.f34.ntmps Try.f34.results.toList annref30_Set_Done bref30_Set_Done (argsref30_Set_Done a).1 (argsref30_Set_Done a).2 K = fnref30_Set_Done a (outref30_Set_Done a K) := by kernel_rfl
def vFref30_Set_Done (a : Aref30_Set_Done) (K : AV → List AE.Obj → Ans) : Ans := bindO (fnDref30_Set_Done a) fun y => outref30_Set_Done a K y
def Fref30_Set_Done : List AV → List AE.Obj → (AV → List AE.Obj → Ans) → Ans := fun l H K => bindO (decAref30_Set_Done l H) fun a => vFref30_Set_Done a K
theorem Fref30_Set_Done_ok : FuncOk Try.prog 34 Fref30_Set_Done := func_mkD (hint := noHint) (d := 0) (n := 70) mixed tabOk envref30_Set_DoneOk Try.func34 (bodySome (by kernel_rfl)) (by decide +kernel) annref30_Set_Done_ok decAref30_Set_Done_ok fnref30_Set_Done_ok fnref30_Set_Done_nat
--@ pending_Set_int_Done_2
noncomputable def envpending_Set_int_Done_2 : Env := []
theorem envpending_Set_int_Done_2Ok : EnvOk Try.prog envpending_Set_int_Done_2 := EnvOk.nil
noncomputable def bpending_Set_int_Done_2 : Code := Try.f33.body.getD .skip
noncomputable def annpending_Set_int_Done_2 : Ann := .none
theorem annpending_Set_int_Done_2_ok : AnnOk Try.prog 44 bpending_Set_int_Done_2 annpending_Set_int_Done_2 := (annOk_none _ _ _)
abbrev Apending_Set_int_Done_2 := (Int)
abbrev Ypending_Set_int_Done_2 := Unit
def fnpending_Set_int_Done_2 {β : Type} : Apending_Set_int_Done_2 → (Ypending_Set_int_Done_2 → Option β) → Option β := fun a1 exit => (exit ())
def fnDpending_Set_int_Done_2 (a : Apending_Set_int_Done_2) : Option Ypending_Set_int_Done_2 := fnpending_Set_int_Done_2 a some
theorem fnpending_Set_int_Done_2_nat (a : Apending_Set_int_Done_2) (k : Ypending_Set_int_Done_2 → Ans) : fnpending_Set_int_Done_2 a k = bindO (fnDpending_Set_int_Done_2 a) k := by
  obtain z := a
  simp only [fnDpending_Set_int_Done_2, fnpending_Set_int_Done_2, bindO_cond, bindO_assoc, bindO_none, bindO_pure, bindO_elim, bindO_unP]
def argspending_Set_int_Done_2 : Apending_Set_int_Done_2 → List AV × List AE.Obj := fun a1 => ([AV.nilp, AV.int IntKind.i64 a1], [])
def decApending_Set_int_Done_2 (l : List AV) (H : List AE.Obj) : Option Apending_Set_int_Done_2 := match l, H with
  | [AV.nilp, AV.int IntKind.i64 a1], [] => some (a1)
  | _, _ => none
theorem decApending_Set_int_Done_2_ok (l : List AV) (H : List AE.Obj) (a : Apending_Set_int_Done_2) (h : decApending_Set_int_Done_2 l H = some a) : (l, H) = argspending_Set_int_Done_2 a := by
  unfold decApending_Set_int_Done_2 at h
  split at h
  · cases h; rfl
  · cases h
def outpending_Set_int_Done_2 : Apending_Set_int_Done_2 → (AV → List AE.Obj → Ans) → Ypending_Set_int_Done_2 → Ans := fun a1 K => fun _ => K (AV.own 0) [Obj.arr (Ty.st (Ty.pair (Ty.int IntKind.i64) (Ty.int IntKind.i64))) ([])]
theorem fnpending_Set_int_Done_2_ok (a : Apending_Set_int_Done_2) (K : AV → List AE.Obj → Ans) : fnE Try.tab envpending_Set_int_Done_2 noHint 0 70 33 Try.f33.ntmps Try.f33.results.toList annpending_Set_int_Done_2 bpending_Set_int_Done_2 (argspending_Set_int_Done_2 a).1 (argspending_Set_int_Done_2 a).2 K = fnpending_Set_int_Done_2 a (outpending_Set_int_Done_2 a K) := by kernel_rfl
def vFpending_Set_int_Done_2 (a : Apending_Set_int_Done_2) (K : AV → List AE.Obj → Ans) : Ans := bindO (fnDpending_Set_int_Done_2 a) fun y => outpending_Set_int_Done_2 a K y
def Fpending_Set_int_Done_2 : List AV → List AE.Obj → (AV → List AE.Obj → Ans) → Ans := fun l H K => bindO (decApending_Set_int_Done_2 l H) fun a => vFpending_Set_int_Done_2 a K
theorem Fpending_Set_int_Done_2_ok : FuncOk Try.prog 33 Fpending_Set_int_Done_2 := func_mkD (hint := noHint) (d := 0) (n := 70) mixed tabOk envpending_Set_int_Done_2Ok Try.func33 (bodySome (by kernel_rfl)) (by decide +kernel) annpending_Set_int_Done_2_ok decApending_Set_int_Done_2_ok fnpending_Set_int_Done_2_ok fnpending_Set_int_Done_2_nat
--@ pending_Set_int_Alone
noncomputable def envpending_Set_int_Alone : Env := []
theorem envpending_Set_int_AloneOk : EnvOk Try.prog envpending_Set_int_Alone := EnvOk.nil
noncomputable def bpending_Set_int_Alone : Code := Try.f35.body.getD .skip
noncomputable def Lpending_Set_int_Alone_n0 : Code := codeAt [1, 1, 1, 0, 1, 0, 0] bpending_Set_int_Alone
noncomputable def annLpending_Set_int_Alone_n0 : Ann := .at 2 [0, 3, 11, 12, 13] (.loop .none)
theorem annLpending_Set_int_Alone_n0_ok : AnnOk Try.prog 28 (.loop Lpending_Set_int_Alone_n0) annLpending_Set_int_Alone_n0 := annOk_at (annOk_none _ _ _)
abbrev Ipending_Set_int_Alone_n0 := (Int) × (Int) × (List (Int × List Int))
abbrev Ypending_Set_int_Alone_n0 := (List (Int × Int))
abbrev Vpending_Set_int_Alone_n0 := (Int) × (List (Int × Int))
def Spending_Set_int_Alone_n0 : Ipending_Set_int_Alone_n0 → Vpending_Set_int_Alone_n0 → St := fun (t12, o0_1, o1) (t13, o2) => { env := [(0, AV.ptr 0 0), (3, AV.own 2), (11, AV.own 1), (12, AV.int IntKind.i64 t12), (13, AV.int IntKind.i64 t13)], stk := [[(0, AV.ptr 0 0)]], H := [AE.Obj.cells [AV.own 1, AV.int IntKind.i64 o0_1], Obj.arr (Ty.st (Ty.pair (Ty.int IntKind.i64) (Ty.list (Ty.int IntKind.i64)))) o1, Obj.arr (Ty.st (Ty.pair (Ty.int IntKind.i64) (Ty.int IntKind.i64))) o2], blk := 143360 }
def decpending_Set_int_Alone_n0 (s : St) : Option (Ipending_Set_int_Alone_n0 × Vpending_Set_int_Alone_n0) := match s with
  | { env := [(0, AV.ptr 0 0), (3, AV.own 2), (11, AV.own 1), (12, AV.int IntKind.i64 t12), (13, AV.int IntKind.i64 t13)], stk := [[(0, AV.ptr 0 0)]], H := [AE.Obj.cells [AV.own 1, AV.int IntKind.i64 o0_1], Obj.arr (Ty.st (Ty.pair (Ty.int IntKind.i64) (Ty.list (Ty.int IntKind.i64)))) o1, Obj.arr (Ty.st (Ty.pair (Ty.int IntKind.i64) (Ty.int IntKind.i64))) o2], blk := 143360 } => some ((t12, o0_1, o1), (t13, o2))
  | _ => none
theorem decpending_Set_int_Alone_n0_ok (s : St) (x : Ipending_Set_int_Alone_n0 × Vpending_Set_int_Alone_n0) (h : decpending_Set_int_Alone_n0 s = some x) : s = Spending_Set_int_Alone_n0 x.1 x.2 := by
  unfold decpending_Set_int_Alone_n0 at h
  split at h
  · cases h; rfl
  · cases h
def outpending_Set_int_Alone_n0 : Ipending_Set_int_Alone_n0 → (Ex → St → Ans) → Ypending_Set_int_Alone_n0 → Ans := fun (t12, o0_1, o1) K => fun o2_y => K (Ex.exit 0) { env := [(0, AV.ptr 0 0), (3, AV.own 2)], stk := [[(0, AV.ptr 0 0)]], H := [AE.Obj.cells [AV.own 1, AV.int IntKind.i64 o0_1], Obj.arr (Ty.st (Ty.pair (Ty.int IntKind.i64) (Ty.list (Ty.int IntKind.i64)))) o1, Obj.arr (Ty.st (Ty.pair (Ty.int IntKind.i64) (Ty.int IntKind.i64))) o2_y], blk := 143360 }
def steppending_Set_int_Alone_n0 {β : Type} : Ipending_Set_int_Alone_n0 → Vpending_Set_int_Alone_n0 → (Vpending_Set_int_Alone_n0 → Option β) → (Ypending_Set_int_Alone_n0 → Option β) → Option β := fun (t12, o0_1, o1) (t13, o2) next exit => (bif decide (t13 < t12) then (bif inR t13 (List.length o1) then (bindO (o1[Int.toNat t13]?) fun x => (bif Nat.ble ((List.length o2 + List.length [(x.fst, (1 : Int))]) * nat_lit 16) (140737488355328 : Nat) then (next (IntKind.wrap IntKind.i64 (t13 + (1 : Int)), o2 ++ [(x.fst, (1 : Int))])) else none)) else none) else (exit (o2)))
def stepDpending_Set_int_Alone_n0 (i : Ipending_Set_int_Alone_n0) (v : Vpending_Set_int_Alone_n0) : Option (Vpending_Set_int_Alone_n0 ⊕ Ypending_Set_int_Alone_n0) := steppending_Set_int_Alone_n0 i v (fun v => some (.inl v)) (fun y => some (.inr y))
theorem steppending_Set_int_Alone_n0_nat (i : Ipending_Set_int_Alone_n0) (v : Vpending_Set_int_Alone_n0) (next : Vpending_Set_int_Alone_n0 → Ans) (exit : Ypending_Set_int_Alone_n0 → Ans) : steppending_Set_int_Alone_n0 i v next exit = bindO (stepDpending_Set_int_Alone_n0 i v) (Sum.elim next exit) := by
  obtain ⟨t12, o0_1, o1⟩ := i
  obtain ⟨t13, o2⟩ := v
  simp only [stepDpending_Set_int_Alone_n0, steppending_Set_int_Alone_n0, bindO_cond, bindO_assoc, bindO_none, bindO_pure, bindO_elim, bindO_unP, Sum.elim_inl, Sum.elim_inr]
theorem steppending_Set_int_Alone_n0_ok (n : Nat) (i : Ipending_Set_int_Alone_n0) (v : Vpending_Set_int_Alone_n0) (K : Ex → St → Ans) : codeI Try.tab envpending_Set_int_Alone noHint (codeD Try.tab envpending_Set_int_Alone noHint 0 64) (n+1) 28 annLpending_Set_int_Alone_n0 (.loop Lpending_Set_int_Alone_n0) (weakP 2 (exk [0, 3] [2] [(0, [0, 3])]) K) (Spending_Set_int_Alone_n0 i v) = steppending_Set_int_Alone_n0 i v (fun v' => codeI Try.tab envpending_Set_int_Alone noHint (codeD Try.tab envpending_Set_int_Alone noHint 0 64) n 28 annLpending_Set_int_Alone_n0 (.loop Lpending_Set_int_Alone_n0) (weakP 2 (exk [0, 3] [2] [(0, [0, 3])]) K) (Spending_Set_int_Alone_n0 i v')) (fun y => outpending_Set_int_Alone_n0 i K y) := by kernel_rfl
theorem GNpending_Set_int_Alone_n0_ok : CSum Try.prog 28 (.loop Lpending_Set_int_Alone_n0) (sumL decpending_Set_int_Alone_n0 stepDpending_Set_int_Alone_n0 outpending_Set_int_Alone_n0) := csum_loop mixed tabOk envpending_Set_int_AloneOk 2 (exk [0, 3] [2] [(0, [0, 3])]) annLpending_Set_int_Alone_n0_ok decpending_Set_int_Alone_n0_ok steppending_Set_int_Alone_n0_ok steppending_Set_int_Alone_n0_nat
noncomputable def Gpending_Set_int_Alone_n0 : (Ex → St → Ans) → St → Ans := (sumL decpending_Set_int_Alone_n0 stepDpending_Set_int_Alone_n0 outpending_Set_int_Alone_n0)
theorem Gpending_Set_int_Alone_n0_ok : CSum Try.prog 28 (.loop Lpending_Set_int_Alone_n0) Gpending_Set_int_Alone_n0 := GNpending_Set_int_Alone_n0_ok
noncomputable def annpending_Set_int_Alone : Ann := (.seq .none (.seq .none (.seq .none (.seq (.seq .none (.block (.cut 2 [0, 3, 11, 12, 13] Gpending_Set_int_Alone_n0))) .none))))
theorem annpending_Set_int_Alone_ok : AnnOk Try.prog 28 bpending_Set_int_Alone annpending_Set_int_Alone := ⟨(annOk_none _ _ _), ⟨(annOk_none _ _ _), ⟨(annOk_none _ _ _), ⟨⟨(annOk_none _ _ _), Gpending_Set_int_Alone_n0_ok⟩, (annOk_none _ _ _)⟩⟩⟩⟩
abbrev Apending_Set_int_Alone := (Int) × (List (Int × List Int))
abbrev Ypending_Set_int_Alone := (List (Int × Int))
def fnpending_Set_int_Alone {β : Type} : Apending_Set_int_Alone → (Ypending_Set_int_Alone → Option β) → Option β := fun (o0_1, o1) exit => (bindO (loopD (stepDpending_Set_int_Alone_n0 ((↑(List.length o1) : Int), o0_1, o1)) FUEL ((0 : Int), [])) fun o2 => (exit (o2)))
def fnDpending_Set_int_Alone (a : Apending_Set_int_Alone) : Option Ypending_Set_int_Alone := fnpending_Set_int_Alone a some
theorem fnpending_Set_int_Alone_nat (a : Apending_Set_int_Alone) (k : Ypending_Set_int_Alone → Ans) : fnpending_Set_int_Alone a k = bindO (fnDpending_Set_int_Alone a) k := by
  obtain ⟨o0_1, o1⟩ := a
  simp only [fnDpending_Set_int_Alone, fnpending_Set_int_Alone, bindO_cond, bindO_assoc, bindO_none, bindO_pure, bindO_elim, bindO_unP]
def argspending_Set_int_Alone : Apending_Set_int_Alone → List AV × List AE.Obj := fun (o0_1, o1) => ([AV.ptr 0 0], [AE.Obj.cells [AV.own 1, AV.int IntKind.i64 o0_1], Obj.arr (Ty.st (Ty.pair (Ty.int IntKind.i64) (Ty.list (Ty.int IntKind.i64)))) o1])
def decApending_Set_int_Alone (l : List AV) (H : List AE.Obj) : Option Apending_Set_int_Alone := match l, H with
  | [AV.ptr 0 0], [AE.Obj.cells [AV.own 1, AV.int IntKind.i64 o0_1], Obj.arr (Ty.st (Ty.pair (Ty.int IntKind.i64) (Ty.list (Ty.int IntKind.i64)))) o1] => some (o0_1, o1)
  | _, _ => none
theorem decApending_Set_int_Alone_ok (l : List AV) (H : List AE.Obj) (a : Apending_Set_int_Alone) (h : decApending_Set_int_Alone l H = some a) : (l, H) = argspending_Set_int_Alone a := by
  unfold decApending_Set_int_Alone at h
  split at h
  · cases h; rfl
  · cases h
def outpending_Set_int_Alone : Apending_Set_int_Alone → (AV → List AE.Obj → Ans) → Ypending_Set_int_Alone → Ans := fun (o0_1, o1) K => fun o2_y => K (AV.own 2) [AE.Obj.cells [AV.own 3, AV.int IntKind.i64 o0_1], Obj.arr (Ty.st (Ty.pair (Ty.int IntKind.i64) (Ty.list (Ty.int IntKind.i64)))) o1, Obj.arr (Ty.st (Ty.pair (Ty.int IntKind.i64) (Ty.int IntKind.i64))) o2_y, Obj.arr (Ty.st (Ty.pair (Ty.int IntKind.i64) (Ty.list (Ty.int IntKind.i64)))) ([])]
theorem fnpending_Set_int_Alone_ok (a : Apending_Set_int_Alone) (K : AV → List AE.Obj → Ans) : fnE Try.tab envpending_Set_int_Alone noHint 0 70 35 Try.f35.ntmps Try.f35.results.toList annpending_Set_int_Alone bpending_Set_int_Alone (argspending_Set_int_Alone a).1 (argspending_Set_int_Alone a).2 K = fnpending_Set_int_Alone a (outpending_Set_int_Alone a K) := by kernel_rfl
def vFpending_Set_int_Alone (a : Apending_Set_int_Alone) (K : AV → List AE.Obj → Ans) : Ans := bindO (fnDpending_Set_int_Alone a) fun y => outpending_Set_int_Alone a K y
def Fpending_Set_int_Alone : List AV → List AE.Obj → (AV → List AE.Obj → Ans) → Ans := fun l H K => bindO (decApending_Set_int_Alone l H) fun a => vFpending_Set_int_Alone a K
theorem Fpending_Set_int_Alone_ok : FuncOk Try.prog 35 Fpending_Set_int_Alone := func_mkD (hint := noHint) (d := 0) (n := 70) mixed tabOk envpending_Set_int_AloneOk Try.func35 (bodySome (by kernel_rfl)) (by decide +kernel) annpending_Set_int_Alone_ok decApending_Set_int_Alone_ok fnpending_Set_int_Alone_ok fnpending_Set_int_Alone_nat
--@ ref30_Set_Alone
noncomputable def envref30_Set_Alone : Env := []
theorem envref30_Set_AloneOk : EnvOk Try.prog envref30_Set_Alone := EnvOk.nil
noncomputable def bref30_Set_Alone : Code := Try.f36.body.getD .skip
noncomputable def Lref30_Set_Alone_n0 : Code := codeAt [1, 1, 0, 1, 0, 0] bref30_Set_Alone
noncomputable def annLref30_Set_Alone_n0 : Ann := .at 2 [0, 3, 4] (.loop .none)
theorem annLref30_Set_Alone_n0_ok : AnnOk Try.prog 30 (.loop Lref30_Set_Alone_n0) annLref30_Set_Alone_n0 := annOk_at (annOk_none _ _ _)
abbrev Iref30_Set_Alone_n0 := (Int) × (List (Int × List Int))
abbrev Yref30_Set_Alone_n0 := (List (Int × Int))
abbrev Vref30_Set_Alone_n0 := (Int) × (List (Int × Int))
def Sref30_Set_Alone_n0 : Iref30_Set_Alone_n0 → Vref30_Set_Alone_n0 → St := fun (o0_1, o1) (t4, o2) => { env := [(0, AV.ptr 0 0), (3, AV.own 2), (4, AV.int IntKind.i64 t4)], stk := [[(0, AV.ptr 0 0)]], H := [AE.Obj.cells [AV.own 1, AV.int IntKind.i64 o0_1], Obj.arr (Ty.st (Ty.pair (Ty.int IntKind.i64) (Ty.list (Ty.int IntKind.i64)))) o1, Obj.arr (Ty.st (Ty.pair (Ty.int IntKind.i64) (Ty.int IntKind.i64))) o2], blk := 147456 }
def decref30_Set_Alone_n0 (s : St) : Option (Iref30_Set_Alone_n0 × Vref30_Set_Alone_n0) := match s with
  | { env := [(0, AV.ptr 0 0), (3, AV.own 2), (4, AV.int IntKind.i64 t4)], stk := [[(0, AV.ptr 0 0)]], H := [AE.Obj.cells [AV.own 1, AV.int IntKind.i64 o0_1], Obj.arr (Ty.st (Ty.pair (Ty.int IntKind.i64) (Ty.list (Ty.int IntKind.i64)))) o1, Obj.arr (Ty.st (Ty.pair (Ty.int IntKind.i64) (Ty.int IntKind.i64))) o2], blk := 147456 } => some ((o0_1, o1), (t4, o2))
  | _ => none
theorem decref30_Set_Alone_n0_ok (s : St) (x : Iref30_Set_Alone_n0 × Vref30_Set_Alone_n0) (h : decref30_Set_Alone_n0 s = some x) : s = Sref30_Set_Alone_n0 x.1 x.2 := by
  unfold decref30_Set_Alone_n0 at h
  split at h
  · cases h; rfl
  · cases h
def outref30_Set_Alone_n0 : Iref30_Set_Alone_n0 → (Ex → St → Ans) → Yref30_Set_Alone_n0 → Ans := fun (o0_1, o1) K => fun o2_y => K (Ex.exit 0) { env := [(0, AV.ptr 0 0), (3, AV.own 2)], stk := [[(0, AV.ptr 0 0)]], H := [AE.Obj.cells [AV.own 1, AV.int IntKind.i64 o0_1], Obj.arr (Ty.st (Ty.pair (Ty.int IntKind.i64) (Ty.list (Ty.int IntKind.i64)))) o1, Obj.arr (Ty.st (Ty.pair (Ty.int IntKind.i64) (Ty.int IntKind.i64))) o2_y], blk := 147456 }
def stepref30_Set_Alone_n0 {β : Type} : Iref30_Set_Alone_n0 → Vref30_Set_Alone_n0 → (Vref30_Set_Alone_n0 → Option β) → (Yref30_Set_Alone_n0 → Option β) → Option β := fun (o0_1, o1) (t4, o2) next exit => (bif decide (t4 < (↑(List.length o1) : Int)) then (bif inR t4 (List.length o1) then (bindO (o1[Int.toNat t4]?) fun x => (bif Nat.ble ((List.length o2 + List.length [(x.fst, (1 : Int))]) * nat_lit 16) (140737488355328 : Nat) then (next (IntKind.wrap IntKind.i64 (t4 + (1 : Int)), o2 ++ [(x.fst, (1 : Int))])) else none)) else none) else (exit (o2)))
def stepDref30_Set_Alone_n0 (i : Iref30_Set_Alone_n0) (v : Vref30_Set_Alone_n0) : Option (Vref30_Set_Alone_n0 ⊕ Yref30_Set_Alone_n0) := stepref30_Set_Alone_n0 i v (fun v => some (.inl v)) (fun y => some (.inr y))
theorem stepref30_Set_Alone_n0_nat (i : Iref30_Set_Alone_n0) (v : Vref30_Set_Alone_n0) (next : Vref30_Set_Alone_n0 → Ans) (exit : Yref30_Set_Alone_n0 → Ans) : stepref30_Set_Alone_n0 i v next exit = bindO (stepDref30_Set_Alone_n0 i v) (Sum.elim next exit) := by
  obtain ⟨o0_1, o1⟩ := i
  obtain ⟨t4, o2⟩ := v
  simp only [stepDref30_Set_Alone_n0, stepref30_Set_Alone_n0, bindO_cond, bindO_assoc, bindO_none, bindO_pure, bindO_elim, bindO_unP, Sum.elim_inl, Sum.elim_inr]
theorem stepref30_Set_Alone_n0_ok (n : Nat) (i : Iref30_Set_Alone_n0) (v : Vref30_Set_Alone_n0) (K : Ex → St → Ans) : codeI Try.tab envref30_Set_Alone noHint (codeD Try.tab envref30_Set_Alone noHint 0 64) (n+1) 30 annLref30_Set_Alone_n0 (.loop Lref30_Set_Alone_n0) (weakP 2 (exk [0, 3] [2] [(0, [0, 3])]) K) (Sref30_Set_Alone_n0 i v) = stepref30_Set_Alone_n0 i v (fun v' => codeI Try.tab envref30_Set_Alone noHint (codeD Try.tab envref30_Set_Alone noHint 0 64) n 30 annLref30_Set_Alone_n0 (.loop Lref30_Set_Alone_n0) (weakP 2 (exk [0, 3] [2] [(0, [0, 3])]) K) (Sref30_Set_Alone_n0 i v')) (fun y => outref30_Set_Alone_n0 i K y) := by kernel_rfl
theorem GNref30_Set_Alone_n0_ok : CSum Try.prog 30 (.loop Lref30_Set_Alone_n0) (sumL decref30_Set_Alone_n0 stepDref30_Set_Alone_n0 outref30_Set_Alone_n0) := csum_loop mixed tabOk envref30_Set_AloneOk 2 (exk [0, 3] [2] [(0, [0, 3])]) annLref30_Set_Alone_n0_ok decref30_Set_Alone_n0_ok stepref30_Set_Alone_n0_ok stepref30_Set_Alone_n0_nat
noncomputable def Gref30_Set_Alone_n0 : (Ex → St → Ans) → St → Ans := (sumL decref30_Set_Alone_n0 stepDref30_Set_Alone_n0 outref30_Set_Alone_n0)
theorem Gref30_Set_Alone_n0_ok : CSum Try.prog 30 (.loop Lref30_Set_Alone_n0) Gref30_Set_Alone_n0 := GNref30_Set_Alone_n0_ok
noncomputable def annref30_Set_Alone : Ann := (.seq .none (.seq .none (.seq (.seq .none (.block (.cut 2 [0, 3, 4] Gref30_Set_Alone_n0))) .none)))
theorem annref30_Set_Alone_ok : AnnOk Try.prog 30 bref30_Set_Alone annref30_Set_Alone := ⟨(annOk_none _ _ _), ⟨(annOk_none _ _ _), ⟨⟨(annOk_none _ _ _), Gref30_Set_Alone_n0_ok⟩, (annOk_none _ _ _)⟩⟩⟩
abbrev Aref30_Set_Alone := (Int) × (List (Int × List Int))
abbrev Yref30_Set_Alone := (List (Int × Int))
def fnref30_Set_Alone {β : Type} : Aref30_Set_Alone → (Yref30_Set_Alone → Option β) → Option β := fun (o0_1, o1) exit => (bindO (loopD (stepDref30_Set_Alone_n0 (o0_1, o1)) FUEL ((0 : Int), [])) fun o2 => (exit (o2)))
def fnDref30_Set_Alone (a : Aref30_Set_Alone) : Option Yref30_Set_Alone := fnref30_Set_Alone a some
theorem fnref30_Set_Alone_nat (a : Aref30_Set_Alone) (k : Yref30_Set_Alone → Ans) : fnref30_Set_Alone a k = bindO (fnDref30_Set_Alone a) k := by
  obtain ⟨o0_1, o1⟩ := a
  simp only [fnDref30_Set_Alone, fnref30_Set_Alone, bindO_cond, bindO_assoc, bindO_none, bindO_pure, bindO_elim, bindO_unP]
def argsref30_Set_Alone : Aref30_Set_Alone → List AV × List AE.Obj := fun (o0_1, o1) => ([AV.ptr 0 0], [AE.Obj.cells [AV.own 1, AV.int IntKind.i64 o0_1], Obj.arr (Ty.st (Ty.pair (Ty.int IntKind.i64) (Ty.list (Ty.int IntKind.i64)))) o1])
def decAref30_Set_Alone (l : List AV) (H : List AE.Obj) : Option Aref30_Set_Alone := match l, H with
  | [AV.ptr 0 0], [AE.Obj.cells [AV.own 1, AV.int IntKind.i64 o0_1], Obj.arr (Ty.st (Ty.pair (Ty.int IntKind.i64) (Ty.list (Ty.int IntKind.i64)))) o1] => some (o0_1, o1)
  | _, _ => none
theorem decAref30_Set_Alone_ok (l : List AV) (H : List AE.Obj) (a : Aref30_Set_Alone) (h : decAref30_Set_Alone l H = some a) : (l, H) = argsref30_Set_Alone a := by
  unfold decAref30_Set_Alone at h
  split at h
  · cases h; rfl
  · cases h
def outref30_Set_Alone : Aref30_Set_Alone → (AV → List AE.Obj → Ans) → Yref30_Set_Alone → Ans := fun (o0_1, o1) K => fun o2_y => K (AV.own 2) [AE.Obj.cells [AV.own 3, AV.int IntKind.i64 o0_1], Obj.arr (Ty.st (Ty.pair (Ty.int IntKind.i64) (Ty.list (Ty.int IntKind.i64)))) o1, Obj.arr (Ty.st (Ty.pair (Ty.int IntKind.i64) (Ty.int IntKind.i64))) o2_y, Obj.arr (Ty.st (Ty.pair (Ty.int IntKind.i64) (Ty.list (Ty.int IntKind.i64)))) ([])]
theorem fnref30_Set_Alone_ok (a : Aref30_Set_Alone) (K : AV → List AE.Obj → Ans) : fnE Try.tab envref30_Set_Alone noHint 0 70 36 Try.f36.ntmps Try.f36.results.toList annref30_Set_Alone bref30_Set_Alone (argsref30_Set_Alone a).1 (argsref30_Set_Alone a).2 K = fnref30_Set_Alone a (outref30_Set_Alone a K) := by kernel_rfl
def vFref30_Set_Alone (a : Aref30_Set_Alone) (K : AV → List AE.Obj → Ans) : Ans := bindO (fnDref30_Set_Alone a) fun y => outref30_Set_Alone a K y
def Fref30_Set_Alone : List AV → List AE.Obj → (AV → List AE.Obj → Ans) → Ans := fun l H K => bindO (decAref30_Set_Alone l H) fun a => vFref30_Set_Alone a K
theorem Fref30_Set_Alone_ok : FuncOk Try.prog 36 Fref30_Set_Alone := func_mkD (hint := noHint) (d := 0) (n := 70) mixed tabOk envref30_Set_AloneOk Try.func36 (bodySome (by kernel_rfl)) (by decide +kernel) annref30_Set_Alone_ok decAref30_Set_Alone_ok fnref30_Set_Alone_ok fnref30_Set_Alone_nat
end Go.Proofs.R1
namespace Go.Proofs.R1
open Go Go.AE
--@ pending_Set_int_Alone_2
noncomputable def envpending_Set_int_Alone_2 : Env := []
theorem envpending_Set_int_Alone_2Ok : EnvOk Try.prog envpending_Set_int_Alone_2 := EnvOk.nil
noncomputable def bpending_Set_int_Alone_2 : Code := Try.f35.body.getD .skip
noncomputable def annpending_Set_int_Alone_2 : Ann := .none
theorem annpending_Set_int_Alone_2_ok : AnnOk Try.prog 28 bpending_Set_int_Alone_2 annpending_Set_int_Alone_2 := (annOk_none _ _ _)
abbrev Apending_Set_int_Alone_2 := Unit
abbrev Ypending_Set_int_Alone_2 := Unit
def fnpending_Set_int_Alone_2 {β : Type} : Apending_Set_int_Alone_2 → (Ypending_Set_int_Alone_2 → Option β) → Option β := fun _ exit => (exit ())
def fnDpending_Set_int_Alone_2 (a : Apending_Set_int_Alone_2) : Option Ypending_Set_int_Alone_2 := fnpending_Set_int_Alone_2 a some
theorem fnpending_Set_int_Alone_2_nat (a : Apending_Set_int_Alone_2) (k : Ypending_Set_int_Alone_2 → Ans) : fnpending_Set_int_Alone_2 a k = bindO (fnDpending_Set_int_Alone_2 a) k := by
  obtain z := a
  simp only [fnDpending_Set_int_Alone_2, fnpending_Set_int_Alone_2, bindO_cond, bindO_assoc, bindO_none, bindO_pure, bindO_elim, bindO_unP]
def argspending_Set_int_Alone_2 : Apending_Set_int_Alone_2 → List AV × List AE.Obj := fun _ => ([AV.nilp], [])
def decApending_Set_int_Alone_2 (l : List AV) (H : List AE.Obj) : Option Apending_Set_int_Alone_2 := match l, H with
  | [AV.nilp], [] => some ()
  | _, _ => none
theorem decApending_Set_int_Alone_2_ok (l : List AV) (H : List AE.Obj) (a : Apending_Set_int_Alone_2) (h : decApending_Set_int_Alone_2 l H = some a) : (l, H) = argspending_Set_int_Alone_2 a := by
  unfold decApending_Set_int_Alone_2 at h
  split at h
  · cases h; rfl
  · cases h
def outpending_Set_int_Alone_2 : Apending_Set_int_Alone_2 → (AV → List AE.Obj → Ans) → Ypending_Set_int_Alone_2 → Ans := fun _ K => fun _ => K (AV.own 0) [Obj.arr (Ty.st (Ty.pair (Ty.int IntKind.i64) (Ty.int IntKind.i64))) ([])]
theorem fnpending_Set_int_Alone_2_ok (a : Apending_Set_int_Alone_2) (K : AV → List AE.Obj → Ans) : fnE Try.tab envpending_Set_int_Alone_2 noHint 0 70 35 Try.f35.ntmps Try.f35.results.toList annpending_Set_int_Alone_2 bpending_Set_int_Alone_2 (argspending_Set_int_Alone_2 a).1 (argspending_Set_int_Alone_2 a).2 K = fnpending_Set_int_Alone_2 a (outpending_Set_int_Alone_2 a K) := by kernel_rfl
def vFpending_Set_int_Alone_2 (a : Apending_Set_int_Alone_2) (K : AV → List AE.Obj → Ans) : Ans := bindO (fnDpending_Set_int_Alone_2 a) fun y => outpending_Set_int_Alone_2 a K y
def Fpending_Set_int_Alone_2 : List AV → List AE.Obj → (AV → List AE.Obj → Ans) → Ans := fun l H K => bindO (decApending_Set_int_Alone_2 l H) fun a => vFpending_Set_int_Alone_2 a K
theorem Fpending_Set_int_Alone_2_ok : FuncOk Try.prog 35 Fpending_Set_int_Alone_2 := func_mkD (hint := noHint) (d := 0) (n := 70) mixed tabOk envpending_Set_int_Alone_2Ok Try.func35 (bodySome (by kernel_rfl)) (by decide +kernel) annpending_Set_int_Alone_2_ok decApending_Set_int_Alone_2_ok fnpending_Set_int_Alone_2_ok fnpending_Set_int_Alone_2_nat
--@ pending_Set_int_Waits
noncomputable def envpending_Set_int_Waits : Env := [(46, .pure Fpending_among_int)]
theorem envpending_Set_int_WaitsOk : EnvOk Try.prog envpending_Set_int_Waits := EnvOk.cons Fpending_among_int_ok (EnvOk.nil)
noncomputable def bpending_Set_int_Waits : Code := Try.f38.body.getD .skip
noncomputable def Lpending_Set_int_Waits_n0 : Code := codeAt [1, 1, 0, 1, 0, 0] bpending_Set_int_Waits
noncomputable def annLpending_Set_int_Waits_n0 : Ann := .at 2 [1, 12, 13, 14] (.loop .none)
theorem annLpending_Set_int_Waits_n0_ok : AnnOk Try.prog 23 (.loop Lpending_Set_int_Waits_n0) annLpending_Set_int_Waits_n0 := annOk_at (annOk_none _ _ _)
abbrev Ipending_Set_int_Waits_n0 := (Int) × (Int) × (Int) × (List (Int × List Int))
abbrev Ypending_Set_int_Waits_n0 := (Unit) ⊕ (Unit)
abbrev Vpending_Set_int_Waits_n0 := (Int)
def Spending_Set_int_Waits_n0 : Ipending_Set_int_Waits_n0 → Vpending_Set_int_Waits_n0 → St := fun (t1, t13, o0_1, o1) t14 => { env := [(1, AV.int IntKind.i64 t1), (12, AV.own 1), (13, AV.int IntKind.i64 t13), (14, AV.int IntKind.i64 t14)], stk := [[(0, AV.ptr 0 0)]], H := [AE.Obj.cells [AV.own 1, AV.int IntKind.i64 o0_1], Obj.arr (Ty.st (Ty.pair (Ty.int IntKind.i64) (Ty.list (Ty.int IntKind.i64)))) o1], blk := 155648 }
def decpending_Set_int_Waits_n0 (s : St) : Option (Ipending_Set_int_Waits_n0 × Vpending_Set_int_Waits_n0) := match s with
  | { env := [(1, AV.int IntKind.i64 t1), (12, AV.own 1), (13, AV.int IntKind.i64 t13), (14, AV.int IntKind.i64 t14)], stk := [[(0, AV.ptr 0 0)]], H := [AE.Obj.cells [AV.own 1, AV.int IntKind.i64 o0_1], Obj.arr (Ty.st (Ty.pair (Ty.int IntKind.i64) (Ty.list (Ty.int IntKind.i64)))) o1], blk := 155648 } => some ((t1, t13, o0_1, o1), t14)
  | _ => none
theorem decpending_Set_int_Waits_n0_ok (s : St) (x : Ipending_Set_int_Waits_n0 × Vpending_Set_int_Waits_n0) (h : decpending_Set_int_Waits_n0 s = some x) : s = Spending_Set_int_Waits_n0 x.1 x.2 := by
  unfold decpending_Set_int_Waits_n0 at h
  split at h
  · cases h; rfl
  · cases h
def outpending_Set_int_Waits_n0 : Ipending_Set_int_Waits_n0 → (Ex → St → Ans) → Ypending_Set_int_Waits_n0 → Ans := fun (t1, t13, o0_1, o1) K => (Sum.elim (fun _ => K (Ex.ret) { env := [(4, AV.bool (true))], stk := [[(0, AV.ptr 0 0)]], H := [AE.Obj.cells [AV.own 1, AV.int IntKind.i64 o0_1], Obj.arr (Ty.st (Ty.pair (Ty.int IntKind.i64) (Ty.list (Ty.int IntKind.i64)))) o1], blk := 155649 }) (fun _ => K (Ex.exit 0) { env := [], stk := [[(0, AV.ptr 0 0)]], H := [AE.Obj.cells [AV.own 1, AV.int IntKind.i64 o0_1], Obj.arr (Ty.st (Ty.pair (Ty.int IntKind.i64) (Ty.list (Ty.int IntKind.i64)))) o1], blk := 155648 }))
def steppending_Set_int_Waits_n0 {β : Type} : Ipending_Set_int_Waits_n0 → Vpending_Set_int_Waits_n0 → (Vpending_Set_int_Waits_n0 → Option β) → (Ypending_Set_int_Waits_n0 → Option β) → Option β := fun (t1, t13, o0_1, o1) t14 next exit => (bif decide (t14 < t13) then (bif inR t14 (List.length o1) then (bindO (o1[Int.toNat t14]?) fun x => (bindO (fnDpending_among_int (x.snd, t1)) fun r => (bif r then (exit (Sum.inl ())) else (next (IntKind.wrap IntKind.i64 (t14 + (1 : Int))))))) else none) else (exit (Sum.inr ())))
def stepDpending_Set_int_Waits_n0 (i : Ipending_Set_int_Waits_n0) (v : Vpending_Set_int_Waits_n0) : Option (Vpending_Set_int_Waits_n0 ⊕ Ypending_Set_int_Waits_n0) := steppending_Set_int_Waits_n0 i v (fun v => some (.inl v)) (fun y => some (.inr y))
theorem steppending_Set_int_Waits_n0_nat (i : Ipending_Set_int_Waits_n0) (v : Vpending_Set_int_Waits_n0) (next : Vpending_Set_int_Waits_n0 → Ans) (exit : Ypending_Set_int_Waits_n0 → Ans) : steppending_Set_int_Waits_n0 i v next exit = bindO (stepDpending_Set_int_Waits_n0 i v) (Sum.elim next exit) := by
  obtain ⟨t1, t13, o0_1, o1⟩ := i
  obtain z := v
  simp only [stepDpending_Set_int_Waits_n0, steppending_Set_int_Waits_n0, bindO_cond, bindO_assoc, bindO_none, bindO_pure, bindO_elim, bindO_unP, Sum.elim_inl, Sum.elim_inr]
theorem steppending_Set_int_Waits_n0_ok (n : Nat) (i : Ipending_Set_int_Waits_n0) (v : Vpending_Set_int_Waits_n0) (K : Ex → St → Ans) : codeI Try.tab envpending_Set_int_Waits noHint (codeD Try.tab envpending_Set_int_Waits noHint 0 64) (n+1) 23 annLpending_Set_int_Waits_n0 (.loop Lpending_Set_int_Waits_n0) (weakP 2 (exk [] [4] [(0, [])]) K) (Spending_Set_int_Waits_n0 i v) = steppending_Set_int_Waits_n0 i v (fun v' => codeI Try.tab envpending_Set_int_Waits noHint (codeD Try.tab envpending_Set_int_Waits noHint 0 64) n 23 annLpending_Set_int_Waits_n0 (.loop Lpending_Set_int_Waits_n0) (weakP 2 (exk [] [4] [(0, [])]) K) (Spending_Set_int_Waits_n0 i v')) (fun y => outpending_Set_int_Waits_n0 i K y) := by kernel_rfl
theorem GNpending_Set_int_Waits_n0_ok : CSum Try.prog 23 (.loop Lpending_Set_int_Waits_n0) (sumL decpending_Set_int_Waits_n0 stepDpending_Set_int_Waits_n0 outpending_Set_int_Waits_n0) := csum_loop mixed tabOk envpending_Set_int_WaitsOk 2 (exk [] [4] [(0, [])]) annLpending_Set_int_Waits_n0_ok decpending_Set_int_Waits_n0_ok steppending_Set_int_Waits_n0_ok steppending_Set_int_Waits_n0_nat
noncomputable def Gpending_Set_int_Waits_n0 : (Ex → St → Ans) → St → Ans := (sumL decpending_Set_int_Waits_n0 stepDpending_Set_int_Waits_n0 outpending_Set_int_Waits_n0)
theorem Gpending_Set_int_Waits_n0_ok : CSum Try.prog 23 (.loop Lpending_Set_int_Waits_n0) Gpending_Set_int_Waits_n0 := GNpending_Set_int_Waits_n0_ok
noncomputable def annpending_Set_int_Waits : Ann := (.seq .none (.seq .none (.seq (.seq .none (.block (.cut 2 [1, 12, 13, 14] Gpending_Set_int_Waits_n0))) .none)))
theorem annpending_Set_int_Waits_ok : AnnOk Try.prog 23 bpending_Set_int_Waits annpending_Set_int_Waits := ⟨(annOk_none _ _ _), ⟨(annOk_none _ _ _), ⟨⟨(annOk_none _ _ _), Gpending_Set_int_Waits_n0_ok⟩, (annOk_none _ _ _)⟩⟩⟩
abbrev Apending_Set_int_Waits := (Int) × (Int) × (List (Int × List Int))
abbrev Ypending_Set_int_Waits := (Bool)
def fnpending_Set_int_Waits {β : Type} : Apending_Set_int_Waits → (Ypending_Set_int_Waits → Option β) → Option β := fun (a1, o0_1, o1) exit => (bindO (loopD (stepDpending_Set_int_Waits_n0 (a1, (↑(List.length o1) : Int), o0_1, o1)) FUEL ((0 : Int))) (Sum.elim (fun _ => (exit (true))) (fun _ => (exit (false)))))
def fnDpending_Set_int_Waits (a : Apending_Set_int_Waits) : Option Ypending_Set_int_Waits := fnpending_Set_int_Waits a some
theorem fnpending_Set_int_Waits_nat (a : Apending_Set_int_Waits) (k : Ypending_Set_int_Waits → Ans) : fnpending_Set_int_Waits a k = bindO (fnDpending_Set_int_Waits a) k := by
  obtain ⟨a1, o0_1, o1⟩ := a
  simp only [fnDpending_Set_int_Waits, fnpending_Set_int_Waits, bindO_cond, bindO_assoc, bindO_none, bindO_pure, bindO_elim, bindO_unP]
def argspending_Set_int_Waits : Apending_Set_int_Waits → List AV × List AE.Obj := fun (a1, o0_1, o1) => ([AV.ptr 0 0, AV.int IntKind.i64 a1], [AE.Obj.cells [AV.own 1, AV.int IntKind.i64 o0_1], Obj.arr (Ty.st (Ty.pair (Ty.int IntKind.i64) (Ty.list (Ty.int IntKind.i64)))) o1])
def decApending_Set_int_Waits (l : List AV) (H : List AE.Obj) : Option Apending_Set_int_Waits := match l, H with
  | [AV.ptr 0 0, AV.int IntKind.i64 a1], [AE.Obj.cells [AV.own 1, AV.int IntKind.i64 o0_1], Obj.arr (Ty.st (Ty.pair (Ty.int IntKind.i64) (Ty.list (Ty.int IntKind.i64)))) o1] => some (a1, o0_1, o1)
  | _, _ => none
theorem decApending_Set_int_Waits_ok (l : List AV) (H : List AE.Obj) (a : Apending_Set_int_Waits) (h : decApending_Set_int_Waits l H = some a) : (l, H) = argspending_Set_int_Waits a := by
  unfold decApending_Set_int_Waits at h
  split at h
  · cases h; rfl
  · cases h
def outpending_Set_int_Waits : Apending_Set_int_Waits → (AV → List AE.Obj → Ans) → Ypending_Set_int_Waits → Ans := fun (a1, o0_1, o1) K => fun r_y => K (AV.bool r_y) [AE.Obj.cells [AV.own 1, AV.int IntKind.i64 o0_1], Obj.arr (Ty.st (Ty.pair (Ty.int IntKind.i64) (Ty.list (Ty.int IntKind.i64)))) o1]
theorem fnpending_Set_int_Waits_ok (a : Apending_Set_int_Waits) (K : AV → List AE.Obj → Ans) : fnE Try.tab envpending_Set_int_Waits noHint 0 70 38 Try.f38.ntmps Try.f38.results.toList annpending_Set_int_Waits bpending_Set_int_Waits (argspending_Set_int_Waits a).1 (argspending_Set_int_Waits a).2 K = fnpending_Set_int_Waits a (outpending_Set_int_Waits a K) := by kernel_rfl
def vFpending_Set_int_Waits (a : Apending_Set_int_Waits) (K : AV → List AE.Obj → Ans) : Ans := bindO (fnDpending_Set_int_Waits a) fun y => outpending_Set_int_Waits a K y
def Fpending_Set_int_Waits : List AV → List AE.Obj → (AV → List AE.Obj → Ans) → Ans := fun l H K => bindO (decApending_Set_int_Waits l H) fun a => vFpending_Set_int_Waits a K
theorem Fpending_Set_int_Waits_ok : FuncOk Try.prog 38 Fpending_Set_int_Waits := func_mkD (hint := noHint) (d := 0) (n := 70) mixed tabOk envpending_Set_int_WaitsOk Try.func38 (bodySome (by kernel_rfl)) (by decide +kernel) annpending_Set_int_Waits_ok decApending_Set_int_Waits_ok fnpending_Set_int_Waits_ok fnpending_Set_int_Waits_nat
--@ ref30_has
noncomputable def envref30_has : Env := []
theorem envref30_hasOk : EnvOk Try.prog envref30_has := EnvOk.nil
noncomputable def bref30_has : Code := Try.f47.body.getD .skip
noncomputable def Lref30_has_n0 : Code := codeAt [1, 0, 1, 0, 0] bref30_has
noncomputable def annLref30_has_n0 : Ann := .at 0 [0, 1, 5] (.loop .none)
theorem annLref30_has_n0_ok : AnnOk Try.prog 18 (.loop Lref30_has_n0) annLref30_has_n0 := annOk_at (annOk_none _ _ _)
abbrev Iref30_has_n0 := (List Int) × (Int)
abbrev Yref30_has_n0 := (Unit) ⊕ (Unit)
abbrev Vref30_has_n0 := (Int)
def Sref30_has_n0 : Iref30_has_n0 → Vref30_has_n0 → St := fun (t0, t1) t5 => { env := [(0, AV.ro (Ty.int IntKind.i64) t0), (1, AV.int IntKind.i64 t1), (5, AV.int IntKind.i64 t5)], stk := [[]], H := [], blk := 192512 }
def decref30_has_n0 (s : St) : Option (Iref30_has_n0 × Vref30_has_n0) := match s with
  | { env := [(0, AV.ro (Ty.int IntKind.i64) t0), (1, AV.int IntKind.i64 t1), (5, AV.int IntKind.i64 t5)], stk := [[]], H := [], blk := 192512 } => some ((t0, t1), t5)
  | _ => none
theorem decref30_has_n0_ok (s : St) (x : Iref30_has_n0 × Vref30_has_n0) (h : decref30_has_n0 s = some x) : s = Sref30_has_n0 x.1 x.2 := by
  unfold decref30_has_n0 at h
  split at h
  · cases h; rfl
  · cases h
def outref30_has_n0 : Iref30_has_n0 → (Ex → St → Ans) → Yref30_has_n0 → Ans := fun (t0, t1) K => (Sum.elim (fun _ => K (Ex.ret) { env := [(4, AV.bool (true))], stk := [[]], H := [], blk := 192513 }) (fun _ => K (Ex.exit 0) { env := [], stk := [[]], H := [], blk := 192512 }))
def stepref30_has_n0 {β : Type} : Iref30_has_n0 → Vref30_has_n0 → (Vref30_has_n0 → Option β) → (Yref30_has_n0 → Option β) → Option β := fun (t0, t1) t5 next exit => (bif decide (t5 < (↑(List.length t0) : Int)) then (bindO (nth t0 t5) fun x => (bif x == t1 then (exit (Sum.inl ())) else (next (IntKind.wrap IntKind.i64 (t5 + (1 : Int)))))) else (exit (Sum.inr ())))
def stepDref30_has_n0 (i : Iref30_has_n0) (v : Vref30_has_n0) : Option (Vref30_has_n0 ⊕ Yref30_has_n0) := stepref30_has_n0 i v (fun v => some (.inl v)) (fun y => some (.inr y))
theorem stepref30_has_n0_nat (i : Iref30_has_n0) (v : Vref30_has_n0) (next : Vref30_has_n0 → Ans) (exit : Yref30_has_n0 → Ans) : stepref30_has_n0 i v next exit = bindO (stepDref30_has_n0 i v) (Sum.elim next exit) := by
  obtain ⟨t0, t1⟩ := i
  obtain z := v
  simp only [stepDref30_has_n0, stepref30_has_n0, bindO_cond, bindO_assoc, bindO_none, bindO_pure, bindO_elim, bindO_unP, Sum.elim_inl, Sum.elim_inr]
theorem stepref30_has_n0_ok (n : Nat) (i : Iref30_has_n0) (v : Vref30_has_n0) (K : Ex → St → Ans) : codeI Try.tab envref30_has noHint (codeD Try.tab envref30_has noHint 0 64) (n+1) 18 annLref30_has_n0 (.loop Lref30_has_n0) (weakP 0 (exk [] [4] [(0, [])]) K) (Sref30_has_n0 i v) = stepref30_has_n0 i v (fun v' => codeI Try.tab envref30_has noHint (codeD Try.tab envref30_has noHint 0 64) n 18 annLref30_has_n0 (.loop Lref30_has_n0) (weakP 0 (exk [] [4] [(0, [])]) K) (Sref30_has_n0 i v')) (fun y => outref30_has_n0 i K y) := by kernel_rfl
theorem GNref30_has_n0_ok : CSum Try.prog 18 (.loop Lref30_has_n0) (sumL decref30_has_n0 stepDref30_has_n0 outref30_has_n0) := csum_loop mixed tabOk envref30_hasOk 0 (exk [] [4] [(0, [])]) annLref30_has_n0_ok decref30_has_n0_ok stepref30_has_n0_ok stepref30_has_n0_nat
noncomputable def Gref30_has_n0 : (Ex → St → Ans) → St → Ans := (sumL decref30_has_n0 stepDref30_has_n0 outref30_has_n0)
theorem Gref30_has_n0_ok : CSum Try.prog 18 (.loop Lref30_has_n0) Gref30_has_n0 := GNref30_has_n0_ok
noncomputable def annref30_has : Ann := (.seq .none (.seq (.seq .none (.block (.cut 0 [0, 1, 5] Gref30_has_n0))) .none))
theorem annref30_has_ok : AnnOk Try.prog 18 bref30_has annref30_has := ⟨(annOk_none _ _ _), ⟨⟨(annOk_none _ _ _), Gref30_has_n0_ok⟩, (annOk_none _ _ _)⟩⟩
abbrev Aref30_has := (List Int) × (Int)
abbrev Yref30_has := (Bool)
def fnref30_has {β : Type} : Aref30_has → (Yref30_has → Option β) → Option β := fun (a0, a1) exit => (bindO (loopD (stepDref30_has_n0 (a0, a1)) FUEL ((0 : Int))) (Sum.elim (fun _ => (exit (true))) (fun _ => (exit (false)))))
def fnDref30_has (a : Aref30_has) : Option Yref30_has := fnref30_has a some
theorem fnref30_has_nat (a : Aref30_has) (k : Yref30_has → Ans) : fnref30_has a k = bindO (fnDref30_has a) k := by
  obtain ⟨a0, a1⟩ := a
  simp only [fnDref30_has, fnref30_has, bindO_cond, bindO_assoc, bindO_none, bindO_pure, bindO_elim, bindO_unP]
def argsref30_has : Aref30_has → List AV := fun (a0, a1) => [AV.ro (Ty.int IntKind.i64) a0, AV.int IntKind.i64 a1]
def decAref30_has (l : List AV) : Option Aref30_has := match l with
  | [AV.ro (Ty.int IntKind.i64) a0, AV.int IntKind.i64 a1] => some (a0, a1)
  | _ => none
theorem decAref30_has_ok (l : List AV) (a : Aref30_has) (h : decAref30_has l = some a) : l = argsref30_has a := by
  unfold decAref30_has at h
  split at h
  · cases h; rfl
  · cases h
def rendref30_has : Aref30_has → Yref30_has → AV := fun (a0, a1) => fun r_y => AV.bool r_y
theorem rendref30_has_ok : ∀ (a : Aref30_has) (y : Yref30_has), (rendref30_has a y).closed1 = true := by
  rintro ⟨a0, a1⟩ y <;> first | rfl | exact Empty.elim y
theorem fnref30_has_ok (a : Aref30_has) : fnE Try.tab envref30_has noHint 0 70 47 Try.f47.ntmps Try.f47.results.toList annref30_has bref30_has (argsref30_has a) [] (fun v _ => some (v, [])) = fnref30_has a (fun y => some (rendref30_has a y, [])) := by kernel_rfl
def vFref30_has (a : Aref30_has) (K : AV → Ans) : Ans := bindO (fnDref30_has a) fun y => K (rendref30_has a y)
def Fref30_has : List AV → (AV → Ans) → Ans := fun l K => bindO (decAref30_has l) fun a => vFref30_has a K
theorem Fref30_has_ok : PureOk Try.prog 47 Fref30_has := pure_mkD (hint := noHint) (d := 0) (n := 70) mixed tabOk envref30_hasOk Try.func47 (bodySome (by kernel_rfl)) (by decide +kernel) annref30_has_ok decAref30_has_ok fnref30_has_ok fnref30_has_nat rendref30_has_ok
--@ ref30_Set_Waits
noncomputable def envref30_Set_Waits : Env := [(47, .pure Fref30_has)]
theorem envref30_Set_WaitsOk : EnvOk Try.prog envref30_Set_Waits := EnvOk.cons Fref30_has_ok (EnvOk.nil)
noncomputable def bref30_Set_Waits : Code := Try.f39.body.getD .skip
noncomputable def Lref30_Set_Waits_n0 : Code := codeAt [1, 0, 1, 0, 0] bref30_Set_Waits
noncomputable def annLref30_Set_Waits_n0 : Ann := .at 2 [0, 1, 5] (.loop .none)
theorem annLref30_Set_Waits_n0_ok : AnnOk Try.prog 25 (.loop Lref30_Set_Waits_n0) annLref30_Set_Waits_n0 := annOk_at (annOk_none _ _ _)
abbrev Iref30_Set_Waits_n0 := (Int) × (Int) × (List (Int × List Int))
abbrev Yref30_Set_Waits_n0 := (Unit) ⊕ (Unit)
abbrev Vref30_Set_Waits_n0 := (Int)
def Sref30_Set_Waits_n0 : Iref30_Set_Waits_n0 → Vref30_Set_Waits_n0 → St := fun (t1, o0_1, o1) t5 => { env := [(0, AV.ptr 0 0), (1, AV.int IntKind.i64 t1), (5, AV.int IntKind.i64 t5)], stk := [[(0, AV.ptr 0 0)]], H := [AE.Obj.cells [AV.own 1, AV.int IntKind.i64 o0_1], Obj.arr (Ty.st (Ty.pair (Ty.int IntKind.i64) (Ty.list (Ty.int IntKind.i64)))) o1], blk := 159744 }
def decref30_Set_Waits_n0 (s : St) : Option (Iref30_Set_Waits_n0 × Vref30_Set_Waits_n0) := match s with
  | { env := [(0, AV.ptr 0 0), (1, AV.int IntKind.i64 t1), (5, AV.int IntKind.i64 t5)], stk := [[(0, AV.ptr 0 0)]], H := [AE.Obj.cells [AV.own 1, AV.int IntKind.i64 o0_1], Obj.arr (Ty.st (Ty.pair (Ty.int IntKind.i64) (Ty.list (Ty.int IntKind.i64)))) o1], blk := 159744 } => some ((t1, o0_1, o1), t5)
  | _ => none
theorem decref30_Set_Waits_n0_ok (s : St) (x : Iref30_Set_Waits_n0 × Vref30_Set_Waits_n0) (h : decref30_Set_Waits_n0 s = some x) : s = Sref30_Set_Waits_n0 x.1 x.2 := by
  unfold decref30_Set_Waits_n0 at h
  split at h
  · cases h; rfl
  · cases h
def outref30_Set_Waits_n0 : Iref30_Set_Waits_n0 → (Ex → St → Ans) → Yref30_Set_Waits_n0 → Ans := fun (t1, o0_1, o1) K => (Sum.elim (fun _ => K (Ex.ret) { env := [(4, AV.bool (true))], stk := [[(0, AV.ptr 0 0)]], H := [AE.Obj.cells [AV.own 1, AV.int IntKind.i64 o0_1], Obj.arr (Ty.st (Ty.pair (Ty.int IntKind.i64) (Ty.list (Ty.int IntKind.i64)))) o1], blk := 159745 }) (fun _ => K (Ex.exit 0) { env := [], stk := [[(0, AV.ptr 0 0)]], H := [AE.Obj.cells [AV.own 1, AV.int IntKind.i64 o0_1], Obj.arr (Ty.st (Ty.pair (Ty.int IntKind.i64) (Ty.list (Ty.int IntKind.i64)))) o1], blk := 159744 }))
def stepref30_Set_Waits_n0 {β : Type} : Iref30_Set_Waits_n0 → Vref30_Set_Waits_n0 → (Vref30_Set_Waits_n0 → Option β) → (Yref30_Set_Waits_n0 → Option β) → Option β := fun (t1, o0_1, o1) t5 next exit => (bif decide (t5 < (↑(List.length o1) : Int)) then (bif inR t5 (List.length o1) then (bindO (o1[Int.toNat t5]?) fun x => (bindO (fnDref30_has (x.snd, t1)) fun r => (bif r then (exit (Sum.inl ())) else (next (IntKind.wrap IntKind.i64 (t5 + (1 : Int))))))) else none) else (exit (Sum.inr ())))
def stepDref30_Set_Waits_n0 (i : Iref30_Set_Waits_n0) (v : Vref30_Set_Waits_n0) : Option (Vref30_Set_Waits_n0 ⊕ Yref30_Set_Waits_n0) := stepref30_Set_Waits_n0 i v (fun v => some (.inl v)) (fun y => some (.inr y))
theorem stepref30_Set_Waits_n0_nat (i : Iref30_Set_Waits_n0) (v : Vref30_Set_Waits_n0) (next : Vref30_Set_Waits_n0 → Ans) (exit : Yref30_Set_Waits_n0 → Ans) : stepref30_Set_Waits_n0 i v next exit = bindO (stepDref30_Set_Waits_n0 i v) (Sum.elim next exit) := by
  obtain ⟨t1, o0_1, o1⟩ := i
  obtain z := v
  simp only [stepDref30_Set_Waits_n0, stepref30_Set_Waits_n0, bindO_cond, bindO_assoc, bindO_none, bindO_pure, bindO_elim, bindO_unP, Sum.elim_inl, Sum.elim_inr]
theorem stepref30_Set_Waits_n0_ok (n : Nat) (i : Iref30_Set_Waits_n0) (v : Vref30_Set_Waits_n0) (K : Ex → St → Ans) : codeI Try.tab envref30_Set_Waits noHint (codeD Try.tab envref30_Set_Waits noHint 0 64) (n+1) 25 annLref30_Set_Waits_n0 (.loop Lref30_Set_Waits_n0) (weakP 2 (exk [] [4] [(0, [])]) K) (Sref30_Set_Waits_n0 i v) = stepref30_Set_Waits_n0 i v (fun v' => codeI Try.tab envref30_Set_Waits noHint (codeD Try.tab envref30_Set_Waits noHint 0 64) n 25 annLref30_Set_Waits_n0 (.loop Lref30_Set_Waits_n0) (weakP 2 (exk [] [4] [(0, [])]) K) (Sref30_Set_Waits_n0 i v')) (fun y => outref30_Set_Waits_n0 i K y) := by kernel_rfl
theorem GNref30_Set_Waits_n0_ok : CSum Try.prog 25 (.loop Lref30_Set_Waits_n0) (sumL decref30_Set_Waits_n0 stepDref30_Set_Waits_n0 outref30_Set_Waits_n0) := csum_loop mixed tabOk envref30_Set_WaitsOk 2 (exk [] [4] [(0, [])]) annLref30_Set_Waits_n0_ok decref30_Set_Waits_n0_ok stepref30_Set_Waits_n0_ok stepref30_Set_Waits_n0_nat
noncomputable def Gref30_Set_Waits_n0 : (Ex → St → Ans) → St → Ans := (sumL decref30_Set_Waits_n0 stepDref30_Set_Waits_n0 outref30_Set_Waits_n0)
theorem Gref30_Set_Waits_n0_ok : CSum Try.prog 25 (.loop Lref30_Set_Waits_n0) Gref30_Set_Waits_n0 := GNref30_Set_Waits_n0_ok
noncomputable def annref30_Set_Waits : Ann := (.seq .none (.seq (.seq .none (.block (.cut 2 [0, 1, 5] Gref30_Set_Waits_n0))) .none))
theorem annref30_Set_Waits_ok : AnnOk Try.prog 25 bref30_Set_Waits annref30_Set_Waits := ⟨(annOk_none _ _ _), ⟨⟨(annOk_none _ _ _), Gref30_Set_Waits_n0_ok⟩, (annOk_none _ _ _)⟩⟩
abbrev Aref30_Set_Waits := (Int) × (Int) × (List (Int × List Int))
abbrev Yref30_Set_Waits := (Bool)
def fnref30_Set_Waits {β : Type} : Aref30_Set_Waits → (Yref30_Set_Waits → Option β) → Option β := fun (a1, o0_1, o1) exit => (bindO (loopD (stepDref30_Set_Waits_n0 (a1, o0_1, o1)) FUEL ((0 : Int))) (Sum.elim (fun _ => (exit (true))) (fun _ => (exit (false)))))
def fnDref30_Set_Waits (a : Aref30_Set_Waits) : Option Yref30_Set_Waits := fnref30_Set_Waits a some
theorem fnref30_Set_Waits_nat (a : Aref30_Set_Waits) (k : Yref30_Set_Waits → Ans) : fnref30_Set_Waits a k = bindO (fnDref30_Set_Waits a) k := by
  obtain ⟨a1, o0_1, o1⟩ := a
  simp only [fnDref30_Set_Waits, fnref30_Set_Waits, bindO_cond, bindO_assoc, bindO_none, bindO_pure, bindO_elim, bindO_unP]
def argsref30_Set_Waits : Aref30_Set_Waits → List AV × List AE.Obj := fun (a1, o0_1, o1) => ([AV.ptr 0 0, AV.int IntKind.i64 a1], [AE.Obj.cells [AV.own 1, AV.int IntKind.i64 o0_1], Obj.arr (Ty.st (Ty.pair (Ty.int IntKind.i64) (Ty.list (Ty.int IntKind.i64)))) o1])
def decAref30_Set_Waits (l : List AV) (H : List AE.Obj) : Option Aref30_Set_Waits := match l, H with
  | [AV.ptr 0 0, AV.int IntKind.i64 a1], [AE.Obj.cells [AV.own 1, AV.int IntKind.i64 o0_1], Obj.arr (Ty.st (Ty.pair (Ty.int IntKind.i64) (Ty.list (Ty.int IntKind.i64)))) o1] => some (a1, o0_1, o1)
  | _, _ => none
theorem decAref30_Set_Waits_ok (l : List AV) (H : List AE.Obj) (a : Aref30_Set_Waits) (h : decAref30_Set_Waits l H = some a) : (l, H) = argsref30_Set_Waits a := by
  unfold decAref30_Set_Waits at h
  split at h
  · cases h; rfl
  · cases h
def outref30_Set_Waits : Aref30_Set_Waits → (AV → List AE.Obj → Ans) → Yref30_Set_Waits → Ans := fun (a1, o0_1, o1) K => fun r_y => K (AV.bool r_y) [AE.Obj.cells [AV.own 1, AV.int IntKind.i64 o0_1], Obj.arr (Ty.st (Ty.pair (Ty.int IntKind.i64) (Ty.list (Ty.int IntKind.i64)))) o1]
theorem fnref30_Set_Waits_ok (a : Aref30_Set_Waits) (K : AV → List AE.Obj → Ans) : fnE Try.tab envref30_Set_Waits noHint 0 70 39 Try.f39.ntmps Try.f39.results.toList annref30_Set_Waits bref30_Set_Waits (argsref30_Set_Waits a).1 (argsref30_Set_Waits a).2 K = fnref30_Set_Waits a (outref30_Set_Waits a K) := by kernel_rfl
def vFref30_Set_Waits (a : Aref30_Set_Waits) (K : AV → List AE.Obj → Ans) : Ans := bindO (fnDref30_Set_Waits a) fun y => outref30_Set_Waits a K y
def Fref30_Set_Waits : List AV → List AE.Obj → (AV → List AE.Obj → Ans) → Ans := fun l H K => bindO (decAref30_Set_Waits l H) fun a => vFref30_Set_Waits a K
theorem Fref30_Set_Waits_ok : FuncOk Try.prog 39 Fref30_Set_Waits := func_mkD (hint := noHint) (d := 0) (n := 70) mixed tabOk envref30_Set_WaitsOk Try.func39 (bodySome (by kernel_rfl)) (by decide +kernel) annref30_Set_Waits_ok decAref30_Set_Waits_ok fnref30_Set_Waits_ok fnref30_Set_Waits_nat
--@ pending_Set_int_Len_2
noncomputable def envpending_Set_int_Len_2 : Env := []
theorem envpending_Set_int_Len_2Ok : EnvOk Try.prog envpending_Set_int_Len_2 := EnvOk.nil
noncomputable def bpending_Set_int_Len_2 : Code := Try.f37.body.getD .skip
noncomputable def annpending_Set_int_Len_2 : Ann := .none
theorem annpending_Set_int_Len_2_ok : AnnOk Try.prog 10 bpending_Set_int_Len_2 annpending_Set_int_Len_2 := (annOk_none _ _ _)
abbrev Apending_Set_int_Len_2 := Unit
abbrev Ypending_Set_int_Len_2 := Unit
def fnpending_Set_int_Len_2 {β : Type} : Apending_Set_int_Len_2 → (Ypending_Set_int_Len_2 → Option β) → Option β := fun _ exit => (exit ())
def fnDpending_Set_int_Len_2 (a : Apending_Set_int_Len_2) : Option Ypending_Set_int_Len_2 := fnpending_Set_int_Len_2 a some
theorem fnpending_Set_int_Len_2_nat (a : Apending_Set_int_Len_2) (k : Ypending_Set_int_Len_2 → Ans) : fnpending_Set_int_Len_2 a k = bindO (fnDpending_Set_int_Len_2 a) k := by
  obtain z := a
  simp only [fnDpending_Set_int_Len_2, fnpending_Set_int_Len_2, bindO_cond, bindO_assoc, bindO_none, bindO_pure, bindO_elim, bindO_unP]
def argspending_Set_int_Len_2 : Apending_Set_int_Len_2 → List AV × List AE.Obj := fun _ => ([AV.nilp], [])
def decApending_Set_int_Len_2 (l : List AV) (H : List AE.Obj) : Option Apending_Set_int_Len_2 := match l, H with
  | [AV.nilp], [] => some ()
  | _, _ => none
theorem decApending_Set_int_Len_2_ok (l : List AV) (H : List AE.Obj) (a : Apending_Set_int_Len_2) (h : decApending_Set_int_Len_2 l H = some a) : (l, H) = argspending_Set_int_Len_2 a := by
  unfold decApending_Set_int_Len_2 at h
  split at h
  · cases h; rfl
  · cases h
def outpending_Set_int_Len_2 : Apending_Set_int_Len_2 → (AV → List AE.Obj → Ans) → Ypending_Set_int_Len_2 → Ans := fun _ K => fun _ => K (AV.int IntKind.i64 (0)) []
theorem fnpending_Set_int_Len_2_ok (a : Apending_Set_int_Len_2) (K : AV → List AE.Obj → Ans) : fnE Try.tab envpending_Set_int_Len_2 noHint 0 70 37 Try.f37.ntmps Try.f37.results.toList annpending_Set_int_Len_2 bpending_Set_int_Len_2 (argspending_Set_int_Len_2 a).1 (argspending_Set_int_Len_2 a).2 K = fnpending_Set_int_Len_2 a (outpending_Set_int_Len_2 a K) := by kernel_rfl
def vFpending_Set_int_Len_2 (a : Apending_Set_int_Len_2) (K : AV → List AE.Obj → Ans) : Ans := bindO (fnDpending_Set_int_Len_2 a) fun y => outpending_Set_int_Len_2 a K y
def Fpending_Set_int_Len_2 : List AV → List AE.Obj → (AV → List AE.Obj → Ans) → Ans := fun l H K => bindO (decApending_Set_int_Len_2 l H) fun a => vFpending_Set_int_Len_2 a K
theorem Fpending_Set_int_Len_2_ok : FuncOk Try.prog 37 Fpending_Set_int_Len_2 := func_mkD (hint := noHint) (d := 0) (n := 70) mixed tabOk envpending_Set_int_Len_2Ok Try.func37 (bodySome (by kernel_rfl)) (by decide +kernel) annpending_Set_int_Len_2_ok decApending_Set_int_Len_2_ok fnpending_Set_int_Len_2_ok fnpending_Set_int_Len_2_nat
--@ pending_Set_int_Waits_2
noncomputable def envpending_Set_int_Waits_2 : Env := []
theorem envpending_Set_int_Waits_2Ok : EnvOk Try.prog envpending_Set_int_Waits_2 := EnvOk.nil
noncomputable def bpending_Set_int_Waits_2 : Code := Try.f38.body.getD .skip
noncomputable def annpending_Set_int_Waits_2 : Ann := .none
theorem annpending_Set_int_Waits_2_ok : AnnOk Try.prog 23 bpending_Set_int_Waits_2 annpending_Set_int_Waits_2 := (annOk_none _ _ _)
abbrev Apending_Set_int_Waits_2 := (Int)
abbrev Ypending_Set_int_Waits_2 := Unit
def fnpending_Set_int_Waits_2 {β : Type} : Apending_Set_int_Waits_2 → (Ypending_Set_int_Waits_2 → Option β) → Option β := fun a1 exit => (exit ())
def fnDpending_Set_int_Waits_2 (a : Apending_Set_int_Waits_2) : Option Ypending_Set_int_Waits_2 := fnpending_Set_int_Waits_2 a some
theorem fnpending_Set_int_Waits_2_nat (a : Apending_Set_int_Waits_2) (k : Ypending_Set_int_Waits_2 → Ans) : fnpending_Set_int_Waits_2 a k = bindO (fnDpending_Set_int_Waits_2 a) k := by
  obtain z := a
  simp only [fnDpending_Set_int_Waits_2, fnpending_Set_int_Waits_2, bindO_cond, bindO_assoc, bindO_none, bindO_pure, bindO_elim, bindO_unP]
def argspending_Set_int_Waits_2 : Apending_Set_int_Waits_2 → List AV × List AE.Obj := fun a1 => ([AV.nilp, AV.int IntKind.i64 a1], [])
def decApending_Set_int_Waits_2 (l : List AV) (H : List AE.Obj) : Option Apending_Set_int_Waits_2 := match l, H with
  | [AV.nilp, AV.int IntKind.i64 a1], [] => some (a1)
  | _, _ => none
theorem decApending_Set_int_Waits_2_ok (l : List AV) (H : List AE.Obj) (a : Apending_Set_int_Waits_2) (h : decApending_Set_int_Waits_2 l H = some a) : (l, H) = argspending_Set_int_Waits_2 a := by
  unfold decApending_Set_int_Waits_2 at h
  split at h
  · cases h; rfl
  · cases h
def outpending_Set_int_Waits_2 : Apending_Set_int_Waits_2 → (AV → List AE.Obj → Ans) → Ypending_Set_int_Waits_2 → Ans := fun a1 K => fun _ => K (AV.bool (false)) []
theorem fnpending_Set_int_Waits_2_ok (a : Apending_Set_int_Waits_2) (K : AV → List AE.Obj → Ans) : fnE Try.tab envpending_Set_int_Waits_2 noHint 0 70 38 Try.f38.ntmps Try.f38.results.toList annpending_Set_int_Waits_2 bpending_Set_int_Waits_2 (argspending_Set_int_Waits_2 a).1 (argspending_Set_int_Waits_2 a).2 K = fnpending_Set_int_Waits_2 a (outpending_Set_int_Waits_2 a K) := by kernel_rfl
def vFpending_Set_int_Waits_2 (a : Apending_Set_int_Waits_2) (K : AV → List AE.Obj → Ans) : Ans := bindO (fnDpending_Set_int_Waits_2 a) fun y => outpending_Set_int_Waits_2 a K y
def Fpending_Set_int_Waits_2 : List AV → List AE.Obj → (AV → List AE.Obj → Ans) → Ans := fun l H K => bindO (decApending_Set_int_Waits_2 l H) fun a => vFpending_Set_int_Waits_2 a K
theorem Fpending_Set_int_Waits_2_ok : FuncOk Try.prog 38 Fpending_Set_int_Waits_2 := func_mkD (hint := noHint) (d := 0) (n := 70) mixed tabOk envpending_Set_int_Waits_2Ok Try.func38 (bodySome (by kernel_rfl)) (by decide +kernel) annpending_Set_int_Waits_2_ok decApending_Set_int_Waits_2_ok fnpending_Set_int_Waits_2_ok fnpending_Set_int_Waits_2_nat
--@ law30_PendingDoes
noncomputable def envlaw30_PendingDoes : Env := [(29, .func Fpending_New_int), (30, .func (altF decApending_Set_int_Add vFpending_Set_int_Add Fpending_Set_int_Add_2)), (33, .func (altF decApending_Set_int_Done vFpending_Set_int_Done Fpending_Set_int_Done_2)), (32, .pure Flaw30_Same), (37, .func (altF decApending_Set_int_Len vFpending_Set_int_Len Fpending_Set_int_Len_2)), (21, .pure Flaw30_works), (28, .pure Flaw30_great), (31, .func Fref30_Set_Add), (34, .func Fref30_Set_Done), (35, .func (altF decApending_Set_int_Alone vFpending_Set_int_Alone Fpending_Set_int_Alone_2)), (36, .func Fref30_Set_Alone), (38, .func (altF decApending_Set_int_Waits vFpending_Set_int_Waits Fpending_Set_int_Waits_2)), (39, .func Fref30_Set_Waits)]
theorem envlaw30_PendingDoesOk : EnvOk Try.prog envlaw30_PendingDoes := EnvOk.cons Fpending_New_int_ok (EnvOk.cons (func_altF Fpending_Set_int_Add_ok Fpending_Set_int_Add_2_ok) (EnvOk.cons (func_altF Fpending_Set_int_Done_ok Fpending_Set_int_Done_2_ok) (EnvOk.cons Flaw30_Same_ok (EnvOk.cons (func_altF Fpending_Set_int_Len_ok Fpending_Set_int_Len_2_ok) (EnvOk.cons Flaw30_works_ok (EnvOk.cons Flaw30_great_ok (EnvOk.cons Fref30_Set_Add_ok (EnvOk.cons Fref30_Set_Done_ok (EnvOk.cons (func_altF Fpending_Set_int_Alone_ok Fpending_Set_int_Alone_2_ok) (EnvOk.cons Fref30_Set_Alone_ok (EnvOk.cons (func_altF Fpending_Set_int_Waits_ok Fpending_Set_int_Waits_2_ok) (EnvOk.cons Fref30_Set_Waits_ok (EnvOk.nil)))))))))))))
noncomputable def blaw30_PendingDoes : Code := Try.f6.body.getD .skip
noncomputable def Llaw30_PendingDoes_n5 : Code := codeAt [1, 1, 1, 1, 1, 0, 1, 0, 0, 1, 0, 0, 1, 1, 1, 0] blaw30_PendingDoes
noncomputable def annLlaw30_PendingDoes_n5 : Ann := .none
theorem annLlaw30_PendingDoes_n5_ok : AnnOk Try.prog 137 Llaw30_PendingDoes_n5 annLlaw30_PendingDoes_n5 := (annOk_none _ _ _)
abbrev Ilaw30_PendingDoes_n5 := (List (Int × Int × List Int)) × (Int) × (Bool) × (Int) × (Int) × (Int) × (Int) × (List Int) × (List (Int × List Int)) × (List (Int × List Int))
abbrev Ylaw30_PendingDoes_n5 := (Bool)
def Slaw30_PendingDoes_n5 : Ilaw30_PendingDoes_n5 → St := fun (t0, t6, t8, o0_1, o1_1, o2_0, o2_1, o2_2, o3, o4) => { env := [(0, AV.ro (Ty.st (Ty.pair (Ty.int IntKind.i64) (Ty.pair (Ty.int IntKind.i64) (Ty.list (Ty.int IntKind.i64))))) t0), (3, AV.ptr 0 0), (4, AV.ptr 1 0), (5, AV.nilp), (6, AV.int IntKind.i64 t6), (7, AV.ptr 2 0), (8, AV.bool t8)], stk := [[]], H := [AE.Obj.cells [AV.own 3, AV.int IntKind.i64 o0_1], AE.Obj.cells [AV.own 4, AV.int IntKind.i64 o1_1], AE.Obj.cells [AV.int IntKind.i64 o2_0, AV.int IntKind.i64 o2_1, AV.ro (Ty.int IntKind.i64) o2_2], Obj.arr (Ty.st (Ty.pair (Ty.int IntKind.i64) (Ty.list (Ty.int IntKind.i64)))) o3, Obj.arr (Ty.st (Ty.pair (Ty.int IntKind.i64) (Ty.list (Ty.int IntKind.i64)))) o4], blk := 24578 }
def declaw30_PendingDoes_n5 (s : St) : Option Ilaw30_PendingDoes_n5 := match s with
  | { env := [(0, AV.ro (Ty.st (Ty.pair (Ty.int IntKind.i64) (Ty.pair (Ty.int IntKind.i64) (Ty.list (Ty.int IntKind.i64))))) t0), (3, AV.ptr 0 0), (4, AV.ptr 1 0), (5, AV.nilp), (6, AV.int IntKind.i64 t6), (7, AV.ptr 2 0), (8, AV.bool t8)], stk := [[]], H := [AE.Obj.cells [AV.own 3, AV.int IntKind.i64 o0_1], AE.Obj.cells [AV.own 4, AV.int IntKind.i64 o1_1], AE.Obj.cells [AV.int IntKind.i64 o2_0, AV.int IntKind.i64 o2_1, AV.ro (Ty.int IntKind.i64) o2_2], Obj.arr (Ty.st (Ty.pair (Ty.int IntKind.i64) (Ty.list (Ty.int IntKind.i64)))) o3, Obj.arr (Ty.st (Ty.pair (Ty.int IntKind.i64) (Ty.list (Ty.int IntKind.i64)))) o4], blk := 24578 } => some (t0, t6, t8, o0_1, o1_1, o2_0, o2_1, o2_2, o3, o4)
  | _ => none
theorem declaw30_PendingDoes_n5_ok (s : St) (x : Ilaw30_PendingDoes_n5) (h : declaw30_PendingDoes_n5 s = some x) : s = Slaw30_PendingDoes_n5 x := by
  unfold declaw30_PendingDoes_n5 at h
  split at h
  · cases h; rfl
  · cases h
def outlaw30_PendingDoes_n5 : Ilaw30_PendingDoes_n5 → (Ex → St → Ans) → Ylaw30_PendingDoes_n5 → Ans := fun (t0, t6, t8, o0_1, o1_1, o2_0, o2_1, o2_2, o3, o4) K => fun t136_y => K (Ex.norm) { env := [(0, AV.ro (Ty.st (Ty.pair (Ty.int IntKind.i64) (Ty.pair (Ty.int IntKind.i64) (Ty.list (Ty.int IntKind.i64))))) t0), (3, AV.ptr 0 0), (4, AV.ptr 1 0), (5, AV.nilp), (6, AV.int IntKind.i64 t6), (136, AV.bool t136_y)], stk := [[]], H := [AE.Obj.cells [AV.own 2, AV.int IntKind.i64 o0_1], AE.Obj.cells [AV.own 3, AV.int IntKind.i64 o1_1], Obj.arr (Ty.st (Ty.pair (Ty.int IntKind.i64) (Ty.list (Ty.int IntKind.i64)))) o3, Obj.arr (Ty.st (Ty.pair (Ty.int IntKind.i64) (Ty.list (Ty.int IntKind.i64)))) o4], blk := 24578 }
def nodelaw30_PendingDoes_n5 {β : Type} : Ilaw30_PendingDoes_n5 → (Ylaw30_PendingDoes_n5 → Option β) → Option β := fun (t0, t6, t8, o0_1, o1_1, o2_0, o2_1, o2_2, o3, o4) exit => (bif !t8 then (exit (true)) else (bindO (fnDpending_Set_int_Len (o0_1, o3)) fun r => (bif r != (↑(List.length o4) : Int) then (exit (true)) else (bindO (fnDpending_Set_int_Waits (o2_1, o0_1, o3)) fun r_2 => (bindO (fnDref30_Set_Waits (o2_1, o1_1, o4)) fun r_3 => (bif !r_2 == r_3 then (exit (true)) else (bindO (fnDpending_Set_int_Len_2 ()) fun _ => (bindO (fnDpending_Set_int_Waits_2 (o2_1)) fun _ => (exit (false))))))))))
def nodeDlaw30_PendingDoes_n5 (i : Ilaw30_PendingDoes_n5) : Option Ylaw30_PendingDoes_n5 := nodelaw30_PendingDoes_n5 i some
theorem nodelaw30_PendingDoes_n5_nat (i : Ilaw30_PendingDoes_n5) (k : Ylaw30_PendingDoes_n5 → Ans) : nodelaw30_PendingDoes_n5 i k = bindO (nodeDlaw30_PendingDoes_n5 i) k := by
  obtain ⟨t0, t6, t8, o0_1, o1_1, o2_0, o2_1, o2_2, o3, o4⟩ := i
  simp only [nodeDlaw30_PendingDoes_n5, nodelaw30_PendingDoes_n5, bindO_cond, bindO_assoc, bindO_none, bindO_pure, bindO_elim, bindO_unP]
theorem nodelaw30_PendingDoes_n5_ok (i : Ilaw30_PendingDoes_n5) (K : Ex → St → Ans) : codeI Try.tab envlaw30_PendingDoes noHint (codeD Try.tab envlaw30_PendingDoes noHint 0 64) 70 137 annLlaw30_PendingDoes_n5 Llaw30_PendingDoes_n5 (weakP 0 (exk [0, 3, 4, 5, 6, 136] [2] []) K) (Slaw30_PendingDoes_n5 i) = nodelaw30_PendingDoes_n5 i (outlaw30_PendingDoes_n5 i K) := by kernel_rfl
theorem GNlaw30_PendingDoes_n5_ok : CSum Try.prog 137 Llaw30_PendingDoes_n5 (sumN declaw30_PendingDoes_n5 nodeDlaw30_PendingDoes_n5 outlaw30_PendingDoes_n5) := csum_node mixed tabOk envlaw30_PendingDoesOk 0 (exk [0, 3, 4, 5, 6, 136] [2] []) annLlaw30_PendingDoes_n5_ok declaw30_PendingDoes_n5_ok nodelaw30_PendingDoes_n5_ok nodelaw30_PendingDoes_n5_nat
noncomputable def Glaw30_PendingDoes_n5 : (Ex → St → Ans) → St → Ans := (sumN declaw30_PendingDoes_n5 nodeDlaw30_PendingDoes_n5 outlaw30_PendingDoes_n5)
theorem Glaw30_PendingDoes_n5_ok : CSum Try.prog 137 Llaw30_PendingDoes_n5 Glaw30_PendingDoes_n5 := GNlaw30_PendingDoes_n5_ok
noncomputable def Llaw30_PendingDoes_n4 : Code := codeAt [1, 1, 1, 1, 1, 0, 1, 0, 0, 1, 0, 0, 1, 1, 0, 1, 0, 1, 1, 0, 1] blaw30_PendingDoes
noncomputable def annLlaw30_PendingDoes_n4 : Ann := .none
theorem annLlaw30_PendingDoes_n4_ok : AnnOk Try.prog 137 Llaw30_PendingDoes_n4 annLlaw30_PendingDoes_n4 := (annOk_none _ _ _)
abbrev Ilaw30_PendingDoes_n4 := (List (Int × Int × List Int)) × (Int) × (Int) × (Bool) × (Int) × (Int) × (Int) × (Int) × (List Int) × (List (Int × List Int)) × (List (Int × List Int))
abbrev Ylaw30_PendingDoes_n4 := (Bool)
def Slaw30_PendingDoes_n4 : Ilaw30_PendingDoes_n4 → St := fun (t0, t6, t33, t70, o0_1, o1_1, o2_0, o2_1, o2_2, o3, o4) => { env := [(0, AV.ro (Ty.st (Ty.pair (Ty.int IntKind.i64) (Ty.pair (Ty.int IntKind.i64) (Ty.list (Ty.int IntKind.i64))))) t0), (3, AV.ptr 0 0), (4, AV.ptr 1 0), (5, AV.nilp), (6, AV.int IntKind.i64 t6), (7, AV.ptr 2 0), (8, AV.bool (true)), (33, AV.int IntKind.i64 t33), (70, AV.bool t70)], stk := [[]], H := [AE.Obj.cells [AV.own 3, AV.int IntKind.i64 o0_1], AE.Obj.cells [AV.own 4, AV.int IntKind.i64 o1_1], AE.Obj.cells [AV.int IntKind.i64 o2_0, AV.int IntKind.i64 o2_1, AV.ro (Ty.int IntKind.i64) o2_2], Obj.arr (Ty.st (Ty.pair (Ty.int IntKind.i64) (Ty.list (Ty.int IntKind.i64)))) o3, Obj.arr (Ty.st (Ty.pair (Ty.int IntKind.i64) (Ty.list (Ty.int IntKind.i64)))) o4], blk := 24578 }
def declaw30_PendingDoes_n4 (s : St) : Option Ilaw30_PendingDoes_n4 := match s with
  | { env := [(0, AV.ro (Ty.st (Ty.pair (Ty.int IntKind.i64) (Ty.pair (Ty.int IntKind.i64) (Ty.list (Ty.int IntKind.i64))))) t0), (3, AV.ptr 0 0), (4, AV.ptr 1 0), (5, AV.nilp), (6, AV.int IntKind.i64 t6), (7, AV.ptr 2 0), (8, AV.bool r2), (33, AV.int IntKind.i64 t33), (70, AV.bool t70)], stk := [[]], H := [AE.Obj.cells [AV.own 3, AV.int IntKind.i64 o0_1], AE.Obj.cells [AV.own 4, AV.int IntKind.i64 o1_1], AE.Obj.cells [AV.int IntKind.i64 o2_0, AV.int IntKind.i64 o2_1, AV.ro (Ty.int IntKind.i64) o2_2], Obj.arr (Ty.st (Ty.pair (Ty.int IntKind.i64) (Ty.list (Ty.int IntKind.i64)))) o3, Obj.arr (Ty.st (Ty.pair (Ty.int IntKind.i64) (Ty.list (Ty.int IntKind.i64)))) o4], blk := 24578 } => cond (decide (r2 = true)) (some (t0, t6, t33, t70, o0_1, o1_1, o2_0, o2_1, o2_2, o3, o4)) none
  | _ => none
theorem declaw30_PendingDoes_n4_ok (s : St) (x : Ilaw30_PendingDoes_n4) (h : declaw30_PendingDoes_n4 s = some x) : s = Slaw30_PendingDoes_n4 x := by
  unfold declaw30_PendingDoes_n4 at h
  split at h
  · replace h := cond_noneO h; obtain ⟨hg, h⟩ := h; simp only [Bool.and_eq_true, decide_eq_true_eq] at hg; simp only [hg]; cases h; rfl
  · cases h
def outlaw30_PendingDoes_n4 : Ilaw30_PendingDoes_n4 → (Ex → St → Ans) → Ylaw30_PendingDoes_n4 → Ans := fun (t0, t6, t33, t70, o0_1, o1_1, o2_0, o2_1, o2_2, o3, o4) K => fun t70_y => K (Ex.norm) { env := [(0, AV.ro (Ty.st (Ty.pair (Ty.int IntKind.i64) (Ty.pair (Ty.int IntKind.i64) (Ty.list (Ty.int IntKind.i64))))) t0), (3, AV.ptr 0 0), (4, AV.ptr 1 0), (5, AV.nilp), (6, AV.int IntKind.i64 t6), (7, AV.ptr 2 0), (8, AV.bool (true)), (33, AV.int IntKind.i64 t33), (70, AV.bool t70_y)], stk := [[]], H := [AE.Obj.cells [AV.own 3, AV.int IntKind.i64 o0_1], AE.Obj.cells [AV.own 4, AV.int IntKind.i64 o1_1], AE.Obj.cells [AV.int IntKind.i64 o2_0, AV.int IntKind.i64 o2_1, AV.ro (Ty.int IntKind.i64) o2_2], Obj.arr (Ty.st (Ty.pair (Ty.int IntKind.i64) (Ty.list (Ty.int IntKind.i64)))) o3, Obj.arr (Ty.st (Ty.pair (Ty.int IntKind.i64) (Ty.list (Ty.int IntKind.i64)))) o4], blk := 24578 }
def nodelaw30_PendingDoes_n4 {β : Type} : Ilaw30_PendingDoes_n4 → (Ylaw30_PendingDoes_n4 → Option β) → Option β := fun (t0, t6, t33, t70, o0_1, o1_1, o2_0, o2_1, o2_2, o3, o4) exit => (bif t70 then (exit (t70)) else (exit (t33 == (3 : Int))))
def nodeDlaw30_PendingDoes_n4 (i : Ilaw30_PendingDoes_n4) : Option Ylaw30_PendingDoes_n4 := nodelaw30_PendingDoes_n4 i some
theorem nodelaw30_PendingDoes_n4_nat (i : Ilaw30_PendingDoes_n4) (k : Ylaw30_PendingDoes_n4 → Ans) : nodelaw30_PendingDoes_n4 i k = bindO (nodeDlaw30_PendingDoes_n4 i) k := by
  obtain ⟨t0, t6, t33, t70, o0_1, o1_1, o2_0, o2_1, o2_2, o3, o4⟩ := i
  simp only [nodeDlaw30_PendingDoes_n4, nodelaw30_PendingDoes_n4, bindO_cond, bindO_assoc, bindO_none, bindO_pure, bindO_elim, bindO_unP]
theorem nodelaw30_PendingDoes_n4_ok (i : Ilaw30_PendingDoes_n4) (K : Ex → St → Ans) : codeI Try.tab envlaw30_PendingDoes noHint (codeD Try.tab envlaw30_PendingDoes noHint 0 64) 70 137 annLlaw30_PendingDoes_n4 Llaw30_PendingDoes_n4 (weakP 0 (exk [0, 3, 4, 5, 6, 7, 8, 33, 70] [2] []) K) (Slaw30_PendingDoes_n4 i) = nodelaw30_PendingDoes_n4 i (outlaw30_PendingDoes_n4 i K) := by kernel_rfl
theorem GNlaw30_PendingDoes_n4_ok : CSum Try.prog 137 Llaw30_PendingDoes_n4 (sumN declaw30_PendingDoes_n4 nodeDlaw30_PendingDoes_n4 outlaw30_PendingDoes_n4) := csum_node mixed tabOk envlaw30_PendingDoesOk 0 (exk [0, 3, 4, 5, 6, 7, 8, 33, 70] [2] []) annLlaw30_PendingDoes_n4_ok declaw30_PendingDoes_n4_ok nodelaw30_PendingDoes_n4_ok nodelaw30_PendingDoes_n4_nat
noncomputable def Glaw30_PendingDoes_n4 : (Ex → St → Ans) → St → Ans := (sumN declaw30_PendingDoes_n4 nodeDlaw30_PendingDoes_n4 outlaw30_PendingDoes_n4)
theorem Glaw30_PendingDoes_n4_ok : CSum Try.prog 137 Llaw30_PendingDoes_n4 Glaw30_PendingDoes_n4 := GNlaw30_PendingDoes_n4_ok
noncomputable def Llaw30_PendingDoes_n3 : Code := codeAt [1, 1, 1, 1, 1, 0, 1, 0, 0, 1, 0, 0, 1, 1, 0, 1, 0, 0, 1] blaw30_PendingDoes
noncomputable def annLlaw30_PendingDoes_n3 : Ann := .none
theorem annLlaw30_PendingDoes_n3_ok : AnnOk Try.prog 137 Llaw30_PendingDoes_n3 annLlaw30_PendingDoes_n3 := (annOk_none _ _ _)
abbrev Ilaw30_PendingDoes_n3 := (List (Int × Int × List Int)) × (Int) × (Int) × (Bool) × (Int) × (Int) × (Int) × (Int) × (List Int) × (List (Int × List Int)) × (List (Int × List Int))
abbrev Ylaw30_PendingDoes_n3 := (Bool)
def Slaw30_PendingDoes_n3 : Ilaw30_PendingDoes_n3 → St := fun (t0, t6, t33, t34, o0_1, o1_1, o2_0, o2_1, o2_2, o3, o4) => { env := [(0, AV.ro (Ty.st (Ty.pair (Ty.int IntKind.i64) (Ty.pair (Ty.int IntKind.i64) (Ty.list (Ty.int IntKind.i64))))) t0), (3, AV.ptr 0 0), (4, AV.ptr 1 0), (5, AV.nilp), (6, AV.int IntKind.i64 t6), (7, AV.ptr 2 0), (8, AV.bool (true)), (33, AV.int IntKind.i64 t33), (34, AV.bool t34)], stk := [[]], H := [AE.Obj.cells [AV.own 3, AV.int IntKind.i64 o0_1], AE.Obj.cells [AV.own 4, AV.int IntKind.i64 o1_1], AE.Obj.cells [AV.int IntKind.i64 o2_0, AV.int IntKind.i64 o2_1, AV.ro (Ty.int IntKind.i64) o2_2], Obj.arr (Ty.st (Ty.pair (Ty.int IntKind.i64) (Ty.list (Ty.int IntKind.i64)))) o3, Obj.arr (Ty.st (Ty.pair (Ty.int IntKind.i64) (Ty.list (Ty.int IntKind.i64)))) o4], blk := 24578 }
def declaw30_PendingDoes_n3 (s : St) : Option Ilaw30_PendingDoes_n3 := match s with
  | { env := [(0, AV.ro (Ty.st (Ty.pair (Ty.int IntKind.i64) (Ty.pair (Ty.int IntKind.i64) (Ty.list (Ty.int IntKind.i64))))) t0), (3, AV.ptr 0 0), (4, AV.ptr 1 0), (5, AV.nilp), (6, AV.int IntKind.i64 t6), (7, AV.ptr 2 0), (8, AV.bool r2), (33, AV.int IntKind.i64 t33), (34, AV.bool t34)], stk := [[]], H := [AE.Obj.cells [AV.own 3, AV.int IntKind.i64 o0_1], AE.Obj.cells [AV.own 4, AV.int IntKind.i64 o1_1], AE.Obj.cells [AV.int IntKind.i64 o2_0, AV.int IntKind.i64 o2_1, AV.ro (Ty.int IntKind.i64) o2_2], Obj.arr (Ty.st (Ty.pair (Ty.int IntKind.i64) (Ty.list (Ty.int IntKind.i64)))) o3, Obj.arr (Ty.st (Ty.pair (Ty.int IntKind.i64) (Ty.list (Ty.int IntKind.i64)))) o4], blk := 24578 } => cond (decide (r2 = true)) (some (t0, t6, t33, t34, o0_1, o1_1, o2_0, o2_1, o2_2, o3, o4)) none
  | _ => none
theorem declaw30_PendingDoes_n3_ok (s : St) (x : Ilaw30_PendingDoes_n3) (h : declaw30_PendingDoes_n3 s = some x) : s = Slaw30_PendingDoes_n3 x := by
  unfold declaw30_PendingDoes_n3 at h
  split at h
  · replace h := cond_noneO h; obtain ⟨hg, h⟩ := h; simp only [Bool.and_eq_true, decide_eq_true_eq] at hg; simp only [hg]; cases h; rfl
  · cases h
def outlaw30_PendingDoes_n3 : Ilaw30_PendingDoes_n3 → (Ex → St → Ans) → Ylaw30_PendingDoes_n3 → Ans := fun (t0, t6, t33, t34, o0_1, o1_1, o2_0, o2_1, o2_2, o3, o4) K => fun t34_y => K (Ex.norm) { env := [(0, AV.ro (Ty.st (Ty.pair (Ty.int IntKind.i64) (Ty.pair (Ty.int IntKind.i64) (Ty.list (Ty.int IntKind.i64))))) t0), (3, AV.ptr 0 0), (4, AV.ptr 1 0), (5, AV.nilp), (6, AV.int IntKind.i64 t6), (7, AV.ptr 2 0), (8, AV.bool (true)), (33, AV.int IntKind.i64 t33), (34, AV.bool t34_y)], stk := [[]], H := [AE.Obj.cells [AV.own 3, AV.int IntKind.i64 o0_1], AE.Obj.cells [AV.own 4, AV.int IntKind.i64 o1_1], AE.Obj.cells [AV.int IntKind.i64 o2_0, AV.int IntKind.i64 o2_1, AV.ro (Ty.int IntKind.i64) o2_2], Obj.arr (Ty.st (Ty.pair (Ty.int IntKind.i64) (Ty.list (Ty.int IntKind.i64)))) o3, Obj.arr (Ty.st (Ty.pair (Ty.int IntKind.i64) (Ty.list (Ty.int IntKind.i64)))) o4], blk := 24578 }
def nodelaw30_PendingDoes_n3 {β : Type} : Ilaw30_PendingDoes_n3 → (Ylaw30_PendingDoes_n3 → Option β) → Option β := fun (t0, t6, t33, t34, o0_1, o1_1, o2_0, o2_1, o2_2, o3, o4) exit => (bif t34 then (exit (t34)) else (exit (t33 == (1 : Int))))
def nodeDlaw30_PendingDoes_n3 (i : Ilaw30_PendingDoes_n3) : Option Ylaw30_PendingDoes_n3 := nodelaw30_PendingDoes_n3 i some
theorem nodelaw30_PendingDoes_n3_nat (i : Ilaw30_PendingDoes_n3) (k : Ylaw30_PendingDoes_n3 → Ans) : nodelaw30_PendingDoes_n3 i k = bindO (nodeDlaw30_PendingDoes_n3 i) k := by
  obtain ⟨t0, t6, t33, t34, o0_1, o1_1, o2_0, o2_1, o2_2, o3, o4⟩ := i
  simp only [nodeDlaw30_PendingDoes_n3, nodelaw30_PendingDoes_n3, bindO_cond, bindO_assoc, bindO_none, bindO_pure, bindO_elim, bindO_unP]
theorem nodelaw30_PendingDoes_n3_ok (i : Ilaw30_PendingDoes_n3) (K : Ex → St → Ans) : codeI Try.tab envlaw30_PendingDoes noHint (codeD Try.tab envlaw30_PendingDoes noHint 0 64) 70 137 annLlaw30_PendingDoes_n3 Llaw30_PendingDoes_n3 (weakP 0 (exk [0, 3, 4, 5, 6, 7, 8, 33, 34] [2] []) K) (Slaw30_PendingDoes_n3 i) = nodelaw30_PendingDoes_n3 i (outlaw30_PendingDoes_n3 i K) := by kernel_rfl
theorem GNlaw30_PendingDoes_n3_ok : CSum Try.prog 137 Llaw30_PendingDoes_n3 (sumN declaw30_PendingDoes_n3 nodeDlaw30_PendingDoes_n3 outlaw30_PendingDoes_n3) := csum_node mixed tabOk envlaw30_PendingDoesOk 0 (exk [0, 3, 4, 5, 6, 7, 8, 33, 34] [2] []) annLlaw30_PendingDoes_n3_ok declaw30_PendingDoes_n3_ok nodelaw30_PendingDoes_n3_ok nodelaw30_PendingDoes_n3_nat
noncomputable def Glaw30_PendingDoes_n3 : (Ex → St → Ans) → St → Ans := (sumN declaw30_PendingDoes_n3 nodeDlaw30_PendingDoes_n3 outlaw30_PendingDoes_n3)
theorem Glaw30_PendingDoes_n3_ok : CSum Try.prog 137 Llaw30_PendingDoes_n3 Glaw30_PendingDoes_n3 := GNlaw30_PendingDoes_n3_ok
noncomputable def Llaw30_PendingDoes_n2 : Code := codeAt [1, 1, 1, 1, 1, 0, 1, 0, 0, 1, 0, 0, 1, 1, 0, 1] blaw30_PendingDoes
noncomputable def annLlaw30_PendingDoes_n2 : Ann := (.block (.seq (.seq .none (.cut 0 [0, 3, 4, 5, 6, 7, 8, 33, 34] Glaw30_PendingDoes_n3)) (.cond .none (.seq (.seq .none (.cut 0 [0, 3, 4, 5, 6, 7, 8, 33, 70] Glaw30_PendingDoes_n4)) .none))))
theorem annLlaw30_PendingDoes_n2_ok : AnnOk Try.prog 137 Llaw30_PendingDoes_n2 annLlaw30_PendingDoes_n2 := ⟨⟨(annOk_none _ _ _), Glaw30_PendingDoes_n3_ok⟩, ⟨(annOk_none _ _ _), ⟨⟨(annOk_none _ _ _), Glaw30_PendingDoes_n4_ok⟩, (annOk_none _ _ _)⟩⟩⟩
abbrev Ilaw30_PendingDoes_n2 := (List (Int × Int × List Int)) × (Int) × (Int) × (Int) × (Int) × (Int) × (Int) × (List Int) × (List (Int × List Int)) × (List (Int × List Int))
abbrev Ylaw30_PendingDoes_n2 := (Bool) × (Int) × (Int) × (List (Int × List Int)) × (List (Int × List Int))
def Slaw30_PendingDoes_n2 : Ilaw30_PendingDoes_n2 → St := fun (t0, t6, t33, o0_1, o1_1, o2_0, o2_1, o2_2, o3, o4) => { env := [(0, AV.ro (Ty.st (Ty.pair (Ty.int IntKind.i64) (Ty.pair (Ty.int IntKind.i64) (Ty.list (Ty.int IntKind.i64))))) t0), (3, AV.ptr 0 0), (4, AV.ptr 1 0), (5, AV.nilp), (6, AV.int IntKind.i64 t6), (7, AV.ptr 2 0), (8, AV.bool (true)), (33, AV.int IntKind.i64 t33)], stk := [[]], H := [AE.Obj.cells [AV.own 3, AV.int IntKind.i64 o0_1], AE.Obj.cells [AV.own 4, AV.int IntKind.i64 o1_1], AE.Obj.cells [AV.int IntKind.i64 o2_0, AV.int IntKind.i64 o2_1, AV.ro (Ty.int IntKind.i64) o2_2], Obj.arr (Ty.st (Ty.pair (Ty.int IntKind.i64) (Ty.list (Ty.int IntKind.i64)))) o3, Obj.arr (Ty.st (Ty.pair (Ty.int IntKind.i64) (Ty.list (Ty.int IntKind.i64)))) o4], blk := 24577 }
def declaw30_PendingDoes_n2 (s : St) : Option Ilaw30_PendingDoes_n2 := match s with
  | { env := [(0, AV.ro (Ty.st (Ty.pair (Ty.int IntKind.i64) (Ty.pair (Ty.int IntKind.i64) (Ty.list (Ty.int IntKind.i64))))) t0), (3, AV.ptr 0 0), (4, AV.ptr 1 0), (5, AV.nilp), (6, AV.int IntKind.i64 t6), (7, AV.ptr 2 0), (8, AV.bool r2), (33, AV.int IntKind.i64 t33)], stk := [[]], H := [AE.Obj.cells [AV.own 3, AV.int IntKind.i64 o0_1], AE.Obj.cells [AV.own 4, AV.int IntKind.i64 o1_1], AE.Obj.cells [AV.int IntKind.i64 o2_0, AV.int IntKind.i64 o2_1, AV.ro (Ty.int IntKind.i64) o2_2], Obj.arr (Ty.st (Ty.pair (Ty.int IntKind.i64) (Ty.list (Ty.int IntKind.i64)))) o3, Obj.arr (Ty.st (Ty.pair (Ty.int IntKind.i64) (Ty.list (Ty.int IntKind.i64)))) o4], blk := 24577 } => cond (decide (r2 = true)) (some (t0, t6, t33, o0_1, o1_1, o2_0, o2_1, o2_2, o3, o4)) none
  | _ => none
theorem declaw30_PendingDoes_n2_ok (s : St) (x : Ilaw30_PendingDoes_n2) (h : declaw30_PendingDoes_n2 s = some x) : s = Slaw30_PendingDoes_n2 x := by
  unfold declaw30_PendingDoes_n2 at h
  split at h
  · replace h := cond_noneO h; obtain ⟨hg, h⟩ := h; simp only [Bool.and_eq_true, decide_eq_true_eq] at hg; simp only [hg]; cases h; rfl
  · cases h
def outlaw30_PendingDoes_n2 : Ilaw30_PendingDoes_n2 → (Ex → St → Ans) → Ylaw30_PendingDoes_n2 → Ans := fun (t0, t6, t33, o0_1, o1_1, o2_0, o2_1, o2_2, o3, o4) K => unP fun t8_y => unP fun o0_1_y => unP fun o1_1_y => unP fun o3_y o4_y => K (Ex.norm) { env := [(0, AV.ro (Ty.st (Ty.pair (Ty.int IntKind.i64) (Ty.pair (Ty.int IntKind.i64) (Ty.list (Ty.int IntKind.i64))))) t0), (3, AV.ptr 0 0), (4, AV.ptr 1 0), (5, AV.nilp), (6, AV.int IntKind.i64 t6), (7, AV.ptr 2 0), (8, AV.bool t8_y)], stk := [[]], H := [AE.Obj.cells [AV.own 3, AV.int IntKind.i64 o0_1_y], AE.Obj.cells [AV.own 4, AV.int IntKind.i64 o1_1_y], AE.Obj.cells [AV.int IntKind.i64 o2_0, AV.int IntKind.i64 o2_1, AV.ro (Ty.int IntKind.i64) o2_2], Obj.arr (Ty.st (Ty.pair (Ty.int IntKind.i64) (Ty.list (Ty.int IntKind.i64)))) o3_y, Obj.arr (Ty.st (Ty.pair (Ty.int IntKind.i64) (Ty.list (Ty.int IntKind.i64)))) o4_y], blk := 24578 }
def nodelaw30_PendingDoes_n2 {β : Type} : Ilaw30_PendingDoes_n2 → (Ylaw30_PendingDoes_n2 → Option β) → Option β := fun (t0, t6, t33, o0_1, o1_1, o2_0, o2_1, o2_2, o3, o4) exit => (bindO (nodeDlaw30_PendingDoes_n3 (t0, t6, t33, t33 == (0 : Int), o0_1, o1_1, o2_0, o2_1, o2_2, o3, o4)) fun t34 => (bif t34 then (bindO (fnDpending_Set_int_Add (o2_2, o0_1, o3)) (unP fun r_0 => unP fun r_1 => unP fun o0_1_2 o1 => (bindO (fnDref30_Set_Add (o2_2, o1_1, o4)) (Sum.elim (fun _ => (bindO (fnDpending_Set_int_Add_2 (o2_2)) fun _ => (bif r_0 == (0 : Int) then (bif r_1 == (6 : Int) then (exit ((10 : Int) == (10 : Int), o0_1_2, o1_1, o1, o4)) else (exit (false, o0_1_2, o1_1, o1, o4))) else (exit (false, o0_1_2, o1_1, o1, o4))))) (unP fun r_0_2 => unP fun o0_1_3 o2 => (bindO (fnDpending_Set_int_Add_2 (o2_2)) fun _ => (bif r_0 == r_0_2 then (bif r_1 == (0 : Int) then (exit ((10 : Int) == (10 : Int), o0_1_2, o0_1_3, o1, o2)) else (exit (false, o0_1_2, o0_1_3, o1, o2))) else (exit (false, o0_1_2, o0_1_3, o1, o2))))))))) else (bindO (nodeDlaw30_PendingDoes_n4 (t0, t6, t33, t33 == (2 : Int), o0_1, o1_1, o2_0, o2_1, o2_2, o3, o4)) fun t70 => (bif t70 then (bindO (fnDpending_Set_int_Done (o2_1, o0_1, o3)) (unP fun o2 o3_2 => (bindO (fnDref30_Set_Done (o2_1, o1_1, o4)) (unP fun o2_3 o3_3 => (bindO (fnDlaw30_Same (o2, o2_3)) fun r => (bif r then (bindO (fnDpending_Set_int_Done_2 (o2_1)) fun _ => (exit ((↑(0 : Nat) : Int) == (0 : Int), o0_1, o1_1, o3_2, o3_3))) else (exit (false, o0_1, o1_1, o3_2, o3_3)))))))) else (bif t33 == (4 : Int) then (bindO (fnDpending_Set_int_Alone (o0_1, o3)) fun o2 => (bindO (fnDref30_Set_Alone (o1_1, o4)) fun o2_3 => (bindO (fnDlaw30_Same (o2, o2_3)) fun r => (bif r then (bindO (fnDpending_Set_int_Alone_2 ()) fun _ => (exit ((↑(0 : Nat) : Int) == (0 : Int), o0_1, o1_1, [], []))) else (exit (false, o0_1, o1_1, [], [])))))) else (exit (true, o0_1, o1_1, o3, o4)))))))
def nodeDlaw30_PendingDoes_n2 (i : Ilaw30_PendingDoes_n2) : Option Ylaw30_PendingDoes_n2 := nodelaw30_PendingDoes_n2 i some
theorem nodelaw30_PendingDoes_n2_nat (i : Ilaw30_PendingDoes_n2) (k : Ylaw30_PendingDoes_n2 → Ans) : nodelaw30_PendingDoes_n2 i k = bindO (nodeDlaw30_PendingDoes_n2 i) k := by
  obtain ⟨t0, t6, t33, o0_1, o1_1, o2_0, o2_1, o2_2, o3, o4⟩ := i
  simp only [nodeDlaw30_PendingDoes_n2, nodelaw30_PendingDoes_n2, bindO_cond, bindO_assoc, bindO_none, bindO_pure, bindO_elim, bindO_unP]
theorem nodelaw30_PendingDoes_n2_ok (i : Ilaw30_PendingDoes_n2) (K : Ex → St → Ans) : codeI Try.tab envlaw30_PendingDoes noHint (codeD Try.tab envlaw30_PendingDoes noHint 0 64) 70 137 annLlaw30_PendingDoes_n2 Llaw30_PendingDoes_n2 (weakP 0 (exk [0, 3, 4, 5, 6, 7, 8] [2] []) K) (Slaw30_PendingDoes_n2 i) = nodelaw30_PendingDoes_n2 i (outlaw30_PendingDoes_n2 i K) := by kernel_rfl
theorem GNlaw30_PendingDoes_n2_ok : CSum Try.prog 137 Llaw30_PendingDoes_n2 (sumN declaw30_PendingDoes_n2 nodeDlaw30_PendingDoes_n2 outlaw30_PendingDoes_n2) := csum_node mixed tabOk envlaw30_PendingDoesOk 0 (exk [0, 3, 4, 5, 6, 7, 8] [2] []) annLlaw30_PendingDoes_n2_ok declaw30_PendingDoes_n2_ok nodelaw30_PendingDoes_n2_ok nodelaw30_PendingDoes_n2_nat
noncomputable def Glaw30_PendingDoes_n2 : (Ex → St → Ans) → St → Ans := (sumN declaw30_PendingDoes_n2 nodeDlaw30_PendingDoes_n2 outlaw30_PendingDoes_n2)
theorem Glaw30_PendingDoes_n2_ok : CSum Try.prog 137 Llaw30_PendingDoes_n2 Glaw30_PendingDoes_n2 := GNlaw30_PendingDoes_n2_ok
noncomputable def Llaw30_PendingDoes_n1 : Code := codeAt [1, 1, 1, 1, 1, 0, 1, 0, 0, 1, 0] blaw30_PendingDoes
noncomputable def annLlaw30_PendingDoes_n1 : Ann := (.block (.seq .none (.seq .none (.seq (.seq .none (.cut 0 [0, 3, 4, 5, 6, 7, 8, 33] Glaw30_PendingDoes_n2)) (.seq (.cut 0 [0, 3, 4, 5, 6, 7, 8] Glaw30_PendingDoes_n5) .none)))))
theorem annLlaw30_PendingDoes_n1_ok : AnnOk Try.prog 137 Llaw30_PendingDoes_n1 annLlaw30_PendingDoes_n1 := ⟨(annOk_none _ _ _), ⟨(annOk_none _ _ _), ⟨⟨(annOk_none _ _ _), Glaw30_PendingDoes_n2_ok⟩, ⟨Glaw30_PendingDoes_n5_ok, (annOk_none _ _ _)⟩⟩⟩⟩
abbrev Ilaw30_PendingDoes_n1 := (List (Int × Int × List Int)) × (Int) × (Int) × (Int) × (List (Int × List Int)) × (List (Int × List Int))
abbrev Ylaw30_PendingDoes_n1 := (Unit) ⊕ ((Int) × (Int) × (List (Int × List Int)) × (List (Int × List Int)))
def Slaw30_PendingDoes_n1 : Ilaw30_PendingDoes_n1 → St := fun (t0, t6, o0_1, o1_1, o2, o3) => { env := [(0, AV.ro (Ty.st (Ty.pair (Ty.int IntKind.i64) (Ty.pair (Ty.int IntKind.i64) (Ty.list (Ty.int IntKind.i64))))) t0), (3, AV.ptr 0 0), (4, AV.ptr 1 0), (5, AV.nilp), (6, AV.int IntKind.i64 t6)], stk := [[]], H := [AE.Obj.cells [AV.own 2, AV.int IntKind.i64 o0_1], AE.Obj.cells [AV.own 3, AV.int IntKind.i64 o1_1], Obj.arr (Ty.st (Ty.pair (Ty.int IntKind.i64) (Ty.list (Ty.int IntKind.i64)))) o2, Obj.arr (Ty.st (Ty.pair (Ty.int IntKind.i64) (Ty.list (Ty.int IntKind.i64)))) o3], blk := 24576 }
def declaw30_PendingDoes_n1 (s : St) : Option Ilaw30_PendingDoes_n1 := match s with
  | { env := [(0, AV.ro (Ty.st (Ty.pair (Ty.int IntKind.i64) (Ty.pair (Ty.int IntKind.i64) (Ty.list (Ty.int IntKind.i64))))) t0), (3, AV.ptr 0 0), (4, AV.ptr 1 0), (5, AV.nilp), (6, AV.int IntKind.i64 t6)], stk := [[]], H := [AE.Obj.cells [AV.own 2, AV.int IntKind.i64 o0_1], AE.Obj.cells [AV.own 3, AV.int IntKind.i64 o1_1], Obj.arr (Ty.st (Ty.pair (Ty.int IntKind.i64) (Ty.list (Ty.int IntKind.i64)))) o2, Obj.arr (Ty.st (Ty.pair (Ty.int IntKind.i64) (Ty.list (Ty.int IntKind.i64)))) o3], blk := 24576 } => some (t0, t6, o0_1, o1_1, o2, o3)
  | _ => none
theorem declaw30_PendingDoes_n1_ok (s : St) (x : Ilaw30_PendingDoes_n1) (h : declaw30_PendingDoes_n1 s = some x) : s = Slaw30_PendingDoes_n1 x := by
  unfold declaw30_PendingDoes_n1 at h
  split at h
  · cases h; rfl
  · cases h
def outlaw30_PendingDoes_n1 : Ilaw30_PendingDoes_n1 → (Ex → St → Ans) → Ylaw30_PendingDoes_n1 → Ans := fun (t0, t6, o0_1, o1_1, o2, o3) K => (Sum.elim (fun _ => K (Ex.ret) { env := [(2, AV.bool (false))], stk := [[]], H := [], blk := 24578 }) (unP fun o0_1_y => unP fun o1_1_y => unP fun o2_y o3_y => K (Ex.norm) { env := [(0, AV.ro (Ty.st (Ty.pair (Ty.int IntKind.i64) (Ty.pair (Ty.int IntKind.i64) (Ty.list (Ty.int IntKind.i64))))) t0), (3, AV.ptr 0 0), (4, AV.ptr 1 0), (5, AV.nilp), (6, AV.int IntKind.i64 t6)], stk := [[]], H := [AE.Obj.cells [AV.own 2, AV.int IntKind.i64 o0_1_y], AE.Obj.cells [AV.own 3, AV.int IntKind.i64 o1_1_y], Obj.arr (Ty.st (Ty.pair (Ty.int IntKind.i64) (Ty.list (Ty.int IntKind.i64)))) o2_y, Obj.arr (Ty.st (Ty.pair (Ty.int IntKind.i64) (Ty.list (Ty.int IntKind.i64)))) o3_y], blk := 24578 }))
def nodelaw30_PendingDoes_n1 {β : Type} : Ilaw30_PendingDoes_n1 → (Ylaw30_PendingDoes_n1 → Option β) → Option β := fun (t0, t6, o0_1, o1_1, o2, o3) exit => (bindO (nth t0 t6) fun x => (bindO (nodeDlaw30_PendingDoes_n2 (t0, t6, x.fst, o0_1, o1_1, x.fst, x.snd.fst, x.snd.snd, o2, o3)) (unP fun t8 => unP fun o0_1_2 => unP fun o1_1_2 => unP fun o3_2 o4 => (bindO (nodeDlaw30_PendingDoes_n5 (t0, t6, t8, o0_1_2, o1_1_2, x.fst, x.snd.fst, x.snd.snd, o3_2, o4)) fun t136 => (bif t136 then (exit (Sum.inl ())) else (exit (Sum.inr (o0_1_2, o1_1_2, o3_2, o4))))))))
def nodeDlaw30_PendingDoes_n1 (i : Ilaw30_PendingDoes_n1) : Option Ylaw30_PendingDoes_n1 := nodelaw30_PendingDoes_n1 i some
theorem nodelaw30_PendingDoes_n1_nat (i : Ilaw30_PendingDoes_n1) (k : Ylaw30_PendingDoes_n1 → Ans) : nodelaw30_PendingDoes_n1 i k = bindO (nodeDlaw30_PendingDoes_n1 i) k := by
  obtain ⟨t0, t6, o0_1, o1_1, o2, o3⟩ := i
  simp only [nodeDlaw30_PendingDoes_n1, nodelaw30_PendingDoes_n1, bindO_cond, bindO_assoc, bindO_none, bindO_pure, bindO_elim, bindO_unP]
theorem nodelaw30_PendingDoes_n1_ok (i : Ilaw30_PendingDoes_n1) (K : Ex → St → Ans) : codeI Try.tab envlaw30_PendingDoes noHint (codeD Try.tab envlaw30_PendingDoes noHint 0 64) 70 137 annLlaw30_PendingDoes_n1 Llaw30_PendingDoes_n1 (weakP 0 (exk [0, 3, 4, 5, 6] [2] []) K) (Slaw30_PendingDoes_n1 i) = nodelaw30_PendingDoes_n1 i (outlaw30_PendingDoes_n1 i K) := by kernel_rfl
theorem GNlaw30_PendingDoes_n1_ok : CSum Try.prog 137 Llaw30_PendingDoes_n1 (sumN declaw30_PendingDoes_n1 nodeDlaw30_PendingDoes_n1 outlaw30_PendingDoes_n1) := csum_node mixed tabOk envlaw30_PendingDoesOk 0 (exk [0, 3, 4, 5, 6] [2] []) annLlaw30_PendingDoes_n1_ok declaw30_PendingDoes_n1_ok nodelaw30_PendingDoes_n1_ok nodelaw30_PendingDoes_n1_nat
noncomputable def Glaw30_PendingDoes_n1 : (Ex → St → Ans) → St → Ans := (sumN declaw30_PendingDoes_n1 nodeDlaw30_PendingDoes_n1 outlaw30_PendingDoes_n1)
theorem Glaw30_PendingDoes_n1_ok : CSum Try.prog 137 Llaw30_PendingDoes_n1 Glaw30_PendingDoes_n1 := GNlaw30_PendingDoes_n1_ok
noncomputable def Llaw30_PendingDoes_n0 : Code := codeAt [1, 1, 1, 1, 1, 0, 1, 0, 0] blaw30_PendingDoes
noncomputable def annLlaw30_PendingDoes_n0 : Ann := .at 0 [0, 3, 4, 5, 6] (.loop (.seq .none (.seq (.cut 0 [0, 3, 4, 5, 6] Glaw30_PendingDoes_n1) .none)))
theorem annLlaw30_PendingDoes_n0_ok : AnnOk Try.prog 137 (.loop Llaw30_PendingDoes_n0) annLlaw30_PendingDoes_n0 := annOk_at ⟨(annOk_none _ _ _), ⟨Glaw30_PendingDoes_n1_ok, (annOk_none _ _ _)⟩⟩
abbrev Ilaw30_PendingDoes_n0 := (List (Int × Int × List Int))
abbrev Ylaw30_PendingDoes_n0 := (Unit) ⊕ (Unit)
abbrev Vlaw30_PendingDoes_n0 := (Int) × (Int) × (Int) × (List (Int × List Int)) × (List (Int × List Int))
def Slaw30_PendingDoes_n0 : Ilaw30_PendingDoes_n0 → Vlaw30_PendingDoes_n0 → St := fun t0 (t6, o0_1, o1_1, o2, o3) => { env := [(0, AV.ro (Ty.st (Ty.pair (Ty.int IntKind.i64) (Ty.pair (Ty.int IntKind.i64) (Ty.list (Ty.int IntKind.i64))))) t0), (3, AV.ptr 0 0), (4, AV.ptr 1 0), (5, AV.nilp), (6, AV.int IntKind.i64 t6)], stk := [[]], H := [AE.Obj.cells [AV.own 2, AV.int IntKind.i64 o0_1], AE.Obj.cells [AV.own 3, AV.int IntKind.i64 o1_1], Obj.arr (Ty.st (Ty.pair (Ty.int IntKind.i64) (Ty.list (Ty.int IntKind.i64)))) o2, Obj.arr (Ty.st (Ty.pair (Ty.int IntKind.i64) (Ty.list (Ty.int IntKind.i64)))) o3], blk := 24576 }
def declaw30_PendingDoes_n0 (s : St) : Option (Ilaw30_PendingDoes_n0 × Vlaw30_PendingDoes_n0) := match s with
  | { env := [(0, AV.ro (Ty.st (Ty.pair (Ty.int IntKind.i64) (Ty.pair (Ty.int IntKind.i64) (Ty.list (Ty.int IntKind.i64))))) t0), (3, AV.ptr 0 0), (4, AV.ptr 1 0), (5, AV.nilp), (6, AV.int IntKind.i64 t6)], stk := [[]], H := [AE.Obj.cells [AV.own 2, AV.int IntKind.i64 o0_1], AE.Obj.cells [AV.own 3, AV.int IntKind.i64 o1_1], Obj.arr (Ty.st (Ty.pair (Ty.int IntKind.i64) (Ty.list (Ty.int IntKind.i64)))) o2, Obj.arr (Ty.st (Ty.pair (Ty.int IntKind.i64) (Ty.list (Ty.int IntKind.i64)))) o3], blk := 24576 } => some (t0, (t6, o0_1, o1_1, o2, o3))
  | _ => none
theorem declaw30_PendingDoes_n0_ok (s : St) (x : Ilaw30_PendingDoes_n0 × Vlaw30_PendingDoes_n0) (h : declaw30_PendingDoes_n0 s = some x) : s = Slaw30_PendingDoes_n0 x.1 x.2 := by
  unfold declaw30_PendingDoes_n0 at h
  split at h
  · cases h; rfl
  · cases h
def outlaw30_PendingDoes_n0 : Ilaw30_PendingDoes_n0 → (Ex → St → Ans) → Ylaw30_PendingDoes_n0 → Ans := fun t0 K => (Sum.elim (fun _ => K (Ex.ret) { env := [(2, AV.bool (false))], stk := [[]], H := [], blk := 24578 }) (fun _ => K (Ex.exit 0) { env := [], stk := [[]], H := [], blk := 24576 }))
def steplaw30_PendingDoes_n0 {β : Type} : Ilaw30_PendingDoes_n0 → Vlaw30_PendingDoes_n0 → (Vlaw30_PendingDoes_n0 → Option β) → (Ylaw30_PendingDoes_n0 → Option β) → Option β := fun t0 (t6, o0_1, o1_1, o2, o3) next exit => (bif decide (t6 < (↑(List.length t0) : Int)) then (bindO (nodeDlaw30_PendingDoes_n1 (t0, t6, o0_1, o1_1, o2, o3)) (Sum.elim (fun _ => (exit (Sum.inl ()))) (unP fun o0_1_2 => unP fun o1_1_2 => unP fun o2_2 o3_2 => (next (IntKind.wrap IntKind.i64 (t6 + (1 : Int)), o0_1_2, o1_1_2, o2_2, o3_2))))) else (exit (Sum.inr ())))
def stepDlaw30_PendingDoes_n0 (i : Ilaw30_PendingDoes_n0) (v : Vlaw30_PendingDoes_n0) : Option (Vlaw30_PendingDoes_n0 ⊕ Ylaw30_PendingDoes_n0) := steplaw30_PendingDoes_n0 i v (fun v => some (.inl v)) (fun y => some (.inr y))
theorem steplaw30_PendingDoes_n0_nat (i : Ilaw30_PendingDoes_n0) (v : Vlaw30_PendingDoes_n0) (next : Vlaw30_PendingDoes_n0 → Ans) (exit : Ylaw30_PendingDoes_n0 → Ans) : steplaw30_PendingDoes_n0 i v next exit = bindO (stepDlaw30_PendingDoes_n0 i v) (Sum.elim next exit) := by
  obtain z := i
  obtain ⟨t6, o0_1, o1_1, o2, o3⟩ := v
  simp only [stepDlaw30_PendingDoes_n0, steplaw30_PendingDoes_n0, bindO_cond, bindO_assoc, bindO_none, bindO_pure, bindO_elim, bindO_unP, Sum.elim_inl, Sum.elim_inr]
theorem steplaw30_PendingDoes_n0_ok (n : Nat) (i : Ilaw30_PendingDoes_n0) (v : Vlaw30_PendingDoes_n0) (K : Ex → St → Ans) : codeI Try.tab envlaw30_PendingDoes noHint (codeD Try.tab envlaw30_PendingDoes noHint 0 64) (n+1) 137 annLlaw30_PendingDoes_n0 (.loop Llaw30_PendingDoes_n0) (weakP 0 (exk [] [2] [(0, [])]) K) (Slaw30_PendingDoes_n0 i v) = steplaw30_PendingDoes_n0 i v (fun v' => codeI Try.tab envlaw30_PendingDoes noHint (codeD Try.tab envlaw30_PendingDoes noHint 0 64) n 137 annLlaw30_PendingDoes_n0 (.loop Llaw30_PendingDoes_n0) (weakP 0 (exk [] [2] [(0, [])]) K) (Slaw30_PendingDoes_n0 i v')) (fun y => outlaw30_PendingDoes_n0 i K y) := by kernel_rfl
theorem GNlaw30_PendingDoes_n0_ok : CSum Try.prog 137 (.loop Llaw30_PendingDoes_n0) (sumL declaw30_PendingDoes_n0 stepDlaw30_PendingDoes_n0 outlaw30_PendingDoes_n0) := csum_loop mixed tabOk envlaw30_PendingDoesOk 0 (exk [] [2] [(0, [])]) annLlaw30_PendingDoes_n0_ok declaw30_PendingDoes_n0_ok steplaw30_PendingDoes_n0_ok steplaw30_PendingDoes_n0_nat
noncomputable def Glaw30_PendingDoes_n0 : (Ex → St → Ans) → St → Ans := (sumL declaw30_PendingDoes_n0 stepDlaw30_PendingDoes_n0 outlaw30_PendingDoes_n0)
theorem Glaw30_PendingDoes_n0_ok : CSum Try.prog 137 (.loop Llaw30_PendingDoes_n0) Glaw30_PendingDoes_n0 := GNlaw30_PendingDoes_n0_ok
noncomputable def annlaw30_PendingDoes : Ann := (.seq .none (.seq .none (.seq .none (.seq .none (.seq .none (.seq (.seq .none (.block (.cut 0 [0, 3, 4, 5, 6] Glaw30_PendingDoes_n0))) .none))))))
theorem annlaw30_PendingDoes_ok : AnnOk Try.prog 137 blaw30_PendingDoes annlaw30_PendingDoes := ⟨(annOk_none _ _ _), ⟨(annOk_none _ _ _), ⟨(annOk_none _ _ _), ⟨(annOk_none _ _ _), ⟨(annOk_none _ _ _), ⟨⟨(annOk_none _ _ _), Glaw30_PendingDoes_n0_ok⟩, (annOk_none _ _ _)⟩⟩⟩⟩⟩⟩
abbrev Alaw30_PendingDoes := (List (Int × Int × List Int))
abbrev Ylaw30_PendingDoes := (Bool)
def fnlaw30_PendingDoes {β : Type} : Alaw30_PendingDoes → (Ylaw30_PendingDoes → Option β) → Option β := fun a0 exit => (bindO (fnDlaw30_works ()) fun r => (bif !r then (exit (false)) else (bindO (fnDlaw30_great (a0)) fun r_2 => (bif r_2 then (exit (true)) else (bindO (fnDpending_New_int ()) fun _ => (bindO (loopD (stepDlaw30_PendingDoes_n0 (a0)) FUEL ((0 : Int), (0 : Int), (0 : Int), [], [])) (Sum.elim (fun _ => (exit (false))) (fun _ => (exit (true))))))))))
def fnDlaw30_PendingDoes (a : Alaw30_PendingDoes) : Option Ylaw30_PendingDoes := fnlaw30_PendingDoes a some
theorem fnlaw30_PendingDoes_nat (a : Alaw30_PendingDoes) (k : Ylaw30_PendingDoes → Ans) : fnlaw30_PendingDoes a k = bindO (fnDlaw30_PendingDoes a) k := by
  obtain z := a
  simp only [fnDlaw30_PendingDoes, fnlaw30_PendingDoes, bindO_cond, bindO_assoc, bindO_none, bindO_pure, bindO_elim, bindO_unP]
def argslaw30_PendingDoes : Alaw30_PendingDoes → List AV × List AE.Obj := fun a0 => ([AV.ro (Ty.st (Ty.pair (Ty.int IntKind.i64) (Ty.pair (Ty.int IntKind.i64) (Ty.list (Ty.int IntKind.i64))))) a0], [])
def decAlaw30_PendingDoes (l : List AV) (H : List AE.Obj) : Option Alaw30_PendingDoes := match l, H with
  | [AV.ro (Ty.st (Ty.pair (Ty.int IntKind.i64) (Ty.pair (Ty.int IntKind.i64) (Ty.list (Ty.int IntKind.i64))))) a0], [] => some (a0)
  | _, _ => none
theorem decAlaw30_PendingDoes_ok (l : List AV) (H : List AE.Obj) (a : Alaw30_PendingDoes) (h : decAlaw30_PendingDoes l H = some a) : (l, H) = argslaw30_PendingDoes a := by
  unfold decAlaw30_PendingDoes at h
  split at h
  · cases h; rfl
  · cases h
def outlaw30_PendingDoes : Alaw30_PendingDoes → (AV → List AE.Obj → Ans) → Ylaw30_PendingDoes → Ans := fun a0 K => fun r_y => K (AV.bool r_y) []
theorem fnlaw30_PendingDoes_ok (a : Alaw30_PendingDoes) (K : AV → List AE.Obj → Ans) : fnE Try.tab envlaw30_PendingDoes noHint 0 70 6 Try.f6.ntmps Try.f6.results.toList annlaw30_PendingDoes blaw30_PendingDoes (argslaw30_PendingDoes a).1 (argslaw30_PendingDoes a).2 K = fnlaw30_PendingDoes a (outlaw30_PendingDoes a K) := by kernel_rfl
def vFlaw30_PendingDoes (a : Alaw30_PendingDoes) (K : AV → List AE.Obj → Ans) : Ans := bindO (fnDlaw30_PendingDoes a) fun y => outlaw30_PendingDoes a K y
def Flaw30_PendingDoes : List AV → List AE.Obj → (AV → List AE.Obj → Ans) → Ans := fun l H K => bindO (decAlaw30_PendingDoes l H) fun a => vFlaw30_PendingDoes a K
theorem Flaw30_PendingDoes_ok : FuncOk Try.prog 6 Flaw30_PendingDoes := func_mkD (hint := noHint) (d := 0) (n := 70) mixed tabOk envlaw30_PendingDoesOk Try.func6 (bodySome (by kernel_rfl)) (by decide +kernel) annlaw30_PendingDoes_ok decAlaw30_PendingDoes_ok fnlaw30_PendingDoes_ok fnlaw30_PendingDoes_nat
end Go.Proofs.R1
