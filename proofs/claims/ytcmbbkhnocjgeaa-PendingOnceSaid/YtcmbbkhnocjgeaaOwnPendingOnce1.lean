/- What the functions that PendingOnce reaches compute: part 1. -/
import Derived.Test.YtcmbbkhnocjgeaaAe2
import Derived.Test.YtcmbbkhnocjgeaaProg
import Derived.Test.YtcmbbkhnocjgeaaChecked
set_option linter.unusedVariables false
set_option linter.unusedSimpArgs false
namespace Go.Proofs
def Try.tab : Go.AE.Tab := [
  (1, ⟨.sc, 1, 8, [.nilf], none⟩),
  (2, ⟨.sc, 1, 8, [.int .i64 0], some (.int .i64)⟩),
  (3, ⟨.sc, 1, 8, [.int .i64 0], some (.int .i64)⟩),
  (4, ⟨.sc, 1, 1, [.bool false], some .bool⟩),
  (5, ⟨.sc, 1, 1, [.int .u8 0], some (.int .u8)⟩),
  (7, ⟨.struct [(2, 0), (3, 1), (4, 2), (6, 3)], 4, 24, [.int .i64 0, .int .i64 0, .bool false, .int .u8 0], some (.st (.pair (.int .i64) (.pair (.int .i64) (.pair .bool (.int .u8)))))⟩),
  (9, ⟨.sc, 1, 16, [.str []], some .str⟩),
  (12, ⟨.sc, 1, 8, [.int .u64 0], some (.int .u64)⟩),
  (20, ⟨.sc, 1, 16, [.nili], none⟩),
  (21, ⟨.sc, 1, 4, [.int .i32 0], some (.int .i32)⟩),
  (22, ⟨.struct [(3, 0), (3, 1), (3, 2)], 3, 24, [.int .i64 0, .int .i64 0, .int .i64 0], some (.st (.pair (.int .i64) (.pair (.int .i64) (.int .i64))))⟩),
  (23, ⟨.struct [(3, 0), (3, 1), (3, 2)], 3, 24, [.int .i64 0, .int .i64 0, .int .i64 0], some (.st (.pair (.int .i64) (.pair (.int .i64) (.int .i64))))⟩),
  (24, ⟨.sc, 1, 8, [.nilf], none⟩),
  (25, ⟨.sc, 1, 8, [.int .i64 0], some (.int .i64)⟩),
  (27, ⟨.sc, 1, 8, [.nilf], none⟩),
  (29, ⟨.sc, 1, 8, [.nilf], none⟩),
  (30, ⟨.sc, 1, 8, [.nilf], none⟩),
  (31, ⟨.sc, 1, 8, [.nilf], none⟩),
  (32, ⟨.slice 74, 1, 24, [.nils], some (.list (.st (.pair (.int .i64) (.int .i64))))⟩),
  (33, ⟨.sc, 1, 8, [.nilf], none⟩),
  (34, ⟨.sc, 1, 8, [.nilf], none⟩),
  (35, ⟨.sc, 1, 8, [.nilf], none⟩),
  (36, ⟨.sc, 1, 8, [.nilf], none⟩),
  (37, ⟨.slice 3, 1, 24, [.nils], some (.list (.int .i64))⟩),
  (38, ⟨.sc, 1, 8, [.nilf], none⟩),
  (39, ⟨.sc, 1, 8, [.nilf], none⟩),
  (40, ⟨.slice 41, 1, 24, [.nils], some (.list (.list .str))⟩),
  (41, ⟨.slice 9, 1, 24, [.nils], some (.list .str)⟩),
  (42, ⟨.ptr 77, 1, 8, [.nilp], none⟩),
  (43, ⟨.sc, 1, 8, [.nilf], none⟩),
  (44, ⟨.slice 46, 1, 24, [.nils], some (.list (.st (.pair (.int .i64) (.int .i64))))⟩),
  (45, ⟨.struct [(3, 0), (3, 1)], 2, 16, [.int .i64 0, .int .i64 0], some (.st (.pair (.int .i64) (.int .i64)))⟩),
  (46, ⟨.struct [(3, 0), (3, 1)], 2, 16, [.int .i64 0, .int .i64 0], some (.st (.pair (.int .i64) (.int .i64)))⟩),
  (47, ⟨.sc, 1, 8, [.nilf], none⟩),
  (48, ⟨.sc, 1, 8, [.nilf], none⟩),
  (49, ⟨.sc, 1, 8, [.nilf], none⟩),
  (50, ⟨.sc, 1, 8, [.nilf], none⟩),
  (51, ⟨.sc, 1, 8, [.nilf], none⟩),
  (52, ⟨.sc, 1, 8, [.nilf], none⟩),
  (53, ⟨.slice 62, 1, 24, [.nils], some (.list (.st (.pair (.int .i64) (.pair (.int .i64) (.list (.int .i64))))))⟩),
  (54, ⟨.sc, 1, 8, [.nilf], none⟩),
  (55, ⟨.ptr 85, 1, 8, [.nilp], none⟩),
  (56, ⟨.sc, 1, 8, [.nilf], none⟩),
  (57, ⟨.ptr 60, 1, 8, [.nilp], none⟩),
  (58, ⟨.slice 90, 1, 24, [.nils], some (.list (.st (.pair (.int .i64) (.list (.int .i64)))))⟩),
  (59, ⟨.struct [(58, 0), (3, 1)], 2, 32, [.nils, .int .i64 0], some (.st (.pair (.list (.st (.pair (.int .i64) (.list (.int .i64))))) (.int .i64)))⟩),
  (60, ⟨.struct [(58, 0), (3, 1)], 2, 32, [.nils, .int .i64 0], some (.st (.pair (.list (.st (.pair (.int .i64) (.list (.int .i64))))) (.int .i64)))⟩),
  (61, ⟨.struct [(3, 0), (3, 1), (37, 2)], 3, 40, [.int .i64 0, .int .i64 0, .nils], some (.st (.pair (.int .i64) (.pair (.int .i64) (.list (.int .i64)))))⟩),
  (62, ⟨.struct [(3, 0), (3, 1), (37, 2)], 3, 40, [.int .i64 0, .int .i64 0, .nils], some (.st (.pair (.int .i64) (.pair (.int .i64) (.list (.int .i64)))))⟩),
  (63, ⟨.sc, 1, 8, [.nilf], none⟩),
  (64, ⟨.sc, 1, 8, [.nilf], none⟩),
  (65, ⟨.sc, 1, 8, [.nilf], none⟩),
  (66, ⟨.sc, 1, 8, [.nilf], none⟩),
  (67, ⟨.sc, 1, 8, [.nilf], none⟩),
  (68, ⟨.sc, 1, 8, [.nilf], none⟩),
  (69, ⟨.sc, 1, 8, [.nilf], none⟩),
  (70, ⟨.struct [(3, 0), (3, 1), (3, 2), (3, 3), (3, 4), (3, 5), (3, 6)], 7, 56, [.int .i64 0, .int .i64 0, .int .i64 0, .int .i64 0, .int .i64 0, .int .i64 0, .int .i64 0], some (.st (.pair (.int .i64) (.pair (.int .i64) (.pair (.int .i64) (.pair (.int .i64) (.pair (.int .i64) (.pair (.int .i64) (.int .i64))))))))⟩),
  (71, ⟨.struct [(3, 0), (3, 1), (3, 2), (3, 3), (3, 4), (3, 5), (3, 6)], 7, 56, [.int .i64 0, .int .i64 0, .int .i64 0, .int .i64 0, .int .i64 0, .int .i64 0, .int .i64 0], some (.st (.pair (.int .i64) (.pair (.int .i64) (.pair (.int .i64) (.pair (.int .i64) (.pair (.int .i64) (.pair (.int .i64) (.int .i64))))))))⟩),
  (72, ⟨.sc, 1, 8, [.nilf], none⟩),
  (73, ⟨.sc, 1, 8, [.nilf], none⟩),
  (74, ⟨.array 2 3, 2, 16, [.int .i64 0, .int .i64 0], some (.st (.pair (.int .i64) (.int .i64)))⟩),
  (75, ⟨.slice 80, 1, 24, [.nils], some (.list (.st (.pair (.int .i64) (.list .str))))⟩),
  (76, ⟨.struct [(75, 0), (3, 1)], 2, 32, [.nils, .int .i64 0], some (.st (.pair (.list (.st (.pair (.int .i64) (.list .str)))) (.int .i64)))⟩),
  (77, ⟨.struct [(75, 0), (3, 1)], 2, 32, [.nils, .int .i64 0], some (.st (.pair (.list (.st (.pair (.int .i64) (.list .str)))) (.int .i64)))⟩),
  (78, ⟨.sc, 1, 8, [.nilf], none⟩),
  (79, ⟨.struct [(3, 0), (41, 1)], 2, 32, [.int .i64 0, .nils], some (.st (.pair (.int .i64) (.list .str)))⟩),
  (80, ⟨.struct [(3, 0), (41, 1)], 2, 32, [.int .i64 0, .nils], some (.st (.pair (.int .i64) (.list .str)))⟩),
  (81, ⟨.ptr 9, 1, 8, [.nilp], none⟩),
  (82, ⟨.sc, 1, 8, [.nilf], none⟩),
  (83, ⟨.slice 88, 1, 24, [.nils], some (.list (.st (.pair (.int .i64) (.list (.int .i64)))))⟩),
  (84, ⟨.struct [(83, 0), (3, 1)], 2, 32, [.nils, .int .i64 0], some (.st (.pair (.list (.st (.pair (.int .i64) (.list (.int .i64))))) (.int .i64)))⟩),
  (85, ⟨.struct [(83, 0), (3, 1)], 2, 32, [.nils, .int .i64 0], some (.st (.pair (.list (.st (.pair (.int .i64) (.list (.int .i64))))) (.int .i64)))⟩),
  (86, ⟨.sc, 1, 8, [.nilf], none⟩),
  (87, ⟨.struct [(3, 0), (37, 1)], 2, 32, [.int .i64 0, .nils], some (.st (.pair (.int .i64) (.list (.int .i64))))⟩),
  (88, ⟨.struct [(3, 0), (37, 1)], 2, 32, [.int .i64 0, .nils], some (.st (.pair (.int .i64) (.list (.int .i64))))⟩),
  (89, ⟨.struct [(3, 0), (37, 1)], 2, 32, [.int .i64 0, .nils], some (.st (.pair (.int .i64) (.list (.int .i64))))⟩),
  (90, ⟨.struct [(3, 0), (37, 1)], 2, 32, [.int .i64 0, .nils], some (.st (.pair (.int .i64) (.list (.int .i64))))⟩),
  (91, ⟨.ptr 3, 1, 8, [.nilp], none⟩),
  (92, ⟨.sc, 1, 8, [.nilf], none⟩),
  (93, ⟨.sc, 1, 8, [.nilf], none⟩),
  (99, ⟨.sc, 1, 4, [.int .u32 0], some (.int .u32)⟩),
  (102, ⟨.sc, 1, 8, [.nilf], none⟩),
  (103, ⟨.ptr 5, 1, 8, [.nilp], none⟩)]
def Try.hint : Go.AE.Hint := fun b =>
  cond (Nat.beq b 16384) [1, 3, 4, 5, 6, 7] (
  cond (Nat.beq b 16386) [1, 3, 4, 5, 6, 13] (
  cond (Nat.beq b 16388) [3, 4, 6, 16] (
  cond (Nat.beq b 20480) [0, 1, 5, 6, 7, 8] (
  cond (Nat.beq b 20482) [0, 1, 5, 6, 9, 10] (
  cond (Nat.beq b 20484) [0, 5, 6, 9, 13] (
  cond (Nat.beq b 20486) [0, 5, 6, 9, 13, 14] (
  cond (Nat.beq b 20488) [5, 6, 15] (
  cond (Nat.beq b 24576) [0, 3, 4, 5, 6] (
  cond (Nat.beq b 57344) [1, 3, 4] (
  cond (Nat.beq b 57346) [1, 3, 5] (
  cond (Nat.beq b 57348) [1, 3, 6] (
  cond (Nat.beq b 57350) [1, 3, 7] (
  cond (Nat.beq b 77824) [1, 2, 7, 8] (
  cond (Nat.beq b 81920) [0, 1, 2, 6] (
  cond (Nat.beq b 94208) [0, 1, 4] (
  cond (Nat.beq b 102400) [0, 3, 5, 6, 14, 15, 16] (
  cond (Nat.beq b 106496) [1, 12, 13, 14] (
  cond (Nat.beq b 114688) [0, 3, 4] (
  cond (Nat.beq b 131072) [0, 1, 5] (
  cond (Nat.beq b 135168) [0, 3, 5, 6, 14, 15, 16] (
  cond (Nat.beq b 139264) [0, 1, 5, 6, 7] (
  cond (Nat.beq b 139266) [0, 1, 5, 6, 7, 8, 9] (
  cond (Nat.beq b 143360) [0, 3, 11, 12, 13] (
  cond (Nat.beq b 147456) [0, 3, 4] (
  cond (Nat.beq b 155648) [1, 12, 13, 14] (
  cond (Nat.beq b 159744) [0, 1, 5] (
  cond (Nat.beq b 176128) [1, 5, 8, 9, 10] (
  cond (Nat.beq b 180224) [1, 7, 8, 9] (
  cond (Nat.beq b 184320) [1, 5, 8, 9, 10] (
  cond (Nat.beq b 188416) [1, 7, 8, 9] (
  cond (Nat.beq b 192512) [0, 1, 5] (
  []))))))))))))))))))))))))))))))))
end Go.Proofs
namespace Go.Proofs.R1
open Go Go.AE
theorem tabOk : TabOk Try.prog Try.tab := tabOk_of_check (by kernel_rfl)
theorem mixed : Try.prog.follows .mixedOrders = true := Checked.mixed Try.checked
def chk (e s l : Int) : Int := if 1 ≤ e ∧ e ≤ 24 ∧ 1 ≤ s ∧ s ≤ 8 ∧ 24 ≤ l ∧ l ≤ 200 then 0 else 3
noncomputable def env0 : Env := [(42, inl Try.f42)]
theorem env0Ok : EnvOk Try.prog env0 := EnvOk.cons (specInl Try.func42 (by kernel_rfl) (by decide +kernel)) EnvOk.nil
noncomputable def b11 : Code := Try.f11.body.getD .skip
--@ fn 11
noncomputable def ann11 : Ann := .none
theorem ann11_ok : AnnOk Try.prog 19 b11 ann11 := (annOk_none _ _ _)
abbrev A11 := (Int) × (Int) × (Int)
def args11 : A11 → List AV := fun (a, b, c) => [AV.agg [AV.int IntKind.i64 a, AV.int IntKind.i64 b, AV.int IntKind.i64 c]]
def decA11 (l : List AV) : Option A11 := match l with
  | [AV.agg [AV.int IntKind.i64 a, AV.int IntKind.i64 b, AV.int IntKind.i64 c]] => some (a, b, c)
  | _ => none
theorem decA11_ok (l : List AV) (a : A11) (h : decA11 l = some a) : l = args11 a := by
  unfold decA11 at h
  split at h
  · cases h; rfl
  · cases h
noncomputable def fn11 : A11 → (AV → Ans) → Ans := fun (a, b, c) K => (bif decide (a ≥ (1 : Int)) then (bif !decide (a ≤ (24 : Int)) then (K (AV.int IntKind.i64 (3 : Int))) else (bif decide (b ≥ (1 : Int)) then (bif !decide (b ≤ (8 : Int)) then (K (AV.int IntKind.i64 (3 : Int))) else (bif decide (c ≥ (24 : Int)) then (bif !decide (c ≤ (200 : Int)) then (K (AV.int IntKind.i64 (3 : Int))) else (K (AV.int IntKind.i64 (0 : Int)))) else (K (AV.int IntKind.i64 (3 : Int))))) else (K (AV.int IntKind.i64 (3 : Int))))) else (K (AV.int IntKind.i64 (3 : Int))))
theorem fn11_ok (a : A11) : fnE Try.tab env0 Try.hint 2 70 11 Try.f11.ntmps Try.f11.results.toList ann11 b11 (args11 a) [] (fun v _ => some (v, [])) = fn11 a (fun v => some (v, [])) := by kernel_rfl
def v11 : A11 → (AV → Ans) → Ans := fun (a, b, c) K => K (.int .i64 (chk a b c))
theorem v11_ok (a : A11) (K : AV → Ans) (res : AV × List AE.Obj) (h : v11 a K = some res) : ∃ r, r.closed1 = true ∧ K r = some res ∧ fn11 a (fun v => some (v, [])) = some (r, []) := by
  obtain ⟨a, b, c⟩ := a
  refine ⟨_, rfl, h, ?_⟩
  simp only [fn11, chk]
  by_cases h1 : 1 ≤ a <;> by_cases h2 : a ≤ 24 <;> by_cases h3 : 1 ≤ b <;> by_cases h4 : b ≤ 8 <;> by_cases h5 : 24 ≤ c <;> by_cases h6 : c ≤ 200 <;> simp [h1, h2, h3, h4, h5, h6]
noncomputable def F11 : List AV → (AV → Ans) → Ans := fun l K => bindO (decA11 l) fun a => v11 a K
theorem F11_ok : PureOk Try.prog 11 F11 := pure_mk mixed tabOk env0Ok Try.func11 (bodySome (by kernel_rfl)) (by decide +kernel) ann11_ok decA11_ok fn11_ok v11_ok
noncomputable def b12 : Code := Try.f12.body.getD .skip
--@ fn 12
noncomputable def ann12 : Ann := .none
theorem ann12_ok : AnnOk Try.prog 31 b12 ann12 := (annOk_none _ _ _)
abbrev A12 := (Int) × (Int) × (Int)
def args12 : A12 → List AV := fun (a, b, c) => [AV.agg [AV.int IntKind.i64 a, AV.int IntKind.i64 b, AV.int IntKind.i64 c]]
def decA12 (l : List AV) : Option A12 := match l with
  | [AV.agg [AV.int IntKind.i64 a, AV.int IntKind.i64 b, AV.int IntKind.i64 c]] => some (a, b, c)
  | _ => none
theorem decA12_ok (l : List AV) (a : A12) (h : decA12 l = some a) : l = args12 a := by
  unfold decA12 at h
  split at h
  · cases h; rfl
  · cases h
noncomputable def fn12 : A12 → (AV → Ans) → Ans := fun (a, b, c) K => (bif decide (a < (1 : Int)) then (K (AV.int IntKind.i64 (3 : Int))) else (bif decide (a > (24 : Int)) then (K (AV.int IntKind.i64 (3 : Int))) else (bif decide (b < (1 : Int)) then (K (AV.int IntKind.i64 (3 : Int))) else (bif decide (b > (8 : Int)) then (K (AV.int IntKind.i64 (3 : Int))) else (bif decide (c < (24 : Int)) then (K (AV.int IntKind.i64 (3 : Int))) else (bif decide (c > (200 : Int)) then (K (AV.int IntKind.i64 (3 : Int))) else (K (AV.int IntKind.i64 (0 : Int)))))))))
theorem fn12_ok (a : A12) : fnE Try.tab env0 Try.hint 2 70 12 Try.f12.ntmps Try.f12.results.toList ann12 b12 (args12 a) [] (fun v _ => some (v, [])) = fn12 a (fun v => some (v, [])) := by kernel_rfl
def v12 : A12 → (AV → Ans) → Ans := fun (a, b, c) K => K (.int .i64 (chk a b c))
theorem v12_ok (a : A12) (K : AV → Ans) (res : AV × List AE.Obj) (h : v12 a K = some res) : ∃ r, r.closed1 = true ∧ K r = some res ∧ fn12 a (fun v => some (v, [])) = some (r, []) := by
  obtain ⟨a, b, c⟩ := a
  refine ⟨_, rfl, h, ?_⟩
  simp only [fn12, chk]
  by_cases h1 : a < 1 <;> by_cases h2 : a > 24 <;> by_cases h3 : b < 1 <;> by_cases h4 : b > 8 <;> by_cases h5 : c < 24 <;> by_cases h6 : c > 200 <;> simp [h1, h2, h3, h4, h5, h6] <;> omega
noncomputable def F12 : List AV → (AV → Ans) → Ans := fun l K => bindO (decA12 l) fun a => v12 a K
theorem F12_ok : PureOk Try.prog 12 F12 := pure_mk mixed tabOk env0Ok Try.func12 (bodySome (by kernel_rfl)) (by decide +kernel) ann12_ok decA12_ok fn12_ok v12_ok
noncomputable def env1 : Env := [(11, .pure F11), (12, .pure F12)]
theorem env1Ok : EnvOk Try.prog env1 := EnvOk.cons F11_ok (EnvOk.cons F12_ok EnvOk.nil)
noncomputable def b14 : Code := Try.f14.body.getD .skip
--@ loop 14_3
noncomputable def L14_3 : Code := codeAt [1, 1, 1, 1, 1, 1, 0, 1, 0, 0] b14
abbrev I14_3 := (Int) × (Int) × (Int)
abbrev V14_3 := (Int) × (List (Int × Int))
def S14_3 : I14_3 → V14_3 → St := fun (o0_0, o0_1, o0_2) (t7, o1) => { env := [(1, AV.ptr 0 0), (3, AV.own 1), (7, AV.int IntKind.i64 t7)], stk := [[]], H := [AE.Obj.cells [AV.int IntKind.i64 o0_0, AV.int IntKind.i64 o0_1, AV.int IntKind.i64 o0_2], Obj.arr (Ty.st (Ty.pair (Ty.int IntKind.i64) (Ty.int IntKind.i64))) o1], blk := 57350 }
def dec14_3 (s : St) : Option (I14_3 × V14_3) := match s with
  | { env := [(1, AV.ptr 0 0), (3, AV.own 1), (7, AV.int IntKind.i64 t7)], stk := [[]], H := [AE.Obj.cells [AV.int IntKind.i64 o0_0, AV.int IntKind.i64 o0_1, AV.int IntKind.i64 o0_2], Obj.arr (Ty.st (Ty.pair (Ty.int IntKind.i64) (Ty.int IntKind.i64))) o1], blk := 57350 } => some ((o0_0, o0_1, o0_2), (t7, o1))
  | _ => none
theorem dec14_3_ok (s : St) (x : I14_3 × V14_3) (h : dec14_3 s = some x) : s = S14_3 x.1 x.2 := by
  unfold dec14_3 at h
  split at h
  · cases h; rfl
  · cases h
abbrev Y14_3 := ((List (Int × Int)))
def out14_3 : I14_3 → (Ex → St → Ans) → Y14_3 → Ans := fun (o0_0, o0_1, o0_2) K y => (fun o1_y3 => K (Ex.exit 6) { env := [(3, AV.own 1)], stk := [[]], H := [AE.Obj.cells [AV.int IntKind.i64 o0_0, AV.int IntKind.i64 o0_1, AV.int IntKind.i64 o0_2], Obj.arr (Ty.st (Ty.pair (Ty.int IntKind.i64) (Ty.int IntKind.i64))) o1_y3], blk := 57350 }) y
noncomputable def step14_3 : I14_3 → V14_3 → (V14_3 → Ans) → (Y14_3 → Ans) → Ans := fun (o0_0, o0_1, o0_2) (t7, o1) next exit => (bif decide (t7 < o0_2) then (bif Nat.ble ((List.length o1 + List.length [((5 : Int), (0 : Int))]) * 16) (140737488355328 : Nat) then (next (IntKind.wrap IntKind.i64 (t7 + (1 : Int)), o1 ++ [((5 : Int), (0 : Int))])) else none) else (exit (o1)))
noncomputable def annL14_3 : Ann := .pack 0 (.loop .none)
theorem annL14_3_ok : AnnOk Try.prog 64 (.loop L14_3) annL14_3 := annOk_pack (annOk_loop (annOk_none _ _ _))
theorem step14_3_ok (n : Nat) (i : I14_3) (v : V14_3) (K : Ex → St → Ans) : codeI Try.tab env1 Try.hint (codeD Try.tab env1 Try.hint 0 64) (n+1) 64 annL14_3 (.loop L14_3) (weak [3] K) (S14_3 i v) = step14_3 i v (fun v' => codeI Try.tab env1 Try.hint (codeD Try.tab env1 Try.hint 0 64) n 64 annL14_3 (.loop L14_3) (weak [3] K) (S14_3 i v')) (fun y => out14_3 i K y) := by kernel_rfl
def R14_3 : I14_3 → V14_3 → Option Y14_3 := fun (_, _, c) (t, l) => if t = 0 ∧ 24 ≤ c ∧ c ≤ 200 ∧ l.length ≤ 1000 then some (l ++ (List.range c.toNat).map fun _ : Nat => (5, 0)) else none
theorem R14_3_ok (i : I14_3) (v : V14_3) (z : Y14_3) (h : R14_3 i v = some z) : ∃ n, ∀ k, iterK (step14_3 i) n v k = k z := by
  obtain ⟨a, b, c⟩ := i; obtain ⟨t, l⟩ := v
  simp only [R14_3] at h
  split at h
  · rename_i hh; obtain ⟨rfl, h1, h2, hl⟩ := hh
    cases h
    exact count_up (M := c) (w := 16) (g := fun _ => (5, 0)) (fun l => l) (by omega) (by omega) (by omega) (by omega) (fun t l next k => rfl) rfl
  · cases h
noncomputable def G14_3 : (Ex → St → Ans) → St → Ans := sumG dec14_3 R14_3 out14_3
theorem G14_3_ok : LSum Try.prog 64 L14_3 G14_3 := lsum_iter mixed tabOk env1Ok [3] annL14_3_ok dec14_3_ok step14_3_ok R14_3_ok
--@ loop 14_2
noncomputable def L14_2 : Code := codeAt [1, 1, 1, 1, 1, 0, 1, 0, 0] b14
abbrev I14_2 := (Int) × (Int) × (Int)
abbrev V14_2 := (Int) × (List (Int × Int))
def S14_2 : I14_2 → V14_2 → St := fun (o0_0, o0_1, o0_2) (t6, o1) => { env := [(1, AV.ptr 0 0), (3, AV.own 1), (6, AV.int IntKind.i64 t6)], stk := [[]], H := [AE.Obj.cells [AV.int IntKind.i64 o0_0, AV.int IntKind.i64 o0_1, AV.int IntKind.i64 o0_2], Obj.arr (Ty.st (Ty.pair (Ty.int IntKind.i64) (Ty.int IntKind.i64))) o1], blk := 57348 }
def dec14_2 (s : St) : Option (I14_2 × V14_2) := match s with
  | { env := [(1, AV.ptr 0 0), (3, AV.own 1), (6, AV.int IntKind.i64 t6)], stk := [[]], H := [AE.Obj.cells [AV.int IntKind.i64 o0_0, AV.int IntKind.i64 o0_1, AV.int IntKind.i64 o0_2], Obj.arr (Ty.st (Ty.pair (Ty.int IntKind.i64) (Ty.int IntKind.i64))) o1], blk := 57348 } => some ((o0_0, o0_1, o0_2), (t6, o1))
  | _ => none
theorem dec14_2_ok (s : St) (x : I14_2 × V14_2) (h : dec14_2 s = some x) : s = S14_2 x.1 x.2 := by
  unfold dec14_2 at h
  split at h
  · cases h; rfl
  · cases h
abbrev Y14_2 := ((List (Int × Int)))
def out14_2 : I14_2 → (Ex → St → Ans) → Y14_2 → Ans := fun (o0_0, o0_1, o0_2) K y => (fun o1_y3 => K (Ex.exit 4) { env := [(1, AV.ptr 0 0), (3, AV.own 1)], stk := [[]], H := [AE.Obj.cells [AV.int IntKind.i64 o0_0, AV.int IntKind.i64 o0_1, AV.int IntKind.i64 o0_2], Obj.arr (Ty.st (Ty.pair (Ty.int IntKind.i64) (Ty.int IntKind.i64))) o1_y3], blk := 57348 }) y
noncomputable def step14_2 : I14_2 → V14_2 → (V14_2 → Ans) → (Y14_2 → Ans) → Ans := fun (o0_0, o0_1, o0_2) (t6, o1) next exit => (bif decide (t6 < IntKind.wrap IntKind.i64 ((5 : Int) * o0_1)) then (bif Nat.ble ((List.length o1 + List.length [((4 : Int), IntKind.wrap IntKind.i64 (Int.tdiv t6 (5 : Int)))]) * 16) (140737488355328 : Nat) then (next (IntKind.wrap IntKind.i64 (t6 + (1 : Int)), o1 ++ [((4 : Int), IntKind.wrap IntKind.i64 (Int.tdiv t6 (5 : Int)))])) else none) else (exit (o1)))
noncomputable def annL14_2 : Ann := .pack 0 (.loop .none)
theorem annL14_2_ok : AnnOk Try.prog 64 (.loop L14_2) annL14_2 := annOk_pack (annOk_loop (annOk_none _ _ _))
theorem step14_2_ok (n : Nat) (i : I14_2) (v : V14_2) (K : Ex → St → Ans) : codeI Try.tab env1 Try.hint (codeD Try.tab env1 Try.hint 0 64) (n+1) 64 annL14_2 (.loop L14_2) (weak [1, 3] K) (S14_2 i v) = step14_2 i v (fun v' => codeI Try.tab env1 Try.hint (codeD Try.tab env1 Try.hint 0 64) n 64 annL14_2 (.loop L14_2) (weak [1, 3] K) (S14_2 i v')) (fun y => out14_2 i K y) := by kernel_rfl
def R14_2 : I14_2 → V14_2 → Option Y14_2 := fun (_, b, _) (t, l) => if t = 0 ∧ 1 ≤ b ∧ b ≤ 8 ∧ l.length ≤ 1000 then some (l ++ (List.range (5 * b).toNat).map fun j : Nat => (4, (j : Int) / 5)) else none
theorem R14_2_ok (i : I14_2) (v : V14_2) (z : Y14_2) (h : R14_2 i v = some z) : ∃ n, ∀ k, iterK (step14_2 i) n v k = k z := by
  obtain ⟨a, b, c⟩ := i; obtain ⟨t, l⟩ := v
  simp only [R14_2] at h
  split at h
  · rename_i hh; obtain ⟨rfl, h1, h2, hl⟩ := hh
    cases h
    refine count_up (M := 5 * b) (w := 16) (g := fun t => (4, IntKind.wrap .i64 (Int.tdiv t 5))) (fun l => l) (by omega) (by omega) (by omega) (by omega) ?_ ?_
    · intro t l next k
      simp only [step14_2]
      rw [wrap64 (x := 5 * b) (by omega) (by omega)]
      rfl
    · simp only [List.append_cancel_left_eq]
      apply List.map_congr_left
      intro j hj
      rw [List.mem_range] at hj
      rw [Int.tdiv_eq_ediv_of_nonneg (by omega), wrap64 (by omega) (by omega)]
  · cases h
noncomputable def G14_2 : (Ex → St → Ans) → St → Ans := sumG dec14_2 R14_2 out14_2
theorem G14_2_ok : LSum Try.prog 64 L14_2 G14_2 := lsum_iter mixed tabOk env1Ok [1, 3] annL14_2_ok dec14_2_ok step14_2_ok R14_2_ok
--@ loop 14_1
noncomputable def L14_1 : Code := codeAt [1, 1, 1, 1, 0, 1, 0, 0] b14
abbrev I14_1 := (Int) × (Int) × (Int)
abbrev V14_1 := (Int) × (List (Int × Int))
def S14_1 : I14_1 → V14_1 → St := fun (o0_0, o0_1, o0_2) (t5, o1) => { env := [(1, AV.ptr 0 0), (3, AV.own 1), (5, AV.int IntKind.i64 t5)], stk := [[]], H := [AE.Obj.cells [AV.int IntKind.i64 o0_0, AV.int IntKind.i64 o0_1, AV.int IntKind.i64 o0_2], Obj.arr (Ty.st (Ty.pair (Ty.int IntKind.i64) (Ty.int IntKind.i64))) o1], blk := 57346 }
def dec14_1 (s : St) : Option (I14_1 × V14_1) := match s with
  | { env := [(1, AV.ptr 0 0), (3, AV.own 1), (5, AV.int IntKind.i64 t5)], stk := [[]], H := [AE.Obj.cells [AV.int IntKind.i64 o0_0, AV.int IntKind.i64 o0_1, AV.int IntKind.i64 o0_2], Obj.arr (Ty.st (Ty.pair (Ty.int IntKind.i64) (Ty.int IntKind.i64))) o1], blk := 57346 } => some ((o0_0, o0_1, o0_2), (t5, o1))
  | _ => none
theorem dec14_1_ok (s : St) (x : I14_1 × V14_1) (h : dec14_1 s = some x) : s = S14_1 x.1 x.2 := by
  unfold dec14_1 at h
  split at h
  · cases h; rfl
  · cases h
abbrev Y14_1 := ((List (Int × Int)))
def out14_1 : I14_1 → (Ex → St → Ans) → Y14_1 → Ans := fun (o0_0, o0_1, o0_2) K y => (fun o1_y3 => K (Ex.exit 2) { env := [(1, AV.ptr 0 0), (3, AV.own 1)], stk := [[]], H := [AE.Obj.cells [AV.int IntKind.i64 o0_0, AV.int IntKind.i64 o0_1, AV.int IntKind.i64 o0_2], Obj.arr (Ty.st (Ty.pair (Ty.int IntKind.i64) (Ty.int IntKind.i64))) o1_y3], blk := 57346 }) y
noncomputable def step14_1 : I14_1 → V14_1 → (V14_1 → Ans) → (Y14_1 → Ans) → Ans := fun (o0_0, o0_1, o0_2) (t5, o1) next exit => (bif decide (t5 < IntKind.wrap IntKind.i64 ((2 : Int) * o0_0)) then (bif Nat.ble ((List.length o1 + List.length [((3 : Int), IntKind.wrap IntKind.i64 (Int.tdiv t5 (2 : Int)))]) * 16) (140737488355328 : Nat) then (next (IntKind.wrap IntKind.i64 (t5 + (1 : Int)), o1 ++ [((3 : Int), IntKind.wrap IntKind.i64 (Int.tdiv t5 (2 : Int)))])) else none) else (exit (o1)))
noncomputable def annL14_1 : Ann := .pack 0 (.loop .none)
theorem annL14_1_ok : AnnOk Try.prog 64 (.loop L14_1) annL14_1 := annOk_pack (annOk_loop (annOk_none _ _ _))
theorem step14_1_ok (n : Nat) (i : I14_1) (v : V14_1) (K : Ex → St → Ans) : codeI Try.tab env1 Try.hint (codeD Try.tab env1 Try.hint 0 64) (n+1) 64 annL14_1 (.loop L14_1) (weak [1, 3] K) (S14_1 i v) = step14_1 i v (fun v' => codeI Try.tab env1 Try.hint (codeD Try.tab env1 Try.hint 0 64) n 64 annL14_1 (.loop L14_1) (weak [1, 3] K) (S14_1 i v')) (fun y => out14_1 i K y) := by kernel_rfl
def R14_1 : I14_1 → V14_1 → Option Y14_1 := fun (a, _, _) (t, l) => if t = 0 ∧ 1 ≤ a ∧ a ≤ 24 ∧ l.length ≤ 1000 then some (l ++ (List.range (2 * a).toNat).map fun j : Nat => (3, (j : Int) / 2)) else none
theorem R14_1_ok (i : I14_1) (v : V14_1) (z : Y14_1) (h : R14_1 i v = some z) : ∃ n, ∀ k, iterK (step14_1 i) n v k = k z := by
  obtain ⟨a, b, c⟩ := i; obtain ⟨t, l⟩ := v
  simp only [R14_1] at h
  split at h
  · rename_i hh; obtain ⟨rfl, h1, h2, hl⟩ := hh
    cases h
    refine count_up (M := 2 * a) (w := 16) (g := fun t => (3, IntKind.wrap .i64 (Int.tdiv t 2))) (fun l => l) (by omega) (by omega) (by omega) (by omega) ?_ ?_
    · intro t l next k
      simp only [step14_1]
      rw [wrap64 (x := 2 * a) (by omega) (by omega)]
      rfl
    · simp only [List.append_cancel_left_eq]
      apply List.map_congr_left
      intro j hj
      rw [List.mem_range] at hj
      rw [Int.tdiv_eq_ediv_of_nonneg (by omega), wrap64 (by omega) (by omega)]
  · cases h
noncomputable def G14_1 : (Ex → St → Ans) → St → Ans := sumG dec14_1 R14_1 out14_1
theorem G14_1_ok : LSum Try.prog 64 L14_1 G14_1 := lsum_iter mixed tabOk env1Ok [1, 3] annL14_1_ok dec14_1_ok step14_1_ok R14_1_ok
--@ loop 14_0
noncomputable def L14_0 : Code := codeAt [1, 1, 1, 0, 1, 0, 0] b14
abbrev I14_0 := (Int) × (Int) × (Int)
abbrev V14_0 := (Int) × (List (Int × Int))
def S14_0 : I14_0 → V14_0 → St := fun (o0_0, o0_1, o0_2) (t4, o1) => { env := [(1, AV.ptr 0 0), (3, AV.own 1), (4, AV.int IntKind.i64 t4)], stk := [[]], H := [AE.Obj.cells [AV.int IntKind.i64 o0_0, AV.int IntKind.i64 o0_1, AV.int IntKind.i64 o0_2], Obj.arr (Ty.st (Ty.pair (Ty.int IntKind.i64) (Ty.int IntKind.i64))) o1], blk := 57344 }
def dec14_0 (s : St) : Option (I14_0 × V14_0) := match s with
  | { env := [(1, AV.ptr 0 0), (3, AV.own 1), (4, AV.int IntKind.i64 t4)], stk := [[]], H := [AE.Obj.cells [AV.int IntKind.i64 o0_0, AV.int IntKind.i64 o0_1, AV.int IntKind.i64 o0_2], Obj.arr (Ty.st (Ty.pair (Ty.int IntKind.i64) (Ty.int IntKind.i64))) o1], blk := 57344 } => some ((o0_0, o0_1, o0_2), (t4, o1))
  | _ => none
theorem dec14_0_ok (s : St) (x : I14_0 × V14_0) (h : dec14_0 s = some x) : s = S14_0 x.1 x.2 := by
  unfold dec14_0 at h
  split at h
  · cases h; rfl
  · cases h
abbrev Y14_0 := ((List (Int × Int)))
def out14_0 : I14_0 → (Ex → St → Ans) → Y14_0 → Ans := fun (o0_0, o0_1, o0_2) K y => (fun o1_y3 => K (Ex.exit 0) { env := [(1, AV.ptr 0 0), (3, AV.own 1)], stk := [[]], H := [AE.Obj.cells [AV.int IntKind.i64 o0_0, AV.int IntKind.i64 o0_1, AV.int IntKind.i64 o0_2], Obj.arr (Ty.st (Ty.pair (Ty.int IntKind.i64) (Ty.int IntKind.i64))) o1_y3], blk := 57344 }) y
noncomputable def step14_0 : I14_0 → V14_0 → (V14_0 → Ans) → (Y14_0 → Ans) → Ans := fun (o0_0, o0_1, o0_2) (t4, o1) next exit => (bif decide (t4 < IntKind.wrap IntKind.i64 (Int.tdiv (IntKind.wrap IntKind.i64 (o0_0 + (1 : Int))) (2 : Int))) then (bif Nat.ble ((List.length o1 + List.length [((2 : Int), t4)]) * 16) (140737488355328 : Nat) then (next (IntKind.wrap IntKind.i64 (t4 + (1 : Int)), o1 ++ [((2 : Int), t4)])) else none) else (exit (o1)))
noncomputable def annL14_0 : Ann := .pack 0 (.loop .none)
theorem annL14_0_ok : AnnOk Try.prog 64 (.loop L14_0) annL14_0 := annOk_pack (annOk_loop (annOk_none _ _ _))
theorem step14_0_ok (n : Nat) (i : I14_0) (v : V14_0) (K : Ex → St → Ans) : codeI Try.tab env1 Try.hint (codeD Try.tab env1 Try.hint 0 64) (n+1) 64 annL14_0 (.loop L14_0) (weak [1, 3] K) (S14_0 i v) = step14_0 i v (fun v' => codeI Try.tab env1 Try.hint (codeD Try.tab env1 Try.hint 0 64) n 64 annL14_0 (.loop L14_0) (weak [1, 3] K) (S14_0 i v')) (fun y => out14_0 i K y) := by kernel_rfl
def R14_0 : I14_0 → V14_0 → Option Y14_0 := fun (a, _, _) (t, l) => if t = 0 ∧ 1 ≤ a ∧ a ≤ 24 ∧ l.length ≤ 1000 then some (l ++ (List.range ((a + 1) / 2).toNat).map fun j : Nat => (2, (j : Int))) else none
theorem R14_0_ok (i : I14_0) (v : V14_0) (z : Y14_0) (h : R14_0 i v = some z) : ∃ n, ∀ k, iterK (step14_0 i) n v k = k z := by
  obtain ⟨a, b, c⟩ := i; obtain ⟨t, l⟩ := v
  simp only [R14_0] at h
  split at h
  · rename_i hh; obtain ⟨rfl, h1, h2, hl⟩ := hh
    cases h
    refine count_up (M := (a + 1) / 2) (w := 16) (g := fun t => (2, t)) (fun l => l) (by omega) (by omega) (by omega) (by omega) ?_ rfl
    intro t l next k
    simp only [step14_0]
    rw [wrap64 (x := a + 1) (by omega) (by omega), Int.tdiv_eq_ediv_of_nonneg (by omega), wrap64 (x := (a + 1) / 2) (by omega) (by omega)]
    rfl
  · cases h
noncomputable def G14_0 : (Ex → St → Ans) → St → Ans := sumG dec14_0 R14_0 out14_0
theorem G14_0_ok : LSum Try.prog 64 L14_0 G14_0 := lsum_iter mixed tabOk env1Ok [1, 3] annL14_0_ok dec14_0_ok step14_0_ok R14_0_ok
--@ fn 14
noncomputable def ann14 : Ann := (.seq .none (.seq .none (.seq .none (.seq (.seq .none (.block (.pack 0 (.sum G14_0)))) (.seq (.seq .none (.block (.pack 0 (.sum G14_1)))) (.seq (.seq .none (.block (.pack 0 (.sum G14_2)))) (.seq (.seq .none (.block (.pack 0 (.sum G14_3)))) .none)))))))
theorem ann14_ok : AnnOk Try.prog 64 b14 ann14 := ⟨(annOk_none _ _ _), ⟨(annOk_none _ _ _), ⟨(annOk_none _ _ _), ⟨⟨(annOk_none _ _ _), (annOk_pack (annOk_sum G14_0_ok))⟩, ⟨⟨(annOk_none _ _ _), (annOk_pack (annOk_sum G14_1_ok))⟩, ⟨⟨(annOk_none _ _ _), (annOk_pack (annOk_sum G14_2_ok))⟩, ⟨⟨(annOk_none _ _ _), (annOk_pack (annOk_sum G14_3_ok))⟩, (annOk_none _ _ _)⟩⟩⟩⟩⟩⟩⟩
abbrev A14 := (Int) × (Int) × (Int)
def args14 : A14 → List AV × List AE.Obj := fun (a, b, c) => ([AV.agg [AV.int IntKind.i64 a, AV.int IntKind.i64 b, AV.int IntKind.i64 c]], [])
def decA14 (l : List AV) (H : List AE.Obj) : Option A14 := match l, H with
  | [AV.agg [AV.int IntKind.i64 a, AV.int IntKind.i64 b, AV.int IntKind.i64 c]], [] => some (a, b, c)
  | _, _ => none
theorem decA14_ok (l : List AV) (H : List AE.Obj) (a : A14) (h : decA14 l H = some a) : (l, H) = args14 a := by
  unfold decA14 at h
  split at h
  · cases h; rfl
  · cases h
noncomputable def fn14 : A14 → (AV → List AE.Obj → Ans) → Ans := fun (a, b, c) K => (bif chk a b c != (0 : Int) then (K (AV.own (0)) [Obj.arr (Ty.st (Ty.pair (Ty.int IntKind.i64) (Ty.int IntKind.i64))) []]) else (bindO (R14_0 (a, b, c) ((0 : Int), [((0 : Int), (0 : Int)), ((1 : Int), (0 : Int))])) fun o1 => (bindO (R14_1 (a, b, c) ((0 : Int), o1)) fun o1_2 => (bindO (R14_2 (a, b, c) ((0 : Int), o1_2)) fun o1_3 => (bindO (R14_3 (a, b, c) ((0 : Int), o1_3)) fun o1_4 => (K (AV.own (0)) [Obj.arr (Ty.st (Ty.pair (Ty.int IntKind.i64) (Ty.int IntKind.i64))) o1_4]))))))
theorem fn14_ok (a : A14) (K : AV → List AE.Obj → Ans) : fnE Try.tab env1 Try.hint 0 70 14 Try.f14.ntmps Try.f14.results.toList ann14 b14 (args14 a).1 (args14 a).2 K = fn14 a K := by kernel_rfl
def partsL (a b c : Int) : List (Int × Int) := ((([(0, 0), (1, 0)] ++ (List.range ((a + 1) / 2).toNat).map fun j : Nat => (2, (j : Int))) ++ (List.range (2 * a).toNat).map fun j : Nat => (3, (j : Int) / 2))
  ++ (List.range (5 * b).toNat).map fun j : Nat => (4, (j : Int) / 5)) ++ (List.range c.toNat).map fun _ : Nat => (5, 0)
def parts (a b c : Int) : List (Int × Int) := if chk a b c = 0 then partsL a b c else []
abbrev pT : Ty := .st (.pair (.int .i64) (.int .i64))
theorem chk_zero {a b c : Int} (h : chk a b c = 0) : 1 ≤ a ∧ a ≤ 24 ∧ 1 ≤ b ∧ b ≤ 8 ∧ 24 ≤ c ∧ c ≤ 200 := by
  unfold chk at h
  split at h
  · assumption
  · exact absurd h (by decide)
def v14 : A14 → (AV → List AE.Obj → Ans) → Ans := fun (a, b, c) K => K (.own 0) [.arr pT (parts a b c)]
theorem v14_ok (a : A14) (K : AV → List AE.Obj → Ans) (res : AV × List AE.Obj) (h : v14 a K = some res) : fn14 a K = some res := by
  obtain ⟨a, b, c⟩ := a
  simp only [v14, parts] at h
  simp only [fn14]
  by_cases hc : chk a b c = 0
  · obtain ⟨h1, h2, h3, h4, h5, h6⟩ := chk_zero hc
    rw [if_pos hc] at h
    simp only [hc, bne_self_eq_false, cond_false]
    simp only [R14_0, R14_1, R14_2, R14_3]
    rw [if_pos (by simp; omega)]
    simp only [bindO]
    rw [if_pos (by simp; omega)]
    simp only
    rw [if_pos (by simp; omega)]
    simp only
    rw [if_pos (by simp; omega)]
    exact h
  · rw [if_neg hc] at h
    have : (chk a b c != 0) = true := by simpa using hc
    rw [this, cond_true]
    exact h
noncomputable def F14 : List AV → List AE.Obj → (AV → List AE.Obj → Ans) → Ans := fun l H K => bindO (decA14 l H) fun a => v14 a K
theorem F14_ok : FuncOk Try.prog 14 F14 := func_mk mixed tabOk env1Ok Try.func14 (bodySome (by kernel_rfl)) (by decide +kernel) ann14_ok decA14_ok fn14_ok v14_ok
noncomputable def env2 : Env := [(14, .func F14)]
theorem env2Ok : EnvOk Try.prog env2 := EnvOk.cons F14_ok EnvOk.nil
noncomputable def b19 : Code := Try.f19.body.getD .skip
--@ loop 19_0
noncomputable def L19_0 : Code := codeAt [1, 1, 0, 1, 0, 0] b19
abbrev I19_0 := (Int) × (Int) × (List (Int × Int))
abbrev V19_0 := (Int)
def S19_0 : I19_0 → V19_0 → St := fun (t1, t2, o0) t8 => { env := [(1, AV.int IntKind.i64 t1), (2, AV.int IntKind.i64 t2), (7, AV.own 0), (8, AV.int IntKind.i64 t8)], stk := [[]], H := [Obj.arr (Ty.st (Ty.pair (Ty.int IntKind.i64) (Ty.int IntKind.i64))) o0], blk := 77824 }
def dec19_0 (s : St) : Option (I19_0 × V19_0) := match s with
  | { env := [(1, AV.int IntKind.i64 t1), (2, AV.int IntKind.i64 t2), (7, AV.own 0), (8, AV.int IntKind.i64 t8)], stk := [[]], H := [Obj.arr (Ty.st (Ty.pair (Ty.int IntKind.i64) (Ty.int IntKind.i64))) o0], blk := 77824 } => some ((t1, t2, o0), t8)
  | _ => none
theorem dec19_0_ok (s : St) (x : I19_0 × V19_0) (h : dec19_0 s = some x) : s = S19_0 x.1 x.2 := by
  unfold dec19_0 at h
  split at h
  · cases h; rfl
  · cases h
abbrev Y19_0 := (Unit) ⊕ ((Int))
def out19_0 : I19_0 → (Ex → St → Ans) → Y19_0 → Ans := fun (t1, t2, o0) K y => Sum.elim (fun _ => K (Ex.exit 0) { env := [(6, AV.unk)], stk := [[]], H := [], blk := 77824 }) (fun t6_y0 => K (Ex.ret) { env := [(6, AV.int IntKind.i64 t6_y0)], stk := [[]], H := [], blk := 77825 }) y
noncomputable def step19_0 : I19_0 → V19_0 → (V19_0 → Ans) → (Y19_0 → Ans) → Ans := fun (t1, t2, o0) t8 next exit => (bif decide (t8 < ↑(List.length o0)) then (bif inR t8 (List.length o0) then (bindO (o0[Int.toNat t8]?) fun x => (bif x.fst == t1 then (bif inR t8 (List.length o0) then (bindO (o0[Int.toNat t8]?) fun x_2 => (bif x_2.snd == t2 then (exit (Sum.inr (t8))) else (next (IntKind.wrap IntKind.i64 (t8 + (1 : Int)))))) else none) else (next (IntKind.wrap IntKind.i64 (t8 + (1 : Int)))))) else none) else (exit (Sum.inl ())))
noncomputable def annL19_0 : Ann := .pack 0 (.loop .none)
theorem annL19_0_ok : AnnOk Try.prog 34 (.loop L19_0) annL19_0 := annOk_pack (annOk_loop (annOk_none _ _ _))
theorem step19_0_ok (n : Nat) (i : I19_0) (v : V19_0) (K : Ex → St → Ans) : codeI Try.tab env2 Try.hint (codeD Try.tab env2 Try.hint 0 64) (n+1) 34 annL19_0 (.loop L19_0) (weak [6] K) (S19_0 i v) = step19_0 i v (fun v' => codeI Try.tab env2 Try.hint (codeD Try.tab env2 Try.hint 0 64) n 34 annL19_0 (.loop L19_0) (weak [6] K) (S19_0 i v')) (fun y => out19_0 i K y) := by kernel_rfl
/-- Where it is first, from a place on. -/
def fI (p m : Int) : List (Int × Int) → Nat → Option Nat
  | [], _ => none
  | x :: r, i => if x.1 = p ∧ x.2 = m then some i else fI p m r (i + 1)
theorem fI_spec (p m : Int) : ∀ (l : List (Int × Int)) (i : Nat), match fI p m l i with
    | none => ∀ (j : Nat) (x : Int × Int), l[j]? = some x → ¬ (x.1 = p ∧ x.2 = m)
    | some n => i ≤ n ∧ (∀ (j : Nat) (x : Int × Int), j < n - i → l[j]? = some x → ¬ (x.1 = p ∧ x.2 = m)) ∧ ∃ x : Int × Int, l[n - i]? = some x ∧ x.1 = p ∧ x.2 = m
  | [], i => by simp [fI]
  | x :: r, i => by
    rw [fI]
    by_cases h : x.1 = p ∧ x.2 = m
    · rw [if_pos h]
      exact ⟨Nat.le_refl _, fun j y hj => by omega, x, by simp, h⟩
    · rw [if_neg h]
      have ih := fI_spec p m r (i + 1)
      cases hf : fI p m r (i + 1) with
      | none =>
        rw [hf] at ih
        intro j y hj
        cases j with
        | zero => simp at hj; subst hj; exact h
        | succ j => exact ih j y (by simpa using hj)
      | some n =>
        rw [hf] at ih
        obtain ⟨h1, h2, y, h3, h4⟩ := ih
        refine ⟨by omega, fun j y hjn hj => ?_, y, ?_, h4⟩
        · cases j with
          | zero => simp at hj; subst hj; exact h
          | succ j => exact h2 j y (by omega) (by simpa using hj)
        · rw [show n - i = (n - (i + 1)) + 1 by omega]; simpa using h3
def R19_0 : I19_0 → V19_0 → Option Y19_0 := fun (p, m, l) i => if i = 0 ∧ l.length ≤ 100000 then some (match fI p m l 0 with | none => Sum.inl () | some n => Sum.inr (n : Int)) else none
theorem step19_at (p m : Int) (l : List (Int × Int)) (hl : l.length ≤ 100000) (j : Nat) (x : Int × Int) (hx : l[j]? = some x) (next : V19_0 → Ans) (k : Y19_0 → Ans) :
    step19_0 (p, m, l) (j : Int) next k = if x.1 = p ∧ x.2 = m then k (Sum.inr (j : Int)) else next ((j + 1 : Nat) : Int) := by
  have hj : j < l.length := (List.getElem?_eq_some_iff.1 hx).1
  have h1 : (j : Int) < (l.length : Int) := by omega
  have h2 : inR (j : Int) l.length = true := by simp [inR]; omega
  simp only [step19_0, h1, decide_true, cond_true, h2, Int.toNat_natCast, hx, bindO]
  rw [wrap64 (by omega) (by omega)]
  by_cases hp : x.1 = p <;> by_cases hm : x.2 = m <;> simp [Bool.cond_eq_ite, hp, hm]
theorem R19_0_ok (i : I19_0) (v : V19_0) (z : Y19_0) (h : R19_0 i v = some z) : ∃ n, ∀ k, iterK (step19_0 i) n v k = k z := by
  obtain ⟨p, m, l⟩ := i
  simp only [R19_0] at h
  split at h
  · rename_i hh; obtain ⟨rfl, hl⟩ := hh
    cases h
    have sp := fI_spec p m l 0
    cases hf : fI p m l 0 with
    | none =>
      rw [hf] at sp
      refine iterK_up (fun j => (j : Int)) l.length rfl (fun j hj next k => ?_) (fun next k => ?_)
      · rw [step19_at p m l hl j l[j] (by simp [hj]), if_neg (sp j _ (by simp [hj]))]
      · simp [step19_0]
    | some n =>
      rw [hf] at sp
      obtain ⟨_, h2, x, h3, h4⟩ := sp
      have hn : n < l.length := (List.getElem?_eq_some_iff.1 h3).1
      refine iterK_up (fun j => (j : Int)) n rfl (fun j hj next k => ?_) (fun next k => ?_)
      · have hjl : j < l.length := by omega
        rw [step19_at p m l hl j l[j] (by simp [hjl]), if_neg (h2 j _ (by omega) (by simp [hjl]))]
      · rw [step19_at p m l hl n x h3, if_pos h4]
  · cases h
noncomputable def G19_0 : (Ex → St → Ans) → St → Ans := sumG dec19_0 R19_0 out19_0
theorem G19_0_ok : LSum Try.prog 34 L19_0 G19_0 := lsum_iter mixed tabOk env2Ok [6] annL19_0_ok dec19_0_ok step19_0_ok R19_0_ok
--@ fn 19
noncomputable def ann19 : Ann := (.seq .none (.seq .none (.seq (.seq .none (.block (.pack 0 (.sum G19_0)))) .none)))
theorem ann19_ok : AnnOk Try.prog 34 b19 ann19 := ⟨(annOk_none _ _ _), ⟨(annOk_none _ _ _), ⟨⟨(annOk_none _ _ _), (annOk_pack (annOk_sum G19_0_ok))⟩, (annOk_none _ _ _)⟩⟩⟩
abbrev A19 := (Int) × (Int) × (Int) × (Int) × (Int)
def args19 : A19 → List AV := fun (a, b, c, p, m) => [AV.agg [AV.int IntKind.i64 a, AV.int IntKind.i64 b, AV.int IntKind.i64 c], AV.int IntKind.i64 p, AV.int IntKind.i64 m]
def decA19 (l : List AV) : Option A19 := match l with
  | [AV.agg [AV.int IntKind.i64 a, AV.int IntKind.i64 b, AV.int IntKind.i64 c], AV.int IntKind.i64 p, AV.int IntKind.i64 m] => some (a, b, c, p, m)
  | _ => none
theorem decA19_ok (l : List AV) (a : A19) (h : decA19 l = some a) : l = args19 a := by
  unfold decA19 at h
  split at h
  · cases h; rfl
  · cases h
noncomputable def fn19 : A19 → (AV → Ans) → Ans := fun (a, b, c, p, m) K => (bindO (R19_0 (p, m, parts a b c) ((0 : Int))) fun y => Sum.elim (fun _ => (K (AV.int IntKind.i64 (-1 : Int)))) (fun t6 => (K (AV.int IntKind.i64 t6))) y)
theorem fn19_ok (a : A19) : fnE Try.tab env2 Try.hint 0 70 19 Try.f19.ntmps Try.f19.results.toList ann19 b19 (args19 a) [] (fun v _ => some (v, [])) = fn19 a (fun v => some (v, [])) := by kernel_rfl
def first (a b c p m : Int) : Int := match fI p m (parts a b c) 0 with | none => -1 | some n => (n : Int)
theorem parts_len (a b c : Int) : (parts a b c).length ≤ 1000 := by
  unfold parts
  split
  · rename_i h
    have := chk_zero h
    simp [partsL]; omega
  · simp
def v19 : A19 → (AV → Ans) → Ans := fun (a, b, c, p, m) K => K (.int .i64 (first a b c p m))
theorem v19_ok (a : A19) (K : AV → Ans) (res : AV × List AE.Obj) (h : v19 a K = some res) : ∃ r, r.closed1 = true ∧ K r = some res ∧ fn19 a (fun v => some (v, [])) = some (r, []) := by
  obtain ⟨a, b, c, p, m⟩ := a
  refine ⟨_, rfl, h, ?_⟩
  have := parts_len a b c
  simp only [fn19, R19_0, first]
  rw [if_pos (by simp; omega)]
  cases fI p m (parts a b c) 0 <;> simp [bindO]
noncomputable def F19 : List AV → (AV → Ans) → Ans := fun l K => bindO (decA19 l) fun a => v19 a K
theorem F19_ok : PureOk Try.prog 19 F19 := pure_mk mixed tabOk env2Ok Try.func19 (bodySome (by kernel_rfl)) (by decide +kernel) ann19_ok decA19_ok fn19_ok v19_ok
end Go.Proofs.R1
namespace Go.Proofs.R1
open Go Go.AE
noncomputable def envN : Env := []
theorem envNOk : EnvOk Try.prog envN := EnvOk.nil
noncomputable def b44 : Code := Try.f44.body.getD .skip
--@ loop 44_0
noncomputable def L44_0 : Code := codeAt [1, 0, 1, 0, 0] b44
abbrev I44_0 := (List UInt8) × (List (List UInt8)) × (Int)
abbrev V44_0 := (Int)
def S44_0 : I44_0 → V44_0 → St := fun (t1, t7, t8) t9 => { env := [(1, AV.str t1), (7, AV.ro Ty.str t7), (8, AV.int IntKind.i64 t8), (9, AV.int IntKind.i64 t9)], stk := [[]], H := [], blk := 180224 }
def dec44_0 (s : St) : Option (I44_0 × V44_0) := match s with
  | { env := [(1, AV.str t1), (7, AV.ro Ty.str t7), (8, AV.int IntKind.i64 t8), (9, AV.int IntKind.i64 t9)], stk := [[]], H := [], blk := 180224 } => some ((t1, t7, t8), t9)
  | _ => none
theorem dec44_0_ok (s : St) (x : I44_0 × V44_0) (h : dec44_0 s = some x) : s = S44_0 x.1 x.2 := by
  unfold dec44_0 at h
  split at h
  · cases h; rfl
  · cases h
abbrev Y44_0 := (Unit) ⊕ (Unit)
def out44_0 : I44_0 → (Ex → St → Ans) → Y44_0 → Ans := fun (t1, t7, t8) K y => Sum.elim (fun _ => K (Ex.exit 0) { env := [(4, AV.unk)], stk := [[]], H := [], blk := 180224 }) (fun _ => K (Ex.ret) { env := [(4, AV.bool (true))], stk := [[]], H := [], blk := 180225 }) y
noncomputable def step44_0 : I44_0 → V44_0 → (V44_0 → Ans) → (Y44_0 → Ans) → Ans := fun (t1, t7, t8) t9 next exit => (bif decide (t9 < t8) then (bindO (nth t7 t9) fun x_2 => (bif x_2 == t1 then (exit (Sum.inr ())) else (next (IntKind.wrap IntKind.i64 (t9 + (1 : Int)))))) else (exit (Sum.inl ())))
noncomputable def annL44_0 : Ann := .pack 0 (.loop .none)
theorem annL44_0_ok : AnnOk Try.prog 17 (.loop L44_0) annL44_0 := annOk_pack (annOk_loop (annOk_none _ _ _))
theorem step44_0_ok (n : Nat) (i : I44_0) (v : V44_0) (K : Ex → St → Ans) : codeI Try.tab envN Try.hint (codeD Try.tab envN Try.hint 0 64) (n+1) 17 annL44_0 (.loop L44_0) (weak [4] K) (S44_0 i v) = step44_0 i v (fun v' => codeI Try.tab envN Try.hint (codeD Try.tab envN Try.hint 0 64) n 17 annL44_0 (.loop L44_0) (weak [4] K) (S44_0 i v')) (fun y => out44_0 i K y) := by kernel_rfl
def R44_0 : I44_0 → V44_0 → Option Y44_0 := fun (x, l, n) t => if t = 0 ∧ n = (l.length : Int) ∧ l.length ≤ 1000000 then some (if x ∈ l then Sum.inr () else Sum.inl ()) else none
theorem R44_0_ok (i : I44_0) (v : V44_0) (z : Y44_0) (h : R44_0 i v = some z) : ∃ n, ∀ k, iterK (step44_0 i) n v k = k z := by
  obtain ⟨x, l, n⟩ := i
  simp only [R44_0] at h
  split at h
  · rename_i hh; obtain ⟨rfl, rfl, hl⟩ := hh
    cases h
    have := iterK_scan (step := step44_0 (x, l, (l.length : Int))) l (fun y => if y = x then some (Sum.inr ()) else none) (Sum.inl ()) ?_ ?_
    · have e : ((l.findSome? fun y => if y = x then some (Sum.inr ()) else none).getD (Sum.inl ()) : Y44_0) = if x ∈ l then Sum.inr () else Sum.inl () := by
        by_cases hx : x ∈ l
        · rw [if_pos hx]
          cases hf : l.findSome? fun y => if y = x then some (Sum.inr () : Y44_0) else none with
          | none =>
            rw [List.findSome?_eq_none_iff] at hf
            have := hf x hx
            simp at this
          | some r =>
            obtain ⟨y, _, hy⟩ := List.exists_of_findSome?_eq_some hf
            split at hy
            · cases hy; rfl
            · cases hy
        · rw [if_neg hx]
          have : (l.findSome? fun y => if y = x then some (Sum.inr () : Y44_0) else none) = none := by
            rw [List.findSome?_eq_none_iff]
            intro y hy
            rw [if_neg (by rintro rfl; exact hx hy)]
          rw [this]; rfl
      rw [e] at this
      exact this
    · intro j y hy next k
      have hj : j < l.length := (List.getElem?_eq_some_iff.1 hy).1
      have g1 : (j : Int) < (l.length : Int) := by omega
      simp only [step44_0, g1, decide_true, cond_true, nth_nat, hy, bindO]
      rw [wrap64 (by omega) (by omega)]
      by_cases e : y = x
      · simp [e]
      · simp [e, Bool.cond_eq_ite]
    · intro next k
      have g1 : ¬ (l.length : Int) < (l.length : Int) := by omega
      simp only [step44_0, g1, decide_false, cond_false]
  · cases h
noncomputable def G44_0 : (Ex → St → Ans) → St → Ans := sumG dec44_0 R44_0 out44_0
theorem G44_0_ok : LSum Try.prog 17 L44_0 G44_0 := lsum_iter mixed tabOk envNOk [4] annL44_0_ok dec44_0_ok step44_0_ok R44_0_ok
--@ fn 44
noncomputable def ann44 : Ann := (.seq .none (.seq (.seq .none (.block (.pack 0 (.sum G44_0)))) .none))
theorem ann44_ok : AnnOk Try.prog 17 b44 ann44 := ⟨(annOk_none _ _ _), ⟨⟨(annOk_none _ _ _), (annOk_pack (annOk_sum G44_0_ok))⟩, (annOk_none _ _ _)⟩⟩
abbrev A44 := (List (List UInt8)) × (List UInt8)
def args44 : A44 → List AV := fun (l, x) => [AV.ro Ty.str l, AV.str x]
def decA44 (l : List AV) : Option A44 := match l with
  | [AV.ro Ty.str l, AV.str x] => some (l, x)
  | _ => none
theorem decA44_ok (l : List AV) (a : A44) (h : decA44 l = some a) : l = args44 a := by
  unfold decA44 at h
  split at h
  · cases h; rfl
  · cases h
noncomputable def fn44 : A44 → (AV → Ans) → Ans := fun (l, x) K => (bindO (R44_0 (x, l, ↑(List.length l)) ((0 : Int))) fun y => Sum.elim (fun _ => (K (AV.bool false))) (fun _ => (K (AV.bool true))) y)
theorem fn44_ok (a : A44) : fnE Try.tab envN Try.hint 0 70 44 Try.f44.ntmps Try.f44.results.toList ann44 b44 (args44 a) [] (fun v _ => some (v, [])) = fn44 a (fun v => some (v, [])) := by kernel_rfl
def v44 : A44 → (AV → Ans) → Ans := fun (l, x) K => bif Nat.ble l.length 1000000 then K (.bool (decide (x ∈ l))) else none
theorem v44_ok (a : A44) (K : AV → Ans) (res : AV × List AE.Obj) (h : v44 a K = some res) : ∃ r, r.closed1 = true ∧ K r = some res ∧ fn44 a (fun v => some (v, [])) = some (r, []) := by
  obtain ⟨l, x⟩ := a
  obtain ⟨hl, h⟩ := cond_none h
  refine ⟨_, rfl, h, ?_⟩
  have hl := Nat.le_of_ble_eq_true hl
  simp only [fn44, R44_0]
  rw [if_pos (by simpa using hl)]
  by_cases hx : x ∈ l <;> simp [bindO, hx]
noncomputable def F44 : List AV → (AV → Ans) → Ans := fun l K => bindO (decA44 l) fun a => v44 a K
theorem F44_ok : PureOk Try.prog 44 F44 := pure_mk mixed tabOk envNOk Try.func44 (bodySome (by kernel_rfl)) (by decide +kernel) ann44_ok decA44_ok fn44_ok v44_ok
noncomputable def envT : Env := [(44, .pure F44)]
theorem envTOk : EnvOk Try.prog envT := EnvOk.cons F44_ok EnvOk.nil
/-- Things, each once. -/
def uniqT (l : List (List UInt8)) : List (List UInt8) := l.foldl (fun o y => if y ∈ o then o else o ++ [y]) []
def dropT (l : List (List UInt8)) (x : List UInt8) : List (List UInt8) := l.foldl (fun o y => if y = x ∨ y ∈ o then o else o ++ [y]) []
noncomputable def b43a : Code := Try.f43.body.getD .skip
--@ loop 43a_0
noncomputable def L43a_0 : Code := codeAt [1, 1, 0, 1, 0, 0] b43a
abbrev I43a_0 := (List (List UInt8)) × (Int)
abbrev V43a_0 := (Int) × (List (List UInt8))
def S43a_0 : I43a_0 → V43a_0 → St := fun (t8, t9) (t10, o0) => { env := [(1, AV.nilp), (5, AV.own 0), (8, AV.ro Ty.str t8), (9, AV.int IntKind.i64 t9), (10, AV.int IntKind.i64 t10)], stk := [[]], H := [Obj.arr Ty.str o0], blk := 176128 }
def dec43a_0 (s : St) : Option (I43a_0 × V43a_0) := match s with
  | { env := [(1, AV.nilp), (5, AV.own 0), (8, AV.ro Ty.str t8), (9, AV.int IntKind.i64 t9), (10, AV.int IntKind.i64 t10)], stk := [[]], H := [Obj.arr Ty.str o0], blk := 176128 } => some ((t8, t9), (t10, o0))
  | _ => none
theorem dec43a_0_ok (s : St) (x : I43a_0 × V43a_0) (h : dec43a_0 s = some x) : s = S43a_0 x.1 x.2 := by
  unfold dec43a_0 at h
  split at h
  · cases h; rfl
  · cases h
abbrev Y43a_0 := ((List (List UInt8)))
def out43a_0 : I43a_0 → (Ex → St → Ans) → Y43a_0 → Ans := fun (t8, t9) K y => (fun o0_y0 => K (Ex.exit 0) { env := [(5, AV.own 0)], stk := [[]], H := [Obj.arr Ty.str o0_y0], blk := 176128 }) y
noncomputable def step43a_0 : I43a_0 → V43a_0 → (V43a_0 → Ans) → (Y43a_0 → Ans) → Ans := fun (t8, t9) (t10, o0) next exit => (bif decide (t10 < t9) then (bindO (nth t8 t10) fun x => (bif Nat.ble (List.length o0) (1000000 : Nat) then (bif decide (x ∈ o0) then (next (IntKind.wrap IntKind.i64 (t10 + (1 : Int)), o0)) else (bif Nat.ble ((List.length o0 + List.length [x]) * 16) (140737488355328 : Nat) then (next (IntKind.wrap IntKind.i64 (t10 + (1 : Int)), o0 ++ [x])) else none)) else none)) else (exit (o0)))
noncomputable def annL43a_0 : Ann := .pack 0 (.loop .none)
theorem annL43a_0_ok : AnnOk Try.prog 34 (.loop L43a_0) annL43a_0 := annOk_pack (annOk_loop (annOk_none _ _ _))
theorem step43a_0_ok (n : Nat) (i : I43a_0) (v : V43a_0) (K : Ex → St → Ans) : codeI Try.tab envT Try.hint (codeD Try.tab envT Try.hint 0 64) (n+1) 34 annL43a_0 (.loop L43a_0) (weak [5] K) (S43a_0 i v) = step43a_0 i v (fun v' => codeI Try.tab envT Try.hint (codeD Try.tab envT Try.hint 0 64) n 34 annL43a_0 (.loop L43a_0) (weak [5] K) (S43a_0 i v')) (fun y => out43a_0 i K y) := by kernel_rfl
def R43a_0 : I43a_0 → V43a_0 → Option Y43a_0 := fun (l, n) (t, o) => if t = 0 ∧ n = (l.length : Int) ∧ l.length ≤ 1000000 ∧ o = [] then some (uniqT l) else none
theorem R43a_0_ok (i : I43a_0) (v : V43a_0) (z : Y43a_0) (h : R43a_0 i v = some z) : ∃ n, ∀ k, iterK (step43a_0 i) n v k = k z := by
  obtain ⟨l, n⟩ := i; obtain ⟨t, o⟩ := v
  simp only [R43a_0] at h
  split at h
  · rename_i hh; obtain ⟨rfl, rfl, hl, rfl⟩ := hh
    cases h
    refine iterK_fold l (fun o y => if y ∈ o then o else o ++ [y]) [] (fun o => o) (fun j o => o.length ≤ j) (by simp) ?_ ?_ ?_
    · intro j x o hx ho
      by_cases h : x ∈ o
      · simp only [if_pos h]; omega
      · simp only [if_neg h, List.length_append, List.length_singleton]; omega
    · intro j x o hx ho next k
      have hj : j < l.length := (List.getElem?_eq_some_iff.1 hx).1
      have g1 : (j : Int) < (l.length : Int) := by omega
      simp only [step43a_0, g1, decide_true, cond_true, nth_nat, hx, bindO]
      rw [wrap64 (by omega) (by omega)]
      have b1 : Nat.ble o.length 1000000 = true := Nat.ble_eq_true_of_le (by omega)
      simp only [b1, cond_true, List.length_singleton]
      by_cases h : x ∈ o
      · simp [h]
      · have b2 : Nat.ble ((o.length + 1) * 16) 140737488355328 = true := Nat.ble_eq_true_of_le (by omega)
        simp [h, b2]
    · intro o ho next k
      have g1 : ¬ (l.length : Int) < (l.length : Int) := by omega
      simp only [step43a_0, g1, decide_false, cond_false]
  · cases h
noncomputable def G43a_0 : (Ex → St → Ans) → St → Ans := sumG dec43a_0 R43a_0 out43a_0
theorem G43a_0_ok : LSum Try.prog 34 L43a_0 G43a_0 := lsum_iter mixed tabOk envTOk [5] annL43a_0_ok dec43a_0_ok step43a_0_ok R43a_0_ok
--@ fn 43a
noncomputable def ann43a : Ann := (.seq .none (.seq .none (.seq (.seq .none (.block (.pack 0 (.sum G43a_0)))) .none)))
theorem ann43a_ok : AnnOk Try.prog 34 b43a ann43a := ⟨(annOk_none _ _ _), ⟨(annOk_none _ _ _), ⟨⟨(annOk_none _ _ _), (annOk_pack (annOk_sum G43a_0_ok))⟩, (annOk_none _ _ _)⟩⟩⟩
abbrev A43a := (List (List UInt8))
def args43a : A43a → List AV × List AE.Obj := fun l => ([AV.ro Ty.str l, AV.nilp], [])
def decA43a (l : List AV) (H : List AE.Obj) : Option A43a := match l, H with
  | [AV.ro Ty.str l, AV.nilp], [] => some (l)
  | _, _ => none
theorem decA43a_ok (l : List AV) (H : List AE.Obj) (a : A43a) (h : decA43a l H = some a) : (l, H) = args43a a := by
  unfold decA43a at h
  split at h
  · cases h; rfl
  · cases h
noncomputable def fn43a : A43a → (AV → List AE.Obj → Ans) → Ans := fun l K => (bindO (R43a_0 (l, ↑(List.length l)) ((0 : Int), [])) fun o0 => (K (AV.own (0)) [Obj.arr Ty.str o0]))
theorem fn43a_ok (a : A43a) (K : AV → List AE.Obj → Ans) : fnE Try.tab envT Try.hint 0 70 43 Try.f43.ntmps Try.f43.results.toList ann43a b43a (args43a a).1 (args43a a).2 K = fn43a a K := by kernel_rfl
def v43a : A43a → (AV → List AE.Obj → Ans) → Ans := fun l K => bif Nat.ble l.length 1000000 then K (.own 0) [.arr (.str) (uniqT l)] else none
theorem v43a_ok (a : A43a) (K : AV → List AE.Obj → Ans) (res : AV × List AE.Obj) (h : v43a a K = some res) : fn43a a K = some res := by
  obtain ⟨hl, h⟩ := cond_none h
  have hl := Nat.le_of_ble_eq_true hl
  simp only [fn43a, R43a_0]
  rw [if_pos (by simpa using hl)]
  exact h
noncomputable def F43a : List AV → List AE.Obj → (AV → List AE.Obj → Ans) → Ans := fun l H K => bindO (decA43a l H) fun a => v43a a K
theorem F43a_ok : FuncOk Try.prog 43 F43a := func_mk mixed tabOk envTOk Try.func43 (bodySome (by kernel_rfl)) (by decide +kernel) ann43a_ok decA43a_ok fn43a_ok v43a_ok
noncomputable def b43b : Code := Try.f43.body.getD .skip
--@ loop 43b_0
noncomputable def L43b_0 : Code := codeAt [1, 1, 0, 1, 0, 0] b43b
abbrev I43b_0 := (List (List UInt8)) × (Int) × (List UInt8)
abbrev V43b_0 := (Int) × (List (List UInt8))
def S43b_0 : I43b_0 → V43b_0 → St := fun (t8, t9, o0_0) (t10, o1) => { env := [(1, AV.ptr 0 0), (5, AV.own 1), (8, AV.ro Ty.str t8), (9, AV.int IntKind.i64 t9), (10, AV.int IntKind.i64 t10)], stk := [[(0, AV.ptr 0 0)]], H := [AE.Obj.cells [AV.str o0_0], Obj.arr Ty.str o1], blk := 176128 }
def dec43b_0 (s : St) : Option (I43b_0 × V43b_0) := match s with
  | { env := [(1, AV.ptr 0 0), (5, AV.own 1), (8, AV.ro Ty.str t8), (9, AV.int IntKind.i64 t9), (10, AV.int IntKind.i64 t10)], stk := [[(0, AV.ptr 0 0)]], H := [AE.Obj.cells [AV.str o0_0], Obj.arr Ty.str o1], blk := 176128 } => some ((t8, t9, o0_0), (t10, o1))
  | _ => none
theorem dec43b_0_ok (s : St) (x : I43b_0 × V43b_0) (h : dec43b_0 s = some x) : s = S43b_0 x.1 x.2 := by
  unfold dec43b_0 at h
  split at h
  · cases h; rfl
  · cases h
abbrev Y43b_0 := ((List (List UInt8)))
def out43b_0 : I43b_0 → (Ex → St → Ans) → Y43b_0 → Ans := fun (t8, t9, o0_0) K y => (fun o1_y1 => K (Ex.exit 0) { env := [(5, AV.own 1)], stk := [[(0, AV.ptr 0 0)]], H := [AE.Obj.cells [AV.str o0_0], Obj.arr Ty.str o1_y1], blk := 176128 }) y
noncomputable def step43b_0 : I43b_0 → V43b_0 → (V43b_0 → Ans) → (Y43b_0 → Ans) → Ans := fun (t8, t9, o0_0) (t10, o1) next exit => (bif decide (t10 < t9) then (bindO (nth t8 t10) fun x_2 => (bif x_2 == o0_0 then (next (IntKind.wrap IntKind.i64 (t10 + (1 : Int)), o1)) else (bif Nat.ble (List.length o1) (1000000 : Nat) then (bif decide (x_2 ∈ o1) then (next (IntKind.wrap IntKind.i64 (t10 + (1 : Int)), o1)) else (bif Nat.ble ((List.length o1 + List.length [x_2]) * 16) (140737488355328 : Nat) then (next (IntKind.wrap IntKind.i64 (t10 + (1 : Int)), o1 ++ [x_2])) else none)) else none))) else (exit (o1)))
noncomputable def annL43b_0 : Ann := .pack 1 (.loop .none)
theorem annL43b_0_ok : AnnOk Try.prog 34 (.loop L43b_0) annL43b_0 := annOk_pack (annOk_loop (annOk_none _ _ _))
theorem step43b_0_ok (n : Nat) (i : I43b_0) (v : V43b_0) (K : Ex → St → Ans) : codeI Try.tab envT Try.hint (codeD Try.tab envT Try.hint 0 64) (n+1) 34 annL43b_0 (.loop L43b_0) (weak [5] K) (S43b_0 i v) = step43b_0 i v (fun v' => codeI Try.tab envT Try.hint (codeD Try.tab envT Try.hint 0 64) n 34 annL43b_0 (.loop L43b_0) (weak [5] K) (S43b_0 i v')) (fun y => out43b_0 i K y) := by kernel_rfl
def R43b_0 : I43b_0 → V43b_0 → Option Y43b_0 := fun (l, n, x) (t, o) => if t = 0 ∧ n = (l.length : Int) ∧ l.length ≤ 1000000 ∧ o = [] then some (dropT l x) else none
theorem R43b_0_ok (i : I43b_0) (v : V43b_0) (z : Y43b_0) (h : R43b_0 i v = some z) : ∃ n, ∀ k, iterK (step43b_0 i) n v k = k z := by
  obtain ⟨l, n, x0⟩ := i; obtain ⟨t, o⟩ := v
  simp only [R43b_0] at h
  split at h
  · rename_i hh; obtain ⟨rfl, rfl, hl, rfl⟩ := hh
    cases h
    refine iterK_fold l (fun o y => if y = x0 ∨ y ∈ o then o else o ++ [y]) [] (fun o => o) (fun j o => o.length ≤ j) (by simp) ?_ ?_ ?_
    · intro j x o hx ho
      by_cases h : x = x0 ∨ x ∈ o
      · simp only [if_pos h]; omega
      · simp only [if_neg h, List.length_append, List.length_singleton]; omega
    · intro j x o hx ho next k
      have hj : j < l.length := (List.getElem?_eq_some_iff.1 hx).1
      have g1 : (j : Int) < (l.length : Int) := by omega
      simp only [step43b_0, g1, decide_true, cond_true, nth_nat, hx, bindO]
      rw [wrap64 (by omega) (by omega)]
      have b1 : Nat.ble o.length 1000000 = true := Nat.ble_eq_true_of_le (by omega)
      simp only [b1, cond_true, List.length_singleton]
      by_cases e : x = x0
      · simp [e]
      · by_cases h : x ∈ o
        · simp [e, h, Bool.cond_eq_ite]
        · have b2 : Nat.ble ((o.length + 1) * 16) 140737488355328 = true := Nat.ble_eq_true_of_le (by omega)
          simp [e, h, b2, Bool.cond_eq_ite]
    · intro o ho next k
      have g1 : ¬ (l.length : Int) < (l.length : Int) := by omega
      simp only [step43b_0, g1, decide_false, cond_false]
  · cases h
noncomputable def G43b_0 : (Ex → St → Ans) → St → Ans := sumG dec43b_0 R43b_0 out43b_0
theorem G43b_0_ok : LSum Try.prog 34 L43b_0 G43b_0 := lsum_iter mixed tabOk envTOk [5] annL43b_0_ok dec43b_0_ok step43b_0_ok R43b_0_ok
--@ fn 43b
noncomputable def ann43b : Ann := (.seq .none (.seq .none (.seq (.seq .none (.block (.pack 1 (.sum G43b_0)))) .none)))
theorem ann43b_ok : AnnOk Try.prog 34 b43b ann43b := ⟨(annOk_none _ _ _), ⟨(annOk_none _ _ _), ⟨⟨(annOk_none _ _ _), (annOk_pack (annOk_sum G43b_0_ok))⟩, (annOk_none _ _ _)⟩⟩⟩
abbrev A43b := (List (List UInt8)) × (List UInt8)
def args43b : A43b → List AV × List AE.Obj := fun (l, x) => ([AV.ro Ty.str l, AV.ptr 0 0], [AE.Obj.cells [AV.str x]])
def decA43b (l : List AV) (H : List AE.Obj) : Option A43b := match l, H with
  | [AV.ro Ty.str l, AV.ptr 0 0], [AE.Obj.cells [AV.str x]] => some (l, x)
  | _, _ => none
theorem decA43b_ok (l : List AV) (H : List AE.Obj) (a : A43b) (h : decA43b l H = some a) : (l, H) = args43b a := by
  unfold decA43b at h
  split at h
  · cases h; rfl
  · cases h
noncomputable def fn43b : A43b → (AV → List AE.Obj → Ans) → Ans := fun (l, x) K => (bindO (R43b_0 (l, ↑(List.length l), x) ((0 : Int), [])) fun o1 => (K (AV.own (1)) [AE.Obj.cells [AV.str x], Obj.arr Ty.str o1]))
theorem fn43b_ok (a : A43b) (K : AV → List AE.Obj → Ans) : fnE Try.tab envT Try.hint 0 70 43 Try.f43.ntmps Try.f43.results.toList ann43b b43b (args43b a).1 (args43b a).2 K = fn43b a K := by kernel_rfl
def v43b : A43b → (AV → List AE.Obj → Ans) → Ans := fun (l, x) K => bif Nat.ble l.length 1000000 then K (.own 1) [.cells [.str x], .arr (.str) (dropT l x)] else none
theorem v43b_ok (a : A43b) (K : AV → List AE.Obj → Ans) (res : AV × List AE.Obj) (h : v43b a K = some res) : fn43b a K = some res := by
  obtain ⟨l, x⟩ := a
  obtain ⟨hl, h⟩ := cond_none h
  have hl := Nat.le_of_ble_eq_true hl
  simp only [fn43b, R43b_0]
  rw [if_pos (by simpa using hl)]
  exact h
noncomputable def F43b : List AV → List AE.Obj → (AV → List AE.Obj → Ans) → Ans := fun l H K => bindO (decA43b l H) fun a => v43b a K
theorem F43b_ok : FuncOk Try.prog 43 F43b := func_mk mixed tabOk envTOk Try.func43 (bodySome (by kernel_rfl)) (by decide +kernel) ann43b_ok decA43b_ok fn43b_ok v43b_ok
def F43 : List AV → List AE.Obj → (AV → List AE.Obj → Ans) → Ans := fun l H K => altO (decA43a l H) (decA43b l H) (fun a => v43a a K) (fun a => v43b a K)
theorem F43_ok : FuncOk Try.prog 43 F43 := func_alt F43a_ok F43b_ok
noncomputable def b46 : Code := Try.f46.body.getD .skip
--@ loop 46_0
noncomputable def L46_0 : Code := codeAt [1, 0, 1, 0, 0] b46
abbrev I46_0 := (Int) × (List Int) × (Int)
abbrev V46_0 := (Int)
def S46_0 : I46_0 → V46_0 → St := fun (t1, t7, t8) t9 => { env := [(1, AV.int IntKind.i64 t1), (7, AV.ro (Ty.int IntKind.i64) t7), (8, AV.int IntKind.i64 t8), (9, AV.int IntKind.i64 t9)], stk := [[]], H := [], blk := 188416 }
def dec46_0 (s : St) : Option (I46_0 × V46_0) := match s with
  | { env := [(1, AV.int IntKind.i64 t1), (7, AV.ro (Ty.int IntKind.i64) t7), (8, AV.int IntKind.i64 t8), (9, AV.int IntKind.i64 t9)], stk := [[]], H := [], blk := 188416 } => some ((t1, t7, t8), t9)
  | _ => none
theorem dec46_0_ok (s : St) (x : I46_0 × V46_0) (h : dec46_0 s = some x) : s = S46_0 x.1 x.2 := by
  unfold dec46_0 at h
  split at h
  · cases h; rfl
  · cases h
abbrev Y46_0 := (Unit) ⊕ (Unit)
def out46_0 : I46_0 → (Ex → St → Ans) → Y46_0 → Ans := fun (t1, t7, t8) K y => Sum.elim (fun _ => K (Ex.exit 0) { env := [(4, AV.unk)], stk := [[]], H := [], blk := 188416 }) (fun _ => K (Ex.ret) { env := [(4, AV.bool (true))], stk := [[]], H := [], blk := 188417 }) y
noncomputable def step46_0 : I46_0 → V46_0 → (V46_0 → Ans) → (Y46_0 → Ans) → Ans := fun (t1, t7, t8) t9 next exit => (bif decide (t9 < t8) then (bindO (nth t7 t9) fun x_2 => (bif x_2 == t1 then (exit (Sum.inr ())) else (next (IntKind.wrap IntKind.i64 (t9 + (1 : Int)))))) else (exit (Sum.inl ())))
noncomputable def annL46_0 : Ann := .pack 0 (.loop .none)
theorem annL46_0_ok : AnnOk Try.prog 17 (.loop L46_0) annL46_0 := annOk_pack (annOk_loop (annOk_none _ _ _))
theorem step46_0_ok (n : Nat) (i : I46_0) (v : V46_0) (K : Ex → St → Ans) : codeI Try.tab envN Try.hint (codeD Try.tab envN Try.hint 0 64) (n+1) 17 annL46_0 (.loop L46_0) (weak [4] K) (S46_0 i v) = step46_0 i v (fun v' => codeI Try.tab envN Try.hint (codeD Try.tab envN Try.hint 0 64) n 17 annL46_0 (.loop L46_0) (weak [4] K) (S46_0 i v')) (fun y => out46_0 i K y) := by kernel_rfl
def R46_0 : I46_0 → V46_0 → Option Y46_0 := fun (x, l, n) t => if t = 0 ∧ n = (l.length : Int) ∧ l.length ≤ 1000000 then some (if x ∈ l then Sum.inr () else Sum.inl ()) else none
theorem R46_0_ok (i : I46_0) (v : V46_0) (z : Y46_0) (h : R46_0 i v = some z) : ∃ n, ∀ k, iterK (step46_0 i) n v k = k z := by
  obtain ⟨x, l, n⟩ := i
  simp only [R46_0] at h
  split at h
  · rename_i hh; obtain ⟨rfl, rfl, hl⟩ := hh
    cases h
    have := iterK_scan (step := step46_0 (x, l, (l.length : Int))) l (fun y => if y = x then some (Sum.inr ()) else none) (Sum.inl ()) ?_ ?_
    · have e : ((l.findSome? fun y => if y = x then some (Sum.inr ()) else none).getD (Sum.inl ()) : Y46_0) = if x ∈ l then Sum.inr () else Sum.inl () := by
        by_cases hx : x ∈ l
        · rw [if_pos hx]
          cases hf : l.findSome? fun y => if y = x then some (Sum.inr () : Y46_0) else none with
          | none =>
            rw [List.findSome?_eq_none_iff] at hf
            have := hf x hx
            simp at this
          | some r =>
            obtain ⟨y, _, hy⟩ := List.exists_of_findSome?_eq_some hf
            split at hy
            · cases hy; rfl
            · cases hy
        · rw [if_neg hx]
          have : (l.findSome? fun y => if y = x then some (Sum.inr () : Y46_0) else none) = none := by
            rw [List.findSome?_eq_none_iff]
            intro y hy
            rw [if_neg (by rintro rfl; exact hx hy)]
          rw [this]; rfl
      rw [e] at this
      exact this
    · intro j y hy next k
      have hj : j < l.length := (List.getElem?_eq_some_iff.1 hy).1
      have g1 : (j : Int) < (l.length : Int) := by omega
      simp only [step46_0, g1, decide_true, cond_true, nth_nat, hy, bindO]
      rw [wrap64 (by omega) (by omega)]
      by_cases e : y = x
      · simp [e]
      · simp [e, Bool.cond_eq_ite]
    · intro next k
      have g1 : ¬ (l.length : Int) < (l.length : Int) := by omega
      simp only [step46_0, g1, decide_false, cond_false]
  · cases h
noncomputable def G46_0 : (Ex → St → Ans) → St → Ans := sumG dec46_0 R46_0 out46_0
theorem G46_0_ok : LSum Try.prog 17 L46_0 G46_0 := lsum_iter mixed tabOk envNOk [4] annL46_0_ok dec46_0_ok step46_0_ok R46_0_ok
--@ fn 46
noncomputable def ann46 : Ann := (.seq .none (.seq (.seq .none (.block (.pack 0 (.sum G46_0)))) .none))
theorem ann46_ok : AnnOk Try.prog 17 b46 ann46 := ⟨(annOk_none _ _ _), ⟨⟨(annOk_none _ _ _), (annOk_pack (annOk_sum G46_0_ok))⟩, (annOk_none _ _ _)⟩⟩
abbrev A46 := (List Int) × (Int)
def args46 : A46 → List AV := fun (l, x) => [AV.ro (Ty.int IntKind.i64) l, AV.int IntKind.i64 x]
def decA46 (l : List AV) : Option A46 := match l with
  | [AV.ro (Ty.int IntKind.i64) l, AV.int IntKind.i64 x] => some (l, x)
  | _ => none
theorem decA46_ok (l : List AV) (a : A46) (h : decA46 l = some a) : l = args46 a := by
  unfold decA46 at h
  split at h
  · cases h; rfl
  · cases h
noncomputable def fn46 : A46 → (AV → Ans) → Ans := fun (l, x) K => (bindO (R46_0 (x, l, ↑(List.length l)) ((0 : Int))) fun y => Sum.elim (fun _ => (K (AV.bool false))) (fun _ => (K (AV.bool true))) y)
theorem fn46_ok (a : A46) : fnE Try.tab envN Try.hint 0 70 46 Try.f46.ntmps Try.f46.results.toList ann46 b46 (args46 a) [] (fun v _ => some (v, [])) = fn46 a (fun v => some (v, [])) := by kernel_rfl
def v46 : A46 → (AV → Ans) → Ans := fun (l, x) K => bif Nat.ble l.length 1000000 then K (.bool (decide (x ∈ l))) else none
theorem v46_ok (a : A46) (K : AV → Ans) (res : AV × List AE.Obj) (h : v46 a K = some res) : ∃ r, r.closed1 = true ∧ K r = some res ∧ fn46 a (fun v => some (v, [])) = some (r, []) := by
  obtain ⟨l, x⟩ := a
  obtain ⟨hl, h⟩ := cond_none h
  refine ⟨_, rfl, h, ?_⟩
  have hl := Nat.le_of_ble_eq_true hl
  simp only [fn46, R46_0]
  rw [if_pos (by simpa using hl)]
  by_cases hx : x ∈ l <;> simp [bindO, hx]
noncomputable def F46 : List AV → (AV → Ans) → Ans := fun l K => bindO (decA46 l) fun a => v46 a K
theorem F46_ok : PureOk Try.prog 46 F46 := pure_mk mixed tabOk envNOk Try.func46 (bodySome (by kernel_rfl)) (by decide +kernel) ann46_ok decA46_ok fn46_ok v46_ok
noncomputable def envI : Env := [(46, .pure F46)]
theorem envIOk : EnvOk Try.prog envI := EnvOk.cons F46_ok EnvOk.nil
/-- Things, each once. -/
def uniqI (l : List (Int)) : List (Int) := l.foldl (fun o y => if y ∈ o then o else o ++ [y]) []
def dropI (l : List (Int)) (x : Int) : List (Int) := l.foldl (fun o y => if y = x ∨ y ∈ o then o else o ++ [y]) []
noncomputable def b45a : Code := Try.f45.body.getD .skip
--@ loop 45a_0
noncomputable def L45a_0 : Code := codeAt [1, 1, 0, 1, 0, 0] b45a
abbrev I45a_0 := (List Int) × (Int)
abbrev V45a_0 := (Int) × (List Int)
def S45a_0 : I45a_0 → V45a_0 → St := fun (t8, t9) (t10, o0) => { env := [(1, AV.nilp), (5, AV.own 0), (8, AV.ro (Ty.int IntKind.i64) t8), (9, AV.int IntKind.i64 t9), (10, AV.int IntKind.i64 t10)], stk := [[]], H := [Obj.arr (Ty.int IntKind.i64) o0], blk := 184320 }
def dec45a_0 (s : St) : Option (I45a_0 × V45a_0) := match s with
  | { env := [(1, AV.nilp), (5, AV.own 0), (8, AV.ro (Ty.int IntKind.i64) t8), (9, AV.int IntKind.i64 t9), (10, AV.int IntKind.i64 t10)], stk := [[]], H := [Obj.arr (Ty.int IntKind.i64) o0], blk := 184320 } => some ((t8, t9), (t10, o0))
  | _ => none
theorem dec45a_0_ok (s : St) (x : I45a_0 × V45a_0) (h : dec45a_0 s = some x) : s = S45a_0 x.1 x.2 := by
  unfold dec45a_0 at h
  split at h
  · cases h; rfl
  · cases h
abbrev Y45a_0 := ((List Int))
def out45a_0 : I45a_0 → (Ex → St → Ans) → Y45a_0 → Ans := fun (t8, t9) K y => (fun o0_y0 => K (Ex.exit 0) { env := [(5, AV.own 0)], stk := [[]], H := [Obj.arr (Ty.int IntKind.i64) o0_y0], blk := 184320 }) y
noncomputable def step45a_0 : I45a_0 → V45a_0 → (V45a_0 → Ans) → (Y45a_0 → Ans) → Ans := fun (t8, t9) (t10, o0) next exit => (bif decide (t10 < t9) then (bindO (nth t8 t10) fun x => (bif Nat.ble (List.length o0) (1000000 : Nat) then (bif decide (x ∈ o0) then (next (IntKind.wrap IntKind.i64 (t10 + (1 : Int)), o0)) else (bif Nat.ble ((List.length o0 + List.length [x]) * 8) (140737488355328 : Nat) then (next (IntKind.wrap IntKind.i64 (t10 + (1 : Int)), o0 ++ [x])) else none)) else none)) else (exit (o0)))
noncomputable def annL45a_0 : Ann := .pack 0 (.loop .none)
theorem annL45a_0_ok : AnnOk Try.prog 34 (.loop L45a_0) annL45a_0 := annOk_pack (annOk_loop (annOk_none _ _ _))
theorem step45a_0_ok (n : Nat) (i : I45a_0) (v : V45a_0) (K : Ex → St → Ans) : codeI Try.tab envI Try.hint (codeD Try.tab envI Try.hint 0 64) (n+1) 34 annL45a_0 (.loop L45a_0) (weak [5] K) (S45a_0 i v) = step45a_0 i v (fun v' => codeI Try.tab envI Try.hint (codeD Try.tab envI Try.hint 0 64) n 34 annL45a_0 (.loop L45a_0) (weak [5] K) (S45a_0 i v')) (fun y => out45a_0 i K y) := by kernel_rfl
def R45a_0 : I45a_0 → V45a_0 → Option Y45a_0 := fun (l, n) (t, o) => if t = 0 ∧ n = (l.length : Int) ∧ l.length ≤ 1000000 ∧ o = [] then some (uniqI l) else none
theorem R45a_0_ok (i : I45a_0) (v : V45a_0) (z : Y45a_0) (h : R45a_0 i v = some z) : ∃ n, ∀ k, iterK (step45a_0 i) n v k = k z := by
  obtain ⟨l, n⟩ := i; obtain ⟨t, o⟩ := v
  simp only [R45a_0] at h
  split at h
  · rename_i hh; obtain ⟨rfl, rfl, hl, rfl⟩ := hh
    cases h
    refine iterK_fold l (fun o y => if y ∈ o then o else o ++ [y]) [] (fun o => o) (fun j o => o.length ≤ j) (by simp) ?_ ?_ ?_
    · intro j x o hx ho
      by_cases h : x ∈ o
      · simp only [if_pos h]; omega
      · simp only [if_neg h, List.length_append, List.length_singleton]; omega
    · intro j x o hx ho next k
      have hj : j < l.length := (List.getElem?_eq_some_iff.1 hx).1
      have g1 : (j : Int) < (l.length : Int) := by omega
      simp only [step45a_0, g1, decide_true, cond_true, nth_nat, hx, bindO]
      rw [wrap64 (by omega) (by omega)]
      have b1 : Nat.ble o.length 1000000 = true := Nat.ble_eq_true_of_le (by omega)
      simp only [b1, cond_true, List.length_singleton]
      by_cases h : x ∈ o
      · simp [h]
      · have b2 : Nat.ble ((o.length + 1) * 8) 140737488355328 = true := Nat.ble_eq_true_of_le (by omega)
        simp [h, b2]
    · intro o ho next k
      have g1 : ¬ (l.length : Int) < (l.length : Int) := by omega
      simp only [step45a_0, g1, decide_false, cond_false]
  · cases h
noncomputable def G45a_0 : (Ex → St → Ans) → St → Ans := sumG dec45a_0 R45a_0 out45a_0
theorem G45a_0_ok : LSum Try.prog 34 L45a_0 G45a_0 := lsum_iter mixed tabOk envIOk [5] annL45a_0_ok dec45a_0_ok step45a_0_ok R45a_0_ok
--@ fn 45a
noncomputable def ann45a : Ann := (.seq .none (.seq .none (.seq (.seq .none (.block (.pack 0 (.sum G45a_0)))) .none)))
theorem ann45a_ok : AnnOk Try.prog 34 b45a ann45a := ⟨(annOk_none _ _ _), ⟨(annOk_none _ _ _), ⟨⟨(annOk_none _ _ _), (annOk_pack (annOk_sum G45a_0_ok))⟩, (annOk_none _ _ _)⟩⟩⟩
abbrev A45a := (List Int)
def args45a : A45a → List AV × List AE.Obj := fun l => ([AV.ro (Ty.int IntKind.i64) l, AV.nilp], [])
def decA45a (l : List AV) (H : List AE.Obj) : Option A45a := match l, H with
  | [AV.ro (Ty.int IntKind.i64) l, AV.nilp], [] => some (l)
  | _, _ => none
theorem decA45a_ok (l : List AV) (H : List AE.Obj) (a : A45a) (h : decA45a l H = some a) : (l, H) = args45a a := by
  unfold decA45a at h
  split at h
  · cases h; rfl
  · cases h
noncomputable def fn45a : A45a → (AV → List AE.Obj → Ans) → Ans := fun l K => (bindO (R45a_0 (l, ↑(List.length l)) ((0 : Int), [])) fun o0 => (K (AV.own (0)) [Obj.arr (Ty.int IntKind.i64) o0]))
theorem fn45a_ok (a : A45a) (K : AV → List AE.Obj → Ans) : fnE Try.tab envI Try.hint 0 70 45 Try.f45.ntmps Try.f45.results.toList ann45a b45a (args45a a).1 (args45a a).2 K = fn45a a K := by kernel_rfl
def v45a : A45a → (AV → List AE.Obj → Ans) → Ans := fun l K => bif Nat.ble l.length 1000000 then K (.own 0) [.arr (.int .i64) (uniqI l)] else none
theorem v45a_ok (a : A45a) (K : AV → List AE.Obj → Ans) (res : AV × List AE.Obj) (h : v45a a K = some res) : fn45a a K = some res := by
  obtain ⟨hl, h⟩ := cond_none h
  have hl := Nat.le_of_ble_eq_true hl
  simp only [fn45a, R45a_0]
  rw [if_pos (by simpa using hl)]
  exact h
noncomputable def F45a : List AV → List AE.Obj → (AV → List AE.Obj → Ans) → Ans := fun l H K => bindO (decA45a l H) fun a => v45a a K
theorem F45a_ok : FuncOk Try.prog 45 F45a := func_mk mixed tabOk envIOk Try.func45 (bodySome (by kernel_rfl)) (by decide +kernel) ann45a_ok decA45a_ok fn45a_ok v45a_ok
noncomputable def b45b : Code := Try.f45.body.getD .skip
--@ loop 45b_0
noncomputable def L45b_0 : Code := codeAt [1, 1, 0, 1, 0, 0] b45b
abbrev I45b_0 := (List Int) × (Int) × (Int)
abbrev V45b_0 := (Int) × (List Int)
def S45b_0 : I45b_0 → V45b_0 → St := fun (t8, t9, o0_0) (t10, o1) => { env := [(1, AV.ptr 0 0), (5, AV.own 1), (8, AV.ro (Ty.int IntKind.i64) t8), (9, AV.int IntKind.i64 t9), (10, AV.int IntKind.i64 t10)], stk := [[(0, AV.ptr 0 0)]], H := [AE.Obj.cells [AV.int IntKind.i64 o0_0], Obj.arr (Ty.int IntKind.i64) o1], blk := 184320 }
def dec45b_0 (s : St) : Option (I45b_0 × V45b_0) := match s with
  | { env := [(1, AV.ptr 0 0), (5, AV.own 1), (8, AV.ro (Ty.int IntKind.i64) t8), (9, AV.int IntKind.i64 t9), (10, AV.int IntKind.i64 t10)], stk := [[(0, AV.ptr 0 0)]], H := [AE.Obj.cells [AV.int IntKind.i64 o0_0], Obj.arr (Ty.int IntKind.i64) o1], blk := 184320 } => some ((t8, t9, o0_0), (t10, o1))
  | _ => none
theorem dec45b_0_ok (s : St) (x : I45b_0 × V45b_0) (h : dec45b_0 s = some x) : s = S45b_0 x.1 x.2 := by
  unfold dec45b_0 at h
  split at h
  · cases h; rfl
  · cases h
abbrev Y45b_0 := ((List Int))
def out45b_0 : I45b_0 → (Ex → St → Ans) → Y45b_0 → Ans := fun (t8, t9, o0_0) K y => (fun o1_y1 => K (Ex.exit 0) { env := [(5, AV.own 1)], stk := [[(0, AV.ptr 0 0)]], H := [AE.Obj.cells [AV.int IntKind.i64 o0_0], Obj.arr (Ty.int IntKind.i64) o1_y1], blk := 184320 }) y
noncomputable def step45b_0 : I45b_0 → V45b_0 → (V45b_0 → Ans) → (Y45b_0 → Ans) → Ans := fun (t8, t9, o0_0) (t10, o1) next exit => (bif decide (t10 < t9) then (bindO (nth t8 t10) fun x_2 => (bif x_2 == o0_0 then (next (IntKind.wrap IntKind.i64 (t10 + (1 : Int)), o1)) else (bif Nat.ble (List.length o1) (1000000 : Nat) then (bif decide (x_2 ∈ o1) then (next (IntKind.wrap IntKind.i64 (t10 + (1 : Int)), o1)) else (bif Nat.ble ((List.length o1 + List.length [x_2]) * 8) (140737488355328 : Nat) then (next (IntKind.wrap IntKind.i64 (t10 + (1 : Int)), o1 ++ [x_2])) else none)) else none))) else (exit (o1)))
noncomputable def annL45b_0 : Ann := .pack 1 (.loop .none)
theorem annL45b_0_ok : AnnOk Try.prog 34 (.loop L45b_0) annL45b_0 := annOk_pack (annOk_loop (annOk_none _ _ _))
theorem step45b_0_ok (n : Nat) (i : I45b_0) (v : V45b_0) (K : Ex → St → Ans) : codeI Try.tab envI Try.hint (codeD Try.tab envI Try.hint 0 64) (n+1) 34 annL45b_0 (.loop L45b_0) (weak [5] K) (S45b_0 i v) = step45b_0 i v (fun v' => codeI Try.tab envI Try.hint (codeD Try.tab envI Try.hint 0 64) n 34 annL45b_0 (.loop L45b_0) (weak [5] K) (S45b_0 i v')) (fun y => out45b_0 i K y) := by kernel_rfl
def R45b_0 : I45b_0 → V45b_0 → Option Y45b_0 := fun (l, n, x) (t, o) => if t = 0 ∧ n = (l.length : Int) ∧ l.length ≤ 1000000 ∧ o = [] then some (dropI l x) else none
theorem R45b_0_ok (i : I45b_0) (v : V45b_0) (z : Y45b_0) (h : R45b_0 i v = some z) : ∃ n, ∀ k, iterK (step45b_0 i) n v k = k z := by
  obtain ⟨l, n, x0⟩ := i; obtain ⟨t, o⟩ := v
  simp only [R45b_0] at h
  split at h
  · rename_i hh; obtain ⟨rfl, rfl, hl, rfl⟩ := hh
    cases h
    refine iterK_fold l (fun o y => if y = x0 ∨ y ∈ o then o else o ++ [y]) [] (fun o => o) (fun j o => o.length ≤ j) (by simp) ?_ ?_ ?_
    · intro j x o hx ho
      by_cases h : x = x0 ∨ x ∈ o
      · simp only [if_pos h]; omega
      · simp only [if_neg h, List.length_append, List.length_singleton]; omega
    · intro j x o hx ho next k
      have hj : j < l.length := (List.getElem?_eq_some_iff.1 hx).1
      have g1 : (j : Int) < (l.length : Int) := by omega
      simp only [step45b_0, g1, decide_true, cond_true, nth_nat, hx, bindO]
      rw [wrap64 (by omega) (by omega)]
      have b1 : Nat.ble o.length 1000000 = true := Nat.ble_eq_true_of_le (by omega)
      simp only [b1, cond_true, List.length_singleton]
      by_cases e : x = x0
      · simp [e]
      · by_cases h : x ∈ o
        · simp [e, h, Bool.cond_eq_ite]
        · have b2 : Nat.ble ((o.length + 1) * 8) 140737488355328 = true := Nat.ble_eq_true_of_le (by omega)
          simp [e, h, b2, Bool.cond_eq_ite]
    · intro o ho next k
      have g1 : ¬ (l.length : Int) < (l.length : Int) := by omega
      simp only [step45b_0, g1, decide_false, cond_false]
  · cases h
noncomputable def G45b_0 : (Ex → St → Ans) → St → Ans := sumG dec45b_0 R45b_0 out45b_0
theorem G45b_0_ok : LSum Try.prog 34 L45b_0 G45b_0 := lsum_iter mixed tabOk envIOk [5] annL45b_0_ok dec45b_0_ok step45b_0_ok R45b_0_ok
--@ fn 45b
noncomputable def ann45b : Ann := (.seq .none (.seq .none (.seq (.seq .none (.block (.pack 1 (.sum G45b_0)))) .none)))
theorem ann45b_ok : AnnOk Try.prog 34 b45b ann45b := ⟨(annOk_none _ _ _), ⟨(annOk_none _ _ _), ⟨⟨(annOk_none _ _ _), (annOk_pack (annOk_sum G45b_0_ok))⟩, (annOk_none _ _ _)⟩⟩⟩
abbrev A45b := (List Int) × (Int)
def args45b : A45b → List AV × List AE.Obj := fun (l, x) => ([AV.ro (Ty.int IntKind.i64) l, AV.ptr 0 0], [AE.Obj.cells [AV.int IntKind.i64 x]])
def decA45b (l : List AV) (H : List AE.Obj) : Option A45b := match l, H with
  | [AV.ro (Ty.int IntKind.i64) l, AV.ptr 0 0], [AE.Obj.cells [AV.int IntKind.i64 x]] => some (l, x)
  | _, _ => none
theorem decA45b_ok (l : List AV) (H : List AE.Obj) (a : A45b) (h : decA45b l H = some a) : (l, H) = args45b a := by
  unfold decA45b at h
  split at h
  · cases h; rfl
  · cases h
noncomputable def fn45b : A45b → (AV → List AE.Obj → Ans) → Ans := fun (l, x) K => (bindO (R45b_0 (l, ↑(List.length l), x) ((0 : Int), [])) fun o1 => (K (AV.own (1)) [AE.Obj.cells [AV.int IntKind.i64 x], Obj.arr (Ty.int IntKind.i64) o1]))
theorem fn45b_ok (a : A45b) (K : AV → List AE.Obj → Ans) : fnE Try.tab envI Try.hint 0 70 45 Try.f45.ntmps Try.f45.results.toList ann45b b45b (args45b a).1 (args45b a).2 K = fn45b a K := by kernel_rfl
def v45b : A45b → (AV → List AE.Obj → Ans) → Ans := fun (l, x) K => bif Nat.ble l.length 1000000 then K (.own 1) [.cells [.int .i64 x], .arr (.int .i64) (dropI l x)] else none
theorem v45b_ok (a : A45b) (K : AV → List AE.Obj → Ans) (res : AV × List AE.Obj) (h : v45b a K = some res) : fn45b a K = some res := by
  obtain ⟨l, x⟩ := a
  obtain ⟨hl, h⟩ := cond_none h
  have hl := Nat.le_of_ble_eq_true hl
  simp only [fn45b, R45b_0]
  rw [if_pos (by simpa using hl)]
  exact h
noncomputable def F45b : List AV → List AE.Obj → (AV → List AE.Obj → Ans) → Ans := fun l H K => bindO (decA45b l H) fun a => v45b a K
theorem F45b_ok : FuncOk Try.prog 45 F45b := func_mk mixed tabOk envIOk Try.func45 (bodySome (by kernel_rfl)) (by decide +kernel) ann45b_ok decA45b_ok fn45b_ok v45b_ok
def F45 : List AV → List AE.Obj → (AV → List AE.Obj → Ans) → Ans := fun l H K => altO (decA45a l H) (decA45b l H) (fun a => v45a a K) (fun a => v45b a K)
theorem F45_ok : FuncOk Try.prog 45 F45 := func_alt F45a_ok F45b_ok
end Go.Proofs.R1
namespace Go.Proofs.R1
open Go Go.AE
abbrev sT : Ty := .st (.pair (.int .i64) (.list (.str)))
noncomputable def envST : Env := [(43, .func F43), (44, .pure F44)]
theorem envSTOk : EnvOk Try.prog envST := EnvOk.cons F43_ok (EnvOk.cons F44_ok EnvOk.nil)
abbrev OpsT := List (Int × List (List UInt8))
def setT (last : Int) (ops : OpsT) : List AE.Obj := [.cells [.own 1, .int .i64 last], .arr sT ops]
/-- What comes out and what stays once a thing is done. -/
def doneFT (x : List UInt8) (a : List (Int × Int) × OpsT) (o : Int × List (List UInt8)) : List (Int × Int) × OpsT :=
  if dropT o.2 x = [] then (a.1 ++ [(o.1, 2)], a.2) else (a.1, a.2 ++ [(o.1, dropT o.2 x)])
def doneT (ops : OpsT) (x : List UInt8) : List (Int × Int) × OpsT := ops.foldl (doneFT x) ([], [])
noncomputable def b24 : Code := Try.f24.body.getD .skip
--@ fn 24
noncomputable def ann24 : Ann := .none
theorem ann24_ok : AnnOk Try.prog 43 b24 ann24 := (annOk_none _ _ _)
abbrev A24 := (Int) × (List (Int × List (List UInt8))) × (List (List UInt8))
def args24 : A24 → List AV × List AE.Obj := fun (last, ops, l) => ([AV.ptr 0 0, AV.ro Ty.str l], [AE.Obj.cells [AV.own 1, AV.int IntKind.i64 last], Obj.arr (Ty.st (Ty.pair (Ty.int IntKind.i64) (Ty.list Ty.str))) ops])
def decA24 (l : List AV) (H : List AE.Obj) : Option A24 := match l, H with
  | [AV.ptr 0 0, AV.ro Ty.str l], [AE.Obj.cells [AV.own 1, AV.int IntKind.i64 last], Obj.arr (Ty.st (Ty.pair (Ty.int IntKind.i64) (Ty.list Ty.str))) ops] => some (last, ops, l)
  | _, _ => none
theorem decA24_ok (l : List AV) (H : List AE.Obj) (a : A24) (h : decA24 l H = some a) : (l, H) = args24 a := by
  unfold decA24 at h
  split at h
  · cases h; rfl
  · cases h
noncomputable def fn24 : A24 → (AV → List AE.Obj → Ans) → Ans := fun (last, ops, l) K => (bif decide (↑(List.length ops) ≥ (32 : Int)) then (K (AV.tup [AV.int IntKind.i64 (0 : Int), AV.int IntKind.i64 (6 : Int)]) [AE.Obj.cells [AV.own (1), AV.int IntKind.i64 last], Obj.arr (Ty.st (Ty.pair (Ty.int IntKind.i64) (Ty.list Ty.str))) ops]) else (bif Nat.ble (List.length l) (1000000 : Nat) then (bif Nat.ble ((List.length ops + List.length [(IntKind.wrap IntKind.i64 (last + (1 : Int)), uniqT l)]) * 32) (140737488355328 : Nat) then (K (AV.tup [AV.int IntKind.i64 (IntKind.wrap IntKind.i64 (last + (1 : Int))), AV.int IntKind.i64 (0 : Int)]) [AE.Obj.cells [AV.own (1), AV.int IntKind.i64 (IntKind.wrap IntKind.i64 (last + (1 : Int)))], Obj.arr (Ty.st (Ty.pair (Ty.int IntKind.i64) (Ty.list Ty.str))) (ops ++ [(IntKind.wrap IntKind.i64 (last + (1 : Int)), uniqT l)])]) else none) else none))
theorem fn24_ok (a : A24) (K : AV → List AE.Obj → Ans) : fnE Try.tab envST Try.hint 0 70 24 Try.f24.ntmps Try.f24.results.toList ann24 b24 (args24 a).1 (args24 a).2 K = fn24 a K := by kernel_rfl
def v24 : A24 → (AV → List AE.Obj → Ans) → Ans := fun (last, ops, l) K => bif Nat.ble l.length 1000000 then (bif decide (32 ≤ ops.length) then K (.tup [.int .i64 0, .int .i64 6]) (setT last ops) else
  K (.tup [.int .i64 (IntKind.wrap .i64 (last + 1)), .int .i64 0]) (setT (IntKind.wrap .i64 (last + 1)) (ops ++ [(IntKind.wrap .i64 (last + 1), uniqT l)]))) else none
theorem v24_ok (a : A24) (K : AV → List AE.Obj → Ans) (res : AV × List AE.Obj) (h : v24 a K = some res) : fn24 a K = some res := by
  obtain ⟨last, ops, l⟩ := a
  obtain ⟨hl, h⟩ := cond_none h
  simp only [fn24, hl, cond_true]
  by_cases h1 : 32 ≤ ops.length
  · have : (ops.length : Int) ≥ 32 := by omega
    simp only [h1, this, decide_true, cond_true] at h ⊢
    exact h
  · have h2 : ¬ (ops.length : Int) ≥ 32 := by omega
    have h3 : Nat.ble ((ops.length + List.length [(IntKind.wrap .i64 (last + 1), uniqT l)]) * 32) 140737488355328 = true := Nat.ble_eq_true_of_le (by simp; omega)
    simp only [h1, h2, decide_false, cond_false] at h ⊢
    rw [h3]
    exact h
noncomputable def F24 : List AV → List AE.Obj → (AV → List AE.Obj → Ans) → Ans := fun l H K => bindO (decA24 l H) fun a => v24 a K
theorem F24_ok : FuncOk Try.prog 24 F24 := func_mk mixed tabOk envSTOk Try.func24 (bodySome (by kernel_rfl)) (by decide +kernel) ann24_ok decA24_ok fn24_ok v24_ok
noncomputable def b25 : Code := Try.f25.body.getD .skip
--@ loop 25_0
noncomputable def L25_0 : Code := codeAt [1, 1, 1, 1, 0, 1, 0, 0] b25
abbrev I25_0 := (Int) × (Int) × (List (Int × List (List UInt8))) × (List UInt8)
abbrev V25_0 := (Int) × (List (Int × Int)) × (List (Int × List (List UInt8)))
def S25_0 : I25_0 → V25_0 → St := fun (t15, o0_1, o1, o2_0) (t16, o3, o4) => { env := [(0, AV.ptr 0 0), (3, AV.ptr 2 0), (5, AV.own 3), (6, AV.own 4), (14, AV.own 1), (15, AV.int IntKind.i64 t15), (16, AV.int IntKind.i64 t16)], stk := [[(0, AV.ptr 0 0)]], H := [AE.Obj.cells [AV.own 1, AV.int IntKind.i64 o0_1], Obj.arr (Ty.st (Ty.pair (Ty.int IntKind.i64) (Ty.list Ty.str))) o1, AE.Obj.cells [AV.str o2_0], Obj.arr (Ty.st (Ty.pair (Ty.int IntKind.i64) (Ty.int IntKind.i64))) o3, Obj.arr (Ty.st (Ty.pair (Ty.int IntKind.i64) (Ty.list Ty.str))) o4], blk := 102400 }
def dec25_0 (s : St) : Option (I25_0 × V25_0) := match s with
  | { env := [(0, AV.ptr 0 0), (3, AV.ptr 2 0), (5, AV.own 3), (6, AV.own 4), (14, AV.own 1), (15, AV.int IntKind.i64 t15), (16, AV.int IntKind.i64 t16)], stk := [[(0, AV.ptr 0 0)]], H := [AE.Obj.cells [AV.own 1, AV.int IntKind.i64 o0_1], Obj.arr (Ty.st (Ty.pair (Ty.int IntKind.i64) (Ty.list Ty.str))) o1, AE.Obj.cells [AV.str o2_0], Obj.arr (Ty.st (Ty.pair (Ty.int IntKind.i64) (Ty.int IntKind.i64))) o3, Obj.arr (Ty.st (Ty.pair (Ty.int IntKind.i64) (Ty.list Ty.str))) o4], blk := 102400 } => some ((t15, o0_1, o1, o2_0), (t16, o3, o4))
  | _ => none
theorem dec25_0_ok (s : St) (x : I25_0 × V25_0) (h : dec25_0 s = some x) : s = S25_0 x.1 x.2 := by
  unfold dec25_0 at h
  split at h
  · cases h; rfl
  · cases h
abbrev Y25_0 := ((List (Int × Int)) × (List (Int × List (List UInt8))))
def out25_0 : I25_0 → (Ex → St → Ans) → Y25_0 → Ans := fun (t15, o0_1, o1, o2_0) K y => (fun (o3_y3, o4_y4) => K (Ex.exit 0) { env := [(0, AV.ptr 0 0), (5, AV.own 3), (6, AV.own 4)], stk := [[(0, AV.ptr 0 0)]], H := [AE.Obj.cells [AV.own 1, AV.int IntKind.i64 o0_1], Obj.arr (Ty.st (Ty.pair (Ty.int IntKind.i64) (Ty.list Ty.str))) o1, AE.Obj.cells [AV.str o2_0], Obj.arr (Ty.st (Ty.pair (Ty.int IntKind.i64) (Ty.int IntKind.i64))) o3_y3, Obj.arr (Ty.st (Ty.pair (Ty.int IntKind.i64) (Ty.list Ty.str))) o4_y4], blk := 102400 }) y
noncomputable def step25_0 : I25_0 → V25_0 → (V25_0 → Ans) → (Y25_0 → Ans) → Ans := fun (t15, o0_1, o1, o2_0) (t16, o3, o4) next exit => (bif decide (t16 < t15) then (bif inR t16 (List.length o1) then (bindO (o1[Int.toNat t16]?) fun x_2 => (bif Nat.ble (List.length x_2.snd) (1000000 : Nat) then (bif ↑(List.length (dropT x_2.snd o2_0)) == (0 : Int) then (bif Nat.ble ((List.length o3 + List.length [(x_2.fst, (2 : Int))]) * 16) (140737488355328 : Nat) then (next (IntKind.wrap IntKind.i64 (t16 + (1 : Int)), o3 ++ [(x_2.fst, (2 : Int))], o4)) else none) else (bif Nat.ble ((List.length o4 + List.length [(x_2.fst, dropT x_2.snd o2_0)]) * 32) (140737488355328 : Nat) then (next (IntKind.wrap IntKind.i64 (t16 + (1 : Int)), o3, o4 ++ [(x_2.fst, dropT x_2.snd o2_0)])) else none)) else none)) else none) else (exit (o3, o4)))
noncomputable def annL25_0 : Ann := .pack 2 (.loop .none)
theorem annL25_0_ok : AnnOk Try.prog 44 (.loop L25_0) annL25_0 := annOk_pack (annOk_loop (annOk_none _ _ _))
theorem step25_0_ok (n : Nat) (i : I25_0) (v : V25_0) (K : Ex → St → Ans) : codeI Try.tab envST Try.hint (codeD Try.tab envST Try.hint 0 64) (n+1) 44 annL25_0 (.loop L25_0) (weak [0, 5, 6] K) (S25_0 i v) = step25_0 i v (fun v' => codeI Try.tab envST Try.hint (codeD Try.tab envST Try.hint 0 64) n 44 annL25_0 (.loop L25_0) (weak [0, 5, 6] K) (S25_0 i v')) (fun y => out25_0 i K y) := by kernel_rfl
def R25_0 : I25_0 → V25_0 → Option Y25_0 := fun (n, _, ops, x) (t, o, q) => if t = 0 ∧ n = (ops.length : Int) ∧ ops.length ≤ 100000 ∧ (∀ o ∈ ops, o.2.length ≤ 1000000) ∧ o = [] ∧ q = [] then some (doneT ops x) else none
theorem R25_0_ok (i : I25_0) (v : V25_0) (z : Y25_0) (h : R25_0 i v = some z) : ∃ n, ∀ k, iterK (step25_0 i) n v k = k z := by
  obtain ⟨n, last, ops, x⟩ := i; obtain ⟨t, o, q⟩ := v
  simp only [R25_0] at h
  split at h
  · rename_i hh; obtain ⟨rfl, rfl, hl, hw, rfl, rfl⟩ := hh
    cases h
    refine iterK_fold ops (doneFT x) ([], []) (fun z => z) (fun j b => b.1.length ≤ j ∧ b.2.length ≤ j) (by simp) ?_ ?_ ?_
    · intro j o b ho hb
      unfold doneFT
      split <;> simp <;> omega
    · intro j o b ho hb next k
      obtain ⟨b1, b2⟩ := b
      obtain ⟨hb1, hb2⟩ := hb
      simp only at hb1 hb2
      have hj : j < ops.length := (List.getElem?_eq_some_iff.1 ho).1
      have g1 : (j : Int) < (ops.length : Int) := by omega
      have g2 : inR (j : Int) ops.length = true := by simp [inR]; omega
      have g3 : Nat.ble (List.length o.2) 1000000 = true := Nat.ble_eq_true_of_le (hw o (List.mem_of_getElem? ho))
      have g4 : Nat.ble ((b1.length + List.length [(o.1, (2 : Int))]) * 16) 140737488355328 = true := Nat.ble_eq_true_of_le (by simp; omega)
      have g5 : Nat.ble ((b2.length + List.length [(o.1, dropT o.2 x)]) * 32) 140737488355328 = true := Nat.ble_eq_true_of_le (by simp; omega)
      simp only [step25_0, g1, g2, g3, g4, g5, decide_true, cond_true, Int.toNat_natCast, ho, bindO, doneFT]
      rw [wrap64 (by omega) (by omega)]
      by_cases e : dropT o.2 x = []
      · simp [e]
      · have e2 : (((dropT o.2 x).length : Int) == 0) = false := by
          have : (dropT o.2 x).length ≠ 0 := by rw [ne_eq, List.length_eq_zero_iff]; exact e
          simpa using e
        rw [e2, if_neg e]
        simp
    · intro b hb next k
      obtain ⟨b1, b2⟩ := b
      have g1 : ¬ (ops.length : Int) < (ops.length : Int) := by omega
      simp only [step25_0, g1, decide_false, cond_false]
  · cases h
noncomputable def G25_0 : (Ex → St → Ans) → St → Ans := sumG dec25_0 R25_0 out25_0
theorem G25_0_ok : LSum Try.prog 44 L25_0 G25_0 := lsum_iter mixed tabOk envSTOk [0, 5, 6] annL25_0_ok dec25_0_ok step25_0_ok R25_0_ok
--@ fn 25
noncomputable def ann25 : Ann := (.seq .none (.seq .none (.seq .none (.seq .none (.seq (.seq .none (.block (.pack 2 (.sum G25_0)))) .none)))))
theorem ann25_ok : AnnOk Try.prog 44 b25 ann25 := ⟨(annOk_none _ _ _), ⟨(annOk_none _ _ _), ⟨(annOk_none _ _ _), ⟨(annOk_none _ _ _), ⟨⟨(annOk_none _ _ _), (annOk_pack (annOk_sum G25_0_ok))⟩, (annOk_none _ _ _)⟩⟩⟩⟩⟩
abbrev A25 := (Int) × (List (Int × List (List UInt8))) × (List UInt8)
def args25 : A25 → List AV × List AE.Obj := fun (last, ops, x) => ([AV.ptr 0 0, AV.str x], [AE.Obj.cells [AV.own 1, AV.int IntKind.i64 last], Obj.arr (Ty.st (Ty.pair (Ty.int IntKind.i64) (Ty.list Ty.str))) ops])
def decA25 (l : List AV) (H : List AE.Obj) : Option A25 := match l, H with
  | [AV.ptr 0 0, AV.str x], [AE.Obj.cells [AV.own 1, AV.int IntKind.i64 last], Obj.arr (Ty.st (Ty.pair (Ty.int IntKind.i64) (Ty.list Ty.str))) ops] => some (last, ops, x)
  | _, _ => none
theorem decA25_ok (l : List AV) (H : List AE.Obj) (a : A25) (h : decA25 l H = some a) : (l, H) = args25 a := by
  unfold decA25 at h
  split at h
  · cases h; rfl
  · cases h
noncomputable def fn25 : A25 → (AV → List AE.Obj → Ans) → Ans := fun (last, ops, x) K => (bindO (R25_0 (↑(List.length ops), last, ops, x) ((0 : Int), [], [])) fun (o3, o4) => (K (AV.own (2)) [AE.Obj.cells [AV.own (3), AV.int IntKind.i64 last], Obj.arr (Ty.st (Ty.pair (Ty.int IntKind.i64) (Ty.list Ty.str))) ops, Obj.arr (Ty.st (Ty.pair (Ty.int IntKind.i64) (Ty.int IntKind.i64))) o3, Obj.arr (Ty.st (Ty.pair (Ty.int IntKind.i64) (Ty.list Ty.str))) o4]))
theorem fn25_ok (a : A25) (K : AV → List AE.Obj → Ans) : fnE Try.tab envST Try.hint 0 70 25 Try.f25.ntmps Try.f25.results.toList ann25 b25 (args25 a).1 (args25 a).2 K = fn25 a K := by kernel_rfl
def okOpsT (ops : OpsT) : Bool := Nat.ble ops.length 100000 && ops.all fun o => Nat.ble o.2.length 1000000
theorem okOpsT_iff (ops : OpsT) : okOpsT ops = true ↔ ops.length ≤ 100000 ∧ ∀ o ∈ ops, o.2.length ≤ 1000000 := by
  simp [okOpsT]
def v25 : A25 → (AV → List AE.Obj → Ans) → Ans := fun (last, ops, x) K => bif okOpsT ops then K (.own 2) [.cells [.own 3, .int .i64 last], .arr sT ops, .arr (.st (.pair (.int .i64) (.int .i64))) (doneT ops x).1, .arr sT (doneT ops x).2] else none
theorem v25_ok (a : A25) (K : AV → List AE.Obj → Ans) (res : AV × List AE.Obj) (h : v25 a K = some res) : fn25 a K = some res := by
  obtain ⟨last, ops, x⟩ := a
  obtain ⟨hl, h⟩ := cond_none h
  rw [okOpsT_iff] at hl
  simp only [fn25, R25_0]
  rw [if_pos (by simpa using hl)]
  exact h
noncomputable def F25 : List AV → List AE.Obj → (AV → List AE.Obj → Ans) → Ans := fun l H K => bindO (decA25 l H) fun a => v25 a K
theorem F25_ok : FuncOk Try.prog 25 F25 := func_mk mixed tabOk envSTOk Try.func25 (bodySome (by kernel_rfl)) (by decide +kernel) ann25_ok decA25_ok fn25_ok v25_ok
noncomputable def b26 : Code := Try.f26.body.getD .skip
--@ loop 26_0
noncomputable def L26_0 : Code := codeAt [1, 1, 0, 1, 0, 0] b26
abbrev I26_0 := (List UInt8) × (Int) × (Int) × (List (Int × List (List UInt8)))
abbrev V26_0 := (Int)
def S26_0 : I26_0 → V26_0 → St := fun (t1, t13, o0_1, o1) t14 => { env := [(1, AV.str t1), (12, AV.own 1), (13, AV.int IntKind.i64 t13), (14, AV.int IntKind.i64 t14)], stk := [[(0, AV.ptr 0 0)]], H := [AE.Obj.cells [AV.own 1, AV.int IntKind.i64 o0_1], Obj.arr (Ty.st (Ty.pair (Ty.int IntKind.i64) (Ty.list Ty.str))) o1], blk := 106496 }
def dec26_0 (s : St) : Option (I26_0 × V26_0) := match s with
  | { env := [(1, AV.str t1), (12, AV.own 1), (13, AV.int IntKind.i64 t13), (14, AV.int IntKind.i64 t14)], stk := [[(0, AV.ptr 0 0)]], H := [AE.Obj.cells [AV.own 1, AV.int IntKind.i64 o0_1], Obj.arr (Ty.st (Ty.pair (Ty.int IntKind.i64) (Ty.list Ty.str))) o1], blk := 106496 } => some ((t1, t13, o0_1, o1), t14)
  | _ => none
theorem dec26_0_ok (s : St) (x : I26_0 × V26_0) (h : dec26_0 s = some x) : s = S26_0 x.1 x.2 := by
  unfold dec26_0 at h
  split at h
  · cases h; rfl
  · cases h
abbrev Y26_0 := (Unit) ⊕ (Unit)
def out26_0 : I26_0 → (Ex → St → Ans) → Y26_0 → Ans := fun (t1, t13, o0_1, o1) K y => Sum.elim (fun _ => K (Ex.exit 0) { env := [(4, AV.unk)], stk := [[(0, AV.ptr 0 0)]], H := [AE.Obj.cells [AV.own 1, AV.int IntKind.i64 o0_1], Obj.arr (Ty.st (Ty.pair (Ty.int IntKind.i64) (Ty.list Ty.str))) o1], blk := 106496 }) (fun _ => K (Ex.ret) { env := [(4, AV.bool (true))], stk := [[(0, AV.ptr 0 0)]], H := [AE.Obj.cells [AV.own 1, AV.int IntKind.i64 o0_1], Obj.arr (Ty.st (Ty.pair (Ty.int IntKind.i64) (Ty.list Ty.str))) o1], blk := 106497 }) y
noncomputable def step26_0 : I26_0 → V26_0 → (V26_0 → Ans) → (Y26_0 → Ans) → Ans := fun (t1, t13, o0_1, o1) t14 next exit => (bif decide (t14 < t13) then (bif inR t14 (List.length o1) then (bindO (o1[Int.toNat t14]?) fun x_2 => (bif Nat.ble (List.length x_2.snd) (1000000 : Nat) then (bif decide (t1 ∈ x_2.snd) then (exit (Sum.inr ())) else (next (IntKind.wrap IntKind.i64 (t14 + (1 : Int))))) else none)) else none) else (exit (Sum.inl ())))
noncomputable def annL26_0 : Ann := .pack 2 (.loop .none)
theorem annL26_0_ok : AnnOk Try.prog 23 (.loop L26_0) annL26_0 := annOk_pack (annOk_loop (annOk_none _ _ _))
theorem step26_0_ok (n : Nat) (i : I26_0) (v : V26_0) (K : Ex → St → Ans) : codeI Try.tab envST Try.hint (codeD Try.tab envST Try.hint 0 64) (n+1) 23 annL26_0 (.loop L26_0) (weak [4] K) (S26_0 i v) = step26_0 i v (fun v' => codeI Try.tab envST Try.hint (codeD Try.tab envST Try.hint 0 64) n 23 annL26_0 (.loop L26_0) (weak [4] K) (S26_0 i v')) (fun y => out26_0 i K y) := by kernel_rfl
def waitsT (ops : OpsT) (x : List UInt8) : Bool := ops.any fun o => decide (x ∈ o.2)
def R26_0 : I26_0 → V26_0 → Option Y26_0 := fun (x, n, _, ops) t => if t = 0 ∧ n = (ops.length : Int) ∧ ops.length ≤ 100000 ∧ (∀ o ∈ ops, o.2.length ≤ 1000000) then some (if waitsT ops x then Sum.inr () else Sum.inl ()) else none
theorem R26_0_ok (i : I26_0) (v : V26_0) (z : Y26_0) (h : R26_0 i v = some z) : ∃ n, ∀ k, iterK (step26_0 i) n v k = k z := by
  obtain ⟨x, n, last, ops⟩ := i
  simp only [R26_0] at h
  split at h
  · rename_i hh; obtain ⟨rfl, rfl, hl, hw⟩ := hh
    cases h
    have := iterK_scan (step := step26_0 (x, (ops.length : Int), last, ops)) ops (fun o => if x ∈ o.2 then some (Sum.inr ()) else none) (Sum.inl ()) ?_ ?_
    · have e : ((ops.findSome? fun o => if x ∈ o.2 then some (Sum.inr ()) else none).getD (Sum.inl ()) : Y26_0) = if waitsT ops x then Sum.inr () else Sum.inl () := by
        clear this hl hw
        induction ops with
        | nil => rfl
        | cons o r ih =>
          rw [List.findSome?_cons]
          by_cases h : x ∈ o.2
          · simp [h, waitsT]
          · simp only [h, if_false]
            rw [ih]
            have e2 : waitsT (o :: r) x = waitsT r x := by simp [waitsT, h]
            rw [e2]
      rw [e] at this
      exact this
    · intro j o ho next k
      have hj : j < ops.length := (List.getElem?_eq_some_iff.1 ho).1
      have g1 : (j : Int) < (ops.length : Int) := by omega
      have g2 : inR (j : Int) ops.length = true := by simp [inR]; omega
      have g3 : Nat.ble (List.length o.2) 1000000 = true := Nat.ble_eq_true_of_le (hw o (List.mem_of_getElem? ho))
      simp only [step26_0, g1, g2, g3, decide_true, cond_true, Int.toNat_natCast, ho, bindO]
      rw [wrap64 (by omega) (by omega)]
      by_cases e : x ∈ o.2 <;> simp [e]
    · intro next k
      have g1 : ¬ (ops.length : Int) < (ops.length : Int) := by omega
      simp only [step26_0, g1, decide_false, cond_false]
  · cases h
noncomputable def G26_0 : (Ex → St → Ans) → St → Ans := sumG dec26_0 R26_0 out26_0
theorem G26_0_ok : LSum Try.prog 23 L26_0 G26_0 := lsum_iter mixed tabOk envSTOk [4] annL26_0_ok dec26_0_ok step26_0_ok R26_0_ok
--@ fn 26
noncomputable def ann26 : Ann := (.seq .none (.seq .none (.seq (.seq .none (.block (.pack 2 (.sum G26_0)))) .none)))
theorem ann26_ok : AnnOk Try.prog 23 b26 ann26 := ⟨(annOk_none _ _ _), ⟨(annOk_none _ _ _), ⟨⟨(annOk_none _ _ _), (annOk_pack (annOk_sum G26_0_ok))⟩, (annOk_none _ _ _)⟩⟩⟩
abbrev A26 := (Int) × (List (Int × List (List UInt8))) × (List UInt8)
def args26 : A26 → List AV × List AE.Obj := fun (last, ops, x) => ([AV.ptr 0 0, AV.str x], [AE.Obj.cells [AV.own 1, AV.int IntKind.i64 last], Obj.arr (Ty.st (Ty.pair (Ty.int IntKind.i64) (Ty.list Ty.str))) ops])
def decA26 (l : List AV) (H : List AE.Obj) : Option A26 := match l, H with
  | [AV.ptr 0 0, AV.str x], [AE.Obj.cells [AV.own 1, AV.int IntKind.i64 last], Obj.arr (Ty.st (Ty.pair (Ty.int IntKind.i64) (Ty.list Ty.str))) ops] => some (last, ops, x)
  | _, _ => none
theorem decA26_ok (l : List AV) (H : List AE.Obj) (a : A26) (h : decA26 l H = some a) : (l, H) = args26 a := by
  unfold decA26 at h
  split at h
  · cases h; rfl
  · cases h
noncomputable def fn26 : A26 → (AV → List AE.Obj → Ans) → Ans := fun (last, ops, x) K => (bindO (R26_0 (x, ↑(List.length ops), last, ops) ((0 : Int))) fun y => Sum.elim (fun _ => (K (AV.bool false) [AE.Obj.cells [AV.own (1), AV.int IntKind.i64 last], Obj.arr (Ty.st (Ty.pair (Ty.int IntKind.i64) (Ty.list Ty.str))) ops])) (fun _ => (K (AV.bool true) [AE.Obj.cells [AV.own (1), AV.int IntKind.i64 last], Obj.arr (Ty.st (Ty.pair (Ty.int IntKind.i64) (Ty.list Ty.str))) ops])) y)
theorem fn26_ok (a : A26) (K : AV → List AE.Obj → Ans) : fnE Try.tab envST Try.hint 0 70 26 Try.f26.ntmps Try.f26.results.toList ann26 b26 (args26 a).1 (args26 a).2 K = fn26 a K := by kernel_rfl
def v26 : A26 → (AV → List AE.Obj → Ans) → Ans := fun (last, ops, x) K => bif okOpsT ops then K (.bool (waitsT ops x)) (setT last ops) else none
theorem v26_ok (a : A26) (K : AV → List AE.Obj → Ans) (res : AV × List AE.Obj) (h : v26 a K = some res) : fn26 a K = some res := by
  obtain ⟨last, ops, x⟩ := a
  obtain ⟨hl, h⟩ := cond_none h
  rw [okOpsT_iff] at hl
  simp only [fn26, R26_0]
  rw [if_pos (by simpa using hl)]
  simp only [bindO]
  cases hb : waitsT ops x <;> rw [hb] at h <;> exact h
noncomputable def F26 : List AV → List AE.Obj → (AV → List AE.Obj → Ans) → Ans := fun l H K => bindO (decA26 l H) fun a => v26 a K
theorem F26_ok : FuncOk Try.prog 26 F26 := func_mk mixed tabOk envSTOk Try.func26 (bodySome (by kernel_rfl)) (by decide +kernel) ann26_ok decA26_ok fn26_ok v26_ok
abbrev sI : Ty := .st (.pair (.int .i64) (.list (.int .i64)))
noncomputable def envSI : Env := [(45, .func F45), (46, .pure F46)]
theorem envSIOk : EnvOk Try.prog envSI := EnvOk.cons F45_ok (EnvOk.cons F46_ok EnvOk.nil)
abbrev OpsI := List (Int × List (Int))
def setI (last : Int) (ops : OpsI) : List AE.Obj := [.cells [.own 1, .int .i64 last], .arr sI ops]
/-- What comes out and what stays once a thing is done. -/
def doneFI (x : Int) (a : List (Int × Int) × OpsI) (o : Int × List (Int)) : List (Int × Int) × OpsI :=
  if dropI o.2 x = [] then (a.1 ++ [(o.1, 2)], a.2) else (a.1, a.2 ++ [(o.1, dropI o.2 x)])
def doneI (ops : OpsI) (x : Int) : List (Int × Int) × OpsI := ops.foldl (doneFI x) ([], [])
noncomputable def b30 : Code := Try.f30.body.getD .skip
--@ fn 30
noncomputable def ann30 : Ann := .none
theorem ann30_ok : AnnOk Try.prog 43 b30 ann30 := (annOk_none _ _ _)
abbrev A30 := (Int) × (List (Int × List Int)) × (List Int)
def args30 : A30 → List AV × List AE.Obj := fun (last, ops, l) => ([AV.ptr 0 0, AV.ro (Ty.int IntKind.i64) l], [AE.Obj.cells [AV.own 1, AV.int IntKind.i64 last], Obj.arr (Ty.st (Ty.pair (Ty.int IntKind.i64) (Ty.list (Ty.int IntKind.i64)))) ops])
def decA30 (l : List AV) (H : List AE.Obj) : Option A30 := match l, H with
  | [AV.ptr 0 0, AV.ro (Ty.int IntKind.i64) l], [AE.Obj.cells [AV.own 1, AV.int IntKind.i64 last], Obj.arr (Ty.st (Ty.pair (Ty.int IntKind.i64) (Ty.list (Ty.int IntKind.i64)))) ops] => some (last, ops, l)
  | _, _ => none
theorem decA30_ok (l : List AV) (H : List AE.Obj) (a : A30) (h : decA30 l H = some a) : (l, H) = args30 a := by
  unfold decA30 at h
  split at h
  · cases h; rfl
  · cases h
noncomputable def fn30 : A30 → (AV → List AE.Obj → Ans) → Ans := fun (last, ops, l) K => (bif decide (↑(List.length ops) ≥ (32 : Int)) then (K (AV.tup [AV.int IntKind.i64 (0 : Int), AV.int IntKind.i64 (6 : Int)]) [AE.Obj.cells [AV.own (1), AV.int IntKind.i64 last], Obj.arr (Ty.st (Ty.pair (Ty.int IntKind.i64) (Ty.list (Ty.int IntKind.i64)))) ops]) else (bif Nat.ble (List.length l) (1000000 : Nat) then (bif Nat.ble ((List.length ops + List.length [(IntKind.wrap IntKind.i64 (last + (1 : Int)), uniqI l)]) * 32) (140737488355328 : Nat) then (K (AV.tup [AV.int IntKind.i64 (IntKind.wrap IntKind.i64 (last + (1 : Int))), AV.int IntKind.i64 (0 : Int)]) [AE.Obj.cells [AV.own (1), AV.int IntKind.i64 (IntKind.wrap IntKind.i64 (last + (1 : Int)))], Obj.arr (Ty.st (Ty.pair (Ty.int IntKind.i64) (Ty.list (Ty.int IntKind.i64)))) (ops ++ [(IntKind.wrap IntKind.i64 (last + (1 : Int)), uniqI l)])]) else none) else none))
theorem fn30_ok (a : A30) (K : AV → List AE.Obj → Ans) : fnE Try.tab envSI Try.hint 0 70 30 Try.f30.ntmps Try.f30.results.toList ann30 b30 (args30 a).1 (args30 a).2 K = fn30 a K := by kernel_rfl
def v30 : A30 → (AV → List AE.Obj → Ans) → Ans := fun (last, ops, l) K => bif Nat.ble l.length 1000000 then (bif decide (32 ≤ ops.length) then K (.tup [.int .i64 0, .int .i64 6]) (setI last ops) else
  K (.tup [.int .i64 (IntKind.wrap .i64 (last + 1)), .int .i64 0]) (setI (IntKind.wrap .i64 (last + 1)) (ops ++ [(IntKind.wrap .i64 (last + 1), uniqI l)]))) else none
theorem v30_ok (a : A30) (K : AV → List AE.Obj → Ans) (res : AV × List AE.Obj) (h : v30 a K = some res) : fn30 a K = some res := by
  obtain ⟨last, ops, l⟩ := a
  obtain ⟨hl, h⟩ := cond_none h
  simp only [fn30, hl, cond_true]
  by_cases h1 : 32 ≤ ops.length
  · have : (ops.length : Int) ≥ 32 := by omega
    simp only [h1, this, decide_true, cond_true] at h ⊢
    exact h
  · have h2 : ¬ (ops.length : Int) ≥ 32 := by omega
    have h3 : Nat.ble ((ops.length + List.length [(IntKind.wrap .i64 (last + 1), uniqI l)]) * 32) 140737488355328 = true := Nat.ble_eq_true_of_le (by simp; omega)
    simp only [h1, h2, decide_false, cond_false] at h ⊢
    rw [h3]
    exact h
noncomputable def F30 : List AV → List AE.Obj → (AV → List AE.Obj → Ans) → Ans := fun l H K => bindO (decA30 l H) fun a => v30 a K
theorem F30_ok : FuncOk Try.prog 30 F30 := func_mk mixed tabOk envSIOk Try.func30 (bodySome (by kernel_rfl)) (by decide +kernel) ann30_ok decA30_ok fn30_ok v30_ok
noncomputable def b33 : Code := Try.f33.body.getD .skip
--@ loop 33_0
noncomputable def L33_0 : Code := codeAt [1, 1, 1, 1, 0, 1, 0, 0] b33
abbrev I33_0 := (Int) × (Int) × (List (Int × List Int)) × (Int)
abbrev V33_0 := (Int) × (List (Int × Int)) × (List (Int × List Int))
def S33_0 : I33_0 → V33_0 → St := fun (t15, o0_1, o1, o2_0) (t16, o3, o4) => { env := [(0, AV.ptr 0 0), (3, AV.ptr 2 0), (5, AV.own 3), (6, AV.own 4), (14, AV.own 1), (15, AV.int IntKind.i64 t15), (16, AV.int IntKind.i64 t16)], stk := [[(0, AV.ptr 0 0)]], H := [AE.Obj.cells [AV.own 1, AV.int IntKind.i64 o0_1], Obj.arr (Ty.st (Ty.pair (Ty.int IntKind.i64) (Ty.list (Ty.int IntKind.i64)))) o1, AE.Obj.cells [AV.int IntKind.i64 o2_0], Obj.arr (Ty.st (Ty.pair (Ty.int IntKind.i64) (Ty.int IntKind.i64))) o3, Obj.arr (Ty.st (Ty.pair (Ty.int IntKind.i64) (Ty.list (Ty.int IntKind.i64)))) o4], blk := 135168 }
def dec33_0 (s : St) : Option (I33_0 × V33_0) := match s with
  | { env := [(0, AV.ptr 0 0), (3, AV.ptr 2 0), (5, AV.own 3), (6, AV.own 4), (14, AV.own 1), (15, AV.int IntKind.i64 t15), (16, AV.int IntKind.i64 t16)], stk := [[(0, AV.ptr 0 0)]], H := [AE.Obj.cells [AV.own 1, AV.int IntKind.i64 o0_1], Obj.arr (Ty.st (Ty.pair (Ty.int IntKind.i64) (Ty.list (Ty.int IntKind.i64)))) o1, AE.Obj.cells [AV.int IntKind.i64 o2_0], Obj.arr (Ty.st (Ty.pair (Ty.int IntKind.i64) (Ty.int IntKind.i64))) o3, Obj.arr (Ty.st (Ty.pair (Ty.int IntKind.i64) (Ty.list (Ty.int IntKind.i64)))) o4], blk := 135168 } => some ((t15, o0_1, o1, o2_0), (t16, o3, o4))
  | _ => none
theorem dec33_0_ok (s : St) (x : I33_0 × V33_0) (h : dec33_0 s = some x) : s = S33_0 x.1 x.2 := by
  unfold dec33_0 at h
  split at h
  · cases h; rfl
  · cases h
abbrev Y33_0 := ((List (Int × Int)) × (List (Int × List Int)))
def out33_0 : I33_0 → (Ex → St → Ans) → Y33_0 → Ans := fun (t15, o0_1, o1, o2_0) K y => (fun (o3_y3, o4_y4) => K (Ex.exit 0) { env := [(0, AV.ptr 0 0), (5, AV.own 3), (6, AV.own 4)], stk := [[(0, AV.ptr 0 0)]], H := [AE.Obj.cells [AV.own 1, AV.int IntKind.i64 o0_1], Obj.arr (Ty.st (Ty.pair (Ty.int IntKind.i64) (Ty.list (Ty.int IntKind.i64)))) o1, AE.Obj.cells [AV.int IntKind.i64 o2_0], Obj.arr (Ty.st (Ty.pair (Ty.int IntKind.i64) (Ty.int IntKind.i64))) o3_y3, Obj.arr (Ty.st (Ty.pair (Ty.int IntKind.i64) (Ty.list (Ty.int IntKind.i64)))) o4_y4], blk := 135168 }) y
noncomputable def step33_0 : I33_0 → V33_0 → (V33_0 → Ans) → (Y33_0 → Ans) → Ans := fun (t15, o0_1, o1, o2_0) (t16, o3, o4) next exit => (bif decide (t16 < t15) then (bif inR t16 (List.length o1) then (bindO (o1[Int.toNat t16]?) fun x_2 => (bif Nat.ble (List.length x_2.snd) (1000000 : Nat) then (bif ↑(List.length (dropI x_2.snd o2_0)) == (0 : Int) then (bif Nat.ble ((List.length o3 + List.length [(x_2.fst, (2 : Int))]) * 16) (140737488355328 : Nat) then (next (IntKind.wrap IntKind.i64 (t16 + (1 : Int)), o3 ++ [(x_2.fst, (2 : Int))], o4)) else none) else (bif Nat.ble ((List.length o4 + List.length [(x_2.fst, dropI x_2.snd o2_0)]) * 32) (140737488355328 : Nat) then (next (IntKind.wrap IntKind.i64 (t16 + (1 : Int)), o3, o4 ++ [(x_2.fst, dropI x_2.snd o2_0)])) else none)) else none)) else none) else (exit (o3, o4)))
noncomputable def annL33_0 : Ann := .pack 2 (.loop .none)
theorem annL33_0_ok : AnnOk Try.prog 44 (.loop L33_0) annL33_0 := annOk_pack (annOk_loop (annOk_none _ _ _))
theorem step33_0_ok (n : Nat) (i : I33_0) (v : V33_0) (K : Ex → St → Ans) : codeI Try.tab envSI Try.hint (codeD Try.tab envSI Try.hint 0 64) (n+1) 44 annL33_0 (.loop L33_0) (weak [0, 5, 6] K) (S33_0 i v) = step33_0 i v (fun v' => codeI Try.tab envSI Try.hint (codeD Try.tab envSI Try.hint 0 64) n 44 annL33_0 (.loop L33_0) (weak [0, 5, 6] K) (S33_0 i v')) (fun y => out33_0 i K y) := by kernel_rfl
def R33_0 : I33_0 → V33_0 → Option Y33_0 := fun (n, _, ops, x) (t, o, q) => if t = 0 ∧ n = (ops.length : Int) ∧ ops.length ≤ 100000 ∧ (∀ o ∈ ops, o.2.length ≤ 1000000) ∧ o = [] ∧ q = [] then some (doneI ops x) else none
theorem R33_0_ok (i : I33_0) (v : V33_0) (z : Y33_0) (h : R33_0 i v = some z) : ∃ n, ∀ k, iterK (step33_0 i) n v k = k z := by
  obtain ⟨n, last, ops, x⟩ := i; obtain ⟨t, o, q⟩ := v
  simp only [R33_0] at h
  split at h
  · rename_i hh; obtain ⟨rfl, rfl, hl, hw, rfl, rfl⟩ := hh
    cases h
    refine iterK_fold ops (doneFI x) ([], []) (fun z => z) (fun j b => b.1.length ≤ j ∧ b.2.length ≤ j) (by simp) ?_ ?_ ?_
    · intro j o b ho hb
      unfold doneFI
      split <;> simp <;> omega
    · intro j o b ho hb next k
      obtain ⟨b1, b2⟩ := b
      obtain ⟨hb1, hb2⟩ := hb
      simp only at hb1 hb2
      have hj : j < ops.length := (List.getElem?_eq_some_iff.1 ho).1
      have g1 : (j : Int) < (ops.length : Int) := by omega
      have g2 : inR (j : Int) ops.length = true := by simp [inR]; omega
      have g3 : Nat.ble (List.length o.2) 1000000 = true := Nat.ble_eq_true_of_le (hw o (List.mem_of_getElem? ho))
      have g4 : Nat.ble ((b1.length + List.length [(o.1, (2 : Int))]) * 16) 140737488355328 = true := Nat.ble_eq_true_of_le (by simp; omega)
      have g5 : Nat.ble ((b2.length + List.length [(o.1, dropI o.2 x)]) * 32) 140737488355328 = true := Nat.ble_eq_true_of_le (by simp; omega)
      simp only [step33_0, g1, g2, g3, g4, g5, decide_true, cond_true, Int.toNat_natCast, ho, bindO, doneFI]
      rw [wrap64 (by omega) (by omega)]
      by_cases e : dropI o.2 x = []
      · simp [e]
      · have e2 : (((dropI o.2 x).length : Int) == 0) = false := by
          have : (dropI o.2 x).length ≠ 0 := by rw [ne_eq, List.length_eq_zero_iff]; exact e
          simpa using e
        rw [e2, if_neg e]
        simp
    · intro b hb next k
      obtain ⟨b1, b2⟩ := b
      have g1 : ¬ (ops.length : Int) < (ops.length : Int) := by omega
      simp only [step33_0, g1, decide_false, cond_false]
  · cases h
noncomputable def G33_0 : (Ex → St → Ans) → St → Ans := sumG dec33_0 R33_0 out33_0
theorem G33_0_ok : LSum Try.prog 44 L33_0 G33_0 := lsum_iter mixed tabOk envSIOk [0, 5, 6] annL33_0_ok dec33_0_ok step33_0_ok R33_0_ok
--@ fn 33
noncomputable def ann33 : Ann := (.seq .none (.seq .none (.seq .none (.seq .none (.seq (.seq .none (.block (.pack 2 (.sum G33_0)))) .none)))))
theorem ann33_ok : AnnOk Try.prog 44 b33 ann33 := ⟨(annOk_none _ _ _), ⟨(annOk_none _ _ _), ⟨(annOk_none _ _ _), ⟨(annOk_none _ _ _), ⟨⟨(annOk_none _ _ _), (annOk_pack (annOk_sum G33_0_ok))⟩, (annOk_none _ _ _)⟩⟩⟩⟩⟩
abbrev A33 := (Int) × (List (Int × List Int)) × (Int)
def args33 : A33 → List AV × List AE.Obj := fun (last, ops, x) => ([AV.ptr 0 0, AV.int IntKind.i64 x], [AE.Obj.cells [AV.own 1, AV.int IntKind.i64 last], Obj.arr (Ty.st (Ty.pair (Ty.int IntKind.i64) (Ty.list (Ty.int IntKind.i64)))) ops])
def decA33 (l : List AV) (H : List AE.Obj) : Option A33 := match l, H with
  | [AV.ptr 0 0, AV.int IntKind.i64 x], [AE.Obj.cells [AV.own 1, AV.int IntKind.i64 last], Obj.arr (Ty.st (Ty.pair (Ty.int IntKind.i64) (Ty.list (Ty.int IntKind.i64)))) ops] => some (last, ops, x)
  | _, _ => none
theorem decA33_ok (l : List AV) (H : List AE.Obj) (a : A33) (h : decA33 l H = some a) : (l, H) = args33 a := by
  unfold decA33 at h
  split at h
  · cases h; rfl
  · cases h
noncomputable def fn33 : A33 → (AV → List AE.Obj → Ans) → Ans := fun (last, ops, x) K => (bindO (R33_0 (↑(List.length ops), last, ops, x) ((0 : Int), [], [])) fun (o3, o4) => (K (AV.own (2)) [AE.Obj.cells [AV.own (3), AV.int IntKind.i64 last], Obj.arr (Ty.st (Ty.pair (Ty.int IntKind.i64) (Ty.list (Ty.int IntKind.i64)))) ops, Obj.arr (Ty.st (Ty.pair (Ty.int IntKind.i64) (Ty.int IntKind.i64))) o3, Obj.arr (Ty.st (Ty.pair (Ty.int IntKind.i64) (Ty.list (Ty.int IntKind.i64)))) o4]))
theorem fn33_ok (a : A33) (K : AV → List AE.Obj → Ans) : fnE Try.tab envSI Try.hint 0 70 33 Try.f33.ntmps Try.f33.results.toList ann33 b33 (args33 a).1 (args33 a).2 K = fn33 a K := by kernel_rfl
def okOpsI (ops : OpsI) : Bool := Nat.ble ops.length 100000 && ops.all fun o => Nat.ble o.2.length 1000000
theorem okOpsI_iff (ops : OpsI) : okOpsI ops = true ↔ ops.length ≤ 100000 ∧ ∀ o ∈ ops, o.2.length ≤ 1000000 := by
  simp [okOpsI]
def v33 : A33 → (AV → List AE.Obj → Ans) → Ans := fun (last, ops, x) K => bif okOpsI ops then K (.own 2) [.cells [.own 3, .int .i64 last], .arr sI ops, .arr (.st (.pair (.int .i64) (.int .i64))) (doneI ops x).1, .arr sI (doneI ops x).2] else none
theorem v33_ok (a : A33) (K : AV → List AE.Obj → Ans) (res : AV × List AE.Obj) (h : v33 a K = some res) : fn33 a K = some res := by
  obtain ⟨last, ops, x⟩ := a
  obtain ⟨hl, h⟩ := cond_none h
  rw [okOpsI_iff] at hl
  simp only [fn33, R33_0]
  rw [if_pos (by simpa using hl)]
  exact h
noncomputable def F33 : List AV → List AE.Obj → (AV → List AE.Obj → Ans) → Ans := fun l H K => bindO (decA33 l H) fun a => v33 a K
theorem F33_ok : FuncOk Try.prog 33 F33 := func_mk mixed tabOk envSIOk Try.func33 (bodySome (by kernel_rfl)) (by decide +kernel) ann33_ok decA33_ok fn33_ok v33_ok
noncomputable def b38 : Code := Try.f38.body.getD .skip
--@ loop 38_0
noncomputable def L38_0 : Code := codeAt [1, 1, 0, 1, 0, 0] b38
abbrev I38_0 := (Int) × (Int) × (Int) × (List (Int × List Int))
abbrev V38_0 := (Int)
def S38_0 : I38_0 → V38_0 → St := fun (t1, t13, o0_1, o1) t14 => { env := [(1, AV.int IntKind.i64 t1), (12, AV.own 1), (13, AV.int IntKind.i64 t13), (14, AV.int IntKind.i64 t14)], stk := [[(0, AV.ptr 0 0)]], H := [AE.Obj.cells [AV.own 1, AV.int IntKind.i64 o0_1], Obj.arr (Ty.st (Ty.pair (Ty.int IntKind.i64) (Ty.list (Ty.int IntKind.i64)))) o1], blk := 155648 }
def dec38_0 (s : St) : Option (I38_0 × V38_0) := match s with
  | { env := [(1, AV.int IntKind.i64 t1), (12, AV.own 1), (13, AV.int IntKind.i64 t13), (14, AV.int IntKind.i64 t14)], stk := [[(0, AV.ptr 0 0)]], H := [AE.Obj.cells [AV.own 1, AV.int IntKind.i64 o0_1], Obj.arr (Ty.st (Ty.pair (Ty.int IntKind.i64) (Ty.list (Ty.int IntKind.i64)))) o1], blk := 155648 } => some ((t1, t13, o0_1, o1), t14)
  | _ => none
theorem dec38_0_ok (s : St) (x : I38_0 × V38_0) (h : dec38_0 s = some x) : s = S38_0 x.1 x.2 := by
  unfold dec38_0 at h
  split at h
  · cases h; rfl
  · cases h
abbrev Y38_0 := (Unit) ⊕ (Unit)
def out38_0 : I38_0 → (Ex → St → Ans) → Y38_0 → Ans := fun (t1, t13, o0_1, o1) K y => Sum.elim (fun _ => K (Ex.exit 0) { env := [(4, AV.unk)], stk := [[(0, AV.ptr 0 0)]], H := [AE.Obj.cells [AV.own 1, AV.int IntKind.i64 o0_1], Obj.arr (Ty.st (Ty.pair (Ty.int IntKind.i64) (Ty.list (Ty.int IntKind.i64)))) o1], blk := 155648 }) (fun _ => K (Ex.ret) { env := [(4, AV.bool (true))], stk := [[(0, AV.ptr 0 0)]], H := [AE.Obj.cells [AV.own 1, AV.int IntKind.i64 o0_1], Obj.arr (Ty.st (Ty.pair (Ty.int IntKind.i64) (Ty.list (Ty.int IntKind.i64)))) o1], blk := 155649 }) y
noncomputable def step38_0 : I38_0 → V38_0 → (V38_0 → Ans) → (Y38_0 → Ans) → Ans := fun (t1, t13, o0_1, o1) t14 next exit => (bif decide (t14 < t13) then (bif inR t14 (List.length o1) then (bindO (o1[Int.toNat t14]?) fun x_2 => (bif Nat.ble (List.length x_2.snd) (1000000 : Nat) then (bif decide (t1 ∈ x_2.snd) then (exit (Sum.inr ())) else (next (IntKind.wrap IntKind.i64 (t14 + (1 : Int))))) else none)) else none) else (exit (Sum.inl ())))
noncomputable def annL38_0 : Ann := .pack 2 (.loop .none)
theorem annL38_0_ok : AnnOk Try.prog 23 (.loop L38_0) annL38_0 := annOk_pack (annOk_loop (annOk_none _ _ _))
theorem step38_0_ok (n : Nat) (i : I38_0) (v : V38_0) (K : Ex → St → Ans) : codeI Try.tab envSI Try.hint (codeD Try.tab envSI Try.hint 0 64) (n+1) 23 annL38_0 (.loop L38_0) (weak [4] K) (S38_0 i v) = step38_0 i v (fun v' => codeI Try.tab envSI Try.hint (codeD Try.tab envSI Try.hint 0 64) n 23 annL38_0 (.loop L38_0) (weak [4] K) (S38_0 i v')) (fun y => out38_0 i K y) := by kernel_rfl
def waitsI (ops : OpsI) (x : Int) : Bool := ops.any fun o => decide (x ∈ o.2)
def R38_0 : I38_0 → V38_0 → Option Y38_0 := fun (x, n, _, ops) t => if t = 0 ∧ n = (ops.length : Int) ∧ ops.length ≤ 100000 ∧ (∀ o ∈ ops, o.2.length ≤ 1000000) then some (if waitsI ops x then Sum.inr () else Sum.inl ()) else none
theorem R38_0_ok (i : I38_0) (v : V38_0) (z : Y38_0) (h : R38_0 i v = some z) : ∃ n, ∀ k, iterK (step38_0 i) n v k = k z := by
  obtain ⟨x, n, last, ops⟩ := i
  simp only [R38_0] at h
  split at h
  · rename_i hh; obtain ⟨rfl, rfl, hl, hw⟩ := hh
    cases h
    have := iterK_scan (step := step38_0 (x, (ops.length : Int), last, ops)) ops (fun o => if x ∈ o.2 then some (Sum.inr ()) else none) (Sum.inl ()) ?_ ?_
    · have e : ((ops.findSome? fun o => if x ∈ o.2 then some (Sum.inr ()) else none).getD (Sum.inl ()) : Y38_0) = if waitsI ops x then Sum.inr () else Sum.inl () := by
        clear this hl hw
        induction ops with
        | nil => rfl
        | cons o r ih =>
          rw [List.findSome?_cons]
          by_cases h : x ∈ o.2
          · simp [h, waitsI]
          · simp only [h, if_false]
            rw [ih]
            have e2 : waitsI (o :: r) x = waitsI r x := by simp [waitsI, h]
            rw [e2]
      rw [e] at this
      exact this
    · intro j o ho next k
      have hj : j < ops.length := (List.getElem?_eq_some_iff.1 ho).1
      have g1 : (j : Int) < (ops.length : Int) := by omega
      have g2 : inR (j : Int) ops.length = true := by simp [inR]; omega
      have g3 : Nat.ble (List.length o.2) 1000000 = true := Nat.ble_eq_true_of_le (hw o (List.mem_of_getElem? ho))
      simp only [step38_0, g1, g2, g3, decide_true, cond_true, Int.toNat_natCast, ho, bindO]
      rw [wrap64 (by omega) (by omega)]
      by_cases e : x ∈ o.2 <;> simp [e]
    · intro next k
      have g1 : ¬ (ops.length : Int) < (ops.length : Int) := by omega
      simp only [step38_0, g1, decide_false, cond_false]
  · cases h
noncomputable def G38_0 : (Ex → St → Ans) → St → Ans := sumG dec38_0 R38_0 out38_0
theorem G38_0_ok : LSum Try.prog 23 L38_0 G38_0 := lsum_iter mixed tabOk envSIOk [4] annL38_0_ok dec38_0_ok step38_0_ok R38_0_ok
--@ fn 38
noncomputable def ann38 : Ann := (.seq .none (.seq .none (.seq (.seq .none (.block (.pack 2 (.sum G38_0)))) .none)))
theorem ann38_ok : AnnOk Try.prog 23 b38 ann38 := ⟨(annOk_none _ _ _), ⟨(annOk_none _ _ _), ⟨⟨(annOk_none _ _ _), (annOk_pack (annOk_sum G38_0_ok))⟩, (annOk_none _ _ _)⟩⟩⟩
abbrev A38 := (Int) × (List (Int × List Int)) × (Int)
def args38 : A38 → List AV × List AE.Obj := fun (last, ops, x) => ([AV.ptr 0 0, AV.int IntKind.i64 x], [AE.Obj.cells [AV.own 1, AV.int IntKind.i64 last], Obj.arr (Ty.st (Ty.pair (Ty.int IntKind.i64) (Ty.list (Ty.int IntKind.i64)))) ops])
def decA38 (l : List AV) (H : List AE.Obj) : Option A38 := match l, H with
  | [AV.ptr 0 0, AV.int IntKind.i64 x], [AE.Obj.cells [AV.own 1, AV.int IntKind.i64 last], Obj.arr (Ty.st (Ty.pair (Ty.int IntKind.i64) (Ty.list (Ty.int IntKind.i64)))) ops] => some (last, ops, x)
  | _, _ => none
theorem decA38_ok (l : List AV) (H : List AE.Obj) (a : A38) (h : decA38 l H = some a) : (l, H) = args38 a := by
  unfold decA38 at h
  split at h
  · cases h; rfl
  · cases h
noncomputable def fn38 : A38 → (AV → List AE.Obj → Ans) → Ans := fun (last, ops, x) K => (bindO (R38_0 (x, ↑(List.length ops), last, ops) ((0 : Int))) fun y => Sum.elim (fun _ => (K (AV.bool false) [AE.Obj.cells [AV.own (1), AV.int IntKind.i64 last], Obj.arr (Ty.st (Ty.pair (Ty.int IntKind.i64) (Ty.list (Ty.int IntKind.i64)))) ops])) (fun _ => (K (AV.bool true) [AE.Obj.cells [AV.own (1), AV.int IntKind.i64 last], Obj.arr (Ty.st (Ty.pair (Ty.int IntKind.i64) (Ty.list (Ty.int IntKind.i64)))) ops])) y)
theorem fn38_ok (a : A38) (K : AV → List AE.Obj → Ans) : fnE Try.tab envSI Try.hint 0 70 38 Try.f38.ntmps Try.f38.results.toList ann38 b38 (args38 a).1 (args38 a).2 K = fn38 a K := by kernel_rfl
def v38 : A38 → (AV → List AE.Obj → Ans) → Ans := fun (last, ops, x) K => bif okOpsI ops then K (.bool (waitsI ops x)) (setI last ops) else none
theorem v38_ok (a : A38) (K : AV → List AE.Obj → Ans) (res : AV × List AE.Obj) (h : v38 a K = some res) : fn38 a K = some res := by
  obtain ⟨last, ops, x⟩ := a
  obtain ⟨hl, h⟩ := cond_none h
  rw [okOpsI_iff] at hl
  simp only [fn38, R38_0]
  rw [if_pos (by simpa using hl)]
  simp only [bindO]
  cases hb : waitsI ops x <;> rw [hb] at h <;> exact h
noncomputable def F38 : List AV → List AE.Obj → (AV → List AE.Obj → Ans) → Ans := fun l H K => bindO (decA38 l H) fun a => v38 a K
theorem F38_ok : FuncOk Try.prog 38 F38 := func_mk mixed tabOk envSIOk Try.func38 (bodySome (by kernel_rfl)) (by decide +kernel) ann38_ok decA38_ok fn38_ok v38_ok
end Go.Proofs.R1
namespace Go.Proofs.R1
open Go Go.AE
abbrev evT : Ty := .st (.pair (.int .i64) (.int .i64))
noncomputable def envW : Env := [(29, inl Try.f29), (30, .func F30), (33, .func F33), (37, inl Try.f37), (32, inl Try.f32)]
theorem envWOk : EnvOk Try.prog envW := EnvOk.cons (specInl Try.func29 (by kernel_rfl) (by decide +kernel)) (EnvOk.cons F30_ok (EnvOk.cons F33_ok (EnvOk.cons (specInl Try.func37 (by kernel_rfl) (by decide +kernel)) (EnvOk.cons (specInl Try.func32 (by kernel_rfl) (by decide +kernel)) EnvOk.nil))))
noncomputable def b21 : Code := Try.f21.body.getD .skip
--@ fn 21
noncomputable def ann21 : Ann := .none
theorem ann21_ok : AnnOk Try.prog 39 b21 ann21 := (annOk_none _ _ _)
abbrev A21 := Unit
def args21 : A21 → List AV := fun _ => []
def decA21 (l : List AV) : Option A21 := match l with
  | [] => some ()
  | _ => none
theorem decA21_ok (l : List AV) (a : A21) (h : decA21 l = some a) : l = args21 a := by
  unfold decA21 at h
  split at h
  · cases h; rfl
  · cases h
noncomputable def fn21 : A21 → (AV → Ans) → Ans := fun _ K => (K (AV.bool (↑(List.length (doneI (doneI ([] ++ [(IntKind.wrap IntKind.i64 ((0 : Int) + (1 : Int)), uniqI [(5 : Int), (6 : Int), (5 : Int)])]) (5 : Int)).snd (6 : Int)).snd) == (0 : Int))))
theorem fn21_ok (a : A21) : fnE Try.tab envW Try.hint 3 70 21 Try.f21.ntmps Try.f21.results.toList ann21 b21 (args21 a) [] (fun v _ => some (v, [])) = fn21 a (fun v => some (v, [])) := by kernel_rfl
def v21 : A21 → (AV → Ans) → Ans := fun _ K => K (.bool true)
theorem v21_ok (a : A21) (K : AV → Ans) (res : AV × List AE.Obj) (h : v21 a K = some res) : ∃ r, r.closed1 = true ∧ K r = some res ∧ fn21 a (fun v => some (v, [])) = some (r, []) := ⟨_, rfl, h, rfl⟩
noncomputable def F21 : List AV → (AV → Ans) → Ans := fun l K => bindO (decA21 l) fun a => v21 a K
theorem F21_ok : PureOk Try.prog 21 F21 := pure_mk mixed tabOk envWOk Try.func21 (bodySome (by kernel_rfl)) (by decide +kernel) ann21_ok decA21_ok fn21_ok v21_ok
noncomputable def b23 : Code := Try.f23.body.getD .skip
--@ loop 23_0
noncomputable def L23_0 : Code := codeAt [1, 0, 1, 0, 0] b23
abbrev I23_0 := (List (Int × Int))
abbrev V23_0 := (Int) × (List Int)
def S23_0 : I23_0 → V23_0 → St := fun t0 (t4, o1) => { env := [(0, AV.ro (Ty.st (Ty.pair (Ty.int IntKind.i64) (Ty.int IntKind.i64))) t0), (1, AV.ptr 0 0), (4, AV.int IntKind.i64 t4)], stk := [[(0, AV.ptr 0 0)]], H := [AE.Obj.cells [AV.own 1], Obj.arr (Ty.int IntKind.i64) o1], blk := 94208 }
def dec23_0 (s : St) : Option (I23_0 × V23_0) := match s with
  | { env := [(0, AV.ro (Ty.st (Ty.pair (Ty.int IntKind.i64) (Ty.int IntKind.i64))) t0), (1, AV.ptr 0 0), (4, AV.int IntKind.i64 t4)], stk := [[(0, AV.ptr 0 0)]], H := [AE.Obj.cells [AV.own 1], Obj.arr (Ty.int IntKind.i64) o1], blk := 94208 } => some (t0, (t4, o1))
  | _ => none
theorem dec23_0_ok (s : St) (x : I23_0 × V23_0) (h : dec23_0 s = some x) : s = S23_0 x.1 x.2 := by
  unfold dec23_0 at h
  split at h
  · cases h; rfl
  · cases h
abbrev Y23_0 := ((List Int)) ⊕ ((List Int))
def out23_0 : I23_0 → (Ex → St → Ans) → Y23_0 → Ans := fun t0 K y => Sum.elim (fun o1_y0 => K (Ex.exit 0) { env := [(3, AV.unk)], stk := [[(0, AV.ptr 0 0)]], H := [AE.Obj.cells [AV.own 1], Obj.arr (Ty.int IntKind.i64) o1_y0], blk := 94208 }) (fun o1_y1 => K (Ex.ret) { env := [(3, AV.bool (false))], stk := [[(0, AV.ptr 0 0)]], H := [AE.Obj.cells [AV.own 1], Obj.arr (Ty.int IntKind.i64) o1_y1], blk := 94209 }) y
noncomputable def step23_0 : I23_0 → V23_0 → (V23_0 → Ans) → (Y23_0 → Ans) → Ans := fun t0 (t4, o1) next exit => (bif decide (t4 < ↑(List.length t0)) then (bindO (nth t0 t4) fun x => (bif decide (x.fst < (1 : Int)) then (exit (Sum.inr (o1))) else (bindO (nth t0 t4) fun x_2 => (bif decide (x_2.fst ≥ ↑(List.length o1)) then (exit (Sum.inr (o1))) else (bindO (nth t0 t4) fun x_3 => (bif x_3.snd != (2 : Int) then (exit (Sum.inr (o1))) else (bindO (nth t0 t4) fun x_4 => (bif inR x_4.fst (List.length o1) then (bindO (o1[Int.toNat x_4.fst]?) fun x_5 => (bif inR x_4.fst (List.length o1) then (bindO (o1[Int.toNat x_4.fst]?) fun x_6 => (next (IntKind.wrap IntKind.i64 (t4 + (1 : Int)), List.set o1 (Int.toNat x_4.fst) (IntKind.wrap IntKind.i64 (x_5 + (1 : Int)))))) else none)) else none)))))))) else (exit (Sum.inl (o1))))
noncomputable def annL23_0 : Ann := .pack 2 (.loop .none)
theorem annL23_0_ok : AnnOk Try.prog 45 (.loop L23_0) annL23_0 := annOk_pack (annOk_loop (annOk_none _ _ _))
theorem step23_0_ok (n : Nat) (i : I23_0) (v : V23_0) (K : Ex → St → Ans) : codeI Try.tab envN Try.hint (codeD Try.tab envN Try.hint 0 64) (n+1) 45 annL23_0 (.loop L23_0) (weak [3] K) (S23_0 i v) = step23_0 i v (fun v' => codeI Try.tab envN Try.hint (codeD Try.tab envN Try.hint 0 64) n 45 annL23_0 (.loop L23_0) (weak [3] K) (S23_0 i v')) (fun y => out23_0 i K y) := by kernel_rfl
def marked (out : List Int) (evs : List (Int × Int)) : List Int := evs.foldl (fun o e => o.set e.1.toNat 1) out
def okEv (evs : List (Int × Int)) (out : List Int) : Bool := decide ((∀ e ∈ evs, 1 ≤ e.1 ∧ e.1 < out.length ∧ e.2 = 2 ∧ out[e.1.toNat]? = some 0) ∧ (evs.map (·.1)).Nodup ∧ evs.length ≤ 100000 ∧ out.length ≤ 100000)
def R23_0 : I23_0 → V23_0 → Option Y23_0 := fun evs (t, out) => if t = 0 ∧ okEv evs out = true then some (Sum.inl (marked out evs)) else none
theorem R23_0_ok (i : I23_0) (v : V23_0) (z : Y23_0) (h : R23_0 i v = some z) : ∃ n, ∀ k, iterK (step23_0 i) n v k = k z := by
  obtain ⟨t, out⟩ := v
  simp only [R23_0, okEv, decide_eq_true_eq] at h
  split at h
  · rename_i hh; obtain ⟨rfl, he, hn, h1, h2⟩ := hh
    cases h
    refine iterK_fold i (fun o e => o.set e.1.toNat 1) out (fun o => Sum.inl o) (fun j o => o.length = out.length ∧ ∀ (k : Nat) (e : Int × Int), j ≤ k → i[k]? = some e → o[e.1.toNat]? = some 0) ⟨rfl, fun k e _ hk => (he e (List.mem_of_getElem? hk)).2.2.2⟩ ?_ ?_ ?_
    · intro j e o hj ho
      refine ⟨by simp [ho.1], fun k e' hk hk' => ?_⟩
      have hne : e.1.toNat ≠ e'.1.toNat := by
        intro heq
        have a1 := he e (List.mem_of_getElem? hj)
        have a2 := he e' (List.mem_of_getElem? hk')
        have : e.1 = e'.1 := by omega
        have m1 : (i.map (·.1))[j]? = some e.1 := by rw [List.getElem?_map, hj]; rfl
        have m2 : (i.map (·.1))[k]? = some e.1 := by rw [List.getElem?_map, hk', this]; rfl
        have := (List.getElem?_inj (List.getElem?_eq_some_iff.1 m1).1 hn).1 (m1.trans m2.symm)
        omega
      rw [List.getElem?_set_ne hne]
      exact ho.2 k e' (by omega) hk'
    · intro j e o hj ho next k
      have hjl : j < i.length := (List.getElem?_eq_some_iff.1 hj).1
      obtain ⟨a1, a2, a3, a4⟩ := he e (List.mem_of_getElem? hj)
      have g1 : (j : Int) < (i.length : Int) := by omega
      have g2 : ¬ e.1 < 1 := by omega
      have g3 : ¬ e.1 ≥ (o.length : Int) := by rw [ho.1]; omega
      have g4 : (e.2 != 2) = false := by simp [a3]
      have g5 : inR e.1 o.length = true := by rw [ho.1]; simp [inR]; omega
      have g6 := ho.2 j e (Nat.le_refl _) hj
      simp only [step23_0, g1, decide_true, cond_true, nth_nat, hj, bindO, g2, decide_false, cond_false, g3, g4, g5, g6]
      rw [wrap64 (by omega) (by omega)]
      rfl
    · intro o ho next k
      have g1 : ¬ (i.length : Int) < (i.length : Int) := by omega
      simp only [step23_0, g1, decide_false, cond_false]
  · cases h
noncomputable def G23_0 : (Ex → St → Ans) → St → Ans := sumG dec23_0 R23_0 out23_0
theorem G23_0_ok : LSum Try.prog 45 L23_0 G23_0 := lsum_iter mixed tabOk envNOk [3] annL23_0_ok dec23_0_ok step23_0_ok R23_0_ok
--@ fn 23
noncomputable def ann23 : Ann := (.seq .none (.seq (.seq .none (.block (.pack 2 (.sum G23_0)))) .none))
theorem ann23_ok : AnnOk Try.prog 45 b23 ann23 := ⟨(annOk_none _ _ _), ⟨⟨(annOk_none _ _ _), (annOk_pack (annOk_sum G23_0_ok))⟩, (annOk_none _ _ _)⟩⟩
abbrev A23 := (List (Int × Int)) × (List Int)
def args23 : A23 → List AV × List AE.Obj := fun (evs, out) => ([AV.ro (Ty.st (Ty.pair (Ty.int IntKind.i64) (Ty.int IntKind.i64))) evs, AV.ptr 0 0], [AE.Obj.cells [AV.own 1], Obj.arr (Ty.int IntKind.i64) out])
def decA23 (l : List AV) (H : List AE.Obj) : Option A23 := match l, H with
  | [AV.ro (Ty.st (Ty.pair (Ty.int IntKind.i64) (Ty.int IntKind.i64))) evs, AV.ptr 0 0], [AE.Obj.cells [AV.own 1], Obj.arr (Ty.int IntKind.i64) out] => some (evs, out)
  | _, _ => none
theorem decA23_ok (l : List AV) (H : List AE.Obj) (a : A23) (h : decA23 l H = some a) : (l, H) = args23 a := by
  unfold decA23 at h
  split at h
  · cases h; rfl
  · cases h
noncomputable def fn23 : A23 → (AV → List AE.Obj → Ans) → Ans := fun (evs, out) K => (bindO (R23_0 (evs) ((0 : Int), out)) fun y => Sum.elim (fun o1 => (K (AV.bool true) [AE.Obj.cells [AV.own (1)], Obj.arr (Ty.int IntKind.i64) o1])) (fun o1 => (K (AV.bool false) [AE.Obj.cells [AV.own (1)], Obj.arr (Ty.int IntKind.i64) o1])) y)
theorem fn23_ok (a : A23) (K : AV → List AE.Obj → Ans) : fnE Try.tab envN Try.hint 0 70 23 Try.f23.ntmps Try.f23.results.toList ann23 b23 (args23 a).1 (args23 a).2 K = fn23 a K := by kernel_rfl
def v23 : A23 → (AV → List AE.Obj → Ans) → Ans := fun (evs, out) K => bif okEv evs out then K (.bool true) [.cells [.own 1], .arr (.int .i64) (marked out evs)] else none
theorem v23_ok (a : A23) (K : AV → List AE.Obj → Ans) (res : AV × List AE.Obj) (h : v23 a K = some res) : fn23 a K = some res := by
  obtain ⟨evs, out⟩ := a
  obtain ⟨hl, h⟩ := cond_none h
  simp only [fn23, R23_0]
  rw [if_pos (by simpa using hl)]
  exact h
noncomputable def F23 : List AV → List AE.Obj → (AV → List AE.Obj → Ans) → Ans := fun l H K => bindO (decA23 l H) fun a => v23 a K
theorem F23_ok : FuncOk Try.prog 23 F23 := func_mk mixed tabOk envNOk Try.func23 (bodySome (by kernel_rfl)) (by decide +kernel) ann23_ok decA23_ok fn23_ok v23_ok
noncomputable def envO : Env := [(21, .pure F21), (22, inl Try.f22), (23, .func F23), (24, .func F24), (25, .func F25), (26, .func F26), (27, inl Try.f27)]
theorem envOOk : EnvOk Try.prog envO := EnvOk.cons F21_ok (EnvOk.cons (specInl Try.func22 (by kernel_rfl) (by decide +kernel)) (EnvOk.cons F23_ok (EnvOk.cons F24_ok (EnvOk.cons F25_ok (EnvOk.cons F26_ok (EnvOk.cons (specInl Try.func27 (by kernel_rfl) (by decide +kernel)) EnvOk.nil))))))
end Go.Proofs.R1
namespace Go.Proofs.R1
open Go Go.AE
/-! ### What is dropped, once -/
theorem dropT_mem (l : List (List UInt8)) (x w : List UInt8) : w ∈ dropT l x ↔ w ∈ l ∧ w ≠ x := by
  have key : ∀ (r o : List (List UInt8)), (∀ y ∈ o, y ≠ x) → (w ∈ r.foldl (fun o y => if y = x ∨ y ∈ o then o else o ++ [y]) o ↔ w ∈ o ∨ (w ∈ r ∧ w ≠ x)) := by
    intro r
    induction r with
    | nil => intro o _; simp
    | cons y r ih =>
      intro o ho
      rw [List.foldl_cons]
      by_cases hy : y = x ∨ y ∈ o
      · rw [if_pos hy, ih o ho, List.mem_cons]
        constructor
        · rintro (h | h)
          · exact .inl h
          · exact .inr ⟨.inr h.1, h.2⟩
        · rintro (h | ⟨rfl | h, h2⟩)
          · exact .inl h
          · rcases hy with hy | hy
            · exact absurd hy h2
            · exact .inl hy
          · exact .inr ⟨h, h2⟩
      · rw [if_neg hy, ih _ (by
          intro z hz
          rcases List.mem_append.1 hz with hz | hz
          · exact ho z hz
          · rw [List.mem_singleton.1 hz]; exact fun h => hy (.inl h))]
        rw [List.mem_append, List.mem_singleton, List.mem_cons]
        constructor
        · rintro ((h | rfl) | h)
          · exact .inl h
          · exact .inr ⟨.inl rfl, fun h => hy (.inl h)⟩
          · exact .inr ⟨.inr h.1, h.2⟩
        · rintro (h | ⟨rfl | h, h2⟩)
          · exact .inl (.inl h)
          · exact .inl (.inr rfl)
          · exact .inr ⟨h, h2⟩
  have := key l [] (by simp)
  simpa [dropT] using this
theorem dropT_length (l : List (List UInt8)) (x : List UInt8) : (dropT l x).length ≤ l.length := by
  have key : ∀ (r o : List (List UInt8)), (r.foldl (fun o y => if y = x ∨ y ∈ o then o else o ++ [y]) o).length ≤ o.length + r.length := by
    intro r
    induction r with
    | nil => intro o; simp
    | cons y r ih =>
      intro o
      rw [List.foldl_cons]
      have := ih (if y = x ∨ y ∈ o then o else o ++ [y])
      rw [List.length_cons]
      by_cases h : y = x ∨ y ∈ o
      · rw [if_pos h] at this ⊢; omega
      · rw [if_neg h] at this ⊢; rw [List.length_append, List.length_singleton] at this; omega
  simpa [dropT] using key l []
theorem uniqT_mem (l : List (List UInt8)) (w : List UInt8) : w ∈ uniqT l ↔ w ∈ l := by
  have key : ∀ (r o : List (List UInt8)), (w ∈ r.foldl (fun o y => if y ∈ o then o else o ++ [y]) o ↔ w ∈ o ∨ w ∈ r) := by
    intro r
    induction r with
    | nil => intro o; simp
    | cons y r ih =>
      intro o
      rw [List.foldl_cons, ih, List.mem_cons]
      by_cases hy : y ∈ o
      · rw [if_pos hy]
        constructor
        · rintro (h | h)
          · exact .inl h
          · exact .inr (.inr h)
        · rintro (h | rfl | h)
          · exact .inl h
          · exact .inl hy
          · exact .inr h
      · rw [if_neg hy, List.mem_append, List.mem_singleton, or_assoc]
  have := key l []
  simpa [uniqT] using this
theorem uniqT_length (l : List (List UInt8)) : (uniqT l).length ≤ l.length := by
  have key : ∀ (r o : List (List UInt8)), (r.foldl (fun o y => if y ∈ o then o else o ++ [y]) o).length ≤ o.length + r.length := by
    intro r
    induction r with
    | nil => intro o; simp
    | cons y r ih =>
      intro o
      rw [List.foldl_cons]
      have := ih (if y ∈ o then o else o ++ [y])
      rw [List.length_cons]
      by_cases h : y ∈ o
      · rw [if_pos h] at this ⊢; omega
      · rw [if_neg h] at this ⊢; rw [List.length_append, List.length_singleton] at this; omega
  simpa [uniqT] using key l []

/-! ### What comes out, and what stays -/
theorem done_eq (ops : OpsT) (x : List UInt8) : doneT ops x = ((ops.filter fun o => decide (dropT o.2 x = [])).map fun o => (o.1, 2), (ops.filter fun o => decide (dropT o.2 x ≠ [])).map fun o => (o.1, dropT o.2 x)) := by
  have key : ∀ (r : OpsT) (a : List (Int × Int) × OpsT), r.foldl (doneFT x) a = (a.1 ++ (r.filter fun o => decide (dropT o.2 x = [])).map fun o => (o.1, 2), a.2 ++ (r.filter fun o => decide (dropT o.2 x ≠ [])).map fun o => (o.1, dropT o.2 x)) := by
    intro r
    induction r with
    | nil => intro a; simp
    | cons o r ih =>
      intro a
      rw [List.foldl_cons, ih]
      by_cases h : dropT o.2 x = []
      · simp [doneFT, h]
      · simp [doneFT, h]
  have := key ops ([], [])
  simpa [doneT] using this
theorem nodup_inj {ops : OpsT} (h : (ops.map (·.1)).Nodup) {o o' : Int × List (List UInt8)} (ho : o ∈ ops) (ho' : o' ∈ ops) (e : o.1 = o'.1) : o = o' := by
  induction ops with
  | nil => cases ho
  | cons a r ih =>
    rw [List.map_cons, List.nodup_cons] at h
    rcases List.mem_cons.1 ho with h1 | h1 <;> rcases List.mem_cons.1 ho' with h2 | h2
    · rw [h1, h2]
    · exact (h.1 (List.mem_map.2 ⟨o', h2, by rw [← e, h1]⟩)).elim
    · exact (h.1 (List.mem_map.2 ⟨o, h1, by rw [e, h2]⟩)).elim
    · exact ih h.2 h1 h2
theorem marked_length (evs : List (Int × Int)) : ∀ out : List Int, (marked out evs).length = out.length := by
  induction evs with
  | nil => intro out; rfl
  | cons e r ih => intro out; rw [marked, List.foldl_cons]; have := ih (out.set e.1.toNat 1); rw [marked] at this; rw [this]; simp
theorem marked_get (evs : List (Int × Int)) (p : Nat) : ∀ out : List Int, p < out.length → (∀ e ∈ evs, 0 ≤ e.1) → (marked out evs)[p]? = if (p : Int) ∈ evs.map (·.1) then some 1 else out[p]? := by
  induction evs with
  | nil => intro out _ _; simp [marked]
  | cons e r ih =>
    intro out hp he
    have := ih (out.set e.1.toNat 1) (by simpa using hp) (fun e he' => he e (List.mem_cons_of_mem _ he'))
    rw [marked] at this ⊢
    rw [List.foldl_cons, this]
    have hm : (p : Int) ∈ (e :: r).map (·.1) ↔ (p : Int) = e.1 ∨ (p : Int) ∈ r.map (·.1) := by rw [List.map_cons, List.mem_cons]
    have h0 := he e (List.mem_cons_self ..)
    by_cases h1 : (p : Int) ∈ r.map (·.1)
    · rw [if_pos h1, if_pos (hm.2 (.inr h1))]
    · rw [if_neg h1]
      by_cases h2 : (p : Int) = e.1
      · rw [if_pos (hm.2 (.inl h2))]
        have : e.1.toNat = p := by omega
        rw [this]
        simp [hp]
      · rw [if_neg (fun h => (hm.1 h).elim h2 h1)]
        rw [List.getElem?_set_ne (by omega)]

/-! ### What holds all the time -/
structure Inv (l : List (List (List UInt8))) (pr : List UInt8 → Prop) (j : Nat) (ops : OpsT) (out : List Int) : Prop where
  len : ops.length ≤ j
  jl : j ≤ l.length
  l30 : l.length ≤ 30
  ids : ∀ o ∈ ops, 1 ≤ o.1 ∧ o.1 ≤ j ∧ o.2.length ≤ 2000 ∧ ∀ w ∈ o.2, ¬ pr w ∧ ∃ x ∈ l, w ∈ x
  nod : (ops.map (·.1)).Nodup
  outlen : out.length = l.length + 1
  outv : ∀ p, 1 ≤ p → p ≤ l.length → out[p]? = some (if p ≤ j ∧ (p : Int) ∉ ops.map (·.1) then 1 else 0)

theorem Inv.okOps {l pr j ops out} (h : Inv l pr j ops out) : okOpsT ops = true := by
  rw [okOpsT_iff]
  have := h.len; have := h.jl; have := h.l30
  exact ⟨by omega, fun o ho => by have := (h.ids o ho).2.2.1; omega⟩
theorem mem_evs {ops : OpsT} {x : List UInt8} {e : Int × Int} : e ∈ (doneT ops x).1 ↔ ∃ o ∈ ops, dropT o.2 x = [] ∧ e = (o.1, 2) := by
  rw [done_eq]
  simp only [List.mem_map, List.mem_filter, decide_eq_true_eq]
  exact ⟨fun ⟨o, ⟨h1, h2⟩, h3⟩ => ⟨o, h1, h2, h3.symm⟩, fun ⟨o, h1, h2, h3⟩ => ⟨o, ⟨h1, h2⟩, h3.symm⟩⟩
theorem mem_stay {ops : OpsT} {x : List UInt8} {q : Int × List (List UInt8)} : q ∈ (doneT ops x).2 ↔ ∃ o ∈ ops, dropT o.2 x ≠ [] ∧ q = (o.1, dropT o.2 x) := by
  rw [done_eq]
  simp only [List.mem_map, List.mem_filter, decide_eq_true_eq]
  exact ⟨fun ⟨o, ⟨h1, h2⟩, h3⟩ => ⟨o, h1, h2, h3.symm⟩, fun ⟨o, h1, h2, h3⟩ => ⟨o, ⟨h1, h2⟩, h3.symm⟩⟩
theorem Inv.done {l pr j ops out} (h : Inv l pr j ops out) (x : List UInt8) :
    okEv (doneT ops x).1 out = true ∧ Inv l (fun w => pr w ∨ w = x) j (doneT ops x).2 (marked out (doneT ops x).1) := by
  have hj := h.len; have hjl := h.jl; have hl := h.l30
  have sub1 : ((doneT ops x).1.map (·.1)) = (ops.filter fun o => decide (dropT o.2 x = [])).map (·.1) := by rw [done_eq]; simp [Function.comp_def]
  have sub2 : ((doneT ops x).2.map (·.1)) = (ops.filter fun o => decide (dropT o.2 x ≠ [])).map (·.1) := by rw [done_eq]; simp [Function.comp_def]
  have n1 : ((doneT ops x).1.map (·.1)).Nodup := by rw [sub1]; exact (List.filter_sublist.map _).nodup h.nod
  have n2 : ((doneT ops x).2.map (·.1)).Nodup := by rw [sub2]; exact (List.filter_sublist.map _).nodup h.nod
  have hpos : ∀ e ∈ (doneT ops x).1, 0 ≤ e.1 := by
    intro e he
    obtain ⟨o, ho, _, rfl⟩ := mem_evs.1 he
    have := (h.ids o ho).1
    show 0 ≤ o.1
    omega
  have hz : ∀ o ∈ ops, out[o.1.toNat]? = some 0 := by
    intro o ho
    obtain ⟨i1, i2, _⟩ := h.ids o ho
    rw [h.outv o.1.toNat (by omega) (by omega), if_neg]
    rintro ⟨_, h2⟩
    apply h2
    rw [Int.toNat_of_nonneg (by omega)]
    exact List.mem_map.2 ⟨o, ho, rfl⟩
  refine ⟨?_, ?_, hjl, hl, ?_, n2, by rw [marked_length]; exact h.outlen, ?_⟩
  · rw [okEv, decide_eq_true_eq]
    refine ⟨fun e he => ?_, n1, ?_, by have := h.outlen; omega⟩
    · obtain ⟨o, ho, _, rfl⟩ := mem_evs.1 he
      obtain ⟨i1, i2, _⟩ := h.ids o ho
      have := h.outlen
      exact ⟨i1, by show o.1 < _; omega, rfl, hz o ho⟩
    · have : (doneT ops x).1.length ≤ ops.length := by rw [done_eq]; simp only [List.length_map]; exact List.length_filter_le _ _
      omega
  · have : (doneT ops x).2.length ≤ ops.length := by rw [done_eq]; simp only [List.length_map]; exact List.length_filter_le _ _
    omega
  · intro q hq
    obtain ⟨o, ho, _, rfl⟩ := mem_stay.1 hq
    obtain ⟨i1, i2, i3, i4⟩ := h.ids o ho
    refine ⟨i1, i2, Nat.le_trans (dropT_length _ _) i3, fun w hw => ?_⟩
    obtain ⟨m1, m2⟩ := (dropT_mem _ _ _).1 hw
    obtain ⟨k1, k2⟩ := i4 w m1
    exact ⟨by rintro (hh | hh); exact k1 hh; exact m2 hh, k2⟩
  · intro p hp1 hp2
    rw [marked_get _ _ _ (by rw [h.outlen]; omega) hpos]
    have hev : (p : Int) ∈ (doneT ops x).1.map (·.1) ↔ ∃ o ∈ ops, o.1 = p ∧ dropT o.2 x = [] := by
      rw [sub1]
      simp only [List.mem_map, List.mem_filter, decide_eq_true_eq]
      exact ⟨fun ⟨o, ⟨h1, h2⟩, h3⟩ => ⟨o, h1, h3, h2⟩, fun ⟨o, h1, h3, h2⟩ => ⟨o, ⟨h1, h2⟩, h3⟩⟩
    have hst : (p : Int) ∈ (doneT ops x).2.map (·.1) ↔ ∃ o ∈ ops, o.1 = p ∧ dropT o.2 x ≠ [] := by
      rw [sub2]
      simp only [List.mem_map, List.mem_filter, decide_eq_true_eq]
      exact ⟨fun ⟨o, ⟨h1, h2⟩, h3⟩ => ⟨o, h1, h3, h2⟩, fun ⟨o, h1, h3, h2⟩ => ⟨o, ⟨h1, h2⟩, h3⟩⟩
    by_cases he : (p : Int) ∈ (doneT ops x).1.map (·.1)
    · rw [if_pos he, if_pos]
      obtain ⟨o, ho, h1, h2⟩ := hev.1 he
      obtain ⟨i1, i2, _⟩ := h.ids o ho
      refine ⟨by omega, fun hs => ?_⟩
      obtain ⟨o', ho', h1', h2'⟩ := hst.1 hs
      have := nodup_inj h.nod ho ho' (h1.trans h1'.symm)
      subst this
      exact h2' h2
    · rw [if_neg he, h.outv p hp1 hp2]
      congr 1
      have : ((p : Int) ∈ ops.map (·.1)) ↔ (p : Int) ∈ (doneT ops x).2.map (·.1) := by
        rw [hst, List.mem_map]
        constructor
        · rintro ⟨o, ho, h1⟩
          exact ⟨o, ho, h1, fun h2 => he (hev.2 ⟨o, ho, h1, h2⟩)⟩
        · rintro ⟨o, ho, h1, _⟩
          exact ⟨o, ho, h1⟩
      simp only [this]
theorem Inv.weaken {l : List (List (List UInt8))} {pr pr' : List UInt8 → Prop} {j ops out} (h : Inv l pr j ops out) (hp : ∀ w, pr' w → pr w) : Inv l pr' j ops out :=
  ⟨h.len, h.jl, h.l30, fun o ho => by
    obtain ⟨i1, i2, i3, i4⟩ := h.ids o ho
    exact ⟨i1, i2, i3, fun w hw => ⟨fun hh => (i4 w hw).1 (hp w hh), (i4 w hw).2⟩⟩, h.nod, h.outlen, h.outv⟩
theorem Inv.add {l : List (List (List UInt8))} {j ops out} (h : Inv l (fun _ => False) j ops out) {x : List (List UInt8)} (hx : l[j]? = some x) (hlen : x.length ≤ 2000) :
    Inv l (fun _ => False) (j + 1) (ops ++ [((j : Int) + 1, uniqT x)]) out := by
  have hjl : j < l.length := (List.getElem?_eq_some_iff.1 hx).1
  refine ⟨by simp; exact h.len, by omega, h.l30, fun o ho => ?_, ?_, h.outlen, fun p hp1 hp2 => ?_⟩
  · rcases List.mem_append.1 ho with ho | ho
    · obtain ⟨i1, i2, i3⟩ := h.ids o ho
      exact ⟨i1, by omega, i3⟩
    · rw [List.mem_singleton.1 ho]
      refine ⟨by show (1 : Int) ≤ (j : Int) + 1; omega, by show (j : Int) + 1 ≤ ((j + 1 : Nat) : Int); omega, Nat.le_trans (uniqT_length x) hlen, fun w hw => ⟨id, x, List.mem_of_getElem? hx, (uniqT_mem x w).1 hw⟩⟩
  · rw [List.map_append, List.nodup_append]
    refine ⟨h.nod, by simp, ?_⟩
    intro a ha b hb
    simp at hb
    obtain ⟨o, ho, rfl⟩ := List.mem_map.1 ha
    have := (h.ids o ho).2.1
    omega
  · rw [h.outv p hp1 hp2]
    congr 1
    simp only [List.map_append, List.map_cons, List.map_nil, List.mem_append, List.mem_singleton, not_or]
    by_cases e : p = j + 1
    · rw [if_neg (by omega), if_neg (by rintro ⟨_, _, h3⟩; omega)]
    · by_cases h1 : p ≤ j ∧ (p : Int) ∉ ops.map (·.1)
      · rw [if_pos h1, if_pos ⟨by omega, h1.2, by omega⟩]
      · rw [if_neg h1, if_neg (by rintro ⟨h2, h3, _⟩; exact h1 ⟨by omega, h3⟩)]
theorem Inv.start {l : List (List (List UInt8))} (hl : l.length ≤ 30) : Inv l (fun _ => False) 0 [] (List.replicate (l.length + 1) 0) := by
  refine ⟨Nat.le_refl _, Nat.zero_le _, hl, by simp, by simp, by simp, fun p h1 h2 => ?_⟩
  rw [if_neg (by omega)]
  simp [List.getElem?_replicate]
  omega
theorem waits_done (ops : OpsT) (x : List UInt8) : waitsT (doneT ops x).2 x = false := by
  simp only [waitsT, List.any_eq_false, decide_eq_true_eq]
  intro q hq
  obtain ⟨o, _, _, rfl⟩ := mem_stay.1 hq
  intro h
  exact ((dropT_mem _ _ _).1 h).2 rfl

/-! ### The loops -/
def stepB (l : List (List (List UInt8))) (d : List (List UInt8)) (j : Nat) (b : OpsT × List Int) : OpsT × List Int :=
  let ops := b.1 ++ [((j : Int) + 1, uniqT (l[j]?.getD []))]
  match d[j]? with
  | some w => ((doneT ops w).2, marked b.2 (doneT ops w).1)
  | none => (ops, b.2)
def runB (l : List (List (List UInt8))) (d : List (List UInt8)) : Nat → OpsT × List Int
  | 0 => ([], List.replicate (l.length + 1) 0)
  | j + 1 => stepB l d j (runB l d j)
theorem runB_inv {l : List (List (List UInt8))} (d : List (List UInt8)) (hl : l.length ≤ 30) (hx : ∀ x ∈ l, x.length ≤ 2000) : ∀ j, j ≤ l.length → Inv l (fun _ => False) j (runB l d j).1 (runB l d j).2
  | 0, _ => Inv.start hl
  | j + 1, hj => by
    have ih := runB_inv d hl hx j (by omega)
    have hxj : l[j]? = some l[j] := List.getElem?_eq_getElem (by omega)
    have ha := ih.add hxj (hx _ (List.getElem_mem _))
    rw [runB, stepB]
    simp only [hxj, Option.getD_some]
    cases d[j]? with
    | none => exact ha
    | some w => exact (ha.done w).2.weaken (fun w h => h.elim)
def stepC (b : OpsT × List Int) (w : List UInt8) : OpsT × List Int := ((doneT b.1 w).2, marked b.2 (doneT b.1 w).1)
def runC (b : OpsT × List Int) (x : List (List UInt8)) : OpsT × List Int := x.foldl stepC b
theorem runC_inv {l : List (List (List UInt8))} {j : Nat} : ∀ (x : List (List UInt8)) (pr : List UInt8 → Prop) (b : OpsT × List Int), Inv l pr j b.1 b.2 → Inv l (fun w => pr w ∨ w ∈ x) j (runC b x).1 (runC b x).2
  | [], pr, b, h => h.weaken (by simp)
  | w :: r, pr, b, h => by
    rw [runC, List.foldl_cons]
    exact (runC_inv r _ _ (h.done w).2).weaken (by simp [or_assoc])
theorem runAll_inv {l : List (List (List UInt8))} {j : Nat} : ∀ (r : List (List (List UInt8))) (pr : List UInt8 → Prop) (b : OpsT × List Int), Inv l pr j b.1 b.2 →
    Inv l (fun w => pr w ∨ ∃ x ∈ r, w ∈ x) j (r.foldl runC b).1 (r.foldl runC b).2
  | [], pr, b, h => h.weaken (by simp)
  | x :: r, pr, b, h => by
    rw [List.foldl_cons]
    exact (runAll_inv r _ _ (runC_inv x pr b h)).weaken (by simp [or_assoc])
def total (l : List (List (List UInt8))) : Int := (l.map fun x => if (2000 : Int) < (x.length : Int) then 2000 else (x.length : Int)).sum
noncomputable def b5 : Code := Try.f5.body.getD .skip
--@ loop 5_4
noncomputable def L5_4 : Code := codeAt [1, 1, 1, 1, 1, 1, 1, 1, 1, 1, 1, 0, 1, 0, 0] b5
abbrev I5_4 := (Int) × (List (Int × List (List UInt8))) × (List Int)
abbrev V5_4 := (Int)
def S5_4 : I5_4 → V5_4 → St := fun (o0_1, o2, o3) t15 => { env := [(5, AV.ptr 0 0), (6, AV.ptr 1 0), (15, AV.int IntKind.i64 t15)], stk := [[]], H := [AE.Obj.cells [AV.own 2, AV.int IntKind.i64 o0_1], AE.Obj.cells [AV.own 3], Obj.arr (Ty.st (Ty.pair (Ty.int IntKind.i64) (Ty.list Ty.str))) o2, Obj.arr (Ty.int IntKind.i64) o3], blk := 20488 }
def dec5_4 (s : St) : Option (I5_4 × V5_4) := match s with
  | { env := [(5, AV.ptr 0 0), (6, AV.ptr 1 0), (15, AV.int IntKind.i64 t15)], stk := [[]], H := [AE.Obj.cells [AV.own 2, AV.int IntKind.i64 o0_1], AE.Obj.cells [AV.own 3], Obj.arr (Ty.st (Ty.pair (Ty.int IntKind.i64) (Ty.list Ty.str))) o2, Obj.arr (Ty.int IntKind.i64) o3], blk := 20488 } => some ((o0_1, o2, o3), t15)
  | _ => none
theorem dec5_4_ok (s : St) (x : I5_4 × V5_4) (h : dec5_4 s = some x) : s = S5_4 x.1 x.2 := by
  unfold dec5_4 at h
  split at h
  · cases h; rfl
  · cases h
abbrev Y5_4 := (Unit) ⊕ (Unit)
def out5_4 : I5_4 → (Ex → St → Ans) → Y5_4 → Ans := fun (o0_1, o2, o3) K y => Sum.elim (fun _ => K (Ex.exit 8) { env := [(4, AV.unk), (5, AV.ptr 0 0)], stk := [[]], H := [AE.Obj.cells [AV.own 2, AV.int IntKind.i64 o0_1], AE.Obj.cells [AV.own 3], Obj.arr (Ty.st (Ty.pair (Ty.int IntKind.i64) (Ty.list Ty.str))) o2, Obj.arr (Ty.int IntKind.i64) o3], blk := 20488 }) (fun _ => K (Ex.ret) { env := [(4, AV.bool (false)), (5, AV.ptr 0 0)], stk := [[]], H := [AE.Obj.cells [AV.own 2, AV.int IntKind.i64 o0_1], AE.Obj.cells [AV.own 3], Obj.arr (Ty.st (Ty.pair (Ty.int IntKind.i64) (Ty.list Ty.str))) o2, Obj.arr (Ty.int IntKind.i64) o3], blk := 20489 }) y
noncomputable def step5_4 : I5_4 → V5_4 → (V5_4 → Ans) → (Y5_4 → Ans) → Ans := fun (o0_1, o2, o3) t15 next exit => (bif decide (t15 < ↑(List.length o3)) then (bif inR t15 (List.length o3) then (bindO (o3[Int.toNat t15]?) fun x => (bif x != (1 : Int) then (exit (Sum.inr ())) else (next (IntKind.wrap IntKind.i64 (t15 + (1 : Int)))))) else none) else (exit (Sum.inl ())))
noncomputable def annL5_4 : Ann := .pack 0 (.loop .none)
theorem annL5_4_ok : AnnOk Try.prog 145 (.loop L5_4) annL5_4 := annOk_pack (annOk_loop (annOk_none _ _ _))
theorem step5_4_ok (n : Nat) (i : I5_4) (v : V5_4) (K : Ex → St → Ans) : codeI Try.tab envO Try.hint (codeD Try.tab envO Try.hint 2 64) (n+1) 145 annL5_4 (.loop L5_4) (weak [4, 5] K) (S5_4 i v) = step5_4 i v (fun v' => codeI Try.tab envO Try.hint (codeD Try.tab envO Try.hint 2 64) n 145 annL5_4 (.loop L5_4) (weak [4, 5] K) (S5_4 i v')) (fun y => out5_4 i K y) := by kernel_rfl
open Classical in
noncomputable def R5_4 : I5_4 → V5_4 → Option Y5_4 := fun (_, _, out) t => if t = 1 ∧ (∀ p, 1 ≤ p → p < out.length → out[p]? = some 1) ∧ 1 ≤ out.length ∧ out.length ≤ 1000 then some (Sum.inl ()) else none
theorem R5_4_ok (i : I5_4) (v : V5_4) (z : Y5_4) (h : R5_4 i v = some z) : ∃ n, ∀ k, iterK (step5_4 i) n v k = k z := by
  obtain ⟨a, b, out⟩ := i
  simp only [R5_4] at h
  split at h
  · rename_i hh; obtain ⟨rfl, ho, h1, h2⟩ := hh
    cases h
    refine iterK_up (fun j => ((j : Int) + 1)) (out.length - 1) (by simp) ?_ ?_
    · intro j hj next k
      have e : ((j : Int) + 1) = ((j + 1 : Nat) : Int) := by omega
      have g1 : ((j + 1 : Nat) : Int) < (out.length : Int) := by omega
      have g2 : inR ((j + 1 : Nat) : Int) out.length = true := by simp [inR]; omega
      rw [e]
      simp only [step5_4, g1, g2, decide_true, cond_true, Int.toNat_natCast, ho (j + 1) (by omega) (by omega), bindO]
      rw [wrap64 (by omega) (by omega)]
      rfl
    · intro next k
      have g1 : ¬ (((out.length - 1 : Nat) : Int) + 1) < (out.length : Int) := by omega
      simp only [step5_4, g1, decide_false, cond_false]
  · cases h
noncomputable def G5_4 : (Ex → St → Ans) → St → Ans := sumG dec5_4 R5_4 out5_4
theorem G5_4_ok : LSum Try.prog 145 L5_4 G5_4 := lsum_iter mixed tabOk envOOk [4, 5] annL5_4_ok dec5_4_ok step5_4_ok R5_4_ok
--@ loop 5_3
noncomputable def L5_3 : Code := codeAt [1, 1, 1, 1, 1, 1, 1, 1, 1, 0, 1, 0, 0, 1, 0, 0, 1, 0, 0] b5
abbrev I5_3 := (List (List (List UInt8))) × (Int) × (Int)
abbrev V5_3 := (Int) × (List (Int × List (List UInt8))) × (List Int)
def S5_3 : I5_3 → V5_3 → St := fun (t0, t13, o0_1) (t14, o2, o3) => { env := [(0, AV.ro (Ty.list Ty.str) t0), (5, AV.ptr 0 0), (6, AV.ptr 1 0), (9, AV.fn (Fn.func 23) [] [AV.ptr 1 0]), (13, AV.int IntKind.i64 t13), (14, AV.int IntKind.i64 t14)], stk := [[]], H := [AE.Obj.cells [AV.own 2, AV.int IntKind.i64 o0_1], AE.Obj.cells [AV.own 3], Obj.arr (Ty.st (Ty.pair (Ty.int IntKind.i64) (Ty.list Ty.str))) o2, Obj.arr (Ty.int IntKind.i64) o3], blk := 20486 }
def dec5_3 (s : St) : Option (I5_3 × V5_3) := match s with
  | { env := [(0, AV.ro (Ty.list Ty.str) t0), (5, AV.ptr 0 0), (6, AV.ptr 1 0), (9, AV.fn (Fn.func 23) [] [AV.ptr 1 0]), (13, AV.int IntKind.i64 t13), (14, AV.int IntKind.i64 t14)], stk := [[]], H := [AE.Obj.cells [AV.own 2, AV.int IntKind.i64 o0_1], AE.Obj.cells [AV.own 3], Obj.arr (Ty.st (Ty.pair (Ty.int IntKind.i64) (Ty.list Ty.str))) o2, Obj.arr (Ty.int IntKind.i64) o3], blk := 20486 } => some ((t0, t13, o0_1), (t14, o2, o3))
  | _ => none
theorem dec5_3_ok (s : St) (x : I5_3 × V5_3) (h : dec5_3 s = some x) : s = S5_3 x.1 x.2 := by
  unfold dec5_3 at h
  split at h
  · cases h; rfl
  · cases h
abbrev Y5_3 := ((List (Int × List (List UInt8))) × (List Int) × (List (Int × List (List UInt8)))) ⊕ ((List (Int × List (List UInt8))) × (List Int))
def out5_3 : I5_3 → (Ex → St → Ans) → Y5_3 → Ans := fun (t0, t13, o0_1) K y => Sum.elim (fun (o2_y4, o3_y5, o5_y6) => K (Ex.ret) { env := [(0, AV.ro (Ty.list Ty.str) t0), (4, AV.bool (false)), (5, AV.ptr 0 0), (6, AV.ptr 1 0), (9, AV.fn (Fn.func 23) [] [AV.ptr 1 0]), (13, AV.int IntKind.i64 t13)], stk := [[]], H := [AE.Obj.cells [AV.own 5, AV.int IntKind.i64 o0_1], AE.Obj.cells [AV.own 3], Obj.arr (Ty.st (Ty.pair (Ty.int IntKind.i64) (Ty.list Ty.str))) o2_y4, Obj.arr (Ty.int IntKind.i64) o3_y5, Obj.dead, Obj.arr (Ty.st (Ty.pair (Ty.int IntKind.i64) (Ty.list Ty.str))) o5_y6], blk := 20487 }) (fun (o2_y3, o3_y4) => K (Ex.exit 6) { env := [(0, AV.ro (Ty.list Ty.str) t0), (4, AV.unk), (5, AV.ptr 0 0), (6, AV.ptr 1 0), (9, AV.fn (Fn.func 23) [] [AV.ptr 1 0]), (13, AV.int IntKind.i64 t13)], stk := [[]], H := [AE.Obj.cells [AV.own 2, AV.int IntKind.i64 o0_1], AE.Obj.cells [AV.own 3], Obj.arr (Ty.st (Ty.pair (Ty.int IntKind.i64) (Ty.list Ty.str))) o2_y3, Obj.arr (Ty.int IntKind.i64) o3_y4], blk := 20486 }) y
noncomputable def step5_3 : I5_3 → V5_3 → (V5_3 → Ans) → (Y5_3 → Ans) → Ans := fun (t0, t13, o0_1) (t14, o2, o3) next exit => (bindO (nth t0 t13) fun x => (bif decide (t14 < ↑(List.length x)) then (bindO (nth t0 t13) fun x_2 => (bindO (nth x_2 t14) fun x_3 => (bif okOpsT o2 then (bif okEv (doneT o2 x_3).fst o3 then (bindO (nth t0 t13) fun x_4 => (bindO (nth x_4 t14) fun x_5 => (bif okOpsT (doneT o2 x_3).snd then (bif waitsT (doneT o2 x_3).snd x_5 then (exit (Sum.inl (o2, marked o3 (doneT o2 x_3).fst, (doneT o2 x_3).snd))) else (next (IntKind.wrap IntKind.i64 (t14 + (1 : Int)), (doneT o2 x_3).snd, marked o3 (doneT o2 x_3).fst))) else none))) else none) else none))) else (exit (Sum.inr (o2, o3)))))
noncomputable def annL5_3 : Ann := .pack 0 (.loop .none)
theorem annL5_3_ok : AnnOk Try.prog 145 (.loop L5_3) annL5_3 := annOk_pack (annOk_loop (annOk_none _ _ _))
theorem step5_3_ok (n : Nat) (i : I5_3) (v : V5_3) (K : Ex → St → Ans) : codeI Try.tab envO Try.hint (codeD Try.tab envO Try.hint 2 64) (n+1) 145 annL5_3 (.loop L5_3) (weak [0, 4, 5, 6, 9, 13] K) (S5_3 i v) = step5_3 i v (fun v' => codeI Try.tab envO Try.hint (codeD Try.tab envO Try.hint 2 64) n 145 annL5_3 (.loop L5_3) (weak [0, 4, 5, 6, 9, 13] K) (S5_3 i v')) (fun y => out5_3 i K y) := by kernel_rfl
open Classical in
noncomputable def R5_3 : I5_3 → V5_3 → Option Y5_3 := fun (l, i, _) (t, ops, out) => if t = 0 ∧ 0 ≤ i ∧ i < l.length ∧ (∃ pr, Inv l pr l.length ops out) ∧ (l[i.toNat]?.getD []).length ≤ 2000 then some (Sum.inr (runC (ops, out) (l[i.toNat]?.getD []))) else none
theorem R5_3_ok (i : I5_3) (v : V5_3) (z : Y5_3) (h : R5_3 i v = some z) : ∃ n, ∀ k, iterK (step5_3 i) n v k = k z := by
  obtain ⟨l, i, last⟩ := i; obtain ⟨t, ops, out⟩ := v
  simp only [R5_3] at h
  split at h
  · rename_i hh; obtain ⟨rfl, h0, hi, ⟨pr, inv⟩, hlen⟩ := hh
    cases h
    obtain ⟨i, rfl⟩ := Int.eq_ofNat_of_zero_le h0
    have hxj : l[i]? = some l[i] := List.getElem?_eq_getElem (by omega)
    rw [Int.toNat_natCast] at hlen ⊢
    rw [hxj] at hlen ⊢
    rw [Option.getD_some] at hlen ⊢
    refine iterK_fold l[i] stepC (ops, out) (fun b => Sum.inr b) (fun _ b => ∃ pr, Inv l pr l.length b.1 b.2) ⟨pr, inv⟩ ?_ ?_ ?_
    · rintro j w b hj ⟨pr, hb⟩
      exact ⟨_, (hb.done w).2⟩
    · rintro j w ⟨ops, out⟩ hj ⟨pr, hb⟩ next k
      have hjl : j < l[i].length := (List.getElem?_eq_some_iff.1 hj).1
      have g1 : (j : Int) < ((l[i]).length : Int) := by omega
      simp only [step5_3, nth_nat, hxj, bindO, g1, decide_true, cond_true, hj, hb.okOps, (hb.done w).1, (hb.done w).2.okOps, waits_done, cond_false]
      rw [wrap64 (by omega) (by omega)]
      rfl
    · rintro ⟨ops, out⟩ ⟨pr, hb⟩ next k
      have g1 : ¬ ((l[i]).length : Int) < ((l[i]).length : Int) := by omega
      simp only [step5_3, nth_nat, hxj, bindO, g1, decide_false, cond_false]
  · cases h
noncomputable def G5_3 : (Ex → St → Ans) → St → Ans := sumG dec5_3 R5_3 out5_3
theorem G5_3_ok : LSum Try.prog 145 L5_3 G5_3 := lsum_iter mixed tabOk envOOk [0, 4, 5, 6, 9, 13] annL5_3_ok dec5_3_ok step5_3_ok R5_3_ok
--@ loop 5_2
noncomputable def L5_2 : Code := codeAt [1, 1, 1, 1, 1, 1, 1, 1, 1, 0, 1, 0, 0] b5
abbrev I5_2 := (List (List (List UInt8))) × (Int)
abbrev V5_2 := (Int) × (List (Int × List (List UInt8))) × (List Int)
def S5_2 : I5_2 → V5_2 → St := fun (t0, o0_1) (t13, o2, o3) => { env := [(0, AV.ro (Ty.list Ty.str) t0), (5, AV.ptr 0 0), (6, AV.ptr 1 0), (9, AV.fn (Fn.func 23) [] [AV.ptr 1 0]), (13, AV.int IntKind.i64 t13)], stk := [[]], H := [AE.Obj.cells [AV.own 2, AV.int IntKind.i64 o0_1], AE.Obj.cells [AV.own 3], Obj.arr (Ty.st (Ty.pair (Ty.int IntKind.i64) (Ty.list Ty.str))) o2, Obj.arr (Ty.int IntKind.i64) o3], blk := 20484 }
def dec5_2 (s : St) : Option (I5_2 × V5_2) := match s with
  | { env := [(0, AV.ro (Ty.list Ty.str) t0), (5, AV.ptr 0 0), (6, AV.ptr 1 0), (9, AV.fn (Fn.func 23) [] [AV.ptr 1 0]), (13, AV.int IntKind.i64 t13)], stk := [[]], H := [AE.Obj.cells [AV.own 2, AV.int IntKind.i64 o0_1], AE.Obj.cells [AV.own 3], Obj.arr (Ty.st (Ty.pair (Ty.int IntKind.i64) (Ty.list Ty.str))) o2, Obj.arr (Ty.int IntKind.i64) o3], blk := 20484 } => some ((t0, o0_1), (t13, o2, o3))
  | _ => none
theorem dec5_2_ok (s : St) (x : I5_2 × V5_2) (h : dec5_2 s = some x) : s = S5_2 x.1 x.2 := by
  unfold dec5_2 at h
  split at h
  · cases h; rfl
  · cases h
abbrev Y5_2 := ((List (Int × List (List UInt8))) × (List Int) × (List (Int × List (List UInt8)))) ⊕ ((List (Int × List (List UInt8))) × (List Int))
def out5_2 : I5_2 → (Ex → St → Ans) → Y5_2 → Ans := fun (t0, o0_1) K y => Sum.elim (fun (o2_y2, o3_y3, o5_y4) => K (Ex.ret) { env := [(4, AV.bool (false)), (5, AV.ptr 0 0), (6, AV.ptr 1 0), (9, AV.fn (Fn.func 23) [] [AV.ptr 1 0])], stk := [[]], H := [AE.Obj.cells [AV.own 5, AV.int IntKind.i64 o0_1], AE.Obj.cells [AV.own 3], Obj.arr (Ty.st (Ty.pair (Ty.int IntKind.i64) (Ty.list Ty.str))) o2_y2, Obj.arr (Ty.int IntKind.i64) o3_y3, Obj.dead, Obj.arr (Ty.st (Ty.pair (Ty.int IntKind.i64) (Ty.list Ty.str))) o5_y4], blk := 20487 }) (fun (o2_y1, o3_y2) => K (Ex.exit 4) { env := [(4, AV.unk), (5, AV.ptr 0 0), (6, AV.ptr 1 0), (9, AV.fn (Fn.func 23) [] [AV.ptr 1 0])], stk := [[]], H := [AE.Obj.cells [AV.own 2, AV.int IntKind.i64 o0_1], AE.Obj.cells [AV.own 3], Obj.arr (Ty.st (Ty.pair (Ty.int IntKind.i64) (Ty.list Ty.str))) o2_y1, Obj.arr (Ty.int IntKind.i64) o3_y2], blk := 20484 }) y
noncomputable def step5_2 : I5_2 → V5_2 → (V5_2 → Ans) → (Y5_2 → Ans) → Ans := fun (t0, o0_1) (t13, o2, o3) next exit => (bif decide (t13 < ↑(List.length t0)) then (bindO (R5_3 (t0, t13, o0_1) ((0 : Int), o2, o3)) fun y => Sum.elim (fun (o2_2, o3_2, o5) => (exit (Sum.inl (o2_2, o3_2, o5)))) (fun (o2_2, o3_2) => (next (IntKind.wrap IntKind.i64 (t13 + (1 : Int)), o2_2, o3_2))) y) else (exit (Sum.inr (o2, o3))))
noncomputable def annL5_2 : Ann := .pack 0 (.loop (.seq .none (.seq (.block (.seq .none (.block (.pack 0 (.sum G5_3))))) .none)))
theorem annL5_2_ok : AnnOk Try.prog 145 (.loop L5_2) annL5_2 := annOk_pack (annOk_loop ⟨(annOk_none _ _ _), ⟨⟨(annOk_none _ _ _), (annOk_pack (annOk_sum G5_3_ok))⟩, (annOk_none _ _ _)⟩⟩)
theorem step5_2_ok (n : Nat) (i : I5_2) (v : V5_2) (K : Ex → St → Ans) : codeI Try.tab envO Try.hint (codeD Try.tab envO Try.hint 2 64) (n+1) 145 annL5_2 (.loop L5_2) (weak [4, 5, 6, 9] K) (S5_2 i v) = step5_2 i v (fun v' => codeI Try.tab envO Try.hint (codeD Try.tab envO Try.hint 2 64) n 145 annL5_2 (.loop L5_2) (weak [4, 5, 6, 9] K) (S5_2 i v')) (fun y => out5_2 i K y) := by kernel_rfl
open Classical in
noncomputable def R5_2 : I5_2 → V5_2 → Option Y5_2 := fun (l, _) (t, ops, out) => if t = 0 ∧ (∃ pr, Inv l pr l.length ops out) ∧ (∀ x ∈ l, x.length ≤ 2000) then some (Sum.inr (l.foldl runC (ops, out))) else none
theorem R5_2_ok (i : I5_2) (v : V5_2) (z : Y5_2) (h : R5_2 i v = some z) : ∃ n, ∀ k, iterK (step5_2 i) n v k = k z := by
  obtain ⟨l, last⟩ := i; obtain ⟨t, ops, out⟩ := v
  simp only [R5_2] at h
  split at h
  · rename_i hh; obtain ⟨rfl, ⟨pr, inv⟩, hx⟩ := hh
    cases h
    have hl := inv.l30
    refine iterK_fold l runC (ops, out) (fun b => Sum.inr b) (fun _ b => ∃ pr, Inv l pr l.length b.1 b.2) ⟨pr, inv⟩ ?_ ?_ ?_
    · rintro j w b hj ⟨pr, hb⟩
      exact ⟨_, runC_inv w pr b hb⟩
    · rintro j x ⟨ops, out⟩ hj ⟨pr, hb⟩ next k
      have hjl : j < l.length := (List.getElem?_eq_some_iff.1 hj).1
      have g1 : (j : Int) < (l.length : Int) := by omega
      simp only [step5_2, g1, decide_true, cond_true, R5_3]
      rw [if_pos (by refine ⟨by trivial, by omega, by omega, ⟨pr, hb⟩, ?_⟩; rw [Int.toNat_natCast, hj]; exact hx x (List.mem_of_getElem? hj))]
      simp only [bindO, Sum.elim_inr, Int.toNat_natCast, hj, Option.getD_some]
      rw [wrap64 (by omega) (by omega)]
      rfl
    · rintro ⟨ops, out⟩ ⟨pr, hb⟩ next k
      have g1 : ¬ (l.length : Int) < (l.length : Int) := by omega
      simp only [step5_2, g1, decide_false, cond_false]
  · cases h
noncomputable def G5_2 : (Ex → St → Ans) → St → Ans := sumG dec5_2 R5_2 out5_2
theorem G5_2_ok : LSum Try.prog 145 L5_2 G5_2 := lsum_iter mixed tabOk envOOk [4, 5, 6, 9] annL5_2_ok dec5_2_ok step5_2_ok R5_2_ok
--@ loop 5_1
noncomputable def L5_1 : Code := codeAt [1, 1, 1, 1, 1, 1, 1, 1, 0, 1, 0, 0] b5
abbrev I5_1 := (List (List (List UInt8))) × (List (List UInt8))
abbrev V5_1 := (Int) × (Int) × (List (Int × List (List UInt8))) × (List Int)
def S5_1 : I5_1 → V5_1 → St := fun (t0, t1) (t10, o0_1, o2, o3) => { env := [(0, AV.ro (Ty.list Ty.str) t0), (1, AV.ro Ty.str t1), (5, AV.ptr 0 0), (6, AV.ptr 1 0), (9, AV.fn (Fn.func 23) [] [AV.ptr 1 0]), (10, AV.int IntKind.i64 t10)], stk := [[]], H := [AE.Obj.cells [AV.own 2, AV.int IntKind.i64 o0_1], AE.Obj.cells [AV.own 3], Obj.arr (Ty.st (Ty.pair (Ty.int IntKind.i64) (Ty.list Ty.str))) o2, Obj.arr (Ty.int IntKind.i64) o3], blk := 20482 }
def dec5_1 (s : St) : Option (I5_1 × V5_1) := match s with
  | { env := [(0, AV.ro (Ty.list Ty.str) t0), (1, AV.ro Ty.str t1), (5, AV.ptr 0 0), (6, AV.ptr 1 0), (9, AV.fn (Fn.func 23) [] [AV.ptr 1 0]), (10, AV.int IntKind.i64 t10)], stk := [[]], H := [AE.Obj.cells [AV.own 2, AV.int IntKind.i64 o0_1], AE.Obj.cells [AV.own 3], Obj.arr (Ty.st (Ty.pair (Ty.int IntKind.i64) (Ty.list Ty.str))) o2, Obj.arr (Ty.int IntKind.i64) o3], blk := 20482 } => some ((t0, t1), (t10, o0_1, o2, o3))
  | _ => none
theorem dec5_1_ok (s : St) (x : I5_1 × V5_1) (h : dec5_1 s = some x) : s = S5_1 x.1 x.2 := by
  unfold dec5_1 at h
  split at h
  · cases h; rfl
  · cases h
abbrev Y5_1 := ((Int) × (List (Int × List (List UInt8))) × (List Int))
def out5_1 : I5_1 → (Ex → St → Ans) → Y5_1 → Ans := fun (t0, t1) K y => (fun (o0_1_y1, o2_y2, o3_y3) => K (Ex.exit 2) { env := [(0, AV.ro (Ty.list Ty.str) t0), (4, AV.unk), (5, AV.ptr 0 0), (6, AV.ptr 1 0), (9, AV.fn (Fn.func 23) [] [AV.ptr 1 0])], stk := [[]], H := [AE.Obj.cells [AV.own 2, AV.int IntKind.i64 o0_1_y1], AE.Obj.cells [AV.own 3], Obj.arr (Ty.st (Ty.pair (Ty.int IntKind.i64) (Ty.list Ty.str))) o2_y2, Obj.arr (Ty.int IntKind.i64) o3_y3], blk := 20482 }) y
noncomputable def step5_1 : I5_1 → V5_1 → (V5_1 → Ans) → (Y5_1 → Ans) → Ans := fun (t0, t1) (t10, o0_1, o2, o3) next exit => (bif decide (t10 < ↑(List.length t0)) then (bindO (nth t0 t10) fun x => (bif Nat.ble (List.length x) (1000000 : Nat) then (bif decide ((32 : Nat) ≤ List.length o2) then (bif (0 : Int) != IntKind.wrap IntKind.i64 (t10 + (1 : Int)) then none else none) else (bif IntKind.wrap IntKind.i64 (o0_1 + (1 : Int)) != IntKind.wrap IntKind.i64 (t10 + (1 : Int)) then none else (bif decide (t10 < ↑(List.length t1)) then (bindO (nth t1 t10) fun x_2 => (bif okOpsT (o2 ++ [(IntKind.wrap IntKind.i64 (o0_1 + (1 : Int)), uniqT x)]) then (bif okEv (doneT (o2 ++ [(IntKind.wrap IntKind.i64 (o0_1 + (1 : Int)), uniqT x)]) x_2).fst o3 then (next (IntKind.wrap IntKind.i64 (t10 + (1 : Int)), IntKind.wrap IntKind.i64 (o0_1 + (1 : Int)), (doneT (o2 ++ [(IntKind.wrap IntKind.i64 (o0_1 + (1 : Int)), uniqT x)]) x_2).snd, marked o3 (doneT (o2 ++ [(IntKind.wrap IntKind.i64 (o0_1 + (1 : Int)), uniqT x)]) x_2).fst)) else none) else none)) else (next (IntKind.wrap IntKind.i64 (t10 + (1 : Int)), IntKind.wrap IntKind.i64 (o0_1 + (1 : Int)), o2 ++ [(IntKind.wrap IntKind.i64 (o0_1 + (1 : Int)), uniqT x)], o3))))) else none)) else (exit (o0_1, o2, o3)))
noncomputable def annL5_1 : Ann := .pack 0 (.loop .none)
theorem annL5_1_ok : AnnOk Try.prog 145 (.loop L5_1) annL5_1 := annOk_pack (annOk_loop (annOk_none _ _ _))
theorem step5_1_ok (n : Nat) (i : I5_1) (v : V5_1) (K : Ex → St → Ans) : codeI Try.tab envO Try.hint (codeD Try.tab envO Try.hint 2 64) (n+1) 145 annL5_1 (.loop L5_1) (weak [0, 4, 5, 6, 9] K) (S5_1 i v) = step5_1 i v (fun v' => codeI Try.tab envO Try.hint (codeD Try.tab envO Try.hint 2 64) n 145 annL5_1 (.loop L5_1) (weak [0, 4, 5, 6, 9] K) (S5_1 i v')) (fun y => out5_1 i K y) := by kernel_rfl
def R5_1 : I5_1 → V5_1 → Option Y5_1 := fun (l, d) (t, last, ops, out) => if t = 0 ∧ last = 0 ∧ ops = [] ∧ out = List.replicate (l.length + 1) 0 ∧ l.length ≤ 30 ∧ ∀ x ∈ l, x.length ≤ 2000 then some ((l.length : Int), runB l d l.length) else none
theorem R5_1_ok (i : I5_1) (v : V5_1) (z : Y5_1) (h : R5_1 i v = some z) : ∃ n, ∀ k, iterK (step5_1 i) n v k = k z := by
  obtain ⟨l, d⟩ := i; obtain ⟨t, last, ops, out⟩ := v
  simp only [R5_1] at h
  split at h
  · rename_i hh; obtain ⟨rfl, rfl, rfl, rfl, hl, hx⟩ := hh
    cases h
    refine iterK_up (fun j => ((j : Int), (j : Int), runB l d j)) l.length rfl ?_ ?_
    · intro j hj next k
      have inv := runB_inv d hl hx j (by omega)
      have hxj : l[j]? = some l[j] := List.getElem?_eq_getElem (by omega)
      have ha := inv.add hxj (hx _ (List.getElem_mem _))
      have g1 : (j : Int) < (l.length : Int) := by omega
      have g2 : Nat.ble (List.length l[j]) 1000000 = true := Nat.ble_eq_true_of_le (by have := hx l[j] (List.getElem_mem _); omega)
      have g3 : ¬ 32 ≤ (runB l d j).1.length := by have := inv.len; omega
      simp only [step5_1, g1, decide_true, cond_true, nth_nat, hxj, bindO, g2, g3, decide_false, cond_false]
      rw [wrap64 (by omega) (by omega)]
      simp only [bne_self_eq_false, cond_false, ha.okOps, cond_true]
      rw [runB, stepB]
      simp only [hxj, Option.getD_some]
      cases hd : d[j]? with
      | none =>
        have : ¬ (j : Int) < (d.length : Int) := by rw [List.getElem?_eq_none_iff] at hd; omega
        simp only [this, decide_false, cond_false]
        rfl
      | some w =>
        have : (j : Int) < (d.length : Int) := by have := (List.getElem?_eq_some_iff.1 hd).1; omega
        simp only [this, decide_true, cond_true, (ha.done w).1]
        rfl
    · intro next k
      have g1 : ¬ (l.length : Int) < (l.length : Int) := by omega
      simp only [step5_1, g1, decide_false, cond_false]
  · cases h
noncomputable def G5_1 : (Ex → St → Ans) → St → Ans := sumG dec5_1 R5_1 out5_1
theorem G5_1_ok : LSum Try.prog 145 L5_1 G5_1 := lsum_iter mixed tabOk envOOk [0, 4, 5, 6, 9] annL5_1_ok dec5_1_ok step5_1_ok R5_1_ok
--@ loop 5_0
noncomputable def L5_0 : Code := codeAt [1, 1, 1, 1, 1, 1, 0, 1, 0, 0] b5
abbrev I5_0 := (List (List (List UInt8))) × (List (List UInt8)) × (List Int)
abbrev V5_0 := (Int) × (Int)
def S5_0 : I5_0 → V5_0 → St := fun (t0, t1, o3) (t7, t8) => { env := [(0, AV.ro (Ty.list Ty.str) t0), (1, AV.ro Ty.str t1), (5, AV.ptr 0 0), (6, AV.ptr 1 0), (7, AV.int IntKind.i64 t7), (8, AV.int IntKind.i64 t8)], stk := [[]], H := [AE.Obj.cells [AV.own 2, AV.int IntKind.i64 (0)], AE.Obj.cells [AV.own 3], Obj.arr (Ty.st (Ty.pair (Ty.int IntKind.i64) (Ty.list Ty.str))) ([]), Obj.arr (Ty.int IntKind.i64) o3], blk := 20480 }
def dec5_0 (s : St) : Option (I5_0 × V5_0) := match s with
  | { env := [(0, AV.ro (Ty.list Ty.str) t0), (1, AV.ro Ty.str t1), (5, AV.ptr 0 0), (6, AV.ptr 1 0), (7, AV.int IntKind.i64 t7), (8, AV.int IntKind.i64 t8)], stk := [[]], H := [AE.Obj.cells [AV.own 2, AV.int IntKind.i64 r4], AE.Obj.cells [AV.own 3], Obj.arr (Ty.st (Ty.pair (Ty.int IntKind.i64) (Ty.list Ty.str))) r5, Obj.arr (Ty.int IntKind.i64) o3], blk := 20480 } => cond (decide (r4 = 0) && decide (r5 = [])) (some ((t0, t1, o3), (t7, t8))) none
  | _ => none
theorem dec5_0_ok (s : St) (x : I5_0 × V5_0) (h : dec5_0 s = some x) : s = S5_0 x.1 x.2 := by
  unfold dec5_0 at h
  split at h
  · replace h := cond_noneO h; obtain ⟨hg, h⟩ := h; simp only [Bool.and_eq_true, decide_eq_true_eq] at hg; simp only [hg]; cases h; rfl
  · cases h
abbrev Y5_0 := (Unit) ⊕ (Unit)
def out5_0 : I5_0 → (Ex → St → Ans) → Y5_0 → Ans := fun (t0, t1, o3) K y => Sum.elim (fun _ => K (Ex.exit 0) { env := [(0, AV.ro (Ty.list Ty.str) t0), (1, AV.ro Ty.str t1), (4, AV.unk), (5, AV.ptr 0 0), (6, AV.ptr 1 0)], stk := [[]], H := [AE.Obj.cells [AV.own 2, AV.int IntKind.i64 (0)], AE.Obj.cells [AV.own 3], Obj.arr (Ty.st (Ty.pair (Ty.int IntKind.i64) (Ty.list Ty.str))) ([]), Obj.arr (Ty.int IntKind.i64) o3], blk := 20480 }) (fun _ => K (Ex.ret) { env := [(0, AV.ro (Ty.list Ty.str) t0), (1, AV.ro Ty.str t1), (4, AV.bool (true)), (5, AV.ptr 0 0), (6, AV.ptr 1 0)], stk := [[]], H := [AE.Obj.cells [AV.own 2, AV.int IntKind.i64 (0)], AE.Obj.cells [AV.own 3], Obj.arr (Ty.st (Ty.pair (Ty.int IntKind.i64) (Ty.list Ty.str))) ([]), Obj.arr (Ty.int IntKind.i64) o3], blk := 20481 }) y
noncomputable def step5_0 : I5_0 → V5_0 → (V5_0 → Ans) → (Y5_0 → Ans) → Ans := fun (t0, t1, o3) (t7, t8) next exit => (bif decide (t8 < ↑(List.length t0)) then (bindO (nth t0 t8) fun x => (bif decide (IntKind.wrap IntKind.i64 (t7 + if (2000 : Int) < ↑(List.length x) then (2000 : Int) else ↑(List.length x)) > (1000 : Int)) then (exit (Sum.inr ())) else (next (IntKind.wrap IntKind.i64 (t7 + if (2000 : Int) < ↑(List.length x) then (2000 : Int) else ↑(List.length x)), IntKind.wrap IntKind.i64 (t8 + (1 : Int)))))) else (exit (Sum.inl ())))
noncomputable def annL5_0 : Ann := .pack 0 (.loop .none)
theorem annL5_0_ok : AnnOk Try.prog 145 (.loop L5_0) annL5_0 := annOk_pack (annOk_loop (annOk_none _ _ _))
theorem step5_0_ok (n : Nat) (i : I5_0) (v : V5_0) (K : Ex → St → Ans) : codeI Try.tab envO Try.hint (codeD Try.tab envO Try.hint 2 64) (n+1) 145 annL5_0 (.loop L5_0) (weak [0, 1, 4, 5, 6] K) (S5_0 i v) = step5_0 i v (fun v' => codeI Try.tab envO Try.hint (codeD Try.tab envO Try.hint 2 64) n 145 annL5_0 (.loop L5_0) (weak [0, 1, 4, 5, 6] K) (S5_0 i v')) (fun y => out5_0 i K y) := by kernel_rfl
def R5_0 : I5_0 → V5_0 → Option Y5_0 := fun (l, _, _) (a, t) => if a = 0 ∧ t = 0 ∧ l.length ≤ 30 then some (if total l > 1000 then Sum.inr () else Sum.inl ()) else none
theorem R5_0_ok (i : I5_0) (v : V5_0) (z : Y5_0) (h : R5_0 i v = some z) : ∃ n, ∀ k, iterK (step5_0 i) n v k = k z := by
  obtain ⟨l, d, o3⟩ := i; obtain ⟨a, t⟩ := v
  simp only [R5_0] at h
  split at h
  · rename_i hh; obtain ⟨rfl, rfl, hl⟩ := hh
    cases h
    have nn : ∀ r : List (List (List UInt8)), 0 ≤ total r := by
      intro r
      induction r with
      | nil => simp [total]
      | cons x r ih => simp only [total, List.map_cons, List.sum_cons] at ih ⊢; split <;> omega
    have key : ∀ (r : List (List (List UInt8))) (j : Nat) (a : Int), l.drop j = r → j ≤ l.length → 0 ≤ a → a ≤ 1000 → ∀ k, iterK (step5_0 (l, d, o3)) (r.length + 1) (a, (j : Int)) k = k (if a + total r > 1000 then Sum.inr () else Sum.inl ()) := by
      intro r
      induction r with
      | nil =>
        intro j a hj hjl h0 h1 k
        have hj1 : l.length ≤ j := List.drop_eq_nil_iff.1 hj
        have g1 : ¬ (j : Int) < (l.length : Int) := by omega
        rw [List.length_nil, iterK]
        simp only [step5_0, g1, decide_false, cond_false]
        rw [if_neg (by simp [total]; omega)]
      | cons x r ih =>
        intro j a hj hjl h0 h1 k
        have hx : l[j]? = some x := by
          have : (l.drop j)[0]? = some x := by rw [hj]; rfl
          simpa using this
        have hr : l.drop (j + 1) = r := by rw [← List.tail_drop, hj]; rfl
        have hjl' : j < l.length := (List.getElem?_eq_some_iff.1 hx).1
        have g1 : (j : Int) < (l.length : Int) := by omega
        have ht : total (x :: r) = (if (2000 : Int) < (x.length : Int) then 2000 else (x.length : Int)) + total r := by simp [total]
        have b0 : 0 ≤ (if (2000 : Int) < (x.length : Int) then 2000 else (x.length : Int)) ∧ (if (2000 : Int) < (x.length : Int) then 2000 else (x.length : Int)) ≤ 2000 := by split <;> omega
        rw [List.length_cons, iterK]
        simp only [step5_0, g1, decide_true, cond_true, nth_nat, hx, bindO]
        rw [ht]
        generalize (if (2000 : Int) < (x.length : Int) then 2000 else (x.length : Int)) = m at b0
        rw [wrap64 (x := a + m) (by omega) (by omega), wrap64 (by omega) (by omega)]
        by_cases h2 : a + m > 1000
        · simp only [h2, decide_true, cond_true]
          rw [if_pos (by have := nn r; omega)]
        · simp only [h2, decide_false, cond_false]
          rw [show a + (m + total r) = (a + m) + total r by omega]
          exact ih (j + 1) (a + m) hr (by omega) (by omega) (by omega) k
    refine ⟨l.length + 1, fun k => ?_⟩
    have := key l 0 0 rfl (Nat.zero_le _) (by omega) (by omega) k
    rw [Int.zero_add] at this
    exact this
  · cases h
noncomputable def G5_0 : (Ex → St → Ans) → St → Ans := sumG dec5_0 R5_0 out5_0
theorem G5_0_ok : LSum Try.prog 145 L5_0 G5_0 := lsum_iter mixed tabOk envOOk [0, 1, 4, 5, 6] annL5_0_ok dec5_0_ok step5_0_ok R5_0_ok
--@ fn 5
noncomputable def ann5 : Ann := (.seq .none (.seq .none (.seq .none (.seq .none (.seq .none (.seq .none (.seq (.seq .none (.block (.pack 0 (.sum G5_0)))) (.seq .none (.seq (.seq .none (.block (.pack 0 (.sum G5_1)))) (.seq (.seq .none (.block (.pack 0 (.sum G5_2)))) (.seq .none (.seq (.seq .none (.block (.pack 0 (.sum G5_4)))) .none))))))))))))
theorem ann5_ok : AnnOk Try.prog 145 b5 ann5 := ⟨(annOk_none _ _ _), ⟨(annOk_none _ _ _), ⟨(annOk_none _ _ _), ⟨(annOk_none _ _ _), ⟨(annOk_none _ _ _), ⟨(annOk_none _ _ _), ⟨⟨(annOk_none _ _ _), (annOk_pack (annOk_sum G5_0_ok))⟩, ⟨(annOk_none _ _ _), ⟨⟨(annOk_none _ _ _), (annOk_pack (annOk_sum G5_1_ok))⟩, ⟨⟨(annOk_none _ _ _), (annOk_pack (annOk_sum G5_2_ok))⟩, ⟨(annOk_none _ _ _), ⟨⟨(annOk_none _ _ _), (annOk_pack (annOk_sum G5_4_ok))⟩, (annOk_none _ _ _)⟩⟩⟩⟩⟩⟩⟩⟩⟩⟩⟩⟩
abbrev A5 := (List (List (List UInt8))) × (List (List UInt8))
def args5 : A5 → List AV × List AE.Obj := fun (l, d) => ([AV.ro (Ty.list Ty.str) l, AV.ro Ty.str d], [])
def decA5 (l : List AV) (H : List AE.Obj) : Option A5 := match l, H with
  | [AV.ro (Ty.list Ty.str) l, AV.ro Ty.str d], [] => some (l, d)
  | _, _ => none
theorem decA5_ok (l : List AV) (H : List AE.Obj) (a : A5) (h : decA5 l H = some a) : (l, H) = args5 a := by
  unfold decA5 at h
  split at h
  · cases h; rfl
  · cases h
noncomputable def fn5 : A5 → (AV → List AE.Obj → Ans) → Ans := fun (l, d) K => (bif decide (↑(List.length l) > (30 : Int)) then (K (AV.bool true) []) else (bif decide (↑(List.length d) > (200 : Int)) then (K (AV.bool true) []) else (bif decide ((0 : Int) ≤ IntKind.wrap IntKind.i64 (↑(List.length l) + (1 : Int))) && decide (IntKind.wrap IntKind.i64 (↑(List.length l) + (1 : Int)) ≤ IntKind.wrap IntKind.i64 (↑(List.length l) + (1 : Int))) && decide (↑(8) * IntKind.wrap IntKind.i64 (↑(List.length l) + (1 : Int)) ≤ (281474976710656 : Int)) && decide (IntKind.wrap IntKind.i64 (↑(List.length l) + (1 : Int)) ≤ (9223372036854775807 : Int)) then (bindO (R5_0 (l, d, List.replicate (Int.toNat (IntKind.wrap IntKind.i64 (↑(List.length l) + (1 : Int)))) (0 : Int)) ((0 : Int), (0 : Int))) fun y => Sum.elim (fun _ => (bindO (R5_1 (l, d) ((0 : Int), (0 : Int), [], List.replicate (Int.toNat (IntKind.wrap IntKind.i64 (↑(List.length l) + (1 : Int)))) (0 : Int))) fun (o0_1, o2, o3) => (bindO (R5_2 (l, o0_1) ((0 : Int), o2, o3)) fun y => Sum.elim (fun (o2_2, o3_2, o5) => (K (AV.bool false) [])) (fun (o2_2, o3_2) => (bif okOpsT o2_2 then (bif okEv (doneT o2_2 []).fst o3_2 then (bindO (R5_4 (o0_1, (doneT o2_2 []).snd, marked o3_2 (doneT o2_2 []).fst) ((1 : Int))) fun y => Sum.elim (fun _ => (K (AV.bool (↑(List.length (doneT o2_2 []).snd) == (0 : Int))) [])) (fun _ => (K (AV.bool false) [])) y) else none) else none)) y))) (fun _ => (K (AV.bool true) [])) y) else none)))
theorem fn5_ok (a : A5) (K : AV → List AE.Obj → Ans) : fnE Try.tab envO Try.hint 2 70 5 Try.f5.ntmps Try.f5.results.toList ann5 b5 (args5 a).1 (args5 a).2 K = fn5 a K := by kernel_rfl
noncomputable def v5 := fn5
theorem v5_ok (a : A5) (K : AV → List AE.Obj → Ans) (res : AV × List AE.Obj) (h : v5 a K = some res) : fn5 a K = some res := h
noncomputable def F5 : List AV → List AE.Obj → (AV → List AE.Obj → Ans) → Ans := fun l H K => bindO (decA5 l H) fun a => v5 a K
theorem F5_ok : FuncOk Try.prog 5 F5 := func_mk mixed tabOk envOOk Try.func5 (bodySome (by kernel_rfl)) (by decide +kernel) ann5_ok decA5_ok fn5_ok v5_ok
theorem total_small {l : List (List (List UInt8))} (h : ¬ total l > 1000) : ∀ x ∈ l, x.length ≤ 2000 := by
  induction l with
  | nil => simp
  | cons a r ih =>
    have nn : ∀ r : List (List (List UInt8)), 0 ≤ total r := by
      intro r
      induction r with
      | nil => simp [total]
      | cons x r ih => simp only [total, List.map_cons, List.sum_cons] at ih ⊢; split <;> omega
    have hr := nn r
    have e : total (a :: r) = (if (2000 : Int) < (a.length : Int) then 2000 else (a.length : Int)) + total r := by simp [total]
    rw [e] at h
    intro x hx
    rcases List.mem_cons.1 hx with rfl | hx
    · split at h <;> omega
    · exact ih (by split at h <;> omega) x hx
theorem fn5_true (l : List (List (List UInt8))) (d : List (List UInt8)) (K : AV → List AE.Obj → Ans) : fn5 (l, d) K = K (.bool true) [] := by
  simp only [fn5]
  by_cases h1 : (l.length : Int) > 30
  · simp only [h1, decide_true, cond_true]
  · simp only [h1, decide_false, cond_false]
    by_cases h2 : (d.length : Int) > 200
    · simp only [h2, decide_true, cond_true]
    · simp only [h2, decide_false, cond_false]
      rw [wrap64 (by omega) (by omega)]
      have c1 : (0 : Int) ≤ (l.length : Int) + 1 := by omega
      have c2 : (8 : Int) * ((l.length : Int) + 1) ≤ 281474976710656 := by omega
      have c3 : (l.length : Int) + 1 ≤ 9223372036854775807 := by omega
      have e1 : ((l.length : Int) + 1).toNat = l.length + 1 := by omega
      simp only [show (↑(8 : Nat) : Int) = 8 from rfl, c1, c2, c3, Int.le_refl, decide_true, Bool.and_true, cond_true, e1, R5_0]
      rw [if_pos (by refine ⟨?_, ?_, by omega⟩ <;> first | exact rfl | exact True.intro)]
      simp only [bindO]
      by_cases ht : total l > 1000
      · rw [if_pos ht]; simp only [Sum.elim_inr]
      · rw [if_neg ht]
        simp only [Sum.elim_inl, R5_1]
        have hl : l.length ≤ 30 := by omega
        have hx := total_small ht
        rw [if_pos (by refine ⟨?_, ?_, ?_, ?_, hl, hx⟩ <;> first | exact rfl | exact True.intro)]
        have inv := runB_inv d hl hx l.length (Nat.le_refl _)
        simp only [R5_2]
        rw [if_pos (by refine ⟨?_, ⟨_, inv⟩, hx⟩; first | exact rfl | exact True.intro)]
        simp only [Sum.elim_inr]
        have inv2 := runAll_inv l _ _ inv
        generalize l.foldl runC ((runB l d l.length).1, (runB l d l.length).2) = b at inv2
        have emp : ∀ o ∈ b.1, o.2 = [] := by
          intro o ho
          obtain ⟨_, _, _, i4⟩ := inv2.ids o ho
          rw [List.eq_nil_iff_forall_not_mem]
          intro w hw
          obtain ⟨k1, k2⟩ := i4 w hw
          exact k1 (.inr k2)
        have d1 := inv2.done []
        have st : (doneT b.1 []).2 = [] := by
          rw [List.eq_nil_iff_forall_not_mem]
          intro q hq
          obtain ⟨o, ho, hne, rfl⟩ := mem_stay.1 hq
          rw [emp o ho] at hne
          exact hne rfl
        simp only [inv2.okOps, d1.1, cond_true]
        have d2 := d1.2
        rw [st] at d2 ⊢
        simp only [R5_4]
        have h4 : ∀ p, 1 ≤ p → p < (marked b.2 (doneT b.1 []).1).length → (marked b.2 (doneT b.1 []).1)[p]? = some 1 := fun p hp1 hp2 => by
          rw [d2.outlen] at hp2
          rw [d2.outv p hp1 (by omega), if_pos ⟨by omega, by simp⟩]
        rw [if_pos (by refine ⟨?_, h4, by rw [d2.outlen]; omega, by rw [d2.outlen]; omega⟩; first | exact rfl | exact True.intro)]
        simp
end Go.Proofs.R1
