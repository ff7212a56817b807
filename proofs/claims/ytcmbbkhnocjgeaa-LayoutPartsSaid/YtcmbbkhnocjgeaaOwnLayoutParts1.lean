/- What the functions that LayoutParts reaches compute: part 1. -/
import Derived.Test.YtcmbbkhnocjgeaaAe2
import Derived.Test.YtcmbbkhnocjgeaaProg
import Derived.Test.YtcmbbkhnocjgeaaChecked
set_option linter.unusedVariables false
set_option linter.unusedSimpArgs false
namespace Go.Proofs
def Try.tab : Go.AE.Tab := [
  (1, ⟨.sc, 1, 8, [.nilf], none⟩),
  (2, ⟨.sc, 1, 8, [.int .i64 0], some (.int .i64)⟩),
  (3, ⟨.sc, 1, 8, [.int .i64 0], some (.int .i64)⟩),
  (4, ⟨.sc, 1, 1, [.bool false], some .bool⟩),
  (5, ⟨.sc, 1, 1, [.int .u8 0], some (.int .u8)⟩),
  (7, ⟨.struct [(2, 0), (3, 1), (4, 2), (6, 3)], 4, 24, [.int .i64 0, .int .i64 0, .bool false, .int .u8 0], some (.st (.pair (.int .i64) (.pair (.int .i64) (.pair .bool (.int .u8)))))⟩),
  (9, ⟨.sc, 1, 16, [.str []], some .str⟩),
  (12, ⟨.sc, 1, 8, [.int .u64 0], some (.int .u64)⟩),
  (20, ⟨.sc, 1, 16, [.nili], none⟩),
  (21, ⟨.sc, 1, 4, [.int .i32 0], some (.int .i32)⟩),
  (22, ⟨.struct [(3, 0), (3, 1), (3, 2)], 3, 24, [.int .i64 0, .int .i64 0, .int .i64 0], some (.st (.pair (.int .i64) (.pair (.int .i64) (.int .i64))))⟩),
  (23, ⟨.struct [(3, 0), (3, 1), (3, 2)], 3, 24, [.int .i64 0, .int .i64 0, .int .i64 0], some (.st (.pair (.int .i64) (.pair (.int .i64) (.int .i64))))⟩),
  (24, ⟨.sc, 1, 8, [.nilf], none⟩),
  (25, ⟨.sc, 1, 8, [.int .i64 0], some (.int .i64)⟩),
  (27, ⟨.sc, 1, 8, [.nilf], none⟩),
  (29, ⟨.sc, 1, 8, [.nilf], none⟩),
  (30, ⟨.sc, 1, 8, [.nilf], none⟩),
  (31, ⟨.sc, 1, 8, [.nilf], none⟩),
  (32, ⟨.slice 74, 1, 24, [.nils], some (.list (.st (.pair (.int .i64) (.int .i64))))⟩),
  (33, ⟨.sc, 1, 8, [.nilf], none⟩),
  (34, ⟨.sc, 1, 8, [.nilf], none⟩),
  (35, ⟨.sc, 1, 8, [.nilf], none⟩),
  (36, ⟨.sc, 1, 8, [.nilf], none⟩),
  (37, ⟨.slice 3, 1, 24, [.nils], some (.list (.int .i64))⟩),
  (38, ⟨.sc, 1, 8, [.nilf], none⟩),
  (39, ⟨.sc, 1, 8, [.nilf], none⟩),
  (40, ⟨.slice 41, 1, 24, [.nils], some (.list (.list .str))⟩),
  (41, ⟨.slice 9, 1, 24, [.nils], some (.list .str)⟩),
  (42, ⟨.ptr 77, 1, 8, [.nilp], none⟩),
  (43, ⟨.sc, 1, 8, [.nilf], none⟩),
  (44, ⟨.slice 46, 1, 24, [.nils], some (.list (.st (.pair (.int .i64) (.int .i64))))⟩),
  (45, ⟨.struct [(3, 0), (3, 1)], 2, 16, [.int .i64 0, .int .i64 0], some (.st (.pair (.int .i64) (.int .i64)))⟩),
  (46, ⟨.struct [(3, 0), (3, 1)], 2, 16, [.int .i64 0, .int .i64 0], some (.st (.pair (.int .i64) (.int .i64)))⟩),
  (47, ⟨.sc, 1, 8, [.nilf], none⟩),
  (48, ⟨.sc, 1, 8, [.nilf], none⟩),
  (49, ⟨.sc, 1, 8, [.nilf], none⟩),
  (50, ⟨.sc, 1, 8, [.nilf], none⟩),
  (51, ⟨.sc, 1, 8, [.nilf], none⟩),
  (52, ⟨.sc, 1, 8, [.nilf], none⟩),
  (53, ⟨.slice 62, 1, 24, [.nils], some (.list (.st (.pair (.int .i64) (.pair (.int .i64) (.list (.int .i64))))))⟩),
  (54, ⟨.sc, 1, 8, [.nilf], none⟩),
  (55, ⟨.ptr 85, 1, 8, [.nilp], none⟩),
  (56, ⟨.sc, 1, 8, [.nilf], none⟩),
  (57, ⟨.ptr 60, 1, 8, [.nilp], none⟩),
  (58, ⟨.slice 90, 1, 24, [.nils], some (.list (.st (.pair (.int .i64) (.list (.int .i64)))))⟩),
  (59, ⟨.struct [(58, 0), (3, 1)], 2, 32, [.nils, .int .i64 0], some (.st (.pair (.list (.st (.pair (.int .i64) (.list (.int .i64))))) (.int .i64)))⟩),
  (60, ⟨.struct [(58, 0), (3, 1)], 2, 32, [.nils, .int .i64 0], some (.st (.pair (.list (.st (.pair (.int .i64) (.list (.int .i64))))) (.int .i64)))⟩),
  (61, ⟨.struct [(3, 0), (3, 1), (37, 2)], 3, 40, [.int .i64 0, .int .i64 0, .nils], some (.st (.pair (.int .i64) (.pair (.int .i64) (.list (.int .i64)))))⟩),
  (62, ⟨.struct [(3, 0), (3, 1), (37, 2)], 3, 40, [.int .i64 0, .int .i64 0, .nils], some (.st (.pair (.int .i64) (.pair (.int .i64) (.list (.int .i64)))))⟩),
  (63, ⟨.sc, 1, 8, [.nilf], none⟩),
  (64, ⟨.sc, 1, 8, [.nilf], none⟩),
  (65, ⟨.sc, 1, 8, [.nilf], none⟩),
  (66, ⟨.sc, 1, 8, [.nilf], none⟩),
  (67, ⟨.sc, 1, 8, [.nilf], none⟩),
  (68, ⟨.sc, 1, 8, [.nilf], none⟩),
  (69, ⟨.sc, 1, 8, [.nilf], none⟩),
  (70, ⟨.struct [(3, 0), (3, 1), (3, 2), (3, 3), (3, 4), (3, 5), (3, 6)], 7, 56, [.int .i64 0, .int .i64 0, .int .i64 0, .int .i64 0, .int .i64 0, .int .i64 0, .int .i64 0], some (.st (.pair (.int .i64) (.pair (.int .i64) (.pair (.int .i64) (.pair (.int .i64) (.pair (.int .i64) (.pair (.int .i64) (.int .i64))))))))⟩),
  (71, ⟨.struct [(3, 0), (3, 1), (3, 2), (3, 3), (3, 4), (3, 5), (3, 6)], 7, 56, [.int .i64 0, .int .i64 0, .int .i64 0, .int .i64 0, .int .i64 0, .int .i64 0, .int .i64 0], some (.st (.pair (.int .i64) (.pair (.int .i64) (.pair (.int .i64) (.pair (.int .i64) (.pair (.int .i64) (.pair (.int .i64) (.int .i64))))))))⟩),
  (72, ⟨.sc, 1, 8, [.nilf], none⟩),
  (73, ⟨.sc, 1, 8, [.nilf], none⟩),
  (74, ⟨.array 2 3, 2, 16, [.int .i64 0, .int .i64 0], some (.st (.pair (.int .i64) (.int .i64)))⟩),
  (75, ⟨.slice 80, 1, 24, [.nils], some (.list (.st (.pair (.int .i64) (.list .str))))⟩),
  (76, ⟨.struct [(75, 0), (3, 1)], 2, 32, [.nils, .int .i64 0], some (.st (.pair (.list (.st (.pair (.int .i64) (.list .str)))) (.int .i64)))⟩),
  (77, ⟨.struct [(75, 0), (3, 1)], 2, 32, [.nils, .int .i64 0], some (.st (.pair (.list (.st (.pair (.int .i64) (.list .str)))) (.int .i64)))⟩),
  (78, ⟨.sc, 1, 8, [.nilf], none⟩),
  (79, ⟨.struct [(3, 0), (41, 1)], 2, 32, [.int .i64 0, .nils], some (.st (.pair (.int .i64) (.list .str)))⟩),
  (80, ⟨.struct [(3, 0), (41, 1)], 2, 32, [.int .i64 0, .nils], some (.st (.pair (.int .i64) (.list .str)))⟩),
  (81, ⟨.ptr 9, 1, 8, [.nilp], none⟩),
  (82, ⟨.sc, 1, 8, [.nilf], none⟩),
  (83, ⟨.slice 88, 1, 24, [.nils], some (.list (.st (.pair (.int .i64) (.list (.int .i64)))))⟩),
  (84, ⟨.struct [(83, 0), (3, 1)], 2, 32, [.nils, .int .i64 0], some (.st (.pair (.list (.st (.pair (.int .i64) (.list (.int .i64))))) (.int .i64)))⟩),
  (85, ⟨.struct [(83, 0), (3, 1)], 2, 32, [.nils, .int .i64 0], some (.st (.pair (.list (.st (.pair (.int .i64) (.list (.int .i64))))) (.int .i64)))⟩),
  (86, ⟨.sc, 1, 8, [.nilf], none⟩),
  (87, ⟨.struct [(3, 0), (37, 1)], 2, 32, [.int .i64 0, .nils], some (.st (.pair (.int .i64) (.list (.int .i64))))⟩),
  (88, ⟨.struct [(3, 0), (37, 1)], 2, 32, [.int .i64 0, .nils], some (.st (.pair (.int .i64) (.list (.int .i64))))⟩),
  (89, ⟨.struct [(3, 0), (37, 1)], 2, 32, [.int .i64 0, .nils], some (.st (.pair (.int .i64) (.list (.int .i64))))⟩),
  (90, ⟨.struct [(3, 0), (37, 1)], 2, 32, [.int .i64 0, .nils], some (.st (.pair (.int .i64) (.list (.int .i64))))⟩),
  (91, ⟨.ptr 3, 1, 8, [.nilp], none⟩),
  (92, ⟨.sc, 1, 8, [.nilf], none⟩),
  (93, ⟨.sc, 1, 8, [.nilf], none⟩),
  (99, ⟨.sc, 1, 4, [.int .u32 0], some (.int .u32)⟩),
  (102, ⟨.sc, 1, 8, [.nilf], none⟩),
  (103, ⟨.ptr 5, 1, 8, [.nilp], none⟩)]
def Try.hint : Go.AE.Hint := fun b =>
  cond (Nat.beq b 16384) [1, 3, 4, 5, 6, 7] (
  cond (Nat.beq b 16386) [1, 3, 4, 5, 6, 13] (
  cond (Nat.beq b 16388) [3, 4, 6, 16] (
  cond (Nat.beq b 20480) [0, 1, 5, 6, 7, 8] (
  cond (Nat.beq b 20482) [0, 1, 5, 6, 9, 10] (
  cond (Nat.beq b 20484) [0, 5, 6, 9, 13] (
  cond (Nat.beq b 20486) [0, 5, 6, 9, 13, 14] (
  cond (Nat.beq b 20488) [5, 6, 15] (
  cond (Nat.beq b 24576) [0, 3, 4, 5, 6] (
  cond (Nat.beq b 57344) [1, 3, 4] (
  cond (Nat.beq b 57346) [1, 3, 5] (
  cond (Nat.beq b 57348) [1, 3, 6] (
  cond (Nat.beq b 57350) [1, 3, 7] (
  cond (Nat.beq b 77824) [1, 2, 7, 8] (
  cond (Nat.beq b 81920) [0, 1, 2, 6] (
  cond (Nat.beq b 94208) [0, 1, 4] (
  cond (Nat.beq b 102400) [0, 3, 5, 6, 14, 15, 16] (
  cond (Nat.beq b 106496) [1, 12, 13, 14] (
  cond (Nat.beq b 114688) [0, 3, 4] (
  cond (Nat.beq b 131072) [0, 1, 5] (
  cond (Nat.beq b 135168) [0, 3, 5, 6, 14, 15, 16] (
  cond (Nat.beq b 139264) [0, 1, 5, 6, 7] (
  cond (Nat.beq b 139266) [0, 1, 5, 6, 7, 8, 9] (
  cond (Nat.beq b 143360) [0, 3, 11, 12, 13] (
  cond (Nat.beq b 147456) [0, 3, 4] (
  cond (Nat.beq b 155648) [1, 12, 13, 14] (
  cond (Nat.beq b 159744) [0, 1, 5] (
  cond (Nat.beq b 176128) [1, 5, 8, 9, 10] (
  cond (Nat.beq b 180224) [1, 7, 8, 9] (
  cond (Nat.beq b 184320) [1, 5, 8, 9, 10] (
  cond (Nat.beq b 188416) [1, 7, 8, 9] (
  cond (Nat.beq b 192512) [0, 1, 5] (
  []))))))))))))))))))))))))))))))))
end Go.Proofs
namespace Go.Proofs.R1
open Go Go.AE
theorem tabOk : TabOk Try.prog Try.tab := tabOk_of_check (by kernel_rfl)
theorem mixed : Try.prog.follows .mixedOrders = true := Checked.mixed Try.checked
def chk (e s l : Int) : Int := if 1 ≤ e ∧ e ≤ 24 ∧ 1 ≤ s ∧ s ≤ 8 ∧ 24 ≤ l ∧ l ≤ 200 then 0 else 3
noncomputable def env0 : Env := [(42, inl Try.f42)]
theorem env0Ok : EnvOk Try.prog env0 := EnvOk.cons (specInl Try.func42 (by kernel_rfl) (by decide +kernel)) EnvOk.nil
noncomputable def b11 : Code := Try.f11.body.getD .skip
--@ fn 11
def ann11 : Ann := .none
theorem ann11_ok : AnnOk Try.prog 19 b11 ann11 := (annOk_none _ _ _)
abbrev A11 := (Int) × (Int) × (Int)
def args11 : A11 → List AV := fun (a, b, c) => [AV.agg [AV.int IntKind.i64 a, AV.int IntKind.i64 b, AV.int IntKind.i64 c]]
def decA11 (l : List AV) : Option A11 := match l with
  | [AV.agg [AV.int IntKind.i64 a, AV.int IntKind.i64 b, AV.int IntKind.i64 c]] => some (a, b, c)
  | _ => none
theorem decA11_ok (l : List AV) (a : A11) (h : decA11 l = some a) : l = args11 a := by
  unfold decA11 at h
  split at h
  · cases h; rfl
  · cases h
def fn11 : A11 → (AV → Ans) → Ans := fun (a, b, c) K => (bif decide (a ≥ 1) then (bif !decide (a ≤ 24) then (K (AV.int IntKind.i64 3)) else (bif decide (b ≥ 1) then (bif !decide (b ≤ 8) then (K (AV.int IntKind.i64 3)) else (bif decide (c ≥ 24) then (bif !decide (c ≤ 200) then (K (AV.int IntKind.i64 3)) else (K (AV.int IntKind.i64 0))) else (K (AV.int IntKind.i64 3)))) else (K (AV.int IntKind.i64 3)))) else (K (AV.int IntKind.i64 3)))
theorem fn11_ok (a : A11) : fnE Try.tab env0 Try.hint 2 70 11 Try.f11.ntmps Try.f11.results.toList ann11 b11 (args11 a) [] (fun v _ => some (v, [])) = fn11 a (fun v => some (v, [])) := by kernel_rfl
def v11 : A11 → (AV → Ans) → Ans := fun (a, b, c) K => K (.int .i64 (chk a b c))
theorem v11_ok (a : A11) (K : AV → Ans) (res : AV × List AE.Obj) (h : v11 a K = some res) : ∃ r, r.closed1 = true ∧ K r = some res ∧ fn11 a (fun v => some (v, [])) = some (r, []) := by
  obtain ⟨a, b, c⟩ := a
  refine ⟨_, rfl, h, ?_⟩
  simp only [fn11, chk]
  by_cases h1 : 1 ≤ a <;> by_cases h2 : a ≤ 24 <;> by_cases h3 : 1 ≤ b <;> by_cases h4 : b ≤ 8 <;> by_cases h5 : 24 ≤ c <;> by_cases h6 : c ≤ 200 <;> simp [h1, h2, h3, h4, h5, h6]
def F11 : List AV → (AV → Ans) → Ans := fun l K => bindO (decA11 l) fun a => v11 a K
theorem F11_ok : PureOk Try.prog 11 F11 := pure_mk mixed tabOk env0Ok Try.func11 (bodySome (by kernel_rfl)) (by decide +kernel) ann11_ok decA11_ok fn11_ok v11_ok
noncomputable def b12 : Code := Try.f12.body.getD .skip
--@ fn 12
def ann12 : Ann := .none
theorem ann12_ok : AnnOk Try.prog 31 b12 ann12 := (annOk_none _ _ _)
abbrev A12 := (Int) × (Int) × (Int)
def args12 : A12 → List AV := fun (a, b, c) => [AV.agg [AV.int IntKind.i64 a, AV.int IntKind.i64 b, AV.int IntKind.i64 c]]
def decA12 (l : List AV) : Option A12 := match l with
  | [AV.agg [AV.int IntKind.i64 a, AV.int IntKind.i64 b, AV.int IntKind.i64 c]] => some (a, b, c)
  | _ => none
theorem decA12_ok (l : List AV) (a : A12) (h : decA12 l = some a) : l = args12 a := by
  unfold decA12 at h
  split at h
  · cases h; rfl
  · cases h
def fn12 : A12 → (AV → Ans) → Ans := fun (a, b, c) K => (bif decide (a < 1) then (K (AV.int IntKind.i64 3)) else (bif decide (a > 24) then (K (AV.int IntKind.i64 3)) else (bif decide (b < 1) then (K (AV.int IntKind.i64 3)) else (bif decide (b > 8) then (K (AV.int IntKind.i64 3)) else (bif decide (c < 24) then (K (AV.int IntKind.i64 3)) else (bif decide (c > 200) then (K (AV.int IntKind.i64 3)) else (K (AV.int IntKind.i64 0))))))))
theorem fn12_ok (a : A12) : fnE Try.tab env0 Try.hint 2 70 12 Try.f12.ntmps Try.f12.results.toList ann12 b12 (args12 a) [] (fun v _ => some (v, [])) = fn12 a (fun v => some (v, [])) := by kernel_rfl
def v12 : A12 → (AV → Ans) → Ans := fun (a, b, c) K => K (.int .i64 (chk a b c))
theorem v12_ok (a : A12) (K : AV → Ans) (res : AV × List AE.Obj) (h : v12 a K = some res) : ∃ r, r.closed1 = true ∧ K r = some res ∧ fn12 a (fun v => some (v, [])) = some (r, []) := by
  obtain ⟨a, b, c⟩ := a
  refine ⟨_, rfl, h, ?_⟩
  simp only [fn12, chk]
  by_cases h1 : a < 1 <;> by_cases h2 : a > 24 <;> by_cases h3 : b < 1 <;> by_cases h4 : b > 8 <;> by_cases h5 : c < 24 <;> by_cases h6 : c > 200 <;> simp [h1, h2, h3, h4, h5, h6] <;> omega
def F12 : List AV → (AV → Ans) → Ans := fun l K => bindO (decA12 l) fun a => v12 a K
theorem F12_ok : PureOk Try.prog 12 F12 := pure_mk mixed tabOk env0Ok Try.func12 (bodySome (by kernel_rfl)) (by decide +kernel) ann12_ok decA12_ok fn12_ok v12_ok
noncomputable def env1 : Env := [(11, .pure F11), (12, .pure F12)]
theorem env1Ok : EnvOk Try.prog env1 := EnvOk.cons F11_ok (EnvOk.cons F12_ok EnvOk.nil)
noncomputable def b14 : Code := Try.f14.body.getD .skip
--@ loop 14_3
noncomputable def L14_3 : Code := codeAt [1, 1, 1, 1, 1, 1, 0, 1, 0, 0] b14
abbrev I14_3 := (Int) × (Int) × (Int)
abbrev V14_3 := (Int) × (List (Int × Int))
def S14_3 : I14_3 → V14_3 → St := fun (o0_0, o0_1, o0_2) (t7, o1) => { env := [(1, AV.ptr 0 0), (3, AV.own 1), (7, AV.int IntKind.i64 t7)], stk := [[]], H := [AE.Obj.cells [AV.int IntKind.i64 o0_0, AV.int IntKind.i64 o0_1, AV.int IntKind.i64 o0_2], Obj.arr (Ty.st (Ty.pair (Ty.int IntKind.i64) (Ty.int IntKind.i64))) o1], blk := 57350 }
def dec14_3 (s : St) : Option (I14_3 × V14_3) := match s with
  | { env := [(1, AV.ptr 0 0), (3, AV.own 1), (7, AV.int IntKind.i64 t7)], stk := [[]], H := [AE.Obj.cells [AV.int IntKind.i64 o0_0, AV.int IntKind.i64 o0_1, AV.int IntKind.i64 o0_2], Obj.arr (Ty.st (Ty.pair (Ty.int IntKind.i64) (Ty.int IntKind.i64))) o1], blk := 57350 } => some ((o0_0, o0_1, o0_2), (t7, o1))
  | _ => none
theorem dec14_3_ok (s : St) (x : I14_3 × V14_3) (h : dec14_3 s = some x) : s = S14_3 x.1 x.2 := by
  unfold dec14_3 at h
  split at h
  · cases h; rfl
  · cases h
abbrev Y14_3 := ((List (Int × Int)))
def out14_3 : I14_3 → (Ex → St → Ans) → Y14_3 → Ans := fun (o0_0, o0_1, o0_2) K y => (fun o1_y3 => K (Ex.exit 6) { env := [(3, AV.own 1)], stk := [[]], H := [AE.Obj.cells [AV.int IntKind.i64 o0_0, AV.int IntKind.i64 o0_1, AV.int IntKind.i64 o0_2], Obj.arr (Ty.st (Ty.pair (Ty.int IntKind.i64) (Ty.int IntKind.i64))) o1_y3], blk := 57350 }) y
def step14_3 : I14_3 → V14_3 → (V14_3 → Ans) → (Y14_3 → Ans) → Ans := fun (o0_0, o0_1, o0_2) (t7, o1) next exit => (bif decide (t7 < o0_2) then (bif Nat.ble ((List.length o1 + List.length [(5, 0)]) * 16) 140737488355328 then (next (IntKind.wrap IntKind.i64 (t7 + 1), o1 ++ [(5, 0)])) else none) else (exit (o1)))
def annL14_3 : Ann := .pack 0 (.loop .none)
theorem annL14_3_ok : AnnOk Try.prog 64 (.loop L14_3) annL14_3 := annOk_pack (annOk_loop (annOk_none _ _ _))
theorem step14_3_ok (n : Nat) (i : I14_3) (v : V14_3) (K : Ex → St → Ans) : codeI Try.tab env1 Try.hint (codeD Try.tab env1 Try.hint 0 64) (n+1) 64 annL14_3 (.loop L14_3) (weak [3] K) (S14_3 i v) = step14_3 i v (fun v' => codeI Try.tab env1 Try.hint (codeD Try.tab env1 Try.hint 0 64) n 64 annL14_3 (.loop L14_3) (weak [3] K) (S14_3 i v')) (fun y => out14_3 i K y) := by kernel_rfl
def R14_3 : I14_3 → V14_3 → Option Y14_3 := fun (_, _, c) (t, l) => if t = 0 ∧ 24 ≤ c ∧ c ≤ 200 ∧ l.length ≤ 1000 then some (l ++ (List.range c.toNat).map fun _ : Nat => (5, 0)) else none
theorem R14_3_ok (i : I14_3) (v : V14_3) (z : Y14_3) (h : R14_3 i v = some z) : ∃ n, ∀ k, iterK (step14_3 i) n v k = k z := by
  obtain ⟨a, b, c⟩ := i; obtain ⟨t, l⟩ := v
  simp only [R14_3] at h
  split at h
  · rename_i hh; obtain ⟨rfl, h1, h2, hl⟩ := hh
    cases h
    exact count_up (M := c) (w := 16) (g := fun _ => (5, 0)) (fun l => l) (by omega) (by omega) (by omega) (by omega) (fun t l next k => rfl) rfl
  · cases h
def G14_3 : (Ex → St → Ans) → St → Ans := sumG dec14_3 R14_3 out14_3
theorem G14_3_ok : LSum Try.prog 64 L14_3 G14_3 := lsum_iter mixed tabOk env1Ok [3] annL14_3_ok dec14_3_ok step14_3_ok R14_3_ok
--@ loop 14_2
noncomputable def L14_2 : Code := codeAt [1, 1, 1, 1, 1, 0, 1, 0, 0] b14
abbrev I14_2 := (Int) × (Int) × (Int)
abbrev V14_2 := (Int) × (List (Int × Int))
def S14_2 : I14_2 → V14_2 → St := fun (o0_0, o0_1, o0_2) (t6, o1) => { env := [(1, AV.ptr 0 0), (3, AV.own 1), (6, AV.int IntKind.i64 t6)], stk := [[]], H := [AE.Obj.cells [AV.int IntKind.i64 o0_0, AV.int IntKind.i64 o0_1, AV.int IntKind.i64 o0_2], Obj.arr (Ty.st (Ty.pair (Ty.int IntKind.i64) (Ty.int IntKind.i64))) o1], blk := 57348 }
def dec14_2 (s : St) : Option (I14_2 × V14_2) := match s with
  | { env := [(1, AV.ptr 0 0), (3, AV.own 1), (6, AV.int IntKind.i64 t6)], stk := [[]], H := [AE.Obj.cells [AV.int IntKind.i64 o0_0, AV.int IntKind.i64 o0_1, AV.int IntKind.i64 o0_2], Obj.arr (Ty.st (Ty.pair (Ty.int IntKind.i64) (Ty.int IntKind.i64))) o1], blk := 57348 } => some ((o0_0, o0_1, o0_2), (t6, o1))
  | _ => none
theorem dec14_2_ok (s : St) (x : I14_2 × V14_2) (h : dec14_2 s = some x) : s = S14_2 x.1 x.2 := by
  unfold dec14_2 at h
  split at h
  · cases h; rfl
  · cases h
abbrev Y14_2 := ((List (Int × Int)))
def out14_2 : I14_2 → (Ex → St → Ans) → Y14_2 → Ans := fun (o0_0, o0_1, o0_2) K y => (fun o1_y3 => K (Ex.exit 4) { env := [(1, AV.ptr 0 0), (3, AV.own 1)], stk := [[]], H := [AE.Obj.cells [AV.int IntKind.i64 o0_0, AV.int IntKind.i64 o0_1, AV.int IntKind.i64 o0_2], Obj.arr (Ty.st (Ty.pair (Ty.int IntKind.i64) (Ty.int IntKind.i64))) o1_y3], blk := 57348 }) y
def step14_2 : I14_2 → V14_2 → (V14_2 → Ans) → (Y14_2 → Ans) → Ans := fun (o0_0, o0_1, o0_2) (t6, o1) next exit => (bif decide (t6 < IntKind.wrap IntKind.i64 (5 * o0_1)) then (bif Nat.ble ((List.length o1 + List.length [(4, IntKind.wrap IntKind.i64 (Int.tdiv t6 5))]) * 16) 140737488355328 then (next (IntKind.wrap IntKind.i64 (t6 + 1), o1 ++ [(4, IntKind.wrap IntKind.i64 (Int.tdiv t6 5))])) else none) else (exit (o1)))
def annL14_2 : Ann := .pack 0 (.loop .none)
theorem annL14_2_ok : AnnOk Try.prog 64 (.loop L14_2) annL14_2 := annOk_pack (annOk_loop (annOk_none _ _ _))
theorem step14_2_ok (n : Nat) (i : I14_2) (v : V14_2) (K : Ex → St → Ans) : codeI Try.tab env1 Try.hint (codeD Try.tab env1 Try.hint 0 64) (n+1) 64 annL14_2 (.loop L14_2) (weak [1, 3] K) (S14_2 i v) = step14_2 i v (fun v' => codeI Try.tab env1 Try.hint (codeD Try.tab env1 Try.hint 0 64) n 64 annL14_2 (.loop L14_2) (weak [1, 3] K) (S14_2 i v')) (fun y => out14_2 i K y) := by kernel_rfl
def R14_2 : I14_2 → V14_2 → Option Y14_2 := fun (_, b, _) (t, l) => if t = 0 ∧ 1 ≤ b ∧ b ≤ 8 ∧ l.length ≤ 1000 then some (l ++ (List.range (5 * b).toNat).map fun j : Nat => (4, (j : Int) / 5)) else none
theorem R14_2_ok (i : I14_2) (v : V14_2) (z : Y14_2) (h : R14_2 i v = some z) : ∃ n, ∀ k, iterK (step14_2 i) n v k = k z := by
  obtain ⟨a, b, c⟩ := i; obtain ⟨t, l⟩ := v
  simp only [R14_2] at h
  split at h
  · rename_i hh; obtain ⟨rfl, h1, h2, hl⟩ := hh
    cases h
    refine count_up (M := 5 * b) (w := 16) (g := fun t => (4, IntKind.wrap .i64 (Int.tdiv t 5))) (fun l => l) (by omega) (by omega) (by omega) (by omega) ?_ ?_
    · intro t l next k
      simp only [step14_2]
      rw [wrap64 (x := 5 * b) (by omega) (by omega)]
      rfl
    · simp only [List.append_cancel_left_eq]
      apply List.map_congr_left
      intro j hj
      rw [List.mem_range] at hj
      rw [Int.tdiv_eq_ediv_of_nonneg (by omega), wrap64 (by omega) (by omega)]
  · cases h
def G14_2 : (Ex → St → Ans) → St → Ans := sumG dec14_2 R14_2 out14_2
theorem G14_2_ok : LSum Try.prog 64 L14_2 G14_2 := lsum_iter mixed tabOk env1Ok [1, 3] annL14_2_ok dec14_2_ok step14_2_ok R14_2_ok
--@ loop 14_1
noncomputable def L14_1 : Code := codeAt [1, 1, 1, 1, 0, 1, 0, 0] b14
abbrev I14_1 := (Int) × (Int) × (Int)
abbrev V14_1 := (Int) × (List (Int × Int))
def S14_1 : I14_1 → V14_1 → St := fun (o0_0, o0_1, o0_2) (t5, o1) => { env := [(1, AV.ptr 0 0), (3, AV.own 1), (5, AV.int IntKind.i64 t5)], stk := [[]], H := [AE.Obj.cells [AV.int IntKind.i64 o0_0, AV.int IntKind.i64 o0_1, AV.int IntKind.i64 o0_2], Obj.arr (Ty.st (Ty.pair (Ty.int IntKind.i64) (Ty.int IntKind.i64))) o1], blk := 57346 }
def dec14_1 (s : St) : Option (I14_1 × V14_1) := match s with
  | { env := [(1, AV.ptr 0 0), (3, AV.own 1), (5, AV.int IntKind.i64 t5)], stk := [[]], H := [AE.Obj.cells [AV.int IntKind.i64 o0_0, AV.int IntKind.i64 o0_1, AV.int IntKind.i64 o0_2], Obj.arr (Ty.st (Ty.pair (Ty.int IntKind.i64) (Ty.int IntKind.i64))) o1], blk := 57346 } => some ((o0_0, o0_1, o0_2), (t5, o1))
  | _ => none
theorem dec14_1_ok (s : St) (x : I14_1 × V14_1) (h : dec14_1 s = some x) : s = S14_1 x.1 x.2 := by
  unfold dec14_1 at h
  split at h
  · cases h; rfl
  · cases h
abbrev Y14_1 := ((List (Int × Int)))
def out14_1 : I14_1 → (Ex → St → Ans) → Y14_1 → Ans := fun (o0_0, o0_1, o0_2) K y => (fun o1_y3 => K (Ex.exit 2) { env := [(1, AV.ptr 0 0), (3, AV.own 1)], stk := [[]], H := [AE.Obj.cells [AV.int IntKind.i64 o0_0, AV.int IntKind.i64 o0_1, AV.int IntKind.i64 o0_2], Obj.arr (Ty.st (Ty.pair (Ty.int IntKind.i64) (Ty.int IntKind.i64))) o1_y3], blk := 57346 }) y
def step14_1 : I14_1 → V14_1 → (V14_1 → Ans) → (Y14_1 → Ans) → Ans := fun (o0_0, o0_1, o0_2) (t5, o1) next exit => (bif decide (t5 < IntKind.wrap IntKind.i64 (2 * o0_0)) then (bif Nat.ble ((List.length o1 + List.length [(3, IntKind.wrap IntKind.i64 (Int.tdiv t5 2))]) * 16) 140737488355328 then (next (IntKind.wrap IntKind.i64 (t5 + 1), o1 ++ [(3, IntKind.wrap IntKind.i64 (Int.tdiv t5 2))])) else none) else (exit (o1)))
def annL14_1 : Ann := .pack 0 (.loop .none)
theorem annL14_1_ok : AnnOk Try.prog 64 (.loop L14_1) annL14_1 := annOk_pack (annOk_loop (annOk_none _ _ _))
theorem step14_1_ok (n : Nat) (i : I14_1) (v : V14_1) (K : Ex → St → Ans) : codeI Try.tab env1 Try.hint (codeD Try.tab env1 Try.hint 0 64) (n+1) 64 annL14_1 (.loop L14_1) (weak [1, 3] K) (S14_1 i v) = step14_1 i v (fun v' => codeI Try.tab env1 Try.hint (codeD Try.tab env1 Try.hint 0 64) n 64 annL14_1 (.loop L14_1) (weak [1, 3] K) (S14_1 i v')) (fun y => out14_1 i K y) := by kernel_rfl
def R14_1 : I14_1 → V14_1 → Option Y14_1 := fun (a, _, _) (t, l) => if t = 0 ∧ 1 ≤ a ∧ a ≤ 24 ∧ l.length ≤ 1000 then some (l ++ (List.range (2 * a).toNat).map fun j : Nat => (3, (j : Int) / 2)) else none
theorem R14_1_ok (i : I14_1) (v : V14_1) (z : Y14_1) (h : R14_1 i v = some z) : ∃ n, ∀ k, iterK (step14_1 i) n v k = k z := by
  obtain ⟨a, b, c⟩ := i; obtain ⟨t, l⟩ := v
  simp only [R14_1] at h
  split at h
  · rename_i hh; obtain ⟨rfl, h1, h2, hl⟩ := hh
    cases h
    refine count_up (M := 2 * a) (w := 16) (g := fun t => (3, IntKind.wrap .i64 (Int.tdiv t 2))) (fun l => l) (by omega) (by omega) (by omega) (by omega) ?_ ?_
    · intro t l next k
      simp only [step14_1]
      rw [wrap64 (x := 2 * a) (by omega) (by omega)]
      rfl
    · simp only [List.append_cancel_left_eq]
      apply List.map_congr_left
      intro j hj
      rw [List.mem_range] at hj
      rw [Int.tdiv_eq_ediv_of_nonneg (by omega), wrap64 (by omega) (by omega)]
  · cases h
def G14_1 : (Ex → St → Ans) → St → Ans := sumG dec14_1 R14_1 out14_1
theorem G14_1_ok : LSum Try.prog 64 L14_1 G14_1 := lsum_iter mixed tabOk env1Ok [1, 3] annL14_1_ok dec14_1_ok step14_1_ok R14_1_ok
--@ loop 14_0
noncomputable def L14_0 : Code := codeAt [1, 1, 1, 0, 1, 0, 0] b14
abbrev I14_0 := (Int) × (Int) × (Int)
abbrev V14_0 := (Int) × (List (Int × Int))
def S14_0 : I14_0 → V14_0 → St := fun (o0_0, o0_1, o0_2) (t4, o1) => { env := [(1, AV.ptr 0 0), (3, AV.own 1), (4, AV.int IntKind.i64 t4)], stk := [[]], H := [AE.Obj.cells [AV.int IntKind.i64 o0_0, AV.int IntKind.i64 o0_1, AV.int IntKind.i64 o0_2], Obj.arr (Ty.st (Ty.pair (Ty.int IntKind.i64) (Ty.int IntKind.i64))) o1], blk := 57344 }
def dec14_0 (s : St) : Option (I14_0 × V14_0) := match s with
  | { env := [(1, AV.ptr 0 0), (3, AV.own 1), (4, AV.int IntKind.i64 t4)], stk := [[]], H := [AE.Obj.cells [AV.int IntKind.i64 o0_0, AV.int IntKind.i64 o0_1, AV.int IntKind.i64 o0_2], Obj.arr (Ty.st (Ty.pair (Ty.int IntKind.i64) (Ty.int IntKind.i64))) o1], blk := 57344 } => some ((o0_0, o0_1, o0_2), (t4, o1))
  | _ => none
theorem dec14_0_ok (s : St) (x : I14_0 × V14_0) (h : dec14_0 s = some x) : s = S14_0 x.1 x.2 := by
  unfold dec14_0 at h
  split at h
  · cases h; rfl
  · cases h
abbrev Y14_0 := ((List (Int × Int)))
def out14_0 : I14_0 → (Ex → St → Ans) → Y14_0 → Ans := fun (o0_0, o0_1, o0_2) K y => (fun o1_y3 => K (Ex.exit 0) { env := [(1, AV.ptr 0 0), (3, AV.own 1)], stk := [[]], H := [AE.Obj.cells [AV.int IntKind.i64 o0_0, AV.int IntKind.i64 o0_1, AV.int IntKind.i64 o0_2], Obj.arr (Ty.st (Ty.pair (Ty.int IntKind.i64) (Ty.int IntKind.i64))) o1_y3], blk := 57344 }) y
def step14_0 : I14_0 → V14_0 → (V14_0 → Ans) → (Y14_0 → Ans) → Ans := fun (o0_0, o0_1, o0_2) (t4, o1) next exit => (bif decide (t4 < IntKind.wrap IntKind.i64 (Int.tdiv (IntKind.wrap IntKind.i64 (o0_0 + 1)) 2)) then (bif Nat.ble ((List.length o1 + List.length [(2, t4)]) * 16) 140737488355328 then (next (IntKind.wrap IntKind.i64 (t4 + 1), o1 ++ [(2, t4)])) else none) else (exit (o1)))
def annL14_0 : Ann := .pack 0 (.loop .none)
theorem annL14_0_ok : AnnOk Try.prog 64 (.loop L14_0) annL14_0 := annOk_pack (annOk_loop (annOk_none _ _ _))
theorem step14_0_ok (n : Nat) (i : I14_0) (v : V14_0) (K : Ex → St → Ans) : codeI Try.tab env1 Try.hint (codeD Try.tab env1 Try.hint 0 64) (n+1) 64 annL14_0 (.loop L14_0) (weak [1, 3] K) (S14_0 i v) = step14_0 i v (fun v' => codeI Try.tab env1 Try.hint (codeD Try.tab env1 Try.hint 0 64) n 64 annL14_0 (.loop L14_0) (weak [1, 3] K) (S14_0 i v')) (fun y => out14_0 i K y) := by kernel_rfl
def R14_0 : I14_0 → V14_0 → Option Y14_0 := fun (a, _, _) (t, l) => if t = 0 ∧ 1 ≤ a ∧ a ≤ 24 ∧ l.length ≤ 1000 then some (l ++ (List.range ((a + 1) / 2).toNat).map fun j : Nat => (2, (j : Int))) else none
theorem R14_0_ok (i : I14_0) (v : V14_0) (z : Y14_0) (h : R14_0 i v = some z) : ∃ n, ∀ k, iterK (step14_0 i) n v k = k z := by
  obtain ⟨a, b, c⟩ := i; obtain ⟨t, l⟩ := v
  simp only [R14_0] at h
  split at h
  · rename_i hh; obtain ⟨rfl, h1, h2, hl⟩ := hh
    cases h
    refine count_up (M := (a + 1) / 2) (w := 16) (g := fun t => (2, t)) (fun l => l) (by omega) (by omega) (by omega) (by omega) ?_ rfl
    intro t l next k
    simp only [step14_0]
    rw [wrap64 (x := a + 1) (by omega) (by omega), Int.tdiv_eq_ediv_of_nonneg (by omega), wrap64 (x := (a + 1) / 2) (by omega) (by omega)]
    rfl
  · cases h
def G14_0 : (Ex → St → Ans) → St → Ans := sumG dec14_0 R14_0 out14_0
theorem G14_0_ok : LSum Try.prog 64 L14_0 G14_0 := lsum_iter mixed tabOk env1Ok [1, 3] annL14_0_ok dec14_0_ok step14_0_ok R14_0_ok
--@ fn 14
def ann14 : Ann := (.seq .none (.seq .none (.seq .none (.seq (.seq .none (.block (.pack 0 (.sum G14_0)))) (.seq (.seq .none (.block (.pack 0 (.sum G14_1)))) (.seq (.seq .none (.block (.pack 0 (.sum G14_2)))) (.seq (.seq .none (.block (.pack 0 (.sum G14_3)))) .none)))))))
theorem ann14_ok : AnnOk Try.prog 64 b14 ann14 := ⟨(annOk_none _ _ _), ⟨(annOk_none _ _ _), ⟨(annOk_none _ _ _), ⟨⟨(annOk_none _ _ _), (annOk_pack (annOk_sum G14_0_ok))⟩, ⟨⟨(annOk_none _ _ _), (annOk_pack (annOk_sum G14_1_ok))⟩, ⟨⟨(annOk_none _ _ _), (annOk_pack (annOk_sum G14_2_ok))⟩, ⟨⟨(annOk_none _ _ _), (annOk_pack (annOk_sum G14_3_ok))⟩, (annOk_none _ _ _)⟩⟩⟩⟩⟩⟩⟩
abbrev A14 := (Int) × (Int) × (Int)
def args14 : A14 → List AV × List AE.Obj := fun (a, b, c) => ([AV.agg [AV.int IntKind.i64 a, AV.int IntKind.i64 b, AV.int IntKind.i64 c]], [])
def decA14 (l : List AV) (H : List AE.Obj) : Option A14 := match l, H with
  | [AV.agg [AV.int IntKind.i64 a, AV.int IntKind.i64 b, AV.int IntKind.i64 c]], [] => some (a, b, c)
  | _, _ => none
theorem decA14_ok (l : List AV) (H : List AE.Obj) (a : A14) (h : decA14 l H = some a) : (l, H) = args14 a := by
  unfold decA14 at h
  split at h
  · cases h; rfl
  · cases h
def fn14 : A14 → (AV → List AE.Obj → Ans) → Ans := fun (a, b, c) K => (bif chk a b c != 0 then (K (AV.own 0) [Obj.arr (Ty.st (Ty.pair (Ty.int IntKind.i64) (Ty.int IntKind.i64))) []]) else (bindO (R14_0 (a, b, c) (0, [(0, 0), (1, 0)])) fun o1 => (bindO (R14_1 (a, b, c) (0, o1)) fun o1_2 => (bindO (R14_2 (a, b, c) (0, o1_2)) fun o1_3 => (bindO (R14_3 (a, b, c) (0, o1_3)) fun o1_4 => (K (AV.own 0) [Obj.arr (Ty.st (Ty.pair (Ty.int IntKind.i64) (Ty.int IntKind.i64))) o1_4]))))))
theorem fn14_ok (a : A14) (K : AV → List AE.Obj → Ans) : fnE Try.tab env1 Try.hint 0 70 14 Try.f14.ntmps Try.f14.results.toList ann14 b14 (args14 a).1 (args14 a).2 K = fn14 a K := by kernel_rfl
def partsL (a b c : Int) : List (Int × Int) := ((([(0, 0), (1, 0)] ++ (List.range ((a + 1) / 2).toNat).map fun j : Nat => (2, (j : Int))) ++ (List.range (2 * a).toNat).map fun j : Nat => (3, (j : Int) / 2))
  ++ (List.range (5 * b).toNat).map fun j : Nat => (4, (j : Int) / 5)) ++ (List.range c.toNat).map fun _ : Nat => (5, 0)
def parts (a b c : Int) : List (Int × Int) := if chk a b c = 0 then partsL a b c else []
abbrev pT : Ty := .st (.pair (.int .i64) (.int .i64))
theorem chk_zero {a b c : Int} (h : chk a b c = 0) : 1 ≤ a ∧ a ≤ 24 ∧ 1 ≤ b ∧ b ≤ 8 ∧ 24 ≤ c ∧ c ≤ 200 := by
  unfold chk at h
  split at h
  · assumption
  · exact absurd h (by decide)
def v14 : A14 → (AV → List AE.Obj → Ans) → Ans := fun (a, b, c) K => K (.own 0) [.arr pT (parts a b c)]
theorem v14_ok (a : A14) (K : AV → List AE.Obj → Ans) (res : AV × List AE.Obj) (h : v14 a K = some res) : fn14 a K = some res := by
  obtain ⟨a, b, c⟩ := a
  simp only [v14, parts] at h
  simp only [fn14]
  by_cases hc : chk a b c = 0
  · obtain ⟨h1, h2, h3, h4, h5, h6⟩ := chk_zero hc
    rw [if_pos hc] at h
    simp only [hc, bne_self_eq_false, cond_false]
    simp only [R14_0, R14_1, R14_2, R14_3]
    rw [if_pos (by simp; omega)]
    simp only [bindO]
    rw [if_pos (by simp; omega)]
    simp only
    rw [if_pos (by simp; omega)]
    simp only
    rw [if_pos (by simp; omega)]
    exact h
  · rw [if_neg hc] at h
    have : (chk a b c != 0) = true := by simpa using hc
    rw [this, cond_true]
    exact h
def F14 : List AV → List AE.Obj → (AV → List AE.Obj → Ans) → Ans := fun l H K => bindO (decA14 l H) fun a => v14 a K
theorem F14_ok : FuncOk Try.prog 14 F14 := func_mk mixed tabOk env1Ok Try.func14 (bodySome (by kernel_rfl)) (by decide +kernel) ann14_ok decA14_ok fn14_ok v14_ok
noncomputable def env2 : Env := [(14, .func F14)]
theorem env2Ok : EnvOk Try.prog env2 := EnvOk.cons F14_ok EnvOk.nil
noncomputable def b19 : Code := Try.f19.body.getD .skip
--@ loop 19_0
noncomputable def L19_0 : Code := codeAt [1, 1, 0, 1, 0, 0] b19
abbrev I19_0 := (Int) × (Int) × (List (Int × Int))
abbrev V19_0 := (Int)
def S19_0 : I19_0 → V19_0 → St := fun (t1, t2, o0) t8 => { env := [(1, AV.int IntKind.i64 t1), (2, AV.int IntKind.i64 t2), (7, AV.own 0), (8, AV.int IntKind.i64 t8)], stk := [[]], H := [Obj.arr (Ty.st (Ty.pair (Ty.int IntKind.i64) (Ty.int IntKind.i64))) o0], blk := 77824 }
def dec19_0 (s : St) : Option (I19_0 × V19_0) := match s with
  | { env := [(1, AV.int IntKind.i64 t1), (2, AV.int IntKind.i64 t2), (7, AV.own 0), (8, AV.int IntKind.i64 t8)], stk := [[]], H := [Obj.arr (Ty.st (Ty.pair (Ty.int IntKind.i64) (Ty.int IntKind.i64))) o0], blk := 77824 } => some ((t1, t2, o0), t8)
  | _ => none
theorem dec19_0_ok (s : St) (x : I19_0 × V19_0) (h : dec19_0 s = some x) : s = S19_0 x.1 x.2 := by
  unfold dec19_0 at h
  split at h
  · cases h; rfl
  · cases h
abbrev Y19_0 := (Unit) ⊕ ((Int))
def out19_0 : I19_0 → (Ex → St → Ans) → Y19_0 → Ans := fun (t1, t2, o0) K y => Sum.elim (fun _ => K (Ex.exit 0) { env := [(6, AV.unk)], stk := [[]], H := [], blk := 77824 }) (fun t6_y0 => K (Ex.ret) { env := [(6, AV.int IntKind.i64 t6_y0)], stk := [[]], H := [], blk := 77825 }) y
def step19_0 : I19_0 → V19_0 → (V19_0 → Ans) → (Y19_0 → Ans) → Ans := fun (t1, t2, o0) t8 next exit => (bif decide (t8 < ↑(List.length o0)) then (bif inR t8 (List.length o0) then (bindO (o0[Int.toNat t8]?) fun x => (bif x.fst == t1 then (bif inR t8 (List.length o0) then (bindO (o0[Int.toNat t8]?) fun x_2 => (bif x_2.snd == t2 then (exit (Sum.inr (t8))) else (next (IntKind.wrap IntKind.i64 (t8 + 1))))) else none) else (next (IntKind.wrap IntKind.i64 (t8 + 1))))) else none) else (exit (Sum.inl ())))
def annL19_0 : Ann := .pack 0 (.loop .none)
theorem annL19_0_ok : AnnOk Try.prog 34 (.loop L19_0) annL19_0 := annOk_pack (annOk_loop (annOk_none _ _ _))
theorem step19_0_ok (n : Nat) (i : I19_0) (v : V19_0) (K : Ex → St → Ans) : codeI Try.tab env2 Try.hint (codeD Try.tab env2 Try.hint 0 64) (n+1) 34 annL19_0 (.loop L19_0) (weak [6] K) (S19_0 i v) = step19_0 i v (fun v' => codeI Try.tab env2 Try.hint (codeD Try.tab env2 Try.hint 0 64) n 34 annL19_0 (.loop L19_0) (weak [6] K) (S19_0 i v')) (fun y => out19_0 i K y) := by kernel_rfl
/-- Where it is first, from a place on. -/
def fI (p m : Int) : List (Int × Int) → Nat → Option Nat
  | [], _ => none
  | x :: r, i => if x.1 = p ∧ x.2 = m then some i else fI p m r (i + 1)
theorem fI_spec (p m : Int) : ∀ (l : List (Int × Int)) (i : Nat), match fI p m l i with
    | none => ∀ (j : Nat) (x : Int × Int), l[j]? = some x → ¬ (x.1 = p ∧ x.2 = m)
    | some n => i ≤ n ∧ (∀ (j : Nat) (x : Int × Int), j < n - i → l[j]? = some x → ¬ (x.1 = p ∧ x.2 = m)) ∧ ∃ x : Int × Int, l[n - i]? = some x ∧ x.1 = p ∧ x.2 = m
  | [], i => by simp [fI]
  | x :: r, i => by
    rw [fI]
    by_cases h : x.1 = p ∧ x.2 = m
    · rw [if_pos h]
      exact ⟨Nat.le_refl _, fun j y hj => by omega, x, by simp, h⟩
    · rw [if_neg h]
      have ih := fI_spec p m r (i + 1)
      cases hf : fI p m r (i + 1) with
      | none =>
        rw [hf] at ih
        intro j y hj
        cases j with
        | zero => simp at hj; subst hj; exact h
        | succ j => exact ih j y (by simpa using hj)
      | some n =>
        rw [hf] at ih
        obtain ⟨h1, h2, y, h3, h4⟩ := ih
        refine ⟨by omega, fun j y hjn hj => ?_, y, ?_, h4⟩
        · cases j with
          | zero => simp at hj; subst hj; exact h
          | succ j => exact h2 j y (by omega) (by simpa using hj)
        · rw [show n - i = (n - (i + 1)) + 1 by omega]; simpa using h3
def R19_0 : I19_0 → V19_0 → Option Y19_0 := fun (p, m, l) i => if i = 0 ∧ l.length ≤ 100000 then some (match fI p m l 0 with | none => Sum.inl () | some n => Sum.inr (n : Int)) else none
theorem step19_at (p m : Int) (l : List (Int × Int)) (hl : l.length ≤ 100000) (j : Nat) (x : Int × Int) (hx : l[j]? = some x) (next : V19_0 → Ans) (k : Y19_0 → Ans) :
    step19_0 (p, m, l) (j : Int) next k = if x.1 = p ∧ x.2 = m then k (Sum.inr (j : Int)) else next ((j + 1 : Nat) : Int) := by
  have hj : j < l.length := (List.getElem?_eq_some_iff.1 hx).1
  have h1 : (j : Int) < (l.length : Int) := by omega
  have h2 : inR (j : Int) l.length = true := by simp [inR]; omega
  simp only [step19_0, h1, decide_true, cond_true, h2, Int.toNat_natCast, hx, bindO]
  rw [wrap64 (by omega) (by omega)]
  by_cases hp : x.1 = p <;> by_cases hm : x.2 = m <;> simp [Bool.cond_eq_ite, hp, hm]
theorem R19_0_ok (i : I19_0) (v : V19_0) (z : Y19_0) (h : R19_0 i v = some z) : ∃ n, ∀ k, iterK (step19_0 i) n v k = k z := by
  obtain ⟨p, m, l⟩ := i
  simp only [R19_0] at h
  split at h
  · rename_i hh; obtain ⟨rfl, hl⟩ := hh
    cases h
    have sp := fI_spec p m l 0
    cases hf : fI p m l 0 with
    | none =>
      rw [hf] at sp
      refine iterK_up (fun j => (j : Int)) l.length rfl (fun j hj next k => ?_) (fun next k => ?_)
      · rw [step19_at p m l hl j l[j] (by simp [hj]), if_neg (sp j _ (by simp [hj]))]
      · simp [step19_0]
    | some n =>
      rw [hf] at sp
      obtain ⟨_, h2, x, h3, h4⟩ := sp
      have hn : n < l.length := (List.getElem?_eq_some_iff.1 h3).1
      refine iterK_up (fun j => (j : Int)) n rfl (fun j hj next k => ?_) (fun next k => ?_)
      · have hjl : j < l.length := by omega
        rw [step19_at p m l hl j l[j] (by simp [hjl]), if_neg (h2 j _ (by omega) (by simp [hjl]))]
      · rw [step19_at p m l hl n x h3, if_pos h4]
  · cases h
def G19_0 : (Ex → St → Ans) → St → Ans := sumG dec19_0 R19_0 out19_0
theorem G19_0_ok : LSum Try.prog 34 L19_0 G19_0 := lsum_iter mixed tabOk env2Ok [6] annL19_0_ok dec19_0_ok step19_0_ok R19_0_ok
--@ fn 19
def ann19 : Ann := (.seq .none (.seq .none (.seq (.seq .none (.block (.pack 0 (.sum G19_0)))) .none)))
theorem ann19_ok : AnnOk Try.prog 34 b19 ann19 := ⟨(annOk_none _ _ _), ⟨(annOk_none _ _ _), ⟨⟨(annOk_none _ _ _), (annOk_pack (annOk_sum G19_0_ok))⟩, (annOk_none _ _ _)⟩⟩⟩
abbrev A19 := (Int) × (Int) × (Int) × (Int) × (Int)
def args19 : A19 → List AV := fun (a, b, c, p, m) => [AV.agg [AV.int IntKind.i64 a, AV.int IntKind.i64 b, AV.int IntKind.i64 c], AV.int IntKind.i64 p, AV.int IntKind.i64 m]
def decA19 (l : List AV) : Option A19 := match l with
  | [AV.agg [AV.int IntKind.i64 a, AV.int IntKind.i64 b, AV.int IntKind.i64 c], AV.int IntKind.i64 p, AV.int IntKind.i64 m] => some (a, b, c, p, m)
  | _ => none
theorem decA19_ok (l : List AV) (a : A19) (h : decA19 l = some a) : l = args19 a := by
  unfold decA19 at h
  split at h
  · cases h; rfl
  · cases h
def fn19 : A19 → (AV → Ans) → Ans := fun (a, b, c, p, m) K => (bindO (R19_0 (p, m, parts a b c) (0)) fun y => Sum.elim (fun _ => (K (AV.int IntKind.i64 (-1)))) (fun t6 => (K (AV.int IntKind.i64 t6))) y)
theorem fn19_ok (a : A19) : fnE Try.tab env2 Try.hint 0 70 19 Try.f19.ntmps Try.f19.results.toList ann19 b19 (args19 a) [] (fun v _ => some (v, [])) = fn19 a (fun v => some (v, [])) := by kernel_rfl
def first (a b c p m : Int) : Int := match fI p m (parts a b c) 0 with | none => -1 | some n => (n : Int)
theorem parts_len (a b c : Int) : (parts a b c).length ≤ 1000 := by
  unfold parts
  split
  · rename_i h
    have := chk_zero h
    simp [partsL]; omega
  · simp
def v19 : A19 → (AV → Ans) → Ans := fun (a, b, c, p, m) K => K (.int .i64 (first a b c p m))
theorem v19_ok (a : A19) (K : AV → Ans) (res : AV × List AE.Obj) (h : v19 a K = some res) : ∃ r, r.closed1 = true ∧ K r = some res ∧ fn19 a (fun v => some (v, [])) = some (r, []) := by
  obtain ⟨a, b, c, p, m⟩ := a
  refine ⟨_, rfl, h, ?_⟩
  have := parts_len a b c
  simp only [fn19, R19_0, first]
  rw [if_pos (by simp; omega)]
  cases fI p m (parts a b c) 0 <;> simp [bindO]
def F19 : List AV → (AV → Ans) → Ans := fun l K => bindO (decA19 l) fun a => v19 a K
theorem F19_ok : PureOk Try.prog 19 F19 := pure_mk mixed tabOk env2Ok Try.func19 (bodySome (by kernel_rfl)) (by decide +kernel) ann19_ok decA19_ok fn19_ok v19_ok
end Go.Proofs.R1
namespace Go.Proofs.R1
open Go Go.AE
theorem chk_ne {a b c : Int} (h : chk a b c ≠ 0) : chk a b c = 3 := by
  unfold chk at h ⊢
  split at h <;> simp_all
def xt (a : Int) : Int := 2 + (a + 1) / 2
def sl (a : Int) : Int := xt a + 2 * a
def lg (a b : Int) : Int := sl a + 5 * b
noncomputable def env3 : Env := [(11, .pure F11), (12, .pure F12), (19, .pure F19), (40, inl Try.f40), (41, inl Try.f41), (42, inl Try.f42)]
theorem env3Ok : EnvOk Try.prog env3 := EnvOk.cons F11_ok (EnvOk.cons F12_ok (EnvOk.cons F19_ok
  (EnvOk.cons (specInl Try.func40 (by kernel_rfl) (by decide +kernel)) (EnvOk.cons (specInl Try.func41 (by kernel_rfl) (by decide +kernel)) (EnvOk.cons (specInl Try.func42 (by kernel_rfl) (by decide +kernel)) EnvOk.nil)))))
noncomputable def b8 : Code := Try.f8.body.getD .skip
--@ fn 8
def ann8 : Ann := .none
theorem ann8_ok : AnnOk Try.prog 21 b8 ann8 := (annOk_none _ _ _)
abbrev A8 := (Int) × (Int) × (Int) × (Int)
def args8 : A8 → List AV := fun (a, b, c, n) => [AV.agg [AV.int IntKind.i64 a, AV.int IntKind.i64 b, AV.int IntKind.i64 c], AV.int IntKind.i64 n]
def decA8 (l : List AV) : Option A8 := match l with
  | [AV.agg [AV.int IntKind.i64 a, AV.int IntKind.i64 b, AV.int IntKind.i64 c], AV.int IntKind.i64 n] => some (a, b, c, n)
  | _ => none
theorem decA8_ok (l : List AV) (a : A8) (h : decA8 l = some a) : l = args8 a := by
  unfold decA8 at h
  split at h
  · cases h; rfl
  · cases h
def fn8 : A8 → (AV → Ans) → Ans := fun (a, b, c, n) K => (bif chk a b c != 0 then (bif chk a b c != 0 then (K (AV.tup [AV.int IntKind.i64 0, AV.int IntKind.i64 (chk a b c)])) else (bif chk a b c != 0 then (K (AV.tup [AV.int IntKind.i64 (IntKind.wrap IntKind.i64 (0 + IntKind.wrap IntKind.i64 (n * 2))), AV.int IntKind.i64 0])) else (K (AV.tup [AV.int IntKind.i64 (IntKind.wrap IntKind.i64 (IntKind.wrap IntKind.i64 (IntKind.wrap IntKind.i64 (IntKind.wrap IntKind.i64 (0 + 1) + 1) + IntKind.wrap IntKind.i64 (Int.tdiv (IntKind.wrap IntKind.i64 (IntKind.wrap IntKind.i64 (a + 2) - 1)) 2)) + IntKind.wrap IntKind.i64 (n * 2))), AV.int IntKind.i64 0])))) else (bif decide (n ≥ 0) then (bif !decide (n ≤ IntKind.wrap IntKind.i64 (a - 1)) then (K (AV.tup [AV.int IntKind.i64 0, AV.int IntKind.i64 3])) else (bif chk a b c != 0 then (K (AV.tup [AV.int IntKind.i64 (IntKind.wrap IntKind.i64 (0 + IntKind.wrap IntKind.i64 (n * 2))), AV.int IntKind.i64 0])) else (K (AV.tup [AV.int IntKind.i64 (IntKind.wrap IntKind.i64 (IntKind.wrap IntKind.i64 (IntKind.wrap IntKind.i64 (IntKind.wrap IntKind.i64 (0 + 1) + 1) + IntKind.wrap IntKind.i64 (Int.tdiv (IntKind.wrap IntKind.i64 (IntKind.wrap IntKind.i64 (a + 2) - 1)) 2)) + IntKind.wrap IntKind.i64 (n * 2))), AV.int IntKind.i64 0])))) else (K (AV.tup [AV.int IntKind.i64 0, AV.int IntKind.i64 3]))))
theorem fn8_ok (a : A8) : fnE Try.tab env3 Try.hint 4 70 8 Try.f8.ntmps Try.f8.results.toList ann8 b8 (args8 a) [] (fun v _ => some (v, [])) = fn8 a (fun v => some (v, [])) := by kernel_rfl
def extent (a b c n : Int) : Int × Int := if chk a b c = 0 then if 0 ≤ n ∧ n < a then (xt a + 2 * n, 0) else (0, 3) else (0, 3)
def v8 : A8 → (AV → Ans) → Ans := fun (a, b, c, n) K => K (.tup [.int .i64 (extent a b c n).1, .int .i64 (extent a b c n).2])
theorem v8_ok (a : A8) (K : AV → Ans) (res : AV × List AE.Obj) (h : v8 a K = some res) : ∃ r, r.closed1 = true ∧ K r = some res ∧ fn8 a (fun v => some (v, [])) = some (r, []) := by
  obtain ⟨a, b, c, n⟩ := a
  refine ⟨_, rfl, h, ?_⟩
  simp only [fn8, extent]
  by_cases hc : chk a b c = 0
  · obtain ⟨h1, h2, h3, h4, h5, h6⟩ := chk_zero hc
    simp only [hc, bne_self_eq_false, cond_false, if_true]
    by_cases g1 : 0 ≤ n
    · by_cases g2 : n < a
      · simp (disch := omega) only [wrap64, Int.tdiv_eq_ediv_of_nonneg, Int.tmod_eq_emod_of_nonneg]
        have g3 : n ≤ a - 1 := by omega
        simp [g1, g2, g3, extent, xt, sl]
        try omega
      · have g3 : ¬ n ≤ a - 1 := by omega
        rw [wrap64 (x := a - 1) (by omega) (by omega)]
        simp [g1, g2, g3]
    · simp [g1]
  · rw [chk_ne hc]; rfl
def F8 : List AV → (AV → Ans) → Ans := fun l K => bindO (decA8 l) fun a => v8 a K
theorem F8_ok : PureOk Try.prog 8 F8 := pure_mk mixed tabOk env3Ok Try.func8 (bodySome (by kernel_rfl)) (by decide +kernel) ann8_ok decA8_ok fn8_ok v8_ok
noncomputable def b9 : Code := Try.f9.body.getD .skip
--@ fn 9
def ann9 : Ann := .none
theorem ann9_ok : AnnOk Try.prog 21 b9 ann9 := (annOk_none _ _ _)
abbrev A9 := (Int) × (Int) × (Int) × (Int)
def args9 : A9 → List AV := fun (a, b, c, n) => [AV.agg [AV.int IntKind.i64 a, AV.int IntKind.i64 b, AV.int IntKind.i64 c], AV.int IntKind.i64 n]
def decA9 (l : List AV) : Option A9 := match l with
  | [AV.agg [AV.int IntKind.i64 a, AV.int IntKind.i64 b, AV.int IntKind.i64 c], AV.int IntKind.i64 n] => some (a, b, c, n)
  | _ => none
theorem decA9_ok (l : List AV) (a : A9) (h : decA9 l = some a) : l = args9 a := by
  unfold decA9 at h
  split at h
  · cases h; rfl
  · cases h
def fn9 : A9 → (AV → Ans) → Ans := fun (a, b, c, n) K => (bif chk a b c != 0 then (bif chk a b c != 0 then (K (AV.tup [AV.int IntKind.i64 0, AV.int IntKind.i64 (chk a b c)])) else (bif chk a b c != 0 then (K (AV.tup [AV.int IntKind.i64 (IntKind.wrap IntKind.i64 (0 + IntKind.wrap IntKind.i64 (n * 5))), AV.int IntKind.i64 0])) else (K (AV.tup [AV.int IntKind.i64 (IntKind.wrap IntKind.i64 (IntKind.wrap IntKind.i64 (IntKind.wrap IntKind.i64 (IntKind.wrap IntKind.i64 (IntKind.wrap IntKind.i64 (0 + 1) + 1) + IntKind.wrap IntKind.i64 (Int.tdiv (IntKind.wrap IntKind.i64 (IntKind.wrap IntKind.i64 (a + 2) - 1)) 2)) + IntKind.wrap IntKind.i64 (a * 2)) + IntKind.wrap IntKind.i64 (n * 5))), AV.int IntKind.i64 0])))) else (bif decide (n ≥ 0) then (bif !decide (n ≤ IntKind.wrap IntKind.i64 (b - 1)) then (K (AV.tup [AV.int IntKind.i64 0, AV.int IntKind.i64 3])) else (bif chk a b c != 0 then (K (AV.tup [AV.int IntKind.i64 (IntKind.wrap IntKind.i64 (0 + IntKind.wrap IntKind.i64 (n * 5))), AV.int IntKind.i64 0])) else (K (AV.tup [AV.int IntKind.i64 (IntKind.wrap IntKind.i64 (IntKind.wrap IntKind.i64 (IntKind.wrap IntKind.i64 (IntKind.wrap IntKind.i64 (IntKind.wrap IntKind.i64 (0 + 1) + 1) + IntKind.wrap IntKind.i64 (Int.tdiv (IntKind.wrap IntKind.i64 (IntKind.wrap IntKind.i64 (a + 2) - 1)) 2)) + IntKind.wrap IntKind.i64 (a * 2)) + IntKind.wrap IntKind.i64 (n * 5))), AV.int IntKind.i64 0])))) else (K (AV.tup [AV.int IntKind.i64 0, AV.int IntKind.i64 3]))))
theorem fn9_ok (a : A9) : fnE Try.tab env3 Try.hint 4 70 9 Try.f9.ntmps Try.f9.results.toList ann9 b9 (args9 a) [] (fun v _ => some (v, [])) = fn9 a (fun v => some (v, [])) := by kernel_rfl
def slotAt (a b c n : Int) : Int × Int := if chk a b c = 0 then if 0 ≤ n ∧ n < b then (sl a + 5 * n, 0) else (0, 3) else (0, 3)
def v9 : A9 → (AV → Ans) → Ans := fun (a, b, c, n) K => K (.tup [.int .i64 (slotAt a b c n).1, .int .i64 (slotAt a b c n).2])
theorem v9_ok (a : A9) (K : AV → Ans) (res : AV × List AE.Obj) (h : v9 a K = some res) : ∃ r, r.closed1 = true ∧ K r = some res ∧ fn9 a (fun v => some (v, [])) = some (r, []) := by
  obtain ⟨a, b, c, n⟩ := a
  refine ⟨_, rfl, h, ?_⟩
  simp only [fn9, slotAt]
  by_cases hc : chk a b c = 0
  · obtain ⟨h1, h2, h3, h4, h5, h6⟩ := chk_zero hc
    simp only [hc, bne_self_eq_false, cond_false, if_true]
    by_cases g1 : 0 ≤ n
    · by_cases g2 : n < b
      · simp (disch := omega) only [wrap64, Int.tdiv_eq_ediv_of_nonneg, Int.tmod_eq_emod_of_nonneg]
        have g3 : n ≤ b - 1 := by omega
        simp [g1, g2, g3, slotAt, xt, sl]
        try omega
      · have g3 : ¬ n ≤ b - 1 := by omega
        rw [wrap64 (x := b - 1) (by omega) (by omega)]
        simp [g1, g2, g3]
    · simp [g1]
  · rw [chk_ne hc]; rfl
def F9 : List AV → (AV → Ans) → Ans := fun l K => bindO (decA9 l) fun a => v9 a K
theorem F9_ok : PureOk Try.prog 9 F9 := pure_mk mixed tabOk env3Ok Try.func9 (bodySome (by kernel_rfl)) (by decide +kernel) ann9_ok decA9_ok fn9_ok v9_ok
noncomputable def b10 : Code := Try.f10.body.getD .skip
--@ fn 10
def ann10 : Ann := .none
theorem ann10_ok : AnnOk Try.prog 24 b10 ann10 := (annOk_none _ _ _)
abbrev A10 := (Int) × (Int) × (Int) × (Int)
def args10 : A10 → List AV := fun (a, b, c, n) => [AV.agg [AV.int IntKind.i64 a, AV.int IntKind.i64 b, AV.int IntKind.i64 c], AV.int IntKind.i64 n]
def decA10 (l : List AV) : Option A10 := match l with
  | [AV.agg [AV.int IntKind.i64 a, AV.int IntKind.i64 b, AV.int IntKind.i64 c], AV.int IntKind.i64 n] => some (a, b, c, n)
  | _ => none
theorem decA10_ok (l : List AV) (a : A10) (h : decA10 l = some a) : l = args10 a := by
  unfold decA10 at h
  split at h
  · cases h; rfl
  · cases h
def fn10 : A10 → (AV → Ans) → Ans := fun (a, b, c, n) K => (bif chk a b c != 0 then (bif chk a b c != 0 then (K (AV.tup [AV.int IntKind.i64 0, AV.int IntKind.i64 0, AV.int IntKind.i64 (chk a b c)])) else (bif chk a b c != 0 then (K (AV.tup [AV.int IntKind.i64 (IntKind.wrap IntKind.i64 (0 + IntKind.wrap IntKind.i64 (Int.tdiv n 2))), AV.int IntKind.i64 (Int.tmod n 2), AV.int IntKind.i64 0])) else (K (AV.tup [AV.int IntKind.i64 (IntKind.wrap IntKind.i64 (IntKind.wrap IntKind.i64 (IntKind.wrap IntKind.i64 (0 + 1) + 1) + IntKind.wrap IntKind.i64 (Int.tdiv n 2))), AV.int IntKind.i64 (Int.tmod n 2), AV.int IntKind.i64 0])))) else (bif decide (n ≥ 0) then (bif !decide (n ≤ IntKind.wrap IntKind.i64 (a - 1)) then (K (AV.tup [AV.int IntKind.i64 0, AV.int IntKind.i64 0, AV.int IntKind.i64 3])) else (bif chk a b c != 0 then (K (AV.tup [AV.int IntKind.i64 (IntKind.wrap IntKind.i64 (0 + IntKind.wrap IntKind.i64 (Int.tdiv n 2))), AV.int IntKind.i64 (Int.tmod n 2), AV.int IntKind.i64 0])) else (K (AV.tup [AV.int IntKind.i64 (IntKind.wrap IntKind.i64 (IntKind.wrap IntKind.i64 (IntKind.wrap IntKind.i64 (0 + 1) + 1) + IntKind.wrap IntKind.i64 (Int.tdiv n 2))), AV.int IntKind.i64 (Int.tmod n 2), AV.int IntKind.i64 0])))) else (K (AV.tup [AV.int IntKind.i64 0, AV.int IntKind.i64 0, AV.int IntKind.i64 3]))))
theorem fn10_ok (a : A10) : fnE Try.tab env3 Try.hint 4 70 10 Try.f10.ntmps Try.f10.results.toList ann10 b10 (args10 a) [] (fun v _ => some (v, [])) = fn10 a (fun v => some (v, [])) := by kernel_rfl
def table (a b c n : Int) : Int × Int × Int := if chk a b c = 0 then if 0 ≤ n ∧ n < a then (2 + n / 2, n % 2, 0) else (0, 0, 3) else (0, 0, 3)
def v10 : A10 → (AV → Ans) → Ans := fun (a, b, c, n) K => K (.tup [.int .i64 (table a b c n).1, .int .i64 (table a b c n).2.1, .int .i64 (table a b c n).2.2])
theorem v10_ok (a : A10) (K : AV → Ans) (res : AV × List AE.Obj) (h : v10 a K = some res) : ∃ r, r.closed1 = true ∧ K r = some res ∧ fn10 a (fun v => some (v, [])) = some (r, []) := by
  obtain ⟨a, b, c, n⟩ := a
  refine ⟨_, rfl, h, ?_⟩
  simp only [fn10, table]
  by_cases hc : chk a b c = 0
  · obtain ⟨h1, h2, h3, h4, h5, h6⟩ := chk_zero hc
    simp only [hc, bne_self_eq_false, cond_false, if_true]
    by_cases g1 : 0 ≤ n
    · by_cases g2 : n < a
      · simp (disch := omega) only [wrap64, Int.tdiv_eq_ediv_of_nonneg, Int.tmod_eq_emod_of_nonneg]
        have g3 : n ≤ a - 1 := by omega
        simp [g1, g2, g3, table, xt, sl]
        try omega
      · have g3 : ¬ n ≤ a - 1 := by omega
        rw [wrap64 (x := a - 1) (by omega) (by omega)]
        simp [g1, g2, g3]
    · simp [g1]
  · rw [chk_ne hc]; rfl
def F10 : List AV → (AV → Ans) → Ans := fun l K => bindO (decA10 l) fun a => v10 a K
theorem F10_ok : PureOk Try.prog 10 F10 := pure_mk mixed tabOk env3Ok Try.func10 (bodySome (by kernel_rfl)) (by decide +kernel) ann10_ok decA10_ok fn10_ok v10_ok
noncomputable def b13 : Code := Try.f13.body.getD .skip
--@ fn 13
def ann13 : Ann := .none
theorem ann13_ok : AnnOk Try.prog 6 b13 ann13 := (annOk_none _ _ _)
abbrev A13 := (Int) × (Int) × (Int)
def args13 : A13 → List AV := fun (a, b, c) => [AV.agg [AV.int IntKind.i64 a, AV.int IntKind.i64 b, AV.int IntKind.i64 c]]
def decA13 (l : List AV) : Option A13 := match l with
  | [AV.agg [AV.int IntKind.i64 a, AV.int IntKind.i64 b, AV.int IntKind.i64 c]] => some (a, b, c)
  | _ => none
theorem decA13_ok (l : List AV) (a : A13) (h : decA13 l = some a) : l = args13 a := by
  unfold decA13 at h
  split at h
  · cases h; rfl
  · cases h
def fn13 : A13 → (AV → Ans) → Ans := fun (a, b, c) K => (bif chk a b c != 0 then (K (AV.int IntKind.i64 0)) else (K (AV.int IntKind.i64 (IntKind.wrap IntKind.i64 (IntKind.wrap IntKind.i64 (IntKind.wrap IntKind.i64 (IntKind.wrap IntKind.i64 (IntKind.wrap IntKind.i64 (IntKind.wrap IntKind.i64 (0 + 1) + 1) + IntKind.wrap IntKind.i64 (Int.tdiv (IntKind.wrap IntKind.i64 (IntKind.wrap IntKind.i64 (a + 2) - 1)) 2)) + IntKind.wrap IntKind.i64 (a * 2)) + IntKind.wrap IntKind.i64 (b * 5)) + c)))))
theorem fn13_ok (a : A13) : fnE Try.tab env3 Try.hint 4 70 13 Try.f13.ntmps Try.f13.results.toList ann13 b13 (args13 a) [] (fun v _ => some (v, [])) = fn13 a (fun v => some (v, [])) := by kernel_rfl
def sectors (a b c : Int) : Int := if chk a b c = 0 then lg a b + c else 0
def v13 : A13 → (AV → Ans) → Ans := fun (a, b, c) K => K (.int .i64 (sectors a b c))
theorem v13_ok (a : A13) (K : AV → Ans) (res : AV × List AE.Obj) (h : v13 a K = some res) : ∃ r, r.closed1 = true ∧ K r = some res ∧ fn13 a (fun v => some (v, [])) = some (r, []) := by
  obtain ⟨a, b, c⟩ := a
  refine ⟨_, rfl, h, ?_⟩
  simp only [fn13, sectors]
  by_cases hc : chk a b c = 0
  · obtain ⟨h1, h2, h3, h4, h5, h6⟩ := chk_zero hc
    simp only [hc, bne_self_eq_false, cond_false, if_true]
    try simp (disch := omega) only [wrap64, Int.tdiv_eq_ediv_of_nonneg]
    all_goals (try (simp [xt, sl, lg]; try omega))
  · rw [chk_ne hc]; rfl
def F13 : List AV → (AV → Ans) → Ans := fun l K => bindO (decA13 l) fun a => v13 a K
theorem F13_ok : PureOk Try.prog 13 F13 := pure_mk mixed tabOk env3Ok Try.func13 (bodySome (by kernel_rfl)) (by decide +kernel) ann13_ok decA13_ok fn13_ok v13_ok
noncomputable def b16 : Code := Try.f16.body.getD .skip
--@ fn 16
def ann16 : Ann := .none
theorem ann16_ok : AnnOk Try.prog 6 b16 ann16 := (annOk_none _ _ _)
abbrev A16 := (Int) × (Int) × (Int)
def args16 : A16 → List AV := fun (a, b, c) => [AV.agg [AV.int IntKind.i64 a, AV.int IntKind.i64 b, AV.int IntKind.i64 c]]
def decA16 (l : List AV) : Option A16 := match l with
  | [AV.agg [AV.int IntKind.i64 a, AV.int IntKind.i64 b, AV.int IntKind.i64 c]] => some (a, b, c)
  | _ => none
theorem decA16_ok (l : List AV) (a : A16) (h : decA16 l = some a) : l = args16 a := by
  unfold decA16 at h
  split at h
  · cases h; rfl
  · cases h
def fn16 : A16 → (AV → Ans) → Ans := fun (a, b, c) K => (bif chk a b c != 0 then (K (AV.int IntKind.i64 0)) else (K (AV.int IntKind.i64 0)))
theorem fn16_ok (a : A16) : fnE Try.tab env3 Try.hint 4 70 16 Try.f16.ntmps Try.f16.results.toList ann16 b16 (args16 a) [] (fun v _ => some (v, [])) = fn16 a (fun v => some (v, [])) := by kernel_rfl
def superAt (a b c : Int) : Int := if chk a b c = 0 then 0 else 0
def v16 : A16 → (AV → Ans) → Ans := fun (a, b, c) K => K (.int .i64 (superAt a b c))
theorem v16_ok (a : A16) (K : AV → Ans) (res : AV × List AE.Obj) (h : v16 a K = some res) : ∃ r, r.closed1 = true ∧ K r = some res ∧ fn16 a (fun v => some (v, [])) = some (r, []) := by
  obtain ⟨a, b, c⟩ := a
  refine ⟨_, rfl, h, ?_⟩
  simp only [fn16, superAt]
  by_cases hc : chk a b c = 0
  · obtain ⟨h1, h2, h3, h4, h5, h6⟩ := chk_zero hc
    simp only [hc, bne_self_eq_false, cond_false, if_true]
    try simp (disch := omega) only [wrap64, Int.tdiv_eq_ediv_of_nonneg]
    all_goals (try (simp [xt, sl, lg]; try omega))
  · rw [chk_ne hc]; rfl
def F16 : List AV → (AV → Ans) → Ans := fun l K => bindO (decA16 l) fun a => v16 a K
theorem F16_ok : PureOk Try.prog 16 F16 := pure_mk mixed tabOk env3Ok Try.func16 (bodySome (by kernel_rfl)) (by decide +kernel) ann16_ok decA16_ok fn16_ok v16_ok
noncomputable def b17 : Code := Try.f17.body.getD .skip
--@ fn 17
def ann17 : Ann := .none
theorem ann17_ok : AnnOk Try.prog 6 b17 ann17 := (annOk_none _ _ _)
abbrev A17 := (Int) × (Int) × (Int)
def args17 : A17 → List AV := fun (a, b, c) => [AV.agg [AV.int IntKind.i64 a, AV.int IntKind.i64 b, AV.int IntKind.i64 c]]
def decA17 (l : List AV) : Option A17 := match l with
  | [AV.agg [AV.int IntKind.i64 a, AV.int IntKind.i64 b, AV.int IntKind.i64 c]] => some (a, b, c)
  | _ => none
theorem decA17_ok (l : List AV) (a : A17) (h : decA17 l = some a) : l = args17 a := by
  unfold decA17 at h
  split at h
  · cases h; rfl
  · cases h
def fn17 : A17 → (AV → Ans) → Ans := fun (a, b, c) K => (bif chk a b c != 0 then (K (AV.int IntKind.i64 0)) else (K (AV.int IntKind.i64 (IntKind.wrap IntKind.i64 (0 + 1)))))
theorem fn17_ok (a : A17) : fnE Try.tab env3 Try.hint 4 70 17 Try.f17.ntmps Try.f17.results.toList ann17 b17 (args17 a) [] (fun v _ => some (v, [])) = fn17 a (fun v => some (v, [])) := by kernel_rfl
def journalAt (a b c : Int) : Int := if chk a b c = 0 then 1 else 0
def v17 : A17 → (AV → Ans) → Ans := fun (a, b, c) K => K (.int .i64 (journalAt a b c))
theorem v17_ok (a : A17) (K : AV → Ans) (res : AV × List AE.Obj) (h : v17 a K = some res) : ∃ r, r.closed1 = true ∧ K r = some res ∧ fn17 a (fun v => some (v, [])) = some (r, []) := by
  obtain ⟨a, b, c⟩ := a
  refine ⟨_, rfl, h, ?_⟩
  simp only [fn17, journalAt]
  by_cases hc : chk a b c = 0
  · obtain ⟨h1, h2, h3, h4, h5, h6⟩ := chk_zero hc
    simp only [hc, bne_self_eq_false, cond_false, if_true]
    try simp (disch := omega) only [wrap64, Int.tdiv_eq_ediv_of_nonneg]
    all_goals (try (simp [xt, sl, lg]; try omega))
  · rw [chk_ne hc]; rfl
def F17 : List AV → (AV → Ans) → Ans := fun l K => bindO (decA17 l) fun a => v17 a K
theorem F17_ok : PureOk Try.prog 17 F17 := pure_mk mixed tabOk env3Ok Try.func17 (bodySome (by kernel_rfl)) (by decide +kernel) ann17_ok decA17_ok fn17_ok v17_ok
noncomputable def b18 : Code := Try.f18.body.getD .skip
--@ fn 18
def ann18 : Ann := .none
theorem ann18_ok : AnnOk Try.prog 6 b18 ann18 := (annOk_none _ _ _)
abbrev A18 := (Int) × (Int) × (Int)
def args18 : A18 → List AV := fun (a, b, c) => [AV.agg [AV.int IntKind.i64 a, AV.int IntKind.i64 b, AV.int IntKind.i64 c]]
def decA18 (l : List AV) : Option A18 := match l with
  | [AV.agg [AV.int IntKind.i64 a, AV.int IntKind.i64 b, AV.int IntKind.i64 c]] => some (a, b, c)
  | _ => none
theorem decA18_ok (l : List AV) (a : A18) (h : decA18 l = some a) : l = args18 a := by
  unfold decA18 at h
  split at h
  · cases h; rfl
  · cases h
def fn18 : A18 → (AV → Ans) → Ans := fun (a, b, c) K => (bif chk a b c != 0 then (K (AV.int IntKind.i64 0)) else (K (AV.int IntKind.i64 (IntKind.wrap IntKind.i64 (IntKind.wrap IntKind.i64 (IntKind.wrap IntKind.i64 (IntKind.wrap IntKind.i64 (IntKind.wrap IntKind.i64 (0 + 1) + 1) + IntKind.wrap IntKind.i64 (Int.tdiv (IntKind.wrap IntKind.i64 (IntKind.wrap IntKind.i64 (a + 2) - 1)) 2)) + IntKind.wrap IntKind.i64 (a * 2)) + IntKind.wrap IntKind.i64 (b * 5))))))
theorem fn18_ok (a : A18) : fnE Try.tab env3 Try.hint 4 70 18 Try.f18.ntmps Try.f18.results.toList ann18 b18 (args18 a) [] (fun v _ => some (v, [])) = fn18 a (fun v => some (v, [])) := by kernel_rfl
def logAt (a b c : Int) : Int := if chk a b c = 0 then lg a b else 0
def v18 : A18 → (AV → Ans) → Ans := fun (a, b, c) K => K (.int .i64 (logAt a b c))
theorem v18_ok (a : A18) (K : AV → Ans) (res : AV × List AE.Obj) (h : v18 a K = some res) : ∃ r, r.closed1 = true ∧ K r = some res ∧ fn18 a (fun v => some (v, [])) = some (r, []) := by
  obtain ⟨a, b, c⟩ := a
  refine ⟨_, rfl, h, ?_⟩
  simp only [fn18, logAt]
  by_cases hc : chk a b c = 0
  · obtain ⟨h1, h2, h3, h4, h5, h6⟩ := chk_zero hc
    simp only [hc, bne_self_eq_false, cond_false, if_true]
    try simp (disch := omega) only [wrap64, Int.tdiv_eq_ediv_of_nonneg]
    all_goals (try (simp [xt, sl, lg]; try omega))
  · rw [chk_ne hc]; rfl
def F18 : List AV → (AV → Ans) → Ans := fun l K => bindO (decA18 l) fun a => v18 a K
theorem F18_ok : PureOk Try.prog 18 F18 := pure_mk mixed tabOk env3Ok Try.func18 (bodySome (by kernel_rfl)) (by decide +kernel) ann18_ok decA18_ok fn18_ok v18_ok
noncomputable def b15 : Code := Try.f15.body.getD .skip
--@ fn 15
def ann15 : Ann := .none
theorem ann15_ok : AnnOk Try.prog 31 b15 ann15 := (annOk_none _ _ _)
abbrev A15 := (Int) × (Int) × (Int) × (Int) × (Int) × (Int) × (Int)
def args15 : A15 → List AV := fun (at_, e, a, b, c, p, n) => [AV.int IntKind.i64 at_, AV.int IntKind.i64 e, AV.agg [AV.int IntKind.i64 a, AV.int IntKind.i64 b, AV.int IntKind.i64 c], AV.int IntKind.i64 p, AV.int IntKind.i64 n]
def decA15 (l : List AV) : Option A15 := match l with
  | [AV.int IntKind.i64 at_, AV.int IntKind.i64 e, AV.agg [AV.int IntKind.i64 a, AV.int IntKind.i64 b, AV.int IntKind.i64 c], AV.int IntKind.i64 p, AV.int IntKind.i64 n] => some (at_, e, a, b, c, p, n)
  | _ => none
theorem decA15_ok (l : List AV) (a : A15) (h : decA15 l = some a) : l = args15 a := by
  unfold decA15 at h
  split at h
  · cases h; rfl
  · cases h
def fn15 : A15 → (AV → Ans) → Ans := fun (at_, e, a, b, c, p, n) K => (bif decide (first a b c p n < 0) then (bif at_ == 0 then (K (AV.bool (e == 3))) else (K (AV.bool false))) else (bif at_ == first a b c p n then (K (AV.bool (e == 0))) else (K (AV.bool false))))
theorem fn15_ok (a : A15) : fnE Try.tab env3 Try.hint 4 70 15 Try.f15.ntmps Try.f15.results.toList ann15 b15 (args15 a) [] (fun v _ => some (v, [])) = fn15 a (fun v => some (v, [])) := by kernel_rfl
def placeB (at_ e a b c p n : Int) : Bool := if first a b c p n < 0 then (at_ == 0) && (e == 3) else (at_ == first a b c p n) && (e == 0)
def v15 : A15 → (AV → Ans) → Ans := fun (at_, e, a, b, c, p, n) K => K (.bool (placeB at_ e a b c p n))
theorem v15_ok (a : A15) (K : AV → Ans) (res : AV × List AE.Obj) (h : v15 a K = some res) : ∃ r, r.closed1 = true ∧ K r = some res ∧ fn15 a (fun v => some (v, [])) = some (r, []) := by
  obtain ⟨at_, e, a, b, c, p, n⟩ := a
  refine ⟨_, rfl, h, ?_⟩
  simp only [fn15, placeB]
  by_cases h1 : first a b c p n < 0
  · simp only [h1, decide_true, cond_true, if_true]
    cases (at_ == 0) <;> rfl
  · simp only [h1, decide_false, cond_false, if_false]
    cases (at_ == first a b c p n) <;> rfl
def F15 : List AV → (AV → Ans) → Ans := fun l K => bindO (decA15 l) fun a => v15 a K
theorem F15_ok : PureOk Try.prog 15 F15 := pure_mk mixed tabOk env3Ok Try.func15 (bodySome (by kernel_rfl)) (by decide +kernel) ann15_ok decA15_ok fn15_ok v15_ok
noncomputable def env4 : Env := [(7, inl Try.f7), (8, .pure F8), (9, .pure F9), (10, .pure F10), (11, .pure F11), (12, .pure F12), (13, .pure F13), (14, .func F14), (15, .pure F15), (16, .pure F16), (17, .pure F17), (18, .pure F18), (19, .pure F19)]
theorem env4Ok : EnvOk Try.prog env4 := EnvOk.cons (specInl Try.func7 (by kernel_rfl) (by decide +kernel)) (EnvOk.cons F8_ok (EnvOk.cons F9_ok (EnvOk.cons F10_ok (EnvOk.cons F11_ok (EnvOk.cons F12_ok (EnvOk.cons F13_ok (EnvOk.cons F14_ok (EnvOk.cons F15_ok
  (EnvOk.cons F16_ok (EnvOk.cons F17_ok (EnvOk.cons F18_ok (EnvOk.cons F19_ok EnvOk.nil))))))))))))
end Go.Proofs.R1
namespace Go.Proofs.R1
open Go Go.AE
noncomputable def b3 : Code := Try.f3.body.getD .skip
--@ fn 3
def ann3 : Ann := .none
theorem ann3_ok : AnnOk Try.prog 143 b3 ann3 := (annOk_none _ _ _)
abbrev A3 := (Int) × (Int) × (Int) × (Int)
def args3 : A3 → List AV × List AE.Obj := fun (a, b, c, n) => ([AV.agg [AV.int IntKind.i64 a, AV.int IntKind.i64 b, AV.int IntKind.i64 c], AV.int IntKind.i64 n], [])
def decA3 (l : List AV) (H : List AE.Obj) : Option A3 := match l, H with
  | [AV.agg [AV.int IntKind.i64 a, AV.int IntKind.i64 b, AV.int IntKind.i64 c], AV.int IntKind.i64 n], [] => some (a, b, c, n)
  | _, _ => none
theorem decA3_ok (l : List AV) (H : List AE.Obj) (a : A3) (h : decA3 l H = some a) : (l, H) = args3 a := by
  unfold decA3 at h
  split at h
  · cases h; rfl
  · cases h
def fn3 : A3 → (AV → List AE.Obj → Ans) → Ans := fun (a, b, c, n) K => (bif chk a b c != chk a b c then (K (AV.bool false) []) else (bif sectors a b c != ↑(List.length (parts a b c)) then (K (AV.bool false) []) else (bif !placeB (extent a b c n).fst (extent a b c n).snd a b c 3 n then (K (AV.bool false) []) else (bif !placeB (slotAt a b c n).fst (slotAt a b c n).snd a b c 4 n then (K (AV.bool false) []) else (bif chk a b c != 0 then (bif superAt a b c == 0 then (bif journalAt a b c == 0 then (bif logAt a b c == 0 then (bif (table a b c n).fst == 0 then (bif (table a b c n).snd.fst == 0 then (K (AV.bool ((table a b c n).snd.snd == 3)) []) else (K (AV.bool false) [])) else (K (AV.bool false) [])) else (K (AV.bool false) [])) else (K (AV.bool false) [])) else (K (AV.bool false) [])) else (bif superAt a b c != first a b c 0 0 then (K (AV.bool false) []) else (bif journalAt a b c != first a b c 1 0 then (K (AV.bool false) []) else (bif logAt a b c != first a b c 5 0 then (K (AV.bool false) []) else (bif decide (n < 0) then (bif (table a b c n).fst == 0 then (bif (table a b c n).snd.fst == 0 then (K (AV.bool ((table a b c n).snd.snd == 3)) []) else (K (AV.bool false) [])) else (K (AV.bool false) [])) else (bif decide (n ≥ a) then (bif (table a b c n).fst == 0 then (bif (table a b c n).snd.fst == 0 then (K (AV.bool ((table a b c n).snd.snd == 3)) []) else (K (AV.bool false) [])) else (K (AV.bool false) [])) else (bif (table a b c n).fst == first a b c 2 (IntKind.wrap IntKind.i64 (Int.tdiv n 2)) then (bif (table a b c n).snd.fst == Int.tmod n 2 then (K (AV.bool ((table a b c n).snd.snd == 0)) []) else (K (AV.bool false) [])) else (K (AV.bool false) []))))))))))))
theorem fn3_ok (a : A3) (K : AV → List AE.Obj → Ans) : fnE Try.tab env4 Try.hint 4 70 3 Try.f3.ntmps Try.f3.results.toList ann3 b3 (args3 a).1 (args3 a).2 K = fn3 a K := by kernel_rfl
def v3 := fn3
theorem v3_ok (a : A3) (K : AV → List AE.Obj → Ans) (res : AV × List AE.Obj) (h : v3 a K = some res) : fn3 a K = some res := h
def F3 : List AV → List AE.Obj → (AV → List AE.Obj → Ans) → Ans := fun l H K => bindO (decA3 l H) fun a => v3 a K
theorem F3_ok : FuncOk Try.prog 3 F3 := func_mk mixed tabOk env4Ok Try.func3 (bodySome (by kernel_rfl)) (by decide +kernel) ann3_ok decA3_ok fn3_ok v3_ok
end Go.Proofs.R1
namespace Go.Proofs.R1
open Go Go.AE
theorem fI_some {p m : Int} {l : List (Int × Int)} {i k : Nat} {x : Int × Int} (hk : l[k]? = some x) (hx : x.1 = p ∧ x.2 = m) (hlt : ∀ (j : Nat) (y : Int × Int), j < k → l[j]? = some y → ¬ (y.1 = p ∧ y.2 = m)) : fI p m l i = some (i + k) := by
  have sp := fI_spec p m l i
  cases hf : fI p m l i with
  | none => rw [hf] at sp; exact absurd hx (sp k x hk)
  | some n =>
    rw [hf] at sp
    obtain ⟨h1, h2, y, h3, h4⟩ := sp
    congr 1
    rcases Nat.lt_trichotomy (n - i) k with h | h | h
    · exact absurd h4 (hlt _ _ h h3)
    · omega
    · exact absurd hx (h2 k x h hk)
theorem fI_none {p m : Int} {l : List (Int × Int)} {i : Nat} (h : ∀ (j : Nat) (y : Int × Int), l[j]? = some y → ¬ (y.1 = p ∧ y.2 = m)) : fI p m l i = none := by
  have sp := fI_spec p m l i
  cases hf : fI p m l i with
  | none => rfl
  | some n =>
    rw [hf] at sp
    obtain ⟨h1, h2, y, h3, h4⟩ := sp
    exact absurd h4 (h _ _ h3)
theorem fI_append (p m : Int) : ∀ (l1 l2 : List (Int × Int)) (i : Nat), fI p m (l1 ++ l2) i = match fI p m l1 i with | some n => some n | none => fI p m l2 (i + l1.length)
  | [], l2, i => by simp [fI]
  | x :: r, l2, i => by
    rw [List.cons_append, fI, fI]
    by_cases h : x.1 = p ∧ x.2 = m
    · rw [if_pos h, if_pos h]
    · rw [if_neg h, if_neg h, fI_append p m r l2 (i + 1)]
      rw [show i + (x :: r).length = i + 1 + r.length by simp; omega]
theorem fI_ne {p m q : Int} (hq : q ≠ p) (N i : Nat) (g : Nat → Int) : fI p m ((List.range N).map fun j => (q, g j)) i = none :=
  fI_none fun j y hj => by
    simp only [List.getElem?_map] at hj
    rcases hr : (List.range N)[j]? with _ | k
    · rw [hr] at hj; cases hj
    · rw [hr] at hj; cases hj; exact fun h => hq h.1
theorem range_get {N j k : Nat} (h : (List.range N)[j]? = some k) : j < N ∧ k = j := by
  obtain ⟨h1, h2⟩ := List.getElem?_eq_some_iff.1 h
  simp at h1 h2
  exact ⟨h1, h2.symm⟩
theorem fI_div {p m : Int} (w N i : Nat) (hw : 0 < w) : fI p m ((List.range N).map fun j : Nat => (p, (j : Int) / (w : Int))) i = if 0 ≤ m ∧ m * w < N then some (i + (m * w).toNat) else none := by
  by_cases h : 0 ≤ m ∧ m * w < N
  · rw [if_pos h]
    obtain ⟨k, rfl⟩ := Int.eq_ofNat_of_zero_le h.1
    have e : ((k : Int) * w).toNat = k * w := by rw [← Int.natCast_mul, Int.toNat_natCast]
    have hlt : k * w < N := by have := h.2; rw [← Int.natCast_mul] at this; omega
    rw [e]
    refine fI_some (x := (p, ((k * w : Nat) : Int) / (w : Int))) ?_ ⟨rfl, ?_⟩ ?_
    · simp [hlt]
    · show ((k * w : Nat) : Int) / (w : Int) = k
      rw [← Int.natCast_ediv, Nat.mul_div_cancel _ hw]
    · intro j y hj hy
      simp only [List.getElem?_map] at hy
      rcases hr : (List.range N)[j]? with _ | k'
      · rw [hr] at hy; cases hy
      · obtain ⟨h1, rfl⟩ := range_get hr
        rw [hr] at hy
        cases hy
        rintro ⟨_, h2⟩
        change ((k' : Int) / (w : Int)) = (k : Int) at h2
        rw [← Int.natCast_ediv] at h2
        have h3 : k' / w = k := by exact_mod_cast h2
        have := Nat.div_mul_le_self k' w
        rw [h3] at this
        omega
  · rw [if_neg h]
    refine fI_none fun j y hj => ?_
    simp only [List.getElem?_map] at hj
    rcases hr : (List.range N)[j]? with _ | k'
    · rw [hr] at hj; cases hj
    · obtain ⟨h1, rfl⟩ := range_get hr
      rw [hr] at hj
      cases hj
      rintro ⟨_, h2⟩
      apply h
      change ((k' : Int) / (w : Int)) = m at h2
      rw [← Int.natCast_ediv] at h2
      subst h2
      refine ⟨Int.natCast_nonneg _, ?_⟩
      have := Nat.div_mul_le_self k' w
      rw [← Int.natCast_mul]
      omega
theorem first_bad {a b c p m : Int} (h : chk a b c ≠ 0) : first a b c p m = -1 := by
  simp [first, parts, h, fI]
theorem fI_two (p m : Int) : fI p m [(0, 0), (1, 0)] 0 = if p = 0 ∧ m = 0 then some 0 else if p = 1 ∧ m = 0 then some 1 else none := by
  simp only [fI]
  by_cases h1 : p = 0 ∧ m = 0
  · obtain ⟨rfl, rfl⟩ := h1; simp
  · rw [if_neg h1, if_neg (by rintro ⟨rfl, rfl⟩; exact h1 ⟨rfl, rfl⟩)]
    by_cases h2 : p = 1 ∧ m = 0
    · obtain ⟨rfl, rfl⟩ := h2; simp
    · rw [if_neg h2, if_neg (by rintro ⟨rfl, rfl⟩; exact h2 ⟨rfl, rfl⟩)]
theorem fI_one {p m : Int} (N i : Nat) (hN : 0 < N) : fI p 0 ((List.range N).map fun _ : Nat => (p, (0 : Int))) i = some i := by
  have := fI_some (p := p) (m := 0) (l := (List.range N).map fun _ : Nat => (p, (0 : Int))) (i := i) (k := 0) (x := (p, 0)) (by simp [hN]) ⟨rfl, rfl⟩ (fun j y hj => by omega)
  simpa using this
section
variable {a b c : Int} (h : chk a b c = 0)
include h
theorem first0 : first a b c 0 0 = 0 := by
  simp only [first, parts, if_pos h, partsL, fI_append, fI_two]; rfl
theorem first1 : first a b c 1 0 = 1 := by
  simp only [first, parts, if_pos h, partsL, fI_append, fI_two]; rfl
theorem first2 (m : Int) : first a b c 2 m = if 0 ≤ m ∧ m < (a + 1) / 2 then 2 + m else -1 := by
  obtain ⟨h1, h2, h3, h4, h5, h6⟩ := chk_zero h
  have e : ((List.range ((a + 1) / 2).toNat).map fun j : Nat => ((2 : Int), (j : Int))) = (List.range ((a + 1) / 2).toNat).map fun j : Nat => ((2 : Int), (j : Int) / ((1 : Nat) : Int)) := by simp
  simp only [first, parts, if_pos h, partsL, fI_append, fI_two]
  rw [e, fI_div _ _ _ (by omega), fI_ne (by decide), fI_ne (by decide), fI_ne (by decide)]
  by_cases hm : 0 ≤ m ∧ m < (a + 1) / 2
  · rw [if_pos (show 0 ≤ m ∧ m * ((1 : Nat) : Int) < _ by omega), if_pos hm]
    simp
    omega
  · rw [if_neg (show ¬ (0 ≤ m ∧ m * ((1 : Nat) : Int) < _) by omega), if_neg hm]
    simp
theorem first3 (m : Int) : first a b c 3 m = if 0 ≤ m ∧ m < a then xt a + 2 * m else -1 := by
  obtain ⟨h1, h2, h3, h4, h5, h6⟩ := chk_zero h
  simp only [first, parts, if_pos h, partsL, fI_append, fI_two]
  rw [fI_ne (by decide), show (2 : Int) = ((2 : Nat) : Int) from rfl, fI_div _ _ _ (by omega), fI_ne (by decide), fI_ne (by decide)]
  by_cases hm : 0 ≤ m ∧ m < a
  · rw [if_pos (show 0 ≤ m ∧ m * ((2 : Nat) : Int) < _ by omega), if_pos hm]
    simp [xt]
    omega
  · rw [if_neg (show ¬ (0 ≤ m ∧ m * ((2 : Nat) : Int) < _) by omega), if_neg hm]
    simp
theorem first4 (m : Int) : first a b c 4 m = if 0 ≤ m ∧ m < b then sl a + 5 * m else -1 := by
  obtain ⟨h1, h2, h3, h4, h5, h6⟩ := chk_zero h
  simp only [first, parts, if_pos h, partsL, fI_append, fI_two]
  rw [fI_ne (by decide), fI_ne (by decide), show (5 : Int) = ((5 : Nat) : Int) from rfl, fI_div _ _ _ (by omega), fI_ne (by decide)]
  by_cases hm : 0 ≤ m ∧ m < b
  · rw [if_pos (show 0 ≤ m ∧ m * ((5 : Nat) : Int) < _ by omega), if_pos hm]
    simp [xt, sl]
    omega
  · rw [if_neg (show ¬ (0 ≤ m ∧ m * ((5 : Nat) : Int) < _) by omega), if_neg hm]
    simp
theorem first5 : first a b c 5 0 = lg a b := by
  obtain ⟨h1, h2, h3, h4, h5, h6⟩ := chk_zero h
  simp only [first, parts, if_pos h, partsL, fI_append, fI_two]
  rw [fI_ne (by decide), fI_ne (by decide), fI_ne (by decide), fI_one (m := 0) _ _ (by omega)]
  simp [xt, sl, lg]
  omega
theorem parts_length : ((parts a b c).length : Int) = lg a b + c := by
  obtain ⟨h1, h2, h3, h4, h5, h6⟩ := chk_zero h
  simp [parts, h, partsL, lg, sl, xt]
  omega
end
theorem fn3_true (a b c n : Int) (hn : -9223372036854775808 ≤ n) (hn' : n ≤ 9223372036854775807) (K : AV → List AE.Obj → Ans) : fn3 (a, b, c, n) K = K (.bool true) [] := by
  simp only [fn3, bne_self_eq_false, cond_false]
  by_cases h : chk a b c = 0
  · obtain ⟨h1, h2, h3, h4, h5, h6⟩ := chk_zero h
    have e1 : sectors a b c = ((parts a b c).length : Int) := by rw [parts_length h]; simp [sectors, h]
    have e2 : placeB (extent a b c n).1 (extent a b c n).2 a b c 3 n = true := by
      simp only [placeB, extent, first3 h, if_pos h]
      by_cases hm : 0 ≤ n ∧ n < a
      · simp only [if_pos hm]
        rw [if_neg (by unfold xt; omega)]
        simp
      · simp [if_neg hm]
    have e3 : placeB (slotAt a b c n).1 (slotAt a b c n).2 a b c 4 n = true := by
      simp only [placeB, slotAt, first4 h, if_pos h]
      by_cases hm : 0 ≤ n ∧ n < b
      · simp only [if_pos hm]
        rw [if_neg (by unfold sl xt; omega)]
        simp
      · simp [if_neg hm]
    rw [e1, e2, e3, first0 h, first1 h, first5 h]
    simp only [h, bne_self_eq_false, cond_false, Bool.not_true, superAt, journalAt, logAt, if_pos h, first2 h]
    by_cases hm : 0 ≤ n ∧ n < a
    · have g1 : ¬ n < 0 := by omega
      have g2 : ¬ n ≥ a := by omega
      rw [Int.tdiv_eq_ediv_of_nonneg (by omega), Int.tmod_eq_emod_of_nonneg (by omega), wrap64 (by omega) (by omega)]
      simp only [table, if_pos h, if_pos hm, g1, g2, decide_false, cond_false]
      rw [if_pos (show 0 ≤ n / 2 ∧ n / 2 < (a + 1) / 2 by omega)]
      simp
    · by_cases g1 : n < 0
      · simp [table, h, hm, g1]
      · have g2 : n ≥ a := by omega
        simp [table, h, hm, g1, g2]
  · have e1 : sectors a b c = ((parts a b c).length : Int) := by simp [sectors, parts, h]
    have e2 : placeB (extent a b c n).1 (extent a b c n).2 a b c 3 n = true := by simp [placeB, extent, first_bad h, h]
    have e3 : placeB (slotAt a b c n).1 (slotAt a b c n).2 a b c 4 n = true := by simp [placeB, slotAt, first_bad h, h]
    rw [e1, e2, e3, chk_ne h]
    simp [superAt, journalAt, logAt, table, h]
end Go.Proofs.R1
