/- What the functions that ClientDoesSaid reaches compute: part 1. -/
import Derived.Test.YtilcmignaebneaaAe3
import Derived.Test.YtilcmignaebneaaProg
import Derived.Test.YtilcmignaebneaaChecked
import Derived.Eval
set_option linter.unusedVariables false
set_option linter.unusedSimpArgs false
namespace Go.Proofs.R8
open Go Go.AE
theorem get_map {α : Type} (f : α → α) (l : List α) (j : Nat) (h : j < l.length) : ((l.take j).map f ++ l.drop j)[j]? = some l[j] := by
  rw [List.getElem?_append_right (by simp; omega), List.length_map, List.length_take, Nat.min_eq_left (by omega), Nat.sub_self, List.getElem?_drop, Nat.add_zero, List.getElem?_eq_getElem h]
theorem set_map {α : Type} (f : α → α) (l : List α) (j : Nat) (h : j < l.length) : ((l.take j).map f ++ l.drop j).set j (f l[j]) = (l.take (j + 1)).map f ++ l.drop (j + 1) := by
  rw [List.set_append_right _ _ (by simp; omega), List.length_map, List.length_take, Nat.min_eq_left (by omega), Nat.sub_self, List.drop_eq_getElem_cons h, List.set_cons_zero,
    List.take_add_one, List.getElem?_eq_getElem h, List.map_append, List.append_assoc]
  rfl
theorem len_map {α : Type} (f : α → α) (l : List α) (j : Nat) (h : j ≤ l.length) : ((l.take j).map f ++ l.drop j).length = l.length := by simp; omega

/-- How many kept writes are ahead, when the first ones are kept no more. -/
def low (a : Int) (p : Int × Int) : Int × Int := (p.1, if 0 > p.2 - a then 0 else p.2 - a)
/-- The first flush of a number, and what is left. -/
def firstI (id : Int) : List (Int × Int) → Option (Int × List (Int × Int))
  | [] => none
  | p :: r => if p.1 = id then some (p.2, r) else match firstI id r with
    | some (a, r') => some (a, p :: r')
    | none => none
theorem firstI_some {id : Int} : ∀ {l : List (Int × Int)} {a : Int} {r : List (Int × Int)}, firstI id l = some (a, r) → ∃ i, ∃ h : i < l.length, l[i].1 = id ∧ l[i].2 = a ∧ r = l.take i ++ l.drop (i + 1) ∧ ∀ j (hj : j < i), l[j].1 ≠ id
  | [], _, _, h => by cases h
  | p :: l, a, r, h => by
    rw [firstI] at h
    by_cases hp : p.1 = id
    · rw [if_pos hp] at h
      cases h
      exact ⟨0, by simp, hp, rfl, by simp, fun j hj => by omega⟩
    · rw [if_neg hp] at h
      cases hf : firstI id l with
      | none => rw [hf] at h; cases h
      | some q =>
        obtain ⟨a', r'⟩ := q
        rw [hf] at h
        cases h
        obtain ⟨i, hi, h1, h2, h3, h4⟩ := firstI_some hf
        refine ⟨i + 1, by simp; omega, by simpa using h1, by simpa using h2, by simp [h3], fun j hj => ?_⟩
        cases j with
        | zero => exact hp
        | succ j => simpa using h4 j (by omega)
theorem firstI_none {id : Int} : ∀ {l : List (Int × Int)}, firstI id l = none → ∀ p ∈ l, p.1 ≠ id
  | [], _, p, hp => by cases hp
  | q :: l, h, p, hp => by
    rw [firstI] at h
    by_cases hq : q.1 = id
    · rw [if_pos hq] at h; cases h
    · rw [if_neg hq] at h
      cases hf : firstI id l with
      | some x => rw [hf] at h; cases h
      | none =>
        rcases List.mem_cons.1 hp with rfl | hp
        · exact hq
        · exact firstI_none hf p hp
end Go.Proofs.R8
namespace Go.Proofs
instance Try.bt : Go.AE.BT := ⟨5, 1000000000, [(27, "Events", 39), (27, "Flush", 40), (27, "Read", 41), (27, "Write", 42), (32, "Flush", 10), (32, "Read", 20), (32, "Write", 9)]⟩
def Try.tab : Go.AE.Tab := [
  (1, ⟨.sc, 1, 8, [.nilf], none⟩),
  (2, ⟨.sc, 1, 8, [.int .i64 0], some (.int .i64)⟩),
  (3, ⟨.sc, 1, 8, [.int .i64 0], some (.int .i64)⟩),
  (4, ⟨.sc, 1, 1, [.bool false], some .bool⟩),
  (5, ⟨.sc, 1, 1, [.int .u8 0], some (.int .u8)⟩),
  (7, ⟨.struct [(2, 0), (3, 1), (4, 2), (6, 3)], 4, 24, [.int .i64 0, .int .i64 0, .bool false, .int .u8 0], some (.st (.pair (.int .i64) (.pair (.int .i64) (.pair .bool (.int .u8)))))⟩),
  (9, ⟨.sc, 1, 16, [.str []], some .str⟩),
  (12, ⟨.sc, 1, 8, [.int .u64 0], some (.int .u64)⟩),
  (20, ⟨.sc, 1, 16, [.nili], none⟩),
  (21, ⟨.sc, 1, 4, [.int .i32 0], some (.int .i32)⟩),
  (22, ⟨.slice 39, 1, 24, [.nils], some (.list (.st (.pair (.int .i64) (.pair (.int .i64) (.pair .str (.pair (.int .i64) (.pair (.int .i64) (.pair (.int .i64) (.pair (.pair (.int .i64) (.pair (.int .i64) (.pair (.int .i64) .str))) (.list (.int .i64)))))))))))⟩),
  (23, ⟨.slice 40, 1, 24, [.nils], some (.list (.int .i64))⟩),
  (24, ⟨.slice 3, 1, 24, [.nils], some (.list (.int .i64))⟩),
  (25, ⟨.sc, 1, 8, [.nilf], none⟩),
  (26, ⟨.sc, 1, 8, [.nilf], none⟩),
  (27, ⟨.ptr 31, 1, 8, [.nilp], none⟩),
  (28, ⟨.slice 54, 1, 24, [.nils], some (.list (.st (.pair (.int .i64) (.int .i64))))⟩),
  (29, ⟨.slice 71, 1, 24, [.nils], some (.list (.st (.pair (.int .i64) .str)))⟩),
  (30, ⟨.struct [(23, 0), (24, 1), (28, 2), (29, 3), (3, 4), (3, 5)], 6, 112, [.nils, .nils, .nils, .nils, .int .i64 0, .int .i64 0], some (.st (.pair (.list (.int .i64)) (.pair (.list (.int .i64)) (.pair (.list (.st (.pair (.int .i64) (.int .i64)))) (.pair (.list (.st (.pair (.int .i64) .str))) (.pair (.int .i64) (.int .i64)))))))⟩),
  (31, ⟨.struct [(23, 0), (24, 1), (28, 2), (29, 3), (3, 4), (3, 5)], 6, 112, [.nils, .nils, .nils, .nils, .int .i64 0, .int .i64 0], some (.st (.pair (.list (.int .i64)) (.pair (.list (.int .i64)) (.pair (.list (.st (.pair (.int .i64) (.int .i64)))) (.pair (.list (.st (.pair (.int .i64) .str))) (.pair (.int .i64) (.int .i64)))))))⟩),
  (32, ⟨.ptr 67, 1, 8, [.nilp], none⟩),
  (33, ⟨.sc, 1, 8, [.nilf], none⟩),
  (34, ⟨.struct [(3, 0), (3, 1), (3, 2), (9, 3)], 4, 40, [.int .i64 0, .int .i64 0, .int .i64 0, .str []], some (.st (.pair (.int .i64) (.pair (.int .i64) (.pair (.int .i64) .str))))⟩),
  (35, ⟨.struct [(3, 0), (3, 1), (3, 2), (9, 3)], 4, 40, [.int .i64 0, .int .i64 0, .int .i64 0, .str []], some (.st (.pair (.int .i64) (.pair (.int .i64) (.pair (.int .i64) .str))))⟩),
  (36, ⟨.struct [(3, 0), (3, 1), (3, 2), (35, 3), (24, 7)], 8, 88, [.int .i64 0, .int .i64 0, .int .i64 0, .int .i64 0, .int .i64 0, .int .i64 0, .str [], .nils], some (.st (.pair (.int .i64) (.pair (.int .i64) (.pair (.int .i64) (.pair (.pair (.int .i64) (.pair (.int .i64) (.pair (.int .i64) .str))) (.list (.int .i64)))))))⟩),
  (37, ⟨.struct [(3, 0), (3, 1), (3, 2), (35, 3), (24, 7)], 8, 88, [.int .i64 0, .int .i64 0, .int .i64 0, .int .i64 0, .int .i64 0, .int .i64 0, .str [], .nils], some (.st (.pair (.int .i64) (.pair (.int .i64) (.pair (.int .i64) (.pair (.pair (.int .i64) (.pair (.int .i64) (.pair (.int .i64) .str))) (.list (.int .i64)))))))⟩),
  (38, ⟨.struct [(3, 0), (3, 1), (9, 2), (37, 3)], 11, 120, [.int .i64 0, .int .i64 0, .str [], .int .i64 0, .int .i64 0, .int .i64 0, .int .i64 0, .int .i64 0, .int .i64 0, .str [], .nils], some (.st (.pair (.int .i64) (.pair (.int .i64) (.pair .str (.pair (.int .i64) (.pair (.int .i64) (.pair (.int .i64) (.pair (.pair (.int .i64) (.pair (.int .i64) (.pair (.int .i64) .str))) (.list (.int .i64))))))))))⟩),
  (39, ⟨.struct [(3, 0), (3, 1), (9, 2), (37, 3)], 11, 120, [.int .i64 0, .int .i64 0, .str [], .int .i64 0, .int .i64 0, .int .i64 0, .int .i64 0, .int .i64 0, .int .i64 0, .str [], .nils], some (.st (.pair (.int .i64) (.pair (.int .i64) (.pair .str (.pair (.int .i64) (.pair (.int .i64) (.pair (.int .i64) (.pair (.pair (.int .i64) (.pair (.int .i64) (.pair (.int .i64) .str))) (.list (.int .i64))))))))))⟩),
  (40, ⟨.sc, 1, 8, [.int .i64 0], some (.int .i64)⟩),
  (41, ⟨.sc, 1, 8, [.nilf], none⟩),
  (43, ⟨.sc, 1, 8, [.nilf], none⟩),
  (44, ⟨.sc, 1, 8, [.nilf], none⟩),
  (45, ⟨.sc, 1, 8, [.nilf], none⟩),
  (46, ⟨.sc, 1, 8, [.nilf], none⟩),
  (47, ⟨.sc, 1, 8, [.nilf], none⟩),
  (48, ⟨.sc, 1, 8, [.nilf], none⟩),
  (49, ⟨.ptr 52, 1, 8, [.nilp], none⟩),
  (50, ⟨.slice 76, 1, 24, [.nils], some (.list (.st (.pair (.int .i64) (.int .i64))))⟩),
  (51, ⟨.struct [(29, 0), (50, 1)], 2, 48, [.nils, .nils], some (.st (.pair (.list (.st (.pair (.int .i64) .str))) (.list (.st (.pair (.int .i64) (.int .i64))))))⟩),
  (52, ⟨.struct [(29, 0), (50, 1)], 2, 48, [.nils, .nils], some (.st (.pair (.list (.st (.pair (.int .i64) .str))) (.list (.st (.pair (.int .i64) (.int .i64))))))⟩),
  (53, ⟨.struct [(3, 0), (3, 1)], 2, 16, [.int .i64 0, .int .i64 0], some (.st (.pair (.int .i64) (.int .i64)))⟩),
  (54, ⟨.struct [(3, 0), (3, 1)], 2, 16, [.int .i64 0, .int .i64 0], some (.st (.pair (.int .i64) (.int .i64)))⟩),
  (56, ⟨.sc, 1, 8, [.nilf], none⟩),
  (57, ⟨.sc, 1, 8, [.nilf], none⟩),
  (58, ⟨.sc, 1, 8, [.nilf], none⟩),
  (60, ⟨.sc, 1, 8, [.nilf], none⟩),
  (61, ⟨.sc, 1, 8, [.nilf], none⟩),
  (62, ⟨.sc, 1, 16, [.nili], none⟩),
  (63, ⟨.sc, 1, 16, [.nili], none⟩),
  (64, ⟨.array 2 63, 2, 32, [.nili, .nili], none⟩),
  (65, ⟨.slice 74, 1, 24, [.nils], some (.list (.st (.pair (.int .i64) (.int .i64))))⟩),
  (66, ⟨.struct [(64, 0), (3, 2), (29, 3), (65, 4)], 5, 88, [.nili, .nili, .int .i64 0, .nils, .nils], none⟩),
  (67, ⟨.struct [(64, 0), (3, 2), (29, 3), (65, 4)], 5, 88, [.nili, .nili, .int .i64 0, .nils, .nils], none⟩),
  (68, ⟨.sc, 1, 8, [.nilf], none⟩),
  (69, ⟨.sc, 1, 8, [.nilf], none⟩),
  (70, ⟨.struct [(3, 0), (9, 1)], 2, 24, [.int .i64 0, .str []], some (.st (.pair (.int .i64) .str))⟩),
  (71, ⟨.struct [(3, 0), (9, 1)], 2, 24, [.int .i64 0, .str []], some (.st (.pair (.int .i64) .str))⟩),
  (72, ⟨.sc, 1, 8, [.nilf], none⟩),
  (73, ⟨.struct [(3, 0), (3, 1)], 2, 16, [.int .i64 0, .int .i64 0], some (.st (.pair (.int .i64) (.int .i64)))⟩),
  (74, ⟨.struct [(3, 0), (3, 1)], 2, 16, [.int .i64 0, .int .i64 0], some (.st (.pair (.int .i64) (.int .i64)))⟩),
  (75, ⟨.struct [(3, 0), (3, 1)], 2, 16, [.int .i64 0, .int .i64 0], some (.st (.pair (.int .i64) (.int .i64)))⟩),
  (76, ⟨.struct [(3, 0), (3, 1)], 2, 16, [.int .i64 0, .int .i64 0], some (.st (.pair (.int .i64) (.int .i64)))⟩),
  (77, ⟨.sc, 1, 8, [.nilf], none⟩),
  (78, ⟨.sc, 1, 8, [.nilf], none⟩),
  (84, ⟨.sc, 1, 4, [.int .u32 0], some (.int .u32)⟩),
  (87, ⟨.sc, 1, 8, [.nilf], none⟩),
  (88, ⟨.ptr 5, 1, 8, [.nilp], none⟩)]
end Go.Proofs
namespace Go.Proofs.R8
open Go Go.AE
theorem tabOk : TabOk Try.prog Try.tab := tabOk_of_check (by kernel_rfl)
theorem mixed : Try.prog.follows .mixedOrders = true := Checked.mixed Try.checked
end Go.Proofs.R8
namespace Go.Proofs.R8
open Go Go.AE
set_option maxRecDepth 100000
--@ client_New
noncomputable def envq16 : Env := []
theorem envq16Ok : EnvOk Try.prog envq16 := EnvOk.nil
noncomputable def bq16 : Code := Try.f8.body.getD .skip
noncomputable def annq16 : Ann := .none
theorem annq16_ok : AnnOk Try.prog 10 bq16 annq16 := (annOk_none _ _ _)
abbrev Aq16 := (Int) × (Int) × (Int) × (Int) × (List Int) × (List Int) × (List (Int × Int)) × (List (Int × List UInt8)) × (List Int) × (List Int) × (List (Int × Int)) × (List (Int × List UInt8))
abbrev Yq16 := Unit
def fnq16 {β : Type} : Aq16 → (Yq16 → Option β) → Option β := fun (o0_4,o0_5,o1_4,o1_5,o2,o3,o4,o5,o6,o7,o8,o9) exit => (exit ())
def fnDq16 (a : Aq16) : Option Yq16 := fnq16 a some
theorem fnq16_nat (a : Aq16) (k : Yq16 → Ans) : fnq16 a k = bindO (fnDq16 a) k := by
  obtain ⟨o0_4,o0_5,o1_4,o1_5,o2,o3,o4,o5,o6,o7,o8,o9⟩ := a
  simp only [fnDq16,fnq16,bindO_cond,bindO_assoc,bindO_none,bindO_pure,bindO_elim,bindO_unP,bindO_empty]
def argsq16 : Aq16 → List AV × List AE.Obj := fun (o0_4,o0_5,o1_4,o1_5,o2,o3,o4,o5,o6,o7,o8,o9) => ([.ifc 27 (.ptr 0 0),.ifc 27 (.ptr 1 0)],[.cells [.own 2,.own 3,.own 4,.own 5,.int .i64 o0_4,.int .i64 o0_5],.cells [.own 6,.own 7,.own 8,.own 9,.int .i64 o1_4,.int .i64 o1_5],.arr (.int .i64) o2,.arr (.int .i64) o3,.arr (.st (.pair (.int .i64) (.int .i64))) o4,.arr (.st (.pair (.int .i64) .str)) o5,.arr (.int .i64) o6,.arr (.int .i64) o7,.arr (.st (.pair (.int .i64) (.int .i64))) o8,.arr (.st (.pair (.int .i64) .str)) o9])
def decPAq16 (l : List AV) (H : List AE.Obj) : Option {a : Aq16 // (l,H) = argsq16 a} := match l,H with
  | [.ifc 27 (.ptr 0 0),.ifc 27 (.ptr 1 0)],[.cells [.own 2,.own 3,.own 4,.own 5,.int .i64 o0_4,.int .i64 o0_5],.cells [.own 6,.own 7,.own 8,.own 9,.int .i64 o1_4,.int .i64 o1_5],.arr (.int .i64) o2,.arr (.int .i64) o3,.arr (.st (.pair (.int .i64) (.int .i64))) o4,.arr (.st (.pair (.int .i64) .str)) o5,.arr (.int .i64) o6,.arr (.int .i64) o7,.arr (.st (.pair (.int .i64) (.int .i64))) o8,.arr (.st (.pair (.int .i64) .str)) o9] => some ⟨(o0_4,o0_5,o1_4,o1_5,o2,o3,o4,o5,o6,o7,o8,o9),rfl⟩
  | _,_ => none
def decAq16 (l : List AV) (H : List AE.Obj) : Option Aq16 := pk (decPAq16 l H)
theorem decAq16_ok (l : List AV) (H : List AE.Obj) (a : Aq16) (h : decAq16 l H = some a) : (l,H) = argsq16 a := pk_ok (o := decPAq16 l H) h
def outq16 : Aq16 → (AV → List AE.Obj → Ans) → Yq16 → Ans := fun (o0_4,o0_5,o1_4,o1_5,o2,o3,o4,o5,o6,o7,o8,o9) K => fun _ => K (.ptr 10 0) [.cells [.own 2,.own 3,.own 4,.own 5,.int .i64 o0_4,.int .i64 o0_5],.cells [.own 6,.own 7,.own 8,.own 9,.int .i64 o1_4,.int .i64 o1_5],.arr (.int .i64) o2,.arr (.int .i64) o3,.arr (.st (.pair (.int .i64) (.int .i64))) o4,.arr (.st (.pair (.int .i64) .str)) o5,.arr (.int .i64) o6,.arr (.int .i64) o7,.arr (.st (.pair (.int .i64) (.int .i64))) o8,.arr (.st (.pair (.int .i64) .str)) o9,.cells [.ifc 27 (.ptr 0 0),.ifc 27 (.ptr 1 0),.int .i64 (0),.own 11,.own 12],.arr (.st (.pair (.int .i64) .str)) ([]),.arr (.st (.pair (.int .i64) (.int .i64))) ([])]
theorem fnq16_ok (a : Aq16) (K : AV → List AE.Obj → Ans) : fnE Try.tab envq16 noHint 0 70 8 Try.f8.ntmps Try.f8.results.toList annq16 bq16 (argsq16 a).1 (argsq16 a).2 K = fnq16 a (outq16 a K) := by kernel_rfl
def vFq16 (a : Aq16) (K : AV → List AE.Obj → Ans) : Ans := bindO (fnDq16 a) fun y => outq16 a K y
def Fq16 : List AV → List AE.Obj → (AV → List AE.Obj → Ans) → Ans := fun l H K => bindO (decAq16 l H) fun a => vFq16 a K
theorem Fq16_ok : FuncOk Try.prog 8 Fq16 := func_mkD (hint := noHint) (d := 0) (n := 70) mixed tabOk envq16Ok Try.func8 (bodySome (by kernel_rfl)) (by decide +kernel) annq16_ok decAq16_ok fnq16_ok fnq16_nat
--@ client_Client_server
noncomputable def envq14 : Env := []
theorem envq14Ok : EnvOk Try.prog envq14 := EnvOk.nil
noncomputable def bq14 : Code := Try.f21.body.getD .skip
noncomputable def annq14 : Ann := .none
theorem annq14_ok : AnnOk Try.prog 14 bq14 annq14 := (annOk_none _ _ _)
abbrev Aq14 := (Int) × (Int) × (Int) × (Int) × (Int) × (List (Int × List UInt8)) × (List (Int × Int)) × (List Int) × (List Int) × (List (Int × Int)) × (List (Int × List UInt8)) × (List Int) × (List Int) × (List (Int × Int)) × (List (Int × List UInt8))
abbrev Yq14 := (Unit) ⊕ (Unit)
def fnq14 {β : Type} : Aq14 → (Yq14 → Option β) → Option β := fun (o0_2,o1_4,o1_5,o2_4,o2_5,o3,o4,o5,o6,o7,o8,o9,o10,o11,o12) exit => (bif o0_2 == (0 : Int) then (exit (Sum.inl ())) else (bif o0_2 == (1 : Int) then (exit (Sum.inr ())) else none))
def fnDq14 (a : Aq14) : Option Yq14 := fnq14 a some
theorem fnq14_nat (a : Aq14) (k : Yq14 → Ans) : fnq14 a k = bindO (fnDq14 a) k := by
  obtain ⟨o0_2,o1_4,o1_5,o2_4,o2_5,o3,o4,o5,o6,o7,o8,o9,o10,o11,o12⟩ := a
  simp only [fnDq14,fnq14,bindO_cond,bindO_assoc,bindO_none,bindO_pure,bindO_elim,bindO_unP,bindO_empty]
def argsq14 : Aq14 → List AV × List AE.Obj := fun (o0_2,o1_4,o1_5,o2_4,o2_5,o3,o4,o5,o6,o7,o8,o9,o10,o11,o12) => ([.ptr 0 0],[.cells [.ifc 27 (.ptr 1 0),.ifc 27 (.ptr 2 0),.int .i64 o0_2,.own 3,.own 4],.cells [.own 5,.own 6,.own 7,.own 8,.int .i64 o1_4,.int .i64 o1_5],.cells [.own 9,.own 10,.own 11,.own 12,.int .i64 o2_4,.int .i64 o2_5],.arr (.st (.pair (.int .i64) .str)) o3,.arr (.st (.pair (.int .i64) (.int .i64))) o4,.arr (.int .i64) o5,.arr (.int .i64) o6,.arr (.st (.pair (.int .i64) (.int .i64))) o7,.arr (.st (.pair (.int .i64) .str)) o8,.arr (.int .i64) o9,.arr (.int .i64) o10,.arr (.st (.pair (.int .i64) (.int .i64))) o11,.arr (.st (.pair (.int .i64) .str)) o12])
def decPAq14 (l : List AV) (H : List AE.Obj) : Option {a : Aq14 // (l,H) = argsq14 a} := match l,H with
  | [.ptr 0 0],[.cells [.ifc 27 (.ptr 1 0),.ifc 27 (.ptr 2 0),.int .i64 o0_2,.own 3,.own 4],.cells [.own 5,.own 6,.own 7,.own 8,.int .i64 o1_4,.int .i64 o1_5],.cells [.own 9,.own 10,.own 11,.own 12,.int .i64 o2_4,.int .i64 o2_5],.arr (.st (.pair (.int .i64) .str)) o3,.arr (.st (.pair (.int .i64) (.int .i64))) o4,.arr (.int .i64) o5,.arr (.int .i64) o6,.arr (.st (.pair (.int .i64) (.int .i64))) o7,.arr (.st (.pair (.int .i64) .str)) o8,.arr (.int .i64) o9,.arr (.int .i64) o10,.arr (.st (.pair (.int .i64) (.int .i64))) o11,.arr (.st (.pair (.int .i64) .str)) o12] => some ⟨(o0_2,o1_4,o1_5,o2_4,o2_5,o3,o4,o5,o6,o7,o8,o9,o10,o11,o12),rfl⟩
  | _,_ => none
def decAq14 (l : List AV) (H : List AE.Obj) : Option Aq14 := pk (decPAq14 l H)
theorem decAq14_ok (l : List AV) (H : List AE.Obj) (a : Aq14) (h : decAq14 l H = some a) : (l,H) = argsq14 a := pk_ok (o := decPAq14 l H) h
def outq14 : Aq14 → (AV → List AE.Obj → Ans) → Yq14 → Ans := fun (o0_2,o1_4,o1_5,o2_4,o2_5,o3,o4,o5,o6,o7,o8,o9,o10,o11,o12) K => (Sum.elim (fun _ => K (.ifc 27 (.ptr 1 0)) [.cells [.ifc 27 (.ptr 1 0),.ifc 27 (.ptr 2 0),.int .i64 o0_2,.own 3,.own 4],.cells [.own 5,.own 6,.own 7,.own 8,.int .i64 o1_4,.int .i64 o1_5],.cells [.own 9,.own 10,.own 11,.own 12,.int .i64 o2_4,.int .i64 o2_5],.arr (.st (.pair (.int .i64) .str)) o3,.arr (.st (.pair (.int .i64) (.int .i64))) o4,.arr (.int .i64) o5,.arr (.int .i64) o6,.arr (.st (.pair (.int .i64) (.int .i64))) o7,.arr (.st (.pair (.int .i64) .str)) o8,.arr (.int .i64) o9,.arr (.int .i64) o10,.arr (.st (.pair (.int .i64) (.int .i64))) o11,.arr (.st (.pair (.int .i64) .str)) o12]) (fun _ => K (.ifc 27 (.ptr 2 0)) [.cells [.ifc 27 (.ptr 1 0),.ifc 27 (.ptr 2 0),.int .i64 o0_2,.own 3,.own 4],.cells [.own 5,.own 6,.own 7,.own 8,.int .i64 o1_4,.int .i64 o1_5],.cells [.own 9,.own 10,.own 11,.own 12,.int .i64 o2_4,.int .i64 o2_5],.arr (.st (.pair (.int .i64) .str)) o3,.arr (.st (.pair (.int .i64) (.int .i64))) o4,.arr (.int .i64) o5,.arr (.int .i64) o6,.arr (.st (.pair (.int .i64) (.int .i64))) o7,.arr (.st (.pair (.int .i64) .str)) o8,.arr (.int .i64) o9,.arr (.int .i64) o10,.arr (.st (.pair (.int .i64) (.int .i64))) o11,.arr (.st (.pair (.int .i64) .str)) o12]))
theorem fnq14_ok (a : Aq14) (K : AV → List AE.Obj → Ans) : fnE Try.tab envq14 noHint 0 70 21 Try.f21.ntmps Try.f21.results.toList annq14 bq14 (argsq14 a).1 (argsq14 a).2 K = fnq14 a (outq14 a K) := by kernel_rfl
def vFq14 (a : Aq14) (K : AV → List AE.Obj → Ans) : Ans := bindO (fnDq14 a) fun y => outq14 a K y
def Fq14 : List AV → List AE.Obj → (AV → List AE.Obj → Ans) → Ans := fun l H K => bindO (decAq14 l H) fun a => vFq14 a K
theorem Fq14_ok : FuncOk Try.prog 21 Fq14 := func_mkD (hint := noHint) (d := 0) (n := 70) mixed tabOk envq14Ok Try.func21 (bodySome (by kernel_rfl)) (by decide +kernel) annq14_ok decAq14_ok fnq14_ok fnq14_nat
--@ law44_Tape_next
noncomputable def envq27 : Env := []
theorem envq27Ok : EnvOk Try.prog envq27 := EnvOk.nil
noncomputable def bq27 : Code := Try.f15.body.getD .skip
noncomputable def Lq27_n1 : Code := codeAt [1,1,1,1,1,1,1,0,1] bq27
noncomputable def annLq27_n1 : Ann := .none
theorem annLq27_n1_ok : AnnOk Try.prog 73 Lq27_n1 annLq27_n1 := (annOk_none _ _ _)
abbrev Iq27_n1 := (Bool) × (Int) × (Int) × (List Int) × (List Int) × (List (Int × Int)) × (List (Int × List UInt8)) × (Int)
abbrev Yq27_n1 := (Int)
def Sq27_n1 : Iq27_n1 → St := fun (t59,o0_4,o0_5,o1,o2,o3,o4,o6_0) => { env := [(0,.ptr 0 0),(2,.ptr 5 0),(5,.ptr 6 0),(59,.bool t59)],stk := [[(0,.ptr 0 0)]],H := [.cells [.own 1,.own 2,.own 3,.own 4,.int .i64 o0_4,.int .i64 o0_5],.arr (.int .i64) o1,.arr (.int .i64) o2,.arr (.st (.pair (.int .i64) (.int .i64))) o3,.arr (.st (.pair (.int .i64) .str)) o4,.cells [.int .i64 (0),.int .i64 (0)],.cells [.int .i64 o6_0,.int .i64 (0)]],blk := 61440 }
def decPq27_n1 (s : St) : Option {x : Iq27_n1 // s = Sq27_n1 x} := match s with
  | { env := [(0,.ptr 0 0),(2,.ptr 5 0),(5,.ptr 6 0),(59,.bool t59)],stk := [[(0,.ptr 0 0)]],H := [.cells [.own 1,.own 2,.own 3,.own 4,.int .i64 o0_4,.int .i64 o0_5],.arr (.int .i64) o1,.arr (.int .i64) o2,.arr (.st (.pair (.int .i64) (.int .i64))) o3,.arr (.st (.pair (.int .i64) .str)) o4,.cells [.int .i64 r7,.int .i64 r8],.cells [.int .i64 o6_0,.int .i64 r10]],blk := 61440 } => if h7 : r7 = 0 then if h8 : r8 = 0 then if h10 : r10 = 0 then some ⟨(t59,o0_4,o0_5,o1,o2,o3,o4,o6_0),by subst h7 h8 h10; rfl⟩ else none else none else none
  | _ => none
def decq27_n1 (s : St) : Option Iq27_n1 := pk (decPq27_n1 s)
theorem decq27_n1_ok (s : St) (x : Iq27_n1) (h : decq27_n1 s = some x) : s = Sq27_n1 x := pk_ok (o := decPq27_n1 s) h
def outq27_n1 : Iq27_n1 → (Ex → St → Ans) → Yq27_n1 → Ans := fun (t59,o0_4,o0_5,o1,o2,o3,o4,o6_0) K => fun o6_1_y => K (Ex.norm) { env := [(2,.ptr 5 0),(5,.ptr 6 0)],stk := [[(0,.ptr 0 0)]],H := [.cells [.own 1,.own 2,.own 3,.own 4,.int .i64 o0_4,.int .i64 o0_5],.arr (.int .i64) o1,.arr (.int .i64) o2,.arr (.st (.pair (.int .i64) (.int .i64))) o3,.arr (.st (.pair (.int .i64) .str)) o4,.cells [.int .i64 (0),.int .i64 (0)],.cells [.int .i64 o6_0,.int .i64 o6_1_y]],blk := 61440 }
def nodeq27_n1 {β : Type} : Iq27_n1 → (Yq27_n1 → Option β) → Option β := fun (t59,o0_4,o0_5,o1,o2,o3,o4,o6_0) exit => (bif t59 then (bif inR (IntKind.wrap .i64 (o0_5 - (1 : Int))) (List.length o2) then (bindO (o2[Int.toNat (IntKind.wrap .i64 (o0_5 - (1 : Int)))]?) fun x => (exit (x))) else none) else (exit ((0 : Int))))
def nodeDq27_n1 (i : Iq27_n1) : Option Yq27_n1 := nodeq27_n1 i some
theorem nodeq27_n1_nat (i : Iq27_n1) (k : Yq27_n1 → Ans) : nodeq27_n1 i k = bindO (nodeDq27_n1 i) k := by
  obtain ⟨t59,o0_4,o0_5,o1,o2,o3,o4,o6_0⟩ := i
  simp only [nodeDq27_n1,nodeq27_n1,bindO_cond,bindO_assoc,bindO_none,bindO_pure,bindO_elim,bindO_unP,bindO_empty]
theorem nodeq27_n1_ok (i : Iq27_n1) (K : Ex → St → Ans) : codeI Try.tab envq27 noHint (codeD Try.tab envq27 noHint 0 64) 70 73 annLq27_n1 Lq27_n1 (weakP 5 (exk [2,5] [2,3] []) K) (Sq27_n1 i) = nodeq27_n1 i (outq27_n1 i K) := by kernel_rfl
theorem GNq27_n1_ok : CSum Try.prog 73 Lq27_n1 (sumN decq27_n1 nodeDq27_n1 outq27_n1) := csum_node mixed tabOk envq27Ok 5 (exk [2,5] [2,3] []) annLq27_n1_ok decq27_n1_ok nodeq27_n1_ok nodeq27_n1_nat
noncomputable def Gq27_n1 : (Ex → St → Ans) → St → Ans := (sumN decq27_n1 nodeDq27_n1 outq27_n1)
theorem Gq27_n1_ok : CSum Try.prog 73 Lq27_n1 Gq27_n1 := GNq27_n1_ok
noncomputable def Lq27_n0 : Code := codeAt [1,1,1,0,1] bq27
noncomputable def annLq27_n0 : Ann := .none
theorem annLq27_n0_ok : AnnOk Try.prog 73 Lq27_n0 annLq27_n0 := (annOk_none _ _ _)
abbrev Iq27_n0 := (Bool) × (Int) × (Int) × (List Int) × (List Int) × (List (Int × Int)) × (List (Int × List UInt8))
abbrev Yq27_n0 := (Int)
def Sq27_n0 : Iq27_n0 → St := fun (t22,o0_4,o0_5,o1,o2,o3,o4) => { env := [(0,.ptr 0 0),(2,.ptr 5 0),(4,.int .i64 (0)),(22,.bool t22)],stk := [[(0,.ptr 0 0)]],H := [.cells [.own 1,.own 2,.own 3,.own 4,.int .i64 o0_4,.int .i64 o0_5],.arr (.int .i64) o1,.arr (.int .i64) o2,.arr (.st (.pair (.int .i64) (.int .i64))) o3,.arr (.st (.pair (.int .i64) .str)) o4,.cells [.int .i64 (0),.int .i64 (0)]],blk := 61440 }
def decPq27_n0 (s : St) : Option {x : Iq27_n0 // s = Sq27_n0 x} := match s with
  | { env := [(0,.ptr 0 0),(2,.ptr 5 0),(4,.int .i64 r0),(22,.bool t22)],stk := [[(0,.ptr 0 0)]],H := [.cells [.own 1,.own 2,.own 3,.own 4,.int .i64 o0_4,.int .i64 o0_5],.arr (.int .i64) o1,.arr (.int .i64) o2,.arr (.st (.pair (.int .i64) (.int .i64))) o3,.arr (.st (.pair (.int .i64) .str)) o4,.cells [.int .i64 r8,.int .i64 r9]],blk := 61440 } => if h0 : r0 = 0 then if h8 : r8 = 0 then if h9 : r9 = 0 then some ⟨(t22,o0_4,o0_5,o1,o2,o3,o4),by subst h0 h8 h9; rfl⟩ else none else none else none
  | _ => none
def decq27_n0 (s : St) : Option Iq27_n0 := pk (decPq27_n0 s)
theorem decq27_n0_ok (s : St) (x : Iq27_n0) (h : decq27_n0 s = some x) : s = Sq27_n0 x := pk_ok (o := decPq27_n0 s) h
def outq27_n0 : Iq27_n0 → (Ex → St → Ans) → Yq27_n0 → Ans := fun (t22,o0_4,o0_5,o1,o2,o3,o4) K => fun t4_y => K (Ex.norm) { env := [(0,.ptr 0 0),(2,.ptr 5 0),(4,.int .i64 t4_y)],stk := [[(0,.ptr 0 0)]],H := [.cells [.own 1,.own 2,.own 3,.own 4,.int .i64 o0_4,.int .i64 o0_5],.arr (.int .i64) o1,.arr (.int .i64) o2,.arr (.st (.pair (.int .i64) (.int .i64))) o3,.arr (.st (.pair (.int .i64) .str)) o4,.cells [.int .i64 (0),.int .i64 (0)]],blk := 61440 }
def nodeq27_n0 {β : Type} : Iq27_n0 → (Yq27_n0 → Option β) → Option β := fun (t22,o0_4,o0_5,o1,o2,o3,o4) exit => (bif t22 then (bif inR (IntKind.wrap .i64 (o0_4 - (1 : Int))) (List.length o1) then (bindO (o1[Int.toNat (IntKind.wrap .i64 (o0_4 - (1 : Int)))]?) fun x => (exit (x))) else none) else (exit ((0 : Int))))
def nodeDq27_n0 (i : Iq27_n0) : Option Yq27_n0 := nodeq27_n0 i some
theorem nodeq27_n0_nat (i : Iq27_n0) (k : Yq27_n0 → Ans) : nodeq27_n0 i k = bindO (nodeDq27_n0 i) k := by
  obtain ⟨t22,o0_4,o0_5,o1,o2,o3,o4⟩ := i
  simp only [nodeDq27_n0,nodeq27_n0,bindO_cond,bindO_assoc,bindO_none,bindO_pure,bindO_elim,bindO_unP,bindO_empty]
theorem nodeq27_n0_ok (i : Iq27_n0) (K : Ex → St → Ans) : codeI Try.tab envq27 noHint (codeD Try.tab envq27 noHint 0 64) 70 73 annLq27_n0 Lq27_n0 (weakP 5 (exk [0,2,4] [2,3] []) K) (Sq27_n0 i) = nodeq27_n0 i (outq27_n0 i K) := by kernel_rfl
theorem GNq27_n0_ok : CSum Try.prog 73 Lq27_n0 (sumN decq27_n0 nodeDq27_n0 outq27_n0) := csum_node mixed tabOk envq27Ok 5 (exk [0,2,4] [2,3] []) annLq27_n0_ok decq27_n0_ok nodeq27_n0_ok nodeq27_n0_nat
noncomputable def Gq27_n0 : (Ex → St → Ans) → St → Ans := (sumN decq27_n0 nodeDq27_n0 outq27_n0)
theorem Gq27_n0_ok : CSum Try.prog 73 Lq27_n0 Gq27_n0 := GNq27_n0_ok
noncomputable def annq27 : Ann := (.seq .none (.seq .none (.seq .none (.seq (.seq .none (.cut 5 [0,2,4,22] Gq27_n0)) (.seq .none (.seq .none (.seq .none (.seq (.seq .none (.cut 5 [0,2,5,59] Gq27_n1)) .none))))))))
theorem annq27_ok : AnnOk Try.prog 73 bq27 annq27 := ⟨(annOk_none _ _ _),⟨(annOk_none _ _ _),⟨(annOk_none _ _ _),⟨⟨(annOk_none _ _ _),Gq27_n0_ok⟩,⟨(annOk_none _ _ _),⟨(annOk_none _ _ _),⟨(annOk_none _ _ _),⟨⟨(annOk_none _ _ _),Gq27_n1_ok⟩,(annOk_none _ _ _)⟩⟩⟩⟩⟩⟩⟩⟩
abbrev Aq27 := (Int) × (Int) × (List Int) × (List Int) × (List (Int × Int)) × (List (Int × List UInt8))
abbrev Yq27 := (Int) × (Int) × (Int) × (Int) × (Int)
def fnq27 {β : Type} : Aq27 → (Yq27 → Option β) → Option β := fun (o0_4,o0_5,o1,o2,o3,o4) exit => (bindO (nodeDq27_n0 (decide (IntKind.wrap .i64 (o0_4 + (1 : Int)) ≤ (↑(List.length o1) : Int)),IntKind.wrap .i64 (o0_4 + (1 : Int)),o0_5,o1,o2,o3,o4)) fun t4 => (bif t4 != (0 : Int) then (exit ((0 : Int),(0 : Int),t4,IntKind.wrap .i64 (o0_4 + (1 : Int)),o0_5)) else (bindO (nodeDq27_n1 (decide (IntKind.wrap .i64 (o0_5 + (1 : Int)) ≤ (↑(List.length o2) : Int)),IntKind.wrap .i64 (o0_4 + (1 : Int)),IntKind.wrap .i64 (o0_5 + (1 : Int)),o1,o2,o3,o4,IntKind.wrap .i64 (o0_5 + (1 : Int)))) fun o6_1 => (exit (IntKind.wrap .i64 (o0_5 + (1 : Int)),o6_1,(0 : Int),IntKind.wrap .i64 (o0_4 + (1 : Int)),IntKind.wrap .i64 (o0_5 + (1 : Int)))))))
def fnDq27 (a : Aq27) : Option Yq27 := fnq27 a some
theorem fnq27_nat (a : Aq27) (k : Yq27 → Ans) : fnq27 a k = bindO (fnDq27 a) k := by
  obtain ⟨o0_4,o0_5,o1,o2,o3,o4⟩ := a
  simp only [fnDq27,fnq27,bindO_cond,bindO_assoc,bindO_none,bindO_pure,bindO_elim,bindO_unP,bindO_empty]
def argsq27 : Aq27 → List AV × List AE.Obj := fun (o0_4,o0_5,o1,o2,o3,o4) => ([.ptr 0 0],[.cells [.own 1,.own 2,.own 3,.own 4,.int .i64 o0_4,.int .i64 o0_5],.arr (.int .i64) o1,.arr (.int .i64) o2,.arr (.st (.pair (.int .i64) (.int .i64))) o3,.arr (.st (.pair (.int .i64) .str)) o4])
def decPAq27 (l : List AV) (H : List AE.Obj) : Option {a : Aq27 // (l,H) = argsq27 a} := match l,H with
  | [.ptr 0 0],[.cells [.own 1,.own 2,.own 3,.own 4,.int .i64 o0_4,.int .i64 o0_5],.arr (.int .i64) o1,.arr (.int .i64) o2,.arr (.st (.pair (.int .i64) (.int .i64))) o3,.arr (.st (.pair (.int .i64) .str)) o4] => some ⟨(o0_4,o0_5,o1,o2,o3,o4),rfl⟩
  | _,_ => none
def decAq27 (l : List AV) (H : List AE.Obj) : Option Aq27 := pk (decPAq27 l H)
theorem decAq27_ok (l : List AV) (H : List AE.Obj) (a : Aq27) (h : decAq27 l H = some a) : (l,H) = argsq27 a := pk_ok (o := decPAq27 l H) h
def outq27 : Aq27 → (AV → List AE.Obj → Ans) → Yq27 → Ans := fun (o0_4,o0_5,o1,o2,o3,o4) K => unP fun r_0_0_y => unP fun r_0_1_y => unP fun r_1_y => unP fun o0_4_y o0_5_y => K (.tup [.agg [.int .i64 r_0_0_y,.int .i64 r_0_1_y],.int .i64 r_1_y]) [.cells [.own 1,.own 2,.own 3,.own 4,.int .i64 o0_4_y,.int .i64 o0_5_y],.arr (.int .i64) o1,.arr (.int .i64) o2,.arr (.st (.pair (.int .i64) (.int .i64))) o3,.arr (.st (.pair (.int .i64) .str)) o4]
theorem fnq27_ok (a : Aq27) (K : AV → List AE.Obj → Ans) : fnE Try.tab envq27 noHint 0 70 15 Try.f15.ntmps Try.f15.results.toList annq27 bq27 (argsq27 a).1 (argsq27 a).2 K = fnq27 a (outq27 a K) := by kernel_rfl
def vFq27 (a : Aq27) (K : AV → List AE.Obj → Ans) : Ans := bindO (fnDq27 a) fun y => outq27 a K y
def Fq27 : List AV → List AE.Obj → (AV → List AE.Obj → Ans) → Ans := fun l H K => bindO (decAq27 l H) fun a => vFq27 a K
theorem Fq27_ok : FuncOk Try.prog 15 Fq27 := func_mkD (hint := noHint) (d := 0) (n := 70) mixed tabOk envq27Ok Try.func15 (bodySome (by kernel_rfl)) (by decide +kernel) annq27_ok decAq27_ok fnq27_ok fnq27_nat
--@ law44_Tape_Write
noncomputable def envq25 : Env := [(15,.func Fq27)]
theorem envq25Ok : EnvOk Try.prog envq25 := EnvOk.cons Fq27_ok (EnvOk.nil)
noncomputable def bq25 : Code := Try.f42.body.getD .skip
noncomputable def Lq25_n0 : Code := codeAt [1,1,0,1] bq25
noncomputable def annLq25_n0 : Ann := .none
theorem annLq25_n0_ok : AnnOk Try.prog 33 Lq25_n0 annLq25_n0 := (annOk_none _ _ _)
abbrev Iq25_n0 := (Int) × (List UInt8) × (Int) × (Bool) × (Int) × (Int) × (List Int) × (List Int) × (List (Int × Int)) × (List (Int × List UInt8)) × (Int) × (Int)
abbrev Yq25_n0 := ((List (Int × List UInt8))) ⊕ (Unit)
def Sq25_n0 : Iq25_n0 → St := fun (t1,t2,t9,t16,o0_4,o0_5,o1,o2,o3,o4,o6_0,o6_1) => { env := [(0,.ptr 0 0),(1,.int .i64 t1),(2,.str t2),(6,.ptr 5 0),(8,.ptr 6 0),(9,.int .i64 t9),(16,.bool t16)],stk := [[(0,.ptr 0 0)]],H := [.cells [.own 1,.own 2,.own 3,.own 4,.int .i64 o0_4,.int .i64 o0_5],.arr (.int .i64) o1,.arr (.int .i64) o2,.arr (.st (.pair (.int .i64) (.int .i64))) o3,.arr (.st (.pair (.int .i64) .str)) o4,.cells [.int .i64 (0),.int .i64 (0)],.cells [.int .i64 o6_0,.int .i64 o6_1]],blk := 172032 }
def decPq25_n0 (s : St) : Option {x : Iq25_n0 // s = Sq25_n0 x} := match s with
  | { env := [(0,.ptr 0 0),(1,.int .i64 t1),(2,.str t2),(6,.ptr 5 0),(8,.ptr 6 0),(9,.int .i64 t9),(16,.bool t16)],stk := [[(0,.ptr 0 0)]],H := [.cells [.own 1,.own 2,.own 3,.own 4,.int .i64 o0_4,.int .i64 o0_5],.arr (.int .i64) o1,.arr (.int .i64) o2,.arr (.st (.pair (.int .i64) (.int .i64))) o3,.arr (.st (.pair (.int .i64) .str)) o4,.cells [.int .i64 r10,.int .i64 r11],.cells [.int .i64 o6_0,.int .i64 o6_1]],blk := 172032 } => if h10 : r10 = 0 then if h11 : r11 = 0 then some ⟨(t1,t2,t9,t16,o0_4,o0_5,o1,o2,o3,o4,o6_0,o6_1),by subst h10 h11; rfl⟩ else none else none
  | _ => none
def decq25_n0 (s : St) : Option Iq25_n0 := pk (decPq25_n0 s)
theorem decq25_n0_ok (s : St) (x : Iq25_n0) (h : decq25_n0 s = some x) : s = Sq25_n0 x := pk_ok (o := decPq25_n0 s) h
def outq25_n0 : Iq25_n0 → (Ex → St → Ans) → Yq25_n0 → Ans := fun (t1,t2,t9,t16,o0_4,o0_5,o1,o2,o3,o4,o6_0,o6_1) K => (Sum.elim (fun o7_y => K (Ex.norm) { env := [(6,.ptr 5 0),(8,.ptr 6 0),(9,.int .i64 t9)],stk := [[(0,.ptr 0 0)]],H := [.cells [.own 1,.own 2,.own 3,.own 7,.int .i64 o0_4,.int .i64 o0_5],.arr (.int .i64) o1,.arr (.int .i64) o2,.arr (.st (.pair (.int .i64) (.int .i64))) o3,.arr (.st (.pair (.int .i64) .str)) o4,.cells [.int .i64 (0),.int .i64 (0)],.cells [.int .i64 o6_0,.int .i64 o6_1],.arr (.st (.pair (.int .i64) .str)) o7_y],blk := 172032 }) (fun _ => K (Ex.norm) { env := [(6,.ptr 5 0),(8,.ptr 6 0),(9,.int .i64 t9)],stk := [[(0,.ptr 0 0)]],H := [.cells [.own 1,.own 2,.own 3,.own 4,.int .i64 o0_4,.int .i64 o0_5],.arr (.int .i64) o1,.arr (.int .i64) o2,.arr (.st (.pair (.int .i64) (.int .i64))) o3,.arr (.st (.pair (.int .i64) .str)) o4,.cells [.int .i64 (0),.int .i64 (0)],.cells [.int .i64 o6_0,.int .i64 o6_1]],blk := 172032 }))
def nodeq25_n0 {β : Type} : Iq25_n0 → (Yq25_n0 → Option β) → Option β := fun (t1,t2,t9,t16,o0_4,o0_5,o1,o2,o3,o4,o6_0,o6_1) exit => (bif t16 then (bif Nat.ble (((0 : Nat) + List.length o4) * (24 : Nat)) (140737488355328 : Nat) then (bif Nat.ble ((List.length o4 + List.length [(t1,t2)]) * (24 : Nat)) (140737488355328 : Nat) then (exit (Sum.inl (o4 ++ [(t1,t2)]))) else none) else none) else (exit (Sum.inr ())))
def nodeDq25_n0 (i : Iq25_n0) : Option Yq25_n0 := nodeq25_n0 i some
theorem nodeq25_n0_nat (i : Iq25_n0) (k : Yq25_n0 → Ans) : nodeq25_n0 i k = bindO (nodeDq25_n0 i) k := by
  obtain ⟨t1,t2,t9,t16,o0_4,o0_5,o1,o2,o3,o4,o6_0,o6_1⟩ := i
  simp only [nodeDq25_n0,nodeq25_n0,bindO_cond,bindO_assoc,bindO_none,bindO_pure,bindO_elim,bindO_unP,bindO_empty]
theorem nodeq25_n0_ok (i : Iq25_n0) (K : Ex → St → Ans) : codeI Try.tab envq25 noHint (codeD Try.tab envq25 noHint 0 64) 70 33 annLq25_n0 Lq25_n0 (weakP 5 (exk [6,8,9] [6,7] []) K) (Sq25_n0 i) = nodeq25_n0 i (outq25_n0 i K) := by kernel_rfl
theorem GNq25_n0_ok : CSum Try.prog 33 Lq25_n0 (sumN decq25_n0 nodeDq25_n0 outq25_n0) := csum_node mixed tabOk envq25Ok 5 (exk [6,8,9] [6,7] []) annLq25_n0_ok decq25_n0_ok nodeq25_n0_ok nodeq25_n0_nat
noncomputable def Gq25_n0 : (Ex → St → Ans) → St → Ans := (sumN decq25_n0 nodeDq25_n0 outq25_n0)
theorem Gq25_n0_ok : CSum Try.prog 33 Lq25_n0 Gq25_n0 := GNq25_n0_ok
noncomputable def annq25 : Ann := (.seq .none (.seq .none (.seq (.seq .none (.cut 5 [0,1,2,6,8,9,16] Gq25_n0)) .none)))
theorem annq25_ok : AnnOk Try.prog 33 bq25 annq25 := ⟨(annOk_none _ _ _),⟨(annOk_none _ _ _),⟨⟨(annOk_none _ _ _),Gq25_n0_ok⟩,(annOk_none _ _ _)⟩⟩⟩
abbrev Aq25 := (Int) × (List UInt8) × (Int) × (Int) × (List Int) × (List Int) × (List (Int × Int)) × (List (Int × List UInt8))
abbrev Yq25 := ((Int) × (Int) × (Int) × (Int) × (Int) × (List (Int × List UInt8))) ⊕ ((Int) × (Int) × (Int) × (Int) × (Int))
def fnq25 {β : Type} : Aq25 → (Yq25 → Option β) → Option β := fun (a1,a2,o0_4,o0_5,o1,o2,o3,o4) exit => (bindO (fnDq27 (o0_4,o0_5,o1,o2,o3,o4)) (unP fun r_0_0 => unP fun r_0_1 => unP fun r_1 => unP fun o0_4_2 o0_5_2 => (bindO (nodeDq25_n0 (a1,a2,r_1,r_1 == (0 : Int),o0_4_2,o0_5_2,o1,o2,o3,o4,r_0_0,r_0_1)) (Sum.elim (fun o7 => (exit (Sum.inl (r_0_0,r_0_1,r_1,o0_4_2,o0_5_2,o7)))) (fun _ => (exit (Sum.inr (r_0_0,r_0_1,r_1,o0_4_2,o0_5_2))))))))
def fnDq25 (a : Aq25) : Option Yq25 := fnq25 a some
theorem fnq25_nat (a : Aq25) (k : Yq25 → Ans) : fnq25 a k = bindO (fnDq25 a) k := by
  obtain ⟨a1,a2,o0_4,o0_5,o1,o2,o3,o4⟩ := a
  simp only [fnDq25,fnq25,bindO_cond,bindO_assoc,bindO_none,bindO_pure,bindO_elim,bindO_unP,bindO_empty]
def argsq25 : Aq25 → List AV × List AE.Obj := fun (a1,a2,o0_4,o0_5,o1,o2,o3,o4) => ([.ptr 0 0,.int .i64 a1,.str a2],[.cells [.own 1,.own 2,.own 3,.own 4,.int .i64 o0_4,.int .i64 o0_5],.arr (.int .i64) o1,.arr (.int .i64) o2,.arr (.st (.pair (.int .i64) (.int .i64))) o3,.arr (.st (.pair (.int .i64) .str)) o4])
def decPAq25 (l : List AV) (H : List AE.Obj) : Option {a : Aq25 // (l,H) = argsq25 a} := match l,H with
  | [.ptr 0 0,.int .i64 a1,.str a2],[.cells [.own 1,.own 2,.own 3,.own 4,.int .i64 o0_4,.int .i64 o0_5],.arr (.int .i64) o1,.arr (.int .i64) o2,.arr (.st (.pair (.int .i64) (.int .i64))) o3,.arr (.st (.pair (.int .i64) .str)) o4] => some ⟨(a1,a2,o0_4,o0_5,o1,o2,o3,o4),rfl⟩
  | _,_ => none
def decAq25 (l : List AV) (H : List AE.Obj) : Option Aq25 := pk (decPAq25 l H)
theorem decAq25_ok (l : List AV) (H : List AE.Obj) (a : Aq25) (h : decAq25 l H = some a) : (l,H) = argsq25 a := pk_ok (o := decPAq25 l H) h
def outq25 : Aq25 → (AV → List AE.Obj → Ans) → Yq25 → Ans := fun (a1,a2,o0_4,o0_5,o1,o2,o3,o4) K => (Sum.elim (unP fun r_0_0_y => unP fun r_0_1_y => unP fun r_1_y => unP fun o0_4_y => unP fun o0_5_y o5_y => K (.tup [.agg [.int .i64 r_0_0_y,.int .i64 r_0_1_y],.int .i64 r_1_y]) [.cells [.own 1,.own 2,.own 3,.own 5,.int .i64 o0_4_y,.int .i64 o0_5_y],.arr (.int .i64) o1,.arr (.int .i64) o2,.arr (.st (.pair (.int .i64) (.int .i64))) o3,.arr (.st (.pair (.int .i64) .str)) o4,.arr (.st (.pair (.int .i64) .str)) o5_y]) (unP fun r_0_0_y => unP fun r_0_1_y => unP fun r_1_y => unP fun o0_4_y o0_5_y => K (.tup [.agg [.int .i64 r_0_0_y,.int .i64 r_0_1_y],.int .i64 r_1_y]) [.cells [.own 1,.own 2,.own 3,.own 4,.int .i64 o0_4_y,.int .i64 o0_5_y],.arr (.int .i64) o1,.arr (.int .i64) o2,.arr (.st (.pair (.int .i64) (.int .i64))) o3,.arr (.st (.pair (.int .i64) .str)) o4]))
theorem fnq25_ok (a : Aq25) (K : AV → List AE.Obj → Ans) : fnE Try.tab envq25 noHint 0 70 42 Try.f42.ntmps Try.f42.results.toList annq25 bq25 (argsq25 a).1 (argsq25 a).2 K = fnq25 a (outq25 a K) := by kernel_rfl
def vFq25 (a : Aq25) (K : AV → List AE.Obj → Ans) : Ans := bindO (fnDq25 a) fun y => outq25 a K y
def Fq25 : List AV → List AE.Obj → (AV → List AE.Obj → Ans) → Ans := fun l H K => bindO (decAq25 l H) fun a => vFq25 a K
theorem Fq25_ok : FuncOk Try.prog 42 Fq25 := func_mkD (hint := noHint) (d := 0) (n := 70) mixed tabOk envq25Ok Try.func42 (bodySome (by kernel_rfl)) (by decide +kernel) annq25_ok decAq25_ok fnq25_ok fnq25_nat
--@ client_Client_Write
noncomputable def envq9 : Env := [(21,.func Fq14),(42,.func Fq25)]
theorem envq9Ok : EnvOk Try.prog envq9 := EnvOk.cons Fq14_ok (EnvOk.cons Fq25_ok (EnvOk.nil))
noncomputable def bq9 : Code := Try.f9.body.getD .skip
noncomputable def annq9 : Ann := .none
theorem annq9_ok : AnnOk Try.prog 44 bq9 annq9 := (annOk_none _ _ _)
abbrev Aq9 := (Int) × (List UInt8) × (Int) × (Int) × (Int) × (Int) × (Int) × (List (Int × List UInt8)) × (List (Int × Int)) × (List Int) × (List Int) × (List (Int × Int)) × (List (Int × List UInt8)) × (List Int) × (List Int) × (List (Int × Int)) × (List (Int × List UInt8))
abbrev Yq9 := ((Int) × (Int) × (Int) × (Int) × (Int) × (List (Int × List UInt8))) ⊕ ((Int) × (Int) × (Int) × (List (Int × List UInt8)) × (List (Int × List UInt8))) ⊕ ((Int) × (Int) × (Int) × (List (Int × List UInt8)) × (List (Int × List UInt8)))
def fnq9 {β : Type} : Aq9 → (Yq9 → Option β) → Option β := fun (a1,a2,o0_2,o1_4,o1_5,o2_4,o2_5,o3,o4,o5,o6,o7,o8,o9,o10,o11,o12) exit => (bindO (fnDq14 (o0_2,o1_4,o1_5,o2_4,o2_5,o3,o4,o5,o6,o7,o8,o9,o10,o11,o12)) (Sum.elim (fun _ => (bif decide ((↑(List.length o3) : Int) ≥ (200 : Int)) then (exit (Sum.inl ((6 : Int),o1_4,o1_5,o2_4,o2_5,o3))) else (bindO (fnDq25 (a1,a2,o1_4,o1_5,o5,o6,o7,o8)) (Sum.elim (unP fun r_0_0 => unP fun r_0_1 => unP fun r_1 => unP fun o0_4 => unP fun o0_5 o5_2 => (bif r_1 != (0 : Int) then (exit (Sum.inr (Sum.inl (r_1,o0_4,o0_5,o3,o5_2)))) else (bif Nat.ble ((List.length o3 + List.length [(a1,a2)]) * (24 : Nat)) (140737488355328 : Nat) then (exit (Sum.inr (Sum.inl ((0 : Int),o0_4,o0_5,o3 ++ [(a1,a2)],o5_2)))) else none))) (unP fun r_0_0 => unP fun r_0_1 => unP fun r_1 => unP fun o0_4 o0_5 => (bif r_1 != (0 : Int) then (exit (Sum.inl (r_1,o0_4,o0_5,o2_4,o2_5,o3))) else (bif Nat.ble ((List.length o3 + List.length [(a1,a2)]) * (24 : Nat)) (140737488355328 : Nat) then (exit (Sum.inl ((0 : Int),o0_4,o0_5,o2_4,o2_5,o3 ++ [(a1,a2)]))) else none))))))) (fun _ => (bif decide ((↑(List.length o3) : Int) ≥ (200 : Int)) then (exit (Sum.inl ((6 : Int),o1_4,o1_5,o2_4,o2_5,o3))) else (bindO (fnDq25 (a1,a2,o2_4,o2_5,o9,o10,o11,o12)) (Sum.elim (unP fun r_0_0 => unP fun r_0_1 => unP fun r_1 => unP fun o0_4 => unP fun o0_5 o5_2 => (bif r_1 != (0 : Int) then (exit (Sum.inr (Sum.inr (r_1,o0_4,o0_5,o3,o5_2)))) else (bif Nat.ble ((List.length o3 + List.length [(a1,a2)]) * (24 : Nat)) (140737488355328 : Nat) then (exit (Sum.inr (Sum.inr ((0 : Int),o0_4,o0_5,o3 ++ [(a1,a2)],o5_2)))) else none))) (unP fun r_0_0 => unP fun r_0_1 => unP fun r_1 => unP fun o0_4 o0_5 => (bif r_1 != (0 : Int) then (exit (Sum.inl (r_1,o1_4,o1_5,o0_4,o0_5,o3))) else (bif Nat.ble ((List.length o3 + List.length [(a1,a2)]) * (24 : Nat)) (140737488355328 : Nat) then (exit (Sum.inl ((0 : Int),o1_4,o1_5,o0_4,o0_5,o3 ++ [(a1,a2)]))) else none)))))))))
def fnDq9 (a : Aq9) : Option Yq9 := fnq9 a some
theorem fnq9_nat (a : Aq9) (k : Yq9 → Ans) : fnq9 a k = bindO (fnDq9 a) k := by
  obtain ⟨a1,a2,o0_2,o1_4,o1_5,o2_4,o2_5,o3,o4,o5,o6,o7,o8,o9,o10,o11,o12⟩ := a
  simp only [fnDq9,fnq9,bindO_cond,bindO_assoc,bindO_none,bindO_pure,bindO_elim,bindO_unP,bindO_empty]
def argsq9 : Aq9 → List AV × List AE.Obj := fun (a1,a2,o0_2,o1_4,o1_5,o2_4,o2_5,o3,o4,o5,o6,o7,o8,o9,o10,o11,o12) => ([.ptr 0 0,.int .i64 a1,.str a2],[.cells [.ifc 27 (.ptr 1 0),.ifc 27 (.ptr 2 0),.int .i64 o0_2,.own 3,.own 4],.cells [.own 5,.own 6,.own 7,.own 8,.int .i64 o1_4,.int .i64 o1_5],.cells [.own 9,.own 10,.own 11,.own 12,.int .i64 o2_4,.int .i64 o2_5],.arr (.st (.pair (.int .i64) .str)) o3,.arr (.st (.pair (.int .i64) (.int .i64))) o4,.arr (.int .i64) o5,.arr (.int .i64) o6,.arr (.st (.pair (.int .i64) (.int .i64))) o7,.arr (.st (.pair (.int .i64) .str)) o8,.arr (.int .i64) o9,.arr (.int .i64) o10,.arr (.st (.pair (.int .i64) (.int .i64))) o11,.arr (.st (.pair (.int .i64) .str)) o12])
def decPAq9 (l : List AV) (H : List AE.Obj) : Option {a : Aq9 // (l,H) = argsq9 a} := match l,H with
  | [.ptr 0 0,.int .i64 a1,.str a2],[.cells [.ifc 27 (.ptr 1 0),.ifc 27 (.ptr 2 0),.int .i64 o0_2,.own 3,.own 4],.cells [.own 5,.own 6,.own 7,.own 8,.int .i64 o1_4,.int .i64 o1_5],.cells [.own 9,.own 10,.own 11,.own 12,.int .i64 o2_4,.int .i64 o2_5],.arr (.st (.pair (.int .i64) .str)) o3,.arr (.st (.pair (.int .i64) (.int .i64))) o4,.arr (.int .i64) o5,.arr (.int .i64) o6,.arr (.st (.pair (.int .i64) (.int .i64))) o7,.arr (.st (.pair (.int .i64) .str)) o8,.arr (.int .i64) o9,.arr (.int .i64) o10,.arr (.st (.pair (.int .i64) (.int .i64))) o11,.arr (.st (.pair (.int .i64) .str)) o12] => some ⟨(a1,a2,o0_2,o1_4,o1_5,o2_4,o2_5,o3,o4,o5,o6,o7,o8,o9,o10,o11,o12),rfl⟩
  | _,_ => none
def decAq9 (l : List AV) (H : List AE.Obj) : Option Aq9 := pk (decPAq9 l H)
theorem decAq9_ok (l : List AV) (H : List AE.Obj) (a : Aq9) (h : decAq9 l H = some a) : (l,H) = argsq9 a := pk_ok (o := decPAq9 l H) h
def outq9 : Aq9 → (AV → List AE.Obj → Ans) → Yq9 → Ans := fun (a1,a2,o0_2,o1_4,o1_5,o2_4,o2_5,o3,o4,o5,o6,o7,o8,o9,o10,o11,o12) K => (Sum.elim (unP fun r_y => unP fun o1_4_y => unP fun o1_5_y => unP fun o2_4_y => unP fun o2_5_y o3_y => K (.int .i64 r_y) [.cells [.ifc 27 (.ptr 1 0),.ifc 27 (.ptr 2 0),.int .i64 o0_2,.own 3,.own 4],.cells [.own 5,.own 6,.own 7,.own 8,.int .i64 o1_4_y,.int .i64 o1_5_y],.cells [.own 9,.own 10,.own 11,.own 12,.int .i64 o2_4_y,.int .i64 o2_5_y],.arr (.st (.pair (.int .i64) .str)) o3_y,.arr (.st (.pair (.int .i64) (.int .i64))) o4,.arr (.int .i64) o5,.arr (.int .i64) o6,.arr (.st (.pair (.int .i64) (.int .i64))) o7,.arr (.st (.pair (.int .i64) .str)) o8,.arr (.int .i64) o9,.arr (.int .i64) o10,.arr (.st (.pair (.int .i64) (.int .i64))) o11,.arr (.st (.pair (.int .i64) .str)) o12]) ((Sum.elim (unP fun r_y => unP fun o1_4_y => unP fun o1_5_y => unP fun o3_y o13_y => K (.int .i64 r_y) [.cells [.ifc 27 (.ptr 1 0),.ifc 27 (.ptr 2 0),.int .i64 o0_2,.own 3,.own 4],.cells [.own 5,.own 6,.own 7,.own 13,.int .i64 o1_4_y,.int .i64 o1_5_y],.cells [.own 9,.own 10,.own 11,.own 12,.int .i64 o2_4,.int .i64 o2_5],.arr (.st (.pair (.int .i64) .str)) o3_y,.arr (.st (.pair (.int .i64) (.int .i64))) o4,.arr (.int .i64) o5,.arr (.int .i64) o6,.arr (.st (.pair (.int .i64) (.int .i64))) o7,.arr (.st (.pair (.int .i64) .str)) o8,.arr (.int .i64) o9,.arr (.int .i64) o10,.arr (.st (.pair (.int .i64) (.int .i64))) o11,.arr (.st (.pair (.int .i64) .str)) o12,.arr (.st (.pair (.int .i64) .str)) o13_y]) (unP fun r_y => unP fun o2_4_y => unP fun o2_5_y => unP fun o3_y o13_y => K (.int .i64 r_y) [.cells [.ifc 27 (.ptr 1 0),.ifc 27 (.ptr 2 0),.int .i64 o0_2,.own 3,.own 4],.cells [.own 5,.own 6,.own 7,.own 8,.int .i64 o1_4,.int .i64 o1_5],.cells [.own 9,.own 10,.own 11,.own 13,.int .i64 o2_4_y,.int .i64 o2_5_y],.arr (.st (.pair (.int .i64) .str)) o3_y,.arr (.st (.pair (.int .i64) (.int .i64))) o4,.arr (.int .i64) o5,.arr (.int .i64) o6,.arr (.st (.pair (.int .i64) (.int .i64))) o7,.arr (.st (.pair (.int .i64) .str)) o8,.arr (.int .i64) o9,.arr (.int .i64) o10,.arr (.st (.pair (.int .i64) (.int .i64))) o11,.arr (.st (.pair (.int .i64) .str)) o12,.arr (.st (.pair (.int .i64) .str)) o13_y]))))
theorem fnq9_ok (a : Aq9) (K : AV → List AE.Obj → Ans) : fnE Try.tab envq9 noHint 0 70 9 Try.f9.ntmps Try.f9.results.toList annq9 bq9 (argsq9 a).1 (argsq9 a).2 K = fnq9 a (outq9 a K) := by kernel_rfl
def vFq9 (a : Aq9) (K : AV → List AE.Obj → Ans) : Ans := bindO (fnDq9 a) fun y => outq9 a K y
def Fq9 : List AV → List AE.Obj → (AV → List AE.Obj → Ans) → Ans := fun l H K => bindO (decAq9 l H) fun a => vFq9 a K
theorem Fq9_ok : FuncOk Try.prog 9 Fq9 := func_mkD (hint := noHint) (d := 0) (n := 70) mixed tabOk envq9Ok Try.func9 (bodySome (by kernel_rfl)) (by decide +kernel) annq9_ok decAq9_ok fnq9_ok fnq9_nat
--@ law44_Tape_Flush
noncomputable def envq22 : Env := [(15,.func Fq27)]
theorem envq22Ok : EnvOk Try.prog envq22 := EnvOk.cons Fq27_ok (EnvOk.nil)
noncomputable def bq22 : Code := Try.f40.body.getD .skip
noncomputable def annq22 : Ann := .none
theorem annq22_ok : AnnOk Try.prog 8 bq22 annq22 := (annOk_none _ _ _)
abbrev Aq22 := (Int) × (Int) × (List Int) × (List Int) × (List (Int × Int)) × (List (Int × List UInt8))
abbrev Yq22 := (Int) × (Int) × (Int) × (Int) × (Int)
def fnq22 {β : Type} : Aq22 → (Yq22 → Option β) → Option β := fun (o0_4,o0_5,o1,o2,o3,o4) exit => (bindO (fnDq27 (o0_4,o0_5,o1,o2,o3,o4)) (unP fun r_0_0 => unP fun r_0_1 => unP fun r_1 => unP fun o0_4_2 o0_5_2 => (exit (r_0_0,r_0_1,r_1,o0_4_2,o0_5_2))))
def fnDq22 (a : Aq22) : Option Yq22 := fnq22 a some
theorem fnq22_nat (a : Aq22) (k : Yq22 → Ans) : fnq22 a k = bindO (fnDq22 a) k := by
  obtain ⟨o0_4,o0_5,o1,o2,o3,o4⟩ := a
  simp only [fnDq22,fnq22,bindO_cond,bindO_assoc,bindO_none,bindO_pure,bindO_elim,bindO_unP,bindO_empty]
def argsq22 : Aq22 → List AV × List AE.Obj := fun (o0_4,o0_5,o1,o2,o3,o4) => ([.ptr 0 0],[.cells [.own 1,.own 2,.own 3,.own 4,.int .i64 o0_4,.int .i64 o0_5],.arr (.int .i64) o1,.arr (.int .i64) o2,.arr (.st (.pair (.int .i64) (.int .i64))) o3,.arr (.st (.pair (.int .i64) .str)) o4])
def decPAq22 (l : List AV) (H : List AE.Obj) : Option {a : Aq22 // (l,H) = argsq22 a} := match l,H with
  | [.ptr 0 0],[.cells [.own 1,.own 2,.own 3,.own 4,.int .i64 o0_4,.int .i64 o0_5],.arr (.int .i64) o1,.arr (.int .i64) o2,.arr (.st (.pair (.int .i64) (.int .i64))) o3,.arr (.st (.pair (.int .i64) .str)) o4] => some ⟨(o0_4,o0_5,o1,o2,o3,o4),rfl⟩
  | _,_ => none
def decAq22 (l : List AV) (H : List AE.Obj) : Option Aq22 := pk (decPAq22 l H)
theorem decAq22_ok (l : List AV) (H : List AE.Obj) (a : Aq22) (h : decAq22 l H = some a) : (l,H) = argsq22 a := pk_ok (o := decPAq22 l H) h
def outq22 : Aq22 → (AV → List AE.Obj → Ans) → Yq22 → Ans := fun (o0_4,o0_5,o1,o2,o3,o4) K => unP fun r_0_0_y => unP fun r_0_1_y => unP fun r_1_y => unP fun o0_4_y o0_5_y => K (.tup [.agg [.int .i64 r_0_0_y,.int .i64 r_0_1_y],.int .i64 r_1_y]) [.cells [.own 1,.own 2,.own 3,.own 4,.int .i64 o0_4_y,.int .i64 o0_5_y],.arr (.int .i64) o1,.arr (.int .i64) o2,.arr (.st (.pair (.int .i64) (.int .i64))) o3,.arr (.st (.pair (.int .i64) .str)) o4]
theorem fnq22_ok (a : Aq22) (K : AV → List AE.Obj → Ans) : fnE Try.tab envq22 noHint 0 70 40 Try.f40.ntmps Try.f40.results.toList annq22 bq22 (argsq22 a).1 (argsq22 a).2 K = fnq22 a (outq22 a K) := by kernel_rfl
def vFq22 (a : Aq22) (K : AV → List AE.Obj → Ans) : Ans := bindO (fnDq22 a) fun y => outq22 a K y
def Fq22 : List AV → List AE.Obj → (AV → List AE.Obj → Ans) → Ans := fun l H K => bindO (decAq22 l H) fun a => vFq22 a K
theorem Fq22_ok : FuncOk Try.prog 40 Fq22 := func_mkD (hint := noHint) (d := 0) (n := 70) mixed tabOk envq22Ok Try.func40 (bodySome (by kernel_rfl)) (by decide +kernel) annq22_ok decAq22_ok fnq22_ok fnq22_nat
--@ client_Client_forget
noncomputable def envq12 : Env := []
theorem envq12Ok : EnvOk Try.prog envq12 := EnvOk.nil
noncomputable def bq12 : Code := Try.f22.body.getD .skip
noncomputable def Lq12_n0 : Code := codeAt [1,1,1,1,0,0] bq12
noncomputable def annLq12_n0 : Ann := .at 13 [0,1,30,31] (.loop .none)
theorem annLq12_n0_ok : AnnOk Try.prog 53 (.loop Lq12_n0) annLq12_n0 := annOk_at (annOk_none _ _ _)
abbrev Iq12_n0 := (Int) × (Int) × (Int) × (Int) × (Int) × (Int) × (Int) × (List (Int × List UInt8)) × (List Int) × (List Int) × (List (Int × Int)) × (List (Int × List UInt8)) × (List Int) × (List Int) × (List (Int × Int)) × (List (Int × List UInt8)) × (List (Int × List UInt8))
abbrev Yq12_n0 := (List (Int × Int))
abbrev Vq12_n0 := (Int) × (List (Int × Int))
def Sq12_n0 : Iq12_n0 → Vq12_n0 → St := fun (t1,t30,o0_2,o1_4,o1_5,o2_4,o2_5,o3,o5,o6,o7,o8,o9,o10,o11,o12,o13) (t31,o4) => { env := [(0,.ptr 0 0),(1,.int .i64 t1),(30,.int .i64 t30),(31,.int .i64 t31)],stk := [[(0,.ptr 0 0),(1,.ptr 1 0),(2,.ptr 2 0)]],H := [.cells [.ifc 27 (.ptr 1 0),.ifc 27 (.ptr 2 0),.int .i64 o0_2,.own 13,.own 4],.cells [.own 5,.own 6,.own 7,.own 8,.int .i64 o1_4,.int .i64 o1_5],.cells [.own 9,.own 10,.own 11,.own 12,.int .i64 o2_4,.int .i64 o2_5],.arr (.st (.pair (.int .i64) .str)) o3,.arr (.st (.pair (.int .i64) (.int .i64))) o4,.arr (.int .i64) o5,.arr (.int .i64) o6,.arr (.st (.pair (.int .i64) (.int .i64))) o7,.arr (.st (.pair (.int .i64) .str)) o8,.arr (.int .i64) o9,.arr (.int .i64) o10,.arr (.st (.pair (.int .i64) (.int .i64))) o11,.arr (.st (.pair (.int .i64) .str)) o12,.arr (.st (.pair (.int .i64) .str)) o13],blk := 90112 }
def decPq12_n0 (s : St) : Option {x : Iq12_n0 × Vq12_n0 // s = Sq12_n0 x.1 x.2} := match s with
  | { env := [(0,.ptr 0 0),(1,.int .i64 t1),(30,.int .i64 t30),(31,.int .i64 t31)],stk := [[(0,.ptr 0 0),(1,.ptr 1 0),(2,.ptr 2 0)]],H := [.cells [.ifc 27 (.ptr 1 0),.ifc 27 (.ptr 2 0),.int .i64 o0_2,.own 13,.own 4],.cells [.own 5,.own 6,.own 7,.own 8,.int .i64 o1_4,.int .i64 o1_5],.cells [.own 9,.own 10,.own 11,.own 12,.int .i64 o2_4,.int .i64 o2_5],.arr (.st (.pair (.int .i64) .str)) o3,.arr (.st (.pair (.int .i64) (.int .i64))) o4,.arr (.int .i64) o5,.arr (.int .i64) o6,.arr (.st (.pair (.int .i64) (.int .i64))) o7,.arr (.st (.pair (.int .i64) .str)) o8,.arr (.int .i64) o9,.arr (.int .i64) o10,.arr (.st (.pair (.int .i64) (.int .i64))) o11,.arr (.st (.pair (.int .i64) .str)) o12,.arr (.st (.pair (.int .i64) .str)) o13],blk := 90112 } => some ⟨((t1,t30,o0_2,o1_4,o1_5,o2_4,o2_5,o3,o5,o6,o7,o8,o9,o10,o11,o12,o13),(t31,o4)),rfl⟩
  | _ => none
def decq12_n0 (s : St) : Option (Iq12_n0 × Vq12_n0) := pk (decPq12_n0 s)
theorem decq12_n0_ok (s : St) (x : Iq12_n0 × Vq12_n0) (h : decq12_n0 s = some x) : s = Sq12_n0 x.1 x.2 := pk_ok (o := decPq12_n0 s) h
def outq12_n0 : Iq12_n0 → (Ex → St → Ans) → Yq12_n0 → Ans := fun (t1,t30,o0_2,o1_4,o1_5,o2_4,o2_5,o3,o5,o6,o7,o8,o9,o10,o11,o12,o13) K => fun o4_y => K (Ex.exit 0) { env := [],stk := [[(0,.ptr 0 0),(1,.ptr 1 0),(2,.ptr 2 0)]],H := [.cells [.ifc 27 (.ptr 1 0),.ifc 27 (.ptr 2 0),.int .i64 o0_2,.own 13,.own 4],.cells [.own 5,.own 6,.own 7,.own 8,.int .i64 o1_4,.int .i64 o1_5],.cells [.own 9,.own 10,.own 11,.own 12,.int .i64 o2_4,.int .i64 o2_5],.arr (.st (.pair (.int .i64) .str)) o3,.arr (.st (.pair (.int .i64) (.int .i64))) o4_y,.arr (.int .i64) o5,.arr (.int .i64) o6,.arr (.st (.pair (.int .i64) (.int .i64))) o7,.arr (.st (.pair (.int .i64) .str)) o8,.arr (.int .i64) o9,.arr (.int .i64) o10,.arr (.st (.pair (.int .i64) (.int .i64))) o11,.arr (.st (.pair (.int .i64) .str)) o12,.arr (.st (.pair (.int .i64) .str)) o13],blk := 90112 }
def stepq12_n0 {β : Type} : Iq12_n0 → Vq12_n0 → (Vq12_n0 → Option β) → (Yq12_n0 → Option β) → Option β := fun (t1,t30,o0_2,o1_4,o1_5,o2_4,o2_5,o3,o5,o6,o7,o8,o9,o10,o11,o12,o13) (t31,o4) next exit => (bif decide (t31 < t30) then (bif inR t31 (List.length o4) then (bindO (o4[Int.toNat t31]?) fun x => (bif inR t31 (List.length o4) then (bindO (o4[Int.toNat t31]?) fun x_2 => (next (IntKind.wrap .i64 (t31 + (1 : Int)),List.set o4 (Int.toNat t31) (x_2.fst,if (0 : Int) > IntKind.wrap .i64 (x.snd - t1) then (0 : Int) else IntKind.wrap .i64 (x.snd - t1))))) else none)) else none) else (exit (o4)))
def stepDq12_n0 (i : Iq12_n0) (v : Vq12_n0) : Option (Vq12_n0 ⊕ Yq12_n0) := stepq12_n0 i v (fun v => some (.inl v)) (fun y => some (.inr y))
theorem stepq12_n0_nat (i : Iq12_n0) (v : Vq12_n0) (next : Vq12_n0 → Ans) (exit : Yq12_n0 → Ans) : stepq12_n0 i v next exit = bindO (stepDq12_n0 i v) (Sum.elim next exit) := by
  obtain ⟨t1,t30,o0_2,o1_4,o1_5,o2_4,o2_5,o3,o5,o6,o7,o8,o9,o10,o11,o12,o13⟩ := i
  obtain ⟨t31,o4⟩ := v
  simp only [stepDq12_n0,stepq12_n0,bindO_cond,bindO_assoc,bindO_none,bindO_pure,bindO_elim,bindO_unP,bindO_empty,Sum.elim_inl,Sum.elim_inr]
theorem stepq12_n0_ok (n : Nat) (i : Iq12_n0) (v : Vq12_n0) (K : Ex → St → Ans) : codeI Try.tab envq12 noHint (codeD Try.tab envq12 noHint 0 64) (n+1) 53 annLq12_n0 (.loop Lq12_n0) (weakP 13 (exk [] [] [(0,[])]) K) (Sq12_n0 i v) = stepq12_n0 i v (fun v' => codeI Try.tab envq12 noHint (codeD Try.tab envq12 noHint 0 64) n 53 annLq12_n0 (.loop Lq12_n0) (weakP 13 (exk [] [] [(0,[])]) K) (Sq12_n0 i v')) (fun y => outq12_n0 i K y) := by kernel_rfl
theorem GNq12_n0_ok : CSum Try.prog 53 (.loop Lq12_n0) (sumL decq12_n0 stepDq12_n0 outq12_n0) := csum_loop mixed tabOk envq12Ok 13 (exk [] [] [(0,[])]) annLq12_n0_ok decq12_n0_ok stepq12_n0_ok stepq12_n0_nat
noncomputable def Gq12_n0 : (Ex → St → Ans) → St → Ans := (sumL decq12_n0 stepDq12_n0 outq12_n0)
theorem Gq12_n0_ok : CSum Try.prog 53 (.loop Lq12_n0) Gq12_n0 := GNq12_n0_ok
noncomputable def annq12 : Ann := (.seq .none (.seq .none (.seq .none (.seq .none (.block (.cut 13 [0,1,30,31] Gq12_n0))))))
theorem annq12_ok : AnnOk Try.prog 53 bq12 annq12 := ⟨(annOk_none _ _ _),⟨(annOk_none _ _ _),⟨(annOk_none _ _ _),⟨(annOk_none _ _ _),Gq12_n0_ok⟩⟩⟩⟩
abbrev Aq12 := (Int) × (Int) × (Int) × (Int) × (Int) × (Int) × (List (Int × List UInt8)) × (List (Int × Int)) × (List Int) × (List Int) × (List (Int × Int)) × (List (Int × List UInt8)) × (List Int) × (List Int) × (List (Int × Int)) × (List (Int × List UInt8))
abbrev Yq12 := (List (Int × Int)) × (List (Int × List UInt8))
def fnq12 {β : Type} : Aq12 → (Yq12 → Option β) → Option β := fun (a1,o0_2,o1_4,o1_5,o2_4,o2_5,o3,o4,o5,o6,o7,o8,o9,o10,o11,o12) exit => (bif decide ((0 : Int) ≤ IntKind.wrap .i64 ((↑(List.length o3) : Int) - a1)) && decide (IntKind.wrap .i64 ((↑(List.length o3) : Int) - a1) ≤ IntKind.wrap .i64 ((↑(List.length o3) : Int) - a1)) && decide ((24 : Int) * IntKind.wrap .i64 ((↑(List.length o3) : Int) - a1) ≤ (281474976710656 : Int)) && decide (IntKind.wrap .i64 ((↑(List.length o3) : Int) - a1) ≤ (9223372036854775807 : Int)) then (bif inR a1 (List.length o3 + (1 : Nat)) then (bif Nat.ble (Int.toNat a1 + (List.length o3 - Int.toNat a1)) (List.length o3) then (bindO (loopD (stepDq12_n0 (a1,(↑(List.length o4) : Int),o0_2,o1_4,o1_5,o2_4,o2_5,o3,o5,o6,o7,o8,o9,o10,o11,o12,List.take (List.length (List.replicate (Int.toNat (IntKind.wrap .i64 ((↑(List.length o3) : Int) - a1))) ((0 : Int),nilL UInt8))) (List.take (List.length o3 - Int.toNat a1) (List.drop (Int.toNat a1) o3)) ++ List.drop (List.length (List.take (List.length o3 - Int.toNat a1) (List.drop (Int.toNat a1) o3))) (List.replicate (Int.toNat (IntKind.wrap .i64 ((↑(List.length o3) : Int) - a1))) ((0 : Int),nilL UInt8)))) FUEL ((0 : Int),o4)) fun o4_2 => (exit (o4_2,List.take (List.length (List.replicate (Int.toNat (IntKind.wrap .i64 ((↑(List.length o3) : Int) - a1))) ((0 : Int),nilL UInt8))) (List.take (List.length o3 - Int.toNat a1) (List.drop (Int.toNat a1) o3)) ++ List.drop (List.length (List.take (List.length o3 - Int.toNat a1) (List.drop (Int.toNat a1) o3))) (List.replicate (Int.toNat (IntKind.wrap .i64 ((↑(List.length o3) : Int) - a1))) ((0 : Int),nilL UInt8))))) else none) else none) else none)
def fnDq12 (a : Aq12) : Option Yq12 := fnq12 a some
theorem fnq12_nat (a : Aq12) (k : Yq12 → Ans) : fnq12 a k = bindO (fnDq12 a) k := by
  obtain ⟨a1,o0_2,o1_4,o1_5,o2_4,o2_5,o3,o4,o5,o6,o7,o8,o9,o10,o11,o12⟩ := a
  simp only [fnDq12,fnq12,bindO_cond,bindO_assoc,bindO_none,bindO_pure,bindO_elim,bindO_unP,bindO_empty]
def argsq12 : Aq12 → List AV × List AE.Obj := fun (a1,o0_2,o1_4,o1_5,o2_4,o2_5,o3,o4,o5,o6,o7,o8,o9,o10,o11,o12) => ([.ptr 0 0,.int .i64 a1],[.cells [.ifc 27 (.ptr 1 0),.ifc 27 (.ptr 2 0),.int .i64 o0_2,.own 3,.own 4],.cells [.own 5,.own 6,.own 7,.own 8,.int .i64 o1_4,.int .i64 o1_5],.cells [.own 9,.own 10,.own 11,.own 12,.int .i64 o2_4,.int .i64 o2_5],.arr (.st (.pair (.int .i64) .str)) o3,.arr (.st (.pair (.int .i64) (.int .i64))) o4,.arr (.int .i64) o5,.arr (.int .i64) o6,.arr (.st (.pair (.int .i64) (.int .i64))) o7,.arr (.st (.pair (.int .i64) .str)) o8,.arr (.int .i64) o9,.arr (.int .i64) o10,.arr (.st (.pair (.int .i64) (.int .i64))) o11,.arr (.st (.pair (.int .i64) .str)) o12])
def decPAq12 (l : List AV) (H : List AE.Obj) : Option {a : Aq12 // (l,H) = argsq12 a} := match l,H with
  | [.ptr 0 0,.int .i64 a1],[.cells [.ifc 27 (.ptr 1 0),.ifc 27 (.ptr 2 0),.int .i64 o0_2,.own 3,.own 4],.cells [.own 5,.own 6,.own 7,.own 8,.int .i64 o1_4,.int .i64 o1_5],.cells [.own 9,.own 10,.own 11,.own 12,.int .i64 o2_4,.int .i64 o2_5],.arr (.st (.pair (.int .i64) .str)) o3,.arr (.st (.pair (.int .i64) (.int .i64))) o4,.arr (.int .i64) o5,.arr (.int .i64) o6,.arr (.st (.pair (.int .i64) (.int .i64))) o7,.arr (.st (.pair (.int .i64) .str)) o8,.arr (.int .i64) o9,.arr (.int .i64) o10,.arr (.st (.pair (.int .i64) (.int .i64))) o11,.arr (.st (.pair (.int .i64) .str)) o12] => some ⟨(a1,o0_2,o1_4,o1_5,o2_4,o2_5,o3,o4,o5,o6,o7,o8,o9,o10,o11,o12),rfl⟩
  | _,_ => none
def decAq12 (l : List AV) (H : List AE.Obj) : Option Aq12 := pk (decPAq12 l H)
theorem decAq12_ok (l : List AV) (H : List AE.Obj) (a : Aq12) (h : decAq12 l H = some a) : (l,H) = argsq12 a := pk_ok (o := decPAq12 l H) h
def outq12 : Aq12 → (AV → List AE.Obj → Ans) → Yq12 → Ans := fun (a1,o0_2,o1_4,o1_5,o2_4,o2_5,o3,o4,o5,o6,o7,o8,o9,o10,o11,o12) K => unP fun o4_y o13_y => K (.tup []) [.cells [.ifc 27 (.ptr 1 0),.ifc 27 (.ptr 2 0),.int .i64 o0_2,.own 13,.own 4],.cells [.own 5,.own 6,.own 7,.own 8,.int .i64 o1_4,.int .i64 o1_5],.cells [.own 9,.own 10,.own 11,.own 12,.int .i64 o2_4,.int .i64 o2_5],.arr (.st (.pair (.int .i64) .str)) o3,.arr (.st (.pair (.int .i64) (.int .i64))) o4_y,.arr (.int .i64) o5,.arr (.int .i64) o6,.arr (.st (.pair (.int .i64) (.int .i64))) o7,.arr (.st (.pair (.int .i64) .str)) o8,.arr (.int .i64) o9,.arr (.int .i64) o10,.arr (.st (.pair (.int .i64) (.int .i64))) o11,.arr (.st (.pair (.int .i64) .str)) o12,.arr (.st (.pair (.int .i64) .str)) o13_y]
theorem fnq12_ok (a : Aq12) (K : AV → List AE.Obj → Ans) : fnE Try.tab envq12 noHint 0 70 22 Try.f22.ntmps Try.f22.results.toList annq12 bq12 (argsq12 a).1 (argsq12 a).2 K = fnq12 a (outq12 a K) := by kernel_rfl
def vFq12 (a : Aq12) (K : AV → List AE.Obj → Ans) : Ans := bindO (fnDq12 a) fun y => outq12 a K y
def Fq12 : List AV → List AE.Obj → (AV → List AE.Obj → Ans) → Ans := fun l H K => bindO (decAq12 l H) fun a => vFq12 a K
theorem Fq12_ok : FuncOk Try.prog 22 Fq12 := func_mkD (hint := noHint) (d := 0) (n := 70) mixed tabOk envq12Ok Try.func22 (bodySome (by kernel_rfl)) (by decide +kernel) annq12_ok decAq12_ok fnq12_ok fnq12_nat
--@ client_Client_Flush
noncomputable def envq2 : Env := [(21,.func Fq14),(40,.func Fq22),(22,.func Fq12)]
theorem envq2Ok : EnvOk Try.prog envq2 := EnvOk.cons Fq14_ok (EnvOk.cons Fq22_ok (EnvOk.cons Fq12_ok (EnvOk.nil)))
noncomputable def bq2 : Code := Try.f10.body.getD .skip
noncomputable def annq2 : Ann := .none
theorem annq2_ok : AnnOk Try.prog 52 bq2 annq2 := (annOk_none _ _ _)
abbrev Aq2 := (Int) × (Int) × (Int) × (Int) × (Int) × (List (Int × List UInt8)) × (List (Int × Int)) × (List Int) × (List Int) × (List (Int × Int)) × (List (Int × List UInt8)) × (List Int) × (List Int) × (List (Int × Int)) × (List (Int × List UInt8))
abbrev Yq2 := ((Int) × (Int) × (Int) × (Int) × (Int) × (List (Int × Int))) ⊕ ((Int) × (Int) × (Int) × (Int) × (List (Int × Int)) × (List (Int × List UInt8)))
def fnq2 {β : Type} : Aq2 → (Yq2 → Option β) → Option β := fun (o0_2,o1_4,o1_5,o2_4,o2_5,o3,o4,o5,o6,o7,o8,o9,o10,o11,o12) exit => (bindO (fnDq14 (o0_2,o1_4,o1_5,o2_4,o2_5,o3,o4,o5,o6,o7,o8,o9,o10,o11,o12)) (Sum.elim (fun _ => (bindO (fnDq22 (o1_4,o1_5,o5,o6,o7,o8)) (unP fun r_0_0 => unP fun r_0_1 => unP fun r_1 => unP fun o0_4 o0_5 => (bif r_1 != (0 : Int) then (exit (Sum.inl (r_1,o0_4,o0_5,o2_4,o2_5,o4))) else (bif r_0_1 == (2 : Int) then (bindO (fnDq12 ((↑(List.length o3) : Int),o0_2,o0_4,o0_5,o2_4,o2_5,o3,o4,o5,o6,o7,o8,o9,o10,o11,o12)) (unP fun o4_2 o13 => (exit (Sum.inr (o0_4,o0_5,o2_4,o2_5,o4_2,o13))))) else (bif r_0_1 == (1 : Int) then (exit (Sum.inl ((0 : Int),o0_4,o0_5,o2_4,o2_5,o4))) else (bif Nat.ble ((List.length o4 + List.length [(r_0_0,(↑(List.length o3) : Int))]) * (16 : Nat)) (140737488355328 : Nat) then (exit (Sum.inl ((0 : Int),o0_4,o0_5,o2_4,o2_5,o4 ++ [(r_0_0,(↑(List.length o3) : Int))]))) else none))))))) (fun _ => (bindO (fnDq22 (o2_4,o2_5,o9,o10,o11,o12)) (unP fun r_0_0 => unP fun r_0_1 => unP fun r_1 => unP fun o0_4 o0_5 => (bif r_1 != (0 : Int) then (exit (Sum.inl (r_1,o1_4,o1_5,o0_4,o0_5,o4))) else (bif r_0_1 == (2 : Int) then (bindO (fnDq12 ((↑(List.length o3) : Int),o0_2,o1_4,o1_5,o0_4,o0_5,o3,o4,o5,o6,o7,o8,o9,o10,o11,o12)) (unP fun o4_2 o13 => (exit (Sum.inr (o1_4,o1_5,o0_4,o0_5,o4_2,o13))))) else (bif r_0_1 == (1 : Int) then (exit (Sum.inl ((0 : Int),o1_4,o1_5,o0_4,o0_5,o4))) else (bif Nat.ble ((List.length o4 + List.length [(r_0_0,(↑(List.length o3) : Int))]) * (16 : Nat)) (140737488355328 : Nat) then (exit (Sum.inl ((0 : Int),o1_4,o1_5,o0_4,o0_5,o4 ++ [(r_0_0,(↑(List.length o3) : Int))]))) else none)))))))))
def fnDq2 (a : Aq2) : Option Yq2 := fnq2 a some
theorem fnq2_nat (a : Aq2) (k : Yq2 → Ans) : fnq2 a k = bindO (fnDq2 a) k := by
  obtain ⟨o0_2,o1_4,o1_5,o2_4,o2_5,o3,o4,o5,o6,o7,o8,o9,o10,o11,o12⟩ := a
  simp only [fnDq2,fnq2,bindO_cond,bindO_assoc,bindO_none,bindO_pure,bindO_elim,bindO_unP,bindO_empty]
def argsq2 : Aq2 → List AV × List AE.Obj := fun (o0_2,o1_4,o1_5,o2_4,o2_5,o3,o4,o5,o6,o7,o8,o9,o10,o11,o12) => ([.ptr 0 0],[.cells [.ifc 27 (.ptr 1 0),.ifc 27 (.ptr 2 0),.int .i64 o0_2,.own 3,.own 4],.cells [.own 5,.own 6,.own 7,.own 8,.int .i64 o1_4,.int .i64 o1_5],.cells [.own 9,.own 10,.own 11,.own 12,.int .i64 o2_4,.int .i64 o2_5],.arr (.st (.pair (.int .i64) .str)) o3,.arr (.st (.pair (.int .i64) (.int .i64))) o4,.arr (.int .i64) o5,.arr (.int .i64) o6,.arr (.st (.pair (.int .i64) (.int .i64))) o7,.arr (.st (.pair (.int .i64) .str)) o8,.arr (.int .i64) o9,.arr (.int .i64) o10,.arr (.st (.pair (.int .i64) (.int .i64))) o11,.arr (.st (.pair (.int .i64) .str)) o12])
def decPAq2 (l : List AV) (H : List AE.Obj) : Option {a : Aq2 // (l,H) = argsq2 a} := match l,H with
  | [.ptr 0 0],[.cells [.ifc 27 (.ptr 1 0),.ifc 27 (.ptr 2 0),.int .i64 o0_2,.own 3,.own 4],.cells [.own 5,.own 6,.own 7,.own 8,.int .i64 o1_4,.int .i64 o1_5],.cells [.own 9,.own 10,.own 11,.own 12,.int .i64 o2_4,.int .i64 o2_5],.arr (.st (.pair (.int .i64) .str)) o3,.arr (.st (.pair (.int .i64) (.int .i64))) o4,.arr (.int .i64) o5,.arr (.int .i64) o6,.arr (.st (.pair (.int .i64) (.int .i64))) o7,.arr (.st (.pair (.int .i64) .str)) o8,.arr (.int .i64) o9,.arr (.int .i64) o10,.arr (.st (.pair (.int .i64) (.int .i64))) o11,.arr (.st (.pair (.int .i64) .str)) o12] => some ⟨(o0_2,o1_4,o1_5,o2_4,o2_5,o3,o4,o5,o6,o7,o8,o9,o10,o11,o12),rfl⟩
  | _,_ => none
def decAq2 (l : List AV) (H : List AE.Obj) : Option Aq2 := pk (decPAq2 l H)
theorem decAq2_ok (l : List AV) (H : List AE.Obj) (a : Aq2) (h : decAq2 l H = some a) : (l,H) = argsq2 a := pk_ok (o := decPAq2 l H) h
def outq2 : Aq2 → (AV → List AE.Obj → Ans) → Yq2 → Ans := fun (o0_2,o1_4,o1_5,o2_4,o2_5,o3,o4,o5,o6,o7,o8,o9,o10,o11,o12) K => (Sum.elim (unP fun r_1_y => unP fun o1_4_y => unP fun o1_5_y => unP fun o2_4_y => unP fun o2_5_y o4_y => K (.tup [.bool (false),.int .i64 r_1_y]) [.cells [.ifc 27 (.ptr 1 0),.ifc 27 (.ptr 2 0),.int .i64 o0_2,.own 3,.own 4],.cells [.own 5,.own 6,.own 7,.own 8,.int .i64 o1_4_y,.int .i64 o1_5_y],.cells [.own 9,.own 10,.own 11,.own 12,.int .i64 o2_4_y,.int .i64 o2_5_y],.arr (.st (.pair (.int .i64) .str)) o3,.arr (.st (.pair (.int .i64) (.int .i64))) o4_y,.arr (.int .i64) o5,.arr (.int .i64) o6,.arr (.st (.pair (.int .i64) (.int .i64))) o7,.arr (.st (.pair (.int .i64) .str)) o8,.arr (.int .i64) o9,.arr (.int .i64) o10,.arr (.st (.pair (.int .i64) (.int .i64))) o11,.arr (.st (.pair (.int .i64) .str)) o12]) (unP fun o1_4_y => unP fun o1_5_y => unP fun o2_4_y => unP fun o2_5_y => unP fun o4_y o13_y => K (.tup [.bool (true),.int .i64 (0)]) [.cells [.ifc 27 (.ptr 1 0),.ifc 27 (.ptr 2 0),.int .i64 o0_2,.own 13,.own 14],.cells [.own 5,.own 6,.own 7,.own 8,.int .i64 o1_4_y,.int .i64 o1_5_y],.cells [.own 9,.own 10,.own 11,.own 12,.int .i64 o2_4_y,.int .i64 o2_5_y],.arr (.st (.pair (.int .i64) .str)) o3,.arr (.st (.pair (.int .i64) (.int .i64))) o4_y,.arr (.int .i64) o5,.arr (.int .i64) o6,.arr (.st (.pair (.int .i64) (.int .i64))) o7,.arr (.st (.pair (.int .i64) .str)) o8,.arr (.int .i64) o9,.arr (.int .i64) o10,.arr (.st (.pair (.int .i64) (.int .i64))) o11,.arr (.st (.pair (.int .i64) .str)) o12,.arr (.st (.pair (.int .i64) .str)) o13_y,.arr (.st (.pair (.int .i64) (.int .i64))) ([])]))
theorem fnq2_ok (a : Aq2) (K : AV → List AE.Obj → Ans) : fnE Try.tab envq2 noHint 0 70 10 Try.f10.ntmps Try.f10.results.toList annq2 bq2 (argsq2 a).1 (argsq2 a).2 K = fnq2 a (outq2 a K) := by kernel_rfl
def vFq2 (a : Aq2) (K : AV → List AE.Obj → Ans) : Ans := bindO (fnDq2 a) fun y => outq2 a K y
def Fq2 : List AV → List AE.Obj → (AV → List AE.Obj → Ans) → Ans := fun l H K => bindO (decAq2 l H) fun a => vFq2 a K
theorem Fq2_ok : FuncOk Try.prog 10 Fq2 := func_mkD (hint := noHint) (d := 0) (n := 70) mixed tabOk envq2Ok Try.func10 (bodySome (by kernel_rfl)) (by decide +kernel) annq2_ok decAq2_ok fnq2_ok fnq2_nat
--@ client_Client_Over
noncomputable def envq6 : Env := [(21,.func Fq14),(42,.func Fq25)]
theorem envq6Ok : EnvOk Try.prog envq6 := EnvOk.cons Fq14_ok (EnvOk.cons Fq25_ok (EnvOk.nil))
noncomputable def bq6 : Code := Try.f12.body.getD .skip
noncomputable def Lq6_n0 : Code := codeAt [1,1,1,1,1,1,0,1,0,0] bq6
noncomputable def annLq6_n0 : Ann := .at 100013 [3,28,29,30] (.loop .none)
theorem annLq6_n0_ok : AnnOk Try.prog 47 (.loop Lq6_n0) annLq6_n0 := annOk_at (annOk_none _ _ _)
abbrev Iq6_n0 := (Int) × (Int) × (Int) × (Int) × (List (Int × List UInt8)) × (List Int) × (List Int) × (List (Int × Int)) × (List Int) × (List Int) × (List (Int × Int)) × (List (Int × List UInt8))
abbrev Yq6_n0 := ((Int) × (Int) × (Int) × (List (Int × List UInt8))) ⊕ ((Int) × (Int) × (List (Int × List UInt8)))
abbrev Vq6_n0 := (Int) × (Int) × (Int) × (List (Int × List UInt8))
def Sq6_n0 : Iq6_n0 → Vq6_n0 → St := fun (t29,o0_2,o2_4,o2_5,o13,o15,o16,o17,o19,o20,o21,o22) (t30,o1_4,o1_5,o18) => { env := [(3,.ifc 27 (.ptr 1 0)),(28,.own 13),(29,.int .i64 t29),(30,.int .i64 t30)],stk := [[(0,.ptr 0 0),(1,.ptr 1 0),(2,.ptr 2 0)]],H := [.cells [.ifc 27 (.ptr 1 0),.ifc 27 (.ptr 2 0),.int .i64 o0_2,.own 13,.own 14],.cells [.own 15,.own 16,.own 17,.own 18,.int .i64 o1_4,.int .i64 o1_5],.cells [.own 19,.own 20,.own 21,.own 22,.int .i64 o2_4,.int .i64 o2_5],.dead,.dead,.dead,.dead,.dead,.dead,.dead,.dead,.dead,.dead,.arr (.st (.pair (.int .i64) .str)) o13,.arr (.st (.pair (.int .i64) (.int .i64))) ([]),.arr (.int .i64) o15,.arr (.int .i64) o16,.arr (.st (.pair (.int .i64) (.int .i64))) o17,.arr (.st (.pair (.int .i64) .str)) o18,.arr (.int .i64) o19,.arr (.int .i64) o20,.arr (.st (.pair (.int .i64) (.int .i64))) o21,.arr (.st (.pair (.int .i64) .str)) o22],blk := 49152 }
def decPq6_n0 (s : St) : Option {x : Iq6_n0 × Vq6_n0 // s = Sq6_n0 x.1 x.2} := match s with
  | { env := [(3,.ifc 27 (.ptr 1 0)),(28,.own 13),(29,.int .i64 t29),(30,.int .i64 t30)],stk := [[(0,.ptr 0 0),(1,.ptr 1 0),(2,.ptr 2 0)]],H := [.cells [.ifc 27 (.ptr 1 0),.ifc 27 (.ptr 2 0),.int .i64 o0_2,.own 13,.own 14],.cells [.own 15,.own 16,.own 17,.own 18,.int .i64 o1_4,.int .i64 o1_5],.cells [.own 19,.own 20,.own 21,.own 22,.int .i64 o2_4,.int .i64 o2_5],.dead,.dead,.dead,.dead,.dead,.dead,.dead,.dead,.dead,.dead,.arr (.st (.pair (.int .i64) .str)) o13,.arr (.st (.pair (.int .i64) (.int .i64))) r8,.arr (.int .i64) o15,.arr (.int .i64) o16,.arr (.st (.pair (.int .i64) (.int .i64))) o17,.arr (.st (.pair (.int .i64) .str)) o18,.arr (.int .i64) o19,.arr (.int .i64) o20,.arr (.st (.pair (.int .i64) (.int .i64))) o21,.arr (.st (.pair (.int .i64) .str)) o22],blk := 49152 } => if h8 : r8 = [] then some ⟨((t29,o0_2,o2_4,o2_5,o13,o15,o16,o17,o19,o20,o21,o22),(t30,o1_4,o1_5,o18)),by subst h8; rfl⟩ else none
  | _ => none
def decq6_n0 (s : St) : Option (Iq6_n0 × Vq6_n0) := pk (decPq6_n0 s)
theorem decq6_n0_ok (s : St) (x : Iq6_n0 × Vq6_n0) (h : decq6_n0 s = some x) : s = Sq6_n0 x.1 x.2 := pk_ok (o := decPq6_n0 s) h
def outq6_n0 : Iq6_n0 → (Ex → St → Ans) → Yq6_n0 → Ans := fun (t29,o0_2,o2_4,o2_5,o13,o15,o16,o17,o19,o20,o21,o22) K => (Sum.elim (unP fun t2_y => unP fun o1_4_y => unP fun o1_5_y o18_y => K (Ex.ret) { env := [(2,.int .i64 t2_y)],stk := [[(0,.ptr 0 0),(1,.ptr 1 0),(2,.ptr 2 0)]],H := [.cells [.ifc 27 (.ptr 1 0),.ifc 27 (.ptr 2 0),.int .i64 o0_2,.own 13,.own 14],.cells [.own 15,.own 16,.own 17,.own 18,.int .i64 o1_4_y,.int .i64 o1_5_y],.cells [.own 19,.own 20,.own 21,.own 22,.int .i64 o2_4,.int .i64 o2_5],.dead,.dead,.dead,.dead,.dead,.dead,.dead,.dead,.dead,.dead,.arr (.st (.pair (.int .i64) .str)) o13,.arr (.st (.pair (.int .i64) (.int .i64))) ([]),.arr (.int .i64) o15,.arr (.int .i64) o16,.arr (.st (.pair (.int .i64) (.int .i64))) o17,.arr (.st (.pair (.int .i64) .str)) o18_y,.arr (.int .i64) o19,.arr (.int .i64) o20,.arr (.st (.pair (.int .i64) (.int .i64))) o21,.arr (.st (.pair (.int .i64) .str)) o22],blk := 49153 }) (unP fun o1_4_y => unP fun o1_5_y o18_y => K (Ex.exit 0) { env := [],stk := [[(0,.ptr 0 0),(1,.ptr 1 0),(2,.ptr 2 0)]],H := [.cells [.ifc 27 (.ptr 1 0),.ifc 27 (.ptr 2 0),.int .i64 o0_2,.own 13,.own 14],.cells [.own 15,.own 16,.own 17,.own 18,.int .i64 o1_4_y,.int .i64 o1_5_y],.cells [.own 19,.own 20,.own 21,.own 22,.int .i64 o2_4,.int .i64 o2_5],.dead,.dead,.dead,.dead,.dead,.dead,.dead,.dead,.dead,.dead,.arr (.st (.pair (.int .i64) .str)) o13,.arr (.st (.pair (.int .i64) (.int .i64))) ([]),.arr (.int .i64) o15,.arr (.int .i64) o16,.arr (.st (.pair (.int .i64) (.int .i64))) o17,.arr (.st (.pair (.int .i64) .str)) o18_y,.arr (.int .i64) o19,.arr (.int .i64) o20,.arr (.st (.pair (.int .i64) (.int .i64))) o21,.arr (.st (.pair (.int .i64) .str)) o22],blk := 49152 }))
def stepq6_n0 {β : Type} : Iq6_n0 → Vq6_n0 → (Vq6_n0 → Option β) → (Yq6_n0 → Option β) → Option β := fun (t29,o0_2,o2_4,o2_5,o13,o15,o16,o17,o19,o20,o21,o22) (t30,o1_4,o1_5,o18) next exit => (bif decide (t30 < t29) then (bif inR t30 (List.length o13) then (bindO (o13[Int.toNat t30]?) fun x => (bindO (fnDq25 (x.fst,x.snd,o1_4,o1_5,o15,o16,o17,o18)) (Sum.elim (unP fun r_0_0 => unP fun r_0_1 => unP fun r_1 => unP fun o0_4 => unP fun o0_5 o5 => (bif r_1 != (0 : Int) then (exit (Sum.inl (r_1,o0_4,o0_5,o5))) else (next (IntKind.wrap .i64 (t30 + (1 : Int)),o0_4,o0_5,o5)))) (unP fun r_0_0 => unP fun r_0_1 => unP fun r_1 => unP fun o0_4 o0_5 => (bif r_1 != (0 : Int) then (exit (Sum.inl (r_1,o0_4,o0_5,o18))) else (next (IntKind.wrap .i64 (t30 + (1 : Int)),o0_4,o0_5,o18))))))) else none) else (exit (Sum.inr (o1_4,o1_5,o18))))
def stepDq6_n0 (i : Iq6_n0) (v : Vq6_n0) : Option (Vq6_n0 ⊕ Yq6_n0) := stepq6_n0 i v (fun v => some (.inl v)) (fun y => some (.inr y))
theorem stepq6_n0_nat (i : Iq6_n0) (v : Vq6_n0) (next : Vq6_n0 → Ans) (exit : Yq6_n0 → Ans) : stepq6_n0 i v next exit = bindO (stepDq6_n0 i v) (Sum.elim next exit) := by
  obtain ⟨t29,o0_2,o2_4,o2_5,o13,o15,o16,o17,o19,o20,o21,o22⟩ := i
  obtain ⟨t30,o1_4,o1_5,o18⟩ := v
  simp only [stepDq6_n0,stepq6_n0,bindO_cond,bindO_assoc,bindO_none,bindO_pure,bindO_elim,bindO_unP,bindO_empty,Sum.elim_inl,Sum.elim_inr]
theorem stepq6_n0_ok (n : Nat) (i : Iq6_n0) (v : Vq6_n0) (K : Ex → St → Ans) : codeI Try.tab envq6 noHint (codeD Try.tab envq6 noHint 0 64) (n+1) 47 annLq6_n0 (.loop Lq6_n0) (weakP 100013 (exk [] [2] [(0,[])]) K) (Sq6_n0 i v) = stepq6_n0 i v (fun v' => codeI Try.tab envq6 noHint (codeD Try.tab envq6 noHint 0 64) n 47 annLq6_n0 (.loop Lq6_n0) (weakP 100013 (exk [] [2] [(0,[])]) K) (Sq6_n0 i v')) (fun y => outq6_n0 i K y) := by kernel_rfl
theorem GNq6_n0_ok : CSum Try.prog 47 (.loop Lq6_n0) (sumL decq6_n0 stepDq6_n0 outq6_n0) := csum_loop mixed tabOk envq6Ok 100013 (exk [] [2] [(0,[])]) annLq6_n0_ok decq6_n0_ok stepq6_n0_ok stepq6_n0_nat
abbrev Iq6_n0v1 := (Int) × (Int) × (Int) × (Int) × (List (Int × List UInt8)) × (List Int) × (List Int) × (List (Int × Int)) × (List (Int × List UInt8)) × (List Int) × (List Int) × (List (Int × Int))
abbrev Yq6_n0v1 := ((Int) × (Int) × (Int) × (List (Int × List UInt8))) ⊕ ((Int) × (Int) × (List (Int × List UInt8)))
abbrev Vq6_n0v1 := (Int) × (Int) × (Int) × (List (Int × List UInt8))
def Sq6_n0v1 : Iq6_n0v1 → Vq6_n0v1 → St := fun (t29,o0_2,o1_4,o1_5,o13,o15,o16,o17,o18,o19,o20,o21) (t30,o2_4,o2_5,o22) => { env := [(3,.ifc 27 (.ptr 2 0)),(28,.own 13),(29,.int .i64 t29),(30,.int .i64 t30)],stk := [[(0,.ptr 0 0),(1,.ptr 1 0),(2,.ptr 2 0)]],H := [.cells [.ifc 27 (.ptr 1 0),.ifc 27 (.ptr 2 0),.int .i64 o0_2,.own 13,.own 14],.cells [.own 15,.own 16,.own 17,.own 18,.int .i64 o1_4,.int .i64 o1_5],.cells [.own 19,.own 20,.own 21,.own 22,.int .i64 o2_4,.int .i64 o2_5],.dead,.dead,.dead,.dead,.dead,.dead,.dead,.dead,.dead,.dead,.arr (.st (.pair (.int .i64) .str)) o13,.arr (.st (.pair (.int .i64) (.int .i64))) ([]),.arr (.int .i64) o15,.arr (.int .i64) o16,.arr (.st (.pair (.int .i64) (.int .i64))) o17,.arr (.st (.pair (.int .i64) .str)) o18,.arr (.int .i64) o19,.arr (.int .i64) o20,.arr (.st (.pair (.int .i64) (.int .i64))) o21,.arr (.st (.pair (.int .i64) .str)) o22],blk := 49152 }
def decPq6_n0v1 (s : St) : Option {x : Iq6_n0v1 × Vq6_n0v1 // s = Sq6_n0v1 x.1 x.2} := match s with
  | { env := [(3,.ifc 27 (.ptr 2 0)),(28,.own 13),(29,.int .i64 t29),(30,.int .i64 t30)],stk := [[(0,.ptr 0 0),(1,.ptr 1 0),(2,.ptr 2 0)]],H := [.cells [.ifc 27 (.ptr 1 0),.ifc 27 (.ptr 2 0),.int .i64 o0_2,.own 13,.own 14],.cells [.own 15,.own 16,.own 17,.own 18,.int .i64 o1_4,.int .i64 o1_5],.cells [.own 19,.own 20,.own 21,.own 22,.int .i64 o2_4,.int .i64 o2_5],.dead,.dead,.dead,.dead,.dead,.dead,.dead,.dead,.dead,.dead,.arr (.st (.pair (.int .i64) .str)) o13,.arr (.st (.pair (.int .i64) (.int .i64))) r8,.arr (.int .i64) o15,.arr (.int .i64) o16,.arr (.st (.pair (.int .i64) (.int .i64))) o17,.arr (.st (.pair (.int .i64) .str)) o18,.arr (.int .i64) o19,.arr (.int .i64) o20,.arr (.st (.pair (.int .i64) (.int .i64))) o21,.arr (.st (.pair (.int .i64) .str)) o22],blk := 49152 } => if h8 : r8 = [] then some ⟨((t29,o0_2,o1_4,o1_5,o13,o15,o16,o17,o18,o19,o20,o21),(t30,o2_4,o2_5,o22)),by subst h8; rfl⟩ else none
  | _ => none
def decq6_n0v1 (s : St) : Option (Iq6_n0v1 × Vq6_n0v1) := pk (decPq6_n0v1 s)
theorem decq6_n0v1_ok (s : St) (x : Iq6_n0v1 × Vq6_n0v1) (h : decq6_n0v1 s = some x) : s = Sq6_n0v1 x.1 x.2 := pk_ok (o := decPq6_n0v1 s) h
def outq6_n0v1 : Iq6_n0v1 → (Ex → St → Ans) → Yq6_n0v1 → Ans := fun (t29,o0_2,o1_4,o1_5,o13,o15,o16,o17,o18,o19,o20,o21) K => (Sum.elim (unP fun t2_y => unP fun o2_4_y => unP fun o2_5_y o22_y => K (Ex.ret) { env := [(2,.int .i64 t2_y)],stk := [[(0,.ptr 0 0),(1,.ptr 1 0),(2,.ptr 2 0)]],H := [.cells [.ifc 27 (.ptr 1 0),.ifc 27 (.ptr 2 0),.int .i64 o0_2,.own 13,.own 14],.cells [.own 15,.own 16,.own 17,.own 18,.int .i64 o1_4,.int .i64 o1_5],.cells [.own 19,.own 20,.own 21,.own 22,.int .i64 o2_4_y,.int .i64 o2_5_y],.dead,.dead,.dead,.dead,.dead,.dead,.dead,.dead,.dead,.dead,.arr (.st (.pair (.int .i64) .str)) o13,.arr (.st (.pair (.int .i64) (.int .i64))) ([]),.arr (.int .i64) o15,.arr (.int .i64) o16,.arr (.st (.pair (.int .i64) (.int .i64))) o17,.arr (.st (.pair (.int .i64) .str)) o18,.arr (.int .i64) o19,.arr (.int .i64) o20,.arr (.st (.pair (.int .i64) (.int .i64))) o21,.arr (.st (.pair (.int .i64) .str)) o22_y],blk := 49153 }) (unP fun o2_4_y => unP fun o2_5_y o22_y => K (Ex.exit 0) { env := [],stk := [[(0,.ptr 0 0),(1,.ptr 1 0),(2,.ptr 2 0)]],H := [.cells [.ifc 27 (.ptr 1 0),.ifc 27 (.ptr 2 0),.int .i64 o0_2,.own 13,.own 14],.cells [.own 15,.own 16,.own 17,.own 18,.int .i64 o1_4,.int .i64 o1_5],.cells [.own 19,.own 20,.own 21,.own 22,.int .i64 o2_4_y,.int .i64 o2_5_y],.dead,.dead,.dead,.dead,.dead,.dead,.dead,.dead,.dead,.dead,.arr (.st (.pair (.int .i64) .str)) o13,.arr (.st (.pair (.int .i64) (.int .i64))) ([]),.arr (.int .i64) o15,.arr (.int .i64) o16,.arr (.st (.pair (.int .i64) (.int .i64))) o17,.arr (.st (.pair (.int .i64) .str)) o18,.arr (.int .i64) o19,.arr (.int .i64) o20,.arr (.st (.pair (.int .i64) (.int .i64))) o21,.arr (.st (.pair (.int .i64) .str)) o22_y],blk := 49152 }))
def stepq6_n0v1 {β : Type} : Iq6_n0v1 → Vq6_n0v1 → (Vq6_n0v1 → Option β) → (Yq6_n0v1 → Option β) → Option β := fun (t29,o0_2,o1_4,o1_5,o13,o15,o16,o17,o18,o19,o20,o21) (t30,o2_4,o2_5,o22) next exit => (bif decide (t30 < t29) then (bif inR t30 (List.length o13) then (bindO (o13[Int.toNat t30]?) fun x => (bindO (fnDq25 (x.fst,x.snd,o2_4,o2_5,o19,o20,o21,o22)) (Sum.elim (unP fun r_0_0 => unP fun r_0_1 => unP fun r_1 => unP fun o0_4 => unP fun o0_5 o5 => (bif r_1 != (0 : Int) then (exit (Sum.inl (r_1,o0_4,o0_5,o5))) else (next (IntKind.wrap .i64 (t30 + (1 : Int)),o0_4,o0_5,o5)))) (unP fun r_0_0 => unP fun r_0_1 => unP fun r_1 => unP fun o0_4 o0_5 => (bif r_1 != (0 : Int) then (exit (Sum.inl (r_1,o0_4,o0_5,o22))) else (next (IntKind.wrap .i64 (t30 + (1 : Int)),o0_4,o0_5,o22))))))) else none) else (exit (Sum.inr (o2_4,o2_5,o22))))
def stepDq6_n0v1 (i : Iq6_n0v1) (v : Vq6_n0v1) : Option (Vq6_n0v1 ⊕ Yq6_n0v1) := stepq6_n0v1 i v (fun v => some (.inl v)) (fun y => some (.inr y))
theorem stepq6_n0v1_nat (i : Iq6_n0v1) (v : Vq6_n0v1) (next : Vq6_n0v1 → Ans) (exit : Yq6_n0v1 → Ans) : stepq6_n0v1 i v next exit = bindO (stepDq6_n0v1 i v) (Sum.elim next exit) := by
  obtain ⟨t29,o0_2,o1_4,o1_5,o13,o15,o16,o17,o18,o19,o20,o21⟩ := i
  obtain ⟨t30,o2_4,o2_5,o22⟩ := v
  simp only [stepDq6_n0v1,stepq6_n0v1,bindO_cond,bindO_assoc,bindO_none,bindO_pure,bindO_elim,bindO_unP,bindO_empty,Sum.elim_inl,Sum.elim_inr]
theorem stepq6_n0v1_ok (n : Nat) (i : Iq6_n0v1) (v : Vq6_n0v1) (K : Ex → St → Ans) : codeI Try.tab envq6 noHint (codeD Try.tab envq6 noHint 0 64) (n+1) 47 annLq6_n0 (.loop Lq6_n0) (weakP 100013 (exk [] [2] [(0,[])]) K) (Sq6_n0v1 i v) = stepq6_n0v1 i v (fun v' => codeI Try.tab envq6 noHint (codeD Try.tab envq6 noHint 0 64) n 47 annLq6_n0 (.loop Lq6_n0) (weakP 100013 (exk [] [2] [(0,[])]) K) (Sq6_n0v1 i v')) (fun y => outq6_n0v1 i K y) := by kernel_rfl
theorem GNq6_n0v1_ok : CSum Try.prog 47 (.loop Lq6_n0) (sumL decq6_n0v1 stepDq6_n0v1 outq6_n0v1) := csum_loop mixed tabOk envq6Ok 100013 (exk [] [2] [(0,[])]) annLq6_n0_ok decq6_n0v1_ok stepq6_n0v1_ok stepq6_n0v1_nat
noncomputable def Gq6_n0 : (Ex → St → Ans) → St → Ans := (altN decq6_n0 (sumL decq6_n0 stepDq6_n0 outq6_n0) (sumL decq6_n0v1 stepDq6_n0v1 outq6_n0v1))
theorem Gq6_n0_ok : CSum Try.prog 47 (.loop Lq6_n0) Gq6_n0 := (csum_altN GNq6_n0_ok GNq6_n0v1_ok)
noncomputable def annq6 : Ann := (.seq .none (.seq .none (.seq .none (.seq .none (.seq .none (.seq .none (.seq (.seq .none (.block (.cut 100013 [3,28,29,30] Gq6_n0))) .none)))))))
theorem annq6_ok : AnnOk Try.prog 47 bq6 annq6 := ⟨(annOk_none _ _ _),⟨(annOk_none _ _ _),⟨(annOk_none _ _ _),⟨(annOk_none _ _ _),⟨(annOk_none _ _ _),⟨(annOk_none _ _ _),⟨⟨(annOk_none _ _ _),Gq6_n0_ok⟩,(annOk_none _ _ _)⟩⟩⟩⟩⟩⟩⟩
abbrev Aq6 := (Int) × (Int) × (Int) × (Int) × (Int) × (List (Int × List UInt8)) × (List (Int × Int)) × (List Int) × (List Int) × (List (Int × Int)) × (List (Int × List UInt8)) × (List Int) × (List Int) × (List (Int × Int)) × (List (Int × List UInt8))
abbrev Yq6 := (Int) × (Int) × (Int) × (Int) × (Int) × (Int) × (List (Int × List UInt8)) × (List (Int × List UInt8))
def fnq6 {β : Type} : Aq6 → (Yq6 → Option β) → Option β := fun (o0_2,o1_4,o1_5,o2_4,o2_5,o3,o4,o5,o6,o7,o8,o9,o10,o11,o12) exit => (bindO (fnDq14 (IntKind.wrap .i64 ((1 : Int) - o0_2),o1_4,o1_5,o2_4,o2_5,o3,[],o5,o6,o7,o8,o9,o10,o11,o12)) (Sum.elim (fun _ => (bindO (loopD (stepDq6_n0 ((↑(List.length o3) : Int),IntKind.wrap .i64 ((1 : Int) - o0_2),o2_4,o2_5,o3,o5,o6,o7,o9,o10,o11,o12)) FUEL ((0 : Int),o1_4,o1_5,o8)) (Sum.elim (unP fun t2 => unP fun o1_4_2 => unP fun o1_5_2 o18 => (exit (t2,IntKind.wrap .i64 ((1 : Int) - o0_2),o1_4_2,o1_5_2,o2_4,o2_5,o18,o12))) (unP fun o1_4_2 => unP fun o1_5_2 o18 => (exit ((0 : Int),IntKind.wrap .i64 ((1 : Int) - o0_2),o1_4_2,o1_5_2,o2_4,o2_5,o18,o12)))))) (fun _ => (bindO (loopD (stepDq6_n0v1 ((↑(List.length o3) : Int),IntKind.wrap .i64 ((1 : Int) - o0_2),o1_4,o1_5,o3,o5,o6,o7,o8,o9,o10,o11)) FUEL ((0 : Int),o2_4,o2_5,o12)) (Sum.elim (unP fun t2 => unP fun o2_4_2 => unP fun o2_5_2 o22 => (exit (t2,IntKind.wrap .i64 ((1 : Int) - o0_2),o1_4,o1_5,o2_4_2,o2_5_2,o8,o22))) (unP fun o2_4_2 => unP fun o2_5_2 o22 => (exit ((0 : Int),IntKind.wrap .i64 ((1 : Int) - o0_2),o1_4,o1_5,o2_4_2,o2_5_2,o8,o22))))))))
def fnDq6 (a : Aq6) : Option Yq6 := fnq6 a some
theorem fnq6_nat (a : Aq6) (k : Yq6 → Ans) : fnq6 a k = bindO (fnDq6 a) k := by
  obtain ⟨o0_2,o1_4,o1_5,o2_4,o2_5,o3,o4,o5,o6,o7,o8,o9,o10,o11,o12⟩ := a
  simp only [fnDq6,fnq6,bindO_cond,bindO_assoc,bindO_none,bindO_pure,bindO_elim,bindO_unP,bindO_empty]
def argsq6 : Aq6 → List AV × List AE.Obj := fun (o0_2,o1_4,o1_5,o2_4,o2_5,o3,o4,o5,o6,o7,o8,o9,o10,o11,o12) => ([.ptr 0 0],[.cells [.ifc 27 (.ptr 1 0),.ifc 27 (.ptr 2 0),.int .i64 o0_2,.own 3,.own 4],.cells [.own 5,.own 6,.own 7,.own 8,.int .i64 o1_4,.int .i64 o1_5],.cells [.own 9,.own 10,.own 11,.own 12,.int .i64 o2_4,.int .i64 o2_5],.arr (.st (.pair (.int .i64) .str)) o3,.arr (.st (.pair (.int .i64) (.int .i64))) o4,.arr (.int .i64) o5,.arr (.int .i64) o6,.arr (.st (.pair (.int .i64) (.int .i64))) o7,.arr (.st (.pair (.int .i64) .str)) o8,.arr (.int .i64) o9,.arr (.int .i64) o10,.arr (.st (.pair (.int .i64) (.int .i64))) o11,.arr (.st (.pair (.int .i64) .str)) o12])
def decPAq6 (l : List AV) (H : List AE.Obj) : Option {a : Aq6 // (l,H) = argsq6 a} := match l,H with
  | [.ptr 0 0],[.cells [.ifc 27 (.ptr 1 0),.ifc 27 (.ptr 2 0),.int .i64 o0_2,.own 3,.own 4],.cells [.own 5,.own 6,.own 7,.own 8,.int .i64 o1_4,.int .i64 o1_5],.cells [.own 9,.own 10,.own 11,.own 12,.int .i64 o2_4,.int .i64 o2_5],.arr (.st (.pair (.int .i64) .str)) o3,.arr (.st (.pair (.int .i64) (.int .i64))) o4,.arr (.int .i64) o5,.arr (.int .i64) o6,.arr (.st (.pair (.int .i64) (.int .i64))) o7,.arr (.st (.pair (.int .i64) .str)) o8,.arr (.int .i64) o9,.arr (.int .i64) o10,.arr (.st (.pair (.int .i64) (.int .i64))) o11,.arr (.st (.pair (.int .i64) .str)) o12] => some ⟨(o0_2,o1_4,o1_5,o2_4,o2_5,o3,o4,o5,o6,o7,o8,o9,o10,o11,o12),rfl⟩
  | _,_ => none
def decAq6 (l : List AV) (H : List AE.Obj) : Option Aq6 := pk (decPAq6 l H)
theorem decAq6_ok (l : List AV) (H : List AE.Obj) (a : Aq6) (h : decAq6 l H = some a) : (l,H) = argsq6 a := pk_ok (o := decPAq6 l H) h
def outq6 : Aq6 → (AV → List AE.Obj → Ans) → Yq6 → Ans := fun (o0_2,o1_4,o1_5,o2_4,o2_5,o3,o4,o5,o6,o7,o8,o9,o10,o11,o12) K => unP fun r_y => unP fun o0_2_y => unP fun o1_4_y => unP fun o1_5_y => unP fun o2_4_y => unP fun o2_5_y => unP fun o18_y o22_y => K (.int .i64 r_y) [.cells [.ifc 27 (.ptr 1 0),.ifc 27 (.ptr 2 0),.int .i64 o0_2_y,.own 13,.own 14],.cells [.own 15,.own 16,.own 17,.own 18,.int .i64 o1_4_y,.int .i64 o1_5_y],.cells [.own 19,.own 20,.own 21,.own 22,.int .i64 o2_4_y,.int .i64 o2_5_y],.dead,.dead,.dead,.dead,.dead,.dead,.dead,.dead,.dead,.dead,.arr (.st (.pair (.int .i64) .str)) o3,.arr (.st (.pair (.int .i64) (.int .i64))) ([]),.arr (.int .i64) o5,.arr (.int .i64) o6,.arr (.st (.pair (.int .i64) (.int .i64))) o7,.arr (.st (.pair (.int .i64) .str)) o18_y,.arr (.int .i64) o9,.arr (.int .i64) o10,.arr (.st (.pair (.int .i64) (.int .i64))) o11,.arr (.st (.pair (.int .i64) .str)) o22_y]
theorem fnq6_ok (a : Aq6) (K : AV → List AE.Obj → Ans) : fnE Try.tab envq6 noHint 0 70 12 Try.f12.ntmps Try.f12.results.toList annq6 bq6 (argsq6 a).1 (argsq6 a).2 K = fnq6 a (outq6 a K) := by kernel_rfl
def vFq6 (a : Aq6) (K : AV → List AE.Obj → Ans) : Ans := bindO (fnDq6 a) fun y => outq6 a K y
def Fq6 : List AV → List AE.Obj → (AV → List AE.Obj → Ans) → Ans := fun l H K => bindO (decAq6 l H) fun a => vFq6 a K
theorem Fq6_ok : FuncOk Try.prog 12 Fq6 := func_mkD (hint := noHint) (d := 0) (n := 70) mixed tabOk envq6Ok Try.func12 (bodySome (by kernel_rfl)) (by decide +kernel) annq6_ok decAq6_ok fnq6_ok fnq6_nat
--@ law44_Tape_Read
noncomputable def envq24 : Env := []
theorem envq24Ok : EnvOk Try.prog envq24 := EnvOk.nil
noncomputable def bq24 : Code := Try.f41.body.getD .skip
noncomputable def Lq24_n0 : Code := codeAt [1,0,1,0,0] bq24
noncomputable def annLq24_n0 : Ann := .at 5 [0,1,6] (.loop .none)
theorem annLq24_n0_ok : AnnOk Try.prog 35 (.loop Lq24_n0) annLq24_n0 := annOk_at (annOk_none _ _ _)
abbrev Iq24_n0 := (Int) × (Int) × (Int) × (List Int) × (List Int) × (List (Int × Int)) × (List (Int × List UInt8))
abbrev Yq24_n0 := ((List UInt8)) ⊕ (Unit)
abbrev Vq24_n0 := (Int)
def Sq24_n0 : Iq24_n0 → Vq24_n0 → St := fun (t1,o0_4,o0_5,o1,o2,o3,o4) t6 => { env := [(0,.ptr 0 0),(1,.int .i64 t1),(6,.int .i64 t6)],stk := [[(0,.ptr 0 0)]],H := [.cells [.own 1,.own 2,.own 3,.own 4,.int .i64 o0_4,.int .i64 o0_5],.arr (.int .i64) o1,.arr (.int .i64) o2,.arr (.st (.pair (.int .i64) (.int .i64))) o3,.arr (.st (.pair (.int .i64) .str)) o4],blk := 167936 }
def decPq24_n0 (s : St) : Option {x : Iq24_n0 × Vq24_n0 // s = Sq24_n0 x.1 x.2} := match s with
  | { env := [(0,.ptr 0 0),(1,.int .i64 t1),(6,.int .i64 t6)],stk := [[(0,.ptr 0 0)]],H := [.cells [.own 1,.own 2,.own 3,.own 4,.int .i64 o0_4,.int .i64 o0_5],.arr (.int .i64) o1,.arr (.int .i64) o2,.arr (.st (.pair (.int .i64) (.int .i64))) o3,.arr (.st (.pair (.int .i64) .str)) o4],blk := 167936 } => some ⟨((t1,o0_4,o0_5,o1,o2,o3,o4),t6),rfl⟩
  | _ => none
def decq24_n0 (s : St) : Option (Iq24_n0 × Vq24_n0) := pk (decPq24_n0 s)
theorem decq24_n0_ok (s : St) (x : Iq24_n0 × Vq24_n0) (h : decq24_n0 s = some x) : s = Sq24_n0 x.1 x.2 := pk_ok (o := decPq24_n0 s) h
def outq24_n0 : Iq24_n0 → (Ex → St → Ans) → Yq24_n0 → Ans := fun (t1,o0_4,o0_5,o1,o2,o3,o4) K => (Sum.elim (fun t4_y => K (Ex.ret) { env := [(4,.str t4_y),(5,.int .i64 (0))],stk := [[(0,.ptr 0 0)]],H := [.cells [.own 1,.own 2,.own 3,.own 4,.int .i64 o0_4,.int .i64 o0_5],.arr (.int .i64) o1,.arr (.int .i64) o2,.arr (.st (.pair (.int .i64) (.int .i64))) o3,.arr (.st (.pair (.int .i64) .str)) o4],blk := 167937 }) (fun _ => K (Ex.exit 0) { env := [],stk := [[(0,.ptr 0 0)]],H := [.cells [.own 1,.own 2,.own 3,.own 4,.int .i64 o0_4,.int .i64 o0_5],.arr (.int .i64) o1,.arr (.int .i64) o2,.arr (.st (.pair (.int .i64) (.int .i64))) o3,.arr (.st (.pair (.int .i64) .str)) o4],blk := 167936 }))
def stepq24_n0 {β : Type} : Iq24_n0 → Vq24_n0 → (Vq24_n0 → Option β) → (Yq24_n0 → Option β) → Option β := fun (t1,o0_4,o0_5,o1,o2,o3,o4) t6 next exit => (bif decide (t6 ≥ (0 : Int)) then (bif inR t6 (List.length o4) then (bindO (o4[Int.toNat t6]?) fun x => (bif x.fst == t1 then (bif inR t6 (List.length o4) then (bindO (o4[Int.toNat t6]?) fun x_2 => (exit (Sum.inl (x_2.snd)))) else none) else (next (IntKind.wrap .i64 (t6 - (1 : Int)))))) else none) else (exit (Sum.inr ())))
def stepDq24_n0 (i : Iq24_n0) (v : Vq24_n0) : Option (Vq24_n0 ⊕ Yq24_n0) := stepq24_n0 i v (fun v => some (.inl v)) (fun y => some (.inr y))
theorem stepq24_n0_nat (i : Iq24_n0) (v : Vq24_n0) (next : Vq24_n0 → Ans) (exit : Yq24_n0 → Ans) : stepq24_n0 i v next exit = bindO (stepDq24_n0 i v) (Sum.elim next exit) := by
  obtain ⟨t1,o0_4,o0_5,o1,o2,o3,o4⟩ := i
  obtain z := v
  simp only [stepDq24_n0,stepq24_n0,bindO_cond,bindO_assoc,bindO_none,bindO_pure,bindO_elim,bindO_unP,bindO_empty,Sum.elim_inl,Sum.elim_inr]
theorem stepq24_n0_ok (n : Nat) (i : Iq24_n0) (v : Vq24_n0) (K : Ex → St → Ans) : codeI Try.tab envq24 noHint (codeD Try.tab envq24 noHint 0 64) (n+1) 35 annLq24_n0 (.loop Lq24_n0) (weakP 5 (exk [] [4,5] [(0,[])]) K) (Sq24_n0 i v) = stepq24_n0 i v (fun v' => codeI Try.tab envq24 noHint (codeD Try.tab envq24 noHint 0 64) n 35 annLq24_n0 (.loop Lq24_n0) (weakP 5 (exk [] [4,5] [(0,[])]) K) (Sq24_n0 i v')) (fun y => outq24_n0 i K y) := by kernel_rfl
theorem GNq24_n0_ok : CSum Try.prog 35 (.loop Lq24_n0) (sumL decq24_n0 stepDq24_n0 outq24_n0) := csum_loop mixed tabOk envq24Ok 5 (exk [] [4,5] [(0,[])]) annLq24_n0_ok decq24_n0_ok stepq24_n0_ok stepq24_n0_nat
noncomputable def Gq24_n0 : (Ex → St → Ans) → St → Ans := (sumL decq24_n0 stepDq24_n0 outq24_n0)
theorem Gq24_n0_ok : CSum Try.prog 35 (.loop Lq24_n0) Gq24_n0 := GNq24_n0_ok
noncomputable def annq24 : Ann := (.seq .none (.seq (.seq .none (.block (.cut 5 [0,1,6] Gq24_n0))) .none))
theorem annq24_ok : AnnOk Try.prog 35 bq24 annq24 := ⟨(annOk_none _ _ _),⟨⟨(annOk_none _ _ _),Gq24_n0_ok⟩,(annOk_none _ _ _)⟩⟩
abbrev Aq24 := (Int) × (Int) × (Int) × (List Int) × (List Int) × (List (Int × Int)) × (List (Int × List UInt8))
abbrev Yq24 := (List UInt8) × (Int)
def fnq24 {β : Type} : Aq24 → (Yq24 → Option β) → Option β := fun (a1,o0_4,o0_5,o1,o2,o3,o4) exit => (bindO (loopD (stepDq24_n0 (a1,o0_4,o0_5,o1,o2,o3,o4)) FUEL (IntKind.wrap .i64 ((↑(List.length o4) : Int) - (1 : Int)))) (Sum.elim (fun t4 => (exit (t4,(0 : Int)))) (fun _ => (exit ([],(3 : Int))))))
def fnDq24 (a : Aq24) : Option Yq24 := fnq24 a some
theorem fnq24_nat (a : Aq24) (k : Yq24 → Ans) : fnq24 a k = bindO (fnDq24 a) k := by
  obtain ⟨a1,o0_4,o0_5,o1,o2,o3,o4⟩ := a
  simp only [fnDq24,fnq24,bindO_cond,bindO_assoc,bindO_none,bindO_pure,bindO_elim,bindO_unP,bindO_empty]
def argsq24 : Aq24 → List AV × List AE.Obj := fun (a1,o0_4,o0_5,o1,o2,o3,o4) => ([.ptr 0 0,.int .i64 a1],[.cells [.own 1,.own 2,.own 3,.own 4,.int .i64 o0_4,.int .i64 o0_5],.arr (.int .i64) o1,.arr (.int .i64) o2,.arr (.st (.pair (.int .i64) (.int .i64))) o3,.arr (.st (.pair (.int .i64) .str)) o4])
def decPAq24 (l : List AV) (H : List AE.Obj) : Option {a : Aq24 // (l,H) = argsq24 a} := match l,H with
  | [.ptr 0 0,.int .i64 a1],[.cells [.own 1,.own 2,.own 3,.own 4,.int .i64 o0_4,.int .i64 o0_5],.arr (.int .i64) o1,.arr (.int .i64) o2,.arr (.st (.pair (.int .i64) (.int .i64))) o3,.arr (.st (.pair (.int .i64) .str)) o4] => some ⟨(a1,o0_4,o0_5,o1,o2,o3,o4),rfl⟩
  | _,_ => none
def decAq24 (l : List AV) (H : List AE.Obj) : Option Aq24 := pk (decPAq24 l H)
theorem decAq24_ok (l : List AV) (H : List AE.Obj) (a : Aq24) (h : decAq24 l H = some a) : (l,H) = argsq24 a := pk_ok (o := decPAq24 l H) h
def outq24 : Aq24 → (AV → List AE.Obj → Ans) → Yq24 → Ans := fun (a1,o0_4,o0_5,o1,o2,o3,o4) K => unP fun r_0_y r_1_y => K (.tup [.str r_0_y,.int .i64 r_1_y]) [.cells [.own 1,.own 2,.own 3,.own 4,.int .i64 o0_4,.int .i64 o0_5],.arr (.int .i64) o1,.arr (.int .i64) o2,.arr (.st (.pair (.int .i64) (.int .i64))) o3,.arr (.st (.pair (.int .i64) .str)) o4]
theorem fnq24_ok (a : Aq24) (K : AV → List AE.Obj → Ans) : fnE Try.tab envq24 noHint 0 70 41 Try.f41.ntmps Try.f41.results.toList annq24 bq24 (argsq24 a).1 (argsq24 a).2 K = fnq24 a (outq24 a K) := by kernel_rfl
def vFq24 (a : Aq24) (K : AV → List AE.Obj → Ans) : Ans := bindO (fnDq24 a) fun y => outq24 a K y
def Fq24 : List AV → List AE.Obj → (AV → List AE.Obj → Ans) → Ans := fun l H K => bindO (decAq24 l H) fun a => vFq24 a K
theorem Fq24_ok : FuncOk Try.prog 41 Fq24 := func_mkD (hint := noHint) (d := 0) (n := 70) mixed tabOk envq24Ok Try.func41 (bodySome (by kernel_rfl)) (by decide +kernel) annq24_ok decAq24_ok fnq24_ok fnq24_nat
--@ client_Client_Read
noncomputable def envq8 : Env := [(21,.func Fq14),(41,.func Fq24)]
theorem envq8Ok : EnvOk Try.prog envq8 := EnvOk.cons Fq14_ok (EnvOk.cons Fq24_ok (EnvOk.nil))
noncomputable def bq8 : Code := Try.f20.body.getD .skip
noncomputable def annq8 : Ann := .none
theorem annq8_ok : AnnOk Try.prog 16 bq8 annq8 := (annOk_none _ _ _)
abbrev Aq8 := (Int) × (Int) × (Int) × (Int) × (Int) × (Int) × (List (Int × List UInt8)) × (List (Int × Int)) × (List Int) × (List Int) × (List (Int × Int)) × (List (Int × List UInt8)) × (List Int) × (List Int) × (List (Int × Int)) × (List (Int × List UInt8))
abbrev Yq8 := (List UInt8) × (Int)
def fnq8 {β : Type} : Aq8 → (Yq8 → Option β) → Option β := fun (a1,o0_2,o1_4,o1_5,o2_4,o2_5,o3,o4,o5,o6,o7,o8,o9,o10,o11,o12) exit => (bindO (fnDq14 (o0_2,o1_4,o1_5,o2_4,o2_5,o3,o4,o5,o6,o7,o8,o9,o10,o11,o12)) (Sum.elim (fun _ => (bindO (fnDq24 (a1,o1_4,o1_5,o5,o6,o7,o8)) (unP fun r_0 r_1 => (exit (r_0,r_1))))) (fun _ => (bindO (fnDq24 (a1,o2_4,o2_5,o9,o10,o11,o12)) (unP fun r_0 r_1 => (exit (r_0,r_1)))))))
def fnDq8 (a : Aq8) : Option Yq8 := fnq8 a some
theorem fnq8_nat (a : Aq8) (k : Yq8 → Ans) : fnq8 a k = bindO (fnDq8 a) k := by
  obtain ⟨a1,o0_2,o1_4,o1_5,o2_4,o2_5,o3,o4,o5,o6,o7,o8,o9,o10,o11,o12⟩ := a
  simp only [fnDq8,fnq8,bindO_cond,bindO_assoc,bindO_none,bindO_pure,bindO_elim,bindO_unP,bindO_empty]
def argsq8 : Aq8 → List AV × List AE.Obj := fun (a1,o0_2,o1_4,o1_5,o2_4,o2_5,o3,o4,o5,o6,o7,o8,o9,o10,o11,o12) => ([.ptr 0 0,.int .i64 a1],[.cells [.ifc 27 (.ptr 1 0),.ifc 27 (.ptr 2 0),.int .i64 o0_2,.own 3,.own 4],.cells [.own 5,.own 6,.own 7,.own 8,.int .i64 o1_4,.int .i64 o1_5],.cells [.own 9,.own 10,.own 11,.own 12,.int .i64 o2_4,.int .i64 o2_5],.arr (.st (.pair (.int .i64) .str)) o3,.arr (.st (.pair (.int .i64) (.int .i64))) o4,.arr (.int .i64) o5,.arr (.int .i64) o6,.arr (.st (.pair (.int .i64) (.int .i64))) o7,.arr (.st (.pair (.int .i64) .str)) o8,.arr (.int .i64) o9,.arr (.int .i64) o10,.arr (.st (.pair (.int .i64) (.int .i64))) o11,.arr (.st (.pair (.int .i64) .str)) o12])
def decPAq8 (l : List AV) (H : List AE.Obj) : Option {a : Aq8 // (l,H) = argsq8 a} := match l,H with
  | [.ptr 0 0,.int .i64 a1],[.cells [.ifc 27 (.ptr 1 0),.ifc 27 (.ptr 2 0),.int .i64 o0_2,.own 3,.own 4],.cells [.own 5,.own 6,.own 7,.own 8,.int .i64 o1_4,.int .i64 o1_5],.cells [.own 9,.own 10,.own 11,.own 12,.int .i64 o2_4,.int .i64 o2_5],.arr (.st (.pair (.int .i64) .str)) o3,.arr (.st (.pair (.int .i64) (.int .i64))) o4,.arr (.int .i64) o5,.arr (.int .i64) o6,.arr (.st (.pair (.int .i64) (.int .i64))) o7,.arr (.st (.pair (.int .i64) .str)) o8,.arr (.int .i64) o9,.arr (.int .i64) o10,.arr (.st (.pair (.int .i64) (.int .i64))) o11,.arr (.st (.pair (.int .i64) .str)) o12] => some ⟨(a1,o0_2,o1_4,o1_5,o2_4,o2_5,o3,o4,o5,o6,o7,o8,o9,o10,o11,o12),rfl⟩
  | _,_ => none
def decAq8 (l : List AV) (H : List AE.Obj) : Option Aq8 := pk (decPAq8 l H)
theorem decAq8_ok (l : List AV) (H : List AE.Obj) (a : Aq8) (h : decAq8 l H = some a) : (l,H) = argsq8 a := pk_ok (o := decPAq8 l H) h
def outq8 : Aq8 → (AV → List AE.Obj → Ans) → Yq8 → Ans := fun (a1,o0_2,o1_4,o1_5,o2_4,o2_5,o3,o4,o5,o6,o7,o8,o9,o10,o11,o12) K => unP fun r_0_y r_1_y => K (.tup [.str r_0_y,.int .i64 r_1_y]) [.cells [.ifc 27 (.ptr 1 0),.ifc 27 (.ptr 2 0),.int .i64 o0_2,.own 3,.own 4],.cells [.own 5,.own 6,.own 7,.own 8,.int .i64 o1_4,.int .i64 o1_5],.cells [.own 9,.own 10,.own 11,.own 12,.int .i64 o2_4,.int .i64 o2_5],.arr (.st (.pair (.int .i64) .str)) o3,.arr (.st (.pair (.int .i64) (.int .i64))) o4,.arr (.int .i64) o5,.arr (.int .i64) o6,.arr (.st (.pair (.int .i64) (.int .i64))) o7,.arr (.st (.pair (.int .i64) .str)) o8,.arr (.int .i64) o9,.arr (.int .i64) o10,.arr (.st (.pair (.int .i64) (.int .i64))) o11,.arr (.st (.pair (.int .i64) .str)) o12]
theorem fnq8_ok (a : Aq8) (K : AV → List AE.Obj → Ans) : fnE Try.tab envq8 noHint 0 70 20 Try.f20.ntmps Try.f20.results.toList annq8 bq8 (argsq8 a).1 (argsq8 a).2 K = fnq8 a (outq8 a K) := by kernel_rfl
def vFq8 (a : Aq8) (K : AV → List AE.Obj → Ans) : Ans := bindO (fnDq8 a) fun y => outq8 a K y
def Fq8 : List AV → List AE.Obj → (AV → List AE.Obj → Ans) → Ans := fun l H K => bindO (decAq8 l H) fun a => vFq8 a K
theorem Fq8_ok : FuncOk Try.prog 20 Fq8 := func_mkD (hint := noHint) (d := 0) (n := 70) mixed tabOk envq8Ok Try.func20 (bodySome (by kernel_rfl)) (by decide +kernel) annq8_ok decAq8_ok fnq8_ok fnq8_nat
--@ client_Client_At
noncomputable def envq0 : Env := []
theorem envq0Ok : EnvOk Try.prog envq0 := EnvOk.nil
noncomputable def bq0 : Code := Try.f13.body.getD .skip
noncomputable def annq0 : Ann := .none
theorem annq0_ok : AnnOk Try.prog 9 bq0 annq0 := (annOk_none _ _ _)
abbrev Aq0 := (Int) × (Int) × (Int) × (Int) × (Int) × (List (Int × List UInt8)) × (List (Int × Int)) × (List Int) × (List Int) × (List (Int × Int)) × (List (Int × List UInt8)) × (List Int) × (List Int) × (List (Int × Int)) × (List (Int × List UInt8))
abbrev Yq0 := Unit
def fnq0 {β : Type} : Aq0 → (Yq0 → Option β) → Option β := fun (o0_2,o1_4,o1_5,o2_4,o2_5,o3,o4,o5,o6,o7,o8,o9,o10,o11,o12) exit => (exit ())
def fnDq0 (a : Aq0) : Option Yq0 := fnq0 a some
theorem fnq0_nat (a : Aq0) (k : Yq0 → Ans) : fnq0 a k = bindO (fnDq0 a) k := by
  obtain ⟨o0_2,o1_4,o1_5,o2_4,o2_5,o3,o4,o5,o6,o7,o8,o9,o10,o11,o12⟩ := a
  simp only [fnDq0,fnq0,bindO_cond,bindO_assoc,bindO_none,bindO_pure,bindO_elim,bindO_unP,bindO_empty]
def argsq0 : Aq0 → List AV × List AE.Obj := fun (o0_2,o1_4,o1_5,o2_4,o2_5,o3,o4,o5,o6,o7,o8,o9,o10,o11,o12) => ([.ptr 0 0],[.cells [.ifc 27 (.ptr 1 0),.ifc 27 (.ptr 2 0),.int .i64 o0_2,.own 3,.own 4],.cells [.own 5,.own 6,.own 7,.own 8,.int .i64 o1_4,.int .i64 o1_5],.cells [.own 9,.own 10,.own 11,.own 12,.int .i64 o2_4,.int .i64 o2_5],.arr (.st (.pair (.int .i64) .str)) o3,.arr (.st (.pair (.int .i64) (.int .i64))) o4,.arr (.int .i64) o5,.arr (.int .i64) o6,.arr (.st (.pair (.int .i64) (.int .i64))) o7,.arr (.st (.pair (.int .i64) .str)) o8,.arr (.int .i64) o9,.arr (.int .i64) o10,.arr (.st (.pair (.int .i64) (.int .i64))) o11,.arr (.st (.pair (.int .i64) .str)) o12])
def decPAq0 (l : List AV) (H : List AE.Obj) : Option {a : Aq0 // (l,H) = argsq0 a} := match l,H with
  | [.ptr 0 0],[.cells [.ifc 27 (.ptr 1 0),.ifc 27 (.ptr 2 0),.int .i64 o0_2,.own 3,.own 4],.cells [.own 5,.own 6,.own 7,.own 8,.int .i64 o1_4,.int .i64 o1_5],.cells [.own 9,.own 10,.own 11,.own 12,.int .i64 o2_4,.int .i64 o2_5],.arr (.st (.pair (.int .i64) .str)) o3,.arr (.st (.pair (.int .i64) (.int .i64))) o4,.arr (.int .i64) o5,.arr (.int .i64) o6,.arr (.st (.pair (.int .i64) (.int .i64))) o7,.arr (.st (.pair (.int .i64) .str)) o8,.arr (.int .i64) o9,.arr (.int .i64) o10,.arr (.st (.pair (.int .i64) (.int .i64))) o11,.arr (.st (.pair (.int .i64) .str)) o12] => some ⟨(o0_2,o1_4,o1_5,o2_4,o2_5,o3,o4,o5,o6,o7,o8,o9,o10,o11,o12),rfl⟩
  | _,_ => none
def decAq0 (l : List AV) (H : List AE.Obj) : Option Aq0 := pk (decPAq0 l H)
theorem decAq0_ok (l : List AV) (H : List AE.Obj) (a : Aq0) (h : decAq0 l H = some a) : (l,H) = argsq0 a := pk_ok (o := decPAq0 l H) h
def outq0 : Aq0 → (AV → List AE.Obj → Ans) → Yq0 → Ans := fun (o0_2,o1_4,o1_5,o2_4,o2_5,o3,o4,o5,o6,o7,o8,o9,o10,o11,o12) K => fun _ => K (.int .i64 o0_2) [.cells [.ifc 27 (.ptr 1 0),.ifc 27 (.ptr 2 0),.int .i64 o0_2,.own 3,.own 4],.cells [.own 5,.own 6,.own 7,.own 8,.int .i64 o1_4,.int .i64 o1_5],.cells [.own 9,.own 10,.own 11,.own 12,.int .i64 o2_4,.int .i64 o2_5],.arr (.st (.pair (.int .i64) .str)) o3,.arr (.st (.pair (.int .i64) (.int .i64))) o4,.arr (.int .i64) o5,.arr (.int .i64) o6,.arr (.st (.pair (.int .i64) (.int .i64))) o7,.arr (.st (.pair (.int .i64) .str)) o8,.arr (.int .i64) o9,.arr (.int .i64) o10,.arr (.st (.pair (.int .i64) (.int .i64))) o11,.arr (.st (.pair (.int .i64) .str)) o12]
theorem fnq0_ok (a : Aq0) (K : AV → List AE.Obj → Ans) : fnE Try.tab envq0 noHint 0 70 13 Try.f13.ntmps Try.f13.results.toList annq0 bq0 (argsq0 a).1 (argsq0 a).2 K = fnq0 a (outq0 a K) := by kernel_rfl
def vFq0 (a : Aq0) (K : AV → List AE.Obj → Ans) : Ans := bindO (fnDq0 a) fun y => outq0 a K y
def Fq0 : List AV → List AE.Obj → (AV → List AE.Obj → Ans) → Ans := fun l H K => bindO (decAq0 l H) fun a => vFq0 a K
theorem Fq0_ok : FuncOk Try.prog 13 Fq0 := func_mkD (hint := noHint) (d := 0) (n := 70) mixed tabOk envq0Ok Try.func13 (bodySome (by kernel_rfl)) (by decide +kernel) annq0_ok decAq0_ok fnq0_ok fnq0_nat
--@ client_Client_Kept
noncomputable def envq4 : Env := []
theorem envq4Ok : EnvOk Try.prog envq4 := EnvOk.nil
noncomputable def bq4 : Code := Try.f11.body.getD .skip
noncomputable def annq4 : Ann := .none
theorem annq4_ok : AnnOk Try.prog 19 bq4 annq4 := (annOk_none _ _ _)
abbrev Aq4 := (Int) × (Int) × (Int) × (Int) × (Int) × (List (Int × List UInt8)) × (List (Int × Int)) × (List Int) × (List Int) × (List (Int × Int)) × (List (Int × List UInt8)) × (List Int) × (List Int) × (List (Int × Int)) × (List (Int × List UInt8))
abbrev Yq4 := (List (Int × List UInt8))
def fnq4 {β : Type} : Aq4 → (Yq4 → Option β) → Option β := fun (o0_2,o1_4,o1_5,o2_4,o2_5,o3,o4,o5,o6,o7,o8,o9,o10,o11,o12) exit => (bif decide ((0 : Int) ≤ (↑(List.length o3) : Int)) && decide ((↑(List.length o3) : Int) ≤ (↑(List.length o3) : Int)) && decide ((24 : Int) * (↑(List.length o3) : Int) ≤ (281474976710656 : Int)) && decide ((↑(List.length o3) : Int) ≤ (9223372036854775807 : Int)) then (exit (List.take (List.length (List.replicate (Int.toNat (↑(List.length o3) : Int)) ((0 : Int),nilL UInt8))) o3 ++ List.drop (List.length o3) (List.replicate (Int.toNat (↑(List.length o3) : Int)) ((0 : Int),nilL UInt8)))) else none)
def fnDq4 (a : Aq4) : Option Yq4 := fnq4 a some
theorem fnq4_nat (a : Aq4) (k : Yq4 → Ans) : fnq4 a k = bindO (fnDq4 a) k := by
  obtain ⟨o0_2,o1_4,o1_5,o2_4,o2_5,o3,o4,o5,o6,o7,o8,o9,o10,o11,o12⟩ := a
  simp only [fnDq4,fnq4,bindO_cond,bindO_assoc,bindO_none,bindO_pure,bindO_elim,bindO_unP,bindO_empty]
def argsq4 : Aq4 → List AV × List AE.Obj := fun (o0_2,o1_4,o1_5,o2_4,o2_5,o3,o4,o5,o6,o7,o8,o9,o10,o11,o12) => ([.ptr 0 0],[.cells [.ifc 27 (.ptr 1 0),.ifc 27 (.ptr 2 0),.int .i64 o0_2,.own 3,.own 4],.cells [.own 5,.own 6,.own 7,.own 8,.int .i64 o1_4,.int .i64 o1_5],.cells [.own 9,.own 10,.own 11,.own 12,.int .i64 o2_4,.int .i64 o2_5],.arr (.st (.pair (.int .i64) .str)) o3,.arr (.st (.pair (.int .i64) (.int .i64))) o4,.arr (.int .i64) o5,.arr (.int .i64) o6,.arr (.st (.pair (.int .i64) (.int .i64))) o7,.arr (.st (.pair (.int .i64) .str)) o8,.arr (.int .i64) o9,.arr (.int .i64) o10,.arr (.st (.pair (.int .i64) (.int .i64))) o11,.arr (.st (.pair (.int .i64) .str)) o12])
def decPAq4 (l : List AV) (H : List AE.Obj) : Option {a : Aq4 // (l,H) = argsq4 a} := match l,H with
  | [.ptr 0 0],[.cells [.ifc 27 (.ptr 1 0),.ifc 27 (.ptr 2 0),.int .i64 o0_2,.own 3,.own 4],.cells [.own 5,.own 6,.own 7,.own 8,.int .i64 o1_4,.int .i64 o1_5],.cells [.own 9,.own 10,.own 11,.own 12,.int .i64 o2_4,.int .i64 o2_5],.arr (.st (.pair (.int .i64) .str)) o3,.arr (.st (.pair (.int .i64) (.int .i64))) o4,.arr (.int .i64) o5,.arr (.int .i64) o6,.arr (.st (.pair (.int .i64) (.int .i64))) o7,.arr (.st (.pair (.int .i64) .str)) o8,.arr (.int .i64) o9,.arr (.int .i64) o10,.arr (.st (.pair (.int .i64) (.int .i64))) o11,.arr (.st (.pair (.int .i64) .str)) o12] => some ⟨(o0_2,o1_4,o1_5,o2_4,o2_5,o3,o4,o5,o6,o7,o8,o9,o10,o11,o12),rfl⟩
  | _,_ => none
def decAq4 (l : List AV) (H : List AE.Obj) : Option Aq4 := pk (decPAq4 l H)
theorem decAq4_ok (l : List AV) (H : List AE.Obj) (a : Aq4) (h : decAq4 l H = some a) : (l,H) = argsq4 a := pk_ok (o := decPAq4 l H) h
def outq4 : Aq4 → (AV → List AE.Obj → Ans) → Yq4 → Ans := fun (o0_2,o1_4,o1_5,o2_4,o2_5,o3,o4,o5,o6,o7,o8,o9,o10,o11,o12) K => fun o13_y => K (.own 13) [.cells [.ifc 27 (.ptr 1 0),.ifc 27 (.ptr 2 0),.int .i64 o0_2,.own 3,.own 4],.cells [.own 5,.own 6,.own 7,.own 8,.int .i64 o1_4,.int .i64 o1_5],.cells [.own 9,.own 10,.own 11,.own 12,.int .i64 o2_4,.int .i64 o2_5],.arr (.st (.pair (.int .i64) .str)) o3,.arr (.st (.pair (.int .i64) (.int .i64))) o4,.arr (.int .i64) o5,.arr (.int .i64) o6,.arr (.st (.pair (.int .i64) (.int .i64))) o7,.arr (.st (.pair (.int .i64) .str)) o8,.arr (.int .i64) o9,.arr (.int .i64) o10,.arr (.st (.pair (.int .i64) (.int .i64))) o11,.arr (.st (.pair (.int .i64) .str)) o12,.arr (.st (.pair (.int .i64) .str)) o13_y]
theorem fnq4_ok (a : Aq4) (K : AV → List AE.Obj → Ans) : fnE Try.tab envq4 noHint 0 70 11 Try.f11.ntmps Try.f11.results.toList annq4 bq4 (argsq4 a).1 (argsq4 a).2 K = fnq4 a (outq4 a K) := by kernel_rfl
def vFq4 (a : Aq4) (K : AV → List AE.Obj → Ans) : Ans := bindO (fnDq4 a) fun y => outq4 a K y
def Fq4 : List AV → List AE.Obj → (AV → List AE.Obj → Ans) → Ans := fun l H K => bindO (decAq4 l H) fun a => vFq4 a K
theorem Fq4_ok : FuncOk Try.prog 11 Fq4 := func_mkD (hint := noHint) (d := 0) (n := 70) mixed tabOk envq4Ok Try.func11 (bodySome (by kernel_rfl)) (by decide +kernel) annq4_ok decAq4_ok fnq4_ok fnq4_nat
--@ law44_works
noncomputable def envq30 : Env := [(8,.func Fq16),(9,.func Fq9),(10,.func Fq2),(12,.func Fq6),(20,.func Fq8),(13,.func Fq0),(11,.func Fq4)]
theorem envq30Ok : EnvOk Try.prog envq30 := EnvOk.cons Fq16_ok (EnvOk.cons Fq9_ok (EnvOk.cons Fq2_ok (EnvOk.cons Fq6_ok (EnvOk.cons Fq8_ok (EnvOk.cons Fq0_ok (EnvOk.cons Fq4_ok (EnvOk.nil)))))))
noncomputable def bq30 : Code := Try.f6.body.getD .skip
noncomputable def Lq30_n0 : Code := codeAt [1,1,1,1,1,1,1,0] bq30
noncomputable def annLq30_n0 : Ann := .none
theorem annLq30_n0_ok : AnnOk Try.prog 75 Lq30_n0 annLq30_n0 := (annOk_none _ _ _)
abbrev Iq30_n0 := (Int) × (Bool) × (Int) × (Int) × (List UInt8) × (Int) × (Int) × (Int) × (Int) × (List (Int × List UInt8)) × (Int) × (Int) × (List (Int × List UInt8)) × (List (Int × List UInt8))
abbrev Yq30_n0 := (Bool)
def Sq30_n0 : Iq30_n0 → St := fun (t4,t5,t6,t7,t8,t9,o0_4,o0_5,o1_2,o5,o6_4,o6_5,o7,o12) => { env := [(2,.ptr 0 0),(3,.ptr 1 0),(4,.int .i64 t4),(5,.bool t5),(6,.int .i64 t6),(7,.int .i64 t7),(8,.str t8),(9,.int .i64 t9)],stk := [[]],H := [.cells [.own 2,.own 3,.own 4,.own 5,.int .i64 o0_4,.int .i64 o0_5],.cells [.ifc 27 (.ptr 6 0),.ifc 27 (.ptr 0 0),.int .i64 o1_2,.own 7,.own 8],.arr (.int .i64) ([]),.arr (.int .i64) ([]),.arr (.st (.pair (.int .i64) (.int .i64))) ([]),.arr (.st (.pair (.int .i64) .str)) o5,.cells [.own 9,.own 10,.own 11,.own 12,.int .i64 o6_4,.int .i64 o6_5],.arr (.st (.pair (.int .i64) .str)) o7,.arr (.st (.pair (.int .i64) (.int .i64))) ([]),.arr (.int .i64) ([]),.arr (.int .i64) ([0,1]),.arr (.st (.pair (.int .i64) (.int .i64))) ([]),.arr (.st (.pair (.int .i64) .str)) o12],blk := 24576 }
def decPq30_n0 (s : St) : Option {x : Iq30_n0 // s = Sq30_n0 x} := match s with
  | { env := [(2,.ptr 0 0),(3,.ptr 1 0),(4,.int .i64 t4),(5,.bool t5),(6,.int .i64 t6),(7,.int .i64 t7),(8,.str t8),(9,.int .i64 t9)],stk := [[]],H := [.cells [.own 2,.own 3,.own 4,.own 5,.int .i64 o0_4,.int .i64 o0_5],.cells [.ifc 27 (.ptr 6 0),.ifc 27 (.ptr 0 0),.int .i64 o1_2,.own 7,.own 8],.arr (.int .i64) r9,.arr (.int .i64) r10,.arr (.st (.pair (.int .i64) (.int .i64))) r11,.arr (.st (.pair (.int .i64) .str)) o5,.cells [.own 9,.own 10,.own 11,.own 12,.int .i64 o6_4,.int .i64 o6_5],.arr (.st (.pair (.int .i64) .str)) o7,.arr (.st (.pair (.int .i64) (.int .i64))) r16,.arr (.int .i64) r17,.arr (.int .i64) r18,.arr (.st (.pair (.int .i64) (.int .i64))) r19,.arr (.st (.pair (.int .i64) .str)) o12],blk := 24576 } => if h9 : r9 = [] then if h10 : r10 = [] then if h11 : r11 = [] then if h16 : r16 = [] then if h17 : r17 = [] then if h18 : r18 = [0,1] then if h19 : r19 = [] then some ⟨(t4,t5,t6,t7,t8,t9,o0_4,o0_5,o1_2,o5,o6_4,o6_5,o7,o12),by subst h9 h10 h11 h16 h17 h18 h19; rfl⟩ else none else none else none else none else none else none else none
  | _ => none
def decq30_n0 (s : St) : Option Iq30_n0 := pk (decPq30_n0 s)
theorem decq30_n0_ok (s : St) (x : Iq30_n0) (h : decq30_n0 s = some x) : s = Sq30_n0 x := pk_ok (o := decPq30_n0 s) h
def outq30_n0 : Iq30_n0 → (Ex → St → Ans) → Yq30_n0 → Ans := fun (t4,t5,t6,t7,t8,t9,o0_4,o0_5,o1_2,o5,o6_4,o6_5,o7,o12) K => fun t0_y => K (Ex.norm) { env := [(0,.bool t0_y)],stk := [[]],H := [],blk := 24576 }
def nodeq30_n0 {β : Type} : Iq30_n0 → (Yq30_n0 → Option β) → Option β := fun (t4,t5,t6,t7,t8,t9,o0_4,o0_5,o1_2,o5,o6_4,o6_5,o7,o12) exit => (bif t4 == (0 : Int) then (bif !t5 then (bif t6 == (0 : Int) then (bif t7 == (0 : Int) then (bif t8 == [(120 : UInt8)] then (bif t9 == (0 : Int) then (bindO (fnDq0 (o1_2,o6_4,o6_5,o0_4,o0_5,o7,[],[],[(0 : Int),(1 : Int)],[],o12,[],[],[],o5)) fun _ => (bif o1_2 == (1 : Int) then (bindO (fnDq4 (o1_2,o6_4,o6_5,o0_4,o0_5,o7,[],[],[(0 : Int),(1 : Int)],[],o12,[],[],[],o5)) fun o13 => (bif (↑(List.length o13) : Int) == (1 : Int) then (exit ((↑(List.length o5) : Int) == (1 : Int))) else (exit (false)))) else (exit (false)))) else (exit (false))) else (exit (false))) else (exit (false))) else (exit (false))) else (exit (false))) else (exit (false)))
def nodeDq30_n0 (i : Iq30_n0) : Option Yq30_n0 := nodeq30_n0 i some
theorem nodeq30_n0_nat (i : Iq30_n0) (k : Yq30_n0 → Ans) : nodeq30_n0 i k = bindO (nodeDq30_n0 i) k := by
  obtain ⟨t4,t5,t6,t7,t8,t9,o0_4,o0_5,o1_2,o5,o6_4,o6_5,o7,o12⟩ := i
  simp only [nodeDq30_n0,nodeq30_n0,bindO_cond,bindO_assoc,bindO_none,bindO_pure,bindO_elim,bindO_unP,bindO_empty]
theorem nodeq30_n0_ok (i : Iq30_n0) (K : Ex → St → Ans) : codeI Try.tab envq30 noHint (codeD Try.tab envq30 noHint 0 64) 70 75 annLq30_n0 Lq30_n0 (weakP 0 (exk [0] [0] []) K) (Sq30_n0 i) = nodeq30_n0 i (outq30_n0 i K) := by kernel_rfl
theorem GNq30_n0_ok : CSum Try.prog 75 Lq30_n0 (sumN decq30_n0 nodeDq30_n0 outq30_n0) := csum_node mixed tabOk envq30Ok 0 (exk [0] [0] []) annLq30_n0_ok decq30_n0_ok nodeq30_n0_ok nodeq30_n0_nat
noncomputable def Gq30_n0 : (Ex → St → Ans) → St → Ans := (sumN decq30_n0 nodeDq30_n0 outq30_n0)
theorem Gq30_n0_ok : CSum Try.prog 75 Lq30_n0 Gq30_n0 := GNq30_n0_ok
noncomputable def annq30 : Ann := (.seq .none (.seq .none (.seq .none (.seq .none (.seq .none (.seq .none (.seq .none (.seq (.cut 0 [2,3,4,5,6,7,8,9] Gq30_n0) .none))))))))
theorem annq30_ok : AnnOk Try.prog 75 bq30 annq30 := ⟨(annOk_none _ _ _),⟨(annOk_none _ _ _),⟨(annOk_none _ _ _),⟨(annOk_none _ _ _),⟨(annOk_none _ _ _),⟨(annOk_none _ _ _),⟨(annOk_none _ _ _),⟨Gq30_n0_ok,(annOk_none _ _ _)⟩⟩⟩⟩⟩⟩⟩⟩
abbrev Aq30 := Unit
abbrev Yq30 := (Bool)
def fnq30 {β : Type} : Aq30 → (Yq30 → Option β) → Option β := fun _ exit => (bindO (fnDq16 ((0 : Int),(0 : Int),(0 : Int),(0 : Int),[],[(0 : Int),(1 : Int)],[],[],[],[],[],[])) fun _ => (bindO (fnDq9 ((3 : Int),[(120 : UInt8)],(0 : Int),(0 : Int),(0 : Int),(0 : Int),(0 : Int),[],[],[],[(0 : Int),(1 : Int)],[],[],[],[],[],[])) (Sum.elim (unP fun r => unP fun o1_4 => unP fun o1_5 => unP fun o2_4 => unP fun o2_5 o3 => (bindO (fnDq2 ((0 : Int),o1_4,o1_5,o2_4,o2_5,o3,[],[],[(0 : Int),(1 : Int)],[],[],[],[],[],[])) (Sum.elim (unP fun r_1 => unP fun o1_4_2 => unP fun o1_5_2 => unP fun o2_4_2 => unP fun o2_5_2 o4 => (bindO (fnDq6 ((0 : Int),o1_4_2,o1_5_2,o2_4_2,o2_5_2,o3,o4,[],[(0 : Int),(1 : Int)],[],[],[],[],[],[])) (unP fun r_2 => unP fun o0_2 => unP fun o1_4_3 => unP fun o1_5_3 => unP fun o2_4_3 => unP fun o2_5_3 => unP fun o18 o22 => (bindO (fnDq8 ((3 : Int),o0_2,o1_4_3,o1_5_3,o2_4_3,o2_5_3,o3,[],[],[(0 : Int),(1 : Int)],[],o18,[],[],[],o22)) (unP fun r_0 r_1_2 => (bindO (nodeDq30_n0 (r,false,r_1,r_2,r_0,r_1_2,o2_4_3,o2_5_3,o0_2,o22,o1_4_3,o1_5_3,o3,o18)) fun t0 => (exit (t0)))))))) (unP fun o1_4_2 => unP fun o1_5_2 => unP fun o2_4_2 => unP fun o2_5_2 => unP fun o4 o13 => (bindO (fnDq6 ((0 : Int),o1_4_2,o1_5_2,o2_4_2,o2_5_2,o13,[],[],[(0 : Int),(1 : Int)],[],[],[],[],[],[])) (unP fun r_2 => unP fun o0_2 => unP fun o1_4_3 => unP fun o1_5_3 => unP fun o2_4_3 => unP fun o2_5_3 => unP fun o18 o22 => (bindO (fnDq8 ((3 : Int),o0_2,o1_4_3,o1_5_3,o2_4_3,o2_5_3,o13,[],[],[(0 : Int),(1 : Int)],[],o18,[],[],[],o22)) (unP fun r_0 r_1 => (bindO (nodeDq30_n0 (r,true,(0 : Int),r_2,r_0,r_1,o2_4_3,o2_5_3,o0_2,o22,o1_4_3,o1_5_3,o13,o18)) fun t0 => (exit (t0))))))))))) ((Sum.elim (unP fun r => unP fun o1_4 => unP fun o1_5 => unP fun o3 o13 => (bindO (fnDq2 ((0 : Int),o1_4,o1_5,(0 : Int),(0 : Int),o3,[],[],[(0 : Int),(1 : Int)],[],o13,[],[],[],[])) (Sum.elim (unP fun r_1 => unP fun o1_4_2 => unP fun o1_5_2 => unP fun o2_4 => unP fun o2_5 o4 => (bindO (fnDq6 ((0 : Int),o1_4_2,o1_5_2,o2_4,o2_5,o3,o4,[],[(0 : Int),(1 : Int)],[],o13,[],[],[],[])) (unP fun r_2 => unP fun o0_2 => unP fun o1_4_3 => unP fun o1_5_3 => unP fun o2_4_2 => unP fun o2_5_2 => unP fun o18 o22 => (bindO (fnDq8 ((3 : Int),o0_2,o1_4_3,o1_5_3,o2_4_2,o2_5_2,o3,[],[],[(0 : Int),(1 : Int)],[],o18,[],[],[],o22)) (unP fun r_0 r_1_2 => (bindO (nodeDq30_n0 (r,false,r_1,r_2,r_0,r_1_2,o2_4_2,o2_5_2,o0_2,o22,o1_4_3,o1_5_3,o3,o18)) fun t0 => (exit (t0)))))))) (unP fun o1_4_2 => unP fun o1_5_2 => unP fun o2_4 => unP fun o2_5 => unP fun o4 o13_2 => (bindO (fnDq6 ((0 : Int),o1_4_2,o1_5_2,o2_4,o2_5,o13_2,[],[],[(0 : Int),(1 : Int)],[],o13,[],[],[],[])) (unP fun r_2 => unP fun o0_2 => unP fun o1_4_3 => unP fun o1_5_3 => unP fun o2_4_2 => unP fun o2_5_2 => unP fun o18 o22 => (bindO (fnDq8 ((3 : Int),o0_2,o1_4_3,o1_5_3,o2_4_2,o2_5_2,o13_2,[],[],[(0 : Int),(1 : Int)],[],o18,[],[],[],o22)) (unP fun r_0 r_1 => (bindO (nodeDq30_n0 (r,true,(0 : Int),r_2,r_0,r_1,o2_4_2,o2_5_2,o0_2,o22,o1_4_3,o1_5_3,o13_2,o18)) fun t0 => (exit (t0))))))))))) (unP fun r => unP fun o2_4 => unP fun o2_5 => unP fun o3 o13 => (bindO (fnDq2 ((0 : Int),(0 : Int),(0 : Int),o2_4,o2_5,o3,[],[],[(0 : Int),(1 : Int)],[],[],[],[],[],o13)) (Sum.elim (unP fun r_1 => unP fun o1_4 => unP fun o1_5 => unP fun o2_4_2 => unP fun o2_5_2 o4 => (bindO (fnDq6 ((0 : Int),o1_4,o1_5,o2_4_2,o2_5_2,o3,o4,[],[(0 : Int),(1 : Int)],[],[],[],[],[],o13)) (unP fun r_2 => unP fun o0_2 => unP fun o1_4_2 => unP fun o1_5_2 => unP fun o2_4_3 => unP fun o2_5_3 => unP fun o18 o22 => (bindO (fnDq8 ((3 : Int),o0_2,o1_4_2,o1_5_2,o2_4_3,o2_5_3,o3,[],[],[(0 : Int),(1 : Int)],[],o18,[],[],[],o22)) (unP fun r_0 r_1_2 => (bindO (nodeDq30_n0 (r,false,r_1,r_2,r_0,r_1_2,o2_4_3,o2_5_3,o0_2,o22,o1_4_2,o1_5_2,o3,o18)) fun t0 => (exit (t0)))))))) (unP fun o1_4 => unP fun o1_5 => unP fun o2_4_2 => unP fun o2_5_2 => unP fun o4 o13_2 => (bindO (fnDq6 ((0 : Int),o1_4,o1_5,o2_4_2,o2_5_2,o13_2,[],[],[(0 : Int),(1 : Int)],[],[],[],[],[],o13)) (unP fun r_2 => unP fun o0_2 => unP fun o1_4_2 => unP fun o1_5_2 => unP fun o2_4_3 => unP fun o2_5_3 => unP fun o18 o22 => (bindO (fnDq8 ((3 : Int),o0_2,o1_4_2,o1_5_2,o2_4_3,o2_5_3,o13_2,[],[],[(0 : Int),(1 : Int)],[],o18,[],[],[],o22)) (unP fun r_0 r_1 => (bindO (nodeDq30_n0 (r,true,(0 : Int),r_2,r_0,r_1,o2_4_3,o2_5_3,o0_2,o22,o1_4_2,o1_5_2,o13_2,o18)) fun t0 => (exit (t0))))))))))))))))
def fnDq30 (a : Aq30) : Option Yq30 := fnq30 a some
theorem fnq30_nat (a : Aq30) (k : Yq30 → Ans) : fnq30 a k = bindO (fnDq30 a) k := by
  obtain z := a
  simp only [fnDq30,fnq30,bindO_cond,bindO_assoc,bindO_none,bindO_pure,bindO_elim,bindO_unP,bindO_empty]
def argsq30 : Aq30 → List AV := fun _ => []
def decPAq30 (l : List AV) : Option {a : Aq30 // l = argsq30 a} := match l with
  | [] => some ⟨(),rfl⟩
  | _ => none
def decAq30 (l : List AV) : Option Aq30 := pk (decPAq30 l)
theorem decAq30_ok (l : List AV) (a : Aq30) (h : decAq30 l = some a) : l = argsq30 a := pk_ok (o := decPAq30 l) h
def rendq30 : Aq30 → Yq30 → AV := fun _ => fun r_y => .bool r_y
theorem rendq30_ok : ∀ (a : Aq30) (y : Yq30),(rendq30 a y).closed1 = true := by
  rintro z y <;> first | rfl | exact Empty.elim y
theorem fnq30_ok (a : Aq30) : fnE Try.tab envq30 noHint 0 70 6 Try.f6.ntmps Try.f6.results.toList annq30 bq30 (argsq30 a) [] (fun v _ => some (v,[])) = fnq30 a (fun y => some (rendq30 a y,[])) := by kernel_rfl
def vFq30 (a : Aq30) (K : AV → Ans) : Ans := bindO (fnDq30 a) fun y => K (rendq30 a y)
def Fq30 : List AV → (AV → Ans) → Ans := fun l K => bindO (decAq30 l) fun a => vFq30 a K
theorem Fq30_ok : PureOk Try.prog 6 Fq30 := pure_mkD (hint := noHint) (d := 0) (n := 70) mixed tabOk envq30Ok Try.func6 (bodySome (by kernel_rfl)) (by decide +kernel) annq30_ok decAq30_ok fnq30_ok fnq30_nat rendq30_ok
end Go.Proofs.R8
