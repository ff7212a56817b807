/- What the functions that PendingDoesSaid reaches compute: part 2. -/
import Derived.Test.YtcmbbkhnocjgeaaOwnPendingDoesSaid1
set_option linter.unusedVariables false
set_option linter.unusedSimpArgs false
namespace Go.Proofs.R1
open Go Go.AE

theorem mem_take_succ {α : Type} {l : List α} {j : Nat} {x y : α} (h : l[j]? = some y) : x ∈ l.take (j + 1) ↔ x ∈ l.take j ∨ x = y := by
  rw [List.take_add_one, h]; simp

theorem among_eq (l : List Int) (x : Int) (hl : l.length ≤ 1000000) : fnDpending_among_int (l, x) = some (decide (x ∈ l)) := by
  have key : ∃ y, loopD (stepDpending_among_int_n0 (x, l, (l.length : Int))) FUEL ((0 : Nat) : Int) = some y ∧ y = if x ∈ l then .inl () else .inr () := by
    refine loopD_each l (fun j (_ : Unit) => (j : Int)) (fun j _ => x ∉ l.take j) _ ?_ ?_ (s0 := ()) (by simp) (by omega)
    · intro j y _ hj hlt hi
      simp only [stepDpending_among_int_n0, steppending_among_int_n0, dec_true (show (j : Int) < (l.length : Int) by omega), cond_true, nth_of hj, bindO_pure, wrap64_nat (show j < 9223372036854775807 by omega)]
      by_cases e : y = x
      · subst e
        right
        exact ⟨.inl (), by simp, by rw [if_pos (List.mem_of_getElem? hj)]⟩
      · left
        exact ⟨(), by simp [beq_false_of_ne e], by rw [mem_take_succ hj]; simp [hi, Ne.symm e]⟩
    · intro _ hi
      simp only [stepDpending_among_int_n0, steppending_among_int_n0, dec_false (show ¬ (l.length : Int) < (l.length : Int) by omega), cond_false]
      rw [List.take_length] at hi
      exact ⟨.inr (), rfl, by rw [if_neg hi]⟩
  obtain ⟨y, hy, rfl⟩ := key
  have hy' : loopD (stepDpending_among_int_n0 (x, l, (l.length : Int))) FUEL 0 = _ := hy
  simp only [fnDpending_among_int, fnpending_among_int, hy', bindO_pure]
  by_cases h : x ∈ l <;> simp [h]

theorem has_eq (l : List Int) (x : Int) (hl : l.length ≤ 1000000) : fnDref30_has (l, x) = some (decide (x ∈ l)) := by
  have key : ∃ y, loopD (stepDref30_has_n0 (l, x)) FUEL ((0 : Nat) : Int) = some y ∧ y = if x ∈ l then .inl () else .inr () := by
    refine loopD_each l (fun j (_ : Unit) => (j : Int)) (fun j _ => x ∉ l.take j) _ ?_ ?_ (s0 := ()) (by simp) (by omega)
    · intro j y _ hj hlt hi
      simp only [stepDref30_has_n0, stepref30_has_n0, dec_true (show (j : Int) < (l.length : Int) by omega), cond_true, nth_of hj, bindO_pure, wrap64_nat (show j < 9223372036854775807 by omega)]
      by_cases e : y = x
      · subst e
        right
        exact ⟨.inl (), by simp, by rw [if_pos (List.mem_of_getElem? hj)]⟩
      · left
        exact ⟨(), by simp [beq_false_of_ne e], by rw [mem_take_succ hj]; simp [hi, Ne.symm e]⟩
    · intro _ hi
      simp only [stepDref30_has_n0, stepref30_has_n0, dec_false (show ¬ (l.length : Int) < (l.length : Int) by omega), cond_false]
      rw [List.take_length] at hi
      exact ⟨.inr (), rfl, by rw [if_neg hi]⟩
  obtain ⟨y, hy, rfl⟩ := key
  have hy' : loopD (stepDref30_has_n0 (l, x)) FUEL 0 = _ := hy
  simp only [fnDref30_has, fnref30_has, hy', bindO_pure]
  by_cases h : x ∈ l <;> simp [h]

theorem without_eq (l : List Int) (hl : l.length ≤ 100000) : ∃ r, fnDpending_without_int l = some r ∧ (∀ w, w ∈ r ↔ w ∈ l) ∧ r.length ≤ l.length := by
  have key : ∃ y, loopD (stepDpending_without_int_n0 (l, (l.length : Int))) FUEL (((0 : Nat) : Int), ([] : List Int)) = some y ∧ (∀ w, w ∈ y ↔ w ∈ l) ∧ y.length ≤ l.length := by
    refine loopD_each l (fun j (o : List Int) => ((j : Int), o)) (fun j o => (∀ w, w ∈ o ↔ w ∈ l.take j) ∧ o.length ≤ j) _ ?_ ?_ (by simp) (by omega)
    · intro j y o hj hlt ⟨h1, h2⟩
      simp only [stepDpending_without_int_n0, steppending_without_int_n0, dec_true (show (j : Int) < (l.length : Int) by omega), cond_true, bindO_pure, wrap64_nat (show j < 9223372036854775807 by omega), nodeDpending_without_int_n1,
        nodepending_without_int_n1, nth_of hj, nodeDpending_without_int_n2, nodepending_without_int_n2, among_eq o y (by omega), List.length_cons, List.length_nil, ble_true (show (o.length + (0 + 1)) * 8 ≤ 140737488355328 by omega)]
      left
      by_cases e : y ∈ o
      · simp only [e, decide_true, cond_true, bindO_pure]
        refine ⟨_, rfl, fun w => ?_, by omega⟩
        rw [mem_take_succ hj, h1]
        exact ⟨.inl, fun h => h.elim id fun h => by rw [h]; exact (h1 y).1 e⟩
      · simp only [e, decide_false, cond_false, bindO_pure]
        refine ⟨_, rfl, fun w => ?_, by simp; omega⟩
        rw [mem_take_succ hj, List.mem_append, h1]
        simp
    · intro o ⟨h1, h2⟩
      simp only [stepDpending_without_int_n0, steppending_without_int_n0, dec_false (show ¬ (l.length : Int) < (l.length : Int) by omega), cond_false]
      rw [List.take_length] at h1
      exact ⟨_, rfl, h1, h2⟩
  obtain ⟨y, hy, h⟩ := key
  have hy' : loopD (stepDpending_without_int_n0 (l, (l.length : Int))) FUEL (0, []) = _ := hy
  exact ⟨y, by simp only [fnDpending_without_int, fnpending_without_int, hy', bindO_pure], h⟩

theorem without2_eq (l : List Int) (x : Int) (hl : l.length ≤ 100000) : ∃ r, fnDpending_without_int_2 (l, x) = some r ∧ (∀ w, w ∈ r ↔ w ∈ l ∧ w ≠ x) ∧ r.length ≤ l.length := by
  have key : ∃ y, loopD (stepDpending_without_int_2_n0 (l, (l.length : Int), x)) FUEL (((0 : Nat) : Int), ([] : List Int)) = some y ∧ (∀ w, w ∈ y ↔ w ∈ l ∧ w ≠ x) ∧ y.length ≤ l.length := by
    refine loopD_each l (fun j (o : List Int) => ((j : Int), o)) (fun j o => (∀ w, w ∈ o ↔ w ∈ l.take j ∧ w ≠ x) ∧ o.length ≤ j) _ ?_ ?_ (by simp) (by omega)
    · intro j y o hj hlt ⟨h1, h2⟩
      simp only [stepDpending_without_int_2_n0, steppending_without_int_2_n0, dec_true (show (j : Int) < (l.length : Int) by omega), cond_true, bindO_pure, wrap64_nat (show j < 9223372036854775807 by omega), nodeDpending_without_int_2_n1,
        nodepending_without_int_2_n1, nth_of hj, nodeDpending_without_int_2_n2, nodepending_without_int_2_n2, among_eq o y (by omega), List.length_cons, List.length_nil, ble_true (show (o.length + (0 + 1)) * 8 ≤ 140737488355328 by omega)]
      left
      by_cases ex : y = x
      · subst ex
        simp only [beq_self_eq_true, cond_true, bindO_pure]
        refine ⟨_, rfl, fun w => ?_, by omega⟩
        rw [mem_take_succ hj, h1]
        exact ⟨fun h => ⟨.inl h.1, h.2⟩, fun h => ⟨h.1.elim id fun e => absurd e h.2, h.2⟩⟩
      · have : (y == x) = false := by simp [ex]
        simp only [this, cond_false, bindO_pure]
        by_cases e : y ∈ o
        · simp only [e, decide_true, cond_true, bindO_pure]
          refine ⟨_, rfl, fun w => ?_, by omega⟩
          rw [mem_take_succ hj, h1]
          exact ⟨fun h => ⟨.inl h.1, h.2⟩, fun h => ⟨h.1.elim id fun h => by rw [h]; exact ((h1 y).1 e).1, h.2⟩⟩
        · simp only [e, decide_false, cond_false, bindO_pure]
          refine ⟨_, rfl, fun w => ?_, by simp; omega⟩
          rw [mem_take_succ hj, List.mem_append, h1, List.mem_singleton]
          exact ⟨fun h => h.elim (fun h => ⟨.inl h.1, h.2⟩) fun h => ⟨.inr h, by rw [h]; exact ex⟩, fun h => h.1.elim (fun h1 => .inl ⟨h1, h.2⟩) .inr⟩
    · intro o ⟨h1, h2⟩
      simp only [stepDpending_without_int_2_n0, steppending_without_int_2_n0, dec_false (show ¬ (l.length : Int) < (l.length : Int) by omega), cond_false]
      rw [List.take_length] at h1
      exact ⟨_, rfl, h1, h2⟩
  obtain ⟨y, hy, h⟩ := key
  have hy' : loopD (stepDpending_without_int_2_n0 (l, (l.length : Int), x)) FUEL (0, []) = _ := hy
  exact ⟨y, by simp only [fnDpending_without_int_2, fnpending_without_int_2, hy', bindO_pure], h⟩

theorem works_eq : fnDlaw30_works () = some true := by kernel_rfl

theorem same_eq (l m : List (Int × Int)) (hl : l.length ≤ 1000000) : fnDlaw30_Same (l, m) = some (decide (l = m)) := by
  by_cases hlm : l.length = m.length
  · have key : ∃ y, loopD (stepDlaw30_Same_n0 (l, m)) FUEL ((0 : Nat) : Int) = some y ∧ y = if l = m then .inr () else .inl () := by
      refine loopD_each l (fun j (_ : Unit) => (j : Int)) (fun j _ => l.take j = m.take j) _ ?_ ?_ (s0 := ()) (by simp) (by omega)
      · intro j x _ hj hlt hi
        have hj2 : m[j]? = some m[j] := List.getElem?_eq_getElem (by omega)
        generalize m[j] = y at hj2
        simp only [stepDlaw30_Same_n0, steplaw30_Same_n0, nodeDlaw30_Same_n1, nodelaw30_Same_n1, dec_true (show (j : Int) < (l.length : Int) by omega), dec_true (show (j : Int) < (m.length : Int) by omega), cond_true, nth_of hj, nth_of hj2, bindO_pure, wrap64_nat (show j < 9223372036854775807 by omega)]
        by_cases e : x = y
        · subst e
          left
          refine ⟨(), by simp, ?_⟩
          rw [List.take_add_one, List.take_add_one, hi, hj, hj2]
        · right
          refine ⟨.inl (), ?_, ?_⟩
          · obtain ⟨a, b⟩ := x; obtain ⟨c, d⟩ := y
            have : (a == c && (b == d && true)) = false := by
              cases h : (a == c && (b == d && true)) with
              | false => rfl
              | true => simp at h; exact absurd (by rw [h.1, h.2]) e
            simp only [this]; rfl
          · rw [if_neg]
            intro h
            subst h
            rw [hj] at hj2
            exact e (by simpa using hj2)
      · intro _ hi
        simp only [stepDlaw30_Same_n0, steplaw30_Same_n0, nodeDlaw30_Same_n1, nodelaw30_Same_n1, dec_false (show ¬ (l.length : Int) < (l.length : Int) by omega), cond_false, bindO_pure]
        refine ⟨_, rfl, ?_⟩
        rw [List.take_length, hlm, List.take_length] at hi
        rw [if_pos hi]
    obtain ⟨y, hy, rfl⟩ := key
    have hy' : loopD (stepDlaw30_Same_n0 (l, m)) FUEL 0 = _ := hy
    have e1 : ((l.length : Int) != (m.length : Int)) = false := by simp [hlm]
    simp only [fnDlaw30_Same, fnlaw30_Same, hy', bindO_pure, e1, cond_false]
    by_cases h : l = m <;> simp [h]
  · have e1 : ((l.length : Int) != (m.length : Int)) = true := by rw [bne_iff_ne]; omega
    have e2 : decide (l = m) = false := by simpa using fun e : l = m => hlm (by rw [e])
    simp only [fnDlaw30_Same, fnlaw30_Same, e1, e2, cond_true]

abbrev Ops := List (Int × List Int)
/-- Two sets wait for the same. -/
def Alike : Ops → Ops → Prop
  | [], [] => True
  | a :: A, b :: B => (a.1 = b.1 ∧ ∀ w, w ∈ a.2 ↔ w ∈ b.2) ∧ Alike A B
  | _, _ => False
theorem Alike.refl : ∀ A : Ops, Alike A A
  | [] => trivial
  | a :: A => ⟨⟨rfl, fun _ => Iff.rfl⟩, Alike.refl A⟩
theorem Alike.trans : ∀ {A B C : Ops}, Alike A B → Alike B C → Alike A C
  | [], [], [], _, _ => trivial
  | a :: A, b :: B, c :: C, h, g => ⟨⟨h.1.1.trans g.1.1, fun w => (h.1.2 w).trans (g.1.2 w)⟩, h.2.trans g.2⟩
  | [], [], _ :: _, _, g => g.elim
  | [], _ :: _, _, h, _ => h.elim
  | _ :: _, [], _, h, _ => h.elim
  | _ :: _, _ :: _, [], _, g => g.elim
theorem Alike.len : ∀ {A B : Ops}, Alike A B → A.length = B.length
  | [], [], _ => rfl
  | _ :: A, _ :: B, h => by simp [Alike.len h.2]
  | [], _ :: _, h => h.elim
  | _ :: _, [], h => h.elim
theorem Alike.append : ∀ {A B C D : Ops}, Alike A B → Alike C D → Alike (A ++ C) (B ++ D)
  | [], [], _, _, _, g => g
  | _ :: A, _ :: B, _, _, h, g => ⟨h.1, Alike.append h.2 g⟩
  | [], _ :: _, _, _, h, _ => h.elim
  | _ :: _, [], _, _, h, _ => h.elim
theorem Alike.one {i : Int} {l m : List Int} (h : ∀ w, w ∈ l ↔ w ∈ m) : Alike [(i, l)] [(i, m)] := ⟨⟨rfl, h⟩, trivial⟩

def gone (x : Int) (a : Int × List Int) : Bool := a.2.all (· == x)
def evs (x : Int) (A : Ops) : List (Int × Int) := (A.filter (gone x)).map fun a => (a.1, 2)
def rest (x : Int) (A : Ops) : Ops := (A.filter (fun a => !gone x a)).map fun a => (a.1, a.2.filter (· != x))
theorem gone_congr {x : Int} {a b : Int × List Int} (h : ∀ w, w ∈ a.2 ↔ w ∈ b.2) : gone x a = gone x b := by
  unfold gone
  rw [Bool.eq_iff_iff, List.all_eq_true, List.all_eq_true]
  exact ⟨fun g w hw => g w ((h w).2 hw), fun g w hw => g w ((h w).1 hw)⟩
theorem Alike.evs {x : Int} : ∀ {A B : Ops}, Alike A B → evs x A = evs x B
  | [], [], _ => rfl
  | a :: A, b :: B, h => by
    have ih := Alike.evs (x := x) h.2
    unfold R1.evs at ih ⊢
    rw [List.filter_cons, List.filter_cons, gone_congr h.1.2]
    cases gone x b
    · simpa using ih
    · simp [ih, h.1.1]
  | [], _ :: _, h => h.elim
  | _ :: _, [], h => h.elim
theorem Alike.rest {x : Int} : ∀ {A B : Ops}, Alike A B → Alike (rest x A) (rest x B)
  | [], [], _ => trivial
  | a :: A, b :: B, h => by
    have ih := Alike.rest (x := x) h.2
    unfold R1.rest at ih ⊢
    rw [List.filter_cons, List.filter_cons, gone_congr h.1.2]
    cases gone x b
    · simp only [Bool.not_false, if_true, List.map_cons]
      exact ⟨⟨h.1.1, fun w => by simp [h.1.2 w]⟩, ih⟩
    · simpa using ih
  | [], _ :: _, h => h.elim
  | _ :: _, [], h => h.elim
theorem evs_snoc (x : Int) (A : Ops) (a : Int × List Int) : evs x (A ++ [a]) = evs x A ++ bif gone x a then [(a.1, 2)] else [] := by
  unfold evs
  rw [List.filter_append, List.map_append]
  cases h : gone x a <;> simp [h]
theorem rest_snoc (x : Int) (A : Ops) (a : Int × List Int) : rest x (A ++ [a]) = rest x A ++ bif gone x a then [] else [(a.1, a.2.filter (· != x))] := by
  unfold rest
  rw [List.filter_append, List.map_append]
  cases h : gone x a <;> simp [h]
theorem evs_len (x : Int) (A : Ops) : (evs x A).length ≤ A.length := by unfold evs; rw [List.length_map]; exact List.length_filter_le ..
theorem rest_len (x : Int) (A : Ops) : (rest x A).length ≤ A.length := by unfold rest; rw [List.length_map]; exact List.length_filter_le ..
structure Small (A : Ops) : Prop where
  len : A.length ≤ 32
  each : ∀ a ∈ A, a.2.length ≤ 100000
theorem take_snoc {α : Type} {l : List α} {j : Nat} {x : α} (h : l[j]? = some x) : l.take (j + 1) = l.take j ++ [x] := by rw [List.take_add_one, h]; rfl

theorem refDone_eq (x last : Int) (A : Ops) (hA : Small A) : fnDref30_Set_Done (x, last, A) = some (evs x A, rest x A) := by
  have inner : ∀ (o2 : List (Int × Int)) (o3 : Ops) (j : Nat) (a : Int × List Int), A[j]? = some a → loopD (stepDref30_Set_Done_n2 (x, (j : Int), last, A, o2, o3, a.1)) FUEL (0, []) = some (a.2.filter (· != x)) := by
    intro o2 o3 j a hj
    have hjl : j < A.length := (List.getElem?_eq_some_iff.1 hj).1
    have hlen := hA.len
    have ha := hA.each a (List.mem_of_getElem? hj)
    have key : ∃ y, loopD (stepDref30_Set_Done_n2 (x, (j : Int), last, A, o2, o3, a.1)) FUEL (((0 : Nat) : Int), ([] : List Int)) = some y ∧ y = a.2.filter (· != x) := by
      refine loopD_each a.2 (fun k (o : List Int) => ((k : Int), o)) (fun k o => o = (a.2.take k).filter (· != x)) _ ?_ ?_ (by simp) (by omega)
      · rintro k y o hk hlt rfl
        have hle : ((a.2.take k).filter (· != x)).length ≤ 100000 := Nat.le_trans (List.length_filter_le ..) (by rw [List.length_take]; omega)
        simp only [stepDref30_Set_Done_n2, stepref30_Set_Done_n2, nodeDref30_Set_Done_n3, noderef30_Set_Done_n3, inR_true (show (0 : Int) ≤ j ∧ (j : Int) < (A.length : Int) by omega), cond_true, Int.toNat_natCast, hj, bindO_pure,
          dec_true (show (k : Int) < (a.2.length : Int) by omega), nth_of hk, wrap64_nat (show k < 9223372036854775807 by omega), List.length_cons, List.length_nil, ble_true (show (((a.2.take k).filter (· != x)).length + (0 + 1)) * 8 ≤ 140737488355328 by omega)]
        left
        rw [take_snoc hk, List.filter_append]
        cases h : (y != x) <;> simp [h, bindO_pure]
      · rintro o rfl
        simp only [stepDref30_Set_Done_n2, stepref30_Set_Done_n2, inR_true (show (0 : Int) ≤ j ∧ (j : Int) < (A.length : Int) by omega), cond_true, Int.toNat_natCast, hj, bindO_pure,
          dec_false (show ¬ (a.2.length : Int) < (a.2.length : Int) by omega), cond_false]
        exact ⟨_, rfl, by rw [List.take_length]⟩
    obtain ⟨y, hy, rfl⟩ := key
    exact hy
  have key : ∃ y, loopD (stepDref30_Set_Done_n0 (x, last, A)) FUEL (((0 : Nat) : Int), ([] : List (Int × Int)), ([] : Ops)) = some y ∧ y = (evs x A, rest x A) := by
    have hlen := hA.len
    refine loopD_each A (fun j (o : List (Int × Int) × Ops) => ((j : Int), o)) (fun j o => o = (evs x (A.take j), rest x (A.take j))) _ ?_ ?_ (by simp [evs, rest]) (by omega)
    · rintro j a o hj hlt rfl
      have h1 := evs_len x (A.take j)
      have h2 := rest_len x (A.take j)
      rw [List.length_take] at h1 h2
      simp only [stepDref30_Set_Done_n0, stepref30_Set_Done_n0, nodeDref30_Set_Done_n1, noderef30_Set_Done_n1, inR_true (show (0 : Int) ≤ j ∧ (j : Int) < (A.length : Int) by omega), cond_true, Int.toNat_natCast, hj, bindO_pure,
          dec_true (show (j : Int) < (A.length : Int) by omega), inner _ _ j a hj, wrap64_nat (show j < 9223372036854775807 by omega), List.length_cons, List.length_nil, ble_true (show ((evs x (A.take j)).length + (0 + 1)) * 16 ≤ 140737488355328 by omega), ble_true (show ((rest x (A.take j)).length + (0 + 1)) * 32 ≤ 140737488355328 by omega)]
      left
      rw [take_snoc hj, evs_snoc, rest_snoc]
      have e : (((a.2.filter (· != x)).length : Int) == 0) = gone x a := by
        unfold gone
        rw [Bool.eq_iff_iff, beq_iff_eq, List.all_eq_true]
        simp
      rw [e]
      cases gone x a <;> simp [unP, bindO_pure]
    · rintro o rfl
      simp only [stepDref30_Set_Done_n0, stepref30_Set_Done_n0, dec_false (show ¬ (A.length : Int) < (A.length : Int) by omega), cond_false]
      exact ⟨_, rfl, by rw [List.take_length]⟩
  obtain ⟨y, hy, rfl⟩ := key
  have hy' : loopD (stepDref30_Set_Done_n0 (x, last, A)) FUEL (0, [], []) = _ := hy
  simp only [fnDref30_Set_Done, fnref30_Set_Done, hy', bindO_pure, unP]

theorem done_eq (x last : Int) (A : Ops) (hA : Small A) : ∃ S, fnDpending_Set_int_Done (x, last, A) = some (evs x A, S) ∧ Alike S (rest x A) ∧ Small S := by
  have hlen := hA.len
  have key : ∃ y, loopD (stepDpending_Set_int_Done_n0 ((A.length : Int), last, A, x)) FUEL (((0 : Nat) : Int), ([] : List (Int × Int)), ([] : Ops)) = some y ∧ y.1 = evs x A ∧ Alike y.2 (rest x A) ∧ Small y.2 := by
    refine loopD_each A (fun j (o : List (Int × Int) × Ops) => ((j : Int), o)) (fun j o => o.1 = evs x (A.take j) ∧ Alike o.2 (rest x (A.take j)) ∧ Small o.2) _ ?_ ?_ ⟨by simp [evs], by simp [rest, Alike], by simp, by simp⟩ (by omega)
    · rintro j a ⟨o1, o2⟩ hj hlt ⟨h1, h2, h3⟩
      simp only at h1 h2 h3
      subst h1
      have g1 := evs_len x (A.take j)
      have g2 := rest_len x (A.take j)
      rw [List.length_take] at g1 g2
      have g3 := h2.len
      obtain ⟨r, hr, hm, hle⟩ := without2_eq a.2 x (hA.each a (List.mem_of_getElem? hj))
      simp only [stepDpending_Set_int_Done_n0, steppending_Set_int_Done_n0, nodeDpending_Set_int_Done_n1, nodepending_Set_int_Done_n1, inR_true (show (0 : Int) ≤ j ∧ (j : Int) < (A.length : Int) by omega), cond_true, Int.toNat_natCast, hj, bindO_pure,
          dec_true (show (j : Int) < (A.length : Int) by omega), hr, wrap64_nat (show j < 9223372036854775807 by omega), List.length_cons, List.length_nil, ble_true (show ((evs x (A.take j)).length + (0 + 1)) * 16 ≤ 140737488355328 by omega), ble_true (show (o2.length + (0 + 1)) * 32 ≤ 140737488355328 by omega)]
      left
      rw [take_snoc hj, evs_snoc, rest_snoc]
      have e : ((r.length : Int) == 0) = gone x a := by
        unfold gone
        rw [Bool.eq_iff_iff, beq_iff_eq, List.all_eq_true]
        constructor
        · intro h w hw
          rw [beq_iff_eq]
          apply Classical.byContradiction
          intro hne
          have := (hm w).2 ⟨hw, hne⟩
          have : r = [] := List.length_eq_zero_iff.1 (by omega)
          simp_all
        · intro h
          cases r with
          | nil => rfl
          | cons w r => exact absurd (beq_iff_eq.1 (h w ((hm w).1 (List.mem_cons_self ..)).1)) ((hm w).1 (List.mem_cons_self ..)).2
      rw [e]
      cases gone x a
      · refine ⟨(evs x (A.take j), o2 ++ [(a.1, r)]), by simp [unP, bindO_pure], by simp, ?_, ?_, ?_⟩
        · exact h2.append (Alike.one fun w => by rw [hm]; simp)
        · simp; omega
        · intro b hb
          rcases List.mem_append.1 hb with hb | hb
          · exact h3.each b hb
          · rw [List.mem_singleton.1 hb]
            exact Nat.le_trans hle (hA.each a (List.mem_of_getElem? hj))
      · exact ⟨(evs x (A.take j) ++ [(a.1, 2)], o2), by simp [unP, bindO_pure], by simp, by simpa using h2, h3⟩
    · rintro ⟨o1, o2⟩ ⟨h1, h2, h3⟩
      rw [List.take_length] at h1 h2
      simp only [stepDpending_Set_int_Done_n0, steppending_Set_int_Done_n0, dec_false (show ¬ (A.length : Int) < (A.length : Int) by omega), cond_false]
      exact ⟨_, rfl, h1, h2, h3⟩
  obtain ⟨⟨y1, y2⟩, hy, h1, h2, h3⟩ := key
  have hy' : loopD (stepDpending_Set_int_Done_n0 ((A.length : Int), last, A, x)) FUEL (0, [], []) = _ := hy
  simp only at h1
  subst h1
  exact ⟨y2, by simp only [fnDpending_Set_int_Done, fnpending_Set_int_Done, hy', bindO_pure, unP], h2, h3⟩

def alone (A : Ops) : List (Int × Int) := A.map fun a => (a.1, 1)
theorem Alike.alone : ∀ {A B : Ops}, Alike A B → alone A = alone B
  | [], [], _ => rfl
  | a :: A, b :: B, h => by
    have ih := Alike.alone h.2
    unfold R1.alone at ih ⊢
    simp [ih, h.1.1]
  | [], _ :: _, h => h.elim
  | _ :: _, [], h => h.elim
theorem alone_eq (last : Int) (A : Ops) (hA : Small A) : fnDpending_Set_int_Alone (last, A) = some (alone A) := by
  have hlen := hA.len
  have key : ∃ y, loopD (stepDpending_Set_int_Alone_n0 ((A.length : Int), last, A)) FUEL (((0 : Nat) : Int), ([] : List (Int × Int))) = some y ∧ y = alone A := by
    refine loopD_each A (fun j (o : List (Int × Int)) => ((j : Int), o)) (fun j o => o = alone (A.take j)) _ ?_ ?_ (by simp [alone]) (by omega)
    · rintro j a o hj hlt rfl
      have g : (alone (A.take j)).length ≤ 32 := by simp [alone]; omega
      simp only [stepDpending_Set_int_Alone_n0, steppending_Set_int_Alone_n0, inR_true (show (0 : Int) ≤ j ∧ (j : Int) < (A.length : Int) by omega), cond_true, Int.toNat_natCast, hj, bindO_pure,
          dec_true (show (j : Int) < (A.length : Int) by omega), wrap64_nat (show j < 9223372036854775807 by omega), List.length_cons, List.length_nil, ble_true (show ((alone (A.take j)).length + (0 + 1)) * 16 ≤ 140737488355328 by omega)]
      exact .inl ⟨_, rfl, by rw [take_snoc hj]; simp [alone]⟩
    · rintro o rfl
      simp only [stepDpending_Set_int_Alone_n0, steppending_Set_int_Alone_n0, dec_false (show ¬ (A.length : Int) < (A.length : Int) by omega), cond_false]
      exact ⟨_, rfl, by rw [List.take_length]⟩
  obtain ⟨y, hy, rfl⟩ := key
  have hy' : loopD (stepDpending_Set_int_Alone_n0 ((A.length : Int), last, A)) FUEL (0, []) = _ := hy
  simp only [fnDpending_Set_int_Alone, fnpending_Set_int_Alone, hy', bindO_pure]
theorem refAlone_eq (last : Int) (A : Ops) (hA : Small A) : fnDref30_Set_Alone (last, A) = some (alone A) := by
  have hlen := hA.len
  have key : ∃ y, loopD (stepDref30_Set_Alone_n0 (last, A)) FUEL (((0 : Nat) : Int), ([] : List (Int × Int))) = some y ∧ y = alone A := by
    refine loopD_each A (fun j (o : List (Int × Int)) => ((j : Int), o)) (fun j o => o = alone (A.take j)) _ ?_ ?_ (by simp [alone]) (by omega)
    · rintro j a o hj hlt rfl
      have g : (alone (A.take j)).length ≤ 32 := by simp [alone]; omega
      simp only [stepDref30_Set_Alone_n0, stepref30_Set_Alone_n0, inR_true (show (0 : Int) ≤ j ∧ (j : Int) < (A.length : Int) by omega), cond_true, Int.toNat_natCast, hj, bindO_pure,
          dec_true (show (j : Int) < (A.length : Int) by omega), wrap64_nat (show j < 9223372036854775807 by omega), List.length_cons, List.length_nil, ble_true (show ((alone (A.take j)).length + (0 + 1)) * 16 ≤ 140737488355328 by omega)]
      exact .inl ⟨_, rfl, by rw [take_snoc hj]; simp [alone]⟩
    · rintro o rfl
      simp only [stepDref30_Set_Alone_n0, stepref30_Set_Alone_n0, dec_false (show ¬ (A.length : Int) < (A.length : Int) by omega), cond_false]
      exact ⟨_, rfl, by rw [List.take_length]⟩
  obtain ⟨y, hy, rfl⟩ := key
  have hy' : loopD (stepDref30_Set_Alone_n0 (last, A)) FUEL (0, []) = _ := hy
  simp only [fnDref30_Set_Alone, fnref30_Set_Alone, hy', bindO_pure]

def waits (x : Int) (A : Ops) : Bool := A.any fun a => decide (x ∈ a.2)
theorem Alike.waits {x : Int} : ∀ {A B : Ops}, Alike A B → waits x A = waits x B
  | [], [], _ => rfl
  | a :: A, b :: B, h => by
    have ih := Alike.waits (x := x) h.2
    unfold R1.waits at ih ⊢
    simp [ih, h.1.2 x]
  | [], _ :: _, h => h.elim
  | _ :: _, [], h => h.elim
theorem waits_snoc (x : Int) (A : Ops) (a : Int × List Int) : waits x (A ++ [a]) = (waits x A || decide (x ∈ a.2)) := by simp [waits]
theorem waits_some {x : Int} {A : Ops} {a : Int × List Int} (h : a ∈ A) (h' : x ∈ a.2) : waits x A = true := by
  unfold waits
  rw [List.any_eq_true]
  exact ⟨a, h, by simp [h']⟩
theorem waits_eq (x last : Int) (A : Ops) (hA : Small A) : fnDpending_Set_int_Waits (x, last, A) = some (waits x A) := by
  have hlen := hA.len
  have key : ∃ y, loopD (stepDpending_Set_int_Waits_n0 (x, (A.length : Int), last, A)) FUEL ((0 : Nat) : Int) = some y ∧ y = bif waits x A then .inl () else .inr () := by
    refine loopD_each A (fun j (_ : Unit) => (j : Int)) (fun j _ => waits x (A.take j) = false) _ ?_ ?_ (s0 := ()) (by simp [waits]) (by omega)
    · rintro j a _ hj hlt hi
      have ha := hA.each a (List.mem_of_getElem? hj)
      simp only [stepDpending_Set_int_Waits_n0, steppending_Set_int_Waits_n0, inR_true (show (0 : Int) ≤ j ∧ (j : Int) < (A.length : Int) by omega), cond_true, Int.toNat_natCast, hj, bindO_pure,
          dec_true (show (j : Int) < (A.length : Int) by omega), wrap64_nat (show j < 9223372036854775807 by omega), among_eq a.2 x (by omega)]
      by_cases e : x ∈ a.2
      · right
        exact ⟨.inl (), by simp [e], by rw [waits_some (List.mem_of_getElem? hj) e]; rfl⟩
      · left
        exact ⟨(), by simp [e], by rw [take_snoc hj, waits_snoc, hi]; simp [e]⟩
    · intro _ hi
      rw [List.take_length] at hi
      simp only [stepDpending_Set_int_Waits_n0, steppending_Set_int_Waits_n0, dec_false (show ¬ (A.length : Int) < (A.length : Int) by omega), cond_false]
      exact ⟨_, rfl, by rw [hi]; rfl⟩
  obtain ⟨y, hy, rfl⟩ := key
  have hy' : loopD (stepDpending_Set_int_Waits_n0 (x, (A.length : Int), last, A)) FUEL 0 = _ := hy
  simp only [fnDpending_Set_int_Waits, fnpending_Set_int_Waits, hy', bindO_pure]
  cases waits x A <;> rfl
theorem refWaits_eq (x last : Int) (A : Ops) (hA : Small A) : fnDref30_Set_Waits (x, last, A) = some (waits x A) := by
  have hlen := hA.len
  have key : ∃ y, loopD (stepDref30_Set_Waits_n0 (x, last, A)) FUEL ((0 : Nat) : Int) = some y ∧ y = bif waits x A then .inl () else .inr () := by
    refine loopD_each A (fun j (_ : Unit) => (j : Int)) (fun j _ => waits x (A.take j) = false) _ ?_ ?_ (s0 := ()) (by simp [waits]) (by omega)
    · rintro j a _ hj hlt hi
      have ha := hA.each a (List.mem_of_getElem? hj)
      simp only [stepDref30_Set_Waits_n0, stepref30_Set_Waits_n0, inR_true (show (0 : Int) ≤ j ∧ (j : Int) < (A.length : Int) by omega), cond_true, Int.toNat_natCast, hj, bindO_pure,
          dec_true (show (j : Int) < (A.length : Int) by omega), wrap64_nat (show j < 9223372036854775807 by omega), has_eq a.2 x (by omega)]
      by_cases e : x ∈ a.2
      · right
        exact ⟨.inl (), by simp [e], by rw [waits_some (List.mem_of_getElem? hj) e]; rfl⟩
      · left
        exact ⟨(), by simp [e], by rw [take_snoc hj, waits_snoc, hi]; simp [e]⟩
    · intro _ hi
      rw [List.take_length] at hi
      simp only [stepDref30_Set_Waits_n0, stepref30_Set_Waits_n0, dec_false (show ¬ (A.length : Int) < (A.length : Int) by omega), cond_false]
      exact ⟨_, rfl, by rw [hi]; rfl⟩
  obtain ⟨y, hy, rfl⟩ := key
  have hy' : loopD (stepDref30_Set_Waits_n0 (x, last, A)) FUEL 0 = _ := hy
  simp only [fnDref30_Set_Waits, fnref30_Set_Waits, hy', bindO_pure]
  cases waits x A <;> rfl

abbrev Step := Int × Int × List Int
theorem great_eq (l : List Step) (hl : l.length ≤ 9223372036854775807) : ∃ b, fnDlaw30_great l = some b ∧ (b = false → l.length ≤ 150 ∧ ∀ o ∈ l, o.2.2.length ≤ 2000) := by
  have key : ∃ y, loopD (stepDlaw30_great_n0 l) FUEL ((0 : Int), ((0 : Nat) : Int)) = some y ∧ (y = .inr () → l.length ≤ 150 ∧ ∀ o ∈ l, o.2.2.length ≤ 2000) := by
    refine loopD_each l (fun j (n : Int) => (n, (j : Int))) (fun j n => j ≤ 150 ∧ 0 ≤ n ∧ n ≤ 2000 ∧ ∀ o ∈ l.take j, o.2.2.length ≤ 2000) _ ?_ ?_ (by simp) (by omega)
    · rintro j x n hj hlt ⟨h0, h1, h2, h3⟩
      simp only [stepDlaw30_great_n0, steplaw30_great_n0, nodeDlaw30_great_n1, nodelaw30_great_n1, nodeDlaw30_great_n2, nodelaw30_great_n2, dec_true (show (j : Int) < (l.length : Int) by omega), cond_true, nth_of hj, bindO_pure, wrap64_nat (show j < 9223372036854775807 by omega)]
      have hm : ∃ m : Int, (if (3000 : Int) < (x.2.2.length : Int) then 3000 else (x.2.2.length : Int)) = m ∧ 0 ≤ m ∧ m ≤ 3000 ∧ (m ≤ 2000 → x.2.2.length ≤ 2000) := by
        refine ⟨_, rfl, ?_, ?_, ?_⟩ <;> split <;> omega
      obtain ⟨m, hm, m0, m1, m2⟩ := hm
      rw [hm, wrap64 (x := n + m) (by omega) (by omega)]
      by_cases h4 : (j : Int) ≥ 150
      · simp only [h4, decide_true, cond_true, bindO_pure, Sum.elim_inl]
        exact .inr ⟨_, rfl, fun h => by cases h⟩
      · simp only [h4, decide_false, cond_false, bindO_pure]
        by_cases h5 : n + m > 2000
        · simp only [h5, decide_true, cond_true, bindO_pure, Sum.elim_inl]
          exact .inr ⟨_, rfl, fun h => by cases h⟩
        · simp only [h5, decide_false, cond_false, bindO_pure, Sum.elim_inr]
          refine .inl ⟨_, rfl, by omega, by omega, by omega, fun o ho => ?_⟩
          rw [mem_take_succ hj] at ho
          rcases ho with ho | rfl
          · exact h3 o ho
          · exact m2 (by omega)
    · rintro n ⟨h0, h1, h2, h3⟩
      rw [List.take_length] at h3
      simp only [stepDlaw30_great_n0, steplaw30_great_n0, dec_false (show ¬ (l.length : Int) < (l.length : Int) by omega), cond_false]
      exact ⟨_, rfl, fun _ => ⟨h0, h3⟩⟩
  obtain ⟨y, hy, h⟩ := key
  have hy' : loopD (stepDlaw30_great_n0 l) FUEL (0, 0) = _ := hy
  simp only [fnDlaw30_great, fnlaw30_great, hy', bindO_pure]
  cases y with
  | inl u => exact ⟨true, rfl, fun h => by cases h⟩
  | inr u => exact ⟨false, rfl, fun _ => h rfl⟩

structure Rel (last : Int) (A B : Ops) (j : Nat) : Prop where
  alike : Alike A B
  sa : Small A
  sb : Small B
  last : 0 ≤ last ∧ last ≤ j

theorem Small.snoc {A : Ops} {a : Int × List Int} (h : Small A) (hl : A.length < 32) (ha : a.2.length ≤ 100000) : Small (A ++ [a]) := by
  refine ⟨by simp; omega, fun b hb => ?_⟩
  rcases List.mem_append.1 hb with hb | hb
  · exact h.each b hb
  · rw [List.mem_singleton.1 hb]; exact ha
theorem Small.rest {A : Ops} (x : Int) (h : Small A) : Small (rest x A) := by
  refine ⟨Nat.le_trans (rest_len x A) h.len, fun b hb => ?_⟩
  unfold R1.rest at hb
  obtain ⟨a, ha, rfl⟩ := List.mem_map.1 hb
  exact Nat.le_trans (List.length_filter_le ..) (h.each a (List.mem_filter.1 ha).1)

/-- A step: both answer the same, and go on alike. -/
theorem step_eq (t0 : List Step) (j : Nat) (k n : Int) (l : List Int) (last : Int) (A B : Ops) (h : Rel last A B j) (hj : j ≤ 1000) (hl : l.length ≤ 100000) :
    ∃ last' A' B', nodeDlaw30_PendingDoes_n2 (t0, (j : Int), k, last, last, k, n, l, A, B) = some (true, last', last', A', B') ∧ Rel last' A' B' (j + 1) := by
  have hlen := h.alike.len
  have hA := h.sa.len
  obtain ⟨hlast0, hlast1⟩ := h.last
  have n3 : nodeDlaw30_PendingDoes_n3 (t0, (j : Int), k, k == 0, last, last, k, n, l, A, B) = some (k == 0 || k == 1) := by
    simp only [nodeDlaw30_PendingDoes_n3, nodelaw30_PendingDoes_n3]
    cases k == 0 <;> rfl
  have n4 : nodeDlaw30_PendingDoes_n4 (t0, (j : Int), k, k == 2, last, last, k, n, l, A, B) = some (k == 2 || k == 3) := by
    simp only [nodeDlaw30_PendingDoes_n4, nodelaw30_PendingDoes_n4]
    cases k == 2 <;> rfl
  simp only [nodeDlaw30_PendingDoes_n2, nodelaw30_PendingDoes_n2, n3, n4, bindO_pure]
  cases k == 0 || k == 1 with
  | true =>
    simp only [cond_true]
    by_cases hfull : A.length < 32
    · obtain ⟨r, hr, hm, hrl⟩ := without_eq l (by omega)
      have a1 : fnDpending_Set_int_Add (l, last, A) = some (last + 1, 0, last + 1, A ++ [(last + 1, r)]) := by
        simp only [fnDpending_Set_int_Add, fnpending_Set_int_Add, dec_false (show ¬ (A.length : Int) ≥ 32 by omega), cond_false, hr, bindO_pure, wrap64_self (x := last + 1) (by omega), List.length_cons, List.length_nil,
          ble_true (show (A.length + (0 + 1)) * 32 ≤ 140737488355328 by omega), cond_true]
      have b1 : fnDref30_Set_Add (l, last, B) = some (.inr (last + 1, last + 1, B ++ [(last + 1, l)])) := by
        simp only [fnDref30_Set_Add, fnref30_Set_Add, noderef30_Set_Add_n0, nodeDref30_Set_Add_n0, dec_false (show ¬ (B.length : Int) ≥ 32 by omega), cond_false, bindO_pure, wrap64_self (x := last + 1) (by omega), List.length_cons, List.length_nil,
          ble_true (show (B.length + (0 + 1)) * 32 ≤ 140737488355328 by omega), ble_true (show (0 + B.length) * 32 ≤ 140737488355328 by omega), ble_true (show (0 + l.length) * 8 ≤ 140737488355328 by omega), cond_true]
      refine ⟨last + 1, A ++ [(last + 1, r)], B ++ [(last + 1, l)], ?_, h.alike.append (Alike.one hm), h.sa.snoc (by omega) (by simp; omega), h.sb.snoc (by omega) (by simpa using hl), by omega⟩
      simp [a1, b1, unP, bindO_pure, fnDpending_Set_int_Add_2, fnpending_Set_int_Add_2]
    · have a1 : fnDpending_Set_int_Add (l, last, A) = some (0, 6, last, A) := by
        simp only [fnDpending_Set_int_Add, fnpending_Set_int_Add, dec_true (show (A.length : Int) ≥ 32 by omega), cond_true]
      have b1 : fnDref30_Set_Add (l, last, B) = some (.inl ()) := by
        simp only [fnDref30_Set_Add, fnref30_Set_Add, dec_true (show (B.length : Int) ≥ 32 by omega), cond_true]
      refine ⟨last, A, B, ?_, h.alike, h.sa, h.sb, by omega⟩
      simp [a1, b1, unP, bindO_pure, fnDpending_Set_int_Add_2, fnpending_Set_int_Add_2]
  | false =>
    simp only [cond_false]
    cases k == 2 || k == 3 with
    | true =>
      obtain ⟨S, h1, h2, h3⟩ := done_eq n last A h.sa
      have e := h.alike.evs (x := n)
      refine ⟨last, S, rest n B, ?_, h2.trans h.alike.rest, h3, h.sb.rest n, by omega⟩
      have s := same_eq (evs n B) (evs n B) (by have := evs_len n B; omega)
      simp [h1, refDone_eq n last B h.sb, e, s, unP, bindO_pure, fnDpending_Set_int_Done_2, fnpending_Set_int_Done_2]
    | false =>
      simp only [cond_false]
      cases k == 4 with
      | true =>
        have e := h.alike.alone
        have s := same_eq (alone B) (alone B) (by simp [alone]; omega)
        refine ⟨last, [], [], ?_, trivial, ⟨by simp, by simp⟩, ⟨by simp, by simp⟩, by omega⟩
        simp [alone_eq last A h.sa, refAlone_eq last B h.sb, e, s, bindO_pure, fnDpending_Set_int_Alone_2, fnpending_Set_int_Alone_2]
      | false => exact ⟨last, A, B, by simp, h.alike, h.sa, h.sb, by omega⟩

theorem pendingDoes_true (l : List Step) (hl : l.length ≤ 9223372036854775807) : fnDlaw30_PendingDoes l = some true := by
  obtain ⟨b, hb, hg⟩ := great_eq l hl
  simp only [fnDlaw30_PendingDoes, fnlaw30_PendingDoes, works_eq, hb, bindO_pure, Bool.not_true, cond_false]
  cases b with
  | true => rfl
  | false =>
    obtain ⟨h150, h2000⟩ := hg rfl
    simp only [cond_false, fnDpending_New_int, fnpending_New_int, bindO_pure]
    have key : ∃ y, loopD (stepDlaw30_PendingDoes_n0 l) FUEL (((0 : Nat) : Int), (0 : Int), (0 : Int), ([] : Ops), ([] : Ops)) = some y ∧ y = .inr () := by
      refine loopD_each l (fun j (s : Int × Ops × Ops) => ((j : Int), s.1, s.1, s.2.1, s.2.2)) (fun j s => Rel s.1 s.2.1 s.2.2 j) _ ?_ ?_ (s0 := (0, [], [])) ⟨trivial, ⟨by simp, by simp⟩, ⟨by simp, by simp⟩, by simp⟩ (by omega)
      · rintro j ⟨k, n, w⟩ ⟨last, A, B⟩ hj hlt h
        have hw := h2000 _ (List.mem_of_getElem? hj)
        obtain ⟨last', A', B', h1, h2⟩ := step_eq l j k n w last A B h (by omega) (by simp at hw; omega)
        have h5 : nodeDlaw30_PendingDoes_n5 (l, (j : Int), true, last', last', k, n, w, A', B') = some false := by
          simp [nodeDlaw30_PendingDoes_n5, nodelaw30_PendingDoes_n5, fnDpending_Set_int_Len, fnpending_Set_int_Len, waits_eq n last' A' h2.sa, refWaits_eq n last' B' h2.sb, h2.alike.len, h2.alike.waits, bindO_pure,
            fnDpending_Set_int_Len_2, fnpending_Set_int_Len_2, fnDpending_Set_int_Waits_2, fnpending_Set_int_Waits_2]
        left
        refine ⟨(last', A', B'), ?_, h2⟩
        simp only [stepDlaw30_PendingDoes_n0, steplaw30_PendingDoes_n0, nodeDlaw30_PendingDoes_n1, nodelaw30_PendingDoes_n1, dec_true (show (j : Int) < (l.length : Int) by omega), cond_true, nth_of hj, bindO_pure, h1, unP, h5, cond_false, Sum.elim_inr,
          wrap64_nat (show j < 9223372036854775807 by omega)]
      · rintro ⟨last, A, B⟩ h
        simp only [stepDlaw30_PendingDoes_n0, steplaw30_PendingDoes_n0, dec_false (show ¬ (l.length : Int) < (l.length : Int) by omega), cond_false]
        exact ⟨_, rfl, rfl⟩
    obtain ⟨y, hy, rfl⟩ := key
    have hy' : loopD (stepDlaw30_PendingDoes_n0 l) FUEL (0, 0, 0, [], []) = _ := hy
    simp only [hy', bindO_pure, Sum.elim_inr]
end Go.Proofs.R1
