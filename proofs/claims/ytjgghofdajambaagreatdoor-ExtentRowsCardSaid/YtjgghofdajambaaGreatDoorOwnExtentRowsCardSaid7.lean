/- What the functions that ExtentRowsCardSaid reaches compute: part 7. -/
import Derived.Test.YtjgghofdajambaaGreatDoorOwnExtentRowsCardSaid6
set_option linter.unusedVariables false
set_option linter.unusedSimpArgs false
namespace Go.Proofs.R7R
open Go Go.AE
open Go.Proofs.R7 (fnDlaw20_works fnDlaw16_Begun9 sure9)
theorem mhas_put (i n : Int) (x : List UInt8) : ∀ l : Mp, mhas i (mput n x l) = (decide (i = n) || mhas i l)
  | [] => by simp [ibeq, mput, mhas]
  | (m, y) :: r => by
    by_cases hnm : n = m
    · subst hnm
      by_cases hi : i = n <;> simp [ibeq, mput, mhas, hi]
    · by_cases hi : i = m
      · subst hi
        simp [ibeq, mput, mhas, hnm]
      · simp [ibeq, mput, mhas, hnm, hi, mhas_put i n x r]
theorem mget_put (i n : Int) (x : List UInt8) : ∀ l : Mp, mget i [] (mput n x l) = if i = n then x else mget i [] l
  | [] => by by_cases h : i = n <;> simp [ibeq, mput, mget, h]
  | (m, y) :: r => by
    by_cases hnm : n = m
    · subst hnm
      by_cases hi : i = n <;> simp [ibeq, mput, mget, hi]
    · by_cases hi : i = m
      · subst hi
        simp [ibeq, mput, mget, hnm, Ne.symm hnm]
      · simp [ibeq, mput, mget, hnm, hi, mget_put i n x r]
theorem mput_length {α : Type} (n : Int) (x : α) : ∀ l : List (Int × α), (mput n x l).length ≤ l.length + 1
  | [] => by simp [mput]
  | (m, y) :: r => by
    rw [mput]
    cases h : (n == m)
    · have := mput_length n x r
      simp only [cond_false, List.length_cons]
      omega
    · simp
theorem loop1 {V Y : Type} {f : V → Option (V ⊕ Y)} {v : V} {y : Y} (h : f v = some (.inr y)) : loopD f FUEL v = some y :=
  loopD_more 1 _ v y (by unfold FUEL; omega) (by rw [loopD, h]; rfl)

/-- A sector of the bytes. -/
def blk (d : List UInt8) (j : Nat) : List UInt8 := (d.drop (64 * j)).take 64
def MM (a : Int) (d : List UInt8) : Nat → Mp
  | 0 => []
  | j + 1 => mput (a + (j : Int)) (blk d j) (MM a d j)
theorem MM_len (a : Int) (d : List UInt8) : ∀ j, (MM a d j).length ≤ j
  | 0 => by simp [MM]
  | j + 1 => by have := MM_len a d j; have := mput_length (a + (j : Int)) (blk d j) (MM a d j); rw [MM]; omega
theorem MM_has (a : Int) (d : List UInt8) (t : Int) : ∀ j, mhas t (MM a d j) = decide (a ≤ t ∧ t < a + (j : Int))
  | 0 => by rw [dec_false (by omega)]; rfl
  | j + 1 => by
    rw [MM, mhas_put, MM_has a d t j, ← Bool.decide_or]
    exact decide_eq_decide.mpr (by omega)
theorem MM_get (a : Int) (d : List UInt8) (i : Nat) : ∀ j, i < j → mget (a + (i : Int)) [] (MM a d j) = blk d i
  | 0, h => absurd h (by omega)
  | j + 1, h => by
    rw [MM, mget_put]
    by_cases e : i = j
    · subst e; rw [if_pos rfl]
    · rw [if_neg (by omega), MM_get a d i j (by omega)]
theorem blk_len (d : List UInt8) (j : Nat) (h : 64 * (j + 1) ≤ d.length) : (blk d j).length = 64 := by
  rw [blk, List.length_take, List.length_drop]; omega

/-- What saving tells. -/
theorem save_eq (a c : Int) (off : Bool) (d : List UInt8) (n : Nat) (ha : -9223372036854775808 ≤ a ∧ a ≤ 9223372036854775807) (hn : 1 ≤ n ∧ n ≤ 16) (hd : d.length = 64 * n) :
    ∃ r m, fnDq15 (a, d, 35, 24, 2, 0, 25, 0, true, false, c, 0, off, 35, 2, 37, 22, sure9, [], [], [], [], []) = some (r, m) ∧
      ((r = 0 ∧ m = MM a d n ∧ 0 ≤ a ∧ a + (n : Int) ≤ 35) ∨ (r = 3 ∧ ¬ (0 ≤ a ∧ a + (n : Int) ≤ 35) ∧ ∃ j, m = MM a d j ∧ j ≤ 16)) := by
  have hl : IntKind.wrap IntKind.i64 (Int.tdiv (List.length d : Int) 64) = (n : Int) := by
    have e : Int.tdiv (List.length d : Int) 64 = (n : Int) := by rw [Int.tdiv_eq_ediv_of_nonneg (by omega)]; omega
    rw [e]; exact wrap64_self (by omega)
  have hm : IntKind.wrap IntKind.i64 ((n : Int) * 64) = (n : Int) * 64 := wrap64_self (by omega)
  obtain ⟨y, hy, hq⟩ := loopD_inv (f := stepDq15_n1 (a, d, (n : Int), 35, 24, 2, 0, 25, 0, true, false, c, 0, off, 35, 2, 37, 22, sure9, [], [], [], []))
    (fun j v => v = ((j : Int), MM a d j) ∧ j ≤ n ∧ (j = 0 ∨ (0 ≤ a ∧ a + (j : Int) ≤ 35))) n
    (fun y => (y = .inr (MM a d n) ∧ 0 ≤ a ∧ a + (n : Int) ≤ 35) ∨ (∃ j, y = .inl (3, MM a d j) ∧ j ≤ 16 ∧ ¬ (0 ≤ a ∧ a + (n : Int) ≤ 35)))
    (by
      rintro j v ⟨rfl, hj, hin⟩
      by_cases hlt : j < n
      · have e1 : IntKind.wrap IntKind.i64 ((j : Int) * 64) = ((64 * j : Nat) : Int) := by rw [wrap64_self (by omega)]; omega
        have hb : (List.take 64 (List.drop (64 * j) d)).length = 64 := blk_len d j (by omega)
        have e3 : (List.drop (64 * j) d).length = d.length - 64 * j := List.length_drop ..
        by_cases hok : 0 ≤ a + (j : Int) ∧ a + (j : Int) < 35 ∧ (j = 0 ∨ 0 ≤ a)
        · have e2 : IntKind.wrap IntKind.i64 (a + (j : Int)) = a + (j : Int) := wrap64_self (by omega)
          refine .inl ⟨(((j + 1 : Nat) : Int), MM a d (j + 1)), ?_, hlt, rfl, by omega, .inr (by omega)⟩
          simp only [stepDq15_n1, stepq15_n1, dec_true (show (j : Int) < (n : Int) by omega), cond_true, e1, e2, Int.toNat_natCast]
          rw [inR_true (by omega), inR_true (by rw [e3]; omega), cond_true, cond_true,
            stage_eq _ c off _ _ (by omega) hb (by have := MM_len a d j; omega), if_pos (by omega)]
          simp only [bindO, unP]
          rw [wrap64_nat (by omega)]; rfl
        · have hj0 : j = 0 ∨ ¬ (0 ≤ a + (j : Int) ∧ a + (j : Int) < 35) := by omega
          have hx : -9223372036854775808 ≤ a + (j : Int) ∧ a + (j : Int) ≤ 9223372036854775807 := by omega
          have e2 : IntKind.wrap IntKind.i64 (a + (j : Int)) = a + (j : Int) := wrap64_self hx
          refine .inr ⟨.inl (3, MM a d j), ?_, .inr ⟨j, rfl, by omega, by omega⟩⟩
          simp only [stepDq15_n1, stepq15_n1, dec_true (show (j : Int) < (n : Int) by omega), cond_true, e1, e2, Int.toNat_natCast]
          rw [inR_true (by omega), inR_true (by rw [e3]; omega), cond_true, cond_true,
            stage_eq _ c off _ _ hx hb (by have := MM_len a d j; omega), if_neg (by omega)]
          rfl
      · obtain rfl : j = n := by omega
        refine .inr ⟨.inr (MM a d j), ?_, .inl ⟨rfl, by omega⟩⟩
        simp only [stepDq15_n1, stepq15_n1, dec_false (show ¬ (j : Int) < (j : Int) by omega), cond_false])
    (v := (0, [])) ⟨rfl, by omega, .inl rfl⟩ (by omega)
  have hc : (((n : Int) * 64) != (List.length d : Int)) = false := by rw [ibne, dec_true (by omega)]; rfl
  simp only [fnDq15, fnq15, hl, nodeDq15_n0, nodeq15_n0, dec_false (show ¬ (n : Int) < 1 by omega), dec_false (show ¬ (n : Int) > 16 by omega), cond_false, hm, hc, bindO_pure, hy]
  rcases hq with ⟨rfl, h⟩ | ⟨j, rfl, h1, h2⟩
  · exact ⟨_, _, rfl, .inl ⟨rfl, rfl, h⟩⟩
  · exact ⟨_, _, rfl, .inr ⟨rfl, h2, j, rfl, h1⟩⟩
/-- What is no such row of sectors is refused. -/
theorem save_bad (a c : Int) (off : Bool) (d : List UInt8) (hl : d.length ≤ 3000) (h : ¬ ∃ n : Nat, (1 ≤ n ∧ n ≤ 16) ∧ d.length = 64 * n) :
    fnDq15 (a, d, 35, 24, 2, 0, 25, 0, true, false, c, 0, off, 35, 2, 37, 22, sure9, [], [], [], [], []) = some (12, []) := by
  have e : Int.tdiv (List.length d : Int) 64 = ((d.length / 64 : Nat) : Int) := by rw [Int.tdiv_eq_ediv_of_nonneg (by omega)]; omega
  have hm : IntKind.wrap IntKind.i64 ((d.length / 64 : Nat) : Int) = ((d.length / 64 : Nat) : Int) := wrap64_self (by omega)
  have hm2 : IntKind.wrap IntKind.i64 (((d.length / 64 : Nat) : Int) * 64) = ((d.length / 64 : Nat) : Int) * 64 := wrap64_self (by omega)
  simp only [fnDq15, fnq15, e, hm, nodeDq15_n0, nodeq15_n0, hm2]
  by_cases h1 : ((d.length / 64 : Nat) : Int) < 1
  · rw [dec_true h1]; rfl
  · by_cases h2 : ((d.length / 64 : Nat) : Int) > 16
    · rw [dec_false h1, dec_true h2]; rfl
    · have hc : ((((d.length / 64 : Nat) : Int) * 64) != (List.length d : Int)) = true := by
        rw [ibne, dec_false (fun q => h ⟨d.length / 64, by omega, by omega⟩)]; rfl
      rw [dec_false h1, dec_false h2, hc]; rfl
end Go.Proofs.R7R
namespace Go.Proofs.R7R
open Go Go.AE
open Go.Proofs.R7 (fnDlaw20_works fnDlaw16_Begun9 sure9)
theorem sure_each : ∀ x ∈ sure9, x.length = 64 := by
  intro x hx
  unfold sure9 at hx
  rw [List.mem_append, List.mem_append] at hx
  rcases hx with (hx | hx) | hx
  · rw [(List.mem_replicate.mp hx).2, List.length_replicate]
  · simp only [List.mem_cons, List.not_mem_nil, or_false] at hx
    rcases hx with rfl | rfl
    · kernel_rfl
    · kernel_rfl
  · rw [(List.mem_replicate.mp hx).2, List.length_replicate]
theorem there_eq (t c : Int) : fnDq12 (t, c, 0, false, sure9, [], [], []) = some (decide (0 ≤ t ∧ t < 59)) := by
  simp only [fnDq12, fnq12, nodeDq12_n0, nodeq12_n0, fnDq8, fnq8, sure_len, bindO_pure]
  by_cases h0 : t ≥ 0
  · rw [dec_true h0, cond_true]
    exact congrArg some (decide_eq_decide.mpr (by omega))
  · rw [dec_false h0, cond_false, dec_false (show ¬ (0 ≤ t ∧ t < 59) by omega)]; rfl
theorem has_none (x : Int) : fnDq71 ([], x) = some false := by
  have h : loopD (stepDq73_n0 ([], x, 0)) FUEL 0 = some (.inr ()) := loop1 rfl
  simp only [fnDq71, fnq71, fnDq73, fnq73]
  rw [show ((List.length ([] : List Int) : Nat) : Int) = 0 from rfl, h]
  rfl
theorem call_eq (c : Int) (l : List (List UInt8)) (hc : 0 ≤ c ∧ c ≤ 1000) : fnDq10 (c, 0, false, l, [], [], []) = some (0, false, c + 1, false) := by
  have e : IntKind.wrap IntKind.i64 (c + 1) = c + 1 := wrap64_self (by omega)
  have e2 : (c + 1 == 0) = false := by rw [ibeq, dec_false (by omega)]
  simp only [fnDq10, fnq10, e, e2, cond_false, has_none, bindO_pure]
theorem read_has (t c : Int) (off : Bool) (m : Mp) (h : mhas t m = true) :
    fnDq81 (t, 35, 24, 2, 0, 25, 0, true, false, c, 0, off, 35, 2, 37, 22, sure9, [], [], [], [], m) = some (mget t [] m, 0, c, off) := by
  simp only [fnDq81, fnq81, fnDq63, fnq63, h, cond_true, bindO_pure]; rfl
theorem read_any (t c : Int) (m : Mp) (hc : 0 ≤ c ∧ c ≤ 1000) (hm : ∀ t, mhas t m = true → (mget t [] m).length ≤ 64) :
    ∃ s r c', fnDq81 (t, 35, 24, 2, 0, 25, 0, true, false, c, 0, false, 35, 2, 37, 22, sure9, [], [], [], [], m) = some (s, r, c', false) ∧ s.length ≤ 64 ∧ c ≤ c' ∧ c' ≤ c + 1 := by
  by_cases h : mhas t m = true
  · exact ⟨_, _, _, read_has t c false m h, hm t h, by omega, by omega⟩
  · simp only [Bool.not_eq_true] at h
    simp only [fnDq81, fnq81, fnDq63, fnq63, h, cond_false, bindO_pure, fnDq7, fnq7, call_eq c sure9 hc, unP, there_eq,
      show mhas t ([] : Mp) = false from rfl, show ((0 : Int) != 0) = false from rfl]
    by_cases hin : 0 ≤ t ∧ t < 59
    · have hlt : t.toNat < sure9.length := by rw [sure_len]; omega
      rw [dec_true hin, inR_true (by rw [sure_len]; omega), List.getElem?_eq_getElem hlt]
      refine ⟨sure9[t.toNat], 0, c + 1, rfl, ?_, by omega, by omega⟩
      rw [sure_each _ (List.getElem_mem hlt)]; omega
    · rw [dec_false hin]
      exact ⟨[], 3, c + 1, rfl, by simp, by omega, by omega⟩
theorem load_out (a k c : Int) (off : Bool) (m : Mp) (hk : k < 0 ∨ 16 < k) :
    fnDq14 (a, k, 35, 24, 2, 0, 25, 0, true, false, c, 0, off, 35, 2, 37, 22, sure9, [], [], [], [], m) = some ([], 3, c, off) := by
  simp only [fnDq14, fnq14, nodeDq14_n0, nodeq14_n0]
  by_cases h : k < 0
  · rw [dec_true h]; rfl
  · rw [dec_false h, dec_true (show k > 16 by omega)]; rfl
theorem load_any (a c : Int) (k : Nat) (m : Mp) (hk : k ≤ 16) (hc : 0 ≤ c ∧ c ≤ 900) (hm : ∀ t, mhas t m = true → (mget t [] m).length ≤ 64) :
    ∃ s r c', fnDq14 (a, (k : Int), 35, 24, 2, 0, 25, 0, true, false, c, 0, false, 35, 2, 37, 22, sure9, [], [], [], [], m) = some (s, r, c', false) := by
  obtain ⟨y, hy, hq⟩ := loopD_inv (f := stepDq14_n1 (a, (k : Int), 35, 24, 2, 0, 25, 0, true, false, 0, 35, 2, 37, 22, sure9, [], [], [], [], m))
    (fun j v => ∃ c' b, v = ((j : Int), c', false, intsOf b) ∧ j ≤ k ∧ c ≤ c' ∧ c' ≤ c + (j : Int) ∧ b.length ≤ 64 * j) k
    (fun y => (∃ r c', y = .inl (r, c', false)) ∨ (∃ c' b, y = .inr (c', false, intsOf b) ∧ b.length ≤ 1024))
    (by
      rintro j v ⟨c', b, rfl, hj, h1, h2, hb⟩
      by_cases hlt : j < k
      · obtain ⟨s, r, c2, hr, hs, h3, h4⟩ := read_any (IntKind.wrap IntKind.i64 (a + (j : Int))) c' m (by omega) hm
        simp only [stepDq14_n1, stepq14_n1, dec_true (show (j : Int) < (k : Int) by omega), cond_true, hr]
        by_cases hz : r = 0
        · subst hz
          refine .inl ⟨(((j + 1 : Nat) : Int), c2, false, intsOf (b ++ s)), ?_, hlt, c2, b ++ s, rfl, by omega, by omega, by omega, by rw [List.length_append]; omega⟩
          simp only [bindO_pure, unP, writeString_eq s b (by omega), wrap64_nat (show j < 9223372036854775807 by omega)]
          rfl
        · refine .inr ⟨.inl (r, c2, false), ?_, .inl ⟨r, c2, rfl⟩⟩
          have e : (r != 0) = true := by rw [ibne, dec_false hz]; rfl
          simp only [bindO_pure, unP, e, cond_true]
      · refine .inr ⟨.inr (c', false, intsOf b), ?_, .inr ⟨c', b, rfl, by omega⟩⟩
        simp only [stepDq14_n1, stepq14_n1, dec_false (show ¬ (j : Int) < (k : Int) by omega), cond_false])
    (v := (0, c, false, intsOf [])) ⟨c, [], rfl, by omega, by omega, by omega, by simp⟩ (by omega)
  rw [show intsOf [] = [] from rfl] at hy
  simp only [fnDq14, fnq14, nodeDq14_n0, nodeq14_n0, dec_false (show ¬ (k : Int) < 0 by omega), dec_false (show ¬ (k : Int) > 16 by omega), cond_false, bindO_pure, hy]
  rcases hq with ⟨r, c', rfl⟩ | ⟨c', b, rfl, hb⟩
  · exact ⟨_, _, _, rfl⟩
  · simp only [bindO_pure, Sum.elim_inr, unP, string_eq b (by omega)]
    exact ⟨_, _, _, rfl⟩
/-- What was saved is loaded. -/
theorem load_has (a c : Int) (off : Bool) (k : Nat) (m : Mp) (d : List UInt8) (hk : k ≤ 16) (hd : d.length = 64 * k)
    (hm : ∀ j, j < k → mhas (IntKind.wrap IntKind.i64 (a + ((j : Nat) : Int))) m = true ∧ mget (IntKind.wrap IntKind.i64 (a + (j : Int))) [] m = blk d j) :
    fnDq14 (a, (k : Int), 35, 24, 2, 0, 25, 0, true, false, c, 0, off, 35, 2, 37, 22, sure9, [], [], [], [], m) = some (d, 0, c, off) := by
  obtain ⟨y, hy, hq⟩ := loopD_inv (f := stepDq14_n1 (a, (k : Int), 35, 24, 2, 0, 25, 0, true, false, 0, 35, 2, 37, 22, sure9, [], [], [], [], m))
    (fun j v => v = ((j : Int), c, off, intsOf (d.take (64 * j))) ∧ j ≤ k) k
    (fun y => y = .inr (c, off, intsOf d))
    (by
      rintro j v ⟨rfl, hj⟩
      by_cases hlt : j < k
      · obtain ⟨h1, h2⟩ := hm j hlt
        have hb : (blk d j).length = 64 := blk_len d j (by omega)
        have e : d.take (64 * j) ++ blk d j = d.take (64 * (j + 1)) := by
          rw [blk, show 64 * (j + 1) = 64 * j + 64 by omega, List.take_add]
        have ht : (d.take (64 * j)).length ≤ 1024 := by rw [List.length_take]; omega
        refine .inl ⟨(((j + 1 : Nat) : Int), c, off, intsOf (d.take (64 * (j + 1)))), ?_, hlt, rfl, by omega⟩
        simp only [stepDq14_n1, stepq14_n1, dec_true (show (j : Int) < (k : Int) by omega), cond_true, read_has _ c off m h1, h2, bindO_pure, unP,
          writeString_eq (blk d j) (d.take (64 * j)) (by omega), wrap64_nat (show j < 9223372036854775807 by omega), e]
        rfl
      · obtain rfl : j = k := by omega
        refine .inr ⟨.inr (c, off, intsOf d), ?_, rfl⟩
        simp only [stepDq14_n1, stepq14_n1, dec_false (show ¬ (j : Int) < (j : Int) by omega), cond_false]
        rw [List.take_of_length_le (by omega)])
    (v := (0, c, off, [])) ⟨by simp [intsOf], by omega⟩ (by omega)
  subst hq
  simp only [fnDq14, fnq14, nodeDq14_n0, nodeq14_n0, dec_false (show ¬ (k : Int) < 0 by omega), dec_false (show ¬ (k : Int) > 16 by omega), cond_false, bindO_pure, hy, Sum.elim_inr, unP,
    string_eq d (by omega)]
end Go.Proofs.R7R
namespace Go.Proofs.R7R
open Go Go.AE
open Go.Proofs.R7 (fnDlaw20_works fnDlaw16_Begun9 sure9)
theorem log_is : fnDq25 (9, 2, 24) = some 35 := by kernel_rfl
theorem works_is : fnDlaw20_works () = some true := rfl
theorem begun_is : fnDlaw16_Begun9 (9, 2, 24) = some () := rfl
theorem MM_small (a : Int) (d : List UInt8) (t : Int) : ∀ j, mhas t (MM a d j) = true → (mget t [] (MM a d j)).length ≤ 64
  | 0, h => by simp [MM, mhas] at h
  | j + 1, h => by
    rw [MM, mget_put]
    rw [MM, mhas_put] at h
    by_cases e : t = a + (j : Int)
    · rw [if_pos e, blk, List.length_take]; omega
    · rw [if_neg e]
      rw [dec_false e, Bool.false_or] at h
      exact MM_small a d t j h
theorem ExtentRows_true (a : Int) (d : List UInt8) (k : Int) (ha : -9223372036854775808 ≤ a ∧ a ≤ 9223372036854775807) : fnDq23 (a, d, k) = some true := by
  simp only [fnDq23, fnq23, works_is, begun_is, bindO_pure]
  by_cases hbig : (List.length d : Int) > 3000
  · rw [dec_true hbig]; rfl
  · rw [dec_false hbig, cond_false]
    by_cases h : ∃ n : Nat, (1 ≤ n ∧ n ≤ 16) ∧ d.length = 64 * n
    · obtain ⟨n, hn, hd⟩ := h
      have e : Int.tdiv (List.length d : Int) 64 = (n : Int) := by rw [Int.tdiv_eq_ediv_of_nonneg (by omega)]; omega
      have hl : IntKind.wrap IntKind.i64 (Int.tdiv (List.length d : Int) 64) = (n : Int) := by rw [e]; exact wrap64_self (by omega)
      have hmod : (Int.tmod (List.length d : Int) 64 != 0) = false := by rw [ibne, Int.tmod_eq_emod_of_nonneg (by omega), dec_true (by omega)]; rfl
      obtain ⟨r, m, hs, hr⟩ := save_eq a 33 false d n ha hn hd
      have h0 : nodeDq23_n0 (a, d, k, (n : Int), r, m) = some false := by
        simp only [nodeDq23_n0, nodeq23_n0, dec_false (show ¬ (n : Int) < 1 by omega), dec_false (show ¬ (n : Int) > 16 by omega), cond_false, hmod]
      have h1 : nodeDq23_n1 (a, d, k, (n : Int), r, 35, m) = some false := by
        have hz : (r == 0) = decide (0 ≤ a ∧ a + (n : Int) ≤ 35) := by
          rcases hr with ⟨rfl, _, h⟩ | ⟨rfl, h, _⟩
          · rw [dec_true h]; rfl
          · rw [dec_false h]; rfl
        simp only [nodeDq23_n1, nodeq23_n1, hz]
        by_cases c1 : a ≥ 0
        · by_cases c2 : a ≤ 35
          · rw [dec_true c1, dec_true c2, wrap64_self (show -9223372036854775808 ≤ 35 - a ∧ 35 - a ≤ 9223372036854775807 by omega)]
            by_cases c3 : (n : Int) ≤ 35 - a
            · rw [dec_true c3, dec_true (show 0 ≤ a ∧ a + (n : Int) ≤ 35 by omega)]; rfl
            · rw [dec_false c3, dec_false (show ¬ (0 ≤ a ∧ a + (n : Int) ≤ 35) by omega)]; rfl
          · rw [dec_true c1, dec_false c2, dec_false (show ¬ (0 ≤ a ∧ a + (n : Int) ≤ 35) by omega)]; rfl
        · rw [dec_false c1, dec_false (show ¬ (0 ≤ a ∧ a + (n : Int) ≤ 35) by omega)]; rfl
      simp only [hl, hs, bindO_pure, unP, h0, cond_false, log_is, h1]
      by_cases hk : k < 0 ∨ 16 < k
      · have h2 : nodeDq23_n2 (a, d, k, (n : Int), r, 3, 33, false, m) = some true := by
          simp only [nodeDq23_n2, nodeq23_n2]
          by_cases q : k < 0
          · rw [dec_true q]; rfl
          · rw [dec_false q, dec_true (show k > 16 by omega)]; rfl
        simp only [load_out a k 33 false m hk, bindO_pure, unP, h2, cond_true]
        rfl
      · have hkn : k = (k.toNat : Int) := by omega
        have hms : ∀ t, mhas t m = true → (mget t [] m).length ≤ 64 := by
          intro t
          rcases hr with ⟨_, rfl, _⟩ | ⟨_, _, j, rfl, _⟩
          · exact MM_small a d t n
          · exact MM_small a d t j
        obtain ⟨s, f, c', hld⟩ := load_any a 33 k.toNat m (by omega) (by omega) hms
        rw [← hkn] at hld
        have h2 : nodeDq23_n2 (a, d, k, (n : Int), r, f, c', false, m) = some false := by
          simp only [nodeDq23_n2, nodeq23_n2, dec_false (show ¬ k < 0 by omega), dec_false (show ¬ k > 16 by omega), cond_false]
        simp only [hld, bindO_pure, unP, h2, cond_false]
        rcases hr with ⟨rfl, rfl, hin⟩ | ⟨rfl, _, _⟩
        · have hall := load_has a c' false n (MM a d n) d (by omega) hd (by
            intro j hj
            have e2 : IntKind.wrap IntKind.i64 (a + (j : Int)) = a + (j : Int) := wrap64_self (by omega)
            rw [e2, MM_has, MM_get a d j n hj]
            exact ⟨dec_true (by omega), rfl⟩)
          have w1 : IntKind.wrap IntKind.i64 (IntKind.wrap IntKind.i64 (a + (n : Int)) - 1) = a + ((n - 1 : Nat) : Int) := by
            rw [wrap64_self (show -9223372036854775808 ≤ a + (n : Int) ∧ a + (n : Int) ≤ 9223372036854775807 by omega), wrap64_self (by omega)]; omega
          have hdl : (d.drop (64 * (n - 1))).length = 64 * 1 := by rw [List.length_drop]; omega
          have hlast := load_has (a + ((n - 1 : Nat) : Int)) c' false 1 (MM a d n) (d.drop (64 * (n - 1))) (by omega) hdl (by
            intro j hj
            obtain rfl : j = 0 := by omega
            have e2 : IntKind.wrap IntKind.i64 (a + ((n - 1 : Nat) : Int) + ((0 : Nat) : Int)) = a + ((n - 1 : Nat) : Int) := by rw [wrap64_self (by omega)]; omega
            rw [e2, MM_has, MM_get a d (n - 1) n (by omega)]
            exact ⟨dec_true (by omega), rfl⟩)
          rw [show ((1 : Nat) : Int) = 1 from rfl] at hlast
          have w2 : IntKind.wrap IntKind.i64 (IntKind.wrap IntKind.i64 ((n : Int) - 1) * 64) = ((64 * (n - 1) : Nat) : Int) := by
            rw [wrap64_self (show -9223372036854775808 ≤ (n : Int) - 1 ∧ (n : Int) - 1 ≤ 9223372036854775807 by omega), wrap64_self (by omega)]; omega
          have h3 : nodeDq23_n3 (d, (n : Int), d, 0, d.drop (64 * (n - 1)), 0) = some true := by
            simp only [nodeDq23_n3, nodeq23_n3, w2, Int.toNat_natCast, beq_self_eq_true, cond_true]
            rw [inR_true (by omega)]; rfl
          simp only [show ((0 : Int) != 0) = false from rfl, cond_false, hall, bindO_pure, unP, w1, hlast, h3]
        · rfl
    · have e : Int.tdiv (List.length d : Int) 64 = ((d.length / 64 : Nat) : Int) := by rw [Int.tdiv_eq_ediv_of_nonneg (by omega)]; omega
      have hl : IntKind.wrap IntKind.i64 (Int.tdiv (List.length d : Int) 64) = ((d.length / 64 : Nat) : Int) := by rw [e]; exact wrap64_self (by omega)
      have h0 : nodeDq23_n0 (a, d, k, ((d.length / 64 : Nat) : Int), 12, []) = some true := by
        simp only [nodeDq23_n0, nodeq23_n0]
        by_cases q1 : ((d.length / 64 : Nat) : Int) < 1
        · rw [dec_true q1]; rfl
        · by_cases q2 : ((d.length / 64 : Nat) : Int) > 16
          · rw [dec_false q1, dec_true q2]; rfl
          · have hmod : (Int.tmod (List.length d : Int) 64 != 0) = true := by
              rw [ibne, Int.tmod_eq_emod_of_nonneg (by omega), dec_false (fun q => h ⟨d.length / 64, by omega, by omega⟩)]; rfl
            rw [dec_false q1, dec_false q2, hmod]; rfl
      simp only [hl, save_bad a 33 false d (by omega) h, bindO_pure, unP, h0, cond_true]
      rfl
end Go.Proofs.R7R
