/- What the functions that LogrecGetsSaid reaches compute: part 4. -/
import Derived.Test.YtbhnbhhlmfdepaaOwnLogrecGetsSaid3
set_option linter.unusedVariables false
set_option linter.unusedSimpArgs false
namespace Go.Proofs.R2
open Go Go.AE Go.Plain

def seqOf (s : List UInt8) : Int := ((num ((s.drop 1).take 6) : Nat) : Int)
def manyOf (s : List UInt8) : Nat := num ((s.drop 7).take 1)
def secsOf (s : List UInt8) (n : Nat) : Secl := (List.range n).map fun i => (((num ((s.drop (8 + 2 * i)).take 2) : Nat) : Int), (s.drop (64 + 64 * i)).take 64)
def finL (p : List UInt8 × Int) (s : List UInt8) (q : Int) (l : Secl) : Int × Int × Secl := if p = (s, 0) then (q, 0, l) else (0, 4, [])
def getM (s : List UInt8) : Int × Int × Secl :=
  if s.length = 0 ∨ s.length % 64 ≠ 0 then (0, 12, []) else
  if s.take 1 ≠ [82] ∨ manyOf s ≠ s.length / 64 - 1 ∨ s.length / 64 - 1 < 1 ∨ s.length / 64 - 1 > 16 then (0, 4, []) else
  if (s.drop (8 + 2 * (s.length / 64 - 1))).take 4 ≠ tail (s.take (8 + 2 * (s.length / 64 - 1)) ++ s.drop 64) then (0, 5, []) else
    finL (putR (seqOf s) (secsOf s (s.length / 64 - 1))) s (seqOf s) (secsOf s (s.length / 64 - 1))
theorem secsOf_len (s : List UInt8) (n : Nat) : (secsOf s n).length = n := by simp [secsOf]
theorem secsOf_succ (s : List UInt8) (n : Nat) : secsOf s (n + 1) = secsOf s n ++ [(((num ((s.drop (8 + 2 * n)).take 2) : Nat) : Int), (s.drop (64 + 64 * n)).take 64)] := by
  unfold secsOf
  rw [List.range_succ, List.map_append]; rfl
theorem fin_eqL (p : List UInt8 × Int) (s : List UInt8) (q : Int) (l : Secl) :
    (bindO (bif p.2 != 0 then some true else some (!p.1 == s) : Option Bool) fun b => bif b then some (0, 4, []) else some (q, 0, l)) = some (finL p s q l) := by
  obtain ⟨t, e⟩ := p
  unfold finL
  by_cases he : e = 0
  · subst he
    by_cases hs : t = s
    · subst hs; simp [bindO_pure]
    · have : (t == s) = false := by simpa using hs
      simp [hs, this, bindO_pure]
  · have : (e != 0) = true := by simpa using he
    simp [this, he, bindO_pure]
/-- Places told, without their bytes. -/
def placesOf (s : List UInt8) (n : Nat) : Secl := (List.range n).map fun i => (((num ((s.drop (8 + 2 * i)).take 2) : Nat) : Int), [])
theorem placesOf_succ (s : List UInt8) (n : Nat) : placesOf s (n + 1) = placesOf s n ++ [(((num ((s.drop (8 + 2 * n)).take 2) : Nat) : Int), [])] := by
  unfold placesOf
  rw [List.range_succ, List.map_append]; rfl
def mixOf (s : List UInt8) (n j : Nat) : Secl := (List.range n).map fun i => (((num ((s.drop (8 + 2 * i)).take 2) : Nat) : Int), if i < j then (s.drop (64 + 64 * i)).take 64 else [])
theorem mixOf_zero (s : List UInt8) (n : Nat) : mixOf s n 0 = placesOf s n := by simp [mixOf, placesOf]
theorem mixOf_all (s : List UInt8) (n : Nat) : mixOf s n n = secsOf s n := by
  unfold mixOf secsOf
  apply List.map_congr_left
  intro i hi
  rw [if_pos (List.mem_range.1 hi)]
theorem mixOf_set (s : List UInt8) (n j : Nat) (hj : j < n) : (mixOf s n j).set j (((num ((s.drop (8 + 2 * j)).take 2) : Nat) : Int), (s.drop (64 + 64 * j)).take 64) = mixOf s n (j + 1) := by
  apply List.ext_getElem?
  intro i
  rw [List.getElem?_set]
  unfold mixOf
  simp only [List.getElem?_map, List.length_map, List.length_range]
  by_cases e : j = i
  · subst e
    rw [if_pos rfl, if_pos hj, List.getElem?_range hj]
    simp
  · rw [if_neg e]
    by_cases hi : i < n
    · rw [List.getElem?_range hi]
      simp only [Option.map_some]
      by_cases h : i < j
      · rw [if_pos h, if_pos (by omega)]
      · rw [if_neg h, if_neg (by omega)]
    · rw [List.getElem?_eq_none (by simpa using hi)]; rfl
theorem mixOf_get (s : List UInt8) (n j i : Nat) (hi : i < n) : (mixOf s n j)[i]? = some (((num ((s.drop (8 + 2 * i)).take 2) : Nat) : Int), if i < j then (s.drop (64 + 64 * i)).take 64 else []) := by
  unfold mixOf
  rw [List.getElem?_map, List.getElem?_range hi]; rfl

theorem places_loop (s : List UInt8) (n : Nat) (hl : s.length ≤ 3000) (hn : 8 + 2 * n ≤ s.length) (q : Int) (m : Int) : loopD (stepDlogrec_Get_n2 (s, m, q, (n : Int))) FUEL (0, s.drop 8, 0, []) = some (s.drop (8 + 2 * n), 0, placesOf s n) := by
  have key : ∃ y, loopD (stepDlogrec_Get_n2 (s, m, q, (n : Int))) FUEL (((0 : Nat) : Int), s.drop (8 + 2 * 0), 0, placesOf s 0) = some y ∧ y = (s.drop (8 + 2 * n), 0, placesOf s n) := by
    refine loopD_inv (fun j v => j ≤ n ∧ v = ((j : Int), s.drop (8 + 2 * j), 0, placesOf s j)) n _ ?_ ⟨by omega, rfl⟩ (by omega)
    rintro j v ⟨hj, rfl⟩
    by_cases hlt : j < n
    · left
      have n2 := Reader_Num_eq 2 (s.drop (8 + 2 * j)) (by omega) (by rw [List.length_drop]; omega) (by rw [List.length_drop]; omega)
      simp only [Int.cast_ofNat_Int, List.drop_drop] at n2
      refine ⟨_, ?_, hlt, hlt, rfl⟩
      have hpl : (placesOf s j).length = j := by simp [placesOf]
      simp only [stepDlogrec_Get_n2, steplogrec_Get_n2, dec_true (show (j : Int) < (n : Int) by omega), cond_true, n2, bindO_pure, unP, hpl, List.length_singleton, ble_true (show (j + 1) * 24 ≤ 140737488355328 by omega), wrap64_nat (show j < 9223372036854775807 by omega), placesOf_succ,
        show 8 + 2 * (j + 1) = 8 + 2 * j + 2 by omega]
    · right
      obtain rfl : j = n := by omega
      simp only [stepDlogrec_Get_n2, steplogrec_Get_n2, dec_false (show ¬ (j : Int) < (j : Int) by omega), cond_false]
      exact ⟨_, rfl, rfl⟩
  obtain ⟨y, hy, rfl⟩ := key
  exact hy
theorem data_loop (s : List UInt8) (n : Nat) (hl : s.length ≤ 3000) (hn : s.length = 64 * (n + 1)) (q : Int) : loopD (stepDlogrec_Get_n3 (s, q, s.drop 64, ((placesOf s n).length : Int))) FUEL (0, placesOf s n) = some (secsOf s n) := by
  have hpl : (placesOf s n).length = n := by simp [placesOf]
  rw [hpl]
  have key : ∃ y, loopD (stepDlogrec_Get_n3 (s, q, s.drop 64, (n : Int))) FUEL (((0 : Nat) : Int), mixOf s n 0) = some y ∧ y = secsOf s n := by
    refine loopD_inv (fun j v => j ≤ n ∧ v = ((j : Int), mixOf s n j)) n _ ?_ ⟨by omega, rfl⟩ (by omega)
    rintro j v ⟨hj, rfl⟩
    by_cases hlt : j < n
    · left
      have hml : (mixOf s n j).length = n := by simp [mixOf]
      have w1 : IntKind.wrap .i64 ((j : Int) * 64) = ((64 * j : Nat) : Int) := by rw [wrap64 (by omega) (by omega)]; omega
      have hdl : (s.drop 64).length = s.length - 64 := by simp
      have r1 : inR ((64 * j : Nat) : Int) ((s.drop 64).length + 1) = true := inR_true ⟨by omega, by omega⟩
      have r2 : inR 64 ((List.drop (64 + 64 * j) s).length + 1) = true := inR_true ⟨by omega, by rw [List.length_drop]; omega⟩
      have r3 : inR (j : Int) (mixOf s n j).length = true := inR_true ⟨by omega, by rw [hml]; omega⟩
      refine ⟨_, ?_, hlt, hlt, rfl⟩
      simp only [stepDlogrec_Get_n3, steplogrec_Get_n3, dec_true (show (j : Int) < (n : Int) by omega), cond_true, w1, r1, Int.toNat_natCast, r2, r3, mixOf_get s n j j hlt, bindO_pure, wrap64_nat (show j < 9223372036854775807 by omega), List.drop_drop, mixOf_set s n j hlt]
    · right
      obtain rfl : j = n := by omega
      simp only [stepDlogrec_Get_n3, steplogrec_Get_n3, dec_false (show ¬ (j : Int) < (j : Int) by omega), cond_false]
      exact ⟨_, rfl, mixOf_all s j⟩
  obtain ⟨y, hy, rfl⟩ := key
  rw [mixOf_zero] at hy
  exact hy
theorem lget_eq (s : List UInt8) (hl : s.length ≤ 3000) : fnDlogrec_Get s = some (getM s) := by
  have e1 : Int.tdiv (s.length : Int) 64 = ((s.length / 64 : Nat) : Int) := rfl
  have e2 : IntKind.wrap .i64 ((s.length / 64 : Nat) : Int) = ((s.length / 64 : Nat) : Int) := wrap64 (by omega) (by omega)
  have em : Int.tmod (s.length : Int) 64 = ((s.length % 64 : Nat) : Int) := rfl
  simp only [fnDlogrec_Get, fnlogrec_Get, e1, e2, nodeDlogrec_Get_n0, nodelogrec_Get_n0, em]
  unfold getM
  by_cases h0 : s.length = 0 ∨ s.length % 64 ≠ 0
  · rw [if_pos h0]
    by_cases h1 : s.length / 64 = 0
    · rw [h1, show IntKind.wrap .i64 (((0 : Nat) : Int) - 1) = -1 by kernel_rfl]; rfl
    · have e3 : IntKind.wrap .i64 (((s.length / 64 : Nat) : Int) - 1) = ((s.length / 64 - 1 : Nat) : Int) := by rw [wrap64 (by omega) (by omega)]; omega
      have e4 : (((s.length % 64 : Nat) : Int) != 0) = true := by rw [bne_iff_ne]; omega
      rw [e3, dec_false (by omega), e4]; rfl
  · rw [if_neg h0]
    have h64 : 64 ≤ s.length := by omega
    have hn : s.length = 64 * (s.length / 64 - 1 + 1) := by omega
    generalize hq : s.length / 64 - 1 = n at hn
    have e3 : IntKind.wrap .i64 (((s.length / 64 : Nat) : Int) - 1) = (n : Int) := by rw [wrap64 (by omega) (by omega)]; omega
    have e4 : (((s.length % 64 : Nat) : Int) != 0) = false := by rw [bne_eq_false_iff_eq]; omega
    rw [e3, dec_false (show ¬ (n : Int) < 0 by omega), e4]
    have b1 := Reader_Bytes_eq 1 s (by omega) (by omega)
    have n1 := Reader_Num_eq 6 (s.drop 1) (by omega) (by rw [List.length_drop]; omega) (by rw [List.length_drop]; omega)
    have n2 := Reader_Num_eq 1 (s.drop 7) (by omega) (by rw [List.length_drop]; omega) (by rw [List.length_drop]; omega)
    simp only [Int.cast_ofNat_Int, List.drop_drop, Nat.reduceAdd] at b1 n1 n2
    simp only [cond_false, bindO_pure, fnDfield_New, fnfield_New, b1, unP, n1, n2, nodeDlogrec_Get_n1, nodelogrec_Get_n1]
    by_cases c1 : s.take 1 = [82]
    · by_cases c2 : manyOf s = n
      · by_cases c3 : n < 1
        · rw [if_pos (.inr (.inr (.inl c3))), c1, show num ((s.drop 7).take 1) = n from c2]
          have : ((n : Int) != (n : Int)) = false := by simp
          rw [this, dec_true (show (n : Int) < 1 by omega)]; rfl
        · by_cases c4 : n > 16
          · rw [if_pos (.inr (.inr (.inr c4))), c1, show num ((s.drop 7).take 1) = n from c2]
            have : ((n : Int) != (n : Int)) = false := by simp
            rw [this, dec_false (show ¬ (n : Int) < 1 by omega), dec_true (show (n : Int) > 16 by omega)]; rfl
          · rw [if_neg (by rintro (h | h | h | h) <;> first | exact h c1 | exact h c2 | omega), c1, show num ((s.drop 7).take 1) = n from c2]
            have : ((n : Int) != (n : Int)) = false := by simp
            have w1 : IntKind.wrap .i64 (2 * (n : Int)) = ((2 * n : Nat) : Int) := by rw [wrap64 (by omega) (by omega)]; omega
            have w2 : IntKind.wrap .i64 (8 + ((2 * n : Nat) : Int)) = ((8 + 2 * n : Nat) : Int) := by rw [wrap64 (by omega) (by omega)]; omega
            have r1 : inR 64 (s.length + 1) = true := inR_true ⟨by omega, by omega⟩
            have r2 : inR ((8 + 2 * n : Nat) : Int) (s.length + 1) = true := inR_true ⟨by omega, by omega⟩
            have b4 := Reader_Bytes_eq 4 (s.drop (8 + 2 * n)) (by rw [List.length_drop]; omega) (by rw [List.length_drop]; omega)
            have hpl : (placesOf s n).length = n := by simp [placesOf]
            simp only [beq_self_eq_true, Bool.not_true, cond_false, this, dec_false (show ¬ (n : Int) < 1 by omega), dec_false (show ¬ (n : Int) > 16 by omega), bindO_pure, places_loop s n hl (by omega), unP, w1, w2, r1, r2, cond_true, Int.toNat_natCast, fnDlogrec_tail, fnlogrec_tail,
              ble_true (show (s.take (8 + 2 * n)).length + (s.drop 64).length ≤ 9223372036854775807 by rw [List.length_take, List.length_drop]; omega), cyclic_Tail_eq (s.take (8 + 2 * n) ++ s.drop 64) (by rw [List.length_append, List.length_take, List.length_drop]; omega), tail_len, b4]
            generalize tail (s.take (8 + 2 * n) ++ s.drop 64) = tl
            by_cases c5 : (s.drop (8 + 2 * n)).take 4 = tl
            · rw [if_neg (by simpa using c5), c5, beq_self_eq_true, Bool.not_true, cond_false, data_loop s n hl hn, bindO_pure]
              have hp := lput_eq (seqOf s) (secsOf s n) (by rw [secsOf_len]; omega)
              have hp' : fnDlogrec_Put (((num ((s.drop 1).take 6) : Nat) : Int), secsOf s n) = some (putR (seqOf s) (secsOf s n)) := hp
              simp only [hp', bindO_pure, unP, nodeDlogrec_Get_n4, nodelogrec_Get_n4]
              exact fin_eqL _ s _ _
            · rw [if_pos c5, beq_false_of_ne c5]; rfl
      · rw [if_pos (.inr (.inl c2)), c1]
        have : (((num ((s.drop 7).take 1) : Nat) : Int) != (n : Int)) = true := by
          rw [bne_iff_ne]
          intro h
          exact c2 (by unfold manyOf; omega)
        rw [this]; rfl
    · rw [if_pos (.inl c1), beq_false_of_ne c1]; rfl

theorem refnumL (s : List UInt8) (hs : s.length ≤ 7) : fnDref11_number s = some ((num s : Nat) : Int) := by
  have := number_loop (fun s => stepDref11_number_n0 s) s hs (fun n j h => by simp only [stepDref11_number_n0, stepref11_number_n0, h, cond_true]) (fun n j h => by simp only [stepDref11_number_n0, stepref11_number_n0, h, cond_false])
  simp only [fnDref11_number, fnref11_number, this, bindO_pure]
theorem take1 {s : List UInt8} {j : Nat} {c : UInt8} (h : s[j]? = some c) : (s.drop j).take 1 = [c] := by
  obtain ⟨hlt, hx⟩ := List.getElem?_eq_some_iff.1 h
  rw [List.drop_eq_getElem_cons hlt, hx]; rfl
theorem num1 (c : UInt8) : num [c] = c.toNat := by simp [num]
theorem byte_is (c : UInt8) : ((c.toNat : Int) != 82) = false ↔ c = 82 := by
  rw [bne_eq_false_iff_eq]
  constructor
  · intro h
    have : c.toNat = (82 : UInt8).toNat := by
      have : c.toNat = 82 := by omega
      rw [this]; rfl
    exact UInt8.toNat_inj.1 this
  · rintro rfl; rfl
theorem refsecs_loop (s : List UInt8) (n : Nat) (hl : s.length ≤ 3000) (hn : s.length = 64 * (n + 1)) : loopD (stepDref11_Get_n2 (s, (n : Int), s.drop 64)) FUEL (0, []) = some (secsOf s n) := by
  have key : ∃ y, loopD (stepDref11_Get_n2 (s, (n : Int), s.drop 64)) FUEL (((0 : Nat) : Int), secsOf s 0) = some y ∧ y = secsOf s n := by
    refine loopD_inv (fun j v => j ≤ n ∧ v = ((j : Int), secsOf s j)) n _ ?_ ⟨by omega, rfl⟩ (by omega)
    rintro j v ⟨hj, rfl⟩
    by_cases hlt : j < n
    · left
      have w0 : IntKind.wrap .i64 (2 * (j : Int)) = ((2 * j : Nat) : Int) := by rw [wrap64 (by omega) (by omega)]; omega
      have w1 : IntKind.wrap .i64 (10 + ((2 * j : Nat) : Int)) = ((10 + 2 * j : Nat) : Int) := by rw [wrap64 (by omega) (by omega)]; omega
      have w2 : IntKind.wrap .i64 (8 + ((2 * j : Nat) : Int)) = ((8 + 2 * j : Nat) : Int) := by rw [wrap64 (by omega) (by omega)]; omega
      have w3 : IntKind.wrap .i64 (((j + 1 : Nat) : Int) * 64) = ((64 * (j + 1) : Nat) : Int) := by rw [wrap64 (by omega) (by omega)]; omega
      have w4 : IntKind.wrap .i64 ((j : Int) * 64) = ((64 * j : Nat) : Int) := by rw [wrap64 (by omega) (by omega)]; omega
      have hdl : (s.drop 64).length = s.length - 64 := by simp
      have r1 : (inR ((10 + 2 * j : Nat) : Int) (s.length + 1) && inR ((8 + 2 * j : Nat) : Int) (10 + 2 * j + 1)) = true := by rw [inR_true ⟨by omega, by omega⟩, inR_true ⟨by omega, by omega⟩]; rfl
      have r2 : (inR ((64 * (j + 1) : Nat) : Int) ((s.drop 64).length + 1) && inR ((64 * j : Nat) : Int) (64 * (j + 1) + 1)) = true := by rw [inR_true ⟨by omega, by omega⟩, inR_true ⟨by omega, by omega⟩]; rfl
      have hnum := refnumL ((s.drop (8 + 2 * j)).take 2) (by rw [List.length_take]; omega)
      refine ⟨_, ?_, hlt, hlt, rfl⟩
      simp only [stepDref11_Get_n2, stepref11_Get_n2, dec_true (show (j : Int) < (n : Int) by omega), cond_true, w0, w1, w2, wrap64_nat (show j < 9223372036854775807 by omega), w3, w4, Int.toNat_natCast, r1, r2, show 10 + 2 * j - (8 + 2 * j) = 2 by omega, hnum, bindO_pure, secsOf_len, List.length_singleton,
        ble_true (show (j + 1) * 24 ≤ 140737488355328 by omega), show 64 * (j + 1) - 64 * j = 64 by omega, List.drop_drop, secsOf_succ]
    · right
      obtain rfl : j = n := by omega
      simp only [stepDref11_Get_n2, stepref11_Get_n2, dec_false (show ¬ (j : Int) < (j : Int) by omega), cond_false]
      exact ⟨_, rfl, rfl⟩
  obtain ⟨y, hy, rfl⟩ := key
  exact hy
theorem refget_eqL (s : List UInt8) (hl : s.length ≤ 3000) : fnDref11_Get s = some (getM s) := by
  have e1 : Int.tdiv (s.length : Int) 64 = ((s.length / 64 : Nat) : Int) := rfl
  have e2 : IntKind.wrap .i64 ((s.length / 64 : Nat) : Int) = ((s.length / 64 : Nat) : Int) := wrap64 (by omega) (by omega)
  have em : Int.tmod (s.length : Int) 64 = ((s.length % 64 : Nat) : Int) := rfl
  simp only [fnDref11_Get, fnref11_Get, e1, e2, nodeDref11_Get_n0, noderef11_Get_n0, em]
  unfold getM
  by_cases h0 : s.length = 0 ∨ s.length % 64 ≠ 0
  · rw [if_pos h0]
    by_cases h1 : s.length = 0
    · rw [List.eq_nil_of_length_eq_zero h1]; rfl
    · have hne : (s == []) = false := by rw [beq_eq_false_iff_ne]; intro h; rw [h] at h1; exact h1 rfl
      have e4 : (((s.length % 64 : Nat) : Int) != 0) = true := by rw [bne_iff_ne]; omega
      rw [hne, e4]; rfl
  · rw [if_neg h0]
    have hne : (s == []) = false := by rw [beq_eq_false_iff_ne]; intro h; rw [h] at h0; exact h0 (.inl rfl)
    have hn : s.length = 64 * (s.length / 64 - 1 + 1) := by omega
    generalize hq : s.length / 64 - 1 = n at hn
    have e3 : IntKind.wrap .i64 (((s.length / 64 : Nat) : Int) - 1) = (n : Int) := by rw [wrap64 (by omega) (by omega)]; omega
    have e4 : (((s.length % 64 : Nat) : Int) != 0) = false := by rw [bne_eq_false_iff_eq]; omega
    rw [e3, hne, e4]
    have g0 : s[0]? = some s[0] := List.getElem?_eq_getElem (by omega)
    have g7 : s[7]? = some s[7] := List.getElem?_eq_getElem (by omega)
    generalize s[0] = a at g0
    generalize s[7] = c at g7
    have t0 : s.take 1 = [a] := by simpa using take1 g0
    have t7 : manyOf s = c.toNat := by unfold manyOf; rw [take1 g7, num1]
    have hc : c.toNat < 256 := c.toNat_lt
    have wc : IntKind.wrap .i64 (c.toNat : Int) = (c.toNat : Int) := wrapN (by omega)
    have n0 : nth s 0 = some a := nth_of (j := 0) g0
    have n7 : nth s 7 = some c := nth_of (j := 7) g7
    simp only [cond_false, bindO_pure, nodeDref11_Get_n1, noderef11_Get_n1, n0, n7, wc]
    rw [t0, t7]
    by_cases c1 : a = 82
    · rw [(byte_is a).2 c1, cond_false]
      by_cases c2 : c.toNat = n
      · have : ((c.toNat : Int) != (n : Int)) = false := by rw [bne_eq_false_iff_eq]; omega
        rw [this, cond_false]
        by_cases c3 : n < 1
        · rw [if_pos (.inr (.inr (.inl c3))), dec_true (show (n : Int) < 1 by omega)]; rfl
        · by_cases c4 : n > 16
          · rw [if_pos (.inr (.inr (.inr c4))), dec_false (show ¬ (n : Int) < 1 by omega), dec_true (show (n : Int) > 16 by omega)]; rfl
          · rw [if_neg (by rintro (h | h | h | h) <;> first | exact h (by rw [c1]) | exact h c2 | omega)]
            have w1 : IntKind.wrap .i64 (2 * (n : Int)) = ((2 * n : Nat) : Int) := by rw [wrap64 (by omega) (by omega)]; omega
            have w2 : IntKind.wrap .i64 (8 + ((2 * n : Nat) : Int)) = ((8 + 2 * n : Nat) : Int) := by rw [wrap64 (by omega) (by omega)]; omega
            have w3 : IntKind.wrap .i64 (((8 + 2 * n : Nat) : Int) + 4) = ((8 + 2 * n + 4 : Nat) : Int) := by rw [wrap64 (by omega) (by omega)]; omega
            have r1 : inR 64 (s.length + 1) = true := inR_true ⟨by omega, by omega⟩
            have r2 : (inR ((8 + 2 * n + 4 : Nat) : Int) (s.length + 1) && inR ((8 + 2 * n : Nat) : Int) (8 + 2 * n + 4 + 1)) = true := by rw [inR_true ⟨by omega, by omega⟩, inR_true ⟨by omega, by omega⟩]; rfl
            have r3 : inR ((8 + 2 * n : Nat) : Int) (s.length + 1) = true := inR_true ⟨by omega, by omega⟩
            have r4 : (inR 7 (s.length + 1) && true) = true := by rw [inR_true ⟨by omega, by omega⟩]; rfl
            have hnum := refnumL ((s.drop 1).take (7 - 1)) (by rw [List.length_take]; omega)
            simp only [dec_false (show ¬ (n : Int) < 1 by omega), dec_false (show ¬ (n : Int) > 16 by omega), bindO_pure, cond_false, w1, w2, w3, r1, Int.toNat_natCast, r2, r3, cond_true,
              ble_true (show (s.take (8 + 2 * n)).length + (s.drop 64).length ≤ 9223372036854775807 by rw [List.length_take, List.length_drop]; omega), ref03_Tail_eq (s.take (8 + 2 * n) ++ s.drop 64) (by rw [List.length_append, List.length_take, List.length_drop]; omega),
              show 8 + 2 * n + 4 - (8 + 2 * n) = 4 by omega]
            generalize tail (s.take (8 + 2 * n) ++ s.drop 64) = tl
            by_cases c5 : (s.drop (8 + 2 * n)).take 4 = tl
            · rw [if_neg (by simpa using c5), c5, beq_self_eq_true, Bool.not_true, cond_false, refsecs_loop s n hl hn, bindO_pure, r4, cond_true, hnum, bindO_pure]
              have hp := reflput_eq (seqOf s) (secsOf s n) (by rw [secsOf_len]; omega)
              have hp' : fnDref11_Put (((num ((s.drop 1).take (7 - 1)) : Nat) : Int), secsOf s n) = some (putR (seqOf s) (secsOf s n)) := hp
              simp only [hp', bindO_pure, unP, nodeDref11_Get_n3, noderef11_Get_n3]
              exact fin_eqL _ s _ _
            · rw [if_pos c5, beq_false_of_ne c5]; rfl
      · rw [if_pos (.inr (.inl c2))]
        have : ((c.toNat : Int) != (n : Int)) = true := by rw [bne_iff_ne]; omega
        rw [this]; rfl
    · rw [if_pos (.inl (by simpa using c1))]
      have : ((a.toNat : Int) != 82) = true := by
        cases h : ((a.toNat : Int) != 82) with
        | true => rfl
        | false => exact absurd ((byte_is a).1 h) c1
      rw [this]; rfl

/-! ### Of how many sectors -/
def sizeM (s : List UInt8) (q : Int) : Int × Int := if s.length ≠ 64 then (0, 12) else if s.take 1 ≠ [82] ∨ seqOf s ≠ q ∨ manyOf s < 1 ∨ manyOf s > 16 then (0, 8) else (((manyOf s + 1 : Nat) : Int), 0)
theorem lsize_eq (s : List UInt8) (q : Int) (hl : s.length ≤ 3000) : fnDlogrec_Size (s, q) = some (sizeM s q) := by
  simp only [fnDlogrec_Size, fnlogrec_Size]
  unfold sizeM
  by_cases h : s.length = 64
  · have e1 : ((s.length : Int) != 64) = false := by rw [bne_eq_false_iff_eq]; omega
    rw [if_neg (by simpa using h), e1]
    have b1 := Reader_Bytes_eq 1 s (by omega) (by omega)
    have n1 := Reader_Num_eq 6 (s.drop 1) (by omega) (by rw [List.length_drop]; omega) (by rw [List.length_drop]; omega)
    have n2 := Reader_Num_eq 1 (s.drop 7) (by omega) (by rw [List.length_drop]; omega) (by rw [List.length_drop]; omega)
    simp only [Int.cast_ofNat_Int, List.drop_drop, Nat.reduceAdd] at b1 n1 n2
    simp only [cond_false, bindO_pure, fnDfield_New, fnfield_New, b1, unP, n1, n2, nodeDlogrec_Size_n0, nodelogrec_Size_n0, ibne]
    have hs : ((num ((s.drop 1).take 6) : Nat) : Int) = seqOf s := rfl
    have hm : num ((s.drop 7).take 1) = manyOf s := rfl
    rw [hs, hm]
    by_cases c1 : s.take 1 = [82]
    · by_cases c2 : seqOf s = q
      · by_cases c3 : manyOf s < 1
        · rw [if_pos (.inr (.inr (.inl c3))), c1, dec_true c2, dec_true (show ((manyOf s : Nat) : Int) < 1 by omega)]; rfl
        · by_cases c4 : manyOf s > 16
          · rw [if_pos (.inr (.inr (.inr c4))), c1, dec_true c2, dec_false (show ¬ ((manyOf s : Nat) : Int) < 1 by omega), dec_true (show ((manyOf s : Nat) : Int) > 16 by omega)]; rfl
          · rw [if_neg (by rintro (h | h | h | h) <;> first | exact h c1 | exact h c2 | omega), c1, dec_true c2, dec_false (show ¬ ((manyOf s : Nat) : Int) < 1 by omega), dec_false (show ¬ ((manyOf s : Nat) : Int) > 16 by omega), wrap64_nat (show manyOf s < 9223372036854775807 by omega)]
            rfl
      · rw [if_pos (.inr (.inl c2)), c1, dec_false c2]; rfl
    · rw [if_pos (.inl c1), beq_false_of_ne c1]; rfl
  · have e1 : ((s.length : Int) != 64) = true := by rw [bne_iff_ne]; omega
    rw [if_pos (by simpa using h), e1]; rfl
theorem take7 (s : List UInt8) (q : Int) (h : 7 ≤ s.length) : (s.take 1 = [82] ∧ seqOf s = q) ↔ (0 ≤ q ∧ q < 281474976710656) ∧ s.take 7 = putN [82] q 6 := by
  have hsp : s.take 7 = s.take 1 ++ (s.drop 1).take 6 := by rw [show (7 : Nat) = 1 + 6 from rfl, List.take_add]
  have hl6 : ((s.drop 1).take 6).length = 6 := by rw [List.length_take, List.length_drop]; omega
  constructor
  · rintro ⟨h1, h2⟩
    have hlt := num_lt ((s.drop 1).take 6)
    rw [hl6] at hlt
    have hr : 0 ≤ q ∧ q < 281474976710656 := by rw [← h2]; unfold seqOf; omega
    refine ⟨hr, ?_⟩
    unfold putN
    rw [if_pos (show 0 ≤ q ∧ q < ((256 ^ 6 : Nat) : Int) from ⟨hr.1, by omega⟩), hsp, h1, ← h2]
    unfold seqOf
    rw [Int.toNat_natCast]
    have := be_num ((s.drop 1).take 6)
    rw [hl6] at this
    rw [this]
  · rintro ⟨hr, h1⟩
    unfold putN at h1
    rw [if_pos (show 0 ≤ q ∧ q < ((256 ^ 6 : Nat) : Int) from ⟨hr.1, by omega⟩), hsp] at h1
    have hl1 : (s.take 1).length = ([82] : List UInt8).length := by rw [List.length_take]; simp; omega
    obtain ⟨g1, g2⟩ := List.append_inj h1 hl1
    refine ⟨g1, ?_⟩
    unfold seqOf
    rw [g2, num_be_small (by omega)]
    omega
theorem refsize_eqL (s : List UInt8) (q : Int) (hl : s.length ≤ 3000) (hq : -9223372036854775808 ≤ q ∧ q ≤ 9223372036854775807) : fnDref11_Size (s, q) = some (sizeM s q) := by
  simp only [fnDref11_Size, fnref11_Size, nodeDref11_Size_n0, noderef11_Size_n0]
  unfold sizeM
  by_cases h : s.length = 64
  · have e1 : ((s.length : Int) != 64) = false := by rw [bne_eq_false_iff_eq]; omega
    rw [if_neg (by simpa using h), e1]
    have g7 : s[7]? = some s[7] := List.getElem?_eq_getElem (by omega)
    generalize s[7] = c at g7
    have t7 : manyOf s = c.toNat := by unfold manyOf; rw [take1 g7, num1]
    have hc : c.toNat < 256 := c.toNat_lt
    have wc : IntKind.wrap .i64 (c.toNat : Int) = (c.toNat : Int) := wrapN (by omega)
    have n7 : nth s 7 = some c := nth_of (j := 7) g7
    have hf := ref02_Fits_eq q 6 (by omega) hq
    have hp := ref02_Put_eq [82] q 6 (by omega) hq (by simp)
    simp only [Int.cast_ofNat_Int] at hf hp
    have r1 : inR 7 (s.length + 1) = true := inR_true ⟨by omega, by omega⟩
    have ht := take7 s q (by omega)
    have e256 : ((256 ^ 6 : Nat) : Int) = 281474976710656 := by decide
    rw [e256] at hf
    simp only [cond_false, nodeDref11_Size_n1, noderef11_Size_n1, hf, bindO_pure, r1, cond_true, hp, n7]
    rw [t7]
    by_cases c1 : 0 ≤ q ∧ q < 281474976710656
    · rw [dec_true c1, Bool.not_true, cond_false]
      by_cases c2 : s.take 7 = putN [82] q 6
      · obtain ⟨d1, d2⟩ := ht.2 ⟨c1, c2⟩
        rw [c2, beq_self_eq_true, Bool.not_true, cond_false]
        by_cases c3 : c.toNat < 1
        · rw [if_pos (.inr (.inr (.inl c3))), dec_true (show (c.toNat : Int) < 1 by omega)]; rfl
        · by_cases c4 : c.toNat > 16
          · rw [if_pos (.inr (.inr (.inr c4))), dec_false (show ¬ (c.toNat : Int) < 1 by omega), dec_true (show (c.toNat : Int) > 16 by omega)]; rfl
          · rw [if_neg (by rintro (h | h | h | h) <;> first | exact h d1 | exact h d2 | omega), dec_false (show ¬ (c.toNat : Int) < 1 by omega), dec_false (show ¬ (c.toNat : Int) > 16 by omega)]
            simp only [cond_false, bindO_pure, Sum.elim_inr, wc, wrap64_nat (show c.toNat < 9223372036854775807 by omega)]
      · rw [beq_false_of_ne c2, if_pos]
        · rfl
        · by_cases d1 : s.take 1 = [82]
          · exact .inr (.inl fun d2 => c2 (ht.1 ⟨d1, d2⟩).2)
          · exact .inl d1
    · rw [dec_false c1, if_pos]
      · rfl
      · by_cases d1 : s.take 1 = [82]
        · exact .inr (.inl fun d2 => c1 (ht.1 ⟨d1, d2⟩).1)
        · exact .inl d1
  · have e1 : ((s.length : Int) != 64) = true := by rw [bne_iff_ne]; omega
    rw [if_pos (by simpa using h), e1]; rfl
end Go.Proofs.R2
namespace Go.Proofs.R2
open Go Go.AE Go.Plain
theorem lrworks : fnDlaw11_works () = some true := by kernel_rfl
theorem lgreat (l : Secl) (hl : l.length ≤ 9223372036854775807) : ∃ b, fnDlaw11_Great l = some b ∧ (b = false → l.length ≤ 40) := by
  have key : ∃ y, loopD (stepDlaw11_Great_n0 l) FUEL ((0 : Nat) : Int) = some y ∧ ((y = .inr () ∧ l.length ≤ 40) ∨ y = .inl ()) := by
    refine loopD_each l (fun j (_ : Unit) => (j : Int)) (fun j _ => j ≤ 40) _ ?_ ?_ (s0 := ()) (by simp) (by omega)
    · intro j x _ hj hlt hi
      simp only [stepDlaw11_Great_n0, steplaw11_Great_n0, nodeDlaw11_Great_n1, nodelaw11_Great_n1, nodeDlaw11_Great_n2, nodelaw11_Great_n2, dec_true (show (j : Int) < (l.length : Int) by omega), cond_true, nth_of hj, bindO_pure, wrap64_nat (show j < 9223372036854775807 by omega)]
      by_cases c1 : (j : Int) ≥ 40
      · rw [dec_true c1]
        exact .inr ⟨.inl (), rfl, .inr rfl⟩
      · rw [dec_false c1]
        by_cases c2 : ((x.2.length : Nat) : Int) > 500
        · rw [dec_true c2]
          exact .inr ⟨.inl (), rfl, .inr rfl⟩
        · rw [dec_false c2]
          exact .inl ⟨(), rfl, by omega⟩
    · intro _ hi
      simp only [stepDlaw11_Great_n0, steplaw11_Great_n0, dec_false (show ¬ (l.length : Int) < (l.length : Int) by omega), cond_false]
      exact ⟨.inr (), rfl, .inl ⟨rfl, hi⟩⟩
  obtain ⟨y, hy, h⟩ := key
  have hy' : loopD (stepDlaw11_Great_n0 l) FUEL 0 = _ := hy
  simp only [fnDlaw11_Great, fnlaw11_Great, hy', bindO_pure]
  rcases h with ⟨rfl, h⟩ | rfl
  · exact ⟨false, rfl, fun _ => h⟩
  · exact ⟨true, rfl, fun h => by cases h⟩
theorem LogrecPuts_true (q : Int) (l : Secl) (hl : l.length ≤ 9223372036854775807) : fnDlaw11_LogrecPuts (q, l) = some true := by
  obtain ⟨b, hb, hg⟩ := lgreat l hl
  simp only [fnDlaw11_LogrecPuts, fnlaw11_LogrecPuts, lrworks, hb, bindO_pure, Bool.not_true, cond_false]
  cases b with
  | true => rfl
  | false =>
    have := hg rfl
    simp only [cond_false, lput_eq q l (by omega), reflput_eq q l (by omega), bindO_pure, unP, nodeDlaw11_LogrecPuts_n0, nodelaw11_LogrecPuts_n0, check_eq l (by omega), refcheck_eq l (by omega), beq_self_eq_true, cond_true]
theorem sectors_same (l : Secl) (hl : l.length ≤ 1000000) : fnDlaw09_Sectors (l, l) = some true := by
  have key : ∃ y, loopD (stepDlaw09_Sectors_n0 (l, l)) FUEL ((0 : Nat) : Int) = some y ∧ y = .inr () := by
    refine loopD_each l (fun j (_ : Unit) => (j : Int)) (fun _ _ => True) _ ?_ ?_ (s0 := ()) trivial (by omega)
    · intro j x _ hj hlt _
      left
      refine ⟨(), ?_, trivial⟩
      simp only [stepDlaw09_Sectors_n0, steplaw09_Sectors_n0, nodeDlaw09_Sectors_n1, nodelaw09_Sectors_n1, dec_true (show (j : Int) < (l.length : Int) by omega), cond_true, nth_of hj, bindO_pure, wrap64_nat (show j < 9223372036854775807 by omega), beq_self_eq_true, Bool.and_self, Bool.not_true, cond_false]
    · intro _ _
      simp only [stepDlaw09_Sectors_n0, steplaw09_Sectors_n0, nodeDlaw09_Sectors_n1, nodelaw09_Sectors_n1, dec_false (show ¬ (l.length : Int) < (l.length : Int) by omega), cond_false, bindO_pure]
      exact ⟨_, rfl, rfl⟩
  obtain ⟨y, hy, rfl⟩ := key
  have hy' : loopD (stepDlaw09_Sectors_n0 (l, l)) FUEL 0 = _ := hy
  have e : ((l.length : Int) != (l.length : Int)) = false := by simp
  simp only [fnDlaw09_Sectors, fnlaw09_Sectors, e, cond_false, hy', bindO_pure, Sum.elim_inr]
theorem getM_len (s : List UInt8) : (getM s).2.2.length ≤ 16 := by
  unfold getM
  repeat' split
  all_goals first | exact Nat.zero_le _ | skip
  rename_i h _
  unfold finL
  split
  · show (secsOf s _).length ≤ 16
    rw [secsOf_len]
    omega
  · exact Nat.zero_le _
theorem LogrecGets_true (s : List UInt8) (q : Int) (hq : -9223372036854775808 ≤ q ∧ q ≤ 9223372036854775807) : fnDlaw11_LogrecGets (s, q) = some true := by
  simp only [fnDlaw11_LogrecGets, fnlaw11_LogrecGets, lrworks, bindO_pure, Bool.not_true, cond_false]
  by_cases h : (s.length : Int) > 3000
  · rw [dec_true h]; rfl
  · rw [dec_false h, cond_false, lget_eq s (by omega), refget_eqL s (by omega), lsize_eq s q (by omega), refsize_eqL s q (by omega) hq]
    have hgl := getM_len s
    generalize getM s = r at hgl
    generalize sizeM s q = z
    simp only [bindO_pure, unP, nodeDlaw11_LogrecGets_n0, nodelaw11_LogrecGets_n0, beq_self_eq_true, cond_true, sectors_same _ (show r.2.2.length ≤ 1000000 by omega)]
end Go.Proofs.R2
