/- What the functions that LogscanOrderSaid reaches compute: part 6. -/
import Derived.Test.YtkoocdpbnniamaaOwnLogscanOrderSaid5
set_option linter.unusedVariables false
set_option linter.unusedSimpArgs false
namespace Go.Proofs.R4
open Go Go.AE Go.Plain

abbrev Secl := List (Int × List UInt8)
/-- What is wrong with a sector, behind others. -/
def badS (pre : Secl) (x : Int × List UInt8) : Option Int :=
  if x.1 < 0 ∨ x.1 ≥ 1000 then some 3 else if x.2.length ≠ 64 then some 12 else if ∃ t ∈ pre, t.1 = x.1 then some 9 else none
def chkS : Secl → Secl → Int
  | _, [] => 0
  | pre, x :: r => (badS pre x).getD (chkS (pre ++ [x]) r)
def chkL (l : Secl) : Int := if l.length = 0 then 8 else if l.length > 16 then 6 else chkS [] l
theorem chkS_step (l : Secl) (j : Nat) (x : Int × List UInt8) (h : l[j]? = some x) : chkS (l.take j) (l.drop j) = (badS (l.take j) x).getD (chkS (l.take (j + 1)) (l.drop (j + 1))) := by
  obtain ⟨hlt, hx⟩ := List.getElem?_eq_some_iff.1 h
  rw [List.drop_eq_getElem_cons hlt, chkS, hx, List.take_succ_eq_append_getElem hlt, hx]
theorem chkS_end (l : Secl) : chkS (l.take l.length) (l.drop l.length) = 0 := by rw [List.drop_length]; rfl
theorem chkS_zero : ∀ (l pre : Secl), chkS pre l = 0 → ∀ (j : Nat) (x : Int × List UInt8), l[j]? = some x → badS (pre ++ l.take j) x = none
  | [], _, _, j, x, hx => by simp at hx
  | y :: r, pre, h, j, x, hx => by
    rw [chkS] at h
    have hb : badS pre y = none ∧ chkS (pre ++ [y]) r = 0 := by
      unfold badS at h ⊢
      repeat' split at h
      all_goals first | (simp at h; done) | skip
      rename_i h1 h2 h3
      rw [if_neg h1, if_neg h2, if_neg h3]
      exact ⟨rfl, h⟩
    cases j with
    | zero =>
      simp at hx
      subst hx
      simpa using hb.1
    | succ j =>
      have := chkS_zero r (pre ++ [y]) hb.2 j x (by simpa using hx)
      rw [List.take_succ_cons]
      simpa using this
theorem chkL_zero {l : Secl} (h : chkL l = 0) : 1 ≤ l.length ∧ l.length ≤ 16 ∧ ∀ x ∈ l, 0 ≤ x.1 ∧ x.1 < 1000 ∧ x.2.length = 64 := by
  unfold chkL at h
  by_cases h0 : l.length = 0
  · rw [if_pos h0] at h; omega
  · rw [if_neg h0] at h
    by_cases h1 : l.length > 16
    · rw [if_pos h1] at h; omega
    · rw [if_neg h1] at h
      refine ⟨by omega, by omega, fun x hx => ?_⟩
      obtain ⟨j, hj, rfl⟩ := List.mem_iff_getElem.1 hx
      have := chkS_zero l [] h j _ (List.getElem?_eq_getElem hj)
      unfold badS at this
      repeat' split at this
      all_goals first | (cases this; done) | skip
      rename_i g1 g2 _
      rw [not_or] at g1
      exact ⟨by omega, by omega, by simpa using g2⟩

theorem contains_at (l : Secl) (x : Int × List UInt8) (hl : l.length ≤ 1000000) : fnDslices_ContainsFunc_api_Sector_api_Sector (l, x.1, x.2) = some (decide (∃ t ∈ l, t.1 = x.1)) := by
  have key : ∃ y, loopD (stepDslices_IndexFunc_api_Sector_api_Sector_n0 (l, (l.length : Int), x.1, x.2)) FUEL ((0 : Nat) : Int) = some y ∧ (((∃ t ∈ l, t.1 = x.1) ∧ ∃ j : Nat, y = .inl (j : Int)) ∨ ((¬ ∃ t ∈ l, t.1 = x.1) ∧ y = .inr ())) := by
    refine loopD_each l (fun j (_ : Unit) => (j : Int)) (fun j _ => ¬ ∃ t ∈ l.take j, t.1 = x.1) _ ?_ ?_ (s0 := ()) (by simp) (by omega)
    · intro j y _ hj hlt hi
      simp only [stepDslices_IndexFunc_api_Sector_api_Sector_n0, stepslices_IndexFunc_api_Sector_api_Sector_n0, dec_true (show (j : Int) < (l.length : Int) by omega), cond_true, nth_of hj, bindO_pure, fnDlogrec_Check_1, fnlogrec_Check_1, wrap64_nat (show j < 9223372036854775807 by omega)]
      by_cases e : y.1 = x.1
      · right
        rw [e, beq_self_eq_true]
        exact ⟨.inl j, rfl, .inl ⟨⟨y, List.mem_of_getElem? hj, e⟩, j, rfl⟩⟩
      · left
        rw [beq_false_of_ne e]
        refine ⟨(), rfl, ?_⟩
        rintro ⟨t, ht, h⟩
        rw [List.take_add_one, hj, List.mem_append] at ht
        rcases ht with ht | ht
        · exact hi ⟨t, ht, h⟩
        · simp at ht; subst ht; exact e h
    · intro _ hi
      simp only [stepDslices_IndexFunc_api_Sector_api_Sector_n0, stepslices_IndexFunc_api_Sector_api_Sector_n0, dec_false (show ¬ (l.length : Int) < (l.length : Int) by omega), cond_false]
      rw [List.take_length] at hi
      exact ⟨.inr (), rfl, .inr ⟨hi, rfl⟩⟩
  obtain ⟨y, hy, h⟩ := key
  have hy' : loopD (stepDslices_IndexFunc_api_Sector_api_Sector_n0 (l, (l.length : Int), x.1, x.2)) FUEL 0 = _ := hy
  simp only [fnDslices_ContainsFunc_api_Sector_api_Sector, fnslices_ContainsFunc_api_Sector_api_Sector, fnDslices_IndexFunc_api_Sector_api_Sector, fnslices_IndexFunc_api_Sector_api_Sector, hy', bindO_pure]
  rcases h with ⟨h1, j, rfl⟩ | ⟨h1, rfl⟩
  · rw [dec_true h1]
    simp only [Sum.elim_inl, bindO_pure]
    rw [dec_true (show (j : Int) ≥ 0 by omega)]
  · rw [dec_false h1]
    simp only [Sum.elim_inr, bindO_pure]
    rfl
theorem check_eq (l : Secl) (hl : l.length ≤ 1000000) : fnDlogrec_Check l = some (chkL l) := by
  simp only [fnDlogrec_Check, fnlogrec_Check, ibeq]
  unfold chkL
  by_cases h0 : l.length = 0
  · rw [if_pos h0, dec_true (show (l.length : Int) = 0 by omega)]; rfl
  rw [if_neg h0, dec_false (show ¬ (l.length : Int) = 0 by omega), cond_false]
  by_cases h1 : l.length > 16
  · rw [if_pos h1, dec_true (show (l.length : Int) > 16 by omega)]; rfl
  rw [if_neg h1, dec_false (show ¬ (l.length : Int) > 16 by omega), cond_false]
  have key : ∃ y, loopD (stepDlogrec_Check_n0 (l, l, (l.length : Int))) FUEL ((0 : Nat) : Int) = some y ∧ ((y = .inl (chkS [] l)) ∨ (y = .inr () ∧ chkS [] l = 0)) := by
    refine loopD_each l (fun j (_ : Unit) => (j : Int)) (fun j _ => chkS (l.take j) (l.drop j) = chkS [] l) _ ?_ ?_ (s0 := ()) (by simp) (by omega)
    · intro j x _ hj hlt hi
      rw [chkS_step l j x hj] at hi
      have hc := contains_at (l.take j) x (by rw [List.length_take]; omega)
      have hr : inR (j : Int) (l.length + 1) = true := inR_true ⟨by omega, by omega⟩
      simp only [stepDlogrec_Check_n0, steplogrec_Check_n0, nodeDlogrec_Check_n1, nodelogrec_Check_n1, nodeDlogrec_Check_n2, nodelogrec_Check_n2, dec_true (show (j : Int) < (l.length : Int) by omega), cond_true, nth_of hj, bindO_pure, hr, Int.toNat_natCast, hc, wrap64_nat (show j < 9223372036854775807 by omega)]
      unfold badS at hi
      by_cases c1 : x.1 < 0
      · rw [if_pos (.inl c1)] at hi
        rw [dec_true c1]
        exact .inr ⟨.inl 3, rfl, .inl (by rw [← hi]; rfl)⟩
      · by_cases c2 : x.1 ≥ 1000
        · rw [if_pos (.inr c2)] at hi
          rw [dec_false c1, dec_true c2]
          exact .inr ⟨.inl 3, rfl, .inl (by rw [← hi]; rfl)⟩
        · rw [if_neg (by omega)] at hi
          rw [dec_false c1, dec_false c2]
          by_cases c3 : x.2.length = 64
          · rw [if_neg (by simpa using c3)] at hi
            have e3 : (((x.2.length : Nat) : Int) != 64) = false := by rw [bne_eq_false_iff_eq]; omega
            simp only [cond_false, bindO_pure, e3]
            by_cases c4 : ∃ t ∈ l.take j, t.1 = x.1
            · rw [if_pos c4] at hi
              rw [dec_true c4]
              exact .inr ⟨.inl 9, rfl, .inl (by rw [← hi]; rfl)⟩
            · rw [if_neg c4] at hi
              rw [dec_false c4]
              exact .inl ⟨(), rfl, hi⟩
          · rw [if_pos (by simpa using c3)] at hi
            have e3 : (((x.2.length : Nat) : Int) != 64) = true := by rw [bne_iff_ne]; omega
            simp only [cond_false, bindO_pure, e3, cond_true]
            exact .inr ⟨.inl 12, rfl, .inl (by rw [← hi]; rfl)⟩
    · intro _ hi
      rw [chkS_end] at hi
      simp only [stepDlogrec_Check_n0, steplogrec_Check_n0, dec_false (show ¬ (l.length : Int) < (l.length : Int) by omega), cond_false]
      exact ⟨.inr (), rfl, .inr ⟨rfl, hi.symm⟩⟩
  obtain ⟨y, hy, h⟩ := key
  have hy' : loopD (stepDlogrec_Check_n0 (l, l, (l.length : Int))) FUEL 0 = _ := hy
  rw [hy']
  rcases h with rfl | ⟨rfl, h⟩
  · rfl
  · rw [h]; rfl
/-! ### The record -/
def toldR (seq : Int) (l : Secl) : List UInt8 := l.foldl (fun s x => putN s x.1 2) (putN (putN [82] seq 6) l.length 1)
def allR (l : Secl) : List UInt8 := l.flatMap (·.2)
def recR (seq : Int) (l : Secl) : List UInt8 := padTo (toldR seq l ++ tail (toldR seq l ++ allR l)) ++ allR l
def putR (seq : Int) (l : Secl) : List UInt8 × Int := if seq < 0 ∨ seq ≥ 281474976710656 then ([], 3) else if chkL l ≠ 0 then ([], chkL l) else (recR seq l, 0)
theorem told_len (l : Secl) : ∀ s : List UInt8, (l.foldl (fun s x => putN s x.1 2) s).length ≤ s.length + 2 * l.length := by
  induction l with
  | nil => intro s; simp
  | cons x r ih =>
    intro s
    have h1 := ih (putN s x.1 2)
    have h2 := putN_len s x.1 2
    simp only [List.foldl_cons, List.length_cons]
    omega
theorem toldR_len (seq : Int) (l : Secl) : (toldR seq l).length ≤ 8 + 2 * l.length := by
  unfold toldR
  have h1 := told_len l (putN (putN [82] seq 6) l.length 1)
  have h2 := putN_len (putN [82] seq 6) l.length 1
  have h3 := putN_len [82] seq 6
  simp only [List.length_cons, List.length_nil] at h3
  omega
theorem allR_len {l : Secl} (h : ∀ x ∈ l, x.2.length = 64) : (allR l).length = 64 * l.length := by
  unfold allR
  induction l with
  | nil => rfl
  | cons x r ih =>
    rw [List.flatMap_cons, List.length_append, h x (List.mem_cons_self ..), ih (fun y hy => h y (List.mem_cons_of_mem _ hy)), List.length_cons]
    omega
theorem allR_snoc (l : Secl) (x : Int × List UInt8) : allR (l ++ [x]) = allR l ++ x.2 := by simp [allR]
theorem tail_len (s : List UInt8) : (tail s).length = 4 := rfl
theorem lput_eq (seq : Int) (l : Secl) (hl : l.length ≤ 1000000) : fnDlogrec_Put (seq, l) = some (putR seq l) := by
  simp only [fnDlogrec_Put, fnlogrec_Put, nodeDlogrec_Put_n0, nodelogrec_Put_n0, check_eq l hl]
  unfold putR
  by_cases c1 : seq < 0
  · rw [if_pos (.inl c1), dec_true c1]; rfl
  by_cases c2 : seq ≥ 281474976710656
  · rw [if_pos (.inr c2), dec_false c1, dec_true c2]; rfl
  rw [if_neg (by omega), dec_false c1, dec_false c2]
  simp only [cond_false, bindO_pure, ibne]
  by_cases c3 : chkL l = 0
  · obtain ⟨g1, g2, g3⟩ := chkL_zero c3
    have hal := allR_len (fun x hx => (g3 x hx).2.2)
    have e1 := field_Put_eq [82] seq 6 (by omega) (by simp)
    have e2 := field_Put_eq (putN [82] seq 6) l.length 1 (by omega) (by have := putN_len [82] seq 6; simp only [List.length_cons, List.length_nil] at this; omega)
    simp only [Int.cast_ofNat_Int] at e1 e2
    have e2' : fnDfield_Put (putN [82] seq 6, (l.length : Int), 1) = some (putN (putN [82] seq 6) l.length 1) := e2
    rw [if_neg (by simpa using c3), c3, dec_true rfl]
    simp only [Bool.not_true, cond_false, e1, e2', bindO_pure]
    have key : ∃ y, loopD (stepDlogrec_Put_n1 (l, (l.length : Int))) FUEL ((l.take 0).foldl (fun s x => putN s x.1 2) (putN (putN [82] seq 6) l.length 1), ((0 : Nat) : Int), intsOf (allR (l.take 0))) = some y ∧ y = (toldR seq l, intsOf (allR l)) := by
      refine loopD_each l (fun j (_ : Unit) => ((l.take j).foldl (fun s x => putN s x.1 2) (putN (putN [82] seq 6) l.length 1), (j : Int), intsOf (allR (l.take j)))) (fun _ _ => True) _ ?_ ?_ (s0 := ()) trivial (by omega)
      · intro j x _ hj hlt _
        left
        have hx := g3 x (List.mem_of_getElem? hj)
        have h1 := told_len (l.take j) (putN (putN [82] seq 6) l.length 1)
        have h2 := putN_len (putN [82] seq 6) l.length 1
        have h3 := putN_len [82] seq 6
        simp only [List.length_cons, List.length_nil, List.length_take] at h1 h3
        have e3 := field_Put_eq ((l.take j).foldl (fun s x => putN s x.1 2) (putN (putN [82] seq 6) l.length 1)) x.1 2 (by omega) (by omega)
        simp only [Int.cast_ofNat_Int] at e3
        have h4 := allR_len (l := l.take j) (fun y hy => (g3 y (List.mem_of_mem_take hy)).2.2)
        rw [List.length_take] at h4
        refine ⟨(), ?_, trivial⟩
        simp only [stepDlogrec_Put_n1, steplogrec_Put_n1, dec_true (show (j : Int) < (l.length : Int) by omega), cond_true, nth_of hj, bindO_pure, e3, Builder_WriteString_eq x.2 (allR (l.take j)) (by omega), unP, wrap64_nat (show j < 9223372036854775807 by omega)]
        rw [List.take_add_one, hj, Option.toList_some, List.foldl_append, allR_snoc]
        rfl
      · intro _ _
        simp only [stepDlogrec_Put_n1, steplogrec_Put_n1, dec_false (show ¬ (l.length : Int) < (l.length : Int) by omega), cond_false, List.take_length]
        exact ⟨_, rfl, rfl⟩
    obtain ⟨y, hy, rfl⟩ := key
    rw [List.take_zero, List.foldl_nil, show intsOf (allR ([] : Secl)) = [] from rfl] at hy
    have hy' : loopD (stepDlogrec_Put_n1 (l, (l.length : Int))) FUEL (putN (putN [82] seq 6) l.length 1, 0, []) = _ := hy
    have ht := toldR_len seq l
    have hp : (padTo (toldR seq l ++ tail (toldR seq l ++ allR l))).length ≤ 200 := by
      have : (toldR seq l ++ tail (toldR seq l ++ allR l)).length ≤ 44 := by rw [List.length_append, tail_len]; omega
      simp only [padTo, List.length_append, List.length_replicate] at this ⊢
      omega
    simp only [hy', bindO_pure, unP, Builder_String_eq _ (show (allR l).length ≤ 9223372036854775807 by omega), fnDlogrec_tail, fnlogrec_tail, ble_true (show (toldR seq l).length + (allR l).length ≤ 9223372036854775807 by omega), cond_true,
      cyclic_Tail_eq (toldR seq l ++ allR l) (by rw [List.length_append]; omega), tail_len, ble_true (show (toldR seq l).length + 4 ≤ 9223372036854775807 by omega), region_Pad_eq (toldR seq l ++ tail (toldR seq l ++ allR l)) (by rw [List.length_append, tail_len]; omega),
      Builder_StringAgain_eq _ (show (allR l).length ≤ 9223372036854775807 by omega), ble_true (show (padTo (toldR seq l ++ tail (toldR seq l ++ allR l))).length + (allR l).length ≤ 9223372036854775807 by omega)]
    rfl
  · rw [if_pos c3, dec_false c3]; rfl
end Go.Proofs.R4
namespace Go.Proofs.R4
open Go Go.AE Go.Plain

def seqOf (s : List UInt8) : Int := ((num ((s.drop 1).take 6) : Nat) : Int)
def manyOf (s : List UInt8) : Nat := num ((s.drop 7).take 1)
def secsOf (s : List UInt8) (n : Nat) : Secl := (List.range n).map fun i => (((num ((s.drop (8 + 2 * i)).take 2) : Nat) : Int), (s.drop (64 + 64 * i)).take 64)
def finL (p : List UInt8 × Int) (s : List UInt8) (q : Int) (l : Secl) : Int × Int × Secl := if p = (s, 0) then (q, 0, l) else (0, 4, [])
def getM (s : List UInt8) : Int × Int × Secl :=
  if s.length = 0 ∨ s.length % 64 ≠ 0 then (0, 12, []) else
  if s.take 1 ≠ [82] ∨ manyOf s ≠ s.length / 64 - 1 ∨ s.length / 64 - 1 < 1 ∨ s.length / 64 - 1 > 16 then (0, 4, []) else
  if (s.drop (8 + 2 * (s.length / 64 - 1))).take 4 ≠ tail (s.take (8 + 2 * (s.length / 64 - 1)) ++ s.drop 64) then (0, 5, []) else
    finL (putR (seqOf s) (secsOf s (s.length / 64 - 1))) s (seqOf s) (secsOf s (s.length / 64 - 1))
theorem secsOf_len (s : List UInt8) (n : Nat) : (secsOf s n).length = n := by simp [secsOf]
theorem secsOf_succ (s : List UInt8) (n : Nat) : secsOf s (n + 1) = secsOf s n ++ [(((num ((s.drop (8 + 2 * n)).take 2) : Nat) : Int), (s.drop (64 + 64 * n)).take 64)] := by
  unfold secsOf
  rw [List.range_succ, List.map_append]; rfl
theorem fin_eqL (p : List UInt8 × Int) (s : List UInt8) (q : Int) (l : Secl) :
    (bindO (bif p.2 != 0 then some true else some (!p.1 == s) : Option Bool) fun b => bif b then some (0, 4, []) else some (q, 0, l)) = some (finL p s q l) := by
  obtain ⟨t, e⟩ := p
  unfold finL
  by_cases he : e = 0
  · subst he
    by_cases hs : t = s
    · subst hs; simp [bindO_pure]
    · have : (t == s) = false := by simpa using hs
      simp [hs, this, bindO_pure]
  · have : (e != 0) = true := by simpa using he
    simp [this, he, bindO_pure]
/-- Places told, without their bytes. -/
def placesOf (s : List UInt8) (n : Nat) : Secl := (List.range n).map fun i => (((num ((s.drop (8 + 2 * i)).take 2) : Nat) : Int), [])
theorem placesOf_succ (s : List UInt8) (n : Nat) : placesOf s (n + 1) = placesOf s n ++ [(((num ((s.drop (8 + 2 * n)).take 2) : Nat) : Int), [])] := by
  unfold placesOf
  rw [List.range_succ, List.map_append]; rfl
def mixOf (s : List UInt8) (n j : Nat) : Secl := (List.range n).map fun i => (((num ((s.drop (8 + 2 * i)).take 2) : Nat) : Int), if i < j then (s.drop (64 + 64 * i)).take 64 else [])
theorem mixOf_zero (s : List UInt8) (n : Nat) : mixOf s n 0 = placesOf s n := by simp [mixOf, placesOf]
theorem mixOf_all (s : List UInt8) (n : Nat) : mixOf s n n = secsOf s n := by
  unfold mixOf secsOf
  apply List.map_congr_left
  intro i hi
  rw [if_pos (List.mem_range.1 hi)]
theorem mixOf_set (s : List UInt8) (n j : Nat) (hj : j < n) : (mixOf s n j).set j (((num ((s.drop (8 + 2 * j)).take 2) : Nat) : Int), (s.drop (64 + 64 * j)).take 64) = mixOf s n (j + 1) := by
  apply List.ext_getElem?
  intro i
  rw [List.getElem?_set]
  unfold mixOf
  simp only [List.getElem?_map, List.length_map, List.length_range]
  by_cases e : j = i
  · subst e
    rw [if_pos rfl, if_pos hj, List.getElem?_range hj]
    simp
  · rw [if_neg e]
    by_cases hi : i < n
    · rw [List.getElem?_range hi]
      simp only [Option.map_some]
      by_cases h : i < j
      · rw [if_pos h, if_pos (by omega)]
      · rw [if_neg h, if_neg (by omega)]
    · rw [List.getElem?_eq_none (by simpa using hi)]; rfl
theorem mixOf_get (s : List UInt8) (n j i : Nat) (hi : i < n) : (mixOf s n j)[i]? = some (((num ((s.drop (8 + 2 * i)).take 2) : Nat) : Int), if i < j then (s.drop (64 + 64 * i)).take 64 else []) := by
  unfold mixOf
  rw [List.getElem?_map, List.getElem?_range hi]; rfl

theorem places_loop (s : List UInt8) (n : Nat) (hl : s.length ≤ 3000) (hn : 8 + 2 * n ≤ s.length) (q : Int) (m : Int) : loopD (stepDlogrec_Get_n2 (s, m, q, (n : Int))) FUEL (0, s.drop 8, 0, []) = some (s.drop (8 + 2 * n), 0, placesOf s n) := by
  have key : ∃ y, loopD (stepDlogrec_Get_n2 (s, m, q, (n : Int))) FUEL (((0 : Nat) : Int), s.drop (8 + 2 * 0), 0, placesOf s 0) = some y ∧ y = (s.drop (8 + 2 * n), 0, placesOf s n) := by
    refine loopD_inv (fun j v => j ≤ n ∧ v = ((j : Int), s.drop (8 + 2 * j), 0, placesOf s j)) n _ ?_ ⟨by omega, rfl⟩ (by omega)
    rintro j v ⟨hj, rfl⟩
    by_cases hlt : j < n
    · left
      have n2 := Reader_Num_eq 2 (s.drop (8 + 2 * j)) (by omega) (by rw [List.length_drop]; omega) (by rw [List.length_drop]; omega)
      simp only [Int.cast_ofNat_Int, List.drop_drop] at n2
      refine ⟨_, ?_, hlt, hlt, rfl⟩
      have hpl : (placesOf s j).length = j := by simp [placesOf]
      simp only [stepDlogrec_Get_n2, steplogrec_Get_n2, dec_true (show (j : Int) < (n : Int) by omega), cond_true, n2, bindO_pure, unP, hpl, List.length_singleton, ble_true (show (j + 1) * 24 ≤ 140737488355328 by omega), wrap64_nat (show j < 9223372036854775807 by omega), placesOf_succ,
        show 8 + 2 * (j + 1) = 8 + 2 * j + 2 by omega]
    · right
      obtain rfl : j = n := by omega
      simp only [stepDlogrec_Get_n2, steplogrec_Get_n2, dec_false (show ¬ (j : Int) < (j : Int) by omega), cond_false]
      exact ⟨_, rfl, rfl⟩
  obtain ⟨y, hy, rfl⟩ := key
  exact hy
theorem data_loop (s : List UInt8) (n : Nat) (hl : s.length ≤ 3000) (hn : s.length = 64 * (n + 1)) (q : Int) : loopD (stepDlogrec_Get_n3 (s, q, s.drop 64, ((placesOf s n).length : Int))) FUEL (0, placesOf s n) = some (secsOf s n) := by
  have hpl : (placesOf s n).length = n := by simp [placesOf]
  rw [hpl]
  have key : ∃ y, loopD (stepDlogrec_Get_n3 (s, q, s.drop 64, (n : Int))) FUEL (((0 : Nat) : Int), mixOf s n 0) = some y ∧ y = secsOf s n := by
    refine loopD_inv (fun j v => j ≤ n ∧ v = ((j : Int), mixOf s n j)) n _ ?_ ⟨by omega, rfl⟩ (by omega)
    rintro j v ⟨hj, rfl⟩
    by_cases hlt : j < n
    · left
      have hml : (mixOf s n j).length = n := by simp [mixOf]
      have w1 : IntKind.wrap .i64 ((j : Int) * 64) = ((64 * j : Nat) : Int) := by rw [wrap64 (by omega) (by omega)]; omega
      have hdl : (s.drop 64).length = s.length - 64 := by simp
      have r1 : inR ((64 * j : Nat) : Int) ((s.drop 64).length + 1) = true := inR_true ⟨by omega, by omega⟩
      have r2 : inR 64 ((List.drop (64 + 64 * j) s).length + 1) = true := inR_true ⟨by omega, by rw [List.length_drop]; omega⟩
      have r3 : inR (j : Int) (mixOf s n j).length = true := inR_true ⟨by omega, by rw [hml]; omega⟩
      refine ⟨_, ?_, hlt, hlt, rfl⟩
      simp only [stepDlogrec_Get_n3, steplogrec_Get_n3, dec_true (show (j : Int) < (n : Int) by omega), cond_true, w1, r1, Int.toNat_natCast, r2, r3, mixOf_get s n j j hlt, bindO_pure, wrap64_nat (show j < 9223372036854775807 by omega), List.drop_drop, mixOf_set s n j hlt]
    · right
      obtain rfl : j = n := by omega
      simp only [stepDlogrec_Get_n3, steplogrec_Get_n3, dec_false (show ¬ (j : Int) < (j : Int) by omega), cond_false]
      exact ⟨_, rfl, mixOf_all s j⟩
  obtain ⟨y, hy, rfl⟩ := key
  rw [mixOf_zero] at hy
  exact hy
theorem lget_eq (s : List UInt8) (hl : s.length ≤ 3000) : fnDlogrec_Get s = some (getM s) := by
  have e1 : Int.tdiv (s.length : Int) 64 = ((s.length / 64 : Nat) : Int) := rfl
  have e2 : IntKind.wrap .i64 ((s.length / 64 : Nat) : Int) = ((s.length / 64 : Nat) : Int) := wrap64 (by omega) (by omega)
  have em : Int.tmod (s.length : Int) 64 = ((s.length % 64 : Nat) : Int) := rfl
  simp only [fnDlogrec_Get, fnlogrec_Get, e1, e2, nodeDlogrec_Get_n0, nodelogrec_Get_n0, em]
  unfold getM
  by_cases h0 : s.length = 0 ∨ s.length % 64 ≠ 0
  · rw [if_pos h0]
    by_cases h1 : s.length / 64 = 0
    · rw [h1, show IntKind.wrap .i64 (((0 : Nat) : Int) - 1) = -1 by kernel_rfl]; rfl
    · have e3 : IntKind.wrap .i64 (((s.length / 64 : Nat) : Int) - 1) = ((s.length / 64 - 1 : Nat) : Int) := by rw [wrap64 (by omega) (by omega)]; omega
      have e4 : (((s.length % 64 : Nat) : Int) != 0) = true := by rw [bne_iff_ne]; omega
      rw [e3, dec_false (by omega), e4]; rfl
  · rw [if_neg h0]
    have h64 : 64 ≤ s.length := by omega
    have hn : s.length = 64 * (s.length / 64 - 1 + 1) := by omega
    generalize hq : s.length / 64 - 1 = n at hn
    have e3 : IntKind.wrap .i64 (((s.length / 64 : Nat) : Int) - 1) = (n : Int) := by rw [wrap64 (by omega) (by omega)]; omega
    have e4 : (((s.length % 64 : Nat) : Int) != 0) = false := by rw [bne_eq_false_iff_eq]; omega
    rw [e3, dec_false (show ¬ (n : Int) < 0 by omega), e4]
    have b1 := Reader_Bytes_eq 1 s (by omega) (by omega)
    have n1 := Reader_Num_eq 6 (s.drop 1) (by omega) (by rw [List.length_drop]; omega) (by rw [List.length_drop]; omega)
    have n2 := Reader_Num_eq 1 (s.drop 7) (by omega) (by rw [List.length_drop]; omega) (by rw [List.length_drop]; omega)
    simp only [Int.cast_ofNat_Int, List.drop_drop, Nat.reduceAdd] at b1 n1 n2
    simp only [cond_false, bindO_pure, fnDfield_New, fnfield_New, b1, unP, n1, n2, nodeDlogrec_Get_n1, nodelogrec_Get_n1]
    by_cases c1 : s.take 1 = [82]
    · by_cases c2 : manyOf s = n
      · by_cases c3 : n < 1
        · rw [if_pos (.inr (.inr (.inl c3))), c1, show num ((s.drop 7).take 1) = n from c2]
          have : ((n : Int) != (n : Int)) = false := by simp
          rw [this, dec_true (show (n : Int) < 1 by omega)]; rfl
        · by_cases c4 : n > 16
          · rw [if_pos (.inr (.inr (.inr c4))), c1, show num ((s.drop 7).take 1) = n from c2]
            have : ((n : Int) != (n : Int)) = false := by simp
            rw [this, dec_false (show ¬ (n : Int) < 1 by omega), dec_true (show (n : Int) > 16 by omega)]; rfl
          · rw [if_neg (by rintro (h | h | h | h) <;> first | exact h c1 | exact h c2 | omega), c1, show num ((s.drop 7).take 1) = n from c2]
            have : ((n : Int) != (n : Int)) = false := by simp
            have w1 : IntKind.wrap .i64 (2 * (n : Int)) = ((2 * n : Nat) : Int) := by rw [wrap64 (by omega) (by omega)]; omega
            have w2 : IntKind.wrap .i64 (8 + ((2 * n : Nat) : Int)) = ((8 + 2 * n : Nat) : Int) := by rw [wrap64 (by omega) (by omega)]; omega
            have r1 : inR 64 (s.length + 1) = true := inR_true ⟨by omega, by omega⟩
            have r2 : inR ((8 + 2 * n : Nat) : Int) (s.length + 1) = true := inR_true ⟨by omega, by omega⟩
            have b4 := Reader_Bytes_eq 4 (s.drop (8 + 2 * n)) (by rw [List.length_drop]; omega) (by rw [List.length_drop]; omega)
            have hpl : (placesOf s n).length = n := by simp [placesOf]
            simp only [beq_self_eq_true, Bool.not_true, cond_false, this, dec_false (show ¬ (n : Int) < 1 by omega), dec_false (show ¬ (n : Int) > 16 by omega), bindO_pure, places_loop s n hl (by omega), unP, w1, w2, r1, r2, cond_true, Int.toNat_natCast, fnDlogrec_tail, fnlogrec_tail,
              ble_true (show (s.take (8 + 2 * n)).length + (s.drop 64).length ≤ 9223372036854775807 by rw [List.length_take, List.length_drop]; omega), cyclic_Tail_eq (s.take (8 + 2 * n) ++ s.drop 64) (by rw [List.length_append, List.length_take, List.length_drop]; omega), tail_len, b4]
            generalize tail (s.take (8 + 2 * n) ++ s.drop 64) = tl
            by_cases c5 : (s.drop (8 + 2 * n)).take 4 = tl
            · rw [if_neg (by simpa using c5), c5, beq_self_eq_true, Bool.not_true, cond_false, data_loop s n hl hn, bindO_pure]
              have hp := lput_eq (seqOf s) (secsOf s n) (by rw [secsOf_len]; omega)
              have hp' : fnDlogrec_Put (((num ((s.drop 1).take 6) : Nat) : Int), secsOf s n) = some (putR (seqOf s) (secsOf s n)) := hp
              simp only [hp', bindO_pure, unP, nodeDlogrec_Get_n4, nodelogrec_Get_n4]
              exact fin_eqL _ s _ _
            · rw [if_pos c5, beq_false_of_ne c5]; rfl
      · rw [if_pos (.inr (.inl c2)), c1]
        have : (((num ((s.drop 7).take 1) : Nat) : Int) != (n : Int)) = true := by
          rw [bne_iff_ne]
          intro h
          exact c2 (by unfold manyOf; omega)
        rw [this]; rfl
    · rw [if_pos (.inl c1), beq_false_of_ne c1]; rfl

theorem take1 {s : List UInt8} {j : Nat} {c : UInt8} (h : s[j]? = some c) : (s.drop j).take 1 = [c] := by
  obtain ⟨hlt, hx⟩ := List.getElem?_eq_some_iff.1 h
  rw [List.drop_eq_getElem_cons hlt, hx]; rfl
theorem num1 (c : UInt8) : num [c] = c.toNat := by simp [num]
theorem byte_is (c : UInt8) : ((c.toNat : Int) != 82) = false ↔ c = 82 := by
  rw [bne_eq_false_iff_eq]
  constructor
  · intro h
    have : c.toNat = (82 : UInt8).toNat := by
      have : c.toNat = 82 := by omega
      rw [this]; rfl
    exact UInt8.toNat_inj.1 this
  · rintro rfl; rfl
/-! ### Of how many sectors -/
def sizeM (s : List UInt8) (q : Int) : Int × Int := if s.length ≠ 64 then (0, 12) else if s.take 1 ≠ [82] ∨ seqOf s ≠ q ∨ manyOf s < 1 ∨ manyOf s > 16 then (0, 8) else (((manyOf s + 1 : Nat) : Int), 0)
theorem lsize_eq (s : List UInt8) (q : Int) (hl : s.length ≤ 3000) : fnDlogrec_Size (s, q) = some (sizeM s q) := by
  simp only [fnDlogrec_Size, fnlogrec_Size]
  unfold sizeM
  by_cases h : s.length = 64
  · have e1 : ((s.length : Int) != 64) = false := by rw [bne_eq_false_iff_eq]; omega
    rw [if_neg (by simpa using h), e1]
    have b1 := Reader_Bytes_eq 1 s (by omega) (by omega)
    have n1 := Reader_Num_eq 6 (s.drop 1) (by omega) (by rw [List.length_drop]; omega) (by rw [List.length_drop]; omega)
    have n2 := Reader_Num_eq 1 (s.drop 7) (by omega) (by rw [List.length_drop]; omega) (by rw [List.length_drop]; omega)
    simp only [Int.cast_ofNat_Int, List.drop_drop, Nat.reduceAdd] at b1 n1 n2
    simp only [cond_false, bindO_pure, fnDfield_New, fnfield_New, b1, unP, n1, n2, nodeDlogrec_Size_n0, nodelogrec_Size_n0, ibne]
    have hs : ((num ((s.drop 1).take 6) : Nat) : Int) = seqOf s := rfl
    have hm : num ((s.drop 7).take 1) = manyOf s := rfl
    rw [hs, hm]
    by_cases c1 : s.take 1 = [82]
    · by_cases c2 : seqOf s = q
      · by_cases c3 : manyOf s < 1
        · rw [if_pos (.inr (.inr (.inl c3))), c1, dec_true c2, dec_true (show ((manyOf s : Nat) : Int) < 1 by omega)]; rfl
        · by_cases c4 : manyOf s > 16
          · rw [if_pos (.inr (.inr (.inr c4))), c1, dec_true c2, dec_false (show ¬ ((manyOf s : Nat) : Int) < 1 by omega), dec_true (show ((manyOf s : Nat) : Int) > 16 by omega)]; rfl
          · rw [if_neg (by rintro (h | h | h | h) <;> first | exact h c1 | exact h c2 | omega), c1, dec_true c2, dec_false (show ¬ ((manyOf s : Nat) : Int) < 1 by omega), dec_false (show ¬ ((manyOf s : Nat) : Int) > 16 by omega), wrap64_nat (show manyOf s < 9223372036854775807 by omega)]
            rfl
      · rw [if_pos (.inr (.inl c2)), c1, dec_false c2]; rfl
    · rw [if_pos (.inl c1), beq_false_of_ne c1]; rfl
  · have e1 : ((s.length : Int) != 64) = true := by rw [bne_iff_ne]; omega
    rw [if_pos (by simpa using h), e1]; rfl
theorem take7 (s : List UInt8) (q : Int) (h : 7 ≤ s.length) : (s.take 1 = [82] ∧ seqOf s = q) ↔ (0 ≤ q ∧ q < 281474976710656) ∧ s.take 7 = putN [82] q 6 := by
  have hsp : s.take 7 = s.take 1 ++ (s.drop 1).take 6 := by rw [show (7 : Nat) = 1 + 6 from rfl, List.take_add]
  have hl6 : ((s.drop 1).take 6).length = 6 := by rw [List.length_take, List.length_drop]; omega
  constructor
  · rintro ⟨h1, h2⟩
    have hlt := num_lt ((s.drop 1).take 6)
    rw [hl6] at hlt
    have hr : 0 ≤ q ∧ q < 281474976710656 := by rw [← h2]; unfold seqOf; omega
    refine ⟨hr, ?_⟩
    unfold putN
    rw [if_pos (show 0 ≤ q ∧ q < ((256 ^ 6 : Nat) : Int) from ⟨hr.1, by omega⟩), hsp, h1, ← h2]
    unfold seqOf
    rw [Int.toNat_natCast]
    have := be_num ((s.drop 1).take 6)
    rw [hl6] at this
    rw [this]
  · rintro ⟨hr, h1⟩
    unfold putN at h1
    rw [if_pos (show 0 ≤ q ∧ q < ((256 ^ 6 : Nat) : Int) from ⟨hr.1, by omega⟩), hsp] at h1
    have hl1 : (s.take 1).length = ([82] : List UInt8).length := by rw [List.length_take]; simp; omega
    obtain ⟨g1, g2⟩ := List.append_inj h1 hl1
    refine ⟨g1, ?_⟩
    unfold seqOf
    rw [g2, num_be_small (by omega)]
    omega
end Go.Proofs.R4
namespace Go.Proofs.R4
open Go Go.AE Go.Plain
theorem putN_inL (s : List UInt8) {n : Int} {k : Nat} (h : 0 ≤ n ∧ n < ((256 ^ k : Nat) : Int)) : putN s n k = s ++ be k n.toNat := by unfold putN; rw [if_pos h]
abbrev GoodR (q : Int) (l : Secl) : Prop := (0 ≤ q ∧ q < 281474976710656) ∧ chkL l = 0
def placesR (l : Secl) : List UInt8 := l.flatMap fun x => be 2 x.1.toNat
theorem fold_places (l : Secl) : ∀ s : List UInt8, (∀ x ∈ l, 0 ≤ x.1 ∧ x.1 < 1000) → l.foldl (fun s x => putN s x.1 2) s = s ++ placesR l := by
  induction l with
  | nil => intro s _; simp [placesR]
  | cons x r ih =>
    intro s h
    have hx := h x (List.mem_cons_self ..)
    rw [List.foldl_cons, ih _ (fun y hy => h y (List.mem_cons_of_mem _ hy)), putN_inL s (k := 2) (n := x.1) (by omega)]
    simp [placesR]
theorem told_is {q : Int} {l : Secl} (h : GoodR q l) : toldR q l = 82 :: (be 6 q.toNat ++ (be 1 l.length ++ placesR l)) := by
  obtain ⟨g1, g2, g3⟩ := chkL_zero h.2
  unfold toldR
  rw [fold_places l _ (fun x hx => ⟨(g3 x hx).1, (g3 x hx).2.1⟩), putN_inL [82] (k := 6) (n := q) (by omega), putN_inL _ (k := 1) (n := (l.length : Int)) (by omega), Int.toNat_natCast]
  simp
theorem flat_len {α : Type} (f : α → List UInt8) (c : Nat) : ∀ l : List α, (∀ x ∈ l, (f x).length = c) → (l.flatMap f).length = c * l.length
  | [], _ => by simp
  | x :: r, h => by
    rw [List.flatMap_cons, List.length_append, h x (List.mem_cons_self ..), flat_len f c r (fun y hy => h y (List.mem_cons_of_mem _ hy)), List.length_cons, Nat.mul_add]
    omega
theorem flat_chunk {α : Type} (f : α → List UInt8) (c : Nat) : ∀ (l : List α) (i : Nat) (x : α), (∀ x ∈ l, (f x).length = c) → l[i]? = some x → ((l.flatMap f).drop (c * i)).take c = f x
  | [], i, x, _, h => by simp at h
  | y :: r, 0, x, hl, h => by
    simp at h; subst h
    rw [List.flatMap_cons, Nat.mul_zero, List.drop_zero, List.take_append_of_le_length (by rw [hl y (List.mem_cons_self ..)]; exact Nat.le_refl _), List.take_of_length_le (by rw [hl y (List.mem_cons_self ..)]; exact Nat.le_refl _)]
  | y :: r, i + 1, x, hl, h => by
    have hy := hl y (List.mem_cons_self ..)
    rw [List.flatMap_cons, List.drop_append, List.drop_eq_nil_of_le (by rw [hy, Nat.mul_add]; omega), List.nil_append, hy, show c * (i + 1) - c = c * i by rw [Nat.mul_add]; omega]
    exact flat_chunk f c r i x (fun y hy => hl y (List.mem_cons_of_mem _ hy)) (by simpa using h)
theorem placesR_len (l : Secl) : (placesR l).length = 2 * l.length := flat_len _ 2 l fun x _ => be_length 2 _
theorem toldR_is_len {q : Int} {l : Secl} (h : GoodR q l) : (toldR q l).length = 8 + 2 * l.length := by
  rw [told_is h]
  simp only [List.length_cons, List.length_append, be_length, placesR_len]
  omega
/-- A record's parts. -/
theorem rec_parts {q : Int} {l : Secl} (h : GoodR q l) : recR q l = toldR q l ++ (tail (toldR q l ++ allR l) ++ (List.replicate (52 - 2 * l.length) 0 ++ allR l)) := by
  obtain ⟨g1, g2, g3⟩ := chkL_zero h.2
  unfold recR padTo
  have : (toldR q l ++ tail (toldR q l ++ allR l)).length = 12 + 2 * l.length := by rw [List.length_append, tail_len, toldR_is_len h]; omega
  rw [this, show (64 - (12 + 2 * l.length) % 64) % 64 = 52 - 2 * l.length by omega]
  simp
theorem allR_is_len {q : Int} {l : Secl} (h : GoodR q l) : (allR l).length = 64 * l.length := allR_len fun x hx => ((chkL_zero h.2).2.2 x hx).2.2
theorem rec_len {q : Int} {l : Secl} (h : GoodR q l) : (recR q l).length = 64 * (l.length + 1) := by
  obtain ⟨g1, g2, g3⟩ := chkL_zero h.2
  rw [rec_parts h]
  simp only [List.length_append, toldR_is_len h, tail_len, List.length_replicate, allR_is_len h]
  omega
theorem rec_told {q : Int} {l : Secl} (h : GoodR q l) (i k : Nat) (hik : i + k ≤ 8 + 2 * l.length) : ((recR q l).drop i).take k = ((toldR q l).drop i).take k := by
  have := toldR_is_len h
  rw [rec_parts h, List.drop_append_of_le_length (by omega), List.take_append_of_le_length (by rw [List.length_drop]; omega)]
theorem rec_take_told {q : Int} {l : Secl} (h : GoodR q l) : (recR q l).take (8 + 2 * l.length) = toldR q l := by
  have h1 := toldR_is_len h
  rw [rec_parts h, List.take_append_of_le_length (by omega), List.take_of_length_le (by omega)]
theorem rec_drop_told {q : Int} {l : Secl} (h : GoodR q l) : (recR q l).drop (8 + 2 * l.length) = tail (toldR q l ++ allR l) ++ (List.replicate (52 - 2 * l.length) 0 ++ allR l) := by
  have h1 := toldR_is_len h
  rw [rec_parts h, List.drop_append, List.drop_eq_nil_of_le (by omega), List.nil_append, h1, Nat.sub_self, List.drop_zero]
theorem rec_sum {q : Int} {l : Secl} (h : GoodR q l) : ((recR q l).drop (8 + 2 * l.length)).take 4 = tail (toldR q l ++ allR l) := by
  rw [rec_drop_told h, List.take_append_of_le_length (by rw [tail_len]; omega), List.take_of_length_le (by rw [tail_len]; omega)]
theorem rec_all {q : Int} {l : Secl} (h : GoodR q l) : (recR q l).drop 64 = allR l := by
  obtain ⟨g1, g2, g3⟩ := chkL_zero h.2
  have h1 := toldR_is_len h
  have : (recR q l).drop 64 = ((recR q l).drop (8 + 2 * l.length)).drop (56 - 2 * l.length) := by rw [List.drop_drop]; congr 1; omega
  rw [this, rec_drop_told h, ← List.append_assoc, List.drop_append, List.drop_eq_nil_of_le (by simp only [List.length_append, tail_len, List.length_replicate]; omega), List.nil_append]
  simp only [List.length_append, tail_len, List.length_replicate]
  rw [show 56 - 2 * l.length - (4 + (52 - 2 * l.length)) = 0 by omega, List.drop_zero]
theorem drop_cons_app (a : UInt8) (x y : List UInt8) (n : Nat) (h : x.length = n) : (a :: (x ++ y)).drop (n + 1) = y := by
  rw [List.drop_succ_cons, List.drop_append, List.drop_eq_nil_of_le (by omega), List.nil_append, h, Nat.sub_self, List.drop_zero]
theorem rec_get {q : Int} {l : Secl} (h : GoodR q l) : getM (recR q l) = (q, 0, l) ∧ seqOf (recR q l) = q ∧ manyOf (recR q l) = l.length ∧ (recR q l).take 1 = [82] := by
  obtain ⟨g1, g2, g3⟩ := chkL_zero h.2
  have hlen := rec_len h
  have hn : (recR q l).length / 64 - 1 = l.length := by omega
  have ht := told_is h
  have p0 : (recR q l).take 1 = [82] := by
    have := rec_told h 0 1 (by omega)
    rw [List.drop_zero, List.drop_zero] at this
    rw [this, ht]; rfl
  have p1 : seqOf (recR q l) = q := by
    unfold seqOf
    rw [rec_told h 1 6 (by omega), ht, List.drop_succ_cons, List.drop_zero, List.take_append_of_le_length (by rw [be_length]; omega), List.take_of_length_le (by rw [be_length]; omega), num_be_small (by omega)]
    omega
  have p2 : manyOf (recR q l) = l.length := by
    unfold manyOf
    rw [rec_told h 7 1 (by omega), ht, drop_cons_app 82 _ _ 6 (be_length 6 _), List.take_append_of_le_length (by rw [be_length]; omega), List.take_of_length_le (by rw [be_length]; omega), num_be_small (by omega)]
  have p3 : secsOf (recR q l) l.length = l := by
    apply List.ext_getElem?
    intro i
    unfold secsOf
    rw [List.getElem?_map]
    by_cases hi : i < l.length
    · rw [List.getElem?_range hi]
      have hx : l[i]? = some l[i] := List.getElem?_eq_getElem hi
      generalize l[i] = x at hx
      have gx := g3 x (List.mem_of_getElem? hx)
      have a1 : ((recR q l).drop (8 + 2 * i)).take 2 = be 2 x.1.toNat := by
        rw [rec_told h _ 2 (by omega), ht]
        have : (82 :: (be 6 q.toNat ++ (be 1 l.length ++ placesR l))).drop (8 + 2 * i) = (placesR l).drop (2 * i) := by
          rw [← List.drop_drop]
          have e8 : (82 :: (be 6 q.toNat ++ (be 1 l.length ++ placesR l))).drop 8 = placesR l := by
            rw [← List.append_assoc]
            exact drop_cons_app 82 _ _ 7 (by rw [List.length_append, be_length, be_length])
          rw [e8]
        rw [this]
        exact flat_chunk _ 2 l i x (fun y _ => be_length 2 _) hx
      have a2 : ((recR q l).drop (64 + 64 * i)).take 64 = x.2 := by
        rw [← List.drop_drop, rec_all h]
        exact flat_chunk _ 64 l i x (fun y hy => (g3 y hy).2.2) hx
      rw [hx]
      simp only [Option.map_some, a1, a2]
      rw [num_be_small (by omega)]
      congr 2
      omega
    · rw [List.getElem?_eq_none (by simpa using hi), List.getElem?_eq_none (by omega)]; rfl
  have p4 : putR q l = (recR q l, 0) := by
    unfold putR
    rw [if_neg (by have := h.1; omega), if_neg (by simpa using h.2)]
  refine ⟨?_, p1, p2, p0⟩
  unfold getM
  rw [hn, if_neg (by omega), if_neg (by rintro (x | x | x | x) <;> first | exact x p0 | exact x p2 | omega), if_neg (fun x => x (by rw [rec_sum h, rec_take_told h, rec_all h])), p1, p3, p4]
  unfold finL
  rw [if_pos rfl]
theorem get_ok {t : List UInt8} (h : (getM t).2.1 = 0) : ∃ q l, GoodR q l ∧ t = recR q l := by
  unfold getM at h
  split at h
  · simp at h
  · split at h
    · simp at h
    · split at h
      · simp at h
      · unfold finL at h
        split at h
        · rename_i hp
          generalize seqOf t = q at hp
          generalize secsOf t (t.length / 64 - 1) = l at hp
          unfold putR at hp
          split at hp
          · have := congrArg Prod.snd hp
            simp at this
          · split at hp
            · rename_i hc
              have := congrArg Prod.snd hp
              exact absurd this hc
            · rename_i hq hc
              exact ⟨q, l, ⟨by omega, by simpa using hc⟩, (congrArg Prod.fst hp).symm⟩
        · simp at h
theorem whole_tail (m : List UInt8) : Whole (m ++ tail m) := ⟨m, rfl⟩
theorem get_app_left {α : Type} {a b : List α} {i : Nat} (h : i < a.length) : (a ++ b)[i]? = a[i]? := List.getElem?_append_left h
theorem get_app_right {α : Type} {a b : List α} {i : Nat} (h : a.length ≤ i) : (a ++ b)[i]? = b[i - a.length]? := List.getElem?_append_right h
theorem rec_turned {q q' : Int} {l l' : Secl} (h : GoodR q l) (h' : GoodR q' l') {k : Nat} (ht : Turned k (recR q l) (recR q' l')) (hk : ¬ (k < 8 + 2 * l.length ∧ 8 + 2 * l.length < k + 4)) : recR q' l' = recR q l := by
  obtain ⟨g1, g2, g3⟩ := chkL_zero h.2
  obtain ⟨g1', g2', g3'⟩ := chkL_zero h'.2
  have hl := rec_len h
  have hl' := rec_len h'
  have hll : l'.length = l.length := by have := ht.len; omega
  have t1 := toldR_is_len h
  have t1' := toldR_is_len h'
  have a1 := allR_is_len h
  have a1' := allR_is_len h'
  have e1 := rec_parts h
  have e1' := rec_parts h'
  rw [hll] at t1' a1' e1'
  -- the parts, by place
  have pt : ∀ i, i < 8 + 2 * l.length → (recR q l)[i]? = (toldR q l)[i]? ∧ (recR q' l')[i]? = (toldR q' l')[i]? := fun i hi => by
    rw [e1, e1', get_app_left (by omega), get_app_left (by omega)]; exact ⟨rfl, rfl⟩
  have d1 := rec_drop_told h
  have d1' := rec_drop_told h'
  rw [hll] at d1'
  have ps : ∀ i, i < 4 → (recR q l)[8 + 2 * l.length + i]? = (tail (toldR q l ++ allR l))[i]? ∧ (recR q' l')[8 + 2 * l.length + i]? = (tail (toldR q' l' ++ allR l'))[i]? := fun i hi => by
    refine ⟨?_, ?_⟩
    · rw [← List.getElem?_drop, d1, get_app_left (by rw [tail_len]; omega)]
    · rw [← List.getElem?_drop, d1', get_app_left (by rw [tail_len]; omega)]
  have pa : ∀ i, (recR q l)[64 + i]? = (allR l)[i]? ∧ (recR q' l')[64 + i]? = (allR l')[i]? := fun i => by
    rw [← rec_all h, ← rec_all h', List.getElem?_drop, List.getElem?_drop]; exact ⟨rfl, rfl⟩
  have told_eq : (∀ i, i < 8 + 2 * l.length → i < k ∨ k + 4 ≤ i) → toldR q' l' = toldR q l := fun hi => by
    apply List.ext_getElem?
    intro i
    by_cases hi' : i < 8 + 2 * l.length
    · rw [← (pt i hi').1, ← (pt i hi').2]
      exact ht.out i (hi i hi')
    · rw [List.getElem?_eq_none (by omega), List.getElem?_eq_none (by omega)]
  have tail_eq : (∀ i, i < 4 → 8 + 2 * l.length + i < k ∨ k + 4 ≤ 8 + 2 * l.length + i) → tail (toldR q' l' ++ allR l') = tail (toldR q l ++ allR l) := fun hi => by
    apply List.ext_getElem?
    intro i
    by_cases hi' : i < 4
    · rw [← (ps i hi').1, ← (ps i hi').2]
      exact ht.out _ (hi i hi')
    · rw [List.getElem?_eq_none (by rw [tail_len]; omega), List.getElem?_eq_none (by rw [tail_len]; omega)]
  have all_eq : (∀ i, i < 64 * l.length → 64 + i < k ∨ k + 4 ≤ 64 + i) → allR l' = allR l := fun hi => by
    apply List.ext_getElem?
    intro i
    by_cases hi' : i < 64 * l.length
    · rw [← (pa i).1, ← (pa i).2]
      exact ht.out _ (hi i hi')
    · rw [List.getElem?_eq_none (by omega), List.getElem?_eq_none (by omega)]
  have fin : toldR q' l' = toldR q l → allR l' = allR l → recR q' l' = recR q l := fun x y => by rw [e1, e1', x, y]
  by_cases c1 : k + 4 ≤ 8 + 2 * l.length
  · -- ahead of the tail
    have ha := all_eq fun i _ => .inr (by omega)
    have hs := tail_eq fun i _ => .inr (by omega)
    refine fin ?_ ha
    rw [ha] at hs
    have := burst_at (s := (toldR q' l' ++ allR l) ++ tail (toldR q' l' ++ allR l)) (t := (toldR q l ++ allR l) ++ tail (toldR q l ++ allR l)) k (by simp only [List.length_append, tail_len]; omega) (by simp only [List.length_append, tail_len]; omega) (whole_tail _) (whole_tail _) (fun i hi => by
      rw [hs, List.append_assoc, List.append_assoc]
      by_cases hi' : i < 8 + 2 * l.length
      · rw [get_app_left (by omega), get_app_left (by omega), ← (pt i hi').1, ← (pt i hi').2]
        exact ht.out i hi
      · rw [get_app_right (a := toldR q' l') (by omega), get_app_right (a := toldR q l) (by omega), t1, t1'])
    rw [List.append_assoc, List.append_assoc] at this
    exact (List.append_inj this (by omega)).1
  · by_cases c2 : k < 8 + 2 * l.length + 4
    · -- in the tail
      have hk1 : 8 + 2 * l.length ≤ k := by omega
      exact fin (told_eq fun i hi => .inl (by omega)) (all_eq fun i _ => .inr (by omega))
    · -- behind it
      have hto := told_eq fun i hi => .inl (by omega)
      have hs := tail_eq fun i hi => .inl (by omega)
      refine fin hto ?_
      rw [hto] at hs
      by_cases c3 : k + 4 ≤ 64
      · exact all_eq fun i _ => .inr (by omega)
      · have := burst_at (s := (toldR q l ++ allR l') ++ tail (toldR q l ++ allR l')) (t := (toldR q l ++ allR l) ++ tail (toldR q l ++ allR l)) (k + (8 + 2 * l.length) - 64) (by simp only [List.length_append, tail_len]; omega) (by simp only [List.length_append, tail_len]; omega) (whole_tail _) (whole_tail _) (fun i hi => by
          rw [hs]
          by_cases hi1 : i < 8 + 2 * l.length + 64 * l.length
          · rw [get_app_left (a := toldR q l ++ allR l') (by rw [List.length_append]; omega), get_app_left (a := toldR q l ++ allR l) (by rw [List.length_append]; omega)]
            by_cases hi2 : i < 8 + 2 * l.length
            · rw [get_app_left (by omega), get_app_left (by omega)]
            · rw [get_app_right (by omega), get_app_right (by omega), t1, ← (pa _).1, ← (pa _).2]
              exact ht.out _ (by omega)
          · rw [get_app_right (a := toldR q l ++ allR l') (by rw [List.length_append]; omega), get_app_right (a := toldR q l ++ allR l) (by rw [List.length_append]; omega)]
            simp only [List.length_append, a1, a1'])
        have h2 := (List.append_inj this (by simp only [List.length_append]; omega)).1
        exact (List.append_inj h2 rfl).2

end Go.Proofs.R4
namespace Go.Proofs.R4
open Go Go.AE Go.Plain

theorem rnd {a c m : Nat} (h : a < m) (h' : c ≤ m) : (a + c) % m = if a + c < m then a + c else a + c - m := by
  split
  · exact Nat.mod_eq_of_lt (by assumption)
  · rw [Nat.mod_eq_sub_mod (by omega), Nat.mod_eq_of_lt (by omega)]
theorem rnd_lt {a c m : Nat} (h : 0 < m) : (a + c) % m < m := Nat.mod_lt _ h
theorem rnd_inj {a c d m : Nat} (h : a < m) (hc : c < m) (hd : d < m) : (a + c) % m = (a + d) % m ↔ c = d := by
  rw [rnd h (by omega), rnd h (by omega)]
  constructor
  · intro e; split at e <;> split at e <;> omega
  · intro e; rw [e]
theorem rnd_add (a c d m : Nat) : ((a + c) % m + d) % m = (a + (c + d)) % m := by
  rw [Nat.mod_add_mod, Nat.add_assoc]

theorem lswrap_eq (x m : Nat) (hm : 0 < m) (f o a : Int) (off : Bool) (sure : List (List UInt8)) (seen waits : Secs) (fails : List Int) : fnDlogscan_wrap ((x : Int), f, (m : Int), o, a, off, sure, seen, waits, fails) = some ((x % m : Nat) : Int) := by
  have e : ((m : Int) == 0) = false := by rw [ibeq]; exact dec_false (by omega)
  simp only [fnDlogscan_wrap, fnlogscan_wrap, fnDregion_Region_Many, fnregion_Region_Many, bindO_pure, e, cond_false]
  rfl
theorem lsthere_eq (i f m o a : Int) (off : Bool) (sure : List (List UInt8)) (seen waits : Secs) (fails : List Int) : fnDlogscan_there (i, f, m, o, a, off, sure, seen, waits, fails) = some (if 0 ≤ i ∧ i < m then 0 else 3) := by
  simp only [fnDlogscan_there, fnlogscan_there, fnDregion_Region_Place, fnregion_Region_Place, nodeDregion_Region_Place_n0, noderegion_Region_Place_n0, nodeDregion_Region_Place_n1, noderegion_Region_Place_n1]
  by_cases h : i < 0
  · rw [dec_true h, if_neg (by omega)]; rfl
  · rw [dec_false h]
    by_cases h2 : i ≥ m
    · rw [dec_true h2, if_neg (by omega)]; rfl
    · rw [dec_false h2, if_pos (by omega)]; rfl

/-- A sector of bytes. -/
def chunk (s : List UInt8) (c : Nat) : List UInt8 := (s.drop (64 * c)).take 64
theorem chunk_len (s : List UInt8) (c : Nat) : (chunk s c).length ≤ 64 := by unfold chunk; rw [List.length_take]; omega

theorem set_short {Seen : List (List UInt8)} (h : ∀ x ∈ Seen, x.length ≤ 64) (i : Nat) (s : List UInt8) (c : Nat) : ∀ x ∈ Seen.set i (chunk s c), x.length ≤ 64 := by
  intro x hx
  rcases List.mem_or_eq_of_mem_set hx with h1 | rfl
  · exact h x h1
  · exact chunk_len s c

theorem lsPut1_fine {N k : Nat} {sure : List (List UInt8)} {seen waits : Secs} {Seen : List (List UInt8)} (h : InvD N k sure seen waits [] Seen) (f m a n j : Nat) (s : List UInt8) (o : Nat) (hm : 0 < m) (ha : a < m) (hfm : f + m ≤ N) (hs : s.length = 64 * n) (hn : n ≤ m) (hj : j < n) (hk : k ≤ 100000) (ho : o ≤ 1000000) :
    ∃ seen' waits', fnDlogscan_Put_1 ((j : Int), (a : Int), s, (f : Int), (m : Int), (o : Int), 0, false, sure, seen, waits, []) = some (0, ((o + 1 : Nat) : Int), false, seen', waits') ∧
      InvD N (k + 1) sure seen' waits' [] (Seen.set (f + (a + j) % m) (chunk s j)) := by
  have hsm := h.small
  have hcl : (chunk s j).length = 64 * 1 := by unfold chunk; rw [List.length_take, List.length_drop]; omega
  have hlt := rnd_lt (a := a) (c := j) hm
  obtain ⟨seen', hw, hi⟩ := region_Write_fine h (((a + j) % m : Nat) : Int) (chunk s j) 1 (f : Int) (m : Int) o hcl (by omega) hk ho (by omega) (by omega) ⟨by omega, by omega⟩
  have w1 : IntKind.wrap .i64 ((j : Int) * 64) = ((64 * j : Nat) : Int) := by rw [wrap64 (by omega) (by omega)]; omega
  have w2 : IntKind.wrap .i64 ((a : Int) + (j : Int)) = ((a + j : Nat) : Int) := by rw [wrap64 (by omega) (by omega)]; omega
  have r1 : inR ((64 * j : Nat) : Int) (s.length + 1) = true := inR_true ⟨by omega, by omega⟩
  have r2 : inR 64 ((s.drop (64 * j)).length + 1) = true := inR_true ⟨by omega, by rw [List.length_drop]; omega⟩
  refine ⟨seen', waits ++ secs ((f : Int) + (((a + j) % m : Nat) : Int)) 1 (chunk s j), ?_, ?_⟩
  · simp only [fnDlogscan_Put_1, fnlogscan_Put_1, w1, w2, r1, cond_true, Int.toNat_natCast, r2, lswrap_eq _ m hm, bindO_pure]
    rw [show (s.drop (64 * j)).take 64 = chunk s j from rfl, hw]
    rfl
  · have e : settleM Seen (secs ((f : Int) + (((a + j) % m : Nat) : Int)) 1 (chunk s j)) = Seen.set (f + (a + j) % m) (chunk s j) := by
      have : ((chunk s j).drop (64 * 0)).take 64 = chunk s j := by rw [Nat.mul_zero, List.drop_zero, List.take_of_length_le (by omega)]
      rw [secs_succ, secs_zero, List.nil_append, this]
      show Seen.set _ _ = _
      rw [show ((f : Int) + (((a + j) % m : Nat) : Int) + ((0 : Nat) : Int)).toNat = f + (a + j) % m by omega]
    rw [← e]; exact hi

theorem lsput_fine {N k : Nat} {sure : List (List UInt8)} {seen waits : Secs} {Seen : List (List UInt8)} (h : InvD N k sure seen waits [] Seen) (f m a n : Nat) (s : List UInt8) (o : Nat) (hm : 0 < m) (ha : a < m) (hfm : f + m ≤ N) (hs : s.length = 64 * n) (hn : 1 ≤ n ∧ n ≤ m) (hk : k ≤ 50000) (ho : o ≤ 500000) (h64 : ∀ x ∈ Seen, x.length ≤ 64) :
    ∃ seen' waits' Seen', fnDlogscan_Put ((a : Int), s, (f : Int), (m : Int), (o : Int), 0, false, sure, seen, waits, []) = some (0, ((o + n : Nat) : Int), false, seen', waits') ∧
      InvD N (k + n) sure seen' waits' [] Seen' ∧ (∀ x ∈ Seen', x.length ≤ 64) ∧ ∀ c : Nat, c < m → Seen'[f + (a + c) % m]? = if c < n then some (chunk s c) else Seen[f + (a + c) % m]? := by
  have hsm := h.small
  have hSl : Seen.length = N := by rw [h.seenIs, settleM_length, h.len]
  have w0 : IntKind.wrap .i64 (Int.tdiv (s.length : Int) 64) = (n : Int) := by
    rw [show Int.tdiv (s.length : Int) 64 = ((s.length / 64 : Nat) : Int) from rfl, wrap64 (by omega) (by omega)]; omega
  have w1 : IntKind.wrap .i64 ((n : Int) * 64) = ((64 * n : Nat) : Int) := by rw [wrap64 (by omega) (by omega)]; omega
  have key : ∃ y, loopD (stepDlogscan_Put_n3 ((n : Int), (f : Int), (m : Int), 0, sure, [], (a : Int), s)) FUEL (((0 + 1 : Nat) : Int), ((o + 0 : Nat) : Int), false, seen, waits) = some y ∧
      ∃ seen' waits' Seen', y = .inr (((o + (n - 1) : Nat) : Int), false, seen', waits') ∧ InvD N (k + (n - 1)) sure seen' waits' [] Seen' ∧ (∀ x ∈ Seen', x.length ≤ 64) ∧ ∀ c : Nat, c < m → Seen'[f + (a + c) % m]? = if 1 ≤ c ∧ c < (n - 1) + 1 then some (chunk s c) else Seen[f + (a + c) % m]? := by
    refine loopD_inv (fun j v => j + 1 ≤ n ∧ ∃ seen' waits' Seen', v = (((j + 1 : Nat) : Int), ((o + j : Nat) : Int), false, seen', waits') ∧ InvD N (k + j) sure seen' waits' [] Seen' ∧ (∀ x ∈ Seen', x.length ≤ 64) ∧ ∀ c : Nat, c < m → Seen'[f + (a + c) % m]? = if 1 ≤ c ∧ c < j + 1 then some (chunk s c) else Seen[f + (a + c) % m]?) n _ ?_
      ⟨hn.1, seen, waits, Seen, rfl, h, h64, fun c _ => by rw [if_neg (by omega)]⟩ (by omega)
    rintro j v ⟨hj, seen', waits', Seen', rfl, hi, h6, hc⟩
    by_cases hlt : j + 1 < n
    · left
      obtain ⟨seen2, waits2, hp, hi2⟩ := lsPut1_fine hi f m a n (j + 1) s (o + j) hm ha hfm hs hn.2 hlt (by omega) (by omega)
      have hl2 : Seen'.length = N := by rw [hi.seenIs, settleM_length, hi.len]
      have e0 : ((0 : Int) != 0) = false := rfl
      refine ⟨_, ?_, by omega, by omega, seen2, waits2, _, rfl, hi2, set_short h6 _ _ _, ?_⟩
      · simp only [stepDlogscan_Put_n3, steplogscan_Put_n3, dec_true (show ((j + 1 : Nat) : Int) < (n : Int) by omega), cond_true, hp, bindO_pure, unP, e0, cond_false, wrap64_nat (show j + 1 < 9223372036854775807 by omega), Nat.add_assoc]
      · intro c hcm
        rw [List.getElem?_set]
        have hb := rnd_lt (a := a) (c := j + 1) hm
        by_cases e : c = j + 1
        · subst e
          rw [if_pos rfl, if_pos (by omega), if_pos (by omega)]
        · rw [if_neg (fun he => e ((rnd_inj ha hcm (by omega)).1 (by omega))), hc c hcm]
          by_cases hh : 1 ≤ c ∧ c < j + 1
          · rw [if_pos hh, if_pos (by omega)]
          · rw [if_neg hh, if_neg (by omega)]
    · right
      obtain rfl : n = j + 1 := by omega
      simp only [stepDlogscan_Put_n3, steplogscan_Put_n3, dec_false (show ¬ ((j + 1 : Nat) : Int) < ((j + 1 : Nat) : Int) by omega), cond_false]
      exact ⟨_, rfl, seen', waits', Seen', rfl, hi, h6, hc⟩
  obtain ⟨y, hy, seen', waits', Seen', rfl, hi, h6, hc⟩ := key
  have hy' : loopD (stepDlogscan_Put_n3 ((n : Int), (f : Int), (m : Int), 0, sure, [], (a : Int), s)) FUEL (1, (o : Int), false, seen, waits) = _ := hy
  obtain ⟨seen2, waits2, hp, hi2⟩ := lsPut1_fine hi f m a n 0 s (o + (n - 1)) hm ha hfm hs hn.2 (by omega) (by omega) (by omega)
  have hl2 : Seen'.length = N := by rw [hi.seenIs, settleM_length, hi.len]
  have hp' : fnDlogscan_Put_1 (0, (a : Int), s, (f : Int), (m : Int), ((o + (n - 1) : Nat) : Int), 0, false, sure, seen', waits', []) = _ := hp
  have b1 : ((0 : Int) == 10) = false := rfl
  have b2 : ((n : Int) == 0) = false := by rw [ibeq]; exact dec_false (by omega)
  have b3 : ((s.length : Int) != ((64 * n : Nat) : Int)) = false := by rw [hs, ibne, dec_true rfl]; rfl
  have b4 : ((0 : Int) != 0) = false := rfl
  refine ⟨seen2, waits2, _, ?_, by rw [show k + n = k + (n - 1) + 1 by omega]; exact hi2, set_short h6 _ _ _, ?_⟩
  · simp only [fnDlogscan_Put, fnlogscan_Put, lsthere_eq, if_pos (show (0 : Int) ≤ (a : Int) ∧ (a : Int) < (m : Int) by omega), w0, bindO_pure, nodeDlogscan_Put_n0, nodelogscan_Put_n0, nodeDlogscan_Put_n1, nodelogscan_Put_n1, nodeDlogscan_Put_n2, nodelogscan_Put_n2, fnDregion_Region_Many, fnregion_Region_Many,
      b1, b2, w1, b3, b4, cond_false, dec_false (show ¬ (n : Int) > (m : Int) by omega), Sum.elim_inr, hy', unP, hp']
    rw [show o + (n - 1) + 1 = o + n by omega]
  · intro c hcm
    rw [List.getElem?_set]
    have hb := rnd_lt (a := a) (c := 0) hm
    by_cases e : c = 0
    · subst e
      rw [if_pos rfl, if_pos (by omega), if_pos (by omega)]
    · rw [if_neg (fun he => e ((rnd_inj ha hcm hm).1 (by omega))), hc c hcm]
      by_cases hh : c < n
      · rw [if_pos hh, if_pos (by omega)]
      · rw [if_neg hh, if_neg (by omega)]

theorem lsput_any {N k : Nat} {sure : List (List UInt8)} {seen waits : Secs} {Seen : List (List UInt8)} (h : InvD N k sure seen waits [] Seen) (f m : Nat) (a : Int) (s : List UInt8) (o : Nat) (hm : 0 < m) (hfm : f + m ≤ N) (hs : s.length ≤ 1000000) (hk : k ≤ 50000) (ho : o ≤ 500000) (h64 : ∀ x ∈ Seen, x.length ≤ 64) :
    ∃ e n seen' waits' Seen', fnDlogscan_Put (a, s, (f : Int), (m : Int), (o : Int), 0, false, sure, seen, waits, []) = some (e, ((o + n : Nat) : Int), false, seen', waits') ∧ n ≤ 60 ∧
      InvD N (k + n) sure seen' waits' [] Seen' ∧ ∀ x ∈ Seen', x.length ≤ 64 := by
  have hsm := h.small
  by_cases hg : (0 ≤ a ∧ a < (m : Int)) ∧ s.length % 64 = 0 ∧ 1 ≤ s.length / 64 ∧ s.length / 64 ≤ m
  · obtain ⟨⟨h0, h1⟩, h2, h3, h4⟩ := hg
    obtain ⟨b, rfl⟩ := Int.eq_ofNat_of_zero_le h0
    obtain ⟨seen', waits', Seen', hp, hi, h6, _⟩ := lsput_fine h f m b (s.length / 64) s o hm (by omega) hfm (by omega) ⟨h3, h4⟩ hk ho h64
    exact ⟨_, _, _, _, _, hp, by omega, hi, h6⟩
  · have w0 : IntKind.wrap .i64 (Int.tdiv (s.length : Int) 64) = ((s.length / 64 : Nat) : Int) := by
      rw [show Int.tdiv (s.length : Int) 64 = ((s.length / 64 : Nat) : Int) from rfl, wrap64 (by omega) (by omega)]
    have w1 : IntKind.wrap .i64 (((s.length / 64 : Nat) : Int) * 64) = ((64 * (s.length / 64) : Nat) : Int) := by rw [wrap64 (by omega) (by omega)]; omega
    have nt : ∀ t : Int, (t = 0 ↔ 0 ≤ a ∧ a < (m : Int)) → t ≠ 10 → ∃ e, nodeDlogscan_Put_n0 (((s.length / 64 : Nat) : Int), t, (f : Int), (m : Int), (o : Int), 0, false, sure, seen, waits, [], a, s) = some (.inl e) := by
      intro t ht h10
      have b1 : (t == 10) = false := by rw [ibeq]; exact dec_false h10
      simp only [nodeDlogscan_Put_n0, nodelogscan_Put_n0, nodeDlogscan_Put_n1, nodelogscan_Put_n1, nodeDlogscan_Put_n2, nodelogscan_Put_n2, fnDregion_Region_Many, fnregion_Region_Many, b1, cond_false, w1, ibeq, ibne]
      by_cases c1 : ((s.length / 64 : Nat) : Int) = 0
      · rw [dec_true c1]; exact ⟨_, rfl⟩
      · rw [dec_false c1]
        by_cases c2 : (s.length : Int) = ((64 * (s.length / 64) : Nat) : Int)
        · rw [dec_true c2]
          by_cases c3 : t = 0
          · rw [dec_true c3]
            have := ht.1 c3
            rw [dec_true (show ((s.length / 64 : Nat) : Int) > (m : Int) from by
              apply Classical.byContradiction; intro hgt
              exact hg ⟨this, by omega, by omega, by omega⟩)]
            exact ⟨_, rfl⟩
          · rw [dec_false c3]; exact ⟨_, rfl⟩
        · rw [dec_false c2]; exact ⟨_, rfl⟩
    obtain ⟨e, he⟩ := nt (if 0 ≤ a ∧ a < (m : Int) then 0 else 3) (by split <;> simp_all) (by split <;> omega)
    refine ⟨e, 0, seen, waits, Seen, ?_, by omega, h, h64⟩
    simp only [fnDlogscan_Put, fnlogscan_Put, lsthere_eq, bindO_pure, w0, he, Sum.elim_inl]
    rfl

/-- What is read of a log, round. -/
def rjoin (Seen : List (List UInt8)) (f m a n : Nat) : List UInt8 := (List.range n).flatMap fun k => (Seen[f + (a + k) % m]?).getD []
theorem rjoin_succ (Seen : List (List UInt8)) (f m a n : Nat) : rjoin Seen f m a (n + 1) = rjoin Seen f m a n ++ (Seen[f + (a + n) % m]?).getD [] := by
  unfold rjoin
  rw [List.range_succ, List.flatMap_append]; simp
theorem rjoin_add (Seen : List (List UInt8)) (f m a n : Nat) : ∀ k : Nat, rjoin Seen f m a n ++ rjoin Seen f m (a + n) k = rjoin Seen f m a (n + k)
  | 0 => by simp [rjoin]
  | k + 1 => by rw [rjoin_succ, ← List.append_assoc, rjoin_add Seen f m a n k, ← Nat.add_assoc, rjoin_succ, Nat.add_assoc]
theorem getD_short {Seen : List (List UInt8)} (h : ∀ x ∈ Seen, x.length ≤ 64) (i : Nat) : ((Seen[i]?).getD []).length ≤ 64 := by
  cases hx : Seen[i]? with
  | none => simp
  | some x => exact h x (List.mem_of_getElem? hx)
theorem rjoin_short {Seen : List (List UInt8)} (h : ∀ x ∈ Seen, x.length ≤ 64) (f m a : Nat) : ∀ n : Nat, (rjoin Seen f m a n).length ≤ 64 * n
  | 0 => by simp [rjoin]
  | n + 1 => by
    rw [rjoin_succ, List.length_append]
    have := rjoin_short h f m a n
    have := getD_short h (f + (a + n) % m)
    omega

theorem lsread_fine {N k : Nat} {sure : List (List UInt8)} {seen waits : Secs} {Seen : List (List UInt8)} (h : InvD N k sure seen waits [] Seen) (h64 : ∀ x ∈ Seen, x.length ≤ 64) (f m a n : Nat) (o : Nat) (hm : 0 < m) (hfm : f + m ≤ N) (ha : a ≤ 10000) (hn : n ≤ 10000) (ho : o ≤ 900000)
    (x1 x2 x3 : Int) (x5 : Bool) (most : Int) (l : List (Int × Int × Secl)) :
    fnDlogscan_scan_read_2 ((a : Int), (n : Int), x1, x2, x3, x5, (f : Int), (m : Int), most, (o : Int), 0, false, l, sure, seen, waits, []) = some (rjoin Seen f m a n, 0, ((o + n : Nat) : Int), false) := by
  have hsm := h.small
  have key : ∃ y, loopD (stepDlogscan_scan_read_2_n0 ((a : Int), (n : Int), x1, x2, x3, x5, (f : Int), (m : Int), most, 0, l, sure, seen, waits, [])) FUEL (rjoin Seen f m a 0, ((0 : Nat) : Int), ((o + 0 : Nat) : Int), false) = some y ∧
      y = .inr (rjoin Seen f m a n, ((o + n : Nat) : Int), false) := by
    refine loopD_inv (fun j v => j ≤ n ∧ v = (rjoin Seen f m a j, (j : Int), ((o + j : Nat) : Int), false)) n _ ?_ ⟨by omega, rfl⟩ (by omega)
    rintro j v ⟨hj, rfl⟩
    by_cases hlt : j < n
    · left
      have hb := rnd_lt (a := a) (c := j) hm
      have hr := region_Read_fine h h64 (((a + j) % m : Nat) : Int) 1 (f : Int) (m : Int) (o + j) (by omega) (by omega) (by omega) (by omega) ⟨by omega, by omega⟩
      have ej : joined Seen ((f : Int) + (((a + j) % m : Nat) : Int)) 1 = (Seen[f + (a + j) % m]?).getD [] := by
        rw [joined_succ]
        rw [show ((f : Int) + (((a + j) % m : Nat) : Int) + ((0 : Nat) : Int)).toNat = f + (a + j) % m by omega]
        rfl
      rw [ej] at hr
      have hr' : fnDregion_Region_Read ((((a + j) % m : Nat) : Int), 1, (f : Int), (m : Int), ((o + j : Nat) : Int), 0, false, sure, seen, waits, []) = _ := hr
      have w1 : IntKind.wrap .i64 ((a : Int) + (j : Int)) = ((a + j : Nat) : Int) := by rw [wrap64 (by omega) (by omega)]; omega
      have e0 : ((0 : Int) != 0) = false := rfl
      have := rjoin_short h64 f m a j
      have := getD_short h64 (f + (a + j) % m)
      refine ⟨_, ?_, hlt, hlt, rfl⟩
      simp only [stepDlogscan_scan_read_2_n0, steplogscan_scan_read_2_n0, dec_true (show (j : Int) < (n : Int) by omega), cond_true, w1, lswrap_eq _ m hm, bindO_pure, hr', unP, e0, cond_false,
        ble_true (show (rjoin Seen f m a j).length + ((Seen[f + (a + j) % m]?).getD []).length ≤ 9223372036854775807 by omega), wrap64_nat (show j < 9223372036854775807 by omega), rjoin_succ, Nat.add_assoc]
    · right
      obtain rfl : j = n := by omega
      simp only [stepDlogscan_scan_read_2_n0, steplogscan_scan_read_2_n0, dec_false (show ¬ (j : Int) < (j : Int) by omega), cond_false]
      exact ⟨_, rfl, rfl⟩
  obtain ⟨y, hy, rfl⟩ := key
  have hy' : loopD (stepDlogscan_scan_read_2_n0 ((a : Int), (n : Int), x1, x2, x3, x5, (f : Int), (m : Int), most, 0, l, sure, seen, waits, [])) FUEL ([], 0, (o : Int), false) = _ := hy
  simp only [fnDlogscan_scan_read_2, fnlogscan_scan_read_2, hy', bindO_pure, Sum.elim_inr, unP]

theorem sizeM_ok {s : List UInt8} {q : Int} (h : (sizeM s q).2 = 0) : ∃ n : Nat, 2 ≤ n ∧ n ≤ 17 ∧ sizeM s q = ((n : Int), 0) := by
  revert h
  unfold sizeM
  split
  · intro h; cases h
  · split
    · intro h; cases h
    · rename_i h1
      intro _
      exact ⟨manyOf s + 1, by omega, by omega, rfl⟩

theorem seqOf_take (s : List UInt8) : seqOf (s.take 64) = seqOf s := by
  unfold seqOf
  rw [List.drop_take, List.take_take, show min 6 (64 - 1) = 6 from rfl]
theorem manyOf_take (s : List UInt8) : manyOf (s.take 64) = manyOf s := by
  unfold manyOf
  rw [List.drop_take, List.take_take, show min 1 (64 - 7) = 1 from rfl]
/-- One record, told or not. -/
theorem lsnext {N k : Nat} {sure : List (List UInt8)} {seen waits : Secs} {Seen : List (List UInt8)} (h : InvD N k sure seen waits [] Seen) (h64 : ∀ x ∈ Seen, x.length ≤ 64) (f m a u : Nat) (q : Int) (l : List (Int × Int × Secl)) (o : Nat) (hm : 0 < m) (hfm : f + m ≤ N) (ha : a < m) (hu : u < m) (hq : 0 ≤ q ∧ q ≤ 1000000000000000) (hl : l.length ≤ 100) (ho : o ≤ 800000) :
    (∃ o' : Nat, o' ≤ o + 17 ∧ fnDlogscan_scan_next_2 ((a : Int), q, (u : Int), false, (f : Int), (m : Int), 1000, (o : Int), 0, false, l, sure, seen, waits, []) = some (0, (a : Int), q, (u : Int), true, (o' : Int), false, l) ∧
      ∀ x, GoodR q x → rjoin Seen f m a (x.length + 1) = recR q x → x.length + 1 ≤ m - u → False) ∨
    (∃ (z : Nat) (x : Secl), 2 ≤ z ∧ z ≤ 17 ∧ u + z ≤ m ∧ fnDlogscan_scan_next_2 ((a : Int), q, (u : Int), false, (f : Int), (m : Int), 1000, (o : Int), 0, false, l, sure, seen, waits, []) = some (0, (((a + z) % m : Nat) : Int), q + 1, ((u + z : Nat) : Int), decide (u + z = m), ((o + z : Nat) : Int), false, l ++ [(q, (a : Int), x)]) ∧
      ∀ y, GoodR q y → rjoin Seen f m a (y.length + 1) = recR q y → y.length + 1 ≤ m - u → x = y ∧ z = y.length + 1) := by
  have hsm := h.small
  have hr1 := lsread_fine h h64 f m a 1 o hm hfm (by omega) (by omega) (by omega) (a : Int) q (u : Int) false 1000 l
  have hr1' : fnDlogscan_scan_read_2 ((a : Int), 1, (a : Int), q, (u : Int), false, (f : Int), (m : Int), 1000, (o : Int), 0, false, l, sure, seen, waits, []) = _ := hr1
  have e0 : ((0 : Int) != 0) = false := rfl
  have hw1 := rjoin_short h64 f m a 1
  have wmu : IntKind.wrap .i64 ((m : Int) - (u : Int)) = (m : Int) - (u : Int) := wrap64 (by omega) (by omega)
  have hfirst : ∀ y, GoodR q y → rjoin Seen f m a (y.length + 1) = recR q y → rjoin Seen f m a 1 = (recR q y).take 64 ∧ sizeM (rjoin Seen f m a 1) q = (((y.length + 1 : Nat) : Int), 0) := by
    intro y hy hj
    have hlen := rec_len hy
    obtain ⟨hy1, hy2, _⟩ := chkL_zero hy.2
    have h1 : rjoin Seen f m a 1 = (recR q y).take 64 := by
      have := rjoin_add Seen f m a 1 y.length
      rw [Nat.add_comm 1, hj] at this
      have hs2 := rjoin_short h64 f m (a + 1) y.length
      have hll : (rjoin Seen f m a 1).length = 64 := by
        have := congrArg List.length this
        rw [List.length_append, hlen] at this
        omega
      rw [← this, List.take_append_of_le_length (by omega), List.take_of_length_le (by omega)]
    refine ⟨h1, ?_⟩
    obtain ⟨_, hs, hmn, ht⟩ := rec_get hy
    have t1 : ((recR q y).take 64).length = 64 := by rw [List.length_take]; omega
    have t2 : ((recR q y).take 64).take 1 = [82] := by rw [List.take_take, show min 1 64 = 1 from rfl, ht]
    have t3 : seqOf ((recR q y).take 64) = q := (seqOf_take _).trans hs
    have t4 : manyOf ((recR q y).take 64) = y.length := (manyOf_take _).trans hmn
    unfold sizeM
    rw [h1, if_neg (by omega), t2, t3, t4, if_neg (by
      rintro (h | h | h | h)
      · exact h rfl
      · exact h rfl
      · omega
      · omega)]
  simp only [fnDlogscan_scan_next_2, fnlogscan_scan_next_2, hr1', bindO_pure, unP, e0, cond_false, lsize_eq (rjoin Seen f m a 1) q (by omega), nodeDlogscan_scan_next_2_n0, nodelogscan_scan_next_2_n0, fnDregion_Region_Many, fnregion_Region_Many, wmu]
  by_cases c1 : (sizeM (rjoin Seen f m a 1) q).2 = 0
  · obtain ⟨z, hz1, hz2, hz⟩ := sizeM_ok c1
    rw [hz]
    simp only [e0, cond_false]
    by_cases c2 : (z : Int) > (m : Int) - (u : Int)
    · left
      refine ⟨o + 1, by omega, by rw [dec_true c2]; rfl, ?_⟩
      intro x hx hj hxm
      have := (hfirst x hx hj).2
      rw [hz] at this
      have := congrArg Prod.fst this
      simp only at this
      omega
    · have hr2 := lsread_fine h h64 f m (a + 1) (z - 1) (o + 1) hm hfm (by omega) (by omega) (by omega) (a : Int) q (u : Int) false 1000 l
      have w1 : IntKind.wrap .i64 ((a : Int) + 1) = ((a + 1 : Nat) : Int) := wrap64_nat (by omega)
      have w2 : IntKind.wrap .i64 ((z : Int) - 1) = ((z - 1 : Nat) : Int) := by rw [wrap64 (by omega) (by omega)]; omega
      have hja : rjoin Seen f m a 1 ++ rjoin Seen f m (a + 1) (z - 1) = rjoin Seen f m a z := by rw [rjoin_add, show 1 + (z - 1) = z by omega]
      have hs2 := rjoin_short h64 f m (a + 1) (z - 1)
      have hs3 := rjoin_short h64 f m a z
      rw [dec_false c2]
      simp only [cond_false, w1, w2, hr2, bindO_pure, unP, e0, ble_true (show (rjoin Seen f m a 1).length + (rjoin Seen f m (a + 1) (z - 1)).length ≤ 9223372036854775807 by omega), cond_true, hja, lget_eq (rjoin Seen f m a z) (by omega)]
      have hpart : ∀ y, GoodR q y → rjoin Seen f m a (y.length + 1) = recR q y → y.length + 1 ≤ m - u → z = y.length + 1 ∧ getM (rjoin Seen f m a z) = (q, 0, y) := by
        intro y hy hj _
        have := (hfirst y hy hj).2
        rw [hz] at this
        have e1 := congrArg Prod.fst this
        simp only at e1
        obtain rfl : z = y.length + 1 := by omega
        exact ⟨rfl, by rw [hj]; exact (rec_get hy).1⟩
      by_cases c3 : (getM (rjoin Seen f m a z)).2.1 = 0
      · right
        have b3 : ((getM (rjoin Seen f m a z)).2.1 != 0) = false := by rw [c3]; rfl
        have w3 : IntKind.wrap .i64 ((a : Int) + (z : Int)) = ((a + z : Nat) : Int) := by rw [wrap64 (by omega) (by omega)]; omega
        have w4 : IntKind.wrap .i64 (q + 1) = q + 1 := wrap64 (by omega) (by omega)
        have w5 : IntKind.wrap .i64 ((u : Int) + (z : Int)) = ((u + z : Nat) : Int) := by rw [wrap64 (by omega) (by omega)]; omega
        have hb : Nat.ble ((l.length + List.length [(q, (a : Int), (getM (rjoin Seen f m a z)).2.2)]) * 40) 140737488355328 = true := ble_true (by simp; omega)
        have hd : decide (((l ++ [(q, (a : Int), (getM (rjoin Seen f m a z)).2.2)]).length : Int) < 1000) = true := dec_true (by rw [List.length_append, List.length_singleton]; omega)
        refine ⟨z, (getM (rjoin Seen f m a z)).2.2, hz1, hz2, by omega, ?_, ?_⟩
        · simp only [b3, cond_false, w3, lswrap_eq _ m hm, bindO_pure, w4, w5, nodeDlogscan_scan_next_2_n1, nodelogscan_scan_next_2_n1, fnDlaw12_told_1, fnlaw12_told_1, fnDregion_Region_Many, fnregion_Region_Many, hb, cond_true, hd, unP, Bool.not_true]
          rw [show o + 1 + (z - 1) = o + z by omega, show ((((u + z : Nat) : Int) == (m : Int)) : Bool) = decide (u + z = m) from by rw [ibeq]; exact decide_eq_decide.2 (by omega)]
        · intro y hy hj hym
          obtain ⟨h1, h2⟩ := hpart y hy hj hym
          exact ⟨by rw [h2], h1⟩
      · left
        have b3 : ((getM (rjoin Seen f m a z)).2.1 != 0) = true := by rw [ibne, dec_false c3]; rfl
        refine ⟨o + 1 + (z - 1), by omega, by simp only [b3, cond_true], ?_⟩
        intro y hy hj hym
        obtain ⟨_, h2⟩ := hpart y hy hj hym
        rw [h2] at c3
        exact c3 rfl
  · left
    have b1 : ((sizeM (rjoin Seen f m a 1) q).2 != 0) = true := by rw [ibne, dec_false c1]; rfl
    refine ⟨o + 1, by omega, by simp only [b1, cond_true, bindO_pure]; try rfl, ?_⟩
    intro x hx hj _
    have := (hfirst x hx hj).2
    rw [this] at c1
    exact c1 rfl

/-- The bytes of transactions, one behind the other. -/
def recsD (q : Int) : List Secl → List UInt8
  | [] => []
  | x :: r => recR q x ++ recsD (q + 1) r
theorem recsD_app (q : Int) (l r : List Secl) : recsD q (l ++ r) = recsD q l ++ recsD (q + (l.length : Int)) r := by
  induction l generalizing q with
  | nil => simp [recsD]
  | cons x l ih =>
    simp only [List.cons_append, recsD, ih, List.append_assoc, List.length_cons]
    rw [show q + 1 + (l.length : Int) = q + ((l.length + 1 : Nat) : Int) by omega]
theorem recsD_at (q : Int) (l : List Secl) (i : Nat) (x : Secl) (h : l[i]? = some x) : recsD q l = recsD q (l.take i) ++ (recR (q + (i : Int)) x ++ recsD (q + (i : Int) + 1) (l.drop (i + 1))) := by
  have hi : i < l.length := by rw [List.getElem?_eq_some_iff] at h; exact h.1
  have e : l = l.take i ++ x :: l.drop (i + 1) := by
    rw [List.getElem?_eq_getElem hi] at h
    rw [← Option.some.inj h, ← List.drop_eq_getElem_cons hi, List.take_append_drop]
  have hl : (l.take i).length = i := by rw [List.length_take]; omega
  conv => lhs; rw [e, recsD_app, hl]
  rfl
/-- Transactions that may be put. -/
def GoodRs (q : Int) (l : List Secl) : Prop := ∀ (i : Nat) (x : Secl), l[i]? = some x → GoodR (q + (i : Int)) x
/-- Bytes stand in a log, round, from a place on. -/
def Laid (Seen : List (List UInt8)) (f m a : Nat) (D : List UInt8) : Prop := ∀ c : Nat, 64 * c < D.length → Seen[f + (a + c) % m]? = some (chunk D c)
theorem Laid.read {Seen : List (List UInt8)} {f m a : Nat} {D : List UInt8} (h : Laid Seen f m a D) (u : Nat) : ∀ n : Nat, 64 * (u + n) ≤ D.length → rjoin Seen f m ((a + u) % m) n = (D.drop (64 * u)).take (64 * n)
  | 0, _ => by simp [rjoin]
  | n + 1, hn => by
    rw [rjoin_succ, h.read u n (by omega), rnd_add, h (u + n) (by omega), Option.getD_some]
    unfold chunk
    rw [show 64 * (n + 1) = 64 * n + 64 by omega, List.take_add, List.drop_drop, show 64 * u + 64 * n = 64 * (u + n) by omega]

/-- What was put is told. -/
theorem lstold {N k : Nat} {sure : List (List UInt8)} {seen waits : Secs} {Seen : List (List UInt8)} (h : InvD N k sure seen waits [] Seen) (h64 : ∀ x ∈ Seen, x.length ≤ 64) (f m a : Nat) (q : Int) (put : List Secl) (o : Nat) (hm : 0 < m) (hfm : f + m ≤ N) (ha : a < m) (hq : 0 ≤ q ∧ q ≤ 100000000000000) (ho : o ≤ 400000)
    (hg : GoodRs q put) (hlaid : Laid Seen f m a (recsD q put)) (hfit : (recsD q put).length ≤ 64 * m) :
    ∃ (o' : Int) (l : List (Int × Int × Secl)), fnDlaw12_told ((a : Int), q, 1000, (f : Int), (m : Int), (o : Int), 0, false, sure, seen, waits, []) = some (0, o', false, l) ∧ put.length ≤ l.length ∧ ∀ (i : Nat) (x : Secl), put[i]? = some x → ∃ b, l[i]? = some (q + (i : Int), b, x) := by
  have hsm := h.small
  have key : ∃ y, loopD (stepDlogscan_scan_run_2_n0 ((f : Int), (m : Int), 1000, 0, sure, seen, waits, [])) FUEL ((a : Int), q + (((([] : List (Int × Int × Secl)).length : Nat) : Int)), ((0 : Nat) : Int), false, (o : Int), false, []) = some y ∧
      ∃ (b q' u' : Int) (o' : Int) (l : List (Int × Int × Secl)), y = .inr (b, q', u', true, o', false, l) ∧ put.length ≤ l.length ∧ ∀ (i : Nat) (x : Secl), put[i]? = some x → ∃ b, l[i]? = some (q + (i : Int), b, x) := by
    refine loopD_inv (fun j v => ∃ (b u o' : Nat) (fin : Bool) (l : List (Int × Int × Secl)), v = ((b : Int), q + (l.length : Int), (u : Int), fin, (o' : Int), false, l) ∧ o' ≤ o + 17 * j ∧ j ≤ 200 ∧
      (∀ (i : Nat) (x : Secl), i < l.length → put[i]? = some x → ∃ b, l[i]? = some (q + (i : Int), b, x)) ∧
      (fin = false → u < m ∧ 2 * l.length ≤ u ∧ b = (a + u) % m ∧ j = l.length ∧ (l.length ≤ put.length → 64 * u = (recsD q (put.take l.length)).length)) ∧ (fin = true → put.length ≤ l.length)) 200 _ ?_
      ⟨a, 0, o, false, [], rfl, by omega, by omega, fun i x hi => absurd hi (Nat.not_lt_zero _), fun _ => ⟨hm, by simp, by rw [Nat.add_zero, Nat.mod_eq_of_lt ha], rfl, fun _ => by simp [recsD]⟩, fun e => (by cases e)⟩ (by omega)
    rintro j v ⟨b, u, o', fin, l, rfl, ho', hj, hmat, hnf, hf⟩
    cases fin with
    | true =>
      right
      have := hf rfl
      exact ⟨_, rfl, _, _, _, _, l, rfl, this, fun i x hx => hmat i x (by have := (List.getElem?_eq_some_iff.1 hx).1; omega) hx⟩
    | false =>
      left
      obtain ⟨hu, h2, hb, hjl, hused⟩ := hnf rfl
      have hbm : b < m := by rw [hb]; exact Nat.mod_lt _ hm
      have e0 : ((0 : Int) != 0) = false := rfl
      have hstep := lsnext h h64 f m b u (q + (l.length : Int)) l o' hm hfm hbm hu (by omega) (by omega) (by omega)
      have hrec : ∀ x, put[l.length]? = some x → GoodR (q + (l.length : Int)) x ∧ rjoin Seen f m b (x.length + 1) = recR (q + (l.length : Int)) x ∧ x.length + 1 ≤ m - u ∧ (recsD q (put.take (l.length + 1))).length = 64 * (u + (x.length + 1)) := by
        intro x hx
        have hgx := hg _ _ hx
        have hlen := rec_len hgx
        have hdec := recsD_at q put l.length x hx
        have hlt := (List.getElem?_eq_some_iff.1 hx).1
        have hu' := hused (by omega)
        have hll := congrArg List.length hdec
        rw [List.length_append, List.length_append, hlen, ← hu'] at hll
        refine ⟨hgx, ?_, by omega, ?_⟩
        · rw [hb, hlaid.read u (x.length + 1) (by omega), hdec, hu', List.drop_left, ← hlen, List.take_left]
        · have e : put.take (l.length + 1) = put.take l.length ++ [x] := by rw [List.take_add_one, hx]; rfl
          rw [e, recsD_app, List.length_append, ← hu', List.length_take, Nat.min_eq_left (by omega)]
          simp only [recsD, List.append_nil, hlen]
          omega
      rcases hstep with ⟨o2, ho2, hs, hno⟩ | ⟨z, x, hz1, hz2, hzm, hs, hyes⟩
      · refine ⟨_, ?_, by omega, b, u, o2, true, l, rfl, by omega, by omega, hmat, fun e => (by cases e), fun _ => ?_⟩
        · simp only [stepDlogscan_scan_run_2_n0, steplogscan_scan_run_2_n0, Bool.not_false, cond_true, hs, bindO_pure, unP, e0, cond_false]
        · apply Classical.byContradiction
          intro hc
          obtain ⟨h1, h3, h4, _⟩ := hrec _ (List.getElem?_eq_getElem (by omega : l.length < put.length))
          exact hno _ h1 h3 h4
      · have hlen1 : (l ++ [(q + (l.length : Int), (b : Int), x)]).length = l.length + 1 := by simp
        refine ⟨_, ?_, by omega, (b + z) % m, u + z, o' + z, decide (u + z = m), l ++ [(q + (l.length : Int), (b : Int), x)], rfl, by omega, by omega, ?_, ?_, ?_⟩
        · simp only [stepDlogscan_scan_run_2_n0, steplogscan_scan_run_2_n0, Bool.not_false, cond_true, hs, bindO_pure, unP, e0, cond_false, hlen1]
          rw [show q + (l.length : Int) + 1 = q + ((l.length + 1 : Nat) : Int) by omega]
        · intro i y hi hy
          rw [hlen1] at hi
          by_cases e : i = l.length
          · subst e
            obtain ⟨h1, h3, h4, _⟩ := hrec _ hy
            obtain ⟨rfl, _⟩ := hyes _ h1 h3 h4
            exact ⟨_, by rw [List.getElem?_append_right (Nat.le_refl _), Nat.sub_self]; rfl⟩
          · obtain ⟨c, hc⟩ := hmat i y (by omega) hy
            exact ⟨c, by rw [List.getElem?_append_left (by omega)]; exact hc⟩
        · intro e
          have hne : u + z ≠ m := by simpa using e
          refine ⟨by omega, by omega, by rw [hb, rnd_add], by omega, ?_⟩
          intro hlp
          rw [hlen1] at hlp ⊢
          obtain ⟨h1, h3, h4, h5⟩ := hrec _ (List.getElem?_eq_getElem (by omega : l.length < put.length))
          obtain ⟨_, hz⟩ := hyes _ h1 h3 h4
          rw [h5, hz]
        · intro e
          have he : u + z = m := by simpa using e
          rw [hlen1]
          apply Classical.byContradiction
          intro hc
          obtain ⟨h1, h3, h4, h5⟩ := hrec _ (List.getElem?_eq_getElem (by omega : l.length < put.length))
          obtain ⟨_, hz⟩ := hyes _ h1 h3 h4
          obtain ⟨y, hy⟩ : ∃ y, put[l.length + 1]? = some y := ⟨_, List.getElem?_eq_getElem (by omega : l.length + 1 < put.length)⟩
          have hdec := congrArg List.length (recsD_at q put (l.length + 1) y hy)
          rw [List.length_append, List.length_append, h5, rec_len (hg _ _ hy)] at hdec
          omega
  obtain ⟨y, hy, b, q', u', o', l, rfl, hl1, hl2⟩ := key
  rw [show q + (((([] : List (Int × Int × Secl)).length : Nat) : Int)) = q by simp] at hy
  have hy' : loopD (stepDlogscan_scan_run_2_n0 ((f : Int), (m : Int), 1000, 0, sure, seen, waits, [])) FUEL ((a : Int), q, 0, false, (o : Int), false, []) = _ := hy
  have e0 : ((0 : Int) != 0) = false := rfl
  refine ⟨o', l, ?_, hl1, hl2⟩
  simp only [fnDlaw12_told, fnlaw12_told, fnDlogscan_Each, fnlogscan_Each, fnDlogscan_scan_run_2, fnlogscan_scan_run_2, lsthere_eq, if_pos (show (0 : Int) ≤ (a : Int) ∧ (a : Int) < (m : Int) by omega), bindO_pure, e0, cond_false, hy', Sum.elim_inr, unP]
end Go.Proofs.R4
namespace Go.Proofs.R4
open Go Go.AE Go.Plain
theorem lsworks : fnDlaw12_works () = some true := by kernel_rfl
theorem lgreat (l : Secl) (hl : l.length ≤ 9223372036854775807) : ∃ b, fnDlaw11_Great l = some b ∧ (b = false → l.length ≤ 40) := by
  have key : ∃ y, loopD (stepDlaw11_Great_n0 l) FUEL ((0 : Nat) : Int) = some y ∧ ((y = .inr () ∧ l.length ≤ 40) ∨ y = .inl ()) := by
    refine loopD_each l (fun j (_ : Unit) => (j : Int)) (fun j _ => j ≤ 40) _ ?_ ?_ (s0 := ()) (by simp) (by omega)
    · intro j x _ hj hlt hi
      simp only [stepDlaw11_Great_n0, steplaw11_Great_n0, nodeDlaw11_Great_n1, nodelaw11_Great_n1, nodeDlaw11_Great_n2, nodelaw11_Great_n2, dec_true (show (j : Int) < (l.length : Int) by omega), cond_true, nth_of hj, bindO_pure, wrap64_nat (show j < 9223372036854775807 by omega)]
      by_cases c1 : (j : Int) ≥ 40
      · rw [dec_true c1]
        exact .inr ⟨.inl (), rfl, .inr rfl⟩
      · rw [dec_false c1]
        by_cases c2 : ((x.2.length : Nat) : Int) > 500
        · rw [dec_true c2]
          exact .inr ⟨.inl (), rfl, .inr rfl⟩
        · rw [dec_false c2]
          exact .inl ⟨(), rfl, by omega⟩
    · intro _ hi
      simp only [stepDlaw11_Great_n0, steplaw11_Great_n0, dec_false (show ¬ (l.length : Int) < (l.length : Int) by omega), cond_false]
      exact ⟨.inr (), rfl, .inl ⟨rfl, hi⟩⟩
  obtain ⟨y, hy, h⟩ := key
  have hy' : loopD (stepDlaw11_Great_n0 l) FUEL 0 = _ := hy
  simp only [fnDlaw11_Great, fnlaw11_Great, hy', bindO_pure]
  rcases h with ⟨rfl, h⟩ | rfl
  · exact ⟨false, rfl, fun _ => h⟩
  · exact ⟨true, rfl, fun h => by cases h⟩
theorem sectors_same (l : Secl) (hl : l.length ≤ 1000000) : fnDlaw09_Sectors (l, l) = some true := by
  have key : ∃ y, loopD (stepDlaw09_Sectors_n0 (l, l)) FUEL ((0 : Nat) : Int) = some y ∧ y = .inr () := by
    refine loopD_each l (fun j (_ : Unit) => (j : Int)) (fun _ _ => True) _ ?_ ?_ (s0 := ()) trivial (by omega)
    · intro j x _ hj hlt _
      left
      refine ⟨(), ?_, trivial⟩
      simp only [stepDlaw09_Sectors_n0, steplaw09_Sectors_n0, nodeDlaw09_Sectors_n1, nodelaw09_Sectors_n1, dec_true (show (j : Int) < (l.length : Int) by omega), cond_true, nth_of hj, bindO_pure, wrap64_nat (show j < 9223372036854775807 by omega), beq_self_eq_true, Bool.and_self, Bool.not_true, cond_false]
    · intro _ _
      simp only [stepDlaw09_Sectors_n0, steplaw09_Sectors_n0, nodeDlaw09_Sectors_n1, nodelaw09_Sectors_n1, dec_false (show ¬ (l.length : Int) < (l.length : Int) by omega), cond_false, bindO_pure]
      exact ⟨_, rfl, rfl⟩
  obtain ⟨y, hy, rfl⟩ := key
  have hy' : loopD (stepDlaw09_Sectors_n0 (l, l)) FUEL 0 = _ := hy
  have e : ((l.length : Int) != (l.length : Int)) = false := by simp
  simp only [fnDlaw09_Sectors, fnlaw09_Sectors, e, cond_false, hy', bindO_pure, Sum.elim_inr]

abbrev Lays := List (Int × Int × List UInt8 × Secl)
/-- What is not great: few lays, all of them short. -/
theorem great12 (l : Lays) (hl : l.length ≤ 9223372036854775807) (hll : ∀ x ∈ l, x.2.2.2.length ≤ 9223372036854775807) : ∃ b, fnDlaw12_great l = some b ∧ (b = false → l.length ≤ 30 ∧ ∀ x ∈ l, x.2.2.1.length ≤ 3000) := by
  have key : ∃ y, loopD (stepDlaw12_great_n0 l) FUEL ((0 : Int), ((0 : Nat) : Int)) = some y ∧ (y = .inl () ∨ l.length ≤ 30 ∧ ∀ x ∈ l, x.2.2.1.length ≤ 3000) := by
    refine loopD_each l (fun j (s : Int) => (s, (j : Int))) (fun j s => j ≤ 30 ∧ ∀ i x, i < j → l[i]? = some x → x.2.2.1.length ≤ 3000) _ ?_ ?_ (s0 := (0 : Int)) ⟨by omega, fun i x hi => absurd hi (Nat.not_lt_zero _)⟩ (by omega)
    · intro j x s hj hlt hi
      obtain ⟨b, hb, _⟩ := lgreat x.2.2.2 (hll x (List.mem_of_getElem? hj))
      simp only [stepDlaw12_great_n0, steplaw12_great_n0, nodeDlaw12_great_n1, nodelaw12_great_n1, nodeDlaw12_great_n2, nodelaw12_great_n2, dec_true (show (j : Int) < (l.length : Int) by omega), cond_true, nth_of hj, bindO_pure, hb, wrap64_nat (show j < 9223372036854775807 by omega)]
      by_cases c1 : (j : Int) ≥ 30
      · rw [dec_true c1]; exact .inr ⟨_, rfl, .inl rfl⟩
      · rw [dec_false c1]
        by_cases c2 : ((x.2.2.1.length : Nat) : Int) > 3000
        · rw [dec_true c2]; exact .inr ⟨_, rfl, .inl rfl⟩
        · rw [dec_false c2]
          cases b with
          | true => exact .inr ⟨_, rfl, .inl rfl⟩
          | false =>
            left
            refine ⟨_, rfl, by omega, ?_⟩
            intro i y hij hy
            by_cases e : i = j
            · subst e
              rw [hj] at hy; cases hy; omega
            · exact hi.2 i y (by omega) hy
    · intro s hi
      simp only [stepDlaw12_great_n0, steplaw12_great_n0, dec_false (show ¬ (l.length : Int) < (l.length : Int) by omega), cond_false]
      refine ⟨_, rfl, .inr ⟨hi.1, ?_⟩⟩
      intro x hx
      obtain ⟨i, h1, h2⟩ := List.mem_iff_getElem.1 hx
      exact hi.2 i x h1 (by rw [List.getElem?_eq_getElem h1, h2])
  obtain ⟨y, hy, h⟩ := key
  have hy' : loopD (stepDlaw12_great_n0 l) FUEL (0, 0) = _ := hy
  simp only [fnDlaw12_great, fnlaw12_great, hy', bindO_pure]
  rcases h with rfl | h
  · exact ⟨true, rfl, fun h => by cases h⟩
  · cases y with
    | inl _ => exact ⟨true, rfl, fun h => by cases h⟩
    | inr n => exact ⟨_, rfl, fun _ => h⟩

theorem both_eq (m : Int) : fnDlaw12_both m = some (if 0 < m ∧ m ≤ 55 then .inr (List.replicate 60 blank, List.replicate 60 blank, List.replicate 60 blank) else .inl ()) := by
  have hnew : fnDdisk_New 60 = some (List.replicate 60 blank) := diskNew_eq 60 60 rfl (by omega)
  have href : fnDref08_New 60 = some (List.replicate 60 blank, List.replicate 60 blank) := refNew_eq 60 60 rfl (by omega)
  have hsec : fnDdisk_Disk_Sectors (0, 0, false, List.replicate 60 blank, [], [], []) = some 60 := by kernel_rfl
  have hl : ((List.replicate 60 blank).length : Int) = 60 := by rw [List.length_replicate]; rfl
  have w : IntKind.wrap .i64 ((60 : Int) - 5) = 55 := rfl
  have c5 : decide ((5 : Int) > 60) = false := rfl
  have c6 : decide ((5 : Int) < 0) = false := rfl
  simp only [fnDlaw12_both, fnlaw12_both, hnew, href, bindO_pure, unP, fnDregion_New, fnregion_New, hsec, inside_eq 5 m 60 (by omega), fnDref09_New, fnref09_New, nodeDref09_New_n0, noderef09_New_n0, hl, w, c5, c6, cond_false,
    nodeDlaw12_both_n0, nodelaw12_both_n0, nodeDlaw12_both_n0v1, nodelaw12_both_n0v1, nodeDlaw12_both_n0v2, nodelaw12_both_n0v2, nodeDlaw12_both_n0v3, nodelaw12_both_n0v3]
  by_cases h0 : m < 0
  · rw [dec_true h0, dec_false (by omega), if_neg (by omega)]; rfl
  · rw [dec_false h0]
    by_cases h1 : m > 55
    · rw [dec_true h1, dec_false (by omega), if_neg (by omega)]; rfl
    · rw [dec_false h1, dec_true (by omega)]
      simp only [Bool.not_true, cond_false, Sum.elim_inr, bindO_pure, ibeq]
      by_cases h2 : m = 0
      · rw [dec_true h2, if_neg (by omega)]; rfl
      · rw [dec_false h2, if_pos (by omega)]; rfl

theorem LogscanOrder_true (many : Int) (l : List Secl) (at_ q : Int) (old : Lays) (hl : l.length ≤ 9223372036854775807) (hll : ∀ x ∈ l, x.length ≤ 9223372036854775807) (ho : old.length ≤ 9223372036854775807) (hoo : ∀ x ∈ old, x.2.2.2.length ≤ 9223372036854775807) :
    fnDlaw12_LogscanOrder (many, l, at_, q, old) = some true := by
  obtain ⟨b, hb, hold⟩ := great12 old ho hoo
  simp only [fnDlaw12_LogscanOrder, fnlaw12_LogscanOrder, lsworks, bindO_pure, Bool.not_true, cond_false, both_eq]
  by_cases hm : 0 < many ∧ many ≤ 55
  rotate_left
  · rw [if_neg hm]
    simp only [Sum.elim_inl, nodeDlaw12_LogscanOrder_n0, nodelaw12_LogscanOrder_n0, hb, bindO_pure]
    cases b
    · cases decide ((l.length : Int) > 20) <;> rfl
    · rfl
  rw [if_pos hm]
  simp only [Sum.elim_inr, unP, nodeDlaw12_LogscanOrder_n0v1, nodelaw12_LogscanOrder_n0v1, hb, bindO_pure]
  cases b with
  | true => rfl
  | false =>
  obtain ⟨ho1, ho2⟩ := hold rfl
  simp only [cond_false]
  by_cases c1 : (l.length : Int) > 20
  · rw [dec_true c1]; rfl
  by_cases c2 : at_ < 0
  · rw [dec_false c1, dec_true c2]; rfl
  by_cases c3 : at_ ≥ many
  · rw [dec_false c1, dec_false c2, dec_true c3]; rfl
  by_cases c4 : q < 0
  · rw [dec_false c1, dec_false c2, dec_false c3, dec_true c4]; rfl
  by_cases c5 : q > 1099511627776
  · rw [dec_false c1, dec_false c2, dec_false c3, dec_false c4, dec_true c5]; rfl
  rw [dec_false c1, dec_false c2, dec_false c3, dec_false c4, dec_false c5]
  obtain ⟨m, rfl⟩ := Int.eq_ofNat_of_zero_le (show 0 ≤ many by omega)
  obtain ⟨a, rfl⟩ := Int.eq_ofNat_of_zero_le (show 0 ≤ at_ by omega)
  simp only [cond_false, bindO_pure]
  have hi0 : InvD 60 0 (List.replicate 60 blank) [] [] [] (List.replicate 60 blank) := ⟨by simp, by omega, rfl, by simp, by simp, by simp, fun i _ => by simp [look, mhas]⟩
  have h640 : ∀ x ∈ List.replicate 60 blank, x.length ≤ 64 := by
    intro x hx
    rw [List.eq_of_mem_replicate hx]; exact Nat.le_refl _
  -- what stood there
  have key1 : ∃ y, loopD (stepDlaw12_LogscanOrder_n1 ((m : Int), l, (a : Int), q, old, (m : Int), List.replicate 60 blank)) FUEL (((0 : Nat) : Int), ((0 : Nat) : Int), false, [], []) = some y ∧
      ∃ (o : Nat) (seen waits : Secs) (Seen : List (List UInt8)), y = ((o : Int), false, seen, waits) ∧ o ≤ 1800 ∧ InvD 60 o (List.replicate 60 blank) seen waits [] Seen ∧ ∀ x ∈ Seen, x.length ≤ 64 := by
    refine loopD_each old (fun j (s : Nat × Secs × Secs) => ((j : Int), (s.1 : Int), false, s.2.1, s.2.2)) (fun j s => s.1 ≤ 60 * j ∧ j ≤ 30 ∧ ∃ Seen, InvD 60 s.1 (List.replicate 60 blank) s.2.1 s.2.2 [] Seen ∧ ∀ x ∈ Seen, x.length ≤ 64) _ ?_ ?_ (s0 := (0, [], [])) ⟨by omega, by omega, _, hi0, h640⟩ (by omega)
    · rintro j x ⟨o, seen, waits⟩ hj hlt ⟨hoj, hj30, Seen, hi, h64⟩
      left
      have hx := ho2 x (List.mem_of_getElem? hj)
      obtain ⟨e, n, seen', waits', Seen', hp, hn, hi', h64'⟩ := lsput_any hi 5 m x.1 x.2.2.1 o (by omega) (by omega) (by omega) (by simp only at hoj; omega) (by simp only at hoj; omega) h64
      have hp' : fnDlogscan_Put (x.1, x.2.2.1, 5, (m : Int), (o : Int), 0, false, List.replicate 60 blank, seen, waits, []) = _ := hp
      refine ⟨(o + n, seen', waits'), ?_, by simp only at hoj ⊢; omega, by omega, Seen', hi', h64'⟩
      simp only [stepDlaw12_LogscanOrder_n1, steplaw12_LogscanOrder_n1, dec_true (show (j : Int) < (old.length : Int) by omega), cond_true, nth_of hj, bindO_pure, hp', unP, wrap64_nat (show j < 9223372036854775807 by omega)]
    · rintro ⟨o, seen, waits⟩ ⟨hoj, hj30, Seen, hi, h64⟩
      simp only [stepDlaw12_LogscanOrder_n1, steplaw12_LogscanOrder_n1, dec_false (show ¬ (old.length : Int) < (old.length : Int) by omega), cond_false]
      exact ⟨_, rfl, o, seen, waits, Seen, rfl, by simp only at hoj; omega, hi, h64⟩
  obtain ⟨y, hy, o1, seen1, waits1, Seen1, rfl, ho1', hi1, h641⟩ := key1
  have hy1 : loopD (stepDlaw12_LogscanOrder_n1 ((m : Int), l, (a : Int), q, old, (m : Int), List.replicate 60 blank)) FUEL (0, 0, false, [], []) = _ := hy
  simp only [hy1, bindO_pure, unP]
  -- what is put
  have key2 : ∃ y, loopD (stepDlaw12_LogscanOrder_n2 ((m : Int), l, (a : Int), q, (m : Int), List.replicate 60 blank)) FUEL (((0 : Nat) : Int), ((0 : Nat) : Int), ((0 : Nat) : Int), [], (o1 : Int), false, seen1, waits1) = some y ∧
      (y = .inl true ∨ ∃ (put : List Secl) (o : Nat) (seen waits : Secs) (Seen : List (List UInt8)), y = .inr ((put.length : Int), put, (o : Int), false, seen, waits) ∧ o ≤ 3200 ∧ put.length ≤ 20 ∧ InvD 60 o (List.replicate 60 blank) seen waits [] Seen ∧ (∀ x ∈ Seen, x.length ≤ 64) ∧
        GoodRs q put ∧ Laid Seen 5 m a (recsD q put) ∧ (recsD q put).length ≤ 64 * m) := by
    refine loopD_each l (fun j (s : Nat × List Secl × Nat × Secs × Secs) => ((s.1 : Int), (s.2.1.length : Int), (j : Int), s.2.1, (s.2.2.1 : Int), false, s.2.2.2.1, s.2.2.2.2)) (fun j s => s.2.1.length ≤ j ∧ j ≤ 20 ∧ s.2.2.1 ≤ 1800 + 60 * j ∧ 64 * s.1 = (recsD q s.2.1).length ∧ s.1 ≤ m ∧ ∃ Seen, InvD 60 s.2.2.1 (List.replicate 60 blank) s.2.2.2.1 s.2.2.2.2 [] Seen ∧ (∀ x ∈ Seen, x.length ≤ 64) ∧ GoodRs q s.2.1 ∧ Laid Seen 5 m a (recsD q s.2.1)) _ ?_ ?_
      (s0 := (0, [], o1, seen1, waits1)) ⟨by simp, by omega, by omega, by simp [recsD], by omega, Seen1, hi1, h641, fun i x h => by simp at h, fun c h => by simp [recsD] at h⟩ (by omega)
    · rintro j x ⟨u, put, o, seen, waits⟩ hj hlt ⟨hpl, hj20, hoj, hu, hum, Seen, hi, h64, hg, hlaid⟩
      simp only at hpl hoj hu hum hi hg hlaid
      have hxl := hll x (List.mem_of_getElem? hj)
      obtain ⟨b, hgr, hg40⟩ := lgreat x hxl
      have wq : IntKind.wrap .i64 (q + (put.length : Int)) = q + (put.length : Int) := wrap64 (by omega) (by omega)
      have wu : IntKind.wrap .i64 ((m : Int) - (u : Int)) = (m : Int) - (u : Int) := wrap64 (by omega) (by omega)
      simp only [stepDlaw12_LogscanOrder_n2, steplaw12_LogscanOrder_n2, dec_true (show (j : Int) < (l.length : Int) by omega), cond_true, nodeDlaw12_LogscanOrder_n3, nodelaw12_LogscanOrder_n3, nth_of hj, bindO_pure, hgr, wq]
      cases b with
      | true => exact .inr ⟨_, rfl, .inl rfl⟩
      | false =>
        have hx40 := hg40 rfl
        left
        simp only [cond_false, lput_eq (q + (put.length : Int)) x (by omega), bindO_pure, unP, nodeDlaw12_LogscanOrder_n4, nodelaw12_LogscanOrder_n4, wu]
        by_cases hc : chkL x = 0
        · have hgx : GoodR (q + (put.length : Int)) x := ⟨⟨by omega, by omega⟩, hc⟩
          have hlen := rec_len hgx
          have hp : putR (q + (put.length : Int)) x = (recR (q + (put.length : Int)) x, 0) := by unfold putR; rw [if_neg (by omega), if_neg (by simpa using hc)]
          obtain ⟨hx1, hx2, _⟩ := chkL_zero hc
          have wn : IntKind.wrap .i64 (Int.tdiv ((recR (q + (put.length : Int)) x).length : Int) 64) = ((x.length + 1 : Nat) : Int) := by
            rw [show Int.tdiv ((recR (q + (put.length : Int)) x).length : Int) 64 = (((recR (q + (put.length : Int)) x).length / 64 : Nat) : Int) from rfl, wrap64 (by omega) (by omega)]; omega
          have e0 : ((0 : Int) != 0) = false := rfl
          rw [hp]
          simp only [e0, cond_false, wn]
          by_cases hfit : ((x.length + 1 : Nat) : Int) > (m : Int) - (u : Int)
          · refine ⟨(u, put, o, seen, waits), ?_, by simp only; omega, by omega, by simp only; omega, hu, hum, Seen, hi, h64, hg, hlaid⟩
            rw [dec_true hfit]
            simp only [bindO_pure, cond_true, Sum.elim_inr, unP, wrap64_nat (show j < 9223372036854775807 by omega)]
          · rw [dec_false hfit]
            have hm0 : ((m : Int) == 0) = false := by rw [ibeq]; exact dec_false (by omega)
            have wau : IntKind.wrap .i64 ((a : Int) + (u : Int)) = ((a + u : Nat) : Int) := by rw [wrap64 (by omega) (by omega)]; omega
            have htm : Int.tmod ((a + u : Nat) : Int) (m : Int) = (((a + u) % m : Nat) : Int) := rfl
            obtain ⟨seen', waits', Seen', hpt, hi', h64', hc'⟩ := lsput_fine hi 5 m ((a + u) % m) (x.length + 1) (recR (q + (put.length : Int)) x) o (by omega) (rnd_lt (by omega)) (by omega) hlen ⟨by omega, by omega⟩ (by omega) (by omega) h64
            have hpt' : fnDlogscan_Put ((((a + u) % m : Nat) : Int), recR (q + (put.length : Int)) x, 5, (m : Int), (o : Int), 0, false, List.replicate 60 blank, seen, waits, []) = _ := hpt
            have hble : Nat.ble ((put.length + List.length [x]) * 24) 140737488355328 = true := ble_true (by simp; omega)
            have wun : IntKind.wrap .i64 ((u : Int) + ((x.length + 1 : Nat) : Int)) = ((u + (x.length + 1) : Nat) : Int) := by rw [wrap64 (by omega) (by omega)]; omega
            have hpl1 : (put ++ [x]).length = put.length + 1 := by simp
            have hrd : recsD q (put ++ [x]) = recsD q put ++ recR (q + (put.length : Int)) x := by rw [recsD_app]; simp [recsD]
            refine ⟨(u + (x.length + 1), put ++ [x], o + (x.length + 1), seen', waits'), ?_, by simp only [hpl1]; omega, by omega, by simp only; omega, by simp only; rw [hrd, List.length_append, hlen]; omega, by simp only; omega, Seen', hi', h64', ?_, ?_⟩
            · simp only [bindO_pure, cond_false, hm0, wau, htm, hpt', bindO_pure, unP, e0, hble, cond_true, Sum.elim_inr, wrap64_nat (show j < 9223372036854775807 by omega), wun, wrap64_nat (show put.length < 9223372036854775807 by omega), hpl1]
            · intro i y hy
              by_cases e : i = put.length
              · subst e
                simp only at hy
                rw [List.getElem?_append_right (Nat.le_refl _), Nat.sub_self] at hy
                cases hy
                exact hgx
              · have hlt := (List.getElem?_eq_some_iff.1 hy).1
                simp only [hpl1] at hlt
                simp only at hy
                rw [List.getElem?_append_left (by omega)] at hy
                exact hg i y hy
            · intro c hcl
              simp only [hrd, List.length_append, hlen] at hcl
              simp only [hrd]
              by_cases e : c < u
              · have h1 := hlaid c (by omega)
                have h2 := hc' (c + m - u) (by omega)
                rw [if_neg (by omega), rnd_add, show a + (u + (c + m - u)) = a + c + m by omega, Nat.add_mod_right] at h2
                rw [h2, h1]
                unfold chunk
                rw [List.drop_append_of_le_length (by omega), List.take_append_of_le_length (by rw [List.length_drop]; omega)]
              · have h2 := hc' (c - u) (by omega)
                rw [if_pos (by omega), rnd_add, show u + (c - u) = c by omega] at h2
                rw [h2]
                unfold chunk
                rw [List.drop_append, List.drop_eq_nil_of_le (show (recsD q put).length ≤ 64 * c by omega), List.nil_append, ← hu, show 64 * c - 64 * u = 64 * (c - u) by omega]
        · have hp : (putR (q + (put.length : Int)) x).2 = chkL x := by unfold putR; rw [if_neg (by omega), if_pos (by simpa using hc)]
          have b1 : ((putR (q + (put.length : Int)) x).2 != 0) = true := by rw [hp, ibne, dec_false hc]; rfl
          refine ⟨(u, put, o, seen, waits), ?_, by simp only; omega, by omega, by simp only; omega, hu, hum, Seen, hi, h64, hg, hlaid⟩
          simp only [b1, cond_true, bindO_pure, Sum.elim_inr, unP, wrap64_nat (show j < 9223372036854775807 by omega)]
    · rintro ⟨u, put, o, seen, waits⟩ ⟨hpl, hj20, hoj, hu, hum, Seen, hi, h64, hg, hlaid⟩
      simp only at hpl hoj hu hum hi hg hlaid
      simp only [stepDlaw12_LogscanOrder_n2, steplaw12_LogscanOrder_n2, dec_false (show ¬ (l.length : Int) < (l.length : Int) by omega), cond_false]
      exact ⟨_, rfl, .inr ⟨put, o, seen, waits, Seen, rfl, by omega, by omega, hi, h64, hg, hlaid, by omega⟩⟩
  obtain ⟨y, hy, hyc⟩ := key2
  have hy2 : loopD (stepDlaw12_LogscanOrder_n2 ((m : Int), l, (a : Int), q, (m : Int), List.replicate 60 blank)) FUEL (0, 0, 0, [], (o1 : Int), false, seen1, waits1) = _ := hy
  simp only [hy2, bindO_pure]
  rcases hyc with rfl | ⟨put, o, seen, waits, Seen, rfl, ho3, hp20, hi, h64, hg, hlaid, hfit⟩
  · rfl
  obtain ⟨o', got, htold, hlen, hgot⟩ := lstold hi h64 5 m a q put o (by omega) (by omega) (by omega) ⟨by omega, by omega⟩ (by omega) hg hlaid hfit
  have htold' : fnDlaw12_told ((a : Int), q, 1000, 5, (m : Int), (o : Int), 0, false, List.replicate 60 blank, seen, waits, []) = _ := htold
  have e0 : ((0 : Int) != 0) = false := rfl
  have key3 : ∃ y, loopD (stepDlaw12_LogscanOrder_n6 (q, (put.length : Int), put, got)) FUEL ((0 : Nat) : Int) = some y ∧ y = .inr () := by
    refine loopD_each put (fun j (_ : Unit) => (j : Int)) (fun _ _ => True) _ ?_ ?_ (s0 := ()) trivial (by omega)
    · intro j x _ hj hlt _
      left
      refine ⟨(), ?_, trivial⟩
      obtain ⟨b, hb'⟩ := hgot j x hj
      have hx2 := (chkL_zero (hg j x hj).2).2.1
      have wq : IntKind.wrap .i64 (q + (j : Int)) = q + (j : Int) := wrap64 (by omega) (by omega)
      have eq : ((q + (j : Int)) != (q + (j : Int))) = false := by rw [ibne, dec_true rfl]; rfl
      simp only [stepDlaw12_LogscanOrder_n6, steplaw12_LogscanOrder_n6, dec_true (show (j : Int) < (put.length : Int) by omega), cond_true, nodeDlaw12_LogscanOrder_n7, nodelaw12_LogscanOrder_n7, nodeDlaw12_LogscanOrder_n8, nodelaw12_LogscanOrder_n8,
        inR_true (show (0 : Int) ≤ (j : Int) ∧ (j : Int) < (got.length : Int) by omega), inR_true (show (0 : Int) ≤ (j : Int) ∧ (j : Int) < (put.length : Int) by omega), Int.toNat_natCast, hb', hj, bindO_pure, wq, eq, cond_false, sectors_same x (by omega), Bool.not_true, Sum.elim_inr, wrap64_nat (show j < 9223372036854775807 by omega)]
    · intro _ _
      simp only [stepDlaw12_LogscanOrder_n6, steplaw12_LogscanOrder_n6, dec_false (show ¬ (put.length : Int) < (put.length : Int) by omega), cond_false]
      exact ⟨_, rfl, rfl⟩
  obtain ⟨y, hy, rfl⟩ := key3
  have hy3 : loopD (stepDlaw12_LogscanOrder_n6 (q, (put.length : Int), put, got)) FUEL 0 = _ := hy
  simp only [Sum.elim_inr, unP, htold', bindO_pure, nodeDlaw12_LogscanOrder_n5, nodelaw12_LogscanOrder_n5, e0, cond_false, dec_false (show ¬ (got.length : Int) < (put.length : Int) by omega), hy3]
end Go.Proofs.R4
