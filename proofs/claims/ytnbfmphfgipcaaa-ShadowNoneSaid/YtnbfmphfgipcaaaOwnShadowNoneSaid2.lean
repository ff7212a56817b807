/- What the functions that ShadowNoneSaid reaches compute: part 2. -/
import Derived.Test.YtnbfmphfgipcaaaOwnShadowNoneSaid1
set_option linter.unusedVariables false
set_option linter.unusedSimpArgs false
namespace Go.Proofs.R6
open Go Go.AE
abbrev Ths := List (Int × Int)
theorem mput_length {α : Type} (n : Int) (x : α) : ∀ l : List (Int × α), l.length ≤ (mput n x l).length ∧ (mput n x l).length ≤ l.length + 1
  | [] => by simp [mput]
  | (m, y) :: r => by
    rw [mput]
    cases h : (n == m)
    · have := mput_length n x r
      simp only [cond_false, List.length_cons]
      omega
    · simp
theorem keysOf_length {α : Type} (l : List (Int × α)) : (keysOf l).length = l.length := by simp [keysOf]
def keepM {α : Type} (z : α) (o1 o2 : List (Int × α)) : List (Int × α) := (keysOf o2).foldl (fun s k => mput k (mget k z o2) s) o1
theorem shadow_put_i (k : Int) (x : Int) (o1 o2 : Ths) : fnDshadow_Shadow_int_Put (k, x, o1, o2) = some (mput k x o2) := rfl
theorem shadow_get_i (k : Int) (o1 o2 : Ths) : fnDshadow_Shadow_int_Get (k, o1, o2) = some (if mhas k o2 then (mget k 0 o2, true) else (mget k 0 o1, mhas k o1)) := by
  simp only [fnDshadow_Shadow_int_Get, fnshadow_Shadow_int_Get]
  cases mhas k o2 <;> rfl
theorem shadow_keep_i (o1 o2 : Ths) (h : o2.length ≤ 1000000) : fnDshadow_Shadow_int_Keep (o1, o2) = some (keepM 0 o1 o2) := by
  have hl := loopD_told (f := stepDshadow_Shadow_int_Keep_n0 o2) (fun k s => .inl (mput k (mget k 0 o2) s)) id (fun _ => True) (fun s _ => rfl) (fun k r s _ => ⟨rfl, fun _ _ => trivial⟩) (keysOf o2) o1 trivial (by rw [keysOf_length]; omega)
  rw [foldX_inl] at hl
  simp only [fnDshadow_Shadow_int_Keep, fnshadow_Shadow_int_Keep, show fnDshadow_Shadow_int_made (o1, o2) = some () from rfl, show fnDshadow_layer_int_each o2 = some () from rfl, bindO_pure, ble_true h, cond_true, hl]
  rfl
theorem works_true : fnDlaw13_works () = some true := by
  have hk : keepM (0 : Int) [] [(3, 5)] = [(3, 5)] := by simp [keepM, keysOf, mput, mget]
  simp only [fnDlaw13_works, fnlaw13_works, show fnDshadow_New_int () = some () from rfl, bindO_pure, shadow_put_i, show mput (3 : Int) (5 : Int) [] = [(3, 5)] from rfl, shadow_keep_i [] [(3, 5)] (by decide), hk, show mput (3 : Int) (6 : Int) [] = [(3, 6)] from rfl, shadow_get_i]
  rfl

theorem none_same : fnDlaw13_same_2 5 = some true := rfl
theorem ShadowNone_true (a b : Int) : fnDlaw13_ShadowNone (a, b) = some true := by
  simp only [fnDlaw13_ShadowNone, fnlaw13_ShadowNone, works_true, bindO_pure, Bool.not_true, cond_false]
  rfl

theorem find_at (w : Ths) (k : Int) (hw : w.length ≤ 1000000) : fnDref13_find (w, k) = some (mget k 0 w, mhas k w) := by
  have key : ∀ (j : Nat), j ≤ w.length → loopD (stepDref13_find_n0 (w, k)) (w.length - j + 1) (j : Int) = some (if mhas k (w.drop j) then .inl (mget k 0 (w.drop j)) else .inr ()) := by
    intro j
    generalize hd : w.length - j = d
    induction d generalizing j with
    | zero =>
      intro hj
      obtain rfl : j = w.length := by omega
      rw [List.drop_length, loopD]
      simp only [stepDref13_find_n0, stepref13_find_n0, dec_false (show ¬ (w.length : Int) < (w.length : Int) by omega), cond_false]
      rfl
    | succ d ih =>
      intro hj
      have hlt : j < w.length := by omega
      have hx : w[j]? = some w[j] := List.getElem?_eq_getElem hlt
      rw [List.drop_eq_getElem_cons hlt, loopD]
      generalize hx2 : w[j] = x at hx
      simp only [stepDref13_find_n0, stepref13_find_n0, dec_true (show (j : Int) < (w.length : Int) by omega), cond_true, nth_of hx, bindO_pure]
      rw [wrap64_nat (by omega)]
      obtain ⟨a, y⟩ := x
      dsimp only
      rw [mhas, mget]
      by_cases hk : a = k
      · subst hk
        simp only [beq_self_eq_true, cond_true, if_true]
        rfl
      · have h1 : (a == k) = false := by simpa using hk
        have h2 : (k == a) = false := by simp; omega
        simp only [h1, h2, cond_false]
        exact ih (j + 1) (by omega) (by omega)
  have h0 := key 0 (Nat.zero_le _)
  rw [List.drop_zero, Nat.sub_zero] at h0
  have h := loopD_more (w.length + 1) FUEL ((0 : Nat) : Int) _ (by unfold FUEL; omega) h0
  simp only [fnDref13_find, fnref13_find]
  rw [show ((0 : Int)) = ((0 : Nat) : Int) from rfl, h, bindO_pure]
  cases hh : mhas k w with
  | true => simp
  | false => simp [mget_not 0 k w hh]

theorem with_at (w : Ths) (k v : Int) (hs : Srt w) (hw : w.length ≤ 1000000) : fnDref13_with (w, k, v) = some (ins k v w) := by
  have hlp : ∃ t, loopD (stepDref13_with_n0 (w, k, v)) FUEL ((0 : Nat) : Int) = some t ∧ ∃ j : Nat, t = (j : Int) ∧ j ≤ w.length ∧ (∀ i x, i < j → w[i]? = some x → x.1 < k) ∧ ∀ x, w[j]? = some x → ¬ x.1 < k := by
    refine loopD_each (σ := Unit) w (fun j _ => (j : Int)) (fun j _ => j ≤ w.length ∧ ∀ i x, i < j → w[i]? = some x → x.1 < k) _ ?_ ?_ (s0 := ()) ⟨by omega, fun i x hi => by omega⟩ (by omega)
    · rintro j x ⟨⟩ hj hlt ⟨_, hi⟩
      by_cases hx : x.1 < k
      · refine .inl ⟨(), ?_, by omega, fun i y hi2 hy => ?_⟩
        · simp only [stepDref13_with_n0, stepref13_with_n0, nodeDref13_with_n1, noderef13_with_n1, dec_true (show (j : Int) < (w.length : Int) by omega), cond_true, nth_of hj, bindO_pure, dec_true hx]
          rw [wrap64_nat (by omega)]
        · by_cases hij : i = j
          · subst hij
            rw [hj] at hy
            cases hy
            exact hx
          · exact hi i y (by omega) hy
      · refine .inr ⟨(j : Int), ?_, j, rfl, by omega, hi, fun y hy => ?_⟩
        · simp only [stepDref13_with_n0, stepref13_with_n0, nodeDref13_with_n1, noderef13_with_n1, dec_true (show (j : Int) < (w.length : Int) by omega), cond_true, nth_of hj, bindO_pure, dec_false hx, cond_false]
        · rw [hj] at hy; cases hy; exact hx
    · rintro ⟨⟩ ⟨_, hi⟩
      refine ⟨(w.length : Int), ?_, w.length, rfl, by omega, hi, fun y hy => ?_⟩
      · simp only [stepDref13_with_n0, stepref13_with_n0, nodeDref13_with_n1, noderef13_with_n1, dec_false (show ¬ (w.length : Int) < (w.length : Int) by omega), cond_false, bindO_pure]
      · rw [List.getElem?_eq_none (by omega)] at hy; cases hy
  obtain ⟨t, h1, j, rfl, hj, hlow, hhi⟩ := hlp
  obtain ⟨g1, g2, g3⟩ := ins_at k v w j hlow hj
  have ht : ((j : Int)).toNat = j := by omega
  have hlt : (List.take j w).length ≤ 1000000 := by rw [List.length_take]; omega
  simp only [fnDref13_with, fnref13_with]
  rw [show ((0 : Int)) = ((0 : Nat) : Int) from rfl, h1, bindO_pure]
  have r1 : inR (j : Int) (w.length + 1) = true := inR_true (by omega)
  simp only [r1, cond_true, ht]
  rw [ble_true (show (0 + (List.take j w).length) * 16 ≤ 140737488355328 by omega), cond_true, ble_true (show ((List.take j w).length + [(k, v)].length) * 16 ≤ 140737488355328 by simp only [List.length_singleton]; omega), cond_true]
  have hla : (List.take j w ++ [(k, v)]).length ≤ 1000001 := by rw [List.length_append]; simp only [List.length_singleton]; omega
  by_cases he : j = w.length
  · have n2 : nodeDref13_with_n2 (w, (j : Int), k, v, List.take j w ++ [(k, v)]) = some false := by
      simp only [nodeDref13_with_n2, noderef13_with_n2, dec_false (show ¬ (j : Int) < (w.length : Int) by omega), cond_false]
    rw [n2, bindO_pure]
    simp only [nodeDref13_with_n3, noderef13_with_n3, cond_false, bindO_pure, r1, cond_true, ht]
    rw [ble_true (by rw [show (List.drop j w).length = 0 by rw [List.length_drop]; omega]; omega), cond_true, g1 he, he, List.take_length, List.drop_length, List.append_nil]
  · obtain ⟨x, hx⟩ : ∃ x, w[j]? = some x := ⟨w[j], List.getElem?_eq_getElem (by omega)⟩
    have hnl := hhi x hx
    have n2 : nodeDref13_with_n2 (w, (j : Int), k, v, List.take j w ++ [(k, v)]) = some (x.1 == k) := by
      simp only [nodeDref13_with_n2, noderef13_with_n2, dec_true (show (j : Int) < (w.length : Int) by omega), cond_true, nth_of hx, bindO_pure]
    rw [n2, bindO_pure]
    by_cases hk : x.1 = k
    · simp only [nodeDref13_with_n3, noderef13_with_n3, hk, beq_self_eq_true, cond_true, bindO_pure]
      rw [wrap64_nat (by omega), inR_true (by omega), cond_true, show (((j + 1 : Nat) : Int)).toNat = j + 1 by omega, ble_true (by rw [List.length_drop]; omega), cond_true, g2 x hx hk]
    · have hb : (x.1 == k) = false := by simpa using hk
      simp only [nodeDref13_with_n3, noderef13_with_n3, hb, cond_false, bindO_pure, r1, cond_true, ht]
      rw [ble_true (by rw [List.length_drop]; omega), cond_true, g3 x hx (by omega)]

theorem ref_get (w1 w2 : Ths) (k : Int) (h1 : w1.length ≤ 1000000) (h2 : w2.length ≤ 1000000) : fnDref13_Shadow_Get (k, w1, w2) = some (if mhas k w2 then (mget k 0 w2, true) else (mget k 0 w1, mhas k w1)) := by
  simp only [fnDref13_Shadow_Get, fnref13_Shadow_Get, find_at w2 k h2, bindO_pure, unP, find_at w1 k h1]
  cases mhas k w2 <;> rfl

theorem insAll_srt : ∀ (l w : Ths), Srt w → Srt (insAll w l)
  | [], w, h => h
  | (a, x) :: r, w, h => insAll_srt r (ins a x w) (ins_srt a x w h)
theorem insAll_snoc (w l : Ths) (x : Int × Int) : insAll w (l ++ [x]) = ins x.1 x.2 (insAll w l) := by simp [insAll]
theorem ref_keep (w1 w2 : Ths) (hs : Srt w1) (h1 : w1.length + w2.length ≤ 1000000) : fnDref13_Shadow_Keep (w1, w2) = some (if 0 < w2.length then .inl (insAll w1 w2) else .inr ()) := by
  match w2, h1 with
  | [], _ => rfl
  | x :: r, h1 =>
    rw [List.length_cons] at h1
    have hlp : ∃ y, loopD (stepDref13_Shadow_Keep_n0v1 (x :: r)) FUEL (((0 + 1 : Nat) : Int), insAll w1 [x]) = some y ∧ y = insAll w1 (x :: r) := by
      refine loopD_each r (fun j (s : Ths) => (((j + 1 : Nat) : Int), s)) (fun j s => s = insAll w1 (x :: r.take j)) _ ?_ ?_ (s0 := insAll w1 [x]) rfl (by omega)
      · rintro j y s hj hlt rfl
        have hlen : (insAll w1 (x :: List.take j r)).length ≤ 1000000 := by
          have := insAll_length (x :: List.take j r) w1
          rw [List.length_cons, List.length_take] at this
          omega
        refine .inl ⟨insAll w1 (x :: List.take (j + 1) r), ?_, rfl⟩
        · have hw := with_at (insAll w1 (x :: List.take j r)) y.1 y.2 (insAll_srt _ _ hs) hlen
          simp only [stepDref13_Shadow_Keep_n0v1, stepref13_Shadow_Keep_n0v1, dec_true (show ((j + 1 : Nat) : Int) < ((x :: r).length : Int) by rw [List.length_cons]; omega), cond_true, inR_true (show (0 : Int) ≤ ((j + 1 : Nat) : Int) ∧ ((j + 1 : Nat) : Int) < ((x :: r).length : Int) by rw [List.length_cons]; omega)]
          rw [show (((j + 1 : Nat) : Int)).toNat = j + 1 by omega, List.getElem?_cons_succ, hj, bindO_pure, hw, bindO_pure, wrap64_nat (by omega)]
          rw [List.take_add_one, hj, Option.toList_some, ← List.cons_append, insAll_snoc]
      · rintro s rfl
        refine ⟨_, ?_, rfl⟩
        simp only [stepDref13_Shadow_Keep_n0v1, stepref13_Shadow_Keep_n0v1, dec_false (show ¬ ((r.length + 1 : Nat) : Int) < ((x :: r).length : Int) by rw [List.length_cons]; omega), cond_false]
        rw [List.take_length]
    obtain ⟨y, hy, rfl⟩ := hlp
    have hw := with_at w1 x.1 x.2 hs (by omega)
    simp only [fnDref13_Shadow_Keep, fnref13_Shadow_Keep, nodeDref13_Shadow_Keep_n0, noderef13_Shadow_Keep_n0]
    rw [dec_true (show (0 : Int) < ((x :: r).length : Int) by rw [List.length_cons]; omega), cond_true, inR_true (by rw [List.length_cons]; omega), cond_true, List.getElem?_cons_zero, bindO_pure, hw, bindO_pure]
    rw [show (1 : Int) = ((0 + 1 : Nat) : Int) from rfl, show ins x.1 x.2 w1 = insAll w1 [x] from rfl, hy, bindO_pure, bindO_pure, if_pos (by rw [List.length_cons]; omega)]
    rfl

/-- All four agree. -/
structure Agree (n : Nat) (o2 o3 o4 o5 : Ths) : Prop where
  kept : Kin o2 o4
  loose : Kin o3 o5
  few : o2.length + o3.length ≤ n

theorem agree_keep {n : Nat} {o2 o3 o4 o5 : Ths} (h : Agree n o2 o3 o4 o5) : Kin (keepM 0 o2 o3) (insAll o4 o5) := by
  unfold keepM
  rw [kin_keysOf h.loose]
  refine kin_keepFold (fun k => mget k 0 o3) o5 o2 o4 (fun y hy => ?_) h.kept
  exact mget_mem 0 y o3 (kin_keys h.loose) (h.loose.perm.mem_iff.mpr hy)

theorem node2 (l : List (Int × Int × Int)) (t1 : Int) (j : Nat) (x : Int × Int × Int) (hj : l[j]? = some x) (o2 o3 o4 o5 : Ths) (n : Nat) (hn : n ≤ 200) (h : Agree n o2 o3 o4 o5) :
    ∃ p2 p3 p4 p5, nodeDlaw13_ShadowDoes_n2 (l, t1, (j : Int), x.1, o2, o3, o4, o5) = some (p2, p3, p4, p5) ∧ Agree (n + 1) p2 p3 p4 p5 := by
  have l2 := kin_length h.kept
  have l3 := kin_length h.loose
  have hf := h.few
  by_cases h0 : x.1 = 0
  · refine ⟨o2, mput x.2.1 x.2.2 o3, o4, ins x.2.1 x.2.2 o5, ?_, h.kept, kin_put h.loose _ _, ?_⟩
    · have hw := with_at o5 x.2.1 x.2.2 h.loose.srt (by omega)
      simp only [nodeDlaw13_ShadowDoes_n2, nodelaw13_ShadowDoes_n2, h0, beq_self_eq_true, cond_true, nth_of hj, bindO_pure, shadow_put_i, fnDref13_Shadow_Put, fnref13_Shadow_Put, hw]
    · have := (mput_length x.2.1 x.2.2 o3).2
      omega
  · have b0 : (x.1 == (0 : Int)) = false := by simpa using h0
    by_cases h1 : x.1 = 1
    · have b1 : (x.1 == (1 : Int)) = true := by simpa using h1
      have hk := agree_keep h
      have hlen := insAll_length o5 o4
      have hkl := kin_length hk
      refine ⟨keepM 0 o2 o3, [], insAll o4 o5, [], ?_, hk, kin_nil, by rw [List.length_nil]; omega⟩
      simp only [nodeDlaw13_ShadowDoes_n2, nodelaw13_ShadowDoes_n2, b0, b1, cond_true, cond_false, shadow_keep_i o2 o3 (by omega), bindO_pure, ref_keep o4 o5 h.kept.srt (by omega)]
      by_cases h5 : 0 < o5.length
      · rw [if_pos h5]; rfl
      · rw [if_neg h5]
        obtain rfl : o5 = [] := List.length_eq_zero_iff.mp (by omega)
        rfl
    · have b1 : (x.1 == (1 : Int)) = false := by simpa using h1
      by_cases h2 : x.1 = 2
      · have b2 : (x.1 == (2 : Int)) = true := by simpa using h2
        refine ⟨o2, [], o4, [], ?_, h.kept, kin_nil, by rw [List.length_nil]; omega⟩
        simp only [nodeDlaw13_ShadowDoes_n2, nodelaw13_ShadowDoes_n2, b0, b1, b2, cond_true, cond_false]
        rfl
      · have b2 : (x.1 == (2 : Int)) = false := by simpa using h2
        by_cases h3 : x.1 = 3
        · have b3 : (x.1 == (3 : Int)) = true := by simpa using h3
          refine ⟨[], o3, [], o5, ?_, kin_nil, h.loose, by rw [List.length_nil]; omega⟩
          simp only [nodeDlaw13_ShadowDoes_n2, nodelaw13_ShadowDoes_n2, b0, b1, b2, b3, cond_true, cond_false]
          rfl
        · have b3 : (x.1 == (3 : Int)) = false := by simpa using h3
          refine ⟨o2, o3, o4, o5, ?_, h.kept, h.loose, by omega⟩
          simp only [nodeDlaw13_ShadowDoes_n2, nodelaw13_ShadowDoes_n2, b0, b1, b2, b3, cond_false]

theorem node1 (l : List (Int × Int × Int)) (t1 : Int) (j : Nat) (x : Int × Int × Int) (hj : l[j]? = some x) (o2 o3 o4 o5 : Ths) (n : Nat) (hn : n ≤ 200) (h : Agree n o2 o3 o4 o5) :
    ∃ p2 p3 p4 p5, nodeDlaw13_ShadowDoes_n1 (l, t1, (j : Int), o2, o3, o4, o5) = some (.inr (p2, p3, p4, p5)) ∧ Agree (n + 1) p2 p3 p4 p5 := by
  obtain ⟨p2, p3, p4, p5, h2, ha⟩ := node2 l t1 j x hj o2 o3 o4 o5 n hn h
  refine ⟨p2, p3, p4, p5, ?_, ha⟩
  have l2 := kin_length ha.kept
  have l3 := kin_length ha.loose
  have hf := ha.few
  simp only [nodeDlaw13_ShadowDoes_n1, nodelaw13_ShadowDoes_n1, nth_of hj, bindO_pure, h2, unP, shadow_get_i, ref_get p4 p5 _ (show p4.length ≤ 1000000 by omega) (show p5.length ≤ 1000000 by omega),
    kin_has ha.kept, kin_has ha.loose, kin_get ha.kept, kin_get ha.loose]
  have n3 : ∀ (v : Int) (b : Bool), nodeDlaw13_ShadowDoes_n3 (l, t1, (j : Int), v, b, v, b, p2, p3, p4, p5) = some false := by
    intro v b
    simp only [nodeDlaw13_ShadowDoes_n3, nodelaw13_ShadowDoes_n3, bne_self_eq_false, cond_false, beq_self_eq_true, Bool.not_true, show fnDshadow_Shadow_int_Loose (p2, p3) = some (p3.length : Int) from rfl, bindO_pure, l3]
  cases mhas x.2.1 p5 <;> simp only [Bool.false_eq_true, if_false, if_true, n3, bindO_pure, cond_false]

theorem same_run (w : Ths) (m : Ths) (most : Int) (hk : Kin m w) (hl : w.length ≤ 1000000) : ∀ (r : Ths) (p : Nat), p ≤ w.length → w.drop p = r → (p : Int) < (if (1 : Int) > most then 1 else most) →
    eachRun (fun k (s : Bool × Int) => fnDlaw13_same_1 (k, mget k 0 m, s.1, s.2, w, most, m)) (r.map Prod.fst) (true, (p : Int)) =
      some (true, if (if (1 : Int) > most then 1 else most) < (w.length : Int) then (if (1 : Int) > most then 1 else most) else (w.length : Int))
  | [], p, hpl, hd, hp => by
    have : p = w.length := by
      have := congrArg List.length hd
      rw [List.length_drop, List.length_nil] at this
      omega
    subst this
    rw [List.map_nil, eachRun, if_neg (by omega)]
  | x :: r, p, hpl, hd, hp => by
    have hlt : p < w.length := by
      have := congrArg List.length hd
      rw [List.length_drop, List.length_cons] at this
      omega
    have hx : w[p]? = some x := by
      have := congrArg (·[0]?) hd
      simpa using this
    have hd2 : w.drop (p + 1) = r := by
      have := congrArg List.tail hd
      simpa using this
    have hm : mget x.1 0 m = x.2 := mget_mem 0 x m (kin_keys hk) (hk.perm.mem_iff.mpr (List.mem_of_getElem? hx))
    have h1 : fnDlaw13_same_1 (x.1, mget x.1 0 m, true, (p : Int), w, most, m) = some (decide (((p + 1 : Nat) : Int) < most), true, ((p + 1 : Nat) : Int)) := by
      simp only [fnDlaw13_same_1, fnlaw13_same_1, nodeDlaw13_same_1_n0, nodelaw13_same_1_n0, cond_true, dec_true (show (p : Int) < (w.length : Int) by omega), nth_of hx, bindO_pure, hm, beq_self_eq_true, Bool.and_true, wrap64_nat (show p < 9223372036854775807 by omega)]
    rw [List.map_cons, eachRun]
    dsimp only
    rw [h1, bindO_pure]
    dsimp only
    by_cases hmo : ((p + 1 : Nat) : Int) < most
    · rw [dec_true hmo, cond_true]
      exact same_run w m most hk hl r (p + 1) (by omega) hd2 (by split <;> omega)
    · rw [dec_false hmo, cond_false]
      have : ((p + 1 : Nat) : Int) = (if (1 : Int) > most then 1 else most) := by
        split at hp <;> split <;> omega
      rw [← this]
      congr 2
      split <;> omega
theorem same_true (w m : Ths) (most : Int) (hk : Kin m w) (hl : w.length ≤ 1000000) : fnDlaw13_same (w, most, m) = some (true, m) := by
  have h := same_run w m most hk hl w 0 (Nat.zero_le _) rfl (by split <;> omega)
  have h2 : eachRun (fun k (s : Bool × Int) => fnDlaw13_same_1 (k, mget k 0 m, s.1, s.2, w, most, m)) (w.map Prod.fst) (true, (0 : Int)) = _ := h
  have he : fnDeach_same (true, (0 : Int), w, most, m) = some (true, (if (if (1 : Int) > most then 1 else most) < (w.length : Int) then (if (1 : Int) > most then 1 else most) else (w.length : Int)), w, most, m) := by
    unfold fnDeach_same
    dsimp only
    rw [ble_true (by rw [kin_length hk]; omega), cond_true, kin_keysOf hk, h2]
    rfl
  simp only [fnDlaw13_same, fnlaw13_same, he, bindO_pure, unP, nodeDlaw13_same_n0, nodelaw13_same_n0, cond_true, beq_self_eq_true]

theorem ShadowDoes_true (l : List (Int × Int × Int)) (most : Int) : fnDlaw13_ShadowDoes (l, most) = some true := by
  simp only [fnDlaw13_ShadowDoes, fnlaw13_ShadowDoes, works_true, bindO_pure, Bool.not_true, cond_false]
  by_cases hl : l.length ≤ 200
  · rw [dec_false (show ¬ (l.length : Int) > 200 by omega), cond_false, show fnDshadow_New_int () = some () from rfl, bindO_pure]
    have hlp : ∃ y, loopD (stepDlaw13_ShadowDoes_n0 (l, most)) FUEL (((0 : Nat) : Int), [], [], [], []) = some y ∧ ∃ p2 p3 p4 p5, y = .inr (p2, p3, p4, p5) ∧ Agree 201 p2 p3 p4 p5 := by
      refine loopD_each l (fun j (s : Ths × Ths × Ths × Ths) => ((j : Int), s)) (fun j s => Agree j s.1 s.2.1 s.2.2.1 s.2.2.2) _ ?_ ?_ (s0 := ([], [], [], [])) ⟨kin_nil, kin_nil, by simp⟩ (by omega)
      · rintro j x ⟨o2, o3, o4, o5⟩ hj hlt hi
        obtain ⟨p2, p3, p4, p5, h1, ha⟩ := node1 l most j x hj o2 o3 o4 o5 j (by omega) hi
        refine .inl ⟨(p2, p3, p4, p5), ?_, ha⟩
        simp only [stepDlaw13_ShadowDoes_n0, steplaw13_ShadowDoes_n0, dec_true (show (j : Int) < (l.length : Int) by omega), cond_true, h1, bindO_pure, Sum.elim_inr, unP]
        rw [wrap64_nat (by omega)]
      · rintro ⟨o2, o3, o4, o5⟩ hi
        refine ⟨.inr (o2, o3, o4, o5), ?_, o2, o3, o4, o5, rfl, hi.kept, hi.loose, Nat.le_trans hi.few (by omega)⟩
        simp only [stepDlaw13_ShadowDoes_n0, steplaw13_ShadowDoes_n0, dec_false (show ¬ (l.length : Int) < (l.length : Int) by omega), cond_false]
    obtain ⟨y, hy, p2, p3, p4, p5, rfl, ha⟩ := hlp
    have l2 := kin_length ha.kept
    have l3 := kin_length ha.loose
    have hf := ha.few
    have hy2 : loopD (stepDlaw13_ShadowDoes_n0 (l, most)) FUEL ((0 : Int), [], [], [], []) = some (.inr (p2, p3, p4, p5)) := hy
    rw [hy2, bindO_pure]
    simp only [Sum.elim_inr, unP, nodeDlaw13_ShadowDoes_n4, nodelaw13_ShadowDoes_n4, show fnDshadow_Shadow_int_Fresh (p2, p3) = some () from rfl, show fnDshadow_Shadow_int_Kept (p2, p3) = some () from rfl, bindO_pure,
      same_true p5 p3 _ ha.loose (by omega), same_true p4 p2 _ ha.kept (by omega), cond_true]
  · rw [dec_true (show (l.length : Int) > 200 by omega), cond_true]
end Go.Proofs.R6
