/- What the functions that EntryBackSaid reaches compute: part 3. -/
import Derived.Test.YtbhnbhhlmfdepaaOwnEntryBackSaid2
set_option linter.unusedVariables false
set_option linter.unusedSimpArgs false
namespace Go.Proofs.R2
open Go Go.AE Go.Plain
theorem law17_EntryBack_turned (p0 : List UInt8) (m0 m1 m2 m3 m4 m5 m6 m7 m8 m9 : Int) (k : Nat) (hk : k ≤ 1000) (o : List Int) (hl : o.length ≤ 1000) : ∃ o', nodeDlaw17_EntryBack_n3 (p0, (k : Int), m0, m1, m2, m3, m4, m5, m6, m7, m8, m9, o) = some o' ∧ Turned k o o' := by
  have r0 : ∀ o : List Int, o.length ≤ 1000 → ∃ v, nodeDlaw17_EntryBack_n4 (p0, (k : Int), m0, m1, m2, m3, m4, m5, m6, m7, m8, m9, o) = some (if k + 0 < o.length then .inl (o.set (k + 0) v) else .inr ()) := by
    intro o hl
    have w : IntKind.wrap .i64 ((k : Int) + 0) = ((k + 0 : Nat) : Int) := by rw [wrap64 (by omega) (by omega)]; omega
    simp only [nodeDlaw17_EntryBack_n4, nodelaw17_EntryBack_n4, nodeDlaw17_EntryBack_n5, nodelaw17_EntryBack_n5, bindO_pure, w]
    by_cases h : k + 0 < o.length
    · have hx : o[k + 0]? = some o[k + 0] := List.getElem?_eq_getElem h
      generalize o[k + 0] = x at hx
      simp only [dec_true (show ((k + 0 : Nat) : Int) < (o.length : Int) by omega), inR_true (show (0 : Int) ≤ ((k + 0 : Nat) : Int) ∧ ((k + 0 : Nat) : Int) < (o.length : Int) by omega), cond_true, Int.toNat_natCast, hx, bindO_pure, if_pos h]
      exact ⟨_, rfl⟩
    · simp only [dec_false (show ¬ ((k + 0 : Nat) : Int) < (o.length : Int) by omega), cond_false, if_neg h]
      first | exact ⟨0, rfl⟩ | exact ⟨0, True.intro⟩
  have r1 : ∀ o : List Int, o.length ≤ 1000 → ∃ v, nodeDlaw17_EntryBack_n4v1 (p0, (k : Int), m0, m1, m2, m3, m4, m5, m6, m7, m8, m9, o) = some (if k + 1 < o.length then .inl (o.set (k + 1) v) else .inr ()) := by
    intro o hl
    have w : IntKind.wrap .i64 ((k : Int) + 1) = ((k + 1 : Nat) : Int) := by rw [wrap64 (by omega) (by omega)]; omega
    simp only [nodeDlaw17_EntryBack_n4v1, nodelaw17_EntryBack_n4v1, nodeDlaw17_EntryBack_n5v1, nodelaw17_EntryBack_n5v1, bindO_pure, w]
    by_cases h : k + 1 < o.length
    · have hx : o[k + 1]? = some o[k + 1] := List.getElem?_eq_getElem h
      generalize o[k + 1] = x at hx
      simp only [dec_true (show ((k + 1 : Nat) : Int) < (o.length : Int) by omega), inR_true (show (0 : Int) ≤ ((k + 1 : Nat) : Int) ∧ ((k + 1 : Nat) : Int) < (o.length : Int) by omega), cond_true, Int.toNat_natCast, hx, bindO_pure, if_pos h]
      exact ⟨_, rfl⟩
    · simp only [dec_false (show ¬ ((k + 1 : Nat) : Int) < (o.length : Int) by omega), cond_false, if_neg h]
      first | exact ⟨0, rfl⟩ | exact ⟨0, True.intro⟩
  have r2 : ∀ o : List Int, o.length ≤ 1000 → ∃ v, nodeDlaw17_EntryBack_n4v2 (p0, (k : Int), m0, m1, m2, m3, m4, m5, m6, m7, m8, m9, o) = some (if k + 2 < o.length then .inl (o.set (k + 2) v) else .inr ()) := by
    intro o hl
    have w : IntKind.wrap .i64 ((k : Int) + 2) = ((k + 2 : Nat) : Int) := by rw [wrap64 (by omega) (by omega)]; omega
    simp only [nodeDlaw17_EntryBack_n4v2, nodelaw17_EntryBack_n4v2, nodeDlaw17_EntryBack_n5v2, nodelaw17_EntryBack_n5v2, bindO_pure, w]
    by_cases h : k + 2 < o.length
    · have hx : o[k + 2]? = some o[k + 2] := List.getElem?_eq_getElem h
      generalize o[k + 2] = x at hx
      simp only [dec_true (show ((k + 2 : Nat) : Int) < (o.length : Int) by omega), inR_true (show (0 : Int) ≤ ((k + 2 : Nat) : Int) ∧ ((k + 2 : Nat) : Int) < (o.length : Int) by omega), cond_true, Int.toNat_natCast, hx, bindO_pure, if_pos h]
      exact ⟨_, rfl⟩
    · simp only [dec_false (show ¬ ((k + 2 : Nat) : Int) < (o.length : Int) by omega), cond_false, if_neg h]
      first | exact ⟨0, rfl⟩ | exact ⟨0, True.intro⟩
  have r3 : ∀ o : List Int, o.length ≤ 1000 → ∃ v, nodeDlaw17_EntryBack_n4v3 (p0, (k : Int), m0, m1, m2, m3, m4, m5, m6, m7, m8, m9, o) = some (if k + 3 < o.length then .inl (o.set (k + 3) v) else .inr ()) := by
    intro o hl
    have w : IntKind.wrap .i64 ((k : Int) + 3) = ((k + 3 : Nat) : Int) := by rw [wrap64 (by omega) (by omega)]; omega
    simp only [nodeDlaw17_EntryBack_n4v3, nodelaw17_EntryBack_n4v3, nodeDlaw17_EntryBack_n5v3, nodelaw17_EntryBack_n5v3, bindO_pure, w]
    by_cases h : k + 3 < o.length
    · have hx : o[k + 3]? = some o[k + 3] := List.getElem?_eq_getElem h
      generalize o[k + 3] = x at hx
      simp only [dec_true (show ((k + 3 : Nat) : Int) < (o.length : Int) by omega), inR_true (show (0 : Int) ≤ ((k + 3 : Nat) : Int) ∧ ((k + 3 : Nat) : Int) < (o.length : Int) by omega), cond_true, Int.toNat_natCast, hx, bindO_pure, if_pos h]
      exact ⟨_, rfl⟩
    · simp only [dec_false (show ¬ ((k + 3 : Nat) : Int) < (o.length : Int) by omega), cond_false, if_neg h]
      first | exact ⟨0, rfl⟩ | exact ⟨0, True.intro⟩
  simp only [nodeDlaw17_EntryBack_n3, nodelaw17_EntryBack_n3]
  obtain ⟨v0, h0⟩ := r0 o hl
  rw [h0, bindO_pure]
  by_cases c0 : k + 0 < (o).length
  rotate_left
  · rw [if_neg c0, Sum.elim_inr]
    exact ⟨_, rfl, Turned.refl k o⟩
  rw [if_pos c0, Sum.elim_inl]
  obtain ⟨v1, h1⟩ := r1 ((o).set (k + 0) v0) (by rw [List.length_set]; exact hl)
  rw [h1, bindO_pure]
  by_cases c1 : k + 1 < ((o).set (k + 0) v0).length
  rotate_left
  · rw [if_neg c1, Sum.elim_inr]
    exact ⟨_, rfl, (Turned.refl k o).set ⟨by omega, by omega⟩ v0⟩
  rw [if_pos c1, Sum.elim_inl]
  obtain ⟨v2, h2⟩ := r2 (((o).set (k + 0) v0).set (k + 1) v1) (by rw [List.length_set]; exact (by rw [List.length_set]; exact hl))
  rw [h2, bindO_pure]
  by_cases c2 : k + 2 < (((o).set (k + 0) v0).set (k + 1) v1).length
  rotate_left
  · rw [if_neg c2, Sum.elim_inr]
    exact ⟨_, rfl, ((Turned.refl k o).set ⟨by omega, by omega⟩ v0).set ⟨by omega, by omega⟩ v1⟩
  rw [if_pos c2, Sum.elim_inl]
  obtain ⟨v3, h3⟩ := r3 ((((o).set (k + 0) v0).set (k + 1) v1).set (k + 2) v2) (by rw [List.length_set]; exact (by rw [List.length_set]; exact (by rw [List.length_set]; exact hl)))
  rw [h3, bindO_pure]
  by_cases c3 : k + 3 < ((((o).set (k + 0) v0).set (k + 1) v1).set (k + 2) v2).length
  rotate_left
  · rw [if_neg c3, Sum.elim_inr]
    exact ⟨_, rfl, (((Turned.refl k o).set ⟨by omega, by omega⟩ v0).set ⟨by omega, by omega⟩ v1).set ⟨by omega, by omega⟩ v2⟩
  rw [if_pos c3, Sum.elim_inl]
  exact ⟨_, rfl, ((((Turned.refl k o).set ⟨by omega, by omega⟩ v0).set ⟨by omega, by omega⟩ v1).set ⟨by omega, by omega⟩ v2).set ⟨by omega, by omega⟩ v3⟩

theorem putN_in (s : List UInt8) {n : Int} {k : Nat} (h : 0 ≤ n ∧ n < ((256 ^ k : Nat) : Int)) : putN s n k = s ++ be k n.toNat := by unfold putN; rw [if_pos h]
theorem oneE_may (s : List UInt8) {a b k : Int} (h : MayE a b k) : oneE s a b k = s ++ (be 7 a.toNat ++ (be 7 b.toNat ++ be 1 (k + 1).toNat)) := by
  obtain ⟨h1, h2, h3⟩ := h
  unfold oneE
  rw [putN_in _ (k := 7) (n := a) (by omega), putN_in _ (k := 7) (n := b) (by omega), putN_in _ (k := 1) (n := k + 1) (by omega)]
  simp
theorem partE (s r : List UInt8) {a b k : Int} (h : MayE a b k) (i : Nat) (hi : s.length = i) (m : List UInt8) (hm : m = s ++ (be 7 a.toNat ++ (be 7 b.toNat ++ be 1 (k + 1).toNat)) ++ r) :
    (m.drop i).take 7 = be 7 a.toNat ∧ (m.drop (i + 7)).take 7 = be 7 b.toNat ∧ (m.drop (i + 14)).take 1 = be 1 (k + 1).toNat := by
  subst hm
  subst hi
  have d : ∀ j, ((s ++ (be 7 a.toNat ++ (be 7 b.toNat ++ be 1 (k + 1).toNat)) ++ r).drop (s.length + j)) = ((be 7 a.toNat ++ (be 7 b.toNat ++ be 1 (k + 1).toNat)) ++ r).drop j := by
    intro j
    rw [List.append_assoc, List.drop_append, List.drop_eq_nil_of_le (by omega), List.nil_append, Nat.add_sub_cancel_left]
  have d0 := d 0
  rw [Nat.add_zero, List.drop_zero] at d0
  have la := be_length 7 a.toNat
  have lb := be_length 7 b.toNat
  have lk := be_length 1 (k + 1).toNat
  refine ⟨?_, ?_, ?_⟩
  · rw [d0, List.append_assoc, List.take_append_of_le_length (by omega), List.take_of_length_le (by omega)]
  · rw [d 7, List.append_assoc, List.drop_append_of_le_length (by omega), List.drop_eq_nil_of_le (by omega), List.nil_append, List.append_assoc, List.take_append_of_le_length (by omega), List.take_of_length_le (by omega)]
  · rw [d 14, List.append_assoc, List.append_assoc, ← List.append_assoc (be 7 a.toNat), List.drop_append_of_le_length (by rw [List.length_append]; omega), List.drop_eq_nil_of_le (by rw [List.length_append]; omega), List.nil_append, List.take_append_of_le_length (by omega), List.take_of_length_le (by omega)]
theorem bodyE_len {a b k c d l : Int} (h : MayE a b k) (h' : MayE c d l) : (bodyE a b k c d l).length = 31 := by
  unfold bodyE
  rw [oneE_may _ h', oneE_may _ h]
  simp [be_length]
theorem sectE_sealed {a b k c d l : Int} (h : MayE a b k) (h' : MayE c d l) : Sealed 31 (sectE a b k c d l) := ⟨bodyE a b k c d l, bodyE_len h h', rfl⟩
theorem sectE_get {a b k c d l : Int} (h : MayE a b k) (h' : MayE c d l) : getE (sectE a b k c d l) = (a, b, k, c, d, l, 0) := by
  have hs := sectE_sealed h h'
  have hlen := hs.length (by omega)
  have hb := bodyE_len h h'
  have e : sectE a b k c d l = bodyE a b k c d l ++ (tail (bodyE a b k c d l) ++ List.replicate (60 - 31) 0) := by
    unfold sectE
    rw [padTo_sealed (by omega), hb, List.append_assoc]
  have t31 : (sectE a b k c d l).take 31 = bodyE a b k c d l := by rw [e, List.take_append_of_le_length (by omega), List.take_of_length_le (by omega)]
  have d31 : ((sectE a b k c d l).drop 31).take 4 = tail (bodyE a b k c d l) := by
    rw [e, List.drop_append_of_le_length (by omega), List.drop_eq_nil_of_le (by omega), List.nil_append, List.take_append_of_le_length (by rw [tail_length]; omega), List.take_of_length_le (by rw [tail_length]; omega)]
  have hm1 : sectE a b k c d l = [69] ++ (be 7 a.toNat ++ (be 7 b.toNat ++ be 1 (k + 1).toNat)) ++ (be 7 c.toNat ++ (be 7 d.toNat ++ be 1 (l + 1).toNat) ++ (tail (bodyE a b k c d l) ++ List.replicate (60 - 31) 0)) := by
    rw [e]
    conv => lhs; arg 1; unfold bodyE
    rw [oneE_may _ h', oneE_may _ h]
    simp only [List.append_assoc]
  have hm2 : sectE a b k c d l = ([69] ++ (be 7 a.toNat ++ (be 7 b.toNat ++ be 1 (k + 1).toNat))) ++ (be 7 c.toNat ++ (be 7 d.toNat ++ be 1 (l + 1).toNat)) ++ (tail (bodyE a b k c d l) ++ List.replicate (60 - 31) 0) := by
    rw [hm1]
    simp only [List.append_assoc]
  obtain ⟨p1, p2, p3⟩ := partE _ _ h 1 (by simp) _ hm1
  obtain ⟨p4, p5, p6⟩ := partE _ _ h' 16 (by simp [be_length]) _ hm2
  obtain ⟨ha, hbb, hk1, hk2⟩ := h
  obtain ⟨hc, hd, hl1, hl2⟩ := h'
  generalize hS : sectE a b k c d l = S at *
  have n1 : nE S 1 7 = a := by show ((num ((S.drop 1).take 7) : Nat) : Int) = a; rw [p1, num_be_small (by omega)]; omega
  have n2 : nE S 8 7 = b := by show ((num ((S.drop 8).take 7) : Nat) : Int) = b; rw [p2, num_be_small (by omega)]; omega
  have n3 : nE S 15 1 = k + 1 := by show ((num ((S.drop 15).take 1) : Nat) : Int) = k + 1; rw [p3, num_be_small (by omega)]; omega
  have n4 : nE S 16 7 = c := by show ((num ((S.drop 16).take 7) : Nat) : Int) = c; rw [p4, num_be_small (by omega)]; omega
  have n5 : nE S 23 7 = d := by show ((num ((S.drop 23).take 7) : Nat) : Int) = d; rw [p5, num_be_small (by omega)]; omega
  have n6 : nE S 30 1 = l + 1 := by show ((num ((S.drop 30).take 1) : Nat) : Int) = l + 1; rw [p6, num_be_small (by omega)]; omega
  have h1 : S.take 1 = [69] := by rw [hm1]; rfl
  have hp : putE a b k c d l = (S, 0) := by
    unfold putE
    rw [if_neg (fun x => x ⟨ha, hbb, hk1, hk2⟩), if_neg (fun x => x ⟨hc, hd, hl1, hl2⟩), hS]
  unfold getE
  rw [if_neg (fun x => x hlen), if_neg (fun x => x h1), if_neg (fun x => x (by rw [d31, t31])), n1, n2, n3, n4, n5, n6, Int.add_sub_cancel, Int.add_sub_cancel, hp]
  unfold finE
  rw [if_pos rfl]
theorem getE_ok {t : List UInt8} (h : (getE t).2.2.2.2.2.2 = 0) : ∃ a b k c d l, MayE a b k ∧ MayE c d l ∧ t = sectE a b k c d l ∧ getE t = (a, b, k, c, d, l, 0) := by
  unfold getE at h
  split at h
  · simp at h
  · split at h
    · simp at h
    · split at h
      · simp at h
      · unfold finE at h
        split at h
        · rename_i hp
          generalize nE t 1 7 = a at hp
          generalize nE t 8 7 = b at hp
          generalize nE t 15 1 - 1 = k at hp
          generalize nE t 16 7 = c at hp
          generalize nE t 23 7 = d at hp
          generalize nE t 30 1 - 1 = l at hp
          unfold putE at hp
          split at hp
          · have := congrArg Prod.snd hp; simp at this
          · split at hp
            · have := congrArg Prod.snd hp; simp at this
            · rename_i hm hm'
              have hm := Classical.not_not.1 hm
              have hm' := Classical.not_not.1 hm'
              have : t = sectE a b k c d l := (congrArg Prod.fst hp).symm
              exact ⟨a, b, k, c, d, l, hm, hm', this, by rw [this]; exact sectE_get hm hm'⟩
        · simp at h
theorem EntryBack_true (a b k c d l at_ b0 b1 b2 b3 : Int) (text : List UInt8) (ht : text.length ≤ 9223372036854775807) : fnDlaw17_EntryBack (a, b, k, c, d, l, at_, b0, b1, b2, b3, text) = some true := by
  simp only [fnDlaw17_EntryBack, fnlaw17_EntryBack, works17, bindO_pure, Bool.not_true, cond_false]
  by_cases h1 : (text.length : Int) > 3000
  · rw [dec_true h1]; rfl
  rw [dec_false h1, cond_false, get_eq text (by omega), bindO_pure]
  have first : ∀ (K : Option Bool), (unP fun r_0_0 => unP fun r_0_1 => unP fun r_0_2 => unP fun r_0_3 => unP fun r_0_4 => unP fun r_0_5 r_1 => bindO (fnDentry_Put (r_0_0, r_0_1, r_0_2, r_0_3, r_0_4, r_0_5)) (unP fun r_0 r_1_2 =>
      bindO (nodeDlaw17_EntryBack_n0 (at_, text, r_1, r_0, r_1_2, a, b, k, c, d, l, b0, b1, b2, b3)) fun t47 => bif t47 then some false else K)) (getE text) = K := by
    intro K
    by_cases h0 : (getE text).2.2.2.2.2.2 = 0
    · obtain ⟨a', b', k', c', d', l', hm, hm', hT, hg⟩ := getE_ok h0
      have hp : putE a' b' k' c' d' l' = (text, 0) := by
        unfold putE
        rw [if_neg (fun x => x hm), if_neg (fun x => x hm'), hT]
      rw [hg]
      simp only [unP_mk, put_eq, hp, bindO_pure, nodeDlaw17_EntryBack_n0, nodelaw17_EntryBack_n0]
      simp [bindO_pure]
    · generalize getE text = g at h0
      obtain ⟨x1, x2, x3, x4, x5, x6, x7⟩ := g
      simp only at h0
      simp only [unP_mk, put_eq, bindO_pure]
      generalize putE x1 x2 x3 x4 x5 x6 = p
      obtain ⟨p1, p2⟩ := p
      have b1 : (x7 == 0) = false := beq_eq_false_iff_ne.2 h0
      simp only [unP_mk, nodeDlaw17_EntryBack_n0, nodelaw17_EntryBack_n0, b1, cond_false, bindO_pure]
  rw [first]
  by_cases h : MayE a b k ∧ MayE c d l
  · obtain ⟨h, h'⟩ := h
    have hs := sectE_sealed h h'
    have hlen := hs.length (by omega)
    have hg := sectE_get h h'
    have hp : putE a b k c d l = (sectE a b k c d l, 0) := by
      unfold putE
      rw [if_neg (fun x => x h), if_neg (fun x => x h')]
    rw [put_eq, hp]
    generalize sectE a b k c d l = S at *
    have il : (intsOf S).length = 64 := by rw [intsOf, List.length_map, hlen]
    have n1 : nodeDlaw17_EntryBack_n1 (at_, S, 0, a, b, k, c, d, l, b0, b1, b2, b3) = some false := by
      simp only [nodeDlaw17_EntryBack_n1, nodelaw17_EntryBack_n1, hlen]; rfl
    have u64 : IntKind.wrap .u64 ((64 : Nat) : Int) = 64 := by decide
    obtain ⟨j, hj, hjl⟩ : ∃ j : Nat, IntKind.wrap .i64 (Int.tmod (IntKind.wrap .u64 at_) 64) = (j : Int) ∧ j < 64 := by
      have h0 : 0 ≤ IntKind.wrap .u64 at_ := by simp [IntKind.wrap, IntKind.bits, IntKind.signed]; omega
      obtain ⟨m, hm⟩ := Int.eq_ofNat_of_zero_le h0
      refine ⟨m % 64, ?_, by omega⟩
      rw [hm]
      have : Int.tmod (m : Int) 64 = ((m % 64 : Nat) : Int) := rfl
      rw [this, wrapN (by omega)]
    obtain ⟨o', ho, hto⟩ := law17_EntryBack_turned S a b k c d l b0 b1 b2 b3 j (by omega) (intsOf S) (by omega)
    have htb : Turned j S (bytesOf o') := by
      have := hto.map (fun n : Int => UInt8.ofNat n.toNat)
      rw [show (intsOf S).map (fun n : Int => UInt8.ofNat n.toNat) = S from bytes_ints S] at this
      exact this
    have z0 : ((64 : Int) == 0) = false := rfl
    simp only [unP_mk, n1, bindO_pure, cond_false, hlen, ble_true (show (64 : Nat) ≤ 140737488355328 by omega), cond_true, il, u64, z0, hj, ho]
    obtain ⟨B, hBe⟩ : ∃ B, bytesOf o' = B := ⟨_, rfl⟩
    rw [hBe] at htb
    have hB : B.length = 64 := by rw [htb.len, hlen]
    have key : (getE B).2.2.2.2.2.2 = 0 ↔ B = S := by
      constructor
      · intro h0
        obtain ⟨_, _, _, _, _, _, hm, hm', hB2, _⟩ := getE_ok h0
        exact Sealed.turned hs (hB2 ▸ sectE_sealed hm hm') (by omega) htb
      · intro e; rw [e, hg]
    rw [hBe, get_eq S (by omega), bindO_pure, hg, get_eq B (by omega)]
    simp only [unP_mk, bindO_pure]
    by_cases hBS : B = S
    · rw [hBS, hg]
      simp only [unP_mk, nodeDlaw17_EntryBack_n6, nodelaw17_EntryBack_n6, hBe, hBS]
      simp [bindO_pure]
    · have h0 : (getE B).2.2.2.2.2.2 ≠ 0 := fun x => hBS (key.1 x)
      generalize getE B = g at h0
      obtain ⟨x1, x2, x3, x4, x5, x6, x7⟩ := g
      simp only at h0
      have c1 : (x7 == 0) = false := beq_eq_false_iff_ne.2 h0
      have c2 : (B == S) = false := beq_eq_false_iff_ne.2 hBS
      simp only [unP_mk, nodeDlaw17_EntryBack_n6, nodelaw17_EntryBack_n6, hBe, c1, c2]
      simp [bindO_pure]
  · have hp : putE a b k c d l = ([], 3) := by
      unfold putE
      by_cases hm : MayE a b k
      · rw [if_neg (fun x => x hm), if_pos (fun x => h ⟨hm, x⟩)]
      · rw [if_pos hm]
    rw [put_eq, hp]
    rfl
end Go.Proofs.R2
