/- What the functions that LogrecBackSaid reaches compute: part 4. -/
import Derived.Test.YtbhnbhhlmfdepaaOwnLogrecBackSaid3
set_option linter.unusedVariables false
set_option linter.unusedSimpArgs false
namespace Go.Proofs.R2
open Go Go.AE Go.Plain

theorem wrapU32 {m : Nat} (h : m < 4294967296) : IntKind.wrap .u32 (m : Int) = (m : Int) := by
  simp [IntKind.wrap, IntKind.bits, IntKind.signed]; omega
theorem wrapU8 (m : Nat) : IntKind.wrap .u8 (m : Int) = ((m % 256 : Nat) : Int) := by
  simp [IntKind.wrap, IntKind.bits, IntKind.signed]
theorem natU32 {m : Nat} (h : m < 4294967296) : Int.toNat ((m : Int) % 4294967296) = m := by omega
theorem nat64 {m : Nat} (h : m < 9223372036854775808) : Int.toNat ((m : Int) % 18446744073709551616) = m := by omega
theorem wrapN {m : Nat} (h : m ≤ 9223372036854775807) : IntKind.wrap .i64 (m : Int) = (m : Int) := wrap64 (by omega) (by omega)
theorem pow_min (a b : Nat) : (2 : Int) ^ min a b = ((2 ^ min a b : Nat) : Int) := by simp
theorem fdiv_nat (m p : Nat) : Int.fdiv (m : Int) (p : Int) = ((m / p : Nat) : Int) := by rw [Int.fdiv_eq_ediv_of_nonneg _ (by omega)]; rfl
theorem tdiv_nat (m p : Nat) : Int.tdiv (m : Int) (p : Int) = ((m / p : Nat) : Int) := rfl
theorem tmod_nat (m p : Nat) : Int.tmod (m : Int) (p : Int) = ((m % p : Nat) : Int) := rfl

/-! ### cyclic -/
theorem bitStep_eq {n : Nat} (h : n < 4294967296) : IntKind.wrap .u32 (((Int.toNat (Int.fdiv (n : Int) 2 % 4294967296) ^^^ Int.toNat (IntKind.wrap .u32 (((3988292384 &&&
    Int.toNat (IntKind.wrap .u32 ((0 : Int) - IntKind.wrap .u32 (((Int.toNat ((n : Int) % 4294967296) &&& 1 : Nat)) : Int)) % 4294967296) : Nat)) : Int) % 4294967296) : Nat)) : Int) = ((bitStep n : Nat) : Int) := by
  have e1 : Int.fdiv (n : Int) 2 = ((n / 2 : Nat) : Int) := fdiv_nat n 2
  rw [e1, natU32 (m := n / 2) (by omega), natU32 h, Nat.and_one_is_mod]
  have hlt := bitStep_lt (n := n) (by omega)
  unfold bitStep at hlt ⊢
  have hn : n % 2 = 0 ∨ n % 2 = 1 := by omega
  rcases hn with hn | hn <;> rw [hn] at hlt ⊢
  · have : Int.toNat (IntKind.wrap .u32 (((3988292384 &&& Int.toNat (IntKind.wrap .u32 ((0 : Int) - IntKind.wrap .u32 ((0 : Nat) : Int)) % 4294967296) : Nat)) : Int) % 4294967296) = 0 := by decide
    rw [this]
    exact wrapU32 hlt
  · have : Int.toNat (IntKind.wrap .u32 (((3988292384 &&& Int.toNat (IntKind.wrap .u32 ((0 : Int) - IntKind.wrap .u32 ((1 : Nat) : Int)) % 4294967296) : Nat)) : Int) % 4294967296) = poly := by decide
    rw [this]
    exact wrapU32 hlt
theorem bits_succ (k n : Nat) : nbits (k + 1) n = bitStep (nbits k n) := by rw [← bits_add k 1]; rfl
theorem cyclic_step_eq {n c : Nat} (hn : n < 4294967296) (hc : c < 256) : fnDcyclic_step ((n : Int), (c : Int)) = some ((byteStep n c : Nat) : Int) := by
  have hx : n ^^^ c < 4294967296 := Nat.xor_lt_two_pow (n := 32) hn (by omega)
  have key : ∃ y, loopD (stepDcyclic_step_n0 ()) FUEL (((n ^^^ c : Nat) : Int), (0 : Int)) = some y ∧ y = ((byteStep n c : Nat) : Int) := by
    refine loopD_inv (fun j v => j ≤ 8 ∧ v = (((nbits j (n ^^^ c) : Nat) : Int), (j : Int))) 8 _ ?_ ⟨by omega, rfl⟩ (by omega)
    rintro j v ⟨hj, rfl⟩
    have hb := bits_lt j (n := n ^^^ c) hx
    by_cases h8 : j < 8
    · left
      refine ⟨_, ?_, h8, by omega, rfl⟩
      simp only [stepDcyclic_step_n0, stepcyclic_step_n0, dec_true (show (j : Int) < 8 by omega), cond_true]
      rw [bitStep_eq hb, wrap64_nat (by omega), bits_succ]
    · right
      obtain rfl : j = 8 := by omega
      refine ⟨_, ?_, rfl⟩
      simp only [stepDcyclic_step_n0, stepcyclic_step_n0, dec_false (show ¬ ((8 : Nat) : Int) < 8 by omega), cond_false]
      rfl
  obtain ⟨y, hy, rfl⟩ := key
  have e : IntKind.wrap .u32 (((Int.toNat ((n : Int) % 4294967296) ^^^ Int.toNat (IntKind.wrap .u32 (c : Int) % 4294967296) : Nat)) : Int) = ((n ^^^ c : Nat) : Int) := by
    rw [natU32 hn, wrapU32 (m := c) (by omega), natU32 (m := c) (by omega), wrapU32 hx]
  simp only [fnDcyclic_step, fncyclic_step]
  rw [e, hy]
  rfl
theorem run_take (m : Nat) {s : List UInt8} {j : Nat} {c : UInt8} (h : s[j]? = some c) : crun m (s.take (j + 1)) = byteStep (crun m (s.take j)) c.toNat := by
  rw [List.take_add_one, h, run_append]; rfl
theorem xor_all {n : Nat} (hn : n < 4294967296) : IntKind.wrap .u32 (((Int.toNat ((n : Int) % 4294967296) ^^^ 4294967295 : Nat)) : Int) = ((n ^^^ all32 : Nat) : Int) := by
  rw [natU32 hn, wrapU32 (Nat.xor_lt_two_pow (n := 32) hn (by decide))]
  rfl
theorem cyclic_Of_eq (s : List UInt8) (hs : s.length ≤ 1000000000000) : fnDcyclic_Of s = some ((crc s : Nat) : Int) := by
  have key : ∃ y, loopD (stepDcyclic_State_Add_n0 (s, (s.length : Int), 0)) FUEL (((all32 : Nat) : Int), ((0 : Nat) : Int)) = some y ∧ y = ((crun all32 s : Nat) : Int) := by
    refine loopD_each s (fun j (_ : Unit) => (((crun all32 (s.take j) : Nat) : Int), (j : Int))) (fun _ _ => True) _ ?_ ?_ (s0 := ()) trivial (by omega)
    · intro j c _ hj hlt _
      left
      refine ⟨(), ?_, trivial⟩
      have hr := run_lt (s.take j) (n := all32) (by decide)
      simp only [stepDcyclic_State_Add_n0, stepcyclic_State_Add_n0, dec_true (show (j : Int) < (s.length : Int) by omega), cond_true, nth_of hj, bindO_pure, wrap64_nat (show j < 9223372036854775807 by omega), cyclic_step_eq hr c.toNat_lt, run_take all32 hj]
    · intro _ _
      simp only [stepDcyclic_State_Add_n0, stepcyclic_State_Add_n0, dec_false (show ¬ (s.length : Int) < (s.length : Int) by omega), cond_false]
      exact ⟨_, rfl, by rw [List.take_length]⟩
  obtain ⟨y, hy, rfl⟩ := key
  have hr := run_lt s (n := all32) (by decide)
  have hc : crun all32 s ^^^ all32 < 4294967296 := crc_lt s
  have h0 : IntKind.wrap .u32 (((Int.toNat ((0 : Int) % 4294967296) ^^^ 4294967295 : Nat)) : Int) = ((all32 : Nat) : Int) := by decide
  simp only [fnDcyclic_Of, fncyclic_Of, fnDcyclic_New, fncyclic_New, fnDcyclic_State_Add, fncyclic_State_Add, fnDcyclic_State_Sum, fncyclic_State_Sum, bindO_pure]
  have hy' : loopD (stepDcyclic_State_Add_n0 (s, (s.length : Int), 0)) FUEL (((all32 : Nat) : Int), 0) = _ := hy
  rw [h0, hy']
  simp only [bindO_pure]
  rw [xor_all hr, wrapN (by omega)]
  rfl
theorem byte8 (n p : Nat) : UInt8.ofNat (Int.toNat (IntKind.wrap .u8 (Int.fdiv (n : Int) (p : Int)))) = UInt8.ofNat (n / p % 256) := by
  rw [fdiv_nat, wrapU8]
  rfl
theorem cyclic_Tail_eq (s : List UInt8) (hs : s.length ≤ 1000000000000) : fnDcyclic_Tail s = some (tail s) := by
  simp only [fnDcyclic_Tail, fncyclic_Tail, cyclic_Of_eq s hs, bindO_pure, nodeDcyclic_Tail_n0, nodecyclic_Tail_n0, nodeDcyclic_Tail_n1, nodecyclic_Tail_n1, nodeDcyclic_Tail_n1v1, nodecyclic_Tail_n1v1, nodeDcyclic_Tail_n1v2, nodecyclic_Tail_n1v2, nodeDcyclic_Tail_n1v3, nodecyclic_Tail_n1v3, nodeDcyclic_Tail_n1v4, nodecyclic_Tail_n1v4, unP]
  have b0 := byte8 (crc s) 1
  have b1 := byte8 (crc s) 256
  have b2 := byte8 (crc s) 65536
  have b3 := byte8 (crc s) 16777216
  simp only [Int.cast_ofNat_Int] at b0 b1 b2 b3
  unfold bytesOf tail le4
  simp only [List.map_cons, List.map_nil]
  rw [b0, b1, b2, b3, Nat.div_one]
theorem refbit_eq (t0 : List UInt8) {n : Nat} (t4 t5 : Int) (h : n < 4294967296) : nodeDref03_Of_n2 (t0, (n : Int), t4, t5) = some ((bitStep n : Nat) : Int) := by
  simp only [nodeDref03_Of_n2, noderef03_Of_n2]
  have e1 : Int.tmod (n : Int) 2 = ((n % 2 : Nat) : Int) := rfl
  have e2 : Int.tdiv (n : Int) 2 = ((n / 2 : Nat) : Int) := rfl
  have hlt := bitStep_lt (n := n) (by omega)
  rw [e1, e2, wrapN (m := n / 2) (by omega), nat64 (m := n / 2) (by omega)]
  change (bif (((n % 2 : Nat) : Int) == 1) then some (IntKind.wrap .i64 ((n / 2 ^^^ poly : Nat) : Int)) else some ((n / 2 : Nat) : Int)) = _
  unfold bitStep at hlt ⊢
  by_cases hn : n % 2 = 1
  · rw [if_pos hn] at hlt ⊢
    have : (((n % 2 : Nat) : Int) == 1) = true := by rw [hn]; rfl
    rw [this, cond_true, wrapN (by omega)]
  · rw [if_neg hn] at hlt ⊢
    have : (((n % 2 : Nat) : Int) == 1) = false := by rw [beq_eq_false_iff_ne]; omega
    rw [this, cond_false, Nat.xor_zero]
theorem ref03_Of_eq (s : List UInt8) (hs : s.length ≤ 1000000000000) : fnDref03_Of s = some ((crc s : Nat) : Int) := by
  have inner : ∀ (t4 : Int) {n : Nat}, n < 4294967296 → loopD (stepDref03_Of_n1 (s, t4)) FUEL ((n : Int), 0) = some ((nbits 8 n : Nat) : Int) := by
    intro t4 n hn
    have key : ∃ y, loopD (stepDref03_Of_n1 (s, t4)) FUEL ((n : Int), ((0 : Nat) : Int)) = some y ∧ y = ((nbits 8 n : Nat) : Int) := by
      refine loopD_inv (fun j v => j ≤ 8 ∧ v = (((nbits j n : Nat) : Int), (j : Int))) 8 _ ?_ ⟨by omega, rfl⟩ (by omega)
      rintro j v ⟨hj, rfl⟩
      by_cases h8 : j < 8
      · left
        refine ⟨_, ?_, h8, by omega, rfl⟩
        simp only [stepDref03_Of_n1, stepref03_Of_n1, dec_true (show (j : Int) < 8 by omega), cond_true, refbit_eq _ _ _ (bits_lt j hn), bindO_pure, wrap64_nat (show j < 9223372036854775807 by omega), bits_succ]
      · right
        obtain rfl : j = 8 := by omega
        simp only [stepDref03_Of_n1, stepref03_Of_n1, dec_false (show ¬ ((8 : Nat) : Int) < 8 by omega), cond_false]
        exact ⟨_, rfl, rfl⟩
    obtain ⟨y, hy, rfl⟩ := key
    exact hy
  have key : ∃ y, loopD (stepDref03_Of_n0 s) FUEL (((all32 : Nat) : Int), ((0 : Nat) : Int)) = some y ∧ y = ((crun all32 s : Nat) : Int) := by
    refine loopD_each s (fun j (_ : Unit) => (((crun all32 (s.take j) : Nat) : Int), (j : Int))) (fun _ _ => True) _ ?_ ?_ (s0 := ()) trivial (by omega)
    · intro j c _ hj hlt _
      left
      refine ⟨(), ?_, trivial⟩
      have hr := run_lt (s.take j) (n := all32) (by decide)
      have hc : c.toNat < 256 := c.toNat_lt
      have hx : crun all32 (s.take j) ^^^ c.toNat < 4294967296 := Nat.xor_lt_two_pow (n := 32) hr (by omega)
      simp only [stepDref03_Of_n0, stepref03_Of_n0, dec_true (show (j : Int) < (s.length : Int) by omega), cond_true, nth_of hj, bindO_pure, wrap64_nat (show j < 9223372036854775807 by omega), run_take all32 hj]
      rw [wrapN (m := c.toNat) (by omega), nat64 (m := crun all32 (s.take j)) (by omega), nat64 (m := c.toNat) (by omega), wrapN (by omega), inner _ hx]
      rfl
    · intro _ _
      simp only [stepDref03_Of_n0, stepref03_Of_n0, dec_false (show ¬ (s.length : Int) < (s.length : Int) by omega), cond_false]
      exact ⟨_, rfl, by rw [List.take_length]⟩
  obtain ⟨y, hy, rfl⟩ := key
  have hy' : loopD (stepDref03_Of_n0 s) FUEL ((4294967295 : Int), 0) = _ := hy
  have hr := run_lt s (n := all32) (by decide)
  have hc := crc_lt s
  simp only [fnDref03_Of, fnref03_Of, hy', bindO_pure]
  rw [nat64 (m := crun all32 s) (by omega)]
  change some (IntKind.wrap .i64 ((crc s : Nat) : Int)) = _
  rw [wrapN (by omega)]
theorem ref03_Tail_eq (s : List UInt8) (hs : s.length ≤ 1000000000000) : fnDref03_Tail s = some (tail s) := by
  simp only [fnDref03_Tail, fnref03_Tail, ref03_Of_eq s hs, bindO_pure]
  have hc := crc_lt s
  have e : ∀ p : Nat, p ≤ 16777216 → IntKind.wrap .i64 (Int.tdiv ((crc s : Nat) : Int) (p : Int)) = ((crc s / p : Nat) : Int) := fun p _ => by
    rw [tdiv_nat, wrapN]
    have := Nat.div_le_self (crc s) p
    omega
  have e1 := e 256 (by omega)
  have e2 := e 65536 (by omega)
  have e3 := e 16777216 (by omega)
  simp only [Int.cast_ofNat_Int] at e1 e2 e3
  rw [e1, e2, e3]
  have m : ∀ n : Nat, Int.tmod (n : Int) 256 = ((n % 256 : Nat) : Int) := fun n => rfl
  rw [m, m, m, m, wrapU8, wrapU8, wrapU8, wrapU8]
  unfold bytesOf tail le4
  simp only [List.map_cons, List.map_nil, Int.toNat_natCast, Nat.mod_mod]

/-! ### padding -/
theorem repeat_zero : ∀ n : Nat, Lib.repeatL [0] n = List.replicate n 0
  | 0 => rfl
  | n + 1 => by rw [Lib.repeatL, repeat_zero n, List.replicate_succ]; rfl
theorem region_Pad_eq (s : List UInt8) (hs : s.length ≤ 1000000000000) : fnDregion_Pad s = some (padTo s) := by
  have e : Int.tmod (s.length : Int) 64 = ((s.length % 64 : Nat) : Int) := rfl
  simp only [fnDregion_Pad, fnregion_Pad, e]
  by_cases h : s.length % 64 = 0
  · rw [dec_false (by omega), cond_false, padTo, h]
    simp
  · have e2 : IntKind.wrap .i64 ((64 : Int) - ((s.length % 64 : Nat) : Int)) = ((64 - s.length % 64 : Nat) : Int) := by rw [wrap64 (by omega) (by omega)]; omega
    rw [dec_true (by omega), cond_true, e2]
    have : fnDstrings_Repeat ([0], ((64 - s.length % 64 : Nat) : Int)) = some (List.replicate (64 - s.length % 64) 0) := by
      unfold fnDstrings_Repeat
      rw [repeat_zero]
      simp only [Int.toNat_natCast, List.length_cons, List.length_nil]
      rw [dec_true (by omega), dec_true (by omega), ble_true (by omega)]
      rfl
    rw [this]
    simp only [bindO_pure]
    rw [ble_true (by rw [List.length_replicate]; omega), cond_true, padTo, show (64 - s.length % 64) % 64 = 64 - s.length % 64 by omega]
theorem ref09_Pad_eq (s : List UInt8) (hs : s.length ≤ 1000000000000) : fnDref09_Pad s = some (padTo s) := by
  have key : ∃ y, loopD (stepDref09_Pad_n0 ()) FUEL s = some y ∧ y = padTo s := by
    refine loopD_inv (fun j v => j ≤ (64 - s.length % 64) % 64 ∧ v = s ++ List.replicate j 0) ((64 - s.length % 64) % 64) _ ?_ ⟨by omega, by simp⟩ (by omega)
    rintro j v ⟨hj, rfl⟩
    have hl : (s ++ List.replicate j (0 : UInt8)).length = s.length + j := by simp
    have e : Int.tmod ((s.length + j : Nat) : Int) 64 = (((s.length + j) % 64 : Nat) : Int) := rfl
    simp only [stepDref09_Pad_n0, stepref09_Pad_n0, hl, e]
    by_cases hlt : j < (64 - s.length % 64) % 64
    · left
      have e1 : ((((s.length + j) % 64 : Nat) : Int) != 0) = true := by rw [bne_iff_ne]; omega
      rw [e1, cond_true, ble_true (by omega), cond_true]
      exact ⟨_, rfl, hlt, by omega, by rw [List.append_assoc, List.replicate_succ']⟩
    · right
      have e1 : ((((s.length + j) % 64 : Nat) : Int) != 0) = false := by rw [bne_eq_false_iff_eq]; omega
      rw [e1, cond_false]
      exact ⟨_, rfl, by rw [padTo, show j = (64 - s.length % 64) % 64 by omega]⟩
  obtain ⟨y, hy, rfl⟩ := key
  simp only [fnDref09_Pad, fnref09_Pad, hy, bindO_pure]

/-! ### numbers of a fixed width -/
theorem pow256 (k : Nat) : (2 : Nat) ^ (8 * k) = 256 ^ k := by rw [Nat.pow_mul]
theorem field_Fits_eq (n : Int) (k : Nat) (hk : 1 ≤ k ∧ k ≤ 7) : fnDfield_Fits (n, (k : Int)) = some (decide (0 ≤ n ∧ n < ((256 ^ k : Nat) : Int))) := by
  have w : IntKind.wrap .i64 ((8 : Int) * (k : Int)) = ((8 * k : Nat) : Int) := by rw [wrap64 (by omega) (by omega)]; omega
  simp only [fnDfield_Fits, fnfield_Fits, nodeDfield_Fits_n0, nodefield_Fits_n0, fnDfield_width, fnfield_width, nodeDfield_width_n0, nodefield_width_n0, bindO_pure]
  rw [dec_true (show (k : Int) ≥ 1 by omega), dec_true (show (k : Int) ≤ 7 by omega), cond_true]
  simp only [bindO_pure, cond_true]
  by_cases h0 : n ≥ 0
  · rw [dec_true h0, cond_true, w, dec_false (by omega), cond_false]
    simp only [bindO_pure]
    obtain ⟨m, rfl⟩ := Int.eq_ofNat_of_zero_le h0
    have : min (Int.toNat ((8 * k : Nat) : Int)) 64 = 8 * k := by simp only [Int.toNat_natCast]; omega
    rw [this]
    have : (2 : Int) ^ (8 * k) = ((2 ^ (8 * k) : Nat) : Int) := by simp
    rw [this, fdiv_nat, pow256]
    have hp : 0 < 256 ^ k := Nat.pow_pos (by omega)
    congr 1
    rw [Bool.eq_iff_iff, beq_iff_eq, decide_eq_true_eq]
    have : m / 256 ^ k = 0 ↔ m < 256 ^ k := Nat.div_eq_zero_iff_lt hp
    omega
  · rw [dec_false h0, cond_false]
    simp only [bindO_pure]
    rw [dec_false (by omega)]
/-- A number's bytes behind others, if it has so many. -/
def putN (s : List UInt8) (n : Int) (k : Nat) : List UInt8 := if 0 ≤ n ∧ n < ((256 ^ k : Nat) : Int) then s ++ be k n.toNat else s
theorem putN_len (s : List UInt8) (n : Int) (k : Nat) : (putN s n k).length ≤ s.length + k := by
  unfold putN; split
  · rw [List.length_append, be_length]; omega
  · omega
theorem set_byte (k n j : Nat) (hj : j < k) : (bytesOf ((intsOf (be k n)).take j ++ List.replicate (k - j) 0)).length = k := by
  simp [bytesOf, intsOf, be_length]; omega
theorem bytes_ints (s : List UInt8) : bytesOf (intsOf s) = s := by
  unfold bytesOf intsOf
  rw [List.map_map]
  conv => rhs; rw [← List.map_id s]
  refine List.map_congr_left fun c _ => ?_
  simp
theorem field_Put_eq (s : List UInt8) (n : Int) (k : Nat) (hk : 1 ≤ k ∧ k ≤ 7) (hs : s.length ≤ 1000000000000) : fnDfield_Put (s, n, (k : Int)) = some (putN s n k) := by
  simp only [fnDfield_Put, fnfield_Put, field_Fits_eq n k hk, bindO_pure]
  unfold putN
  by_cases hf : 0 ≤ n ∧ n < ((256 ^ k : Nat) : Int)
  · rw [if_pos hf, dec_true hf]
    obtain ⟨m, rfl⟩ := Int.eq_ofNat_of_zero_le hf.1
    simp only [Bool.not_true, cond_false, Int.toNat_natCast]
    rw [dec_true (show (0 : Int) ≤ k by omega), dec_true (show (k : Int) ≤ k by omega), dec_true (show (1 : Int) * k ≤ 281474976710656 by omega), dec_true (show (k : Int) ≤ 9223372036854775807 by omega)]
    simp only [Bool.and_self, cond_true, List.length_replicate]
    have key : ∃ y, loopD (stepDfield_Put_n0 (s, (m : Int), (k : Int), (k : Int))) FUEL (((0 : Nat) : Int), List.replicate k (0 : Int)) = some y ∧ y = intsOf (be k m) := by
      refine loopD_inv (fun j v => j ≤ k ∧ v = ((j : Int), (intsOf (be k m)).take j ++ List.replicate (k - j) 0)) k _ ?_ ⟨by omega, by simp⟩ (by omega)
      rintro j v ⟨hj, rfl⟩
      by_cases hlt : j < k
      · left
        refine ⟨_, ?_, hlt, by omega, rfl⟩
        have w1 : IntKind.wrap .i64 ((k : Int) - 1) = ((k - 1 : Nat) : Int) := by rw [wrap64 (by omega) (by omega)]; omega
        have w2 : IntKind.wrap .i64 (((k - 1 : Nat) : Int) - (j : Int)) = ((k - 1 - j : Nat) : Int) := by rw [wrap64 (by omega) (by omega)]; omega
        have w3 : IntKind.wrap .i64 ((8 : Int) * ((k - 1 - j : Nat) : Int)) = ((8 * (k - 1 - j) : Nat) : Int) := by rw [wrap64 (by omega) (by omega)]; omega
        have hlen : ((intsOf (be k m)).take j ++ List.replicate (k - j) (0 : Int)).length = k := by simp [intsOf, be_length]; omega
        have hget : ((intsOf (be k m)).take j ++ List.replicate (k - j) (0 : Int))[j]? = some 0 := by
          rw [List.getElem?_append_right (by simp [intsOf, be_length]; omega), List.getElem?_replicate, if_pos (by simp [intsOf, be_length]; omega)]
        simp only [stepDfield_Put_n0, stepfield_Put_n0, dec_true (show (j : Int) < (k : Int) by omega), cond_true, w1, w2, w3, dec_false (show ¬ ((8 * (k - 1 - j) : Nat) : Int) < 0 by omega), cond_false, hlen,
          inR_true (show (0 : Int) ≤ (j : Int) ∧ (j : Int) < (k : Int) by omega), Int.toNat_natCast, hget, bindO_pure, wrap64_nat (show j < 9223372036854775807 by omega)]
        have hm : min (8 * (k - 1 - j)) 64 = 8 * (k - 1 - j) := by omega
        have hp : (2 : Int) ^ (8 * (k - 1 - j)) = ((256 ^ (k - 1 - j) : Nat) : Int) := by rw [← pow256]; simp
        rw [hm, hp, fdiv_nat, wrapU8]
        have hb := be_get k m j hlt
        have hi : (intsOf (be k m))[j]? = some ((m / 256 ^ (k - 1 - j) % 256 : Nat) : Int) := by
          unfold intsOf
          rw [List.getElem?_map, hb]
          simp [ofNat_mod]
        congr 3
        apply List.ext_getElem?
        intro i
        have h1 : (intsOf (be k m)).length = k := by simp [intsOf, be_length]
        rw [List.getElem?_set]
        by_cases hij : j = i
        · subst hij
          rw [if_pos rfl, if_pos (by rw [hlen]; omega), List.getElem?_append_left (by rw [List.length_take]; omega), List.getElem?_take_of_lt (by omega), hi]
        · rw [if_neg hij]
          by_cases hij2 : i < j
          · rw [List.getElem?_append_left (by rw [List.length_take]; omega), List.getElem?_append_left (by rw [List.length_take]; omega), List.getElem?_take_of_lt hij2, List.getElem?_take_of_lt (by omega)]
          · rw [List.getElem?_append_right (by rw [List.length_take]; omega), List.getElem?_append_right (by rw [List.length_take]; omega), List.getElem?_replicate, List.getElem?_replicate, List.length_take, List.length_take]
            split <;> split <;> first | rfl | omega
      · right
        obtain rfl : j = k := by omega
        simp only [stepDfield_Put_n0, stepfield_Put_n0, dec_false (show ¬ (j : Int) < (j : Int) by omega), cond_false]
        refine ⟨_, rfl, ?_⟩
        rw [Nat.sub_self, List.replicate_zero, List.append_nil, List.take_of_length_le (by simp [intsOf, be_length])]
    obtain ⟨y, hy, rfl⟩ := key
    have hy' : loopD (stepDfield_Put_n0 (s, (m : Int), (k : Int), (k : Int))) FUEL (0, List.replicate k (0 : Int)) = _ := hy
    rw [hy']
    simp only [bindO_pure, bytes_ints, be_length]
    rw [ble_true (by omega), cond_true]
  · rw [if_neg hf, dec_false hf]
    rfl
theorem ref02_Fits_eq (n : Int) (k : Nat) (hk : 1 ≤ k ∧ k ≤ 7) (hn : -9223372036854775808 ≤ n ∧ n ≤ 9223372036854775807) : fnDref02_Fits (n, (k : Int)) = some (decide (0 ≤ n ∧ n < ((256 ^ k : Nat) : Int))) := by
  simp only [fnDref02_Fits, fnref02_Fits, nodeDref02_Fits_n0, noderef02_Fits_n0, bindO_pure]
  rw [dec_false (show ¬ (k : Int) < 1 by omega), dec_false (show ¬ (k : Int) > 7 by omega), cond_false, cond_false]
  simp only [bindO_pure]
  by_cases h0 : n < 0
  · rw [dec_true h0, cond_true, dec_false (by omega)]
  · rw [dec_false h0, cond_false]
    obtain ⟨m, rfl⟩ := Int.eq_ofNat_of_zero_le (show 0 ≤ n by omega)
    have key : ∃ y, loopD (stepDref02_Fits_n1 (k : Int)) FUEL ((m : Int), ((0 : Nat) : Int)) = some y ∧ y = ((m / 256 ^ k : Nat) : Int) := by
      refine loopD_inv (fun j v => j ≤ k ∧ v = (((m / 256 ^ j : Nat) : Int), (j : Int))) k _ ?_ ⟨by omega, by simp⟩ (by omega)
      rintro j v ⟨hj, rfl⟩
      by_cases hlt : j < k
      · left
        refine ⟨_, ?_, hlt, by omega, rfl⟩
        have e : Int.tdiv ((m / 256 ^ j : Nat) : Int) 256 = ((m / 256 ^ (j + 1) : Nat) : Int) := by
          rw [Nat.pow_succ, ← Nat.div_div_eq_div_mul]; rfl
        have hle := Nat.div_le_self m (256 ^ (j + 1))
        simp only [stepDref02_Fits_n1, stepref02_Fits_n1, dec_true (show (j : Int) < (k : Int) by omega), cond_true, e, wrapN (show m / 256 ^ (j + 1) ≤ 9223372036854775807 by omega), wrap64_nat (show j < 9223372036854775807 by omega)]
      · right
        obtain rfl : j = k := by omega
        simp only [stepDref02_Fits_n1, stepref02_Fits_n1, dec_false (show ¬ (j : Int) < (j : Int) by omega), cond_false]
        exact ⟨_, rfl, rfl⟩
    obtain ⟨y, hy, rfl⟩ := key
    have hy' : loopD (stepDref02_Fits_n1 (k : Int)) FUEL ((m : Int), 0) = _ := hy
    rw [hy']
    simp only [bindO_pure]
    have hp : 0 < 256 ^ k := Nat.pow_pos (by omega)
    congr 1
    rw [Bool.eq_iff_iff, beq_iff_eq, decide_eq_true_eq, Int.natCast_eq_zero, Nat.div_eq_zero_iff_lt hp]
    omega
theorem ref02_Put_eq (s : List UInt8) (n : Int) (k : Nat) (hk : 1 ≤ k ∧ k ≤ 7) (hn : -9223372036854775808 ≤ n ∧ n ≤ 9223372036854775807) (hs : s.length ≤ 1000000000000) : fnDref02_Put (s, n, (k : Int)) = some (putN s n k) := by
  simp only [fnDref02_Put, fnref02_Put, ref02_Fits_eq n k hk hn, bindO_pure]
  unfold putN
  by_cases hf : 0 ≤ n ∧ n < ((256 ^ k : Nat) : Int)
  · rw [if_pos hf, dec_true hf]
    obtain ⟨m, rfl⟩ := Int.eq_ofNat_of_zero_le hf.1
    simp only [Bool.not_true, cond_false, Int.toNat_natCast]
    have key : ∃ y, loopD (stepDref02_Put_n0 (s, (k : Int))) FUEL ((m : Int), ([] : List UInt8), ((0 : Nat) : Int)) = some y ∧ y = be k m := by
      refine loopD_inv (fun j v => j ≤ k ∧ v = (((m / 256 ^ j : Nat) : Int), be j m, (j : Int))) k _ ?_ ⟨by omega, by simp [be]⟩ (by omega)
      rintro j v ⟨hj, rfl⟩
      by_cases hlt : j < k
      · left
        refine ⟨_, ?_, hlt, by omega, rfl⟩
        have e : Int.tdiv ((m / 256 ^ j : Nat) : Int) 256 = ((m / 256 ^ (j + 1) : Nat) : Int) := by
          rw [Nat.pow_succ, ← Nat.div_div_eq_div_mul]; rfl
        have hle := Nat.div_le_self m (256 ^ (j + 1))
        have e2 : IntKind.wrap .u8 (Int.tmod ((m / 256 ^ j : Nat) : Int) 256) = ((m / 256 ^ j % 256 : Nat) : Int) := by
          rw [show Int.tmod ((m / 256 ^ j : Nat) : Int) 256 = ((m / 256 ^ j % 256 : Nat) : Int) from rfl, wrapU8, Nat.mod_mod]
        simp only [stepDref02_Put_n0, stepref02_Put_n0, dec_true (show (j : Int) < (k : Int) by omega), cond_true, e, e2, wrapN (show m / 256 ^ (j + 1) ≤ 9223372036854775807 by omega), wrap64_nat (show j < 9223372036854775807 by omega)]
        have e3 : bytesOf [((m / 256 ^ j % 256 : Nat) : Int)] = [UInt8.ofNat (m / 256 ^ j % 256)] := rfl
        rw [e3, List.length_singleton, be_length, ble_true (by omega), cond_true, be]
        rfl
      · right
        obtain rfl : j = k := by omega
        simp only [stepDref02_Put_n0, stepref02_Put_n0, dec_false (show ¬ (j : Int) < (j : Int) by omega), cond_false]
        exact ⟨_, rfl, rfl⟩
    obtain ⟨y, hy, rfl⟩ := key
    have hy' : loopD (stepDref02_Put_n0 (s, (k : Int))) FUEL ((m : Int), [], 0) = _ := hy
    rw [hy']
    simp only [bindO_pure, be_length]
    rw [ble_true (by omega), cond_true]
  · rw [if_neg hf, dec_false hf]
    rfl
end Go.Proofs.R2
namespace Go.Proofs.R2
open Go Go.AE Go.Plain

theorem Reader_Bytes_eq (n : Nat) (r : List UInt8) (h : n ≤ r.length) (hl : r.length ≤ 1000000000000) : fnDfield_Reader_Bytes ((n : Int), r, 0) = some (r.take n, r.drop n, 0) := by
  simp only [fnDfield_Reader_Bytes, fnfield_Reader_Bytes, nodeDfield_Reader_Bytes_n0, nodefield_Reader_Bytes_n0]
  rw [dec_false (show ¬ (n : Int) < 0 by omega), cond_false, dec_false (show ¬ (n : Int) > (r.length : Int) by omega), cond_false]
  simp only [bindO_pure]
  rw [inR_true (show (0 : Int) ≤ (n : Int) ∧ (n : Int) < ((r.length + 1 : Nat) : Int) by omega)]
  rfl
theorem or_byte (n c : Nat) (hc : c < 256) : (n * 256) ||| c = 256 * n + c := by
  have := Nat.shiftLeft_add_eq_or_of_lt (i := 8) (b := c) (by omega) n
  rw [Nat.shiftLeft_eq] at this
  simp only [show (2 : Nat) ^ 8 = 256 from rfl] at this
  omega
theorem Reader_Num_eq (k : Nat) (r : List UInt8) (hk : 1 ≤ k ∧ k ≤ 7) (h : k ≤ r.length) (hl : r.length ≤ 1000000000000) : fnDfield_Reader_Num ((k : Int), r, 0) = some (((num (r.take k) : Nat) : Int), r.drop k, 0) := by
  simp only [fnDfield_Reader_Num, fnfield_Reader_Num, fnDfield_width, fnfield_width, nodeDfield_width_n0, nodefield_width_n0, bindO_pure]
  rw [dec_true (show (k : Int) ≥ 1 by omega), dec_true (show (k : Int) ≤ 7 by omega), cond_true]
  simp only [bindO_pure, Bool.not_true, cond_false, Reader_Bytes_eq k r h hl, unP]
  have hlen : (r.take k).length = k := by rw [List.length_take]; omega
  have hil : (intsOf (r.take k)).length = k := by rw [intsOf, List.length_map, hlen]
  rw [ble_true (by omega), cond_true, hil]
  have key : ∃ y, loopD (stepDfield_Reader_Num_n0 ((k : Int), r.drop k, 0, intsOf (r.take k))) FUEL ((0 : Int), ((0 : Nat) : Int)) = some y ∧ y = ((num (r.take k) : Nat) : Int) := by
    refine loopD_inv (fun j v => j ≤ k ∧ v = (((num (r.take j) : Nat) : Int), (j : Int))) k _ ?_ ⟨by omega, by simp [num]⟩ (by omega)
    rintro j v ⟨hj, rfl⟩
    by_cases hlt : j < k
    · left
      refine ⟨_, ?_, hlt, by omega, rfl⟩
      have hget : r[j]? = some r[j] := List.getElem?_eq_getElem (by omega)
      generalize r[j] = c at hget
      have hi : (intsOf (r.take k))[j]? = some ((c.toNat : Nat) : Int) := by
        rw [intsOf, List.getElem?_map, List.getElem?_take_of_lt hlt, hget]; rfl
      have hn := num_lt (r.take j)
      have hp : 256 ^ (r.take j).length ≤ 256 ^ 6 := Nat.pow_le_pow_right (by omega) (by rw [List.length_take]; omega)
      have hc : c.toNat < 256 := c.toNat_lt
      have e1 : IntKind.wrap .i64 (((num (r.take j) : Nat) : Int) * 256) = ((num (r.take j) * 256 : Nat) : Int) := by rw [wrap64 (by omega) (by omega)]; omega
      have e2 : num (r.take (j + 1)) = 256 * num (r.take j) + c.toNat := by rw [List.take_add_one, hget]; exact num_snoc _ _
      simp only [stepDfield_Reader_Num_n0, stepfield_Reader_Num_n0, dec_true (show (j : Int) < (k : Int) by omega), cond_true, hil, inR_true (show (0 : Int) ≤ (j : Int) ∧ (j : Int) < (k : Int) by omega), Int.toNat_natCast, hi, bindO_pure, e1,
        wrapN (m := c.toNat) (show c.toNat ≤ 9223372036854775807 by omega), nat64 (m := num (r.take j) * 256) (show num (r.take j) * 256 < 9223372036854775808 by omega), nat64 (m := c.toNat) (show c.toNat < 9223372036854775808 by omega), or_byte _ _ hc,
        wrapN (m := 256 * num (r.take j) + c.toNat) (show 256 * num (r.take j) + c.toNat ≤ 9223372036854775807 by omega), wrap64_nat (show j < 9223372036854775807 by omega), e2]
    · right
      obtain rfl : j = k := by omega
      simp only [stepDfield_Reader_Num_n0, stepfield_Reader_Num_n0, dec_false (show ¬ (j : Int) < (j : Int) by omega), cond_false]
      exact ⟨_, rfl, rfl⟩
  obtain ⟨y, hy, rfl⟩ := key
  have hy' : loopD (stepDfield_Reader_Num_n0 ((k : Int), r.drop k, 0, intsOf (r.take k))) FUEL (0, 0) = _ := hy
  rw [hy']
  rfl
/-- A reference's own 'number': a loop that is alike in all of them. -/
theorem number_loop (f : List UInt8 → Int × Int → Option ((Int × Int) ⊕ Int)) (s : List UInt8) (hs : s.length ≤ 7)
    (h1 : ∀ (n j : Int), decide (j < (s.length : Int)) = true → f s (n, j) = bindO (nth s j) fun x => some (.inl (IntKind.wrap .i64 (IntKind.wrap .i64 (256 * n) + IntKind.wrap .i64 (x.toNat : Int)), IntKind.wrap .i64 (j + 1))))
    (h2 : ∀ (n j : Int), decide (j < (s.length : Int)) = false → f s (n, j) = some (.inr n)) : loopD (f s) FUEL (0, 0) = some ((num s : Nat) : Int) := by
  have key : ∃ y, loopD (f s) FUEL ((0 : Int), ((0 : Nat) : Int)) = some y ∧ y = ((num s : Nat) : Int) := by
    refine loopD_each s (fun j (_ : Unit) => (((num (s.take j) : Nat) : Int), (j : Int))) (fun _ _ => True) _ ?_ ?_ (s0 := ()) trivial (by omega)
    · intro j c _ hj hlt _
      left
      refine ⟨(), ?_, trivial⟩
      have hn := num_lt (s.take j)
      have hp : 256 ^ (s.take j).length ≤ 256 ^ 6 := Nat.pow_le_pow_right (by omega) (by rw [List.length_take]; omega)
      have hc : c.toNat < 256 := c.toNat_lt
      have e2 : num (s.take (j + 1)) = 256 * num (s.take j) + c.toNat := by rw [List.take_add_one, hj]; exact num_snoc _ _
      rw [h1 _ _ (dec_true (by omega)), nth_of hj, bindO_pure, wrap64_nat (by omega), wrap64 (x := 256 * ((num (s.take j) : Nat) : Int)) (by omega) (by omega), wrapN (m := c.toNat) (by omega), wrap64 (by omega) (by omega), e2]
      congr 3
    · intro _ _
      rw [h2 _ _ (dec_false (by omega)), List.take_length]
      exact ⟨_, rfl, rfl⟩
  obtain ⟨y, hy, rfl⟩ := key
  exact hy
end Go.Proofs.R2
namespace Go.Proofs.R2
open Go Go.AE
theorem Builder_String_eq (s : List UInt8) (h : s.length ≤ 9223372036854775807) : fnDBuilder_String (intsOf s) = some (s, intsOf s) := by
  unfold fnDBuilder_String
  rw [ble_true (by simpa [intsOf] using h), cond_true, bytes_ints]
theorem intsOf_append (a b : List UInt8) : intsOf (a ++ b) = intsOf a ++ intsOf b := by simp [intsOf]
theorem Builder_WriteString_eq (s : List UInt8) (l : List UInt8) (h : s.length + l.length ≤ 140737488355328) : fnDstrings_Builder_WriteString (s, intsOf l) = some ((s.length : Int), intsOf (l ++ s)) := by
  have e : (intsOf l).length = l.length := by simp [intsOf]
  have e2 : (intsOf s).length = s.length := by simp [intsOf]
  simp only [fnDstrings_Builder_WriteString, fnstrings_Builder_WriteString, fnDBuilder_copyCheck, bindO_pure, e, e2, intsOf_append]
  rw [ble_true (by omega)]; rfl
theorem Builder_StringAgain_eq (s : List UInt8) (h : s.length ≤ 9223372036854775807) : fnDBuilder_StringAgain (intsOf s) = some (s, intsOf s) := by
  unfold fnDBuilder_StringAgain
  rw [ble_true (by simpa [intsOf] using h), cond_true, bytes_ints]
end Go.Proofs.R2
namespace Go.Proofs.R2
open Go Go.AE Go.Plain

abbrev Secl := List (Int × List UInt8)
/-- What is wrong with a sector, behind others. -/
def badS (pre : Secl) (x : Int × List UInt8) : Option Int :=
  if x.1 < 0 ∨ x.1 ≥ 1000 then some 3 else if x.2.length ≠ 64 then some 12 else if ∃ t ∈ pre, t.1 = x.1 then some 9 else none
def chkS : Secl → Secl → Int
  | _, [] => 0
  | pre, x :: r => (badS pre x).getD (chkS (pre ++ [x]) r)
def chkL (l : Secl) : Int := if l.length = 0 then 8 else if l.length > 16 then 6 else chkS [] l
theorem chkS_step (l : Secl) (j : Nat) (x : Int × List UInt8) (h : l[j]? = some x) : chkS (l.take j) (l.drop j) = (badS (l.take j) x).getD (chkS (l.take (j + 1)) (l.drop (j + 1))) := by
  obtain ⟨hlt, hx⟩ := List.getElem?_eq_some_iff.1 h
  rw [List.drop_eq_getElem_cons hlt, chkS, hx, List.take_succ_eq_append_getElem hlt, hx]
theorem chkS_end (l : Secl) : chkS (l.take l.length) (l.drop l.length) = 0 := by rw [List.drop_length]; rfl
theorem chkS_zero : ∀ (l pre : Secl), chkS pre l = 0 → ∀ (j : Nat) (x : Int × List UInt8), l[j]? = some x → badS (pre ++ l.take j) x = none
  | [], _, _, j, x, hx => by simp at hx
  | y :: r, pre, h, j, x, hx => by
    rw [chkS] at h
    have hb : badS pre y = none ∧ chkS (pre ++ [y]) r = 0 := by
      unfold badS at h ⊢
      repeat' split at h
      all_goals first | (simp at h; done) | skip
      rename_i h1 h2 h3
      rw [if_neg h1, if_neg h2, if_neg h3]
      exact ⟨rfl, h⟩
    cases j with
    | zero =>
      simp at hx
      subst hx
      simpa using hb.1
    | succ j =>
      have := chkS_zero r (pre ++ [y]) hb.2 j x (by simpa using hx)
      rw [List.take_succ_cons]
      simpa using this
theorem chkL_zero {l : Secl} (h : chkL l = 0) : 1 ≤ l.length ∧ l.length ≤ 16 ∧ ∀ x ∈ l, 0 ≤ x.1 ∧ x.1 < 1000 ∧ x.2.length = 64 := by
  unfold chkL at h
  by_cases h0 : l.length = 0
  · rw [if_pos h0] at h; omega
  · rw [if_neg h0] at h
    by_cases h1 : l.length > 16
    · rw [if_pos h1] at h; omega
    · rw [if_neg h1] at h
      refine ⟨by omega, by omega, fun x hx => ?_⟩
      obtain ⟨j, hj, rfl⟩ := List.mem_iff_getElem.1 hx
      have := chkS_zero l [] h j _ (List.getElem?_eq_getElem hj)
      unfold badS at this
      repeat' split at this
      all_goals first | (cases this; done) | skip
      rename_i g1 g2 _
      rw [not_or] at g1
      exact ⟨by omega, by omega, by simpa using g2⟩

theorem contains_at (l : Secl) (x : Int × List UInt8) (hl : l.length ≤ 1000000) : fnDslices_ContainsFunc_api_Sector_api_Sector (l, x.1, x.2) = some (decide (∃ t ∈ l, t.1 = x.1)) := by
  have key : ∃ y, loopD (stepDslices_IndexFunc_api_Sector_api_Sector_n0 (l, (l.length : Int), x.1, x.2)) FUEL ((0 : Nat) : Int) = some y ∧ (((∃ t ∈ l, t.1 = x.1) ∧ ∃ j : Nat, y = .inl (j : Int)) ∨ ((¬ ∃ t ∈ l, t.1 = x.1) ∧ y = .inr ())) := by
    refine loopD_each l (fun j (_ : Unit) => (j : Int)) (fun j _ => ¬ ∃ t ∈ l.take j, t.1 = x.1) _ ?_ ?_ (s0 := ()) (by simp) (by omega)
    · intro j y _ hj hlt hi
      simp only [stepDslices_IndexFunc_api_Sector_api_Sector_n0, stepslices_IndexFunc_api_Sector_api_Sector_n0, dec_true (show (j : Int) < (l.length : Int) by omega), cond_true, nth_of hj, bindO_pure, fnDlogrec_Check_1, fnlogrec_Check_1, wrap64_nat (show j < 9223372036854775807 by omega)]
      by_cases e : y.1 = x.1
      · right
        rw [e, beq_self_eq_true]
        exact ⟨.inl j, rfl, .inl ⟨⟨y, List.mem_of_getElem? hj, e⟩, j, rfl⟩⟩
      · left
        rw [beq_false_of_ne e]
        refine ⟨(), rfl, ?_⟩
        rintro ⟨t, ht, h⟩
        rw [List.take_add_one, hj, List.mem_append] at ht
        rcases ht with ht | ht
        · exact hi ⟨t, ht, h⟩
        · simp at ht; subst ht; exact e h
    · intro _ hi
      simp only [stepDslices_IndexFunc_api_Sector_api_Sector_n0, stepslices_IndexFunc_api_Sector_api_Sector_n0, dec_false (show ¬ (l.length : Int) < (l.length : Int) by omega), cond_false]
      rw [List.take_length] at hi
      exact ⟨.inr (), rfl, .inr ⟨hi, rfl⟩⟩
  obtain ⟨y, hy, h⟩ := key
  have hy' : loopD (stepDslices_IndexFunc_api_Sector_api_Sector_n0 (l, (l.length : Int), x.1, x.2)) FUEL 0 = _ := hy
  simp only [fnDslices_ContainsFunc_api_Sector_api_Sector, fnslices_ContainsFunc_api_Sector_api_Sector, fnDslices_IndexFunc_api_Sector_api_Sector, fnslices_IndexFunc_api_Sector_api_Sector, hy', bindO_pure]
  rcases h with ⟨h1, j, rfl⟩ | ⟨h1, rfl⟩
  · rw [dec_true h1]
    simp only [Sum.elim_inl, bindO_pure]
    rw [dec_true (show (j : Int) ≥ 0 by omega)]
  · rw [dec_false h1]
    simp only [Sum.elim_inr, bindO_pure]
    rfl
theorem check_eq (l : Secl) (hl : l.length ≤ 1000000) : fnDlogrec_Check l = some (chkL l) := by
  simp only [fnDlogrec_Check, fnlogrec_Check, ibeq]
  unfold chkL
  by_cases h0 : l.length = 0
  · rw [if_pos h0, dec_true (show (l.length : Int) = 0 by omega)]; rfl
  rw [if_neg h0, dec_false (show ¬ (l.length : Int) = 0 by omega), cond_false]
  by_cases h1 : l.length > 16
  · rw [if_pos h1, dec_true (show (l.length : Int) > 16 by omega)]; rfl
  rw [if_neg h1, dec_false (show ¬ (l.length : Int) > 16 by omega), cond_false]
  have key : ∃ y, loopD (stepDlogrec_Check_n0 (l, l, (l.length : Int))) FUEL ((0 : Nat) : Int) = some y ∧ ((y = .inl (chkS [] l)) ∨ (y = .inr () ∧ chkS [] l = 0)) := by
    refine loopD_each l (fun j (_ : Unit) => (j : Int)) (fun j _ => chkS (l.take j) (l.drop j) = chkS [] l) _ ?_ ?_ (s0 := ()) (by simp) (by omega)
    · intro j x _ hj hlt hi
      rw [chkS_step l j x hj] at hi
      have hc := contains_at (l.take j) x (by rw [List.length_take]; omega)
      have hr : inR (j : Int) (l.length + 1) = true := inR_true ⟨by omega, by omega⟩
      simp only [stepDlogrec_Check_n0, steplogrec_Check_n0, nodeDlogrec_Check_n1, nodelogrec_Check_n1, nodeDlogrec_Check_n2, nodelogrec_Check_n2, dec_true (show (j : Int) < (l.length : Int) by omega), cond_true, nth_of hj, bindO_pure, hr, Int.toNat_natCast, hc, wrap64_nat (show j < 9223372036854775807 by omega)]
      unfold badS at hi
      by_cases c1 : x.1 < 0
      · rw [if_pos (.inl c1)] at hi
        rw [dec_true c1]
        exact .inr ⟨.inl 3, rfl, .inl (by rw [← hi]; rfl)⟩
      · by_cases c2 : x.1 ≥ 1000
        · rw [if_pos (.inr c2)] at hi
          rw [dec_false c1, dec_true c2]
          exact .inr ⟨.inl 3, rfl, .inl (by rw [← hi]; rfl)⟩
        · rw [if_neg (by omega)] at hi
          rw [dec_false c1, dec_false c2]
          by_cases c3 : x.2.length = 64
          · rw [if_neg (by simpa using c3)] at hi
            have e3 : (((x.2.length : Nat) : Int) != 64) = false := by rw [bne_eq_false_iff_eq]; omega
            simp only [cond_false, bindO_pure, e3]
            by_cases c4 : ∃ t ∈ l.take j, t.1 = x.1
            · rw [if_pos c4] at hi
              rw [dec_true c4]
              exact .inr ⟨.inl 9, rfl, .inl (by rw [← hi]; rfl)⟩
            · rw [if_neg c4] at hi
              rw [dec_false c4]
              exact .inl ⟨(), rfl, hi⟩
          · rw [if_pos (by simpa using c3)] at hi
            have e3 : (((x.2.length : Nat) : Int) != 64) = true := by rw [bne_iff_ne]; omega
            simp only [cond_false, bindO_pure, e3, cond_true]
            exact .inr ⟨.inl 12, rfl, .inl (by rw [← hi]; rfl)⟩
    · intro _ hi
      rw [chkS_end] at hi
      simp only [stepDlogrec_Check_n0, steplogrec_Check_n0, dec_false (show ¬ (l.length : Int) < (l.length : Int) by omega), cond_false]
      exact ⟨.inr (), rfl, .inr ⟨rfl, hi.symm⟩⟩
  obtain ⟨y, hy, h⟩ := key
  have hy' : loopD (stepDlogrec_Check_n0 (l, l, (l.length : Int))) FUEL 0 = _ := hy
  rw [hy']
  rcases h with rfl | ⟨rfl, h⟩
  · rfl
  · rw [h]; rfl
theorem refcheck_eq (l : Secl) (hl : l.length ≤ 1000000) : fnDref11_Check l = some (chkL l) := by
  simp only [fnDref11_Check, fnref11_Check, ibeq]
  unfold chkL
  by_cases h0 : l.length = 0
  · rw [if_pos h0, dec_true (show (l.length : Int) = 0 by omega)]; rfl
  rw [if_neg h0, dec_false (show ¬ (l.length : Int) = 0 by omega), cond_false]
  by_cases h1 : l.length > 16
  · rw [if_pos h1, dec_true (show (l.length : Int) > 16 by omega)]; rfl
  rw [if_neg h1, dec_false (show ¬ (l.length : Int) > 16 by omega), cond_false]
  have inner : ∀ (j : Nat) (x : Int × List UInt8), l[j]? = some x → loopD (stepDref11_Check_n4 (l, (j : Int))) FUEL 0 = some (if ∃ t ∈ l.take j, t.1 = x.1 then .inl () else .inr ()) := by
    intro j x hj
    have hjl := (List.getElem?_eq_some_iff.1 hj).1
    have key : ∃ y, loopD (stepDref11_Check_n4 (l, (j : Int))) FUEL ((0 : Nat) : Int) = some y ∧ y = if ∃ t ∈ l.take j, t.1 = x.1 then .inl () else .inr () := by
      refine loopD_inv (fun k v => k ≤ j ∧ v = (k : Int) ∧ ¬ ∃ t ∈ l.take k, t.1 = x.1) j _ ?_ ⟨by omega, rfl, by simp⟩ (by omega)
      rintro k v ⟨hk, rfl, hi⟩
      by_cases hlt : k < j
      · have hgk : l[k]? = some l[k] := List.getElem?_eq_getElem (by omega)
        generalize l[k] = y at hgk
        simp only [stepDref11_Check_n4, stepref11_Check_n4, dec_true (show (k : Int) < (j : Int) by omega), cond_true, nth_of hgk, nth_of hj, bindO_pure, wrap64_nat (show k < 9223372036854775807 by omega)]
        by_cases e : y.1 = x.1
        · right
          rw [e, beq_self_eq_true]
          refine ⟨.inl (), rfl, ?_⟩
          rw [if_pos ⟨y, List.mem_iff_getElem?.2 ⟨k, by rw [List.getElem?_take_of_lt hlt, hgk]⟩, e⟩]
        · left
          rw [beq_false_of_ne e]
          refine ⟨_, rfl, hlt, hlt, rfl, ?_⟩
          rintro ⟨t, ht, h⟩
          rw [List.take_add_one, hgk, List.mem_append] at ht
          rcases ht with ht | ht
          · exact hi ⟨t, ht, h⟩
          · simp at ht; subst ht; exact e h
      · right
        obtain rfl : k = j := by omega
        simp only [stepDref11_Check_n4, stepref11_Check_n4, dec_false (show ¬ (k : Int) < (k : Int) by omega), cond_false]
        exact ⟨.inr (), rfl, by rw [if_neg hi]⟩
    obtain ⟨y, hy, rfl⟩ := key
    exact hy
  have key : ∃ y, loopD (stepDref11_Check_n0 l) FUEL ((0 : Nat) : Int) = some y ∧ ((y = .inl (chkS [] l)) ∨ (y = .inr (.inl ()) ∧ chkS [] l = 9) ∨ (y = .inr (.inr ()) ∧ chkS [] l = 0)) := by
    refine loopD_each l (fun j (_ : Unit) => (j : Int)) (fun j _ => chkS (l.take j) (l.drop j) = chkS [] l) _ ?_ ?_ (s0 := ()) (by simp) (by omega)
    · intro j x _ hj hlt hi
      rw [chkS_step l j x hj] at hi
      simp only [stepDref11_Check_n0, stepref11_Check_n0, nodeDref11_Check_n1, noderef11_Check_n1, nodeDref11_Check_n2, noderef11_Check_n2, nodeDref11_Check_n3, noderef11_Check_n3, dec_true (show (j : Int) < (l.length : Int) by omega), cond_true, nth_of hj, bindO_pure, inner j x hj, wrap64_nat (show j < 9223372036854775807 by omega)]
      unfold badS at hi
      by_cases c1 : x.1 < 0
      · rw [if_pos (.inl c1)] at hi
        rw [dec_true c1]
        exact .inr ⟨.inl 3, rfl, .inl (by rw [← hi]; rfl)⟩
      · by_cases c2 : x.1 ≥ 1000
        · rw [if_pos (.inr c2)] at hi
          rw [dec_false c1, dec_true c2]
          exact .inr ⟨.inl 3, rfl, .inl (by rw [← hi]; rfl)⟩
        · rw [if_neg (by omega)] at hi
          rw [dec_false c1, dec_false c2]
          by_cases c3 : x.2.length = 64
          · rw [if_neg (by simpa using c3)] at hi
            have e3 : (((x.2.length : Nat) : Int) != 64) = false := by rw [bne_eq_false_iff_eq]; omega
            simp only [cond_false, bindO_pure, e3, Sum.elim_inr]
            by_cases c4 : ∃ t ∈ l.take j, t.1 = x.1
            · rw [if_pos c4] at hi
              rw [if_pos c4]
              exact .inr ⟨.inr (.inl ()), rfl, .inr (.inl ⟨rfl, by rw [← hi]; rfl⟩)⟩
            · rw [if_neg c4] at hi
              rw [if_neg c4]
              exact .inl ⟨(), rfl, hi⟩
          · rw [if_pos (by simpa using c3)] at hi
            have e3 : (((x.2.length : Nat) : Int) != 64) = true := by rw [bne_iff_ne]; omega
            simp only [cond_false, bindO_pure, e3, cond_true]
            exact .inr ⟨.inl 12, rfl, .inl (by rw [← hi]; rfl)⟩
    · intro _ hi
      rw [chkS_end] at hi
      simp only [stepDref11_Check_n0, stepref11_Check_n0, dec_false (show ¬ (l.length : Int) < (l.length : Int) by omega), cond_false]
      exact ⟨.inr (.inr ()), rfl, .inr (.inr ⟨rfl, hi.symm⟩)⟩
  obtain ⟨y, hy, h⟩ := key
  have hy' : loopD (stepDref11_Check_n0 l) FUEL 0 = _ := hy
  rw [hy']
  rcases h with rfl | ⟨rfl, h⟩ | ⟨rfl, h⟩
  · rfl
  · rw [h]; rfl
  · rw [h]; rfl

/-! ### The record -/
def toldR (seq : Int) (l : Secl) : List UInt8 := l.foldl (fun s x => putN s x.1 2) (putN (putN [82] seq 6) l.length 1)
def allR (l : Secl) : List UInt8 := l.flatMap (·.2)
def recR (seq : Int) (l : Secl) : List UInt8 := padTo (toldR seq l ++ tail (toldR seq l ++ allR l)) ++ allR l
def putR (seq : Int) (l : Secl) : List UInt8 × Int := if seq < 0 ∨ seq ≥ 281474976710656 then ([], 3) else if chkL l ≠ 0 then ([], chkL l) else (recR seq l, 0)
theorem told_len (l : Secl) : ∀ s : List UInt8, (l.foldl (fun s x => putN s x.1 2) s).length ≤ s.length + 2 * l.length := by
  induction l with
  | nil => intro s; simp
  | cons x r ih =>
    intro s
    have h1 := ih (putN s x.1 2)
    have h2 := putN_len s x.1 2
    simp only [List.foldl_cons, List.length_cons]
    omega
theorem toldR_len (seq : Int) (l : Secl) : (toldR seq l).length ≤ 8 + 2 * l.length := by
  unfold toldR
  have h1 := told_len l (putN (putN [82] seq 6) l.length 1)
  have h2 := putN_len (putN [82] seq 6) l.length 1
  have h3 := putN_len [82] seq 6
  simp only [List.length_cons, List.length_nil] at h3
  omega
theorem allR_len {l : Secl} (h : ∀ x ∈ l, x.2.length = 64) : (allR l).length = 64 * l.length := by
  unfold allR
  induction l with
  | nil => rfl
  | cons x r ih =>
    rw [List.flatMap_cons, List.length_append, h x (List.mem_cons_self ..), ih (fun y hy => h y (List.mem_cons_of_mem _ hy)), List.length_cons]
    omega
theorem allR_snoc (l : Secl) (x : Int × List UInt8) : allR (l ++ [x]) = allR l ++ x.2 := by simp [allR]
theorem tail_len (s : List UInt8) : (tail s).length = 4 := rfl
theorem lput_eq (seq : Int) (l : Secl) (hl : l.length ≤ 1000000) : fnDlogrec_Put (seq, l) = some (putR seq l) := by
  simp only [fnDlogrec_Put, fnlogrec_Put, nodeDlogrec_Put_n0, nodelogrec_Put_n0, check_eq l hl]
  unfold putR
  by_cases c1 : seq < 0
  · rw [if_pos (.inl c1), dec_true c1]; rfl
  by_cases c2 : seq ≥ 281474976710656
  · rw [if_pos (.inr c2), dec_false c1, dec_true c2]; rfl
  rw [if_neg (by omega), dec_false c1, dec_false c2]
  simp only [cond_false, bindO_pure, ibne]
  by_cases c3 : chkL l = 0
  · obtain ⟨g1, g2, g3⟩ := chkL_zero c3
    have hal := allR_len (fun x hx => (g3 x hx).2.2)
    have e1 := field_Put_eq [82] seq 6 (by omega) (by simp)
    have e2 := field_Put_eq (putN [82] seq 6) l.length 1 (by omega) (by have := putN_len [82] seq 6; simp only [List.length_cons, List.length_nil] at this; omega)
    simp only [Int.cast_ofNat_Int] at e1 e2
    have e2' : fnDfield_Put (putN [82] seq 6, (l.length : Int), 1) = some (putN (putN [82] seq 6) l.length 1) := e2
    rw [if_neg (by simpa using c3), c3, dec_true rfl]
    simp only [Bool.not_true, cond_false, e1, e2', bindO_pure]
    have key : ∃ y, loopD (stepDlogrec_Put_n1 (l, (l.length : Int))) FUEL ((l.take 0).foldl (fun s x => putN s x.1 2) (putN (putN [82] seq 6) l.length 1), ((0 : Nat) : Int), intsOf (allR (l.take 0))) = some y ∧ y = (toldR seq l, intsOf (allR l)) := by
      refine loopD_each l (fun j (_ : Unit) => ((l.take j).foldl (fun s x => putN s x.1 2) (putN (putN [82] seq 6) l.length 1), (j : Int), intsOf (allR (l.take j)))) (fun _ _ => True) _ ?_ ?_ (s0 := ()) trivial (by omega)
      · intro j x _ hj hlt _
        left
        have hx := g3 x (List.mem_of_getElem? hj)
        have h1 := told_len (l.take j) (putN (putN [82] seq 6) l.length 1)
        have h2 := putN_len (putN [82] seq 6) l.length 1
        have h3 := putN_len [82] seq 6
        simp only [List.length_cons, List.length_nil, List.length_take] at h1 h3
        have e3 := field_Put_eq ((l.take j).foldl (fun s x => putN s x.1 2) (putN (putN [82] seq 6) l.length 1)) x.1 2 (by omega) (by omega)
        simp only [Int.cast_ofNat_Int] at e3
        have h4 := allR_len (l := l.take j) (fun y hy => (g3 y (List.mem_of_mem_take hy)).2.2)
        rw [List.length_take] at h4
        refine ⟨(), ?_, trivial⟩
        simp only [stepDlogrec_Put_n1, steplogrec_Put_n1, dec_true (show (j : Int) < (l.length : Int) by omega), cond_true, nth_of hj, bindO_pure, e3, Builder_WriteString_eq x.2 (allR (l.take j)) (by omega), unP, wrap64_nat (show j < 9223372036854775807 by omega)]
        rw [List.take_add_one, hj, Option.toList_some, List.foldl_append, allR_snoc]
        rfl
      · intro _ _
        simp only [stepDlogrec_Put_n1, steplogrec_Put_n1, dec_false (show ¬ (l.length : Int) < (l.length : Int) by omega), cond_false, List.take_length]
        exact ⟨_, rfl, rfl⟩
    obtain ⟨y, hy, rfl⟩ := key
    rw [List.take_zero, List.foldl_nil, show intsOf (allR ([] : Secl)) = [] from rfl] at hy
    have hy' : loopD (stepDlogrec_Put_n1 (l, (l.length : Int))) FUEL (putN (putN [82] seq 6) l.length 1, 0, []) = _ := hy
    have ht := toldR_len seq l
    have hp : (padTo (toldR seq l ++ tail (toldR seq l ++ allR l))).length ≤ 200 := by
      have : (toldR seq l ++ tail (toldR seq l ++ allR l)).length ≤ 44 := by rw [List.length_append, tail_len]; omega
      simp only [padTo, List.length_append, List.length_replicate] at this ⊢
      omega
    simp only [hy', bindO_pure, unP, Builder_String_eq _ (show (allR l).length ≤ 9223372036854775807 by omega), fnDlogrec_tail, fnlogrec_tail, ble_true (show (toldR seq l).length + (allR l).length ≤ 9223372036854775807 by omega), cond_true,
      cyclic_Tail_eq (toldR seq l ++ allR l) (by rw [List.length_append]; omega), tail_len, ble_true (show (toldR seq l).length + 4 ≤ 9223372036854775807 by omega), region_Pad_eq (toldR seq l ++ tail (toldR seq l ++ allR l)) (by rw [List.length_append, tail_len]; omega),
      Builder_StringAgain_eq _ (show (allR l).length ≤ 9223372036854775807 by omega), ble_true (show (padTo (toldR seq l ++ tail (toldR seq l ++ allR l))).length + (allR l).length ≤ 9223372036854775807 by omega)]
    rfl
  · rw [if_pos c3, dec_false c3]; rfl
theorem reflput_eq (seq : Int) (l : Secl) (hl : l.length ≤ 1000000) : fnDref11_Put (seq, l) = some (putR seq l) := by
  simp only [fnDref11_Put, fnref11_Put, nodeDref11_Put_n0, noderef11_Put_n0, refcheck_eq l hl]
  unfold putR
  by_cases c1 : seq < 0
  · rw [if_pos (.inl c1), dec_true c1]; rfl
  by_cases c2 : seq ≥ 281474976710656
  · rw [if_pos (.inr c2), dec_false c1, dec_true c2]; rfl
  rw [if_neg (by omega), dec_false c1, dec_false c2]
  simp only [cond_false, bindO_pure, ibne]
  by_cases c3 : chkL l = 0
  · obtain ⟨g1, g2, g3⟩ := chkL_zero c3
    have hal := allR_len (fun x hx => (g3 x hx).2.2)
    have e1 := ref02_Put_eq [82] seq 6 (by omega) (by omega) (by simp)
    have e2 := ref02_Put_eq (putN [82] seq 6) l.length 1 (by omega) (by omega) (by have := putN_len [82] seq 6; simp only [List.length_cons, List.length_nil] at this; omega)
    simp only [Int.cast_ofNat_Int] at e1 e2
    have e2' : fnDref02_Put (putN [82] seq 6, (l.length : Int), 1) = some (putN (putN [82] seq 6) l.length 1) := e2
    rw [if_neg (by simpa using c3), c3, dec_true rfl]
    simp only [Bool.not_true, cond_false, e1, e2', bindO_pure]
    have key : ∃ y, loopD (stepDref11_Put_n1 l) FUEL ((l.take 0).foldl (fun s x => putN s x.1 2) (putN (putN [82] seq 6) l.length 1), allR (l.take 0), ((0 : Nat) : Int)) = some y ∧ y = (toldR seq l, allR l) := by
      refine loopD_each l (fun j (_ : Unit) => ((l.take j).foldl (fun s x => putN s x.1 2) (putN (putN [82] seq 6) l.length 1), allR (l.take j), (j : Int))) (fun _ _ => True) _ ?_ ?_ (s0 := ()) trivial (by omega)
      · intro j x _ hj hlt _
        left
        have hx := g3 x (List.mem_of_getElem? hj)
        have h1 := told_len (l.take j) (putN (putN [82] seq 6) l.length 1)
        have h2 := putN_len (putN [82] seq 6) l.length 1
        have h3 := putN_len [82] seq 6
        simp only [List.length_cons, List.length_nil, List.length_take] at h1 h3
        have e3 := ref02_Put_eq ((l.take j).foldl (fun s x => putN s x.1 2) (putN (putN [82] seq 6) l.length 1)) x.1 2 (by omega) (by omega) (by omega)
        simp only [Int.cast_ofNat_Int] at e3
        have h4 := allR_len (l := l.take j) (fun y hy => (g3 y (List.mem_of_mem_take hy)).2.2)
        rw [List.length_take] at h4
        refine ⟨(), ?_, trivial⟩
        simp only [stepDref11_Put_n1, stepref11_Put_n1, dec_true (show (j : Int) < (l.length : Int) by omega), cond_true, nth_of hj, bindO_pure, e3, ble_true (show (allR (l.take j)).length + x.2.length ≤ 9223372036854775807 by omega), wrap64_nat (show j < 9223372036854775807 by omega)]
        rw [List.take_add_one, hj, Option.toList_some, List.foldl_append, allR_snoc]
        rfl
      · intro _ _
        simp only [stepDref11_Put_n1, stepref11_Put_n1, dec_false (show ¬ (l.length : Int) < (l.length : Int) by omega), cond_false, List.take_length]
        exact ⟨_, rfl, rfl⟩
    obtain ⟨y, hy, rfl⟩ := key
    rw [List.take_zero, List.foldl_nil, show allR ([] : Secl) = [] from rfl] at hy
    have hy' : loopD (stepDref11_Put_n1 l) FUEL (putN (putN [82] seq 6) l.length 1, [], 0) = _ := hy
    have ht := toldR_len seq l
    have hp : (padTo (toldR seq l ++ tail (toldR seq l ++ allR l))).length ≤ 200 := by
      have : (toldR seq l ++ tail (toldR seq l ++ allR l)).length ≤ 44 := by rw [List.length_append, tail_len]; omega
      simp only [padTo, List.length_append, List.length_replicate] at this ⊢
      omega
    simp only [hy', bindO_pure, unP, ble_true (show (toldR seq l).length + (allR l).length ≤ 9223372036854775807 by omega), cond_true,
      ref03_Tail_eq (toldR seq l ++ allR l) (by rw [List.length_append]; omega), tail_len, ble_true (show (toldR seq l).length + 4 ≤ 9223372036854775807 by omega), ref09_Pad_eq (toldR seq l ++ tail (toldR seq l ++ allR l)) (by rw [List.length_append, tail_len]; omega),
      ble_true (show (padTo (toldR seq l ++ tail (toldR seq l ++ allR l))).length + (allR l).length ≤ 9223372036854775807 by omega)]
    rfl
  · rw [if_pos c3, dec_false c3]; rfl
end Go.Proofs.R2
namespace Go.Proofs.R2
open Go Go.AE Go.Plain

def seqOf (s : List UInt8) : Int := ((num ((s.drop 1).take 6) : Nat) : Int)
def manyOf (s : List UInt8) : Nat := num ((s.drop 7).take 1)
def secsOf (s : List UInt8) (n : Nat) : Secl := (List.range n).map fun i => (((num ((s.drop (8 + 2 * i)).take 2) : Nat) : Int), (s.drop (64 + 64 * i)).take 64)
def finL (p : List UInt8 × Int) (s : List UInt8) (q : Int) (l : Secl) : Int × Int × Secl := if p = (s, 0) then (q, 0, l) else (0, 4, [])
def getM (s : List UInt8) : Int × Int × Secl :=
  if s.length = 0 ∨ s.length % 64 ≠ 0 then (0, 12, []) else
  if s.take 1 ≠ [82] ∨ manyOf s ≠ s.length / 64 - 1 ∨ s.length / 64 - 1 < 1 ∨ s.length / 64 - 1 > 16 then (0, 4, []) else
  if (s.drop (8 + 2 * (s.length / 64 - 1))).take 4 ≠ tail (s.take (8 + 2 * (s.length / 64 - 1)) ++ s.drop 64) then (0, 5, []) else
    finL (putR (seqOf s) (secsOf s (s.length / 64 - 1))) s (seqOf s) (secsOf s (s.length / 64 - 1))
theorem secsOf_len (s : List UInt8) (n : Nat) : (secsOf s n).length = n := by simp [secsOf]
theorem secsOf_succ (s : List UInt8) (n : Nat) : secsOf s (n + 1) = secsOf s n ++ [(((num ((s.drop (8 + 2 * n)).take 2) : Nat) : Int), (s.drop (64 + 64 * n)).take 64)] := by
  unfold secsOf
  rw [List.range_succ, List.map_append]; rfl
theorem fin_eqL (p : List UInt8 × Int) (s : List UInt8) (q : Int) (l : Secl) :
    (bindO (bif p.2 != 0 then some true else some (!p.1 == s) : Option Bool) fun b => bif b then some (0, 4, []) else some (q, 0, l)) = some (finL p s q l) := by
  obtain ⟨t, e⟩ := p
  unfold finL
  by_cases he : e = 0
  · subst he
    by_cases hs : t = s
    · subst hs; simp [bindO_pure]
    · have : (t == s) = false := by simpa using hs
      simp [hs, this, bindO_pure]
  · have : (e != 0) = true := by simpa using he
    simp [this, he, bindO_pure]
/-- Places told, without their bytes. -/
def placesOf (s : List UInt8) (n : Nat) : Secl := (List.range n).map fun i => (((num ((s.drop (8 + 2 * i)).take 2) : Nat) : Int), [])
theorem placesOf_succ (s : List UInt8) (n : Nat) : placesOf s (n + 1) = placesOf s n ++ [(((num ((s.drop (8 + 2 * n)).take 2) : Nat) : Int), [])] := by
  unfold placesOf
  rw [List.range_succ, List.map_append]; rfl
def mixOf (s : List UInt8) (n j : Nat) : Secl := (List.range n).map fun i => (((num ((s.drop (8 + 2 * i)).take 2) : Nat) : Int), if i < j then (s.drop (64 + 64 * i)).take 64 else [])
theorem mixOf_zero (s : List UInt8) (n : Nat) : mixOf s n 0 = placesOf s n := by simp [mixOf, placesOf]
theorem mixOf_all (s : List UInt8) (n : Nat) : mixOf s n n = secsOf s n := by
  unfold mixOf secsOf
  apply List.map_congr_left
  intro i hi
  rw [if_pos (List.mem_range.1 hi)]
theorem mixOf_set (s : List UInt8) (n j : Nat) (hj : j < n) : (mixOf s n j).set j (((num ((s.drop (8 + 2 * j)).take 2) : Nat) : Int), (s.drop (64 + 64 * j)).take 64) = mixOf s n (j + 1) := by
  apply List.ext_getElem?
  intro i
  rw [List.getElem?_set]
  unfold mixOf
  simp only [List.getElem?_map, List.length_map, List.length_range]
  by_cases e : j = i
  · subst e
    rw [if_pos rfl, if_pos hj, List.getElem?_range hj]
    simp
  · rw [if_neg e]
    by_cases hi : i < n
    · rw [List.getElem?_range hi]
      simp only [Option.map_some]
      by_cases h : i < j
      · rw [if_pos h, if_pos (by omega)]
      · rw [if_neg h, if_neg (by omega)]
    · rw [List.getElem?_eq_none (by simpa using hi)]; rfl
theorem mixOf_get (s : List UInt8) (n j i : Nat) (hi : i < n) : (mixOf s n j)[i]? = some (((num ((s.drop (8 + 2 * i)).take 2) : Nat) : Int), if i < j then (s.drop (64 + 64 * i)).take 64 else []) := by
  unfold mixOf
  rw [List.getElem?_map, List.getElem?_range hi]; rfl

theorem places_loop (s : List UInt8) (n : Nat) (hl : s.length ≤ 3000) (hn : 8 + 2 * n ≤ s.length) (q : Int) (m : Int) : loopD (stepDlogrec_Get_n2 (s, m, q, (n : Int))) FUEL (0, s.drop 8, 0, []) = some (s.drop (8 + 2 * n), 0, placesOf s n) := by
  have key : ∃ y, loopD (stepDlogrec_Get_n2 (s, m, q, (n : Int))) FUEL (((0 : Nat) : Int), s.drop (8 + 2 * 0), 0, placesOf s 0) = some y ∧ y = (s.drop (8 + 2 * n), 0, placesOf s n) := by
    refine loopD_inv (fun j v => j ≤ n ∧ v = ((j : Int), s.drop (8 + 2 * j), 0, placesOf s j)) n _ ?_ ⟨by omega, rfl⟩ (by omega)
    rintro j v ⟨hj, rfl⟩
    by_cases hlt : j < n
    · left
      have n2 := Reader_Num_eq 2 (s.drop (8 + 2 * j)) (by omega) (by rw [List.length_drop]; omega) (by rw [List.length_drop]; omega)
      simp only [Int.cast_ofNat_Int, List.drop_drop] at n2
      refine ⟨_, ?_, hlt, hlt, rfl⟩
      have hpl : (placesOf s j).length = j := by simp [placesOf]
      simp only [stepDlogrec_Get_n2, steplogrec_Get_n2, dec_true (show (j : Int) < (n : Int) by omega), cond_true, n2, bindO_pure, unP, hpl, List.length_singleton, ble_true (show (j + 1) * 24 ≤ 140737488355328 by omega), wrap64_nat (show j < 9223372036854775807 by omega), placesOf_succ,
        show 8 + 2 * (j + 1) = 8 + 2 * j + 2 by omega]
    · right
      obtain rfl : j = n := by omega
      simp only [stepDlogrec_Get_n2, steplogrec_Get_n2, dec_false (show ¬ (j : Int) < (j : Int) by omega), cond_false]
      exact ⟨_, rfl, rfl⟩
  obtain ⟨y, hy, rfl⟩ := key
  exact hy
theorem data_loop (s : List UInt8) (n : Nat) (hl : s.length ≤ 3000) (hn : s.length = 64 * (n + 1)) (q : Int) : loopD (stepDlogrec_Get_n3 (s, q, s.drop 64, ((placesOf s n).length : Int))) FUEL (0, placesOf s n) = some (secsOf s n) := by
  have hpl : (placesOf s n).length = n := by simp [placesOf]
  rw [hpl]
  have key : ∃ y, loopD (stepDlogrec_Get_n3 (s, q, s.drop 64, (n : Int))) FUEL (((0 : Nat) : Int), mixOf s n 0) = some y ∧ y = secsOf s n := by
    refine loopD_inv (fun j v => j ≤ n ∧ v = ((j : Int), mixOf s n j)) n _ ?_ ⟨by omega, rfl⟩ (by omega)
    rintro j v ⟨hj, rfl⟩
    by_cases hlt : j < n
    · left
      have hml : (mixOf s n j).length = n := by simp [mixOf]
      have w1 : IntKind.wrap .i64 ((j : Int) * 64) = ((64 * j : Nat) : Int) := by rw [wrap64 (by omega) (by omega)]; omega
      have hdl : (s.drop 64).length = s.length - 64 := by simp
      have r1 : inR ((64 * j : Nat) : Int) ((s.drop 64).length + 1) = true := inR_true ⟨by omega, by omega⟩
      have r2 : inR 64 ((List.drop (64 + 64 * j) s).length + 1) = true := inR_true ⟨by omega, by rw [List.length_drop]; omega⟩
      have r3 : inR (j : Int) (mixOf s n j).length = true := inR_true ⟨by omega, by rw [hml]; omega⟩
      refine ⟨_, ?_, hlt, hlt, rfl⟩
      simp only [stepDlogrec_Get_n3, steplogrec_Get_n3, dec_true (show (j : Int) < (n : Int) by omega), cond_true, w1, r1, Int.toNat_natCast, r2, r3, mixOf_get s n j j hlt, bindO_pure, wrap64_nat (show j < 9223372036854775807 by omega), List.drop_drop, mixOf_set s n j hlt]
    · right
      obtain rfl : j = n := by omega
      simp only [stepDlogrec_Get_n3, steplogrec_Get_n3, dec_false (show ¬ (j : Int) < (j : Int) by omega), cond_false]
      exact ⟨_, rfl, mixOf_all s j⟩
  obtain ⟨y, hy, rfl⟩ := key
  rw [mixOf_zero] at hy
  exact hy
theorem lget_eq (s : List UInt8) (hl : s.length ≤ 3000) : fnDlogrec_Get s = some (getM s) := by
  have e1 : Int.tdiv (s.length : Int) 64 = ((s.length / 64 : Nat) : Int) := rfl
  have e2 : IntKind.wrap .i64 ((s.length / 64 : Nat) : Int) = ((s.length / 64 : Nat) : Int) := wrap64 (by omega) (by omega)
  have em : Int.tmod (s.length : Int) 64 = ((s.length % 64 : Nat) : Int) := rfl
  simp only [fnDlogrec_Get, fnlogrec_Get, e1, e2, nodeDlogrec_Get_n0, nodelogrec_Get_n0, em]
  unfold getM
  by_cases h0 : s.length = 0 ∨ s.length % 64 ≠ 0
  · rw [if_pos h0]
    by_cases h1 : s.length / 64 = 0
    · rw [h1, show IntKind.wrap .i64 (((0 : Nat) : Int) - 1) = -1 by kernel_rfl]; rfl
    · have e3 : IntKind.wrap .i64 (((s.length / 64 : Nat) : Int) - 1) = ((s.length / 64 - 1 : Nat) : Int) := by rw [wrap64 (by omega) (by omega)]; omega
      have e4 : (((s.length % 64 : Nat) : Int) != 0) = true := by rw [bne_iff_ne]; omega
      rw [e3, dec_false (by omega), e4]; rfl
  · rw [if_neg h0]
    have h64 : 64 ≤ s.length := by omega
    have hn : s.length = 64 * (s.length / 64 - 1 + 1) := by omega
    generalize hq : s.length / 64 - 1 = n at hn
    have e3 : IntKind.wrap .i64 (((s.length / 64 : Nat) : Int) - 1) = (n : Int) := by rw [wrap64 (by omega) (by omega)]; omega
    have e4 : (((s.length % 64 : Nat) : Int) != 0) = false := by rw [bne_eq_false_iff_eq]; omega
    rw [e3, dec_false (show ¬ (n : Int) < 0 by omega), e4]
    have b1 := Reader_Bytes_eq 1 s (by omega) (by omega)
    have n1 := Reader_Num_eq 6 (s.drop 1) (by omega) (by rw [List.length_drop]; omega) (by rw [List.length_drop]; omega)
    have n2 := Reader_Num_eq 1 (s.drop 7) (by omega) (by rw [List.length_drop]; omega) (by rw [List.length_drop]; omega)
    simp only [Int.cast_ofNat_Int, List.drop_drop, Nat.reduceAdd] at b1 n1 n2
    simp only [cond_false, bindO_pure, fnDfield_New, fnfield_New, b1, unP, n1, n2, nodeDlogrec_Get_n1, nodelogrec_Get_n1]
    by_cases c1 : s.take 1 = [82]
    · by_cases c2 : manyOf s = n
      · by_cases c3 : n < 1
        · rw [if_pos (.inr (.inr (.inl c3))), c1, show num ((s.drop 7).take 1) = n from c2]
          have : ((n : Int) != (n : Int)) = false := by simp
          rw [this, dec_true (show (n : Int) < 1 by omega)]; rfl
        · by_cases c4 : n > 16
          · rw [if_pos (.inr (.inr (.inr c4))), c1, show num ((s.drop 7).take 1) = n from c2]
            have : ((n : Int) != (n : Int)) = false := by simp
            rw [this, dec_false (show ¬ (n : Int) < 1 by omega), dec_true (show (n : Int) > 16 by omega)]; rfl
          · rw [if_neg (by rintro (h | h | h | h) <;> first | exact h c1 | exact h c2 | omega), c1, show num ((s.drop 7).take 1) = n from c2]
            have : ((n : Int) != (n : Int)) = false := by simp
            have w1 : IntKind.wrap .i64 (2 * (n : Int)) = ((2 * n : Nat) : Int) := by rw [wrap64 (by omega) (by omega)]; omega
            have w2 : IntKind.wrap .i64 (8 + ((2 * n : Nat) : Int)) = ((8 + 2 * n : Nat) : Int) := by rw [wrap64 (by omega) (by omega)]; omega
            have r1 : inR 64 (s.length + 1) = true := inR_true ⟨by omega, by omega⟩
            have r2 : inR ((8 + 2 * n : Nat) : Int) (s.length + 1) = true := inR_true ⟨by omega, by omega⟩
            have b4 := Reader_Bytes_eq 4 (s.drop (8 + 2 * n)) (by rw [List.length_drop]; omega) (by rw [List.length_drop]; omega)
            have hpl : (placesOf s n).length = n := by simp [placesOf]
            simp only [beq_self_eq_true, Bool.not_true, cond_false, this, dec_false (show ¬ (n : Int) < 1 by omega), dec_false (show ¬ (n : Int) > 16 by omega), bindO_pure, places_loop s n hl (by omega), unP, w1, w2, r1, r2, cond_true, Int.toNat_natCast, fnDlogrec_tail, fnlogrec_tail,
              ble_true (show (s.take (8 + 2 * n)).length + (s.drop 64).length ≤ 9223372036854775807 by rw [List.length_take, List.length_drop]; omega), cyclic_Tail_eq (s.take (8 + 2 * n) ++ s.drop 64) (by rw [List.length_append, List.length_take, List.length_drop]; omega), tail_len, b4]
            generalize tail (s.take (8 + 2 * n) ++ s.drop 64) = tl
            by_cases c5 : (s.drop (8 + 2 * n)).take 4 = tl
            · rw [if_neg (by simpa using c5), c5, beq_self_eq_true, Bool.not_true, cond_false, data_loop s n hl hn, bindO_pure]
              have hp := lput_eq (seqOf s) (secsOf s n) (by rw [secsOf_len]; omega)
              have hp' : fnDlogrec_Put (((num ((s.drop 1).take 6) : Nat) : Int), secsOf s n) = some (putR (seqOf s) (secsOf s n)) := hp
              simp only [hp', bindO_pure, unP, nodeDlogrec_Get_n4, nodelogrec_Get_n4]
              exact fin_eqL _ s _ _
            · rw [if_pos c5, beq_false_of_ne c5]; rfl
      · rw [if_pos (.inr (.inl c2)), c1]
        have : (((num ((s.drop 7).take 1) : Nat) : Int) != (n : Int)) = true := by
          rw [bne_iff_ne]
          intro h
          exact c2 (by unfold manyOf; omega)
        rw [this]; rfl
    · rw [if_pos (.inl c1), beq_false_of_ne c1]; rfl

theorem refnumL (s : List UInt8) (hs : s.length ≤ 7) : fnDref11_number s = some ((num s : Nat) : Int) := by
  have := number_loop (fun s => stepDref11_number_n0 s) s hs (fun n j h => by simp only [stepDref11_number_n0, stepref11_number_n0, h, cond_true]) (fun n j h => by simp only [stepDref11_number_n0, stepref11_number_n0, h, cond_false])
  simp only [fnDref11_number, fnref11_number, this, bindO_pure]
theorem take1 {s : List UInt8} {j : Nat} {c : UInt8} (h : s[j]? = some c) : (s.drop j).take 1 = [c] := by
  obtain ⟨hlt, hx⟩ := List.getElem?_eq_some_iff.1 h
  rw [List.drop_eq_getElem_cons hlt, hx]; rfl
theorem num1 (c : UInt8) : num [c] = c.toNat := by simp [num]
theorem byte_is (c : UInt8) : ((c.toNat : Int) != 82) = false ↔ c = 82 := by
  rw [bne_eq_false_iff_eq]
  constructor
  · intro h
    have : c.toNat = (82 : UInt8).toNat := by
      have : c.toNat = 82 := by omega
      rw [this]; rfl
    exact UInt8.toNat_inj.1 this
  · rintro rfl; rfl
theorem refsecs_loop (s : List UInt8) (n : Nat) (hl : s.length ≤ 3000) (hn : s.length = 64 * (n + 1)) : loopD (stepDref11_Get_n2 (s, (n : Int), s.drop 64)) FUEL (0, []) = some (secsOf s n) := by
  have key : ∃ y, loopD (stepDref11_Get_n2 (s, (n : Int), s.drop 64)) FUEL (((0 : Nat) : Int), secsOf s 0) = some y ∧ y = secsOf s n := by
    refine loopD_inv (fun j v => j ≤ n ∧ v = ((j : Int), secsOf s j)) n _ ?_ ⟨by omega, rfl⟩ (by omega)
    rintro j v ⟨hj, rfl⟩
    by_cases hlt : j < n
    · left
      have w0 : IntKind.wrap .i64 (2 * (j : Int)) = ((2 * j : Nat) : Int) := by rw [wrap64 (by omega) (by omega)]; omega
      have w1 : IntKind.wrap .i64 (10 + ((2 * j : Nat) : Int)) = ((10 + 2 * j : Nat) : Int) := by rw [wrap64 (by omega) (by omega)]; omega
      have w2 : IntKind.wrap .i64 (8 + ((2 * j : Nat) : Int)) = ((8 + 2 * j : Nat) : Int) := by rw [wrap64 (by omega) (by omega)]; omega
      have w3 : IntKind.wrap .i64 (((j + 1 : Nat) : Int) * 64) = ((64 * (j + 1) : Nat) : Int) := by rw [wrap64 (by omega) (by omega)]; omega
      have w4 : IntKind.wrap .i64 ((j : Int) * 64) = ((64 * j : Nat) : Int) := by rw [wrap64 (by omega) (by omega)]; omega
      have hdl : (s.drop 64).length = s.length - 64 := by simp
      have r1 : (inR ((10 + 2 * j : Nat) : Int) (s.length + 1) && inR ((8 + 2 * j : Nat) : Int) (10 + 2 * j + 1)) = true := by rw [inR_true ⟨by omega, by omega⟩, inR_true ⟨by omega, by omega⟩]; rfl
      have r2 : (inR ((64 * (j + 1) : Nat) : Int) ((s.drop 64).length + 1) && inR ((64 * j : Nat) : Int) (64 * (j + 1) + 1)) = true := by rw [inR_true ⟨by omega, by omega⟩, inR_true ⟨by omega, by omega⟩]; rfl
      have hnum := refnumL ((s.drop (8 + 2 * j)).take 2) (by rw [List.length_take]; omega)
      refine ⟨_, ?_, hlt, hlt, rfl⟩
      simp only [stepDref11_Get_n2, stepref11_Get_n2, dec_true (show (j : Int) < (n : Int) by omega), cond_true, w0, w1, w2, wrap64_nat (show j < 9223372036854775807 by omega), w3, w4, Int.toNat_natCast, r1, r2, show 10 + 2 * j - (8 + 2 * j) = 2 by omega, hnum, bindO_pure, secsOf_len, List.length_singleton,
        ble_true (show (j + 1) * 24 ≤ 140737488355328 by omega), show 64 * (j + 1) - 64 * j = 64 by omega, List.drop_drop, secsOf_succ]
    · right
      obtain rfl : j = n := by omega
      simp only [stepDref11_Get_n2, stepref11_Get_n2, dec_false (show ¬ (j : Int) < (j : Int) by omega), cond_false]
      exact ⟨_, rfl, rfl⟩
  obtain ⟨y, hy, rfl⟩ := key
  exact hy
theorem refget_eqL (s : List UInt8) (hl : s.length ≤ 3000) : fnDref11_Get s = some (getM s) := by
  have e1 : Int.tdiv (s.length : Int) 64 = ((s.length / 64 : Nat) : Int) := rfl
  have e2 : IntKind.wrap .i64 ((s.length / 64 : Nat) : Int) = ((s.length / 64 : Nat) : Int) := wrap64 (by omega) (by omega)
  have em : Int.tmod (s.length : Int) 64 = ((s.length % 64 : Nat) : Int) := rfl
  simp only [fnDref11_Get, fnref11_Get, e1, e2, nodeDref11_Get_n0, noderef11_Get_n0, em]
  unfold getM
  by_cases h0 : s.length = 0 ∨ s.length % 64 ≠ 0
  · rw [if_pos h0]
    by_cases h1 : s.length = 0
    · rw [List.eq_nil_of_length_eq_zero h1]; rfl
    · have hne : (s == []) = false := by rw [beq_eq_false_iff_ne]; intro h; rw [h] at h1; exact h1 rfl
      have e4 : (((s.length % 64 : Nat) : Int) != 0) = true := by rw [bne_iff_ne]; omega
      rw [hne, e4]; rfl
  · rw [if_neg h0]
    have hne : (s == []) = false := by rw [beq_eq_false_iff_ne]; intro h; rw [h] at h0; exact h0 (.inl rfl)
    have hn : s.length = 64 * (s.length / 64 - 1 + 1) := by omega
    generalize hq : s.length / 64 - 1 = n at hn
    have e3 : IntKind.wrap .i64 (((s.length / 64 : Nat) : Int) - 1) = (n : Int) := by rw [wrap64 (by omega) (by omega)]; omega
    have e4 : (((s.length % 64 : Nat) : Int) != 0) = false := by rw [bne_eq_false_iff_eq]; omega
    rw [e3, hne, e4]
    have g0 : s[0]? = some s[0] := List.getElem?_eq_getElem (by omega)
    have g7 : s[7]? = some s[7] := List.getElem?_eq_getElem (by omega)
    generalize s[0] = a at g0
    generalize s[7] = c at g7
    have t0 : s.take 1 = [a] := by simpa using take1 g0
    have t7 : manyOf s = c.toNat := by unfold manyOf; rw [take1 g7, num1]
    have hc : c.toNat < 256 := c.toNat_lt
    have wc : IntKind.wrap .i64 (c.toNat : Int) = (c.toNat : Int) := wrapN (by omega)
    have n0 : nth s 0 = some a := nth_of (j := 0) g0
    have n7 : nth s 7 = some c := nth_of (j := 7) g7
    simp only [cond_false, bindO_pure, nodeDref11_Get_n1, noderef11_Get_n1, n0, n7, wc]
    rw [t0, t7]
    by_cases c1 : a = 82
    · rw [(byte_is a).2 c1, cond_false]
      by_cases c2 : c.toNat = n
      · have : ((c.toNat : Int) != (n : Int)) = false := by rw [bne_eq_false_iff_eq]; omega
        rw [this, cond_false]
        by_cases c3 : n < 1
        · rw [if_pos (.inr (.inr (.inl c3))), dec_true (show (n : Int) < 1 by omega)]; rfl
        · by_cases c4 : n > 16
          · rw [if_pos (.inr (.inr (.inr c4))), dec_false (show ¬ (n : Int) < 1 by omega), dec_true (show (n : Int) > 16 by omega)]; rfl
          · rw [if_neg (by rintro (h | h | h | h) <;> first | exact h (by rw [c1]) | exact h c2 | omega)]
            have w1 : IntKind.wrap .i64 (2 * (n : Int)) = ((2 * n : Nat) : Int) := by rw [wrap64 (by omega) (by omega)]; omega
            have w2 : IntKind.wrap .i64 (8 + ((2 * n : Nat) : Int)) = ((8 + 2 * n : Nat) : Int) := by rw [wrap64 (by omega) (by omega)]; omega
            have w3 : IntKind.wrap .i64 (((8 + 2 * n : Nat) : Int) + 4) = ((8 + 2 * n + 4 : Nat) : Int) := by rw [wrap64 (by omega) (by omega)]; omega
            have r1 : inR 64 (s.length + 1) = true := inR_true ⟨by omega, by omega⟩
            have r2 : (inR ((8 + 2 * n + 4 : Nat) : Int) (s.length + 1) && inR ((8 + 2 * n : Nat) : Int) (8 + 2 * n + 4 + 1)) = true := by rw [inR_true ⟨by omega, by omega⟩, inR_true ⟨by omega, by omega⟩]; rfl
            have r3 : inR ((8 + 2 * n : Nat) : Int) (s.length + 1) = true := inR_true ⟨by omega, by omega⟩
            have r4 : (inR 7 (s.length + 1) && true) = true := by rw [inR_true ⟨by omega, by omega⟩]; rfl
            have hnum := refnumL ((s.drop 1).take (7 - 1)) (by rw [List.length_take]; omega)
            simp only [dec_false (show ¬ (n : Int) < 1 by omega), dec_false (show ¬ (n : Int) > 16 by omega), bindO_pure, cond_false, w1, w2, w3, r1, Int.toNat_natCast, r2, r3, cond_true,
              ble_true (show (s.take (8 + 2 * n)).length + (s.drop 64).length ≤ 9223372036854775807 by rw [List.length_take, List.length_drop]; omega), ref03_Tail_eq (s.take (8 + 2 * n) ++ s.drop 64) (by rw [List.length_append, List.length_take, List.length_drop]; omega),
              show 8 + 2 * n + 4 - (8 + 2 * n) = 4 by omega]
            generalize tail (s.take (8 + 2 * n) ++ s.drop 64) = tl
            by_cases c5 : (s.drop (8 + 2 * n)).take 4 = tl
            · rw [if_neg (by simpa using c5), c5, beq_self_eq_true, Bool.not_true, cond_false, refsecs_loop s n hl hn, bindO_pure, r4, cond_true, hnum, bindO_pure]
              have hp := reflput_eq (seqOf s) (secsOf s n) (by rw [secsOf_len]; omega)
              have hp' : fnDref11_Put (((num ((s.drop 1).take (7 - 1)) : Nat) : Int), secsOf s n) = some (putR (seqOf s) (secsOf s n)) := hp
              simp only [hp', bindO_pure, unP, nodeDref11_Get_n3, noderef11_Get_n3]
              exact fin_eqL _ s _ _
            · rw [if_pos c5, beq_false_of_ne c5]; rfl
      · rw [if_pos (.inr (.inl c2))]
        have : ((c.toNat : Int) != (n : Int)) = true := by rw [bne_iff_ne]; omega
        rw [this]; rfl
    · rw [if_pos (.inl (by simpa using c1))]
      have : ((a.toNat : Int) != 82) = true := by
        cases h : ((a.toNat : Int) != 82) with
        | true => rfl
        | false => exact absurd ((byte_is a).1 h) c1
      rw [this]; rfl

/-! ### Of how many sectors -/
def sizeM (s : List UInt8) (q : Int) : Int × Int := if s.length ≠ 64 then (0, 12) else if s.take 1 ≠ [82] ∨ seqOf s ≠ q ∨ manyOf s < 1 ∨ manyOf s > 16 then (0, 8) else (((manyOf s + 1 : Nat) : Int), 0)
theorem lsize_eq (s : List UInt8) (q : Int) (hl : s.length ≤ 3000) : fnDlogrec_Size (s, q) = some (sizeM s q) := by
  simp only [fnDlogrec_Size, fnlogrec_Size]
  unfold sizeM
  by_cases h : s.length = 64
  · have e1 : ((s.length : Int) != 64) = false := by rw [bne_eq_false_iff_eq]; omega
    rw [if_neg (by simpa using h), e1]
    have b1 := Reader_Bytes_eq 1 s (by omega) (by omega)
    have n1 := Reader_Num_eq 6 (s.drop 1) (by omega) (by rw [List.length_drop]; omega) (by rw [List.length_drop]; omega)
    have n2 := Reader_Num_eq 1 (s.drop 7) (by omega) (by rw [List.length_drop]; omega) (by rw [List.length_drop]; omega)
    simp only [Int.cast_ofNat_Int, List.drop_drop, Nat.reduceAdd] at b1 n1 n2
    simp only [cond_false, bindO_pure, fnDfield_New, fnfield_New, b1, unP, n1, n2, nodeDlogrec_Size_n0, nodelogrec_Size_n0, ibne]
    have hs : ((num ((s.drop 1).take 6) : Nat) : Int) = seqOf s := rfl
    have hm : num ((s.drop 7).take 1) = manyOf s := rfl
    rw [hs, hm]
    by_cases c1 : s.take 1 = [82]
    · by_cases c2 : seqOf s = q
      · by_cases c3 : manyOf s < 1
        · rw [if_pos (.inr (.inr (.inl c3))), c1, dec_true c2, dec_true (show ((manyOf s : Nat) : Int) < 1 by omega)]; rfl
        · by_cases c4 : manyOf s > 16
          · rw [if_pos (.inr (.inr (.inr c4))), c1, dec_true c2, dec_false (show ¬ ((manyOf s : Nat) : Int) < 1 by omega), dec_true (show ((manyOf s : Nat) : Int) > 16 by omega)]; rfl
          · rw [if_neg (by rintro (h | h | h | h) <;> first | exact h c1 | exact h c2 | omega), c1, dec_true c2, dec_false (show ¬ ((manyOf s : Nat) : Int) < 1 by omega), dec_false (show ¬ ((manyOf s : Nat) : Int) > 16 by omega), wrap64_nat (show manyOf s < 9223372036854775807 by omega)]
            rfl
      · rw [if_pos (.inr (.inl c2)), c1, dec_false c2]; rfl
    · rw [if_pos (.inl c1), beq_false_of_ne c1]; rfl
  · have e1 : ((s.length : Int) != 64) = true := by rw [bne_iff_ne]; omega
    rw [if_pos (by simpa using h), e1]; rfl
theorem take7 (s : List UInt8) (q : Int) (h : 7 ≤ s.length) : (s.take 1 = [82] ∧ seqOf s = q) ↔ (0 ≤ q ∧ q < 281474976710656) ∧ s.take 7 = putN [82] q 6 := by
  have hsp : s.take 7 = s.take 1 ++ (s.drop 1).take 6 := by rw [show (7 : Nat) = 1 + 6 from rfl, List.take_add]
  have hl6 : ((s.drop 1).take 6).length = 6 := by rw [List.length_take, List.length_drop]; omega
  constructor
  · rintro ⟨h1, h2⟩
    have hlt := num_lt ((s.drop 1).take 6)
    rw [hl6] at hlt
    have hr : 0 ≤ q ∧ q < 281474976710656 := by rw [← h2]; unfold seqOf; omega
    refine ⟨hr, ?_⟩
    unfold putN
    rw [if_pos (show 0 ≤ q ∧ q < ((256 ^ 6 : Nat) : Int) from ⟨hr.1, by omega⟩), hsp, h1, ← h2]
    unfold seqOf
    rw [Int.toNat_natCast]
    have := be_num ((s.drop 1).take 6)
    rw [hl6] at this
    rw [this]
  · rintro ⟨hr, h1⟩
    unfold putN at h1
    rw [if_pos (show 0 ≤ q ∧ q < ((256 ^ 6 : Nat) : Int) from ⟨hr.1, by omega⟩), hsp] at h1
    have hl1 : (s.take 1).length = ([82] : List UInt8).length := by rw [List.length_take]; simp; omega
    obtain ⟨g1, g2⟩ := List.append_inj h1 hl1
    refine ⟨g1, ?_⟩
    unfold seqOf
    rw [g2, num_be_small (by omega)]
    omega
theorem refsize_eqL (s : List UInt8) (q : Int) (hl : s.length ≤ 3000) (hq : -9223372036854775808 ≤ q ∧ q ≤ 9223372036854775807) : fnDref11_Size (s, q) = some (sizeM s q) := by
  simp only [fnDref11_Size, fnref11_Size, nodeDref11_Size_n0, noderef11_Size_n0]
  unfold sizeM
  by_cases h : s.length = 64
  · have e1 : ((s.length : Int) != 64) = false := by rw [bne_eq_false_iff_eq]; omega
    rw [if_neg (by simpa using h), e1]
    have g7 : s[7]? = some s[7] := List.getElem?_eq_getElem (by omega)
    generalize s[7] = c at g7
    have t7 : manyOf s = c.toNat := by unfold manyOf; rw [take1 g7, num1]
    have hc : c.toNat < 256 := c.toNat_lt
    have wc : IntKind.wrap .i64 (c.toNat : Int) = (c.toNat : Int) := wrapN (by omega)
    have n7 : nth s 7 = some c := nth_of (j := 7) g7
    have hf := ref02_Fits_eq q 6 (by omega) hq
    have hp := ref02_Put_eq [82] q 6 (by omega) hq (by simp)
    simp only [Int.cast_ofNat_Int] at hf hp
    have r1 : inR 7 (s.length + 1) = true := inR_true ⟨by omega, by omega⟩
    have ht := take7 s q (by omega)
    have e256 : ((256 ^ 6 : Nat) : Int) = 281474976710656 := by decide
    rw [e256] at hf
    simp only [cond_false, nodeDref11_Size_n1, noderef11_Size_n1, hf, bindO_pure, r1, cond_true, hp, n7]
    rw [t7]
    by_cases c1 : 0 ≤ q ∧ q < 281474976710656
    · rw [dec_true c1, Bool.not_true, cond_false]
      by_cases c2 : s.take 7 = putN [82] q 6
      · obtain ⟨d1, d2⟩ := ht.2 ⟨c1, c2⟩
        rw [c2, beq_self_eq_true, Bool.not_true, cond_false]
        by_cases c3 : c.toNat < 1
        · rw [if_pos (.inr (.inr (.inl c3))), dec_true (show (c.toNat : Int) < 1 by omega)]; rfl
        · by_cases c4 : c.toNat > 16
          · rw [if_pos (.inr (.inr (.inr c4))), dec_false (show ¬ (c.toNat : Int) < 1 by omega), dec_true (show (c.toNat : Int) > 16 by omega)]; rfl
          · rw [if_neg (by rintro (h | h | h | h) <;> first | exact h d1 | exact h d2 | omega), dec_false (show ¬ (c.toNat : Int) < 1 by omega), dec_false (show ¬ (c.toNat : Int) > 16 by omega)]
            simp only [cond_false, bindO_pure, Sum.elim_inr, wc, wrap64_nat (show c.toNat < 9223372036854775807 by omega)]
      · rw [beq_false_of_ne c2, if_pos]
        · rfl
        · by_cases d1 : s.take 1 = [82]
          · exact .inr (.inl fun d2 => c2 (ht.1 ⟨d1, d2⟩).2)
          · exact .inl d1
    · rw [dec_false c1, if_pos]
      · rfl
      · by_cases d1 : s.take 1 = [82]
        · exact .inr (.inl fun d2 => c1 (ht.1 ⟨d1, d2⟩).1)
        · exact .inl d1
  · have e1 : ((s.length : Int) != 64) = true := by rw [bne_iff_ne]; omega
    rw [if_pos (by simpa using h), e1]; rfl
end Go.Proofs.R2
namespace Go.Proofs.R2
open Go Go.AE Go.Plain
theorem lrworks : fnDlaw11_works () = some true := by kernel_rfl
theorem lgreat (l : Secl) (hl : l.length ≤ 9223372036854775807) : ∃ b, fnDlaw11_Great l = some b ∧ (b = false → l.length ≤ 40) := by
  have key : ∃ y, loopD (stepDlaw11_Great_n0 l) FUEL ((0 : Nat) : Int) = some y ∧ ((y = .inr () ∧ l.length ≤ 40) ∨ y = .inl ()) := by
    refine loopD_each l (fun j (_ : Unit) => (j : Int)) (fun j _ => j ≤ 40) _ ?_ ?_ (s0 := ()) (by simp) (by omega)
    · intro j x _ hj hlt hi
      simp only [stepDlaw11_Great_n0, steplaw11_Great_n0, nodeDlaw11_Great_n1, nodelaw11_Great_n1, nodeDlaw11_Great_n2, nodelaw11_Great_n2, dec_true (show (j : Int) < (l.length : Int) by omega), cond_true, nth_of hj, bindO_pure, wrap64_nat (show j < 9223372036854775807 by omega)]
      by_cases c1 : (j : Int) ≥ 40
      · rw [dec_true c1]
        exact .inr ⟨.inl (), rfl, .inr rfl⟩
      · rw [dec_false c1]
        by_cases c2 : ((x.2.length : Nat) : Int) > 500
        · rw [dec_true c2]
          exact .inr ⟨.inl (), rfl, .inr rfl⟩
        · rw [dec_false c2]
          exact .inl ⟨(), rfl, by omega⟩
    · intro _ hi
      simp only [stepDlaw11_Great_n0, steplaw11_Great_n0, dec_false (show ¬ (l.length : Int) < (l.length : Int) by omega), cond_false]
      exact ⟨.inr (), rfl, .inl ⟨rfl, hi⟩⟩
  obtain ⟨y, hy, h⟩ := key
  have hy' : loopD (stepDlaw11_Great_n0 l) FUEL 0 = _ := hy
  simp only [fnDlaw11_Great, fnlaw11_Great, hy', bindO_pure]
  rcases h with ⟨rfl, h⟩ | rfl
  · exact ⟨false, rfl, fun _ => h⟩
  · exact ⟨true, rfl, fun h => by cases h⟩
theorem LogrecPuts_true (q : Int) (l : Secl) (hl : l.length ≤ 9223372036854775807) : fnDlaw11_LogrecPuts (q, l) = some true := by
  obtain ⟨b, hb, hg⟩ := lgreat l hl
  simp only [fnDlaw11_LogrecPuts, fnlaw11_LogrecPuts, lrworks, hb, bindO_pure, Bool.not_true, cond_false]
  cases b with
  | true => rfl
  | false =>
    have := hg rfl
    simp only [cond_false, lput_eq q l (by omega), reflput_eq q l (by omega), bindO_pure, unP, nodeDlaw11_LogrecPuts_n0, nodelaw11_LogrecPuts_n0, check_eq l (by omega), refcheck_eq l (by omega), beq_self_eq_true, cond_true]
theorem sectors_same (l : Secl) (hl : l.length ≤ 1000000) : fnDlaw09_Sectors (l, l) = some true := by
  have key : ∃ y, loopD (stepDlaw09_Sectors_n0 (l, l)) FUEL ((0 : Nat) : Int) = some y ∧ y = .inr () := by
    refine loopD_each l (fun j (_ : Unit) => (j : Int)) (fun _ _ => True) _ ?_ ?_ (s0 := ()) trivial (by omega)
    · intro j x _ hj hlt _
      left
      refine ⟨(), ?_, trivial⟩
      simp only [stepDlaw09_Sectors_n0, steplaw09_Sectors_n0, nodeDlaw09_Sectors_n1, nodelaw09_Sectors_n1, dec_true (show (j : Int) < (l.length : Int) by omega), cond_true, nth_of hj, bindO_pure, wrap64_nat (show j < 9223372036854775807 by omega), beq_self_eq_true, Bool.and_self, Bool.not_true, cond_false]
    · intro _ _
      simp only [stepDlaw09_Sectors_n0, steplaw09_Sectors_n0, nodeDlaw09_Sectors_n1, nodelaw09_Sectors_n1, dec_false (show ¬ (l.length : Int) < (l.length : Int) by omega), cond_false, bindO_pure]
      exact ⟨_, rfl, rfl⟩
  obtain ⟨y, hy, rfl⟩ := key
  have hy' : loopD (stepDlaw09_Sectors_n0 (l, l)) FUEL 0 = _ := hy
  have e : ((l.length : Int) != (l.length : Int)) = false := by simp
  simp only [fnDlaw09_Sectors, fnlaw09_Sectors, e, cond_false, hy', bindO_pure, Sum.elim_inr]
theorem getM_len (s : List UInt8) : (getM s).2.2.length ≤ 16 := by
  unfold getM
  repeat' split
  all_goals first | exact Nat.zero_le _ | skip
  rename_i h _
  unfold finL
  split
  · show (secsOf s _).length ≤ 16
    rw [secsOf_len]
    omega
  · exact Nat.zero_le _
theorem LogrecGets_true (s : List UInt8) (q : Int) (hq : -9223372036854775808 ≤ q ∧ q ≤ 9223372036854775807) : fnDlaw11_LogrecGets (s, q) = some true := by
  simp only [fnDlaw11_LogrecGets, fnlaw11_LogrecGets, lrworks, bindO_pure, Bool.not_true, cond_false]
  by_cases h : (s.length : Int) > 3000
  · rw [dec_true h]; rfl
  · rw [dec_false h, cond_false, lget_eq s (by omega), refget_eqL s (by omega), lsize_eq s q (by omega), refsize_eqL s q (by omega) hq]
    have hgl := getM_len s
    generalize getM s = r at hgl
    generalize sizeM s q = z
    simp only [bindO_pure, unP, nodeDlaw11_LogrecGets_n0, nodelaw11_LogrecGets_n0, beq_self_eq_true, cond_true, sectors_same _ (show r.2.2.length ≤ 1000000 by omega)]
end Go.Proofs.R2
namespace Go.Proofs.R2
open Go Go.AE Go.Plain
theorem law11_LogrecBack_turned (p0 : Int) (p1 : Secl) (p2 : List UInt8) (p3 : Int) (p4 : Int) (p5 : Int) (p6 : Int) (m0 m1 m2 m3 : Int) (e0 : Secl) (k : Nat) (hk : k ≤ 2000) (o : List Int) (hl : o.length ≤ 2000) : ∃ o', nodeDlaw11_LogrecBack_n0 (p0, p1, p2, p3, p4, p5, p6, (k : Int), m0, m1, m2, m3, e0, o) = some o' ∧ Turned k o o' := by
  have r0 : ∀ o : List Int, o.length ≤ 2000 → ∃ v, nodeDlaw11_LogrecBack_n1 (p0, p1, p2, p3, p4, p5, p6, (k : Int), m0, m1, m2, m3, e0, o) = some (if k + 0 < o.length then .inl (o.set (k + 0) v) else .inr ()) := by
    intro o hl
    have w : IntKind.wrap .i64 ((k : Int) + 0) = ((k + 0 : Nat) : Int) := by rw [wrap64 (by omega) (by omega)]; omega
    simp only [nodeDlaw11_LogrecBack_n1, nodelaw11_LogrecBack_n1, nodeDlaw11_LogrecBack_n2, nodelaw11_LogrecBack_n2, bindO_pure, w]
    by_cases h : k + 0 < o.length
    · have hx : o[k + 0]? = some o[k + 0] := List.getElem?_eq_getElem h
      generalize o[k + 0] = x at hx
      simp only [dec_true (show ((k + 0 : Nat) : Int) < (o.length : Int) by omega), inR_true (show (0 : Int) ≤ ((k + 0 : Nat) : Int) ∧ ((k + 0 : Nat) : Int) < (o.length : Int) by omega), cond_true, Int.toNat_natCast, hx, bindO_pure, if_pos h]
      exact ⟨_, rfl⟩
    · simp only [dec_false (show ¬ ((k + 0 : Nat) : Int) < (o.length : Int) by omega), cond_false, if_neg h]
      first | exact ⟨0, rfl⟩ | exact ⟨0, True.intro⟩
  have r1 : ∀ o : List Int, o.length ≤ 2000 → ∃ v, nodeDlaw11_LogrecBack_n1v1 (p0, p1, p2, p3, p4, p5, p6, (k : Int), m0, m1, m2, m3, e0, o) = some (if k + 1 < o.length then .inl (o.set (k + 1) v) else .inr ()) := by
    intro o hl
    have w : IntKind.wrap .i64 ((k : Int) + 1) = ((k + 1 : Nat) : Int) := by rw [wrap64 (by omega) (by omega)]; omega
    simp only [nodeDlaw11_LogrecBack_n1v1, nodelaw11_LogrecBack_n1v1, nodeDlaw11_LogrecBack_n2v1, nodelaw11_LogrecBack_n2v1, bindO_pure, w]
    by_cases h : k + 1 < o.length
    · have hx : o[k + 1]? = some o[k + 1] := List.getElem?_eq_getElem h
      generalize o[k + 1] = x at hx
      simp only [dec_true (show ((k + 1 : Nat) : Int) < (o.length : Int) by omega), inR_true (show (0 : Int) ≤ ((k + 1 : Nat) : Int) ∧ ((k + 1 : Nat) : Int) < (o.length : Int) by omega), cond_true, Int.toNat_natCast, hx, bindO_pure, if_pos h]
      exact ⟨_, rfl⟩
    · simp only [dec_false (show ¬ ((k + 1 : Nat) : Int) < (o.length : Int) by omega), cond_false, if_neg h]
      first | exact ⟨0, rfl⟩ | exact ⟨0, True.intro⟩
  have r2 : ∀ o : List Int, o.length ≤ 2000 → ∃ v, nodeDlaw11_LogrecBack_n1v2 (p0, p1, p2, p3, p4, p5, p6, (k : Int), m0, m1, m2, m3, e0, o) = some (if k + 2 < o.length then .inl (o.set (k + 2) v) else .inr ()) := by
    intro o hl
    have w : IntKind.wrap .i64 ((k : Int) + 2) = ((k + 2 : Nat) : Int) := by rw [wrap64 (by omega) (by omega)]; omega
    simp only [nodeDlaw11_LogrecBack_n1v2, nodelaw11_LogrecBack_n1v2, nodeDlaw11_LogrecBack_n2v2, nodelaw11_LogrecBack_n2v2, bindO_pure, w]
    by_cases h : k + 2 < o.length
    · have hx : o[k + 2]? = some o[k + 2] := List.getElem?_eq_getElem h
      generalize o[k + 2] = x at hx
      simp only [dec_true (show ((k + 2 : Nat) : Int) < (o.length : Int) by omega), inR_true (show (0 : Int) ≤ ((k + 2 : Nat) : Int) ∧ ((k + 2 : Nat) : Int) < (o.length : Int) by omega), cond_true, Int.toNat_natCast, hx, bindO_pure, if_pos h]
      exact ⟨_, rfl⟩
    · simp only [dec_false (show ¬ ((k + 2 : Nat) : Int) < (o.length : Int) by omega), cond_false, if_neg h]
      first | exact ⟨0, rfl⟩ | exact ⟨0, True.intro⟩
  have r3 : ∀ o : List Int, o.length ≤ 2000 → ∃ v, nodeDlaw11_LogrecBack_n1v3 (p0, p1, p2, p3, p4, p5, p6, (k : Int), m0, m1, m2, m3, e0, o) = some (if k + 3 < o.length then .inl (o.set (k + 3) v) else .inr ()) := by
    intro o hl
    have w : IntKind.wrap .i64 ((k : Int) + 3) = ((k + 3 : Nat) : Int) := by rw [wrap64 (by omega) (by omega)]; omega
    simp only [nodeDlaw11_LogrecBack_n1v3, nodelaw11_LogrecBack_n1v3, nodeDlaw11_LogrecBack_n2v3, nodelaw11_LogrecBack_n2v3, bindO_pure, w]
    by_cases h : k + 3 < o.length
    · have hx : o[k + 3]? = some o[k + 3] := List.getElem?_eq_getElem h
      generalize o[k + 3] = x at hx
      simp only [dec_true (show ((k + 3 : Nat) : Int) < (o.length : Int) by omega), inR_true (show (0 : Int) ≤ ((k + 3 : Nat) : Int) ∧ ((k + 3 : Nat) : Int) < (o.length : Int) by omega), cond_true, Int.toNat_natCast, hx, bindO_pure, if_pos h]
      exact ⟨_, rfl⟩
    · simp only [dec_false (show ¬ ((k + 3 : Nat) : Int) < (o.length : Int) by omega), cond_false, if_neg h]
      first | exact ⟨0, rfl⟩ | exact ⟨0, True.intro⟩
  simp only [nodeDlaw11_LogrecBack_n0, nodelaw11_LogrecBack_n0]
  obtain ⟨v0, h0⟩ := r0 o hl
  rw [h0, bindO_pure]
  by_cases c0 : k + 0 < (o).length
  rotate_left
  · rw [if_neg c0, Sum.elim_inr]
    exact ⟨_, rfl, Turned.refl k o⟩
  rw [if_pos c0, Sum.elim_inl]
  obtain ⟨v1, h1⟩ := r1 ((o).set (k + 0) v0) (by rw [List.length_set]; exact hl)
  rw [h1, bindO_pure]
  by_cases c1 : k + 1 < ((o).set (k + 0) v0).length
  rotate_left
  · rw [if_neg c1, Sum.elim_inr]
    exact ⟨_, rfl, (Turned.refl k o).set ⟨by omega, by omega⟩ v0⟩
  rw [if_pos c1, Sum.elim_inl]
  obtain ⟨v2, h2⟩ := r2 (((o).set (k + 0) v0).set (k + 1) v1) (by rw [List.length_set]; exact (by rw [List.length_set]; exact hl))
  rw [h2, bindO_pure]
  by_cases c2 : k + 2 < (((o).set (k + 0) v0).set (k + 1) v1).length
  rotate_left
  · rw [if_neg c2, Sum.elim_inr]
    exact ⟨_, rfl, ((Turned.refl k o).set ⟨by omega, by omega⟩ v0).set ⟨by omega, by omega⟩ v1⟩
  rw [if_pos c2, Sum.elim_inl]
  obtain ⟨v3, h3⟩ := r3 ((((o).set (k + 0) v0).set (k + 1) v1).set (k + 2) v2) (by rw [List.length_set]; exact (by rw [List.length_set]; exact (by rw [List.length_set]; exact hl)))
  rw [h3, bindO_pure]
  by_cases c3 : k + 3 < ((((o).set (k + 0) v0).set (k + 1) v1).set (k + 2) v2).length
  rotate_left
  · rw [if_neg c3, Sum.elim_inr]
    exact ⟨_, rfl, (((Turned.refl k o).set ⟨by omega, by omega⟩ v0).set ⟨by omega, by omega⟩ v1).set ⟨by omega, by omega⟩ v2⟩
  rw [if_pos c3, Sum.elim_inl]
  exact ⟨_, rfl, ((((Turned.refl k o).set ⟨by omega, by omega⟩ v0).set ⟨by omega, by omega⟩ v1).set ⟨by omega, by omega⟩ v2).set ⟨by omega, by omega⟩ v3⟩

theorem putN_inL (s : List UInt8) {n : Int} {k : Nat} (h : 0 ≤ n ∧ n < ((256 ^ k : Nat) : Int)) : putN s n k = s ++ be k n.toNat := by unfold putN; rw [if_pos h]
abbrev GoodR (q : Int) (l : Secl) : Prop := (0 ≤ q ∧ q < 281474976710656) ∧ chkL l = 0
def placesR (l : Secl) : List UInt8 := l.flatMap fun x => be 2 x.1.toNat
theorem fold_places (l : Secl) : ∀ s : List UInt8, (∀ x ∈ l, 0 ≤ x.1 ∧ x.1 < 1000) → l.foldl (fun s x => putN s x.1 2) s = s ++ placesR l := by
  induction l with
  | nil => intro s _; simp [placesR]
  | cons x r ih =>
    intro s h
    have hx := h x (List.mem_cons_self ..)
    rw [List.foldl_cons, ih _ (fun y hy => h y (List.mem_cons_of_mem _ hy)), putN_inL s (k := 2) (n := x.1) (by omega)]
    simp [placesR]
theorem told_is {q : Int} {l : Secl} (h : GoodR q l) : toldR q l = 82 :: (be 6 q.toNat ++ (be 1 l.length ++ placesR l)) := by
  obtain ⟨g1, g2, g3⟩ := chkL_zero h.2
  unfold toldR
  rw [fold_places l _ (fun x hx => ⟨(g3 x hx).1, (g3 x hx).2.1⟩), putN_inL [82] (k := 6) (n := q) (by omega), putN_inL _ (k := 1) (n := (l.length : Int)) (by omega), Int.toNat_natCast]
  simp
theorem flat_len {α : Type} (f : α → List UInt8) (c : Nat) : ∀ l : List α, (∀ x ∈ l, (f x).length = c) → (l.flatMap f).length = c * l.length
  | [], _ => by simp
  | x :: r, h => by
    rw [List.flatMap_cons, List.length_append, h x (List.mem_cons_self ..), flat_len f c r (fun y hy => h y (List.mem_cons_of_mem _ hy)), List.length_cons, Nat.mul_add]
    omega
theorem flat_chunk {α : Type} (f : α → List UInt8) (c : Nat) : ∀ (l : List α) (i : Nat) (x : α), (∀ x ∈ l, (f x).length = c) → l[i]? = some x → ((l.flatMap f).drop (c * i)).take c = f x
  | [], i, x, _, h => by simp at h
  | y :: r, 0, x, hl, h => by
    simp at h; subst h
    rw [List.flatMap_cons, Nat.mul_zero, List.drop_zero, List.take_append_of_le_length (by rw [hl y (List.mem_cons_self ..)]; exact Nat.le_refl _), List.take_of_length_le (by rw [hl y (List.mem_cons_self ..)]; exact Nat.le_refl _)]
  | y :: r, i + 1, x, hl, h => by
    have hy := hl y (List.mem_cons_self ..)
    rw [List.flatMap_cons, List.drop_append, List.drop_eq_nil_of_le (by rw [hy, Nat.mul_add]; omega), List.nil_append, hy, show c * (i + 1) - c = c * i by rw [Nat.mul_add]; omega]
    exact flat_chunk f c r i x (fun y hy => hl y (List.mem_cons_of_mem _ hy)) (by simpa using h)
theorem placesR_len (l : Secl) : (placesR l).length = 2 * l.length := flat_len _ 2 l fun x _ => be_length 2 _
theorem toldR_is_len {q : Int} {l : Secl} (h : GoodR q l) : (toldR q l).length = 8 + 2 * l.length := by
  rw [told_is h]
  simp only [List.length_cons, List.length_append, be_length, placesR_len]
  omega
/-- A record's parts. -/
theorem rec_parts {q : Int} {l : Secl} (h : GoodR q l) : recR q l = toldR q l ++ (tail (toldR q l ++ allR l) ++ (List.replicate (52 - 2 * l.length) 0 ++ allR l)) := by
  obtain ⟨g1, g2, g3⟩ := chkL_zero h.2
  unfold recR padTo
  have : (toldR q l ++ tail (toldR q l ++ allR l)).length = 12 + 2 * l.length := by rw [List.length_append, tail_len, toldR_is_len h]; omega
  rw [this, show (64 - (12 + 2 * l.length) % 64) % 64 = 52 - 2 * l.length by omega]
  simp
theorem allR_is_len {q : Int} {l : Secl} (h : GoodR q l) : (allR l).length = 64 * l.length := allR_len fun x hx => ((chkL_zero h.2).2.2 x hx).2.2
theorem rec_len {q : Int} {l : Secl} (h : GoodR q l) : (recR q l).length = 64 * (l.length + 1) := by
  obtain ⟨g1, g2, g3⟩ := chkL_zero h.2
  rw [rec_parts h]
  simp only [List.length_append, toldR_is_len h, tail_len, List.length_replicate, allR_is_len h]
  omega
theorem rec_told {q : Int} {l : Secl} (h : GoodR q l) (i k : Nat) (hik : i + k ≤ 8 + 2 * l.length) : ((recR q l).drop i).take k = ((toldR q l).drop i).take k := by
  have := toldR_is_len h
  rw [rec_parts h, List.drop_append_of_le_length (by omega), List.take_append_of_le_length (by rw [List.length_drop]; omega)]
theorem rec_take_told {q : Int} {l : Secl} (h : GoodR q l) : (recR q l).take (8 + 2 * l.length) = toldR q l := by
  have h1 := toldR_is_len h
  rw [rec_parts h, List.take_append_of_le_length (by omega), List.take_of_length_le (by omega)]
theorem rec_drop_told {q : Int} {l : Secl} (h : GoodR q l) : (recR q l).drop (8 + 2 * l.length) = tail (toldR q l ++ allR l) ++ (List.replicate (52 - 2 * l.length) 0 ++ allR l) := by
  have h1 := toldR_is_len h
  rw [rec_parts h, List.drop_append, List.drop_eq_nil_of_le (by omega), List.nil_append, h1, Nat.sub_self, List.drop_zero]
theorem rec_sum {q : Int} {l : Secl} (h : GoodR q l) : ((recR q l).drop (8 + 2 * l.length)).take 4 = tail (toldR q l ++ allR l) := by
  rw [rec_drop_told h, List.take_append_of_le_length (by rw [tail_len]; omega), List.take_of_length_le (by rw [tail_len]; omega)]
theorem rec_all {q : Int} {l : Secl} (h : GoodR q l) : (recR q l).drop 64 = allR l := by
  obtain ⟨g1, g2, g3⟩ := chkL_zero h.2
  have h1 := toldR_is_len h
  have : (recR q l).drop 64 = ((recR q l).drop (8 + 2 * l.length)).drop (56 - 2 * l.length) := by rw [List.drop_drop]; congr 1; omega
  rw [this, rec_drop_told h, ← List.append_assoc, List.drop_append, List.drop_eq_nil_of_le (by simp only [List.length_append, tail_len, List.length_replicate]; omega), List.nil_append]
  simp only [List.length_append, tail_len, List.length_replicate]
  rw [show 56 - 2 * l.length - (4 + (52 - 2 * l.length)) = 0 by omega, List.drop_zero]
theorem drop_cons_app (a : UInt8) (x y : List UInt8) (n : Nat) (h : x.length = n) : (a :: (x ++ y)).drop (n + 1) = y := by
  rw [List.drop_succ_cons, List.drop_append, List.drop_eq_nil_of_le (by omega), List.nil_append, h, Nat.sub_self, List.drop_zero]
theorem rec_get {q : Int} {l : Secl} (h : GoodR q l) : getM (recR q l) = (q, 0, l) ∧ seqOf (recR q l) = q ∧ manyOf (recR q l) = l.length ∧ (recR q l).take 1 = [82] := by
  obtain ⟨g1, g2, g3⟩ := chkL_zero h.2
  have hlen := rec_len h
  have hn : (recR q l).length / 64 - 1 = l.length := by omega
  have ht := told_is h
  have p0 : (recR q l).take 1 = [82] := by
    have := rec_told h 0 1 (by omega)
    rw [List.drop_zero, List.drop_zero] at this
    rw [this, ht]; rfl
  have p1 : seqOf (recR q l) = q := by
    unfold seqOf
    rw [rec_told h 1 6 (by omega), ht, List.drop_succ_cons, List.drop_zero, List.take_append_of_le_length (by rw [be_length]; omega), List.take_of_length_le (by rw [be_length]; omega), num_be_small (by omega)]
    omega
  have p2 : manyOf (recR q l) = l.length := by
    unfold manyOf
    rw [rec_told h 7 1 (by omega), ht, drop_cons_app 82 _ _ 6 (be_length 6 _), List.take_append_of_le_length (by rw [be_length]; omega), List.take_of_length_le (by rw [be_length]; omega), num_be_small (by omega)]
  have p3 : secsOf (recR q l) l.length = l := by
    apply List.ext_getElem?
    intro i
    unfold secsOf
    rw [List.getElem?_map]
    by_cases hi : i < l.length
    · rw [List.getElem?_range hi]
      have hx : l[i]? = some l[i] := List.getElem?_eq_getElem hi
      generalize l[i] = x at hx
      have gx := g3 x (List.mem_of_getElem? hx)
      have a1 : ((recR q l).drop (8 + 2 * i)).take 2 = be 2 x.1.toNat := by
        rw [rec_told h _ 2 (by omega), ht]
        have : (82 :: (be 6 q.toNat ++ (be 1 l.length ++ placesR l))).drop (8 + 2 * i) = (placesR l).drop (2 * i) := by
          rw [← List.drop_drop]
          have e8 : (82 :: (be 6 q.toNat ++ (be 1 l.length ++ placesR l))).drop 8 = placesR l := by
            rw [← List.append_assoc]
            exact drop_cons_app 82 _ _ 7 (by rw [List.length_append, be_length, be_length])
          rw [e8]
        rw [this]
        exact flat_chunk _ 2 l i x (fun y _ => be_length 2 _) hx
      have a2 : ((recR q l).drop (64 + 64 * i)).take 64 = x.2 := by
        rw [← List.drop_drop, rec_all h]
        exact flat_chunk _ 64 l i x (fun y hy => (g3 y hy).2.2) hx
      rw [hx]
      simp only [Option.map_some, a1, a2]
      rw [num_be_small (by omega)]
      congr 2
      omega
    · rw [List.getElem?_eq_none (by simpa using hi), List.getElem?_eq_none (by omega)]; rfl
  have p4 : putR q l = (recR q l, 0) := by
    unfold putR
    rw [if_neg (by have := h.1; omega), if_neg (by simpa using h.2)]
  refine ⟨?_, p1, p2, p0⟩
  unfold getM
  rw [hn, if_neg (by omega), if_neg (by rintro (x | x | x | x) <;> first | exact x p0 | exact x p2 | omega), if_neg (fun x => x (by rw [rec_sum h, rec_take_told h, rec_all h])), p1, p3, p4]
  unfold finL
  rw [if_pos rfl]
theorem get_ok {t : List UInt8} (h : (getM t).2.1 = 0) : ∃ q l, GoodR q l ∧ t = recR q l := by
  unfold getM at h
  split at h
  · simp at h
  · split at h
    · simp at h
    · split at h
      · simp at h
      · unfold finL at h
        split at h
        · rename_i hp
          generalize seqOf t = q at hp
          generalize secsOf t (t.length / 64 - 1) = l at hp
          unfold putR at hp
          split at hp
          · have := congrArg Prod.snd hp
            simp at this
          · split at hp
            · rename_i hc
              have := congrArg Prod.snd hp
              exact absurd this hc
            · rename_i hq hc
              exact ⟨q, l, ⟨by omega, by simpa using hc⟩, (congrArg Prod.fst hp).symm⟩
        · simp at h
theorem whole_tail (m : List UInt8) : Whole (m ++ tail m) := ⟨m, rfl⟩
theorem get_app_left {α : Type} {a b : List α} {i : Nat} (h : i < a.length) : (a ++ b)[i]? = a[i]? := List.getElem?_append_left h
theorem get_app_right {α : Type} {a b : List α} {i : Nat} (h : a.length ≤ i) : (a ++ b)[i]? = b[i - a.length]? := List.getElem?_append_right h
theorem rec_turned {q q' : Int} {l l' : Secl} (h : GoodR q l) (h' : GoodR q' l') {k : Nat} (ht : Turned k (recR q l) (recR q' l')) (hk : ¬ (k < 8 + 2 * l.length ∧ 8 + 2 * l.length < k + 4)) : recR q' l' = recR q l := by
  obtain ⟨g1, g2, g3⟩ := chkL_zero h.2
  obtain ⟨g1', g2', g3'⟩ := chkL_zero h'.2
  have hl := rec_len h
  have hl' := rec_len h'
  have hll : l'.length = l.length := by have := ht.len; omega
  have t1 := toldR_is_len h
  have t1' := toldR_is_len h'
  have a1 := allR_is_len h
  have a1' := allR_is_len h'
  have e1 := rec_parts h
  have e1' := rec_parts h'
  rw [hll] at t1' a1' e1'
  -- the parts, by place
  have pt : ∀ i, i < 8 + 2 * l.length → (recR q l)[i]? = (toldR q l)[i]? ∧ (recR q' l')[i]? = (toldR q' l')[i]? := fun i hi => by
    rw [e1, e1', get_app_left (by omega), get_app_left (by omega)]; exact ⟨rfl, rfl⟩
  have d1 := rec_drop_told h
  have d1' := rec_drop_told h'
  rw [hll] at d1'
  have ps : ∀ i, i < 4 → (recR q l)[8 + 2 * l.length + i]? = (tail (toldR q l ++ allR l))[i]? ∧ (recR q' l')[8 + 2 * l.length + i]? = (tail (toldR q' l' ++ allR l'))[i]? := fun i hi => by
    refine ⟨?_, ?_⟩
    · rw [← List.getElem?_drop, d1, get_app_left (by rw [tail_len]; omega)]
    · rw [← List.getElem?_drop, d1', get_app_left (by rw [tail_len]; omega)]
  have pa : ∀ i, (recR q l)[64 + i]? = (allR l)[i]? ∧ (recR q' l')[64 + i]? = (allR l')[i]? := fun i => by
    rw [← rec_all h, ← rec_all h', List.getElem?_drop, List.getElem?_drop]; exact ⟨rfl, rfl⟩
  have told_eq : (∀ i, i < 8 + 2 * l.length → i < k ∨ k + 4 ≤ i) → toldR q' l' = toldR q l := fun hi => by
    apply List.ext_getElem?
    intro i
    by_cases hi' : i < 8 + 2 * l.length
    · rw [← (pt i hi').1, ← (pt i hi').2]
      exact ht.out i (hi i hi')
    · rw [List.getElem?_eq_none (by omega), List.getElem?_eq_none (by omega)]
  have tail_eq : (∀ i, i < 4 → 8 + 2 * l.length + i < k ∨ k + 4 ≤ 8 + 2 * l.length + i) → tail (toldR q' l' ++ allR l') = tail (toldR q l ++ allR l) := fun hi => by
    apply List.ext_getElem?
    intro i
    by_cases hi' : i < 4
    · rw [← (ps i hi').1, ← (ps i hi').2]
      exact ht.out _ (hi i hi')
    · rw [List.getElem?_eq_none (by rw [tail_len]; omega), List.getElem?_eq_none (by rw [tail_len]; omega)]
  have all_eq : (∀ i, i < 64 * l.length → 64 + i < k ∨ k + 4 ≤ 64 + i) → allR l' = allR l := fun hi => by
    apply List.ext_getElem?
    intro i
    by_cases hi' : i < 64 * l.length
    · rw [← (pa i).1, ← (pa i).2]
      exact ht.out _ (hi i hi')
    · rw [List.getElem?_eq_none (by omega), List.getElem?_eq_none (by omega)]
  have fin : toldR q' l' = toldR q l → allR l' = allR l → recR q' l' = recR q l := fun x y => by rw [e1, e1', x, y]
  by_cases c1 : k + 4 ≤ 8 + 2 * l.length
  · -- ahead of the tail
    have ha := all_eq fun i _ => .inr (by omega)
    have hs := tail_eq fun i _ => .inr (by omega)
    refine fin ?_ ha
    rw [ha] at hs
    have := burst_at (s := (toldR q' l' ++ allR l) ++ tail (toldR q' l' ++ allR l)) (t := (toldR q l ++ allR l) ++ tail (toldR q l ++ allR l)) k (by simp only [List.length_append, tail_len]; omega) (by simp only [List.length_append, tail_len]; omega) (whole_tail _) (whole_tail _) (fun i hi => by
      rw [hs, List.append_assoc, List.append_assoc]
      by_cases hi' : i < 8 + 2 * l.length
      · rw [get_app_left (by omega), get_app_left (by omega), ← (pt i hi').1, ← (pt i hi').2]
        exact ht.out i hi
      · rw [get_app_right (a := toldR q' l') (by omega), get_app_right (a := toldR q l) (by omega), t1, t1'])
    rw [List.append_assoc, List.append_assoc] at this
    exact (List.append_inj this (by omega)).1
  · by_cases c2 : k < 8 + 2 * l.length + 4
    · -- in the tail
      have hk1 : 8 + 2 * l.length ≤ k := by omega
      exact fin (told_eq fun i hi => .inl (by omega)) (all_eq fun i _ => .inr (by omega))
    · -- behind it
      have hto := told_eq fun i hi => .inl (by omega)
      have hs := tail_eq fun i hi => .inl (by omega)
      refine fin hto ?_
      rw [hto] at hs
      by_cases c3 : k + 4 ≤ 64
      · exact all_eq fun i _ => .inr (by omega)
      · have := burst_at (s := (toldR q l ++ allR l') ++ tail (toldR q l ++ allR l')) (t := (toldR q l ++ allR l) ++ tail (toldR q l ++ allR l)) (k + (8 + 2 * l.length) - 64) (by simp only [List.length_append, tail_len]; omega) (by simp only [List.length_append, tail_len]; omega) (whole_tail _) (whole_tail _) (fun i hi => by
          rw [hs]
          by_cases hi1 : i < 8 + 2 * l.length + 64 * l.length
          · rw [get_app_left (a := toldR q l ++ allR l') (by rw [List.length_append]; omega), get_app_left (a := toldR q l ++ allR l) (by rw [List.length_append]; omega)]
            by_cases hi2 : i < 8 + 2 * l.length
            · rw [get_app_left (by omega), get_app_left (by omega)]
            · rw [get_app_right (by omega), get_app_right (by omega), t1, ← (pa _).1, ← (pa _).2]
              exact ht.out _ (by omega)
          · rw [get_app_right (a := toldR q l ++ allR l') (by rw [List.length_append]; omega), get_app_right (a := toldR q l ++ allR l) (by rw [List.length_append]; omega)]
            simp only [List.length_append, a1, a1'])
        have h2 := (List.append_inj this (by simp only [List.length_append]; omega)).1
        exact (List.append_inj h2 rfl).2

theorem LogrecBack_true (q : Int) (l : Secl) (at_ b0 b1 b2 b3 : Int) (hl : l.length ≤ 9223372036854775807) : fnDlaw11_LogrecBack (q, l, at_, b0, b1, b2, b3) = some true := by
  obtain ⟨b, hb, hg⟩ := lgreat l hl
  simp only [fnDlaw11_LogrecBack, fnlaw11_LogrecBack, lrworks, hb, bindO_pure, Bool.not_true, cond_false]
  cases b with
  | true => rfl
  | false =>
    have hl40 := hg rfl
    simp only [cond_false, lput_eq q l (by omega), bindO_pure]
    by_cases hq : q < 0 ∨ q ≥ 281474976710656
    · have : putR q l = ([], 3) := by unfold putR; rw [if_pos hq]
      rw [this]; rfl
    by_cases hc : chkL l = 0
    · have h : GoodR q l := ⟨by omega, hc⟩
      have hp : putR q l = (recR q l, 0) := by unfold putR; rw [if_neg hq, if_neg (by simpa using hc)]
      obtain ⟨g1, g2, g3⟩ := chkL_zero hc
      have hlen := rec_len h
      obtain ⟨r1, r2, r3, r4⟩ := rec_get h
      rw [hp]
      have w1 : IntKind.wrap .i64 ((l.length : Int) + 1) = ((l.length + 1 : Nat) : Int) := wrap64_nat (by omega)
      have w2 : IntKind.wrap .i64 (((l.length + 1 : Nat) : Int) * 64) = ((64 * (l.length + 1) : Nat) : Int) := by rw [wrap64 (by omega) (by omega)]; omega
      have e0 : ((0 : Int) != 0) = false := rfl
      have eL : (((recR q l).length : Int) != ((64 * (l.length + 1) : Nat) : Int)) = false := by rw [bne_eq_false_iff_eq]; omega
      have i1 : inR 64 ((recR q l).length + 1) = true := inR_true ⟨by omega, by omega⟩
      have hsz : sizeM ((recR q l).take 64) q = (((l.length + 1 : Nat) : Int), 0) := by
        have tt : ∀ i k, i + k ≤ 64 → (((recR q l).take 64).drop i).take k = ((recR q l).drop i).take k := by
          intro i k hik
          rw [List.drop_take, List.take_take, Nat.min_eq_left (by omega)]
        unfold sizeM
        have s1 : ((recR q l).take 64).length = 64 := by rw [List.length_take]; omega
        have s2 : ((recR q l).take 64).take 1 = [82] := by rw [List.take_take, Nat.min_eq_left (by omega)]; exact r4
        have s3 : seqOf ((recR q l).take 64) = q := by unfold seqOf at r2 ⊢; rw [tt 1 6 (by omega)]; exact r2
        have s4 : manyOf ((recR q l).take 64) = l.length := by unfold manyOf at r3 ⊢; rw [tt 7 1 (by omega)]; exact r3
        rw [if_neg (by simpa using s1), if_neg (by rintro (x | x | x | x) <;> first | exact x s2 | exact x s3 | omega), s4]
      have il : (intsOf (recR q l)).length = 64 * (l.length + 1) := by rw [intsOf, List.length_map, hlen]
      have u64 : IntKind.wrap .u64 ((64 * (l.length + 1) : Nat) : Int) = ((64 * (l.length + 1) : Nat) : Int) := by simp [IntKind.wrap, IntKind.bits, IntKind.signed]; omega
      have z0 : ((((64 * (l.length + 1) : Nat) : Int)) == 0) = false := by rw [beq_eq_false_iff_ne]; omega
      obtain ⟨k, hk, hkl⟩ : ∃ k : Nat, IntKind.wrap .i64 (Int.tmod (IntKind.wrap .u64 at_) ((64 * (l.length + 1) : Nat) : Int)) = (k : Int) ∧ k < 64 * (l.length + 1) := by
        have h0 : 0 ≤ IntKind.wrap .u64 at_ := by simp [IntKind.wrap, IntKind.bits, IntKind.signed]; omega
        obtain ⟨m, hm⟩ := Int.eq_ofNat_of_zero_le h0
        have hlt : m % (64 * (l.length + 1)) < 64 * (l.length + 1) := Nat.mod_lt _ (by omega)
        refine ⟨m % (64 * (l.length + 1)), ?_, hlt⟩
        rw [hm]
        have : Int.tmod (m : Int) ((64 * (l.length + 1) : Nat) : Int) = ((m % (64 * (l.length + 1)) : Nat) : Int) := rfl
        rw [this, wrapN (by omega)]
      obtain ⟨o', ho, htn⟩ := law11_LogrecBack_turned q l (recR q l) q 0 ((l.length + 1 : Nat) : Int) 0 b0 b1 b2 b3 l k (by omega) (intsOf (recR q l)) (by omega)
      have htb : Turned k (recR q l) (bytesOf o') := by
        have := htn.map (fun n : Int => UInt8.ofNat n.toNat)
        rw [show (intsOf (recR q l)).map (fun n : Int => UInt8.ofNat n.toNat) = recR q l from bytes_ints _] at this
        exact this
      obtain ⟨B, hBe⟩ : ∃ B, bytesOf o' = B := ⟨_, rfl⟩
      rw [hBe] at htb
      have hB : B.length = 64 * (l.length + 1) := by rw [htb.len, hlen]
      have w3 : IntKind.wrap .i64 (2 * (l.length : Int)) = ((2 * l.length : Nat) : Int) := by rw [wrap64 (by omega) (by omega)]; omega
      have w4 : IntKind.wrap .i64 (8 + ((2 * l.length : Nat) : Int)) = ((8 + 2 * l.length : Nat) : Int) := by rw [wrap64 (by omega) (by omega)]; omega
      have w5 : IntKind.wrap .i64 ((k : Int) + 4) = ((k + 4 : Nat) : Int) := by rw [wrap64 (by omega) (by omega)]; omega
      have hsec := sectors_same l (by omega)
      simp only [unP_mk, e0, cond_false, w1, w2, eL, lget_eq (recR q l) (by omega), r1, bindO_pure, i1, cond_true, lsize_eq ((recR q l).take 64) q (by rw [List.length_take]; omega), hsz, ble_true (show (recR q l).length ≤ 140737488355328 by omega), il, u64, z0, hk, ho, hBe,
        lget_eq B (by omega), w3, w4, nodeDlaw11_LogrecBack_n3, nodelaw11_LogrecBack_n3, w5]
      generalize hgB : getM B = x
      obtain ⟨x1, x2, x3⟩ := x
      simp only [unP_mk, nodeDlaw11_LogrecBack_n4, nodelaw11_LogrecBack_n4, nodeDlaw11_LogrecBack_n5, nodelaw11_LogrecBack_n5, beq_self_eq_true, cond_true, hsec, bindO_pure, hBe, w1]
      by_cases c1 : (k : Int) < ((8 + 2 * l.length : Nat) : Int)
      · rw [dec_true c1, cond_true]
        by_cases c2 : ((k + 4 : Nat) : Int) > ((8 + 2 * l.length : Nat) : Int)
        · rw [dec_true c2]; rfl
        · rw [dec_false c2]
          have key : (x2 == 0) = (B == recR q l) := by
            by_cases hBS : B = recR q l
            · rw [hBS, r1] at hgB
              cases hgB
              rw [hBS]; simp
            · rw [beq_false_of_ne hBS, beq_eq_false_iff_ne]
              intro h0
              obtain ⟨q', l', h', hB'⟩ := get_ok (t := B) (by rw [hgB]; exact h0)
              rw [hB'] at htb
              exact hBS (hB'.trans (rec_turned h h' htb (by omega)))
          simp only [bindO_pure, cond_false, key, beq_self_eq_true]
      · rw [dec_false c1, cond_false]
        have key : (x2 == 0) = (B == recR q l) := by
          by_cases hBS : B = recR q l
          · rw [hBS, r1] at hgB
            cases hgB
            rw [hBS]; simp
          · rw [beq_false_of_ne hBS, beq_eq_false_iff_ne]
            intro h0
            obtain ⟨q', l', h', hB'⟩ := get_ok (t := B) (by rw [hgB]; exact h0)
            rw [hB'] at htb
            exact hBS (hB'.trans (rec_turned h h' htb (by omega)))
        simp only [bindO_pure, cond_false, key, beq_self_eq_true]
    · have hp : putR q l = ([], chkL l) := by unfold putR; rw [if_neg hq, if_pos hc]
      have : (chkL l != 0) = true := by rw [bne_iff_ne]; exact hc
      rw [hp]
      simp only [unP_mk, this, cond_true]
      rfl
end Go.Proofs.R2
