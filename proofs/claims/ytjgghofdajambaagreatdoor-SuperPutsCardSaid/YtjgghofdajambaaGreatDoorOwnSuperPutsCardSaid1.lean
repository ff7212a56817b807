/- What the functions that SuperPutsCardSaid reaches compute: part 1. -/
import Derived.Test.YtjgghofdajambaaGreatDoorAe3
set_option linter.unusedVariables false
set_option linter.unusedSimpArgs false
namespace Go.Plain

def poly : Nat := 3988292384
def bitStep (n : Nat) : Nat := (n / 2) ^^^ (if n % 2 = 1 then poly else 0)
def nbits : Nat → Nat → Nat
  | 0, n => n
  | k + 1, n => nbits k (bitStep n)
def byteStep (n c : Nat) : Nat := nbits 8 (n ^^^ c)
def crun (n : Nat) (s : List UInt8) : Nat := s.foldl (fun n c => byteStep n c.toNat) n
def all32 : Nat := 4294967295
def crc (s : List UInt8) : Nat := crun all32 s ^^^ all32
def le4 (n : Nat) : List UInt8 := [UInt8.ofNat (n % 256), UInt8.ofNat (n / 256 % 256), UInt8.ofNat (n / 65536 % 256), UInt8.ofNat (n / 16777216 % 256)]
def tail (s : List UInt8) : List UInt8 := le4 (crc s)

theorem bitStep_lt {n : Nat} (h : n < 2 ^ 32) : bitStep n < 2 ^ 32 := by
  unfold bitStep
  refine Nat.xor_lt_two_pow (by omega) ?_
  unfold poly
  split <;> decide
theorem bitStep_bit {n : Nat} (h : n < 2 ^ 32) : (bitStep n).testBit 31 = decide (n % 2 = 1) := by
  unfold bitStep
  rw [Nat.testBit_xor]
  have h1 : (n / 2).testBit 31 = false := Nat.testBit_lt_two_pow (by omega)
  rw [h1]
  by_cases hn : n % 2 = 1
  · rw [if_pos hn]; simp [hn]; decide
  · rw [if_neg hn]; simp [hn]
theorem xor_cancel {a b c : Nat} (h : a ^^^ c = b ^^^ c) : a = b := by
  have : (a ^^^ c) ^^^ c = (b ^^^ c) ^^^ c := by rw [h]
  rwa [Nat.xor_assoc, Nat.xor_assoc, Nat.xor_self, Nat.xor_zero, Nat.xor_zero] at this
theorem bitStep_inj {n m : Nat} (hn : n < 2 ^ 32) (hm : m < 2 ^ 32) (h : bitStep n = bitStep m) : n = m := by
  have hb := bitStep_bit hn
  rw [h, bitStep_bit hm] at hb
  have hp : m % 2 = 1 ↔ n % 2 = 1 := by simpa using hb
  unfold bitStep at h
  by_cases e : n % 2 = 1
  · have e' := hp.2 e
    rw [if_pos e, if_pos e'] at h
    have := xor_cancel h
    omega
  · have e' : ¬ m % 2 = 1 := fun x => e (hp.1 x)
    rw [if_neg e, if_neg e', Nat.xor_zero, Nat.xor_zero] at h
    omega
theorem bitStep_xor (a b : Nat) : bitStep (a ^^^ b) = bitStep a ^^^ bitStep b := by
  unfold bitStep
  have h1 : (a ^^^ b) / 2 = a / 2 ^^^ b / 2 := by
    have := Nat.shiftRight_xor_distrib (a := a) (b := b) (i := 1)
    simpa [Nat.shiftRight_eq_div_pow] using this
  have h2 : (a ^^^ b) % 2 = (a % 2) ^^^ (b % 2) := by
    have := Nat.xor_mod_two_pow (a := a) (b := b) (n := 1)
    simpa using this
  rw [h1, h2]
  have ha : a % 2 = 0 ∨ a % 2 = 1 := by omega
  have hb : b % 2 = 0 ∨ b % 2 = 1 := by omega
  rcases ha with ha | ha <;> rcases hb with hb | hb <;> rw [ha, hb]
  · simp
  · simp [Nat.xor_assoc]
  · simp
    rw [Nat.xor_assoc, Nat.xor_comm (b / 2), ← Nat.xor_assoc]
  · simp
    rw [Nat.xor_assoc, ← Nat.xor_assoc poly, Nat.xor_comm poly, Nat.xor_assoc, Nat.xor_self, Nat.xor_zero]
theorem bits_lt : ∀ (k : Nat) {n : Nat}, n < 2 ^ 32 → nbits k n < 2 ^ 32
  | 0, _, h => h
  | k + 1, _, h => bits_lt k (bitStep_lt h)
theorem bits_inj : ∀ (k : Nat) {n m : Nat}, n < 2 ^ 32 → m < 2 ^ 32 → nbits k n = nbits k m → n = m
  | 0, _, _, _, _, h => h
  | k + 1, _, _, hn, hm, h => bitStep_inj hn hm (bits_inj k (bitStep_lt hn) (bitStep_lt hm) h)
theorem bits_xor : ∀ (k a b : Nat), nbits k (a ^^^ b) = nbits k a ^^^ nbits k b
  | 0, _, _ => rfl
  | k + 1, a, b => by rw [nbits, bitStep_xor, bits_xor k]; rfl
theorem bits_shift : ∀ (k c : Nat), nbits k (c * 2 ^ k) = c
  | 0, c => by simp [nbits]
  | k + 1, c => by
    have : bitStep (c * 2 ^ (k + 1)) = c * 2 ^ k := by
      unfold bitStep
      have h1 : c * 2 ^ (k + 1) = 2 * (c * 2 ^ k) := by rw [Nat.pow_succ, ← Nat.mul_assoc, Nat.mul_comm]
      rw [h1, if_neg (by omega), Nat.xor_zero]
      omega
    rw [nbits, this]
    exact bits_shift k c
theorem bits_add : ∀ (j k n : Nat), nbits k (nbits j n) = nbits (j + k) n
  | 0, k, n => by rw [Nat.zero_add]; rfl
  | j + 1, k, n => by rw [nbits, bits_add j k, show j + 1 + k = (j + k) + 1 by omega]; rfl
theorem byteStep_lt {n c : Nat} (hn : n < 2 ^ 32) (hc : c < 256) : byteStep n c < 2 ^ 32 := bits_lt 8 (Nat.xor_lt_two_pow hn (by omega))
theorem run_lt : ∀ (s : List UInt8) {n : Nat}, n < 2 ^ 32 → crun n s < 2 ^ 32
  | [], _, h => h
  | c :: s, _, h => run_lt s (byteStep_lt h c.toNat_lt)
theorem run_inj : ∀ (s : List UInt8) {n m : Nat}, n < 2 ^ 32 → m < 2 ^ 32 → crun n s = crun m s → n = m
  | [], _, _, _, _, h => h
  | c :: s, n, m, hn, hm, h => by
    have hc : c.toNat < 2 ^ 32 := by have := c.toNat_lt; omega
    exact xor_cancel (bits_inj 8 (Nat.xor_lt_two_pow hn hc) (Nat.xor_lt_two_pow hm hc) (run_inj s (byteStep_lt hn c.toNat_lt) (byteStep_lt hm c.toNat_lt) h))
theorem run_append (n : Nat) (s t : List UInt8) : crun n (s ++ t) = crun (crun n s) t := List.foldl_append ..
theorem step_word (n : Nat) (k c : Nat) : byteStep (nbits k n) c = nbits (k + 8) (n ^^^ (c * 2 ^ k)) := by
  unfold byteStep
  rw [← bits_add, bits_xor k, bits_shift]
theorem run4 (n : Nat) (a b c d : UInt8) : crun n [a, b, c, d] = nbits 32 (n ^^^ (a.toNat ^^^ b.toNat * 2 ^ 8 ^^^ c.toNat * 2 ^ 16 ^^^ d.toNat * 2 ^ 24)) := by
  show byteStep (byteStep (byteStep (byteStep n a.toNat) b.toNat) c.toNat) d.toNat = _
  have h0 : byteStep n a.toNat = nbits 8 (n ^^^ a.toNat) := rfl
  rw [h0, step_word, step_word, step_word]
  congr 1
  simp only [Nat.xor_assoc]
theorem xor_low {a : Nat} (x : Nat) (ha : a < 256) : a ^^^ x * 256 = x * 256 + a := by
  have h1 : (a ^^^ x * 256) % 256 = a := by
    have := Nat.xor_mod_two_pow (a := a) (b := x * 256) (n := 8)
    simp only [show (2 : Nat) ^ 8 = 256 from rfl] at this
    rw [this, Nat.mod_eq_of_lt ha, Nat.mul_mod_left, Nat.xor_zero]
  have h2 : (a ^^^ x * 256) / 256 = x := by
    have := Nat.shiftRight_xor_distrib (a := a) (b := x * 256) (i := 8)
    simp only [Nat.shiftRight_eq_div_pow, show (2 : Nat) ^ 8 = 256 from rfl] at this
    rw [this, Nat.div_eq_of_lt ha, Nat.zero_xor, Nat.mul_div_cancel _ (by omega)]
  have := Nat.div_add_mod (a ^^^ x * 256) 256
  rw [h1, h2] at this
  omega
theorem word_parts (a b c d : UInt8) : a.toNat ^^^ b.toNat * 2 ^ 8 ^^^ c.toNat * 2 ^ 16 ^^^ d.toNat * 2 ^ 24 = a.toNat + b.toNat * 256 + c.toNat * 65536 + d.toNat * 16777216 := by
  have ha := a.toNat_lt; have hb := b.toNat_lt; have hc := c.toNat_lt
  have mulx : ∀ x y k : Nat, (x ^^^ y) * 2 ^ k = x * 2 ^ k ^^^ y * 2 ^ k := fun x y k => by
    rw [← Nat.shiftLeft_eq, ← Nat.shiftLeft_eq, ← Nat.shiftLeft_eq, Nat.shiftLeft_xor_distrib]
  have e1 : c.toNat ^^^ d.toNat * 256 = d.toNat * 256 + c.toNat := xor_low _ (by omega)
  have e2 : b.toNat ^^^ (d.toNat * 256 + c.toNat) * 256 = (d.toNat * 256 + c.toNat) * 256 + b.toNat := xor_low _ (by omega)
  have e3 : a.toNat ^^^ ((d.toNat * 256 + c.toNat) * 256 + b.toNat) * 256 = ((d.toNat * 256 + c.toNat) * 256 + b.toNat) * 256 + a.toNat := xor_low _ (by omega)
  have e4 : a.toNat ^^^ b.toNat * 2 ^ 8 ^^^ c.toNat * 2 ^ 16 ^^^ d.toNat * 2 ^ 24 = a.toNat ^^^ (b.toNat ^^^ (c.toNat ^^^ d.toNat * 256) * 256) * 256 := by
    have m1 := mulx c.toNat (d.toNat * 256) 8
    have m2 := mulx b.toNat ((c.toNat ^^^ d.toNat * 256) * 256) 8
    simp only [show (2 : Nat) ^ 8 = 256 from rfl] at m1 m2
    rw [m1] at m2 ⊢
    have m3 := mulx (c.toNat * 256) (d.toNat * 256 * 256) 8
    simp only [show (2 : Nat) ^ 8 = 256 from rfl] at m3
    rw [m2, m3]
    simp only [Nat.mul_assoc, Nat.xor_assoc, show (256 : Nat) * 256 = 2 ^ 16 from rfl, show (256 : Nat) * 2 ^ 16 = 2 ^ 24 from rfl, show (256 : Nat) = 2 ^ 8 from rfl]
  rw [e4, e1, e2, e3]
  omega
/-- Four bytes are told by what comes of them. -/
theorem run4_inj {n m : Nat} (hn : n < 2 ^ 32) {a b c d a' b' c' d' : UInt8} (hnm : n = m) (h : crun n [a, b, c, d] = crun m [a', b', c', d']) : [a, b, c, d] = [a', b', c', d'] := by
  subst hnm
  rw [run4, run4, word_parts, word_parts] at h
  have ha := a.toNat_lt; have hb := b.toNat_lt; have hc := c.toNat_lt; have hd := d.toNat_lt
  have ha' := a'.toNat_lt; have hb' := b'.toNat_lt; have hc' := c'.toNat_lt; have hd' := d'.toNat_lt
  have := bits_inj 32 (Nat.xor_lt_two_pow hn (by omega)) (Nat.xor_lt_two_pow hn (by omega)) h
  rw [Nat.xor_comm n, Nat.xor_comm n] at this
  have := xor_cancel this
  have e1 : a = a' := UInt8.toNat_inj.1 (by omega)
  have e2 : b = b' := UInt8.toNat_inj.1 (by omega)
  have e3 : c = c' := UInt8.toNat_inj.1 (by omega)
  have e4 : d = d' := UInt8.toNat_inj.1 (by omega)
  rw [e1, e2, e3, e4]

/-- Bytes with their own sum behind. -/
def Whole (s : List UInt8) : Prop := ∃ m, s = m ++ tail m
def residue : Nat := nbits 32 all32
theorem crc_lt (m : List UInt8) : crc m < 2 ^ 32 := Nat.xor_lt_two_pow (run_lt m (by decide)) (by decide)
theorem ofNat_toNat {n : Nat} (h : n < 256) : (UInt8.ofNat n).toNat = n := by
  rw [UInt8.toNat_ofNat']; omega
theorem whole_run {s : List UInt8} (h : Whole s) : crun all32 s = residue := by
  obtain ⟨m, rfl⟩ := h
  rw [run_append, tail, le4, run4, word_parts]
  have hc := crc_lt m
  rw [ofNat_toNat (by omega), ofNat_toNat (by omega), ofNat_toNat (by omega), ofNat_toNat (by omega)]
  have e : crc m % 256 + crc m / 256 % 256 * 256 + crc m / 65536 % 256 * 65536 + crc m / 16777216 % 256 * 16777216 = crc m := by omega
  rw [e]
  unfold crc residue
  rw [← Nat.xor_assoc, Nat.xor_self, Nat.zero_xor]

/-- Of two whole strings that part only within four bytes in a row, both are one. -/
theorem burst {p w w' q : List UInt8} (hl : w.length = 4) (hl' : w'.length = 4) (h : Whole (p ++ (w ++ q))) (h' : Whole (p ++ (w' ++ q))) : w = w' := by
  have e := whole_run h
  rw [← whole_run h', run_append, run_append, run_append, run_append] at e
  have hp := run_lt p (n := all32) (by decide)
  have e := run_inj q (run_lt _ hp) (run_lt _ hp) e
  match w, w', hl, hl', e with
  | [a, b, c, d], [a', b', c', d'], _, _, e => exact run4_inj hp rfl e
theorem tail_length (s : List UInt8) : (tail s).length = 4 := rfl

/-- The same, by places: two strings of one length that part nowhere but at four places in a row. -/
theorem burst_at {s t : List UInt8} (k : Nat) (hl : s.length = t.length) (h4 : 4 ≤ s.length) (hs : Whole s) (ht : Whole t) (h : ∀ i, i < k ∨ k + 4 ≤ i → s[i]? = t[i]?) : s = t := by
  -- the four places, inside
  have key : ∀ k, k + 4 ≤ s.length → (∀ i, i < k ∨ k + 4 ≤ i → s[i]? = t[i]?) → s = t := by
    intro k hk h
    have e1 : s.take k = t.take k := by
      apply List.ext_getElem?
      intro i
      rw [List.getElem?_take, List.getElem?_take]
      split
      · exact h i (.inl ‹_›)
      · rfl
    have e2 : s.drop (k + 4) = t.drop (k + 4) := by
      apply List.ext_getElem?
      intro i
      rw [List.getElem?_drop, List.getElem?_drop]
      exact h _ (.inr (by omega))
    have ds : s = s.take k ++ ((s.drop k).take 4 ++ s.drop (k + 4)) := by
      rw [show s.drop (k + 4) = (s.drop k).drop 4 by rw [List.drop_drop], List.take_append_drop, List.take_append_drop]
    have dt : t = t.take k ++ ((t.drop k).take 4 ++ t.drop (k + 4)) := by
      rw [show t.drop (k + 4) = (t.drop k).drop 4 by rw [List.drop_drop], List.take_append_drop, List.take_append_drop]
    rw [ds] at hs
    rw [dt, ← e1, ← e2] at ht
    have := burst (by rw [List.length_take, List.length_drop]; omega) (by rw [List.length_take, List.length_drop]; omega) hs ht
    rw [ds, dt, this, e1, e2]
  by_cases hk : k + 4 ≤ s.length
  · exact key k hk h
  · refine key (s.length - 4) (by omega) fun i hi => ?_
    rcases hi with hi | hi
    · exact h i (.inl (by omega))
    · rw [List.getElem?_eq_none (by omega), List.getElem?_eq_none (by omega)]
end Go.Plain
namespace Go.Plain

def be : Nat → Nat → List UInt8
  | 0, _ => []
  | k + 1, n => UInt8.ofNat (n / 256 ^ k % 256) :: be k n
def num (s : List UInt8) : Nat := s.foldl (fun n c => 256 * n + c.toNat) 0

theorem be_length : ∀ k n, (be k n).length = k
  | 0, _ => rfl
  | k + 1, n => by rw [be, List.length_cons, be_length k n]
theorem be_get : ∀ (k n i : Nat), i < k → (be k n)[i]? = some (UInt8.ofNat (n / 256 ^ (k - 1 - i) % 256))
  | 0, _, _, h => by omega
  | k + 1, n, 0, _ => by rw [be]; simp
  | k + 1, n, i + 1, h => by
    rw [be, List.getElem?_cons_succ, be_get k n i (by omega), show k + 1 - 1 - (i + 1) = k - 1 - i by omega]
theorem num_fold : ∀ (s : List UInt8) (n : Nat), s.foldl (fun n c => 256 * n + c.toNat) n = n * 256 ^ s.length + num s
  | [], n => by simp [num]
  | c :: s, n => by
    unfold num
    rw [List.foldl_cons, List.foldl_cons, num_fold s, num_fold s, List.length_cons, Nat.pow_succ, Nat.mul_zero, Nat.zero_add, Nat.add_mul, Nat.mul_comm 256 n, Nat.mul_assoc, Nat.mul_comm 256 (256 ^ s.length), Nat.add_assoc]
theorem num_cons (c : UInt8) (s : List UInt8) : num (c :: s) = c.toNat * 256 ^ s.length + num s := by
  rw [num, List.foldl_cons, num_fold, Nat.mul_zero, Nat.zero_add]
theorem num_snoc (s : List UInt8) (c : UInt8) : num (s ++ [c]) = 256 * num s + c.toNat := by
  unfold num; rw [List.foldl_append]; rfl
theorem num_lt : ∀ s : List UInt8, num s < 256 ^ s.length
  | [] => by simp [num]
  | c :: s => by
    rw [num_cons, List.length_cons, Nat.pow_succ]
    have h1 := num_lt s
    have h2 : c.toNat < 256 := c.toNat_lt
    have : c.toNat * 256 ^ s.length + 256 ^ s.length ≤ 256 ^ s.length * 256 := by
      rw [← Nat.succ_mul, Nat.mul_comm]
      exact Nat.mul_le_mul_left _ h2
    omega
theorem ofNat_mod (n : Nat) : (UInt8.ofNat (n % 256)).toNat = n % 256 := by
  rw [UInt8.toNat_ofNat']; omega
theorem be_congr : ∀ (k : Nat) {n m : Nat}, n % 256 ^ k = m % 256 ^ k → be k n = be k m
  | 0, _, _, _ => rfl
  | k + 1, n, m, h => by
    have e : ∀ x : Nat, x / 256 ^ k % 256 = x % 256 ^ (k + 1) / 256 ^ k := fun x => by
      rw [Nat.pow_succ, Nat.mod_mul_right_div_self]
    have e2 : ∀ x : Nat, x % 256 ^ (k + 1) % 256 ^ k = x % 256 ^ k := fun x => Nat.mod_mod_of_dvd _ ⟨256, by rw [Nat.pow_succ]⟩
    rw [be, be, e, e, h, be_congr k (n := n) (m := m) (by have h1 := e2 n; rw [h, e2 m] at h1; exact h1.symm)]
theorem num_be : ∀ (k n : Nat), num (be k n) = n % 256 ^ k
  | 0, n => by simp [be, num, Nat.mod_one]
  | k + 1, n => by
    rw [be, num_cons, be_length, ofNat_mod, num_be k n, Nat.pow_succ, Nat.mod_mul]
    rw [Nat.mul_comm, Nat.add_comm]
theorem be_num : ∀ s : List UInt8, be s.length (num s) = s
  | [] => rfl
  | c :: s => by
    have h1 := num_lt s
    have h2 : c.toNat < 256 := c.toNat_lt
    have hp : 0 < 256 ^ s.length := Nat.pow_pos (by omega)
    rw [num_cons, List.length_cons, be]
    have e : (c.toNat * 256 ^ s.length + num s) / 256 ^ s.length % 256 = c.toNat := by
      rw [Nat.mul_comm, Nat.mul_add_div hp, Nat.div_eq_of_lt h1, Nat.add_zero, Nat.mod_eq_of_lt h2]
    rw [e, UInt8.ofNat_toNat]
    have : be s.length (c.toNat * 256 ^ s.length + num s) = be s.length (num s) := be_congr _ (by rw [Nat.mul_comm, Nat.mul_add_mod])
    rw [this, be_num s]
theorem be_inj {k n m : Nat} (hn : n < 256 ^ k) (hm : m < 256 ^ k) (h : be k n = be k m) : n = m := by
  have := num_be k n
  rw [h, num_be, Nat.mod_eq_of_lt hn, Nat.mod_eq_of_lt hm] at this
  exact this.symm
end Go.Plain
namespace Go.Plain
def padTo (s : List UInt8) : List UInt8 := s ++ List.replicate ((64 - s.length % 64) % 64) 0
/-- A sector of bytes of a length, sealed. -/
def Sealed (L : Nat) (b : List UInt8) : Prop := ∃ m, m.length = L ∧ b = padTo (m ++ tail m)
theorem padTo_sealed {m : List UInt8} (h : m.length + 4 ≤ 64) : padTo (m ++ tail m) = m ++ tail m ++ List.replicate (60 - m.length) 0 := by
  unfold padTo
  rw [List.length_append, tail_length]
  congr 2
  omega
theorem Sealed.length {L : Nat} {b : List UInt8} (h : Sealed L b) (hL : L + 4 ≤ 64) : b.length = 64 := by
  obtain ⟨m, hm, rfl⟩ := h
  rw [padTo_sealed (by omega)]
  simp [tail_length]
  omega
theorem Sealed.whole {L : Nat} {b : List UInt8} (h : Sealed L b) (hL : L + 4 ≤ 64) : Whole (b.take (L + 4)) := by
  obtain ⟨m, hm, rfl⟩ := h
  rw [padTo_sealed (by omega)]
  refine ⟨m, ?_⟩
  rw [List.take_append_of_le_length (by simp [tail_length]; omega), List.take_of_length_le (by simp [tail_length]; omega)]
theorem Sealed.rest {L : Nat} {b : List UInt8} (h : Sealed L b) (hL : L + 4 ≤ 64) : b.drop (L + 4) = List.replicate (60 - L) 0 := by
  obtain ⟨m, hm, rfl⟩ := h
  rw [padTo_sealed (by omega), List.drop_append_of_le_length (by simp [tail_length]; omega), List.drop_eq_nil_of_le (by simp [tail_length]; omega), hm]
  rfl
/-- The same outside of four places in a row. -/
structure Turned {α : Type} (k : Nat) (s t : List α) : Prop where
  len : t.length = s.length
  out : ∀ i, i < k ∨ k + 4 ≤ i → t[i]? = s[i]?
theorem Turned.refl {α : Type} (k : Nat) (s : List α) : Turned k s s := ⟨rfl, fun _ _ => rfl⟩
theorem Turned.set {α : Type} {k : Nat} {s t : List α} (h : Turned k s t) {j : Nat} (hj : k ≤ j ∧ j < k + 4) (v : α) : Turned k s (t.set j v) := by
  refine ⟨by rw [List.length_set, h.len], fun i hi => ?_⟩
  rw [List.getElem?_set_ne (by omega)]
  exact h.out i hi
theorem Turned.map {α β : Type} {k : Nat} {s t : List α} (h : Turned k s t) (f : α → β) : Turned k (s.map f) (t.map f) :=
  ⟨by rw [List.length_map, List.length_map, h.len], fun i hi => by rw [List.getElem?_map, List.getElem?_map, h.out i hi]⟩
theorem Sealed.turned {L : Nat} {s b : List UInt8} (hs : Sealed L s) (hb : Sealed L b) (hL : L + 4 ≤ 64) {k : Nat} (h : Turned k s b) : b = s := by
  have e : b.take (L + 4) = s.take (L + 4) := by
    have h1 := hs.length hL
    have h2 := hb.length hL
    refine burst_at k (by rw [List.length_take, List.length_take]; omega) (by rw [List.length_take]; omega) (hb.whole hL) (hs.whole hL) fun i hi => ?_
    rw [List.getElem?_take, List.getElem?_take, h.out i hi]
  rw [← List.take_append_drop (L + 4) b, ← List.take_append_drop (L + 4) s, e, hs.rest hL, hb.rest hL]
theorem num_be_small {k n : Nat} (h : n < 256 ^ k) : num (be k n) = n := by rw [num_be, Nat.mod_eq_of_lt h]
end Go.Plain
