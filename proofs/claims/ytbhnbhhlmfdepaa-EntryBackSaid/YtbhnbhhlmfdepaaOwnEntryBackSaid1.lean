/- What the functions that EntryBackSaid reaches compute: part 1. -/
import Derived.Test.YtbhnbhhlmfdepaaAe2
import Derived.Test.YtbhnbhhlmfdepaaProg
import Derived.Test.YtbhnbhhlmfdepaaChecked
import Derived.Eval
import Derived.Shelf.Strings.Builder1
import Derived.Shelf.Strings.Builder2
import Derived.Shelf.Strings.BuilderF
import Derived.Shelf.Strings.Prefix
import Derived.Shelf.Bits.Mul64
import Derived.Shelf.Strings.Repeat
set_option linter.unusedVariables false
set_option linter.unusedSimpArgs false
namespace Go.Plain

def poly : Nat := 3988292384
def bitStep (n : Nat) : Nat := (n / 2) ^^^ (if n % 2 = 1 then poly else 0)
def nbits : Nat → Nat → Nat
  | 0, n => n
  | k + 1, n => nbits k (bitStep n)
def byteStep (n c : Nat) : Nat := nbits 8 (n ^^^ c)
def crun (n : Nat) (s : List UInt8) : Nat := s.foldl (fun n c => byteStep n c.toNat) n
def all32 : Nat := 4294967295
def crc (s : List UInt8) : Nat := crun all32 s ^^^ all32
def le4 (n : Nat) : List UInt8 := [UInt8.ofNat (n % 256), UInt8.ofNat (n / 256 % 256), UInt8.ofNat (n / 65536 % 256), UInt8.ofNat (n / 16777216 % 256)]
def tail (s : List UInt8) : List UInt8 := le4 (crc s)

theorem bitStep_lt {n : Nat} (h : n < 2 ^ 32) : bitStep n < 2 ^ 32 := by
  unfold bitStep
  refine Nat.xor_lt_two_pow (by omega) ?_
  unfold poly
  split <;> decide
theorem bitStep_bit {n : Nat} (h : n < 2 ^ 32) : (bitStep n).testBit 31 = decide (n % 2 = 1) := by
  unfold bitStep
  rw [Nat.testBit_xor]
  have h1 : (n / 2).testBit 31 = false := Nat.testBit_lt_two_pow (by omega)
  rw [h1]
  by_cases hn : n % 2 = 1
  · rw [if_pos hn]; simp [hn]; decide
  · rw [if_neg hn]; simp [hn]
theorem xor_cancel {a b c : Nat} (h : a ^^^ c = b ^^^ c) : a = b := by
  have : (a ^^^ c) ^^^ c = (b ^^^ c) ^^^ c := by rw [h]
  rwa [Nat.xor_assoc, Nat.xor_assoc, Nat.xor_self, Nat.xor_zero, Nat.xor_zero] at this
theorem bitStep_inj {n m : Nat} (hn : n < 2 ^ 32) (hm : m < 2 ^ 32) (h : bitStep n = bitStep m) : n = m := by
  have hb := bitStep_bit hn
  rw [h, bitStep_bit hm] at hb
  have hp : m % 2 = 1 ↔ n % 2 = 1 := by simpa using hb
  unfold bitStep at h
  by_cases e : n % 2 = 1
  · have e' := hp.2 e
    rw [if_pos e, if_pos e'] at h
    have := xor_cancel h
    omega
  · have e' : ¬ m % 2 = 1 := fun x => e (hp.1 x)
    rw [if_neg e, if_neg e', Nat.xor_zero, Nat.xor_zero] at h
    omega
theorem bitStep_xor (a b : Nat) : bitStep (a ^^^ b) = bitStep a ^^^ bitStep b := by
  unfold bitStep
  have h1 : (a ^^^ b) / 2 = a / 2 ^^^ b / 2 := by
    have := Nat.shiftRight_xor_distrib (a := a) (b := b) (i := 1)
    simpa [Nat.shiftRight_eq_div_pow] using this
  have h2 : (a ^^^ b) % 2 = (a % 2) ^^^ (b % 2) := by
    have := Nat.xor_mod_two_pow (a := a) (b := b) (n := 1)
    simpa using this
  rw [h1, h2]
  have ha : a % 2 = 0 ∨ a % 2 = 1 := by omega
  have hb : b % 2 = 0 ∨ b % 2 = 1 := by omega
  rcases ha with ha | ha <;> rcases hb with hb | hb <;> rw [ha, hb]
  · simp
  · simp [Nat.xor_assoc]
  · simp
    rw [Nat.xor_assoc, Nat.xor_comm (b / 2), ← Nat.xor_assoc]
  · simp
    rw [Nat.xor_assoc, ← Nat.xor_assoc poly, Nat.xor_comm poly, Nat.xor_assoc, Nat.xor_self, Nat.xor_zero]
theorem bits_lt : ∀ (k : Nat) {n : Nat}, n < 2 ^ 32 → nbits k n < 2 ^ 32
  | 0, _, h => h
  | k + 1, _, h => bits_lt k (bitStep_lt h)
theorem bits_inj : ∀ (k : Nat) {n m : Nat}, n < 2 ^ 32 → m < 2 ^ 32 → nbits k n = nbits k m → n = m
  | 0, _, _, _, _, h => h
  | k + 1, _, _, hn, hm, h => bitStep_inj hn hm (bits_inj k (bitStep_lt hn) (bitStep_lt hm) h)
theorem bits_xor : ∀ (k a b : Nat), nbits k (a ^^^ b) = nbits k a ^^^ nbits k b
  | 0, _, _ => rfl
  | k + 1, a, b => by rw [nbits, bitStep_xor, bits_xor k]; rfl
theorem bits_shift : ∀ (k c : Nat), nbits k (c * 2 ^ k) = c
  | 0, c => by simp [nbits]
  | k + 1, c => by
    have : bitStep (c * 2 ^ (k + 1)) = c * 2 ^ k := by
      unfold bitStep
      have h1 : c * 2 ^ (k + 1) = 2 * (c * 2 ^ k) := by rw [Nat.pow_succ, ← Nat.mul_assoc, Nat.mul_comm]
      rw [h1, if_neg (by omega), Nat.xor_zero]
      omega
    rw [nbits, this]
    exact bits_shift k c
theorem bits_add : ∀ (j k n : Nat), nbits k (nbits j n) = nbits (j + k) n
  | 0, k, n => by rw [Nat.zero_add]; rfl
  | j + 1, k, n => by rw [nbits, bits_add j k, show j + 1 + k = (j + k) + 1 by omega]; rfl
theorem byteStep_lt {n c : Nat} (hn : n < 2 ^ 32) (hc : c < 256) : byteStep n c < 2 ^ 32 := bits_lt 8 (Nat.xor_lt_two_pow hn (by omega))
theorem run_lt : ∀ (s : List UInt8) {n : Nat}, n < 2 ^ 32 → crun n s < 2 ^ 32
  | [], _, h => h
  | c :: s, _, h => run_lt s (byteStep_lt h c.toNat_lt)
theorem run_inj : ∀ (s : List UInt8) {n m : Nat}, n < 2 ^ 32 → m < 2 ^ 32 → crun n s = crun m s → n = m
  | [], _, _, _, _, h => h
  | c :: s, n, m, hn, hm, h => by
    have hc : c.toNat < 2 ^ 32 := by have := c.toNat_lt; omega
    exact xor_cancel (bits_inj 8 (Nat.xor_lt_two_pow hn hc) (Nat.xor_lt_two_pow hm hc) (run_inj s (byteStep_lt hn c.toNat_lt) (byteStep_lt hm c.toNat_lt) h))
theorem run_append (n : Nat) (s t : List UInt8) : crun n (s ++ t) = crun (crun n s) t := List.foldl_append ..
theorem step_word (n : Nat) (k c : Nat) : byteStep (nbits k n) c = nbits (k + 8) (n ^^^ (c * 2 ^ k)) := by
  unfold byteStep
  rw [← bits_add, bits_xor k, bits_shift]
theorem run4 (n : Nat) (a b c d : UInt8) : crun n [a, b, c, d] = nbits 32 (n ^^^ (a.toNat ^^^ b.toNat * 2 ^ 8 ^^^ c.toNat * 2 ^ 16 ^^^ d.toNat * 2 ^ 24)) := by
  show byteStep (byteStep (byteStep (byteStep n a.toNat) b.toNat) c.toNat) d.toNat = _
  have h0 : byteStep n a.toNat = nbits 8 (n ^^^ a.toNat) := rfl
  rw [h0, step_word, step_word, step_word]
  congr 1
  simp only [Nat.xor_assoc]
theorem xor_low {a : Nat} (x : Nat) (ha : a < 256) : a ^^^ x * 256 = x * 256 + a := by
  have h1 : (a ^^^ x * 256) % 256 = a := by
    have := Nat.xor_mod_two_pow (a := a) (b := x * 256) (n := 8)
    simp only [show (2 : Nat) ^ 8 = 256 from rfl] at this
    rw [this, Nat.mod_eq_of_lt ha, Nat.mul_mod_left, Nat.xor_zero]
  have h2 : (a ^^^ x * 256) / 256 = x := by
    have := Nat.shiftRight_xor_distrib (a := a) (b := x * 256) (i := 8)
    simp only [Nat.shiftRight_eq_div_pow, show (2 : Nat) ^ 8 = 256 from rfl] at this
    rw [this, Nat.div_eq_of_lt ha, Nat.zero_xor, Nat.mul_div_cancel _ (by omega)]
  have := Nat.div_add_mod (a ^^^ x * 256) 256
  rw [h1, h2] at this
  omega
theorem word_parts (a b c d : UInt8) : a.toNat ^^^ b.toNat * 2 ^ 8 ^^^ c.toNat * 2 ^ 16 ^^^ d.toNat * 2 ^ 24 = a.toNat + b.toNat * 256 + c.toNat * 65536 + d.toNat * 16777216 := by
  have ha := a.toNat_lt; have hb := b.toNat_lt; have hc := c.toNat_lt
  have mulx : ∀ x y k : Nat, (x ^^^ y) * 2 ^ k = x * 2 ^ k ^^^ y * 2 ^ k := fun x y k => by
    rw [← Nat.shiftLeft_eq, ← Nat.shiftLeft_eq, ← Nat.shiftLeft_eq, Nat.shiftLeft_xor_distrib]
  have e1 : c.toNat ^^^ d.toNat * 256 = d.toNat * 256 + c.toNat := xor_low _ (by omega)
  have e2 : b.toNat ^^^ (d.toNat * 256 + c.toNat) * 256 = (d.toNat * 256 + c.toNat) * 256 + b.toNat := xor_low _ (by omega)
  have e3 : a.toNat ^^^ ((d.toNat * 256 + c.toNat) * 256 + b.toNat) * 256 = ((d.toNat * 256 + c.toNat) * 256 + b.toNat) * 256 + a.toNat := xor_low _ (by omega)
  have e4 : a.toNat ^^^ b.toNat * 2 ^ 8 ^^^ c.toNat * 2 ^ 16 ^^^ d.toNat * 2 ^ 24 = a.toNat ^^^ (b.toNat ^^^ (c.toNat ^^^ d.toNat * 256) * 256) * 256 := by
    have m1 := mulx c.toNat (d.toNat * 256) 8
    have m2 := mulx b.toNat ((c.toNat ^^^ d.toNat * 256) * 256) 8
    simp only [show (2 : Nat) ^ 8 = 256 from rfl] at m1 m2
    rw [m1] at m2 ⊢
    have m3 := mulx (c.toNat * 256) (d.toNat * 256 * 256) 8
    simp only [show (2 : Nat) ^ 8 = 256 from rfl] at m3
    rw [m2, m3]
    simp only [Nat.mul_assoc, Nat.xor_assoc, show (256 : Nat) * 256 = 2 ^ 16 from rfl, show (256 : Nat) * 2 ^ 16 = 2 ^ 24 from rfl, show (256 : Nat) = 2 ^ 8 from rfl]
  rw [e4, e1, e2, e3]
  omega
/-- Four bytes are told by what comes of them. -/
theorem run4_inj {n m : Nat} (hn : n < 2 ^ 32) {a b c d a' b' c' d' : UInt8} (hnm : n = m) (h : crun n [a, b, c, d] = crun m [a', b', c', d']) : [a, b, c, d] = [a', b', c', d'] := by
  subst hnm
  rw [run4, run4, word_parts, word_parts] at h
  have ha := a.toNat_lt; have hb := b.toNat_lt; have hc := c.toNat_lt; have hd := d.toNat_lt
  have ha' := a'.toNat_lt; have hb' := b'.toNat_lt; have hc' := c'.toNat_lt; have hd' := d'.toNat_lt
  have := bits_inj 32 (Nat.xor_lt_two_pow hn (by omega)) (Nat.xor_lt_two_pow hn (by omega)) h
  rw [Nat.xor_comm n, Nat.xor_comm n] at this
  have := xor_cancel this
  have e1 : a = a' := UInt8.toNat_inj.1 (by omega)
  have e2 : b = b' := UInt8.toNat_inj.1 (by omega)
  have e3 : c = c' := UInt8.toNat_inj.1 (by omega)
  have e4 : d = d' := UInt8.toNat_inj.1 (by omega)
  rw [e1, e2, e3, e4]

/-- Bytes with their own sum behind. -/
def Whole (s : List UInt8) : Prop := ∃ m, s = m ++ tail m
def residue : Nat := nbits 32 all32
theorem crc_lt (m : List UInt8) : crc m < 2 ^ 32 := Nat.xor_lt_two_pow (run_lt m (by decide)) (by decide)
theorem ofNat_toNat {n : Nat} (h : n < 256) : (UInt8.ofNat n).toNat = n := by
  rw [UInt8.toNat_ofNat']; omega
theorem whole_run {s : List UInt8} (h : Whole s) : crun all32 s = residue := by
  obtain ⟨m, rfl⟩ := h
  rw [run_append, tail, le4, run4, word_parts]
  have hc := crc_lt m
  rw [ofNat_toNat (by omega), ofNat_toNat (by omega), ofNat_toNat (by omega), ofNat_toNat (by omega)]
  have e : crc m % 256 + crc m / 256 % 256 * 256 + crc m / 65536 % 256 * 65536 + crc m / 16777216 % 256 * 16777216 = crc m := by omega
  rw [e]
  unfold crc residue
  rw [← Nat.xor_assoc, Nat.xor_self, Nat.zero_xor]

/-- Of two whole strings that part only within four bytes in a row, both are one. -/
theorem burst {p w w' q : List UInt8} (hl : w.length = 4) (hl' : w'.length = 4) (h : Whole (p ++ (w ++ q))) (h' : Whole (p ++ (w' ++ q))) : w = w' := by
  have e := whole_run h
  rw [← whole_run h', run_append, run_append, run_append, run_append] at e
  have hp := run_lt p (n := all32) (by decide)
  have e := run_inj q (run_lt _ hp) (run_lt _ hp) e
  match w, w', hl, hl', e with
  | [a, b, c, d], [a', b', c', d'], _, _, e => exact run4_inj hp rfl e
theorem tail_length (s : List UInt8) : (tail s).length = 4 := rfl

/-- The same, by places: two strings of one length that part nowhere but at four places in a row. -/
theorem burst_at {s t : List UInt8} (k : Nat) (hl : s.length = t.length) (h4 : 4 ≤ s.length) (hs : Whole s) (ht : Whole t) (h : ∀ i, i < k ∨ k + 4 ≤ i → s[i]? = t[i]?) : s = t := by
  -- the four places, inside
  have key : ∀ k, k + 4 ≤ s.length → (∀ i, i < k ∨ k + 4 ≤ i → s[i]? = t[i]?) → s = t := by
    intro k hk h
    have e1 : s.take k = t.take k := by
      apply List.ext_getElem?
      intro i
      rw [List.getElem?_take, List.getElem?_take]
      split
      · exact h i (.inl ‹_›)
      · rfl
    have e2 : s.drop (k + 4) = t.drop (k + 4) := by
      apply List.ext_getElem?
      intro i
      rw [List.getElem?_drop, List.getElem?_drop]
      exact h _ (.inr (by omega))
    have ds : s = s.take k ++ ((s.drop k).take 4 ++ s.drop (k + 4)) := by
      rw [show s.drop (k + 4) = (s.drop k).drop 4 by rw [List.drop_drop], List.take_append_drop, List.take_append_drop]
    have dt : t = t.take k ++ ((t.drop k).take 4 ++ t.drop (k + 4)) := by
      rw [show t.drop (k + 4) = (t.drop k).drop 4 by rw [List.drop_drop], List.take_append_drop, List.take_append_drop]
    rw [ds] at hs
    rw [dt, ← e1, ← e2] at ht
    have := burst (by rw [List.length_take, List.length_drop]; omega) (by rw [List.length_take, List.length_drop]; omega) hs ht
    rw [ds, dt, this, e1, e2]
  by_cases hk : k + 4 ≤ s.length
  · exact key k hk h
  · refine key (s.length - 4) (by omega) fun i hi => ?_
    rcases hi with hi | hi
    · exact h i (.inl (by omega))
    · rw [List.getElem?_eq_none (by omega), List.getElem?_eq_none (by omega)]
end Go.Plain
namespace Go.Plain

def be : Nat → Nat → List UInt8
  | 0, _ => []
  | k + 1, n => UInt8.ofNat (n / 256 ^ k % 256) :: be k n
def num (s : List UInt8) : Nat := s.foldl (fun n c => 256 * n + c.toNat) 0

theorem be_length : ∀ k n, (be k n).length = k
  | 0, _ => rfl
  | k + 1, n => by rw [be, List.length_cons, be_length k n]
theorem be_get : ∀ (k n i : Nat), i < k → (be k n)[i]? = some (UInt8.ofNat (n / 256 ^ (k - 1 - i) % 256))
  | 0, _, _, h => by omega
  | k + 1, n, 0, _ => by rw [be]; simp
  | k + 1, n, i + 1, h => by
    rw [be, List.getElem?_cons_succ, be_get k n i (by omega), show k + 1 - 1 - (i + 1) = k - 1 - i by omega]
theorem num_fold : ∀ (s : List UInt8) (n : Nat), s.foldl (fun n c => 256 * n + c.toNat) n = n * 256 ^ s.length + num s
  | [], n => by simp [num]
  | c :: s, n => by
    unfold num
    rw [List.foldl_cons, List.foldl_cons, num_fold s, num_fold s, List.length_cons, Nat.pow_succ, Nat.mul_zero, Nat.zero_add, Nat.add_mul, Nat.mul_comm 256 n, Nat.mul_assoc, Nat.mul_comm 256 (256 ^ s.length), Nat.add_assoc]
theorem num_cons (c : UInt8) (s : List UInt8) : num (c :: s) = c.toNat * 256 ^ s.length + num s := by
  rw [num, List.foldl_cons, num_fold, Nat.mul_zero, Nat.zero_add]
theorem num_snoc (s : List UInt8) (c : UInt8) : num (s ++ [c]) = 256 * num s + c.toNat := by
  unfold num; rw [List.foldl_append]; rfl
theorem num_lt : ∀ s : List UInt8, num s < 256 ^ s.length
  | [] => by simp [num]
  | c :: s => by
    rw [num_cons, List.length_cons, Nat.pow_succ]
    have h1 := num_lt s
    have h2 : c.toNat < 256 := c.toNat_lt
    have : c.toNat * 256 ^ s.length + 256 ^ s.length ≤ 256 ^ s.length * 256 := by
      rw [← Nat.succ_mul, Nat.mul_comm]
      exact Nat.mul_le_mul_left _ h2
    omega
theorem ofNat_mod (n : Nat) : (UInt8.ofNat (n % 256)).toNat = n % 256 := by
  rw [UInt8.toNat_ofNat']; omega
theorem be_congr : ∀ (k : Nat) {n m : Nat}, n % 256 ^ k = m % 256 ^ k → be k n = be k m
  | 0, _, _, _ => rfl
  | k + 1, n, m, h => by
    have e : ∀ x : Nat, x / 256 ^ k % 256 = x % 256 ^ (k + 1) / 256 ^ k := fun x => by
      rw [Nat.pow_succ, Nat.mod_mul_right_div_self]
    have e2 : ∀ x : Nat, x % 256 ^ (k + 1) % 256 ^ k = x % 256 ^ k := fun x => Nat.mod_mod_of_dvd _ ⟨256, by rw [Nat.pow_succ]⟩
    rw [be, be, e, e, h, be_congr k (n := n) (m := m) (by have h1 := e2 n; rw [h, e2 m] at h1; exact h1.symm)]
theorem num_be : ∀ (k n : Nat), num (be k n) = n % 256 ^ k
  | 0, n => by simp [be, num, Nat.mod_one]
  | k + 1, n => by
    rw [be, num_cons, be_length, ofNat_mod, num_be k n, Nat.pow_succ, Nat.mod_mul]
    rw [Nat.mul_comm, Nat.add_comm]
theorem be_num : ∀ s : List UInt8, be s.length (num s) = s
  | [] => rfl
  | c :: s => by
    have h1 := num_lt s
    have h2 : c.toNat < 256 := c.toNat_lt
    have hp : 0 < 256 ^ s.length := Nat.pow_pos (by omega)
    rw [num_cons, List.length_cons, be]
    have e : (c.toNat * 256 ^ s.length + num s) / 256 ^ s.length % 256 = c.toNat := by
      rw [Nat.mul_comm, Nat.mul_add_div hp, Nat.div_eq_of_lt h1, Nat.add_zero, Nat.mod_eq_of_lt h2]
    rw [e, UInt8.ofNat_toNat]
    have : be s.length (c.toNat * 256 ^ s.length + num s) = be s.length (num s) := be_congr _ (by rw [Nat.mul_comm, Nat.mul_add_mod])
    rw [this, be_num s]
theorem be_inj {k n m : Nat} (hn : n < 256 ^ k) (hm : m < 256 ^ k) (h : be k n = be k m) : n = m := by
  have := num_be k n
  rw [h, num_be, Nat.mod_eq_of_lt hn, Nat.mod_eq_of_lt hm] at this
  exact this.symm
end Go.Plain
namespace Go.Plain
def padTo (s : List UInt8) : List UInt8 := s ++ List.replicate ((64 - s.length % 64) % 64) 0
/-- A sector of bytes of a length, sealed. -/
def Sealed (L : Nat) (b : List UInt8) : Prop := ∃ m, m.length = L ∧ b = padTo (m ++ tail m)
theorem padTo_sealed {m : List UInt8} (h : m.length + 4 ≤ 64) : padTo (m ++ tail m) = m ++ tail m ++ List.replicate (60 - m.length) 0 := by
  unfold padTo
  rw [List.length_append, tail_length]
  congr 2
  omega
theorem Sealed.length {L : Nat} {b : List UInt8} (h : Sealed L b) (hL : L + 4 ≤ 64) : b.length = 64 := by
  obtain ⟨m, hm, rfl⟩ := h
  rw [padTo_sealed (by omega)]
  simp [tail_length]
  omega
theorem Sealed.whole {L : Nat} {b : List UInt8} (h : Sealed L b) (hL : L + 4 ≤ 64) : Whole (b.take (L + 4)) := by
  obtain ⟨m, hm, rfl⟩ := h
  rw [padTo_sealed (by omega)]
  refine ⟨m, ?_⟩
  rw [List.take_append_of_le_length (by simp [tail_length]; omega), List.take_of_length_le (by simp [tail_length]; omega)]
theorem Sealed.rest {L : Nat} {b : List UInt8} (h : Sealed L b) (hL : L + 4 ≤ 64) : b.drop (L + 4) = List.replicate (60 - L) 0 := by
  obtain ⟨m, hm, rfl⟩ := h
  rw [padTo_sealed (by omega), List.drop_append_of_le_length (by simp [tail_length]; omega), List.drop_eq_nil_of_le (by simp [tail_length]; omega), hm]
  rfl
/-- The same outside of four places in a row. -/
structure Turned {α : Type} (k : Nat) (s t : List α) : Prop where
  len : t.length = s.length
  out : ∀ i, i < k ∨ k + 4 ≤ i → t[i]? = s[i]?
theorem Turned.refl {α : Type} (k : Nat) (s : List α) : Turned k s s := ⟨rfl, fun _ _ => rfl⟩
theorem Turned.set {α : Type} {k : Nat} {s t : List α} (h : Turned k s t) {j : Nat} (hj : k ≤ j ∧ j < k + 4) (v : α) : Turned k s (t.set j v) := by
  refine ⟨by rw [List.length_set, h.len], fun i hi => ?_⟩
  rw [List.getElem?_set_ne (by omega)]
  exact h.out i hi
theorem Turned.map {α β : Type} {k : Nat} {s t : List α} (h : Turned k s t) (f : α → β) : Turned k (s.map f) (t.map f) :=
  ⟨by rw [List.length_map, List.length_map, h.len], fun i hi => by rw [List.getElem?_map, List.getElem?_map, h.out i hi]⟩
theorem Sealed.turned {L : Nat} {s b : List UInt8} (hs : Sealed L s) (hb : Sealed L b) (hL : L + 4 ≤ 64) {k : Nat} (h : Turned k s b) : b = s := by
  have e : b.take (L + 4) = s.take (L + 4) := by
    have h1 := hs.length hL
    have h2 := hb.length hL
    refine burst_at k (by rw [List.length_take, List.length_take]; omega) (by rw [List.length_take]; omega) (hb.whole hL) (hs.whole hL) fun i hi => ?_
    rw [List.getElem?_take, List.getElem?_take, h.out i hi]
  rw [← List.take_append_drop (L + 4) b, ← List.take_append_drop (L + 4) s, e, hs.rest hL, hb.rest hL]
theorem num_be_small {k n : Nat} (h : n < 256 ^ k) : num (be k n) = n := by rw [num_be, Nat.mod_eq_of_lt h]
end Go.Plain
namespace Go.Proofs
def Try.tab : Go.AE.Tab := [
  (1, ⟨.sc, 1, 8, [.nilf], none⟩),
  (2, ⟨.sc, 1, 8, [.int .i64 0], some (.int .i64)⟩),
  (3, ⟨.sc, 1, 8, [.int .i64 0], some (.int .i64)⟩),
  (4, ⟨.sc, 1, 1, [.bool false], some .bool⟩),
  (5, ⟨.sc, 1, 1, [.int .u8 0], some (.int .u8)⟩),
  (7, ⟨.struct [(2, 0), (3, 1), (4, 2), (6, 3)], 4, 24, [.int .i64 0, .int .i64 0, .bool false, .int .u8 0], some (.st (.pair (.int .i64) (.pair (.int .i64) (.pair .bool (.int .u8)))))⟩),
  (9, ⟨.sc, 1, 16, [.str []], some .str⟩),
  (12, ⟨.sc, 1, 8, [.int .u64 0], some (.int .u64)⟩),
  (20, ⟨.sc, 1, 16, [.nili], none⟩),
  (21, ⟨.sc, 1, 4, [.int .i32 0], some (.int .i32)⟩),
  (22, ⟨.struct [(3, 0), (3, 1)], 2, 16, [.int .i64 0, .int .i64 0], some (.st (.pair (.int .i64) (.int .i64)))⟩),
  (23, ⟨.struct [(3, 0), (3, 1)], 2, 16, [.int .i64 0, .int .i64 0], some (.st (.pair (.int .i64) (.int .i64)))⟩),
  (24, ⟨.struct [(23, 0), (3, 2)], 3, 24, [.int .i64 0, .int .i64 0, .int .i64 0], some (.st (.pair (.pair (.int .i64) (.int .i64)) (.int .i64)))⟩),
  (25, ⟨.struct [(23, 0), (3, 2)], 3, 24, [.int .i64 0, .int .i64 0, .int .i64 0], some (.st (.pair (.pair (.int .i64) (.int .i64)) (.int .i64)))⟩),
  (26, ⟨.array 2 25, 6, 48, [.int .i64 0, .int .i64 0, .int .i64 0, .int .i64 0, .int .i64 0, .int .i64 0], some (.st (.pair (.pair (.pair (.int .i64) (.int .i64)) (.int .i64)) (.pair (.pair (.int .i64) (.int .i64)) (.int .i64))))⟩),
  (27, ⟨.sc, 1, 8, [.nilf], none⟩),
  (28, ⟨.sc, 1, 8, [.int .i64 0], some (.int .i64)⟩),
  (30, ⟨.sc, 1, 8, [.nilf], none⟩),
  (31, ⟨.sc, 1, 8, [.nilf], none⟩),
  (32, ⟨.sc, 1, 8, [.nilf], none⟩),
  (34, ⟨.sc, 1, 8, [.nilf], none⟩),
  (35, ⟨.sc, 1, 8, [.nilf], none⟩),
  (36, ⟨.array 4 5, 4, 4, [.int .u8 0, .int .u8 0, .int .u8 0, .int .u8 0], some (.st (.pair (.int .u8) (.pair (.int .u8) (.pair (.int .u8) (.int .u8)))))⟩),
  (37, ⟨.slice 5, 1, 24, [.nils], some (.list (.int .u8))⟩),
  (38, ⟨.sc, 1, 8, [.int .u64 0], some (.int .u64)⟩),
  (39, ⟨.sc, 1, 8, [.nilf], none⟩),
  (40, ⟨.struct [(3, 0), (3, 1), (3, 2)], 3, 24, [.int .i64 0, .int .i64 0, .int .i64 0], some (.st (.pair (.int .i64) (.pair (.int .i64) (.int .i64))))⟩),
  (41, ⟨.struct [(3, 0), (3, 1), (3, 2)], 3, 24, [.int .i64 0, .int .i64 0, .int .i64 0], some (.st (.pair (.int .i64) (.pair (.int .i64) (.int .i64))))⟩),
  (42, ⟨.sc, 1, 8, [.nilf], none⟩),
  (43, ⟨.struct [(3, 0), (3, 1), (3, 2)], 3, 24, [.int .i64 0, .int .i64 0, .int .i64 0], some (.st (.pair (.int .i64) (.pair (.int .i64) (.int .i64))))⟩),
  (44, ⟨.sc, 1, 8, [.nilf], none⟩),
  (45, ⟨.sc, 1, 8, [.nilf], none⟩),
  (46, ⟨.sc, 1, 8, [.nilf], none⟩),
  (48, ⟨.sc, 1, 8, [.nilf], none⟩),
  (50, ⟨.sc, 1, 8, [.nilf], none⟩),
  (51, ⟨.sc, 1, 8, [.nilf], none⟩),
  (52, ⟨.sc, 1, 8, [.nilf], none⟩),
  (53, ⟨.sc, 1, 8, [.nilf], none⟩),
  (54, ⟨.sc, 1, 8, [.nilf], none⟩),
  (55, ⟨.slice 78, 1, 24, [.nils], some (.list (.st (.pair (.int .i64) .str)))⟩),
  (56, ⟨.sc, 1, 8, [.nilf], none⟩),
  (57, ⟨.sc, 1, 8, [.nilf], none⟩),
  (58, ⟨.sc, 1, 8, [.nilf], none⟩),
  (59, ⟨.sc, 1, 8, [.nilf], none⟩),
  (61, ⟨.sc, 1, 8, [.nilf], none⟩),
  (63, ⟨.sc, 1, 8, [.nilf], none⟩),
  (64, ⟨.sc, 1, 8, [.nilf], none⟩),
  (65, ⟨.sc, 1, 8, [.nilf], none⟩),
  (66, ⟨.sc, 1, 8, [.nilf], none⟩),
  (67, ⟨.sc, 1, 8, [.nilf], none⟩),
  (68, ⟨.sc, 1, 8, [.nilf], none⟩),
  (69, ⟨.sc, 1, 8, [.nilf], none⟩),
  (70, ⟨.sc, 1, 8, [.nilf], none⟩),
  (71, ⟨.ptr 93, 1, 8, [.nilp], none⟩),
  (72, ⟨.sc, 1, 8, [.nilf], none⟩),
  (73, ⟨.sc, 1, 8, [.nilf], none⟩),
  (74, ⟨.sc, 1, 8, [.nilf], none⟩),
  (75, ⟨.sc, 1, 8, [.nilf], none⟩),
  (76, ⟨.slice 9, 1, 24, [.nils], some (.list .str)⟩),
  (77, ⟨.struct [(3, 0), (9, 1)], 2, 24, [.int .i64 0, .str []], some (.st (.pair (.int .i64) .str))⟩),
  (78, ⟨.struct [(3, 0), (9, 1)], 2, 24, [.int .i64 0, .str []], some (.st (.pair (.int .i64) .str))⟩),
  (79, ⟨.ptr 81, 1, 8, [.nilp], none⟩),
  (80, ⟨.struct [(79, 0), (37, 1)], 2, 32, [.nilp, .nils], none⟩),
  (81, ⟨.struct [(79, 0), (37, 1)], 2, 32, [.nilp, .nils], none⟩),
  (82, ⟨.sc, 1, 16, [.nili], none⟩),
  (83, ⟨.sc, 1, 16, [.nili], none⟩),
  (85, ⟨.sc, 1, 8, [.nilf], none⟩),
  (86, ⟨.sc, 1, 8, [.nilf], none⟩),
  (87, ⟨.sc, 1, 8, [.nilf], none⟩),
  (88, ⟨.sc, 1, 8, [.nilf], none⟩),
  (89, ⟨.sc, 1, 8, [.nilf], none⟩),
  (90, ⟨.sc, 1, 8, [.nilf], none⟩),
  (91, ⟨.sc, 1, 8, [.nilf], none⟩),
  (92, ⟨.struct [(9, 0), (28, 1)], 2, 24, [.str [], .int .i64 0], some (.st (.pair .str (.int .i64)))⟩),
  (93, ⟨.struct [(9, 0), (28, 1)], 2, 24, [.str [], .int .i64 0], some (.st (.pair .str (.int .i64)))⟩),
  (94, ⟨.sc, 1, 8, [.nilf], none⟩),
  (95, ⟨.sc, 1, 8, [.nilf], none⟩),
  (96, ⟨.sc, 1, 8, [.int .u64 0], some (.int .u64)⟩),
  (97, ⟨.ptr 5, 1, 8, [.nilp], none⟩),
  (98, ⟨.sc, 1, 8, [.nilf], none⟩),
  (100, ⟨.sc, 1, 8, [.nilf], none⟩),
  (101, ⟨.sc, 1, 8, [.nilf], none⟩),
  (102, ⟨.sc, 1, 8, [.nilf], none⟩),
  (103, ⟨.ptr 114, 1, 8, [.nilp], none⟩),
  (104, ⟨.sc, 1, 8, [.nilf], none⟩),
  (105, ⟨.sc, 1, 8, [.nilf], none⟩),
  (107, ⟨.sc, 1, 8, [.nilf], none⟩),
  (108, ⟨.sc, 1, 4, [.int .u32 0], some (.int .u32)⟩),
  (110, ⟨.sc, 1, 8, [.nilf], none⟩),
  (112, ⟨.sc, 1, 8, [.nilf], none⟩),
  (113, ⟨.struct [(108, 0)], 1, 4, [.int .u32 0], some (.st (.int .u32))⟩),
  (114, ⟨.struct [(108, 0)], 1, 4, [.int .u32 0], some (.st (.int .u32))⟩),
  (115, ⟨.sc, 1, 8, [.nilf], none⟩),
  (116, ⟨.sc, 1, 8, [.nilf], none⟩),
  (124, ⟨.sc, 1, 8, [.nilf], none⟩)]
end Go.Proofs
namespace Go.Proofs.R2
open Go Go.AE
theorem tabOk : TabOk Try.prog Try.tab := tabOk_of_check (by kernel_rfl)
theorem mixed : Try.prog.follows .mixedOrders = true := Checked.mixed Try.checked
end Go.Proofs.R2
namespace Go.Proofs
open Go.Shelf
def Try.lays105_ren : Go.Shelf.Ren := ⟨fun | 105 => 63 | 212 => 72 | 99 => 73 | 165 => 74 | 166 => 55 | 170 => 75 | 169 => 57 | 263 => 80 | 264 => 81 | 206 => 82 | 240 => 70 | 241 => 83 | 276 => 79 | 277 => 85 | n => n, fun | 9 => 9 | 3 => 3 | 4 => 4 | 20 => 20 | 0 => 0 | 46 => 96 | 109 => 99 | 5 => 5 | 72 => 81 | 76 => 84 | 51 => 108 | 146 => 109 | 53 => 38 | 148 => 111 | 70 => 79 | 37 => 37 | 75 => 83 | 127 => 97 | 164 => 106 | 80 => 87 | n => n, fun | n => n⟩
theorem Try.lays105 : Go.Proofs.Lays.n105 Try.prog Try.lays105_ren := {
  mixed := by kernel_rfl
  f99 := Try.func73.trans (congrArg some (by kernel_rfl))
  f105 := Try.func63.trans (congrArg some (by kernel_rfl))
  f165 := Try.func74.trans (congrArg some (by kernel_rfl))
  f166 := Try.func55.trans (congrArg some (by kernel_rfl))
  f169 := Try.func57.trans (congrArg some (by kernel_rfl))
  f170 := Try.func75.trans (congrArg some (by kernel_rfl))
  f206 := Try.func82.trans (congrArg some (by kernel_rfl))
  f212 := Try.func72.trans (congrArg some (by kernel_rfl))
  f240 := Try.func70.trans (congrArg some (by kernel_rfl))
  f241 := Try.func83.trans (congrArg some (by kernel_rfl))
  f263 := Try.func80.trans (congrArg some (by kernel_rfl))
  f264 := Try.func81.trans (congrArg some (by kernel_rfl))
  f276 := Try.func79.trans (congrArg some (by kernel_rfl))
  f277 := Try.func85.trans (congrArg some (by kernel_rfl))
  t0 := Try.underlying0
  a0 := Try.isAgg0
  z0 := Try.sizeOf0
  v0 := Try.zeroValue0
  t3 := Try.underlying3
  a3 := Try.isAgg3
  z3 := Try.sizeOf3
  v3 := Try.zeroValue3
  t4 := Try.underlying4
  a4 := Try.isAgg4
  z4 := Try.sizeOf4
  v4 := Try.zeroValue4
  t5 := Try.underlying5
  a5 := Try.isAgg5
  z5 := Try.sizeOf5
  v5 := Try.zeroValue5
  t9 := Try.underlying9
  a9 := Try.isAgg9
  z9 := Try.sizeOf9
  v9 := Try.zeroValue9
  t20 := Try.underlying20
  a20 := Try.isAgg20
  z20 := Try.sizeOf20
  v20 := Try.zeroValue20
  t37 := Try.underlying37
  a37 := Try.isAgg37
  z37 := Try.sizeOf37
  v37 := Try.zeroValue37
  t46 := Try.underlying96
  a46 := Try.isAgg96
  z46 := Try.sizeOf96
  v46 := Try.zeroValue96
  t51 := Try.underlying108
  a51 := Try.isAgg108
  z51 := Try.sizeOf108
  v51 := Try.zeroValue108
  t53 := Try.underlying38
  a53 := Try.isAgg38
  z53 := Try.sizeOf38
  v53 := Try.zeroValue38
  t70 := Try.underlying79
  a70 := Try.isAgg79
  z70 := Try.sizeOf79
  v70 := Try.zeroValue79
  t72 := Try.underlying81
  a72 := Try.isAgg81
  z72 := Try.sizeOf81
  v72 := Try.zeroValue81
  t75 := Try.underlying83
  a75 := Try.isAgg83
  z75 := Try.sizeOf83
  v75 := Try.zeroValue83
  t76 := Try.underlying84
  a76 := Try.isAgg84
  z76 := Try.sizeOf84
  v76 := Try.zeroValue84
  t109 := Try.underlying99
  a109 := Try.isAgg99
  z109 := Try.sizeOf99
  v109 := Try.zeroValue99
  t127 := Try.underlying97
  a127 := Try.isAgg97
  z127 := Try.sizeOf97
  v127 := Try.zeroValue97
  t146 := Try.underlying109
  a146 := Try.isAgg109
  z146 := Try.sizeOf109
  v146 := Try.zeroValue109
  t148 := Try.underlying111
  a148 := Try.isAgg111
  z148 := Try.sizeOf111
  v148 := Try.zeroValue111
  t164 := Try.underlying106
  a164 := Try.isAgg106
  z164 := Try.sizeOf106
  v164 := Try.zeroValue106 }
theorem Try.Builder_Extra_105 : Builder.Extra Try.prog Try.lays105_ren := {
  sizeBuilder := by kernel_rfl
  liesBuilder := by kernel_rfl
  t5 := Try.underlying5
  a5 := Try.isAgg5
  z5 := Try.sizeOf5
  v5 := Try.zeroValue5
  infoByte := by kernel_rfl
  cellsByte := by kernel_rfl
  sizeByte := by kernel_rfl
  neB5 := by decide }
open Go.RowKit Go.Lib in
theorem Try.strings_Repeat (s : ByteArray) (c : Nat) (w : World) (hc : c ≤ 9223372036854775807) (hlen : s.size * c ≤ 140737488355328) :
    Calls Try.prog 63 #[.string s, .int .i64 c] w fun e w' => e = .returned (.string ⟨(Lib.repeatL s.data.toList c).toArray⟩) ∧ Below w.heap.size w w' := Any.strings_Repeat Try.lays105 Try.Builder_Extra_105 s c w hc hlen
end Go.Proofs
namespace Go.Proofs.R2
open Go Go.AE
theorem Fstrings_Repeat_ok : PureOk Try.prog 63 Fstrings_Repeat :=
  Fstrings_Repeat_of (entered_of Try.func63 (by kernel_rfl) (by decide +kernel)) fun s c w h1 h2 => Try.strings_Repeat s c w h1 h2
end Go.Proofs.R2
namespace Go.Proofs.R2
open Go Go.AE
--@ vector_within
noncomputable def envvector_within : Env := []
theorem envvector_withinOk : EnvOk Try.prog envvector_within := EnvOk.nil
noncomputable def bvector_within : Code := Try.f66.body.getD .skip
noncomputable def Lvector_within_n0 : Code := codeAt [1, 0] bvector_within
noncomputable def annLvector_within_n0 : Ann := .none
theorem annLvector_within_n0_ok : AnnOk Try.prog 12 Lvector_within_n0 annLvector_within_n0 := (annOk_none _ _ _)
abbrev Ivector_within_n0 := (Int) × (Int)
abbrev Yvector_within_n0 := (Bool)
def Svector_within_n0 : Ivector_within_n0 → St := fun (t0, t1) => { env := [(0, AV.int IntKind.i64 t0), (1, AV.int IntKind.i64 t1)], stk := [[]], H := [], blk := 270336 }
def decvector_within_n0 (s : St) : Option Ivector_within_n0 := match s with
  | { env := [(0, AV.int IntKind.i64 t0), (1, AV.int IntKind.i64 t1)], stk := [[]], H := [], blk := 270336 } => some (t0, t1)
  | _ => none
theorem decvector_within_n0_ok (s : St) (x : Ivector_within_n0) (h : decvector_within_n0 s = some x) : s = Svector_within_n0 x := by
  unfold decvector_within_n0 at h
  split at h
  · cases h; rfl
  · cases h
def outvector_within_n0 : Ivector_within_n0 → (Ex → St → Ans) → Yvector_within_n0 → Ans := fun (t0, t1) K => fun t4_y => K (Ex.norm) { env := [(4, AV.bool t4_y)], stk := [[]], H := [], blk := 270336 }
def nodevector_within_n0 {β : Type} : Ivector_within_n0 → (Yvector_within_n0 → Option β) → Option β := fun (t0, t1) exit => (bif decide (t0 ≥ (0 : Int)) then (exit (decide (t0 ≤ t1))) else (exit (false)))
def nodeDvector_within_n0 (i : Ivector_within_n0) : Option Yvector_within_n0 := nodevector_within_n0 i some
theorem nodevector_within_n0_nat (i : Ivector_within_n0) (k : Yvector_within_n0 → Ans) : nodevector_within_n0 i k = bindO (nodeDvector_within_n0 i) k := by
  obtain ⟨t0, t1⟩ := i
  simp only [nodeDvector_within_n0, nodevector_within_n0, bindO_cond, bindO_assoc, bindO_none, bindO_pure, bindO_elim, bindO_unP]
theorem nodevector_within_n0_ok (i : Ivector_within_n0) (K : Ex → St → Ans) : codeI Try.tab envvector_within noHint (codeD Try.tab envvector_within noHint 0 64) 70 12 annLvector_within_n0 Lvector_within_n0 (weakP 0 (exk [4] [4] []) K) (Svector_within_n0 i) = nodevector_within_n0 i (outvector_within_n0 i K) := by kernel_rfl
theorem GNvector_within_n0_ok : CSum Try.prog 12 Lvector_within_n0 (sumN decvector_within_n0 nodeDvector_within_n0 outvector_within_n0) := csum_node mixed tabOk envvector_withinOk 0 (exk [4] [4] []) annLvector_within_n0_ok decvector_within_n0_ok nodevector_within_n0_ok nodevector_within_n0_nat
noncomputable def Gvector_within_n0 : (Ex → St → Ans) → St → Ans := (sumN decvector_within_n0 nodeDvector_within_n0 outvector_within_n0)
theorem Gvector_within_n0_ok : CSum Try.prog 12 Lvector_within_n0 Gvector_within_n0 := GNvector_within_n0_ok
noncomputable def annvector_within : Ann := (.seq .none (.seq (.cut 0 [0, 1] Gvector_within_n0) .none))
theorem annvector_within_ok : AnnOk Try.prog 12 bvector_within annvector_within := ⟨(annOk_none _ _ _), ⟨Gvector_within_n0_ok, (annOk_none _ _ _)⟩⟩
abbrev Avector_within := (Int) × (Int)
abbrev Yvector_within := (Bool)
def fnvector_within {β : Type} : Avector_within → (Yvector_within → Option β) → Option β := fun (a0, a1) exit => (bindO (nodeDvector_within_n0 (a0, a1)) fun t4 => (exit (t4)))
def fnDvector_within (a : Avector_within) : Option Yvector_within := fnvector_within a some
theorem fnvector_within_nat (a : Avector_within) (k : Yvector_within → Ans) : fnvector_within a k = bindO (fnDvector_within a) k := by
  obtain ⟨a0, a1⟩ := a
  simp only [fnDvector_within, fnvector_within, bindO_cond, bindO_assoc, bindO_none, bindO_pure, bindO_elim, bindO_unP]
def argsvector_within : Avector_within → List AV := fun (a0, a1) => [AV.int IntKind.i64 a0, AV.int IntKind.i64 a1]
def decAvector_within (l : List AV) : Option Avector_within := match l with
  | [AV.int IntKind.i64 a0, AV.int IntKind.i64 a1] => some (a0, a1)
  | _ => none
theorem decAvector_within_ok (l : List AV) (a : Avector_within) (h : decAvector_within l = some a) : l = argsvector_within a := by
  unfold decAvector_within at h
  split at h
  · cases h; rfl
  · cases h
def rendvector_within : Avector_within → Yvector_within → AV := fun (a0, a1) => fun r_y => AV.bool r_y
theorem rendvector_within_ok : ∀ (a : Avector_within) (y : Yvector_within), (rendvector_within a y).closed1 = true := by
  rintro ⟨a0, a1⟩ y <;> first | rfl | exact Empty.elim y
theorem fnvector_within_ok (a : Avector_within) : fnE Try.tab envvector_within noHint 0 70 66 Try.f66.ntmps Try.f66.results.toList annvector_within bvector_within (argsvector_within a) [] (fun v _ => some (v, [])) = fnvector_within a (fun y => some (rendvector_within a y, [])) := by kernel_rfl
def vFvector_within (a : Avector_within) (K : AV → Ans) : Ans := bindO (fnDvector_within a) fun y => K (rendvector_within a y)
def Fvector_within : List AV → (AV → Ans) → Ans := fun l K => bindO (decAvector_within l) fun a => vFvector_within a K
theorem Fvector_within_ok : PureOk Try.prog 66 Fvector_within := pure_mkD (hint := noHint) (d := 0) (n := 70) mixed tabOk envvector_withinOk Try.func66 (bodySome (by kernel_rfl)) (by decide +kernel) annvector_within_ok decAvector_within_ok fnvector_within_ok fnvector_within_nat rendvector_within_ok
--@ vector_Right
noncomputable def envvector_Right : Env := [(66, .pure Fvector_within)]
theorem envvector_RightOk : EnvOk Try.prog envvector_Right := EnvOk.cons Fvector_within_ok (EnvOk.nil)
noncomputable def bvector_Right : Code := Try.f46.body.getD .skip
noncomputable def Lvector_Right_n0 : Code := codeAt [1, 0] bvector_Right
noncomputable def annLvector_Right_n0 : Ann := .none
theorem annLvector_Right_n0_ok : AnnOk Try.prog 11 Lvector_Right_n0 annLvector_Right_n0 := (annOk_none _ _ _)
abbrev Ivector_Right_n0 := (Int) × (Int)
abbrev Yvector_Right_n0 := (Bool)
def Svector_Right_n0 : Ivector_Right_n0 → St := fun (o0_0, o0_1) => { env := [(1, AV.ptr 0 0)], stk := [[]], H := [AE.Obj.cells [AV.int IntKind.i64 o0_0, AV.int IntKind.i64 o0_1]], blk := 188416 }
def decvector_Right_n0 (s : St) : Option Ivector_Right_n0 := match s with
  | { env := [(1, AV.ptr 0 0)], stk := [[]], H := [AE.Obj.cells [AV.int IntKind.i64 o0_0, AV.int IntKind.i64 o0_1]], blk := 188416 } => some (o0_0, o0_1)
  | _ => none
theorem decvector_Right_n0_ok (s : St) (x : Ivector_Right_n0) (h : decvector_Right_n0 s = some x) : s = Svector_Right_n0 x := by
  unfold decvector_Right_n0 at h
  split at h
  · cases h; rfl
  · cases h
def outvector_Right_n0 : Ivector_Right_n0 → (Ex → St → Ans) → Yvector_Right_n0 → Ans := fun (o0_0, o0_1) K => fun t2_y => K (Ex.norm) { env := [(2, AV.bool t2_y)], stk := [[]], H := [], blk := 188416 }
def nodevector_Right_n0 {β : Type} : Ivector_Right_n0 → (Yvector_Right_n0 → Option β) → Option β := fun (o0_0, o0_1) exit => (bindO (fnDvector_within (o0_0, (1125899906842624 : Int))) fun r => (bif r then (bindO (fnDvector_within (o0_1, (1125899906842624 : Int))) fun r_2 => (exit (r_2))) else (exit (false))))
def nodeDvector_Right_n0 (i : Ivector_Right_n0) : Option Yvector_Right_n0 := nodevector_Right_n0 i some
theorem nodevector_Right_n0_nat (i : Ivector_Right_n0) (k : Yvector_Right_n0 → Ans) : nodevector_Right_n0 i k = bindO (nodeDvector_Right_n0 i) k := by
  obtain ⟨o0_0, o0_1⟩ := i
  simp only [nodeDvector_Right_n0, nodevector_Right_n0, bindO_cond, bindO_assoc, bindO_none, bindO_pure, bindO_elim, bindO_unP]
theorem nodevector_Right_n0_ok (i : Ivector_Right_n0) (K : Ex → St → Ans) : codeI Try.tab envvector_Right noHint (codeD Try.tab envvector_Right noHint 0 64) 70 11 annLvector_Right_n0 Lvector_Right_n0 (weakP 0 (exk [2] [2] []) K) (Svector_Right_n0 i) = nodevector_Right_n0 i (outvector_Right_n0 i K) := by kernel_rfl
theorem GNvector_Right_n0_ok : CSum Try.prog 11 Lvector_Right_n0 (sumN decvector_Right_n0 nodeDvector_Right_n0 outvector_Right_n0) := csum_node mixed tabOk envvector_RightOk 0 (exk [2] [2] []) annLvector_Right_n0_ok decvector_Right_n0_ok nodevector_Right_n0_ok nodevector_Right_n0_nat
noncomputable def Gvector_Right_n0 : (Ex → St → Ans) → St → Ans := (sumN decvector_Right_n0 nodeDvector_Right_n0 outvector_Right_n0)
theorem Gvector_Right_n0_ok : CSum Try.prog 11 Lvector_Right_n0 Gvector_Right_n0 := GNvector_Right_n0_ok
noncomputable def annvector_Right : Ann := (.seq .none (.seq (.cut 0 [1] Gvector_Right_n0) .none))
theorem annvector_Right_ok : AnnOk Try.prog 11 bvector_Right annvector_Right := ⟨(annOk_none _ _ _), ⟨Gvector_Right_n0_ok, (annOk_none _ _ _)⟩⟩
abbrev Avector_Right := (Int) × (Int)
abbrev Yvector_Right := (Bool)
def fnvector_Right {β : Type} : Avector_Right → (Yvector_Right → Option β) → Option β := fun (a0_0, a0_1) exit => (bindO (nodeDvector_Right_n0 (a0_0, a0_1)) fun t2 => (exit (t2)))
def fnDvector_Right (a : Avector_Right) : Option Yvector_Right := fnvector_Right a some
theorem fnvector_Right_nat (a : Avector_Right) (k : Yvector_Right → Ans) : fnvector_Right a k = bindO (fnDvector_Right a) k := by
  obtain ⟨a0_0, a0_1⟩ := a
  simp only [fnDvector_Right, fnvector_Right, bindO_cond, bindO_assoc, bindO_none, bindO_pure, bindO_elim, bindO_unP]
def argsvector_Right : Avector_Right → List AV := fun (a0_0, a0_1) => [AV.agg [AV.int IntKind.i64 a0_0, AV.int IntKind.i64 a0_1]]
def decAvector_Right (l : List AV) : Option Avector_Right := match l with
  | [AV.agg [AV.int IntKind.i64 a0_0, AV.int IntKind.i64 a0_1]] => some (a0_0, a0_1)
  | _ => none
theorem decAvector_Right_ok (l : List AV) (a : Avector_Right) (h : decAvector_Right l = some a) : l = argsvector_Right a := by
  unfold decAvector_Right at h
  split at h
  · cases h; rfl
  · cases h
def rendvector_Right : Avector_Right → Yvector_Right → AV := fun (a0_0, a0_1) => fun r_y => AV.bool r_y
theorem rendvector_Right_ok : ∀ (a : Avector_Right) (y : Yvector_Right), (rendvector_Right a y).closed1 = true := by
  rintro ⟨a0_0, a0_1⟩ y <;> first | rfl | exact Empty.elim y
theorem fnvector_Right_ok (a : Avector_Right) : fnE Try.tab envvector_Right noHint 0 70 46 Try.f46.ntmps Try.f46.results.toList annvector_Right bvector_Right (argsvector_Right a) [] (fun v _ => some (v, [])) = fnvector_Right a (fun y => some (rendvector_Right a y, [])) := by kernel_rfl
def vFvector_Right (a : Avector_Right) (K : AV → Ans) : Ans := bindO (fnDvector_Right a) fun y => K (rendvector_Right a y)
def Fvector_Right : List AV → (AV → Ans) → Ans := fun l K => bindO (decAvector_Right l) fun a => vFvector_Right a K
theorem Fvector_Right_ok : PureOk Try.prog 46 Fvector_Right := pure_mkD (hint := noHint) (d := 0) (n := 70) mixed tabOk envvector_RightOk Try.func46 (bodySome (by kernel_rfl)) (by decide +kernel) annvector_Right_ok decAvector_Right_ok fnvector_Right_ok fnvector_Right_nat rendvector_Right_ok
--@ entry_Check
noncomputable def enventry_Check : Env := [(46, .pure Fvector_Right)]
theorem enventry_CheckOk : EnvOk Try.prog enventry_Check := EnvOk.cons Fvector_Right_ok (EnvOk.nil)
noncomputable def bentry_Check : Code := Try.f15.body.getD .skip
noncomputable def Lentry_Check_n0 : Code := codeAt [1, 0, 0] bentry_Check
noncomputable def annLentry_Check_n0 : Ann := .none
theorem annLentry_Check_n0_ok : AnnOk Try.prog 17 Lentry_Check_n0 annLentry_Check_n0 := (annOk_none _ _ _)
abbrev Ientry_Check_n0 := (Int) × (Int) × (Int)
abbrev Yentry_Check_n0 := (Bool)
def Sentry_Check_n0 : Ientry_Check_n0 → St := fun (o0_0, o0_1, o0_2) => { env := [(1, AV.ptr 0 0)], stk := [[]], H := [AE.Obj.cells [AV.int IntKind.i64 o0_0, AV.int IntKind.i64 o0_1, AV.int IntKind.i64 o0_2]], blk := 61440 }
def decentry_Check_n0 (s : St) : Option Ientry_Check_n0 := match s with
  | { env := [(1, AV.ptr 0 0)], stk := [[]], H := [AE.Obj.cells [AV.int IntKind.i64 o0_0, AV.int IntKind.i64 o0_1, AV.int IntKind.i64 o0_2]], blk := 61440 } => some (o0_0, o0_1, o0_2)
  | _ => none
theorem decentry_Check_n0_ok (s : St) (x : Ientry_Check_n0) (h : decentry_Check_n0 s = some x) : s = Sentry_Check_n0 x := by
  unfold decentry_Check_n0 at h
  split at h
  · cases h; rfl
  · cases h
def outentry_Check_n0 : Ientry_Check_n0 → (Ex → St → Ans) → Yentry_Check_n0 → Ans := fun (o0_0, o0_1, o0_2) K => fun t16_y => K (Ex.norm) { env := [(16, AV.bool t16_y)], stk := [[]], H := [], blk := 61440 }
def nodeentry_Check_n0 {β : Type} : Ientry_Check_n0 → (Yentry_Check_n0 → Option β) → Option β := fun (o0_0, o0_1, o0_2) exit => (bindO (fnDvector_Right (o0_0, o0_1)) fun r => (bif !r then (exit (true)) else (bif decide (o0_2 < (-1 : Int)) then (exit (true)) else (exit (decide (o0_2 ≥ (8 : Int)))))))
def nodeDentry_Check_n0 (i : Ientry_Check_n0) : Option Yentry_Check_n0 := nodeentry_Check_n0 i some
theorem nodeentry_Check_n0_nat (i : Ientry_Check_n0) (k : Yentry_Check_n0 → Ans) : nodeentry_Check_n0 i k = bindO (nodeDentry_Check_n0 i) k := by
  obtain ⟨o0_0, o0_1, o0_2⟩ := i
  simp only [nodeDentry_Check_n0, nodeentry_Check_n0, bindO_cond, bindO_assoc, bindO_none, bindO_pure, bindO_elim, bindO_unP]
theorem nodeentry_Check_n0_ok (i : Ientry_Check_n0) (K : Ex → St → Ans) : codeI Try.tab enventry_Check noHint (codeD Try.tab enventry_Check noHint 0 64) 70 17 annLentry_Check_n0 Lentry_Check_n0 (weakP 0 (exk [16] [2] []) K) (Sentry_Check_n0 i) = nodeentry_Check_n0 i (outentry_Check_n0 i K) := by kernel_rfl
theorem GNentry_Check_n0_ok : CSum Try.prog 17 Lentry_Check_n0 (sumN decentry_Check_n0 nodeDentry_Check_n0 outentry_Check_n0) := csum_node mixed tabOk enventry_CheckOk 0 (exk [16] [2] []) annLentry_Check_n0_ok decentry_Check_n0_ok nodeentry_Check_n0_ok nodeentry_Check_n0_nat
noncomputable def Gentry_Check_n0 : (Ex → St → Ans) → St → Ans := (sumN decentry_Check_n0 nodeDentry_Check_n0 outentry_Check_n0)
theorem Gentry_Check_n0_ok : CSum Try.prog 17 Lentry_Check_n0 Gentry_Check_n0 := GNentry_Check_n0_ok
noncomputable def annentry_Check : Ann := (.seq .none (.seq (.seq (.cut 0 [1] Gentry_Check_n0) .none) .none))
theorem annentry_Check_ok : AnnOk Try.prog 17 bentry_Check annentry_Check := ⟨(annOk_none _ _ _), ⟨⟨Gentry_Check_n0_ok, (annOk_none _ _ _)⟩, (annOk_none _ _ _)⟩⟩
abbrev Aentry_Check := (Int) × (Int) × (Int)
abbrev Yentry_Check := (Int)
def fnentry_Check {β : Type} : Aentry_Check → (Yentry_Check → Option β) → Option β := fun (a0_0, a0_1, a0_2) exit => (bindO (nodeDentry_Check_n0 (a0_0, a0_1, a0_2)) fun t16 => (bif t16 then (exit ((3 : Int))) else (exit ((0 : Int)))))
def fnDentry_Check (a : Aentry_Check) : Option Yentry_Check := fnentry_Check a some
theorem fnentry_Check_nat (a : Aentry_Check) (k : Yentry_Check → Ans) : fnentry_Check a k = bindO (fnDentry_Check a) k := by
  obtain ⟨a0_0, a0_1, a0_2⟩ := a
  simp only [fnDentry_Check, fnentry_Check, bindO_cond, bindO_assoc, bindO_none, bindO_pure, bindO_elim, bindO_unP]
def argsentry_Check : Aentry_Check → List AV := fun (a0_0, a0_1, a0_2) => [AV.agg [AV.int IntKind.i64 a0_0, AV.int IntKind.i64 a0_1, AV.int IntKind.i64 a0_2]]
def decAentry_Check (l : List AV) : Option Aentry_Check := match l with
  | [AV.agg [AV.int IntKind.i64 a0_0, AV.int IntKind.i64 a0_1, AV.int IntKind.i64 a0_2]] => some (a0_0, a0_1, a0_2)
  | _ => none
theorem decAentry_Check_ok (l : List AV) (a : Aentry_Check) (h : decAentry_Check l = some a) : l = argsentry_Check a := by
  unfold decAentry_Check at h
  split at h
  · cases h; rfl
  · cases h
def rendentry_Check : Aentry_Check → Yentry_Check → AV := fun (a0_0, a0_1, a0_2) => fun r_y => AV.int IntKind.i64 r_y
theorem rendentry_Check_ok : ∀ (a : Aentry_Check) (y : Yentry_Check), (rendentry_Check a y).closed1 = true := by
  rintro ⟨a0_0, a0_1, a0_2⟩ y <;> first | rfl | exact Empty.elim y
theorem fnentry_Check_ok (a : Aentry_Check) : fnE Try.tab enventry_Check noHint 0 70 15 Try.f15.ntmps Try.f15.results.toList annentry_Check bentry_Check (argsentry_Check a) [] (fun v _ => some (v, [])) = fnentry_Check a (fun y => some (rendentry_Check a y, [])) := by kernel_rfl
def vFentry_Check (a : Aentry_Check) (K : AV → Ans) : Ans := bindO (fnDentry_Check a) fun y => K (rendentry_Check a y)
def Fentry_Check : List AV → (AV → Ans) → Ans := fun l K => bindO (decAentry_Check l) fun a => vFentry_Check a K
theorem Fentry_Check_ok : PureOk Try.prog 15 Fentry_Check := pure_mkD (hint := noHint) (d := 0) (n := 70) mixed tabOk enventry_CheckOk Try.func15 (bodySome (by kernel_rfl)) (by decide +kernel) annentry_Check_ok decAentry_Check_ok fnentry_Check_ok fnentry_Check_nat rendentry_Check_ok
--@ field_width
noncomputable def envfield_width : Env := []
theorem envfield_widthOk : EnvOk Try.prog envfield_width := EnvOk.nil
noncomputable def bfield_width : Code := Try.f68.body.getD .skip
noncomputable def Lfield_width_n0 : Code := codeAt [1, 0] bfield_width
noncomputable def annLfield_width_n0 : Ann := .none
theorem annLfield_width_n0_ok : AnnOk Try.prog 9 Lfield_width_n0 annLfield_width_n0 := (annOk_none _ _ _)
abbrev Ifield_width_n0 := (Int)
abbrev Yfield_width_n0 := (Bool)
def Sfield_width_n0 : Ifield_width_n0 → St := fun t0 => { env := [(0, AV.int IntKind.i64 t0)], stk := [[]], H := [], blk := 278528 }
def decfield_width_n0 (s : St) : Option Ifield_width_n0 := match s with
  | { env := [(0, AV.int IntKind.i64 t0)], stk := [[]], H := [], blk := 278528 } => some (t0)
  | _ => none
theorem decfield_width_n0_ok (s : St) (x : Ifield_width_n0) (h : decfield_width_n0 s = some x) : s = Sfield_width_n0 x := by
  unfold decfield_width_n0 at h
  split at h
  · cases h; rfl
  · cases h
def outfield_width_n0 : Ifield_width_n0 → (Ex → St → Ans) → Yfield_width_n0 → Ans := fun t0 K => fun t2_y => K (Ex.norm) { env := [(2, AV.bool t2_y)], stk := [[]], H := [], blk := 278528 }
def nodefield_width_n0 {β : Type} : Ifield_width_n0 → (Yfield_width_n0 → Option β) → Option β := fun t0 exit => (bif decide (t0 ≥ (1 : Int)) then (exit (decide (t0 ≤ (7 : Int)))) else (exit (false)))
def nodeDfield_width_n0 (i : Ifield_width_n0) : Option Yfield_width_n0 := nodefield_width_n0 i some
theorem nodefield_width_n0_nat (i : Ifield_width_n0) (k : Yfield_width_n0 → Ans) : nodefield_width_n0 i k = bindO (nodeDfield_width_n0 i) k := by
  obtain z := i
  simp only [nodeDfield_width_n0, nodefield_width_n0, bindO_cond, bindO_assoc, bindO_none, bindO_pure, bindO_elim, bindO_unP]
theorem nodefield_width_n0_ok (i : Ifield_width_n0) (K : Ex → St → Ans) : codeI Try.tab envfield_width noHint (codeD Try.tab envfield_width noHint 0 64) 70 9 annLfield_width_n0 Lfield_width_n0 (weakP 0 (exk [2] [2] []) K) (Sfield_width_n0 i) = nodefield_width_n0 i (outfield_width_n0 i K) := by kernel_rfl
theorem GNfield_width_n0_ok : CSum Try.prog 9 Lfield_width_n0 (sumN decfield_width_n0 nodeDfield_width_n0 outfield_width_n0) := csum_node mixed tabOk envfield_widthOk 0 (exk [2] [2] []) annLfield_width_n0_ok decfield_width_n0_ok nodefield_width_n0_ok nodefield_width_n0_nat
noncomputable def Gfield_width_n0 : (Ex → St → Ans) → St → Ans := (sumN decfield_width_n0 nodeDfield_width_n0 outfield_width_n0)
theorem Gfield_width_n0_ok : CSum Try.prog 9 Lfield_width_n0 Gfield_width_n0 := GNfield_width_n0_ok
noncomputable def annfield_width : Ann := (.seq .none (.seq (.cut 0 [0] Gfield_width_n0) .none))
theorem annfield_width_ok : AnnOk Try.prog 9 bfield_width annfield_width := ⟨(annOk_none _ _ _), ⟨Gfield_width_n0_ok, (annOk_none _ _ _)⟩⟩
abbrev Afield_width := (Int)
abbrev Yfield_width := (Bool)
def fnfield_width {β : Type} : Afield_width → (Yfield_width → Option β) → Option β := fun a0 exit => (bindO (nodeDfield_width_n0 (a0)) fun t2 => (exit (t2)))
def fnDfield_width (a : Afield_width) : Option Yfield_width := fnfield_width a some
theorem fnfield_width_nat (a : Afield_width) (k : Yfield_width → Ans) : fnfield_width a k = bindO (fnDfield_width a) k := by
  obtain z := a
  simp only [fnDfield_width, fnfield_width, bindO_cond, bindO_assoc, bindO_none, bindO_pure, bindO_elim, bindO_unP]
def argsfield_width : Afield_width → List AV := fun a0 => [AV.int IntKind.i64 a0]
def decAfield_width (l : List AV) : Option Afield_width := match l with
  | [AV.int IntKind.i64 a0] => some (a0)
  | _ => none
theorem decAfield_width_ok (l : List AV) (a : Afield_width) (h : decAfield_width l = some a) : l = argsfield_width a := by
  unfold decAfield_width at h
  split at h
  · cases h; rfl
  · cases h
def rendfield_width : Afield_width → Yfield_width → AV := fun a0 => fun r_y => AV.bool r_y
theorem rendfield_width_ok : ∀ (a : Afield_width) (y : Yfield_width), (rendfield_width a y).closed1 = true := by
  rintro z y <;> first | rfl | exact Empty.elim y
theorem fnfield_width_ok (a : Afield_width) : fnE Try.tab envfield_width noHint 0 70 68 Try.f68.ntmps Try.f68.results.toList annfield_width bfield_width (argsfield_width a) [] (fun v _ => some (v, [])) = fnfield_width a (fun y => some (rendfield_width a y, [])) := by kernel_rfl
def vFfield_width (a : Afield_width) (K : AV → Ans) : Ans := bindO (fnDfield_width a) fun y => K (rendfield_width a y)
def Ffield_width : List AV → (AV → Ans) → Ans := fun l K => bindO (decAfield_width l) fun a => vFfield_width a K
theorem Ffield_width_ok : PureOk Try.prog 68 Ffield_width := pure_mkD (hint := noHint) (d := 0) (n := 70) mixed tabOk envfield_widthOk Try.func68 (bodySome (by kernel_rfl)) (by decide +kernel) annfield_width_ok decAfield_width_ok fnfield_width_ok fnfield_width_nat rendfield_width_ok
--@ field_Fits
noncomputable def envfield_Fits : Env := [(68, .pure Ffield_width)]
theorem envfield_FitsOk : EnvOk Try.prog envfield_Fits := EnvOk.cons Ffield_width_ok (EnvOk.nil)
noncomputable def bfield_Fits : Code := Try.f62.body.getD .skip
noncomputable def Lfield_Fits_n0 : Code := codeAt [1, 0] bfield_Fits
noncomputable def annLfield_Fits_n0 : Ann := .none
theorem annLfield_Fits_n0_ok : AnnOk Try.prog 18 Lfield_Fits_n0 annLfield_Fits_n0 := (annOk_none _ _ _)
abbrev Ifield_Fits_n0 := (Int) × (Int)
abbrev Yfield_Fits_n0 := (Bool)
def Sfield_Fits_n0 : Ifield_Fits_n0 → St := fun (t0, t1) => { env := [(0, AV.int IntKind.i64 t0), (1, AV.int IntKind.i64 t1)], stk := [[]], H := [], blk := 253952 }
def decfield_Fits_n0 (s : St) : Option Ifield_Fits_n0 := match s with
  | { env := [(0, AV.int IntKind.i64 t0), (1, AV.int IntKind.i64 t1)], stk := [[]], H := [], blk := 253952 } => some (t0, t1)
  | _ => none
theorem decfield_Fits_n0_ok (s : St) (x : Ifield_Fits_n0) (h : decfield_Fits_n0 s = some x) : s = Sfield_Fits_n0 x := by
  unfold decfield_Fits_n0 at h
  split at h
  · cases h; rfl
  · cases h
def outfield_Fits_n0 : Ifield_Fits_n0 → (Ex → St → Ans) → Yfield_Fits_n0 → Ans := fun (t0, t1) K => fun t4_y => K (Ex.norm) { env := [(4, AV.bool t4_y)], stk := [[]], H := [], blk := 253952 }
def nodefield_Fits_n0 {β : Type} : Ifield_Fits_n0 → (Yfield_Fits_n0 → Option β) → Option β := fun (t0, t1) exit => (bindO (fnDfield_width (t1)) fun r => (bif r then (bif decide (t0 ≥ (0 : Int)) then (bif decide (IntKind.wrap IntKind.i64 ((8 : Int) * t1) < (0 : Int)) then none else (exit (Int.fdiv t0 ((2 : Int) ^ min (Int.toNat (IntKind.wrap IntKind.i64 ((8 : Int) * t1))) (64 : Nat)) == (0 : Int)))) else (exit (false))) else (exit (false))))
def nodeDfield_Fits_n0 (i : Ifield_Fits_n0) : Option Yfield_Fits_n0 := nodefield_Fits_n0 i some
theorem nodefield_Fits_n0_nat (i : Ifield_Fits_n0) (k : Yfield_Fits_n0 → Ans) : nodefield_Fits_n0 i k = bindO (nodeDfield_Fits_n0 i) k := by
  obtain ⟨t0, t1⟩ := i
  simp only [nodeDfield_Fits_n0, nodefield_Fits_n0, bindO_cond, bindO_assoc, bindO_none, bindO_pure, bindO_elim, bindO_unP]
theorem nodefield_Fits_n0_ok (i : Ifield_Fits_n0) (K : Ex → St → Ans) : codeI Try.tab envfield_Fits noHint (codeD Try.tab envfield_Fits noHint 0 64) 70 18 annLfield_Fits_n0 Lfield_Fits_n0 (weakP 0 (exk [4] [4] []) K) (Sfield_Fits_n0 i) = nodefield_Fits_n0 i (outfield_Fits_n0 i K) := by kernel_rfl
theorem GNfield_Fits_n0_ok : CSum Try.prog 18 Lfield_Fits_n0 (sumN decfield_Fits_n0 nodeDfield_Fits_n0 outfield_Fits_n0) := csum_node mixed tabOk envfield_FitsOk 0 (exk [4] [4] []) annLfield_Fits_n0_ok decfield_Fits_n0_ok nodefield_Fits_n0_ok nodefield_Fits_n0_nat
noncomputable def Gfield_Fits_n0 : (Ex → St → Ans) → St → Ans := (sumN decfield_Fits_n0 nodeDfield_Fits_n0 outfield_Fits_n0)
theorem Gfield_Fits_n0_ok : CSum Try.prog 18 Lfield_Fits_n0 Gfield_Fits_n0 := GNfield_Fits_n0_ok
noncomputable def annfield_Fits : Ann := (.seq .none (.seq (.cut 0 [0, 1] Gfield_Fits_n0) .none))
theorem annfield_Fits_ok : AnnOk Try.prog 18 bfield_Fits annfield_Fits := ⟨(annOk_none _ _ _), ⟨Gfield_Fits_n0_ok, (annOk_none _ _ _)⟩⟩
abbrev Afield_Fits := (Int) × (Int)
abbrev Yfield_Fits := (Bool)
def fnfield_Fits {β : Type} : Afield_Fits → (Yfield_Fits → Option β) → Option β := fun (a0, a1) exit => (bindO (nodeDfield_Fits_n0 (a0, a1)) fun t4 => (exit (t4)))
def fnDfield_Fits (a : Afield_Fits) : Option Yfield_Fits := fnfield_Fits a some
theorem fnfield_Fits_nat (a : Afield_Fits) (k : Yfield_Fits → Ans) : fnfield_Fits a k = bindO (fnDfield_Fits a) k := by
  obtain ⟨a0, a1⟩ := a
  simp only [fnDfield_Fits, fnfield_Fits, bindO_cond, bindO_assoc, bindO_none, bindO_pure, bindO_elim, bindO_unP]
def argsfield_Fits : Afield_Fits → List AV := fun (a0, a1) => [AV.int IntKind.i64 a0, AV.int IntKind.i64 a1]
def decAfield_Fits (l : List AV) : Option Afield_Fits := match l with
  | [AV.int IntKind.i64 a0, AV.int IntKind.i64 a1] => some (a0, a1)
  | _ => none
theorem decAfield_Fits_ok (l : List AV) (a : Afield_Fits) (h : decAfield_Fits l = some a) : l = argsfield_Fits a := by
  unfold decAfield_Fits at h
  split at h
  · cases h; rfl
  · cases h
def rendfield_Fits : Afield_Fits → Yfield_Fits → AV := fun (a0, a1) => fun r_y => AV.bool r_y
theorem rendfield_Fits_ok : ∀ (a : Afield_Fits) (y : Yfield_Fits), (rendfield_Fits a y).closed1 = true := by
  rintro ⟨a0, a1⟩ y <;> first | rfl | exact Empty.elim y
theorem fnfield_Fits_ok (a : Afield_Fits) : fnE Try.tab envfield_Fits noHint 0 70 62 Try.f62.ntmps Try.f62.results.toList annfield_Fits bfield_Fits (argsfield_Fits a) [] (fun v _ => some (v, [])) = fnfield_Fits a (fun y => some (rendfield_Fits a y, [])) := by kernel_rfl
def vFfield_Fits (a : Afield_Fits) (K : AV → Ans) : Ans := bindO (fnDfield_Fits a) fun y => K (rendfield_Fits a y)
def Ffield_Fits : List AV → (AV → Ans) → Ans := fun l K => bindO (decAfield_Fits l) fun a => vFfield_Fits a K
theorem Ffield_Fits_ok : PureOk Try.prog 62 Ffield_Fits := pure_mkD (hint := noHint) (d := 0) (n := 70) mixed tabOk envfield_FitsOk Try.func62 (bodySome (by kernel_rfl)) (by decide +kernel) annfield_Fits_ok decAfield_Fits_ok fnfield_Fits_ok fnfield_Fits_nat rendfield_Fits_ok
--@ field_Put
noncomputable def envfield_Put : Env := [(62, .pure Ffield_Fits)]
theorem envfield_PutOk : EnvOk Try.prog envfield_Put := EnvOk.cons Ffield_Fits_ok (EnvOk.nil)
noncomputable def bfield_Put : Code := Try.f38.body.getD .skip
noncomputable def Lfield_Put_n0 : Code := codeAt [1, 1, 1, 0, 1, 0, 0] bfield_Put
noncomputable def annLfield_Put_n0 : Ann := .at 0 [0, 1, 2, 7, 17, 18] (.loop .none)
theorem annLfield_Put_n0_ok : AnnOk Try.prog 37 (.loop Lfield_Put_n0) annLfield_Put_n0 := annOk_at (annOk_none _ _ _)
abbrev Ifield_Put_n0 := (List UInt8) × (Int) × (Int) × (Int)
abbrev Yfield_Put_n0 := (List Int)
abbrev Vfield_Put_n0 := (Int) × (List Int)
def Sfield_Put_n0 : Ifield_Put_n0 → Vfield_Put_n0 → St := fun (t0, t1, t2, t17) (t18, o0) => { env := [(0, AV.str t0), (1, AV.int IntKind.i64 t1), (2, AV.int IntKind.i64 t2), (7, AV.own 0), (17, AV.int IntKind.i64 t17), (18, AV.int IntKind.i64 t18)], stk := [[]], H := [Obj.arr (Ty.int IntKind.u8) o0], blk := 155648 }
def decfield_Put_n0 (s : St) : Option (Ifield_Put_n0 × Vfield_Put_n0) := match s with
  | { env := [(0, AV.str t0), (1, AV.int IntKind.i64 t1), (2, AV.int IntKind.i64 t2), (7, AV.own 0), (17, AV.int IntKind.i64 t17), (18, AV.int IntKind.i64 t18)], stk := [[]], H := [Obj.arr (Ty.int IntKind.u8) o0], blk := 155648 } => some ((t0, t1, t2, t17), (t18, o0))
  | _ => none
theorem decfield_Put_n0_ok (s : St) (x : Ifield_Put_n0 × Vfield_Put_n0) (h : decfield_Put_n0 s = some x) : s = Sfield_Put_n0 x.1 x.2 := by
  unfold decfield_Put_n0 at h
  split at h
  · cases h; rfl
  · cases h
def outfield_Put_n0 : Ifield_Put_n0 → (Ex → St → Ans) → Yfield_Put_n0 → Ans := fun (t0, t1, t2, t17) K => fun o0_y => K (Ex.exit 0) { env := [(0, AV.str t0), (7, AV.own 0)], stk := [[]], H := [Obj.arr (Ty.int IntKind.u8) o0_y], blk := 155648 }
def stepfield_Put_n0 {β : Type} : Ifield_Put_n0 → Vfield_Put_n0 → (Vfield_Put_n0 → Option β) → (Yfield_Put_n0 → Option β) → Option β := fun (t0, t1, t2, t17) (t18, o0) next exit => (bif decide (t18 < t17) then (bif decide (IntKind.wrap IntKind.i64 ((8 : Int) * IntKind.wrap IntKind.i64 (IntKind.wrap IntKind.i64 (t2 - (1 : Int)) - t18)) < (0 : Int)) then none else (bif inR t18 (List.length o0) then (bindO (o0[Int.toNat t18]?) fun x => (next (IntKind.wrap IntKind.i64 (t18 + (1 : Int)), List.set o0 (Int.toNat t18) (IntKind.wrap IntKind.u8 (Int.fdiv t1 ((2 : Int) ^ min (Int.toNat (IntKind.wrap IntKind.i64 ((8 : Int) * IntKind.wrap IntKind.i64 (IntKind.wrap IntKind.i64 (t2 - (1 : Int)) - t18)))) (64 : Nat))))))) else none)) else (exit (o0)))
def stepDfield_Put_n0 (i : Ifield_Put_n0) (v : Vfield_Put_n0) : Option (Vfield_Put_n0 ⊕ Yfield_Put_n0) := stepfield_Put_n0 i v (fun v => some (.inl v)) (fun y => some (.inr y))
theorem stepfield_Put_n0_nat (i : Ifield_Put_n0) (v : Vfield_Put_n0) (next : Vfield_Put_n0 → Ans) (exit : Yfield_Put_n0 → Ans) : stepfield_Put_n0 i v next exit = bindO (stepDfield_Put_n0 i v) (Sum.elim next exit) := by
  obtain ⟨t0, t1, t2, t17⟩ := i
  obtain ⟨t18, o0⟩ := v
  simp only [stepDfield_Put_n0, stepfield_Put_n0, bindO_cond, bindO_assoc, bindO_none, bindO_pure, bindO_elim, bindO_unP, Sum.elim_inl, Sum.elim_inr]
theorem stepfield_Put_n0_ok (n : Nat) (i : Ifield_Put_n0) (v : Vfield_Put_n0) (K : Ex → St → Ans) : codeI Try.tab envfield_Put noHint (codeD Try.tab envfield_Put noHint 0 64) (n+1) 37 annLfield_Put_n0 (.loop Lfield_Put_n0) (weakP 0 (exk [0, 7] [6] [(0, [0, 7])]) K) (Sfield_Put_n0 i v) = stepfield_Put_n0 i v (fun v' => codeI Try.tab envfield_Put noHint (codeD Try.tab envfield_Put noHint 0 64) n 37 annLfield_Put_n0 (.loop Lfield_Put_n0) (weakP 0 (exk [0, 7] [6] [(0, [0, 7])]) K) (Sfield_Put_n0 i v')) (fun y => outfield_Put_n0 i K y) := by kernel_rfl
theorem GNfield_Put_n0_ok : CSum Try.prog 37 (.loop Lfield_Put_n0) (sumL decfield_Put_n0 stepDfield_Put_n0 outfield_Put_n0) := csum_loop mixed tabOk envfield_PutOk 0 (exk [0, 7] [6] [(0, [0, 7])]) annLfield_Put_n0_ok decfield_Put_n0_ok stepfield_Put_n0_ok stepfield_Put_n0_nat
noncomputable def Gfield_Put_n0 : (Ex → St → Ans) → St → Ans := (sumL decfield_Put_n0 stepDfield_Put_n0 outfield_Put_n0)
theorem Gfield_Put_n0_ok : CSum Try.prog 37 (.loop Lfield_Put_n0) Gfield_Put_n0 := GNfield_Put_n0_ok
noncomputable def annfield_Put : Ann := (.seq .none (.seq .none (.seq .none (.seq (.seq .none (.block (.cut 0 [0, 1, 2, 7, 17, 18] Gfield_Put_n0))) .none))))
theorem annfield_Put_ok : AnnOk Try.prog 37 bfield_Put annfield_Put := ⟨(annOk_none _ _ _), ⟨(annOk_none _ _ _), ⟨(annOk_none _ _ _), ⟨⟨(annOk_none _ _ _), Gfield_Put_n0_ok⟩, (annOk_none _ _ _)⟩⟩⟩⟩
abbrev Afield_Put := (List UInt8) × (Int) × (Int)
abbrev Yfield_Put := (List UInt8)
def fnfield_Put {β : Type} : Afield_Put → (Yfield_Put → Option β) → Option β := fun (a0, a1, a2) exit => (bindO (fnDfield_Fits (a1, a2)) fun r => (bif !r then (exit (a0)) else (bif decide ((0 : Int) ≤ a2) && decide (a2 ≤ a2) && decide ((1 : Int) * a2 ≤ (281474976710656 : Int)) && decide (a2 ≤ (9223372036854775807 : Int)) then (bindO (loopD (stepDfield_Put_n0 (a0, a1, a2, (↑(List.length (List.replicate (Int.toNat a2) (0 : Int))) : Int))) FUEL ((0 : Int), List.replicate (Int.toNat a2) (0 : Int))) fun o0 => (bif Nat.ble (List.length a0 + List.length (bytesOf o0)) (9223372036854775807 : Nat) then (exit (a0 ++ bytesOf o0)) else none)) else none)))
def fnDfield_Put (a : Afield_Put) : Option Yfield_Put := fnfield_Put a some
theorem fnfield_Put_nat (a : Afield_Put) (k : Yfield_Put → Ans) : fnfield_Put a k = bindO (fnDfield_Put a) k := by
  obtain ⟨a0, a1, a2⟩ := a
  simp only [fnDfield_Put, fnfield_Put, bindO_cond, bindO_assoc, bindO_none, bindO_pure, bindO_elim, bindO_unP]
def argsfield_Put : Afield_Put → List AV := fun (a0, a1, a2) => [AV.str a0, AV.int IntKind.i64 a1, AV.int IntKind.i64 a2]
def decAfield_Put (l : List AV) : Option Afield_Put := match l with
  | [AV.str a0, AV.int IntKind.i64 a1, AV.int IntKind.i64 a2] => some (a0, a1, a2)
  | _ => none
theorem decAfield_Put_ok (l : List AV) (a : Afield_Put) (h : decAfield_Put l = some a) : l = argsfield_Put a := by
  unfold decAfield_Put at h
  split at h
  · cases h; rfl
  · cases h
def rendfield_Put : Afield_Put → Yfield_Put → AV := fun (a0, a1, a2) => fun r_y => AV.str r_y
theorem rendfield_Put_ok : ∀ (a : Afield_Put) (y : Yfield_Put), (rendfield_Put a y).closed1 = true := by
  rintro ⟨a0, a1, a2⟩ y <;> first | rfl | exact Empty.elim y
theorem fnfield_Put_ok (a : Afield_Put) : fnE Try.tab envfield_Put noHint 0 70 38 Try.f38.ntmps Try.f38.results.toList annfield_Put bfield_Put (argsfield_Put a) [] (fun v _ => some (v, [])) = fnfield_Put a (fun y => some (rendfield_Put a y, [])) := by kernel_rfl
def vFfield_Put (a : Afield_Put) (K : AV → Ans) : Ans := bindO (fnDfield_Put a) fun y => K (rendfield_Put a y)
def Ffield_Put : List AV → (AV → Ans) → Ans := fun l K => bindO (decAfield_Put l) fun a => vFfield_Put a K
theorem Ffield_Put_ok : PureOk Try.prog 38 Ffield_Put := pure_mkD (hint := noHint) (d := 0) (n := 70) mixed tabOk envfield_PutOk Try.func38 (bodySome (by kernel_rfl)) (by decide +kernel) annfield_Put_ok decAfield_Put_ok fnfield_Put_ok fnfield_Put_nat rendfield_Put_ok
--@ vector_Put
noncomputable def envvector_Put : Env := [(38, .pure Ffield_Put)]
theorem envvector_PutOk : EnvOk Try.prog envvector_Put := EnvOk.cons Ffield_Put_ok (EnvOk.nil)
noncomputable def bvector_Put : Code := Try.f39.body.getD .skip
noncomputable def annvector_Put : Ann := .none
theorem annvector_Put_ok : AnnOk Try.prog 12 bvector_Put annvector_Put := (annOk_none _ _ _)
abbrev Avector_Put := (List UInt8) × (Int) × (Int)
abbrev Yvector_Put := (List UInt8)
def fnvector_Put {β : Type} : Avector_Put → (Yvector_Put → Option β) → Option β := fun (a0, a1_0, a1_1) exit => (bindO (fnDfield_Put (a0, a1_0, (7 : Int))) fun r => (bindO (fnDfield_Put (r, a1_1, (7 : Int))) fun r_2 => (exit (r_2))))
def fnDvector_Put (a : Avector_Put) : Option Yvector_Put := fnvector_Put a some
theorem fnvector_Put_nat (a : Avector_Put) (k : Yvector_Put → Ans) : fnvector_Put a k = bindO (fnDvector_Put a) k := by
  obtain ⟨a0, a1_0, a1_1⟩ := a
  simp only [fnDvector_Put, fnvector_Put, bindO_cond, bindO_assoc, bindO_none, bindO_pure, bindO_elim, bindO_unP]
def argsvector_Put : Avector_Put → List AV := fun (a0, a1_0, a1_1) => [AV.str a0, AV.agg [AV.int IntKind.i64 a1_0, AV.int IntKind.i64 a1_1]]
def decAvector_Put (l : List AV) : Option Avector_Put := match l with
  | [AV.str a0, AV.agg [AV.int IntKind.i64 a1_0, AV.int IntKind.i64 a1_1]] => some (a0, a1_0, a1_1)
  | _ => none
theorem decAvector_Put_ok (l : List AV) (a : Avector_Put) (h : decAvector_Put l = some a) : l = argsvector_Put a := by
  unfold decAvector_Put at h
  split at h
  · cases h; rfl
  · cases h
def rendvector_Put : Avector_Put → Yvector_Put → AV := fun (a0, a1_0, a1_1) => fun r_y => AV.str r_y
theorem rendvector_Put_ok : ∀ (a : Avector_Put) (y : Yvector_Put), (rendvector_Put a y).closed1 = true := by
  rintro ⟨a0, a1_0, a1_1⟩ y <;> first | rfl | exact Empty.elim y
theorem fnvector_Put_ok (a : Avector_Put) : fnE Try.tab envvector_Put noHint 0 70 39 Try.f39.ntmps Try.f39.results.toList annvector_Put bvector_Put (argsvector_Put a) [] (fun v _ => some (v, [])) = fnvector_Put a (fun y => some (rendvector_Put a y, [])) := by kernel_rfl
def vFvector_Put (a : Avector_Put) (K : AV → Ans) : Ans := bindO (fnDvector_Put a) fun y => K (rendvector_Put a y)
def Fvector_Put : List AV → (AV → Ans) → Ans := fun l K => bindO (decAvector_Put l) fun a => vFvector_Put a K
theorem Fvector_Put_ok : PureOk Try.prog 39 Fvector_Put := pure_mkD (hint := noHint) (d := 0) (n := 70) mixed tabOk envvector_PutOk Try.func39 (bodySome (by kernel_rfl)) (by decide +kernel) annvector_Put_ok decAvector_Put_ok fnvector_Put_ok fnvector_Put_nat rendvector_Put_ok
--@ cyclic_New
noncomputable def envcyclic_New : Env := []
theorem envcyclic_NewOk : EnvOk Try.prog envcyclic_New := EnvOk.nil
noncomputable def bcyclic_New : Code := Try.f76.body.getD .skip
noncomputable def anncyclic_New : Ann := .none
theorem anncyclic_New_ok : AnnOk Try.prog 3 bcyclic_New anncyclic_New := (annOk_none _ _ _)
abbrev Acyclic_New := Unit
abbrev Ycyclic_New := Unit
def fncyclic_New {β : Type} : Acyclic_New → (Ycyclic_New → Option β) → Option β := fun _ exit => (exit ())
def fnDcyclic_New (a : Acyclic_New) : Option Ycyclic_New := fncyclic_New a some
theorem fncyclic_New_nat (a : Acyclic_New) (k : Ycyclic_New → Ans) : fncyclic_New a k = bindO (fnDcyclic_New a) k := by
  obtain z := a
  simp only [fnDcyclic_New, fncyclic_New, bindO_cond, bindO_assoc, bindO_none, bindO_pure, bindO_elim, bindO_unP]
def argscyclic_New : Acyclic_New → List AV × List AE.Obj := fun _ => ([], [])
def decAcyclic_New (l : List AV) (H : List AE.Obj) : Option Acyclic_New := match l, H with
  | [], [] => some ()
  | _, _ => none
theorem decAcyclic_New_ok (l : List AV) (H : List AE.Obj) (a : Acyclic_New) (h : decAcyclic_New l H = some a) : (l, H) = argscyclic_New a := by
  unfold decAcyclic_New at h
  split at h
  · cases h; rfl
  · cases h
def outcyclic_New : Acyclic_New → (AV → List AE.Obj → Ans) → Ycyclic_New → Ans := fun _ K => fun _ => K (AV.ptr 0 0) [AE.Obj.cells [AV.int IntKind.u32 (0)]]
theorem fncyclic_New_ok (a : Acyclic_New) (K : AV → List AE.Obj → Ans) : fnE Try.tab envcyclic_New noHint 0 70 76 Try.f76.ntmps Try.f76.results.toList anncyclic_New bcyclic_New (argscyclic_New a).1 (argscyclic_New a).2 K = fncyclic_New a (outcyclic_New a K) := by kernel_rfl
def vFcyclic_New (a : Acyclic_New) (K : AV → List AE.Obj → Ans) : Ans := bindO (fnDcyclic_New a) fun y => outcyclic_New a K y
def Fcyclic_New : List AV → List AE.Obj → (AV → List AE.Obj → Ans) → Ans := fun l H K => bindO (decAcyclic_New l H) fun a => vFcyclic_New a K
theorem Fcyclic_New_ok : FuncOk Try.prog 76 Fcyclic_New := func_mkD (hint := noHint) (d := 0) (n := 70) mixed tabOk envcyclic_NewOk Try.func76 (bodySome (by kernel_rfl)) (by decide +kernel) anncyclic_New_ok decAcyclic_New_ok fncyclic_New_ok fncyclic_New_nat
--@ cyclic_step
noncomputable def envcyclic_step : Env := []
theorem envcyclic_stepOk : EnvOk Try.prog envcyclic_step := EnvOk.nil
noncomputable def bcyclic_step : Code := Try.f84.body.getD .skip
noncomputable def Lcyclic_step_n0 : Code := codeAt [1, 1, 0, 1, 0, 0] bcyclic_step
noncomputable def annLcyclic_step_n0 : Ann := .at 0 [0, 9] (.loop .none)
theorem annLcyclic_step_n0_ok : AnnOk Try.prog 20 (.loop Lcyclic_step_n0) annLcyclic_step_n0 := annOk_at (annOk_none _ _ _)
abbrev Icyclic_step_n0 := Unit
abbrev Ycyclic_step_n0 := (Int)
abbrev Vcyclic_step_n0 := (Int) × (Int)
def Scyclic_step_n0 : Icyclic_step_n0 → Vcyclic_step_n0 → St := fun _ (t0, t9) => { env := [(0, AV.int IntKind.u32 t0), (9, AV.int IntKind.i64 t9)], stk := [[]], H := [], blk := 344064 }
def deccyclic_step_n0 (s : St) : Option (Icyclic_step_n0 × Vcyclic_step_n0) := match s with
  | { env := [(0, AV.int IntKind.u32 t0), (9, AV.int IntKind.i64 t9)], stk := [[]], H := [], blk := 344064 } => some ((), (t0, t9))
  | _ => none
theorem deccyclic_step_n0_ok (s : St) (x : Icyclic_step_n0 × Vcyclic_step_n0) (h : deccyclic_step_n0 s = some x) : s = Scyclic_step_n0 x.1 x.2 := by
  unfold deccyclic_step_n0 at h
  split at h
  · cases h; rfl
  · cases h
def outcyclic_step_n0 : Icyclic_step_n0 → (Ex → St → Ans) → Ycyclic_step_n0 → Ans := fun _ K => fun t0_y => K (Ex.exit 0) { env := [(0, AV.int IntKind.u32 t0_y)], stk := [[]], H := [], blk := 344064 }
def stepcyclic_step_n0 {β : Type} : Icyclic_step_n0 → Vcyclic_step_n0 → (Vcyclic_step_n0 → Option β) → (Ycyclic_step_n0 → Option β) → Option β := fun _ (t0, t9) next exit => (bif decide (t9 < (8 : Int)) then (next (IntKind.wrap IntKind.u32 (↑(Int.toNat (Int.fdiv t0 (2 : Int) % (4294967296 : Int)) ^^^ Int.toNat (IntKind.wrap IntKind.u32 (↑((3988292384 : Nat) &&& Int.toNat (IntKind.wrap IntKind.u32 ((0 : Int) - IntKind.wrap IntKind.u32 (↑(Int.toNat (t0 % (4294967296 : Int)) &&& (1 : Nat)) : Int)) % (4294967296 : Int))) : Int) % (4294967296 : Int))) : Int), IntKind.wrap IntKind.i64 (t9 + (1 : Int)))) else (exit (t0)))
def stepDcyclic_step_n0 (i : Icyclic_step_n0) (v : Vcyclic_step_n0) : Option (Vcyclic_step_n0 ⊕ Ycyclic_step_n0) := stepcyclic_step_n0 i v (fun v => some (.inl v)) (fun y => some (.inr y))
theorem stepcyclic_step_n0_nat (i : Icyclic_step_n0) (v : Vcyclic_step_n0) (next : Vcyclic_step_n0 → Ans) (exit : Ycyclic_step_n0 → Ans) : stepcyclic_step_n0 i v next exit = bindO (stepDcyclic_step_n0 i v) (Sum.elim next exit) := by
  obtain z := i
  obtain ⟨t0, t9⟩ := v
  simp only [stepDcyclic_step_n0, stepcyclic_step_n0, bindO_cond, bindO_assoc, bindO_none, bindO_pure, bindO_elim, bindO_unP, Sum.elim_inl, Sum.elim_inr]
theorem stepcyclic_step_n0_ok (n : Nat) (i : Icyclic_step_n0) (v : Vcyclic_step_n0) (K : Ex → St → Ans) : codeI Try.tab envcyclic_step noHint (codeD Try.tab envcyclic_step noHint 0 64) (n+1) 20 annLcyclic_step_n0 (.loop Lcyclic_step_n0) (weakP 0 (exk [0] [4] [(0, [0])]) K) (Scyclic_step_n0 i v) = stepcyclic_step_n0 i v (fun v' => codeI Try.tab envcyclic_step noHint (codeD Try.tab envcyclic_step noHint 0 64) n 20 annLcyclic_step_n0 (.loop Lcyclic_step_n0) (weakP 0 (exk [0] [4] [(0, [0])]) K) (Scyclic_step_n0 i v')) (fun y => outcyclic_step_n0 i K y) := by kernel_rfl
theorem GNcyclic_step_n0_ok : CSum Try.prog 20 (.loop Lcyclic_step_n0) (sumL deccyclic_step_n0 stepDcyclic_step_n0 outcyclic_step_n0) := csum_loop mixed tabOk envcyclic_stepOk 0 (exk [0] [4] [(0, [0])]) annLcyclic_step_n0_ok deccyclic_step_n0_ok stepcyclic_step_n0_ok stepcyclic_step_n0_nat
noncomputable def Gcyclic_step_n0 : (Ex → St → Ans) → St → Ans := (sumL deccyclic_step_n0 stepDcyclic_step_n0 outcyclic_step_n0)
theorem Gcyclic_step_n0_ok : CSum Try.prog 20 (.loop Lcyclic_step_n0) Gcyclic_step_n0 := GNcyclic_step_n0_ok
noncomputable def anncyclic_step : Ann := (.seq .none (.seq .none (.seq (.seq .none (.block (.cut 0 [0, 9] Gcyclic_step_n0))) .none)))
theorem anncyclic_step_ok : AnnOk Try.prog 20 bcyclic_step anncyclic_step := ⟨(annOk_none _ _ _), ⟨(annOk_none _ _ _), ⟨⟨(annOk_none _ _ _), Gcyclic_step_n0_ok⟩, (annOk_none _ _ _)⟩⟩⟩
abbrev Acyclic_step := (Int) × (Int)
abbrev Ycyclic_step := (Int)
def fncyclic_step {β : Type} : Acyclic_step → (Ycyclic_step → Option β) → Option β := fun (a0, a1) exit => (bindO (loopD (stepDcyclic_step_n0 ()) FUEL (IntKind.wrap IntKind.u32 (↑(Int.toNat (a0 % (4294967296 : Int)) ^^^ Int.toNat (IntKind.wrap IntKind.u32 a1 % (4294967296 : Int))) : Int), (0 : Int))) fun t0 => (exit (t0)))
def fnDcyclic_step (a : Acyclic_step) : Option Ycyclic_step := fncyclic_step a some
theorem fncyclic_step_nat (a : Acyclic_step) (k : Ycyclic_step → Ans) : fncyclic_step a k = bindO (fnDcyclic_step a) k := by
  obtain ⟨a0, a1⟩ := a
  simp only [fnDcyclic_step, fncyclic_step, bindO_cond, bindO_assoc, bindO_none, bindO_pure, bindO_elim, bindO_unP]
def argscyclic_step : Acyclic_step → List AV := fun (a0, a1) => [AV.int IntKind.u32 a0, AV.int IntKind.u8 a1]
def decAcyclic_step (l : List AV) : Option Acyclic_step := match l with
  | [AV.int IntKind.u32 a0, AV.int IntKind.u8 a1] => some (a0, a1)
  | _ => none
theorem decAcyclic_step_ok (l : List AV) (a : Acyclic_step) (h : decAcyclic_step l = some a) : l = argscyclic_step a := by
  unfold decAcyclic_step at h
  split at h
  · cases h; rfl
  · cases h
def rendcyclic_step : Acyclic_step → Ycyclic_step → AV := fun (a0, a1) => fun r_y => AV.int IntKind.u32 r_y
theorem rendcyclic_step_ok : ∀ (a : Acyclic_step) (y : Ycyclic_step), (rendcyclic_step a y).closed1 = true := by
  rintro ⟨a0, a1⟩ y <;> first | rfl | exact Empty.elim y
theorem fncyclic_step_ok (a : Acyclic_step) : fnE Try.tab envcyclic_step noHint 0 70 84 Try.f84.ntmps Try.f84.results.toList anncyclic_step bcyclic_step (argscyclic_step a) [] (fun v _ => some (v, [])) = fncyclic_step a (fun y => some (rendcyclic_step a y, [])) := by kernel_rfl
def vFcyclic_step (a : Acyclic_step) (K : AV → Ans) : Ans := bindO (fnDcyclic_step a) fun y => K (rendcyclic_step a y)
def Fcyclic_step : List AV → (AV → Ans) → Ans := fun l K => bindO (decAcyclic_step l) fun a => vFcyclic_step a K
theorem Fcyclic_step_ok : PureOk Try.prog 84 Fcyclic_step := pure_mkD (hint := noHint) (d := 0) (n := 70) mixed tabOk envcyclic_stepOk Try.func84 (bodySome (by kernel_rfl)) (by decide +kernel) anncyclic_step_ok decAcyclic_step_ok fncyclic_step_ok fncyclic_step_nat rendcyclic_step_ok
--@ cyclic_State_Add
noncomputable def envcyclic_State_Add : Env := [(84, .pure Fcyclic_step)]
theorem envcyclic_State_AddOk : EnvOk Try.prog envcyclic_State_Add := EnvOk.cons Fcyclic_step_ok (EnvOk.nil)
noncomputable def bcyclic_State_Add : Code := Try.f77.body.getD .skip
noncomputable def Lcyclic_State_Add_n0 : Code := codeAt [1, 1, 0, 1, 0, 0] bcyclic_State_Add
noncomputable def annLcyclic_State_Add_n0 : Ann := .at 1 [0, 1, 4, 14, 15] (.loop .none)
theorem annLcyclic_State_Add_n0_ok : AnnOk Try.prog 29 (.loop Lcyclic_State_Add_n0) annLcyclic_State_Add_n0 := annOk_at (annOk_none _ _ _)
abbrev Icyclic_State_Add_n0 := (List UInt8) × (Int) × (Int)
abbrev Ycyclic_State_Add_n0 := (Int)
abbrev Vcyclic_State_Add_n0 := (Int) × (Int)
def Scyclic_State_Add_n0 : Icyclic_State_Add_n0 → Vcyclic_State_Add_n0 → St := fun (t1, t14, o0_0) (t4, t15) => { env := [(0, AV.ptr 0 0), (1, AV.str t1), (4, AV.int IntKind.u32 t4), (14, AV.int IntKind.i64 t14), (15, AV.int IntKind.i64 t15)], stk := [[(0, AV.ptr 0 0)]], H := [AE.Obj.cells [AV.int IntKind.u32 o0_0]], blk := 315392 }
def deccyclic_State_Add_n0 (s : St) : Option (Icyclic_State_Add_n0 × Vcyclic_State_Add_n0) := match s with
  | { env := [(0, AV.ptr 0 0), (1, AV.str t1), (4, AV.int IntKind.u32 t4), (14, AV.int IntKind.i64 t14), (15, AV.int IntKind.i64 t15)], stk := [[(0, AV.ptr 0 0)]], H := [AE.Obj.cells [AV.int IntKind.u32 o0_0]], blk := 315392 } => some ((t1, t14, o0_0), (t4, t15))
  | _ => none
theorem deccyclic_State_Add_n0_ok (s : St) (x : Icyclic_State_Add_n0 × Vcyclic_State_Add_n0) (h : deccyclic_State_Add_n0 s = some x) : s = Scyclic_State_Add_n0 x.1 x.2 := by
  unfold deccyclic_State_Add_n0 at h
  split at h
  · cases h; rfl
  · cases h
def outcyclic_State_Add_n0 : Icyclic_State_Add_n0 → (Ex → St → Ans) → Ycyclic_State_Add_n0 → Ans := fun (t1, t14, o0_0) K => fun t4_y => K (Ex.exit 0) { env := [(0, AV.ptr 0 0), (4, AV.int IntKind.u32 t4_y)], stk := [[(0, AV.ptr 0 0)]], H := [AE.Obj.cells [AV.int IntKind.u32 o0_0]], blk := 315392 }
def stepcyclic_State_Add_n0 {β : Type} : Icyclic_State_Add_n0 → Vcyclic_State_Add_n0 → (Vcyclic_State_Add_n0 → Option β) → (Ycyclic_State_Add_n0 → Option β) → Option β := fun (t1, t14, o0_0) (t4, t15) next exit => (bif decide (t15 < t14) then (bindO (nth t1 t15) fun x => (bindO (fnDcyclic_step (t4, (↑(UInt8.toNat x) : Int))) fun r => (next (r, IntKind.wrap IntKind.i64 (t15 + (1 : Int)))))) else (exit (t4)))
def stepDcyclic_State_Add_n0 (i : Icyclic_State_Add_n0) (v : Vcyclic_State_Add_n0) : Option (Vcyclic_State_Add_n0 ⊕ Ycyclic_State_Add_n0) := stepcyclic_State_Add_n0 i v (fun v => some (.inl v)) (fun y => some (.inr y))
theorem stepcyclic_State_Add_n0_nat (i : Icyclic_State_Add_n0) (v : Vcyclic_State_Add_n0) (next : Vcyclic_State_Add_n0 → Ans) (exit : Ycyclic_State_Add_n0 → Ans) : stepcyclic_State_Add_n0 i v next exit = bindO (stepDcyclic_State_Add_n0 i v) (Sum.elim next exit) := by
  obtain ⟨t1, t14, o0_0⟩ := i
  obtain ⟨t4, t15⟩ := v
  simp only [stepDcyclic_State_Add_n0, stepcyclic_State_Add_n0, bindO_cond, bindO_assoc, bindO_none, bindO_pure, bindO_elim, bindO_unP, Sum.elim_inl, Sum.elim_inr]
theorem stepcyclic_State_Add_n0_ok (n : Nat) (i : Icyclic_State_Add_n0) (v : Vcyclic_State_Add_n0) (K : Ex → St → Ans) : codeI Try.tab envcyclic_State_Add noHint (codeD Try.tab envcyclic_State_Add noHint 0 64) (n+1) 29 annLcyclic_State_Add_n0 (.loop Lcyclic_State_Add_n0) (weakP 1 (exk [0, 4] [] [(0, [0, 4])]) K) (Scyclic_State_Add_n0 i v) = stepcyclic_State_Add_n0 i v (fun v' => codeI Try.tab envcyclic_State_Add noHint (codeD Try.tab envcyclic_State_Add noHint 0 64) n 29 annLcyclic_State_Add_n0 (.loop Lcyclic_State_Add_n0) (weakP 1 (exk [0, 4] [] [(0, [0, 4])]) K) (Scyclic_State_Add_n0 i v')) (fun y => outcyclic_State_Add_n0 i K y) := by kernel_rfl
theorem GNcyclic_State_Add_n0_ok : CSum Try.prog 29 (.loop Lcyclic_State_Add_n0) (sumL deccyclic_State_Add_n0 stepDcyclic_State_Add_n0 outcyclic_State_Add_n0) := csum_loop mixed tabOk envcyclic_State_AddOk 1 (exk [0, 4] [] [(0, [0, 4])]) annLcyclic_State_Add_n0_ok deccyclic_State_Add_n0_ok stepcyclic_State_Add_n0_ok stepcyclic_State_Add_n0_nat
noncomputable def Gcyclic_State_Add_n0 : (Ex → St → Ans) → St → Ans := (sumL deccyclic_State_Add_n0 stepDcyclic_State_Add_n0 outcyclic_State_Add_n0)
theorem Gcyclic_State_Add_n0_ok : CSum Try.prog 29 (.loop Lcyclic_State_Add_n0) Gcyclic_State_Add_n0 := GNcyclic_State_Add_n0_ok
noncomputable def anncyclic_State_Add : Ann := (.seq .none (.seq .none (.seq (.seq .none (.block (.cut 1 [0, 1, 4, 14, 15] Gcyclic_State_Add_n0))) .none)))
theorem anncyclic_State_Add_ok : AnnOk Try.prog 29 bcyclic_State_Add anncyclic_State_Add := ⟨(annOk_none _ _ _), ⟨(annOk_none _ _ _), ⟨⟨(annOk_none _ _ _), Gcyclic_State_Add_n0_ok⟩, (annOk_none _ _ _)⟩⟩⟩
abbrev Acyclic_State_Add := (List UInt8) × (Int)
abbrev Ycyclic_State_Add := (Int)
def fncyclic_State_Add {β : Type} : Acyclic_State_Add → (Ycyclic_State_Add → Option β) → Option β := fun (a1, o0_0) exit => (bindO (loopD (stepDcyclic_State_Add_n0 (a1, (↑(List.length a1) : Int), o0_0)) FUEL (IntKind.wrap IntKind.u32 (↑(Int.toNat (o0_0 % (4294967296 : Int)) ^^^ (4294967295 : Nat)) : Int), (0 : Int))) fun t4 => (exit (IntKind.wrap IntKind.u32 (↑(Int.toNat (t4 % (4294967296 : Int)) ^^^ (4294967295 : Nat)) : Int))))
def fnDcyclic_State_Add (a : Acyclic_State_Add) : Option Ycyclic_State_Add := fncyclic_State_Add a some
theorem fncyclic_State_Add_nat (a : Acyclic_State_Add) (k : Ycyclic_State_Add → Ans) : fncyclic_State_Add a k = bindO (fnDcyclic_State_Add a) k := by
  obtain ⟨a1, o0_0⟩ := a
  simp only [fnDcyclic_State_Add, fncyclic_State_Add, bindO_cond, bindO_assoc, bindO_none, bindO_pure, bindO_elim, bindO_unP]
def argscyclic_State_Add : Acyclic_State_Add → List AV × List AE.Obj := fun (a1, o0_0) => ([AV.ptr 0 0, AV.str a1], [AE.Obj.cells [AV.int IntKind.u32 o0_0]])
def decAcyclic_State_Add (l : List AV) (H : List AE.Obj) : Option Acyclic_State_Add := match l, H with
  | [AV.ptr 0 0, AV.str a1], [AE.Obj.cells [AV.int IntKind.u32 o0_0]] => some (a1, o0_0)
  | _, _ => none
theorem decAcyclic_State_Add_ok (l : List AV) (H : List AE.Obj) (a : Acyclic_State_Add) (h : decAcyclic_State_Add l H = some a) : (l, H) = argscyclic_State_Add a := by
  unfold decAcyclic_State_Add at h
  split at h
  · cases h; rfl
  · cases h
def outcyclic_State_Add : Acyclic_State_Add → (AV → List AE.Obj → Ans) → Ycyclic_State_Add → Ans := fun (a1, o0_0) K => fun o0_0_y => K (AV.tup []) [AE.Obj.cells [AV.int IntKind.u32 o0_0_y]]
theorem fncyclic_State_Add_ok (a : Acyclic_State_Add) (K : AV → List AE.Obj → Ans) : fnE Try.tab envcyclic_State_Add noHint 0 70 77 Try.f77.ntmps Try.f77.results.toList anncyclic_State_Add bcyclic_State_Add (argscyclic_State_Add a).1 (argscyclic_State_Add a).2 K = fncyclic_State_Add a (outcyclic_State_Add a K) := by kernel_rfl
def vFcyclic_State_Add (a : Acyclic_State_Add) (K : AV → List AE.Obj → Ans) : Ans := bindO (fnDcyclic_State_Add a) fun y => outcyclic_State_Add a K y
def Fcyclic_State_Add : List AV → List AE.Obj → (AV → List AE.Obj → Ans) → Ans := fun l H K => bindO (decAcyclic_State_Add l H) fun a => vFcyclic_State_Add a K
theorem Fcyclic_State_Add_ok : FuncOk Try.prog 77 Fcyclic_State_Add := func_mkD (hint := noHint) (d := 0) (n := 70) mixed tabOk envcyclic_State_AddOk Try.func77 (bodySome (by kernel_rfl)) (by decide +kernel) anncyclic_State_Add_ok decAcyclic_State_Add_ok fncyclic_State_Add_ok fncyclic_State_Add_nat
--@ cyclic_State_Sum
noncomputable def envcyclic_State_Sum : Env := []
theorem envcyclic_State_SumOk : EnvOk Try.prog envcyclic_State_Sum := EnvOk.nil
noncomputable def bcyclic_State_Sum : Code := Try.f78.body.getD .skip
noncomputable def anncyclic_State_Sum : Ann := .none
theorem anncyclic_State_Sum_ok : AnnOk Try.prog 10 bcyclic_State_Sum anncyclic_State_Sum := (annOk_none _ _ _)
abbrev Acyclic_State_Sum := (Int)
abbrev Ycyclic_State_Sum := (Int)
def fncyclic_State_Sum {β : Type} : Acyclic_State_Sum → (Ycyclic_State_Sum → Option β) → Option β := fun o0_0 exit => (exit (IntKind.wrap IntKind.i64 o0_0))
def fnDcyclic_State_Sum (a : Acyclic_State_Sum) : Option Ycyclic_State_Sum := fncyclic_State_Sum a some
theorem fncyclic_State_Sum_nat (a : Acyclic_State_Sum) (k : Ycyclic_State_Sum → Ans) : fncyclic_State_Sum a k = bindO (fnDcyclic_State_Sum a) k := by
  obtain z := a
  simp only [fnDcyclic_State_Sum, fncyclic_State_Sum, bindO_cond, bindO_assoc, bindO_none, bindO_pure, bindO_elim, bindO_unP]
def argscyclic_State_Sum : Acyclic_State_Sum → List AV × List AE.Obj := fun o0_0 => ([AV.ptr 0 0], [AE.Obj.cells [AV.int IntKind.u32 o0_0]])
def decAcyclic_State_Sum (l : List AV) (H : List AE.Obj) : Option Acyclic_State_Sum := match l, H with
  | [AV.ptr 0 0], [AE.Obj.cells [AV.int IntKind.u32 o0_0]] => some (o0_0)
  | _, _ => none
theorem decAcyclic_State_Sum_ok (l : List AV) (H : List AE.Obj) (a : Acyclic_State_Sum) (h : decAcyclic_State_Sum l H = some a) : (l, H) = argscyclic_State_Sum a := by
  unfold decAcyclic_State_Sum at h
  split at h
  · cases h; rfl
  · cases h
def outcyclic_State_Sum : Acyclic_State_Sum → (AV → List AE.Obj → Ans) → Ycyclic_State_Sum → Ans := fun o0_0 K => fun r_y => K (AV.int IntKind.i64 r_y) [AE.Obj.cells [AV.int IntKind.u32 o0_0]]
theorem fncyclic_State_Sum_ok (a : Acyclic_State_Sum) (K : AV → List AE.Obj → Ans) : fnE Try.tab envcyclic_State_Sum noHint 0 70 78 Try.f78.ntmps Try.f78.results.toList anncyclic_State_Sum bcyclic_State_Sum (argscyclic_State_Sum a).1 (argscyclic_State_Sum a).2 K = fncyclic_State_Sum a (outcyclic_State_Sum a K) := by kernel_rfl
def vFcyclic_State_Sum (a : Acyclic_State_Sum) (K : AV → List AE.Obj → Ans) : Ans := bindO (fnDcyclic_State_Sum a) fun y => outcyclic_State_Sum a K y
def Fcyclic_State_Sum : List AV → List AE.Obj → (AV → List AE.Obj → Ans) → Ans := fun l H K => bindO (decAcyclic_State_Sum l H) fun a => vFcyclic_State_Sum a K
theorem Fcyclic_State_Sum_ok : FuncOk Try.prog 78 Fcyclic_State_Sum := func_mkD (hint := noHint) (d := 0) (n := 70) mixed tabOk envcyclic_State_SumOk Try.func78 (bodySome (by kernel_rfl)) (by decide +kernel) anncyclic_State_Sum_ok decAcyclic_State_Sum_ok fncyclic_State_Sum_ok fncyclic_State_Sum_nat
--@ cyclic_Of
noncomputable def envcyclic_Of : Env := [(76, .func Fcyclic_New), (77, .func Fcyclic_State_Add), (78, .func Fcyclic_State_Sum)]
theorem envcyclic_OfOk : EnvOk Try.prog envcyclic_Of := EnvOk.cons Fcyclic_New_ok (EnvOk.cons Fcyclic_State_Add_ok (EnvOk.cons Fcyclic_State_Sum_ok (EnvOk.nil)))
noncomputable def bcyclic_Of : Code := Try.f64.body.getD .skip
noncomputable def anncyclic_Of : Ann := .none
theorem anncyclic_Of_ok : AnnOk Try.prog 10 bcyclic_Of anncyclic_Of := (annOk_none _ _ _)
abbrev Acyclic_Of := (List UInt8)
abbrev Ycyclic_Of := (Int)
def fncyclic_Of {β : Type} : Acyclic_Of → (Ycyclic_Of → Option β) → Option β := fun a0 exit => (bindO (fnDcyclic_New ()) fun _ => (bindO (fnDcyclic_State_Add (a0, (0 : Int))) fun o0_0 => (bindO (fnDcyclic_State_Sum (o0_0)) fun r => (exit (r)))))
def fnDcyclic_Of (a : Acyclic_Of) : Option Ycyclic_Of := fncyclic_Of a some
theorem fncyclic_Of_nat (a : Acyclic_Of) (k : Ycyclic_Of → Ans) : fncyclic_Of a k = bindO (fnDcyclic_Of a) k := by
  obtain z := a
  simp only [fnDcyclic_Of, fncyclic_Of, bindO_cond, bindO_assoc, bindO_none, bindO_pure, bindO_elim, bindO_unP]
def argscyclic_Of : Acyclic_Of → List AV := fun a0 => [AV.str a0]
def decAcyclic_Of (l : List AV) : Option Acyclic_Of := match l with
  | [AV.str a0] => some (a0)
  | _ => none
theorem decAcyclic_Of_ok (l : List AV) (a : Acyclic_Of) (h : decAcyclic_Of l = some a) : l = argscyclic_Of a := by
  unfold decAcyclic_Of at h
  split at h
  · cases h; rfl
  · cases h
def rendcyclic_Of : Acyclic_Of → Ycyclic_Of → AV := fun a0 => fun r_y => AV.int IntKind.i64 r_y
theorem rendcyclic_Of_ok : ∀ (a : Acyclic_Of) (y : Ycyclic_Of), (rendcyclic_Of a y).closed1 = true := by
  rintro z y <;> first | rfl | exact Empty.elim y
theorem fncyclic_Of_ok (a : Acyclic_Of) : fnE Try.tab envcyclic_Of noHint 0 70 64 Try.f64.ntmps Try.f64.results.toList anncyclic_Of bcyclic_Of (argscyclic_Of a) [] (fun v _ => some (v, [])) = fncyclic_Of a (fun y => some (rendcyclic_Of a y, [])) := by kernel_rfl
def vFcyclic_Of (a : Acyclic_Of) (K : AV → Ans) : Ans := bindO (fnDcyclic_Of a) fun y => K (rendcyclic_Of a y)
def Fcyclic_Of : List AV → (AV → Ans) → Ans := fun l K => bindO (decAcyclic_Of l) fun a => vFcyclic_Of a K
theorem Fcyclic_Of_ok : PureOk Try.prog 64 Fcyclic_Of := pure_mkD (hint := noHint) (d := 0) (n := 70) mixed tabOk envcyclic_OfOk Try.func64 (bodySome (by kernel_rfl)) (by decide +kernel) anncyclic_Of_ok decAcyclic_Of_ok fncyclic_Of_ok fncyclic_Of_nat rendcyclic_Of_ok
--@ cyclic_Tail
noncomputable def envcyclic_Tail : Env := [(64, .pure Fcyclic_Of)]
theorem envcyclic_TailOk : EnvOk Try.prog envcyclic_Tail := EnvOk.cons Fcyclic_Of_ok (EnvOk.nil)
noncomputable def bcyclic_Tail : Code := Try.f41.body.getD .skip
noncomputable def Lcyclic_Tail_n1 : Code := codeAt [1, 1, 1, 0, 1, 0, 0] bcyclic_Tail
noncomputable def annLcyclic_Tail_n1 : Ann := .none
theorem annLcyclic_Tail_n1_ok : AnnOk Try.prog 21 Lcyclic_Tail_n1 annLcyclic_Tail_n1 := (annOk_none _ _ _)
abbrev Icyclic_Tail_n1 := (Int) × (Int) × (Int) × (Int) × (Int)
abbrev Ycyclic_Tail_n1 := Unit
def Scyclic_Tail_n1 : Icyclic_Tail_n1 → St := fun (t3, o0_0, o0_1, o0_2, o0_3) => { env := [(3, AV.int IntKind.i64 t3), (4, AV.ptr 0 0), (8, AV.int IntKind.i64 (4))], stk := [[]], H := [AE.Obj.cells [AV.int IntKind.u8 o0_0, AV.int IntKind.u8 o0_1, AV.int IntKind.u8 o0_2, AV.int IntKind.u8 o0_3]], blk := 167936 }
def deccyclic_Tail_n1 (s : St) : Option Icyclic_Tail_n1 := match s with
  | { env := [(3, AV.int IntKind.i64 t3), (4, AV.ptr 0 0), (8, AV.int IntKind.i64 r1)], stk := [[]], H := [AE.Obj.cells [AV.int IntKind.u8 o0_0, AV.int IntKind.u8 o0_1, AV.int IntKind.u8 o0_2, AV.int IntKind.u8 o0_3]], blk := 167936 } => cond (decide (r1 = 4)) (some (t3, o0_0, o0_1, o0_2, o0_3)) none
  | _ => none
theorem deccyclic_Tail_n1_ok (s : St) (x : Icyclic_Tail_n1) (h : deccyclic_Tail_n1 s = some x) : s = Scyclic_Tail_n1 x := by
  unfold deccyclic_Tail_n1 at h
  split at h
  · replace h := cond_noneO h; obtain ⟨hg, h⟩ := h; simp only [Bool.and_eq_true, decide_eq_true_eq] at hg; simp only [hg]; cases h; rfl
  · cases h
def outcyclic_Tail_n1 : Icyclic_Tail_n1 → (Ex → St → Ans) → Ycyclic_Tail_n1 → Ans := fun (t3, o0_0, o0_1, o0_2, o0_3) K => fun _ => K (Ex.exit 0) { env := [(4, AV.ptr 0 0)], stk := [[]], H := [AE.Obj.cells [AV.int IntKind.u8 o0_0, AV.int IntKind.u8 o0_1, AV.int IntKind.u8 o0_2, AV.int IntKind.u8 o0_3]], blk := 167936 }
def nodecyclic_Tail_n1 {β : Type} : Icyclic_Tail_n1 → (Ycyclic_Tail_n1 → Option β) → Option β := fun (t3, o0_0, o0_1, o0_2, o0_3) exit => (exit ())
def nodeDcyclic_Tail_n1 (i : Icyclic_Tail_n1) : Option Ycyclic_Tail_n1 := nodecyclic_Tail_n1 i some
theorem nodecyclic_Tail_n1_nat (i : Icyclic_Tail_n1) (k : Ycyclic_Tail_n1 → Ans) : nodecyclic_Tail_n1 i k = bindO (nodeDcyclic_Tail_n1 i) k := by
  obtain ⟨t3, o0_0, o0_1, o0_2, o0_3⟩ := i
  simp only [nodeDcyclic_Tail_n1, nodecyclic_Tail_n1, bindO_cond, bindO_assoc, bindO_none, bindO_pure, bindO_elim, bindO_unP]
theorem nodecyclic_Tail_n1_ok (i : Icyclic_Tail_n1) (K : Ex → St → Ans) : codeI Try.tab envcyclic_Tail noHint (codeD Try.tab envcyclic_Tail noHint 0 64) 70 21 annLcyclic_Tail_n1 Lcyclic_Tail_n1 (weakP 0 (exk [3, 4, 8] [2] [(0, [4])]) K) (Scyclic_Tail_n1 i) = nodecyclic_Tail_n1 i (outcyclic_Tail_n1 i K) := by kernel_rfl
theorem GNcyclic_Tail_n1_ok : CSum Try.prog 21 Lcyclic_Tail_n1 (sumN deccyclic_Tail_n1 nodeDcyclic_Tail_n1 outcyclic_Tail_n1) := csum_node mixed tabOk envcyclic_TailOk 0 (exk [3, 4, 8] [2] [(0, [4])]) annLcyclic_Tail_n1_ok deccyclic_Tail_n1_ok nodecyclic_Tail_n1_ok nodecyclic_Tail_n1_nat
abbrev Icyclic_Tail_n1v1 := (Int) × (Int) × (Int) × (Int) × (Int)
abbrev Ycyclic_Tail_n1v1 := (Int)
def Scyclic_Tail_n1v1 : Icyclic_Tail_n1v1 → St := fun (t3, o0_0, o0_1, o0_2, o0_3) => { env := [(3, AV.int IntKind.i64 t3), (4, AV.ptr 0 0), (8, AV.int IntKind.i64 (0))], stk := [[]], H := [AE.Obj.cells [AV.int IntKind.u8 o0_0, AV.int IntKind.u8 o0_1, AV.int IntKind.u8 o0_2, AV.int IntKind.u8 o0_3]], blk := 167936 }
def deccyclic_Tail_n1v1 (s : St) : Option Icyclic_Tail_n1v1 := match s with
  | { env := [(3, AV.int IntKind.i64 t3), (4, AV.ptr 0 0), (8, AV.int IntKind.i64 r1)], stk := [[]], H := [AE.Obj.cells [AV.int IntKind.u8 o0_0, AV.int IntKind.u8 o0_1, AV.int IntKind.u8 o0_2, AV.int IntKind.u8 o0_3]], blk := 167936 } => cond (decide (r1 = 0)) (some (t3, o0_0, o0_1, o0_2, o0_3)) none
  | _ => none
theorem deccyclic_Tail_n1v1_ok (s : St) (x : Icyclic_Tail_n1v1) (h : deccyclic_Tail_n1v1 s = some x) : s = Scyclic_Tail_n1v1 x := by
  unfold deccyclic_Tail_n1v1 at h
  split at h
  · replace h := cond_noneO h; obtain ⟨hg, h⟩ := h; simp only [Bool.and_eq_true, decide_eq_true_eq] at hg; simp only [hg]; cases h; rfl
  · cases h
def outcyclic_Tail_n1v1 : Icyclic_Tail_n1v1 → (Ex → St → Ans) → Ycyclic_Tail_n1v1 → Ans := fun (t3, o0_0, o0_1, o0_2, o0_3) K => fun o0_0_y => K (Ex.norm) { env := [(3, AV.int IntKind.i64 t3), (4, AV.ptr 0 0), (8, AV.int IntKind.i64 (1))], stk := [[]], H := [AE.Obj.cells [AV.int IntKind.u8 o0_0_y, AV.int IntKind.u8 o0_1, AV.int IntKind.u8 o0_2, AV.int IntKind.u8 o0_3]], blk := 167937 }
def nodecyclic_Tail_n1v1 {β : Type} : Icyclic_Tail_n1v1 → (Ycyclic_Tail_n1v1 → Option β) → Option β := fun (t3, o0_0, o0_1, o0_2, o0_3) exit => (exit (IntKind.wrap IntKind.u8 (Int.fdiv t3 (1 : Int))))
def nodeDcyclic_Tail_n1v1 (i : Icyclic_Tail_n1v1) : Option Ycyclic_Tail_n1v1 := nodecyclic_Tail_n1v1 i some
theorem nodecyclic_Tail_n1v1_nat (i : Icyclic_Tail_n1v1) (k : Ycyclic_Tail_n1v1 → Ans) : nodecyclic_Tail_n1v1 i k = bindO (nodeDcyclic_Tail_n1v1 i) k := by
  obtain ⟨t3, o0_0, o0_1, o0_2, o0_3⟩ := i
  simp only [nodeDcyclic_Tail_n1v1, nodecyclic_Tail_n1v1, bindO_cond, bindO_assoc, bindO_none, bindO_pure, bindO_elim, bindO_unP]
theorem nodecyclic_Tail_n1v1_ok (i : Icyclic_Tail_n1v1) (K : Ex → St → Ans) : codeI Try.tab envcyclic_Tail noHint (codeD Try.tab envcyclic_Tail noHint 0 64) 70 21 annLcyclic_Tail_n1 Lcyclic_Tail_n1 (weakP 0 (exk [3, 4, 8] [2] [(0, [4])]) K) (Scyclic_Tail_n1v1 i) = nodecyclic_Tail_n1v1 i (outcyclic_Tail_n1v1 i K) := by kernel_rfl
theorem GNcyclic_Tail_n1v1_ok : CSum Try.prog 21 Lcyclic_Tail_n1 (sumN deccyclic_Tail_n1v1 nodeDcyclic_Tail_n1v1 outcyclic_Tail_n1v1) := csum_node mixed tabOk envcyclic_TailOk 0 (exk [3, 4, 8] [2] [(0, [4])]) annLcyclic_Tail_n1_ok deccyclic_Tail_n1v1_ok nodecyclic_Tail_n1v1_ok nodecyclic_Tail_n1v1_nat
abbrev Icyclic_Tail_n1v2 := (Int) × (Int) × (Int) × (Int) × (Int)
abbrev Ycyclic_Tail_n1v2 := (Int)
def Scyclic_Tail_n1v2 : Icyclic_Tail_n1v2 → St := fun (t3, o0_0, o0_1, o0_2, o0_3) => { env := [(3, AV.int IntKind.i64 t3), (4, AV.ptr 0 0), (8, AV.int IntKind.i64 (1))], stk := [[]], H := [AE.Obj.cells [AV.int IntKind.u8 o0_0, AV.int IntKind.u8 o0_1, AV.int IntKind.u8 o0_2, AV.int IntKind.u8 o0_3]], blk := 167936 }
def deccyclic_Tail_n1v2 (s : St) : Option Icyclic_Tail_n1v2 := match s with
  | { env := [(3, AV.int IntKind.i64 t3), (4, AV.ptr 0 0), (8, AV.int IntKind.i64 r1)], stk := [[]], H := [AE.Obj.cells [AV.int IntKind.u8 o0_0, AV.int IntKind.u8 o0_1, AV.int IntKind.u8 o0_2, AV.int IntKind.u8 o0_3]], blk := 167936 } => cond (decide (r1 = 1)) (some (t3, o0_0, o0_1, o0_2, o0_3)) none
  | _ => none
theorem deccyclic_Tail_n1v2_ok (s : St) (x : Icyclic_Tail_n1v2) (h : deccyclic_Tail_n1v2 s = some x) : s = Scyclic_Tail_n1v2 x := by
  unfold deccyclic_Tail_n1v2 at h
  split at h
  · replace h := cond_noneO h; obtain ⟨hg, h⟩ := h; simp only [Bool.and_eq_true, decide_eq_true_eq] at hg; simp only [hg]; cases h; rfl
  · cases h
def outcyclic_Tail_n1v2 : Icyclic_Tail_n1v2 → (Ex → St → Ans) → Ycyclic_Tail_n1v2 → Ans := fun (t3, o0_0, o0_1, o0_2, o0_3) K => fun o0_1_y => K (Ex.norm) { env := [(3, AV.int IntKind.i64 t3), (4, AV.ptr 0 0), (8, AV.int IntKind.i64 (2))], stk := [[]], H := [AE.Obj.cells [AV.int IntKind.u8 o0_0, AV.int IntKind.u8 o0_1_y, AV.int IntKind.u8 o0_2, AV.int IntKind.u8 o0_3]], blk := 167937 }
def nodecyclic_Tail_n1v2 {β : Type} : Icyclic_Tail_n1v2 → (Ycyclic_Tail_n1v2 → Option β) → Option β := fun (t3, o0_0, o0_1, o0_2, o0_3) exit => (exit (IntKind.wrap IntKind.u8 (Int.fdiv t3 (256 : Int))))
def nodeDcyclic_Tail_n1v2 (i : Icyclic_Tail_n1v2) : Option Ycyclic_Tail_n1v2 := nodecyclic_Tail_n1v2 i some
theorem nodecyclic_Tail_n1v2_nat (i : Icyclic_Tail_n1v2) (k : Ycyclic_Tail_n1v2 → Ans) : nodecyclic_Tail_n1v2 i k = bindO (nodeDcyclic_Tail_n1v2 i) k := by
  obtain ⟨t3, o0_0, o0_1, o0_2, o0_3⟩ := i
  simp only [nodeDcyclic_Tail_n1v2, nodecyclic_Tail_n1v2, bindO_cond, bindO_assoc, bindO_none, bindO_pure, bindO_elim, bindO_unP]
theorem nodecyclic_Tail_n1v2_ok (i : Icyclic_Tail_n1v2) (K : Ex → St → Ans) : codeI Try.tab envcyclic_Tail noHint (codeD Try.tab envcyclic_Tail noHint 0 64) 70 21 annLcyclic_Tail_n1 Lcyclic_Tail_n1 (weakP 0 (exk [3, 4, 8] [2] [(0, [4])]) K) (Scyclic_Tail_n1v2 i) = nodecyclic_Tail_n1v2 i (outcyclic_Tail_n1v2 i K) := by kernel_rfl
theorem GNcyclic_Tail_n1v2_ok : CSum Try.prog 21 Lcyclic_Tail_n1 (sumN deccyclic_Tail_n1v2 nodeDcyclic_Tail_n1v2 outcyclic_Tail_n1v2) := csum_node mixed tabOk envcyclic_TailOk 0 (exk [3, 4, 8] [2] [(0, [4])]) annLcyclic_Tail_n1_ok deccyclic_Tail_n1v2_ok nodecyclic_Tail_n1v2_ok nodecyclic_Tail_n1v2_nat
abbrev Icyclic_Tail_n1v3 := (Int) × (Int) × (Int) × (Int) × (Int)
abbrev Ycyclic_Tail_n1v3 := (Int)
def Scyclic_Tail_n1v3 : Icyclic_Tail_n1v3 → St := fun (t3, o0_0, o0_1, o0_2, o0_3) => { env := [(3, AV.int IntKind.i64 t3), (4, AV.ptr 0 0), (8, AV.int IntKind.i64 (2))], stk := [[]], H := [AE.Obj.cells [AV.int IntKind.u8 o0_0, AV.int IntKind.u8 o0_1, AV.int IntKind.u8 o0_2, AV.int IntKind.u8 o0_3]], blk := 167936 }
def deccyclic_Tail_n1v3 (s : St) : Option Icyclic_Tail_n1v3 := match s with
  | { env := [(3, AV.int IntKind.i64 t3), (4, AV.ptr 0 0), (8, AV.int IntKind.i64 r1)], stk := [[]], H := [AE.Obj.cells [AV.int IntKind.u8 o0_0, AV.int IntKind.u8 o0_1, AV.int IntKind.u8 o0_2, AV.int IntKind.u8 o0_3]], blk := 167936 } => cond (decide (r1 = 2)) (some (t3, o0_0, o0_1, o0_2, o0_3)) none
  | _ => none
theorem deccyclic_Tail_n1v3_ok (s : St) (x : Icyclic_Tail_n1v3) (h : deccyclic_Tail_n1v3 s = some x) : s = Scyclic_Tail_n1v3 x := by
  unfold deccyclic_Tail_n1v3 at h
  split at h
  · replace h := cond_noneO h; obtain ⟨hg, h⟩ := h; simp only [Bool.and_eq_true, decide_eq_true_eq] at hg; simp only [hg]; cases h; rfl
  · cases h
def outcyclic_Tail_n1v3 : Icyclic_Tail_n1v3 → (Ex → St → Ans) → Ycyclic_Tail_n1v3 → Ans := fun (t3, o0_0, o0_1, o0_2, o0_3) K => fun o0_2_y => K (Ex.norm) { env := [(3, AV.int IntKind.i64 t3), (4, AV.ptr 0 0), (8, AV.int IntKind.i64 (3))], stk := [[]], H := [AE.Obj.cells [AV.int IntKind.u8 o0_0, AV.int IntKind.u8 o0_1, AV.int IntKind.u8 o0_2_y, AV.int IntKind.u8 o0_3]], blk := 167937 }
def nodecyclic_Tail_n1v3 {β : Type} : Icyclic_Tail_n1v3 → (Ycyclic_Tail_n1v3 → Option β) → Option β := fun (t3, o0_0, o0_1, o0_2, o0_3) exit => (exit (IntKind.wrap IntKind.u8 (Int.fdiv t3 (65536 : Int))))
def nodeDcyclic_Tail_n1v3 (i : Icyclic_Tail_n1v3) : Option Ycyclic_Tail_n1v3 := nodecyclic_Tail_n1v3 i some
theorem nodecyclic_Tail_n1v3_nat (i : Icyclic_Tail_n1v3) (k : Ycyclic_Tail_n1v3 → Ans) : nodecyclic_Tail_n1v3 i k = bindO (nodeDcyclic_Tail_n1v3 i) k := by
  obtain ⟨t3, o0_0, o0_1, o0_2, o0_3⟩ := i
  simp only [nodeDcyclic_Tail_n1v3, nodecyclic_Tail_n1v3, bindO_cond, bindO_assoc, bindO_none, bindO_pure, bindO_elim, bindO_unP]
theorem nodecyclic_Tail_n1v3_ok (i : Icyclic_Tail_n1v3) (K : Ex → St → Ans) : codeI Try.tab envcyclic_Tail noHint (codeD Try.tab envcyclic_Tail noHint 0 64) 70 21 annLcyclic_Tail_n1 Lcyclic_Tail_n1 (weakP 0 (exk [3, 4, 8] [2] [(0, [4])]) K) (Scyclic_Tail_n1v3 i) = nodecyclic_Tail_n1v3 i (outcyclic_Tail_n1v3 i K) := by kernel_rfl
theorem GNcyclic_Tail_n1v3_ok : CSum Try.prog 21 Lcyclic_Tail_n1 (sumN deccyclic_Tail_n1v3 nodeDcyclic_Tail_n1v3 outcyclic_Tail_n1v3) := csum_node mixed tabOk envcyclic_TailOk 0 (exk [3, 4, 8] [2] [(0, [4])]) annLcyclic_Tail_n1_ok deccyclic_Tail_n1v3_ok nodecyclic_Tail_n1v3_ok nodecyclic_Tail_n1v3_nat
abbrev Icyclic_Tail_n1v4 := (Int) × (Int) × (Int) × (Int) × (Int)
abbrev Ycyclic_Tail_n1v4 := (Int)
def Scyclic_Tail_n1v4 : Icyclic_Tail_n1v4 → St := fun (t3, o0_0, o0_1, o0_2, o0_3) => { env := [(3, AV.int IntKind.i64 t3), (4, AV.ptr 0 0), (8, AV.int IntKind.i64 (3))], stk := [[]], H := [AE.Obj.cells [AV.int IntKind.u8 o0_0, AV.int IntKind.u8 o0_1, AV.int IntKind.u8 o0_2, AV.int IntKind.u8 o0_3]], blk := 167936 }
def deccyclic_Tail_n1v4 (s : St) : Option Icyclic_Tail_n1v4 := match s with
  | { env := [(3, AV.int IntKind.i64 t3), (4, AV.ptr 0 0), (8, AV.int IntKind.i64 r1)], stk := [[]], H := [AE.Obj.cells [AV.int IntKind.u8 o0_0, AV.int IntKind.u8 o0_1, AV.int IntKind.u8 o0_2, AV.int IntKind.u8 o0_3]], blk := 167936 } => cond (decide (r1 = 3)) (some (t3, o0_0, o0_1, o0_2, o0_3)) none
  | _ => none
theorem deccyclic_Tail_n1v4_ok (s : St) (x : Icyclic_Tail_n1v4) (h : deccyclic_Tail_n1v4 s = some x) : s = Scyclic_Tail_n1v4 x := by
  unfold deccyclic_Tail_n1v4 at h
  split at h
  · replace h := cond_noneO h; obtain ⟨hg, h⟩ := h; simp only [Bool.and_eq_true, decide_eq_true_eq] at hg; simp only [hg]; cases h; rfl
  · cases h
def outcyclic_Tail_n1v4 : Icyclic_Tail_n1v4 → (Ex → St → Ans) → Ycyclic_Tail_n1v4 → Ans := fun (t3, o0_0, o0_1, o0_2, o0_3) K => fun o0_3_y => K (Ex.norm) { env := [(3, AV.int IntKind.i64 t3), (4, AV.ptr 0 0), (8, AV.int IntKind.i64 (4))], stk := [[]], H := [AE.Obj.cells [AV.int IntKind.u8 o0_0, AV.int IntKind.u8 o0_1, AV.int IntKind.u8 o0_2, AV.int IntKind.u8 o0_3_y]], blk := 167937 }
def nodecyclic_Tail_n1v4 {β : Type} : Icyclic_Tail_n1v4 → (Ycyclic_Tail_n1v4 → Option β) → Option β := fun (t3, o0_0, o0_1, o0_2, o0_3) exit => (exit (IntKind.wrap IntKind.u8 (Int.fdiv t3 (16777216 : Int))))
def nodeDcyclic_Tail_n1v4 (i : Icyclic_Tail_n1v4) : Option Ycyclic_Tail_n1v4 := nodecyclic_Tail_n1v4 i some
theorem nodecyclic_Tail_n1v4_nat (i : Icyclic_Tail_n1v4) (k : Ycyclic_Tail_n1v4 → Ans) : nodecyclic_Tail_n1v4 i k = bindO (nodeDcyclic_Tail_n1v4 i) k := by
  obtain ⟨t3, o0_0, o0_1, o0_2, o0_3⟩ := i
  simp only [nodeDcyclic_Tail_n1v4, nodecyclic_Tail_n1v4, bindO_cond, bindO_assoc, bindO_none, bindO_pure, bindO_elim, bindO_unP]
theorem nodecyclic_Tail_n1v4_ok (i : Icyclic_Tail_n1v4) (K : Ex → St → Ans) : codeI Try.tab envcyclic_Tail noHint (codeD Try.tab envcyclic_Tail noHint 0 64) 70 21 annLcyclic_Tail_n1 Lcyclic_Tail_n1 (weakP 0 (exk [3, 4, 8] [2] [(0, [4])]) K) (Scyclic_Tail_n1v4 i) = nodecyclic_Tail_n1v4 i (outcyclic_Tail_n1v4 i K) := by kernel_rfl
theorem GNcyclic_Tail_n1v4_ok : CSum Try.prog 21 Lcyclic_Tail_n1 (sumN deccyclic_Tail_n1v4 nodeDcyclic_Tail_n1v4 outcyclic_Tail_n1v4) := csum_node mixed tabOk envcyclic_TailOk 0 (exk [3, 4, 8] [2] [(0, [4])]) annLcyclic_Tail_n1_ok deccyclic_Tail_n1v4_ok nodecyclic_Tail_n1v4_ok nodecyclic_Tail_n1v4_nat
noncomputable def Gcyclic_Tail_n1 : (Ex → St → Ans) → St → Ans := (altN deccyclic_Tail_n1 (sumN deccyclic_Tail_n1 nodeDcyclic_Tail_n1 outcyclic_Tail_n1) (altN deccyclic_Tail_n1v1 (sumN deccyclic_Tail_n1v1 nodeDcyclic_Tail_n1v1 outcyclic_Tail_n1v1) (altN deccyclic_Tail_n1v2 (sumN deccyclic_Tail_n1v2 nodeDcyclic_Tail_n1v2 outcyclic_Tail_n1v2) (altN deccyclic_Tail_n1v3 (sumN deccyclic_Tail_n1v3 nodeDcyclic_Tail_n1v3 outcyclic_Tail_n1v3) (sumN deccyclic_Tail_n1v4 nodeDcyclic_Tail_n1v4 outcyclic_Tail_n1v4)))))
theorem Gcyclic_Tail_n1_ok : CSum Try.prog 21 Lcyclic_Tail_n1 Gcyclic_Tail_n1 := (csum_altN GNcyclic_Tail_n1_ok (csum_altN GNcyclic_Tail_n1v1_ok (csum_altN GNcyclic_Tail_n1v2_ok (csum_altN GNcyclic_Tail_n1v3_ok GNcyclic_Tail_n1v4_ok))))
noncomputable def Lcyclic_Tail_n0 : Code := codeAt [1, 1, 1, 0, 1] bcyclic_Tail
noncomputable def annLcyclic_Tail_n0 : Ann := (.block (.at 0 [3, 4, 8] (.loop (.cut 0 [3, 4, 8] Gcyclic_Tail_n1))))
theorem annLcyclic_Tail_n0_ok : AnnOk Try.prog 21 Lcyclic_Tail_n0 annLcyclic_Tail_n0 := (annOk_at Gcyclic_Tail_n1_ok)
abbrev Icyclic_Tail_n0 := (Int)
abbrev Ycyclic_Tail_n0 := (Int) × (Int) × (Int) × (Int)
def Scyclic_Tail_n0 : Icyclic_Tail_n0 → St := fun t3 => { env := [(3, AV.int IntKind.i64 t3), (4, AV.ptr 0 0), (8, AV.int IntKind.i64 (0))], stk := [[]], H := [AE.Obj.cells [AV.int IntKind.u8 (0), AV.int IntKind.u8 (0), AV.int IntKind.u8 (0), AV.int IntKind.u8 (0)]], blk := 167936 }
def deccyclic_Tail_n0 (s : St) : Option Icyclic_Tail_n0 := match s with
  | { env := [(3, AV.int IntKind.i64 t3), (4, AV.ptr 0 0), (8, AV.int IntKind.i64 r1)], stk := [[]], H := [AE.Obj.cells [AV.int IntKind.u8 r2, AV.int IntKind.u8 r3, AV.int IntKind.u8 r4, AV.int IntKind.u8 r5]], blk := 167936 } => cond (decide (r1 = 0) && decide (r2 = 0) && decide (r3 = 0) && decide (r4 = 0) && decide (r5 = 0)) (some (t3)) none
  | _ => none
theorem deccyclic_Tail_n0_ok (s : St) (x : Icyclic_Tail_n0) (h : deccyclic_Tail_n0 s = some x) : s = Scyclic_Tail_n0 x := by
  unfold deccyclic_Tail_n0 at h
  split at h
  · replace h := cond_noneO h; obtain ⟨hg, h⟩ := h; simp only [Bool.and_eq_true, decide_eq_true_eq] at hg; simp only [hg]; cases h; rfl
  · cases h
def outcyclic_Tail_n0 : Icyclic_Tail_n0 → (Ex → St → Ans) → Ycyclic_Tail_n0 → Ans := fun t3 K => unP fun o0_0_y => unP fun o0_1_y => unP fun o0_2_y o0_3_y => K (Ex.norm) { env := [(4, AV.ptr 0 0)], stk := [[]], H := [AE.Obj.cells [AV.int IntKind.u8 o0_0_y, AV.int IntKind.u8 o0_1_y, AV.int IntKind.u8 o0_2_y, AV.int IntKind.u8 o0_3_y]], blk := 167936 }
def nodecyclic_Tail_n0 {β : Type} : Icyclic_Tail_n0 → (Ycyclic_Tail_n0 → Option β) → Option β := fun t3 exit => (bindO (nodeDcyclic_Tail_n1v1 (t3, (0 : Int), (0 : Int), (0 : Int), (0 : Int))) fun o0_0 => (bindO (nodeDcyclic_Tail_n1v2 (t3, o0_0, (0 : Int), (0 : Int), (0 : Int))) fun o0_1 => (bindO (nodeDcyclic_Tail_n1v3 (t3, o0_0, o0_1, (0 : Int), (0 : Int))) fun o0_2 => (bindO (nodeDcyclic_Tail_n1v4 (t3, o0_0, o0_1, o0_2, (0 : Int))) fun o0_3 => (bindO (nodeDcyclic_Tail_n1 (t3, o0_0, o0_1, o0_2, o0_3)) fun _ => (exit (o0_0, o0_1, o0_2, o0_3)))))))
def nodeDcyclic_Tail_n0 (i : Icyclic_Tail_n0) : Option Ycyclic_Tail_n0 := nodecyclic_Tail_n0 i some
theorem nodecyclic_Tail_n0_nat (i : Icyclic_Tail_n0) (k : Ycyclic_Tail_n0 → Ans) : nodecyclic_Tail_n0 i k = bindO (nodeDcyclic_Tail_n0 i) k := by
  obtain z := i
  simp only [nodeDcyclic_Tail_n0, nodecyclic_Tail_n0, bindO_cond, bindO_assoc, bindO_none, bindO_pure, bindO_elim, bindO_unP]
theorem nodecyclic_Tail_n0_ok (i : Icyclic_Tail_n0) (K : Ex → St → Ans) : codeI Try.tab envcyclic_Tail noHint (codeD Try.tab envcyclic_Tail noHint 0 64) 70 21 annLcyclic_Tail_n0 Lcyclic_Tail_n0 (weakP 0 (exk [4] [2] []) K) (Scyclic_Tail_n0 i) = nodecyclic_Tail_n0 i (outcyclic_Tail_n0 i K) := by kernel_rfl
theorem GNcyclic_Tail_n0_ok : CSum Try.prog 21 Lcyclic_Tail_n0 (sumN deccyclic_Tail_n0 nodeDcyclic_Tail_n0 outcyclic_Tail_n0) := csum_node mixed tabOk envcyclic_TailOk 0 (exk [4] [2] []) annLcyclic_Tail_n0_ok deccyclic_Tail_n0_ok nodecyclic_Tail_n0_ok nodecyclic_Tail_n0_nat
noncomputable def Gcyclic_Tail_n0 : (Ex → St → Ans) → St → Ans := (sumN deccyclic_Tail_n0 nodeDcyclic_Tail_n0 outcyclic_Tail_n0)
theorem Gcyclic_Tail_n0_ok : CSum Try.prog 21 Lcyclic_Tail_n0 Gcyclic_Tail_n0 := GNcyclic_Tail_n0_ok
noncomputable def anncyclic_Tail : Ann := (.seq .none (.seq .none (.seq .none (.seq (.seq .none (.cut 0 [3, 4, 8] Gcyclic_Tail_n0)) .none))))
theorem anncyclic_Tail_ok : AnnOk Try.prog 21 bcyclic_Tail anncyclic_Tail := ⟨(annOk_none _ _ _), ⟨(annOk_none _ _ _), ⟨(annOk_none _ _ _), ⟨⟨(annOk_none _ _ _), Gcyclic_Tail_n0_ok⟩, (annOk_none _ _ _)⟩⟩⟩⟩
abbrev Acyclic_Tail := (List UInt8)
abbrev Ycyclic_Tail := (List UInt8)
def fncyclic_Tail {β : Type} : Acyclic_Tail → (Ycyclic_Tail → Option β) → Option β := fun a0 exit => (bindO (fnDcyclic_Of (a0)) fun r => (bindO (nodeDcyclic_Tail_n0 (r)) (unP fun o0_0 => unP fun o0_1 => unP fun o0_2 o0_3 => (exit (bytesOf [o0_0, o0_1, o0_2, o0_3])))))
def fnDcyclic_Tail (a : Acyclic_Tail) : Option Ycyclic_Tail := fncyclic_Tail a some
theorem fncyclic_Tail_nat (a : Acyclic_Tail) (k : Ycyclic_Tail → Ans) : fncyclic_Tail a k = bindO (fnDcyclic_Tail a) k := by
  obtain z := a
  simp only [fnDcyclic_Tail, fncyclic_Tail, bindO_cond, bindO_assoc, bindO_none, bindO_pure, bindO_elim, bindO_unP]
def argscyclic_Tail : Acyclic_Tail → List AV := fun a0 => [AV.str a0]
def decAcyclic_Tail (l : List AV) : Option Acyclic_Tail := match l with
  | [AV.str a0] => some (a0)
  | _ => none
theorem decAcyclic_Tail_ok (l : List AV) (a : Acyclic_Tail) (h : decAcyclic_Tail l = some a) : l = argscyclic_Tail a := by
  unfold decAcyclic_Tail at h
  split at h
  · cases h; rfl
  · cases h
def rendcyclic_Tail : Acyclic_Tail → Ycyclic_Tail → AV := fun a0 => fun r_y => AV.str r_y
theorem rendcyclic_Tail_ok : ∀ (a : Acyclic_Tail) (y : Ycyclic_Tail), (rendcyclic_Tail a y).closed1 = true := by
  rintro z y <;> first | rfl | exact Empty.elim y
theorem fncyclic_Tail_ok (a : Acyclic_Tail) : fnE Try.tab envcyclic_Tail noHint 0 70 41 Try.f41.ntmps Try.f41.results.toList anncyclic_Tail bcyclic_Tail (argscyclic_Tail a) [] (fun v _ => some (v, [])) = fncyclic_Tail a (fun y => some (rendcyclic_Tail a y, [])) := by kernel_rfl
def vFcyclic_Tail (a : Acyclic_Tail) (K : AV → Ans) : Ans := bindO (fnDcyclic_Tail a) fun y => K (rendcyclic_Tail a y)
def Fcyclic_Tail : List AV → (AV → Ans) → Ans := fun l K => bindO (decAcyclic_Tail l) fun a => vFcyclic_Tail a K
theorem Fcyclic_Tail_ok : PureOk Try.prog 41 Fcyclic_Tail := pure_mkD (hint := noHint) (d := 0) (n := 70) mixed tabOk envcyclic_TailOk Try.func41 (bodySome (by kernel_rfl)) (by decide +kernel) anncyclic_Tail_ok decAcyclic_Tail_ok fncyclic_Tail_ok fncyclic_Tail_nat rendcyclic_Tail_ok
--@ region_Pad
noncomputable def envregion_Pad : Env := [(63, .pure Fstrings_Repeat)]
theorem envregion_PadOk : EnvOk Try.prog envregion_Pad := EnvOk.cons Fstrings_Repeat_ok (EnvOk.nil)
noncomputable def bregion_Pad : Code := Try.f40.body.getD .skip
noncomputable def annregion_Pad : Ann := .none
theorem annregion_Pad_ok : AnnOk Try.prog 15 bregion_Pad annregion_Pad := (annOk_none _ _ _)
abbrev Aregion_Pad := (List UInt8)
abbrev Yregion_Pad := (List UInt8)
def fnregion_Pad {β : Type} : Aregion_Pad → (Yregion_Pad → Option β) → Option β := fun a0 exit => (bif decide (Int.tmod (↑(List.length a0) : Int) (64 : Int) > (0 : Int)) then (bindO (fnDstrings_Repeat ([(0 : UInt8)], IntKind.wrap IntKind.i64 ((64 : Int) - Int.tmod (↑(List.length a0) : Int) (64 : Int)))) fun r => (bif Nat.ble (List.length a0 + List.length r) (9223372036854775807 : Nat) then (exit (a0 ++ r)) else none)) else (exit (a0)))
def fnDregion_Pad (a : Aregion_Pad) : Option Yregion_Pad := fnregion_Pad a some
theorem fnregion_Pad_nat (a : Aregion_Pad) (k : Yregion_Pad → Ans) : fnregion_Pad a k = bindO (fnDregion_Pad a) k := by
  obtain z := a
  simp only [fnDregion_Pad, fnregion_Pad, bindO_cond, bindO_assoc, bindO_none, bindO_pure, bindO_elim, bindO_unP]
def argsregion_Pad : Aregion_Pad → List AV := fun a0 => [AV.str a0]
def decAregion_Pad (l : List AV) : Option Aregion_Pad := match l with
  | [AV.str a0] => some (a0)
  | _ => none
theorem decAregion_Pad_ok (l : List AV) (a : Aregion_Pad) (h : decAregion_Pad l = some a) : l = argsregion_Pad a := by
  unfold decAregion_Pad at h
  split at h
  · cases h; rfl
  · cases h
def rendregion_Pad : Aregion_Pad → Yregion_Pad → AV := fun a0 => fun r_y => AV.str r_y
theorem rendregion_Pad_ok : ∀ (a : Aregion_Pad) (y : Yregion_Pad), (rendregion_Pad a y).closed1 = true := by
  rintro z y <;> first | rfl | exact Empty.elim y
theorem fnregion_Pad_ok (a : Aregion_Pad) : fnE Try.tab envregion_Pad noHint 0 70 40 Try.f40.ntmps Try.f40.results.toList annregion_Pad bregion_Pad (argsregion_Pad a) [] (fun v _ => some (v, [])) = fnregion_Pad a (fun y => some (rendregion_Pad a y, [])) := by kernel_rfl
def vFregion_Pad (a : Aregion_Pad) (K : AV → Ans) : Ans := bindO (fnDregion_Pad a) fun y => K (rendregion_Pad a y)
def Fregion_Pad : List AV → (AV → Ans) → Ans := fun l K => bindO (decAregion_Pad l) fun a => vFregion_Pad a K
theorem Fregion_Pad_ok : PureOk Try.prog 40 Fregion_Pad := pure_mkD (hint := noHint) (d := 0) (n := 70) mixed tabOk envregion_PadOk Try.func40 (bodySome (by kernel_rfl)) (by decide +kernel) annregion_Pad_ok decAregion_Pad_ok fnregion_Pad_ok fnregion_Pad_nat rendregion_Pad_ok
--@ entry_Put
noncomputable def enventry_Put : Env := [(15, .pure Fentry_Check), (38, .pure Ffield_Put), (39, .pure Fvector_Put), (41, .pure Fcyclic_Tail), (40, .pure Fregion_Pad)]
theorem enventry_PutOk : EnvOk Try.prog enventry_Put := EnvOk.cons Fentry_Check_ok (EnvOk.cons Ffield_Put_ok (EnvOk.cons Fvector_Put_ok (EnvOk.cons Fcyclic_Tail_ok (EnvOk.cons Fregion_Pad_ok (EnvOk.nil)))))
noncomputable def bentry_Put : Code := Try.f13.body.getD .skip
noncomputable def Lentry_Put_n1 : Code := codeAt [1, 1, 0, 1, 0, 0] bentry_Put
noncomputable def annLentry_Put_n1 : Ann := .none
theorem annLentry_Put_n1_ok : AnnOk Try.prog 31 Lentry_Put_n1 annLentry_Put_n1 := (annOk_none _ _ _)
abbrev Ientry_Put_n1 := (List UInt8) × (Int) × (Int) × (Int) × (Int) × (Int) × (Int)
abbrev Yentry_Put_n1 := ((Int)) ⊕ ((List UInt8))
def Sentry_Put_n1 : Ientry_Put_n1 → St := fun (t4, t8_0, t8_1, t8_2, t8_3, t8_4, t8_5) => { env := [(4, AV.str t4), (8, AV.agg [AV.int IntKind.i64 t8_0, AV.int IntKind.i64 t8_1, AV.int IntKind.i64 t8_2, AV.int IntKind.i64 t8_3, AV.int IntKind.i64 t8_4, AV.int IntKind.i64 t8_5]), (9, AV.int IntKind.i64 (1))], stk := [[]], H := [], blk := 53248 }
def decentry_Put_n1 (s : St) : Option Ientry_Put_n1 := match s with
  | { env := [(4, AV.str t4), (8, AV.agg [AV.int IntKind.i64 t8_0, AV.int IntKind.i64 t8_1, AV.int IntKind.i64 t8_2, AV.int IntKind.i64 t8_3, AV.int IntKind.i64 t8_4, AV.int IntKind.i64 t8_5]), (9, AV.int IntKind.i64 r7)], stk := [[]], H := [], blk := 53248 } => cond (decide (r7 = 1)) (some (t4, t8_0, t8_1, t8_2, t8_3, t8_4, t8_5)) none
  | _ => none
theorem decentry_Put_n1_ok (s : St) (x : Ientry_Put_n1) (h : decentry_Put_n1 s = some x) : s = Sentry_Put_n1 x := by
  unfold decentry_Put_n1 at h
  split at h
  · replace h := cond_noneO h; obtain ⟨hg, h⟩ := h; simp only [Bool.and_eq_true, decide_eq_true_eq] at hg; simp only [hg]; cases h; rfl
  · cases h
def outentry_Put_n1 : Ientry_Put_n1 → (Ex → St → Ans) → Yentry_Put_n1 → Ans := fun (t4, t8_0, t8_1, t8_2, t8_3, t8_4, t8_5) K => (Sum.elim (fun t3_y => K (Ex.ret) { env := [(2, AV.str ([])), (3, AV.int IntKind.i64 t3_y)], stk := [[]], H := [], blk := 53249 }) (fun t4_y => K (Ex.norm) { env := [(4, AV.str t4_y), (8, AV.agg [AV.int IntKind.i64 t8_0, AV.int IntKind.i64 t8_1, AV.int IntKind.i64 t8_2, AV.int IntKind.i64 t8_3, AV.int IntKind.i64 t8_4, AV.int IntKind.i64 t8_5]), (9, AV.int IntKind.i64 (2))], stk := [[]], H := [], blk := 53249 }))
def nodeentry_Put_n1 {β : Type} : Ientry_Put_n1 → (Yentry_Put_n1 → Option β) → Option β := fun (t4, t8_0, t8_1, t8_2, t8_3, t8_4, t8_5) exit => (bindO (fnDentry_Check (t8_3, t8_4, t8_5)) fun r => (bif r != (0 : Int) then (exit (Sum.inl (r))) else (bindO (fnDvector_Put (t4, t8_3, t8_4)) fun r_2 => (bindO (fnDfield_Put (r_2, IntKind.wrap IntKind.i64 (t8_5 + (1 : Int)), (1 : Int))) fun r_3 => (exit (Sum.inr (r_3)))))))
def nodeDentry_Put_n1 (i : Ientry_Put_n1) : Option Yentry_Put_n1 := nodeentry_Put_n1 i some
theorem nodeentry_Put_n1_nat (i : Ientry_Put_n1) (k : Yentry_Put_n1 → Ans) : nodeentry_Put_n1 i k = bindO (nodeDentry_Put_n1 i) k := by
  obtain ⟨t4, t8_0, t8_1, t8_2, t8_3, t8_4, t8_5⟩ := i
  simp only [nodeDentry_Put_n1, nodeentry_Put_n1, bindO_cond, bindO_assoc, bindO_none, bindO_pure, bindO_elim, bindO_unP]
theorem nodeentry_Put_n1_ok (i : Ientry_Put_n1) (K : Ex → St → Ans) : codeI Try.tab enventry_Put noHint (codeD Try.tab enventry_Put noHint 0 64) 70 31 annLentry_Put_n1 Lentry_Put_n1 (weakP 0 (exk [4, 8, 9] [2, 3] [(0, [4])]) K) (Sentry_Put_n1 i) = nodeentry_Put_n1 i (outentry_Put_n1 i K) := by kernel_rfl
theorem GNentry_Put_n1_ok : CSum Try.prog 31 Lentry_Put_n1 (sumN decentry_Put_n1 nodeDentry_Put_n1 outentry_Put_n1) := csum_node mixed tabOk enventry_PutOk 0 (exk [4, 8, 9] [2, 3] [(0, [4])]) annLentry_Put_n1_ok decentry_Put_n1_ok nodeentry_Put_n1_ok nodeentry_Put_n1_nat
abbrev Ientry_Put_n1v1 := (List UInt8) × (Int) × (Int) × (Int) × (Int) × (Int) × (Int)
abbrev Yentry_Put_n1v1 := Unit
def Sentry_Put_n1v1 : Ientry_Put_n1v1 → St := fun (t4, t8_0, t8_1, t8_2, t8_3, t8_4, t8_5) => { env := [(4, AV.str t4), (8, AV.agg [AV.int IntKind.i64 t8_0, AV.int IntKind.i64 t8_1, AV.int IntKind.i64 t8_2, AV.int IntKind.i64 t8_3, AV.int IntKind.i64 t8_4, AV.int IntKind.i64 t8_5]), (9, AV.int IntKind.i64 (2))], stk := [[]], H := [], blk := 53248 }
def decentry_Put_n1v1 (s : St) : Option Ientry_Put_n1v1 := match s with
  | { env := [(4, AV.str t4), (8, AV.agg [AV.int IntKind.i64 t8_0, AV.int IntKind.i64 t8_1, AV.int IntKind.i64 t8_2, AV.int IntKind.i64 t8_3, AV.int IntKind.i64 t8_4, AV.int IntKind.i64 t8_5]), (9, AV.int IntKind.i64 r7)], stk := [[]], H := [], blk := 53248 } => cond (decide (r7 = 2)) (some (t4, t8_0, t8_1, t8_2, t8_3, t8_4, t8_5)) none
  | _ => none
theorem decentry_Put_n1v1_ok (s : St) (x : Ientry_Put_n1v1) (h : decentry_Put_n1v1 s = some x) : s = Sentry_Put_n1v1 x := by
  unfold decentry_Put_n1v1 at h
  split at h
  · replace h := cond_noneO h; obtain ⟨hg, h⟩ := h; simp only [Bool.and_eq_true, decide_eq_true_eq] at hg; simp only [hg]; cases h; rfl
  · cases h
def outentry_Put_n1v1 : Ientry_Put_n1v1 → (Ex → St → Ans) → Yentry_Put_n1v1 → Ans := fun (t4, t8_0, t8_1, t8_2, t8_3, t8_4, t8_5) K => fun _ => K (Ex.exit 0) { env := [(4, AV.str t4)], stk := [[]], H := [], blk := 53248 }
def nodeentry_Put_n1v1 {β : Type} : Ientry_Put_n1v1 → (Yentry_Put_n1v1 → Option β) → Option β := fun (t4, t8_0, t8_1, t8_2, t8_3, t8_4, t8_5) exit => (exit ())
def nodeDentry_Put_n1v1 (i : Ientry_Put_n1v1) : Option Yentry_Put_n1v1 := nodeentry_Put_n1v1 i some
theorem nodeentry_Put_n1v1_nat (i : Ientry_Put_n1v1) (k : Yentry_Put_n1v1 → Ans) : nodeentry_Put_n1v1 i k = bindO (nodeDentry_Put_n1v1 i) k := by
  obtain ⟨t4, t8_0, t8_1, t8_2, t8_3, t8_4, t8_5⟩ := i
  simp only [nodeDentry_Put_n1v1, nodeentry_Put_n1v1, bindO_cond, bindO_assoc, bindO_none, bindO_pure, bindO_elim, bindO_unP]
theorem nodeentry_Put_n1v1_ok (i : Ientry_Put_n1v1) (K : Ex → St → Ans) : codeI Try.tab enventry_Put noHint (codeD Try.tab enventry_Put noHint 0 64) 70 31 annLentry_Put_n1 Lentry_Put_n1 (weakP 0 (exk [4, 8, 9] [2, 3] [(0, [4])]) K) (Sentry_Put_n1v1 i) = nodeentry_Put_n1v1 i (outentry_Put_n1v1 i K) := by kernel_rfl
theorem GNentry_Put_n1v1_ok : CSum Try.prog 31 Lentry_Put_n1 (sumN decentry_Put_n1v1 nodeDentry_Put_n1v1 outentry_Put_n1v1) := csum_node mixed tabOk enventry_PutOk 0 (exk [4, 8, 9] [2, 3] [(0, [4])]) annLentry_Put_n1_ok decentry_Put_n1v1_ok nodeentry_Put_n1v1_ok nodeentry_Put_n1v1_nat
abbrev Ientry_Put_n1v2 := (List UInt8) × (Int) × (Int) × (Int) × (Int) × (Int) × (Int)
abbrev Yentry_Put_n1v2 := ((Int)) ⊕ ((List UInt8))
def Sentry_Put_n1v2 : Ientry_Put_n1v2 → St := fun (t4, t8_0, t8_1, t8_2, t8_3, t8_4, t8_5) => { env := [(4, AV.str t4), (8, AV.agg [AV.int IntKind.i64 t8_0, AV.int IntKind.i64 t8_1, AV.int IntKind.i64 t8_2, AV.int IntKind.i64 t8_3, AV.int IntKind.i64 t8_4, AV.int IntKind.i64 t8_5]), (9, AV.int IntKind.i64 (0))], stk := [[]], H := [], blk := 53248 }
def decentry_Put_n1v2 (s : St) : Option Ientry_Put_n1v2 := match s with
  | { env := [(4, AV.str t4), (8, AV.agg [AV.int IntKind.i64 t8_0, AV.int IntKind.i64 t8_1, AV.int IntKind.i64 t8_2, AV.int IntKind.i64 t8_3, AV.int IntKind.i64 t8_4, AV.int IntKind.i64 t8_5]), (9, AV.int IntKind.i64 r7)], stk := [[]], H := [], blk := 53248 } => cond (decide (r7 = 0)) (some (t4, t8_0, t8_1, t8_2, t8_3, t8_4, t8_5)) none
  | _ => none
theorem decentry_Put_n1v2_ok (s : St) (x : Ientry_Put_n1v2) (h : decentry_Put_n1v2 s = some x) : s = Sentry_Put_n1v2 x := by
  unfold decentry_Put_n1v2 at h
  split at h
  · replace h := cond_noneO h; obtain ⟨hg, h⟩ := h; simp only [Bool.and_eq_true, decide_eq_true_eq] at hg; simp only [hg]; cases h; rfl
  · cases h
def outentry_Put_n1v2 : Ientry_Put_n1v2 → (Ex → St → Ans) → Yentry_Put_n1v2 → Ans := fun (t4, t8_0, t8_1, t8_2, t8_3, t8_4, t8_5) K => (Sum.elim (fun t3_y => K (Ex.ret) { env := [(2, AV.str ([])), (3, AV.int IntKind.i64 t3_y)], stk := [[]], H := [], blk := 53249 }) (fun t4_y => K (Ex.norm) { env := [(4, AV.str t4_y), (8, AV.agg [AV.int IntKind.i64 t8_0, AV.int IntKind.i64 t8_1, AV.int IntKind.i64 t8_2, AV.int IntKind.i64 t8_3, AV.int IntKind.i64 t8_4, AV.int IntKind.i64 t8_5]), (9, AV.int IntKind.i64 (1))], stk := [[]], H := [], blk := 53249 }))
def nodeentry_Put_n1v2 {β : Type} : Ientry_Put_n1v2 → (Yentry_Put_n1v2 → Option β) → Option β := fun (t4, t8_0, t8_1, t8_2, t8_3, t8_4, t8_5) exit => (bindO (fnDentry_Check (t8_0, t8_1, t8_2)) fun r => (bif r != (0 : Int) then (exit (Sum.inl (r))) else (bindO (fnDvector_Put (t4, t8_0, t8_1)) fun r_2 => (bindO (fnDfield_Put (r_2, IntKind.wrap IntKind.i64 (t8_2 + (1 : Int)), (1 : Int))) fun r_3 => (exit (Sum.inr (r_3)))))))
def nodeDentry_Put_n1v2 (i : Ientry_Put_n1v2) : Option Yentry_Put_n1v2 := nodeentry_Put_n1v2 i some
theorem nodeentry_Put_n1v2_nat (i : Ientry_Put_n1v2) (k : Yentry_Put_n1v2 → Ans) : nodeentry_Put_n1v2 i k = bindO (nodeDentry_Put_n1v2 i) k := by
  obtain ⟨t4, t8_0, t8_1, t8_2, t8_3, t8_4, t8_5⟩ := i
  simp only [nodeDentry_Put_n1v2, nodeentry_Put_n1v2, bindO_cond, bindO_assoc, bindO_none, bindO_pure, bindO_elim, bindO_unP]
theorem nodeentry_Put_n1v2_ok (i : Ientry_Put_n1v2) (K : Ex → St → Ans) : codeI Try.tab enventry_Put noHint (codeD Try.tab enventry_Put noHint 0 64) 70 31 annLentry_Put_n1 Lentry_Put_n1 (weakP 0 (exk [4, 8, 9] [2, 3] [(0, [4])]) K) (Sentry_Put_n1v2 i) = nodeentry_Put_n1v2 i (outentry_Put_n1v2 i K) := by kernel_rfl
theorem GNentry_Put_n1v2_ok : CSum Try.prog 31 Lentry_Put_n1 (sumN decentry_Put_n1v2 nodeDentry_Put_n1v2 outentry_Put_n1v2) := csum_node mixed tabOk enventry_PutOk 0 (exk [4, 8, 9] [2, 3] [(0, [4])]) annLentry_Put_n1_ok decentry_Put_n1v2_ok nodeentry_Put_n1v2_ok nodeentry_Put_n1v2_nat
noncomputable def Gentry_Put_n1 : (Ex → St → Ans) → St → Ans := (altN decentry_Put_n1 (sumN decentry_Put_n1 nodeDentry_Put_n1 outentry_Put_n1) (altN decentry_Put_n1v1 (sumN decentry_Put_n1v1 nodeDentry_Put_n1v1 outentry_Put_n1v1) (sumN decentry_Put_n1v2 nodeDentry_Put_n1v2 outentry_Put_n1v2)))
theorem Gentry_Put_n1_ok : CSum Try.prog 31 Lentry_Put_n1 Gentry_Put_n1 := (csum_altN GNentry_Put_n1_ok (csum_altN GNentry_Put_n1v1_ok GNentry_Put_n1v2_ok))
noncomputable def Lentry_Put_n0 : Code := codeAt [1, 1, 0, 1] bentry_Put
noncomputable def annLentry_Put_n0 : Ann := (.block (.at 0 [4, 8, 9] (.loop (.cut 0 [4, 8, 9] Gentry_Put_n1))))
theorem annLentry_Put_n0_ok : AnnOk Try.prog 31 Lentry_Put_n0 annLentry_Put_n0 := (annOk_at Gentry_Put_n1_ok)
abbrev Ientry_Put_n0 := (Int) × (Int) × (Int) × (Int) × (Int) × (Int)
abbrev Yentry_Put_n0 := ((Int)) ⊕ ((List UInt8))
def Sentry_Put_n0 : Ientry_Put_n0 → St := fun (t8_0, t8_1, t8_2, t8_3, t8_4, t8_5) => { env := [(4, AV.str ([69])), (8, AV.agg [AV.int IntKind.i64 t8_0, AV.int IntKind.i64 t8_1, AV.int IntKind.i64 t8_2, AV.int IntKind.i64 t8_3, AV.int IntKind.i64 t8_4, AV.int IntKind.i64 t8_5]), (9, AV.int IntKind.i64 (0))], stk := [[]], H := [], blk := 53248 }
def decentry_Put_n0 (s : St) : Option Ientry_Put_n0 := match s with
  | { env := [(4, AV.str r0), (8, AV.agg [AV.int IntKind.i64 t8_0, AV.int IntKind.i64 t8_1, AV.int IntKind.i64 t8_2, AV.int IntKind.i64 t8_3, AV.int IntKind.i64 t8_4, AV.int IntKind.i64 t8_5]), (9, AV.int IntKind.i64 r7)], stk := [[]], H := [], blk := 53248 } => cond (decide (r0 = [69]) && decide (r7 = 0)) (some (t8_0, t8_1, t8_2, t8_3, t8_4, t8_5)) none
  | _ => none
theorem decentry_Put_n0_ok (s : St) (x : Ientry_Put_n0) (h : decentry_Put_n0 s = some x) : s = Sentry_Put_n0 x := by
  unfold decentry_Put_n0 at h
  split at h
  · replace h := cond_noneO h; obtain ⟨hg, h⟩ := h; simp only [Bool.and_eq_true, decide_eq_true_eq] at hg; simp only [hg]; cases h; rfl
  · cases h
def outentry_Put_n0 : Ientry_Put_n0 → (Ex → St → Ans) → Yentry_Put_n0 → Ans := fun (t8_0, t8_1, t8_2, t8_3, t8_4, t8_5) K => (Sum.elim (fun t3_y => K (Ex.ret) { env := [(2, AV.str ([])), (3, AV.int IntKind.i64 t3_y)], stk := [[]], H := [], blk := 53249 }) (fun t4_y => K (Ex.norm) { env := [(4, AV.str t4_y)], stk := [[]], H := [], blk := 53248 }))
def nodeentry_Put_n0 {β : Type} : Ientry_Put_n0 → (Yentry_Put_n0 → Option β) → Option β := fun (t8_0, t8_1, t8_2, t8_3, t8_4, t8_5) exit => (bindO (nodeDentry_Put_n1v2 ([(69 : UInt8)], t8_0, t8_1, t8_2, t8_3, t8_4, t8_5)) (Sum.elim (fun t3 => (exit (Sum.inl (t3)))) (fun t4 => (bindO (nodeDentry_Put_n1 (t4, t8_0, t8_1, t8_2, t8_3, t8_4, t8_5)) (Sum.elim (fun t3 => (exit (Sum.inl (t3)))) (fun t4_2 => (bindO (nodeDentry_Put_n1v1 (t4_2, t8_0, t8_1, t8_2, t8_3, t8_4, t8_5)) fun _ => (exit (Sum.inr (t4_2))))))))))
def nodeDentry_Put_n0 (i : Ientry_Put_n0) : Option Yentry_Put_n0 := nodeentry_Put_n0 i some
theorem nodeentry_Put_n0_nat (i : Ientry_Put_n0) (k : Yentry_Put_n0 → Ans) : nodeentry_Put_n0 i k = bindO (nodeDentry_Put_n0 i) k := by
  obtain ⟨t8_0, t8_1, t8_2, t8_3, t8_4, t8_5⟩ := i
  simp only [nodeDentry_Put_n0, nodeentry_Put_n0, bindO_cond, bindO_assoc, bindO_none, bindO_pure, bindO_elim, bindO_unP]
theorem nodeentry_Put_n0_ok (i : Ientry_Put_n0) (K : Ex → St → Ans) : codeI Try.tab enventry_Put noHint (codeD Try.tab enventry_Put noHint 0 64) 70 31 annLentry_Put_n0 Lentry_Put_n0 (weakP 0 (exk [4] [2, 3] []) K) (Sentry_Put_n0 i) = nodeentry_Put_n0 i (outentry_Put_n0 i K) := by kernel_rfl
theorem GNentry_Put_n0_ok : CSum Try.prog 31 Lentry_Put_n0 (sumN decentry_Put_n0 nodeDentry_Put_n0 outentry_Put_n0) := csum_node mixed tabOk enventry_PutOk 0 (exk [4] [2, 3] []) annLentry_Put_n0_ok decentry_Put_n0_ok nodeentry_Put_n0_ok nodeentry_Put_n0_nat
noncomputable def Gentry_Put_n0 : (Ex → St → Ans) → St → Ans := (sumN decentry_Put_n0 nodeDentry_Put_n0 outentry_Put_n0)
theorem Gentry_Put_n0_ok : CSum Try.prog 31 Lentry_Put_n0 Gentry_Put_n0 := GNentry_Put_n0_ok
noncomputable def annentry_Put : Ann := (.seq .none (.seq .none (.seq (.seq .none (.cut 0 [4, 8, 9] Gentry_Put_n0)) .none)))
theorem annentry_Put_ok : AnnOk Try.prog 31 bentry_Put annentry_Put := ⟨(annOk_none _ _ _), ⟨(annOk_none _ _ _), ⟨⟨(annOk_none _ _ _), Gentry_Put_n0_ok⟩, (annOk_none _ _ _)⟩⟩⟩
abbrev Aentry_Put := (Int) × (Int) × (Int) × (Int) × (Int) × (Int)
abbrev Yentry_Put := (List UInt8) × (Int)
def fnentry_Put {β : Type} : Aentry_Put → (Yentry_Put → Option β) → Option β := fun (a0_0, a0_1, a0_2, a0_3, a0_4, a0_5) exit => (bindO (nodeDentry_Put_n0 (a0_0, a0_1, a0_2, a0_3, a0_4, a0_5)) (Sum.elim (fun t3 => (exit ([], t3))) (fun t4 => (bindO (fnDcyclic_Tail (t4)) fun r => (bif Nat.ble (List.length t4 + List.length r) (9223372036854775807 : Nat) then (bindO (fnDregion_Pad (t4 ++ r)) fun r_2 => (exit (r_2, (0 : Int)))) else none)))))
def fnDentry_Put (a : Aentry_Put) : Option Yentry_Put := fnentry_Put a some
theorem fnentry_Put_nat (a : Aentry_Put) (k : Yentry_Put → Ans) : fnentry_Put a k = bindO (fnDentry_Put a) k := by
  obtain ⟨a0_0, a0_1, a0_2, a0_3, a0_4, a0_5⟩ := a
  simp only [fnDentry_Put, fnentry_Put, bindO_cond, bindO_assoc, bindO_none, bindO_pure, bindO_elim, bindO_unP]
def argsentry_Put : Aentry_Put → List AV := fun (a0_0, a0_1, a0_2, a0_3, a0_4, a0_5) => [AV.agg [AV.int IntKind.i64 a0_0, AV.int IntKind.i64 a0_1, AV.int IntKind.i64 a0_2, AV.int IntKind.i64 a0_3, AV.int IntKind.i64 a0_4, AV.int IntKind.i64 a0_5]]
def decAentry_Put (l : List AV) : Option Aentry_Put := match l with
  | [AV.agg [AV.int IntKind.i64 a0_0, AV.int IntKind.i64 a0_1, AV.int IntKind.i64 a0_2, AV.int IntKind.i64 a0_3, AV.int IntKind.i64 a0_4, AV.int IntKind.i64 a0_5]] => some (a0_0, a0_1, a0_2, a0_3, a0_4, a0_5)
  | _ => none
theorem decAentry_Put_ok (l : List AV) (a : Aentry_Put) (h : decAentry_Put l = some a) : l = argsentry_Put a := by
  unfold decAentry_Put at h
  split at h
  · cases h; rfl
  · cases h
def rendentry_Put : Aentry_Put → Yentry_Put → AV := fun (a0_0, a0_1, a0_2, a0_3, a0_4, a0_5) => unP fun r_0_y r_1_y => AV.tup [AV.str r_0_y, AV.int IntKind.i64 r_1_y]
theorem rendentry_Put_ok : ∀ (a : Aentry_Put) (y : Yentry_Put), (rendentry_Put a y).closed1 = true := by
  rintro ⟨a0_0, a0_1, a0_2, a0_3, a0_4, a0_5⟩ y <;> first | rfl | exact Empty.elim y
theorem fnentry_Put_ok (a : Aentry_Put) : fnE Try.tab enventry_Put noHint 0 70 13 Try.f13.ntmps Try.f13.results.toList annentry_Put bentry_Put (argsentry_Put a) [] (fun v _ => some (v, [])) = fnentry_Put a (fun y => some (rendentry_Put a y, [])) := by kernel_rfl
def vFentry_Put (a : Aentry_Put) (K : AV → Ans) : Ans := bindO (fnDentry_Put a) fun y => K (rendentry_Put a y)
def Fentry_Put : List AV → (AV → Ans) → Ans := fun l K => bindO (decAentry_Put l) fun a => vFentry_Put a K
theorem Fentry_Put_ok : PureOk Try.prog 13 Fentry_Put := pure_mkD (hint := noHint) (d := 0) (n := 70) mixed tabOk enventry_PutOk Try.func13 (bodySome (by kernel_rfl)) (by decide +kernel) annentry_Put_ok decAentry_Put_ok fnentry_Put_ok fnentry_Put_nat rendentry_Put_ok
--@ field_New
noncomputable def envfield_New : Env := []
theorem envfield_NewOk : EnvOk Try.prog envfield_New := EnvOk.nil
noncomputable def bfield_New : Code := Try.f48.body.getD .skip
noncomputable def annfield_New : Ann := .none
theorem annfield_New_ok : AnnOk Try.prog 6 bfield_New annfield_New := (annOk_none _ _ _)
abbrev Afield_New := (List UInt8)
abbrev Yfield_New := Unit
def fnfield_New {β : Type} : Afield_New → (Yfield_New → Option β) → Option β := fun a0 exit => (exit ())
def fnDfield_New (a : Afield_New) : Option Yfield_New := fnfield_New a some
theorem fnfield_New_nat (a : Afield_New) (k : Yfield_New → Ans) : fnfield_New a k = bindO (fnDfield_New a) k := by
  obtain z := a
  simp only [fnDfield_New, fnfield_New, bindO_cond, bindO_assoc, bindO_none, bindO_pure, bindO_elim, bindO_unP]
def argsfield_New : Afield_New → List AV × List AE.Obj := fun a0 => ([AV.str a0], [])
def decAfield_New (l : List AV) (H : List AE.Obj) : Option Afield_New := match l, H with
  | [AV.str a0], [] => some (a0)
  | _, _ => none
theorem decAfield_New_ok (l : List AV) (H : List AE.Obj) (a : Afield_New) (h : decAfield_New l H = some a) : (l, H) = argsfield_New a := by
  unfold decAfield_New at h
  split at h
  · cases h; rfl
  · cases h
def outfield_New : Afield_New → (AV → List AE.Obj → Ans) → Yfield_New → Ans := fun a0 K => fun _ => K (AV.ptr 0 0) [AE.Obj.cells [AV.str a0, AV.int IntKind.i64 (0)]]
theorem fnfield_New_ok (a : Afield_New) (K : AV → List AE.Obj → Ans) : fnE Try.tab envfield_New noHint 0 70 48 Try.f48.ntmps Try.f48.results.toList annfield_New bfield_New (argsfield_New a).1 (argsfield_New a).2 K = fnfield_New a (outfield_New a K) := by kernel_rfl
def vFfield_New (a : Afield_New) (K : AV → List AE.Obj → Ans) : Ans := bindO (fnDfield_New a) fun y => outfield_New a K y
def Ffield_New : List AV → List AE.Obj → (AV → List AE.Obj → Ans) → Ans := fun l H K => bindO (decAfield_New l H) fun a => vFfield_New a K
theorem Ffield_New_ok : FuncOk Try.prog 48 Ffield_New := func_mkD (hint := noHint) (d := 0) (n := 70) mixed tabOk envfield_NewOk Try.func48 (bodySome (by kernel_rfl)) (by decide +kernel) annfield_New_ok decAfield_New_ok fnfield_New_ok fnfield_New_nat
--@ field_Reader_fail
noncomputable def envfield_Reader_fail : Env := []
theorem envfield_Reader_failOk : EnvOk Try.prog envfield_Reader_fail := EnvOk.nil
noncomputable def bfield_Reader_fail : Code := Try.f67.body.getD .skip
noncomputable def annfield_Reader_fail : Ann := .none
theorem annfield_Reader_fail_ok : AnnOk Try.prog 13 bfield_Reader_fail annfield_Reader_fail := (annOk_none _ _ _)
abbrev Afield_Reader_fail := (Int) × (List UInt8) × (Int)
abbrev Yfield_Reader_fail := (Int)
def fnfield_Reader_fail {β : Type} : Afield_Reader_fail → (Yfield_Reader_fail → Option β) → Option β := fun (a1, o0_0, o0_1) exit => (bif o0_1 == (0 : Int) then (exit (a1)) else (exit (o0_1)))
def fnDfield_Reader_fail (a : Afield_Reader_fail) : Option Yfield_Reader_fail := fnfield_Reader_fail a some
theorem fnfield_Reader_fail_nat (a : Afield_Reader_fail) (k : Yfield_Reader_fail → Ans) : fnfield_Reader_fail a k = bindO (fnDfield_Reader_fail a) k := by
  obtain ⟨a1, o0_0, o0_1⟩ := a
  simp only [fnDfield_Reader_fail, fnfield_Reader_fail, bindO_cond, bindO_assoc, bindO_none, bindO_pure, bindO_elim, bindO_unP]
def argsfield_Reader_fail : Afield_Reader_fail → List AV × List AE.Obj := fun (a1, o0_0, o0_1) => ([AV.ptr 0 0, AV.int IntKind.i64 a1], [AE.Obj.cells [AV.str o0_0, AV.int IntKind.i64 o0_1]])
def decAfield_Reader_fail (l : List AV) (H : List AE.Obj) : Option Afield_Reader_fail := match l, H with
  | [AV.ptr 0 0, AV.int IntKind.i64 a1], [AE.Obj.cells [AV.str o0_0, AV.int IntKind.i64 o0_1]] => some (a1, o0_0, o0_1)
  | _, _ => none
theorem decAfield_Reader_fail_ok (l : List AV) (H : List AE.Obj) (a : Afield_Reader_fail) (h : decAfield_Reader_fail l H = some a) : (l, H) = argsfield_Reader_fail a := by
  unfold decAfield_Reader_fail at h
  split at h
  · cases h; rfl
  · cases h
def outfield_Reader_fail : Afield_Reader_fail → (AV → List AE.Obj → Ans) → Yfield_Reader_fail → Ans := fun (a1, o0_0, o0_1) K => fun o0_1_y => K (AV.tup []) [AE.Obj.cells [AV.str o0_0, AV.int IntKind.i64 o0_1_y]]
theorem fnfield_Reader_fail_ok (a : Afield_Reader_fail) (K : AV → List AE.Obj → Ans) : fnE Try.tab envfield_Reader_fail noHint 0 70 67 Try.f67.ntmps Try.f67.results.toList annfield_Reader_fail bfield_Reader_fail (argsfield_Reader_fail a).1 (argsfield_Reader_fail a).2 K = fnfield_Reader_fail a (outfield_Reader_fail a K) := by kernel_rfl
def vFfield_Reader_fail (a : Afield_Reader_fail) (K : AV → List AE.Obj → Ans) : Ans := bindO (fnDfield_Reader_fail a) fun y => outfield_Reader_fail a K y
def Ffield_Reader_fail : List AV → List AE.Obj → (AV → List AE.Obj → Ans) → Ans := fun l H K => bindO (decAfield_Reader_fail l H) fun a => vFfield_Reader_fail a K
theorem Ffield_Reader_fail_ok : FuncOk Try.prog 67 Ffield_Reader_fail := func_mkD (hint := noHint) (d := 0) (n := 70) mixed tabOk envfield_Reader_failOk Try.func67 (bodySome (by kernel_rfl)) (by decide +kernel) annfield_Reader_fail_ok decAfield_Reader_fail_ok fnfield_Reader_fail_ok fnfield_Reader_fail_nat
--@ field_Reader_Bytes
noncomputable def envfield_Reader_Bytes : Env := [(67, .func Ffield_Reader_fail)]
theorem envfield_Reader_BytesOk : EnvOk Try.prog envfield_Reader_Bytes := EnvOk.cons Ffield_Reader_fail_ok (EnvOk.nil)
noncomputable def bfield_Reader_Bytes : Code := Try.f49.body.getD .skip
noncomputable def Lfield_Reader_Bytes_n0 : Code := codeAt [1, 1, 0, 1] bfield_Reader_Bytes
noncomputable def annLfield_Reader_Bytes_n0 : Ann := .none
theorem annLfield_Reader_Bytes_n0_ok : AnnOk Try.prog 42 Lfield_Reader_Bytes_n0 annLfield_Reader_Bytes_n0 := (annOk_none _ _ _)
abbrev Ifield_Reader_Bytes_n0 := (Int) × (Bool) × (List UInt8) × (Int)
abbrev Yfield_Reader_Bytes_n0 := (Int)
def Sfield_Reader_Bytes_n0 : Ifield_Reader_Bytes_n0 → St := fun (t1, t9, o0_0, o0_1) => { env := [(0, AV.ptr 0 0), (1, AV.int IntKind.i64 t1), (9, AV.bool t9)], stk := [[(0, AV.ptr 0 0)]], H := [AE.Obj.cells [AV.str o0_0, AV.int IntKind.i64 o0_1]], blk := 200704 }
def decfield_Reader_Bytes_n0 (s : St) : Option Ifield_Reader_Bytes_n0 := match s with
  | { env := [(0, AV.ptr 0 0), (1, AV.int IntKind.i64 t1), (9, AV.bool t9)], stk := [[(0, AV.ptr 0 0)]], H := [AE.Obj.cells [AV.str o0_0, AV.int IntKind.i64 o0_1]], blk := 200704 } => some (t1, t9, o0_0, o0_1)
  | _ => none
theorem decfield_Reader_Bytes_n0_ok (s : St) (x : Ifield_Reader_Bytes_n0) (h : decfield_Reader_Bytes_n0 s = some x) : s = Sfield_Reader_Bytes_n0 x := by
  unfold decfield_Reader_Bytes_n0 at h
  split at h
  · cases h; rfl
  · cases h
def outfield_Reader_Bytes_n0 : Ifield_Reader_Bytes_n0 → (Ex → St → Ans) → Yfield_Reader_Bytes_n0 → Ans := fun (t1, t9, o0_0, o0_1) K => fun o0_1_y => K (Ex.norm) { env := [(0, AV.ptr 0 0), (1, AV.int IntKind.i64 t1)], stk := [[(0, AV.ptr 0 0)]], H := [AE.Obj.cells [AV.str o0_0, AV.int IntKind.i64 o0_1_y]], blk := 200704 }
def nodefield_Reader_Bytes_n0 {β : Type} : Ifield_Reader_Bytes_n0 → (Yfield_Reader_Bytes_n0 → Option β) → Option β := fun (t1, t9, o0_0, o0_1) exit => (bif t9 then (bindO (fnDfield_Reader_fail ((3 : Int), o0_0, o0_1)) fun o0_1_2 => (exit (o0_1_2))) else (bif decide (t1 > (↑(List.length o0_0) : Int)) then (bindO (fnDfield_Reader_fail ((1 : Int), o0_0, o0_1)) fun o0_1_2 => (exit (o0_1_2))) else (exit (o0_1))))
def nodeDfield_Reader_Bytes_n0 (i : Ifield_Reader_Bytes_n0) : Option Yfield_Reader_Bytes_n0 := nodefield_Reader_Bytes_n0 i some
theorem nodefield_Reader_Bytes_n0_nat (i : Ifield_Reader_Bytes_n0) (k : Yfield_Reader_Bytes_n0 → Ans) : nodefield_Reader_Bytes_n0 i k = bindO (nodeDfield_Reader_Bytes_n0 i) k := by
  obtain ⟨t1, t9, o0_0, o0_1⟩ := i
  simp only [nodeDfield_Reader_Bytes_n0, nodefield_Reader_Bytes_n0, bindO_cond, bindO_assoc, bindO_none, bindO_pure, bindO_elim, bindO_unP]
theorem nodefield_Reader_Bytes_n0_ok (i : Ifield_Reader_Bytes_n0) (K : Ex → St → Ans) : codeI Try.tab envfield_Reader_Bytes noHint (codeD Try.tab envfield_Reader_Bytes noHint 0 64) 70 42 annLfield_Reader_Bytes_n0 Lfield_Reader_Bytes_n0 (weakP 1 (exk [0, 1] [4] []) K) (Sfield_Reader_Bytes_n0 i) = nodefield_Reader_Bytes_n0 i (outfield_Reader_Bytes_n0 i K) := by kernel_rfl
theorem GNfield_Reader_Bytes_n0_ok : CSum Try.prog 42 Lfield_Reader_Bytes_n0 (sumN decfield_Reader_Bytes_n0 nodeDfield_Reader_Bytes_n0 outfield_Reader_Bytes_n0) := csum_node mixed tabOk envfield_Reader_BytesOk 1 (exk [0, 1] [4] []) annLfield_Reader_Bytes_n0_ok decfield_Reader_Bytes_n0_ok nodefield_Reader_Bytes_n0_ok nodefield_Reader_Bytes_n0_nat
noncomputable def Gfield_Reader_Bytes_n0 : (Ex → St → Ans) → St → Ans := (sumN decfield_Reader_Bytes_n0 nodeDfield_Reader_Bytes_n0 outfield_Reader_Bytes_n0)
theorem Gfield_Reader_Bytes_n0_ok : CSum Try.prog 42 Lfield_Reader_Bytes_n0 Gfield_Reader_Bytes_n0 := GNfield_Reader_Bytes_n0_ok
noncomputable def annfield_Reader_Bytes : Ann := (.seq .none (.seq .none (.seq (.seq .none (.cut 1 [0, 1, 9] Gfield_Reader_Bytes_n0)) .none)))
theorem annfield_Reader_Bytes_ok : AnnOk Try.prog 42 bfield_Reader_Bytes annfield_Reader_Bytes := ⟨(annOk_none _ _ _), ⟨(annOk_none _ _ _), ⟨⟨(annOk_none _ _ _), Gfield_Reader_Bytes_n0_ok⟩, (annOk_none _ _ _)⟩⟩⟩
abbrev Afield_Reader_Bytes := (Int) × (List UInt8) × (Int)
abbrev Yfield_Reader_Bytes := (List UInt8) × (List UInt8) × (Int)
def fnfield_Reader_Bytes {β : Type} : Afield_Reader_Bytes → (Yfield_Reader_Bytes → Option β) → Option β := fun (a1, o0_0, o0_1) exit => (bindO (nodeDfield_Reader_Bytes_n0 (a1, decide (a1 < (0 : Int)), o0_0, o0_1)) fun o0_1_2 => (bif o0_1_2 != (0 : Int) then (exit ([], o0_0, o0_1_2)) else (bif inR a1 (List.length o0_0 + (1 : Nat)) then (bif inR a1 (List.length o0_0 + (1 : Nat)) then (exit (List.take (Int.toNat a1) o0_0, List.drop (Int.toNat a1) o0_0, o0_1_2)) else none) else none)))
def fnDfield_Reader_Bytes (a : Afield_Reader_Bytes) : Option Yfield_Reader_Bytes := fnfield_Reader_Bytes a some
theorem fnfield_Reader_Bytes_nat (a : Afield_Reader_Bytes) (k : Yfield_Reader_Bytes → Ans) : fnfield_Reader_Bytes a k = bindO (fnDfield_Reader_Bytes a) k := by
  obtain ⟨a1, o0_0, o0_1⟩ := a
  simp only [fnDfield_Reader_Bytes, fnfield_Reader_Bytes, bindO_cond, bindO_assoc, bindO_none, bindO_pure, bindO_elim, bindO_unP]
def argsfield_Reader_Bytes : Afield_Reader_Bytes → List AV × List AE.Obj := fun (a1, o0_0, o0_1) => ([AV.ptr 0 0, AV.int IntKind.i64 a1], [AE.Obj.cells [AV.str o0_0, AV.int IntKind.i64 o0_1]])
def decAfield_Reader_Bytes (l : List AV) (H : List AE.Obj) : Option Afield_Reader_Bytes := match l, H with
  | [AV.ptr 0 0, AV.int IntKind.i64 a1], [AE.Obj.cells [AV.str o0_0, AV.int IntKind.i64 o0_1]] => some (a1, o0_0, o0_1)
  | _, _ => none
theorem decAfield_Reader_Bytes_ok (l : List AV) (H : List AE.Obj) (a : Afield_Reader_Bytes) (h : decAfield_Reader_Bytes l H = some a) : (l, H) = argsfield_Reader_Bytes a := by
  unfold decAfield_Reader_Bytes at h
  split at h
  · cases h; rfl
  · cases h
def outfield_Reader_Bytes : Afield_Reader_Bytes → (AV → List AE.Obj → Ans) → Yfield_Reader_Bytes → Ans := fun (a1, o0_0, o0_1) K => unP fun r_y => unP fun o0_0_y o0_1_y => K (AV.str r_y) [AE.Obj.cells [AV.str o0_0_y, AV.int IntKind.i64 o0_1_y]]
theorem fnfield_Reader_Bytes_ok (a : Afield_Reader_Bytes) (K : AV → List AE.Obj → Ans) : fnE Try.tab envfield_Reader_Bytes noHint 0 70 49 Try.f49.ntmps Try.f49.results.toList annfield_Reader_Bytes bfield_Reader_Bytes (argsfield_Reader_Bytes a).1 (argsfield_Reader_Bytes a).2 K = fnfield_Reader_Bytes a (outfield_Reader_Bytes a K) := by kernel_rfl
def vFfield_Reader_Bytes (a : Afield_Reader_Bytes) (K : AV → List AE.Obj → Ans) : Ans := bindO (fnDfield_Reader_Bytes a) fun y => outfield_Reader_Bytes a K y
def Ffield_Reader_Bytes : List AV → List AE.Obj → (AV → List AE.Obj → Ans) → Ans := fun l H K => bindO (decAfield_Reader_Bytes l H) fun a => vFfield_Reader_Bytes a K
theorem Ffield_Reader_Bytes_ok : FuncOk Try.prog 49 Ffield_Reader_Bytes := func_mkD (hint := noHint) (d := 0) (n := 70) mixed tabOk envfield_Reader_BytesOk Try.func49 (bodySome (by kernel_rfl)) (by decide +kernel) annfield_Reader_Bytes_ok decAfield_Reader_Bytes_ok fnfield_Reader_Bytes_ok fnfield_Reader_Bytes_nat
--@ field_Reader_Num
noncomputable def envfield_Reader_Num : Env := [(68, .pure Ffield_width), (67, .func Ffield_Reader_fail), (49, .func Ffield_Reader_Bytes)]
theorem envfield_Reader_NumOk : EnvOk Try.prog envfield_Reader_Num := EnvOk.cons Ffield_width_ok (EnvOk.cons Ffield_Reader_fail_ok (EnvOk.cons Ffield_Reader_Bytes_ok (EnvOk.nil)))
noncomputable def bfield_Reader_Num : Code := Try.f50.body.getD .skip
noncomputable def Lfield_Reader_Num_n0 : Code := codeAt [1, 1, 1, 1, 0, 1, 0, 0] bfield_Reader_Num
noncomputable def annLfield_Reader_Num_n0 : Ann := .at 1 [5, 18, 19, 20] (.loop .none)
theorem annLfield_Reader_Num_n0_ok : AnnOk Try.prog 31 (.loop Lfield_Reader_Num_n0) annLfield_Reader_Num_n0 := annOk_at (annOk_none _ _ _)
abbrev Ifield_Reader_Num_n0 := (Int) × (List UInt8) × (Int) × (List Int)
abbrev Yfield_Reader_Num_n0 := (Int)
abbrev Vfield_Reader_Num_n0 := (Int) × (Int)
def Sfield_Reader_Num_n0 : Ifield_Reader_Num_n0 → Vfield_Reader_Num_n0 → St := fun (t19, o0_0, o0_1, o1) (t5, t20) => { env := [(5, AV.int IntKind.i64 t5), (18, AV.own 1), (19, AV.int IntKind.i64 t19), (20, AV.int IntKind.i64 t20)], stk := [[(0, AV.ptr 0 0)]], H := [AE.Obj.cells [AV.str o0_0, AV.int IntKind.i64 o0_1], Obj.arr (Ty.int IntKind.u8) o1], blk := 204800 }
def decfield_Reader_Num_n0 (s : St) : Option (Ifield_Reader_Num_n0 × Vfield_Reader_Num_n0) := match s with
  | { env := [(5, AV.int IntKind.i64 t5), (18, AV.own 1), (19, AV.int IntKind.i64 t19), (20, AV.int IntKind.i64 t20)], stk := [[(0, AV.ptr 0 0)]], H := [AE.Obj.cells [AV.str o0_0, AV.int IntKind.i64 o0_1], Obj.arr (Ty.int IntKind.u8) o1], blk := 204800 } => some ((t19, o0_0, o0_1, o1), (t5, t20))
  | _ => none
theorem decfield_Reader_Num_n0_ok (s : St) (x : Ifield_Reader_Num_n0 × Vfield_Reader_Num_n0) (h : decfield_Reader_Num_n0 s = some x) : s = Sfield_Reader_Num_n0 x.1 x.2 := by
  unfold decfield_Reader_Num_n0 at h
  split at h
  · cases h; rfl
  · cases h
def outfield_Reader_Num_n0 : Ifield_Reader_Num_n0 → (Ex → St → Ans) → Yfield_Reader_Num_n0 → Ans := fun (t19, o0_0, o0_1, o1) K => fun t5_y => K (Ex.exit 0) { env := [(5, AV.int IntKind.i64 t5_y)], stk := [[(0, AV.ptr 0 0)]], H := [AE.Obj.cells [AV.str o0_0, AV.int IntKind.i64 o0_1]], blk := 204800 }
def stepfield_Reader_Num_n0 {β : Type} : Ifield_Reader_Num_n0 → Vfield_Reader_Num_n0 → (Vfield_Reader_Num_n0 → Option β) → (Yfield_Reader_Num_n0 → Option β) → Option β := fun (t19, o0_0, o0_1, o1) (t5, t20) next exit => (bif decide (t20 < t19) then (bif inR t20 (List.length o1) then (bindO (o1[Int.toNat t20]?) fun x => (next (IntKind.wrap IntKind.i64 (↑(Int.toNat (IntKind.wrap IntKind.i64 (t5 * (256 : Int)) % (18446744073709551616 : Int)) ||| Int.toNat (IntKind.wrap IntKind.i64 x % (18446744073709551616 : Int))) : Int), IntKind.wrap IntKind.i64 (t20 + (1 : Int))))) else none) else (exit (t5)))
def stepDfield_Reader_Num_n0 (i : Ifield_Reader_Num_n0) (v : Vfield_Reader_Num_n0) : Option (Vfield_Reader_Num_n0 ⊕ Yfield_Reader_Num_n0) := stepfield_Reader_Num_n0 i v (fun v => some (.inl v)) (fun y => some (.inr y))
theorem stepfield_Reader_Num_n0_nat (i : Ifield_Reader_Num_n0) (v : Vfield_Reader_Num_n0) (next : Vfield_Reader_Num_n0 → Ans) (exit : Yfield_Reader_Num_n0 → Ans) : stepfield_Reader_Num_n0 i v next exit = bindO (stepDfield_Reader_Num_n0 i v) (Sum.elim next exit) := by
  obtain ⟨t19, o0_0, o0_1, o1⟩ := i
  obtain ⟨t5, t20⟩ := v
  simp only [stepDfield_Reader_Num_n0, stepfield_Reader_Num_n0, bindO_cond, bindO_assoc, bindO_none, bindO_pure, bindO_elim, bindO_unP, Sum.elim_inl, Sum.elim_inr]
theorem stepfield_Reader_Num_n0_ok (n : Nat) (i : Ifield_Reader_Num_n0) (v : Vfield_Reader_Num_n0) (K : Ex → St → Ans) : codeI Try.tab envfield_Reader_Num noHint (codeD Try.tab envfield_Reader_Num noHint 0 64) (n+1) 31 annLfield_Reader_Num_n0 (.loop Lfield_Reader_Num_n0) (weakP 1 (exk [5] [4] [(0, [5])]) K) (Sfield_Reader_Num_n0 i v) = stepfield_Reader_Num_n0 i v (fun v' => codeI Try.tab envfield_Reader_Num noHint (codeD Try.tab envfield_Reader_Num noHint 0 64) n 31 annLfield_Reader_Num_n0 (.loop Lfield_Reader_Num_n0) (weakP 1 (exk [5] [4] [(0, [5])]) K) (Sfield_Reader_Num_n0 i v')) (fun y => outfield_Reader_Num_n0 i K y) := by kernel_rfl
theorem GNfield_Reader_Num_n0_ok : CSum Try.prog 31 (.loop Lfield_Reader_Num_n0) (sumL decfield_Reader_Num_n0 stepDfield_Reader_Num_n0 outfield_Reader_Num_n0) := csum_loop mixed tabOk envfield_Reader_NumOk 1 (exk [5] [4] [(0, [5])]) annLfield_Reader_Num_n0_ok decfield_Reader_Num_n0_ok stepfield_Reader_Num_n0_ok stepfield_Reader_Num_n0_nat
noncomputable def Gfield_Reader_Num_n0 : (Ex → St → Ans) → St → Ans := (sumL decfield_Reader_Num_n0 stepDfield_Reader_Num_n0 outfield_Reader_Num_n0)
theorem Gfield_Reader_Num_n0_ok : CSum Try.prog 31 (.loop Lfield_Reader_Num_n0) Gfield_Reader_Num_n0 := GNfield_Reader_Num_n0_ok
noncomputable def annfield_Reader_Num : Ann := (.seq .none (.seq .none (.seq .none (.seq .none (.seq (.seq .none (.block (.cut 1 [5, 18, 19, 20] Gfield_Reader_Num_n0))) .none)))))
theorem annfield_Reader_Num_ok : AnnOk Try.prog 31 bfield_Reader_Num annfield_Reader_Num := ⟨(annOk_none _ _ _), ⟨(annOk_none _ _ _), ⟨(annOk_none _ _ _), ⟨(annOk_none _ _ _), ⟨⟨(annOk_none _ _ _), Gfield_Reader_Num_n0_ok⟩, (annOk_none _ _ _)⟩⟩⟩⟩⟩
abbrev Afield_Reader_Num := (Int) × (List UInt8) × (Int)
abbrev Yfield_Reader_Num := (Int) × (List UInt8) × (Int)
def fnfield_Reader_Num {β : Type} : Afield_Reader_Num → (Yfield_Reader_Num → Option β) → Option β := fun (a1, o0_0, o0_1) exit => (bindO (fnDfield_width (a1)) fun r => (bif !r then (bindO (fnDfield_Reader_fail ((3 : Int), o0_0, o0_1)) fun o0_1_2 => (exit ((0 : Int), o0_0, o0_1_2))) else (bindO (fnDfield_Reader_Bytes (a1, o0_0, o0_1)) (unP fun r_2 => unP fun o0_0_2 o0_1_2 => (bif Nat.ble (List.length r_2) (140737488355328 : Nat) then (bindO (loopD (stepDfield_Reader_Num_n0 ((↑(List.length (intsOf r_2)) : Int), o0_0_2, o0_1_2, intsOf r_2)) FUEL ((0 : Int), (0 : Int))) fun t5 => (exit (t5, o0_0_2, o0_1_2))) else none)))))
def fnDfield_Reader_Num (a : Afield_Reader_Num) : Option Yfield_Reader_Num := fnfield_Reader_Num a some
theorem fnfield_Reader_Num_nat (a : Afield_Reader_Num) (k : Yfield_Reader_Num → Ans) : fnfield_Reader_Num a k = bindO (fnDfield_Reader_Num a) k := by
  obtain ⟨a1, o0_0, o0_1⟩ := a
  simp only [fnDfield_Reader_Num, fnfield_Reader_Num, bindO_cond, bindO_assoc, bindO_none, bindO_pure, bindO_elim, bindO_unP]
def argsfield_Reader_Num : Afield_Reader_Num → List AV × List AE.Obj := fun (a1, o0_0, o0_1) => ([AV.ptr 0 0, AV.int IntKind.i64 a1], [AE.Obj.cells [AV.str o0_0, AV.int IntKind.i64 o0_1]])
def decAfield_Reader_Num (l : List AV) (H : List AE.Obj) : Option Afield_Reader_Num := match l, H with
  | [AV.ptr 0 0, AV.int IntKind.i64 a1], [AE.Obj.cells [AV.str o0_0, AV.int IntKind.i64 o0_1]] => some (a1, o0_0, o0_1)
  | _, _ => none
theorem decAfield_Reader_Num_ok (l : List AV) (H : List AE.Obj) (a : Afield_Reader_Num) (h : decAfield_Reader_Num l H = some a) : (l, H) = argsfield_Reader_Num a := by
  unfold decAfield_Reader_Num at h
  split at h
  · cases h; rfl
  · cases h
def outfield_Reader_Num : Afield_Reader_Num → (AV → List AE.Obj → Ans) → Yfield_Reader_Num → Ans := fun (a1, o0_0, o0_1) K => unP fun r_y => unP fun o0_0_y o0_1_y => K (AV.int IntKind.i64 r_y) [AE.Obj.cells [AV.str o0_0_y, AV.int IntKind.i64 o0_1_y]]
theorem fnfield_Reader_Num_ok (a : Afield_Reader_Num) (K : AV → List AE.Obj → Ans) : fnE Try.tab envfield_Reader_Num noHint 0 70 50 Try.f50.ntmps Try.f50.results.toList annfield_Reader_Num bfield_Reader_Num (argsfield_Reader_Num a).1 (argsfield_Reader_Num a).2 K = fnfield_Reader_Num a (outfield_Reader_Num a K) := by kernel_rfl
def vFfield_Reader_Num (a : Afield_Reader_Num) (K : AV → List AE.Obj → Ans) : Ans := bindO (fnDfield_Reader_Num a) fun y => outfield_Reader_Num a K y
def Ffield_Reader_Num : List AV → List AE.Obj → (AV → List AE.Obj → Ans) → Ans := fun l H K => bindO (decAfield_Reader_Num l H) fun a => vFfield_Reader_Num a K
theorem Ffield_Reader_Num_ok : FuncOk Try.prog 50 Ffield_Reader_Num := func_mkD (hint := noHint) (d := 0) (n := 70) mixed tabOk envfield_Reader_NumOk Try.func50 (bodySome (by kernel_rfl)) (by decide +kernel) annfield_Reader_Num_ok decAfield_Reader_Num_ok fnfield_Reader_Num_ok fnfield_Reader_Num_nat
--@ entry_Get
noncomputable def enventry_Get : Env := [(41, .pure Fcyclic_Tail), (13, .pure Fentry_Put), (48, .func Ffield_New), (49, .func Ffield_Reader_Bytes), (50, .func Ffield_Reader_Num)]
theorem enventry_GetOk : EnvOk Try.prog enventry_Get := EnvOk.cons Fcyclic_Tail_ok (EnvOk.cons Fentry_Put_ok (EnvOk.cons Ffield_New_ok (EnvOk.cons Ffield_Reader_Bytes_ok (EnvOk.cons Ffield_Reader_Num_ok (EnvOk.nil)))))
noncomputable def bentry_Get : Code := Try.f17.body.getD .skip
noncomputable def Lentry_Get_n2 : Code := codeAt [1, 1, 1, 1, 1, 1, 1, 0, 1, 0] bentry_Get
noncomputable def annLentry_Get_n2 : Ann := .none
theorem annLentry_Get_n2_ok : AnnOk Try.prog 63 Lentry_Get_n2 annLentry_Get_n2 := (annOk_none _ _ _)
abbrev Ientry_Get_n2 := (List UInt8) × (List UInt8) × (Int) × (Int) × (Int) × (Int) × (Int) × (Int) × (Int)
abbrev Yentry_Get_n2 := (Bool)
def Sentry_Get_n2 : Ientry_Get_n2 → St := fun (t0, t9, t10, o2_0, o2_1, o2_2, o2_3, o2_4, o2_5) => { env := [(0, AV.str t0), (2, AV.ptr 0 0), (4, AV.ptr 1 0), (5, AV.ptr 2 0), (9, AV.str t9), (10, AV.int IntKind.i64 t10)], stk := [[]], H := [AE.Obj.cells [AV.int IntKind.i64 (0), AV.int IntKind.i64 (0), AV.int IntKind.i64 (0), AV.int IntKind.i64 (0), AV.int IntKind.i64 (0), AV.int IntKind.i64 (0)], AE.Obj.cells [AV.int IntKind.i64 (0), AV.int IntKind.i64 (0), AV.int IntKind.i64 (0), AV.int IntKind.i64 (0), AV.int IntKind.i64 (0), AV.int IntKind.i64 (0)], AE.Obj.cells [AV.int IntKind.i64 o2_0, AV.int IntKind.i64 o2_1, AV.int IntKind.i64 o2_2, AV.int IntKind.i64 o2_3, AV.int IntKind.i64 o2_4, AV.int IntKind.i64 o2_5]], blk := 69632 }
def decentry_Get_n2 (s : St) : Option Ientry_Get_n2 := match s with
  | { env := [(0, AV.str t0), (2, AV.ptr 0 0), (4, AV.ptr 1 0), (5, AV.ptr 2 0), (9, AV.str t9), (10, AV.int IntKind.i64 t10)], stk := [[]], H := [AE.Obj.cells [AV.int IntKind.i64 r3, AV.int IntKind.i64 r4, AV.int IntKind.i64 r5, AV.int IntKind.i64 r6, AV.int IntKind.i64 r7, AV.int IntKind.i64 r8], AE.Obj.cells [AV.int IntKind.i64 r9, AV.int IntKind.i64 r10, AV.int IntKind.i64 r11, AV.int IntKind.i64 r12, AV.int IntKind.i64 r13, AV.int IntKind.i64 r14], AE.Obj.cells [AV.int IntKind.i64 o2_0, AV.int IntKind.i64 o2_1, AV.int IntKind.i64 o2_2, AV.int IntKind.i64 o2_3, AV.int IntKind.i64 o2_4, AV.int IntKind.i64 o2_5]], blk := 69632 } => cond (decide (r3 = 0) && decide (r4 = 0) && decide (r5 = 0) && decide (r6 = 0) && decide (r7 = 0) && decide (r8 = 0) && decide (r9 = 0) && decide (r10 = 0) && decide (r11 = 0) && decide (r12 = 0) && decide (r13 = 0) && decide (r14 = 0)) (some (t0, t9, t10, o2_0, o2_1, o2_2, o2_3, o2_4, o2_5)) none
  | _ => none
theorem decentry_Get_n2_ok (s : St) (x : Ientry_Get_n2) (h : decentry_Get_n2 s = some x) : s = Sentry_Get_n2 x := by
  unfold decentry_Get_n2 at h
  split at h
  · replace h := cond_noneO h; obtain ⟨hg, h⟩ := h; simp only [Bool.and_eq_true, decide_eq_true_eq] at hg; simp only [hg]; cases h; rfl
  · cases h
def outentry_Get_n2 : Ientry_Get_n2 → (Ex → St → Ans) → Yentry_Get_n2 → Ans := fun (t0, t9, t10, o2_0, o2_1, o2_2, o2_3, o2_4, o2_5) K => fun t60_y => K (Ex.norm) { env := [(2, AV.ptr 0 0), (4, AV.ptr 1 0), (5, AV.ptr 2 0), (60, AV.bool t60_y)], stk := [[]], H := [AE.Obj.cells [AV.int IntKind.i64 (0), AV.int IntKind.i64 (0), AV.int IntKind.i64 (0), AV.int IntKind.i64 (0), AV.int IntKind.i64 (0), AV.int IntKind.i64 (0)], AE.Obj.cells [AV.int IntKind.i64 (0), AV.int IntKind.i64 (0), AV.int IntKind.i64 (0), AV.int IntKind.i64 (0), AV.int IntKind.i64 (0), AV.int IntKind.i64 (0)], AE.Obj.cells [AV.int IntKind.i64 o2_0, AV.int IntKind.i64 o2_1, AV.int IntKind.i64 o2_2, AV.int IntKind.i64 o2_3, AV.int IntKind.i64 o2_4, AV.int IntKind.i64 o2_5]], blk := 69632 }
def nodeentry_Get_n2 {β : Type} : Ientry_Get_n2 → (Yentry_Get_n2 → Option β) → Option β := fun (t0, t9, t10, o2_0, o2_1, o2_2, o2_3, o2_4, o2_5) exit => (bif t10 != (0 : Int) then (exit (true)) else (exit (!t9 == t0)))
def nodeDentry_Get_n2 (i : Ientry_Get_n2) : Option Yentry_Get_n2 := nodeentry_Get_n2 i some
theorem nodeentry_Get_n2_nat (i : Ientry_Get_n2) (k : Yentry_Get_n2 → Ans) : nodeentry_Get_n2 i k = bindO (nodeDentry_Get_n2 i) k := by
  obtain ⟨t0, t9, t10, o2_0, o2_1, o2_2, o2_3, o2_4, o2_5⟩ := i
  simp only [nodeDentry_Get_n2, nodeentry_Get_n2, bindO_cond, bindO_assoc, bindO_none, bindO_pure, bindO_elim, bindO_unP]
theorem nodeentry_Get_n2_ok (i : Ientry_Get_n2) (K : Ex → St → Ans) : codeI Try.tab enventry_Get noHint (codeD Try.tab enventry_Get noHint 0 64) 70 63 annLentry_Get_n2 Lentry_Get_n2 (weakP 0 (exk [2, 4, 5, 60] [2, 3] []) K) (Sentry_Get_n2 i) = nodeentry_Get_n2 i (outentry_Get_n2 i K) := by kernel_rfl
theorem GNentry_Get_n2_ok : CSum Try.prog 63 Lentry_Get_n2 (sumN decentry_Get_n2 nodeDentry_Get_n2 outentry_Get_n2) := csum_node mixed tabOk enventry_GetOk 0 (exk [2, 4, 5, 60] [2, 3] []) annLentry_Get_n2_ok decentry_Get_n2_ok nodeentry_Get_n2_ok nodeentry_Get_n2_nat
noncomputable def Gentry_Get_n2 : (Ex → St → Ans) → St → Ans := (sumN decentry_Get_n2 nodeDentry_Get_n2 outentry_Get_n2)
theorem Gentry_Get_n2_ok : CSum Try.prog 63 Lentry_Get_n2 Gentry_Get_n2 := GNentry_Get_n2_ok
noncomputable def Lentry_Get_n1 : Code := codeAt [1, 1, 1, 1, 1, 0, 1, 0, 0] bentry_Get
noncomputable def annLentry_Get_n1 : Ann := .none
theorem annLentry_Get_n1_ok : AnnOk Try.prog 63 Lentry_Get_n1 annLentry_Get_n1 := (annOk_none _ _ _)
abbrev Ientry_Get_n1 := (List UInt8) × (Int) × (Int) × (Int) × (Int) × (Int) × (Int) × (List UInt8) × (Int)
abbrev Yentry_Get_n1 := Unit
def Sentry_Get_n1 : Ientry_Get_n1 → St := fun (t0, o2_0, o2_1, o2_2, o2_3, o2_4, o2_5, o3_0, o3_1) => { env := [(0, AV.str t0), (2, AV.ptr 0 0), (4, AV.ptr 1 0), (5, AV.ptr 2 0), (6, AV.ptr 3 0), (21, AV.int IntKind.i64 (2))], stk := [[]], H := [AE.Obj.cells [AV.int IntKind.i64 (0), AV.int IntKind.i64 (0), AV.int IntKind.i64 (0), AV.int IntKind.i64 (0), AV.int IntKind.i64 (0), AV.int IntKind.i64 (0)], AE.Obj.cells [AV.int IntKind.i64 (0), AV.int IntKind.i64 (0), AV.int IntKind.i64 (0), AV.int IntKind.i64 (0), AV.int IntKind.i64 (0), AV.int IntKind.i64 (0)], AE.Obj.cells [AV.int IntKind.i64 o2_0, AV.int IntKind.i64 o2_1, AV.int IntKind.i64 o2_2, AV.int IntKind.i64 o2_3, AV.int IntKind.i64 o2_4, AV.int IntKind.i64 o2_5], AE.Obj.cells [AV.str o3_0, AV.int IntKind.i64 o3_1]], blk := 69632 }
def decentry_Get_n1 (s : St) : Option Ientry_Get_n1 := match s with
  | { env := [(0, AV.str t0), (2, AV.ptr 0 0), (4, AV.ptr 1 0), (5, AV.ptr 2 0), (6, AV.ptr 3 0), (21, AV.int IntKind.i64 r1)], stk := [[]], H := [AE.Obj.cells [AV.int IntKind.i64 r2, AV.int IntKind.i64 r3, AV.int IntKind.i64 r4, AV.int IntKind.i64 r5, AV.int IntKind.i64 r6, AV.int IntKind.i64 r7], AE.Obj.cells [AV.int IntKind.i64 r8, AV.int IntKind.i64 r9, AV.int IntKind.i64 r10, AV.int IntKind.i64 r11, AV.int IntKind.i64 r12, AV.int IntKind.i64 r13], AE.Obj.cells [AV.int IntKind.i64 o2_0, AV.int IntKind.i64 o2_1, AV.int IntKind.i64 o2_2, AV.int IntKind.i64 o2_3, AV.int IntKind.i64 o2_4, AV.int IntKind.i64 o2_5], AE.Obj.cells [AV.str o3_0, AV.int IntKind.i64 o3_1]], blk := 69632 } => cond (decide (r1 = 2) && decide (r2 = 0) && decide (r3 = 0) && decide (r4 = 0) && decide (r5 = 0) && decide (r6 = 0) && decide (r7 = 0) && decide (r8 = 0) && decide (r9 = 0) && decide (r10 = 0) && decide (r11 = 0) && decide (r12 = 0) && decide (r13 = 0)) (some (t0, o2_0, o2_1, o2_2, o2_3, o2_4, o2_5, o3_0, o3_1)) none
  | _ => none
theorem decentry_Get_n1_ok (s : St) (x : Ientry_Get_n1) (h : decentry_Get_n1 s = some x) : s = Sentry_Get_n1 x := by
  unfold decentry_Get_n1 at h
  split at h
  · replace h := cond_noneO h; obtain ⟨hg, h⟩ := h; simp only [Bool.and_eq_true, decide_eq_true_eq] at hg; simp only [hg]; cases h; rfl
  · cases h
def outentry_Get_n1 : Ientry_Get_n1 → (Ex → St → Ans) → Yentry_Get_n1 → Ans := fun (t0, o2_0, o2_1, o2_2, o2_3, o2_4, o2_5, o3_0, o3_1) K => fun _ => K (Ex.exit 0) { env := [(0, AV.str t0), (2, AV.ptr 0 0), (4, AV.ptr 1 0), (5, AV.ptr 2 0), (6, AV.ptr 3 0)], stk := [[]], H := [AE.Obj.cells [AV.int IntKind.i64 (0), AV.int IntKind.i64 (0), AV.int IntKind.i64 (0), AV.int IntKind.i64 (0), AV.int IntKind.i64 (0), AV.int IntKind.i64 (0)], AE.Obj.cells [AV.int IntKind.i64 (0), AV.int IntKind.i64 (0), AV.int IntKind.i64 (0), AV.int IntKind.i64 (0), AV.int IntKind.i64 (0), AV.int IntKind.i64 (0)], AE.Obj.cells [AV.int IntKind.i64 o2_0, AV.int IntKind.i64 o2_1, AV.int IntKind.i64 o2_2, AV.int IntKind.i64 o2_3, AV.int IntKind.i64 o2_4, AV.int IntKind.i64 o2_5], AE.Obj.cells [AV.str o3_0, AV.int IntKind.i64 o3_1]], blk := 69632 }
def nodeentry_Get_n1 {β : Type} : Ientry_Get_n1 → (Yentry_Get_n1 → Option β) → Option β := fun (t0, o2_0, o2_1, o2_2, o2_3, o2_4, o2_5, o3_0, o3_1) exit => (exit ())
def nodeDentry_Get_n1 (i : Ientry_Get_n1) : Option Yentry_Get_n1 := nodeentry_Get_n1 i some
theorem nodeentry_Get_n1_nat (i : Ientry_Get_n1) (k : Yentry_Get_n1 → Ans) : nodeentry_Get_n1 i k = bindO (nodeDentry_Get_n1 i) k := by
  obtain ⟨t0, o2_0, o2_1, o2_2, o2_3, o2_4, o2_5, o3_0, o3_1⟩ := i
  simp only [nodeDentry_Get_n1, nodeentry_Get_n1, bindO_cond, bindO_assoc, bindO_none, bindO_pure, bindO_elim, bindO_unP]
theorem nodeentry_Get_n1_ok (i : Ientry_Get_n1) (K : Ex → St → Ans) : codeI Try.tab enventry_Get noHint (codeD Try.tab enventry_Get noHint 0 64) 70 63 annLentry_Get_n1 Lentry_Get_n1 (weakP 0 (exk [0, 2, 4, 5, 6, 21] [2, 3] [(0, [0, 2, 4, 5, 6])]) K) (Sentry_Get_n1 i) = nodeentry_Get_n1 i (outentry_Get_n1 i K) := by kernel_rfl
theorem GNentry_Get_n1_ok : CSum Try.prog 63 Lentry_Get_n1 (sumN decentry_Get_n1 nodeDentry_Get_n1 outentry_Get_n1) := csum_node mixed tabOk enventry_GetOk 0 (exk [0, 2, 4, 5, 6, 21] [2, 3] [(0, [0, 2, 4, 5, 6])]) annLentry_Get_n1_ok decentry_Get_n1_ok nodeentry_Get_n1_ok nodeentry_Get_n1_nat
abbrev Ientry_Get_n1v1 := (List UInt8) × (Int) × (Int) × (Int) × (Int) × (Int) × (Int) × (List UInt8) × (Int)
abbrev Yentry_Get_n1v1 := (Int) × (Int) × (Int) × (List UInt8) × (Int)
def Sentry_Get_n1v1 : Ientry_Get_n1v1 → St := fun (t0, o2_0, o2_1, o2_2, o2_3, o2_4, o2_5, o3_0, o3_1) => { env := [(0, AV.str t0), (2, AV.ptr 0 0), (4, AV.ptr 1 0), (5, AV.ptr 2 0), (6, AV.ptr 3 0), (21, AV.int IntKind.i64 (0))], stk := [[]], H := [AE.Obj.cells [AV.int IntKind.i64 (0), AV.int IntKind.i64 (0), AV.int IntKind.i64 (0), AV.int IntKind.i64 (0), AV.int IntKind.i64 (0), AV.int IntKind.i64 (0)], AE.Obj.cells [AV.int IntKind.i64 (0), AV.int IntKind.i64 (0), AV.int IntKind.i64 (0), AV.int IntKind.i64 (0), AV.int IntKind.i64 (0), AV.int IntKind.i64 (0)], AE.Obj.cells [AV.int IntKind.i64 o2_0, AV.int IntKind.i64 o2_1, AV.int IntKind.i64 o2_2, AV.int IntKind.i64 o2_3, AV.int IntKind.i64 o2_4, AV.int IntKind.i64 o2_5], AE.Obj.cells [AV.str o3_0, AV.int IntKind.i64 o3_1]], blk := 69632 }
def decentry_Get_n1v1 (s : St) : Option Ientry_Get_n1v1 := match s with
  | { env := [(0, AV.str t0), (2, AV.ptr 0 0), (4, AV.ptr 1 0), (5, AV.ptr 2 0), (6, AV.ptr 3 0), (21, AV.int IntKind.i64 r1)], stk := [[]], H := [AE.Obj.cells [AV.int IntKind.i64 r2, AV.int IntKind.i64 r3, AV.int IntKind.i64 r4, AV.int IntKind.i64 r5, AV.int IntKind.i64 r6, AV.int IntKind.i64 r7], AE.Obj.cells [AV.int IntKind.i64 r8, AV.int IntKind.i64 r9, AV.int IntKind.i64 r10, AV.int IntKind.i64 r11, AV.int IntKind.i64 r12, AV.int IntKind.i64 r13], AE.Obj.cells [AV.int IntKind.i64 o2_0, AV.int IntKind.i64 o2_1, AV.int IntKind.i64 o2_2, AV.int IntKind.i64 o2_3, AV.int IntKind.i64 o2_4, AV.int IntKind.i64 o2_5], AE.Obj.cells [AV.str o3_0, AV.int IntKind.i64 o3_1]], blk := 69632 } => cond (decide (r1 = 0) && decide (r2 = 0) && decide (r3 = 0) && decide (r4 = 0) && decide (r5 = 0) && decide (r6 = 0) && decide (r7 = 0) && decide (r8 = 0) && decide (r9 = 0) && decide (r10 = 0) && decide (r11 = 0) && decide (r12 = 0) && decide (r13 = 0)) (some (t0, o2_0, o2_1, o2_2, o2_3, o2_4, o2_5, o3_0, o3_1)) none
  | _ => none
theorem decentry_Get_n1v1_ok (s : St) (x : Ientry_Get_n1v1) (h : decentry_Get_n1v1 s = some x) : s = Sentry_Get_n1v1 x := by
  unfold decentry_Get_n1v1 at h
  split at h
  · replace h := cond_noneO h; obtain ⟨hg, h⟩ := h; simp only [Bool.and_eq_true, decide_eq_true_eq] at hg; simp only [hg]; cases h; rfl
  · cases h
def outentry_Get_n1v1 : Ientry_Get_n1v1 → (Ex → St → Ans) → Yentry_Get_n1v1 → Ans := fun (t0, o2_0, o2_1, o2_2, o2_3, o2_4, o2_5, o3_0, o3_1) K => unP fun o2_0_y => unP fun o2_1_y => unP fun o2_2_y => unP fun o3_0_y o3_1_y => K (Ex.norm) { env := [(0, AV.str t0), (2, AV.ptr 0 0), (4, AV.ptr 1 0), (5, AV.ptr 2 0), (6, AV.ptr 3 0), (21, AV.int IntKind.i64 (1))], stk := [[]], H := [AE.Obj.cells [AV.int IntKind.i64 (0), AV.int IntKind.i64 (0), AV.int IntKind.i64 (0), AV.int IntKind.i64 (0), AV.int IntKind.i64 (0), AV.int IntKind.i64 (0)], AE.Obj.cells [AV.int IntKind.i64 (0), AV.int IntKind.i64 (0), AV.int IntKind.i64 (0), AV.int IntKind.i64 (0), AV.int IntKind.i64 (0), AV.int IntKind.i64 (0)], AE.Obj.cells [AV.int IntKind.i64 o2_0_y, AV.int IntKind.i64 o2_1_y, AV.int IntKind.i64 o2_2_y, AV.int IntKind.i64 o2_3, AV.int IntKind.i64 o2_4, AV.int IntKind.i64 o2_5], AE.Obj.cells [AV.str o3_0_y, AV.int IntKind.i64 o3_1_y]], blk := 69633 }
def nodeentry_Get_n1v1 {β : Type} : Ientry_Get_n1v1 → (Yentry_Get_n1v1 → Option β) → Option β := fun (t0, o2_0, o2_1, o2_2, o2_3, o2_4, o2_5, o3_0, o3_1) exit => (bindO (fnDfield_Reader_Num ((7 : Int), o3_0, o3_1)) (unP fun r => unP fun o0_0 o0_1 => (bindO (fnDfield_Reader_Num ((7 : Int), o0_0, o0_1)) (unP fun r_2 => unP fun o0_0_2 o0_1_2 => (bindO (fnDfield_Reader_Num ((1 : Int), o0_0_2, o0_1_2)) (unP fun r_3 => unP fun o0_0_3 o0_1_3 => (exit (r, r_2, IntKind.wrap IntKind.i64 (r_3 - (1 : Int)), o0_0_3, o0_1_3))))))))
def nodeDentry_Get_n1v1 (i : Ientry_Get_n1v1) : Option Yentry_Get_n1v1 := nodeentry_Get_n1v1 i some
theorem nodeentry_Get_n1v1_nat (i : Ientry_Get_n1v1) (k : Yentry_Get_n1v1 → Ans) : nodeentry_Get_n1v1 i k = bindO (nodeDentry_Get_n1v1 i) k := by
  obtain ⟨t0, o2_0, o2_1, o2_2, o2_3, o2_4, o2_5, o3_0, o3_1⟩ := i
  simp only [nodeDentry_Get_n1v1, nodeentry_Get_n1v1, bindO_cond, bindO_assoc, bindO_none, bindO_pure, bindO_elim, bindO_unP]
theorem nodeentry_Get_n1v1_ok (i : Ientry_Get_n1v1) (K : Ex → St → Ans) : codeI Try.tab enventry_Get noHint (codeD Try.tab enventry_Get noHint 0 64) 70 63 annLentry_Get_n1 Lentry_Get_n1 (weakP 0 (exk [0, 2, 4, 5, 6, 21] [2, 3] [(0, [0, 2, 4, 5, 6])]) K) (Sentry_Get_n1v1 i) = nodeentry_Get_n1v1 i (outentry_Get_n1v1 i K) := by kernel_rfl
theorem GNentry_Get_n1v1_ok : CSum Try.prog 63 Lentry_Get_n1 (sumN decentry_Get_n1v1 nodeDentry_Get_n1v1 outentry_Get_n1v1) := csum_node mixed tabOk enventry_GetOk 0 (exk [0, 2, 4, 5, 6, 21] [2, 3] [(0, [0, 2, 4, 5, 6])]) annLentry_Get_n1_ok decentry_Get_n1v1_ok nodeentry_Get_n1v1_ok nodeentry_Get_n1v1_nat
abbrev Ientry_Get_n1v2 := (List UInt8) × (Int) × (Int) × (Int) × (Int) × (Int) × (Int) × (List UInt8) × (Int)
abbrev Yentry_Get_n1v2 := (Int) × (Int) × (Int) × (List UInt8) × (Int)
def Sentry_Get_n1v2 : Ientry_Get_n1v2 → St := fun (t0, o2_0, o2_1, o2_2, o2_3, o2_4, o2_5, o3_0, o3_1) => { env := [(0, AV.str t0), (2, AV.ptr 0 0), (4, AV.ptr 1 0), (5, AV.ptr 2 0), (6, AV.ptr 3 0), (21, AV.int IntKind.i64 (1))], stk := [[]], H := [AE.Obj.cells [AV.int IntKind.i64 (0), AV.int IntKind.i64 (0), AV.int IntKind.i64 (0), AV.int IntKind.i64 (0), AV.int IntKind.i64 (0), AV.int IntKind.i64 (0)], AE.Obj.cells [AV.int IntKind.i64 (0), AV.int IntKind.i64 (0), AV.int IntKind.i64 (0), AV.int IntKind.i64 (0), AV.int IntKind.i64 (0), AV.int IntKind.i64 (0)], AE.Obj.cells [AV.int IntKind.i64 o2_0, AV.int IntKind.i64 o2_1, AV.int IntKind.i64 o2_2, AV.int IntKind.i64 o2_3, AV.int IntKind.i64 o2_4, AV.int IntKind.i64 o2_5], AE.Obj.cells [AV.str o3_0, AV.int IntKind.i64 o3_1]], blk := 69632 }
def decentry_Get_n1v2 (s : St) : Option Ientry_Get_n1v2 := match s with
  | { env := [(0, AV.str t0), (2, AV.ptr 0 0), (4, AV.ptr 1 0), (5, AV.ptr 2 0), (6, AV.ptr 3 0), (21, AV.int IntKind.i64 r1)], stk := [[]], H := [AE.Obj.cells [AV.int IntKind.i64 r2, AV.int IntKind.i64 r3, AV.int IntKind.i64 r4, AV.int IntKind.i64 r5, AV.int IntKind.i64 r6, AV.int IntKind.i64 r7], AE.Obj.cells [AV.int IntKind.i64 r8, AV.int IntKind.i64 r9, AV.int IntKind.i64 r10, AV.int IntKind.i64 r11, AV.int IntKind.i64 r12, AV.int IntKind.i64 r13], AE.Obj.cells [AV.int IntKind.i64 o2_0, AV.int IntKind.i64 o2_1, AV.int IntKind.i64 o2_2, AV.int IntKind.i64 o2_3, AV.int IntKind.i64 o2_4, AV.int IntKind.i64 o2_5], AE.Obj.cells [AV.str o3_0, AV.int IntKind.i64 o3_1]], blk := 69632 } => cond (decide (r1 = 1) && decide (r2 = 0) && decide (r3 = 0) && decide (r4 = 0) && decide (r5 = 0) && decide (r6 = 0) && decide (r7 = 0) && decide (r8 = 0) && decide (r9 = 0) && decide (r10 = 0) && decide (r11 = 0) && decide (r12 = 0) && decide (r13 = 0)) (some (t0, o2_0, o2_1, o2_2, o2_3, o2_4, o2_5, o3_0, o3_1)) none
  | _ => none
theorem decentry_Get_n1v2_ok (s : St) (x : Ientry_Get_n1v2) (h : decentry_Get_n1v2 s = some x) : s = Sentry_Get_n1v2 x := by
  unfold decentry_Get_n1v2 at h
  split at h
  · replace h := cond_noneO h; obtain ⟨hg, h⟩ := h; simp only [Bool.and_eq_true, decide_eq_true_eq] at hg; simp only [hg]; cases h; rfl
  · cases h
def outentry_Get_n1v2 : Ientry_Get_n1v2 → (Ex → St → Ans) → Yentry_Get_n1v2 → Ans := fun (t0, o2_0, o2_1, o2_2, o2_3, o2_4, o2_5, o3_0, o3_1) K => unP fun o2_3_y => unP fun o2_4_y => unP fun o2_5_y => unP fun o3_0_y o3_1_y => K (Ex.norm) { env := [(0, AV.str t0), (2, AV.ptr 0 0), (4, AV.ptr 1 0), (5, AV.ptr 2 0), (6, AV.ptr 3 0), (21, AV.int IntKind.i64 (2))], stk := [[]], H := [AE.Obj.cells [AV.int IntKind.i64 (0), AV.int IntKind.i64 (0), AV.int IntKind.i64 (0), AV.int IntKind.i64 (0), AV.int IntKind.i64 (0), AV.int IntKind.i64 (0)], AE.Obj.cells [AV.int IntKind.i64 (0), AV.int IntKind.i64 (0), AV.int IntKind.i64 (0), AV.int IntKind.i64 (0), AV.int IntKind.i64 (0), AV.int IntKind.i64 (0)], AE.Obj.cells [AV.int IntKind.i64 o2_0, AV.int IntKind.i64 o2_1, AV.int IntKind.i64 o2_2, AV.int IntKind.i64 o2_3_y, AV.int IntKind.i64 o2_4_y, AV.int IntKind.i64 o2_5_y], AE.Obj.cells [AV.str o3_0_y, AV.int IntKind.i64 o3_1_y]], blk := 69633 }
def nodeentry_Get_n1v2 {β : Type} : Ientry_Get_n1v2 → (Yentry_Get_n1v2 → Option β) → Option β := fun (t0, o2_0, o2_1, o2_2, o2_3, o2_4, o2_5, o3_0, o3_1) exit => (bindO (fnDfield_Reader_Num ((7 : Int), o3_0, o3_1)) (unP fun r => unP fun o0_0 o0_1 => (bindO (fnDfield_Reader_Num ((7 : Int), o0_0, o0_1)) (unP fun r_2 => unP fun o0_0_2 o0_1_2 => (bindO (fnDfield_Reader_Num ((1 : Int), o0_0_2, o0_1_2)) (unP fun r_3 => unP fun o0_0_3 o0_1_3 => (exit (r, r_2, IntKind.wrap IntKind.i64 (r_3 - (1 : Int)), o0_0_3, o0_1_3))))))))
def nodeDentry_Get_n1v2 (i : Ientry_Get_n1v2) : Option Yentry_Get_n1v2 := nodeentry_Get_n1v2 i some
theorem nodeentry_Get_n1v2_nat (i : Ientry_Get_n1v2) (k : Yentry_Get_n1v2 → Ans) : nodeentry_Get_n1v2 i k = bindO (nodeDentry_Get_n1v2 i) k := by
  obtain ⟨t0, o2_0, o2_1, o2_2, o2_3, o2_4, o2_5, o3_0, o3_1⟩ := i
  simp only [nodeDentry_Get_n1v2, nodeentry_Get_n1v2, bindO_cond, bindO_assoc, bindO_none, bindO_pure, bindO_elim, bindO_unP]
theorem nodeentry_Get_n1v2_ok (i : Ientry_Get_n1v2) (K : Ex → St → Ans) : codeI Try.tab enventry_Get noHint (codeD Try.tab enventry_Get noHint 0 64) 70 63 annLentry_Get_n1 Lentry_Get_n1 (weakP 0 (exk [0, 2, 4, 5, 6, 21] [2, 3] [(0, [0, 2, 4, 5, 6])]) K) (Sentry_Get_n1v2 i) = nodeentry_Get_n1v2 i (outentry_Get_n1v2 i K) := by kernel_rfl
theorem GNentry_Get_n1v2_ok : CSum Try.prog 63 Lentry_Get_n1 (sumN decentry_Get_n1v2 nodeDentry_Get_n1v2 outentry_Get_n1v2) := csum_node mixed tabOk enventry_GetOk 0 (exk [0, 2, 4, 5, 6, 21] [2, 3] [(0, [0, 2, 4, 5, 6])]) annLentry_Get_n1_ok decentry_Get_n1v2_ok nodeentry_Get_n1v2_ok nodeentry_Get_n1v2_nat
noncomputable def Gentry_Get_n1 : (Ex → St → Ans) → St → Ans := (altN decentry_Get_n1 (sumN decentry_Get_n1 nodeDentry_Get_n1 outentry_Get_n1) (altN decentry_Get_n1v1 (sumN decentry_Get_n1v1 nodeDentry_Get_n1v1 outentry_Get_n1v1) (sumN decentry_Get_n1v2 nodeDentry_Get_n1v2 outentry_Get_n1v2)))
theorem Gentry_Get_n1_ok : CSum Try.prog 63 Lentry_Get_n1 Gentry_Get_n1 := (csum_altN GNentry_Get_n1_ok (csum_altN GNentry_Get_n1v1_ok GNentry_Get_n1v2_ok))
noncomputable def Lentry_Get_n0 : Code := codeAt [1, 1, 1, 1, 1, 0, 1] bentry_Get
noncomputable def annLentry_Get_n0 : Ann := (.block (.at 0 [0, 2, 4, 5, 6, 21] (.loop (.cut 0 [0, 2, 4, 5, 6, 21] Gentry_Get_n1))))
theorem annLentry_Get_n0_ok : AnnOk Try.prog 63 Lentry_Get_n0 annLentry_Get_n0 := (annOk_at Gentry_Get_n1_ok)
abbrev Ientry_Get_n0 := (List UInt8) × (List UInt8) × (Int)
abbrev Yentry_Get_n0 := (Int) × (Int) × (Int) × (Int) × (Int) × (Int) × (List UInt8) × (Int)
def Sentry_Get_n0 : Ientry_Get_n0 → St := fun (t0, o3_0, o3_1) => { env := [(0, AV.str t0), (2, AV.ptr 0 0), (4, AV.ptr 1 0), (5, AV.ptr 2 0), (6, AV.ptr 3 0), (21, AV.int IntKind.i64 (0))], stk := [[]], H := [AE.Obj.cells [AV.int IntKind.i64 (0), AV.int IntKind.i64 (0), AV.int IntKind.i64 (0), AV.int IntKind.i64 (0), AV.int IntKind.i64 (0), AV.int IntKind.i64 (0)], AE.Obj.cells [AV.int IntKind.i64 (0), AV.int IntKind.i64 (0), AV.int IntKind.i64 (0), AV.int IntKind.i64 (0), AV.int IntKind.i64 (0), AV.int IntKind.i64 (0)], AE.Obj.cells [AV.int IntKind.i64 (0), AV.int IntKind.i64 (0), AV.int IntKind.i64 (0), AV.int IntKind.i64 (0), AV.int IntKind.i64 (0), AV.int IntKind.i64 (0)], AE.Obj.cells [AV.str o3_0, AV.int IntKind.i64 o3_1]], blk := 69632 }
def decentry_Get_n0 (s : St) : Option Ientry_Get_n0 := match s with
  | { env := [(0, AV.str t0), (2, AV.ptr 0 0), (4, AV.ptr 1 0), (5, AV.ptr 2 0), (6, AV.ptr 3 0), (21, AV.int IntKind.i64 r1)], stk := [[]], H := [AE.Obj.cells [AV.int IntKind.i64 r2, AV.int IntKind.i64 r3, AV.int IntKind.i64 r4, AV.int IntKind.i64 r5, AV.int IntKind.i64 r6, AV.int IntKind.i64 r7], AE.Obj.cells [AV.int IntKind.i64 r8, AV.int IntKind.i64 r9, AV.int IntKind.i64 r10, AV.int IntKind.i64 r11, AV.int IntKind.i64 r12, AV.int IntKind.i64 r13], AE.Obj.cells [AV.int IntKind.i64 r14, AV.int IntKind.i64 r15, AV.int IntKind.i64 r16, AV.int IntKind.i64 r17, AV.int IntKind.i64 r18, AV.int IntKind.i64 r19], AE.Obj.cells [AV.str o3_0, AV.int IntKind.i64 o3_1]], blk := 69632 } => cond (decide (r1 = 0) && decide (r2 = 0) && decide (r3 = 0) && decide (r4 = 0) && decide (r5 = 0) && decide (r6 = 0) && decide (r7 = 0) && decide (r8 = 0) && decide (r9 = 0) && decide (r10 = 0) && decide (r11 = 0) && decide (r12 = 0) && decide (r13 = 0) && decide (r14 = 0) && decide (r15 = 0) && decide (r16 = 0) && decide (r17 = 0) && decide (r18 = 0) && decide (r19 = 0)) (some (t0, o3_0, o3_1)) none
  | _ => none
theorem decentry_Get_n0_ok (s : St) (x : Ientry_Get_n0) (h : decentry_Get_n0 s = some x) : s = Sentry_Get_n0 x := by
  unfold decentry_Get_n0 at h
  split at h
  · replace h := cond_noneO h; obtain ⟨hg, h⟩ := h; simp only [Bool.and_eq_true, decide_eq_true_eq] at hg; simp only [hg]; cases h; rfl
  · cases h
def outentry_Get_n0 : Ientry_Get_n0 → (Ex → St → Ans) → Yentry_Get_n0 → Ans := fun (t0, o3_0, o3_1) K => unP fun o2_0_y => unP fun o2_1_y => unP fun o2_2_y => unP fun o2_3_y => unP fun o2_4_y => unP fun o2_5_y => unP fun o3_0_y o3_1_y => K (Ex.norm) { env := [(0, AV.str t0), (2, AV.ptr 0 0), (4, AV.ptr 1 0), (5, AV.ptr 2 0), (6, AV.ptr 3 0)], stk := [[]], H := [AE.Obj.cells [AV.int IntKind.i64 (0), AV.int IntKind.i64 (0), AV.int IntKind.i64 (0), AV.int IntKind.i64 (0), AV.int IntKind.i64 (0), AV.int IntKind.i64 (0)], AE.Obj.cells [AV.int IntKind.i64 (0), AV.int IntKind.i64 (0), AV.int IntKind.i64 (0), AV.int IntKind.i64 (0), AV.int IntKind.i64 (0), AV.int IntKind.i64 (0)], AE.Obj.cells [AV.int IntKind.i64 o2_0_y, AV.int IntKind.i64 o2_1_y, AV.int IntKind.i64 o2_2_y, AV.int IntKind.i64 o2_3_y, AV.int IntKind.i64 o2_4_y, AV.int IntKind.i64 o2_5_y], AE.Obj.cells [AV.str o3_0_y, AV.int IntKind.i64 o3_1_y]], blk := 69632 }
def nodeentry_Get_n0 {β : Type} : Ientry_Get_n0 → (Yentry_Get_n0 → Option β) → Option β := fun (t0, o3_0, o3_1) exit => (bindO (nodeDentry_Get_n1v1 (t0, (0 : Int), (0 : Int), (0 : Int), (0 : Int), (0 : Int), (0 : Int), o3_0, o3_1)) (unP fun o2_0 => unP fun o2_1 => unP fun o2_2 => unP fun o3_0_2 o3_1_2 => (bindO (nodeDentry_Get_n1v2 (t0, o2_0, o2_1, o2_2, (0 : Int), (0 : Int), (0 : Int), o3_0_2, o3_1_2)) (unP fun o2_3 => unP fun o2_4 => unP fun o2_5 => unP fun o3_0_3 o3_1_3 => (bindO (nodeDentry_Get_n1 (t0, o2_0, o2_1, o2_2, o2_3, o2_4, o2_5, o3_0_3, o3_1_3)) fun _ => (exit (o2_0, o2_1, o2_2, o2_3, o2_4, o2_5, o3_0_3, o3_1_3)))))))
def nodeDentry_Get_n0 (i : Ientry_Get_n0) : Option Yentry_Get_n0 := nodeentry_Get_n0 i some
theorem nodeentry_Get_n0_nat (i : Ientry_Get_n0) (k : Yentry_Get_n0 → Ans) : nodeentry_Get_n0 i k = bindO (nodeDentry_Get_n0 i) k := by
  obtain ⟨t0, o3_0, o3_1⟩ := i
  simp only [nodeDentry_Get_n0, nodeentry_Get_n0, bindO_cond, bindO_assoc, bindO_none, bindO_pure, bindO_elim, bindO_unP]
theorem nodeentry_Get_n0_ok (i : Ientry_Get_n0) (K : Ex → St → Ans) : codeI Try.tab enventry_Get noHint (codeD Try.tab enventry_Get noHint 0 64) 70 63 annLentry_Get_n0 Lentry_Get_n0 (weakP 0 (exk [0, 2, 4, 5, 6] [2, 3] []) K) (Sentry_Get_n0 i) = nodeentry_Get_n0 i (outentry_Get_n0 i K) := by kernel_rfl
theorem GNentry_Get_n0_ok : CSum Try.prog 63 Lentry_Get_n0 (sumN decentry_Get_n0 nodeDentry_Get_n0 outentry_Get_n0) := csum_node mixed tabOk enventry_GetOk 0 (exk [0, 2, 4, 5, 6] [2, 3] []) annLentry_Get_n0_ok decentry_Get_n0_ok nodeentry_Get_n0_ok nodeentry_Get_n0_nat
noncomputable def Gentry_Get_n0 : (Ex → St → Ans) → St → Ans := (sumN decentry_Get_n0 nodeDentry_Get_n0 outentry_Get_n0)
theorem Gentry_Get_n0_ok : CSum Try.prog 63 Lentry_Get_n0 Gentry_Get_n0 := GNentry_Get_n0_ok
noncomputable def annentry_Get : Ann := (.seq .none (.seq .none (.seq .none (.seq .none (.seq .none (.seq (.seq .none (.cut 0 [0, 2, 4, 5, 6, 21] Gentry_Get_n0)) (.seq .none (.seq (.seq .none (.seq (.cut 0 [0, 2, 4, 5, 9, 10] Gentry_Get_n2) .none)) .none))))))))
theorem annentry_Get_ok : AnnOk Try.prog 63 bentry_Get annentry_Get := ⟨(annOk_none _ _ _), ⟨(annOk_none _ _ _), ⟨(annOk_none _ _ _), ⟨(annOk_none _ _ _), ⟨(annOk_none _ _ _), ⟨⟨(annOk_none _ _ _), Gentry_Get_n0_ok⟩, ⟨(annOk_none _ _ _), ⟨⟨(annOk_none _ _ _), ⟨Gentry_Get_n2_ok, (annOk_none _ _ _)⟩⟩, (annOk_none _ _ _)⟩⟩⟩⟩⟩⟩⟩⟩
abbrev Aentry_Get := (List UInt8)
abbrev Yentry_Get := (Int) × (Int) × (Int) × (Int) × (Int) × (Int) × (Int)
def fnentry_Get {β : Type} : Aentry_Get → (Yentry_Get → Option β) → Option β := fun a0 exit => (bif (↑(List.length a0) : Int) != (64 : Int) then (exit ((0 : Int), (0 : Int), (0 : Int), (0 : Int), (0 : Int), (0 : Int), (12 : Int))) else (bindO (fnDfield_New (a0)) fun _ => (bindO (fnDfield_Reader_Bytes ((1 : Int), a0, (0 : Int))) (unP fun r => unP fun o0_0 o0_1 => (bif !r == [(69 : UInt8)] then (exit ((0 : Int), (0 : Int), (0 : Int), (0 : Int), (0 : Int), (0 : Int), (4 : Int))) else (bindO (nodeDentry_Get_n0 (a0, o0_0, o0_1)) (unP fun o2_0 => unP fun o2_1 => unP fun o2_2 => unP fun o2_3 => unP fun o2_4 => unP fun o2_5 => unP fun o3_0 o3_1 => (bif inR (31 : Int) (List.length a0 + (1 : Nat)) then (bindO (fnDcyclic_Tail (List.take (31 : Nat) a0)) fun r_2 => (bindO (fnDfield_Reader_Bytes ((↑(List.length r_2) : Int), o3_0, o3_1)) (unP fun r_3 => unP fun o0_0_2 o0_1_2 => (bif !r_3 == r_2 then (exit ((0 : Int), (0 : Int), (0 : Int), (0 : Int), (0 : Int), (0 : Int), (5 : Int))) else (bindO (fnDentry_Put (o2_0, o2_1, o2_2, o2_3, o2_4, o2_5)) (unP fun r_0 r_1 => (bindO (nodeDentry_Get_n2 (a0, r_0, r_1, o2_0, o2_1, o2_2, o2_3, o2_4, o2_5)) fun t60 => (bif t60 then (exit ((0 : Int), (0 : Int), (0 : Int), (0 : Int), (0 : Int), (0 : Int), (4 : Int))) else (exit (o2_0, o2_1, o2_2, o2_3, o2_4, o2_5, (0 : Int))))))))))) else none))))))))
def fnDentry_Get (a : Aentry_Get) : Option Yentry_Get := fnentry_Get a some
theorem fnentry_Get_nat (a : Aentry_Get) (k : Yentry_Get → Ans) : fnentry_Get a k = bindO (fnDentry_Get a) k := by
  obtain z := a
  simp only [fnDentry_Get, fnentry_Get, bindO_cond, bindO_assoc, bindO_none, bindO_pure, bindO_elim, bindO_unP]
def argsentry_Get : Aentry_Get → List AV := fun a0 => [AV.str a0]
def decAentry_Get (l : List AV) : Option Aentry_Get := match l with
  | [AV.str a0] => some (a0)
  | _ => none
theorem decAentry_Get_ok (l : List AV) (a : Aentry_Get) (h : decAentry_Get l = some a) : l = argsentry_Get a := by
  unfold decAentry_Get at h
  split at h
  · cases h; rfl
  · cases h
def rendentry_Get : Aentry_Get → Yentry_Get → AV := fun a0 => unP fun r_0_0_y => unP fun r_0_1_y => unP fun r_0_2_y => unP fun r_0_3_y => unP fun r_0_4_y => unP fun r_0_5_y r_1_y => AV.tup [AV.agg [AV.int IntKind.i64 r_0_0_y, AV.int IntKind.i64 r_0_1_y, AV.int IntKind.i64 r_0_2_y, AV.int IntKind.i64 r_0_3_y, AV.int IntKind.i64 r_0_4_y, AV.int IntKind.i64 r_0_5_y], AV.int IntKind.i64 r_1_y]
theorem rendentry_Get_ok : ∀ (a : Aentry_Get) (y : Yentry_Get), (rendentry_Get a y).closed1 = true := by
  rintro z y <;> first | rfl | exact Empty.elim y
theorem fnentry_Get_ok (a : Aentry_Get) : fnE Try.tab enventry_Get noHint 0 70 17 Try.f17.ntmps Try.f17.results.toList annentry_Get bentry_Get (argsentry_Get a) [] (fun v _ => some (v, [])) = fnentry_Get a (fun y => some (rendentry_Get a y, [])) := by kernel_rfl
def vFentry_Get (a : Aentry_Get) (K : AV → Ans) : Ans := bindO (fnDentry_Get a) fun y => K (rendentry_Get a y)
def Fentry_Get : List AV → (AV → Ans) → Ans := fun l K => bindO (decAentry_Get l) fun a => vFentry_Get a K
theorem Fentry_Get_ok : PureOk Try.prog 17 Fentry_Get := pure_mkD (hint := noHint) (d := 0) (n := 70) mixed tabOk enventry_GetOk Try.func17 (bodySome (by kernel_rfl)) (by decide +kernel) annentry_Get_ok decAentry_Get_ok fnentry_Get_ok fnentry_Get_nat rendentry_Get_ok
end Go.Proofs.R2
