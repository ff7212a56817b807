/- What the functions that ExtentRowsCardSaid reaches compute: part 6. -/
import Derived.Test.YtjgghofdajambaaGreatDoorOwnExtentRowsCardSaid5
set_option linter.unusedVariables false
set_option linter.unusedSimpArgs false
namespace Go.Proofs.R7R
open Go Go.AE
open Go.Proofs.R7 (fnDlaw20_works fnDlaw16_Begun9 sure9)
theorem bytes_ints (s : List UInt8) : bytesOf (intsOf s) = s := by
  unfold bytesOf intsOf
  rw [List.map_map]
  conv => rhs; rw [← List.map_id s]
  apply List.map_congr_left
  intro c _
  simp
theorem intsOf_append (a b : List UInt8) : intsOf (a ++ b) = intsOf a ++ intsOf b := by simp [intsOf]
theorem writeString_eq (s l : List UInt8) (h : s.length + l.length ≤ 140737488355328) : fnDq75 (s, intsOf l) = some ((s.length : Int), intsOf (l ++ s)) := by
  have e : (intsOf l).length = l.length := by simp [intsOf]
  have e2 : (intsOf s).length = s.length := by simp [intsOf]
  simp only [fnDq75, fnq75, fnDBuilder_copyCheck, bindO_pure, e, e2, intsOf_append]
  rw [ble_true (by omega)]; rfl
theorem string_eq (s : List UInt8) (h : s.length ≤ 9223372036854775807) : fnDBuilder_String (intsOf s) = some (s, intsOf s) := by
  unfold fnDBuilder_String
  rw [ble_true (by simpa [intsOf] using h), cond_true, bytes_ints]

abbrev Mp := List (Int × List UInt8)
theorem sure_len : sure9.length = 59 := by kernel_rfl
theorem home_eq (t c : Int) (off : Bool) (m : Mp) (ht : -9223372036854775808 ≤ t ∧ t ≤ 9223372036854775807) :
    fnDq83 (t, 35, 24, 2, 0, 25, 0, true, false, c, 0, off, 35, 2, 37, 22, sure9, [], [], [], [], m) = some (decide (0 ≤ t ∧ t < 35)) := by
  simp only [fnDq83, fnq83, nodeDq83_n0, nodeq83_n0, fnDq8, fnq8, sure_len, bindO_pure]
  by_cases h0 : t ≥ 0
  · rw [dec_true h0, cond_true]
    by_cases h1 : t < ((59 : Nat) : Int)
    · rw [dec_true h1, cond_true]
      by_cases h2 : t < 35
      · rw [dec_true h2, cond_true, dec_true (show 0 ≤ t ∧ t < 35 by omega)]; rfl
      · have e : IntKind.wrap IntKind.i64 (t - 35) = t - 35 := wrap64_self (by omega)
        rw [dec_false h2, cond_false, e, dec_false (show ¬ (t - 35 ≥ 24) by omega), dec_false (show ¬ (0 ≤ t ∧ t < 35) by omega)]; rfl
    · rw [dec_false h1, cond_false, dec_false (show ¬ (0 ≤ t ∧ t < 35) by omega)]; rfl
  · rw [dec_false h0, cond_false, dec_false (show ¬ (0 ≤ t ∧ t < 35) by omega)]; rfl
theorem stage_eq (t c : Int) (off : Bool) (m : Mp) (d : List UInt8) (ht : -9223372036854775808 ≤ t ∧ t ≤ 9223372036854775807) (hd : d.length = 64) (hm : m.length < 16) :
    fnDq82 (t, d, 35, 24, 2, 0, 25, 0, true, false, c, 0, off, 35, 2, 37, 22, sure9, [], [], [], [], m) = some (if 0 ≤ t ∧ t < 35 then (0, mput t d m) else (3, m)) := by
  have hl : (List.length d : Int) = 64 := by omega
  simp only [fnDq82, fnq82, nodeDq82_n0, nodeq82_n0, fnDq80, fnq80, nodeDq80_n0, nodeq80_n0, bindO_pure,
    home_eq t c off m ht, nodeDq82_n1, nodeq82_n1, fnDq66, fnq66, hl, dec_false (show ¬ ((m.length : Int) ≥ 16) by omega)]
  by_cases h : 0 ≤ t ∧ t < 35
  · rw [if_pos h, dec_true h]; rfl
  · rw [if_neg h, dec_false h]; rfl
end Go.Proofs.R7R
