/- What the functions that ExtentNoneCardSaid reaches compute: part 4. -/
import Derived.Test.YtjgghofdajambaaGreatDoorOwnExtentNoneCardSaid3
set_option linter.unusedVariables false
set_option linter.unusedSimpArgs false
namespace Go.Proofs.R7E
open Go Go.AE
open Go.Proofs.R7 (fnDlaw20_works)
theorem within_ex (a b c : Int) : ∃ r, fnDq32 (a, b, c) = some r := by
  simp only [fnDq32, fnq32, nodeDq32_n0, nodeq32_n0]
  cases decide (a ≥ b)
  · exact ⟨_, rfl⟩
  · exact ⟨_, rfl⟩
theorem check_ex (x y z : Int) : ∃ r, fnDq26 (x, y, z) = some r ∧ (r = 0 ∨ r = 3) := by
  obtain ⟨r1, h1⟩ := within_ex x 1 24
  obtain ⟨r2, h2⟩ := within_ex y 1 8
  obtain ⟨r3, h3⟩ := within_ex z 24 200
  simp only [fnDq26, fnq26, nodeDq26_n0, nodeq26_n0, h1, h2, h3, bindO]
  cases r1 <;> cases r2 <;> cases r3 <;> simp
theorem checked_ex (x y z n m : Int) : ∃ r, fnDq30 (x, y, z, n, m) = some r ∧ (r = 0 ∨ r = 3) := by
  obtain ⟨r, h, hr⟩ := check_ex x y z
  obtain ⟨q, hq⟩ := within_ex n 0 (IntKind.wrap IntKind.i64 (m - 1))
  simp only [fnDq30, fnq30, h, hq, bindO]
  rcases hr with rfl | rfl
  · cases q <;> simp
  · simp
theorem of_ex (x y z : Int) : ∃ y', fnDq31 (x, y, z) = some y' := by
  obtain ⟨r, h, hr⟩ := check_ex x y z
  simp only [fnDq31, fnq31, h, bindO]
  rcases hr with rfl | rfl
  · exact ⟨_, rfl⟩
  · exact ⟨_, rfl⟩
theorem extent_ex (x y z n : Int) : ∃ a e, fnDq27 (x, y, z, n) = some (a, e) ∧ (e = 0 ∨ e = 3) := by
  obtain ⟨r, h, hr⟩ := checked_ex x y z n x
  obtain ⟨⟨o1, o2, o3, o4, o5, o6⟩, ho⟩ := of_ex x y z
  simp only [fnDq27, fnq27, h, ho, bindO, unP]
  rcases hr with rfl | rfl
  · exact ⟨_, _, rfl, .inl rfl⟩
  · exact ⟨_, _, rfl, .inr rfl⟩
theorem load_eq (a : Int) : fnDq14 (a, 2) = some ([], 10) := by kernel_rfl
theorem save_eq (a : Int) (d : List UInt8) (hd : d.length = 128) : fnDq16 (a, d) = some 10 := by
  have h1 : (List.length d : Int) = 128 := by omega
  have h2 : IntKind.wrap IntKind.i64 (Int.tdiv (128 : Int) 64) = 2 := by decide
  have hn : nodeDq16_n0 (a, d, 2) = some false := by
    simp only [nodeDq16_n0, nodeq16_n0, h1]
    decide
  have hst : ∀ u, stepDq16_n1 (a, d, 2) u = some (.inr (.inl ())) := by
    intro u
    simp only [stepDq16_n1, stepq16_n1, List.drop_zero, hd]
    rfl
  have hl : loopD (stepDq16_n1 (a, d, 2)) FUEL () = some (.inl ()) := by
    unfold FUEL
    rw [loopD, hst]
    rfl
  simp only [fnDq16, fnq16, h1, h2, hn, hl, bindO]
  rfl
theorem ExtentNone_true (x y z n : Int) (d : List UInt8) : fnDq25 (x, y, z, n, d) = some true := by
  obtain ⟨a, e, he, hr⟩ := extent_ex x y z n
  have hw : fnDlaw20_works () = some true := rfl
  rcases hr with rfl | rfl
  · simp only [fnDq25, fnq25, fnDq15, fnq15, fnDq17, fnq17, he, hw, load_eq, bindO, unP,
      nodeDq25_n0, nodeq25_n0, nodeDq25_n1, nodeq25_n1]
    by_cases hd : d.length = 128
    · have h1 : (List.length d : Int) = 128 := by omega
      simp only [save_eq a d hd, h1]
      rfl
    · have h1 : ((List.length d : Int) != 128) = true := by simp; omega
      simp only [h1]
      rfl
  · simp only [fnDq25, fnq25, fnDq15, fnq15, fnDq17, fnq17, he, hw, bindO, unP,
      nodeDq25_n0, nodeq25_n0, nodeDq25_n1, nodeq25_n1]
    rfl
end Go.Proofs.R7E
