/- Contracts of the small integer functions: each returns what its Lean counterpart computes, the world unchanged. No condition beyond those that are written. -/
import Derived.Test.YtkjommcmeinkaaaGreatDoorProg
import Derived.Test.YtkjommcmeinkaaaGreatDoorMem
import Derived.WalkLawsBesides
import Derived.Lib.Hide
namespace Go.Proofs.YtkjommcmeinkaaaGreatDoor
open Go.RowKit

/-- the value lies between the bounds -/
def inB (n lo hi : Int) : Bool := decide (lo ≤ n) && decide (n ≤ hi)
theorem inB_true {n lo hi : Int} : inB n lo hi = true ↔ lo ≤ n ∧ n ≤ hi := by simp [inB]
theorem inB_false {n lo hi : Int} : inB n lo hi = false ↔ ¬ (lo ≤ n ∧ n ≤ hi) := by rw [← inB_true]; simp

theorem within_c (n lo hi : Int) (w : World) :
    Calls Tryz.prog 56 #[.int .i64 n, .int .i64 lo, .int .i64 hi] w fun e w' => e = .returned (.bool (inB n lo hi)) ∧ w = w' := by
  by_cases h1 : lo ≤ n
  all_goals
    go_enter Tryz.func56, Tryz.ntmps56
    go_wp2
    go_ret
    exact ⟨by simp [inB, h1] <;> omega, rfl⟩

theorem l01In_c (n lo hi : Int) (w : World) :
    Calls Tryz.prog 59 #[.int .i64 n, .int .i64 lo, .int .i64 hi] w fun e w' => e = .returned (.bool (inB n lo hi)) ∧ w = w' := by
  by_cases h1 : lo ≤ n
  all_goals
    go_enter Tryz.func59, Tryz.ntmps59
    go_wp2
    go_ret
    exact ⟨by simp [inB, h1] <;> omega, rfl⟩

theorem tdiv_neg_of (a b : Int) (hb : 0 < b) (hm : a.tmod b = 0) : a.tdiv b = a / b := by
  have h1 := Int.mul_tdiv_add_tmod a b
  rw [hm] at h1
  have h2 : a.tdiv b = a / b := by
    rw [← h1]; simp
    rw [Int.mul_tdiv_cancel_left _ (by omega), Int.mul_ediv_cancel_left _ (by omega)]
  exact h2
theorem tmod_neg_bd (a b : Int) (ha : a < 0) (hb : 0 < b) : -b < a.tmod b ∧ a.tmod b ≤ 0 := by
  have h1 := Int.neg_tmod (-a) b
  rw [Int.neg_neg] at h1
  rw [h1]
  have h3 := Int.tmod_nonneg b (show 0 ≤ -a by omega)
  have h4 := Int.tmod_lt_of_pos (-a) hb
  omega
theorem tdiv_neg_of' (a b : Int) (ha : a < 0) (hb : 0 < b) (hm : ¬ a.tmod b = 0) : a.tdiv b - 1 = a / b := by
  have h1 := Int.mul_tdiv_add_tmod a b
  have h2 := tmod_neg_bd a b ha hb
  symm
  have h3 : a = (a.tmod b + b) + b * (a.tdiv b - 1) := by rw [Int.mul_sub]; omega
  rw [h3, Int.add_mul_ediv_left _ _ (by omega)]
  rw [← h3, Int.ediv_eq_zero_of_lt (by omega) (by omega)]
  omega
theorem tdiv_bd (a b : Int) (hb : 0 < b) (ha : -4611686018427387904 ≤ a ∧ a ≤ 4611686018427387904) : -4611686018427387904 ≤ a.tdiv b ∧ a.tdiv b ≤ 4611686018427387904 := by
  rw [tdiv_eq_if]
  split
  · rename_i hx; have := IntWalk.tdiv_le a b hx (by omega); omega
  · rename_i hx; have := IntWalk.tdiv_le (-a) b (by omega) (by omega); omega
theorem ediv_bd (a b : Int) (hb : 0 < b) (ha : -4611686018427387904 ≤ a ∧ a ≤ 4611686018427387904) : -4611686018427387904 ≤ a / b ∧ a / b ≤ 4611686018427387904 := by
  constructor
  · exact Int.le_trans (by omega) (Int.le_ediv_of_mul_le hb (show -4611686018427387904 * b ≤ a by
      have : 4611686018427387904 * 1 ≤ 4611686018427387904 * b := Int.mul_le_mul_of_nonneg_left (by omega) (by omega)
      omega))
  · have : a / b < 4611686018427387904 + 1 := Int.ediv_lt_of_lt_mul hb (by
      have : 4611686018427387905 * 1 ≤ 4611686018427387905 * b := Int.mul_le_mul_of_nonneg_left (by omega) (by omega)
      omega)
    omega

theorem mul_div_bd (a b : Int) (hb : 0 < b) : a - b < b * (a / b) ∧ b * (a / b) ≤ a := by
  have h1 := Int.mul_ediv_add_emod a b
  have h2 := Int.emod_nonneg a (show b ≠ 0 by omega)
  have h3 := Int.emod_lt_of_pos a hb
  omega








end Go.Proofs.YtkjommcmeinkaaaGreatDoor
