/- Contracts of the small integer functions: each returns what its Lean counterpart computes, the world unchanged. No condition beyond those that are written. -/
import Derived.Test.YtkjommcmeinkaaaGreatProg
import Derived.WalkLawsBesides
import Derived.Lib.Hide
import Derived.Test.YtkjommcmeinkaaaGreatKRw1
set_option linter.unusedSimpArgs false
namespace Go.Proofs.YtkjommcmeinkaaaGreat
open Go.RowKit

/-- the value lies between the bounds -/
def inB (n lo hi : Int) : Bool := decide (lo ≤ n) && decide (n ≤ hi)
theorem inB_true {n lo hi : Int} : inB n lo hi = true ↔ lo ≤ n ∧ n ≤ hi := by simp [inB]
theorem inB_false {n lo hi : Int} : inB n lo hi = false ↔ ¬ (lo ≤ n ∧ n ≤ hi) := by rw [← inB_true]; simp

theorem within_c (n lo hi : Int) (w : World) :
    Calls Tryz.prog 47 #[.int .i64 n, .int .i64 lo, .int .i64 hi] w fun e w' => e = .returned (.bool (inB n lo hi)) ∧ w = w' := by
  by_cases h1 : lo ≤ n
  all_goals
    go_enter Tryz.func47, Tryz.ntmps47
    go_wp2
    go_ret
    exact ⟨by simp [inB, h1] <;> omega, rfl⟩

theorem l01In_c (n lo hi : Int) (w : World) :
    Calls Tryz.prog 41 #[.int .i64 n, .int .i64 lo, .int .i64 hi] w fun e w' => e = .returned (.bool (inB n lo hi)) ∧ w = w' := by
  by_cases h1 : lo ≤ n
  all_goals
    go_enter Tryz.func41, Tryz.ntmps41
    go_wp2
    go_ret
    exact ⟨by simp [inB, h1] <;> omega, rfl⟩

theorem tdiv_neg_of (a b : Int) (hb : 0 < b) (hm : a.tmod b = 0) : a.tdiv b = a / b := by
  have h1 := Int.mul_tdiv_add_tmod a b
  rw [hm] at h1
  have h2 : a.tdiv b = a / b := by
    rw [← h1]; simp
    rw [Int.mul_tdiv_cancel_left _ (by omega), Int.mul_ediv_cancel_left _ (by omega)]
  exact h2
theorem tmod_neg_bd (a b : Int) (ha : a < 0) (hb : 0 < b) : -b < a.tmod b ∧ a.tmod b ≤ 0 := by
  have h1 := Int.neg_tmod (-a) b
  rw [Int.neg_neg] at h1
  rw [h1]
  have h3 := Int.tmod_nonneg b (show 0 ≤ -a by omega)
  have h4 := Int.tmod_lt_of_pos (-a) hb
  omega
theorem tdiv_neg_of' (a b : Int) (ha : a < 0) (hb : 0 < b) (hm : ¬ a.tmod b = 0) : a.tdiv b - 1 = a / b := by
  have h1 := Int.mul_tdiv_add_tmod a b
  have h2 := tmod_neg_bd a b ha hb
  symm
  have h3 : a = (a.tmod b + b) + b * (a.tdiv b - 1) := by rw [Int.mul_sub]; omega
  rw [h3, Int.add_mul_ediv_left _ _ (by omega)]
  rw [← h3, Int.ediv_eq_zero_of_lt (by omega) (by omega)]
  omega
theorem tdiv_bd (a b : Int) (hb : 0 < b) (ha : -4611686018427387904 ≤ a ∧ a ≤ 4611686018427387904) : -4611686018427387904 ≤ a.tdiv b ∧ a.tdiv b ≤ 4611686018427387904 := by
  rw [tdiv_eq_if]
  split
  · rename_i hx; have := IntWalk.tdiv_le a b hx (by omega); omega
  · rename_i hx; have := IntWalk.tdiv_le (-a) b (by omega) (by omega); omega
theorem ediv_bd (a b : Int) (hb : 0 < b) (ha : -4611686018427387904 ≤ a ∧ a ≤ 4611686018427387904) : -4611686018427387904 ≤ a / b ∧ a / b ≤ 4611686018427387904 := by
  constructor
  · exact Int.le_trans (by omega) (Int.le_ediv_of_mul_le hb (show -4611686018427387904 * b ≤ a by
      have : 4611686018427387904 * 1 ≤ 4611686018427387904 * b := Int.mul_le_mul_of_nonneg_left (by omega) (by omega)
      omega))
  · have : a / b < 4611686018427387904 + 1 := Int.ediv_lt_of_lt_mul hb (by
      have : 4611686018427387905 * 1 ≤ 4611686018427387905 * b := Int.mul_le_mul_of_nonneg_left (by omega) (by omega)
      omega)
    omega

theorem mul_div_bd (a b : Int) (hb : 0 < b) : a - b < b * (a / b) ∧ b * (a / b) ≤ a := by
  have h1 := Int.mul_ediv_add_emod a b
  have h2 := Int.emod_nonneg a (show b ≠ 0 by omega)
  have h3 := Int.emod_lt_of_pos a hb
  omega

theorem down_c (a b : Int) (w : World) (ha : -4611686018427387904 ≤ a ∧ a ≤ 4611686018427387904) (hb : 0 < b ∧ b ≤ 4611686018427387904) :
    Calls Tryz.prog 85 #[.int .i64 a, .int .i64 b] w fun e w' => e = .returned (.int .i64 (a / b)) ∧ w = w' := by
  obtain ⟨ha1, ha2⟩ := ha
  obtain ⟨hb1, hb2⟩ := hb
  have hbn : ¬ b < 0 := by omega
  have hb0 : ¬ b = 0 := by omega
  have hbt := tdiv_bd a b hb1 ⟨ha1, ha2⟩
  by_cases h : 0 ≤ a
  · have h' : ¬ a < 0 := by omega
    have E := Lib.hid (Int.tdiv_eq_ediv_of_nonneg (b := b) h)
    by_cases hm : a % b = 0
    · have hm1 : ((a % b) != 0) = false := by simp [hm]
      have hm := Lib.hid hm
      go_enter Tryz.func85, Tryz.ntmps85
      go_wp2
      go_ret
      exact ⟨ret_int E.out, rfl⟩
    · have hm1 : ((a % b) != 0) = true := by simp [hm]
      go_enter Tryz.func85, Tryz.ntmps85
      go_wp2
      go_ret
      exact ⟨ret_int E.out, rfl⟩
  · have h' : a < 0 := by omega
    by_cases hm : a.tmod b = 0
    · have hm1 : ((a.tmod b) != 0) = false := by simp [hm]
      have E := Lib.hid (tdiv_neg_of a b hb1 hm)
      have hm := Lib.hid hm
      go_enter Tryz.func85, Tryz.ntmps85
      go_wp2
      go_ret
      exact ⟨ret_int E.out, rfl⟩
    · have hm1 : ((a.tmod b) != 0) = true := by simp [hm]
      have E := Lib.hid (tdiv_neg_of' a b h' hb1 hm)
      go_enter Tryz.func85, Tryz.ntmps85
      go_wp2
      go_ret
      exact ⟨ret_int E.out, rfl⟩

theorem modulo_c (a b : Int) (w : World) (ha : -4611686018427387904 ≤ a ∧ a ≤ 4611686018427387904) (hb : 0 < b ∧ b ≤ 4611686018427387904) :
    Calls Tryz.prog 101 #[.int .i64 a, .int .i64 b] w fun e w' => e = .returned (.int .i64 (a % b)) ∧ w = w' := by
  have h1 := mul_div_bd a b hb.1
  have h2 := ediv_bd a b hb.1 ha
  obtain ⟨ha1, ha2⟩ := ha
  obtain ⟨hb1, hb2⟩ := hb
  obtain ⟨h11, h12⟩ := h1
  have h4 := Int.emod_nonneg a (show b ≠ 0 by omega)
  have h5 := Int.emod_lt_of_pos a hb1
  have E : Hid (a - b * (a / b) = a % b) := by have := Int.mul_ediv_add_emod a b; unfold Hid; omega
  go_enter Tryz.func101, Tryz.ntmps101
  go_wp2_with (go_at_call 85; refine (down_c _ _ _ ⟨ha1, ha2⟩ ⟨hb1, hb2⟩).mono ?_; rintro e w' ⟨rfl, rfl⟩)
  go_ret
  exact ⟨ret_int E.out, rfl⟩

theorem up_c (a b : Int) (w : World) (ha : -4611686018427387904 ≤ a ∧ a ≤ 4611686018427387904) (hb : 0 < b ∧ b ≤ 4611686018427387904) :
    Calls Tryz.prog 86 #[.int .i64 a, .int .i64 b] w fun e w' => e = .returned (.int .i64 (-(-a / b))) ∧ w = w' := by
  have h2 := ediv_bd (-a) b hb.1 (by omega)
  obtain ⟨ha1, ha2⟩ := ha
  obtain ⟨hb1, hb2⟩ := hb
  go_enter Tryz.func86, Tryz.ntmps86
  go_wp2_with (go_at_call 85; refine (down_c _ _ _ (by omega) ⟨hb1, hb2⟩).mono ?_; rintro e w' ⟨rfl, rfl⟩)
  go_ret
  exact ⟨rfl, rfl⟩

theorem l01Floor_c (a b : Int) (w : World) (ha : -4611686018427387904 ≤ a ∧ a ≤ 4611686018427387904) (hb : 0 < b ∧ b ≤ 4611686018427387904) :
    Calls Tryz.prog 70 #[.int .i64 a, .int .i64 b] w fun e w' => e = .returned (.int .i64 (a / b)) ∧ w = w' := by
  obtain ⟨ha1, ha2⟩ := ha
  obtain ⟨hb1, hb2⟩ := hb
  have hbn : ¬ b < 0 := by omega
  have hb0 : ¬ b = 0 := by omega
  have hbt := tdiv_bd a b hb1 ⟨ha1, ha2⟩
  by_cases h : 0 ≤ a
  · have h' : ¬ a < 0 := by omega
    have E := Lib.hid (Int.tdiv_eq_ediv_of_nonneg (b := b) h)
    have hm := Int.emod_nonneg a (show b ≠ 0 by omega)
    go_enter Tryz.func70, Tryz.ntmps70
    go_wp2
    go_ret
    exact ⟨ret_int E.out, rfl⟩
  · have h' : a < 0 := by omega
    have hmb := tmod_neg_bd a b h' hb1
    by_cases hm : a.tmod b = 0
    · have E := Lib.hid (tdiv_neg_of a b hb1 hm)
      have hm1 : ¬ a.tmod b < 0 := by omega
      have hm := Lib.hid hm
      go_enter Tryz.func70, Tryz.ntmps70
      go_wp2
      go_ret
      exact ⟨ret_int E.out, rfl⟩
    · have hm1 : a.tmod b < 0 := by omega
      have E := Lib.hid (tdiv_neg_of' a b h' hb1 hm)
      go_enter Tryz.func70, Tryz.ntmps70
      go_wp2
      go_ret
      exact ⟨ret_int E.out, rfl⟩

theorem l01Ceil_c (a b : Int) (w : World) (ha : -4611686018427387904 ≤ a ∧ a ≤ 4611686018427387904) (hb : 0 < b ∧ b ≤ 4611686018427387904) :
    Calls Tryz.prog 87 #[.int .i64 a, .int .i64 b] w fun e w' => e = .returned (.int .i64 (-(-a / b))) ∧ w = w' := by
  have h2 := ediv_bd (-a) b hb.1 (by omega)
  obtain ⟨ha1, ha2⟩ := ha
  obtain ⟨hb1, hb2⟩ := hb
  go_enter Tryz.func87, Tryz.ntmps87
  go_wp2_with (go_at_call 70; refine (l01Floor_c _ _ _ (by omega) ⟨hb1, hb2⟩).mono ?_; rintro e w' ⟨rfl, rfl⟩)
  go_ret
  exact ⟨rfl, rfl⟩

theorem l01Mod_c (a b : Int) (w : World) (ha : -4611686018427387904 ≤ a ∧ a ≤ 4611686018427387904) (hb : 0 < b ∧ b ≤ 2305843009213693952) :
    Calls Tryz.prog 89 #[.int .i64 a, .int .i64 b] w fun e w' => e = .returned (.int .i64 (a % b)) ∧ w = w' := by
  obtain ⟨ha1, ha2⟩ := ha
  obtain ⟨hb1, hb2⟩ := hb
  have hb0 : ¬ b = 0 := by omega
  have h4 := Int.emod_nonneg a hb0
  have h5 := Int.emod_lt_of_pos a hb1
  by_cases h : 0 ≤ a
  · have E : Hid ((a % b + b) % b = a % b) := by unfold Hid; rw [Int.add_emod_right, Int.emod_emod]
    go_enter Tryz.func89, Tryz.ntmps89
    go_wp2
    go_ret
    exact ⟨ret_int E.out, rfl⟩
  · have h' : a < 0 := by omega
    have hmb := tmod_neg_bd a b h' hb1
    have E : Hid (a.tmod b % b = a % b) := by
      have h1 := Int.mul_tdiv_add_tmod a b
      unfold Hid
      conv => rhs; rw [← h1, Int.mul_add_emod_self_left]
    go_enter Tryz.func89, Tryz.ntmps89
    go_wp2
    go_ret
    exact ⟨ret_int E.out, rfl⟩

theorem l01Abs_c (a : Int) (w : World) (ha : -4611686018427387904 ≤ a ∧ a ≤ 4611686018427387904) :
    Calls Tryz.prog 52 #[.int .i64 a] w fun e w' => e = .returned (.int .i64 (max a (-a))) ∧ w = w' := by
  obtain ⟨ha1, ha2⟩ := ha
  go_enter Tryz.func52, Tryz.ntmps52
  go_wp2
  all_goals go_ret
  all_goals exact ⟨ret_int (by omega), rfl⟩

theorem distance_c (a b : Int) (w : World) (ha : -2305843009213693952 ≤ a ∧ a ≤ 2305843009213693952) (hb : -2305843009213693952 ≤ b ∧ b ≤ 2305843009213693952) :
    Calls Tryz.prog 48 #[.int .i64 a, .int .i64 b] w fun e w' => e = .returned (.int .i64 (max (a - b) (b - a))) ∧ w = w' := by
  obtain ⟨ha1, ha2⟩ := ha
  obtain ⟨hb1, hb2⟩ := hb
  go_enter Tryz.func48, Tryz.ntmps48
  go_wp2
  all_goals go_ret
  all_goals exact ⟨ret_int (by omega), rfl⟩
end Go.Proofs.YtkjommcmeinkaaaGreat
