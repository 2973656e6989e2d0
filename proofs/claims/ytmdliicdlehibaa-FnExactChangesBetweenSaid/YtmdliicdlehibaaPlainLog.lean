/- The logarithm by squaring: the plain sums. No program. -/
import Derived.Test.YtmdliicdlehibaaNum
namespace Go.Proofs.Ytmdliicdlehibaa
/-- one step of the lower bits, of the upper bits -/
def stepL (s : Int × Int) : Int × Int := if 1000000000 ≤ s.1 * s.1 / 100000000 then (s.1 * s.1 / 100000000 / 10, 2 * s.2 + 1) else (s.1 * s.1 / 100000000, 2 * s.2)
def cdiv (a b : Int) : Int := -(-a / b)
def stepH (s : Int × Int) : Int × Int := if 1000000000 ≤ cdiv (s.1 * s.1) 100000000 then (cdiv (cdiv (s.1 * s.1) 100000000) 10, 2 * s.2 + 1) else (cdiv (s.1 * s.1) 100000000, 2 * s.2)
def itL (x : Int) : Nat → Int × Int
  | 0 => (x, 0)
  | k + 1 => stepL (itL x k)
def itH (x : Int) : Nat → Int × Int
  | 0 => (x, 0)
  | k + 1 => stepH (itH x k)
theorem sq_bd {x : Int} (h : 100000000 ≤ x ∧ x ≤ 1000000000) : 10000000000000000 ≤ x * x ∧ x * x ≤ 1000000000000000000 := by
  have h1 : 100000000 * 100000000 ≤ x * x := Int.mul_le_mul h.1 h.1 (by omega) (by omega)
  have h2 : x * x ≤ 1000000000 * 1000000000 := Int.mul_le_mul h.2 h.2 (by omega) (by omega)
  omega
theorem two_pow_le : ∀ k : Nat, k ≤ 20 → (2 : Int) ^ k ≤ 1048576 := by decide
theorem itL_bd {x : Int} (h : 100000000 ≤ x ∧ x ≤ 1000000000) : ∀ k, (100000000 ≤ (itL x k).1 ∧ (itL x k).1 ≤ 1000000000) ∧ 0 ≤ (itL x k).2 ∧ (itL x k).2 < 2 ^ k := by
  intro k
  induction k with
  | zero => exact ⟨h, by simp [itL], by simp [itL]⟩
  | succ k ih =>
    have hs := sq_bd ih.1
    simp only [itL, stepL]
    generalize itL x k = s at ih hs
    obtain ⟨y, n⟩ := s
    simp only at ih hs ⊢
    generalize y * y = q at hs
    rw [Int.pow_succ]
    split <;> simp only <;> omega
theorem itH_bd {x : Int} (h : 100000000 ≤ x ∧ x ≤ 1000000000) : ∀ k, (100000000 ≤ (itH x k).1 ∧ (itH x k).1 ≤ 1000000000) ∧ 0 ≤ (itH x k).2 ∧ (itH x k).2 < 2 ^ k := by
  intro k
  induction k with
  | zero => exact ⟨h, by simp [itH], by simp [itH]⟩
  | succ k ih =>
    have hs := sq_bd ih.1
    simp only [itH, stepH]
    generalize itH x k = s at ih hs
    obtain ⟨y, n⟩ := s
    simp only at ih hs ⊢
    generalize y * y = q at hs
    rw [Int.pow_succ]
    by_cases hb : 1000000000 ≤ cdiv q 100000000
    · rw [if_pos hb]; simp only; unfold cdiv at *; omega
    · rw [if_neg hb]; simp only; unfold cdiv at *; omega
def logLow (x : Int) : Int := (itL x 20).2
def logHigh (x : Int) : Int := (itH x 20).2 + 1
theorem logLow_bd {x : Int} (h : 100000000 ≤ x ∧ x ≤ 1000000000) : 0 ≤ logLow x ∧ logLow x < 1048576 := by
  have := (itL_bd h 20).2; unfold logLow; omega
theorem logHigh_bd {x : Int} (h : 100000000 ≤ x ∧ x ≤ 1000000000) : 1 ≤ logHigh x ∧ logHigh x ≤ 1048576 := by
  have := (itH_bd h 20).2; unfold logHigh; omega
end Go.Proofs.Ytmdliicdlehibaa
