/- The logarithms by squaring enclose the true ones; the figure nearest to a sum of angles is the product's. Plain; the width of the enclosures is counted by the kernel. -/
import Derived.Test.YtcpnmeebbbeakaaPlainNear
namespace Go.Proofs.Ytcpnmeebbbeakaa
set_option maxRecDepth 100000
/-- after k steps: 10^n * y / 10^8 is at most, at least, (x / 10^8)^(2^k) -/
theorem itL_low {x : Int} (h : 100000000 ≤ x ∧ x ≤ 1000000000) : ∀ k, ∃ e : Nat, (itL x k).2 = e ∧ 10 ^ e * (itL x k).1 * 100000000 ^ (2 ^ k) ≤ x ^ (2 ^ k) * 100000000
  | 0 => ⟨0, rfl, by simp [itL, Int.pow_succ]⟩
  | k + 1 => by
    obtain ⟨e, he, hi⟩ := itL_low h k
    have hb := (itL_bd h k).1
    have hx : (0 : Int) ≤ x ^ (2 ^ k) := Int.pow_nonneg (by omega)
    have hS : (0 : Int) < 100000000 ^ (2 ^ k) := Int.pow_pos (by omega)
    have hE : (0 : Int) < 10 ^ e := Int.pow_pos (by omega)
    rw [itL]
    generalize itL x k = s at he hi hb ⊢
    obtain ⟨y, n⟩ := s
    simp only at he hi hb
    subst he
    rw [Nat.pow_succ, Int.pow_mul, Int.pow_mul]
    generalize x ^ (2 ^ k) = X at *
    generalize (100000000 : Int) ^ (2 ^ k) = S at *
    -- the square of what was known
    have h0 : 0 ≤ 10 ^ e * y * S := Int.mul_nonneg (Int.mul_nonneg (by omega) (by omega)) (by omega)
    have hsq : (10 ^ e * y * S) * (10 ^ e * y * S) ≤ (X * 100000000) * (X * 100000000) := Int.mul_le_mul hi hi h0 (Int.mul_nonneg hx (by omega))
    have hq : y * y / 100000000 * 100000000 ≤ y * y := Int.ediv_mul_le _ (by omega)
    have hP : (0 : Int) ≤ 10 ^ e * 10 ^ e * (S * S) := Int.mul_nonneg (Int.mul_nonneg (by omega) (by omega)) (Int.mul_nonneg (by omega) (by omega))
    have h1 := Int.mul_le_mul_of_nonneg_left hq hP
    have h2 : 10 ^ e * 10 ^ e * (y * y / 100000000) * (S * S) * 100000000 ≤ X * X * 100000000 * 100000000 := by
      have e1 : 10 ^ e * 10 ^ e * (S * S) * (y * y / 100000000 * 100000000) = 10 ^ e * 10 ^ e * (y * y / 100000000) * (S * S) * 100000000 := by ac_rfl
      have e2 : 10 ^ e * 10 ^ e * (S * S) * (y * y) = (10 ^ e * y * S) * (10 ^ e * y * S) := by ac_rfl
      have e3 : (X * 100000000) * (X * 100000000) = X * X * 100000000 * 100000000 := by ac_rfl
      rw [e1, e2] at h1
      rw [e3] at hsq
      exact Int.le_trans h1 hsq
    have h3 : 10 ^ e * 10 ^ e * (y * y / 100000000) * (S * S) ≤ X * X * 100000000 := Int.le_of_mul_le_mul_right h2 (by omega)
    have hS2 : S ^ 2 = S * S := by rw [Int.pow_succ, Int.pow_succ, Int.pow_zero, Int.one_mul]
    have hX2 : X ^ 2 = X * X := by rw [Int.pow_succ, Int.pow_succ, Int.pow_zero, Int.one_mul]
    rw [hS2, hX2]
    unfold stepL
    simp only
    generalize y * y / 100000000 = q at *
    by_cases hbig : 1000000000 ≤ q
    · rw [if_pos hbig]
      refine ⟨2 * e + 1, by simp, ?_⟩
      simp only
      have hq2 : 10 * (q / 10) ≤ q := by omega
      have hP2 : (0 : Int) ≤ 10 ^ e * 10 ^ e * (S * S) := hP
      have h4 := Int.mul_le_mul_of_nonneg_left hq2 hP2
      have e4 : (10 : Int) ^ (2 * e + 1) = 10 ^ e * 10 ^ e * 10 := by rw [Int.pow_succ, Nat.two_mul, Int.pow_add]
      rw [e4]
      have e5 : 10 ^ e * 10 ^ e * (S * S) * (10 * (q / 10)) = 10 ^ e * 10 ^ e * 10 * (q / 10) * (S * S) := by ac_rfl
      have e6 : 10 ^ e * 10 ^ e * (S * S) * q = 10 ^ e * 10 ^ e * q * (S * S) := by ac_rfl
      rw [e5, e6] at h4
      exact Int.le_trans h4 h3
    · rw [if_neg hbig]
      refine ⟨2 * e, by simp, ?_⟩
      simp only
      have e4 : (10 : Int) ^ (2 * e) = 10 ^ e * 10 ^ e := by rw [Nat.two_mul, Int.pow_add]
      rw [e4]
      exact h3
theorem itH_high {x : Int} (h : 100000000 ≤ x ∧ x ≤ 1000000000) : ∀ k, ∃ e : Nat, (itH x k).2 = e ∧ x ^ (2 ^ k) * 100000000 ≤ 10 ^ e * (itH x k).1 * 100000000 ^ (2 ^ k)
  | 0 => ⟨0, rfl, by simp [itH, Int.pow_succ]⟩
  | k + 1 => by
    obtain ⟨e, he, hi⟩ := itH_high h k
    have hb := (itH_bd h k).1
    have hx : (0 : Int) ≤ x ^ (2 ^ k) := Int.pow_nonneg (by omega)
    have hS : (0 : Int) < 100000000 ^ (2 ^ k) := Int.pow_pos (by omega)
    have hE : (0 : Int) < 10 ^ e := Int.pow_pos (by omega)
    rw [itH]
    generalize itH x k = s at he hi hb ⊢
    obtain ⟨y, n⟩ := s
    simp only at he hi hb
    subst he
    rw [Nat.pow_succ, Int.pow_mul, Int.pow_mul]
    generalize x ^ (2 ^ k) = X at *
    generalize (100000000 : Int) ^ (2 ^ k) = S at *
    have h0 : 0 ≤ 10 ^ e * y * S := Int.mul_nonneg (Int.mul_nonneg (by omega) (by omega)) (by omega)
    have hsq : (X * 100000000) * (X * 100000000) ≤ (10 ^ e * y * S) * (10 ^ e * y * S) := Int.mul_le_mul hi hi (Int.mul_nonneg hx (by omega)) h0
    have hq : y * y ≤ cdiv (y * y) 100000000 * 100000000 := by unfold cdiv; omega
    have hP : (0 : Int) ≤ 10 ^ e * 10 ^ e * (S * S) := Int.mul_nonneg (Int.mul_nonneg (by omega) (by omega)) (Int.mul_nonneg (by omega) (by omega))
    have h1 := Int.mul_le_mul_of_nonneg_left hq hP
    have h2 : X * X * 100000000 * 100000000 ≤ 10 ^ e * 10 ^ e * (cdiv (y * y) 100000000) * (S * S) * 100000000 := by
      have e1 : 10 ^ e * 10 ^ e * (S * S) * (cdiv (y * y) 100000000 * 100000000) = 10 ^ e * 10 ^ e * (cdiv (y * y) 100000000) * (S * S) * 100000000 := by ac_rfl
      have e2 : 10 ^ e * 10 ^ e * (S * S) * (y * y) = (10 ^ e * y * S) * (10 ^ e * y * S) := by ac_rfl
      have e3 : (X * 100000000) * (X * 100000000) = X * X * 100000000 * 100000000 := by ac_rfl
      rw [e1, e2] at h1
      rw [e3] at hsq
      exact Int.le_trans hsq h1
    have h3 : X * X * 100000000 ≤ 10 ^ e * 10 ^ e * (cdiv (y * y) 100000000) * (S * S) := Int.le_of_mul_le_mul_right h2 (by omega)
    have hS2 : S ^ 2 = S * S := by rw [Int.pow_succ, Int.pow_succ, Int.pow_zero, Int.one_mul]
    have hX2 : X ^ 2 = X * X := by rw [Int.pow_succ, Int.pow_succ, Int.pow_zero, Int.one_mul]
    rw [hS2, hX2]
    unfold stepH
    simp only
    generalize cdiv (y * y) 100000000 = q at *
    by_cases hbig : 1000000000 ≤ q
    · rw [if_pos hbig]
      refine ⟨2 * e + 1, by simp, ?_⟩
      simp only
      have hq2 : q ≤ 10 * (cdiv q 10) := by unfold cdiv; omega
      have h4 := Int.mul_le_mul_of_nonneg_left hq2 hP
      have e4 : (10 : Int) ^ (2 * e + 1) = 10 ^ e * 10 ^ e * 10 := by rw [Int.pow_succ, Nat.two_mul, Int.pow_add]
      rw [e4]
      have e5 : 10 ^ e * 10 ^ e * (S * S) * (10 * (cdiv q 10)) = 10 ^ e * 10 ^ e * 10 * (cdiv q 10) * (S * S) := by ac_rfl
      have e6 : 10 ^ e * 10 ^ e * (S * S) * q = 10 ^ e * 10 ^ e * q * (S * S) := by ac_rfl
      rw [e5, e6] at h4
      exact Int.le_trans h3 h4
    · rw [if_neg hbig]
      refine ⟨2 * e, by simp, ?_⟩
      simp only
      have e4 : (10 : Int) ^ (2 * e) = 10 ^ e * 10 ^ e := by rw [Nat.two_mul, Int.pow_add]
      rw [e4]
      exact h3
/-- the two enclosing bounds, at some great power N -/
theorem log_true : ∃ N : Nat, N = 1048576 ∧ (∀ d : Int, 1000 ≤ d ∧ d ≤ 10000 → ∃ lo hi : Nat, logLow (d * 100000) = lo ∧ logHigh (d * 100000) = hi ∧ 10 ^ lo * 1000 ^ N ≤ d ^ N ∧ d ^ N ≤ 10 ^ hi * (1000 : Int) ^ N) := by
  refine ⟨2 ^ 20, by decide, fun d hd => ?_⟩
  have hx : 100000000 ≤ d * 100000 ∧ d * 100000 ≤ 1000000000 := by omega
  obtain ⟨lo, h1, h2⟩ := itL_low hx 20
  obtain ⟨hi, h3, h4⟩ := itH_high hx 20
  have hbL := (itL_bd hx 20).1
  have hbH := (itH_bd hx 20).1
  refine ⟨lo, hi + 1, h1, by unfold logHigh; rw [h3]; rfl, ?_, ?_⟩
  all_goals
    generalize hN : (2 : Nat) ^ 20 = N at *
    rw [Int.mul_pow] at h2 h4
    have e8 : (100000000 : Int) ^ N = 1000 ^ N * 100000 ^ N := by rw [← Int.mul_pow]; rfl
    rw [e8] at h2 h4
    have hK : (0 : Int) < 100000 ^ N := Int.pow_pos (by omega)
    have hM : (0 : Int) < 1000 ^ N := Int.pow_pos (by omega)
    generalize d ^ N = D at *
    generalize (100000 : Int) ^ N = K at *
    generalize (1000 : Int) ^ N = M at *
  · have hE : (0 : Int) < 10 ^ lo := Int.pow_pos (by omega)
    have hy := Int.mul_le_mul_of_nonneg_left hbL.1 (show (0 : Int) ≤ 10 ^ lo * M * K from Int.mul_nonneg (Int.mul_nonneg (by omega) (by omega)) (by omega))
    have e1 : 10 ^ lo * M * K * (itL (d * 100000) 20).1 = 10 ^ lo * (itL (d * 100000) 20).1 * (M * K) := by ac_rfl
    rw [e1] at hy
    have h5 := Int.le_trans hy h2
    have h6 : 10 ^ lo * M * K ≤ D * K := Int.le_of_mul_le_mul_right h5 (by omega)
    exact Int.le_of_mul_le_mul_right h6 hK
  · have hE : (0 : Int) < 10 ^ hi := Int.pow_pos (by omega)
    have hy := Int.mul_le_mul_of_nonneg_left hbH.2 (show (0 : Int) ≤ 10 ^ hi * M * K from Int.mul_nonneg (Int.mul_nonneg (by omega) (by omega)) (by omega))
    have e1 : 10 ^ hi * M * K * (itH (d * 100000) 20).1 = 10 ^ hi * (itH (d * 100000) 20).1 * (M * K) := by ac_rfl
    have e2 : 10 ^ hi * M * K * 1000000000 = 10 ^ hi * 10 * M * K * 100000000 := by
      rw [show (1000000000 : Int) = 10 * 100000000 from rfl]; ac_rfl
    rw [e1, e2] at hy
    have h5 := Int.le_trans h4 hy
    have h6 : D * K ≤ 10 ^ hi * 10 * M * K := Int.le_of_mul_le_mul_right h5 (by omega)
    rw [Int.pow_succ]
    exact Int.le_of_mul_le_mul_right h6 hK
theorem powm {u v : Int} (h0 : 0 ≤ u) (h : u ≤ v) : ∀ N : Nat, u ^ N ≤ v ^ N
  | 0 => by simp
  | N + 1 => by
    rw [Int.pow_succ, Int.pow_succ]
    exact Int.mul_le_mul (powm h0 h N) h h0 (Int.pow_nonneg (by omega))
theorem pow10_le {a b : Nat} (h : (10 : Int) ^ a ≤ 10 ^ b) : a ≤ b := by
  have h' : (10 : Nat) ^ a ≤ 10 ^ b := by exact_mod_cast h
  exact (Nat.pow_le_pow_iff_right (by omega)).1 h'
/-- a product that is at most 1000 e has at most e's logarithm, and so on: what follows of the powers -/
theorem log_mul_le {a b e : Int} (ha : 1000 ≤ a ∧ a ≤ 10000) (hb : 1000 ≤ b ∧ b ≤ 10000) (he : 1000 ≤ e ∧ e ≤ 10000) :
    (a * b ≤ 1000 * e → logLow (a * 100000) + logLow (b * 100000) ≤ logHigh (e * 100000)) ∧
    (a * b ≤ 10000 * e → logLow (a * 100000) + logLow (b * 100000) ≤ logHigh (e * 100000) + 1048576) ∧
    (1000 * e ≤ a * b → logLow (e * 100000) ≤ logHigh (a * 100000) + logHigh (b * 100000)) ∧
    (10000 * e ≤ a * b → logLow (e * 100000) + 1048576 ≤ logHigh (a * 100000) + logHigh (b * 100000)) := by
  obtain ⟨N, hN, hlog⟩ := log_true
  obtain ⟨la, ua, a1, a2, a3, a4⟩ := hlog a ha
  obtain ⟨lb, ub, b1, b2, b3, b4⟩ := hlog b hb
  obtain ⟨le, ue, e1, e2, e3, e4⟩ := hlog e he
  clear hlog
  rw [a1, a2, b1, b2, e1, e2]
  clear a1 a2 b1 b2 e1 e2
  have hM : (0 : Int) < 1000 ^ N := Int.pow_pos (by omega)
  have hA : (0 : Int) ≤ a ^ N := Int.pow_nonneg (by omega)
  have hB : (0 : Int) ≤ b ^ N := Int.pow_nonneg (by omega)
  have hE : (0 : Int) ≤ e ^ N := Int.pow_nonneg (by omega)
  have p := fun k : Nat => (Int.pow_pos (show (0 : Int) < 10 by omega) : (0 : Int) < 10 ^ k)
  have hlow : 10 ^ (la + lb) * 1000 ^ N * 1000 ^ N ≤ (a * b) ^ N := by
    have := Int.mul_le_mul a3 b3 (Int.mul_nonneg (Int.le_of_lt (p lb)) (Int.le_of_lt hM)) hA
    rw [Int.mul_pow, Int.pow_add]
    have e0 : (10 : Int) ^ la * 10 ^ lb * 1000 ^ N * 1000 ^ N = 10 ^ la * 1000 ^ N * (10 ^ lb * 1000 ^ N) := by ac_rfl
    rw [e0]
    exact this
  have hup : (a * b) ^ N ≤ 10 ^ (ua + ub) * 1000 ^ N * 1000 ^ N := by
    have := Int.mul_le_mul a4 b4 hB (Int.mul_nonneg (Int.le_of_lt (p ua)) (Int.le_of_lt hM))
    rw [Int.mul_pow, Int.pow_add]
    have e0 : (10 : Int) ^ ua * 10 ^ ub * 1000 ^ N * 1000 ^ N = 10 ^ ua * 1000 ^ N * (10 ^ ub * 1000 ^ N) := by ac_rfl
    rw [e0]
    exact this
  have hpm : ∀ {u v : Int}, 0 ≤ u → u ≤ v → u ^ N ≤ v ^ N := fun h1 h2 => powm h1 h2 N
  have hab : 0 ≤ a * b := Int.mul_nonneg (by omega) (by omega)
  generalize a * b = P at *
  refine ⟨fun h => ?_, fun h => ?_, fun h => ?_, fun h => ?_⟩
  · have h1 := hpm hab h
    rw [Int.mul_pow] at h1
    have h2 := Int.mul_le_mul_of_nonneg_left e4 (Int.le_of_lt hM)
    have h3 := Int.le_trans (Int.le_trans hlow h1) h2
    have e0 : (1000 : Int) ^ N * (10 ^ ue * 1000 ^ N) = 10 ^ ue * 1000 ^ N * 1000 ^ N := by ac_rfl
    rw [e0] at h3
    have := pow10_le (Int.le_of_mul_le_mul_right (Int.le_of_mul_le_mul_right h3 hM) hM)
    omega
  · have h1 := hpm hab h
    rw [show (10000 : Int) = 10 * 1000 from rfl, Int.mul_assoc, Int.mul_pow, Int.mul_pow] at h1
    have h2 := Int.mul_le_mul_of_nonneg_left e4 (show (0 : Int) ≤ 10 ^ N * 1000 ^ N from Int.mul_nonneg (Int.le_of_lt (p N)) (Int.le_of_lt hM))
    rw [← Int.mul_assoc] at h1
    have h3 := Int.le_trans (Int.le_trans hlow h1) h2
    have e0 : (10 : Int) ^ N * 1000 ^ N * (10 ^ ue * 1000 ^ N) = 10 ^ (ue + N) * 1000 ^ N * 1000 ^ N := by rw [Int.pow_add]; ac_rfl
    rw [e0] at h3
    have := pow10_le (Int.le_of_mul_le_mul_right (Int.le_of_mul_le_mul_right h3 hM) hM)
    omega
  · have h1 := hpm (Int.mul_nonneg (by omega) (by omega)) h
    rw [Int.mul_pow] at h1
    have h2 := Int.mul_le_mul_of_nonneg_left e3 (Int.le_of_lt hM)
    have h3 := Int.le_trans (Int.le_trans h2 h1) hup
    have e0 : (1000 : Int) ^ N * (10 ^ le * 1000 ^ N) = 10 ^ le * 1000 ^ N * 1000 ^ N := by ac_rfl
    rw [e0] at h3
    have := pow10_le (Int.le_of_mul_le_mul_right (Int.le_of_mul_le_mul_right h3 hM) hM)
    omega
  · have h1 := hpm (Int.mul_nonneg (by omega) (by omega)) h
    rw [show (10000 : Int) = 10 * 1000 from rfl, Int.mul_assoc, Int.mul_pow, Int.mul_pow] at h1
    have h2 := Int.mul_le_mul_of_nonneg_left e3 (show (0 : Int) ≤ 10 ^ N * 1000 ^ N from Int.mul_nonneg (Int.le_of_lt (p N)) (Int.le_of_lt hM))
    rw [← Int.mul_assoc] at h1
    have h3 := Int.le_trans (Int.le_trans h2 h1) hup
    have e0 : (10 : Int) ^ N * 1000 ^ N * (10 ^ le * 1000 ^ N) = 10 ^ (le + N) * 1000 ^ N * 1000 ^ N := by rw [Int.pow_add]; ac_rfl
    rw [e0] at h3
    have := pow10_le (Int.le_of_mul_le_mul_right (Int.le_of_mul_le_mul_right h3 hM) hM)
    omega
end Go.Proofs.Ytcpnmeebbbeakaa
