/- Turning multiplies: the nearest figure lies at most one unit from the product, or across the end of the scale. Plain; the widths are counted by the kernel. -/
import Derived.Test.YtcpnmeebbbeakaaCirc
import Derived.Test.YtcpnmeebbbeakaaTurnMul
namespace Go.Proofs.Ytcpnmeebbbeakaa
set_option maxRecDepth 100000
def stepHN (s : Nat × Nat) : Nat × Nat := if 1000000000 ≤ (s.1 * s.1 + 99999999) / 100000000 then (((s.1 * s.1 + 99999999) / 100000000 + 9) / 10, 2 * s.2 + 1) else ((s.1 * s.1 + 99999999) / 100000000, 2 * s.2)
def itHN (x : Nat) (k : Nat) : Nat × Nat := Nat.rec (x, 0) (fun _ s => stepHN s) k
def chkW (d : Nat) (k : Nat) : Bool := Nat.rec true (fun i b => Nat.ble (itHN ((d + i) * 100000) 20).2 ((itLN ((d + i) * 100000) 20).2 + 1) && b) k
theorem chw0 : chkW 1000 1000 = true := by decide +kernel
theorem chw1 : chkW 2000 1000 = true := by decide +kernel
theorem chw2 : chkW 3000 1000 = true := by decide +kernel
theorem chw3 : chkW 4000 1000 = true := by decide +kernel
theorem chw4 : chkW 5000 1000 = true := by decide +kernel
theorem chw5 : chkW 6000 1000 = true := by decide +kernel
theorem chw6 : chkW 7000 1000 = true := by decide +kernel
theorem chw7 : chkW 8000 1000 = true := by decide +kernel
theorem chw8 : chkW 9000 1000 = true := by decide +kernel
theorem chw_get {d : Nat} : ∀ {k : Nat}, chkW d k = true → ∀ i, i < k → (itHN ((d + i) * 100000) 20).2 ≤ (itLN ((d + i) * 100000) 20).2 + 1
  | 0, _, i, hi => by omega
  | k + 1, h, i, hi => by
    have h' : (Nat.ble (itHN ((d + k) * 100000) 20).2 ((itLN ((d + k) * 100000) 20).2 + 1) && chkW d k) = true := h
    simp only [Bool.and_eq_true] at h'
    rcases Nat.lt_or_ge i k with h1 | h1
    · exact chw_get h'.2 i h1
    · obtain rfl : i = k := by omega
      exact Nat.le_of_ble_eq_true h'.1
theorem wid20 {d : Nat} (h : 1000 ≤ d) (h' : d ≤ 9999) : (itHN (d * 100000) 20).2 ≤ (itLN (d * 100000) 20).2 + 1 := by
  have key : ∀ b k, chkW b k = true → b ≤ d → d < b + k → (itHN (d * 100000) 20).2 ≤ (itLN (d * 100000) 20).2 + 1 := fun b k hc h1 h2 => by
    have := chw_get hc (d - b) (by omega)
    rwa [show b + (d - b) = d from by omega] at this
  rcases Nat.lt_or_ge d 2000 with h0 | h0
  · exact key _ _ chw0 h (by omega)
  rcases Nat.lt_or_ge d 3000 with h1 | h1
  · exact key _ _ chw1 h0 (by omega)
  rcases Nat.lt_or_ge d 4000 with h2 | h2
  · exact key _ _ chw2 h1 (by omega)
  rcases Nat.lt_or_ge d 5000 with h3 | h3
  · exact key _ _ chw3 h2 (by omega)
  rcases Nat.lt_or_ge d 6000 with h4 | h4
  · exact key _ _ chw4 h3 (by omega)
  rcases Nat.lt_or_ge d 7000 with h5 | h5
  · exact key _ _ chw5 h4 (by omega)
  rcases Nat.lt_or_ge d 8000 with h6 | h6
  · exact key _ _ chw6 h5 (by omega)
  rcases Nat.lt_or_ge d 9000 with h7 | h7
  · exact key _ _ chw7 h6 (by omega)
  · exact key _ _ chw8 h7 (by omega)
theorem cdiv_cast (q m : Nat) (hm : 0 < m) : cdiv (q : Int) (m : Int) = (((q + (m - 1)) / m : Nat) : Int) := by
  unfold cdiv
  have e : (((q + (m - 1)) / m : Nat) : Int) = ((q : Int) + (m - 1)) / m := by
    rw [Int.natCast_ediv, Int.natCast_add, Int.natCast_sub (by omega)]; rfl
  rw [e]
  have h1 := Int.emod_add_mul_ediv (-(q : Int)) m
  have h2 := Int.emod_nonneg (-(q : Int)) (show (m : Int) ≠ 0 by omega)
  have h3 := Int.emod_lt_of_pos (-(q : Int)) (show 0 < (m : Int) by omega)
  generalize hz : -(q : Int) / m = z at *
  have hq : (q : Int) + (m - 1) = (m - 1 - (-(q : Int) % m)) + m * (-z) := by rw [Int.mul_neg]; omega
  rw [hq, Int.add_mul_ediv_left _ _ (by omega), Int.ediv_eq_zero_of_lt (by omega) (by omega)]
  omega
theorem itH_cast (x : Nat) : ∀ k, itH (x : Int) k = (((itHN x k).1 : Int), ((itHN x k).2 : Int))
  | 0 => rfl
  | k + 1 => by
    have h1 : itHN x (k + 1) = stepHN (itHN x k) := rfl
    rw [itH, itH_cast x k, h1]
    generalize itHN x k = s
    obtain ⟨y, n⟩ := s
    unfold stepH stepHN
    simp only
    have e : cdiv ((y : Int) * y) 100000000 = (((y * y + 99999999) / 100000000 : Nat) : Int) := by
      rw [← Int.natCast_mul]; exact cdiv_cast (y * y) 100000000 (by omega)
    rw [e]
    generalize (y * y + 99999999) / 100000000 = q
    have e2 : cdiv (q : Int) 10 = (((q + 9) / 10 : Nat) : Int) := cdiv_cast q 10 (by omega)
    by_cases hb : 1000000000 ≤ q
    · rw [if_pos hb, if_pos (by omega), e2]
      simp
    · rw [if_neg hb, if_neg (by omega)]
      simp
/-- the middle of a logarithm's bounds -/
def midL (d : Int) : Int := (logLow (d * 100000) + logHigh (d * 100000)) / 2
theorem width {d : Int} (h : 1000 ≤ d ∧ d ≤ 9999) : logHigh (d * 100000) ≤ logLow (d * 100000) + 2 := by
  obtain ⟨n, rfl⟩ := Int.eq_ofNat_of_zero_le (show 0 ≤ d by omega)
  have hw := wid20 (d := n) (by omega) (by omega)
  have e1 : ((n : Int) * 100000) = ((n * 100000 : Nat) : Int) := by simp
  rw [e1]
  unfold logHigh logLow
  rw [itL_cast, itH_cast]
  simp only
  omega
theorem low_high {d : Int} (h : 1000 ≤ d ∧ d ≤ 10000) : logLow (d * 100000) ≤ logHigh (d * 100000) := by
  obtain ⟨N, _, hlog⟩ := log_true
  obtain ⟨lo, hi, h1, h2, h3, h4⟩ := hlog d h
  have hM : (0 : Int) < 1000 ^ N := Int.pow_pos (by omega)
  have := pow10_le (Int.le_of_mul_le_mul_right (Int.le_trans h3 h4) hM)
  omega
theorem mid_bd {d : Int} (h : 1000 ≤ d ∧ d ≤ 9999) : logLow (d * 100000) ≤ midL d ∧ midL d ≤ logLow (d * 100000) + 1 ∧ logHigh (d * 100000) ≤ midL d + 2 := by
  have h1 := width h
  have h2 := low_high (d := d) (by omega)
  unfold midL
  omega
theorem mid_up {d : Int} (h : 1000 ≤ d ∧ d ≤ 9998) : midL d + 16 ≤ midL (d + 1) := by
  have h1 := mid_bd (d := d) (by omega)
  have h2 := mid_bd (d := d + 1) (by omega)
  have h3 := logLow_up h
  omega
theorem mid_mono {d : Int} (h : 1000 ≤ d) : ∀ k : Nat, d + k ≤ 9999 → midL d + 16 * k ≤ midL (d + k)
  | 0, _ => by simp
  | k + 1, hk => by
    have h1 := mid_mono h k (by omega)
    have h2 := mid_up (d := d + k) (by omega)
    rw [show d + ((k + 1 : Nat) : Int) = d + k + 1 from by omega]
    omega
theorem mid_first : midL 1000 = 0 := by
  have h1 : logLow (1000 * 100000) = 0 := by
    unfold logLow
    have := itL_cast 100000000 20
    rw [show ((1000 : Int) * 100000) = ((100000000 : Nat) : Int) from rfl, this, show (itLN 100000000 20).2 = 0 from by decide +kernel]
    rfl
  have h2 := mid_bd (d := 1000) (by omega)
  have h3 : logHigh (1000 * 100000) ≤ 1 := by
    unfold logHigh
    have := itH_cast 100000000 20
    rw [show ((1000 : Int) * 100000) = ((100000000 : Nat) : Int) from rfl, this, show (itHN 100000000 20).2 = 0 from by decide +kernel]
    decide
  unfold midL at h2 ⊢
  omega
theorem mid_last : midL 9999 ≤ 1048540 := by
  have h1 : logLow (9999 * 100000) ≤ 1048535 := by
    unfold logLow
    have := itL_cast 999900000 20
    rw [show ((9999 : Int) * 100000) = ((999900000 : Nat) : Int) from rfl, this, show (itLN 999900000 20).2 = 1048530 from by decide +kernel]
    decide
  have h2 := mid_bd (d := 9999) (by omega)
  omega
theorem mid_le_last {d : Int} (h : 1000 ≤ d ∧ d ≤ 9999) : midL d ≤ 1048540 := by
  have h1 := mid_mono (d := d) h.1 (9999 - d).toNat (by omega)
  rw [show d + ((9999 - d).toNat : Int) = 9999 from by omega] at h1
  have := mid_last
  omega
theorem angle_mid {d t : Int} : 1048576 * angleRaw d t ≤ midL d * (t * 1296000) ∧ midL d * (t * 1296000) < 1048576 * angleRaw d t + 1048576 := by
  unfold angleRaw
  change 1048576 * (midL d * t * 1296000 / 1048576) ≤ _ ∧ _ < 1048576 * (midL d * t * 1296000 / 1048576) + 1048576
  rw [Int.mul_assoc]
  generalize midL d * (t * 1296000) = x
  omega
theorem angleRaw_le {d d' t : Int} (h : 1000 ≤ d) (hd : d ≤ d') (h' : d' ≤ 9999) (ht : 1 ≤ t ∧ t ≤ 20) : angleRaw d t ≤ angleRaw d' t := by
  rcases Int.lt_or_eq_of_le hd with h1 | rfl
  · exact Int.le_of_lt (angleRaw_lt h h1 h' ht)
  · exact Int.le_refl _
/-- no figure's angle is nearer -/
theorem nearD_best {T t d : Int} (ht : 1 ≤ t ∧ t ≤ 20) (hd : 1000 ≤ d ∧ d ≤ 9999) : absI (angleRaw (nearD T t) t - T) ≤ absI (angleRaw d t - T) := by
  have hfl := firstD_le t T
  have hlt := fun d h1 h2 => first_lt (t := t) (n := T) (d := d) h1 h2
  have hge := fun d h1 h2 => first_ge (t := t) (n := T) (d := d) ht h1 h2
  unfold nearD
  generalize ha : (1000 : Int) + firstD t T = a at *
  unfold nearOf
  by_cases h1 : a = 1000
  · rw [if_pos h1]
    subst h1
    have h2 := hge 1000 (by omega) (by omega)
    have h3 := angleRaw_le (d := 1000) (d' := d) (t := t) (by omega) hd.1 hd.2 ht
    unfold absI; omega
  · rw [if_neg h1]
    by_cases h2 : 9999 < a
    · rw [if_pos h2]
      have h3 := hlt (a - 1) (by omega) (by omega)
      have h4 := angleRaw_le (d := d) (d' := a - 1) (t := t) hd.1 (by omega) (by omega) ht
      unfold absI; omega
    · rw [if_neg h2]
      have h3 := hlt (a - 1) (by omega) (by omega)
      have h4 := hge a (by omega) (by omega)
      rcases (by omega : d < a ∨ a ≤ d) with h5 | h5
      · have h6 := angleRaw_le (d := d) (d' := a - 1) (t := t) hd.1 (by omega) (by omega) ht
        split <;> (unfold absI at *; omega)
      · have h6 := angleRaw_le (d := a) (d' := d) (t := t) (by omega) h5 hd.2 ht
        split <;> (unfold absI at *; omega)
theorem K_bd {t : Int} (ht : 1 ≤ t ∧ t ≤ 20) : 1296000 ≤ t * 1296000 := by omega
/-- the angle T lies at most 5 units of the logarithm above that of e: the nearest figure is at most e -/
theorem near_up {T t e m : Int} (ht : 1 ≤ t ∧ t ≤ 20) (he : 1000 ≤ e ∧ e ≤ 9999) (hT : 1048576 * T ≤ m * (t * 1296000)) (hm : m ≤ midL e + 5) : nearD T t ≤ e := by
  rcases (by omega : e < nearD T t ∨ nearD T t ≤ e) with h | h
  · exfalso
    have hp := nearD_bd T t
    have hbest := nearD_best (T := T) ht he
    have h1 := angleRaw_le (d := e + 1) (d' := nearD T t) (t := t) (by omega) (by omega) hp.2 ht
    have h2 := mid_up (d := e) (by omega)
    have h3 := angle_mid (d := e) (t := t)
    have h4 := angle_mid (d := e + 1) (t := t)
    have hK := K_bd ht
    generalize t * 1296000 = K at *
    have h5 := Int.mul_le_mul_of_nonneg_right hm (show 0 ≤ K by omega)
    have h6 := Int.mul_le_mul_of_nonneg_right h2 (show 0 ≤ K by omega)
    rw [Int.add_mul] at h5 h6
    generalize m * K = mk at *
    generalize midL e * K = ek at *
    generalize midL (e + 1) * K = ek1 at *
    generalize angleRaw (nearD T t) t = ap at *
    generalize angleRaw (e + 1) t = ae1 at *
    generalize angleRaw e t = ae at *
    unfold absI at hbest
    omega
  · exact h
theorem near_low {T t e m : Int} (ht : 1 ≤ t ∧ t ≤ 20) (he : 1000 ≤ e ∧ e ≤ 9999) (hT : m * (t * 1296000) < 1048576 * T + 2097152) (hm : midL e ≤ m + 5) : e ≤ nearD T t := by
  rcases (by omega : nearD T t < e ∨ e ≤ nearD T t) with h | h
  · exfalso
    have hp := nearD_bd T t
    have hbest := nearD_best (T := T) ht he
    have h1 := angleRaw_le (d := nearD T t) (d' := e - 1) (t := t) hp.1 (by omega) (by omega) ht
    have h2 := mid_up (d := e - 1) (by omega)
    rw [show e - 1 + 1 = e from by omega] at h2
    have h3 := angle_mid (d := e) (t := t)
    have h4 := angle_mid (d := e - 1) (t := t)
    have hK := K_bd ht
    generalize t * 1296000 = K at *
    have h5 := Int.mul_le_mul_of_nonneg_right hm (show 0 ≤ K by omega)
    have h6 := Int.mul_le_mul_of_nonneg_right h2 (show 0 ≤ K by omega)
    rw [Int.add_mul] at h5 h6
    generalize m * K = mk at *
    generalize midL e * K = ek at *
    generalize midL (e - 1) * K = ek1 at *
    generalize angleRaw (nearD T t) t = ap at *
    generalize angleRaw (e - 1) t = ae1 at *
    generalize angleRaw e t = ae at *
    unfold absI at hbest
    omega
  · exact h
/-- the digits of the product -/
def prodD (a b : Int) : Int :=
  if a * b < 10000000 then (if (2 * (a * b) + 1000) / 2000 = 10000 then 1000 else (2 * (a * b) + 1000) / 2000)
  else (if (2 * (a * b) + 10000) / 20000 = 10000 then 1000 else (2 * (a * b) + 10000) / 20000)
theorem prod_bd {a b : Int} (ha : 1000 ≤ a ∧ a ≤ 9999) (hb : 1000 ≤ b ∧ b ≤ 9999) : 1000000 ≤ a * b ∧ a * b ≤ 99980001 := by
  have h1 : 1000 * 1000 ≤ a * b := Int.mul_le_mul ha.1 hb.1 (by omega) (by omega)
  have h2 : a * b ≤ 9999 * 9999 := Int.mul_le_mul ha.2 hb.2 (by omega) (by omega)
  omega
theorem circ_near {a b t : Int} (ha : 1000 ≤ a ∧ a ≤ 9999) (hb : 1000 ≤ b ∧ b ≤ 9999) (ht : 1 ≤ t ∧ t ≤ 20) :
    absI (nearD ((angleRaw a t + angleRaw b t) % (1296000 * t)) t - prodD a b) ≤ 2 ∨ 8997 ≤ absI (nearD ((angleRaw a t + angleRaw b t) % (1296000 * t)) t - prodD a b) := by
  have hpb := prod_bd ha hb
  have hfa := angleRaw_lt_full (d := a) ha ht
  have hfb := angleRaw_lt_full (d := b) hb ht
  have ma := mid_bd ha
  have mb := mid_bd hb
  have aa := angle_mid (d := a) (t := t)
  have ab := angle_mid (d := b) (t := t)
  have hlog := fun e (he : 1000 ≤ e ∧ e ≤ 9999) => log_mul_le (a := a) (b := b) (e := e) (by omega) (by omega) (by omega)
  have hup := fun T e m he h1 h2 => near_up (T := T) (t := t) (e := e) (m := m) ht he h1 h2
  have hlow := fun T e m he h1 h2 => near_low (T := T) (t := t) (e := e) (m := m) ht he h1 h2
  have hnb := fun T => nearD_bd T t
  have hK := K_bd ht
  rw [mod_add (show 0 ≤ angleRaw a t ∧ angleRaw a t < 1296000 * t from hfa) hfb]
  rw [show 1296000 * t = t * 1296000 from Int.mul_comm _ _] at *
  unfold prodD
  generalize hP : a * b = P at *
  -- the sum of the two angles and of the two logarithms
  have sK : midL a * (t * 1296000) + midL b * (t * 1296000) = (midL a + midL b) * (t * 1296000) := (Int.add_mul _ _ _).symm
  have sW : (midL a + midL b - 1048576) * (t * 1296000) = (midL a + midL b) * (t * 1296000) - 1048576 * (t * 1296000) := Int.sub_mul _ _ _
  generalize hm : midL a + midL b = m at *
  by_cases hwr : t * 1296000 ≤ angleRaw a t + angleRaw b t
  · rw [if_pos hwr]
    generalize hA : angleRaw a t + angleRaw b t - t * 1296000 = T at *
    have u1 : 1048576 * T ≤ (m - 1048576) * (t * 1296000) := by omega
    have u2 : (m - 1048576) * (t * 1296000) < 1048576 * T + 2097152 := by omega
    have hn := hnb T
    by_cases h7 : P < 10000000
    · rw [if_pos h7]
      by_cases h9 : 9999000 < P
      · -- across the end: the nearest is 1000
        have hl := (hlog 1000 (by omega)).2.1 (by omega)
        have m0 := mid_bd (d := 1000) (by omega)
        have h1 := hup T 1000 (m - 1048576) (by omega) u1 (by omega)
        split <;> (unfold absI; omega)
      · -- the sum cannot reach the full turn
        exfalso
        have hl := (hlog 9999 (by omega)).1 (by omega)
        have m9 := mid_bd (d := 9999) (by omega)
        have hmm := mid_last
        have h1 : m ≤ 1048560 := by omega
        have h2 := Int.mul_le_mul_of_nonneg_right h1 (show 0 ≤ t * 1296000 by omega)
        omega
    · rw [if_neg h7]
      have hl1 := (hlog (P / 10000) (by omega)).2.2.2 (by omega)
      have hl2 := (hlog ((P + 9999) / 10000) (by omega)).2.1 (by omega)
      have m1 := mid_bd (d := P / 10000) (by omega)
      have m2 := mid_bd (d := (P + 9999) / 10000) (by omega)
      have h1 := hup T ((P + 9999) / 10000) (m - 1048576) (by omega) u1 (by omega)
      have h2 := hlow T (P / 10000) (m - 1048576) (by omega) u2 (by omega)
      split <;> (unfold absI; omega)
  · rw [if_neg hwr]
    generalize hA : angleRaw a t + angleRaw b t = T at *
    have u1 : 1048576 * T ≤ m * (t * 1296000) := by omega
    have u2 : m * (t * 1296000) < 1048576 * T + 2097152 := by omega
    have hn := hnb T
    by_cases h7 : P < 10000000
    · rw [if_pos h7]
      have hl1 := (hlog (P / 1000) (by omega)).2.2.1 (by omega)
      have m1 := mid_bd (d := P / 1000) (by omega)
      have h2 := hlow T (P / 1000) m (by omega) u2 (by omega)
      by_cases h9 : 9999000 < P
      · split <;> (unfold absI; omega)
      · have hl2 := (hlog ((P + 999) / 1000) (by omega)).1 (by omega)
        have m2 := mid_bd (d := (P + 999) / 1000) (by omega)
        have h1 := hup T ((P + 999) / 1000) m (by omega) u1 (by omega)
        split <;> (unfold absI; omega)
    · rw [if_neg h7]
      have hl1 := (hlog (P / 10000) (by omega)).2.2.2 (by omega)
      have m1 := mid_bd (d := P / 10000) (by omega)
      -- the sum is just below the full turn
      have hf : P / 10000 = 1000 := by
        rcases (by omega : 1000 < P / 10000 ∨ P / 10000 ≤ 1000) with h | h
        · exfalso
          have hmm := mid_mono (d := 1000) (by omega) (P / 10000 - 1000).toNat (by omega)
          rw [show (1000 : Int) + ((P / 10000 - 1000).toNat : Int) = P / 10000 from by omega] at hmm
          rw [mid_first] at hmm
          have h1 : 1048576 + 11 ≤ m := by omega
          have h2 := Int.mul_le_mul_of_nonneg_right h1 (show 0 ≤ t * 1296000 by omega)
          omega
        · omega
      have m9 := mid_last
      have m0 := mid_first
      rw [hf] at m1 hl1
      have h2 := hlow T 9999 m (by omega) u2 (by omega)
      split <;> (unfold absI; omega)
end Go.Proofs.Ytcpnmeebbbeakaa
