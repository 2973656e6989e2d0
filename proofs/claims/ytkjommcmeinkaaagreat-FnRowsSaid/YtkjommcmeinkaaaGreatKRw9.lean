/- The angle of a figure grows strictly with its digits. The growth of the lower bits is counted by the kernel. No program. -/
import Derived.Test.YtkjommcmeinkaaaGreatKRw7
set_option linter.unusedSimpArgs false
namespace Go.Proofs.YtkjommcmeinkaaaGreat
def stepLN (s : Nat × Nat) : Nat × Nat := if 1000000000 ≤ s.1 * s.1 / 100000000 then (s.1 * s.1 / 100000000 / 10, 2 * s.2 + 1) else (s.1 * s.1 / 100000000, 2 * s.2)
def itLN (x : Nat) (k : Nat) : Nat × Nat := Nat.rec (x, 0) (fun _ s => stepLN s) k
def chkL (d : Nat) (k : Nat) : Bool := Nat.rec true (fun i b => Nat.blt ((itLN ((d + i) * 100000) 16).2 + 1) (itLN ((d + i + 1) * 100000) 16).2 && b) k
set_option maxRecDepth 100000
theorem chk0 : chkL 1000 1000 = true := by decide +kernel
theorem chk1 : chkL 2000 1000 = true := by decide +kernel
theorem chk2 : chkL 3000 1000 = true := by decide +kernel
theorem chk3 : chkL 4000 1000 = true := by decide +kernel
theorem chk4 : chkL 5000 1000 = true := by decide +kernel
theorem chk5 : chkL 6000 1000 = true := by decide +kernel
theorem chk6 : chkL 7000 1000 = true := by decide +kernel
theorem chk7 : chkL 8000 1000 = true := by decide +kernel
theorem chk8 : chkL 9000 999 = true := by decide +kernel
theorem chk_get {d : Nat} : ∀ {k : Nat}, chkL d k = true → ∀ i, i < k → (itLN ((d + i) * 100000) 16).2 + 2 ≤ (itLN ((d + i + 1) * 100000) 16).2
  | 0, _, i, hi => by omega
  | k + 1, h, i, hi => by
    have h' : (Nat.blt ((itLN ((d + k) * 100000) 16).2 + 1) (itLN ((d + k + 1) * 100000) 16).2 && chkL d k) = true := h
    simp only [Bool.and_eq_true] at h'
    rcases Nat.lt_or_ge i k with h1 | h1
    · exact chk_get h'.2 i h1
    · obtain rfl : i = k := by omega
      have := Nat.blt_eq.mp h'.1
      omega
theorem bits16 {d : Nat} (h : 1000 ≤ d) (h' : d ≤ 9998) : (itLN (d * 100000) 16).2 + 2 ≤ (itLN ((d + 1) * 100000) 16).2 := by
  have key : ∀ b k, chkL b k = true → b ≤ d → d < b + k → (itLN (d * 100000) 16).2 + 2 ≤ (itLN ((d + 1) * 100000) 16).2 := fun b k hc h1 h2 => by
    have := chk_get hc (d - b) (by omega)
    rwa [show b + (d - b) = d from by omega] at this
  rcases Nat.lt_or_ge d 2000 with h0 | h0
  · exact key _ _ chk0 h (by omega)
  rcases Nat.lt_or_ge d 3000 with h1 | h1
  · exact key _ _ chk1 h0 (by omega)
  rcases Nat.lt_or_ge d 4000 with h2 | h2
  · exact key _ _ chk2 h1 (by omega)
  rcases Nat.lt_or_ge d 5000 with h3 | h3
  · exact key _ _ chk3 h2 (by omega)
  rcases Nat.lt_or_ge d 6000 with h4 | h4
  · exact key _ _ chk4 h3 (by omega)
  rcases Nat.lt_or_ge d 7000 with h5 | h5
  · exact key _ _ chk5 h4 (by omega)
  rcases Nat.lt_or_ge d 8000 with h6 | h6
  · exact key _ _ chk6 h5 (by omega)
  rcases Nat.lt_or_ge d 9000 with h7 | h7
  · exact key _ _ chk7 h6 (by omega)
  · exact key _ _ chk8 h7 (by omega)
theorem itL_cast (x : Nat) : ∀ k, itL (x : Int) k = (((itLN x k).1 : Int), ((itLN x k).2 : Int))
  | 0 => rfl
  | k + 1 => by
    have h1 : itLN x (k + 1) = stepLN (itLN x k) := rfl
    rw [itL, itL_cast x k, h1]
    generalize itLN x k = s
    obtain ⟨y, n⟩ := s
    unfold stepL stepLN
    simp only
    have e : ((y : Int) * y / 100000000) = ((y * y / 100000000 : Nat) : Int) := by simp
    rw [e]
    by_cases hb : 1000000000 ≤ y * y / 100000000
    · rw [if_pos hb, if_pos (by omega)]
      simp
    · rw [if_neg hb, if_neg (by omega)]
      simp
theorem stepL_two (s : Int × Int) : (stepL s).2 = 2 * s.2 ∨ (stepL s).2 = 2 * s.2 + 1 := by
  unfold stepL; split <;> simp
theorem itL_four' (x : Int) (k : Nat) : 16 * (itL x k).2 ≤ (itL x (k + 4)).2 ∧ (itL x (k + 4)).2 ≤ 16 * (itL x k).2 + 15 := by
  have h1 := stepL_two (itL x k)
  have h2 := stepL_two (itL x (k + 1))
  have h3 := stepL_two (itL x (k + 2))
  have h4 := stepL_two (itL x (k + 3))
  have e1 : itL x (k + 1) = stepL (itL x k) := rfl
  have e2 : itL x (k + 2) = stepL (itL x (k + 1)) := rfl
  have e3 : itL x (k + 3) = stepL (itL x (k + 2)) := rfl
  have e4 : itL x (k + 4) = stepL (itL x (k + 3)) := rfl
  rw [← e1] at h1
  rw [← e2] at h2
  rw [← e3] at h3
  rw [← e4] at h4
  omega
theorem itL_20 (x : Int) : 16 * (itL x 16).2 ≤ (itL x 20).2 ∧ (itL x 20).2 ≤ 16 * (itL x 16).2 + 15 := itL_four' x 16
theorem logLow_up {d : Int} (h : 1000 ≤ d ∧ d ≤ 9998) : logLow (d * 100000) + 17 ≤ logLow ((d + 1) * 100000) := by
  obtain ⟨n, rfl⟩ := Int.eq_ofNat_of_zero_le (show 0 ≤ d by omega)
  have hb := bits16 (d := n) (by omega) (by omega)
  have h1 := itL_20 ((n : Int) * 100000)
  have h2 := itL_20 (((n : Int) + 1) * 100000)
  have e1 : ((n : Int) * 100000) = ((n * 100000 : Nat) : Int) := by simp
  have e2 : (((n : Int) + 1) * 100000) = (((n + 1) * 100000 : Nat) : Int) := by simp
  rw [e1] at h1 ⊢
  rw [e2] at h2 ⊢
  unfold logLow
  rw [itL_cast _ 16] at h1 h2
  simp only at h1 h2
  omega
/-- the steps of the upper bits keep the order -/
def leB (s s' : Int × Int) : Prop := s.2 < s'.2 ∨ (s.2 = s'.2 ∧ s.1 ≤ s'.1)
theorem stepH_mono {s s' : Int × Int} (h0 : 0 ≤ s.1) (h : leB s s') : leB (stepH s) (stepH s') := by
  obtain ⟨y, n⟩ := s
  obtain ⟨z, m⟩ := s'
  unfold leB at h ⊢
  simp only at h h0
  unfold stepH
  simp only
  rcases h with h | ⟨rfl, h⟩
  · left
    split <;> split <;> (simp only; omega)
  · have hq : y * y ≤ z * z := Int.mul_le_mul h h h0 (by omega)
    unfold cdiv
    generalize y * y = a at *
    generalize z * z = b at *
    by_cases h1 : 1000000000 ≤ -(-a / 100000000) <;> by_cases h2 : 1000000000 ≤ -(-b / 100000000)
    · rw [if_pos h1, if_pos h2]; exact .inr ⟨rfl, by simp only; omega⟩
    · exfalso; omega
    · rw [if_neg h1, if_pos h2]; exact .inl (by simp only; omega)
    · rw [if_neg h1, if_neg h2]; exact .inr ⟨rfl, by simp only; omega⟩
theorem itH_mono {x x' : Int} (hx : 100000000 ≤ x ∧ x ≤ 1000000000) (h : x ≤ x') : ∀ k, leB (itH x k) (itH x' k)
  | 0 => .inr ⟨rfl, h⟩
  | k + 1 => stepH_mono (by have := (itH_bd hx k).1; omega) (itH_mono hx h k)
theorem logHigh_mono {x x' : Int} (hx : 100000000 ≤ x ∧ x ≤ 1000000000) (h : x ≤ x') : logHigh x ≤ logHigh x' := by
  have := itH_mono hx h 20
  unfold leB at this
  unfold logHigh
  omega
theorem angleRaw_succ {d t : Int} (h : 1000 ≤ d ∧ d ≤ 9998) (ht : 1 ≤ t ∧ t ≤ 20) : angleRaw d t < angleRaw (d + 1) t := by
  have h1 := logLow_up h
  have h2 := logHigh_mono (x := d * 100000) (x' := (d + 1) * 100000) (by omega) (by omega)
  unfold angleRaw
  generalize hs : (logLow (d * 100000) + logHigh (d * 100000)) / 2 = s
  generalize hs' : (logLow ((d + 1) * 100000) + logHigh ((d + 1) * 100000)) / 2 = s'
  have h3 : s + 8 ≤ s' := by omega
  have h4 : (s + 8) * t ≤ s' * t := Int.mul_le_mul_of_nonneg_right h3 (by omega)
  rw [Int.add_mul] at h4
  generalize s * t = a at *
  generalize s' * t = b at *
  omega
theorem angleRaw_lt {d d' t : Int} (h : 1000 ≤ d) (hd : d < d') (h' : d' ≤ 9999) (ht : 1 ≤ t ∧ t ≤ 20) : angleRaw d t < angleRaw d' t := by
  obtain ⟨n, hn⟩ : ∃ n : Nat, d' = d + 1 + n := ⟨(d' - d - 1).toNat, by omega⟩
  subst hn
  clear hd
  induction n with
  | zero => simpa using angleRaw_succ (d := d) ⟨h, by omega⟩ ht
  | succ n ih =>
    have h1 := ih (by omega)
    have h2 := angleRaw_succ (d := d + 1 + n) (t := t) ⟨by omega, by omega⟩ ht
    rw [show d + 1 + ((n + 1 : Nat) : Int) = d + 1 + n + 1 from by omega]
    omega
end Go.Proofs.YtkjommcmeinkaaaGreat
