/- The figures round a number of units: plain. No program. -/
import Derived.Test.YtgkobjpoeajkdaaGreatMono
import Derived.Test.YtgkobjpoeajkdaaGreatSum
namespace Go.Proofs.YtgkobjpoeajkdaaGreat
set_option maxRecDepth 100000
theorem logLow_one : logLow 100000000 = 0 := by decide +kernel
theorem logHigh_one : logHigh 100000000 = 1 := by decide +kernel
/-- the figure with a number: its digits, its power -/
def numD (n : Int) : Int := 1000 + n % 9000
def numT (n : Int) : Int := n / 9000
def hiN (n : Int) : Int := figHi (numD n) (numT n)
def loN (n : Int) : Int := figLo (numD n) (numT n)
theorem numD_bd (n : Int) : 1000 ≤ numD n ∧ numD n ≤ 9999 := by unfold numD; omega
theorem hiN_mk {t i : Int} (h : 0 ≤ i ∧ i < 9000) : hiN (9000 * t + i) = figHi (1000 + i) t := by
  unfold hiN numD numT
  rw [show (9000 * t + i) % 9000 = i from by omega, show (9000 * t + i) / 9000 = t from by omega]
theorem loN_mk {t i : Int} (h : 0 ≤ i ∧ i < 9000) : loN (9000 * t + i) = figLo (1000 + i) t := by
  unfold loN numD numT
  rw [show (9000 * t + i) % 9000 = i from by omega, show (9000 * t + i) / 9000 = t from by omega]
theorem num_split (n : Int) : ∃ t i : Int, n = 9000 * t + i ∧ 0 ≤ i ∧ i < 9000 := ⟨n / 9000, n % 9000, by omega, by omega, by omega⟩
theorem hiN_succ (n : Int) : hiN n ≤ hiN (n + 1) := by
  obtain ⟨t, i, rfl, h0, h1⟩ := num_split n
  rw [hiN_mk ⟨h0, h1⟩]
  by_cases h : i < 8999
  · rw [show 9000 * t + i + 1 = 9000 * t + (i + 1) from by omega, hiN_mk ⟨by omega, by omega⟩]
    have := logHigh_mono (x := (1000 + i) * 100000) (x' := (1000 + (i + 1)) * 100000) (by omega) (by omega)
    unfold figHi
    omega
  · obtain rfl : i = 8999 := by omega
    rw [show 9000 * t + 8999 + 1 = 9000 * (t + 1) + 0 from by omega, hiN_mk ⟨by omega, by omega⟩]
    have h2 := logHigh_bd (x := (1000 + 8999) * 100000) (by omega)
    have h3 := logHigh_bd (x := (1000 + 0) * 100000) (by omega)
    unfold figHi
    omega
theorem loN_succ (n : Int) : loN n ≤ loN (n + 1) := by
  obtain ⟨t, i, rfl, h0, h1⟩ := num_split n
  rw [loN_mk ⟨h0, h1⟩]
  by_cases h : i < 8999
  · rw [show 9000 * t + i + 1 = 9000 * t + (i + 1) from by omega, loN_mk ⟨by omega, by omega⟩]
    have := logLow_up (d := 1000 + i) (by omega)
    rw [show (1000 + (i + 1)) = 1000 + i + 1 from by omega]
    unfold figLo
    omega
  · obtain rfl : i = 8999 := by omega
    rw [show 9000 * t + 8999 + 1 = 9000 * (t + 1) + 0 from by omega, loN_mk ⟨by omega, by omega⟩]
    have h2 := logLow_bd (x := (1000 + 8999) * 100000) (by omega)
    have h3 := logLow_bd (x := (1000 + 0) * 100000) (by omega)
    unfold figLo
    omega
theorem mono_of {f : Int → Int} (h : ∀ n, f n ≤ f (n + 1)) {a b : Int} (hab : a ≤ b) : f a ≤ f b := by
  obtain ⟨k, rfl⟩ : ∃ k : Nat, b = a + k := ⟨(b - a).toNat, by omega⟩
  clear hab
  induction k with
  | zero => simp
  | succ k ih => exact Int.le_trans ih (by have := h (a + k); rwa [show a + ((k + 1 : Nat) : Int) = a + k + 1 from by omega])
/-! ### The figure below -/
def belP (u : Int) (i : Nat) : Bool := decide (u < figHi (1000 + i) ((u - 1) / 1048576))
def belI (u : Int) : Nat := (List.range 9000).findIdx (belP u)
theorem belI_le (u : Int) : belI u ≤ 9000 := by
  have := List.findIdx_le_length (xs := List.range 9000) (p := belP u)
  simpa [belI] using this
theorem belI_lo {u : Int} {i : Nat} (h : i < belI u) : belP u i = false := by
  have hl := belI_le u
  have := List.not_of_lt_findIdx (p := belP u) (xs := List.range 9000) h
  simpa using this
theorem belI_at {u : Int} (h : belI u < 9000) : belP u (belI u) = true := by
  have := List.findIdx_getElem (p := belP u) (xs := List.range 9000) (w := by simpa [belI] using h)
  simpa [belI] using this
theorem belI_hi {u : Int} {i : Nat} (h : belI u ≤ i) (hi : i < 9000) : belP u i = true := by
  have h0 := belI_at (u := u) (by omega)
  unfold belP at h0 ⊢
  simp only [decide_eq_true_eq] at h0 ⊢
  have h1 := mono_of hiN_succ (a := 9000 * ((u - 1) / 1048576) + (belI u : Nat)) (b := 9000 * ((u - 1) / 1048576) + (i : Nat)) (by omega)
  rw [hiN_mk ⟨by omega, by omega⟩, hiN_mk ⟨by omega, by omega⟩] at h1
  omega
theorem belI_pos (u : Int) : 1 ≤ belI u := by
  rcases Nat.eq_zero_or_pos (belI u) with h | h
  · have h0 := belI_at (u := u) (by omega)
    rw [h] at h0
    unfold belP figHi at h0
    simp only [decide_eq_true_eq] at h0
    rw [show ((1000 : Int) + ((0 : Nat) : Int)) * 100000 = 100000000 from by omega, logHigh_one] at h0
    omega
  · exact h
/-- the number of the first figure whose High is above u -/
def belN (u : Int) : Int := 9000 * ((u - 1) / 1048576) + belI u
theorem belN_hi {u n : Int} (h : belN u ≤ n) : u < hiN n := by
  refine Int.lt_of_lt_of_le ?_ (mono_of hiN_succ h)
  unfold belN
  have hle := belI_le u
  by_cases h9 : belI u < 9000
  · have h0 := belI_at h9
    unfold belP at h0
    rw [hiN_mk ⟨by omega, by omega⟩]
    simpa using h0
  · rw [show 9000 * ((u - 1) / 1048576) + ((belI u : Nat) : Int) = 9000 * ((u - 1) / 1048576 + 1) + 0 from by omega, hiN_mk ⟨by omega, by omega⟩]
    unfold figHi
    have h3 := logHigh_bd (x := (1000 + 0) * 100000) (by omega)
    omega
theorem belN_lo {u n : Int} (h : n < belN u) : hiN n ≤ u := by
  refine Int.le_trans (mono_of hiN_succ (b := belN u - 1) (by omega)) ?_
  unfold belN
  have h1 := belI_pos u
  have hle := belI_le u
  have h0 := belI_lo (u := u) (i := belI u - 1) (by omega)
  unfold belP at h0
  simp only [decide_eq_false_iff_not] at h0
  rw [show 9000 * ((u - 1) / 1048576) + ((belI u : Nat) : Int) - 1 = 9000 * ((u - 1) / 1048576) + ((belI u - 1 : Nat) : Int) from by omega, hiN_mk ⟨by omega, by omega⟩]
  omega
theorem belN_D (u : Int) : numD (belN u - 1) = 999 + belI u ∧ numT (belN u - 1) = (u - 1) / 1048576 := by
  have h1 := belI_pos u
  have hle := belI_le u
  unfold numD numT belN
  generalize (u - 1) / 1048576 = t
  omega
/-! ### The figure above -/
def aboP (u : Int) (i : Nat) : Bool := decide (u ≤ figLo (1000 + i) (u / 1048576))
def aboI (u : Int) : Nat := (List.range 9000).findIdx (aboP u)
theorem aboI_le (u : Int) : aboI u ≤ 9000 := by
  have := List.findIdx_le_length (xs := List.range 9000) (p := aboP u)
  simpa [aboI] using this
theorem aboI_lo {u : Int} {i : Nat} (h : i < aboI u) : aboP u i = false := by
  have hl := aboI_le u
  have := List.not_of_lt_findIdx (p := aboP u) (xs := List.range 9000) h
  simpa using this
theorem aboI_at {u : Int} (h : aboI u < 9000) : aboP u (aboI u) = true := by
  have := List.findIdx_getElem (p := aboP u) (xs := List.range 9000) (w := by simpa [aboI] using h)
  simpa [aboI] using this
theorem aboI_hi {u : Int} {i : Nat} (h : aboI u ≤ i) (hi : i < 9000) : aboP u i = true := by
  have h0 := aboI_at (u := u) (by omega)
  unfold aboP at h0 ⊢
  simp only [decide_eq_true_eq] at h0 ⊢
  have h1 := mono_of loN_succ (a := 9000 * (u / 1048576) + (aboI u : Nat)) (b := 9000 * (u / 1048576) + (i : Nat)) (by omega)
  rw [loN_mk ⟨by omega, by omega⟩, loN_mk ⟨by omega, by omega⟩] at h1
  omega
/-- the number of the first figure whose Low is at least u -/
def aboN (u : Int) : Int := 9000 * (u / 1048576) + aboI u
theorem aboN_hi {u n : Int} (h : aboN u ≤ n) : u ≤ loN n := by
  refine Int.le_trans ?_ (mono_of loN_succ h)
  unfold aboN
  have hle := aboI_le u
  by_cases h9 : aboI u < 9000
  · have h0 := aboI_at h9
    unfold aboP at h0
    rw [loN_mk ⟨by omega, by omega⟩]
    simpa using h0
  · rw [show 9000 * (u / 1048576) + ((aboI u : Nat) : Int) = 9000 * (u / 1048576 + 1) + 0 from by omega, loN_mk ⟨by omega, by omega⟩]
    unfold figLo
    have h3 := logLow_bd (x := (1000 + 0) * 100000) (by omega)
    omega
theorem aboN_lo {u n : Int} (h : n < aboN u) : loN n < u := by
  refine Int.lt_of_le_of_lt (mono_of loN_succ (b := aboN u - 1) (by omega)) ?_
  unfold aboN
  have hle := aboI_le u
  rcases Nat.eq_zero_or_pos (aboI u) with h1 | h1
  · rw [h1, show 9000 * (u / 1048576) + ((0 : Nat) : Int) - 1 = 9000 * (u / 1048576 - 1) + 8999 from by omega, loN_mk ⟨by omega, by omega⟩]
    unfold figLo
    have h3 := logLow_bd (x := (1000 + 8999) * 100000) (by omega)
    omega
  · have h0 := aboI_lo (u := u) (i := aboI u - 1) (by omega)
    unfold aboP at h0
    simp only [decide_eq_false_iff_not] at h0
    rw [show 9000 * (u / 1048576) + ((aboI u : Nat) : Int) - 1 = 9000 * (u / 1048576) + ((aboI u - 1 : Nat) : Int) from by omega, loN_mk ⟨by omega, by omega⟩]
    omega
theorem aboN_D (u : Int) : (aboI u = 9000 → numD (aboN u) = 1000 ∧ numT (aboN u) = u / 1048576 + 1) ∧ (aboI u < 9000 → numD (aboN u) = 1000 + aboI u ∧ numT (aboN u) = u / 1048576) := by
  unfold numD numT aboN
  generalize u / 1048576 = t
  omega
/-! ### The span -/
def unitsB (u : Int) : Bool := inB u (-31457280) 31457280
theorem unitsB_bd {u : Int} (h : unitsB u = true) : -31457280 ≤ u ∧ u ≤ 31457280 := inB_true.1 h
theorem belN_bd {u : Int} (h : unitsB u = true) : -270000 ≤ belN u ∧ belN u ≤ 270000 := by
  have h0 := unitsB_bd h
  have h1 := belI_pos u
  have h2 := belI_le u
  unfold belN
  generalize ht : (u - 1) / 1048576 = t
  by_cases h3 : t = -31
  · -- u = -30 decades: the first one is 1000 at -30
    have hu : u = -31457280 := by omega
    have h4 : ¬ belI u < 9000 := by
      intro h4
      have h0 := belI_at h4
      unfold belP figHi at h0
      simp only [decide_eq_true_eq] at h0
      have := logHigh_bd (x := (1000 + (belI u : Int)) * 100000) (by omega)
      rw [ht] at h0
      omega
    omega
  · omega
end Go.Proofs.YtgkobjpoeajkdaaGreat
