/- The figure whose angle is nearest: plain. No program. -/
import Derived.Test.YtkjommcmeinkaaaGreatKRw9
set_option linter.unusedSimpArgs false
namespace Go.Proofs.YtkjommcmeinkaaaGreat
set_option maxRecDepth 100000
def firstP (t n : Int) (i : Nat) : Bool := decide (n ≤ angleRaw (1000 + i) t)
def firstD (t n : Int) : Nat := (List.range 9000).findIdx (firstP t n)
theorem firstD_le (t n : Int) : firstD t n ≤ 9000 := by
  have := List.findIdx_le_length (xs := List.range 9000) (p := firstP t n)
  simpa [firstD] using this
theorem firstD_lo {t n : Int} {i : Nat} (h : i < firstD t n) : firstP t n i = false := by
  have hl := firstD_le t n
  have := List.not_of_lt_findIdx (p := firstP t n) (xs := List.range 9000) h
  simpa using this
theorem firstD_at {t n : Int} (h : firstD t n < 9000) : firstP t n (firstD t n) = true := by
  have := List.findIdx_getElem (p := firstP t n) (xs := List.range 9000) (w := by simpa [firstD] using h)
  simpa [firstD] using this
theorem firstD_hi {t n : Int} (ht : 1 ≤ t ∧ t ≤ 20) {i : Nat} (h : firstD t n ≤ i) (hi : i < 9000) : firstP t n i = true := by
  have h0 := firstD_at (t := t) (n := n) (by omega)
  unfold firstP at h0 ⊢
  simp only [decide_eq_true_eq] at h0 ⊢
  rcases Nat.lt_or_ge (firstD t n) i with h1 | h1
  · have := angleRaw_lt (d := 1000 + (firstD t n : Nat)) (d' := 1000 + i) (t := t) (by omega) (by omega) (by omega) ht
    omega
  · have : firstD t n = i := by omega
    rw [← this]; exact h0
/-- below the first place the angle is less, from it on it is not -/
theorem first_lt {t n d : Int} (h : 1000 ≤ d) (hd : d < 1000 + firstD t n) : angleRaw d t < n := by
  have := firstD_lo (t := t) (n := n) (i := (d - 1000).toNat) (by omega)
  unfold firstP at this
  simp only [decide_eq_false_iff_not] at this
  rw [show (1000 : Int) + ((d - 1000).toNat : Int) = d from by omega] at this
  omega
theorem first_ge {t n d : Int} (ht : 1 ≤ t ∧ t ≤ 20) (hd : 1000 + firstD t n ≤ d) (h : d ≤ 9999) : n ≤ angleRaw d t := by
  have := firstD_hi (t := t) (n := n) ht (i := (d - 1000).toNat) (by omega) (by omega)
  unfold firstP at this
  simp only [decide_eq_true_eq] at this
  rwa [show (1000 : Int) + ((d - 1000).toNat : Int) = d from by omega] at this
theorem first_self {t d : Int} (ht : 1 ≤ t ∧ t ≤ 20) (h : 1000 ≤ d) (h' : d ≤ 9999) : (1000 : Int) + firstD t (angleRaw d t) = d := by
  rcases Int.lt_trichotomy ((1000 : Int) + firstD t (angleRaw d t)) d with h1 | h1 | h1
  · have := first_ge (n := angleRaw d t) ht (Int.le_refl _) (by omega)
    have h2 := angleRaw_lt (d := 1000 + (firstD t (angleRaw d t) : Nat)) (d' := d) (t := t) (by omega) h1 h' ht
    omega
  · exact h1
  · have := first_lt (t := t) (n := angleRaw d t) h h1
    omega
/-- |x|, as both programs say it -/
def absI (x : Int) : Int := max x (-x)
/-- the nearest of the two figures round the first place a -/
def nearOf (angle t a : Int) : Int :=
  if a = 1000 then 1000 else if 9999 < a then a - 1 else if absI (angleRaw (a - 1) t - angle) ≤ absI (angleRaw a t - angle) then a - 1 else a
def nearD (angle t : Int) : Int := nearOf angle t (1000 + firstD t angle)
theorem nearD_bd (angle t : Int) : 1000 ≤ nearD angle t ∧ nearD angle t ≤ 9999 := by
  have := firstD_le t angle
  unfold nearD nearOf
  split
  · omega
  · split
    · omega
    · split <;> omega
/-- what the window's loop holds ahead of the figure n -/
def winSt (angle t a n best least : Int) : Prop :=
  (n = max 1000 (a - 3) ∧ best = 0 ∧ least = -1) ∨ (max 1000 (a - 3) < n ∧ n ≤ a ∧ best = n - 1 ∧ least = angle - angleRaw (n - 1) t) ∨
    (a < n ∧ best = nearOf angle t a ∧ least = absI (angleRaw (nearOf angle t a) t - angle))
theorem winSt_step {angle t n best least : Int} (ht : 1 ≤ t ∧ t ≤ 20) (hn : 1000 ≤ n ∧ n ≤ 9999) (hs : winSt angle t (1000 + firstD t angle) n best least) :
    (least < 0 ∨ absI (angleRaw n t - angle) < least → winSt angle t (1000 + firstD t angle) (n + 1) n (absI (angleRaw n t - angle))) ∧
    (¬ least < 0 → ¬ absI (angleRaw n t - angle) < least → winSt angle t (1000 + firstD t angle) (n + 1) best least) := by
  have hfl := firstD_le t angle
  have hlt := fun d h1 h2 => first_lt (t := t) (n := angle) (d := d) h1 h2
  have hge := fun d h1 h2 => first_ge (t := t) (n := angle) (d := d) ht h1 h2
  generalize ha : (1000 : Int) + firstD t angle = a at *
  rcases hs with ⟨h1, rfl, rfl⟩ | ⟨h1, h2, rfl, rfl⟩ | ⟨h1, rfl, rfl⟩
  · -- nothing yet
    refine ⟨fun _ => ?_, fun h => absurd (by omega) h⟩
    by_cases hna : n < a
    · have := hlt n hn.1 hna
      exact .inr (.inl ⟨by omega, by omega, by omega, by rw [show n + 1 - 1 = n from by omega]; unfold absI; omega⟩)
    · have e : n = a := by omega
      have e' : a = 1000 := by omega
      refine .inr (.inr ⟨by omega, ?_, ?_⟩)
      · unfold nearOf; rw [if_pos e']; omega
      · unfold nearOf; rw [if_pos e', e, e']
  · by_cases hna : n < a
    · have h3 := hlt n hn.1 hna
      have h4 := hlt (n - 1) (by omega) (by omega)
      have h5 := angleRaw_lt (d := n - 1) (d' := n) (t := t) (by omega) (by omega) hn.2 ht
      refine ⟨fun _ => .inr (.inl ⟨by omega, by omega, by omega, by rw [show n + 1 - 1 = n from by omega]; unfold absI; omega⟩), fun _ h => absurd (by unfold absI; omega) h⟩
    · have e : n = a := by omega
      subst e
      have h4 := hlt (n - 1) (by omega) (by omega)
      have h3 := hge n (by omega) hn.2
      have hno : ¬ n = 1000 := by omega
      have h9 : ¬ 9999 < n := by omega
      have ea : absI (angleRaw (n - 1) t - angle) = angle - angleRaw (n - 1) t := by unfold absI; omega
      refine ⟨fun h => ?_, fun _ h => ?_⟩
      · have hc : ¬ absI (angleRaw (n - 1) t - angle) ≤ absI (angleRaw n t - angle) := by rw [ea]; omega
        refine .inr (.inr ⟨by omega, ?_, ?_⟩) <;> (unfold nearOf; rw [if_neg hno, if_neg h9, if_neg hc])
      · have hc : absI (angleRaw (n - 1) t - angle) ≤ absI (angleRaw n t - angle) := by rw [ea]; omega
        refine .inr (.inr ⟨by omega, ?_, ?_⟩)
        · unfold nearOf; rw [if_neg hno, if_neg h9, if_pos hc]
        · unfold nearOf; rw [if_neg hno, if_neg h9, if_pos hc, ea]
  · -- behind the first place nothing is nearer
    have h3 := hge a (by omega) (by omega)
    have h4 := angleRaw_lt (d := a) (d' := n) (t := t) (by omega) h1 hn.2 ht
    have hle : absI (angleRaw (nearOf angle t a) t - angle) ≤ absI (angleRaw a t - angle) := by
      unfold nearOf
      split
      · rename_i e; rw [e]; exact Int.le_refl _
      · split
        · omega
        · split
          · assumption
          · exact Int.le_refl _
    have hlt' : absI (angleRaw a t - angle) < absI (angleRaw n t - angle) := by unfold absI; omega
    refine ⟨fun h => ?_, fun _ _ => .inr (.inr ⟨by omega, rfl, rfl⟩)⟩
    rcases h with h | h
    · unfold absI at h; omega
    · omega
theorem winSt_end {angle t best least : Int} (hs : winSt angle t (1000 + firstD t angle) (min 10000 (1000 + firstD t angle + 3)) best least) : best = nearD angle t := by
  have hfl := firstD_le t angle
  unfold nearD
  generalize ha : (1000 : Int) + firstD t angle = a at *
  rcases hs with ⟨h1, _, _⟩ | ⟨h1, h2, rfl, _⟩ | ⟨_, rfl, _⟩
  · omega
  · unfold nearOf
    rw [if_neg (by omega), if_pos (by omega)]
    omega
  · rfl
theorem winSt_bd {angle t n best least : Int} (ht : 1 ≤ t ∧ t ≤ 20) (ha : 0 ≤ angle ∧ angle ≤ 25920000) (hn : 1000 ≤ n ∧ n ≤ 10000) (hs : winSt angle t (1000 + firstD t angle) n best least) : -30000000 ≤ least ∧ least ≤ 30000000 := by
  have hnd := nearD_bd angle t
  unfold nearD at hnd
  rcases hs with ⟨_, _, rfl⟩ | ⟨h1, h2, _, rfl⟩ | ⟨_, _, rfl⟩
  · omega
  · have := angleRaw_bd (d := n - 1) (t := t) (by omega) ht
    omega
  · have := angleRaw_bd hnd ht
    unfold absI
    omega
end Go.Proofs.YtkjommcmeinkaaaGreat
