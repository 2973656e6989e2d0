/- The plain side of FindMisprints, MeantMarks and RepairRow: collecting, multiples of a step. No condition. -/
import Derived.Test.YtkjommcmeinkaaaGreatKRw19
import Derived.Test.YtkjommcmeinkaaaGreatKRw20
set_option linter.unusedSimpArgs false
namespace Go.Proofs.YtkjommcmeinkaaaGreat
open Go.RowKit
def collect (f : Nat → Bool) (g : Nat → Int) : Nat → List Int
  | 0 => []
  | k + 1 => collect f g k ++ (if f k then [g k] else [])
theorem collect_len (f : Nat → Bool) (g : Nat → Int) : ∀ k, (collect f g k).length ≤ k
  | 0 => by simp [collect]
  | k + 1 => by
    have := collect_len f g k
    unfold collect
    split <;> simp <;> omega
theorem collect_none (f : Nat → Bool) (g : Nat → Int) : ∀ k, (∀ i, i < k → f i = false) → collect f g k = []
  | 0, _ => rfl
  | k + 1, h => by
    unfold collect
    rw [collect_none f g k fun i hi => h i (by omega), h k (by omega)]
    rfl
theorem collect_one (f : Nat → Bool) (g : Nat → Int) (j : Nat) : ∀ k, j < k → (∀ i, i < k → (f i = true ↔ i = j)) → collect f g k = [g j]
  | 0, h, _ => by omega
  | k + 1, h, hf => by
    unfold collect
    by_cases hk : j = k
    · subst hk
      rw [collect_none f g j fun i hi => by
        have h1 := hf i (by omega)
        cases hq : f i
        · rfl
        · exact absurd (h1.1 hq) (by omega)]
      rw [(hf j h).2 rfl]
      rfl
    · rw [collect_one f g j k (by omega) fun i hi => hf i (by omega)]
      have h1 := hf k (by omega)
      have h2 : f k = false := by
        cases hq : f k
        · rfl
        · exact absurd (h1.1 hq) (by omega)
      rw [h2]
      rfl
theorem collect_mem {f : Nat → Bool} {g : Nat → Int} {x : Int} : ∀ {k}, x ∈ collect f g k ↔ ∃ i, i < k ∧ f i = true ∧ g i = x
  | 0 => by simp [collect]
  | k + 1 => by
    unfold collect
    rw [List.mem_append, collect_mem (k := k)]
    constructor
    · rintro (⟨i, hi, h1, h2⟩ | h)
      · exact ⟨i, by omega, h1, h2⟩
      · cases hq : f k <;> rw [hq] at h
        · simp at h
        · simp at h
          exact ⟨k, by omega, hq, h.symm⟩
    · rintro ⟨i, hi, h1, h2⟩
      by_cases hk : i = k
      · subst hk
        right
        rw [h1]
        simp [h2]
      · left
        exact ⟨i, by omega, h1, h2⟩
theorem collect_congr {f f' : Nat → Bool} {g : Nat → Int} : ∀ {k}, (∀ i, i < k → f i = f' i) → collect f g k = collect f' g k
  | 0, _ => rfl
  | k + 1, h => by
    unfold collect
    rw [collect_congr (k := k) fun i hi => h i (by omega), h k (by omega)]
theorem collect_next (f : Nat → Bool) (g : Nat → Int) (k : Nat) (h : f k = true) : (collect f g k).map ic ++ [ic (g k)] = (collect f g (k + 1)).map ic := by
  conv => rhs; unfold collect
  rw [h]
  simp
theorem collect_stay (f : Nat → Bool) (g : Nat → Int) (k : Nat) (h : f k = false) : collect f g k = collect f g (k + 1) := by
  conv => rhs; unfold collect
  rw [h]
  simp
/-- whether the tick at an index is a misprint -/
def misAt (s n tol : Int) (l : List Tick) (i : Nat) : Bool := match l[i]? with
  | some t => misB s n t.mark t.place tol
  | none => false
theorem misAt_eq (s n tol : Int) (l : List Tick) {i : Nat} (h : i < l.length) : misAt s n tol l i = misB s n l[i].mark l[i].place tol := by
  unfold misAt
  rw [List.getElem?_eq_getElem h]
def misIdx (s n tol : Int) (l : List Tick) : List Int := collect (misAt s n tol l) (fun i => (i : Int)) l.length
theorem misIdx_len (s n tol : Int) (l : List Tick) : (misIdx s n tol l).length ≤ l.length := collect_len _ _ _
/-- the first multiple of a step from 1000 on; how many multiples there are up to 9999 -/
def firstM (step : Int) : Int := -(-1000 / step) * step
def countM (step : Int) : Nat := ((9999 - firstM step) / step + 1).toNat
theorem firstM_bd {step : Int} (h : 10 ≤ step ∧ step ≤ 1000) : 1000 ≤ firstM step ∧ firstM step ≤ 1999 := by
  obtain ⟨h1, h2⟩ := h
  unfold firstM
  have e1 := Int.emod_add_mul_ediv (-1000) step
  have e2 := Int.emod_nonneg (-1000) (show step ≠ 0 by omega)
  have e3 := Int.emod_lt_of_pos (-1000) (show 0 < step by omega)
  have e4 : -(-1000 / step) * step = -(step * (-1000 / step)) := by rw [Int.neg_mul, Int.mul_comm]
  omega
theorem markM {step : Int} (h : 10 ≤ step ∧ step ≤ 1000) (k : Nat) : firstM step + k * step ≤ 9999 ↔ k < countM step := by
  obtain ⟨f1, f2⟩ := firstM_bd h
  unfold countM
  have hq : 0 ≤ (9999 - firstM step) / step := Int.ediv_nonneg (by omega) (by omega)
  have h1 : ((k : Int) ≤ (9999 - firstM step) / step) ↔ k * step ≤ 9999 - firstM step := Int.le_ediv_iff_mul_le (by omega)
  constructor
  · intro h'
    have := h1.2 (by omega)
    omega
  · intro h'
    have := h1.1 (by omega)
    omega
theorem countM_bd {step : Int} (h : 10 ≤ step ∧ step ≤ 1000) : countM step ≤ 901 := by
  obtain ⟨f1, f2⟩ := firstM_bd h
  unfold countM
  have : (9999 - firstM step) / step ≤ 900 := by
    have := Int.ediv_lt_of_lt_mul (a := 9999 - firstM step) (b := 901) (c := step) (by omega) (by omega)
    omega
  omega
def meantF (s n : Int) (t : Tick) (tol step : Int) (k : Nat) : Bool :=
  if misB s n t.mark t.place tol then !misB s n (firstM step + k * step) t.place tol else decide (firstM step + k * step = t.mark)
def meant (s n : Int) (t : Tick) (tol step : Int) : List Int := collect (meantF s n t tol step) (fun k => firstM step + k * step) (countM step)
theorem meant_len {s n : Int} {t : Tick} {tol step : Int} (h : 10 ≤ step ∧ step ≤ 1000) : (meant s n t tol step).length ≤ 901 := Nat.le_trans (collect_len _ _ _) (countM_bd h)
theorem firstM_dvd (step : Int) : firstM step % step = 0 := by unfold firstM; exact Int.mul_emod_left _ _
theorem mark_of_mod {step m : Int} (h : 10 ≤ step ∧ step ≤ 1000) (hm : 1000 ≤ m ∧ m ≤ 9999) (h0 : m % step = 0) : ∃ k : Nat, k < countM step ∧ firstM step + k * step = m := by
  obtain ⟨f1, f2⟩ := firstM_bd h
  have hf := firstM_dvd step
  obtain ⟨h1, h2⟩ := h
  have e1 := Int.emod_add_mul_ediv m step
  have e2 := Int.emod_add_mul_ediv (firstM step) step
  rw [h0] at e1
  rw [hf] at e2
  have hge : firstM step ≤ m := by
    -- the quotient of m is at least that of 1000 rounded up
    have hq : -(-1000 / step) ≤ m / step := by
      have : -1000 / step ≥ -(m / step) := by
        refine (Int.le_ediv_iff_mul_le (by omega)).2 ?_
        rw [Int.neg_mul, Int.mul_comm]
        omega
      omega
    have := Int.mul_le_mul_of_nonneg_right hq (show 0 ≤ step by omega)
    unfold firstM
    rw [Int.mul_comm (m / step)] at this
    omega
  have hq : firstM step / step ≤ m / step := Int.ediv_le_ediv (by omega) hge
  refine ⟨(m / step - firstM step / step).toNat, ?_, ?_⟩
  · rw [← markM ⟨h1, h2⟩, Int.toNat_of_nonneg (by omega), Int.sub_mul, Int.mul_comm, Int.mul_comm (firstM step / step)]
    omega
  · rw [Int.toNat_of_nonneg (by omega), Int.sub_mul, Int.mul_comm, Int.mul_comm (firstM step / step)]
    omega
theorem meant_right {s n : Int} {t : Tick} {tol step : Int} (h : 10 ≤ step ∧ step ≤ 1000) (hm : 1000 ≤ t.mark ∧ t.mark ≤ 9999) (hw : misB s n t.mark t.place tol = false) : meant s n t tol step = if t.mark % step = 0 then [t.mark] else [] := by
  have hF : ∀ k, meantF s n t tol step k = decide (firstM step + k * step = t.mark) := fun k => by unfold meantF; rw [hw]; rfl
  split
  · rename_i h0
    obtain ⟨j, hj, he⟩ := mark_of_mod h hm h0
    unfold meant
    rw [collect_one _ _ j _ hj fun i hi => by
      rw [hF, decide_eq_true_iff, ← he]
      constructor
      · intro h'
        have : (i : Int) * step = j * step := by omega
        have := Int.eq_of_mul_eq_mul_right (show step ≠ 0 by omega) this
        omega
      · rintro rfl; rfl, he]
  · rename_i h0
    unfold meant
    refine collect_none _ _ _ fun i _ => ?_
    rw [hF]
    refine decide_eq_false fun he => h0 ?_
    rw [← he, Int.add_mul_emod_self_right]
    exact firstM_dvd step
theorem meant_wrong {s n : Int} {t : Tick} {tol step : Int} (hw : misB s n t.mark t.place tol = true) : meant s n t tol step = collect (fun k => !misB s n (firstM step + k * step) t.place tol) (fun k => firstM step + k * step) (countM step) := by
  unfold meant
  refine collect_congr fun i _ => ?_
  unfold meantF
  rw [hw]
  rfl
end Go.Proofs.YtkjommcmeinkaaaGreat
