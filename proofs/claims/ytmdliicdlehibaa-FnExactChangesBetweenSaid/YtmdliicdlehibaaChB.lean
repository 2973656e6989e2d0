/- Formulas and charts: plain. No program. -/
import Derived.Test.YtmdliicdlehibaaAngle
namespace Go.Proofs.Ytmdliicdlehibaa
open Go.RowKit
/-- the byte at place k of a text, as a number -/
def chAt (s : ByteArray) (k : Nat) : Int := if h : k < s.size then (s[k].toNat : Int) else 0
theorem chAt_eq {s : ByteArray} {k : Nat} (h : k < s.size) : chAt s k = (s[k].toNat : Int) := dif_pos h
/-- whether a formula's letter and power are as described -/
def letB (s : ByteArray) (l : List Int) (k : Nat) : Bool :=
  decide (97 ≤ chAt s k) && decide (chAt s k ≤ 122) && (decide (k = 0) || decide (chAt s (k - 1) < chAt s k)) && !decide (l.getD k 0 = 0) && inB (l.getD k 0) (-6) 6
def formB (fd ft : Int) (s : ByteArray) (l : List Int) : Bool := figOK ⟨fd, ft⟩ && decide (s.size ≤ 6) && decide (l.length = s.size) && (List.range l.length).all (letB s l)
theorem letters_bad {s : ByteArray} {l : List Int} {k : Nat} (hk : k < l.length) (h : letB s l k = false) : (List.range l.length).all (letB s l) = false := by
  rw [List.all_eq_false]
  exact ⟨k, List.mem_range.2 hk, by rw [h]; simp⟩
theorem letters_next {s : ByteArray} {l : List Int} {k : Nat} (h : letB s l k = true) (hs : (List.range k).all (letB s l) = true) : (List.range (k + 1)).all (letB s l) = true := by
  rw [List.range_succ, List.all_append, hs]
  simp [h]
def chartB (fd ft : Int) (s : ByteArray) (l : List Int) (wd lf rt : Int) : Bool := formB fd ft s l && decide (s.size = 2) && inB wd 1000 100000 && inB lf 100 20000 && inB rt 100 20000
theorem form_parts {fd ft : Int} {s : ByteArray} {l : List Int} (h : formB fd ft s l = true) : figOK ⟨fd, ft⟩ = true ∧ s.size ≤ 6 ∧ l.length = s.size ∧ ∀ k, k < l.length → letB s l k = true := by
  unfold formB at h
  simp only [Bool.and_eq_true, decide_eq_true_eq] at h
  exact ⟨h.1.1.1, h.1.1.2, h.1.2, fun k hk => List.all_eq_true.1 h.2 k (List.mem_range.2 hk)⟩
theorem chart_parts {fd ft : Int} {s : ByteArray} {l : List Int} {wd lf rt : Int} (h : chartB fd ft s l wd lf rt = true) : formB fd ft s l = true ∧ s.size = 2 ∧ (1000 ≤ wd ∧ wd ≤ 100000) ∧ (100 ≤ lf ∧ lf ≤ 20000) ∧ (100 ≤ rt ∧ rt ≤ 20000) ∧ ∃ p0 p1, l = [p0, p1] ∧ (-6 ≤ p0 ∧ p0 ≤ 6) ∧ (-6 ≤ p1 ∧ p1 ≤ 6) := by
  unfold chartB at h
  simp only [Bool.and_eq_true, decide_eq_true_eq, inB_true] at h
  obtain ⟨⟨⟨⟨h1, h2⟩, h3⟩, h4⟩, h5⟩ := h
  obtain ⟨_, _, f3, f4⟩ := form_parts h1
  rw [h2] at f3
  match l, f3 with
  | [p0, p1], _ =>
    have a := f4 0 (by simp)
    have b := f4 1 (by simp)
    unfold letB at a b
    simp only [Bool.and_eq_true, inB_true] at a b
    exact ⟨h1, h2, h3, h4, h5, p0, p1, rfl, a.2, b.2⟩
end Go.Proofs.Ytmdliicdlehibaa
