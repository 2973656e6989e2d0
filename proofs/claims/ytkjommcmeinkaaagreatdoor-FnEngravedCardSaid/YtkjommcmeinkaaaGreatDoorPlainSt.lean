/- Strokes: the plain sums. No program. -/
import Derived.Test.YtkjommcmeinkaaaGreatDoorStrokes
namespace Go.Proofs.YtkjommcmeinkaaaGreatDoor
/-- the sum of f over the first k -/
def sumTo {α : Type} (f : α → Int) (l : List α) (k : Nat) : Int := ((l.take k).map f).sum
theorem sumTo_zero {α : Type} (f : α → Int) (l : List α) : sumTo f l 0 = 0 := by simp [sumTo]
theorem sumTo_succ {α : Type} (f : α → Int) (l : List α) (k : Nat) (h : k < l.length) : sumTo f l (k + 1) = sumTo f l k + f l[k] := by
  unfold sumTo; rw [List.take_succ_eq_append_getElem h, List.map_append, List.sum_append]; simp
theorem sumTo_bd {α : Type} (f : α → Int) (l : List α) (hi : Int) (h : ∀ x ∈ l, 0 ≤ f x ∧ f x ≤ hi) : ∀ k, k ≤ l.length → 0 ≤ sumTo f l k ∧ sumTo f l k ≤ k * hi := by
  intro k
  induction k with
  | zero => intro _; simp [sumTo]
  | succ k ih =>
    intro hk
    have h1 := ih (by omega)
    have h2 := h l[k] (List.getElem_mem _)
    rw [sumTo_succ f l k (by omega)]
    rw [Int.natCast_succ, Int.add_mul]
    omega
theorem stroke_bd {s : Stroke} (h : strokeOK s = true) : (1 ≤ s.tool ∧ s.tool ≤ 2) ∧ (0 ≤ s.place ∧ s.place ≤ 100000) ∧ (1 ≤ s.long ∧ s.long ≤ 1000) := by
  simp only [strokeOK, Bool.and_eq_true] at h
  exact ⟨inB_true.1 h.1.1, inB_true.1 h.1.2, inB_true.1 h.2⟩
def fineOf (s : Stroke) : Int := if s.tool = 1 then s.long else 0
def broadOf (s : Stroke) : Int := if s.tool = 1 then 0 else s.long
/-- time, place and tool after the first k strokes -/
def tstep (st : Int × Int × Int) (s : Stroke) : Int × Int × Int :=
  (st.1 + max (s.place - st.2.1) (-(s.place - st.2.1)) + s.long + (if s.tool = st.2.2 then 0 else 5000), s.place, s.tool)
def tst (l : List Stroke) (k : Nat) : Int × Int × Int := (l.take k).foldl tstep (0, 0, 0)
theorem tst_succ (l : List Stroke) (k : Nat) (h : k < l.length) : tst l (k + 1) = tstep (tst l k) l[k] := by
  unfold tst; rw [List.take_succ_eq_append_getElem h, List.foldl_append]; rfl
theorem tst_bd (l : List Stroke) (h : ∀ s ∈ l, strokeOK s = true) : ∀ k, k ≤ l.length → (0 ≤ (tst l k).1 ∧ (tst l k).1 ≤ k * 106000) ∧ (0 ≤ (tst l k).2.1 ∧ (tst l k).2.1 ≤ 100000) ∧ (0 ≤ (tst l k).2.2 ∧ (tst l k).2.2 ≤ 2) := by
  intro k
  induction k with
  | zero => intro _; simp [tst]
  | succ k ih =>
    intro hk
    have h1 := ih (by omega)
    have h2 := stroke_bd (h l[k] (List.getElem_mem _))
    rw [tst_succ l k (by omega)]
    generalize tst l k = st at h1
    obtain ⟨n0, a0, t0⟩ := st
    simp only [tstep]
    simp only at h1
    rw [Int.natCast_succ, Int.add_mul]
    split <;> omega
/-- the time of a program -/
def timeOf (l : List Stroke) : Int := (tst l l.length).1
end Go.Proofs.YtkjommcmeinkaaaGreatDoor
