/- FindMisprints: the program's and the reference's. No condition beyond the list's length. MeantMarks: the program's and the reference's. No condition. MeantMarks: the reference's list, both functions and the law, walked. No condition. MeantMarks: both functions and the law, walked. No condition. slices.Clone at []impl.Tick. -/
import Derived.Lib.SliceRun
import Derived.Test.YtkjommcmeinkaaaGreatKRw15
import Derived.Test.YtkjommcmeinkaaaGreatKRw21
import Derived.Test.YtkjommcmeinkaaaGreatKRw3
set_option linter.unusedSimpArgs false
namespace Go.Proofs.YtkjommcmeinkaaaGreat
open Go.RowKit
theorem all_ok {l : List Tick} (h : l.all tickOK = true) {k : Nat} (hk : k < l.length) : (1000 ≤ l[k].mark ∧ l[k].mark ≤ 9999) ∧ (0 ≤ l[k].place ∧ l[k].place ≤ 100000) :=
  tick_bd (List.all_eq_true.1 h l[k] (List.getElem_mem hk))
/-- the result of FindMisprints -/
def fmRes (s n tol : Int) (l : List Tick) : List Int := if printCode s n l tol = 0 then misIdx s n tol l else []
theorem fmRes_len (s n tol : Int) (l : List Tick) : (fmRes s n tol l).length ≤ l.length := by
  unfold fmRes
  split
  · exact misIdx_len _ _ _ _
  · simp
theorem print_len {s n tol : Int} {l : List Tick} (h : printCode s n l tol = 0) : l.length ≤ 40 := by
  unfold printCode at h
  split at h
  · rename_i hr; exact (rowCode_ok hr).1
  · rename_i hr; exact absurd h hr
end Go.Proofs.YtkjommcmeinkaaaGreat
namespace Go.Proofs.YtkjommcmeinkaaaGreat
open Go.RowKit
/-- the multiples of a step, as a sequence: what a loop needs of them -/
theorem gM {step : Int} (h : 10 ≤ step ∧ step ≤ 1000) : ∃ (g : Nat → Int) (N : Nat) (q : Int), (fun k : Nat => firstM step + k * step) = g ∧ countM step = N ∧ N ≤ 901 ∧ q = -(-1000 / step) ∧ g 0 = q * step ∧ (1000 ≤ q * step ∧ q * step ≤ 1999) ∧ (∀ k, g (k + 1) = g k + step) ∧ (∀ k, g k ≤ 9999 ↔ k < N) ∧ (∀ k, k ≤ N → 1000 ≤ g k ∧ g k ≤ 11000) := by
  refine ⟨_, _, _, rfl, rfl, countM_bd h, rfl, by simp [firstM], firstM_bd h, fun k => ?_, markM h, fun k hk => ?_⟩
  · show firstM step + ((k + 1 : Nat) : Int) * step = firstM step + (k : Int) * step + step
    rw [Int.natCast_add, Int.add_mul]; omega
  · have h1 := firstM_bd h
    show 1000 ≤ firstM step + (k : Int) * step ∧ firstM step + (k : Int) * step ≤ 11000
    have h0 : 0 ≤ (k : Int) * step := Int.mul_nonneg (by omega) (by omega)
    refine ⟨by omega, ?_⟩
    cases k with
    | zero => simp; omega
    | succ j =>
      have h2 := (markM h j).2 (by omega)
      rw [Int.natCast_add, Int.add_mul]
      omega
end Go.Proofs.YtkjommcmeinkaaaGreat
namespace Go.Proofs.YtkjommcmeinkaaaGreat
open Go.RowKit
theorem Own.lit1 {w : World} {base : Nat} {x : Int} (hb : base ≤ w.heap.size) : Own (w.alloc (.cells #[.int .i64 x] 2)) base 2 1 (.slice (some ⟨w.heap.size, 0, none⟩) 1 1) ([x].map ic) := by
  refine ⟨?_, by simp [ic]⟩
  have := World.ownsRow_lit (base := base) (e := 2) (size := 1) w #[.int .i64 x] 1 hb (by unfold maxLen; omega) (by simp)
  simpa [ic] using this
end Go.Proofs.YtkjommcmeinkaaaGreat
namespace Go.Proofs.YtkjommcmeinkaaaGreat
open Go.RowKit
def mmRes (s n : Int) (t : Tick) (tol step : Int) : List Int × Int :=
  if printCode s n [t] tol = 0 then (if inB step 10 1000 then (if 100 < (meant s n t tol step).length then ([], 3) else (meant s n t tol step, 0)) else ([], 2)) else ([], printCode s n [t] tol)
theorem mmRes_len (s n : Int) (t : Tick) (tol step : Int) : (mmRes s n t tol step).1.length ≤ 100 := by
  unfold mmRes
  split
  · split
    · split <;> simp <;> omega
    · simp
  · simp
end Go.Proofs.YtkjommcmeinkaaaGreat
namespace Go.Proofs.YtkjommcmeinkaaaGreat
open Go.RowKit
theorem Tick.one {l : List Tick} : ∀ y ∈ l.map Tick.cells, ∀ u ∈ y, u.oneCell' = true := fun y hy u hu => by
  obtain ⟨s, _, rfl⟩ := List.mem_map.1 hy
  simp [Tick.cells] at hu
  repeat (first | (rcases hu with rfl | hu; rfl) | (subst hu; rfl))
end Go.Proofs.YtkjommcmeinkaaaGreat
