/- IsEngraved: the program's and the reference's. No condition beyond the lists' lengths. -/
import Derived.Test.YtkjommcmeinkaaaGreatDoorSortT
import Derived.Test.YtkjommcmeinkaaaGreatDoorStrokesOf
import Derived.Laws.StructEq
namespace Go.Proofs.YtkjommcmeinkaaaGreatDoor
open Go.Shelf Go.RowKit Go.Lib Go.Sort
set_option maxRecDepth 100000 in
theorem neStroke (x y : Stroke) (w : World) : Sem.run Tryz.prog (binOp .neq 35 x.agg y.agg) w = .ok (.bool (decide (x ≠ y))) w := by
  have hS : Tryz.prog.underlying 35 = some (.struct (Tryz.prog.fieldsOf 35)) := by kernel_rfl
  have hp : Tryz.prog.stoodInHeld 35 = false := by kernel_rfl
  have u3 := Tryz.underlying2
  have a3 := Tryz.isAgg2
  have z3 := Tryz.sizeOf2
  obtain ⟨a, b, c⟩ := x
  obtain ⟨d, e, f⟩ := y
  have hd : decide ((⟨a, b, c⟩ : Stroke) ≠ ⟨d, e, f⟩) = !(decide (a = d) && (decide (b = e) && decide (c = f))) := by
    rw [Bool.eq_iff_iff]; simp [Stroke.mk.injEq]
  rw [hd]
  clear hd
  unfold Stroke.agg
  by_cases h1 : a = d <;> by_cases h2 : b = e <;> by_cases h3 : c = f
  all_goals
    rw [run_neq_struct, show (10000 : Nat) = 9999 + 1 from rfl, run_equalIn_agg w 9999 35 _ _ hS hp]
    simp only [Program.fieldsOf, Tryz.underlying35]
    go_simp
/-! ### the plain law: both ways of sorting tell the same -/
theorem sorts_iff (l m : List Stroke) : (sortOrd l = sortOrd m) ↔ (sortSt l = sortSt m) := by
  have p1 : ∀ x : List Stroke, (sortOrd x).Perm x := fun x => List.mergeSort_perm _ _
  have p2 : ∀ x : List Stroke, (sortSt x).Perm x := fun x => List.mergeSort_perm _ _
  have s : ∀ (cf : Stroke → Stroke → Int), SWO (ltOf cf) → ∀ x : List Stroke, LSorted (ltOf cf) (x.mergeSort fun a b => !ltOf cf b a) := fun cf hO x => by
    have h := List.pairwise_mergeSort (le := fun a b => !ltOf cf b a) (fun a b c h1 h2 => by
      simp only [Bool.not_eq_true'] at *
      exact hO.ntrans _ _ _ h2 h1) (fun a b => by
      cases h : ltOf cf b a
      · simp
      · simp [SWO.asymmA hO h]) x
    exact h.imp fun h => by simpa using h
  constructor
  · intro h
    have hp : (sortSt l).Perm m := (p2 l).trans ((p1 l).symm.trans (h ▸ p1 m))
    exact sorted_one swoSort totSort (s cfSort swoSort l) hp
  · intro h
    have hp : (sortOrd l).Perm m := (p1 l).trans ((p2 l).symm.trans (h ▸ p2 m))
    exact sorted_one swoOrd totOrd (s cfOrd swoOrd l) hp
end Go.Proofs.YtkjommcmeinkaaaGreatDoor
