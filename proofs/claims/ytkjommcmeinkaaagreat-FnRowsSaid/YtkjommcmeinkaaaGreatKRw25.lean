/- RepairRow, the reference's: walked. Condition: the row has at most 2^47 ticks. -/
import Derived.Test.YtkjommcmeinkaaaGreatKRw24
set_option linter.unusedSimpArgs false
namespace Go.Proofs.YtkjommcmeinkaaaGreat
open Go.RowKit
/-- two slices of the call's own that do not share their block -/
def Ap (v v' : Value) : Prop := v.ownBlock = none ∨ v.ownBlock ≠ v'.ownBlock
theorem Ap.right {w : World} {base : Nat} {e : TypeId} {k : Nat} {v v1 v2 : Value} {xs : List (List Value)} (h : Ap v v1) (ho : Own w base e k v xs) (hat : v2.ownBlock = v1.ownBlock ∨ v2.ownBlock = some w.heap.size) : Ap v v2 := by
  unfold Ap at *
  rcases h with h | h
  · exact .inl h
  · rcases hat with h2 | h2
    · rw [h2]; exact .inr h
    · rw [h2]
      refine .inr fun e => ?_
      have := (ho.1.lt _ e).2
      omega
theorem Ap.left {w : World} {base : Nat} {e : TypeId} {k : Nat} {v v1 v2 : Value} {xs : List (List Value)} (h : Ap v v1) (ho : Own w base e k v1 xs) (hat : v2.ownBlock = v.ownBlock ∨ v2.ownBlock = some w.heap.size) : Ap v2 v1 := by
  unfold Ap at *
  rcases hat with h2 | h2
  · rw [h2]; exact h
  · rw [h2]
    refine .inr fun e => ?_
    have := (ho.1.lt _ e.symm).2
    omega
theorem Ap.swap {v v' : Value} (h : Ap v v') : Ap v' v := by
  unfold Ap at *
  cases hv : v'.ownBlock with
  | none => exact .inl rfl
  | some g =>
    rcases h with h | h
    · right; rw [h]; simp
    · right; rw [hv] at h; exact fun e => h e.symm
theorem cell_far3 {w0 : World} {b o p : Nat} {u v y x : Value} (h : w0.cell? ⟨b, o, none⟩ = some x) (hne : b ≠ p) : (((w0.setCell ⟨p, 0, none⟩ u).setCell ⟨p, 1, none⟩ v).setCell ⟨p, 2, none⟩ y).cell? ⟨b, o, none⟩ = some x :=
  (World.cell?_of_block ((Below.heap_setCell _ ⟨p, 2, none⟩ _ _ hne).trans ((Below.heap_setCell _ ⟨p, 1, none⟩ _ _ hne).trans (Below.heap_setCell _ ⟨p, 0, none⟩ _ _ hne)))).trans h
theorem cell_set3 {w0 : World} {p : Nat} {u y x z : Value} (h : w0.cell? ⟨p, 1, none⟩ = some z) : (((w0.setCell ⟨p, 0, none⟩ u).setCell ⟨p, 1, none⟩ x).setCell ⟨p, 2, none⟩ y).cell? ⟨p, 1, none⟩ = some x := by
  rw [World.cell?_setCell_other _ _ _ _ (by simp)]
  apply World.cell?_setCell_same (u := z)
  rw [World.cell?_setCell_other _ _ _ _ (by simp)]
  exact h
theorem ne_new {w : World} {base : Nat} {e : TypeId} {k : Nat} {v : Value} {xs : List (List Value)} (h : Own w base e k v xs) : v.ownBlock = none ∨ v.ownBlock ≠ some w.heap.size := by
  cases hv : v.ownBlock with
  | none => exact .inl rfl
  | some g => exact .inr fun e => by have := (h.1.lt g hv).2; have := Option.some.inj e; omega
theorem rows_take {f : Tick → Tick} (l : List Tick) {k : Nat} (hk : k < l.length) : ((l.take k).map f).map Tick.cells ++ [f l[k]].map Tick.cells = ((l.take (k + 1)).map f).map Tick.cells := by
  rw [List.take_succ_eq_append_getElem hk, List.map_append, List.map_append]; rfl
theorem mm_ok {s n tol step : Int} {l : List Tick} {t : Tick} (h : printCode s n l tol = 0) (ht : t ∈ l) (hst : inB step 10 1000 = true) : mmRes s n t tol step = if 100 < (meant s n t tol step).length then ([], 3) else (meant s n t tol step, 0) := by
  have hp : printCode s n [t] tol = 0 := by
    obtain ⟨h1, h2, h3, h4⟩ := print_ok h
    have ht' : tickOK t = true := List.all_eq_true.1 h4 t ht
    unfold printCode rowCode
    simp [ht', inB_true.2 h1, inB_true.2 h2, inB_true.2 h3]
  unfold mmRes
  rw [if_pos hp, if_pos hst]
end Go.Proofs.YtkjommcmeinkaaaGreat
