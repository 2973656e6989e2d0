/- RepairRow, the program's: walked. Condition: the row has at most 4000000000 ticks. -/
import Derived.Deep.RegionHeld3
import Derived.Test.YtkjommcmeinkaaaGreatKRw23
set_option linter.unusedSimpArgs false
namespace Go.Proofs.YtkjommcmeinkaaaGreat
open Go.RowKit
/-- the rows after the first j misprints have been looked at -/
def stg (f : Tick → Tick) (l : List Tick) (M : List Int) (j : Nat) : List Tick := l.mapIdx fun i t => if (i : Int) ∈ M.take j then f t else t
theorem stg_len (f : Tick → Tick) (l : List Tick) (M : List Int) (j : Nat) : (stg f l M j).length = l.length := by simp [stg]
theorem stg_zero (f : Tick → Tick) (l : List Tick) (M : List Int) : stg f l M 0 = l := by
  apply List.ext_getElem
  · simp [stg]
  · intro i h1 h2
    simp [stg]
theorem stg_next (f : Tick → Tick) (l : List Tick) (M : List Int) {j i0 : Nat} (hj : j < M.length) (hM : M[j] = (i0 : Int)) (hi : i0 < l.length) : stg f l M (j + 1) = (stg f l M j).set i0 (f l[i0]) := by
  apply List.ext_getElem
  · simp [stg]
  · intro i h1 h2
    rw [List.getElem_set]
    simp only [stg, List.getElem_mapIdx, List.take_succ_eq_append_getElem hj, List.mem_append, List.mem_singleton, hM]
    by_cases e : i0 = i
    · subst e; simp
    · rw [if_neg e]
      have : ¬ (i : Int) = i0 := by omega
      simp [this]
theorem stg_end (f : Tick → Tick) (l : List Tick) (M : List Int) (h : ∀ i (hi : i < l.length), (i : Int) ∉ M → f l[i] = l[i]) : stg f l M M.length = l.map f := by
  apply List.ext_getElem
  · simp [stg]
  · intro i h1 h2
    simp only [stg, List.getElem_mapIdx, List.take_length, List.getElem_map]
    by_cases e : (i : Int) ∈ M
    · rw [if_pos e]
    · rw [if_neg e, h i (by simpa using h2) e]
theorem flat_set1 {xs : List (List Value)} {k i j : Nat} {u : Value} (h : ∀ x ∈ xs, x.length = k) (hi : i < xs.length) (hj : j < k) : xs.flatten.set (i * k + j) u = (xs.set i (xs[i].set j u)).flatten := by
  rw [flat_set hi]
  conv => lhs; rw [flat_split hi]
  have hA : (xs.take i).flatten.length = i * k := by
    rw [flat_length fun z hz => h z (List.mem_of_mem_take hz), List.length_take, Nat.min_eq_left (by omega)]
  have hx : xs[i].length = k := h _ (List.getElem_mem hi)
  rw [List.append_assoc, List.set_append_right _ _ (by omega), hA, show i * k + j - i * k = j from by omega, List.set_append_left _ _ (by omega)]
  rw [List.append_assoc]
theorem Own.set1 {w : World} {base : Nat} {e : TypeId} {k g n cap : Nat} {xs : List (List Value)} (h : Own w base e k (.slice (some ⟨g, 0, none⟩) n cap) xs) {i j : Nat} (hi : i < xs.length) (hj : j < k) (u : Value) :
    Own (w.setCell ⟨g, i * k + j, none⟩ u) base e k (.slice (some ⟨g, 0, none⟩) n cap) (xs.set i (xs[i].set j u)) := by
  obtain ⟨h1, h2⟩ := h
  have hn : n = xs.length := by
    rcases h1.2 with ⟨h', _⟩ | ⟨g', cap', cur, h', _⟩
    · simp at h'
    · simp only [Value.slice.injEq] at h'; exact h'.2.1
  subst hn
  refine ⟨?_, fun y hy => ?_⟩
  · have := (h1.stored (i * k + j) u).1
    rw [flat_set1 h2 hi hj] at this
    rw [List.length_set]
    exact this
  · rcases List.mem_or_eq_of_mem_set hy with h | rfl
    · exact h2 y h
    · rw [List.length_set]; exact h2 _ (List.getElem_mem hi)
theorem stg_same {f : Tick → Tick} (l : List Tick) (M : List Int) {j i0 : Nat} (hj : j < M.length) (hM : M[j] = (i0 : Int)) (hi : i0 < l.length) (hf : f l[i0] = l[i0]) : stg f l M (j + 1) = stg f l M j := by
  rw [stg_next f l M hj hM hi, hf]
  apply List.ext_getElem
  · simp
  · intro i h1 h2
    rw [List.getElem_set]
    split
    · rename_i e
      subst e
      simp only [stg, List.getElem_mapIdx]
      split
      · exact hf.symm
      · rfl
    · rfl
theorem fix_rows {w : World} {base g n cap : Nat} (L : List Tick) {i : Nat} (hi : i < L.length) (h : Own w base 25 3 (.slice (some ⟨g, 0, none⟩) n cap) (L.map Tick.cells)) (m ht : Int) :
    Own ((w.setCell ⟨g, i * 3, none⟩ (.int .i64 m)).setCell ⟨g, i * 3 + 2, none⟩ (.int .i64 ht)) base 25 3 (.slice (some ⟨g, 0, none⟩) n cap) ((L.set i ⟨m, L[i].place, ht⟩).map Tick.cells) := by
  have h1 := h.set1 (i := i) (j := 0) (by simpa using hi) (by omega) (.int .i64 m)
  have h2 := h1.set1 (i := i) (j := 2) (by simpa using hi) (by omega) (.int .i64 ht)
  have e : ((L.set i ⟨m, L[i].place, ht⟩).map Tick.cells) = ((L.map Tick.cells).set i ((L.map Tick.cells)[i]'(by simpa using hi) |>.set 0 (.int .i64 m))).set i (((L.map Tick.cells).set i ((L.map Tick.cells)[i]'(by simpa using hi) |>.set 0 (.int .i64 m)))[i]'(by simpa using hi) |>.set 2 (.int .i64 ht)) := by
    rw [List.set_set, List.getElem_set_self, List.map_set]
    congr 1
    rw [List.getElem_map]
    rfl
  rw [e]
  exact h2
theorem stg_place {f : Tick → Tick} (hf : ∀ t, (f t).place = t.place) (l : List Tick) (M : List Int) (j : Nat) {i : Nat} (hi : i < l.length) : ((stg f l M j)[i]'(by rw [stg_len]; exact hi)).place = l[i].place := by
  simp only [stg, List.getElem_mapIdx]
  split
  · exact hf _
  · rfl
theorem fix_place (s n tol step : Int) (t : Tick) : (fixT s n tol step t).place = t.place := by
  unfold fixT; split <;> rfl
/-- what RepairRow hands back -/
def PostRR (r : List Tick × List Int × Int) (w : World) (e : Ending) (w' : World) : Prop :=
  ∃ A1 c1 A2 c2, e = .returned (.tuple #[.slice A1 r.1.length c1, .slice A2 r.2.1.length c2, .int .i64 r.2.2]) ∧ Own w' w.heap.size 25 3 (.slice A1 r.1.length c1) (r.1.map Tick.cells) ∧ Own w' w.heap.size 2 1 (.slice A2 r.2.1.length c2) (r.2.1.map ic) ∧
    ((Value.slice A2 r.2.1.length c2).ownBlock = none ∨ (Value.slice A2 r.2.1.length c2).ownBlock ≠ (Value.slice A1 r.1.length c1).ownBlock) ∧ Below w.heap.size w w'
theorem mis_get {s n tol : Int} {l : List Tick} {j : Nat} (hj : j < (misIdx s n tol l).length) : ∃ i0 : Nat, ∃ h : i0 < l.length, (misIdx s n tol l)[j] = (i0 : Int) ∧ misB s n l[i0].mark l[i0].place tol = true := by
  obtain ⟨i, hi, hf, he⟩ := collect_mem.1 (List.getElem_mem hj)
  rw [misAt_eq _ _ _ _ hi] at hf
  exact ⟨i, hi, he.symm, hf⟩
theorem mis_mem {s n tol : Int} {l : List Tick} {i : Nat} (hi : i < l.length) (h : misB s n l[i].mark l[i].place tol = true) : (i : Int) ∈ misIdx s n tol l :=
  collect_mem.2 ⟨i, hi, by rw [misAt_eq _ _ _ _ hi]; exact h, rfl⟩
theorem fix_ok {s n tol step : Int} {l : List Tick} (hst : 10 ≤ step ∧ step ≤ 1000) (h : l.all tickOK = true) : (l.map (fixT s n tol step)).all tickOK = true := by
  rw [List.all_eq_true] at h ⊢
  intro x hx
  obtain ⟨t, ht, rfl⟩ := List.mem_map.1 hx
  have h0 := h t ht
  have hb := tick_bd h0
  unfold fixT
  split
  · rename_i hc
    have := (meant_mem hst hc.1 (head_mem hc.2)).2.1
    unfold tickOK
    rw [inB_true.2 this, inB_true.2 hb.2]
    rfl
  · exact h0
end Go.Proofs.YtkjommcmeinkaaaGreat
