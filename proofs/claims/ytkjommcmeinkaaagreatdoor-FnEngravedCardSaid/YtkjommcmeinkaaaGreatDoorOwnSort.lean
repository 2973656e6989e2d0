/- A slice of the call's own, in the words of the library's sorts, there and back. No condition. -/
import Derived.Test.YtkjommcmeinkaaaGreatDoorApp
import Derived.Shelf.SlSortCmp.KitK
namespace Go.Proofs.YtkjommcmeinkaaaGreatDoor
open Go.RowKit Go.Lib Go.Sort
section
variable {α : Type} [Inhabited α] {enc : α → List Value} {k : Nat}
theorem getT {l : List α} {i : Nat} (h : i < l.length) : l.toArray[i]! = l[i] := by
  rw [getElem!_pos _ i (by simpa using h)]; simp
theorem own_holds (hk : ∀ x, (enc x).length = k) {w : World} {base g n c : Nat} {e : TypeId} {l : List α} (h : Own w base e k (.slice (some ⟨g, 0, none⟩) n c) (l.map enc)) : HoldsK enc k w g 0 l.toArray := by
  intro t ht
  rw [size_flatK] at ht
  have ht' : t < l.length * k := by simpa using ht
  have hk0 : 0 < k := by
    rcases Nat.eq_zero_or_pos k with h0 | h0
    · rw [h0] at ht'; omega
    · exact h0
  have h1 : t / k < l.length := (Nat.div_lt_iff_lt_mul hk0).2 ht'
  have h2 : t % k < (enc l[t / k]).length := by rw [hk]; exact Nat.mod_lt _ hk0
  refine ⟨?_, h.frozen _⟩
  obtain ⟨b, off, he, _, hc⟩ := h.sl.at_ (i := t / k) (by simpa using h1)
  simp only [Option.some.injEq, Addr.mk.injEq, and_true] at he
  obtain ⟨rfl, rfl⟩ := he
  have hc' := hc (t % k) (enc l[t / k])[t % k] (by simp [h2])
  rw [show 0 + t / k * k + t % k = 0 + t from by have := Nat.div_add_mod t k; rw [Nat.mul_comm] at this; omega] at hc'
  rw [hc']
  congr 1
  rw [show (flatK enc k l.toArray)[t]! = (enc l.toArray[t / k]!)[t % k]! from by
    unfold flatK
    rw [getElem!_pos _ t (by simpa using ht')]
    simp]
  rw [getT h1, getElem!_pos (enc l[t / k]) (t % k) h2]
  rfl
theorem flat_list (hk : ∀ x, (enc x).length = k) (l : List α) : (flatK enc k l.toArray).toList = (l.map enc).flatten := by
  apply List.ext_getElem?
  intro t
  have hrows : ∀ x ∈ l.map enc, x.length = k := fun x hx => by obtain ⟨y, _, rfl⟩ := List.mem_map.1 hx; exact hk y
  have hlen : (l.map enc).flatten.length = l.length * k := by rw [flat_length hrows, List.length_map]
  by_cases ht : t < l.length * k
  · have hk0 : 0 < k := by
      rcases Nat.eq_zero_or_pos k with h0 | h0
      · rw [h0] at ht; omega
      · exact h0
    have h1 : t / k < l.length := (Nat.div_lt_iff_lt_mul hk0).2 ht
    have h2 : t % k < (enc l[t / k]).length := by rw [hk]; exact Nat.mod_lt _ hk0
    have hf := flat_get hrows (t / k) (t % k) (enc l[t / k]) (enc l[t / k])[t % k] (by simp [h1]) (List.getElem?_eq_getElem h2)
    rw [show t / k * k + t % k = t from by have := Nat.div_add_mod t k; rw [Nat.mul_comm] at this; exact this] at hf
    rw [hf]
    unfold flatK
    simp only [Array.toList_map, Array.toList_range, List.getElem?_map, List.size_toArray]
    rw [List.getElem?_range ht]
    simp only [Option.map_some, Option.some.injEq]
    rw [getT h1, getElem!_pos (enc l[t / k]) (t % k) h2]
  · rw [List.getElem?_eq_none (by simp [flatK]; omega), List.getElem?_eq_none (by omega)]
theorem sort_heap {w w' : World} {g off i : Nat} {d' : Array α} (hs : SWK enc k w g off d' w') (hi : i < w.heap.size) : w'.heap[i]? = if i = g then (w.heap[g]?).map (onCells (putCells id off (flatK enc k d'))) else w.heap[i]? := by
  obtain ⟨n, os, rfl⟩ := hs
  unfold sortWorldK grow putRowK putRow mapBlock Sort.ahead
  simp only
  rw [Array.getElem?_append_left (by simpa using hi), Array.getElem?_modify]
  by_cases h : i = g
  · subst h; simp
  · rw [if_neg (Ne.symm h), if_neg h]
theorem sort_below {w w' : World} {g off B : Nat} {d' : Array α} (hB : B ≤ g) (hg : g < w.heap.size) (hs : SWK enc k w g off d' w') : RowKit.Below B w w' := by
  refine ⟨?_, ?_, ?_, hs.le, fun i hi => ?_⟩
  · obtain ⟨n, os, rfl⟩ := hs; rfl
  · obtain ⟨n, os, rfl⟩ := hs; rfl
  · obtain ⟨n, os, rfl⟩ := hs; rfl
  · rw [sort_heap hs (by omega), if_neg (by omega)]
theorem putCells_take {vs : List Value} (F : Array Value) (cur : Array Value) (hv : F.toList = vs) (h : F.size ≤ cur.size) : (putCells id 0 F cur).toList.take F.size = vs := by
  apply List.ext_getElem?
  intro t
  rw [List.getElem?_take, ← hv]
  by_cases ht : t < F.size
  · rw [if_pos ht]
    simp only [putCells, Array.getElem?_toList, Array.getElem?_mapIdx]
    rw [Array.getElem?_eq_getElem (show t < cur.size by omega), Array.getElem?_eq_getElem ht]
    simp only [Option.map_some, Nat.zero_le, Nat.zero_add, true_and, if_pos ht, Nat.sub_zero, id]
    rw [getElem!_pos F t ht]
  · rw [if_neg ht, List.getElem?_eq_none (by simpa using ht)]
/-- behind a sort the slice holds the row as it was sorted -/
theorem own_sorted (hk : ∀ x, (enc x).length = k) {w w' : World} {base g n c : Nat} {e : TypeId} {l l' : List α} (h : Own w base e k (.slice (some ⟨g, 0, none⟩) n c) (l.map enc)) (hl : l'.length = l.length) (hs : SWK enc k w g 0 l'.toArray w') :
    Own w' base e k (.slice (some ⟨g, 0, none⟩) n c) (l'.map enc) := by
  have hn : n = l.length := by
    obtain ⟨A, c', hh, _⟩ := h.form
    simp only [Value.slice.injEq] at hh; simpa using hh.2.1
  have hF := flat_list (enc := enc) hk l'
  obtain ⟨h1, h2⟩ := h
  refine ⟨?_, fun x hx => by obtain ⟨y, _, rfl⟩ := List.mem_map.1 hx; exact hk y⟩
  rcases h1.2 with ⟨h', _⟩ | ⟨g', cap', cur, hsl, hb, hh, hc, hm, hz, ht⟩
  · simp at h'
  · simp only [Value.slice.injEq, Option.some.injEq, Addr.mk.injEq, and_true] at hsl
    obtain ⟨rfl, _, rfl⟩ := hsl
    have hlt : g < w.heap.size := by
      rcases Nat.lt_or_ge g w.heap.size with hlt | hge
      · exact hlt
      · rw [Array.getElem?_eq_none hge] at hh; cases hh
    have hlen : (flatK enc k l'.toArray).size = n * k := by rw [size_flatK]; simp [hl, hn]
    refine ⟨by rw [← hF]; simp [hl], .inr ⟨g, c, putCells id 0 (flatK enc k l'.toArray) cur, ?_, hb, ?_, by simpa [hl] using hc, hm, by simpa [putCells] using hz, ?_⟩⟩
    · rw [List.length_map, hl, hn]
    · rw [sort_heap hs hlt, if_pos rfl, hh]; rfl
    · have := putCells_take (vs := (l'.map enc).flatten) (flatK enc k l'.toArray) cur hF (by rw [hlen, hz]; exact Nat.mul_le_mul_right _ (by simpa [hn] using hc))
      rw [hlen] at this
      rw [List.length_map, hl, ← hn]
      exact this
theorem permIn_list {d d' : Array α} (h : PermIn 0 d.size d d') : d'.size = d.size ∧ d'.toList.Perm d.toList := by
  refine ⟨h.1, ?_⟩
  have := h.2.2
  simp only [Array.toList_extract, List.extract_eq_take_drop, List.drop_zero, Nat.sub_zero] at this
  rwa [List.take_of_length_le (by simp [h.1]), List.take_of_length_le (by simp)] at this
end
end Go.Proofs.YtkjommcmeinkaaaGreatDoor
