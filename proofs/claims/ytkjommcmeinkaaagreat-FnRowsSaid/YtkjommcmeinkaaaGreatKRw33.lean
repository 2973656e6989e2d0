/- What sorts and struck doubles hold: plain laws; slices of int64 sorted and struck in memory. No condition. -/
import Derived.Shelf.SortG.Plain
import Derived.Shelf.SortG.SortNone
import Derived.Shelf.SlicesG.CompactI
import Derived.Test.YtkjommcmeinkaaaGreatKRw20
import Derived.Test.YtkjommcmeinkaaaGreatKRw31
import Derived.Test.YtkjommcmeinkaaaGreatKRw32
set_option linter.unusedSimpArgs false
namespace Go.Proofs.YtkjommcmeinkaaaGreat
open Go.Shelf Go.RowKit Go.Lib Go.Sort
section
variable {α : Type} {lt : α → α → Bool}
def LStrict (lt : α → α → Bool) (l : List α) : Prop := l.Pairwise fun x y => lt x y = true
theorem strict_one (hS : SWO lt) (hT : ∀ x y, lt x y = false → lt y x = false → x = y) {l m : List α} (hl : LStrict lt l) (hm : LStrict lt m) (h : ∀ x, x ∈ l ↔ x ∈ m) : l = m := by
  have nd : ∀ {k : List α}, LStrict lt k → k.Nodup := fun {k} hk => hk.imp fun {x y} h e => by subst e; rw [hS.irrefl] at h; cases h
  have hp : l.Perm m := (List.perm_ext_iff_of_nodup (nd hl) (nd hm)).2 h
  have weak : ∀ {k : List α}, LStrict lt k → k.Pairwise fun x y => (!lt y x) = true := fun {k} hk => hk.imp fun {x y} h => by rw [SWO.asymmA hS h]; rfl
  exact hp.eq_of_pairwise (fun x y _ _ h1 h2 => hT x y (by simpa using h2) (by simpa using h1)) (weak hl) (weak hm)
variable [Inhabited α] [DecidableEq α]
theorem compact_strict (hT : ∀ x y, lt x y = false → lt y x = false → x = y) (hS : SWO lt) {zs : List α} (h : zs.Pairwise fun x y => lt y x = false) : LStrict lt (Lib.compact zs) := by
  unfold LStrict Lib.compact compactUpTo
  rw [List.pairwise_map]
  refine List.Pairwise.imp_of_mem ?_ (List.Pairwise.filter _ List.pairwise_lt_range)
  intro i j hi hj hij
  rw [List.mem_filter, List.mem_range] at hi hj
  have hw : ∀ a b, a ≤ b → b < zs.length → lt zs.toArray[b]! zs.toArray[a]! = false := fun a b hab hb => by
    rcases Nat.lt_or_ge a b with hlt | hge
    · rw [getElem!_pos _ b (by simpa using hb), getElem!_pos _ a (by simp; omega)]
      simpa using List.pairwise_iff_getElem.1 h a b (by omega) hb hlt
    · have : a = b := by omega
      subst this; exact hS.irrefl _
  have hk := hj.2
  unfold keeps at hk
  have hk := of_decide_eq_true hk
  have hne : zs.toArray[j]! ≠ zs.toArray[j - 1]! := by
    rcases hk with hk | hk
    · omega
    · exact hk
  have h1 := hw (j - 1) j (by omega) hj.1
  have h2 := hw i (j - 1) (by omega) (by omega)
  cases h3 : lt zs.toArray[i]! zs.toArray[j]!
  · -- then the one before j is not less than j
    have h4 : lt zs.toArray[j - 1]! zs.toArray[j]! = false := hS.ntrans _ _ _ h2 h3
    exact absurd (hT _ _ h1 h4) hne
  · rfl
theorem compact_mem {zs : List α} {x : α} : x ∈ Lib.compact zs ↔ x ∈ zs := by
  unfold Lib.compact compactUpTo
  rw [List.mem_map]
  constructor
  · rintro ⟨j, hj, rfl⟩
    rw [List.mem_filter, List.mem_range] at hj
    rw [getElem!_pos _ j (by simpa using hj.1)]
    simp
  · intro hx
    obtain ⟨j, hj, rfl⟩ := List.getElem_of_mem hx
    have key : ∀ j, j < zs.length → ∃ a, a ∈ (List.range zs.length).filter (keeps zs.toArray) ∧ zs.toArray[a]! = zs.toArray[j]! := by
      intro j
      induction j with
      | zero => exact fun h => ⟨0, List.mem_filter.2 ⟨List.mem_range.2 h, by simp [keeps]⟩, rfl⟩
      | succ j ih =>
        intro h
        by_cases hk : keeps zs.toArray (j + 1) = true
        · exact ⟨j + 1, List.mem_filter.2 ⟨List.mem_range.2 h, hk⟩, rfl⟩
        · obtain ⟨a, ha, he⟩ := ih (by omega)
          refine ⟨a, ha, ?_⟩
          unfold keeps at hk
          simp only [decide_eq_true_eq, not_or] at hk
          have := Decidable.not_not.1 hk.2
          rw [he, this]
          simp
    obtain ⟨a, ha, he⟩ := key j hj
    exact ⟨a, ha, by rw [he, getElem!_pos _ j (by simpa using hj)]; simp⟩
end
def ltI (x y : Int) : Bool := decide (x < y)
theorem swoI : SWO ltI where
  irrefl x := by simp [ltI]
  trans x y z h1 h2 := by simp [ltI] at *; omega
  ntrans x y z h1 h2 := by simp [ltI] at *; omega
theorem totI (x y : Int) (h1 : ltI x y = false) (h2 : ltI y x = false) : x = y := by simp [ltI] at *; omega
def sortI (l : List Int) : List Int := l.mergeSort fun x y => decide (x ≤ y)
theorem sortI_sorted (l : List Int) : (sortI l).Pairwise fun x y => ltI y x = false := by
  have h := List.pairwise_mergeSort (le := fun x y : Int => decide (x ≤ y)) (fun a b c h1 h2 => by simp at *; omega) (fun a b => by simp; omega) l
  exact h.imp fun h => by simp [ltI] at *; omega
theorem sortI_perm (l : List Int) : (sortI l).Perm l := List.mergeSort_perm _ _
theorem sortI_len (l : List Int) : (sortI l).length = l.length := (sortI_perm l).length_eq
theorem compactI_len (l : List Int) : (Lib.compact l).length ≤ l.length := by
  unfold Lib.compact compactUpTo
  rw [List.length_map]
  exact Nat.le_trans (List.length_filter_le _ _) (by simp)
theorem Own.prefix_ {w : World} {base : Nat} {e : TypeId} {k g n cap m : Nat} {xs : List (List Value)} (h : Own w base e k (.slice (some ⟨g, 0, none⟩) n cap) xs) (hm : m ≤ n) : Own w base e k (.slice (some ⟨g, 0, none⟩) m cap) (xs.take m) := by
  have hn : n = xs.length := by
    obtain ⟨A, c, hh, _⟩ := h.form
    simp only [Value.slice.injEq] at hh; exact hh.2.1
  obtain ⟨h1, h2⟩ := h
  refine ⟨?_, fun x hx => h2 x (List.mem_of_mem_take hx)⟩
  have hlen : (xs.take m).length = m := by rw [List.length_take]; omega
  have hx2 : ∀ x ∈ xs.take m, x.length = k := fun x hx => h2 x (List.mem_of_mem_take hx)
  refine ⟨flat_length hx2, ?_⟩
  rcases h1.2 with ⟨h', _⟩ | ⟨g', cap', cur, hs, hb, hh, hc, hmx, hz, ht⟩
  · simp at h'
  · simp only [Value.slice.injEq] at hs
    refine .inr ⟨g', cap', cur, by simp only [Value.slice.injEq]; exact ⟨hs.1, hlen.symm, hs.2.2⟩, hb, hh, by omega, hmx, hz, ?_⟩
    rw [hlen]
    have e1 : xs.flatten = (xs.take m).flatten ++ (xs.drop m).flatten := by rw [← List.flatten_append, List.take_append_drop]
    have e2 : (xs.take m).flatten.length = m * k := by rw [flat_length hx2, hlen]
    have t1 : (cur.toList.take (xs.length * k)).take (m * k) = cur.toList.take (m * k) := by rw [List.take_take, Nat.min_eq_left (Nat.mul_le_mul_right _ (by omega))]
    rw [← t1, ht, e1, List.take_append_of_le_length (by omega), List.take_of_length_le (by omega)]
theorem own_holdsI {w : World} {base g n c : Nat} {e : TypeId} {l : List Int} (h : Own w base e 1 (.slice (some ⟨g, 0, none⟩) n c) (l.map ic)) : Holds (Value.int .i64) w g 0 l.toArray := by
  intro j hj
  have hj' : j < l.length := by simpa using hj
  obtain ⟨b, off, he, _, hc⟩ := h.sl.int hj'
  simp only [Option.some.injEq, Addr.mk.injEq, and_true] at he
  obtain ⟨rfl, rfl⟩ := he
  refine ⟨?_, h.frozen _⟩
  rw [hc, getT hj']
theorem putRow_one (w : World) (g off : Nat) (d : Array Int) : putRow (Value.int .i64) w g off d = putRowK ic 1 w g off d := by
  unfold putRowK putRow
  congr 1
  funext c
  unfold putCells
  apply Array.ext_getElem?
  intro t
  rw [Array.getElem?_mapIdx, Array.getElem?_mapIdx, size_flatK]
  cases c[t]? with
  | none => rfl
  | some v =>
    simp only [Option.map_some, Option.some.injEq, Nat.mul_one]
    by_cases h : off ≤ t ∧ t < off + d.size
    · rw [if_pos h, if_pos h]
      have hlt : t - off < d.size := by omega
      have e1 : (flatK ic 1 d)[t - off]! = (ic d[(t - off) / 1]!)[(t - off) % 1]! := by
        unfold flatK
        rw [getElem!_pos (Array.map _ (Array.range (d.size * 1))) (t - off) (by simpa using hlt)]
        simp
      rw [e1, Nat.div_one, Nat.mod_one]
      rfl
    · rw [if_neg h, if_neg h]
theorem sortI_c (base : Nat) (A : Option Addr) (c : Nat) (l : List Int) (w : World) (hl : l.length ≤ 1000000) (hO : Own w base 2 1 (.slice A l.length c) (l.map ic)) :
    Calls Tryz.prog 43 #[.slice A l.length c] w fun e w' => e = .returned (.tuple #[]) ∧ Own w' base 2 1 (.slice A l.length c) ((sortI l).map ic) ∧ RowKit.Below base w w' := by
  rcases hO.1.2 with ⟨hv, h0⟩ | ⟨g, cap, cur, hv, _⟩
  · simp only [Value.slice.injEq] at hv
    obtain ⟨rfl, hl0, rfl⟩ := hv
    obtain rfl : l = [] := List.eq_nil_of_length_eq_zero hl0
    have h := AnyG.slices_Sort_int_none Tryz.laySort none 0 w
    change Calls Tryz.prog 43 _ _ _ at h
    refine h.mono fun e w' ⟨he, hw⟩ => ?_
    subst hw
    exact ⟨he, by simpa [sortI] using hO, RowKit.Below.refl _ _⟩
  · simp only [Value.slice.injEq] at hv
    obtain ⟨rfl, _, rfl⟩ := hv
    have h := AnyG.slices_Sort_int Tryz.laySort g 0 c l w (own_holdsI hO) hO.block_ge.2 (by omega)
    change Calls Tryz.prog 43 _ _ _ at h
    refine h.mono fun e w' ⟨he, n, os, hw⟩ => ?_
    have hS : SWK ic 1 w g 0 (sortI l).toArray w' := ⟨n, os, by rw [hw, putRow_one]; rfl⟩
    exact ⟨he, own_sorted (enc := ic) (k := 1) (fun _ => rfl) hO (sortI_len l) hS, sort_below hO.block_ge.1 hO.block_ge.2 hS⟩
theorem compactI_c (base : Nat) (A : Option Addr) (c : Nat) (l : List Int) (w : World) (hl : l.length ≤ 1000000) (hO : Own w base 2 1 (.slice A l.length c) (l.map ic)) :
    Calls Tryz.prog 44 #[.slice A l.length c] w fun e w' => e = .returned (.slice A (Lib.compact l).length c) ∧ Own w' base 2 1 (.slice A (Lib.compact l).length c) ((Lib.compact l).map ic) ∧ RowKit.Below base w w' := by
  have hcap : l.length ≤ c := hO.le_cap
  rcases hO.1.2 with ⟨hv, h0⟩ | ⟨g, cap, cur, hv, _⟩
  · simp only [Value.slice.injEq] at hv
    obtain ⟨rfl, hl0, rfl⟩ := hv
    obtain rfl : l = [] := List.eq_nil_of_length_eq_zero hl0
    have h := AnyG.slices_Compact_int_empty Tryz.layCompact none 0 w
    change Calls Tryz.prog 44 _ _ _ at h
    refine h.mono fun e w' ⟨he, hw⟩ => ?_
    subst hw
    exact ⟨he, hO, RowKit.Below.refl _ _⟩
  · simp only [Value.slice.injEq] at hv
    obtain ⟨rfl, _, rfl⟩ := hv
    have h := AnyG.slices_Compact_int Tryz.layCompact g 0 c l w (own_holdsI hO) (by omega) hcap
    change Calls Tryz.prog 44 _ _ _ at h
    refine h.mono fun e w' ⟨he, q, hw⟩ => ?_
    have hlen := compactI_len l
    have hS : SWK ic 1 w g 0 (Lib.compact l ++ List.replicate (l.length - (Lib.compact l).length) 0).toArray w' := ⟨q, #[], by rw [hw, putRow_one]; unfold sortWorldK; rw [grow_empty]⟩
    have hO2 := own_sorted (enc := ic) (k := 1) (fun _ => rfl) hO (by simp; omega) hS
    have hO3 := hO2.prefix_ (m := (Lib.compact l).length) hlen
    rw [List.map_append, List.take_append_of_le_length (by simp), List.take_of_length_le (by simp)] at hO3
    exact ⟨he, hO3, sort_below hO.block_ge.1 hO.block_ge.2 hS⟩
end Go.Proofs.YtkjommcmeinkaaaGreat
