/- Nested structs: the laws' copies and comparisons of them. No condition beyond the slices' lengths. -/
import Derived.Test.YtednjmldjbndhaaGreatKEy1
import Derived.Test.YtednjmldjbndhaaGreatKEy2
set_option linter.unusedSimpArgs false
set_option linter.unusedVariables false
namespace Go.Proofs.YtednjmldjbndhaaGreat
open Go.RowKit
theorem szInt64S_c (A : Option Addr) (n c : Nat) (left : Int) (w : World) (hn : n ≤ 140737488351232) (hl : 0 ≤ left ∧ left ≤ 1048576) :
   Calls Tryz.prog 123 #[.slice A n c, .int .i64 left] w fun e w' => e = .returned (.int .i64 (if left < n then -1 else left - n)) ∧ w = w' := by
  obtain ⟨h1, h2⟩ := hl
  by_cases h : left < n
  · have h' : left - n < 0 := by omega
    rw [if_pos h]
    go_enter Tryz.func123, Tryz.ntmps123
    go_wp2
    go_ret
    exact ⟨rfl, rfl⟩
  · have h' : ¬ left - n < 0 := by omega
    rw [if_neg h]
    go_enter Tryz.func123, Tryz.ntmps123
    go_wp2
    go_ret
    exact ⟨rfl, rfl⟩
set_option maxRecDepth 100000 in
theorem toInt64S_c (A : Option Addr) (c : Nat) (l : List Int) (w : World) (hl : l.length ≤ 1048576) (hs : Sl w w.heap.size 1 A (l.map ic)) :
    Calls Tryz.prog 128 #[.slice A l.length c] w fun e w' => ∃ A' c', e = .returned (.slice A' l.length c') ∧ Own w' w.heap.size 2 1 (.slice A' l.length c') (l.map ic) ∧ Below w.heap.size w w' := by
  obtain ⟨i0, hi, hz0, hz1, hz2⟩ := info_parts info_Int64
  go_enter Tryz.func128, Tryz.ntmps128
  go_wp2_with (refine wpList_make_full _ rfl (.tmp 6) (.tmp 6) 24 rfl w.heap.size 2 i0 _ 1 Tryz.underlying24 hi hz0 hz1 .i64 .i64 _ _ l.length rfl rfl rfl rfl (by rw [hz2]; omega) (by unfold maxLen; omega) (Nat.le_refl _) ?_; intro w1 hown hg)
  have hb1 : Below w.heap.size w w1 := (Below.refl _ _).grown hg (Nat.le_refl _) (fun k h => by cases h)
  have hO : Own w1 w.heap.size 2 1 (.slice (some ⟨w.heap.size, 0, none⟩) l.length l.length) ((l.map ic).take 0 ++ List.replicate (l.length - 0) [Value.int .i64 0]) := by
    refine ⟨?_, by simp⟩
    rw [made_rows _ 1 _ rfl (by omega)] at hown
    simpa [Value.cells] using hown
  clear hown hg
  generalize hgs : w.heap.size = g at hO ⊢
  go_loopw [4] (fun i wr => ∃ k : Nat, k ≤ l.length ∧ i = .int .i64 k ∧ Below w.heap.size w wr ∧
      Own wr w.heap.size 2 1 (.slice (some ⟨g, 0, none⟩) l.length l.length) ((l.map ic).take k ++ List.replicate (l.length - k) [Value.int .i64 0])) (fun i _ => l.length - (intOf i).toNat)
  case atStart => exact ⟨0, Nat.zero_le _, rfl, hb1, by rw [hgs]; exact hO⟩
  case round =>
    obtain ⟨k, hk, rfl, hb, hO⟩ := hrel
    by_cases hlt : k < l.length
    · obtain ⟨b, off, rfl, hbB, hc⟩ := hs.int hlt
      have c0 : wr.cell? ⟨b, off + k, none⟩ = some (.int .i64 l[k]) := by rw [hb.cell hbB]; exact hc
      have hkl : k < ((l.map ic).take k ++ List.replicate (l.length - k) [Value.int .i64 0]).length := (by simp; omega)
      obtain ⟨v0, e0⟩ := hO.cell (i := k) (j := 0) hkl (by omega)
      have e0 : wr.cell? ⟨g, k, none⟩ = some v0 := by simpa using e0
      have f0 : wr.frozen? ⟨g, k, none⟩ = false := hO.frozen _
      clear hc
      go_wp2
      go_roundw
      case rel =>
        refine ⟨k + 1, by omega, by go_num, ?_, ?_⟩
        · have h := stores_below (B := w.heap.size) (g := g) (by omega) (ic l[k]) (k * 1) hb
          simpa [stores, ic] using h
        · have h := hO.store (i := k) hkl (ic l[k]) rfl
          rw [show ((l.map ic).take k ++ List.replicate (l.length - k) [Value.int .i64 0]).set k (ic l[k]) = (l.map ic).take (k + 1) ++ List.replicate (l.length - (k + 1)) [Value.int .i64 0] from rows_next (by simpa using hlt) (by simp [List.getElem?_eq_getElem hlt])] at h
          simpa [stores, ic] using h
      case measure => simp [intOf]; omega
    · have : k = l.length := by omega
      subst this
      go_wp2
      go_ret
      rw [List.take_of_length_le (by simp), Nat.sub_self, List.replicate_zero, List.append_nil] at hO
      exact ⟨_, _, rfl, hO, hb⟩

theorem own_far {w : World} {base : Nat} {e : TypeId} {k b off : Nat} {u v : Value} {xs : List (List Value)} (h : Own w base e k v xs) (hb : b < base) : Own (w.setCell ⟨b, off, none⟩ u) base e k v xs :=
  h.kept (row := some b) (grownBy_stores [u] off (World.grownBy.refl _ _)) (by
    cases hv : v.ownBlock with
    | none => exact .inl rfl
    | some r => exact .inr fun e => by have := h.ownGe _ hv; cases e; omega)
theorem own_mono {w : World} {base base' : Nat} {e : TypeId} {k : Nat} {v : Value} {xs : List (List Value)} (h : Own w base e k v xs) (hb : base' ≤ base) : Own w base' e k v xs := h.mono hb
/-- two slices that share no memory -/
def Apart (v u : Value) : Prop := u.ownBlock = none ∨ u.ownBlock ≠ v.ownBlock
theorem apart_of {v u : Value} {a b : Nat} (h1 : ∀ r, v.ownBlock = some r → r < a) (h2 : ∀ r, u.ownBlock = some r → b ≤ r) (hab : a ≤ b) : Apart v u := by
  unfold Apart
  cases hu : u.ownBlock with
  | none => exact .inl rfl
  | some r => exact .inr fun e => by have := h1 r e.symm; have := h2 r hu; omega
/-- a rule in new memory -/
def RulePost (L : Int) (l1 l2 : List Int) (w : World) (e : Ending) (w' : World) : Prop :=
  ∃ B1 d1 B2 d2, e = .returned (.agg #[.int .i64 L, .slice B1 l1.length d1, .slice B2 l2.length d2]) ∧ Own w' w.heap.size 2 1 (.slice B1 l1.length d1) (l1.map ic) ∧ Own w' w.heap.size 2 1 (.slice B2 l2.length d2) (l2.map ic) ∧ Apart (.slice B1 l1.length d1) (.slice B2 l2.length d2) ∧ Below w.heap.size w w'

set_option maxRecDepth 100000 in
theorem toTerm_c (a b : Int) (d : Bool) (w : World) :
    Calls Tryz.prog 129 #[.agg #[.int .i64 a, .int .i64 b, .bool d]] w fun e w' => e = .returned (.agg #[.int .i64 a, .int .i64 b, .bool d]) ∧ Below w.heap.size w w' := by
  go_enter Tryz.func129, Tryz.ntmps129
  go_wp2_with fail
  refine (toFigure_c a b _).mono ?_; rintro e w1 ⟨rfl, hb1⟩
  have B0_1 := (((Blk.new w 166 #[.int .i64 a, .int .i64 b, .bool d]).alloc (.cells #[.int .i64 0, .int .i64 0, .bool false] 100)).alloc (.cells #[.int .i64 0, .int .i64 0, .bool false] 100)).below hb1 (by first | omega | (simp; omega) | simp)
  have B1_1 := ((Blk.new' (w.alloc (.cells #[.int .i64 a, .int .i64 b, .bool d] 166)) 100 #[.int .i64 0, .int .i64 0, .bool false] (g := w.heap.size + 1) (by simp)).alloc (.cells #[.int .i64 0, .int .i64 0, .bool false] 100)).below hb1 (by first | omega | (simp; omega) | simp)
  have B2_1 : Blk w1 (w.heap.size + 1 + 1) 100 #[.int .i64 0, .int .i64 0, .bool false] := (Blk.new' ((w.alloc (.cells #[.int .i64 a, .int .i64 b, .bool d] 166)).alloc (.cells #[.int .i64 0, .int .i64 0, .bool false] 100)) 100 #[.int .i64 0, .int .i64 0, .bool false] (g := w.heap.size + 1 + 1) (by simp)).below hb1 (by first | omega | (simp; omega) | simp)
  have hB1 : Below w.heap.size w w1 := Below.trans ((by repeat (first | with_reducible exact Below.refl _ _ | with_reducible apply below_drewN' | with_reducible apply Below.drew | (with_reducible refine Below.alloc ?_ (by first | omega | (simp; omega) | simp | (have := (Below.refl _ _).size; omega) | (have := (Below.refl _ _).size; simp; omega)) _) | (with_reducible refine Below.setCell ?_ (by first | omega | (simp; omega) | simp | (have := (Below.refl _ _).size; omega) | (have := (Below.refl _ _).size; simp; omega)) _) | exact Below.refl _ _))) (hb1.mono (by first | omega | (simp; omega) | simp))
  have hBs1 := hB1.size
  have hZ1 := B2_1.lt
  have x0_1 : w1.cell? ⟨w.heap.size, 0, none⟩ = some (.int .i64 a) := B0_1.cell 0
  have y0_1 : w1.cell? ⟨w.heap.size + 1 + 1, 0, none⟩ = some (.int .i64 0) := B2_1.cell 0
  have yf0_1 : w1.frozen? ⟨w.heap.size + 1 + 1, 0, none⟩ = false := B2_1.frozen 0
  have z0_1 : w1.cell? ⟨w.heap.size + 1, 0, none⟩ = some (.int .i64 0) := B1_1.cell 0
  have zf0_1 : w1.frozen? ⟨w.heap.size + 1, 0, none⟩ = false := B1_1.frozen 0
  have x1_1 : w1.cell? ⟨w.heap.size, 1, none⟩ = some (.int .i64 b) := B0_1.cell 1
  have y1_1 : w1.cell? ⟨w.heap.size + 1 + 1, 1, none⟩ = some (.int .i64 0) := B2_1.cell 1
  have yf1_1 : w1.frozen? ⟨w.heap.size + 1 + 1, 1, none⟩ = false := B2_1.frozen 1
  have z1_1 : w1.cell? ⟨w.heap.size + 1, 1, none⟩ = some (.int .i64 0) := B1_1.cell 1
  have zf1_1 : w1.frozen? ⟨w.heap.size + 1, 1, none⟩ = false := B1_1.frozen 1
  have x2_1 : w1.cell? ⟨w.heap.size, 2, none⟩ = some (.bool d) := B0_1.cell 2
  have y2_1 : w1.cell? ⟨w.heap.size + 1 + 1, 2, none⟩ = some (.bool false) := B2_1.cell 2
  have yf2_1 : w1.frozen? ⟨w.heap.size + 1 + 1, 2, none⟩ = false := B2_1.frozen 2
  have z2_1 : w1.cell? ⟨w.heap.size + 1, 2, none⟩ = some (.bool false) := B1_1.cell 2
  have zf2_1 : w1.frozen? ⟨w.heap.size + 1, 2, none⟩ = false := B1_1.frozen 2
  go_wp2_with fail
  refine bodyPost_ret (v := .agg #[.int .i64 a, .int .i64 b, .bool d]) (by simp [results, Tryz.results129, go_sem, z0_1, z1_1, z2_1]) rfl ⟨rfl, (by repeat (first | with_reducible exact hB1 | with_reducible apply below_drewN' | with_reducible apply Below.drew | (with_reducible refine Below.alloc ?_ (by first | omega | (simp; omega) | simp | (have := (hB1).size; omega) | (have := (hB1).size; simp; omega)) _) | (with_reducible refine Below.setCell ?_ (by first | omega | (simp; omega) | simp | (have := (hB1).size; omega) | (have := (hB1).size; simp; omega)) _) | exact hB1))⟩

set_option maxRecDepth 100000 in
theorem toMove_c (k s a b : Int) (w : World) :
    Calls Tryz.prog 130 #[.agg #[.int .i64 k, .int .i64 s, .int .i64 a, .int .i64 b]] w fun e w' => e = .returned (.agg #[.int .i64 k, .int .i64 s, .int .i64 a, .int .i64 b]) ∧ Below w.heap.size w w' := by
  go_enter Tryz.func130, Tryz.ntmps130
  go_wp2_with fail
  refine (toFigure_c a b _).mono ?_; rintro e w1 ⟨rfl, hb1⟩
  have B0_1 := (((Blk.new w 169 #[.int .i64 k, .int .i64 s, .int .i64 a, .int .i64 b]).alloc (.cells #[.int .i64 0, .int .i64 0, .int .i64 0, .int .i64 0] 75)).alloc (.cells #[.int .i64 k, .int .i64 s, .int .i64 0, .int .i64 0] 75)).below hb1 (by first | omega | (simp; omega) | simp)
  have B1_1 := ((Blk.new' (w.alloc (.cells #[.int .i64 k, .int .i64 s, .int .i64 a, .int .i64 b] 169)) 75 #[.int .i64 0, .int .i64 0, .int .i64 0, .int .i64 0] (g := w.heap.size + 1) (by simp)).alloc (.cells #[.int .i64 k, .int .i64 s, .int .i64 0, .int .i64 0] 75)).below hb1 (by first | omega | (simp; omega) | simp)
  have B2_1 : Blk w1 (w.heap.size + 1 + 1) 75 #[.int .i64 k, .int .i64 s, .int .i64 0, .int .i64 0] := (Blk.new' ((w.alloc (.cells #[.int .i64 k, .int .i64 s, .int .i64 a, .int .i64 b] 169)).alloc (.cells #[.int .i64 0, .int .i64 0, .int .i64 0, .int .i64 0] 75)) 75 #[.int .i64 k, .int .i64 s, .int .i64 0, .int .i64 0] (g := w.heap.size + 1 + 1) (by simp)).below hb1 (by first | omega | (simp; omega) | simp)
  have hB1 : Below w.heap.size w w1 := Below.trans ((by repeat (first | with_reducible exact Below.refl _ _ | with_reducible apply below_drewN' | with_reducible apply Below.drew | (with_reducible refine Below.alloc ?_ (by first | omega | (simp; omega) | simp | (have := (Below.refl _ _).size; omega) | (have := (Below.refl _ _).size; simp; omega)) _) | (with_reducible refine Below.setCell ?_ (by first | omega | (simp; omega) | simp | (have := (Below.refl _ _).size; omega) | (have := (Below.refl _ _).size; simp; omega)) _) | exact Below.refl _ _))) (hb1.mono (by first | omega | (simp; omega) | simp))
  have hBs1 := hB1.size
  have hZ1 := B2_1.lt
  have x0_1 : w1.cell? ⟨w.heap.size, 0, none⟩ = some (.int .i64 k) := B0_1.cell 0
  have y0_1 : w1.cell? ⟨w.heap.size + 1 + 1, 0, none⟩ = some (.int .i64 k) := B2_1.cell 0
  have yf0_1 : w1.frozen? ⟨w.heap.size + 1 + 1, 0, none⟩ = false := B2_1.frozen 0
  have z0_1 : w1.cell? ⟨w.heap.size + 1, 0, none⟩ = some (.int .i64 0) := B1_1.cell 0
  have zf0_1 : w1.frozen? ⟨w.heap.size + 1, 0, none⟩ = false := B1_1.frozen 0
  have x1_1 : w1.cell? ⟨w.heap.size, 1, none⟩ = some (.int .i64 s) := B0_1.cell 1
  have y1_1 : w1.cell? ⟨w.heap.size + 1 + 1, 1, none⟩ = some (.int .i64 s) := B2_1.cell 1
  have yf1_1 : w1.frozen? ⟨w.heap.size + 1 + 1, 1, none⟩ = false := B2_1.frozen 1
  have z1_1 : w1.cell? ⟨w.heap.size + 1, 1, none⟩ = some (.int .i64 0) := B1_1.cell 1
  have zf1_1 : w1.frozen? ⟨w.heap.size + 1, 1, none⟩ = false := B1_1.frozen 1
  have x2_1 : w1.cell? ⟨w.heap.size, 2, none⟩ = some (.int .i64 a) := B0_1.cell 2
  have y2_1 : w1.cell? ⟨w.heap.size + 1 + 1, 2, none⟩ = some (.int .i64 0) := B2_1.cell 2
  have yf2_1 : w1.frozen? ⟨w.heap.size + 1 + 1, 2, none⟩ = false := B2_1.frozen 2
  have z2_1 : w1.cell? ⟨w.heap.size + 1, 2, none⟩ = some (.int .i64 0) := B1_1.cell 2
  have zf2_1 : w1.frozen? ⟨w.heap.size + 1, 2, none⟩ = false := B1_1.frozen 2
  have x3_1 : w1.cell? ⟨w.heap.size, 3, none⟩ = some (.int .i64 b) := B0_1.cell 3
  have y3_1 : w1.cell? ⟨w.heap.size + 1 + 1, 3, none⟩ = some (.int .i64 0) := B2_1.cell 3
  have yf3_1 : w1.frozen? ⟨w.heap.size + 1 + 1, 3, none⟩ = false := B2_1.frozen 3
  have z3_1 : w1.cell? ⟨w.heap.size + 1, 3, none⟩ = some (.int .i64 0) := B1_1.cell 3
  have zf3_1 : w1.frozen? ⟨w.heap.size + 1, 3, none⟩ = false := B1_1.frozen 3
  go_wp2_with fail
  refine bodyPost_ret (v := .agg #[.int .i64 k, .int .i64 s, .int .i64 a, .int .i64 b]) (by simp [results, Tryz.results130, go_sem, z0_1, z1_1, z2_1, z3_1]) rfl ⟨rfl, (by repeat (first | with_reducible exact hB1 | with_reducible apply below_drewN' | with_reducible apply Below.drew | (with_reducible refine Below.alloc ?_ (by first | omega | (simp; omega) | simp | (have := (hB1).size; omega) | (have := (hB1).size; simp; omega)) _) | (with_reducible refine Below.setCell ?_ (by first | omega | (simp; omega) | simp | (have := (hB1).size; omega) | (have := (hB1).size; simp; omega)) _) | exact hB1))⟩

set_option maxRecDepth 100000 in
theorem toRule_c (L : Int) (A1 : Option Addr) (c1 : Nat) (l1 : List Int) (A2 : Option Addr) (c2 : Nat) (l2 : List Int) (w : World) (h1 : l1.length ≤ 1048576) (h2 : l2.length ≤ 1048576) (hs1 : Sl w w.heap.size 1 A1 (l1.map ic)) (hs2 : Sl w w.heap.size 1 A2 (l2.map ic)) :
    Calls Tryz.prog 69 #[.agg #[.int .i64 L, .slice A1 l1.length c1, .slice A2 l2.length c2]] w fun e w' => RulePost L l1 l2 w e w' := by
  go_enter Tryz.func69, Tryz.ntmps69
  go_wp2_with fail
  refine (toInt64S_c A1 c1 l1 _ (by omega) ((hs1.below ((by repeat (first | with_reducible exact Below.refl _ _ | with_reducible apply below_drewN' | with_reducible apply Below.drew | (with_reducible refine Below.alloc ?_ (by first | omega | (simp; omega) | simp | (have := (Below.refl _ _).size; omega) | (have := (Below.refl _ _).size; simp; omega)) _) | (with_reducible refine Below.setCell ?_ (by first | omega | (simp; omega) | simp | (have := (Below.refl _ _).size; omega) | (have := (Below.refl _ _).size; simp; omega)) _) | exact Below.refl _ _)))).more (by first | omega | (simp; omega) | simp))).mono ?_; rintro e w1 ⟨B1, d1, rfl, hO_1, hb1⟩
  have B0_1 := (((Blk.new w 54 #[.int .i64 L, .slice A1 l1.length c1, .slice A2 l2.length c2]).alloc (.cells #[.int .i64 0, .slice none 0 0, .slice none 0 0] 26)).alloc (.cells #[.int .i64 L, .slice none 0 0, .slice none 0 0] 26)).below hb1 (by first | omega | (simp; omega) | simp)
  have B1_1 := ((Blk.new' (w.alloc (.cells #[.int .i64 L, .slice A1 l1.length c1, .slice A2 l2.length c2] 54)) 26 #[.int .i64 0, .slice none 0 0, .slice none 0 0] (g := w.heap.size + 1) (by simp)).alloc (.cells #[.int .i64 L, .slice none 0 0, .slice none 0 0] 26)).below hb1 (by first | omega | (simp; omega) | simp)
  have B2_1 : Blk w1 (w.heap.size + 1 + 1) 26 #[.int .i64 L, .slice none 0 0, .slice none 0 0] := (Blk.new' ((w.alloc (.cells #[.int .i64 L, .slice A1 l1.length c1, .slice A2 l2.length c2] 54)).alloc (.cells #[.int .i64 0, .slice none 0 0, .slice none 0 0] 26)) 26 #[.int .i64 L, .slice none 0 0, .slice none 0 0] (g := w.heap.size + 1 + 1) (by simp)).below hb1 (by first | omega | (simp; omega) | simp)
  have hB1 : Below w.heap.size w w1 := Below.trans ((by repeat (first | with_reducible exact Below.refl _ _ | with_reducible apply below_drewN' | with_reducible apply Below.drew | (with_reducible refine Below.alloc ?_ (by first | omega | (simp; omega) | simp | (have := (Below.refl _ _).size; omega) | (have := (Below.refl _ _).size; simp; omega)) _) | (with_reducible refine Below.setCell ?_ (by first | omega | (simp; omega) | simp | (have := (Below.refl _ _).size; omega) | (have := (Below.refl _ _).size; simp; omega)) _) | exact Below.refl _ _))) (hb1.mono (by first | omega | (simp; omega) | simp))
  have hBs1 := hB1.size
  have hZ1 := B2_1.lt
  have lt_1 := fun r hr => (hO_1.1.lt r hr).2
  have ge_1 := hO_1.ownGe
  have hO_1 := own_mono (base' := w.heap.size + 1 + 1 + 1) hO_1 (by first | omega | (simp; omega) | simp)
  have x0_1 : w1.cell? ⟨w.heap.size, 0, none⟩ = some (.int .i64 L) := B0_1.cell 0
  have y0_1 : w1.cell? ⟨w.heap.size + 1 + 1, 0, none⟩ = some (.int .i64 L) := B2_1.cell 0
  have yf0_1 : w1.frozen? ⟨w.heap.size + 1 + 1, 0, none⟩ = false := B2_1.frozen 0
  have z0_1 : w1.cell? ⟨w.heap.size + 1, 0, none⟩ = some (.int .i64 0) := B1_1.cell 0
  have zf0_1 : w1.frozen? ⟨w.heap.size + 1, 0, none⟩ = false := B1_1.frozen 0
  have x1_1 : w1.cell? ⟨w.heap.size, 1, none⟩ = some (.slice A1 l1.length c1) := B0_1.cell 1
  have y1_1 : w1.cell? ⟨w.heap.size + 1 + 1, 1, none⟩ = some (.slice none 0 0) := B2_1.cell 1
  have yf1_1 : w1.frozen? ⟨w.heap.size + 1 + 1, 1, none⟩ = false := B2_1.frozen 1
  have z1_1 : w1.cell? ⟨w.heap.size + 1, 1, none⟩ = some (.slice none 0 0) := B1_1.cell 1
  have zf1_1 : w1.frozen? ⟨w.heap.size + 1, 1, none⟩ = false := B1_1.frozen 1
  have x2_1 : w1.cell? ⟨w.heap.size, 2, none⟩ = some (.slice A2 l2.length c2) := B0_1.cell 2
  have y2_1 : w1.cell? ⟨w.heap.size + 1 + 1, 2, none⟩ = some (.slice none 0 0) := B2_1.cell 2
  have yf2_1 : w1.frozen? ⟨w.heap.size + 1 + 1, 2, none⟩ = false := B2_1.frozen 2
  have z2_1 : w1.cell? ⟨w.heap.size + 1, 2, none⟩ = some (.slice none 0 0) := B1_1.cell 2
  have zf2_1 : w1.frozen? ⟨w.heap.size + 1, 2, none⟩ = false := B1_1.frozen 2
  go_wp2_with fail
  refine (toInt64S_c A2 c2 l2 _ (by omega) ((hs2.below ((by repeat (first | with_reducible exact hB1 | with_reducible apply below_drewN' | with_reducible apply Below.drew | (with_reducible refine Below.alloc ?_ (by first | omega | (simp; omega) | simp | (have := (hB1).size; omega) | (have := (hB1).size; simp; omega)) _) | (with_reducible refine Below.setCell ?_ (by first | omega | (simp; omega) | simp | (have := (hB1).size; omega) | (have := (hB1).size; simp; omega)) _) | exact hB1)))).more (by first | omega | (simp; omega) | simp))).mono ?_; rintro e w2 ⟨B2, d2, rfl, hO_2, hb2⟩
  have B0_2 := (B0_1.far (p := ⟨w.heap.size + 1 + 1, 1, none⟩) (by first | omega | (simp; omega) | simp) (.slice B1 l1.length d1)).below hb2 (by first | omega | (simp; omega) | simp)
  have B1_2 := (B1_1.far (p := ⟨w.heap.size + 1 + 1, 1, none⟩) (by first | omega | (simp; omega) | simp) (.slice B1 l1.length d1)).below hb2 (by first | omega | (simp; omega) | simp)
  have B2_2 : Blk w2 (w.heap.size + 1 + 1) 26 #[.int .i64 L, .slice B1 l1.length d1, .slice none 0 0] := (B2_1.set_ 1 (.slice B1 l1.length d1)).below hb2 (by first | omega | (simp; omega) | simp)
  have hB2 : Below w.heap.size w w2 := Below.trans ((by repeat (first | with_reducible exact hB1 | with_reducible apply below_drewN' | with_reducible apply Below.drew | (with_reducible refine Below.alloc ?_ (by first | omega | (simp; omega) | simp | (have := (hB1).size; omega) | (have := (hB1).size; simp; omega)) _) | (with_reducible refine Below.setCell ?_ (by first | omega | (simp; omega) | simp | (have := (hB1).size; omega) | (have := (hB1).size; simp; omega)) _) | exact hB1))) (hb2.mono (by first | omega | (simp; omega) | simp))
  have hBs2 := hB2.size
  have hZ2 := B2_2.lt
  have hO_1 := (own_far hO_1 (b := w.heap.size + 1 + 1) (off := 1) (u := .slice B1 l1.length d1) (by first | omega | (simp; omega) | simp)).below hb2
  have lt_2 := fun r hr => (hO_2.1.lt r hr).2
  have ge_2 := hO_2.ownGe
  have hO_2 := own_mono (base' := w.heap.size + 1 + 1 + 1) hO_2 (by first | omega | (simp; omega) | simp)
  have x0_2 : w2.cell? ⟨w.heap.size, 0, none⟩ = some (.int .i64 L) := B0_2.cell 0
  have y0_2 : w2.cell? ⟨w.heap.size + 1 + 1, 0, none⟩ = some (.int .i64 L) := B2_2.cell 0
  have yf0_2 : w2.frozen? ⟨w.heap.size + 1 + 1, 0, none⟩ = false := B2_2.frozen 0
  have z0_2 : w2.cell? ⟨w.heap.size + 1, 0, none⟩ = some (.int .i64 0) := B1_2.cell 0
  have zf0_2 : w2.frozen? ⟨w.heap.size + 1, 0, none⟩ = false := B1_2.frozen 0
  have x1_2 : w2.cell? ⟨w.heap.size, 1, none⟩ = some (.slice A1 l1.length c1) := B0_2.cell 1
  have y1_2 : w2.cell? ⟨w.heap.size + 1 + 1, 1, none⟩ = some (.slice B1 l1.length d1) := B2_2.cell 1
  have yf1_2 : w2.frozen? ⟨w.heap.size + 1 + 1, 1, none⟩ = false := B2_2.frozen 1
  have z1_2 : w2.cell? ⟨w.heap.size + 1, 1, none⟩ = some (.slice none 0 0) := B1_2.cell 1
  have zf1_2 : w2.frozen? ⟨w.heap.size + 1, 1, none⟩ = false := B1_2.frozen 1
  have x2_2 : w2.cell? ⟨w.heap.size, 2, none⟩ = some (.slice A2 l2.length c2) := B0_2.cell 2
  have y2_2 : w2.cell? ⟨w.heap.size + 1 + 1, 2, none⟩ = some (.slice none 0 0) := B2_2.cell 2
  have yf2_2 : w2.frozen? ⟨w.heap.size + 1 + 1, 2, none⟩ = false := B2_2.frozen 2
  have z2_2 : w2.cell? ⟨w.heap.size + 1, 2, none⟩ = some (.slice none 0 0) := B1_2.cell 2
  have zf2_2 : w2.frozen? ⟨w.heap.size + 1, 2, none⟩ = false := B1_2.frozen 2
  go_wp2_with fail
  refine bodyPost_ret (v := .agg #[.int .i64 L, .slice B1 l1.length d1, .slice B2 l2.length d2]) (by simp [results, Tryz.results69, go_sem, z0_2, z1_2, z2_2]) rfl ⟨B1, d1, B2, d2, rfl, own_mono (base := w.heap.size + 1 + 1 + 1) (by repeat (first | with_reducible exact hO_1 | (with_reducible refine own_far ?_ (by first | omega | (simp; omega))))) (by first | omega | (simp; omega) | simp), own_mono (base := w.heap.size + 1 + 1 + 1) (by repeat (first | with_reducible exact hO_2 | (with_reducible refine own_far ?_ (by first | omega | (simp; omega))))) (by first | omega | (simp; omega) | simp), apart_of lt_1 ge_2 (by first | omega | (simp; omega) | simp), (by repeat (first | with_reducible exact hB2 | with_reducible apply below_drewN' | with_reducible apply Below.drew | (with_reducible refine Below.alloc ?_ (by first | omega | (simp; omega) | simp | (have := (hB2).size; omega) | (have := (hB2).size; simp; omega)) _) | (with_reducible refine Below.setCell ?_ (by first | omega | (simp; omega) | simp | (have := (hB2).size; omega) | (have := (hB2).size; simp; omega)) _) | exact hB2))⟩
set_option maxRecDepth 100000 in
theorem eqTerm_c (a b : Int) (d : Bool) (w : World) :
    Calls Tryz.prog 134 #[.agg #[.int .i64 a, .int .i64 b, .bool d], .agg #[.int .i64 a, .int .i64 b, .bool d]] w fun e w' => e = .returned (.bool true) ∧ Below w.heap.size w w' := by
  go_enter Tryz.func134, Tryz.ntmps134
  go_wp2_with fail
  refine (eqFigure_c a b _).mono ?_; rintro e w1 ⟨rfl, hb1⟩
  have B0_1 := ((Blk.new w 100 #[.int .i64 a, .int .i64 b, .bool d]).alloc (.cells #[.int .i64 a, .int .i64 b, .bool d] 100)).below hb1 (by first | omega | (simp; omega) | simp)
  have B1_1 := (Blk.new' (w.alloc (.cells #[.int .i64 a, .int .i64 b, .bool d] 100)) 100 #[.int .i64 a, .int .i64 b, .bool d] (g := w.heap.size + 1) (by simp)).below hb1 (by first | omega | (simp; omega) | simp)
  have hB1 : Below w.heap.size w w1 := Below.trans ((by repeat (first | with_reducible exact Below.refl _ _ | with_reducible apply below_drewN' | with_reducible apply Below.drew | (with_reducible refine Below.alloc ?_ (by first | omega | (simp; omega) | simp | (have := (Below.refl _ _).size; omega) | (have := (Below.refl _ _).size; simp; omega)) _) | (with_reducible refine Below.setCell ?_ (by first | omega | (simp; omega) | simp | (have := (Below.refl _ _).size; omega) | (have := (Below.refl _ _).size; simp; omega)) _) | exact Below.refl _ _))) (hb1.mono (by first | omega | (simp; omega) | simp))
  have hBs1 := hB1.size
  have hZ1 := B1_1.lt
  have x0_1 : w1.cell? ⟨w.heap.size, 0, none⟩ = some (.int .i64 a) := B0_1.cell 0
  have y0_1 : w1.cell? ⟨w.heap.size + 1, 0, none⟩ = some (.int .i64 a) := B1_1.cell 0
  have x1_1 : w1.cell? ⟨w.heap.size, 1, none⟩ = some (.int .i64 b) := B0_1.cell 1
  have y1_1 : w1.cell? ⟨w.heap.size + 1, 1, none⟩ = some (.int .i64 b) := B1_1.cell 1
  have x2_1 : w1.cell? ⟨w.heap.size, 2, none⟩ = some (.bool d) := B0_1.cell 2
  have y2_1 : w1.cell? ⟨w.heap.size + 1, 2, none⟩ = some (.bool d) := B1_1.cell 2
  go_wp2_with fail
  go_ret
  exact ⟨rfl, (by repeat (first | with_reducible exact hB1 | with_reducible apply below_drewN' | with_reducible apply Below.drew | (with_reducible refine Below.alloc ?_ (by first | omega | (simp; omega) | simp | (have := (hB1).size; omega) | (have := (hB1).size; simp; omega)) _) | (with_reducible refine Below.setCell ?_ (by first | omega | (simp; omega) | simp | (have := (hB1).size; omega) | (have := (hB1).size; simp; omega)) _) | exact hB1))⟩

set_option maxRecDepth 100000 in
theorem eqMove_c (k s a b : Int) (w : World) :
    Calls Tryz.prog 135 #[.agg #[.int .i64 k, .int .i64 s, .int .i64 a, .int .i64 b], .agg #[.int .i64 k, .int .i64 s, .int .i64 a, .int .i64 b]] w fun e w' => e = .returned (.bool true) ∧ Below w.heap.size w w' := by
  go_enter Tryz.func135, Tryz.ntmps135
  go_wp2_with fail
  refine (eqFigure_c a b _).mono ?_; rintro e w1 ⟨rfl, hb1⟩
  have B0_1 := ((Blk.new w 75 #[.int .i64 k, .int .i64 s, .int .i64 a, .int .i64 b]).alloc (.cells #[.int .i64 k, .int .i64 s, .int .i64 a, .int .i64 b] 75)).below hb1 (by first | omega | (simp; omega) | simp)
  have B1_1 := (Blk.new' (w.alloc (.cells #[.int .i64 k, .int .i64 s, .int .i64 a, .int .i64 b] 75)) 75 #[.int .i64 k, .int .i64 s, .int .i64 a, .int .i64 b] (g := w.heap.size + 1) (by simp)).below hb1 (by first | omega | (simp; omega) | simp)
  have hB1 : Below w.heap.size w w1 := Below.trans ((by repeat (first | with_reducible exact Below.refl _ _ | with_reducible apply below_drewN' | with_reducible apply Below.drew | (with_reducible refine Below.alloc ?_ (by first | omega | (simp; omega) | simp | (have := (Below.refl _ _).size; omega) | (have := (Below.refl _ _).size; simp; omega)) _) | (with_reducible refine Below.setCell ?_ (by first | omega | (simp; omega) | simp | (have := (Below.refl _ _).size; omega) | (have := (Below.refl _ _).size; simp; omega)) _) | exact Below.refl _ _))) (hb1.mono (by first | omega | (simp; omega) | simp))
  have hBs1 := hB1.size
  have hZ1 := B1_1.lt
  have x0_1 : w1.cell? ⟨w.heap.size, 0, none⟩ = some (.int .i64 k) := B0_1.cell 0
  have y0_1 : w1.cell? ⟨w.heap.size + 1, 0, none⟩ = some (.int .i64 k) := B1_1.cell 0
  have x1_1 : w1.cell? ⟨w.heap.size, 1, none⟩ = some (.int .i64 s) := B0_1.cell 1
  have y1_1 : w1.cell? ⟨w.heap.size + 1, 1, none⟩ = some (.int .i64 s) := B1_1.cell 1
  have x2_1 : w1.cell? ⟨w.heap.size, 2, none⟩ = some (.int .i64 a) := B0_1.cell 2
  have y2_1 : w1.cell? ⟨w.heap.size + 1, 2, none⟩ = some (.int .i64 a) := B1_1.cell 2
  have x3_1 : w1.cell? ⟨w.heap.size, 3, none⟩ = some (.int .i64 b) := B0_1.cell 3
  have y3_1 : w1.cell? ⟨w.heap.size + 1, 3, none⟩ = some (.int .i64 b) := B1_1.cell 3
  go_wp2_with fail
  go_ret
  exact ⟨rfl, (by repeat (first | with_reducible exact hB1 | with_reducible apply below_drewN' | with_reducible apply Below.drew | (with_reducible refine Below.alloc ?_ (by first | omega | (simp; omega) | simp | (have := (hB1).size; omega) | (have := (hB1).size; simp; omega)) _) | (with_reducible refine Below.setCell ?_ (by first | omega | (simp; omega) | simp | (have := (hB1).size; omega) | (have := (hB1).size; simp; omega)) _) | exact hB1))⟩

set_option maxRecDepth 100000 in
theorem eqRule_c (L : Int) (A1 : Option Addr) (c1 : Nat) (A1' : Option Addr) (c1' : Nat) (l1 : List Int) (A2 : Option Addr) (c2 : Nat) (A2' : Option Addr) (c2' : Nat) (l2 : List Int) (w : World) (h1 : l1.length ≤ 1048576) (h2 : l2.length ≤ 1048576) (hs1 : Sl w w.heap.size 1 A1 (l1.map ic)) (hs2 : Sl w w.heap.size 1 A1' (l1.map ic)) (hs3 : Sl w w.heap.size 1 A2 (l2.map ic)) (hs4 : Sl w w.heap.size 1 A2' (l2.map ic)) :
    Calls Tryz.prog 75 #[.agg #[.int .i64 L, .slice A1 l1.length c1, .slice A2 l2.length c2], .agg #[.int .i64 L, .slice A1' l1.length c1', .slice A2' l2.length c2']] w fun e w' => e = .returned (.bool true) ∧ Below w.heap.size w w' := by
  go_enter Tryz.func75, Tryz.ntmps75
  go_wp2_with fail
  refine (eqInt64S_c A1 A1' c1 c1' l1 _ (by omega) ((hs1.below ((by repeat (first | with_reducible exact Below.refl _ _ | with_reducible apply below_drewN' | with_reducible apply Below.drew | (with_reducible refine Below.alloc ?_ (by first | omega | (simp; omega) | simp | (have := (Below.refl _ _).size; omega) | (have := (Below.refl _ _).size; simp; omega)) _) | (with_reducible refine Below.setCell ?_ (by first | omega | (simp; omega) | simp | (have := (Below.refl _ _).size; omega) | (have := (Below.refl _ _).size; simp; omega)) _) | exact Below.refl _ _)))).more (by first | omega | (simp; omega) | simp)) ((hs2.below ((by repeat (first | with_reducible exact Below.refl _ _ | with_reducible apply below_drewN' | with_reducible apply Below.drew | (with_reducible refine Below.alloc ?_ (by first | omega | (simp; omega) | simp | (have := (Below.refl _ _).size; omega) | (have := (Below.refl _ _).size; simp; omega)) _) | (with_reducible refine Below.setCell ?_ (by first | omega | (simp; omega) | simp | (have := (Below.refl _ _).size; omega) | (have := (Below.refl _ _).size; simp; omega)) _) | exact Below.refl _ _)))).more (by first | omega | (simp; omega) | simp))).mono ?_; rintro e w1 ⟨rfl, hb1⟩
  have B0_1 := ((Blk.new w 26 #[.int .i64 L, .slice A1 l1.length c1, .slice A2 l2.length c2]).alloc (.cells #[.int .i64 L, .slice A1' l1.length c1', .slice A2' l2.length c2'] 26)).below hb1 (by first | omega | (simp; omega) | simp)
  have B1_1 := (Blk.new' (w.alloc (.cells #[.int .i64 L, .slice A1 l1.length c1, .slice A2 l2.length c2] 26)) 26 #[.int .i64 L, .slice A1' l1.length c1', .slice A2' l2.length c2'] (g := w.heap.size + 1) (by simp)).below hb1 (by first | omega | (simp; omega) | simp)
  have hB1 : Below w.heap.size w w1 := Below.trans ((by repeat (first | with_reducible exact Below.refl _ _ | with_reducible apply below_drewN' | with_reducible apply Below.drew | (with_reducible refine Below.alloc ?_ (by first | omega | (simp; omega) | simp | (have := (Below.refl _ _).size; omega) | (have := (Below.refl _ _).size; simp; omega)) _) | (with_reducible refine Below.setCell ?_ (by first | omega | (simp; omega) | simp | (have := (Below.refl _ _).size; omega) | (have := (Below.refl _ _).size; simp; omega)) _) | exact Below.refl _ _))) (hb1.mono (by first | omega | (simp; omega) | simp))
  have hBs1 := hB1.size
  have hZ1 := B1_1.lt
  have x0_1 : w1.cell? ⟨w.heap.size, 0, none⟩ = some (.int .i64 L) := B0_1.cell 0
  have y0_1 : w1.cell? ⟨w.heap.size + 1, 0, none⟩ = some (.int .i64 L) := B1_1.cell 0
  have x1_1 : w1.cell? ⟨w.heap.size, 1, none⟩ = some (.slice A1 l1.length c1) := B0_1.cell 1
  have y1_1 : w1.cell? ⟨w.heap.size + 1, 1, none⟩ = some (.slice A1' l1.length c1') := B1_1.cell 1
  have x2_1 : w1.cell? ⟨w.heap.size, 2, none⟩ = some (.slice A2 l2.length c2) := B0_1.cell 2
  have y2_1 : w1.cell? ⟨w.heap.size + 1, 2, none⟩ = some (.slice A2' l2.length c2') := B1_1.cell 2
  go_wp2_with fail
  refine (eqInt64S_c A2 A2' c2 c2' l2 _ (by omega) ((hs3.below ((by repeat (first | with_reducible exact hB1 | with_reducible apply below_drewN' | with_reducible apply Below.drew | (with_reducible refine Below.alloc ?_ (by first | omega | (simp; omega) | simp | (have := (hB1).size; omega) | (have := (hB1).size; simp; omega)) _) | (with_reducible refine Below.setCell ?_ (by first | omega | (simp; omega) | simp | (have := (hB1).size; omega) | (have := (hB1).size; simp; omega)) _) | exact hB1)))).more (by first | omega | (simp; omega) | simp)) ((hs4.below ((by repeat (first | with_reducible exact hB1 | with_reducible apply below_drewN' | with_reducible apply Below.drew | (with_reducible refine Below.alloc ?_ (by first | omega | (simp; omega) | simp | (have := (hB1).size; omega) | (have := (hB1).size; simp; omega)) _) | (with_reducible refine Below.setCell ?_ (by first | omega | (simp; omega) | simp | (have := (hB1).size; omega) | (have := (hB1).size; simp; omega)) _) | exact hB1)))).more (by first | omega | (simp; omega) | simp))).mono ?_; rintro e w2 ⟨rfl, hb2⟩
  have B0_2 := B0_1.below hb2 (by first | omega | (simp; omega) | simp)
  have B1_2 := B1_1.below hb2 (by first | omega | (simp; omega) | simp)
  have hB2 : Below w.heap.size w w2 := Below.trans ((by repeat (first | with_reducible exact hB1 | with_reducible apply below_drewN' | with_reducible apply Below.drew | (with_reducible refine Below.alloc ?_ (by first | omega | (simp; omega) | simp | (have := (hB1).size; omega) | (have := (hB1).size; simp; omega)) _) | (with_reducible refine Below.setCell ?_ (by first | omega | (simp; omega) | simp | (have := (hB1).size; omega) | (have := (hB1).size; simp; omega)) _) | exact hB1))) (hb2.mono (by first | omega | (simp; omega) | simp))
  have hBs2 := hB2.size
  have hZ2 := B1_2.lt
  have x0_2 : w2.cell? ⟨w.heap.size, 0, none⟩ = some (.int .i64 L) := B0_2.cell 0
  have y0_2 : w2.cell? ⟨w.heap.size + 1, 0, none⟩ = some (.int .i64 L) := B1_2.cell 0
  have x1_2 : w2.cell? ⟨w.heap.size, 1, none⟩ = some (.slice A1 l1.length c1) := B0_2.cell 1
  have y1_2 : w2.cell? ⟨w.heap.size + 1, 1, none⟩ = some (.slice A1' l1.length c1') := B1_2.cell 1
  have x2_2 : w2.cell? ⟨w.heap.size, 2, none⟩ = some (.slice A2 l2.length c2) := B0_2.cell 2
  have y2_2 : w2.cell? ⟨w.heap.size + 1, 2, none⟩ = some (.slice A2' l2.length c2') := B1_2.cell 2
  go_wp2_with fail
  go_ret
  exact ⟨rfl, (by repeat (first | with_reducible exact hB2 | with_reducible apply below_drewN' | with_reducible apply Below.drew | (with_reducible refine Below.alloc ?_ (by first | omega | (simp; omega) | simp | (have := (hB2).size; omega) | (have := (hB2).size; simp; omega)) _) | (with_reducible refine Below.setCell ?_ (by first | omega | (simp; omega) | simp | (have := (hB2).size; omega) | (have := (hB2).size; simp; omega)) _) | exact hB2))⟩
end Go.Proofs.YtednjmldjbndhaaGreat
