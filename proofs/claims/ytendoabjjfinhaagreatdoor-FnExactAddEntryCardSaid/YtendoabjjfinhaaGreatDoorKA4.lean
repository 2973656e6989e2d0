/- Nested structs: the laws' copies and comparisons of them. No condition beyond the slices' lengths. Formulas: the laws' copies and comparisons of them. No condition beyond the lengths. Whether a formula and a chart are valid: the program's and the reference's. Conditions: the lengths. Rules and errors: whether they are valid, the program's and the reference's. No condition beyond the lists' lengths. Term: the structure, the laws' copies and comparisons of it. No condition beyond the length. slices.ContainsFunc at []impl.Term, at a predicate that only computes. Chains: whether they are valid, the program's and the reference's. No condition beyond the length. -/
import Derived.BigQuiet
import Derived.StillTailTactics
import Derived.Shelf.Abstract
import Derived.Test.YtendoabjjfinhaaGreatDoorKA1
import Derived.Test.YtendoabjjfinhaaGreatDoorKA3
set_option linter.unusedSimpArgs false
namespace Go.Proofs.YtendoabjjfinhaaGreatDoor
open Go.RowKit
theorem szInt64S_c (A : Option Addr) (n c : Nat) (left : Int) (w : World) (hn : n ≤ 140737488351232) (hl : 0 ≤ left ∧ left ≤ 1048576) :
   Calls Tryz.prog 154 #[.slice A n c, .int .i64 left] w fun e w' => e = .returned (.int .i64 (if left < n then -1 else left - n)) ∧ w = w' := by
  obtain ⟨h1, h2⟩ := hl
  by_cases h : left < n
  · have h' : left - n < 0 := by omega
    rw [if_pos h]
    go_enter Tryz.func154, Tryz.ntmps154
    go_wp2
    go_ret
    exact ⟨rfl, rfl⟩
  · have h' : ¬ left - n < 0 := by omega
    rw [if_neg h]
    go_enter Tryz.func154, Tryz.ntmps154
    go_wp2
    go_ret
    exact ⟨rfl, rfl⟩
set_option maxRecDepth 100000 in
theorem toInt64S_c (A : Option Addr) (c : Nat) (l : List Int) (w : World) (hl : l.length ≤ 1048576) (hs : Sl w w.heap.size 1 A (l.map ic)) :
    Calls Tryz.prog 155 #[.slice A l.length c] w fun e w' => ∃ A' c', e = .returned (.slice A' l.length c') ∧ Own w' w.heap.size 2 1 (.slice A' l.length c') (l.map ic) ∧ Below w.heap.size w w' := by
  obtain ⟨i0, hi, hz0, hz1, hz2⟩ := info_parts info_Int64
  go_enter Tryz.func155, Tryz.ntmps155
  go_wp2_with (refine wpList_make_full _ rfl (.tmp 6) (.tmp 6) 25 rfl w.heap.size 2 i0 _ 1 Tryz.underlying25 hi hz0 hz1 .i64 .i64 _ _ l.length rfl rfl rfl rfl (by rw [hz2]; omega) (by unfold maxLen; omega) (Nat.le_refl _) ?_; intro w1 hown hg)
  have hb1 : Below w.heap.size w w1 := (Below.refl _ _).grown hg (Nat.le_refl _) (fun k h => by cases h)
  have hO : Own w1 w.heap.size 2 1 (.slice (some ⟨w.heap.size, 0, none⟩) l.length l.length) ((l.map ic).take 0 ++ List.replicate (l.length - 0) [Value.int .i64 0]) := by
    refine ⟨?_, by simp⟩
    rw [made_rows _ 1 _ rfl (by omega)] at hown
    simpa [Value.cells] using hown
  clear hown hg
  generalize hgs : w.heap.size = g at hO ⊢
  go_loopw [4] (fun i wr => ∃ k : Nat, k ≤ l.length ∧ i = .int .i64 k ∧ Below w.heap.size w wr ∧
      Own wr w.heap.size 2 1 (.slice (some ⟨g, 0, none⟩) l.length l.length) ((l.map ic).take k ++ List.replicate (l.length - k) [Value.int .i64 0])) (fun i _ => l.length - (intOf i).toNat)
  case atStart => exact ⟨0, Nat.zero_le _, rfl, hb1, by rw [hgs]; exact hO⟩
  case round =>
    obtain ⟨k, hk, rfl, hb, hO⟩ := hrel
    by_cases hlt : k < l.length
    · obtain ⟨b, off, rfl, hbB, hc⟩ := hs.int hlt
      have c0 : wr.cell? ⟨b, off + k, none⟩ = some (.int .i64 l[k]) := by rw [hb.cell hbB]; exact hc
      have hkl : k < ((l.map ic).take k ++ List.replicate (l.length - k) [Value.int .i64 0]).length := (by simp; omega)
      obtain ⟨v0, e0⟩ := hO.cell (i := k) (j := 0) hkl (by omega)
      have e0 : wr.cell? ⟨g, k, none⟩ = some v0 := by simpa using e0
      have f0 : wr.frozen? ⟨g, k, none⟩ = false := hO.frozen _
      clear hc
      go_wp2
      go_roundw
      case rel =>
        refine ⟨k + 1, by omega, by go_num, ?_, ?_⟩
        · have h := stores_below (B := w.heap.size) (g := g) (by omega) (ic l[k]) (k * 1) hb
          simpa [stores, ic] using h
        · have h := hO.store (i := k) hkl (ic l[k]) rfl
          rw [show ((l.map ic).take k ++ List.replicate (l.length - k) [Value.int .i64 0]).set k (ic l[k]) = (l.map ic).take (k + 1) ++ List.replicate (l.length - (k + 1)) [Value.int .i64 0] from rows_next (by simpa using hlt) (by simp [List.getElem?_eq_getElem hlt])] at h
          simpa [stores, ic] using h
      case measure => simp [intOf]; omega
    · have : k = l.length := by omega
      subst this
      go_wp2
      go_ret
      rw [List.take_of_length_le (by simp), Nat.sub_self, List.replicate_zero, List.append_nil] at hO
      exact ⟨_, _, rfl, hO, hb⟩

theorem own_far {w : World} {base : Nat} {e : TypeId} {k b off : Nat} {u v : Value} {xs : List (List Value)} (h : Own w base e k v xs) (hb : b < base) : Own (w.setCell ⟨b, off, none⟩ u) base e k v xs :=
  h.kept (row := some b) (grownBy_stores [u] off (World.grownBy.refl _ _)) (by
    cases hv : v.ownBlock with
    | none => exact .inl rfl
    | some r => exact .inr fun e => by have := h.ownGe _ hv; cases e; omega)
theorem own_mono {w : World} {base base' : Nat} {e : TypeId} {k : Nat} {v : Value} {xs : List (List Value)} (h : Own w base e k v xs) (hb : base' ≤ base) : Own w base' e k v xs := h.mono hb
/-- two slices that share no memory -/
def Apart (v u : Value) : Prop := u.ownBlock = none ∨ u.ownBlock ≠ v.ownBlock
theorem apart_of {v u : Value} {a b : Nat} (h1 : ∀ r, v.ownBlock = some r → r < a) (h2 : ∀ r, u.ownBlock = some r → b ≤ r) (hab : a ≤ b) : Apart v u := by
  unfold Apart
  cases hu : u.ownBlock with
  | none => exact .inl rfl
  | some r => exact .inr fun e => by have := h1 r e.symm; have := h2 r hu; omega
/-- a rule in new memory -/
def RulePost (L : Int) (l1 l2 : List Int) (w : World) (e : Ending) (w' : World) : Prop :=
  ∃ B1 d1 B2 d2, e = .returned (.agg #[.int .i64 L, .slice B1 l1.length d1, .slice B2 l2.length d2]) ∧ Own w' w.heap.size 2 1 (.slice B1 l1.length d1) (l1.map ic) ∧ Own w' w.heap.size 2 1 (.slice B2 l2.length d2) (l2.map ic) ∧ Apart (.slice B1 l1.length d1) (.slice B2 l2.length d2) ∧ Below w.heap.size w w'





end Go.Proofs.YtendoabjjfinhaaGreatDoor
namespace Go.Proofs.YtendoabjjfinhaaGreatDoor
open Go.RowKit
set_option maxRecDepth 100000 in
theorem toFormula_c (fd ft : Int) (nm : ByteArray) (A1 : Option Addr) (c1 : Nat) (l1 : List Int) (w : World) (h1 : l1.length ≤ 1048576) (hs1 : Sl w w.heap.size 1 A1 (l1.map ic)) :
    Calls Tryz.prog 119 #[.agg #[.int .i64 fd, .int .i64 ft, .string nm, .slice A1 l1.length c1]] w fun e w' => ∃ B1 d1, e = .returned (.agg #[.int .i64 fd, .int .i64 ft, .string nm, .slice B1 l1.length d1]) ∧ Own w' w.heap.size 2 1 (.slice B1 l1.length d1) (l1.map ic) ∧ Below w.heap.size w w' := by
  go_enter Tryz.func119, Tryz.ntmps119
  go_wp2_with fail
  refine (toFigure_c fd ft _).mono ?_; rintro e w1 ⟨rfl, hb1⟩
  have B0_1 := (((Blk.new w 27 #[.int .i64 fd, .int .i64 ft, .string nm, .slice A1 l1.length c1]).alloc (.cells #[.int .i64 0, .int .i64 0, .string ByteArray.empty, .slice none 0 0] 42)).alloc (.cells #[.int .i64 0, .int .i64 0, .string ByteArray.empty, .slice none 0 0] 42)).below hb1 (by first | omega | (simp; omega) | simp)
  have B1_1 := ((Blk.new' (w.alloc (.cells #[.int .i64 fd, .int .i64 ft, .string nm, .slice A1 l1.length c1] 27)) 42 #[.int .i64 0, .int .i64 0, .string ByteArray.empty, .slice none 0 0] (g := w.heap.size + 1) (by simp)).alloc (.cells #[.int .i64 0, .int .i64 0, .string ByteArray.empty, .slice none 0 0] 42)).below hb1 (by first | omega | (simp; omega) | simp)
  have B2_1 : Blk w1 (w.heap.size + 1 + 1) 42 #[.int .i64 0, .int .i64 0, .string ByteArray.empty, .slice none 0 0] := (Blk.new' ((w.alloc (.cells #[.int .i64 fd, .int .i64 ft, .string nm, .slice A1 l1.length c1] 27)).alloc (.cells #[.int .i64 0, .int .i64 0, .string ByteArray.empty, .slice none 0 0] 42)) 42 #[.int .i64 0, .int .i64 0, .string ByteArray.empty, .slice none 0 0] (g := w.heap.size + 1 + 1) (by simp)).below hb1 (by first | omega | (simp; omega) | simp)
  have hB1 : Below w.heap.size w w1 := Below.trans ((by repeat (first | with_reducible exact Below.refl _ _ | with_reducible apply below_drewN' | with_reducible apply Below.drew | (with_reducible refine Below.alloc ?_ (by first | omega | (simp; omega) | simp | (have := (Below.refl _ _).size; omega) | (have := (Below.refl _ _).size; simp; omega)) _) | (with_reducible refine Below.setCell ?_ (by first | omega | (simp; omega) | simp | (have := (Below.refl _ _).size; omega) | (have := (Below.refl _ _).size; simp; omega)) _) | exact Below.refl _ _))) (hb1.mono (by first | omega | (simp; omega) | simp))
  have hBs1 := hB1.size
  have hZ1 := B2_1.lt
  have x0_1 : w1.cell? ⟨w.heap.size, 0, none⟩ = some (.int .i64 fd) := B0_1.cell 0
  have y0_1 : w1.cell? ⟨w.heap.size + 1 + 1, 0, none⟩ = some (.int .i64 0) := B2_1.cell 0
  have yf0_1 : w1.frozen? ⟨w.heap.size + 1 + 1, 0, none⟩ = false := B2_1.frozen 0
  have z0_1 : w1.cell? ⟨w.heap.size + 1, 0, none⟩ = some (.int .i64 0) := B1_1.cell 0
  have zf0_1 : w1.frozen? ⟨w.heap.size + 1, 0, none⟩ = false := B1_1.frozen 0
  have x1_1 : w1.cell? ⟨w.heap.size, 1, none⟩ = some (.int .i64 ft) := B0_1.cell 1
  have y1_1 : w1.cell? ⟨w.heap.size + 1 + 1, 1, none⟩ = some (.int .i64 0) := B2_1.cell 1
  have yf1_1 : w1.frozen? ⟨w.heap.size + 1 + 1, 1, none⟩ = false := B2_1.frozen 1
  have z1_1 : w1.cell? ⟨w.heap.size + 1, 1, none⟩ = some (.int .i64 0) := B1_1.cell 1
  have zf1_1 : w1.frozen? ⟨w.heap.size + 1, 1, none⟩ = false := B1_1.frozen 1
  have x2_1 : w1.cell? ⟨w.heap.size, 2, none⟩ = some (.string nm) := B0_1.cell 2
  have y2_1 : w1.cell? ⟨w.heap.size + 1 + 1, 2, none⟩ = some (.string ByteArray.empty) := B2_1.cell 2
  have yf2_1 : w1.frozen? ⟨w.heap.size + 1 + 1, 2, none⟩ = false := B2_1.frozen 2
  have z2_1 : w1.cell? ⟨w.heap.size + 1, 2, none⟩ = some (.string ByteArray.empty) := B1_1.cell 2
  have zf2_1 : w1.frozen? ⟨w.heap.size + 1, 2, none⟩ = false := B1_1.frozen 2
  have x3_1 : w1.cell? ⟨w.heap.size, 3, none⟩ = some (.slice A1 l1.length c1) := B0_1.cell 3
  have y3_1 : w1.cell? ⟨w.heap.size + 1 + 1, 3, none⟩ = some (.slice none 0 0) := B2_1.cell 3
  have yf3_1 : w1.frozen? ⟨w.heap.size + 1 + 1, 3, none⟩ = false := B2_1.frozen 3
  have z3_1 : w1.cell? ⟨w.heap.size + 1, 3, none⟩ = some (.slice none 0 0) := B1_1.cell 3
  have zf3_1 : w1.frozen? ⟨w.heap.size + 1, 3, none⟩ = false := B1_1.frozen 3
  go_wp2_with fail
  refine (toInt64S_c A1 c1 l1 _ (by omega) ((hs1.below ((by repeat (first | with_reducible exact hB1 | with_reducible apply below_drewN' | with_reducible apply Below.drew | (with_reducible refine Below.alloc ?_ (by first | omega | (simp; omega) | simp | (have := (hB1).size; omega) | (have := (hB1).size; simp; omega)) _) | (with_reducible refine Below.setCell ?_ (by first | omega | (simp; omega) | simp | (have := (hB1).size; omega) | (have := (hB1).size; simp; omega)) _) | exact hB1)))).more (by first | omega | (simp; omega) | simp))).mono ?_; rintro e w2 ⟨B1, d1, rfl, hO_1, hb2⟩
  have B0_2 := (((B0_1.far (p := ⟨w.heap.size + 1 + 1, 0, none⟩) (by first | omega | (simp; omega) | simp) (.int .i64 fd)).far (p := ⟨w.heap.size + 1 + 1, 1, none⟩) (by first | omega | (simp; omega) | simp) (.int .i64 ft)).far (p := ⟨w.heap.size + 1 + 1, 2, none⟩) (by first | omega | (simp; omega) | simp) (.string nm)).below hb2 (by first | omega | (simp; omega) | simp)
  have B1_2 := (((B1_1.far (p := ⟨w.heap.size + 1 + 1, 0, none⟩) (by first | omega | (simp; omega) | simp) (.int .i64 fd)).far (p := ⟨w.heap.size + 1 + 1, 1, none⟩) (by first | omega | (simp; omega) | simp) (.int .i64 ft)).far (p := ⟨w.heap.size + 1 + 1, 2, none⟩) (by first | omega | (simp; omega) | simp) (.string nm)).below hb2 (by first | omega | (simp; omega) | simp)
  have B2_2 : Blk w2 (w.heap.size + 1 + 1) 42 #[.int .i64 fd, .int .i64 ft, .string nm, .slice none 0 0] := (((B2_1.set_ 0 (.int .i64 fd)).set_ 1 (.int .i64 ft)).set_ 2 (.string nm)).below hb2 (by first | omega | (simp; omega) | simp)
  have hB2 : Below w.heap.size w w2 := Below.trans ((by repeat (first | with_reducible exact hB1 | with_reducible apply below_drewN' | with_reducible apply Below.drew | (with_reducible refine Below.alloc ?_ (by first | omega | (simp; omega) | simp | (have := (hB1).size; omega) | (have := (hB1).size; simp; omega)) _) | (with_reducible refine Below.setCell ?_ (by first | omega | (simp; omega) | simp | (have := (hB1).size; omega) | (have := (hB1).size; simp; omega)) _) | exact hB1))) (hb2.mono (by first | omega | (simp; omega) | simp))
  have hBs2 := hB2.size
  have hZ2 := B2_2.lt
  have lt_1 := fun r hr => (hO_1.1.lt r hr).2
  have ge_1 := hO_1.ownGe
  have hO_1 := own_mono (base' := w.heap.size + 1 + 1 + 1) hO_1 (by first | omega | (simp; omega) | simp)
  have x0_2 : w2.cell? ⟨w.heap.size, 0, none⟩ = some (.int .i64 fd) := B0_2.cell 0
  have y0_2 : w2.cell? ⟨w.heap.size + 1 + 1, 0, none⟩ = some (.int .i64 fd) := B2_2.cell 0
  have yf0_2 : w2.frozen? ⟨w.heap.size + 1 + 1, 0, none⟩ = false := B2_2.frozen 0
  have z0_2 : w2.cell? ⟨w.heap.size + 1, 0, none⟩ = some (.int .i64 0) := B1_2.cell 0
  have zf0_2 : w2.frozen? ⟨w.heap.size + 1, 0, none⟩ = false := B1_2.frozen 0
  have x1_2 : w2.cell? ⟨w.heap.size, 1, none⟩ = some (.int .i64 ft) := B0_2.cell 1
  have y1_2 : w2.cell? ⟨w.heap.size + 1 + 1, 1, none⟩ = some (.int .i64 ft) := B2_2.cell 1
  have yf1_2 : w2.frozen? ⟨w.heap.size + 1 + 1, 1, none⟩ = false := B2_2.frozen 1
  have z1_2 : w2.cell? ⟨w.heap.size + 1, 1, none⟩ = some (.int .i64 0) := B1_2.cell 1
  have zf1_2 : w2.frozen? ⟨w.heap.size + 1, 1, none⟩ = false := B1_2.frozen 1
  have x2_2 : w2.cell? ⟨w.heap.size, 2, none⟩ = some (.string nm) := B0_2.cell 2
  have y2_2 : w2.cell? ⟨w.heap.size + 1 + 1, 2, none⟩ = some (.string nm) := B2_2.cell 2
  have yf2_2 : w2.frozen? ⟨w.heap.size + 1 + 1, 2, none⟩ = false := B2_2.frozen 2
  have z2_2 : w2.cell? ⟨w.heap.size + 1, 2, none⟩ = some (.string ByteArray.empty) := B1_2.cell 2
  have zf2_2 : w2.frozen? ⟨w.heap.size + 1, 2, none⟩ = false := B1_2.frozen 2
  have x3_2 : w2.cell? ⟨w.heap.size, 3, none⟩ = some (.slice A1 l1.length c1) := B0_2.cell 3
  have y3_2 : w2.cell? ⟨w.heap.size + 1 + 1, 3, none⟩ = some (.slice none 0 0) := B2_2.cell 3
  have yf3_2 : w2.frozen? ⟨w.heap.size + 1 + 1, 3, none⟩ = false := B2_2.frozen 3
  have z3_2 : w2.cell? ⟨w.heap.size + 1, 3, none⟩ = some (.slice none 0 0) := B1_2.cell 3
  have zf3_2 : w2.frozen? ⟨w.heap.size + 1, 3, none⟩ = false := B1_2.frozen 3
  go_wp2_with fail
  refine bodyPost_ret (v := .agg #[.int .i64 fd, .int .i64 ft, .string nm, .slice B1 l1.length d1]) (by simp [results, Tryz.results119, go_sem, z0_2, z1_2, z2_2, z3_2]) rfl ⟨B1, d1, rfl, own_mono (base := w.heap.size + 1 + 1 + 1) (by repeat (first | with_reducible exact hO_1 | (with_reducible refine own_far ?_ (by first | omega | (simp; omega))))) (by first | omega | (simp; omega) | simp), (by repeat (first | with_reducible exact hB2 | with_reducible apply below_drewN' | with_reducible apply Below.drew | (with_reducible refine Below.alloc ?_ (by first | omega | (simp; omega) | simp | (have := (hB2).size; omega) | (have := (hB2).size; simp; omega)) _) | (with_reducible refine Below.setCell ?_ (by first | omega | (simp; omega) | simp | (have := (hB2).size; omega) | (have := (hB2).size; simp; omega)) _) | exact hB2))⟩

set_option maxRecDepth 100000 in
theorem eqFormula_c (fd ft : Int) (nm : ByteArray) (A1 : Option Addr) (c1 : Nat) (A1' : Option Addr) (c1' : Nat) (l1 : List Int) (w : World) (h1 : l1.length ≤ 1048576) (hs1 : Sl w w.heap.size 1 A1 (l1.map ic)) (hs2 : Sl w w.heap.size 1 A1' (l1.map ic)) :
    Calls Tryz.prog 129 #[.agg #[.int .i64 fd, .int .i64 ft, .string nm, .slice A1 l1.length c1], .agg #[.int .i64 fd, .int .i64 ft, .string nm, .slice A1' l1.length c1']] w fun e w' => e = .returned (.bool true) ∧ Below w.heap.size w w' := by
  go_enter Tryz.func129, Tryz.ntmps129
  go_wp2_with fail
  refine (eqFigure_c fd ft _).mono ?_; rintro e w1 ⟨rfl, hb1⟩
  have B0_1 := ((Blk.new w 42 #[.int .i64 fd, .int .i64 ft, .string nm, .slice A1 l1.length c1]).alloc (.cells #[.int .i64 fd, .int .i64 ft, .string nm, .slice A1' l1.length c1'] 42)).below hb1 (by first | omega | (simp; omega) | simp)
  have B1_1 := (Blk.new' (w.alloc (.cells #[.int .i64 fd, .int .i64 ft, .string nm, .slice A1 l1.length c1] 42)) 42 #[.int .i64 fd, .int .i64 ft, .string nm, .slice A1' l1.length c1'] (g := w.heap.size + 1) (by simp)).below hb1 (by first | omega | (simp; omega) | simp)
  have hB1 : Below w.heap.size w w1 := Below.trans ((by repeat (first | with_reducible exact Below.refl _ _ | with_reducible apply below_drewN' | with_reducible apply Below.drew | (with_reducible refine Below.alloc ?_ (by first | omega | (simp; omega) | simp | (have := (Below.refl _ _).size; omega) | (have := (Below.refl _ _).size; simp; omega)) _) | (with_reducible refine Below.setCell ?_ (by first | omega | (simp; omega) | simp | (have := (Below.refl _ _).size; omega) | (have := (Below.refl _ _).size; simp; omega)) _) | exact Below.refl _ _))) (hb1.mono (by first | omega | (simp; omega) | simp))
  have hBs1 := hB1.size
  have hZ1 := B1_1.lt
  have x0_1 : w1.cell? ⟨w.heap.size, 0, none⟩ = some (.int .i64 fd) := B0_1.cell 0
  have y0_1 : w1.cell? ⟨w.heap.size + 1, 0, none⟩ = some (.int .i64 fd) := B1_1.cell 0
  have x1_1 : w1.cell? ⟨w.heap.size, 1, none⟩ = some (.int .i64 ft) := B0_1.cell 1
  have y1_1 : w1.cell? ⟨w.heap.size + 1, 1, none⟩ = some (.int .i64 ft) := B1_1.cell 1
  have x2_1 : w1.cell? ⟨w.heap.size, 2, none⟩ = some (.string nm) := B0_1.cell 2
  have y2_1 : w1.cell? ⟨w.heap.size + 1, 2, none⟩ = some (.string nm) := B1_1.cell 2
  have x3_1 : w1.cell? ⟨w.heap.size, 3, none⟩ = some (.slice A1 l1.length c1) := B0_1.cell 3
  have y3_1 : w1.cell? ⟨w.heap.size + 1, 3, none⟩ = some (.slice A1' l1.length c1') := B1_1.cell 3
  go_wp2_with fail
  refine (eqInt64S_c A1 A1' c1 c1' l1 _ (by omega) ((hs1.below ((by repeat (first | with_reducible exact hB1 | with_reducible apply below_drewN' | with_reducible apply Below.drew | (with_reducible refine Below.alloc ?_ (by first | omega | (simp; omega) | simp | (have := (hB1).size; omega) | (have := (hB1).size; simp; omega)) _) | (with_reducible refine Below.setCell ?_ (by first | omega | (simp; omega) | simp | (have := (hB1).size; omega) | (have := (hB1).size; simp; omega)) _) | exact hB1)))).more (by first | omega | (simp; omega) | simp)) ((hs2.below ((by repeat (first | with_reducible exact hB1 | with_reducible apply below_drewN' | with_reducible apply Below.drew | (with_reducible refine Below.alloc ?_ (by first | omega | (simp; omega) | simp | (have := (hB1).size; omega) | (have := (hB1).size; simp; omega)) _) | (with_reducible refine Below.setCell ?_ (by first | omega | (simp; omega) | simp | (have := (hB1).size; omega) | (have := (hB1).size; simp; omega)) _) | exact hB1)))).more (by first | omega | (simp; omega) | simp))).mono ?_; rintro e w2 ⟨rfl, hb2⟩
  have B0_2 := B0_1.below hb2 (by first | omega | (simp; omega) | simp)
  have B1_2 := B1_1.below hb2 (by first | omega | (simp; omega) | simp)
  have hB2 : Below w.heap.size w w2 := Below.trans ((by repeat (first | with_reducible exact hB1 | with_reducible apply below_drewN' | with_reducible apply Below.drew | (with_reducible refine Below.alloc ?_ (by first | omega | (simp; omega) | simp | (have := (hB1).size; omega) | (have := (hB1).size; simp; omega)) _) | (with_reducible refine Below.setCell ?_ (by first | omega | (simp; omega) | simp | (have := (hB1).size; omega) | (have := (hB1).size; simp; omega)) _) | exact hB1))) (hb2.mono (by first | omega | (simp; omega) | simp))
  have hBs2 := hB2.size
  have hZ2 := B1_2.lt
  have x0_2 : w2.cell? ⟨w.heap.size, 0, none⟩ = some (.int .i64 fd) := B0_2.cell 0
  have y0_2 : w2.cell? ⟨w.heap.size + 1, 0, none⟩ = some (.int .i64 fd) := B1_2.cell 0
  have x1_2 : w2.cell? ⟨w.heap.size, 1, none⟩ = some (.int .i64 ft) := B0_2.cell 1
  have y1_2 : w2.cell? ⟨w.heap.size + 1, 1, none⟩ = some (.int .i64 ft) := B1_2.cell 1
  have x2_2 : w2.cell? ⟨w.heap.size, 2, none⟩ = some (.string nm) := B0_2.cell 2
  have y2_2 : w2.cell? ⟨w.heap.size + 1, 2, none⟩ = some (.string nm) := B1_2.cell 2
  have x3_2 : w2.cell? ⟨w.heap.size, 3, none⟩ = some (.slice A1 l1.length c1) := B0_2.cell 3
  have y3_2 : w2.cell? ⟨w.heap.size + 1, 3, none⟩ = some (.slice A1' l1.length c1') := B1_2.cell 3
  go_wp2_with fail
  go_ret
  exact ⟨rfl, (by repeat (first | with_reducible exact hB2 | with_reducible apply below_drewN' | with_reducible apply Below.drew | (with_reducible refine Below.alloc ?_ (by first | omega | (simp; omega) | simp | (have := (hB2).size; omega) | (have := (hB2).size; simp; omega)) _) | (with_reducible refine Below.setCell ?_ (by first | omega | (simp; omega) | simp | (have := (hB2).size; omega) | (have := (hB2).size; simp; omega)) _) | exact hB2))⟩
/-- what is left of a budget, or that there is none; what the sizes are then -/
def SzP (left : Int) (ok : Prop) (w : World) (e : Ending) (w' : World) : Prop := (∃ v : Int, e = .returned (.int .i64 v) ∧ (v < 0 ∨ (0 ≤ v ∧ v ≤ left ∧ ok))) ∧ Below w.heap.size w w'
set_option maxRecDepth 100000 in
theorem szFormula_c (fd ft : Int) (nm : ByteArray) (A1 : Option Addr) (n1 c1 : Nat) (left : Int) (w : World) (hn : n1 ≤ 140737488351232) (hm : nm.size ≤ maxLen) (hl : 0 ≤ left ∧ left ≤ 1048576) :
    Calls Tryz.prog 118 #[.agg #[.int .i64 fd, .int .i64 ft, .string nm, .slice A1 n1 c1], .int .i64 left] w (SzP left (nm.size ≤ 1048576 ∧ n1 ≤ 1048576) w) := by
  obtain ⟨hl1, hl2⟩ := hl
  unfold maxLen at hm
  have hW : Below w.heap.size w (w.alloc (.cells #[.int .i64 fd, .int .i64 ft, .string nm, .slice A1 n1 c1] 27)) := (by repeat (first | with_reducible exact Below.refl _ _ | with_reducible apply below_drewN' | with_reducible apply Below.drew | (with_reducible refine Below.alloc ?_ (by first | omega | (simp; omega) | simp | (have := (Below.refl _ _).size; omega) | (have := (Below.refl _ _).size; simp; omega)) _) | (with_reducible refine Below.setCell ?_ (by first | omega | (simp; omega) | simp | (have := (Below.refl _ _).size; omega) | (have := (Below.refl _ _).size; simp; omega)) _) | exact Below.refl _ _))
  by_cases h : left < nm.size
  · have h' : left - nm.size < 0 := by omega
    go_enter Tryz.func118, Tryz.ntmps118
    go_wp2
    go_ret
    exact ⟨⟨-1, rfl, .inl (by omega)⟩, (by repeat (first | with_reducible exact hW | with_reducible apply below_drewN' | with_reducible apply Below.drew | (with_reducible refine Below.alloc ?_ (by first | omega | (simp; omega) | simp | (have := (hW).size; omega) | (have := (hW).size; simp; omega)) _) | (with_reducible refine Below.setCell ?_ (by first | omega | (simp; omega) | simp | (have := (hW).size; omega) | (have := (hW).size; simp; omega)) _) | exact hW))⟩
  · have h' : ¬ left - nm.size < 0 := by omega
    have H := fun W => Lib.hid (szInt64S_c A1 n1 c1 (left - nm.size) W hn (by omega))
    by_cases h2 : left - nm.size < n1
    · simp only [if_pos h2] at H
      go_enter Tryz.func118, Tryz.ntmps118
      go_wp2_with (go_at_call 154; refine Calls.mono (H _).out ?_; rintro e w1 ⟨rfl, rfl⟩)
      go_ret
      exact ⟨⟨-1, rfl, .inl (by omega)⟩, (by repeat (first | with_reducible exact hW | with_reducible apply below_drewN' | with_reducible apply Below.drew | (with_reducible refine Below.alloc ?_ (by first | omega | (simp; omega) | simp | (have := (hW).size; omega) | (have := (hW).size; simp; omega)) _) | (with_reducible refine Below.setCell ?_ (by first | omega | (simp; omega) | simp | (have := (hW).size; omega) | (have := (hW).size; simp; omega)) _) | exact hW))⟩
    · simp only [if_neg h2] at H
      have h3 : ¬ left - nm.size - n1 < 0 := by omega
      go_enter Tryz.func118, Tryz.ntmps118
      go_wp2_with (go_at_call 154; refine Calls.mono (H _).out ?_; rintro e w1 ⟨rfl, rfl⟩)
      go_ret
      exact ⟨⟨left - nm.size - n1, rfl, .inr ⟨by omega, by omega, by omega, by omega⟩⟩, (by repeat (first | with_reducible exact hW | with_reducible apply below_drewN' | with_reducible apply Below.drew | (with_reducible refine Below.alloc ?_ (by first | omega | (simp; omega) | simp | (have := (hW).size; omega) | (have := (hW).size; simp; omega)) _) | (with_reducible refine Below.setCell ?_ (by first | omega | (simp; omega) | simp | (have := (hW).size; omega) | (have := (hW).size; simp; omega)) _) | exact hW))⟩
end Go.Proofs.YtendoabjjfinhaaGreatDoor
namespace Go.Proofs.YtendoabjjfinhaaGreatDoor
open Go.RowKit
theorem letB_eq {s : ByteArray} {l : List Int} {k : Nat} (hs : k < s.size) (hl : k < l.length) : letB s l k = (decide (97 ≤ (s[k].toNat : Int)) && decide ((s[k].toNat : Int) ≤ 122) && (decide (k = 0) || decide (chAt s (k - 1) < (s[k].toNat : Int))) && !decide (l[k] = 0) && inB l[k] (-6) 6) := by
  unfold letB
  rw [chAt_eq hs, List.getD_eq_getElem?_getD, List.getElem?_eq_getElem hl]
  rfl
set_option maxRecDepth 100000 in
set_option maxHeartbeats 4000000 in
theorem implIsFormula_c (fd ft : Int) (s : ByteArray) (A : Option Addr) (c : Nat) (l : List Int) (w : World) (hsz : s.size ≤ 1048576) (hl : l.length ≤ 1048576) (hs : Sl w w.heap.size 1 A (l.map ic)) :
    Calls Tryz.prog 133 #[.agg #[.int .i64 fd, .int .i64 ft, .string s, .slice A l.length c]] w fun e w' => e = .returned (.bool (formB fd ft s l)) ∧ Below w.heap.size w w' := by
  have HF0 := fun W => implIsFigure_c ⟨fd, ft⟩ W
  unfold Figure.agg at HF0
  have hW : Below w.heap.size w (w.alloc (.cells #[.int .i64 fd, .int .i64 ft, .string s, .slice A l.length c] 42)) := (by repeat (first | with_reducible exact Below.refl _ _ | with_reducible apply below_drewN' | with_reducible apply Below.drew | (with_reducible refine Below.alloc ?_ (by first | omega | (simp; omega) | simp | (have := (Below.refl _ _).size; omega) | (have := (Below.refl _ _).size; simp; omega)) _) | (with_reducible refine Below.setCell ?_ (by first | omega | (simp; omega) | simp | (have := (Below.refl _ _).size; omega) | (have := (Below.refl _ _).size; simp; omega)) _) | exact Below.refl _ _))
  have B0 := Blk.new w 42 #[.int .i64 fd, .int .i64 ft, .string s, .slice A l.length c]
  cases hf : figOK ⟨fd, ft⟩ with
  | false =>
    have hR : Hid (formB fd ft s l = false) := by unfold Hid formB; rw [hf]; rfl
    rw [hf] at HF0
    have HF := fun W => Lib.hid (HF0 W)
    clear HF0 hf hs
    go_enter Tryz.func133, Tryz.ntmps133
    go_wp2_with fail
    refine Calls.mono (HF _).out ?_; rintro e w1 ⟨rfl, hb1⟩
    have hW1 := hW.trans (hb1.mono hW.size)
    go_wp2
    go_ret
    exact ⟨by rw [hR.out]; rfl, (by repeat (first | with_reducible exact hW1 | with_reducible apply below_drewN' | with_reducible apply Below.drew | (with_reducible refine Below.alloc ?_ (by first | omega | (simp; omega) | simp | (have := (hW1).size; omega) | (have := (hW1).size; simp; omega)) _) | (with_reducible refine Below.setCell ?_ (by first | omega | (simp; omega) | simp | (have := (hW1).size; omega) | (have := (hW1).size; simp; omega)) _) | exact hW1))⟩
  | true =>
    rw [hf] at HF0
    have HF := fun W => Lib.hid (HF0 W)
    clear HF0
    by_cases h6 : s.size ≤ 6
    · by_cases hls : l.length = s.size
      · have hR : Hid (formB fd ft s l = (List.range l.length).all (letB s l)) := by unfold Hid formB; rw [hf, decide_eq_true h6, decide_eq_true hls]; rfl
        have hn6 : ¬ (6 : Int) < (s.size : Int) := by omega
        have hLS := Lib.hid hls
        have hq1 : ((l.length : Int) != (s.size : Int)) = false := by simp [hls]
        have hq2 : ((s.size : Int) != (l.length : Int)) = false := by simp [hls]
        have hq3 : ((l.length : Int) == (s.size : Int)) = true := by simp [hls]
        have hq4 : ((s.size : Int) == (l.length : Int)) = true := by simp [hls]
        clear hf hls
        go_enter Tryz.func133, Tryz.ntmps133
        go_wp2_with fail
        generalize w.alloc (.cells #[.int .i64 fd, .int .i64 ft, .string s, .slice A l.length c] 42) = W at *
        refine Calls.mono (HF _).out ?_; rintro e w1 ⟨rfl, hb1⟩
        have hW1 := hW.trans (hb1.mono hW.size)
        have B1 := B0.below hb1 B0.lt
        have y2 : w1.cell? ⟨w.heap.size, 2, none⟩ = some (.string s) := B1.cell 2
        have y3 : w1.cell? ⟨w.heap.size, 3, none⟩ = some (.slice A l.length c) := B1.cell 3
        clear hW B0 hb1 HF
        go_wp2_with fail
        clear y2 y3
        go_loopw [27] (fun i wr => ∃ k : Nat, k ≤ l.length ∧ i = .int .i64 k ∧ Below w1.heap.size w1 wr ∧ Hid ((List.range k).all (letB s l) = true)) (fun i _ => l.length - (intOf i).toNat)
        case atStart => exact ⟨0, Nat.zero_le _, rfl, Below.refl _ _, (show (List.range 0).all (letB s l) = true from rfl)⟩
        case round =>
          obtain ⟨k, hk, rfl, hb, hok⟩ := hrel
          have hWr := hW1.trans (hb.mono hW1.size)
          have Br := B1.below hb B1.lt
          have y2 : wr.cell? ⟨w.heap.size, 2, none⟩ = some (.string s) := Br.cell 2
          have y3 : wr.cell? ⟨w.heap.size, 3, none⟩ = some (.slice A l.length c) := Br.cell 3
          by_cases hlt : k < l.length
          · have hks : k < s.size := by have := hLS.out; omega
            obtain ⟨b, off, rfl, hbB, c0⟩ := hs.int hlt
            have c0 : wr.cell? ⟨b, off + k, none⟩ = some (.int .i64 l[k]) := by rw [hWr.cell hbB]; exact c0
            have hle := letB_eq hks hlt
            have hbad := fun h => Lib.hid (letters_bad (s := s) hlt h)
            have hnx := fun h => Lib.hid (letters_next (l := l) h hok.out)
            have hWi := fun W => within_c l[k] (-6) 6 W
            generalize l[k] = n at *
            generalize hch : (s[k].toNat : Int) = ch at *
            by_cases h1 : ch < 97
            · have d1 : decide (ch < 97) = true := decide_eq_true h1
              have hx : decide (97 ≤ ch) = false := decide_eq_false (by omega)
              have HWi := fun W => Lib.hid (hWi W)
              clear hWi
              rw [hx] at hle
              have hB := hbad (by rw [hle]; rfl)
              clear hbad hnx hle
              go_wp2_with fail
              go_quiet (first | (go_at_call 88; refine Calls.quiet_of_same ((HWi _).out.mono fun _ _ ⟨h1, h2⟩ => ⟨h1, h2.symm⟩)))
              go_wp2
              go_ret
              exact ⟨by rw [hR.out, hB.out]; rfl, (by repeat (first | with_reducible exact hWr | with_reducible apply below_drewN' | with_reducible apply Below.drew | (with_reducible refine Below.alloc ?_ (by first | omega | (simp; omega) | simp | (have := (hWr).size; omega) | (have := (hWr).size; simp; omega)) _) | (with_reducible refine Below.setCell ?_ (by first | omega | (simp; omega) | simp | (have := (hWr).size; omega) | (have := (hWr).size; simp; omega)) _) | exact hWr))⟩
            · have d1 : decide (ch < 97) = false := decide_eq_false h1
              have hx1 : decide (97 ≤ ch) = true := decide_eq_true (by omega)
              rw [hx1] at hle
              by_cases h2 : 122 < ch
              · have d2 : decide (122 < ch) = true := decide_eq_true h2
                have hx : decide (ch ≤ 122) = false := decide_eq_false (by omega)
                have HWi := fun W => Lib.hid (hWi W)
                clear hWi
                rw [hx] at hle
                have hB := hbad (by rw [hle]; rfl)
                clear hbad hnx hle
                go_wp2_with fail
                go_quiet (first | (go_at_call 88; refine Calls.quiet_of_same ((HWi _).out.mono fun _ _ ⟨h1, h2⟩ => ⟨h1, h2.symm⟩)))
                go_wp2
                go_ret
                exact ⟨by rw [hR.out, hB.out]; rfl, (by repeat (first | with_reducible exact hWr | with_reducible apply below_drewN' | with_reducible apply Below.drew | (with_reducible refine Below.alloc ?_ (by first | omega | (simp; omega) | simp | (have := (hWr).size; omega) | (have := (hWr).size; simp; omega)) _) | (with_reducible refine Below.setCell ?_ (by first | omega | (simp; omega) | simp | (have := (hWr).size; omega) | (have := (hWr).size; simp; omega)) _) | exact hWr))⟩
              · have d2 : decide (122 < ch) = false := decide_eq_false h2
                have hx2 : decide (ch ≤ 122) = true := decide_eq_true (by omega)
                rw [hx2] at hle
                clear hx1 hx2
                by_cases hk0 : k = 0
                · subst hk0
                  have c0z : wr.cell? ⟨b, off, none⟩ = some (.int .i64 n) := by simpa using c0
                  clear c0
                  have d3 : decide ((0 : Int) < ((0 : Nat) : Int)) = false := rfl
                  simp only [decide_true, Bool.true_or, Bool.and_true, Bool.true_and] at hle
                  by_cases h4 : n = 0
                  · subst h4
                    have HWi := fun W => Lib.hid (hWi W)
                    clear hWi
                    have hB := hbad (by rw [hle]; simp)
                    clear hbad hnx hle
                    go_wp2_with fail
                    go_quiet (first | (go_at_call 88; refine Calls.quiet_of_same ((HWi _).out.mono fun _ _ ⟨h1, h2⟩ => ⟨h1, h2.symm⟩)))
                    go_wp2
                    go_ret
                    exact ⟨by rw [hR.out, hB.out]; rfl, (by repeat (first | with_reducible exact hWr | with_reducible apply below_drewN' | with_reducible apply Below.drew | (with_reducible refine Below.alloc ?_ (by first | omega | (simp; omega) | simp | (have := (hWr).size; omega) | (have := (hWr).size; simp; omega)) _) | (with_reducible refine Below.setCell ?_ (by first | omega | (simp; omega) | simp | (have := (hWr).size; omega) | (have := (hWr).size; simp; omega)) _) | exact hWr))⟩
                  · have d4 : (n == 0) = false := by simpa using h4
                    cases h5 : inB n (-6) 6 with
                    | false =>
                      rw [h5] at hWi hle
                      have HWi := fun W => Lib.hid (hWi W)
                      clear hWi h5
                      have hB := hbad (by rw [hle]; simp)
                      clear hbad hnx hle
                      go_wp2_with fail
                      go_quiet (first | (go_at_call 88; refine Calls.quiet_of_same ((HWi _).out.mono fun _ _ ⟨h1, h2⟩ => ⟨h1, h2.symm⟩)))
                      go_wp2
                      go_ret
                      exact ⟨by rw [hR.out, hB.out]; rfl, (by repeat (first | with_reducible exact hWr | with_reducible apply below_drewN' | with_reducible apply Below.drew | (with_reducible refine Below.alloc ?_ (by first | omega | (simp; omega) | simp | (have := (hWr).size; omega) | (have := (hWr).size; simp; omega)) _) | (with_reducible refine Below.setCell ?_ (by first | omega | (simp; omega) | simp | (have := (hWr).size; omega) | (have := (hWr).size; simp; omega)) _) | exact hWr))⟩
                    | true =>
                      rw [h5] at hWi hle
                      have HWi := fun W => Lib.hid (hWi W)
                      clear hWi h5
                      have hN := hnx (by rw [hle]; simp [h4])
                      clear hbad hnx hle
                      go_wp2_with fail
                      go_quiet (first | (go_at_call 88; refine Calls.quiet_of_same ((HWi _).out.mono fun _ _ ⟨h1, h2⟩ => ⟨h1, h2.symm⟩)))
                      go_wp2
                      go_roundw
                      case rel => exact ⟨0 + 1, by omega, by go_num, (by repeat (first | with_reducible exact hb | with_reducible apply below_drewN' | with_reducible apply Below.drew | (with_reducible refine Below.alloc ?_ (by first | omega | (simp; omega) | simp | (have := (hb).size; omega) | (have := (hb).size; simp; omega)) _) | (with_reducible refine Below.setCell ?_ (by first | omega | (simp; omega) | simp | (have := (hb).size; omega) | (have := (hb).size; simp; omega)) _) | exact hb)), hN⟩
                      case measure => simp [intOf]; omega
                · obtain ⟨j, rfl⟩ : ∃ j, k = j + 1 := ⟨k - 1, by omega⟩
                  have hjs : j < s.size := by omega
                  have hcj : chAt s (j + 1 - 1) = (s[j].toNat : Int) := by rw [Nat.add_sub_cancel]; exact chAt_eq hjs
                  rw [hcj] at hle
                  generalize hcp : (s[j].toNat : Int) = cp at *
                  clear hcj
                  have d3 : decide ((0 : Int) < ((j + 1 : Nat) : Int)) = true := decide_eq_true (by omega)
                  have d3' : (0 : Int) < ((j + 1 : Nat) : Int) := by omega
                  by_cases h3 : ch ≤ cp
                  · have d5 : decide (ch ≤ cp) = true := decide_eq_true h3
                    have hx : decide (cp < ch) = false := decide_eq_false (by omega)
                    have HWi := fun W => Lib.hid (hWi W)
                    clear hWi
                    rw [hx] at hle
                    have hB := hbad (by rw [hle]; simp)
                    clear hbad hnx hle
                    go_wp2_with fail
                    go_quiet (first | (go_at_call 88; refine Calls.quiet_of_same ((HWi _).out.mono fun _ _ ⟨h1, h2⟩ => ⟨h1, h2.symm⟩)))
                    go_wp2
                    go_ret
                    exact ⟨by rw [hR.out, hB.out]; rfl, (by repeat (first | with_reducible exact hWr | with_reducible apply below_drewN' | with_reducible apply Below.drew | (with_reducible refine Below.alloc ?_ (by first | omega | (simp; omega) | simp | (have := (hWr).size; omega) | (have := (hWr).size; simp; omega)) _) | (with_reducible refine Below.setCell ?_ (by first | omega | (simp; omega) | simp | (have := (hWr).size; omega) | (have := (hWr).size; simp; omega)) _) | exact hWr))⟩
                  · have d5 : decide (ch ≤ cp) = false := decide_eq_false h3
                    have hx : decide (cp < ch) = true := decide_eq_true (by omega)
                    rw [hx] at hle
                    clear hx
                    by_cases h4 : n = 0
                    · subst h4
                      have HWi := fun W => Lib.hid (hWi W)
                      clear hWi
                      have hB := hbad (by rw [hle]; simp)
                      clear hbad hnx hle
                      go_wp2_with fail
                      go_quiet (first | (go_at_call 88; refine Calls.quiet_of_same ((HWi _).out.mono fun _ _ ⟨h1, h2⟩ => ⟨h1, h2.symm⟩)))
                      go_wp2
                      go_ret
                      exact ⟨by rw [hR.out, hB.out]; rfl, (by repeat (first | with_reducible exact hWr | with_reducible apply below_drewN' | with_reducible apply Below.drew | (with_reducible refine Below.alloc ?_ (by first | omega | (simp; omega) | simp | (have := (hWr).size; omega) | (have := (hWr).size; simp; omega)) _) | (with_reducible refine Below.setCell ?_ (by first | omega | (simp; omega) | simp | (have := (hWr).size; omega) | (have := (hWr).size; simp; omega)) _) | exact hWr))⟩
                    · have d4 : (n == 0) = false := by simpa using h4
                      cases h5 : inB n (-6) 6 with
                      | false =>
                        rw [h5] at hWi hle
                        have HWi := fun W => Lib.hid (hWi W)
                        clear hWi h5
                        have hB := hbad (by rw [hle]; simp)
                        clear hbad hnx hle
                        go_wp2_with fail
                        go_quiet (first | (go_at_call 88; refine Calls.quiet_of_same ((HWi _).out.mono fun _ _ ⟨h1, h2⟩ => ⟨h1, h2.symm⟩)))
                        go_wp2
                        go_ret
                        exact ⟨by rw [hR.out, hB.out]; rfl, (by repeat (first | with_reducible exact hWr | with_reducible apply below_drewN' | with_reducible apply Below.drew | (with_reducible refine Below.alloc ?_ (by first | omega | (simp; omega) | simp | (have := (hWr).size; omega) | (have := (hWr).size; simp; omega)) _) | (with_reducible refine Below.setCell ?_ (by first | omega | (simp; omega) | simp | (have := (hWr).size; omega) | (have := (hWr).size; simp; omega)) _) | exact hWr))⟩
                      | true =>
                        rw [h5] at hWi hle
                        have HWi := fun W => Lib.hid (hWi W)
                        clear hWi h5
                        have hN := hnx (by rw [hle]; simp [h4])
                        clear hbad hnx hle
                        go_wp2_with fail
                        go_quiet (first | (go_at_call 88; refine Calls.quiet_of_same ((HWi _).out.mono fun _ _ ⟨h1, h2⟩ => ⟨h1, h2.symm⟩)))
                        go_wp2
                        go_roundw
                        case rel => exact ⟨(j + 1) + 1, by omega, by go_num, (by repeat (first | with_reducible exact hb | with_reducible apply below_drewN' | with_reducible apply Below.drew | (with_reducible refine Below.alloc ?_ (by first | omega | (simp; omega) | simp | (have := (hb).size; omega) | (have := (hb).size; simp; omega)) _) | (with_reducible refine Below.setCell ?_ (by first | omega | (simp; omega) | simp | (have := (hb).size; omega) | (have := (hb).size; simp; omega)) _) | exact hb)), hN⟩
                        case measure => simp [intOf]; omega
          · have : k = l.length := by omega
            subst this
            have hnl : ¬ ((l.length : Int) < (s.size : Int)) := by have := hLS.out; omega
            have hnl2 : decide (l.length < s.size) = false := by have := hLS.out; simp; omega
            go_wp2
            go_ret
            exact ⟨by rw [hR.out, hok.out]; rfl, (by repeat (first | with_reducible exact hWr | with_reducible apply below_drewN' | with_reducible apply Below.drew | (with_reducible refine Below.alloc ?_ (by first | omega | (simp; omega) | simp | (have := (hWr).size; omega) | (have := (hWr).size; simp; omega)) _) | (with_reducible refine Below.setCell ?_ (by first | omega | (simp; omega) | simp | (have := (hWr).size; omega) | (have := (hWr).size; simp; omega)) _) | exact hWr))⟩
      · have hR : Hid (formB fd ft s l = false) := by unfold Hid formB; rw [hf, decide_eq_true h6, decide_eq_false hls]; rfl
        have hn6 : ¬ (6 : Int) < (s.size : Int) := by omega
        have hq1 : ((l.length : Int) != (s.size : Int)) = true := by simp; omega
        have hq2 : ((s.size : Int) != (l.length : Int)) = true := by simp; omega
        have hq3 : ¬ s.size = l.length := by omega
        clear hf hs
        go_enter Tryz.func133, Tryz.ntmps133
        go_wp2_with fail
        generalize w.alloc (.cells #[.int .i64 fd, .int .i64 ft, .string s, .slice A l.length c] 42) = W at *
        refine Calls.mono (HF _).out ?_; rintro e w1 ⟨rfl, hb1⟩
        have hW1 := hW.trans (hb1.mono hW.size)
        have B1 := B0.below hb1 B0.lt
        have y2 : w1.cell? ⟨w.heap.size, 2, none⟩ = some (.string s) := B1.cell 2
        have y3 : w1.cell? ⟨w.heap.size, 3, none⟩ = some (.slice A l.length c) := B1.cell 3
        clear hW B0 hb1 HF
        go_wp2
        go_ret
        exact ⟨by rw [hR.out]; rfl, (by repeat (first | with_reducible exact hW1 | with_reducible apply below_drewN' | with_reducible apply Below.drew | (with_reducible refine Below.alloc ?_ (by first | omega | (simp; omega) | simp | (have := (hW1).size; omega) | (have := (hW1).size; simp; omega)) _) | (with_reducible refine Below.setCell ?_ (by first | omega | (simp; omega) | simp | (have := (hW1).size; omega) | (have := (hW1).size; simp; omega)) _) | exact hW1))⟩
    · have hR : Hid (formB fd ft s l = false) := by unfold Hid formB; rw [hf, decide_eq_false h6]; rfl
      have hn6 : (6 : Int) < (s.size : Int) := by omega
      clear hf hs
      go_enter Tryz.func133, Tryz.ntmps133
      go_wp2_with fail
      generalize w.alloc (.cells #[.int .i64 fd, .int .i64 ft, .string s, .slice A l.length c] 42) = W at *
      refine Calls.mono (HF _).out ?_; rintro e w1 ⟨rfl, hb1⟩
      have hW1 := hW.trans (hb1.mono hW.size)
      have B1 := B0.below hb1 B0.lt
      have y2 : w1.cell? ⟨w.heap.size, 2, none⟩ = some (.string s) := B1.cell 2
      have y3 : w1.cell? ⟨w.heap.size, 3, none⟩ = some (.slice A l.length c) := B1.cell 3
      clear hW B0 hb1 HF
      go_wp2
      go_ret
      exact ⟨by rw [hR.out]; rfl, (by repeat (first | with_reducible exact hW1 | with_reducible apply below_drewN' | with_reducible apply Below.drew | (with_reducible refine Below.alloc ?_ (by first | omega | (simp; omega) | simp | (have := (hW1).size; omega) | (have := (hW1).size; simp; omega)) _) | (with_reducible refine Below.setCell ?_ (by first | omega | (simp; omega) | simp | (have := (hW1).size; omega) | (have := (hW1).size; simp; omega)) _) | exact hW1))⟩
set_option maxRecDepth 100000 in
set_option maxHeartbeats 4000000 in
theorem specIsFormula_c (fd ft : Int) (s : ByteArray) (A : Option Addr) (c : Nat) (l : List Int) (w : World) (hsz : s.size ≤ 1048576) (hl : l.length ≤ 1048576) (hs : Sl w w.heap.size 1 A (l.map ic)) :
    Calls Tryz.prog 139 #[.agg #[.int .i64 fd, .int .i64 ft, .string s, .slice A l.length c]] w fun e w' => e = .returned (.bool (formB fd ft s l)) ∧ Below w.heap.size w w' := by
  have HF0 := fun W => specIsFigure_c ⟨fd, ft⟩ W
  unfold Figure.agg at HF0
  have hW : Below w.heap.size w (w.alloc (.cells #[.int .i64 fd, .int .i64 ft, .string s, .slice A l.length c] 42)) := (by repeat (first | with_reducible exact Below.refl _ _ | with_reducible apply below_drewN' | with_reducible apply Below.drew | (with_reducible refine Below.alloc ?_ (by first | omega | (simp; omega) | simp | (have := (Below.refl _ _).size; omega) | (have := (Below.refl _ _).size; simp; omega)) _) | (with_reducible refine Below.setCell ?_ (by first | omega | (simp; omega) | simp | (have := (Below.refl _ _).size; omega) | (have := (Below.refl _ _).size; simp; omega)) _) | exact Below.refl _ _))
  have B0 := Blk.new w 42 #[.int .i64 fd, .int .i64 ft, .string s, .slice A l.length c]
  cases hf : figOK ⟨fd, ft⟩ with
  | false =>
    have hR : Hid (formB fd ft s l = false) := by unfold Hid formB; rw [hf]; rfl
    rw [hf] at HF0
    have HF := fun W => Lib.hid (HF0 W)
    clear HF0 hf hs
    go_enter Tryz.func139, Tryz.ntmps139
    go_wp2_with fail
    refine Calls.mono (HF _).out ?_; rintro e w1 ⟨rfl, hb1⟩
    have hW1 := hW.trans (hb1.mono hW.size)
    go_wp2
    go_ret
    exact ⟨by rw [hR.out]; rfl, (by repeat (first | with_reducible exact hW1 | with_reducible apply below_drewN' | with_reducible apply Below.drew | (with_reducible refine Below.alloc ?_ (by first | omega | (simp; omega) | simp | (have := (hW1).size; omega) | (have := (hW1).size; simp; omega)) _) | (with_reducible refine Below.setCell ?_ (by first | omega | (simp; omega) | simp | (have := (hW1).size; omega) | (have := (hW1).size; simp; omega)) _) | exact hW1))⟩
  | true =>
    rw [hf] at HF0
    have HF := fun W => Lib.hid (HF0 W)
    clear HF0
    by_cases h6 : s.size ≤ 6
    · by_cases hls : l.length = s.size
      · have hR : Hid (formB fd ft s l = (List.range l.length).all (letB s l)) := by unfold Hid formB; rw [hf, decide_eq_true h6, decide_eq_true hls]; rfl
        have hn6 : ¬ (6 : Int) < (s.size : Int) := by omega
        have hLS := Lib.hid hls
        have hq1 : ((l.length : Int) != (s.size : Int)) = false := by simp [hls]
        have hq2 : ((s.size : Int) != (l.length : Int)) = false := by simp [hls]
        have hq3 : ((l.length : Int) == (s.size : Int)) = true := by simp [hls]
        have hq4 : ((s.size : Int) == (l.length : Int)) = true := by simp [hls]
        clear hf hls
        go_enter Tryz.func139, Tryz.ntmps139
        go_wp2_with fail
        generalize w.alloc (.cells #[.int .i64 fd, .int .i64 ft, .string s, .slice A l.length c] 42) = W at *
        refine Calls.mono (HF _).out ?_; rintro e w1 ⟨rfl, hb1⟩
        have hW1 := hW.trans (hb1.mono hW.size)
        have B1 := B0.below hb1 B0.lt
        have y2 : w1.cell? ⟨w.heap.size, 2, none⟩ = some (.string s) := B1.cell 2
        have y3 : w1.cell? ⟨w.heap.size, 3, none⟩ = some (.slice A l.length c) := B1.cell 3
        clear hW B0 hb1 HF
        go_wp2_with fail
        clear y2 y3
        go_loopw [3] (fun i wr => ∃ k : Nat, k ≤ l.length ∧ i = .int .i64 k ∧ Below w1.heap.size w1 wr ∧ Hid ((List.range k).all (letB s l) = true)) (fun i _ => l.length - (intOf i).toNat)
        case atStart => exact ⟨0, Nat.zero_le _, rfl, Below.refl _ _, (show (List.range 0).all (letB s l) = true from rfl)⟩
        case round =>
          obtain ⟨k, hk, rfl, hb, hok⟩ := hrel
          have hWr := hW1.trans (hb.mono hW1.size)
          have Br := B1.below hb B1.lt
          have y2 : wr.cell? ⟨w.heap.size, 2, none⟩ = some (.string s) := Br.cell 2
          have y3 : wr.cell? ⟨w.heap.size, 3, none⟩ = some (.slice A l.length c) := Br.cell 3
          by_cases hlt : k < l.length
          · have hks : k < s.size := by have := hLS.out; omega
            obtain ⟨b, off, rfl, hbB, c0⟩ := hs.int hlt
            have c0 : wr.cell? ⟨b, off + k, none⟩ = some (.int .i64 l[k]) := by rw [hWr.cell hbB]; exact c0
            have hle := letB_eq hks hlt
            have hbad := fun h => Lib.hid (letters_bad (s := s) hlt h)
            have hnx := fun h => Lib.hid (letters_next (l := l) h hok.out)
            have hWi := fun W => l01In_c l[k] (-6) 6 W
            generalize l[k] = n at *
            generalize hch : (s[k].toNat : Int) = ch at *
            by_cases h1 : ch < 97
            · have d1 : decide (ch < 97) = true := decide_eq_true h1
              have hx : decide (97 ≤ ch) = false := decide_eq_false (by omega)
              have HWi := fun W => Lib.hid (hWi W)
              clear hWi
              rw [hx] at hle
              have hB := hbad (by rw [hle]; rfl)
              clear hbad hnx hle
              go_wp2_with fail
              go_quiet (first | (go_at_call 83; refine Calls.quiet_of_same ((HWi _).out.mono fun _ _ ⟨h1, h2⟩ => ⟨h1, h2.symm⟩)))
              go_wp2
              go_ret
              exact ⟨by rw [hR.out, hB.out]; rfl, (by repeat (first | with_reducible exact hWr | with_reducible apply below_drewN' | with_reducible apply Below.drew | (with_reducible refine Below.alloc ?_ (by first | omega | (simp; omega) | simp | (have := (hWr).size; omega) | (have := (hWr).size; simp; omega)) _) | (with_reducible refine Below.setCell ?_ (by first | omega | (simp; omega) | simp | (have := (hWr).size; omega) | (have := (hWr).size; simp; omega)) _) | exact hWr))⟩
            · have d1 : decide (ch < 97) = false := decide_eq_false h1
              have hx1 : decide (97 ≤ ch) = true := decide_eq_true (by omega)
              rw [hx1] at hle
              by_cases h2 : 122 < ch
              · have d2 : decide (122 < ch) = true := decide_eq_true h2
                have hx : decide (ch ≤ 122) = false := decide_eq_false (by omega)
                have HWi := fun W => Lib.hid (hWi W)
                clear hWi
                rw [hx] at hle
                have hB := hbad (by rw [hle]; rfl)
                clear hbad hnx hle
                go_wp2_with fail
                go_quiet (first | (go_at_call 83; refine Calls.quiet_of_same ((HWi _).out.mono fun _ _ ⟨h1, h2⟩ => ⟨h1, h2.symm⟩)))
                go_wp2
                go_ret
                exact ⟨by rw [hR.out, hB.out]; rfl, (by repeat (first | with_reducible exact hWr | with_reducible apply below_drewN' | with_reducible apply Below.drew | (with_reducible refine Below.alloc ?_ (by first | omega | (simp; omega) | simp | (have := (hWr).size; omega) | (have := (hWr).size; simp; omega)) _) | (with_reducible refine Below.setCell ?_ (by first | omega | (simp; omega) | simp | (have := (hWr).size; omega) | (have := (hWr).size; simp; omega)) _) | exact hWr))⟩
              · have d2 : decide (122 < ch) = false := decide_eq_false h2
                have hx2 : decide (ch ≤ 122) = true := decide_eq_true (by omega)
                rw [hx2] at hle
                clear hx1 hx2
                by_cases hk0 : k = 0
                · subst hk0
                  have c0z : wr.cell? ⟨b, off, none⟩ = some (.int .i64 n) := by simpa using c0
                  clear c0
                  have d3 : decide ((0 : Int) < ((0 : Nat) : Int)) = false := rfl
                  simp only [decide_true, Bool.true_or, Bool.and_true, Bool.true_and] at hle
                  by_cases h4 : n = 0
                  · subst h4
                    have HWi := fun W => Lib.hid (hWi W)
                    clear hWi
                    have hB := hbad (by rw [hle]; simp)
                    clear hbad hnx hle
                    go_wp2_with fail
                    go_quiet (first | (go_at_call 83; refine Calls.quiet_of_same ((HWi _).out.mono fun _ _ ⟨h1, h2⟩ => ⟨h1, h2.symm⟩)))
                    go_wp2
                    go_ret
                    exact ⟨by rw [hR.out, hB.out]; rfl, (by repeat (first | with_reducible exact hWr | with_reducible apply below_drewN' | with_reducible apply Below.drew | (with_reducible refine Below.alloc ?_ (by first | omega | (simp; omega) | simp | (have := (hWr).size; omega) | (have := (hWr).size; simp; omega)) _) | (with_reducible refine Below.setCell ?_ (by first | omega | (simp; omega) | simp | (have := (hWr).size; omega) | (have := (hWr).size; simp; omega)) _) | exact hWr))⟩
                  · have d4 : (n == 0) = false := by simpa using h4
                    cases h5 : inB n (-6) 6 with
                    | false =>
                      rw [h5] at hWi hle
                      have HWi := fun W => Lib.hid (hWi W)
                      clear hWi h5
                      have hB := hbad (by rw [hle]; simp)
                      clear hbad hnx hle
                      go_wp2_with fail
                      go_quiet (first | (go_at_call 83; refine Calls.quiet_of_same ((HWi _).out.mono fun _ _ ⟨h1, h2⟩ => ⟨h1, h2.symm⟩)))
                      go_wp2
                      go_ret
                      exact ⟨by rw [hR.out, hB.out]; rfl, (by repeat (first | with_reducible exact hWr | with_reducible apply below_drewN' | with_reducible apply Below.drew | (with_reducible refine Below.alloc ?_ (by first | omega | (simp; omega) | simp | (have := (hWr).size; omega) | (have := (hWr).size; simp; omega)) _) | (with_reducible refine Below.setCell ?_ (by first | omega | (simp; omega) | simp | (have := (hWr).size; omega) | (have := (hWr).size; simp; omega)) _) | exact hWr))⟩
                    | true =>
                      rw [h5] at hWi hle
                      have HWi := fun W => Lib.hid (hWi W)
                      clear hWi h5
                      have hN := hnx (by rw [hle]; simp [h4])
                      clear hbad hnx hle
                      go_wp2_with fail
                      go_quiet (first | (go_at_call 83; refine Calls.quiet_of_same ((HWi _).out.mono fun _ _ ⟨h1, h2⟩ => ⟨h1, h2.symm⟩)))
                      go_wp2
                      go_roundw
                      case rel => exact ⟨0 + 1, by omega, by go_num, (by repeat (first | with_reducible exact hb | with_reducible apply below_drewN' | with_reducible apply Below.drew | (with_reducible refine Below.alloc ?_ (by first | omega | (simp; omega) | simp | (have := (hb).size; omega) | (have := (hb).size; simp; omega)) _) | (with_reducible refine Below.setCell ?_ (by first | omega | (simp; omega) | simp | (have := (hb).size; omega) | (have := (hb).size; simp; omega)) _) | exact hb)), hN⟩
                      case measure => simp [intOf]; omega
                · obtain ⟨j, rfl⟩ : ∃ j, k = j + 1 := ⟨k - 1, by omega⟩
                  have hjs : j < s.size := by omega
                  have hcj : chAt s (j + 1 - 1) = (s[j].toNat : Int) := by rw [Nat.add_sub_cancel]; exact chAt_eq hjs
                  rw [hcj] at hle
                  generalize hcp : (s[j].toNat : Int) = cp at *
                  clear hcj
                  have d3 : decide ((0 : Int) < ((j + 1 : Nat) : Int)) = true := decide_eq_true (by omega)
                  have d3' : (0 : Int) < ((j + 1 : Nat) : Int) := by omega
                  by_cases h3 : ch ≤ cp
                  · have d5 : decide (ch ≤ cp) = true := decide_eq_true h3
                    have hx : decide (cp < ch) = false := decide_eq_false (by omega)
                    have HWi := fun W => Lib.hid (hWi W)
                    clear hWi
                    rw [hx] at hle
                    have hB := hbad (by rw [hle]; simp)
                    clear hbad hnx hle
                    go_wp2_with fail
                    go_quiet (first | (go_at_call 83; refine Calls.quiet_of_same ((HWi _).out.mono fun _ _ ⟨h1, h2⟩ => ⟨h1, h2.symm⟩)))
                    go_wp2
                    go_ret
                    exact ⟨by rw [hR.out, hB.out]; rfl, (by repeat (first | with_reducible exact hWr | with_reducible apply below_drewN' | with_reducible apply Below.drew | (with_reducible refine Below.alloc ?_ (by first | omega | (simp; omega) | simp | (have := (hWr).size; omega) | (have := (hWr).size; simp; omega)) _) | (with_reducible refine Below.setCell ?_ (by first | omega | (simp; omega) | simp | (have := (hWr).size; omega) | (have := (hWr).size; simp; omega)) _) | exact hWr))⟩
                  · have d5 : decide (ch ≤ cp) = false := decide_eq_false h3
                    have hx : decide (cp < ch) = true := decide_eq_true (by omega)
                    rw [hx] at hle
                    clear hx
                    by_cases h4 : n = 0
                    · subst h4
                      have HWi := fun W => Lib.hid (hWi W)
                      clear hWi
                      have hB := hbad (by rw [hle]; simp)
                      clear hbad hnx hle
                      go_wp2_with fail
                      go_quiet (first | (go_at_call 83; refine Calls.quiet_of_same ((HWi _).out.mono fun _ _ ⟨h1, h2⟩ => ⟨h1, h2.symm⟩)))
                      go_wp2
                      go_ret
                      exact ⟨by rw [hR.out, hB.out]; rfl, (by repeat (first | with_reducible exact hWr | with_reducible apply below_drewN' | with_reducible apply Below.drew | (with_reducible refine Below.alloc ?_ (by first | omega | (simp; omega) | simp | (have := (hWr).size; omega) | (have := (hWr).size; simp; omega)) _) | (with_reducible refine Below.setCell ?_ (by first | omega | (simp; omega) | simp | (have := (hWr).size; omega) | (have := (hWr).size; simp; omega)) _) | exact hWr))⟩
                    · have d4 : (n == 0) = false := by simpa using h4
                      cases h5 : inB n (-6) 6 with
                      | false =>
                        rw [h5] at hWi hle
                        have HWi := fun W => Lib.hid (hWi W)
                        clear hWi h5
                        have hB := hbad (by rw [hle]; simp)
                        clear hbad hnx hle
                        go_wp2_with fail
                        go_quiet (first | (go_at_call 83; refine Calls.quiet_of_same ((HWi _).out.mono fun _ _ ⟨h1, h2⟩ => ⟨h1, h2.symm⟩)))
                        go_wp2
                        go_ret
                        exact ⟨by rw [hR.out, hB.out]; rfl, (by repeat (first | with_reducible exact hWr | with_reducible apply below_drewN' | with_reducible apply Below.drew | (with_reducible refine Below.alloc ?_ (by first | omega | (simp; omega) | simp | (have := (hWr).size; omega) | (have := (hWr).size; simp; omega)) _) | (with_reducible refine Below.setCell ?_ (by first | omega | (simp; omega) | simp | (have := (hWr).size; omega) | (have := (hWr).size; simp; omega)) _) | exact hWr))⟩
                      | true =>
                        rw [h5] at hWi hle
                        have HWi := fun W => Lib.hid (hWi W)
                        clear hWi h5
                        have hN := hnx (by rw [hle]; simp [h4])
                        clear hbad hnx hle
                        go_wp2_with fail
                        go_quiet (first | (go_at_call 83; refine Calls.quiet_of_same ((HWi _).out.mono fun _ _ ⟨h1, h2⟩ => ⟨h1, h2.symm⟩)))
                        go_wp2
                        go_roundw
                        case rel => exact ⟨(j + 1) + 1, by omega, by go_num, (by repeat (first | with_reducible exact hb | with_reducible apply below_drewN' | with_reducible apply Below.drew | (with_reducible refine Below.alloc ?_ (by first | omega | (simp; omega) | simp | (have := (hb).size; omega) | (have := (hb).size; simp; omega)) _) | (with_reducible refine Below.setCell ?_ (by first | omega | (simp; omega) | simp | (have := (hb).size; omega) | (have := (hb).size; simp; omega)) _) | exact hb)), hN⟩
                        case measure => simp [intOf]; omega
          · have : k = l.length := by omega
            subst this
            have hnl : ¬ ((l.length : Int) < (s.size : Int)) := by have := hLS.out; omega
            have hnl2 : decide (l.length < s.size) = false := by have := hLS.out; simp; omega
            go_wp2
            go_ret
            exact ⟨by rw [hR.out, hok.out]; rfl, (by repeat (first | with_reducible exact hWr | with_reducible apply below_drewN' | with_reducible apply Below.drew | (with_reducible refine Below.alloc ?_ (by first | omega | (simp; omega) | simp | (have := (hWr).size; omega) | (have := (hWr).size; simp; omega)) _) | (with_reducible refine Below.setCell ?_ (by first | omega | (simp; omega) | simp | (have := (hWr).size; omega) | (have := (hWr).size; simp; omega)) _) | exact hWr))⟩
      · have hR : Hid (formB fd ft s l = false) := by unfold Hid formB; rw [hf, decide_eq_true h6, decide_eq_false hls]; rfl
        have hn6 : ¬ (6 : Int) < (s.size : Int) := by omega
        have hq1 : ((l.length : Int) != (s.size : Int)) = true := by simp; omega
        have hq2 : ((s.size : Int) != (l.length : Int)) = true := by simp; omega
        have hq3 : ¬ s.size = l.length := by omega
        clear hf hs
        go_enter Tryz.func139, Tryz.ntmps139
        go_wp2_with fail
        generalize w.alloc (.cells #[.int .i64 fd, .int .i64 ft, .string s, .slice A l.length c] 42) = W at *
        refine Calls.mono (HF _).out ?_; rintro e w1 ⟨rfl, hb1⟩
        have hW1 := hW.trans (hb1.mono hW.size)
        have B1 := B0.below hb1 B0.lt
        have y2 : w1.cell? ⟨w.heap.size, 2, none⟩ = some (.string s) := B1.cell 2
        have y3 : w1.cell? ⟨w.heap.size, 3, none⟩ = some (.slice A l.length c) := B1.cell 3
        clear hW B0 hb1 HF
        go_wp2
        go_ret
        exact ⟨by rw [hR.out]; rfl, (by repeat (first | with_reducible exact hW1 | with_reducible apply below_drewN' | with_reducible apply Below.drew | (with_reducible refine Below.alloc ?_ (by first | omega | (simp; omega) | simp | (have := (hW1).size; omega) | (have := (hW1).size; simp; omega)) _) | (with_reducible refine Below.setCell ?_ (by first | omega | (simp; omega) | simp | (have := (hW1).size; omega) | (have := (hW1).size; simp; omega)) _) | exact hW1))⟩
    · have hR : Hid (formB fd ft s l = false) := by unfold Hid formB; rw [hf, decide_eq_false h6]; rfl
      have hn6 : (6 : Int) < (s.size : Int) := by omega
      clear hf hs
      go_enter Tryz.func139, Tryz.ntmps139
      go_wp2_with fail
      generalize w.alloc (.cells #[.int .i64 fd, .int .i64 ft, .string s, .slice A l.length c] 42) = W at *
      refine Calls.mono (HF _).out ?_; rintro e w1 ⟨rfl, hb1⟩
      have hW1 := hW.trans (hb1.mono hW.size)
      have B1 := B0.below hb1 B0.lt
      have y2 : w1.cell? ⟨w.heap.size, 2, none⟩ = some (.string s) := B1.cell 2
      have y3 : w1.cell? ⟨w.heap.size, 3, none⟩ = some (.slice A l.length c) := B1.cell 3
      clear hW B0 hb1 HF
      go_wp2
      go_ret
      exact ⟨by rw [hR.out]; rfl, (by repeat (first | with_reducible exact hW1 | with_reducible apply below_drewN' | with_reducible apply Below.drew | (with_reducible refine Below.alloc ?_ (by first | omega | (simp; omega) | simp | (have := (hW1).size; omega) | (have := (hW1).size; simp; omega)) _) | (with_reducible refine Below.setCell ?_ (by first | omega | (simp; omega) | simp | (have := (hW1).size; omega) | (have := (hW1).size; simp; omega)) _) | exact hW1))⟩
end Go.Proofs.YtendoabjjfinhaaGreatDoor
namespace Go.Proofs.YtendoabjjfinhaaGreatDoor
open Go.RowKit
set_option maxRecDepth 100000 in
theorem l01Has_c (A : Option Addr) (c : Nat) (l : List Int) (x : Int) (w : World) (hl : l.length ≤ 140737488351232) (hs : Sl w w.heap.size 1 A (l.map ic)) :
   Calls Tryz.prog 67 #[.slice A l.length c, .int .i64 x] w fun e w' => e = .returned (.bool (decide (x ∈ l))) ∧ w = w' := by
  go_enter Tryz.func67, Tryz.ntmps67
  go_wp2_with fail
  go_loop [5] (fun i => ∃ k : Nat, k ≤ l.length ∧ i = .int .i64 k ∧ Hid (x ∉ l.take k)) (fun i => l.length - (intOf i).toNat)
  case atStart => exact ⟨0, Nat.zero_le _, rfl, (show x ∉ l.take 0 by simp)⟩
  case round =>
    obtain ⟨k, hk, rfl, hno⟩ := hrel
    by_cases hlt : k < l.length
    · obtain ⟨b, off, rfl, hbB, c0⟩ := hs.int hlt
      have Hnx : Hid (l.take (k + 1) = l.take k ++ [l[k]]) := List.take_succ_eq_append_getElem hlt
      have Hme : Hid (l[k] ∈ l) := List.getElem_mem hlt
      generalize l[k] = y at *
      by_cases he : y = x
      · subst he
        go_wp2
        go_ret
        exact ⟨by rw [decide_eq_true Hme.out]; rfl, rfl⟩
      · have hno2 : Hid (x ∉ l.take (k + 1)) := by
          unfold Hid
          rw [Hnx.out, List.mem_append, List.mem_singleton]
          rintro (h | h)
          · exact hno.out h
          · exact he h.symm
        go_wp2
        go_round
        case rel => exact ⟨k + 1, by omega, by go_num, hno2⟩
        case measure => simp [intOf]; omega
    · have : k = l.length := by omega
      subst this
      have h0 : Hid (x ∉ l) := by unfold Hid; have := hno.out; rwa [List.take_length] at this
      go_wp2
      go_ret
      exact ⟨by rw [decide_eq_false h0.out]; rfl, rfl⟩
set_option maxRecDepth 100000 in
theorem indexInt_c (A : Option Addr) (c : Nat) (l : List Int) (x : Int) (w : World) (hl : l.length ≤ 140737488351232) (hs : Sl w w.heap.size 1 A (l.map ic)) :
   Calls Tryz.prog 96 #[.slice A l.length c, .int .i64 x] w fun e w' => (∃ r : Int, e = .returned (.int .i64 r) ∧ Hid (0 ≤ r ↔ x ∈ l)) ∧ w = w' := by
  go_enter Tryz.func96, Tryz.ntmps96
  go_wp2_with fail
  go_loop [8] (fun i => ∃ k : Nat, k ≤ l.length ∧ i = .int .i64 k ∧ Hid (x ∉ l.take k)) (fun i => l.length - (intOf i).toNat)
  case atStart => exact ⟨0, Nat.zero_le _, rfl, (show x ∉ l.take 0 by simp)⟩
  case round =>
    obtain ⟨k, hk, rfl, hno⟩ := hrel
    by_cases hlt : k < l.length
    · obtain ⟨b, off, rfl, hbB, c0⟩ := hs.int hlt
      have Hnx : Hid (l.take (k + 1) = l.take k ++ [l[k]]) := List.take_succ_eq_append_getElem hlt
      have Hme : Hid (l[k] ∈ l) := List.getElem_mem hlt
      generalize l[k] = y at *
      by_cases he : x = y
      · subst he
        go_wp2
        go_ret
        exact ⟨⟨k, rfl, (show (0 : Int) ≤ k ↔ x ∈ l from ⟨fun _ => Hme.out, fun _ => by omega⟩)⟩, rfl⟩
      · have hno2 : Hid (x ∉ l.take (k + 1)) := by
          unfold Hid
          rw [Hnx.out, List.mem_append, List.mem_singleton]
          rintro (h | h)
          · exact hno.out h
          · exact he h
        go_wp2
        go_round
        case rel => exact ⟨k + 1, by omega, by go_num, hno2⟩
        case measure => simp [intOf]; omega
    · have : k = l.length := by omega
      subst this
      have h0 : Hid (x ∉ l) := by unfold Hid; have := hno.out; rwa [List.take_length] at this
      go_wp2
      go_ret
      exact ⟨⟨-1, rfl, (show (0 : Int) ≤ -1 ↔ x ∈ l from ⟨fun h => by omega, fun h => absurd h h0.out⟩)⟩, rfl⟩
set_option maxRecDepth 100000 in
theorem containsInt_c (A : Option Addr) (c : Nat) (l : List Int) (x : Int) (w : World) (hl : l.length ≤ 140737488351232) (hs : Sl w w.heap.size 1 A (l.map ic)) :
   Calls Tryz.prog 66 #[.slice A l.length c, .int .i64 x] w fun e w' => e = .returned (.bool (decide (x ∈ l))) ∧ w = w' := by
  have H := Lib.hid (indexInt_c A c l x w hl hs)
  go_enter Tryz.func66, Tryz.ntmps66
  go_wp2_with (go_at_call 96; refine H.out.mono ?_; rintro e w1 ⟨⟨r, rfl, hr⟩, rfl⟩)
  go_ret
  exact ⟨by rw [decide_eq_decide.2 hr.out.symm]; rfl, rfl⟩
def scaleB (s : Int) : Bool := inB s 0 5 && (s != 5)
/-- whether the first k scales of a list are valid, and no two alike -/
def scalesTo (l : List Int) (k : Nat) : Bool := (List.range k).all fun i => scaleB l[i]! && !decide (l[i]! ∈ l.take i)
def scalesB (l : List Int) : Bool := scalesTo l l.length && inB l.length 1 6
theorem scalesTo_succ (l : List Int) {k : Nat} (hk : k < l.length) : scalesTo l (k + 1) = (scalesTo l k && (scaleB l[k] && !decide (l[k] ∈ l.take k))) := by
  unfold scalesTo
  rw [List.range_succ, List.all_append]
  simp [List.getElem?_eq_getElem hk]
theorem scalesTo_bad {l : List Int} {k n : Nat} (hk : k < n) (hn : n ≤ l.length) (h : (scaleB (l[k]'(by omega)) && !decide ((l[k]'(by omega)) ∈ l.take k)) = false) : scalesTo l n = false := by
  unfold scalesTo
  rw [List.all_eq_false]
  refine ⟨k, List.mem_range.2 hk, ?_⟩
  rw [getElem!_pos l k (by omega), h]
  simp
def ruleB (L : Int) (s1 s2 : List Int) : Bool := inB L 1 100000 && scalesB s1 && scalesB s2
def errorsB (p q r : Int) : Bool := inB p 0 200 && inB q 0 200 && inB r 0 200
end Go.Proofs.YtendoabjjfinhaaGreatDoor
namespace Go.Proofs.YtendoabjjfinhaaGreatDoor
open Go.RowKit
@[ext] structure Term where
  digits : Int
  tens : Int
  div : Bool
deriving DecidableEq
def Term.cells (s : Term) : List Value := [.int .i64 s.digits, .int .i64 s.tens, .bool s.div]
def Term.agg (s : Term) : Value := .agg #[.int .i64 s.digits, .int .i64 s.tens, .bool s.div]





end Go.Proofs.YtendoabjjfinhaaGreatDoor
namespace Go.Proofs.YtendoabjjfinhaaGreatDoor
open Go.RowKit
end Go.Proofs.YtendoabjjfinhaaGreatDoor
namespace Go.Proofs.YtendoabjjfinhaaGreatDoor
open Go.RowKit
def Term.fig (t : Term) : Figure := ⟨t.digits, t.tens⟩
def termOK (t : Term) : Bool := figOK t.fig
def firstDiv : List Term → Bool
  | [] => false
  | t :: _ => t.div
def chainB (c : List Term) : Bool := c.all termOK && (inB c.length 1 6 && !firstDiv c)
theorem firstDiv_eq {l : List Term} (h : 0 < l.length) : firstDiv l = (l[0]).div := by
  match l, h with
  | _ :: _, _ => rfl
end Go.Proofs.YtendoabjjfinhaaGreatDoor
