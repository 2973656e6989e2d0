/- Exercises and answers: the laws' copies and comparisons of them. No condition beyond the slices' lengths. -/
import Derived.Test.YtednjmldjbndhaaGreatKEy4
import Derived.Test.YtednjmldjbndhaaGreatKEy6
set_option linter.unusedSimpArgs false
set_option linter.unusedVariables false
namespace Go.Proofs.YtednjmldjbndhaaGreat
open Go.RowKit
/-- an exercise in new memory -/
def ExPost (L : Int) (l1 l2 : List Int) (l3 : List Term) (p q r : Int) (w : World) (e : Ending) (w' : World) : Prop :=
  ∃ B1 d1 B2 d2 B3 d3, e = .returned (.agg #[.int .i64 L, .slice B1 l1.length d1, .slice B2 l2.length d2, .slice B3 l3.length d3, .int .i64 p, .int .i64 q, .int .i64 r]) ∧ Own w' w.heap.size 2 1 (.slice B1 l1.length d1) (l1.map ic) ∧ Own w' w.heap.size 2 1 (.slice B2 l2.length d2) (l2.map ic) ∧ Own w' w.heap.size 100 3 (.slice B3 l3.length d3) (l3.map Term.cells) ∧ Below w.heap.size w w'
set_option maxRecDepth 100000 in
theorem toExercise_c (L : Int) (A1 : Option Addr) (c1 : Nat) (l1 : List Int) (A2 : Option Addr) (c2 : Nat) (l2 : List Int) (A3 : Option Addr) (c3 : Nat) (l3 : List Term) (p q r : Int) (w : World) (h1 : l1.length ≤ 1048576) (h2 : l2.length ≤ 1048576) (h3 : l3.length ≤ 1048576) (hs1 : Sl w w.heap.size 1 A1 (l1.map ic)) (hs2 : Sl w w.heap.size 1 A2 (l2.map ic)) (hs3 : Sl w w.heap.size 3 A3 (l3.map Term.cells)) :
    Calls Tryz.prog 24 #[.agg #[.int .i64 L, .slice A1 l1.length c1, .slice A2 l2.length c2, .slice A3 l3.length c3, .int .i64 p, .int .i64 q, .int .i64 r]] w fun e w' => ExPost L l1 l2 l3 p q r w e w' := by
  go_enter Tryz.func24, Tryz.ntmps24
  go_wp2_with fail
  refine (toRule_c L A1 c1 l1 A2 c2 l2 _ (by omega) (by omega) ((hs1.below ((by repeat (first | with_reducible exact Below.refl _ _ | with_reducible apply below_drewN' | with_reducible apply Below.drew | (with_reducible refine Below.alloc ?_ (by first | omega | (simp; omega) | simp | (have := (Below.refl _ _).size; omega) | (have := (Below.refl _ _).size; simp; omega)) _) | (with_reducible refine Below.setCell ?_ (by first | omega | (simp; omega) | simp | (have := (Below.refl _ _).size; omega) | (have := (Below.refl _ _).size; simp; omega)) _) | exact Below.refl _ _)))).more (by first | omega | (simp; omega) | simp)) ((hs2.below ((by repeat (first | with_reducible exact Below.refl _ _ | with_reducible apply below_drewN' | with_reducible apply Below.drew | (with_reducible refine Below.alloc ?_ (by first | omega | (simp; omega) | simp | (have := (Below.refl _ _).size; omega) | (have := (Below.refl _ _).size; simp; omega)) _) | (with_reducible refine Below.setCell ?_ (by first | omega | (simp; omega) | simp | (have := (Below.refl _ _).size; omega) | (have := (Below.refl _ _).size; simp; omega)) _) | exact Below.refl _ _)))).more (by first | omega | (simp; omega) | simp))).mono ?_; rintro e w1 ⟨B1, d1, B2, d2, rfl, hO_1, hO_2, hap, hb1⟩
  have B0_1 := (((Blk.new w 58 #[.int .i64 L, .slice A1 l1.length c1, .slice A2 l2.length c2, .slice A3 l3.length c3, .int .i64 p, .int .i64 q, .int .i64 r]).alloc (.cells #[.int .i64 0, .slice none 0 0, .slice none 0 0, .slice none 0 0, .int .i64 0, .int .i64 0, .int .i64 0] 31)).alloc (.cells #[.int .i64 0, .slice none 0 0, .slice none 0 0, .slice none 0 0, .int .i64 0, .int .i64 0, .int .i64 0] 31)).below hb1 (by first | omega | (simp; omega) | simp)
  have B1_1 := ((Blk.new' (w.alloc (.cells #[.int .i64 L, .slice A1 l1.length c1, .slice A2 l2.length c2, .slice A3 l3.length c3, .int .i64 p, .int .i64 q, .int .i64 r] 58)) 31 #[.int .i64 0, .slice none 0 0, .slice none 0 0, .slice none 0 0, .int .i64 0, .int .i64 0, .int .i64 0] (g := w.heap.size + 1) (by simp)).alloc (.cells #[.int .i64 0, .slice none 0 0, .slice none 0 0, .slice none 0 0, .int .i64 0, .int .i64 0, .int .i64 0] 31)).below hb1 (by first | omega | (simp; omega) | simp)
  have B2_1 : Blk w1 (w.heap.size + 1 + 1) 31 #[.int .i64 0, .slice none 0 0, .slice none 0 0, .slice none 0 0, .int .i64 0, .int .i64 0, .int .i64 0] := (Blk.new' ((w.alloc (.cells #[.int .i64 L, .slice A1 l1.length c1, .slice A2 l2.length c2, .slice A3 l3.length c3, .int .i64 p, .int .i64 q, .int .i64 r] 58)).alloc (.cells #[.int .i64 0, .slice none 0 0, .slice none 0 0, .slice none 0 0, .int .i64 0, .int .i64 0, .int .i64 0] 31)) 31 #[.int .i64 0, .slice none 0 0, .slice none 0 0, .slice none 0 0, .int .i64 0, .int .i64 0, .int .i64 0] (g := w.heap.size + 1 + 1) (by simp)).below hb1 (by first | omega | (simp; omega) | simp)
  have hB1 : Below w.heap.size w w1 := Below.trans ((by repeat (first | with_reducible exact Below.refl _ _ | with_reducible apply below_drewN' | with_reducible apply Below.drew | (with_reducible refine Below.alloc ?_ (by first | omega | (simp; omega) | simp | (have := (Below.refl _ _).size; omega) | (have := (Below.refl _ _).size; simp; omega)) _) | (with_reducible refine Below.setCell ?_ (by first | omega | (simp; omega) | simp | (have := (Below.refl _ _).size; omega) | (have := (Below.refl _ _).size; simp; omega)) _) | exact Below.refl _ _))) (hb1.mono (by first | omega | (simp; omega) | simp))
  have hBs1 := hB1.size
  have hZ1 := B2_1.lt
  have lt_1 := fun r hr => (hO_1.1.lt r hr).2
  have ge_1 := hO_1.ownGe
  have hO_1 := own_mono (base' := w.heap.size + 1 + 1 + 1) hO_1 (by first | omega | (simp; omega) | simp)
  have lt_2 := fun r hr => (hO_2.1.lt r hr).2
  have ge_2 := hO_2.ownGe
  have hO_2 := own_mono (base' := w.heap.size + 1 + 1 + 1) hO_2 (by first | omega | (simp; omega) | simp)
  have x0_1 : w1.cell? ⟨w.heap.size, 0, none⟩ = some (.int .i64 L) := B0_1.cell 0
  have y0_1 : w1.cell? ⟨w.heap.size + 1 + 1, 0, none⟩ = some (.int .i64 0) := B2_1.cell 0
  have yf0_1 : w1.frozen? ⟨w.heap.size + 1 + 1, 0, none⟩ = false := B2_1.frozen 0
  have z0_1 : w1.cell? ⟨w.heap.size + 1, 0, none⟩ = some (.int .i64 0) := B1_1.cell 0
  have zf0_1 : w1.frozen? ⟨w.heap.size + 1, 0, none⟩ = false := B1_1.frozen 0
  have x1_1 : w1.cell? ⟨w.heap.size, 1, none⟩ = some (.slice A1 l1.length c1) := B0_1.cell 1
  have y1_1 : w1.cell? ⟨w.heap.size + 1 + 1, 1, none⟩ = some (.slice none 0 0) := B2_1.cell 1
  have yf1_1 : w1.frozen? ⟨w.heap.size + 1 + 1, 1, none⟩ = false := B2_1.frozen 1
  have z1_1 : w1.cell? ⟨w.heap.size + 1, 1, none⟩ = some (.slice none 0 0) := B1_1.cell 1
  have zf1_1 : w1.frozen? ⟨w.heap.size + 1, 1, none⟩ = false := B1_1.frozen 1
  have x2_1 : w1.cell? ⟨w.heap.size, 2, none⟩ = some (.slice A2 l2.length c2) := B0_1.cell 2
  have y2_1 : w1.cell? ⟨w.heap.size + 1 + 1, 2, none⟩ = some (.slice none 0 0) := B2_1.cell 2
  have yf2_1 : w1.frozen? ⟨w.heap.size + 1 + 1, 2, none⟩ = false := B2_1.frozen 2
  have z2_1 : w1.cell? ⟨w.heap.size + 1, 2, none⟩ = some (.slice none 0 0) := B1_1.cell 2
  have zf2_1 : w1.frozen? ⟨w.heap.size + 1, 2, none⟩ = false := B1_1.frozen 2
  have x3_1 : w1.cell? ⟨w.heap.size, 3, none⟩ = some (.slice A3 l3.length c3) := B0_1.cell 3
  have y3_1 : w1.cell? ⟨w.heap.size + 1 + 1, 3, none⟩ = some (.slice none 0 0) := B2_1.cell 3
  have yf3_1 : w1.frozen? ⟨w.heap.size + 1 + 1, 3, none⟩ = false := B2_1.frozen 3
  have z3_1 : w1.cell? ⟨w.heap.size + 1, 3, none⟩ = some (.slice none 0 0) := B1_1.cell 3
  have zf3_1 : w1.frozen? ⟨w.heap.size + 1, 3, none⟩ = false := B1_1.frozen 3
  have x4_1 : w1.cell? ⟨w.heap.size, 4, none⟩ = some (.int .i64 p) := B0_1.cell 4
  have y4_1 : w1.cell? ⟨w.heap.size + 1 + 1, 4, none⟩ = some (.int .i64 0) := B2_1.cell 4
  have yf4_1 : w1.frozen? ⟨w.heap.size + 1 + 1, 4, none⟩ = false := B2_1.frozen 4
  have z4_1 : w1.cell? ⟨w.heap.size + 1, 4, none⟩ = some (.int .i64 0) := B1_1.cell 4
  have zf4_1 : w1.frozen? ⟨w.heap.size + 1, 4, none⟩ = false := B1_1.frozen 4
  have x5_1 : w1.cell? ⟨w.heap.size, 5, none⟩ = some (.int .i64 q) := B0_1.cell 5
  have y5_1 : w1.cell? ⟨w.heap.size + 1 + 1, 5, none⟩ = some (.int .i64 0) := B2_1.cell 5
  have yf5_1 : w1.frozen? ⟨w.heap.size + 1 + 1, 5, none⟩ = false := B2_1.frozen 5
  have z5_1 : w1.cell? ⟨w.heap.size + 1, 5, none⟩ = some (.int .i64 0) := B1_1.cell 5
  have zf5_1 : w1.frozen? ⟨w.heap.size + 1, 5, none⟩ = false := B1_1.frozen 5
  have x6_1 : w1.cell? ⟨w.heap.size, 6, none⟩ = some (.int .i64 r) := B0_1.cell 6
  have y6_1 : w1.cell? ⟨w.heap.size + 1 + 1, 6, none⟩ = some (.int .i64 0) := B2_1.cell 6
  have yf6_1 : w1.frozen? ⟨w.heap.size + 1 + 1, 6, none⟩ = false := B2_1.frozen 6
  have z6_1 : w1.cell? ⟨w.heap.size + 1, 6, none⟩ = some (.int .i64 0) := B1_1.cell 6
  have zf6_1 : w1.frozen? ⟨w.heap.size + 1, 6, none⟩ = false := B1_1.frozen 6
  go_wp2_with fail
  refine (toTermS_c A3 c3 l3 _ (by omega) ((hs3.below ((by repeat (first | with_reducible exact hB1 | with_reducible apply below_drewN' | with_reducible apply Below.drew | (with_reducible refine Below.alloc ?_ (by first | omega | (simp; omega) | simp | (have := (hB1).size; omega) | (have := (hB1).size; simp; omega)) _) | (with_reducible refine Below.setCell ?_ (by first | omega | (simp; omega) | simp | (have := (hB1).size; omega) | (have := (hB1).size; simp; omega)) _) | exact hB1)))).more (by first | omega | (simp; omega) | simp))).mono ?_; rintro e w2 ⟨B3, d3, rfl, hO_3, hb2⟩
  have B0_2 := (((B0_1.far (p := ⟨w.heap.size + 1 + 1, 0, none⟩) (by first | omega | (simp; omega) | simp) (.int .i64 L)).far (p := ⟨w.heap.size + 1 + 1, 1, none⟩) (by first | omega | (simp; omega) | simp) (.slice B1 l1.length d1)).far (p := ⟨w.heap.size + 1 + 1, 2, none⟩) (by first | omega | (simp; omega) | simp) (.slice B2 l2.length d2)).below hb2 (by first | omega | (simp; omega) | simp)
  have B1_2 := (((B1_1.far (p := ⟨w.heap.size + 1 + 1, 0, none⟩) (by first | omega | (simp; omega) | simp) (.int .i64 L)).far (p := ⟨w.heap.size + 1 + 1, 1, none⟩) (by first | omega | (simp; omega) | simp) (.slice B1 l1.length d1)).far (p := ⟨w.heap.size + 1 + 1, 2, none⟩) (by first | omega | (simp; omega) | simp) (.slice B2 l2.length d2)).below hb2 (by first | omega | (simp; omega) | simp)
  have B2_2 : Blk w2 (w.heap.size + 1 + 1) 31 #[.int .i64 L, .slice B1 l1.length d1, .slice B2 l2.length d2, .slice none 0 0, .int .i64 0, .int .i64 0, .int .i64 0] := (((B2_1.set_ 0 (.int .i64 L)).set_ 1 (.slice B1 l1.length d1)).set_ 2 (.slice B2 l2.length d2)).below hb2 (by first | omega | (simp; omega) | simp)
  have hB2 : Below w.heap.size w w2 := Below.trans ((by repeat (first | with_reducible exact hB1 | with_reducible apply below_drewN' | with_reducible apply Below.drew | (with_reducible refine Below.alloc ?_ (by first | omega | (simp; omega) | simp | (have := (hB1).size; omega) | (have := (hB1).size; simp; omega)) _) | (with_reducible refine Below.setCell ?_ (by first | omega | (simp; omega) | simp | (have := (hB1).size; omega) | (have := (hB1).size; simp; omega)) _) | exact hB1))) (hb2.mono (by first | omega | (simp; omega) | simp))
  have hBs2 := hB2.size
  have hZ2 := B2_2.lt
  have hO_1 := (own_far (own_far (own_far hO_1 (b := w.heap.size + 1 + 1) (off := 0) (u := .int .i64 L) (by first | omega | (simp; omega) | simp)) (b := w.heap.size + 1 + 1) (off := 1) (u := .slice B1 l1.length d1) (by first | omega | (simp; omega) | simp)) (b := w.heap.size + 1 + 1) (off := 2) (u := .slice B2 l2.length d2) (by first | omega | (simp; omega) | simp)).below hb2
  have hO_2 := (own_far (own_far (own_far hO_2 (b := w.heap.size + 1 + 1) (off := 0) (u := .int .i64 L) (by first | omega | (simp; omega) | simp)) (b := w.heap.size + 1 + 1) (off := 1) (u := .slice B1 l1.length d1) (by first | omega | (simp; omega) | simp)) (b := w.heap.size + 1 + 1) (off := 2) (u := .slice B2 l2.length d2) (by first | omega | (simp; omega) | simp)).below hb2
  have lt_3 := fun r hr => (hO_3.1.lt r hr).2
  have ge_3 := hO_3.ownGe
  have hO_3 := own_mono (base' := w.heap.size + 1 + 1 + 1) hO_3 (by first | omega | (simp; omega) | simp)
  have x0_2 : w2.cell? ⟨w.heap.size, 0, none⟩ = some (.int .i64 L) := B0_2.cell 0
  have y0_2 : w2.cell? ⟨w.heap.size + 1 + 1, 0, none⟩ = some (.int .i64 L) := B2_2.cell 0
  have yf0_2 : w2.frozen? ⟨w.heap.size + 1 + 1, 0, none⟩ = false := B2_2.frozen 0
  have z0_2 : w2.cell? ⟨w.heap.size + 1, 0, none⟩ = some (.int .i64 0) := B1_2.cell 0
  have zf0_2 : w2.frozen? ⟨w.heap.size + 1, 0, none⟩ = false := B1_2.frozen 0
  have x1_2 : w2.cell? ⟨w.heap.size, 1, none⟩ = some (.slice A1 l1.length c1) := B0_2.cell 1
  have y1_2 : w2.cell? ⟨w.heap.size + 1 + 1, 1, none⟩ = some (.slice B1 l1.length d1) := B2_2.cell 1
  have yf1_2 : w2.frozen? ⟨w.heap.size + 1 + 1, 1, none⟩ = false := B2_2.frozen 1
  have z1_2 : w2.cell? ⟨w.heap.size + 1, 1, none⟩ = some (.slice none 0 0) := B1_2.cell 1
  have zf1_2 : w2.frozen? ⟨w.heap.size + 1, 1, none⟩ = false := B1_2.frozen 1
  have x2_2 : w2.cell? ⟨w.heap.size, 2, none⟩ = some (.slice A2 l2.length c2) := B0_2.cell 2
  have y2_2 : w2.cell? ⟨w.heap.size + 1 + 1, 2, none⟩ = some (.slice B2 l2.length d2) := B2_2.cell 2
  have yf2_2 : w2.frozen? ⟨w.heap.size + 1 + 1, 2, none⟩ = false := B2_2.frozen 2
  have z2_2 : w2.cell? ⟨w.heap.size + 1, 2, none⟩ = some (.slice none 0 0) := B1_2.cell 2
  have zf2_2 : w2.frozen? ⟨w.heap.size + 1, 2, none⟩ = false := B1_2.frozen 2
  have x3_2 : w2.cell? ⟨w.heap.size, 3, none⟩ = some (.slice A3 l3.length c3) := B0_2.cell 3
  have y3_2 : w2.cell? ⟨w.heap.size + 1 + 1, 3, none⟩ = some (.slice none 0 0) := B2_2.cell 3
  have yf3_2 : w2.frozen? ⟨w.heap.size + 1 + 1, 3, none⟩ = false := B2_2.frozen 3
  have z3_2 : w2.cell? ⟨w.heap.size + 1, 3, none⟩ = some (.slice none 0 0) := B1_2.cell 3
  have zf3_2 : w2.frozen? ⟨w.heap.size + 1, 3, none⟩ = false := B1_2.frozen 3
  have x4_2 : w2.cell? ⟨w.heap.size, 4, none⟩ = some (.int .i64 p) := B0_2.cell 4
  have y4_2 : w2.cell? ⟨w.heap.size + 1 + 1, 4, none⟩ = some (.int .i64 0) := B2_2.cell 4
  have yf4_2 : w2.frozen? ⟨w.heap.size + 1 + 1, 4, none⟩ = false := B2_2.frozen 4
  have z4_2 : w2.cell? ⟨w.heap.size + 1, 4, none⟩ = some (.int .i64 0) := B1_2.cell 4
  have zf4_2 : w2.frozen? ⟨w.heap.size + 1, 4, none⟩ = false := B1_2.frozen 4
  have x5_2 : w2.cell? ⟨w.heap.size, 5, none⟩ = some (.int .i64 q) := B0_2.cell 5
  have y5_2 : w2.cell? ⟨w.heap.size + 1 + 1, 5, none⟩ = some (.int .i64 0) := B2_2.cell 5
  have yf5_2 : w2.frozen? ⟨w.heap.size + 1 + 1, 5, none⟩ = false := B2_2.frozen 5
  have z5_2 : w2.cell? ⟨w.heap.size + 1, 5, none⟩ = some (.int .i64 0) := B1_2.cell 5
  have zf5_2 : w2.frozen? ⟨w.heap.size + 1, 5, none⟩ = false := B1_2.frozen 5
  have x6_2 : w2.cell? ⟨w.heap.size, 6, none⟩ = some (.int .i64 r) := B0_2.cell 6
  have y6_2 : w2.cell? ⟨w.heap.size + 1 + 1, 6, none⟩ = some (.int .i64 0) := B2_2.cell 6
  have yf6_2 : w2.frozen? ⟨w.heap.size + 1 + 1, 6, none⟩ = false := B2_2.frozen 6
  have z6_2 : w2.cell? ⟨w.heap.size + 1, 6, none⟩ = some (.int .i64 0) := B1_2.cell 6
  have zf6_2 : w2.frozen? ⟨w.heap.size + 1, 6, none⟩ = false := B1_2.frozen 6
  go_wp2_with fail
  refine (toErrors_c p q r _).mono ?_; rintro e w3 ⟨rfl, hb3⟩
  have B0_3 := (B0_2.far (p := ⟨w.heap.size + 1 + 1, 3, none⟩) (by first | omega | (simp; omega) | simp) (.slice B3 l3.length d3)).below hb3 (by first | omega | (simp; omega) | simp)
  have B1_3 := (B1_2.far (p := ⟨w.heap.size + 1 + 1, 3, none⟩) (by first | omega | (simp; omega) | simp) (.slice B3 l3.length d3)).below hb3 (by first | omega | (simp; omega) | simp)
  have B2_3 : Blk w3 (w.heap.size + 1 + 1) 31 #[.int .i64 L, .slice B1 l1.length d1, .slice B2 l2.length d2, .slice B3 l3.length d3, .int .i64 0, .int .i64 0, .int .i64 0] := (B2_2.set_ 3 (.slice B3 l3.length d3)).below hb3 (by first | omega | (simp; omega) | simp)
  have hB3 : Below w.heap.size w w3 := Below.trans ((by repeat (first | with_reducible exact hB2 | with_reducible apply below_drewN' | with_reducible apply Below.drew | (with_reducible refine Below.alloc ?_ (by first | omega | (simp; omega) | simp | (have := (hB2).size; omega) | (have := (hB2).size; simp; omega)) _) | (with_reducible refine Below.setCell ?_ (by first | omega | (simp; omega) | simp | (have := (hB2).size; omega) | (have := (hB2).size; simp; omega)) _) | exact hB2))) (hb3.mono (by first | omega | (simp; omega) | simp))
  have hBs3 := hB3.size
  have hZ3 := B2_3.lt
  have hO_1 := (own_far hO_1 (b := w.heap.size + 1 + 1) (off := 3) (u := .slice B3 l3.length d3) (by first | omega | (simp; omega) | simp)).below hb3
  have hO_2 := (own_far hO_2 (b := w.heap.size + 1 + 1) (off := 3) (u := .slice B3 l3.length d3) (by first | omega | (simp; omega) | simp)).below hb3
  have hO_3 := (own_far hO_3 (b := w.heap.size + 1 + 1) (off := 3) (u := .slice B3 l3.length d3) (by first | omega | (simp; omega) | simp)).below hb3
  have x0_3 : w3.cell? ⟨w.heap.size, 0, none⟩ = some (.int .i64 L) := B0_3.cell 0
  have y0_3 : w3.cell? ⟨w.heap.size + 1 + 1, 0, none⟩ = some (.int .i64 L) := B2_3.cell 0
  have yf0_3 : w3.frozen? ⟨w.heap.size + 1 + 1, 0, none⟩ = false := B2_3.frozen 0
  have z0_3 : w3.cell? ⟨w.heap.size + 1, 0, none⟩ = some (.int .i64 0) := B1_3.cell 0
  have zf0_3 : w3.frozen? ⟨w.heap.size + 1, 0, none⟩ = false := B1_3.frozen 0
  have x1_3 : w3.cell? ⟨w.heap.size, 1, none⟩ = some (.slice A1 l1.length c1) := B0_3.cell 1
  have y1_3 : w3.cell? ⟨w.heap.size + 1 + 1, 1, none⟩ = some (.slice B1 l1.length d1) := B2_3.cell 1
  have yf1_3 : w3.frozen? ⟨w.heap.size + 1 + 1, 1, none⟩ = false := B2_3.frozen 1
  have z1_3 : w3.cell? ⟨w.heap.size + 1, 1, none⟩ = some (.slice none 0 0) := B1_3.cell 1
  have zf1_3 : w3.frozen? ⟨w.heap.size + 1, 1, none⟩ = false := B1_3.frozen 1
  have x2_3 : w3.cell? ⟨w.heap.size, 2, none⟩ = some (.slice A2 l2.length c2) := B0_3.cell 2
  have y2_3 : w3.cell? ⟨w.heap.size + 1 + 1, 2, none⟩ = some (.slice B2 l2.length d2) := B2_3.cell 2
  have yf2_3 : w3.frozen? ⟨w.heap.size + 1 + 1, 2, none⟩ = false := B2_3.frozen 2
  have z2_3 : w3.cell? ⟨w.heap.size + 1, 2, none⟩ = some (.slice none 0 0) := B1_3.cell 2
  have zf2_3 : w3.frozen? ⟨w.heap.size + 1, 2, none⟩ = false := B1_3.frozen 2
  have x3_3 : w3.cell? ⟨w.heap.size, 3, none⟩ = some (.slice A3 l3.length c3) := B0_3.cell 3
  have y3_3 : w3.cell? ⟨w.heap.size + 1 + 1, 3, none⟩ = some (.slice B3 l3.length d3) := B2_3.cell 3
  have yf3_3 : w3.frozen? ⟨w.heap.size + 1 + 1, 3, none⟩ = false := B2_3.frozen 3
  have z3_3 : w3.cell? ⟨w.heap.size + 1, 3, none⟩ = some (.slice none 0 0) := B1_3.cell 3
  have zf3_3 : w3.frozen? ⟨w.heap.size + 1, 3, none⟩ = false := B1_3.frozen 3
  have x4_3 : w3.cell? ⟨w.heap.size, 4, none⟩ = some (.int .i64 p) := B0_3.cell 4
  have y4_3 : w3.cell? ⟨w.heap.size + 1 + 1, 4, none⟩ = some (.int .i64 0) := B2_3.cell 4
  have yf4_3 : w3.frozen? ⟨w.heap.size + 1 + 1, 4, none⟩ = false := B2_3.frozen 4
  have z4_3 : w3.cell? ⟨w.heap.size + 1, 4, none⟩ = some (.int .i64 0) := B1_3.cell 4
  have zf4_3 : w3.frozen? ⟨w.heap.size + 1, 4, none⟩ = false := B1_3.frozen 4
  have x5_3 : w3.cell? ⟨w.heap.size, 5, none⟩ = some (.int .i64 q) := B0_3.cell 5
  have y5_3 : w3.cell? ⟨w.heap.size + 1 + 1, 5, none⟩ = some (.int .i64 0) := B2_3.cell 5
  have yf5_3 : w3.frozen? ⟨w.heap.size + 1 + 1, 5, none⟩ = false := B2_3.frozen 5
  have z5_3 : w3.cell? ⟨w.heap.size + 1, 5, none⟩ = some (.int .i64 0) := B1_3.cell 5
  have zf5_3 : w3.frozen? ⟨w.heap.size + 1, 5, none⟩ = false := B1_3.frozen 5
  have x6_3 : w3.cell? ⟨w.heap.size, 6, none⟩ = some (.int .i64 r) := B0_3.cell 6
  have y6_3 : w3.cell? ⟨w.heap.size + 1 + 1, 6, none⟩ = some (.int .i64 0) := B2_3.cell 6
  have yf6_3 : w3.frozen? ⟨w.heap.size + 1 + 1, 6, none⟩ = false := B2_3.frozen 6
  have z6_3 : w3.cell? ⟨w.heap.size + 1, 6, none⟩ = some (.int .i64 0) := B1_3.cell 6
  have zf6_3 : w3.frozen? ⟨w.heap.size + 1, 6, none⟩ = false := B1_3.frozen 6
  go_wp2_with fail
  refine bodyPost_ret (v := .agg #[.int .i64 L, .slice B1 l1.length d1, .slice B2 l2.length d2, .slice B3 l3.length d3, .int .i64 p, .int .i64 q, .int .i64 r]) (by simp [results, Tryz.results24, go_sem, z0_3, z1_3, z2_3, z3_3, z4_3, z5_3, z6_3]) rfl ⟨B1, d1, B2, d2, B3, d3, rfl, own_mono (base := w.heap.size + 1 + 1 + 1) (by repeat (first | with_reducible exact hO_1 | (with_reducible refine own_far ?_ (by first | omega | (simp; omega))))) (by first | omega | (simp; omega) | simp), own_mono (base := w.heap.size + 1 + 1 + 1) (by repeat (first | with_reducible exact hO_2 | (with_reducible refine own_far ?_ (by first | omega | (simp; omega))))) (by first | omega | (simp; omega) | simp), own_mono (base := w.heap.size + 1 + 1 + 1) (by repeat (first | with_reducible exact hO_3 | (with_reducible refine own_far ?_ (by first | omega | (simp; omega))))) (by first | omega | (simp; omega) | simp), (by repeat (first | with_reducible exact hB3 | with_reducible apply below_drewN' | with_reducible apply Below.drew | (with_reducible refine Below.alloc ?_ (by first | omega | (simp; omega) | simp | (have := (hB3).size; omega) | (have := (hB3).size; simp; omega)) _) | (with_reducible refine Below.setCell ?_ (by first | omega | (simp; omega) | simp | (have := (hB3).size; omega) | (have := (hB3).size; simp; omega)) _) | exact hB3))⟩

set_option maxRecDepth 100000 in
theorem eqExercise_c (L : Int) (A1 : Option Addr) (c1 : Nat) (A1' : Option Addr) (c1' : Nat) (l1 : List Int) (A2 : Option Addr) (c2 : Nat) (A2' : Option Addr) (c2' : Nat) (l2 : List Int) (A3 : Option Addr) (c3 : Nat) (A3' : Option Addr) (c3' : Nat) (l3 : List Term) (p q r : Int) (w : World) (h1 : l1.length ≤ 1048576) (h2 : l2.length ≤ 1048576) (h3 : l3.length ≤ 1048576) (hs1 : Sl w w.heap.size 1 A1 (l1.map ic)) (hs2 : Sl w w.heap.size 1 A1' (l1.map ic)) (hs3 : Sl w w.heap.size 1 A2 (l2.map ic)) (hs4 : Sl w w.heap.size 1 A2' (l2.map ic)) (hs5 : Sl w w.heap.size 3 A3 (l3.map Term.cells)) (hs6 : Sl w w.heap.size 3 A3' (l3.map Term.cells)) :
    Calls Tryz.prog 27 #[.agg #[.int .i64 L, .slice A1 l1.length c1, .slice A2 l2.length c2, .slice A3 l3.length c3, .int .i64 p, .int .i64 q, .int .i64 r], .agg #[.int .i64 L, .slice A1' l1.length c1', .slice A2' l2.length c2', .slice A3' l3.length c3', .int .i64 p, .int .i64 q, .int .i64 r]] w fun e w' => e = .returned (.bool true) ∧ Below w.heap.size w w' := by
  go_enter Tryz.func27, Tryz.ntmps27
  go_wp2_with fail
  refine (eqRule_c L A1 c1 A1' c1' l1 A2 c2 A2' c2' l2 _ (by omega) (by omega) ((hs1.below ((by repeat (first | with_reducible exact Below.refl _ _ | with_reducible apply below_drewN' | with_reducible apply Below.drew | (with_reducible refine Below.alloc ?_ (by first | omega | (simp; omega) | simp | (have := (Below.refl _ _).size; omega) | (have := (Below.refl _ _).size; simp; omega)) _) | (with_reducible refine Below.setCell ?_ (by first | omega | (simp; omega) | simp | (have := (Below.refl _ _).size; omega) | (have := (Below.refl _ _).size; simp; omega)) _) | exact Below.refl _ _)))).more (by first | omega | (simp; omega) | simp)) ((hs2.below ((by repeat (first | with_reducible exact Below.refl _ _ | with_reducible apply below_drewN' | with_reducible apply Below.drew | (with_reducible refine Below.alloc ?_ (by first | omega | (simp; omega) | simp | (have := (Below.refl _ _).size; omega) | (have := (Below.refl _ _).size; simp; omega)) _) | (with_reducible refine Below.setCell ?_ (by first | omega | (simp; omega) | simp | (have := (Below.refl _ _).size; omega) | (have := (Below.refl _ _).size; simp; omega)) _) | exact Below.refl _ _)))).more (by first | omega | (simp; omega) | simp)) ((hs3.below ((by repeat (first | with_reducible exact Below.refl _ _ | with_reducible apply below_drewN' | with_reducible apply Below.drew | (with_reducible refine Below.alloc ?_ (by first | omega | (simp; omega) | simp | (have := (Below.refl _ _).size; omega) | (have := (Below.refl _ _).size; simp; omega)) _) | (with_reducible refine Below.setCell ?_ (by first | omega | (simp; omega) | simp | (have := (Below.refl _ _).size; omega) | (have := (Below.refl _ _).size; simp; omega)) _) | exact Below.refl _ _)))).more (by first | omega | (simp; omega) | simp)) ((hs4.below ((by repeat (first | with_reducible exact Below.refl _ _ | with_reducible apply below_drewN' | with_reducible apply Below.drew | (with_reducible refine Below.alloc ?_ (by first | omega | (simp; omega) | simp | (have := (Below.refl _ _).size; omega) | (have := (Below.refl _ _).size; simp; omega)) _) | (with_reducible refine Below.setCell ?_ (by first | omega | (simp; omega) | simp | (have := (Below.refl _ _).size; omega) | (have := (Below.refl _ _).size; simp; omega)) _) | exact Below.refl _ _)))).more (by first | omega | (simp; omega) | simp))).mono ?_; rintro e w1 ⟨rfl, hb1⟩
  have B0_1 := ((Blk.new w 31 #[.int .i64 L, .slice A1 l1.length c1, .slice A2 l2.length c2, .slice A3 l3.length c3, .int .i64 p, .int .i64 q, .int .i64 r]).alloc (.cells #[.int .i64 L, .slice A1' l1.length c1', .slice A2' l2.length c2', .slice A3' l3.length c3', .int .i64 p, .int .i64 q, .int .i64 r] 31)).below hb1 (by first | omega | (simp; omega) | simp)
  have B1_1 := (Blk.new' (w.alloc (.cells #[.int .i64 L, .slice A1 l1.length c1, .slice A2 l2.length c2, .slice A3 l3.length c3, .int .i64 p, .int .i64 q, .int .i64 r] 31)) 31 #[.int .i64 L, .slice A1' l1.length c1', .slice A2' l2.length c2', .slice A3' l3.length c3', .int .i64 p, .int .i64 q, .int .i64 r] (g := w.heap.size + 1) (by simp)).below hb1 (by first | omega | (simp; omega) | simp)
  have hB1 : Below w.heap.size w w1 := Below.trans ((by repeat (first | with_reducible exact Below.refl _ _ | with_reducible apply below_drewN' | with_reducible apply Below.drew | (with_reducible refine Below.alloc ?_ (by first | omega | (simp; omega) | simp | (have := (Below.refl _ _).size; omega) | (have := (Below.refl _ _).size; simp; omega)) _) | (with_reducible refine Below.setCell ?_ (by first | omega | (simp; omega) | simp | (have := (Below.refl _ _).size; omega) | (have := (Below.refl _ _).size; simp; omega)) _) | exact Below.refl _ _))) (hb1.mono (by first | omega | (simp; omega) | simp))
  have hBs1 := hB1.size
  have hZ1 := B1_1.lt
  have x0_1 : w1.cell? ⟨w.heap.size, 0, none⟩ = some (.int .i64 L) := B0_1.cell 0
  have y0_1 : w1.cell? ⟨w.heap.size + 1, 0, none⟩ = some (.int .i64 L) := B1_1.cell 0
  have x1_1 : w1.cell? ⟨w.heap.size, 1, none⟩ = some (.slice A1 l1.length c1) := B0_1.cell 1
  have y1_1 : w1.cell? ⟨w.heap.size + 1, 1, none⟩ = some (.slice A1' l1.length c1') := B1_1.cell 1
  have x2_1 : w1.cell? ⟨w.heap.size, 2, none⟩ = some (.slice A2 l2.length c2) := B0_1.cell 2
  have y2_1 : w1.cell? ⟨w.heap.size + 1, 2, none⟩ = some (.slice A2' l2.length c2') := B1_1.cell 2
  have x3_1 : w1.cell? ⟨w.heap.size, 3, none⟩ = some (.slice A3 l3.length c3) := B0_1.cell 3
  have y3_1 : w1.cell? ⟨w.heap.size + 1, 3, none⟩ = some (.slice A3' l3.length c3') := B1_1.cell 3
  have x4_1 : w1.cell? ⟨w.heap.size, 4, none⟩ = some (.int .i64 p) := B0_1.cell 4
  have y4_1 : w1.cell? ⟨w.heap.size + 1, 4, none⟩ = some (.int .i64 p) := B1_1.cell 4
  have x5_1 : w1.cell? ⟨w.heap.size, 5, none⟩ = some (.int .i64 q) := B0_1.cell 5
  have y5_1 : w1.cell? ⟨w.heap.size + 1, 5, none⟩ = some (.int .i64 q) := B1_1.cell 5
  have x6_1 : w1.cell? ⟨w.heap.size, 6, none⟩ = some (.int .i64 r) := B0_1.cell 6
  have y6_1 : w1.cell? ⟨w.heap.size + 1, 6, none⟩ = some (.int .i64 r) := B1_1.cell 6
  go_wp2_with fail
  refine (eqTermS_c A3 A3' c3 c3' l3 _ (by omega) ((hs5.below ((by repeat (first | with_reducible exact hB1 | with_reducible apply below_drewN' | with_reducible apply Below.drew | (with_reducible refine Below.alloc ?_ (by first | omega | (simp; omega) | simp | (have := (hB1).size; omega) | (have := (hB1).size; simp; omega)) _) | (with_reducible refine Below.setCell ?_ (by first | omega | (simp; omega) | simp | (have := (hB1).size; omega) | (have := (hB1).size; simp; omega)) _) | exact hB1)))).more (by first | omega | (simp; omega) | simp)) ((hs6.below ((by repeat (first | with_reducible exact hB1 | with_reducible apply below_drewN' | with_reducible apply Below.drew | (with_reducible refine Below.alloc ?_ (by first | omega | (simp; omega) | simp | (have := (hB1).size; omega) | (have := (hB1).size; simp; omega)) _) | (with_reducible refine Below.setCell ?_ (by first | omega | (simp; omega) | simp | (have := (hB1).size; omega) | (have := (hB1).size; simp; omega)) _) | exact hB1)))).more (by first | omega | (simp; omega) | simp))).mono ?_; rintro e w2 ⟨rfl, hb2⟩
  have B0_2 := B0_1.below hb2 (by first | omega | (simp; omega) | simp)
  have B1_2 := B1_1.below hb2 (by first | omega | (simp; omega) | simp)
  have hB2 : Below w.heap.size w w2 := Below.trans ((by repeat (first | with_reducible exact hB1 | with_reducible apply below_drewN' | with_reducible apply Below.drew | (with_reducible refine Below.alloc ?_ (by first | omega | (simp; omega) | simp | (have := (hB1).size; omega) | (have := (hB1).size; simp; omega)) _) | (with_reducible refine Below.setCell ?_ (by first | omega | (simp; omega) | simp | (have := (hB1).size; omega) | (have := (hB1).size; simp; omega)) _) | exact hB1))) (hb2.mono (by first | omega | (simp; omega) | simp))
  have hBs2 := hB2.size
  have hZ2 := B1_2.lt
  have x0_2 : w2.cell? ⟨w.heap.size, 0, none⟩ = some (.int .i64 L) := B0_2.cell 0
  have y0_2 : w2.cell? ⟨w.heap.size + 1, 0, none⟩ = some (.int .i64 L) := B1_2.cell 0
  have x1_2 : w2.cell? ⟨w.heap.size, 1, none⟩ = some (.slice A1 l1.length c1) := B0_2.cell 1
  have y1_2 : w2.cell? ⟨w.heap.size + 1, 1, none⟩ = some (.slice A1' l1.length c1') := B1_2.cell 1
  have x2_2 : w2.cell? ⟨w.heap.size, 2, none⟩ = some (.slice A2 l2.length c2) := B0_2.cell 2
  have y2_2 : w2.cell? ⟨w.heap.size + 1, 2, none⟩ = some (.slice A2' l2.length c2') := B1_2.cell 2
  have x3_2 : w2.cell? ⟨w.heap.size, 3, none⟩ = some (.slice A3 l3.length c3) := B0_2.cell 3
  have y3_2 : w2.cell? ⟨w.heap.size + 1, 3, none⟩ = some (.slice A3' l3.length c3') := B1_2.cell 3
  have x4_2 : w2.cell? ⟨w.heap.size, 4, none⟩ = some (.int .i64 p) := B0_2.cell 4
  have y4_2 : w2.cell? ⟨w.heap.size + 1, 4, none⟩ = some (.int .i64 p) := B1_2.cell 4
  have x5_2 : w2.cell? ⟨w.heap.size, 5, none⟩ = some (.int .i64 q) := B0_2.cell 5
  have y5_2 : w2.cell? ⟨w.heap.size + 1, 5, none⟩ = some (.int .i64 q) := B1_2.cell 5
  have x6_2 : w2.cell? ⟨w.heap.size, 6, none⟩ = some (.int .i64 r) := B0_2.cell 6
  have y6_2 : w2.cell? ⟨w.heap.size + 1, 6, none⟩ = some (.int .i64 r) := B1_2.cell 6
  go_wp2_with fail
  refine (eqErrors_c p q r _).mono ?_; rintro e w3 ⟨rfl, hb3⟩
  have B0_3 := B0_2.below hb3 (by first | omega | (simp; omega) | simp)
  have B1_3 := B1_2.below hb3 (by first | omega | (simp; omega) | simp)
  have hB3 : Below w.heap.size w w3 := Below.trans ((by repeat (first | with_reducible exact hB2 | with_reducible apply below_drewN' | with_reducible apply Below.drew | (with_reducible refine Below.alloc ?_ (by first | omega | (simp; omega) | simp | (have := (hB2).size; omega) | (have := (hB2).size; simp; omega)) _) | (with_reducible refine Below.setCell ?_ (by first | omega | (simp; omega) | simp | (have := (hB2).size; omega) | (have := (hB2).size; simp; omega)) _) | exact hB2))) (hb3.mono (by first | omega | (simp; omega) | simp))
  have hBs3 := hB3.size
  have hZ3 := B1_3.lt
  have x0_3 : w3.cell? ⟨w.heap.size, 0, none⟩ = some (.int .i64 L) := B0_3.cell 0
  have y0_3 : w3.cell? ⟨w.heap.size + 1, 0, none⟩ = some (.int .i64 L) := B1_3.cell 0
  have x1_3 : w3.cell? ⟨w.heap.size, 1, none⟩ = some (.slice A1 l1.length c1) := B0_3.cell 1
  have y1_3 : w3.cell? ⟨w.heap.size + 1, 1, none⟩ = some (.slice A1' l1.length c1') := B1_3.cell 1
  have x2_3 : w3.cell? ⟨w.heap.size, 2, none⟩ = some (.slice A2 l2.length c2) := B0_3.cell 2
  have y2_3 : w3.cell? ⟨w.heap.size + 1, 2, none⟩ = some (.slice A2' l2.length c2') := B1_3.cell 2
  have x3_3 : w3.cell? ⟨w.heap.size, 3, none⟩ = some (.slice A3 l3.length c3) := B0_3.cell 3
  have y3_3 : w3.cell? ⟨w.heap.size + 1, 3, none⟩ = some (.slice A3' l3.length c3') := B1_3.cell 3
  have x4_3 : w3.cell? ⟨w.heap.size, 4, none⟩ = some (.int .i64 p) := B0_3.cell 4
  have y4_3 : w3.cell? ⟨w.heap.size + 1, 4, none⟩ = some (.int .i64 p) := B1_3.cell 4
  have x5_3 : w3.cell? ⟨w.heap.size, 5, none⟩ = some (.int .i64 q) := B0_3.cell 5
  have y5_3 : w3.cell? ⟨w.heap.size + 1, 5, none⟩ = some (.int .i64 q) := B1_3.cell 5
  have x6_3 : w3.cell? ⟨w.heap.size, 6, none⟩ = some (.int .i64 r) := B0_3.cell 6
  have y6_3 : w3.cell? ⟨w.heap.size + 1, 6, none⟩ = some (.int .i64 r) := B1_3.cell 6
  go_wp2_with fail
  go_ret
  exact ⟨rfl, (by repeat (first | with_reducible exact hB3 | with_reducible apply below_drewN' | with_reducible apply Below.drew | (with_reducible refine Below.alloc ?_ (by first | omega | (simp; omega) | simp | (have := (hB3).size; omega) | (have := (hB3).size; simp; omega)) _) | (with_reducible refine Below.setCell ?_ (by first | omega | (simp; omega) | simp | (have := (hB3).size; omega) | (have := (hB3).size; simp; omega)) _) | exact hB3))⟩

set_option maxRecDepth 100000 in
theorem toAnswer_c (A1 : Option Addr) (c1 : Nat) (l1 : List Move) (p q : Int) (w : World) (h1 : l1.length ≤ 1048576) (hs1 : Sl w w.heap.size 4 A1 (l1.map Move.cells)) :
    Calls Tryz.prog 25 #[.agg #[.slice A1 l1.length c1, .int .i64 p, .int .i64 q]] w fun e w' => ∃ B1 d1, e = .returned (.agg #[.slice B1 l1.length d1, .int .i64 p, .int .i64 q]) ∧ Own w' w.heap.size 75 4 (.slice B1 l1.length d1) (l1.map Move.cells) ∧ Below w.heap.size w w' := by
  go_enter Tryz.func25, Tryz.ntmps25
  go_wp2_with fail
  refine (toMoveS_c A1 c1 l1 _ (by omega) ((hs1.below ((by repeat (first | with_reducible exact Below.refl _ _ | with_reducible apply below_drewN' | with_reducible apply Below.drew | (with_reducible refine Below.alloc ?_ (by first | omega | (simp; omega) | simp | (have := (Below.refl _ _).size; omega) | (have := (Below.refl _ _).size; simp; omega)) _) | (with_reducible refine Below.setCell ?_ (by first | omega | (simp; omega) | simp | (have := (Below.refl _ _).size; omega) | (have := (Below.refl _ _).size; simp; omega)) _) | exact Below.refl _ _)))).more (by first | omega | (simp; omega) | simp))).mono ?_; rintro e w1 ⟨B1, d1, rfl, hO_1, hb1⟩
  have B0_1 := (((Blk.new w 62 #[.slice A1 l1.length c1, .int .i64 p, .int .i64 q]).alloc (.cells #[.slice none 0 0, .int .i64 0, .int .i64 0] 53)).alloc (.cells #[.slice none 0 0, .int .i64 0, .int .i64 0] 53)).below hb1 (by first | omega | (simp; omega) | simp)
  have B1_1 := ((Blk.new' (w.alloc (.cells #[.slice A1 l1.length c1, .int .i64 p, .int .i64 q] 62)) 53 #[.slice none 0 0, .int .i64 0, .int .i64 0] (g := w.heap.size + 1) (by simp)).alloc (.cells #[.slice none 0 0, .int .i64 0, .int .i64 0] 53)).below hb1 (by first | omega | (simp; omega) | simp)
  have B2_1 : Blk w1 (w.heap.size + 1 + 1) 53 #[.slice none 0 0, .int .i64 0, .int .i64 0] := (Blk.new' ((w.alloc (.cells #[.slice A1 l1.length c1, .int .i64 p, .int .i64 q] 62)).alloc (.cells #[.slice none 0 0, .int .i64 0, .int .i64 0] 53)) 53 #[.slice none 0 0, .int .i64 0, .int .i64 0] (g := w.heap.size + 1 + 1) (by simp)).below hb1 (by first | omega | (simp; omega) | simp)
  have hB1 : Below w.heap.size w w1 := Below.trans ((by repeat (first | with_reducible exact Below.refl _ _ | with_reducible apply below_drewN' | with_reducible apply Below.drew | (with_reducible refine Below.alloc ?_ (by first | omega | (simp; omega) | simp | (have := (Below.refl _ _).size; omega) | (have := (Below.refl _ _).size; simp; omega)) _) | (with_reducible refine Below.setCell ?_ (by first | omega | (simp; omega) | simp | (have := (Below.refl _ _).size; omega) | (have := (Below.refl _ _).size; simp; omega)) _) | exact Below.refl _ _))) (hb1.mono (by first | omega | (simp; omega) | simp))
  have hBs1 := hB1.size
  have hZ1 := B2_1.lt
  have lt_1 := fun r hr => (hO_1.1.lt r hr).2
  have ge_1 := hO_1.ownGe
  have hO_1 := own_mono (base' := w.heap.size + 1 + 1 + 1) hO_1 (by first | omega | (simp; omega) | simp)
  have x0_1 : w1.cell? ⟨w.heap.size, 0, none⟩ = some (.slice A1 l1.length c1) := B0_1.cell 0
  have y0_1 : w1.cell? ⟨w.heap.size + 1 + 1, 0, none⟩ = some (.slice none 0 0) := B2_1.cell 0
  have yf0_1 : w1.frozen? ⟨w.heap.size + 1 + 1, 0, none⟩ = false := B2_1.frozen 0
  have z0_1 : w1.cell? ⟨w.heap.size + 1, 0, none⟩ = some (.slice none 0 0) := B1_1.cell 0
  have zf0_1 : w1.frozen? ⟨w.heap.size + 1, 0, none⟩ = false := B1_1.frozen 0
  have x1_1 : w1.cell? ⟨w.heap.size, 1, none⟩ = some (.int .i64 p) := B0_1.cell 1
  have y1_1 : w1.cell? ⟨w.heap.size + 1 + 1, 1, none⟩ = some (.int .i64 0) := B2_1.cell 1
  have yf1_1 : w1.frozen? ⟨w.heap.size + 1 + 1, 1, none⟩ = false := B2_1.frozen 1
  have z1_1 : w1.cell? ⟨w.heap.size + 1, 1, none⟩ = some (.int .i64 0) := B1_1.cell 1
  have zf1_1 : w1.frozen? ⟨w.heap.size + 1, 1, none⟩ = false := B1_1.frozen 1
  have x2_1 : w1.cell? ⟨w.heap.size, 2, none⟩ = some (.int .i64 q) := B0_1.cell 2
  have y2_1 : w1.cell? ⟨w.heap.size + 1 + 1, 2, none⟩ = some (.int .i64 0) := B2_1.cell 2
  have yf2_1 : w1.frozen? ⟨w.heap.size + 1 + 1, 2, none⟩ = false := B2_1.frozen 2
  have z2_1 : w1.cell? ⟨w.heap.size + 1, 2, none⟩ = some (.int .i64 0) := B1_1.cell 2
  have zf2_1 : w1.frozen? ⟨w.heap.size + 1, 2, none⟩ = false := B1_1.frozen 2
  go_wp2_with fail
  refine (toFigure_c p q _).mono ?_; rintro e w2 ⟨rfl, hb2⟩
  have B0_2 := (B0_1.far (p := ⟨w.heap.size + 1 + 1, 0, none⟩) (by first | omega | (simp; omega) | simp) (.slice B1 l1.length d1)).below hb2 (by first | omega | (simp; omega) | simp)
  have B1_2 := (B1_1.far (p := ⟨w.heap.size + 1 + 1, 0, none⟩) (by first | omega | (simp; omega) | simp) (.slice B1 l1.length d1)).below hb2 (by first | omega | (simp; omega) | simp)
  have B2_2 : Blk w2 (w.heap.size + 1 + 1) 53 #[.slice B1 l1.length d1, .int .i64 0, .int .i64 0] := (B2_1.set_ 0 (.slice B1 l1.length d1)).below hb2 (by first | omega | (simp; omega) | simp)
  have hB2 : Below w.heap.size w w2 := Below.trans ((by repeat (first | with_reducible exact hB1 | with_reducible apply below_drewN' | with_reducible apply Below.drew | (with_reducible refine Below.alloc ?_ (by first | omega | (simp; omega) | simp | (have := (hB1).size; omega) | (have := (hB1).size; simp; omega)) _) | (with_reducible refine Below.setCell ?_ (by first | omega | (simp; omega) | simp | (have := (hB1).size; omega) | (have := (hB1).size; simp; omega)) _) | exact hB1))) (hb2.mono (by first | omega | (simp; omega) | simp))
  have hBs2 := hB2.size
  have hZ2 := B2_2.lt
  have hO_1 := (own_far hO_1 (b := w.heap.size + 1 + 1) (off := 0) (u := .slice B1 l1.length d1) (by first | omega | (simp; omega) | simp)).below hb2
  have x0_2 : w2.cell? ⟨w.heap.size, 0, none⟩ = some (.slice A1 l1.length c1) := B0_2.cell 0
  have y0_2 : w2.cell? ⟨w.heap.size + 1 + 1, 0, none⟩ = some (.slice B1 l1.length d1) := B2_2.cell 0
  have yf0_2 : w2.frozen? ⟨w.heap.size + 1 + 1, 0, none⟩ = false := B2_2.frozen 0
  have z0_2 : w2.cell? ⟨w.heap.size + 1, 0, none⟩ = some (.slice none 0 0) := B1_2.cell 0
  have zf0_2 : w2.frozen? ⟨w.heap.size + 1, 0, none⟩ = false := B1_2.frozen 0
  have x1_2 : w2.cell? ⟨w.heap.size, 1, none⟩ = some (.int .i64 p) := B0_2.cell 1
  have y1_2 : w2.cell? ⟨w.heap.size + 1 + 1, 1, none⟩ = some (.int .i64 0) := B2_2.cell 1
  have yf1_2 : w2.frozen? ⟨w.heap.size + 1 + 1, 1, none⟩ = false := B2_2.frozen 1
  have z1_2 : w2.cell? ⟨w.heap.size + 1, 1, none⟩ = some (.int .i64 0) := B1_2.cell 1
  have zf1_2 : w2.frozen? ⟨w.heap.size + 1, 1, none⟩ = false := B1_2.frozen 1
  have x2_2 : w2.cell? ⟨w.heap.size, 2, none⟩ = some (.int .i64 q) := B0_2.cell 2
  have y2_2 : w2.cell? ⟨w.heap.size + 1 + 1, 2, none⟩ = some (.int .i64 0) := B2_2.cell 2
  have yf2_2 : w2.frozen? ⟨w.heap.size + 1 + 1, 2, none⟩ = false := B2_2.frozen 2
  have z2_2 : w2.cell? ⟨w.heap.size + 1, 2, none⟩ = some (.int .i64 0) := B1_2.cell 2
  have zf2_2 : w2.frozen? ⟨w.heap.size + 1, 2, none⟩ = false := B1_2.frozen 2
  go_wp2_with fail
  refine bodyPost_ret (v := .agg #[.slice B1 l1.length d1, .int .i64 p, .int .i64 q]) (by simp [results, Tryz.results25, go_sem, z0_2, z1_2, z2_2]) rfl ⟨B1, d1, rfl, own_mono (base := w.heap.size + 1 + 1 + 1) (by repeat (first | with_reducible exact hO_1 | (with_reducible refine own_far ?_ (by first | omega | (simp; omega))))) (by first | omega | (simp; omega) | simp), (by repeat (first | with_reducible exact hB2 | with_reducible apply below_drewN' | with_reducible apply Below.drew | (with_reducible refine Below.alloc ?_ (by first | omega | (simp; omega) | simp | (have := (hB2).size; omega) | (have := (hB2).size; simp; omega)) _) | (with_reducible refine Below.setCell ?_ (by first | omega | (simp; omega) | simp | (have := (hB2).size; omega) | (have := (hB2).size; simp; omega)) _) | exact hB2))⟩

set_option maxRecDepth 100000 in
theorem eqAnswer_c (A1 : Option Addr) (c1 : Nat) (A1' : Option Addr) (c1' : Nat) (l1 : List Move) (p q : Int) (w : World) (h1 : l1.length ≤ 1048576) (hs1 : Sl w w.heap.size 4 A1 (l1.map Move.cells)) (hs2 : Sl w w.heap.size 4 A1' (l1.map Move.cells)) :
    Calls Tryz.prog 28 #[.agg #[.slice A1 l1.length c1, .int .i64 p, .int .i64 q], .agg #[.slice A1' l1.length c1', .int .i64 p, .int .i64 q]] w fun e w' => e = .returned (.bool true) ∧ Below w.heap.size w w' := by
  go_enter Tryz.func28, Tryz.ntmps28
  go_wp2_with fail
  refine (eqMoveS_c A1 A1' c1 c1' l1 _ (by omega) ((hs1.below ((by repeat (first | with_reducible exact Below.refl _ _ | with_reducible apply below_drewN' | with_reducible apply Below.drew | (with_reducible refine Below.alloc ?_ (by first | omega | (simp; omega) | simp | (have := (Below.refl _ _).size; omega) | (have := (Below.refl _ _).size; simp; omega)) _) | (with_reducible refine Below.setCell ?_ (by first | omega | (simp; omega) | simp | (have := (Below.refl _ _).size; omega) | (have := (Below.refl _ _).size; simp; omega)) _) | exact Below.refl _ _)))).more (by first | omega | (simp; omega) | simp)) ((hs2.below ((by repeat (first | with_reducible exact Below.refl _ _ | with_reducible apply below_drewN' | with_reducible apply Below.drew | (with_reducible refine Below.alloc ?_ (by first | omega | (simp; omega) | simp | (have := (Below.refl _ _).size; omega) | (have := (Below.refl _ _).size; simp; omega)) _) | (with_reducible refine Below.setCell ?_ (by first | omega | (simp; omega) | simp | (have := (Below.refl _ _).size; omega) | (have := (Below.refl _ _).size; simp; omega)) _) | exact Below.refl _ _)))).more (by first | omega | (simp; omega) | simp))).mono ?_; rintro e w1 ⟨rfl, hb1⟩
  have B0_1 := ((Blk.new w 53 #[.slice A1 l1.length c1, .int .i64 p, .int .i64 q]).alloc (.cells #[.slice A1' l1.length c1', .int .i64 p, .int .i64 q] 53)).below hb1 (by first | omega | (simp; omega) | simp)
  have B1_1 := (Blk.new' (w.alloc (.cells #[.slice A1 l1.length c1, .int .i64 p, .int .i64 q] 53)) 53 #[.slice A1' l1.length c1', .int .i64 p, .int .i64 q] (g := w.heap.size + 1) (by simp)).below hb1 (by first | omega | (simp; omega) | simp)
  have hB1 : Below w.heap.size w w1 := Below.trans ((by repeat (first | with_reducible exact Below.refl _ _ | with_reducible apply below_drewN' | with_reducible apply Below.drew | (with_reducible refine Below.alloc ?_ (by first | omega | (simp; omega) | simp | (have := (Below.refl _ _).size; omega) | (have := (Below.refl _ _).size; simp; omega)) _) | (with_reducible refine Below.setCell ?_ (by first | omega | (simp; omega) | simp | (have := (Below.refl _ _).size; omega) | (have := (Below.refl _ _).size; simp; omega)) _) | exact Below.refl _ _))) (hb1.mono (by first | omega | (simp; omega) | simp))
  have hBs1 := hB1.size
  have hZ1 := B1_1.lt
  have x0_1 : w1.cell? ⟨w.heap.size, 0, none⟩ = some (.slice A1 l1.length c1) := B0_1.cell 0
  have y0_1 : w1.cell? ⟨w.heap.size + 1, 0, none⟩ = some (.slice A1' l1.length c1') := B1_1.cell 0
  have x1_1 : w1.cell? ⟨w.heap.size, 1, none⟩ = some (.int .i64 p) := B0_1.cell 1
  have y1_1 : w1.cell? ⟨w.heap.size + 1, 1, none⟩ = some (.int .i64 p) := B1_1.cell 1
  have x2_1 : w1.cell? ⟨w.heap.size, 2, none⟩ = some (.int .i64 q) := B0_1.cell 2
  have y2_1 : w1.cell? ⟨w.heap.size + 1, 2, none⟩ = some (.int .i64 q) := B1_1.cell 2
  go_wp2_with fail
  refine (eqFigure_c p q _).mono ?_; rintro e w2 ⟨rfl, hb2⟩
  have B0_2 := B0_1.below hb2 (by first | omega | (simp; omega) | simp)
  have B1_2 := B1_1.below hb2 (by first | omega | (simp; omega) | simp)
  have hB2 : Below w.heap.size w w2 := Below.trans ((by repeat (first | with_reducible exact hB1 | with_reducible apply below_drewN' | with_reducible apply Below.drew | (with_reducible refine Below.alloc ?_ (by first | omega | (simp; omega) | simp | (have := (hB1).size; omega) | (have := (hB1).size; simp; omega)) _) | (with_reducible refine Below.setCell ?_ (by first | omega | (simp; omega) | simp | (have := (hB1).size; omega) | (have := (hB1).size; simp; omega)) _) | exact hB1))) (hb2.mono (by first | omega | (simp; omega) | simp))
  have hBs2 := hB2.size
  have hZ2 := B1_2.lt
  have x0_2 : w2.cell? ⟨w.heap.size, 0, none⟩ = some (.slice A1 l1.length c1) := B0_2.cell 0
  have y0_2 : w2.cell? ⟨w.heap.size + 1, 0, none⟩ = some (.slice A1' l1.length c1') := B1_2.cell 0
  have x1_2 : w2.cell? ⟨w.heap.size, 1, none⟩ = some (.int .i64 p) := B0_2.cell 1
  have y1_2 : w2.cell? ⟨w.heap.size + 1, 1, none⟩ = some (.int .i64 p) := B1_2.cell 1
  have x2_2 : w2.cell? ⟨w.heap.size, 2, none⟩ = some (.int .i64 q) := B0_2.cell 2
  have y2_2 : w2.cell? ⟨w.heap.size + 1, 2, none⟩ = some (.int .i64 q) := B1_2.cell 2
  go_wp2_with fail
  go_ret
  exact ⟨rfl, (by repeat (first | with_reducible exact hB2 | with_reducible apply below_drewN' | with_reducible apply Below.drew | (with_reducible refine Below.alloc ?_ (by first | omega | (simp; omega) | simp | (have := (hB2).size; omega) | (have := (hB2).size; simp; omega)) _) | (with_reducible refine Below.setCell ?_ (by first | omega | (simp; omega) | simp | (have := (hB2).size; omega) | (have := (hB2).size; simp; omega)) _) | exact hB2))⟩
end Go.Proofs.YtednjmldjbndhaaGreat
