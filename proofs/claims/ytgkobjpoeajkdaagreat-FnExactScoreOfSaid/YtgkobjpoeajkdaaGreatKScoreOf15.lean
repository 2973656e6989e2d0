/- Exercises and answers: the laws' copies and comparisons of them. No condition beyond the slices' lengths. How exercises, rules and answers are opened as a law's arguments. No condition of their own. FnExactIsExercise's walk: for every exercise the law returns true. Conditions: what an argument always is. -/
import Derived.Test.YtgkobjpoeajkdaaGreatKScoreOf3
import Derived.Test.YtgkobjpoeajkdaaGreatKScoreOf4
import Derived.Test.YtgkobjpoeajkdaaGreatKScoreOf14
namespace Go.Proofs.YtgkobjpoeajkdaaGreat
open Go.RowKit
/-- an exercise in new memory -/
def ExPost (L : Int) (l1 l2 : List Int) (l3 : List Term) (p q r : Int) (w : World) (e : Ending) (w' : World) : Prop :=
  ∃ B1 d1 B2 d2 B3 d3, e = .returned (.agg #[.int .i64 L, .slice B1 l1.length d1, .slice B2 l2.length d2, .slice B3 l3.length d3, .int .i64 p, .int .i64 q, .int .i64 r]) ∧ Own w' w.heap.size 2 1 (.slice B1 l1.length d1) (l1.map ic) ∧ Own w' w.heap.size 2 1 (.slice B2 l2.length d2) (l2.map ic) ∧ Own w' w.heap.size 118 3 (.slice B3 l3.length d3) (l3.map Term.cells) ∧ Below w.heap.size w w'
set_option maxRecDepth 100000 in
theorem toExercise_c (L : Int) (A1 : Option Addr) (c1 : Nat) (l1 : List Int) (A2 : Option Addr) (c2 : Nat) (l2 : List Int) (A3 : Option Addr) (c3 : Nat) (l3 : List Term) (p q r : Int) (w : World) (h1 : l1.length ≤ 1048576) (h2 : l2.length ≤ 1048576) (h3 : l3.length ≤ 1048576) (hs1 : Sl w w.heap.size 1 A1 (l1.map ic)) (hs2 : Sl w w.heap.size 1 A2 (l2.map ic)) (hs3 : Sl w w.heap.size 3 A3 (l3.map Term.cells)) :
    Calls Tryz.prog 15 #[.agg #[.int .i64 L, .slice A1 l1.length c1, .slice A2 l2.length c2, .slice A3 l3.length c3, .int .i64 p, .int .i64 q, .int .i64 r]] w fun e w' => ExPost L l1 l2 l3 p q r w e w' := by
  go_enter Tryz.func15, Tryz.ntmps15
  go_wp2_with fail
  refine (toRule_c L A1 c1 l1 A2 c2 l2 _ (by omega) (by omega) ((hs1.below ((by repeat (first | with_reducible exact Below.refl _ _ | with_reducible apply below_drewN' | with_reducible apply Below.drew | (with_reducible refine Below.alloc ?_ (by first | omega | (simp; omega) | simp) _) | (with_reducible refine Below.setCell ?_ (by first | omega | (simp; omega) | simp) _) | exact Below.refl _ _)))).more (by first | omega | (simp; omega) | simp)) ((hs2.below ((by repeat (first | with_reducible exact Below.refl _ _ | with_reducible apply below_drewN' | with_reducible apply Below.drew | (with_reducible refine Below.alloc ?_ (by first | omega | (simp; omega) | simp) _) | (with_reducible refine Below.setCell ?_ (by first | omega | (simp; omega) | simp) _) | exact Below.refl _ _)))).more (by first | omega | (simp; omega) | simp))).mono ?_; rintro e w1 ⟨B1, d1, B2, d2, rfl, hO_1, hO_2, hap, hb1⟩
  have B0_1 := (((Blk.new w 29 #[.int .i64 L, .slice A1 l1.length c1, .slice A2 l2.length c2, .slice A3 l3.length c3, .int .i64 p, .int .i64 q, .int .i64 r]).alloc (.cells #[.int .i64 0, .slice none 0 0, .slice none 0 0, .slice none 0 0, .int .i64 0, .int .i64 0, .int .i64 0] 36)).alloc (.cells #[.int .i64 0, .slice none 0 0, .slice none 0 0, .slice none 0 0, .int .i64 0, .int .i64 0, .int .i64 0] 36)).below hb1 (by first | omega | (simp; omega) | simp)
  have B1_1 := ((Blk.new' (w.alloc (.cells #[.int .i64 L, .slice A1 l1.length c1, .slice A2 l2.length c2, .slice A3 l3.length c3, .int .i64 p, .int .i64 q, .int .i64 r] 29)) 36 #[.int .i64 0, .slice none 0 0, .slice none 0 0, .slice none 0 0, .int .i64 0, .int .i64 0, .int .i64 0] (g := w.heap.size + 1) (by simp)).alloc (.cells #[.int .i64 0, .slice none 0 0, .slice none 0 0, .slice none 0 0, .int .i64 0, .int .i64 0, .int .i64 0] 36)).below hb1 (by first | omega | (simp; omega) | simp)
  have B2_1 : Blk w1 (w.heap.size + 1 + 1) 36 #[.int .i64 0, .slice none 0 0, .slice none 0 0, .slice none 0 0, .int .i64 0, .int .i64 0, .int .i64 0] := (Blk.new' ((w.alloc (.cells #[.int .i64 L, .slice A1 l1.length c1, .slice A2 l2.length c2, .slice A3 l3.length c3, .int .i64 p, .int .i64 q, .int .i64 r] 29)).alloc (.cells #[.int .i64 0, .slice none 0 0, .slice none 0 0, .slice none 0 0, .int .i64 0, .int .i64 0, .int .i64 0] 36)) 36 #[.int .i64 0, .slice none 0 0, .slice none 0 0, .slice none 0 0, .int .i64 0, .int .i64 0, .int .i64 0] (g := w.heap.size + 1 + 1) (by simp)).below hb1 (by first | omega | (simp; omega) | simp)
  have hB1 : Below w.heap.size w w1 := Below.trans ((by repeat (first | with_reducible exact Below.refl _ _ | with_reducible apply below_drewN' | with_reducible apply Below.drew | (with_reducible refine Below.alloc ?_ (by first | omega | (simp; omega) | simp) _) | (with_reducible refine Below.setCell ?_ (by first | omega | (simp; omega) | simp) _) | exact Below.refl _ _))) (hb1.mono (by first | omega | (simp; omega) | simp))
  have hBs1 := hB1.size
  have hZ1 := B2_1.lt
  have lt_1 := fun r hr => (hO_1.1.lt r hr).2
  have ge_1 := hO_1.ownGe
  have hO_1 := own_mono (base' := w.heap.size + 1 + 1 + 1) hO_1 (by first | omega | (simp; omega) | simp)
  have lt_2 := fun r hr => (hO_2.1.lt r hr).2
  have ge_2 := hO_2.ownGe
  have hO_2 := own_mono (base' := w.heap.size + 1 + 1 + 1) hO_2 (by first | omega | (simp; omega) | simp)
  have x0_1 : w1.cell? ⟨w.heap.size, 0, none⟩ = some (.int .i64 L) := B0_1.cell 0
  have y0_1 : w1.cell? ⟨w.heap.size + 1 + 1, 0, none⟩ = some (.int .i64 0) := B2_1.cell 0
  have yf0_1 : w1.frozen? ⟨w.heap.size + 1 + 1, 0, none⟩ = false := B2_1.frozen 0
  have z0_1 : w1.cell? ⟨w.heap.size + 1, 0, none⟩ = some (.int .i64 0) := B1_1.cell 0
  have zf0_1 : w1.frozen? ⟨w.heap.size + 1, 0, none⟩ = false := B1_1.frozen 0
  have x1_1 : w1.cell? ⟨w.heap.size, 1, none⟩ = some (.slice A1 l1.length c1) := B0_1.cell 1
  have y1_1 : w1.cell? ⟨w.heap.size + 1 + 1, 1, none⟩ = some (.slice none 0 0) := B2_1.cell 1
  have yf1_1 : w1.frozen? ⟨w.heap.size + 1 + 1, 1, none⟩ = false := B2_1.frozen 1
  have z1_1 : w1.cell? ⟨w.heap.size + 1, 1, none⟩ = some (.slice none 0 0) := B1_1.cell 1
  have zf1_1 : w1.frozen? ⟨w.heap.size + 1, 1, none⟩ = false := B1_1.frozen 1
  have x2_1 : w1.cell? ⟨w.heap.size, 2, none⟩ = some (.slice A2 l2.length c2) := B0_1.cell 2
  have y2_1 : w1.cell? ⟨w.heap.size + 1 + 1, 2, none⟩ = some (.slice none 0 0) := B2_1.cell 2
  have yf2_1 : w1.frozen? ⟨w.heap.size + 1 + 1, 2, none⟩ = false := B2_1.frozen 2
  have z2_1 : w1.cell? ⟨w.heap.size + 1, 2, none⟩ = some (.slice none 0 0) := B1_1.cell 2
  have zf2_1 : w1.frozen? ⟨w.heap.size + 1, 2, none⟩ = false := B1_1.frozen 2
  have x3_1 : w1.cell? ⟨w.heap.size, 3, none⟩ = some (.slice A3 l3.length c3) := B0_1.cell 3
  have y3_1 : w1.cell? ⟨w.heap.size + 1 + 1, 3, none⟩ = some (.slice none 0 0) := B2_1.cell 3
  have yf3_1 : w1.frozen? ⟨w.heap.size + 1 + 1, 3, none⟩ = false := B2_1.frozen 3
  have z3_1 : w1.cell? ⟨w.heap.size + 1, 3, none⟩ = some (.slice none 0 0) := B1_1.cell 3
  have zf3_1 : w1.frozen? ⟨w.heap.size + 1, 3, none⟩ = false := B1_1.frozen 3
  have x4_1 : w1.cell? ⟨w.heap.size, 4, none⟩ = some (.int .i64 p) := B0_1.cell 4
  have y4_1 : w1.cell? ⟨w.heap.size + 1 + 1, 4, none⟩ = some (.int .i64 0) := B2_1.cell 4
  have yf4_1 : w1.frozen? ⟨w.heap.size + 1 + 1, 4, none⟩ = false := B2_1.frozen 4
  have z4_1 : w1.cell? ⟨w.heap.size + 1, 4, none⟩ = some (.int .i64 0) := B1_1.cell 4
  have zf4_1 : w1.frozen? ⟨w.heap.size + 1, 4, none⟩ = false := B1_1.frozen 4
  have x5_1 : w1.cell? ⟨w.heap.size, 5, none⟩ = some (.int .i64 q) := B0_1.cell 5
  have y5_1 : w1.cell? ⟨w.heap.size + 1 + 1, 5, none⟩ = some (.int .i64 0) := B2_1.cell 5
  have yf5_1 : w1.frozen? ⟨w.heap.size + 1 + 1, 5, none⟩ = false := B2_1.frozen 5
  have z5_1 : w1.cell? ⟨w.heap.size + 1, 5, none⟩ = some (.int .i64 0) := B1_1.cell 5
  have zf5_1 : w1.frozen? ⟨w.heap.size + 1, 5, none⟩ = false := B1_1.frozen 5
  have x6_1 : w1.cell? ⟨w.heap.size, 6, none⟩ = some (.int .i64 r) := B0_1.cell 6
  have y6_1 : w1.cell? ⟨w.heap.size + 1 + 1, 6, none⟩ = some (.int .i64 0) := B2_1.cell 6
  have yf6_1 : w1.frozen? ⟨w.heap.size + 1 + 1, 6, none⟩ = false := B2_1.frozen 6
  have z6_1 : w1.cell? ⟨w.heap.size + 1, 6, none⟩ = some (.int .i64 0) := B1_1.cell 6
  have zf6_1 : w1.frozen? ⟨w.heap.size + 1, 6, none⟩ = false := B1_1.frozen 6
  go_wp2_with fail
  refine (toTermS_c A3 c3 l3 _ (by omega) ((hs3.below ((by repeat (first | with_reducible exact hB1 | with_reducible apply below_drewN' | with_reducible apply Below.drew | (with_reducible refine Below.alloc ?_ (by first | omega | (simp; omega) | simp) _) | (with_reducible refine Below.setCell ?_ (by first | omega | (simp; omega) | simp) _) | exact hB1)))).more (by first | omega | (simp; omega) | simp))).mono ?_; rintro e w2 ⟨B3, d3, rfl, hO_3, hb2⟩
  have B0_2 := (((B0_1.far (p := ⟨w.heap.size + 1 + 1, 0, none⟩) (by first | omega | (simp; omega) | simp) (.int .i64 L)).far (p := ⟨w.heap.size + 1 + 1, 1, none⟩) (by first | omega | (simp; omega) | simp) (.slice B1 l1.length d1)).far (p := ⟨w.heap.size + 1 + 1, 2, none⟩) (by first | omega | (simp; omega) | simp) (.slice B2 l2.length d2)).below hb2 (by first | omega | (simp; omega) | simp)
  have B1_2 := (((B1_1.far (p := ⟨w.heap.size + 1 + 1, 0, none⟩) (by first | omega | (simp; omega) | simp) (.int .i64 L)).far (p := ⟨w.heap.size + 1 + 1, 1, none⟩) (by first | omega | (simp; omega) | simp) (.slice B1 l1.length d1)).far (p := ⟨w.heap.size + 1 + 1, 2, none⟩) (by first | omega | (simp; omega) | simp) (.slice B2 l2.length d2)).below hb2 (by first | omega | (simp; omega) | simp)
  have B2_2 : Blk w2 (w.heap.size + 1 + 1) 36 #[.int .i64 L, .slice B1 l1.length d1, .slice B2 l2.length d2, .slice none 0 0, .int .i64 0, .int .i64 0, .int .i64 0] := (((B2_1.set_ 0 (.int .i64 L)).set_ 1 (.slice B1 l1.length d1)).set_ 2 (.slice B2 l2.length d2)).below hb2 (by first | omega | (simp; omega) | simp)
  have hB2 : Below w.heap.size w w2 := Below.trans ((by repeat (first | with_reducible exact hB1 | with_reducible apply below_drewN' | with_reducible apply Below.drew | (with_reducible refine Below.alloc ?_ (by first | omega | (simp; omega) | simp) _) | (with_reducible refine Below.setCell ?_ (by first | omega | (simp; omega) | simp) _) | exact hB1))) (hb2.mono (by first | omega | (simp; omega) | simp))
  have hBs2 := hB2.size
  have hZ2 := B2_2.lt
  have hO_1 := (own_far (own_far (own_far hO_1 (b := w.heap.size + 1 + 1) (off := 0) (u := .int .i64 L) (by first | omega | (simp; omega) | simp)) (b := w.heap.size + 1 + 1) (off := 1) (u := .slice B1 l1.length d1) (by first | omega | (simp; omega) | simp)) (b := w.heap.size + 1 + 1) (off := 2) (u := .slice B2 l2.length d2) (by first | omega | (simp; omega) | simp)).below hb2
  have hO_2 := (own_far (own_far (own_far hO_2 (b := w.heap.size + 1 + 1) (off := 0) (u := .int .i64 L) (by first | omega | (simp; omega) | simp)) (b := w.heap.size + 1 + 1) (off := 1) (u := .slice B1 l1.length d1) (by first | omega | (simp; omega) | simp)) (b := w.heap.size + 1 + 1) (off := 2) (u := .slice B2 l2.length d2) (by first | omega | (simp; omega) | simp)).below hb2
  have lt_3 := fun r hr => (hO_3.1.lt r hr).2
  have ge_3 := hO_3.ownGe
  have hO_3 := own_mono (base' := w.heap.size + 1 + 1 + 1) hO_3 (by first | omega | (simp; omega) | simp)
  have x0_2 : w2.cell? ⟨w.heap.size, 0, none⟩ = some (.int .i64 L) := B0_2.cell 0
  have y0_2 : w2.cell? ⟨w.heap.size + 1 + 1, 0, none⟩ = some (.int .i64 L) := B2_2.cell 0
  have yf0_2 : w2.frozen? ⟨w.heap.size + 1 + 1, 0, none⟩ = false := B2_2.frozen 0
  have z0_2 : w2.cell? ⟨w.heap.size + 1, 0, none⟩ = some (.int .i64 0) := B1_2.cell 0
  have zf0_2 : w2.frozen? ⟨w.heap.size + 1, 0, none⟩ = false := B1_2.frozen 0
  have x1_2 : w2.cell? ⟨w.heap.size, 1, none⟩ = some (.slice A1 l1.length c1) := B0_2.cell 1
  have y1_2 : w2.cell? ⟨w.heap.size + 1 + 1, 1, none⟩ = some (.slice B1 l1.length d1) := B2_2.cell 1
  have yf1_2 : w2.frozen? ⟨w.heap.size + 1 + 1, 1, none⟩ = false := B2_2.frozen 1
  have z1_2 : w2.cell? ⟨w.heap.size + 1, 1, none⟩ = some (.slice none 0 0) := B1_2.cell 1
  have zf1_2 : w2.frozen? ⟨w.heap.size + 1, 1, none⟩ = false := B1_2.frozen 1
  have x2_2 : w2.cell? ⟨w.heap.size, 2, none⟩ = some (.slice A2 l2.length c2) := B0_2.cell 2
  have y2_2 : w2.cell? ⟨w.heap.size + 1 + 1, 2, none⟩ = some (.slice B2 l2.length d2) := B2_2.cell 2
  have yf2_2 : w2.frozen? ⟨w.heap.size + 1 + 1, 2, none⟩ = false := B2_2.frozen 2
  have z2_2 : w2.cell? ⟨w.heap.size + 1, 2, none⟩ = some (.slice none 0 0) := B1_2.cell 2
  have zf2_2 : w2.frozen? ⟨w.heap.size + 1, 2, none⟩ = false := B1_2.frozen 2
  have x3_2 : w2.cell? ⟨w.heap.size, 3, none⟩ = some (.slice A3 l3.length c3) := B0_2.cell 3
  have y3_2 : w2.cell? ⟨w.heap.size + 1 + 1, 3, none⟩ = some (.slice none 0 0) := B2_2.cell 3
  have yf3_2 : w2.frozen? ⟨w.heap.size + 1 + 1, 3, none⟩ = false := B2_2.frozen 3
  have z3_2 : w2.cell? ⟨w.heap.size + 1, 3, none⟩ = some (.slice none 0 0) := B1_2.cell 3
  have zf3_2 : w2.frozen? ⟨w.heap.size + 1, 3, none⟩ = false := B1_2.frozen 3
  have x4_2 : w2.cell? ⟨w.heap.size, 4, none⟩ = some (.int .i64 p) := B0_2.cell 4
  have y4_2 : w2.cell? ⟨w.heap.size + 1 + 1, 4, none⟩ = some (.int .i64 0) := B2_2.cell 4
  have yf4_2 : w2.frozen? ⟨w.heap.size + 1 + 1, 4, none⟩ = false := B2_2.frozen 4
  have z4_2 : w2.cell? ⟨w.heap.size + 1, 4, none⟩ = some (.int .i64 0) := B1_2.cell 4
  have zf4_2 : w2.frozen? ⟨w.heap.size + 1, 4, none⟩ = false := B1_2.frozen 4
  have x5_2 : w2.cell? ⟨w.heap.size, 5, none⟩ = some (.int .i64 q) := B0_2.cell 5
  have y5_2 : w2.cell? ⟨w.heap.size + 1 + 1, 5, none⟩ = some (.int .i64 0) := B2_2.cell 5
  have yf5_2 : w2.frozen? ⟨w.heap.size + 1 + 1, 5, none⟩ = false := B2_2.frozen 5
  have z5_2 : w2.cell? ⟨w.heap.size + 1, 5, none⟩ = some (.int .i64 0) := B1_2.cell 5
  have zf5_2 : w2.frozen? ⟨w.heap.size + 1, 5, none⟩ = false := B1_2.frozen 5
  have x6_2 : w2.cell? ⟨w.heap.size, 6, none⟩ = some (.int .i64 r) := B0_2.cell 6
  have y6_2 : w2.cell? ⟨w.heap.size + 1 + 1, 6, none⟩ = some (.int .i64 0) := B2_2.cell 6
  have yf6_2 : w2.frozen? ⟨w.heap.size + 1 + 1, 6, none⟩ = false := B2_2.frozen 6
  have z6_2 : w2.cell? ⟨w.heap.size + 1, 6, none⟩ = some (.int .i64 0) := B1_2.cell 6
  have zf6_2 : w2.frozen? ⟨w.heap.size + 1, 6, none⟩ = false := B1_2.frozen 6
  go_wp2_with fail
  refine (toErrors_c p q r _).mono ?_; rintro e w3 ⟨rfl, hb3⟩
  have B0_3 := (B0_2.far (p := ⟨w.heap.size + 1 + 1, 3, none⟩) (by first | omega | (simp; omega) | simp) (.slice B3 l3.length d3)).below hb3 (by first | omega | (simp; omega) | simp)
  have B1_3 := (B1_2.far (p := ⟨w.heap.size + 1 + 1, 3, none⟩) (by first | omega | (simp; omega) | simp) (.slice B3 l3.length d3)).below hb3 (by first | omega | (simp; omega) | simp)
  have B2_3 : Blk w3 (w.heap.size + 1 + 1) 36 #[.int .i64 L, .slice B1 l1.length d1, .slice B2 l2.length d2, .slice B3 l3.length d3, .int .i64 0, .int .i64 0, .int .i64 0] := (B2_2.set_ 3 (.slice B3 l3.length d3)).below hb3 (by first | omega | (simp; omega) | simp)
  have hB3 : Below w.heap.size w w3 := Below.trans ((by repeat (first | with_reducible exact hB2 | with_reducible apply below_drewN' | with_reducible apply Below.drew | (with_reducible refine Below.alloc ?_ (by first | omega | (simp; omega) | simp) _) | (with_reducible refine Below.setCell ?_ (by first | omega | (simp; omega) | simp) _) | exact hB2))) (hb3.mono (by first | omega | (simp; omega) | simp))
  have hBs3 := hB3.size
  have hZ3 := B2_3.lt
  have hO_1 := (own_far hO_1 (b := w.heap.size + 1 + 1) (off := 3) (u := .slice B3 l3.length d3) (by first | omega | (simp; omega) | simp)).below hb3
  have hO_2 := (own_far hO_2 (b := w.heap.size + 1 + 1) (off := 3) (u := .slice B3 l3.length d3) (by first | omega | (simp; omega) | simp)).below hb3
  have hO_3 := (own_far hO_3 (b := w.heap.size + 1 + 1) (off := 3) (u := .slice B3 l3.length d3) (by first | omega | (simp; omega) | simp)).below hb3
  have x0_3 : w3.cell? ⟨w.heap.size, 0, none⟩ = some (.int .i64 L) := B0_3.cell 0
  have y0_3 : w3.cell? ⟨w.heap.size + 1 + 1, 0, none⟩ = some (.int .i64 L) := B2_3.cell 0
  have yf0_3 : w3.frozen? ⟨w.heap.size + 1 + 1, 0, none⟩ = false := B2_3.frozen 0
  have z0_3 : w3.cell? ⟨w.heap.size + 1, 0, none⟩ = some (.int .i64 0) := B1_3.cell 0
  have zf0_3 : w3.frozen? ⟨w.heap.size + 1, 0, none⟩ = false := B1_3.frozen 0
  have x1_3 : w3.cell? ⟨w.heap.size, 1, none⟩ = some (.slice A1 l1.length c1) := B0_3.cell 1
  have y1_3 : w3.cell? ⟨w.heap.size + 1 + 1, 1, none⟩ = some (.slice B1 l1.length d1) := B2_3.cell 1
  have yf1_3 : w3.frozen? ⟨w.heap.size + 1 + 1, 1, none⟩ = false := B2_3.frozen 1
  have z1_3 : w3.cell? ⟨w.heap.size + 1, 1, none⟩ = some (.slice none 0 0) := B1_3.cell 1
  have zf1_3 : w3.frozen? ⟨w.heap.size + 1, 1, none⟩ = false := B1_3.frozen 1
  have x2_3 : w3.cell? ⟨w.heap.size, 2, none⟩ = some (.slice A2 l2.length c2) := B0_3.cell 2
  have y2_3 : w3.cell? ⟨w.heap.size + 1 + 1, 2, none⟩ = some (.slice B2 l2.length d2) := B2_3.cell 2
  have yf2_3 : w3.frozen? ⟨w.heap.size + 1 + 1, 2, none⟩ = false := B2_3.frozen 2
  have z2_3 : w3.cell? ⟨w.heap.size + 1, 2, none⟩ = some (.slice none 0 0) := B1_3.cell 2
  have zf2_3 : w3.frozen? ⟨w.heap.size + 1, 2, none⟩ = false := B1_3.frozen 2
  have x3_3 : w3.cell? ⟨w.heap.size, 3, none⟩ = some (.slice A3 l3.length c3) := B0_3.cell 3
  have y3_3 : w3.cell? ⟨w.heap.size + 1 + 1, 3, none⟩ = some (.slice B3 l3.length d3) := B2_3.cell 3
  have yf3_3 : w3.frozen? ⟨w.heap.size + 1 + 1, 3, none⟩ = false := B2_3.frozen 3
  have z3_3 : w3.cell? ⟨w.heap.size + 1, 3, none⟩ = some (.slice none 0 0) := B1_3.cell 3
  have zf3_3 : w3.frozen? ⟨w.heap.size + 1, 3, none⟩ = false := B1_3.frozen 3
  have x4_3 : w3.cell? ⟨w.heap.size, 4, none⟩ = some (.int .i64 p) := B0_3.cell 4
  have y4_3 : w3.cell? ⟨w.heap.size + 1 + 1, 4, none⟩ = some (.int .i64 0) := B2_3.cell 4
  have yf4_3 : w3.frozen? ⟨w.heap.size + 1 + 1, 4, none⟩ = false := B2_3.frozen 4
  have z4_3 : w3.cell? ⟨w.heap.size + 1, 4, none⟩ = some (.int .i64 0) := B1_3.cell 4
  have zf4_3 : w3.frozen? ⟨w.heap.size + 1, 4, none⟩ = false := B1_3.frozen 4
  have x5_3 : w3.cell? ⟨w.heap.size, 5, none⟩ = some (.int .i64 q) := B0_3.cell 5
  have y5_3 : w3.cell? ⟨w.heap.size + 1 + 1, 5, none⟩ = some (.int .i64 0) := B2_3.cell 5
  have yf5_3 : w3.frozen? ⟨w.heap.size + 1 + 1, 5, none⟩ = false := B2_3.frozen 5
  have z5_3 : w3.cell? ⟨w.heap.size + 1, 5, none⟩ = some (.int .i64 0) := B1_3.cell 5
  have zf5_3 : w3.frozen? ⟨w.heap.size + 1, 5, none⟩ = false := B1_3.frozen 5
  have x6_3 : w3.cell? ⟨w.heap.size, 6, none⟩ = some (.int .i64 r) := B0_3.cell 6
  have y6_3 : w3.cell? ⟨w.heap.size + 1 + 1, 6, none⟩ = some (.int .i64 0) := B2_3.cell 6
  have yf6_3 : w3.frozen? ⟨w.heap.size + 1 + 1, 6, none⟩ = false := B2_3.frozen 6
  have z6_3 : w3.cell? ⟨w.heap.size + 1, 6, none⟩ = some (.int .i64 0) := B1_3.cell 6
  have zf6_3 : w3.frozen? ⟨w.heap.size + 1, 6, none⟩ = false := B1_3.frozen 6
  go_wp2_with fail
  refine bodyPost_ret (v := .agg #[.int .i64 L, .slice B1 l1.length d1, .slice B2 l2.length d2, .slice B3 l3.length d3, .int .i64 p, .int .i64 q, .int .i64 r]) (by simp [results, Tryz.results15, go_sem, z0_3, z1_3, z2_3, z3_3, z4_3, z5_3, z6_3]) rfl ⟨B1, d1, B2, d2, B3, d3, rfl, own_mono (base := w.heap.size + 1 + 1 + 1) (by repeat (first | with_reducible exact hO_1 | (with_reducible refine own_far ?_ (by first | omega | (simp; omega))))) (by first | omega | (simp; omega) | simp), own_mono (base := w.heap.size + 1 + 1 + 1) (by repeat (first | with_reducible exact hO_2 | (with_reducible refine own_far ?_ (by first | omega | (simp; omega))))) (by first | omega | (simp; omega) | simp), own_mono (base := w.heap.size + 1 + 1 + 1) (by repeat (first | with_reducible exact hO_3 | (with_reducible refine own_far ?_ (by first | omega | (simp; omega))))) (by first | omega | (simp; omega) | simp), (by repeat (first | with_reducible exact hB3 | with_reducible apply below_drewN' | with_reducible apply Below.drew | (with_reducible refine Below.alloc ?_ (by first | omega | (simp; omega) | simp) _) | (with_reducible refine Below.setCell ?_ (by first | omega | (simp; omega) | simp) _) | exact hB3))⟩

set_option maxRecDepth 100000 in
theorem eqExercise_c (L : Int) (A1 : Option Addr) (c1 : Nat) (A1' : Option Addr) (c1' : Nat) (l1 : List Int) (A2 : Option Addr) (c2 : Nat) (A2' : Option Addr) (c2' : Nat) (l2 : List Int) (A3 : Option Addr) (c3 : Nat) (A3' : Option Addr) (c3' : Nat) (l3 : List Term) (p q r : Int) (w : World) (h1 : l1.length ≤ 1048576) (h2 : l2.length ≤ 1048576) (h3 : l3.length ≤ 1048576) (hs1 : Sl w w.heap.size 1 A1 (l1.map ic)) (hs2 : Sl w w.heap.size 1 A1' (l1.map ic)) (hs3 : Sl w w.heap.size 1 A2 (l2.map ic)) (hs4 : Sl w w.heap.size 1 A2' (l2.map ic)) (hs5 : Sl w w.heap.size 3 A3 (l3.map Term.cells)) (hs6 : Sl w w.heap.size 3 A3' (l3.map Term.cells)) :
    Calls Tryz.prog 17 #[.agg #[.int .i64 L, .slice A1 l1.length c1, .slice A2 l2.length c2, .slice A3 l3.length c3, .int .i64 p, .int .i64 q, .int .i64 r], .agg #[.int .i64 L, .slice A1' l1.length c1', .slice A2' l2.length c2', .slice A3' l3.length c3', .int .i64 p, .int .i64 q, .int .i64 r]] w fun e w' => e = .returned (.bool true) ∧ Below w.heap.size w w' := by
  go_enter Tryz.func17, Tryz.ntmps17
  go_wp2_with fail
  refine (eqRule_c L A1 c1 A1' c1' l1 A2 c2 A2' c2' l2 _ (by omega) (by omega) ((hs1.below ((by repeat (first | with_reducible exact Below.refl _ _ | with_reducible apply below_drewN' | with_reducible apply Below.drew | (with_reducible refine Below.alloc ?_ (by first | omega | (simp; omega) | simp) _) | (with_reducible refine Below.setCell ?_ (by first | omega | (simp; omega) | simp) _) | exact Below.refl _ _)))).more (by first | omega | (simp; omega) | simp)) ((hs2.below ((by repeat (first | with_reducible exact Below.refl _ _ | with_reducible apply below_drewN' | with_reducible apply Below.drew | (with_reducible refine Below.alloc ?_ (by first | omega | (simp; omega) | simp) _) | (with_reducible refine Below.setCell ?_ (by first | omega | (simp; omega) | simp) _) | exact Below.refl _ _)))).more (by first | omega | (simp; omega) | simp)) ((hs3.below ((by repeat (first | with_reducible exact Below.refl _ _ | with_reducible apply below_drewN' | with_reducible apply Below.drew | (with_reducible refine Below.alloc ?_ (by first | omega | (simp; omega) | simp) _) | (with_reducible refine Below.setCell ?_ (by first | omega | (simp; omega) | simp) _) | exact Below.refl _ _)))).more (by first | omega | (simp; omega) | simp)) ((hs4.below ((by repeat (first | with_reducible exact Below.refl _ _ | with_reducible apply below_drewN' | with_reducible apply Below.drew | (with_reducible refine Below.alloc ?_ (by first | omega | (simp; omega) | simp) _) | (with_reducible refine Below.setCell ?_ (by first | omega | (simp; omega) | simp) _) | exact Below.refl _ _)))).more (by first | omega | (simp; omega) | simp))).mono ?_; rintro e w1 ⟨rfl, hb1⟩
  have B0_1 := ((Blk.new w 36 #[.int .i64 L, .slice A1 l1.length c1, .slice A2 l2.length c2, .slice A3 l3.length c3, .int .i64 p, .int .i64 q, .int .i64 r]).alloc (.cells #[.int .i64 L, .slice A1' l1.length c1', .slice A2' l2.length c2', .slice A3' l3.length c3', .int .i64 p, .int .i64 q, .int .i64 r] 36)).below hb1 (by first | omega | (simp; omega) | simp)
  have B1_1 := (Blk.new' (w.alloc (.cells #[.int .i64 L, .slice A1 l1.length c1, .slice A2 l2.length c2, .slice A3 l3.length c3, .int .i64 p, .int .i64 q, .int .i64 r] 36)) 36 #[.int .i64 L, .slice A1' l1.length c1', .slice A2' l2.length c2', .slice A3' l3.length c3', .int .i64 p, .int .i64 q, .int .i64 r] (g := w.heap.size + 1) (by simp)).below hb1 (by first | omega | (simp; omega) | simp)
  have hB1 : Below w.heap.size w w1 := Below.trans ((by repeat (first | with_reducible exact Below.refl _ _ | with_reducible apply below_drewN' | with_reducible apply Below.drew | (with_reducible refine Below.alloc ?_ (by first | omega | (simp; omega) | simp) _) | (with_reducible refine Below.setCell ?_ (by first | omega | (simp; omega) | simp) _) | exact Below.refl _ _))) (hb1.mono (by first | omega | (simp; omega) | simp))
  have hBs1 := hB1.size
  have hZ1 := B1_1.lt
  have x0_1 : w1.cell? ⟨w.heap.size, 0, none⟩ = some (.int .i64 L) := B0_1.cell 0
  have y0_1 : w1.cell? ⟨w.heap.size + 1, 0, none⟩ = some (.int .i64 L) := B1_1.cell 0
  have x1_1 : w1.cell? ⟨w.heap.size, 1, none⟩ = some (.slice A1 l1.length c1) := B0_1.cell 1
  have y1_1 : w1.cell? ⟨w.heap.size + 1, 1, none⟩ = some (.slice A1' l1.length c1') := B1_1.cell 1
  have x2_1 : w1.cell? ⟨w.heap.size, 2, none⟩ = some (.slice A2 l2.length c2) := B0_1.cell 2
  have y2_1 : w1.cell? ⟨w.heap.size + 1, 2, none⟩ = some (.slice A2' l2.length c2') := B1_1.cell 2
  have x3_1 : w1.cell? ⟨w.heap.size, 3, none⟩ = some (.slice A3 l3.length c3) := B0_1.cell 3
  have y3_1 : w1.cell? ⟨w.heap.size + 1, 3, none⟩ = some (.slice A3' l3.length c3') := B1_1.cell 3
  have x4_1 : w1.cell? ⟨w.heap.size, 4, none⟩ = some (.int .i64 p) := B0_1.cell 4
  have y4_1 : w1.cell? ⟨w.heap.size + 1, 4, none⟩ = some (.int .i64 p) := B1_1.cell 4
  have x5_1 : w1.cell? ⟨w.heap.size, 5, none⟩ = some (.int .i64 q) := B0_1.cell 5
  have y5_1 : w1.cell? ⟨w.heap.size + 1, 5, none⟩ = some (.int .i64 q) := B1_1.cell 5
  have x6_1 : w1.cell? ⟨w.heap.size, 6, none⟩ = some (.int .i64 r) := B0_1.cell 6
  have y6_1 : w1.cell? ⟨w.heap.size + 1, 6, none⟩ = some (.int .i64 r) := B1_1.cell 6
  go_wp2_with fail
  refine (eqTermS_c A3 A3' c3 c3' l3 _ (by omega) ((hs5.below ((by repeat (first | with_reducible exact hB1 | with_reducible apply below_drewN' | with_reducible apply Below.drew | (with_reducible refine Below.alloc ?_ (by first | omega | (simp; omega) | simp) _) | (with_reducible refine Below.setCell ?_ (by first | omega | (simp; omega) | simp) _) | exact hB1)))).more (by first | omega | (simp; omega) | simp)) ((hs6.below ((by repeat (first | with_reducible exact hB1 | with_reducible apply below_drewN' | with_reducible apply Below.drew | (with_reducible refine Below.alloc ?_ (by first | omega | (simp; omega) | simp) _) | (with_reducible refine Below.setCell ?_ (by first | omega | (simp; omega) | simp) _) | exact hB1)))).more (by first | omega | (simp; omega) | simp))).mono ?_; rintro e w2 ⟨rfl, hb2⟩
  have B0_2 := B0_1.below hb2 (by first | omega | (simp; omega) | simp)
  have B1_2 := B1_1.below hb2 (by first | omega | (simp; omega) | simp)
  have hB2 : Below w.heap.size w w2 := Below.trans ((by repeat (first | with_reducible exact hB1 | with_reducible apply below_drewN' | with_reducible apply Below.drew | (with_reducible refine Below.alloc ?_ (by first | omega | (simp; omega) | simp) _) | (with_reducible refine Below.setCell ?_ (by first | omega | (simp; omega) | simp) _) | exact hB1))) (hb2.mono (by first | omega | (simp; omega) | simp))
  have hBs2 := hB2.size
  have hZ2 := B1_2.lt
  have x0_2 : w2.cell? ⟨w.heap.size, 0, none⟩ = some (.int .i64 L) := B0_2.cell 0
  have y0_2 : w2.cell? ⟨w.heap.size + 1, 0, none⟩ = some (.int .i64 L) := B1_2.cell 0
  have x1_2 : w2.cell? ⟨w.heap.size, 1, none⟩ = some (.slice A1 l1.length c1) := B0_2.cell 1
  have y1_2 : w2.cell? ⟨w.heap.size + 1, 1, none⟩ = some (.slice A1' l1.length c1') := B1_2.cell 1
  have x2_2 : w2.cell? ⟨w.heap.size, 2, none⟩ = some (.slice A2 l2.length c2) := B0_2.cell 2
  have y2_2 : w2.cell? ⟨w.heap.size + 1, 2, none⟩ = some (.slice A2' l2.length c2') := B1_2.cell 2
  have x3_2 : w2.cell? ⟨w.heap.size, 3, none⟩ = some (.slice A3 l3.length c3) := B0_2.cell 3
  have y3_2 : w2.cell? ⟨w.heap.size + 1, 3, none⟩ = some (.slice A3' l3.length c3') := B1_2.cell 3
  have x4_2 : w2.cell? ⟨w.heap.size, 4, none⟩ = some (.int .i64 p) := B0_2.cell 4
  have y4_2 : w2.cell? ⟨w.heap.size + 1, 4, none⟩ = some (.int .i64 p) := B1_2.cell 4
  have x5_2 : w2.cell? ⟨w.heap.size, 5, none⟩ = some (.int .i64 q) := B0_2.cell 5
  have y5_2 : w2.cell? ⟨w.heap.size + 1, 5, none⟩ = some (.int .i64 q) := B1_2.cell 5
  have x6_2 : w2.cell? ⟨w.heap.size, 6, none⟩ = some (.int .i64 r) := B0_2.cell 6
  have y6_2 : w2.cell? ⟨w.heap.size + 1, 6, none⟩ = some (.int .i64 r) := B1_2.cell 6
  go_wp2_with fail
  refine (eqErrors_c p q r _).mono ?_; rintro e w3 ⟨rfl, hb3⟩
  have B0_3 := B0_2.below hb3 (by first | omega | (simp; omega) | simp)
  have B1_3 := B1_2.below hb3 (by first | omega | (simp; omega) | simp)
  have hB3 : Below w.heap.size w w3 := Below.trans ((by repeat (first | with_reducible exact hB2 | with_reducible apply below_drewN' | with_reducible apply Below.drew | (with_reducible refine Below.alloc ?_ (by first | omega | (simp; omega) | simp) _) | (with_reducible refine Below.setCell ?_ (by first | omega | (simp; omega) | simp) _) | exact hB2))) (hb3.mono (by first | omega | (simp; omega) | simp))
  have hBs3 := hB3.size
  have hZ3 := B1_3.lt
  have x0_3 : w3.cell? ⟨w.heap.size, 0, none⟩ = some (.int .i64 L) := B0_3.cell 0
  have y0_3 : w3.cell? ⟨w.heap.size + 1, 0, none⟩ = some (.int .i64 L) := B1_3.cell 0
  have x1_3 : w3.cell? ⟨w.heap.size, 1, none⟩ = some (.slice A1 l1.length c1) := B0_3.cell 1
  have y1_3 : w3.cell? ⟨w.heap.size + 1, 1, none⟩ = some (.slice A1' l1.length c1') := B1_3.cell 1
  have x2_3 : w3.cell? ⟨w.heap.size, 2, none⟩ = some (.slice A2 l2.length c2) := B0_3.cell 2
  have y2_3 : w3.cell? ⟨w.heap.size + 1, 2, none⟩ = some (.slice A2' l2.length c2') := B1_3.cell 2
  have x3_3 : w3.cell? ⟨w.heap.size, 3, none⟩ = some (.slice A3 l3.length c3) := B0_3.cell 3
  have y3_3 : w3.cell? ⟨w.heap.size + 1, 3, none⟩ = some (.slice A3' l3.length c3') := B1_3.cell 3
  have x4_3 : w3.cell? ⟨w.heap.size, 4, none⟩ = some (.int .i64 p) := B0_3.cell 4
  have y4_3 : w3.cell? ⟨w.heap.size + 1, 4, none⟩ = some (.int .i64 p) := B1_3.cell 4
  have x5_3 : w3.cell? ⟨w.heap.size, 5, none⟩ = some (.int .i64 q) := B0_3.cell 5
  have y5_3 : w3.cell? ⟨w.heap.size + 1, 5, none⟩ = some (.int .i64 q) := B1_3.cell 5
  have x6_3 : w3.cell? ⟨w.heap.size, 6, none⟩ = some (.int .i64 r) := B0_3.cell 6
  have y6_3 : w3.cell? ⟨w.heap.size + 1, 6, none⟩ = some (.int .i64 r) := B1_3.cell 6
  go_wp2_with fail
  go_ret
  exact ⟨rfl, (by repeat (first | with_reducible exact hB3 | with_reducible apply below_drewN' | with_reducible apply Below.drew | (with_reducible refine Below.alloc ?_ (by first | omega | (simp; omega) | simp) _) | (with_reducible refine Below.setCell ?_ (by first | omega | (simp; omega) | simp) _) | exact hB3))⟩

set_option maxRecDepth 100000 in
theorem toAnswer_c (A1 : Option Addr) (c1 : Nat) (l1 : List Move) (p q : Int) (w : World) (h1 : l1.length ≤ 1048576) (hs1 : Sl w w.heap.size 4 A1 (l1.map Move.cells)) :
    Calls Tryz.prog 34 #[.agg #[.slice A1 l1.length c1, .int .i64 p, .int .i64 q]] w fun e w' => ∃ B1 d1, e = .returned (.agg #[.slice B1 l1.length d1, .int .i64 p, .int .i64 q]) ∧ Own w' w.heap.size 72 4 (.slice B1 l1.length d1) (l1.map Move.cells) ∧ Below w.heap.size w w' := by
  go_enter Tryz.func34, Tryz.ntmps34
  go_wp2_with fail
  refine (toMoveS_c A1 c1 l1 _ (by omega) ((hs1.below ((by repeat (first | with_reducible exact Below.refl _ _ | with_reducible apply below_drewN' | with_reducible apply Below.drew | (with_reducible refine Below.alloc ?_ (by first | omega | (simp; omega) | simp) _) | (with_reducible refine Below.setCell ?_ (by first | omega | (simp; omega) | simp) _) | exact Below.refl _ _)))).more (by first | omega | (simp; omega) | simp))).mono ?_; rintro e w1 ⟨B1, d1, rfl, hO_1, hb1⟩
  have B0_1 := (((Blk.new w 61 #[.slice A1 l1.length c1, .int .i64 p, .int .i64 q]).alloc (.cells #[.slice none 0 0, .int .i64 0, .int .i64 0] 67)).alloc (.cells #[.slice none 0 0, .int .i64 0, .int .i64 0] 67)).below hb1 (by first | omega | (simp; omega) | simp)
  have B1_1 := ((Blk.new' (w.alloc (.cells #[.slice A1 l1.length c1, .int .i64 p, .int .i64 q] 61)) 67 #[.slice none 0 0, .int .i64 0, .int .i64 0] (g := w.heap.size + 1) (by simp)).alloc (.cells #[.slice none 0 0, .int .i64 0, .int .i64 0] 67)).below hb1 (by first | omega | (simp; omega) | simp)
  have B2_1 : Blk w1 (w.heap.size + 1 + 1) 67 #[.slice none 0 0, .int .i64 0, .int .i64 0] := (Blk.new' ((w.alloc (.cells #[.slice A1 l1.length c1, .int .i64 p, .int .i64 q] 61)).alloc (.cells #[.slice none 0 0, .int .i64 0, .int .i64 0] 67)) 67 #[.slice none 0 0, .int .i64 0, .int .i64 0] (g := w.heap.size + 1 + 1) (by simp)).below hb1 (by first | omega | (simp; omega) | simp)
  have hB1 : Below w.heap.size w w1 := Below.trans ((by repeat (first | with_reducible exact Below.refl _ _ | with_reducible apply below_drewN' | with_reducible apply Below.drew | (with_reducible refine Below.alloc ?_ (by first | omega | (simp; omega) | simp) _) | (with_reducible refine Below.setCell ?_ (by first | omega | (simp; omega) | simp) _) | exact Below.refl _ _))) (hb1.mono (by first | omega | (simp; omega) | simp))
  have hBs1 := hB1.size
  have hZ1 := B2_1.lt
  have lt_1 := fun r hr => (hO_1.1.lt r hr).2
  have ge_1 := hO_1.ownGe
  have hO_1 := own_mono (base' := w.heap.size + 1 + 1 + 1) hO_1 (by first | omega | (simp; omega) | simp)
  have x0_1 : w1.cell? ⟨w.heap.size, 0, none⟩ = some (.slice A1 l1.length c1) := B0_1.cell 0
  have y0_1 : w1.cell? ⟨w.heap.size + 1 + 1, 0, none⟩ = some (.slice none 0 0) := B2_1.cell 0
  have yf0_1 : w1.frozen? ⟨w.heap.size + 1 + 1, 0, none⟩ = false := B2_1.frozen 0
  have z0_1 : w1.cell? ⟨w.heap.size + 1, 0, none⟩ = some (.slice none 0 0) := B1_1.cell 0
  have zf0_1 : w1.frozen? ⟨w.heap.size + 1, 0, none⟩ = false := B1_1.frozen 0
  have x1_1 : w1.cell? ⟨w.heap.size, 1, none⟩ = some (.int .i64 p) := B0_1.cell 1
  have y1_1 : w1.cell? ⟨w.heap.size + 1 + 1, 1, none⟩ = some (.int .i64 0) := B2_1.cell 1
  have yf1_1 : w1.frozen? ⟨w.heap.size + 1 + 1, 1, none⟩ = false := B2_1.frozen 1
  have z1_1 : w1.cell? ⟨w.heap.size + 1, 1, none⟩ = some (.int .i64 0) := B1_1.cell 1
  have zf1_1 : w1.frozen? ⟨w.heap.size + 1, 1, none⟩ = false := B1_1.frozen 1
  have x2_1 : w1.cell? ⟨w.heap.size, 2, none⟩ = some (.int .i64 q) := B0_1.cell 2
  have y2_1 : w1.cell? ⟨w.heap.size + 1 + 1, 2, none⟩ = some (.int .i64 0) := B2_1.cell 2
  have yf2_1 : w1.frozen? ⟨w.heap.size + 1 + 1, 2, none⟩ = false := B2_1.frozen 2
  have z2_1 : w1.cell? ⟨w.heap.size + 1, 2, none⟩ = some (.int .i64 0) := B1_1.cell 2
  have zf2_1 : w1.frozen? ⟨w.heap.size + 1, 2, none⟩ = false := B1_1.frozen 2
  go_wp2_with fail
  refine (toFigure_c p q _).mono ?_; rintro e w2 ⟨rfl, hb2⟩
  have B0_2 := (B0_1.far (p := ⟨w.heap.size + 1 + 1, 0, none⟩) (by first | omega | (simp; omega) | simp) (.slice B1 l1.length d1)).below hb2 (by first | omega | (simp; omega) | simp)
  have B1_2 := (B1_1.far (p := ⟨w.heap.size + 1 + 1, 0, none⟩) (by first | omega | (simp; omega) | simp) (.slice B1 l1.length d1)).below hb2 (by first | omega | (simp; omega) | simp)
  have B2_2 : Blk w2 (w.heap.size + 1 + 1) 67 #[.slice B1 l1.length d1, .int .i64 0, .int .i64 0] := (B2_1.set_ 0 (.slice B1 l1.length d1)).below hb2 (by first | omega | (simp; omega) | simp)
  have hB2 : Below w.heap.size w w2 := Below.trans ((by repeat (first | with_reducible exact hB1 | with_reducible apply below_drewN' | with_reducible apply Below.drew | (with_reducible refine Below.alloc ?_ (by first | omega | (simp; omega) | simp) _) | (with_reducible refine Below.setCell ?_ (by first | omega | (simp; omega) | simp) _) | exact hB1))) (hb2.mono (by first | omega | (simp; omega) | simp))
  have hBs2 := hB2.size
  have hZ2 := B2_2.lt
  have hO_1 := (own_far hO_1 (b := w.heap.size + 1 + 1) (off := 0) (u := .slice B1 l1.length d1) (by first | omega | (simp; omega) | simp)).below hb2
  have x0_2 : w2.cell? ⟨w.heap.size, 0, none⟩ = some (.slice A1 l1.length c1) := B0_2.cell 0
  have y0_2 : w2.cell? ⟨w.heap.size + 1 + 1, 0, none⟩ = some (.slice B1 l1.length d1) := B2_2.cell 0
  have yf0_2 : w2.frozen? ⟨w.heap.size + 1 + 1, 0, none⟩ = false := B2_2.frozen 0
  have z0_2 : w2.cell? ⟨w.heap.size + 1, 0, none⟩ = some (.slice none 0 0) := B1_2.cell 0
  have zf0_2 : w2.frozen? ⟨w.heap.size + 1, 0, none⟩ = false := B1_2.frozen 0
  have x1_2 : w2.cell? ⟨w.heap.size, 1, none⟩ = some (.int .i64 p) := B0_2.cell 1
  have y1_2 : w2.cell? ⟨w.heap.size + 1 + 1, 1, none⟩ = some (.int .i64 0) := B2_2.cell 1
  have yf1_2 : w2.frozen? ⟨w.heap.size + 1 + 1, 1, none⟩ = false := B2_2.frozen 1
  have z1_2 : w2.cell? ⟨w.heap.size + 1, 1, none⟩ = some (.int .i64 0) := B1_2.cell 1
  have zf1_2 : w2.frozen? ⟨w.heap.size + 1, 1, none⟩ = false := B1_2.frozen 1
  have x2_2 : w2.cell? ⟨w.heap.size, 2, none⟩ = some (.int .i64 q) := B0_2.cell 2
  have y2_2 : w2.cell? ⟨w.heap.size + 1 + 1, 2, none⟩ = some (.int .i64 0) := B2_2.cell 2
  have yf2_2 : w2.frozen? ⟨w.heap.size + 1 + 1, 2, none⟩ = false := B2_2.frozen 2
  have z2_2 : w2.cell? ⟨w.heap.size + 1, 2, none⟩ = some (.int .i64 0) := B1_2.cell 2
  have zf2_2 : w2.frozen? ⟨w.heap.size + 1, 2, none⟩ = false := B1_2.frozen 2
  go_wp2_with fail
  refine bodyPost_ret (v := .agg #[.slice B1 l1.length d1, .int .i64 p, .int .i64 q]) (by simp [results, Tryz.results34, go_sem, z0_2, z1_2, z2_2]) rfl ⟨B1, d1, rfl, own_mono (base := w.heap.size + 1 + 1 + 1) (by repeat (first | with_reducible exact hO_1 | (with_reducible refine own_far ?_ (by first | omega | (simp; omega))))) (by first | omega | (simp; omega) | simp), (by repeat (first | with_reducible exact hB2 | with_reducible apply below_drewN' | with_reducible apply Below.drew | (with_reducible refine Below.alloc ?_ (by first | omega | (simp; omega) | simp) _) | (with_reducible refine Below.setCell ?_ (by first | omega | (simp; omega) | simp) _) | exact hB2))⟩

set_option maxRecDepth 100000 in
theorem eqAnswer_c (A1 : Option Addr) (c1 : Nat) (A1' : Option Addr) (c1' : Nat) (l1 : List Move) (p q : Int) (w : World) (h1 : l1.length ≤ 1048576) (hs1 : Sl w w.heap.size 4 A1 (l1.map Move.cells)) (hs2 : Sl w w.heap.size 4 A1' (l1.map Move.cells)) :
    Calls Tryz.prog 36 #[.agg #[.slice A1 l1.length c1, .int .i64 p, .int .i64 q], .agg #[.slice A1' l1.length c1', .int .i64 p, .int .i64 q]] w fun e w' => e = .returned (.bool true) ∧ Below w.heap.size w w' := by
  go_enter Tryz.func36, Tryz.ntmps36
  go_wp2_with fail
  refine (eqMoveS_c A1 A1' c1 c1' l1 _ (by omega) ((hs1.below ((by repeat (first | with_reducible exact Below.refl _ _ | with_reducible apply below_drewN' | with_reducible apply Below.drew | (with_reducible refine Below.alloc ?_ (by first | omega | (simp; omega) | simp) _) | (with_reducible refine Below.setCell ?_ (by first | omega | (simp; omega) | simp) _) | exact Below.refl _ _)))).more (by first | omega | (simp; omega) | simp)) ((hs2.below ((by repeat (first | with_reducible exact Below.refl _ _ | with_reducible apply below_drewN' | with_reducible apply Below.drew | (with_reducible refine Below.alloc ?_ (by first | omega | (simp; omega) | simp) _) | (with_reducible refine Below.setCell ?_ (by first | omega | (simp; omega) | simp) _) | exact Below.refl _ _)))).more (by first | omega | (simp; omega) | simp))).mono ?_; rintro e w1 ⟨rfl, hb1⟩
  have B0_1 := ((Blk.new w 67 #[.slice A1 l1.length c1, .int .i64 p, .int .i64 q]).alloc (.cells #[.slice A1' l1.length c1', .int .i64 p, .int .i64 q] 67)).below hb1 (by first | omega | (simp; omega) | simp)
  have B1_1 := (Blk.new' (w.alloc (.cells #[.slice A1 l1.length c1, .int .i64 p, .int .i64 q] 67)) 67 #[.slice A1' l1.length c1', .int .i64 p, .int .i64 q] (g := w.heap.size + 1) (by simp)).below hb1 (by first | omega | (simp; omega) | simp)
  have hB1 : Below w.heap.size w w1 := Below.trans ((by repeat (first | with_reducible exact Below.refl _ _ | with_reducible apply below_drewN' | with_reducible apply Below.drew | (with_reducible refine Below.alloc ?_ (by first | omega | (simp; omega) | simp) _) | (with_reducible refine Below.setCell ?_ (by first | omega | (simp; omega) | simp) _) | exact Below.refl _ _))) (hb1.mono (by first | omega | (simp; omega) | simp))
  have hBs1 := hB1.size
  have hZ1 := B1_1.lt
  have x0_1 : w1.cell? ⟨w.heap.size, 0, none⟩ = some (.slice A1 l1.length c1) := B0_1.cell 0
  have y0_1 : w1.cell? ⟨w.heap.size + 1, 0, none⟩ = some (.slice A1' l1.length c1') := B1_1.cell 0
  have x1_1 : w1.cell? ⟨w.heap.size, 1, none⟩ = some (.int .i64 p) := B0_1.cell 1
  have y1_1 : w1.cell? ⟨w.heap.size + 1, 1, none⟩ = some (.int .i64 p) := B1_1.cell 1
  have x2_1 : w1.cell? ⟨w.heap.size, 2, none⟩ = some (.int .i64 q) := B0_1.cell 2
  have y2_1 : w1.cell? ⟨w.heap.size + 1, 2, none⟩ = some (.int .i64 q) := B1_1.cell 2
  go_wp2_with fail
  refine (eqFigure_c p q _).mono ?_; rintro e w2 ⟨rfl, hb2⟩
  have B0_2 := B0_1.below hb2 (by first | omega | (simp; omega) | simp)
  have B1_2 := B1_1.below hb2 (by first | omega | (simp; omega) | simp)
  have hB2 : Below w.heap.size w w2 := Below.trans ((by repeat (first | with_reducible exact hB1 | with_reducible apply below_drewN' | with_reducible apply Below.drew | (with_reducible refine Below.alloc ?_ (by first | omega | (simp; omega) | simp) _) | (with_reducible refine Below.setCell ?_ (by first | omega | (simp; omega) | simp) _) | exact hB1))) (hb2.mono (by first | omega | (simp; omega) | simp))
  have hBs2 := hB2.size
  have hZ2 := B1_2.lt
  have x0_2 : w2.cell? ⟨w.heap.size, 0, none⟩ = some (.slice A1 l1.length c1) := B0_2.cell 0
  have y0_2 : w2.cell? ⟨w.heap.size + 1, 0, none⟩ = some (.slice A1' l1.length c1') := B1_2.cell 0
  have x1_2 : w2.cell? ⟨w.heap.size, 1, none⟩ = some (.int .i64 p) := B0_2.cell 1
  have y1_2 : w2.cell? ⟨w.heap.size + 1, 1, none⟩ = some (.int .i64 p) := B1_2.cell 1
  have x2_2 : w2.cell? ⟨w.heap.size, 2, none⟩ = some (.int .i64 q) := B0_2.cell 2
  have y2_2 : w2.cell? ⟨w.heap.size + 1, 2, none⟩ = some (.int .i64 q) := B1_2.cell 2
  go_wp2_with fail
  go_ret
  exact ⟨rfl, (by repeat (first | with_reducible exact hB2 | with_reducible apply below_drewN' | with_reducible apply Below.drew | (with_reducible refine Below.alloc ?_ (by first | omega | (simp; omega) | simp) _) | (with_reducible refine Below.setCell ?_ (by first | omega | (simp; omega) | simp) _) | exact hB2))⟩
end Go.Proofs.YtgkobjpoeajkdaaGreat
namespace Go.Proofs.YtgkobjpoeajkdaaGreat
open Go.ChangeShapes Go.WideShapes Go.ChangeAt Go.RowKit Go.Deep
section
variable {H : Type} {enc : TypeId × Value → H} {P : Program} {w : World}
theorem dec_struct2 {t : TypeId} {f0 f1 : Field} (ht : P.underlying t = some (.struct #[f0, f1])) {k0 k1 : List Value → Prop} (h0 : Dec enc P w f0.type k0) (h1 : Dec enc P w f1.type k1) :
    Dec enc P w t (fun cs => cs.length = P.cellsOf t ∧ k0 ((cs.drop f0.offset).take (P.cellsOf f0.type)) ∧ k1 ((cs.drop f1.offset).take (P.cellsOf f1.type))) :=
  (dec_struct ht (fun i => if i = 0 then k0 else k1) (fun i f hi => by
    match i, hi with
    | 0, hi => obtain rfl : f0 = f := by simpa using hi
               exact h0
    | 1, hi => obtain rfl : f1 = f := by simpa using hi
               exact h1
    | (n + 2), hi => simp at hi)).imp fun cs ⟨hl, hf⟩ => ⟨hl, hf 0 f0 rfl, hf 1 f1 rfl⟩
theorem dec_struct3 {t : TypeId} {f0 f1 f2 : Field} (ht : P.underlying t = some (.struct #[f0, f1, f2])) {k0 k1 k2 : List Value → Prop} (h0 : Dec enc P w f0.type k0) (h1 : Dec enc P w f1.type k1) (h2 : Dec enc P w f2.type k2) :
    Dec enc P w t (fun cs => cs.length = P.cellsOf t ∧ k0 ((cs.drop f0.offset).take (P.cellsOf f0.type)) ∧ k1 ((cs.drop f1.offset).take (P.cellsOf f1.type)) ∧ k2 ((cs.drop f2.offset).take (P.cellsOf f2.type))) :=
  (dec_struct ht (fun i => if i = 0 then k0 else if i = 1 then k1 else k2) (fun i f hi => by
    match i, hi with
    | 0, hi => obtain rfl : f0 = f := by simpa using hi
               exact h0
    | 1, hi => obtain rfl : f1 = f := by simpa using hi
               exact h1
    | 2, hi => obtain rfl : f2 = f := by simpa using hi
               exact h2
    | (n + 3), hi => simp at hi)).imp fun cs ⟨hl, hf⟩ => ⟨hl, hf 0 f0 rfl, hf 1 f1 rfl, hf 2 f2 rfl⟩
end
section
variable {H : Type} {enc : TypeId × Value → H} {w : World}
theorem cells_int : Tryz.prog.cellsOf 2 = 1 := by kernel_rfl
def FigOk (cs : List Value) : Prop := ∃ a b : Int, cs = [.int .i64 a, .int .i64 b] ∧ (-9223372036854775808 ≤ a ∧ a ≤ 9223372036854775807) ∧ (-9223372036854775808 ≤ b ∧ b ≤ 9223372036854775807)
theorem dec_fig : Dec enc Tryz.prog w 59 FigOk :=
  (dec_struct2 Tryz.underlying59 (dec_int Tryz.underlying2) (dec_int Tryz.underlying2)).imp fun cs ⟨hl, h0, h1⟩ => by
    simp only [cells_int] at h0 h1
    rw [show Tryz.prog.cellsOf 59 = 2 from by kernel_rfl] at hl
    match cs, hl with
    | [x, y], _ =>
      obtain ⟨a, ha, ha'⟩ := h0
      obtain ⟨b, hb, hb'⟩ := h1
      simp at ha hb
      exact ⟨a, b, by rw [ha, hb], ha', hb'⟩
def TermOk (cs : List Value) : Prop := ∃ (a b : Int) (d : Bool), cs = [.int .i64 a, .int .i64 b, .bool d]
theorem dec_term : Dec enc Tryz.prog w 151 TermOk :=
  (dec_struct2 Tryz.underlying151 dec_fig (dec_bool Tryz.underlying4)).imp fun cs ⟨hl, h0, h1⟩ => by
    simp only [show Tryz.prog.cellsOf 59 = 2 from by kernel_rfl, show Tryz.prog.cellsOf 4 = 1 from by kernel_rfl] at h0 h1
    rw [show Tryz.prog.cellsOf 151 = 3 from by kernel_rfl] at hl
    match cs, hl with
    | [x, y, z], _ =>
      obtain ⟨a, b, hab, _⟩ := h0
      obtain ⟨d, hd⟩ := h1
      simp at hab hd
      exact ⟨a, b, d, by rw [hab.1, hab.2, hd]⟩
theorem terms_of_rows : ∀ rows : List (List Value), (∀ x ∈ rows, x.length = 3 ∧ TermOk x) → ∃ l : List Term, rows = l.map Term.cells
  | [], _ => ⟨[], rfl⟩
  | x :: r, h => by
    obtain ⟨l, hl⟩ := terms_of_rows r fun y hy => h y (by simp [hy])
    obtain ⟨a, b, d, hn⟩ := (h x (by simp)).2
    exact ⟨⟨a, b, d⟩ :: l, by rw [List.map_cons, hl, hn]; rfl⟩
def MoveOk (cs : List Value) : Prop := ∃ (k s a b : Int), cs = [.int .i64 k, .int .i64 s, .int .i64 a, .int .i64 b]
theorem dec_move : Dec enc Tryz.prog w 171 MoveOk :=
  (dec_struct3 Tryz.underlying171 (dec_int Tryz.underlying2) (dec_int Tryz.underlying2) dec_fig).imp fun cs ⟨hl, h0, h1, h2⟩ => by
    simp only [show Tryz.prog.cellsOf 59 = 2 from by kernel_rfl, cells_int] at h0 h1 h2
    rw [show Tryz.prog.cellsOf 171 = 4 from by kernel_rfl] at hl
    match cs, hl with
    | [x, y, z, u], _ =>
      obtain ⟨k, hk, _⟩ := h0
      obtain ⟨s, hs, _⟩ := h1
      obtain ⟨a, b, hab, _⟩ := h2
      simp at hab hk hs
      exact ⟨k, s, a, b, by rw [hk, hs, hab.1, hab.2]⟩
theorem moves_of_rows : ∀ rows : List (List Value), (∀ x ∈ rows, x.length = 4 ∧ MoveOk x) → ∃ l : List Move, rows = l.map Move.cells
  | [], _ => ⟨[], rfl⟩
  | x :: r, h => by
    obtain ⟨l, hl⟩ := moves_of_rows r fun y hy => h y (by simp [hy])
    obtain ⟨k, s, a, b, hn⟩ := (h x (by simp)).2
    exact ⟨⟨k, s, a, b⟩ :: l, by rw [List.map_cons, hl, hn]; rfl⟩
/-- a slice of int64 as a list -/
def IntsOk (w : World) (cs : List Value) : Prop := ∃ (A : Option Addr) (c : Nat) (l : List Int), cs = [.slice A l.length c] ∧ l.length ≤ c ∧ l.length ≤ 140737488351232 ∧ Sl w w.heap.size 1 A (l.map ic)
theorem dec_ints : Dec enc Tryz.prog w 22 (IntsOk w) :=
  (dec_slice (k := 1) Tryz.underlying22 (by kernel_rfl) (by omega) (of_decide_eq_true (by kernel_rfl)) (dec_int Tryz.underlying2)).imp fun cs ⟨A, c, xs, h1, h2, h3, h4, h5⟩ => by
    obtain ⟨l, rfl⟩ := ints_of_rows xs h4
    rw [List.length_map] at h1 h2 h3
    exact ⟨A, c, l, h1, h2, h3, h5⟩
def RuleOk (w : World) (cs : List Value) : Prop := ∃ (L : Int) (A1 : Option Addr) (c1 : Nat) (l1 : List Int) (A2 : Option Addr) (c2 : Nat) (l2 : List Int), cs = [.int .i64 L, .slice A1 l1.length c1, .slice A2 l2.length c2] ∧
  (l1.length ≤ c1 ∧ l1.length ≤ 140737488351232 ∧ Sl w w.heap.size 1 A1 (l1.map ic)) ∧ (l2.length ≤ c2 ∧ l2.length ≤ 140737488351232 ∧ Sl w w.heap.size 1 A2 (l2.map ic))
theorem dec_rule : Dec enc Tryz.prog w 24 (RuleOk w) :=
  (dec_struct3 Tryz.underlying24 (dec_int Tryz.underlying2) dec_ints dec_ints).imp fun cs ⟨hl, h0, h1, h2⟩ => by
    simp only [show Tryz.prog.cellsOf 22 = 1 from by kernel_rfl, cells_int] at h0 h1 h2
    rw [show Tryz.prog.cellsOf 24 = 3 from by kernel_rfl] at hl
    match cs, hl with
    | [x, y, z], _ =>
      obtain ⟨L, hL, _⟩ := h0
      obtain ⟨A1, c1, l1, e1, r1⟩ := h1
      obtain ⟨A2, c2, l2, e2, r2⟩ := h2
      simp at hL e1 e2
      exact ⟨L, A1, c1, l1, A2, c2, l2, by rw [hL, e1, e2], r1, r2⟩
def ErrOk (cs : List Value) : Prop := ∃ (p q r : Int), cs = [.int .i64 p, .int .i64 q, .int .i64 r]
theorem dec_err : Dec enc Tryz.prog w 27 ErrOk :=
  (dec_struct3 Tryz.underlying27 (dec_int Tryz.underlying2) (dec_int Tryz.underlying2) (dec_int Tryz.underlying2)).imp fun cs ⟨hl, h0, h1, h2⟩ => by
    simp only [cells_int] at h0 h1 h2
    rw [show Tryz.prog.cellsOf 27 = 3 from by kernel_rfl] at hl
    match cs, hl with
    | [x, y, z], _ =>
      obtain ⟨p, hp, _⟩ := h0
      obtain ⟨q, hq, _⟩ := h1
      obtain ⟨r, hr, _⟩ := h2
      simp at hp hq hr
      exact ⟨p, q, r, by rw [hp, hq, hr]⟩
def TermsOk (w : World) (cs : List Value) : Prop := ∃ (A : Option Addr) (c : Nat) (l : List Term), cs = [.slice A l.length c] ∧ l.length ≤ c ∧ l.length ≤ 140737488351232 ∧ Sl w w.heap.size 3 A (l.map Term.cells)
theorem dec_terms : Dec enc Tryz.prog w 25 (TermsOk w) :=
  (dec_slice (k := 3) Tryz.underlying25 (by kernel_rfl) (by omega) (of_decide_eq_true (by kernel_rfl)) dec_term).imp fun cs ⟨A, c, xs, h1, h2, h3, h4, h5⟩ => by
    obtain ⟨l, rfl⟩ := terms_of_rows xs h4
    rw [List.length_map] at h1 h2 h3
    exact ⟨A, c, l, h1, h2, h3, h5⟩
def MovesOk (w : World) (cs : List Value) : Prop := ∃ (A : Option Addr) (c : Nat) (l : List Move), cs = [.slice A l.length c] ∧ l.length ≤ c ∧ l.length ≤ 140737488351232 ∧ Sl w w.heap.size 4 A (l.map Move.cells)
theorem dec_moves : Dec enc Tryz.prog w 57 (MovesOk w) :=
  (dec_slice (k := 4) Tryz.underlying57 (by kernel_rfl) (by omega) (of_decide_eq_true (by kernel_rfl)) dec_move).imp fun cs ⟨A, c, xs, h1, h2, h3, h4, h5⟩ => by
    obtain ⟨l, rfl⟩ := moves_of_rows xs h4
    rw [List.length_map] at h1 h2 h3
    exact ⟨A, c, l, h1, h2, h3, h5⟩
/-- an exercise's lists, as they lie in w, their lengths open -/
structure ExLaid (w : World) (A1 : Option Addr) (c1 : Nat) (l1 : List Int) (A2 : Option Addr) (c2 : Nat) (l2 : List Int) (A3 : Option Addr) (c3 : Nat) (l3 : List Term) : Prop where
  z1 : l1.length ≤ 140737488351232
  z2 : l2.length ≤ 140737488351232
  z3 : l3.length ≤ 140737488351232
  k1 : l1.length ≤ c1
  k2 : l2.length ≤ c2
  k3 : l3.length ≤ c3
  s1 : Sl w w.heap.size 1 A1 (l1.map ic)
  s2 : Sl w w.heap.size 1 A2 (l2.map ic)
  s3 : Sl w w.heap.size 3 A3 (l3.map Term.cells)
def ExOk (w : World) (cs : List Value) : Prop := ∃ (L : Int) (A1 : Option Addr) (c1 : Nat) (l1 : List Int) (A2 : Option Addr) (c2 : Nat) (l2 : List Int) (A3 : Option Addr) (c3 : Nat) (l3 : List Term) (p q r : Int),
  cs = [.int .i64 L, .slice A1 l1.length c1, .slice A2 l2.length c2, .slice A3 l3.length c3, .int .i64 p, .int .i64 q, .int .i64 r] ∧ ExLaid w A1 c1 l1 A2 c2 l2 A3 c3 l3
theorem dec_ex : Dec enc Tryz.prog w 29 (ExOk w) :=
  (dec_struct3 Tryz.underlying29 dec_rule dec_terms dec_err).imp fun cs ⟨hl, h0, h1, h2⟩ => by
    simp only [show Tryz.prog.cellsOf 24 = 3 from by kernel_rfl, show Tryz.prog.cellsOf 25 = 1 from by kernel_rfl, show Tryz.prog.cellsOf 27 = 3 from by kernel_rfl] at h0 h1 h2
    rw [show Tryz.prog.cellsOf 29 = 7 from by kernel_rfl] at hl
    match cs, hl with
    | [x0, x1, x2, x3, x4, x5, x6], _ =>
      obtain ⟨L, A1, c1, l1, A2, c2, l2, e1, ⟨r1, r2, r3⟩, ⟨r4, r5, r6⟩⟩ := h0
      obtain ⟨A3, c3, l3, e2, r7, r8, r9⟩ := h1
      obtain ⟨p, q, r, e3⟩ := h2
      simp at e1 e2 e3
      exact ⟨L, A1, c1, l1, A2, c2, l2, A3, c3, l3, p, q, r, by rw [e1.1, e1.2.1, e1.2.2, e2, e3.1, e3.2.1, e3.2.2], ⟨r2, r5, r8, r1, r4, r7, r3, r6, r9⟩⟩
def AnsOk (w : World) (cs : List Value) : Prop := ∃ (A : Option Addr) (c : Nat) (l : List Move) (a b : Int), cs = [.slice A l.length c, .int .i64 a, .int .i64 b] ∧ l.length ≤ c ∧ l.length ≤ 140737488351232 ∧ Sl w w.heap.size 4 A (l.map Move.cells)
theorem dec_ans : Dec enc Tryz.prog w 61 (AnsOk w) :=
  (dec_struct2 Tryz.underlying61 dec_moves dec_fig).imp fun cs ⟨hl, h0, h1⟩ => by
    simp only [show Tryz.prog.cellsOf 57 = 1 from by kernel_rfl, show Tryz.prog.cellsOf 59 = 2 from by kernel_rfl] at h0 h1
    rw [show Tryz.prog.cellsOf 61 = 3 from by kernel_rfl] at hl
    match cs, hl with
    | [x, y, z], _ =>
      obtain ⟨A, c, l, e1, r1⟩ := h0
      obtain ⟨a, b, e2, _⟩ := h1
      simp at e1 e2
      exact ⟨A, c, l, a, b, by rw [e1, e2.1, e2.2], r1⟩
end
set_option maxRecDepth 100000 in
theorem szRule_c (L : Int) (A1 : Option Addr) (n1 c1 : Nat) (A2 : Option Addr) (n2 c2 : Nat) (left : Int) (w : World) (h1 : n1 ≤ 140737488351232) (h2 : n2 ≤ 140737488351232) (hl : 0 ≤ left ∧ left ≤ 1048576) :
    Calls Tryz.prog 23 #[.agg #[.int .i64 L, .slice A1 n1 c1, .slice A2 n2 c2], .int .i64 left] w fun e w' => (∃ v : Int, e = .returned (.int .i64 v) ∧ (v < 0 ∨ (0 ≤ v ∧ v ≤ left ∧ n1 ≤ 1048576 ∧ n2 ≤ 1048576))) ∧ Below w.heap.size w w' := by
  have HS := fun A n c left W h h' => Lib.hid (szInt64S_c A n c left W h h')
  obtain ⟨hl1, hl2⟩ := hl
  by_cases h : left < n1
  · have H := HS A1 n1 c1 left
    rw [if_pos h] at H
    go_enter Tryz.func23, Tryz.ntmps23
    go_wp2_with (go_at_call 70; refine Calls.mono (H _ h1 ⟨hl1, hl2⟩).out ?_; rintro e w1 ⟨rfl, rfl⟩)
    go_ret
    exact ⟨⟨-1, rfl, .inl (by omega)⟩, (by repeat (first | with_reducible exact Below.refl _ _ | with_reducible apply below_drewN' | with_reducible apply Below.drew | (with_reducible refine Below.alloc ?_ (by first | omega | (simp; omega) | simp) _) | (with_reducible refine Below.setCell ?_ (by first | omega | (simp; omega) | simp) _) | exact Below.refl _ _))⟩
  · have H := HS A1 n1 c1 left
    rw [if_neg h] at H
    have hx : 0 ≤ left - n1 ∧ left - n1 ≤ 1048576 := by omega
    have hxn : ¬ left - n1 < 0 := by omega
    by_cases h' : left - n1 < n2
    · have H' := HS A2 n2 c2 (left - n1)
      rw [if_pos h'] at H'
      go_enter Tryz.func23, Tryz.ntmps23
      go_wp2_with (first | (go_at_call 70; with_reducible refine Calls.mono (H _ h1 ⟨hl1, hl2⟩).out ?_; rintro e w1 ⟨rfl, rfl⟩) | (go_at_call 70; with_reducible refine Calls.mono (H' _ h2 hx).out ?_; rintro e w1 ⟨rfl, rfl⟩))
      go_ret
      exact ⟨⟨-1, rfl, .inl (by omega)⟩, (by repeat (first | with_reducible exact Below.refl _ _ | with_reducible apply below_drewN' | with_reducible apply Below.drew | (with_reducible refine Below.alloc ?_ (by first | omega | (simp; omega) | simp) _) | (with_reducible refine Below.setCell ?_ (by first | omega | (simp; omega) | simp) _) | exact Below.refl _ _))⟩
    · have H' := HS A2 n2 c2 (left - n1)
      rw [if_neg h'] at H'
      have hxm : ¬ left - n1 - n2 < 0 := by omega
      go_enter Tryz.func23, Tryz.ntmps23
      go_wp2_with (first | (go_at_call 70; with_reducible refine Calls.mono (H _ h1 ⟨hl1, hl2⟩).out ?_; rintro e w1 ⟨rfl, rfl⟩) | (go_at_call 70; with_reducible refine Calls.mono (H' _ h2 hx).out ?_; rintro e w1 ⟨rfl, rfl⟩))
      go_ret
      exact ⟨⟨left - n1 - n2, rfl, .inr ⟨by omega, by omega, by omega, by omega⟩⟩, (by repeat (first | with_reducible exact Below.refl _ _ | with_reducible apply below_drewN' | with_reducible apply Below.drew | (with_reducible refine Below.alloc ?_ (by first | omega | (simp; omega) | simp) _) | (with_reducible refine Below.setCell ?_ (by first | omega | (simp; omega) | simp) _) | exact Below.refl _ _))⟩
end Go.Proofs.YtgkobjpoeajkdaaGreat
namespace Go.Proofs.YtgkobjpoeajkdaaGreat
open Go.RowKit
/-- what is left of the law's size: below nought, or the lists are short -/
def SzPost (left : Int) (ok : Prop) (w : World) (e : Ending) (w' : World) : Prop := (∃ v : Int, e = .returned (.int .i64 v) ∧ (v < 0 ∨ (0 ≤ v ∧ v ≤ left ∧ ok))) ∧ Below w.heap.size w w'
set_option maxRecDepth 100000 in
theorem szExercise_c (L : Int) (A1 : Option Addr) (n1 c1 : Nat) (A2 : Option Addr) (n2 c2 : Nat) (A3 : Option Addr) (n3 c3 : Nat) (p q r : Int) (left : Int) (w : World) (h1 : n1 ≤ 140737488351232) (h2 : n2 ≤ 140737488351232) (h3 : n3 ≤ 140737488351232) (hl : 0 ≤ left ∧ left ≤ 1048576) :
    Calls Tryz.prog 13 #[.agg #[.int .i64 L, .slice A1 n1 c1, .slice A2 n2 c2, .slice A3 n3 c3, .int .i64 p, .int .i64 q, .int .i64 r], .int .i64 left] w (SzPost left (n1 ≤ 1048576 ∧ n2 ≤ 1048576 ∧ n3 ≤ 1048576) w) := by
  have HR := fun W => Lib.hid (szRule_c L A1 n1 c1 A2 n2 c2 left W h1 h2 hl)
  have HS := fun left W h' => Lib.hid (szTermS_c A3 n3 c3 left W h3 h')
  have hW : Below w.heap.size w (w.alloc (.cells #[.int .i64 L, .slice A1 n1 c1, .slice A2 n2 c2, .slice A3 n3 c3, .int .i64 p, .int .i64 q, .int .i64 r] 29)) := (by repeat (first | with_reducible exact Below.refl _ _ | with_reducible apply below_drewN' | with_reducible apply Below.drew | (with_reducible refine Below.alloc ?_ (by first | omega | (simp; omega) | simp) _) | (with_reducible refine Below.setCell ?_ (by first | omega | (simp; omega) | simp) _) | exact Below.refl _ _))
  have B2 := Blk.new w 29 #[.int .i64 L, .slice A1 n1 c1, .slice A2 n2 c2, .slice A3 n3 c3, .int .i64 p, .int .i64 q, .int .i64 r]
  go_enter Tryz.func13, Tryz.ntmps13
  go_wp2_with fail
  generalize w.alloc (.cells #[.int .i64 L, .slice A1 n1 c1, .slice A2 n2 c2, .slice A3 n3 c3, .int .i64 p, .int .i64 q, .int .i64 r] 29) = W at *
  refine Calls.mono (HR W).out ?_; rintro e w1 ⟨⟨v, rfl, hv⟩, hb1⟩
  have hW1 := hW.trans (hb1.mono hW.size)
  have C2 := B2.below hb1 B2.lt
  have y0 : w1.cell? ⟨w.heap.size, 3, none⟩ = some (.slice A3 n3 c3) := C2.cell 3
  clear hW B2 hb1 C2 HR
  rcases hv with hv | ⟨hv0, hvl, hv1, hv2⟩
  · go_wp2
    go_ret
    exact ⟨⟨-1, rfl, .inl (by omega)⟩, (by repeat (first | with_reducible exact hW1 | with_reducible apply below_drewN' | with_reducible apply Below.drew | (with_reducible refine Below.alloc ?_ (by first | omega | (simp; omega) | simp) _) | (with_reducible refine Below.setCell ?_ (by first | omega | (simp; omega) | simp) _) | exact hW1))⟩
  · have hvn : ¬ v < 0 := by omega
    by_cases h : v < n3
    · have H := HS v
      rw [if_pos h] at H
      go_wp2_with (go_at_call 60; refine Calls.mono (H _ (by omega)).out ?_; rintro e w2 ⟨rfl, rfl⟩)
      go_ret
      exact ⟨⟨-1, rfl, .inl (by omega)⟩, (by repeat (first | with_reducible exact hW1 | with_reducible apply below_drewN' | with_reducible apply Below.drew | (with_reducible refine Below.alloc ?_ (by first | omega | (simp; omega) | simp) _) | (with_reducible refine Below.setCell ?_ (by first | omega | (simp; omega) | simp) _) | exact hW1))⟩
    · have H := HS v
      rw [if_neg h] at H
      have hm : ¬ v - n3 < 0 := by omega
      go_wp2_with (go_at_call 60; refine Calls.mono (H _ (by omega)).out ?_; rintro e w2 ⟨rfl, rfl⟩)
      go_ret
      exact ⟨⟨v - n3, rfl, .inr ⟨by omega, by omega, hv1, hv2, by omega⟩⟩, (by repeat (first | with_reducible exact hW1 | with_reducible apply below_drewN' | with_reducible apply Below.drew | (with_reducible refine Below.alloc ?_ (by first | omega | (simp; omega) | simp) _) | (with_reducible refine Below.setCell ?_ (by first | omega | (simp; omega) | simp) _) | exact hW1))⟩
/-- the exercise that a copy made -/
def exAgg (L : Int) (B1 : Option Addr) (n1 d1 : Nat) (B2 : Option Addr) (n2 d2 : Nat) (B3 : Option Addr) (n3 d3 : Nat) (p q r : Int) : Value := .agg #[.int .i64 L, .slice B1 n1 d1, .slice B2 n2 d2, .slice B3 n3 d3, .int .i64 p, .int .i64 q, .int .i64 r]
theorem ExLaid.ex {w : World} {A1 : Option Addr} {c1 : Nat} {l1 : List Int} {A2 : Option Addr} {c2 : Nat} {l2 : List Int} {A3 : Option Addr} {c3 : Nat} {l3 : List Term} (X : ExLaid w A1 c1 l1 A2 c2 l2 A3 c3 l3) (h : l1.length ≤ 1048576 ∧ l2.length ≤ 1048576 ∧ l3.length ≤ 1048576) : ExIn w A1 c1 l1 A2 c2 l2 A3 c3 l3 :=
  ⟨h.1, h.2.1, h.2.2, X.k1, X.k2, X.k3, X.s1, X.s2, X.s3⟩
/-- a copy of an exercise: new memory, the same lists -/
def ExCopy (L : Int) (l1 l2 : List Int) (l3 : List Term) (p q r : Int) (v : Value) (w : World) (base : Nat) : Prop := ∃ B1 d1 B2 d2 B3 d3, v = exAgg L B1 l1.length d1 B2 l2.length d2 B3 l3.length d3 p q r ∧ ExIn w B1 d1 l1 B2 d2 l2 B3 d3 l3 ∧
  Own w base 2 1 (.slice B1 l1.length d1) (l1.map ic) ∧ Own w base 2 1 (.slice B2 l2.length d2) (l2.map ic) ∧ Own w base 118 3 (.slice B3 l3.length d3) (l3.map Term.cells)
theorem own_le {w : World} {base n c : Nat} {A : Option Addr} {e : TypeId} {k : Nat} {xs : List (List Value)} (h : Own w base e k (.slice A n c) xs) : n ≤ c := h.le_cap
theorem ExPost.copy {L : Int} {l1 l2 : List Int} {l3 : List Term} {p q r : Int} {w : World} {e : Ending} {w' : World} (h : ExPost L l1 l2 l3 p q r w e w') (hh : l1.length ≤ 1048576 ∧ l2.length ≤ 1048576 ∧ l3.length ≤ 1048576) : (∃ v, e = .returned v ∧ ExCopy L l1 l2 l3 p q r v w' w.heap.size) ∧ Below w.heap.size w w' := by
  obtain ⟨B1, d1, B2, d2, B3, d3, rfl, o1, o2, o3, hb⟩ := h
  exact ⟨⟨_, rfl, B1, d1, B2, d2, B3, d3, rfl, ⟨hh.1, hh.2.1, hh.2.2, o1.le_cap, o2.le_cap, o3.le_cap, o1.sl, o2.sl, o3.sl⟩, o1, o2, o3⟩, hb⟩
theorem ExCopy.below {L : Int} {l1 l2 : List Int} {l3 : List Term} {p q r : Int} {v : Value} {w w' : World} {base : Nat} (h : ExCopy L l1 l2 l3 p q r v w base) (hb : Below w.heap.size w w') : ExCopy L l1 l2 l3 p q r v w' base := by
  obtain ⟨B1, d1, B2, d2, B3, d3, h1, h2, o1, o2, o3⟩ := h
  exact ⟨B1, d1, B2, d2, B3, d3, h1, h2.later hb, o1.below hb, o2.below hb, o3.below hb⟩
theorem ExCopy.weak {L : Int} {l1 l2 : List Int} {l3 : List Term} {p q r : Int} {v : Value} {w : World} {base base' : Nat} (h : ExCopy L l1 l2 l3 p q r v w base) (hb : base' ≤ base) : ExCopy L l1 l2 l3 p q r v w base' := by
  obtain ⟨B1, d1, B2, d2, B3, d3, h1, h2, o1, o2, o3⟩ := h
  exact ⟨B1, d1, B2, d2, B3, d3, h1, h2, o1.mono hb, o2.mono hb, o3.mono hb⟩
theorem toEx_c (L : Int) (A1 : Option Addr) (c1 : Nat) (l1 : List Int) (A2 : Option Addr) (c2 : Nat) (l2 : List Int) (A3 : Option Addr) (c3 : Nat) (l3 : List Term) (p q r : Int) (w : World) (E : ExIn w A1 c1 l1 A2 c2 l2 A3 c3 l3) :
    Calls Tryz.prog 15 #[exAgg L A1 l1.length c1 A2 l2.length c2 A3 l3.length c3 p q r] w fun e w' => (∃ v, e = .returned v ∧ ExCopy L l1 l2 l3 p q r v w' w.heap.size) ∧ Below w.heap.size w w' :=
  (toExercise_c L A1 c1 l1 A2 c2 l2 A3 c3 l3 p q r w E.h1 E.h2 E.h3 E.s1 E.s2 E.s3).mono fun _ _ h => h.copy ⟨E.h1, E.h2, E.h3⟩
theorem eqEx_c (L : Int) (A1 : Option Addr) (c1 : Nat) (A1' : Option Addr) (c1' : Nat) (l1 : List Int) (A2 : Option Addr) (c2 : Nat) (A2' : Option Addr) (c2' : Nat) (l2 : List Int) (A3 : Option Addr) (c3 : Nat) (A3' : Option Addr) (c3' : Nat) (l3 : List Term) (p q r : Int) (w : World)
    (E : ExIn w A1 c1 l1 A2 c2 l2 A3 c3 l3) (E' : ExIn w A1' c1' l1 A2' c2' l2 A3' c3' l3) :
    Calls Tryz.prog 17 #[exAgg L A1 l1.length c1 A2 l2.length c2 A3 l3.length c3 p q r, exAgg L A1' l1.length c1' A2' l2.length c2' A3' l3.length c3' p q r] w fun e w' => e = .returned (.bool true) ∧ Below w.heap.size w w' :=
  eqExercise_c L A1 c1 A1' c1' l1 A2 c2 A2' c2' l2 A3 c3 A3' c3' l3 p q r w E.h1 E.h2 E.h3 E.s1 E'.s1 E.s2 E'.s2 E.s3 E'.s3
/-- while '!eqExercise(x0, toExercise(aX))' runs -/
structure EqS (w1 : World) (b : Bool) (Q : Value → World → Prop) (x : Value) (v : World) : Prop where
  hb : Below w1.heap.size w1 v
  q : b = true → Q x v
set_option maxRecDepth 100000 in
set_option maxHeartbeats 2000000 in
theorem lawIsExercise_c (L : Int) (A1 : Option Addr) (c1 : Nat) (l1 : List Int) (A2 : Option Addr) (c2 : Nat) (l2 : List Int) (A3 : Option Addr) (c3 : Nat) (l3 : List Term) (p q r : Int) (w : World) (X : ExLaid w A1 c1 l1 A2 c2 l2 A3 c3 l3) :
    Calls Tryz.prog 3 #[exAgg L A1 l1.length c1 A2 l2.length c2 A3 l3.length c3 p q r] w fun e w' => e = .returned (.bool true) ∧ Below w.heap.size w w' := by
  have HZ := fun W => Lib.hid (szExercise_c L A1 l1.length c1 A2 l2.length c2 A3 l3.length c3 p q r 1048576 W X.z1 X.z2 X.z3 (by omega))
  have hW : Below w.heap.size w (w.alloc (.cells #[.int .i64 L, .slice A1 l1.length c1, .slice A2 l2.length c2, .slice A3 l3.length c3, .int .i64 p, .int .i64 q, .int .i64 r] 29)) := (by repeat (first | with_reducible exact Below.refl _ _ | with_reducible apply below_drewN' | with_reducible apply Below.drew | (with_reducible refine Below.alloc ?_ (by first | omega | (simp; omega) | simp) _) | (with_reducible refine Below.setCell ?_ (by first | omega | (simp; omega) | simp) _) | exact Below.refl _ _))
  have B1 := Blk.new w 29 #[.int .i64 L, .slice A1 l1.length c1, .slice A2 l2.length c2, .slice A3 l3.length c3, .int .i64 p, .int .i64 q, .int .i64 r]
  have X := Lib.hid X
  unfold exAgg
  go_enter Tryz.func3, Tryz.ntmps3
  go_wp2_with fail
  generalize w.alloc (.cells #[.int .i64 L, .slice A1 l1.length c1, .slice A2 l2.length c2, .slice A3 l3.length c3, .int .i64 p, .int .i64 q, .int .i64 r] 29) = W at *
  refine Calls.mono (HZ W).out ?_; rintro e w1 ⟨⟨v, rfl, hv⟩, hb1⟩
  have hW1 := hW.trans (hb1.mono hW.size)
  have C1 := B1.below hb1 B1.lt
  clear hW B1 hb1 HZ
  rcases hv with hv | ⟨hv0, _, hlen⟩
  · clear C1
    go_wp2
    go_ret
    exact ⟨rfl, (by repeat (first | with_reducible exact hW1 | with_reducible apply below_drewN' | with_reducible apply Below.drew | (with_reducible refine Below.alloc ?_ (by first | omega | (simp; omega) | simp) _) | (with_reducible refine Below.setCell ?_ (by first | omega | (simp; omega) | simp) _) | exact hW1))⟩
  have hvn : ¬ v < 0 := by omega
  have E := Lib.hid (X.out.ex hlen)
  clear X hlen
  have HT := fun (W : World) (hW : Below w.heap.size w W) => Lib.hid (toEx_c L A1 c1 l1 A2 c2 l2 A3 c3 l3 p q r W (E.out.later hW))
  unfold exAgg at HT
  have HT := Lib.hid HT
  have HSp := fun (B1 : Option Addr) d1 B2 d2 B3 d3 W (E' : ExIn W B1 d1 l1 B2 d2 l2 B3 d3 l3) => Lib.hid (specIsExercise_c L B1 d1 l1 B2 d2 l2 B3 d3 l3 p q r W E')
  have HIm := fun (B1 : Option Addr) d1 B2 d2 B3 d3 W (E' : ExIn W B1 d1 l1 B2 d2 l2 B3 d3 l3) => Lib.hid (implIsExercise_c L B1 d1 l1 B2 d2 l2 B3 d3 l3 p q r W E')
  have HSp := Lib.hid HSp
  have HIm := Lib.hid HIm
  generalize exB L l1 l2 l3 p q r = exb at *
  have y0 : w1.cell? ⟨w.heap.size, 0, none⟩ = some (.int .i64 L) := C1.cell 0
  have y1 : w1.cell? ⟨w.heap.size, 1, none⟩ = some (.slice A1 l1.length c1) := C1.cell 1
  have y2 : w1.cell? ⟨w.heap.size, 2, none⟩ = some (.slice A2 l2.length c2) := C1.cell 2
  have y3 : w1.cell? ⟨w.heap.size, 3, none⟩ = some (.slice A3 l3.length c3) := C1.cell 3
  have y4 : w1.cell? ⟨w.heap.size, 4, none⟩ = some (.int .i64 p) := C1.cell 4
  have y5 : w1.cell? ⟨w.heap.size, 5, none⟩ = some (.int .i64 q) := C1.cell 5
  have y6 : w1.cell? ⟨w.heap.size, 6, none⟩ = some (.int .i64 r) := C1.cell 6
  go_wp2_with fail
  refine Calls.mono (HT.out w1 hW1).out ?_; rintro e w2 ⟨⟨v2, rfl, B1, d1, B2, d2, B3, d3, rfl, E2, _, _, _⟩, hb2⟩
  have hW2 := hW1.trans (hb2.mono hW1.size)
  have C2 := C1.below hb2 C1.lt
  clear y0 y1 y2 y3 y4 y5 y6 hb2 C1 hW1
  have hcall := HSp.out B1 d1 B2 d2 B3 d3 w2 E2
  clear E2
  unfold exAgg
  go_wp2_with fail
  refine Calls.mono hcall.out ?_; rintro e w3 ⟨rfl, hb3⟩
  have hW3 := hW2.trans (hb3.mono hW2.size)
  have C3 := C2.below hb3 C2.lt
  clear hb3 C2 hW2 hcall HSp
  have y0 : w3.cell? ⟨w.heap.size, 0, none⟩ = some (.int .i64 L) := C3.cell 0
  have y1 : w3.cell? ⟨w.heap.size, 1, none⟩ = some (.slice A1 l1.length c1) := C3.cell 1
  have y2 : w3.cell? ⟨w.heap.size, 2, none⟩ = some (.slice A2 l2.length c2) := C3.cell 2
  have y3 : w3.cell? ⟨w.heap.size, 3, none⟩ = some (.slice A3 l3.length c3) := C3.cell 3
  have y4 : w3.cell? ⟨w.heap.size, 4, none⟩ = some (.int .i64 p) := C3.cell 4
  have y5 : w3.cell? ⟨w.heap.size, 5, none⟩ = some (.int .i64 q) := C3.cell 5
  have y6 : w3.cell? ⟨w.heap.size, 6, none⟩ = some (.int .i64 r) := C3.cell 6
  go_wp2_with fail
  refine Calls.mono (HT.out w3 hW3).out ?_; rintro e w4 ⟨⟨v4, rfl, G1, g1, G2, g2, G3, g3, rfl, E4, _, _, _⟩, hb4⟩
  have hW4 := hW3.trans (hb4.mono hW3.size)
  have C4 := C3.below hb4 C3.lt
  clear y0 y1 y2 y3 y4 y5 y6 hb4 C3 hW3
  unfold exAgg
  have hba : Below w4.heap.size w4 (w4.alloc (.cells #[.int .i64 L, .slice G1 l1.length g1, .slice G2 l2.length g2, .slice G3 l3.length g3, .int .i64 p, .int .i64 q, .int .i64 r] 36)) := (Below.refl _ _).alloc (Nat.le_refl _) _
  have hcall := HIm.out G1 g1 G2 g2 G3 g3 _ (E4.later hba)
  go_wp2_with fail
  have E5 := E4.later hba
  have C5 := C4.below hba C4.lt
  have D5 := Blk.new w4 36 #[.int .i64 L, .slice G1 l1.length g1, .slice G2 l2.length g2, .slice G3 l3.length g3, .int .i64 p, .int .i64 q, .int .i64 r]
  have hW5 := hW4.trans (hba.mono hW4.size)
  clear E4 C4 hW4 hba
  generalize w4.alloc (.cells #[.int .i64 L, .slice G1 l1.length g1, .slice G2 l2.length g2, .slice G3 l3.length g3, .int .i64 p, .int .i64 q, .int .i64 r] 36) = w5 at *
  generalize w4.heap.size = gx at *
  refine Calls.mono hcall.out ?_; rintro e w6 ⟨rfl, hb6⟩
  have E6 := Lib.hid (E5.later hb6)
  have C6 := C5.below hb6 C5.lt
  have D6 := D5.below hb6 D5.lt
  have hW6 := hW5.trans (hb6.mono hW5.size)
  clear E5 C5 D5 hW5 hb6 hcall HIm
  cases exb
  all_goals
    go_wp2_with fail
    refine wp_region_sink 4 (fun a0 fL bA v => ∃ v22 v23 v24 v25 : Value, bA = (((a0.put (some 22) v22).put (some 23) v23).put (some 24) v24).put (some 25) v25 ∧ (EqS w6 (fL 2) (fun x v => ExCopy L l1 l2 l3 p q r x v w6.heap.size) v24 v) ∧ (fL 0 = true → v22 = .agg #[.int .i64 L, .slice G1 l1.length g1, .slice G2 l2.length g2, .slice G3 l3.length g3, .int .i64 p, .int .i64 q, .int .i64 r]) ∧ (fL 1 = true → v23 = .agg #[.int .i64 L, .slice A1 l1.length c1, .slice A2 l2.length c2, .slice A3 l3.length c3, .int .i64 p, .int .i64 q, .int .i64 r]) ∧ (fL 2 = true → True) ∧ (fL 3 = true → v25 = .bool true)) (by kernel_rfl) (by decide +kernel) ?_ ?_ ?_
    · exact ⟨undef, undef, undef, undef, by simp only [Act.put, List.setIfInBounds_toArray, List.set_cons_zero, List.set_cons_succ], ⟨(Below.refl _ _).drew, nofun⟩, nofun, nofun, nofun, nofun⟩
    · rintro fL bA v ⟨v22, v23, v24, v25, rfl, hS, q0, q1, q2, q3⟩ i hi hf o ho hall
      simp only [Act.put, List.setIfInBounds_toArray, List.set_cons_zero, List.set_cons_succ]
      have hn : i = 0 ∨ i = 1 ∨ i = 2 ∨ i = 3 := by omega
      clear hi
      rcases hn with rfl | rfl | rfl | rfl
      · obtain rfl := Option.some.inj ho
        have F := D6.below hS.hb D6.lt
        have y0 : v.cell? ⟨gx, 0, none⟩ = some (.int .i64 L) := F.cell 0
        have y1 : v.cell? ⟨gx, 1, none⟩ = some (.slice G1 l1.length g1) := F.cell 1
        have y2 : v.cell? ⟨gx, 2, none⟩ = some (.slice G2 l2.length g2) := F.cell 2
        have y3 : v.cell? ⟨gx, 3, none⟩ = some (.slice G3 l3.length g3) := F.cell 3
        have y4 : v.cell? ⟨gx, 4, none⟩ = some (.int .i64 p) := F.cell 4
        have y5 : v.cell? ⟨gx, 5, none⟩ = some (.int .i64 q) := F.cell 5
        have y6 : v.cell? ⟨gx, 6, none⟩ = some (.int .i64 r) := F.cell 6
        clear hall ho
        refine wpOp_step rfl (fun K hK => ?_)
        go_simp
        exact hK _ _ ⟨_, _, _, _, rfl, hS, fun _ => rfl, q1, fun _ => trivial, q3⟩
      · obtain rfl := Option.some.inj ho
        have F := C6.below hS.hb C6.lt
        have y0 : v.cell? ⟨w.heap.size, 0, none⟩ = some (.int .i64 L) := F.cell 0
        have y1 : v.cell? ⟨w.heap.size, 1, none⟩ = some (.slice A1 l1.length c1) := F.cell 1
        have y2 : v.cell? ⟨w.heap.size, 2, none⟩ = some (.slice A2 l2.length c2) := F.cell 2
        have y3 : v.cell? ⟨w.heap.size, 3, none⟩ = some (.slice A3 l3.length c3) := F.cell 3
        have y4 : v.cell? ⟨w.heap.size, 4, none⟩ = some (.int .i64 p) := F.cell 4
        have y5 : v.cell? ⟨w.heap.size, 5, none⟩ = some (.int .i64 q) := F.cell 5
        have y6 : v.cell? ⟨w.heap.size, 6, none⟩ = some (.int .i64 r) := F.cell 6
        clear hall ho
        refine wpOp_step rfl (fun K hK => ?_)
        go_simp
        exact hK _ _ ⟨_, _, _, _, rfl, hS, q0, fun _ => rfl, fun _ => trivial, q3⟩
      · obtain rfl := Option.some.inj ho
        obtain rfl := q1 (hall ⟨1, .data⟩ (by simp) rfl)
        clear hall ho
        refine wpOp_step rfl (fun K hK => ?_)
        go_simp
        refine Calls.mono (HT.out v (hW6.trans (hS.hb.mono hW6.size))).out ?_; rintro e w7 ⟨⟨u, rfl, hu⟩, hb7⟩
        go_simp
        exact hK _ _ ⟨_, _, _, _, rfl, ⟨hS.hb.trans (hb7.mono hS.hb.size), fun _ => hu.weak hS.hb.size⟩, q0, fun _ => rfl, fun _ => trivial, q3⟩
      · obtain rfl := Option.some.inj ho
        obtain rfl := q0 (hall ⟨0, .data⟩ (by simp) rfl)
        have e2 : fL 2 = true := hall ⟨2, .data⟩ (by simp) rfl
        clear hall ho
        refine wpOp_step rfl (fun K hK => ?_)
        obtain ⟨H1, h1, H2, h2, H3, h3, rfl, EH, _, _, _⟩ := hS.q e2
        go_simp
        refine Calls.mono (eqEx_c L G1 g1 H1 h1 l1 G2 g2 H2 h2 l2 G3 g3 H3 h3 l3 p q r v (E6.out.later hS.hb) EH) ?_; rintro e w7 ⟨rfl, hb7⟩
        go_simp
        exact hK _ _ ⟨_, _, _, _, rfl, ⟨hS.hb.trans (hb7.mono hS.hb.size), fun e => (hS.q e).below hb7⟩, fun _ => rfl, q1, fun _ => trivial, fun _ => rfl⟩
    · rintro fL bA v ⟨v22, v23, v24, v25, rfl, hS, q0, q1, q2, q3⟩ hall
      simp only [Act.put, List.setIfInBounds_toArray, List.set_cons_zero, List.set_cons_succ]
      obtain rfl := q0 (hall 0 (by omega))
      obtain rfl := q1 (hall 1 (by omega))
      have e2 : fL 2 = true := hall 2 (by omega)
      obtain rfl := q3 (hall 3 (by omega))
      clear hall
      simp only [List.drop_succ_cons, List.drop_zero]
      have hbv := hW6.trans (hS.hb.mono hW6.size)
      go_wp2
      go_ret
      exact ⟨rfl, (by repeat (first | with_reducible exact hbv | with_reducible apply below_drewN' | with_reducible apply Below.drew | (with_reducible refine Below.alloc ?_ (by first | omega | (simp; omega) | simp) _) | (with_reducible refine Below.setCell ?_ (by first | omega | (simp; omega) | simp) _) | exact hbv))⟩
end Go.Proofs.YtgkobjpoeajkdaaGreat
