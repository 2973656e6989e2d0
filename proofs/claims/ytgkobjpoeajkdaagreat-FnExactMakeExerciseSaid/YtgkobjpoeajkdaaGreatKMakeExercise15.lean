/- Exercises and answers: the laws' copies and comparisons of them. No condition beyond the slices' lengths. An exercise's rule in new memory, and the chain that MakeExercise makes: plain, and the program's ownRule. Conditions: the lists' lengths. -/
import Derived.Test.YtgkobjpoeajkdaaGreatKMakeExercise1
import Derived.Test.YtgkobjpoeajkdaaGreatKMakeExercise3
import Derived.Test.YtgkobjpoeajkdaaGreatKMakeExercise4
import Derived.Test.YtgkobjpoeajkdaaGreatKMakeExercise14
namespace Go.Proofs.YtgkobjpoeajkdaaGreat
open Go.RowKit
/-- an exercise in new memory -/
def ExPost (L : Int) (l1 l2 : List Int) (l3 : List Term) (p q r : Int) (w : World) (e : Ending) (w' : World) : Prop :=
  ∃ B1 d1 B2 d2 B3 d3, e = .returned (.agg #[.int .i64 L, .slice B1 l1.length d1, .slice B2 l2.length d2, .slice B3 l3.length d3, .int .i64 p, .int .i64 q, .int .i64 r]) ∧ Own w' w.heap.size 2 1 (.slice B1 l1.length d1) (l1.map ic) ∧ Own w' w.heap.size 2 1 (.slice B2 l2.length d2) (l2.map ic) ∧ Own w' w.heap.size 118 3 (.slice B3 l3.length d3) (l3.map Term.cells) ∧ Below w.heap.size w w'
set_option maxRecDepth 100000 in
theorem toExercise_c (L : Int) (A1 : Option Addr) (c1 : Nat) (l1 : List Int) (A2 : Option Addr) (c2 : Nat) (l2 : List Int) (A3 : Option Addr) (c3 : Nat) (l3 : List Term) (p q r : Int) (w : World) (h1 : l1.length ≤ 1048576) (h2 : l2.length ≤ 1048576) (h3 : l3.length ≤ 1048576) (hs1 : Sl w w.heap.size 1 A1 (l1.map ic)) (hs2 : Sl w w.heap.size 1 A2 (l2.map ic)) (hs3 : Sl w w.heap.size 3 A3 (l3.map Term.cells)) :
    Calls Tryz.prog 15 #[.agg #[.int .i64 L, .slice A1 l1.length c1, .slice A2 l2.length c2, .slice A3 l3.length c3, .int .i64 p, .int .i64 q, .int .i64 r]] w fun e w' => ExPost L l1 l2 l3 p q r w e w' := by
  go_enter Tryz.func15, Tryz.ntmps15
  go_wp2_with fail
  refine (toRule_c L A1 c1 l1 A2 c2 l2 _ (by omega) (by omega) ((hs1.below ((by repeat (first | with_reducible exact Below.refl _ _ | with_reducible apply below_drewN' | with_reducible apply Below.drew | (with_reducible refine Below.alloc ?_ (by first | omega | (simp; omega) | simp) _) | (with_reducible refine Below.setCell ?_ (by first | omega | (simp; omega) | simp) _) | exact Below.refl _ _)))).more (by first | omega | (simp; omega) | simp)) ((hs2.below ((by repeat (first | with_reducible exact Below.refl _ _ | with_reducible apply below_drewN' | with_reducible apply Below.drew | (with_reducible refine Below.alloc ?_ (by first | omega | (simp; omega) | simp) _) | (with_reducible refine Below.setCell ?_ (by first | omega | (simp; omega) | simp) _) | exact Below.refl _ _)))).more (by first | omega | (simp; omega) | simp))).mono ?_; rintro e w1 ⟨B1, d1, B2, d2, rfl, hO_1, hO_2, hap, hb1⟩
  have B0_1 := (((Blk.new w 29 #[.int .i64 L, .slice A1 l1.length c1, .slice A2 l2.length c2, .slice A3 l3.length c3, .int .i64 p, .int .i64 q, .int .i64 r]).alloc (.cells #[.int .i64 0, .slice none 0 0, .slice none 0 0, .slice none 0 0, .int .i64 0, .int .i64 0, .int .i64 0] 36)).alloc (.cells #[.int .i64 0, .slice none 0 0, .slice none 0 0, .slice none 0 0, .int .i64 0, .int .i64 0, .int .i64 0] 36)).below hb1 (by first | omega | (simp; omega) | simp)
  have B1_1 := ((Blk.new' (w.alloc (.cells #[.int .i64 L, .slice A1 l1.length c1, .slice A2 l2.length c2, .slice A3 l3.length c3, .int .i64 p, .int .i64 q, .int .i64 r] 29)) 36 #[.int .i64 0, .slice none 0 0, .slice none 0 0, .slice none 0 0, .int .i64 0, .int .i64 0, .int .i64 0] (g := w.heap.size + 1) (by simp)).alloc (.cells #[.int .i64 0, .slice none 0 0, .slice none 0 0, .slice none 0 0, .int .i64 0, .int .i64 0, .int .i64 0] 36)).below hb1 (by first | omega | (simp; omega) | simp)
  have B2_1 : Blk w1 (w.heap.size + 1 + 1) 36 #[.int .i64 0, .slice none 0 0, .slice none 0 0, .slice none 0 0, .int .i64 0, .int .i64 0, .int .i64 0] := (Blk.new' ((w.alloc (.cells #[.int .i64 L, .slice A1 l1.length c1, .slice A2 l2.length c2, .slice A3 l3.length c3, .int .i64 p, .int .i64 q, .int .i64 r] 29)).alloc (.cells #[.int .i64 0, .slice none 0 0, .slice none 0 0, .slice none 0 0, .int .i64 0, .int .i64 0, .int .i64 0] 36)) 36 #[.int .i64 0, .slice none 0 0, .slice none 0 0, .slice none 0 0, .int .i64 0, .int .i64 0, .int .i64 0] (g := w.heap.size + 1 + 1) (by simp)).below hb1 (by first | omega | (simp; omega) | simp)
  have hB1 : Below w.heap.size w w1 := Below.trans ((by repeat (first | with_reducible exact Below.refl _ _ | with_reducible apply below_drewN' | with_reducible apply Below.drew | (with_reducible refine Below.alloc ?_ (by first | omega | (simp; omega) | simp) _) | (with_reducible refine Below.setCell ?_ (by first | omega | (simp; omega) | simp) _) | exact Below.refl _ _))) (hb1.mono (by first | omega | (simp; omega) | simp))
  have hBs1 := hB1.size
  have hZ1 := B2_1.lt
  have lt_1 := fun r hr => (hO_1.1.lt r hr).2
  have ge_1 := hO_1.ownGe
  have hO_1 := own_mono (base' := w.heap.size + 1 + 1 + 1) hO_1 (by first | omega | (simp; omega) | simp)
  have lt_2 := fun r hr => (hO_2.1.lt r hr).2
  have ge_2 := hO_2.ownGe
  have hO_2 := own_mono (base' := w.heap.size + 1 + 1 + 1) hO_2 (by first | omega | (simp; omega) | simp)
  have x0_1 : w1.cell? ⟨w.heap.size, 0, none⟩ = some (.int .i64 L) := B0_1.cell 0
  have y0_1 : w1.cell? ⟨w.heap.size + 1 + 1, 0, none⟩ = some (.int .i64 0) := B2_1.cell 0
  have yf0_1 : w1.frozen? ⟨w.heap.size + 1 + 1, 0, none⟩ = false := B2_1.frozen 0
  have z0_1 : w1.cell? ⟨w.heap.size + 1, 0, none⟩ = some (.int .i64 0) := B1_1.cell 0
  have zf0_1 : w1.frozen? ⟨w.heap.size + 1, 0, none⟩ = false := B1_1.frozen 0
  have x1_1 : w1.cell? ⟨w.heap.size, 1, none⟩ = some (.slice A1 l1.length c1) := B0_1.cell 1
  have y1_1 : w1.cell? ⟨w.heap.size + 1 + 1, 1, none⟩ = some (.slice none 0 0) := B2_1.cell 1
  have yf1_1 : w1.frozen? ⟨w.heap.size + 1 + 1, 1, none⟩ = false := B2_1.frozen 1
  have z1_1 : w1.cell? ⟨w.heap.size + 1, 1, none⟩ = some (.slice none 0 0) := B1_1.cell 1
  have zf1_1 : w1.frozen? ⟨w.heap.size + 1, 1, none⟩ = false := B1_1.frozen 1
  have x2_1 : w1.cell? ⟨w.heap.size, 2, none⟩ = some (.slice A2 l2.length c2) := B0_1.cell 2
  have y2_1 : w1.cell? ⟨w.heap.size + 1 + 1, 2, none⟩ = some (.slice none 0 0) := B2_1.cell 2
  have yf2_1 : w1.frozen? ⟨w.heap.size + 1 + 1, 2, none⟩ = false := B2_1.frozen 2
  have z2_1 : w1.cell? ⟨w.heap.size + 1, 2, none⟩ = some (.slice none 0 0) := B1_1.cell 2
  have zf2_1 : w1.frozen? ⟨w.heap.size + 1, 2, none⟩ = false := B1_1.frozen 2
  have x3_1 : w1.cell? ⟨w.heap.size, 3, none⟩ = some (.slice A3 l3.length c3) := B0_1.cell 3
  have y3_1 : w1.cell? ⟨w.heap.size + 1 + 1, 3, none⟩ = some (.slice none 0 0) := B2_1.cell 3
  have yf3_1 : w1.frozen? ⟨w.heap.size + 1 + 1, 3, none⟩ = false := B2_1.frozen 3
  have z3_1 : w1.cell? ⟨w.heap.size + 1, 3, none⟩ = some (.slice none 0 0) := B1_1.cell 3
  have zf3_1 : w1.frozen? ⟨w.heap.size + 1, 3, none⟩ = false := B1_1.frozen 3
  have x4_1 : w1.cell? ⟨w.heap.size, 4, none⟩ = some (.int .i64 p) := B0_1.cell 4
  have y4_1 : w1.cell? ⟨w.heap.size + 1 + 1, 4, none⟩ = some (.int .i64 0) := B2_1.cell 4
  have yf4_1 : w1.frozen? ⟨w.heap.size + 1 + 1, 4, none⟩ = false := B2_1.frozen 4
  have z4_1 : w1.cell? ⟨w.heap.size + 1, 4, none⟩ = some (.int .i64 0) := B1_1.cell 4
  have zf4_1 : w1.frozen? ⟨w.heap.size + 1, 4, none⟩ = false := B1_1.frozen 4
  have x5_1 : w1.cell? ⟨w.heap.size, 5, none⟩ = some (.int .i64 q) := B0_1.cell 5
  have y5_1 : w1.cell? ⟨w.heap.size + 1 + 1, 5, none⟩ = some (.int .i64 0) := B2_1.cell 5
  have yf5_1 : w1.frozen? ⟨w.heap.size + 1 + 1, 5, none⟩ = false := B2_1.frozen 5
  have z5_1 : w1.cell? ⟨w.heap.size + 1, 5, none⟩ = some (.int .i64 0) := B1_1.cell 5
  have zf5_1 : w1.frozen? ⟨w.heap.size + 1, 5, none⟩ = false := B1_1.frozen 5
  have x6_1 : w1.cell? ⟨w.heap.size, 6, none⟩ = some (.int .i64 r) := B0_1.cell 6
  have y6_1 : w1.cell? ⟨w.heap.size + 1 + 1, 6, none⟩ = some (.int .i64 0) := B2_1.cell 6
  have yf6_1 : w1.frozen? ⟨w.heap.size + 1 + 1, 6, none⟩ = false := B2_1.frozen 6
  have z6_1 : w1.cell? ⟨w.heap.size + 1, 6, none⟩ = some (.int .i64 0) := B1_1.cell 6
  have zf6_1 : w1.frozen? ⟨w.heap.size + 1, 6, none⟩ = false := B1_1.frozen 6
  go_wp2_with fail
  refine (toTermS_c A3 c3 l3 _ (by omega) ((hs3.below ((by repeat (first | with_reducible exact hB1 | with_reducible apply below_drewN' | with_reducible apply Below.drew | (with_reducible refine Below.alloc ?_ (by first | omega | (simp; omega) | simp) _) | (with_reducible refine Below.setCell ?_ (by first | omega | (simp; omega) | simp) _) | exact hB1)))).more (by first | omega | (simp; omega) | simp))).mono ?_; rintro e w2 ⟨B3, d3, rfl, hO_3, hb2⟩
  have B0_2 := (((B0_1.far (p := ⟨w.heap.size + 1 + 1, 0, none⟩) (by first | omega | (simp; omega) | simp) (.int .i64 L)).far (p := ⟨w.heap.size + 1 + 1, 1, none⟩) (by first | omega | (simp; omega) | simp) (.slice B1 l1.length d1)).far (p := ⟨w.heap.size + 1 + 1, 2, none⟩) (by first | omega | (simp; omega) | simp) (.slice B2 l2.length d2)).below hb2 (by first | omega | (simp; omega) | simp)
  have B1_2 := (((B1_1.far (p := ⟨w.heap.size + 1 + 1, 0, none⟩) (by first | omega | (simp; omega) | simp) (.int .i64 L)).far (p := ⟨w.heap.size + 1 + 1, 1, none⟩) (by first | omega | (simp; omega) | simp) (.slice B1 l1.length d1)).far (p := ⟨w.heap.size + 1 + 1, 2, none⟩) (by first | omega | (simp; omega) | simp) (.slice B2 l2.length d2)).below hb2 (by first | omega | (simp; omega) | simp)
  have B2_2 : Blk w2 (w.heap.size + 1 + 1) 36 #[.int .i64 L, .slice B1 l1.length d1, .slice B2 l2.length d2, .slice none 0 0, .int .i64 0, .int .i64 0, .int .i64 0] := (((B2_1.set_ 0 (.int .i64 L)).set_ 1 (.slice B1 l1.length d1)).set_ 2 (.slice B2 l2.length d2)).below hb2 (by first | omega | (simp; omega) | simp)
  have hB2 : Below w.heap.size w w2 := Below.trans ((by repeat (first | with_reducible exact hB1 | with_reducible apply below_drewN' | with_reducible apply Below.drew | (with_reducible refine Below.alloc ?_ (by first | omega | (simp; omega) | simp) _) | (with_reducible refine Below.setCell ?_ (by first | omega | (simp; omega) | simp) _) | exact hB1))) (hb2.mono (by first | omega | (simp; omega) | simp))
  have hBs2 := hB2.size
  have hZ2 := B2_2.lt
  have hO_1 := (own_far (own_far (own_far hO_1 (b := w.heap.size + 1 + 1) (off := 0) (u := .int .i64 L) (by first | omega | (simp; omega) | simp)) (b := w.heap.size + 1 + 1) (off := 1) (u := .slice B1 l1.length d1) (by first | omega | (simp; omega) | simp)) (b := w.heap.size + 1 + 1) (off := 2) (u := .slice B2 l2.length d2) (by first | omega | (simp; omega) | simp)).below hb2
  have hO_2 := (own_far (own_far (own_far hO_2 (b := w.heap.size + 1 + 1) (off := 0) (u := .int .i64 L) (by first | omega | (simp; omega) | simp)) (b := w.heap.size + 1 + 1) (off := 1) (u := .slice B1 l1.length d1) (by first | omega | (simp; omega) | simp)) (b := w.heap.size + 1 + 1) (off := 2) (u := .slice B2 l2.length d2) (by first | omega | (simp; omega) | simp)).below hb2
  have lt_3 := fun r hr => (hO_3.1.lt r hr).2
  have ge_3 := hO_3.ownGe
  have hO_3 := own_mono (base' := w.heap.size + 1 + 1 + 1) hO_3 (by first | omega | (simp; omega) | simp)
  have x0_2 : w2.cell? ⟨w.heap.size, 0, none⟩ = some (.int .i64 L) := B0_2.cell 0
  have y0_2 : w2.cell? ⟨w.heap.size + 1 + 1, 0, none⟩ = some (.int .i64 L) := B2_2.cell 0
  have yf0_2 : w2.frozen? ⟨w.heap.size + 1 + 1, 0, none⟩ = false := B2_2.frozen 0
  have z0_2 : w2.cell? ⟨w.heap.size + 1, 0, none⟩ = some (.int .i64 0) := B1_2.cell 0
  have zf0_2 : w2.frozen? ⟨w.heap.size + 1, 0, none⟩ = false := B1_2.frozen 0
  have x1_2 : w2.cell? ⟨w.heap.size, 1, none⟩ = some (.slice A1 l1.length c1) := B0_2.cell 1
  have y1_2 : w2.cell? ⟨w.heap.size + 1 + 1, 1, none⟩ = some (.slice B1 l1.length d1) := B2_2.cell 1
  have yf1_2 : w2.frozen? ⟨w.heap.size + 1 + 1, 1, none⟩ = false := B2_2.frozen 1
  have z1_2 : w2.cell? ⟨w.heap.size + 1, 1, none⟩ = some (.slice none 0 0) := B1_2.cell 1
  have zf1_2 : w2.frozen? ⟨w.heap.size + 1, 1, none⟩ = false := B1_2.frozen 1
  have x2_2 : w2.cell? ⟨w.heap.size, 2, none⟩ = some (.slice A2 l2.length c2) := B0_2.cell 2
  have y2_2 : w2.cell? ⟨w.heap.size + 1 + 1, 2, none⟩ = some (.slice B2 l2.length d2) := B2_2.cell 2
  have yf2_2 : w2.frozen? ⟨w.heap.size + 1 + 1, 2, none⟩ = false := B2_2.frozen 2
  have z2_2 : w2.cell? ⟨w.heap.size + 1, 2, none⟩ = some (.slice none 0 0) := B1_2.cell 2
  have zf2_2 : w2.frozen? ⟨w.heap.size + 1, 2, none⟩ = false := B1_2.frozen 2
  have x3_2 : w2.cell? ⟨w.heap.size, 3, none⟩ = some (.slice A3 l3.length c3) := B0_2.cell 3
  have y3_2 : w2.cell? ⟨w.heap.size + 1 + 1, 3, none⟩ = some (.slice none 0 0) := B2_2.cell 3
  have yf3_2 : w2.frozen? ⟨w.heap.size + 1 + 1, 3, none⟩ = false := B2_2.frozen 3
  have z3_2 : w2.cell? ⟨w.heap.size + 1, 3, none⟩ = some (.slice none 0 0) := B1_2.cell 3
  have zf3_2 : w2.frozen? ⟨w.heap.size + 1, 3, none⟩ = false := B1_2.frozen 3
  have x4_2 : w2.cell? ⟨w.heap.size, 4, none⟩ = some (.int .i64 p) := B0_2.cell 4
  have y4_2 : w2.cell? ⟨w.heap.size + 1 + 1, 4, none⟩ = some (.int .i64 0) := B2_2.cell 4
  have yf4_2 : w2.frozen? ⟨w.heap.size + 1 + 1, 4, none⟩ = false := B2_2.frozen 4
  have z4_2 : w2.cell? ⟨w.heap.size + 1, 4, none⟩ = some (.int .i64 0) := B1_2.cell 4
  have zf4_2 : w2.frozen? ⟨w.heap.size + 1, 4, none⟩ = false := B1_2.frozen 4
  have x5_2 : w2.cell? ⟨w.heap.size, 5, none⟩ = some (.int .i64 q) := B0_2.cell 5
  have y5_2 : w2.cell? ⟨w.heap.size + 1 + 1, 5, none⟩ = some (.int .i64 0) := B2_2.cell 5
  have yf5_2 : w2.frozen? ⟨w.heap.size + 1 + 1, 5, none⟩ = false := B2_2.frozen 5
  have z5_2 : w2.cell? ⟨w.heap.size + 1, 5, none⟩ = some (.int .i64 0) := B1_2.cell 5
  have zf5_2 : w2.frozen? ⟨w.heap.size + 1, 5, none⟩ = false := B1_2.frozen 5
  have x6_2 : w2.cell? ⟨w.heap.size, 6, none⟩ = some (.int .i64 r) := B0_2.cell 6
  have y6_2 : w2.cell? ⟨w.heap.size + 1 + 1, 6, none⟩ = some (.int .i64 0) := B2_2.cell 6
  have yf6_2 : w2.frozen? ⟨w.heap.size + 1 + 1, 6, none⟩ = false := B2_2.frozen 6
  have z6_2 : w2.cell? ⟨w.heap.size + 1, 6, none⟩ = some (.int .i64 0) := B1_2.cell 6
  have zf6_2 : w2.frozen? ⟨w.heap.size + 1, 6, none⟩ = false := B1_2.frozen 6
  go_wp2_with fail
  refine (toErrors_c p q r _).mono ?_; rintro e w3 ⟨rfl, hb3⟩
  have B0_3 := (B0_2.far (p := ⟨w.heap.size + 1 + 1, 3, none⟩) (by first | omega | (simp; omega) | simp) (.slice B3 l3.length d3)).below hb3 (by first | omega | (simp; omega) | simp)
  have B1_3 := (B1_2.far (p := ⟨w.heap.size + 1 + 1, 3, none⟩) (by first | omega | (simp; omega) | simp) (.slice B3 l3.length d3)).below hb3 (by first | omega | (simp; omega) | simp)
  have B2_3 : Blk w3 (w.heap.size + 1 + 1) 36 #[.int .i64 L, .slice B1 l1.length d1, .slice B2 l2.length d2, .slice B3 l3.length d3, .int .i64 0, .int .i64 0, .int .i64 0] := (B2_2.set_ 3 (.slice B3 l3.length d3)).below hb3 (by first | omega | (simp; omega) | simp)
  have hB3 : Below w.heap.size w w3 := Below.trans ((by repeat (first | with_reducible exact hB2 | with_reducible apply below_drewN' | with_reducible apply Below.drew | (with_reducible refine Below.alloc ?_ (by first | omega | (simp; omega) | simp) _) | (with_reducible refine Below.setCell ?_ (by first | omega | (simp; omega) | simp) _) | exact hB2))) (hb3.mono (by first | omega | (simp; omega) | simp))
  have hBs3 := hB3.size
  have hZ3 := B2_3.lt
  have hO_1 := (own_far hO_1 (b := w.heap.size + 1 + 1) (off := 3) (u := .slice B3 l3.length d3) (by first | omega | (simp; omega) | simp)).below hb3
  have hO_2 := (own_far hO_2 (b := w.heap.size + 1 + 1) (off := 3) (u := .slice B3 l3.length d3) (by first | omega | (simp; omega) | simp)).below hb3
  have hO_3 := (own_far hO_3 (b := w.heap.size + 1 + 1) (off := 3) (u := .slice B3 l3.length d3) (by first | omega | (simp; omega) | simp)).below hb3
  have x0_3 : w3.cell? ⟨w.heap.size, 0, none⟩ = some (.int .i64 L) := B0_3.cell 0
  have y0_3 : w3.cell? ⟨w.heap.size + 1 + 1, 0, none⟩ = some (.int .i64 L) := B2_3.cell 0
  have yf0_3 : w3.frozen? ⟨w.heap.size + 1 + 1, 0, none⟩ = false := B2_3.frozen 0
  have z0_3 : w3.cell? ⟨w.heap.size + 1, 0, none⟩ = some (.int .i64 0) := B1_3.cell 0
  have zf0_3 : w3.frozen? ⟨w.heap.size + 1, 0, none⟩ = false := B1_3.frozen 0
  have x1_3 : w3.cell? ⟨w.heap.size, 1, none⟩ = some (.slice A1 l1.length c1) := B0_3.cell 1
  have y1_3 : w3.cell? ⟨w.heap.size + 1 + 1, 1, none⟩ = some (.slice B1 l1.length d1) := B2_3.cell 1
  have yf1_3 : w3.frozen? ⟨w.heap.size + 1 + 1, 1, none⟩ = false := B2_3.frozen 1
  have z1_3 : w3.cell? ⟨w.heap.size + 1, 1, none⟩ = some (.slice none 0 0) := B1_3.cell 1
  have zf1_3 : w3.frozen? ⟨w.heap.size + 1, 1, none⟩ = false := B1_3.frozen 1
  have x2_3 : w3.cell? ⟨w.heap.size, 2, none⟩ = some (.slice A2 l2.length c2) := B0_3.cell 2
  have y2_3 : w3.cell? ⟨w.heap.size + 1 + 1, 2, none⟩ = some (.slice B2 l2.length d2) := B2_3.cell 2
  have yf2_3 : w3.frozen? ⟨w.heap.size + 1 + 1, 2, none⟩ = false := B2_3.frozen 2
  have z2_3 : w3.cell? ⟨w.heap.size + 1, 2, none⟩ = some (.slice none 0 0) := B1_3.cell 2
  have zf2_3 : w3.frozen? ⟨w.heap.size + 1, 2, none⟩ = false := B1_3.frozen 2
  have x3_3 : w3.cell? ⟨w.heap.size, 3, none⟩ = some (.slice A3 l3.length c3) := B0_3.cell 3
  have y3_3 : w3.cell? ⟨w.heap.size + 1 + 1, 3, none⟩ = some (.slice B3 l3.length d3) := B2_3.cell 3
  have yf3_3 : w3.frozen? ⟨w.heap.size + 1 + 1, 3, none⟩ = false := B2_3.frozen 3
  have z3_3 : w3.cell? ⟨w.heap.size + 1, 3, none⟩ = some (.slice none 0 0) := B1_3.cell 3
  have zf3_3 : w3.frozen? ⟨w.heap.size + 1, 3, none⟩ = false := B1_3.frozen 3
  have x4_3 : w3.cell? ⟨w.heap.size, 4, none⟩ = some (.int .i64 p) := B0_3.cell 4
  have y4_3 : w3.cell? ⟨w.heap.size + 1 + 1, 4, none⟩ = some (.int .i64 0) := B2_3.cell 4
  have yf4_3 : w3.frozen? ⟨w.heap.size + 1 + 1, 4, none⟩ = false := B2_3.frozen 4
  have z4_3 : w3.cell? ⟨w.heap.size + 1, 4, none⟩ = some (.int .i64 0) := B1_3.cell 4
  have zf4_3 : w3.frozen? ⟨w.heap.size + 1, 4, none⟩ = false := B1_3.frozen 4
  have x5_3 : w3.cell? ⟨w.heap.size, 5, none⟩ = some (.int .i64 q) := B0_3.cell 5
  have y5_3 : w3.cell? ⟨w.heap.size + 1 + 1, 5, none⟩ = some (.int .i64 0) := B2_3.cell 5
  have yf5_3 : w3.frozen? ⟨w.heap.size + 1 + 1, 5, none⟩ = false := B2_3.frozen 5
  have z5_3 : w3.cell? ⟨w.heap.size + 1, 5, none⟩ = some (.int .i64 0) := B1_3.cell 5
  have zf5_3 : w3.frozen? ⟨w.heap.size + 1, 5, none⟩ = false := B1_3.frozen 5
  have x6_3 : w3.cell? ⟨w.heap.size, 6, none⟩ = some (.int .i64 r) := B0_3.cell 6
  have y6_3 : w3.cell? ⟨w.heap.size + 1 + 1, 6, none⟩ = some (.int .i64 0) := B2_3.cell 6
  have yf6_3 : w3.frozen? ⟨w.heap.size + 1 + 1, 6, none⟩ = false := B2_3.frozen 6
  have z6_3 : w3.cell? ⟨w.heap.size + 1, 6, none⟩ = some (.int .i64 0) := B1_3.cell 6
  have zf6_3 : w3.frozen? ⟨w.heap.size + 1, 6, none⟩ = false := B1_3.frozen 6
  go_wp2_with fail
  refine bodyPost_ret (v := .agg #[.int .i64 L, .slice B1 l1.length d1, .slice B2 l2.length d2, .slice B3 l3.length d3, .int .i64 p, .int .i64 q, .int .i64 r]) (by simp [results, Tryz.results15, go_sem, z0_3, z1_3, z2_3, z3_3, z4_3, z5_3, z6_3]) rfl ⟨B1, d1, B2, d2, B3, d3, rfl, own_mono (base := w.heap.size + 1 + 1 + 1) (by repeat (first | with_reducible exact hO_1 | (with_reducible refine own_far ?_ (by first | omega | (simp; omega))))) (by first | omega | (simp; omega) | simp), own_mono (base := w.heap.size + 1 + 1 + 1) (by repeat (first | with_reducible exact hO_2 | (with_reducible refine own_far ?_ (by first | omega | (simp; omega))))) (by first | omega | (simp; omega) | simp), own_mono (base := w.heap.size + 1 + 1 + 1) (by repeat (first | with_reducible exact hO_3 | (with_reducible refine own_far ?_ (by first | omega | (simp; omega))))) (by first | omega | (simp; omega) | simp), (by repeat (first | with_reducible exact hB3 | with_reducible apply below_drewN' | with_reducible apply Below.drew | (with_reducible refine Below.alloc ?_ (by first | omega | (simp; omega) | simp) _) | (with_reducible refine Below.setCell ?_ (by first | omega | (simp; omega) | simp) _) | exact hB3))⟩

set_option maxRecDepth 100000 in
theorem eqExercise_c (L : Int) (A1 : Option Addr) (c1 : Nat) (A1' : Option Addr) (c1' : Nat) (l1 : List Int) (A2 : Option Addr) (c2 : Nat) (A2' : Option Addr) (c2' : Nat) (l2 : List Int) (A3 : Option Addr) (c3 : Nat) (A3' : Option Addr) (c3' : Nat) (l3 : List Term) (p q r : Int) (w : World) (h1 : l1.length ≤ 1048576) (h2 : l2.length ≤ 1048576) (h3 : l3.length ≤ 1048576) (hs1 : Sl w w.heap.size 1 A1 (l1.map ic)) (hs2 : Sl w w.heap.size 1 A1' (l1.map ic)) (hs3 : Sl w w.heap.size 1 A2 (l2.map ic)) (hs4 : Sl w w.heap.size 1 A2' (l2.map ic)) (hs5 : Sl w w.heap.size 3 A3 (l3.map Term.cells)) (hs6 : Sl w w.heap.size 3 A3' (l3.map Term.cells)) :
    Calls Tryz.prog 17 #[.agg #[.int .i64 L, .slice A1 l1.length c1, .slice A2 l2.length c2, .slice A3 l3.length c3, .int .i64 p, .int .i64 q, .int .i64 r], .agg #[.int .i64 L, .slice A1' l1.length c1', .slice A2' l2.length c2', .slice A3' l3.length c3', .int .i64 p, .int .i64 q, .int .i64 r]] w fun e w' => e = .returned (.bool true) ∧ Below w.heap.size w w' := by
  go_enter Tryz.func17, Tryz.ntmps17
  go_wp2_with fail
  refine (eqRule_c L A1 c1 A1' c1' l1 A2 c2 A2' c2' l2 _ (by omega) (by omega) ((hs1.below ((by repeat (first | with_reducible exact Below.refl _ _ | with_reducible apply below_drewN' | with_reducible apply Below.drew | (with_reducible refine Below.alloc ?_ (by first | omega | (simp; omega) | simp) _) | (with_reducible refine Below.setCell ?_ (by first | omega | (simp; omega) | simp) _) | exact Below.refl _ _)))).more (by first | omega | (simp; omega) | simp)) ((hs2.below ((by repeat (first | with_reducible exact Below.refl _ _ | with_reducible apply below_drewN' | with_reducible apply Below.drew | (with_reducible refine Below.alloc ?_ (by first | omega | (simp; omega) | simp) _) | (with_reducible refine Below.setCell ?_ (by first | omega | (simp; omega) | simp) _) | exact Below.refl _ _)))).more (by first | omega | (simp; omega) | simp)) ((hs3.below ((by repeat (first | with_reducible exact Below.refl _ _ | with_reducible apply below_drewN' | with_reducible apply Below.drew | (with_reducible refine Below.alloc ?_ (by first | omega | (simp; omega) | simp) _) | (with_reducible refine Below.setCell ?_ (by first | omega | (simp; omega) | simp) _) | exact Below.refl _ _)))).more (by first | omega | (simp; omega) | simp)) ((hs4.below ((by repeat (first | with_reducible exact Below.refl _ _ | with_reducible apply below_drewN' | with_reducible apply Below.drew | (with_reducible refine Below.alloc ?_ (by first | omega | (simp; omega) | simp) _) | (with_reducible refine Below.setCell ?_ (by first | omega | (simp; omega) | simp) _) | exact Below.refl _ _)))).more (by first | omega | (simp; omega) | simp))).mono ?_; rintro e w1 ⟨rfl, hb1⟩
  have B0_1 := ((Blk.new w 36 #[.int .i64 L, .slice A1 l1.length c1, .slice A2 l2.length c2, .slice A3 l3.length c3, .int .i64 p, .int .i64 q, .int .i64 r]).alloc (.cells #[.int .i64 L, .slice A1' l1.length c1', .slice A2' l2.length c2', .slice A3' l3.length c3', .int .i64 p, .int .i64 q, .int .i64 r] 36)).below hb1 (by first | omega | (simp; omega) | simp)
  have B1_1 := (Blk.new' (w.alloc (.cells #[.int .i64 L, .slice A1 l1.length c1, .slice A2 l2.length c2, .slice A3 l3.length c3, .int .i64 p, .int .i64 q, .int .i64 r] 36)) 36 #[.int .i64 L, .slice A1' l1.length c1', .slice A2' l2.length c2', .slice A3' l3.length c3', .int .i64 p, .int .i64 q, .int .i64 r] (g := w.heap.size + 1) (by simp)).below hb1 (by first | omega | (simp; omega) | simp)
  have hB1 : Below w.heap.size w w1 := Below.trans ((by repeat (first | with_reducible exact Below.refl _ _ | with_reducible apply below_drewN' | with_reducible apply Below.drew | (with_reducible refine Below.alloc ?_ (by first | omega | (simp; omega) | simp) _) | (with_reducible refine Below.setCell ?_ (by first | omega | (simp; omega) | simp) _) | exact Below.refl _ _))) (hb1.mono (by first | omega | (simp; omega) | simp))
  have hBs1 := hB1.size
  have hZ1 := B1_1.lt
  have x0_1 : w1.cell? ⟨w.heap.size, 0, none⟩ = some (.int .i64 L) := B0_1.cell 0
  have y0_1 : w1.cell? ⟨w.heap.size + 1, 0, none⟩ = some (.int .i64 L) := B1_1.cell 0
  have x1_1 : w1.cell? ⟨w.heap.size, 1, none⟩ = some (.slice A1 l1.length c1) := B0_1.cell 1
  have y1_1 : w1.cell? ⟨w.heap.size + 1, 1, none⟩ = some (.slice A1' l1.length c1') := B1_1.cell 1
  have x2_1 : w1.cell? ⟨w.heap.size, 2, none⟩ = some (.slice A2 l2.length c2) := B0_1.cell 2
  have y2_1 : w1.cell? ⟨w.heap.size + 1, 2, none⟩ = some (.slice A2' l2.length c2') := B1_1.cell 2
  have x3_1 : w1.cell? ⟨w.heap.size, 3, none⟩ = some (.slice A3 l3.length c3) := B0_1.cell 3
  have y3_1 : w1.cell? ⟨w.heap.size + 1, 3, none⟩ = some (.slice A3' l3.length c3') := B1_1.cell 3
  have x4_1 : w1.cell? ⟨w.heap.size, 4, none⟩ = some (.int .i64 p) := B0_1.cell 4
  have y4_1 : w1.cell? ⟨w.heap.size + 1, 4, none⟩ = some (.int .i64 p) := B1_1.cell 4
  have x5_1 : w1.cell? ⟨w.heap.size, 5, none⟩ = some (.int .i64 q) := B0_1.cell 5
  have y5_1 : w1.cell? ⟨w.heap.size + 1, 5, none⟩ = some (.int .i64 q) := B1_1.cell 5
  have x6_1 : w1.cell? ⟨w.heap.size, 6, none⟩ = some (.int .i64 r) := B0_1.cell 6
  have y6_1 : w1.cell? ⟨w.heap.size + 1, 6, none⟩ = some (.int .i64 r) := B1_1.cell 6
  go_wp2_with fail
  refine (eqTermS_c A3 A3' c3 c3' l3 _ (by omega) ((hs5.below ((by repeat (first | with_reducible exact hB1 | with_reducible apply below_drewN' | with_reducible apply Below.drew | (with_reducible refine Below.alloc ?_ (by first | omega | (simp; omega) | simp) _) | (with_reducible refine Below.setCell ?_ (by first | omega | (simp; omega) | simp) _) | exact hB1)))).more (by first | omega | (simp; omega) | simp)) ((hs6.below ((by repeat (first | with_reducible exact hB1 | with_reducible apply below_drewN' | with_reducible apply Below.drew | (with_reducible refine Below.alloc ?_ (by first | omega | (simp; omega) | simp) _) | (with_reducible refine Below.setCell ?_ (by first | omega | (simp; omega) | simp) _) | exact hB1)))).more (by first | omega | (simp; omega) | simp))).mono ?_; rintro e w2 ⟨rfl, hb2⟩
  have B0_2 := B0_1.below hb2 (by first | omega | (simp; omega) | simp)
  have B1_2 := B1_1.below hb2 (by first | omega | (simp; omega) | simp)
  have hB2 : Below w.heap.size w w2 := Below.trans ((by repeat (first | with_reducible exact hB1 | with_reducible apply below_drewN' | with_reducible apply Below.drew | (with_reducible refine Below.alloc ?_ (by first | omega | (simp; omega) | simp) _) | (with_reducible refine Below.setCell ?_ (by first | omega | (simp; omega) | simp) _) | exact hB1))) (hb2.mono (by first | omega | (simp; omega) | simp))
  have hBs2 := hB2.size
  have hZ2 := B1_2.lt
  have x0_2 : w2.cell? ⟨w.heap.size, 0, none⟩ = some (.int .i64 L) := B0_2.cell 0
  have y0_2 : w2.cell? ⟨w.heap.size + 1, 0, none⟩ = some (.int .i64 L) := B1_2.cell 0
  have x1_2 : w2.cell? ⟨w.heap.size, 1, none⟩ = some (.slice A1 l1.length c1) := B0_2.cell 1
  have y1_2 : w2.cell? ⟨w.heap.size + 1, 1, none⟩ = some (.slice A1' l1.length c1') := B1_2.cell 1
  have x2_2 : w2.cell? ⟨w.heap.size, 2, none⟩ = some (.slice A2 l2.length c2) := B0_2.cell 2
  have y2_2 : w2.cell? ⟨w.heap.size + 1, 2, none⟩ = some (.slice A2' l2.length c2') := B1_2.cell 2
  have x3_2 : w2.cell? ⟨w.heap.size, 3, none⟩ = some (.slice A3 l3.length c3) := B0_2.cell 3
  have y3_2 : w2.cell? ⟨w.heap.size + 1, 3, none⟩ = some (.slice A3' l3.length c3') := B1_2.cell 3
  have x4_2 : w2.cell? ⟨w.heap.size, 4, none⟩ = some (.int .i64 p) := B0_2.cell 4
  have y4_2 : w2.cell? ⟨w.heap.size + 1, 4, none⟩ = some (.int .i64 p) := B1_2.cell 4
  have x5_2 : w2.cell? ⟨w.heap.size, 5, none⟩ = some (.int .i64 q) := B0_2.cell 5
  have y5_2 : w2.cell? ⟨w.heap.size + 1, 5, none⟩ = some (.int .i64 q) := B1_2.cell 5
  have x6_2 : w2.cell? ⟨w.heap.size, 6, none⟩ = some (.int .i64 r) := B0_2.cell 6
  have y6_2 : w2.cell? ⟨w.heap.size + 1, 6, none⟩ = some (.int .i64 r) := B1_2.cell 6
  go_wp2_with fail
  refine (eqErrors_c p q r _).mono ?_; rintro e w3 ⟨rfl, hb3⟩
  have B0_3 := B0_2.below hb3 (by first | omega | (simp; omega) | simp)
  have B1_3 := B1_2.below hb3 (by first | omega | (simp; omega) | simp)
  have hB3 : Below w.heap.size w w3 := Below.trans ((by repeat (first | with_reducible exact hB2 | with_reducible apply below_drewN' | with_reducible apply Below.drew | (with_reducible refine Below.alloc ?_ (by first | omega | (simp; omega) | simp) _) | (with_reducible refine Below.setCell ?_ (by first | omega | (simp; omega) | simp) _) | exact hB2))) (hb3.mono (by first | omega | (simp; omega) | simp))
  have hBs3 := hB3.size
  have hZ3 := B1_3.lt
  have x0_3 : w3.cell? ⟨w.heap.size, 0, none⟩ = some (.int .i64 L) := B0_3.cell 0
  have y0_3 : w3.cell? ⟨w.heap.size + 1, 0, none⟩ = some (.int .i64 L) := B1_3.cell 0
  have x1_3 : w3.cell? ⟨w.heap.size, 1, none⟩ = some (.slice A1 l1.length c1) := B0_3.cell 1
  have y1_3 : w3.cell? ⟨w.heap.size + 1, 1, none⟩ = some (.slice A1' l1.length c1') := B1_3.cell 1
  have x2_3 : w3.cell? ⟨w.heap.size, 2, none⟩ = some (.slice A2 l2.length c2) := B0_3.cell 2
  have y2_3 : w3.cell? ⟨w.heap.size + 1, 2, none⟩ = some (.slice A2' l2.length c2') := B1_3.cell 2
  have x3_3 : w3.cell? ⟨w.heap.size, 3, none⟩ = some (.slice A3 l3.length c3) := B0_3.cell 3
  have y3_3 : w3.cell? ⟨w.heap.size + 1, 3, none⟩ = some (.slice A3' l3.length c3') := B1_3.cell 3
  have x4_3 : w3.cell? ⟨w.heap.size, 4, none⟩ = some (.int .i64 p) := B0_3.cell 4
  have y4_3 : w3.cell? ⟨w.heap.size + 1, 4, none⟩ = some (.int .i64 p) := B1_3.cell 4
  have x5_3 : w3.cell? ⟨w.heap.size, 5, none⟩ = some (.int .i64 q) := B0_3.cell 5
  have y5_3 : w3.cell? ⟨w.heap.size + 1, 5, none⟩ = some (.int .i64 q) := B1_3.cell 5
  have x6_3 : w3.cell? ⟨w.heap.size, 6, none⟩ = some (.int .i64 r) := B0_3.cell 6
  have y6_3 : w3.cell? ⟨w.heap.size + 1, 6, none⟩ = some (.int .i64 r) := B1_3.cell 6
  go_wp2_with fail
  go_ret
  exact ⟨rfl, (by repeat (first | with_reducible exact hB3 | with_reducible apply below_drewN' | with_reducible apply Below.drew | (with_reducible refine Below.alloc ?_ (by first | omega | (simp; omega) | simp) _) | (with_reducible refine Below.setCell ?_ (by first | omega | (simp; omega) | simp) _) | exact hB3))⟩

set_option maxRecDepth 100000 in
theorem toAnswer_c (A1 : Option Addr) (c1 : Nat) (l1 : List Move) (p q : Int) (w : World) (h1 : l1.length ≤ 1048576) (hs1 : Sl w w.heap.size 4 A1 (l1.map Move.cells)) :
    Calls Tryz.prog 34 #[.agg #[.slice A1 l1.length c1, .int .i64 p, .int .i64 q]] w fun e w' => ∃ B1 d1, e = .returned (.agg #[.slice B1 l1.length d1, .int .i64 p, .int .i64 q]) ∧ Own w' w.heap.size 72 4 (.slice B1 l1.length d1) (l1.map Move.cells) ∧ Below w.heap.size w w' := by
  go_enter Tryz.func34, Tryz.ntmps34
  go_wp2_with fail
  refine (toMoveS_c A1 c1 l1 _ (by omega) ((hs1.below ((by repeat (first | with_reducible exact Below.refl _ _ | with_reducible apply below_drewN' | with_reducible apply Below.drew | (with_reducible refine Below.alloc ?_ (by first | omega | (simp; omega) | simp) _) | (with_reducible refine Below.setCell ?_ (by first | omega | (simp; omega) | simp) _) | exact Below.refl _ _)))).more (by first | omega | (simp; omega) | simp))).mono ?_; rintro e w1 ⟨B1, d1, rfl, hO_1, hb1⟩
  have B0_1 := (((Blk.new w 61 #[.slice A1 l1.length c1, .int .i64 p, .int .i64 q]).alloc (.cells #[.slice none 0 0, .int .i64 0, .int .i64 0] 67)).alloc (.cells #[.slice none 0 0, .int .i64 0, .int .i64 0] 67)).below hb1 (by first | omega | (simp; omega) | simp)
  have B1_1 := ((Blk.new' (w.alloc (.cells #[.slice A1 l1.length c1, .int .i64 p, .int .i64 q] 61)) 67 #[.slice none 0 0, .int .i64 0, .int .i64 0] (g := w.heap.size + 1) (by simp)).alloc (.cells #[.slice none 0 0, .int .i64 0, .int .i64 0] 67)).below hb1 (by first | omega | (simp; omega) | simp)
  have B2_1 : Blk w1 (w.heap.size + 1 + 1) 67 #[.slice none 0 0, .int .i64 0, .int .i64 0] := (Blk.new' ((w.alloc (.cells #[.slice A1 l1.length c1, .int .i64 p, .int .i64 q] 61)).alloc (.cells #[.slice none 0 0, .int .i64 0, .int .i64 0] 67)) 67 #[.slice none 0 0, .int .i64 0, .int .i64 0] (g := w.heap.size + 1 + 1) (by simp)).below hb1 (by first | omega | (simp; omega) | simp)
  have hB1 : Below w.heap.size w w1 := Below.trans ((by repeat (first | with_reducible exact Below.refl _ _ | with_reducible apply below_drewN' | with_reducible apply Below.drew | (with_reducible refine Below.alloc ?_ (by first | omega | (simp; omega) | simp) _) | (with_reducible refine Below.setCell ?_ (by first | omega | (simp; omega) | simp) _) | exact Below.refl _ _))) (hb1.mono (by first | omega | (simp; omega) | simp))
  have hBs1 := hB1.size
  have hZ1 := B2_1.lt
  have lt_1 := fun r hr => (hO_1.1.lt r hr).2
  have ge_1 := hO_1.ownGe
  have hO_1 := own_mono (base' := w.heap.size + 1 + 1 + 1) hO_1 (by first | omega | (simp; omega) | simp)
  have x0_1 : w1.cell? ⟨w.heap.size, 0, none⟩ = some (.slice A1 l1.length c1) := B0_1.cell 0
  have y0_1 : w1.cell? ⟨w.heap.size + 1 + 1, 0, none⟩ = some (.slice none 0 0) := B2_1.cell 0
  have yf0_1 : w1.frozen? ⟨w.heap.size + 1 + 1, 0, none⟩ = false := B2_1.frozen 0
  have z0_1 : w1.cell? ⟨w.heap.size + 1, 0, none⟩ = some (.slice none 0 0) := B1_1.cell 0
  have zf0_1 : w1.frozen? ⟨w.heap.size + 1, 0, none⟩ = false := B1_1.frozen 0
  have x1_1 : w1.cell? ⟨w.heap.size, 1, none⟩ = some (.int .i64 p) := B0_1.cell 1
  have y1_1 : w1.cell? ⟨w.heap.size + 1 + 1, 1, none⟩ = some (.int .i64 0) := B2_1.cell 1
  have yf1_1 : w1.frozen? ⟨w.heap.size + 1 + 1, 1, none⟩ = false := B2_1.frozen 1
  have z1_1 : w1.cell? ⟨w.heap.size + 1, 1, none⟩ = some (.int .i64 0) := B1_1.cell 1
  have zf1_1 : w1.frozen? ⟨w.heap.size + 1, 1, none⟩ = false := B1_1.frozen 1
  have x2_1 : w1.cell? ⟨w.heap.size, 2, none⟩ = some (.int .i64 q) := B0_1.cell 2
  have y2_1 : w1.cell? ⟨w.heap.size + 1 + 1, 2, none⟩ = some (.int .i64 0) := B2_1.cell 2
  have yf2_1 : w1.frozen? ⟨w.heap.size + 1 + 1, 2, none⟩ = false := B2_1.frozen 2
  have z2_1 : w1.cell? ⟨w.heap.size + 1, 2, none⟩ = some (.int .i64 0) := B1_1.cell 2
  have zf2_1 : w1.frozen? ⟨w.heap.size + 1, 2, none⟩ = false := B1_1.frozen 2
  go_wp2_with fail
  refine (toFigure_c p q _).mono ?_; rintro e w2 ⟨rfl, hb2⟩
  have B0_2 := (B0_1.far (p := ⟨w.heap.size + 1 + 1, 0, none⟩) (by first | omega | (simp; omega) | simp) (.slice B1 l1.length d1)).below hb2 (by first | omega | (simp; omega) | simp)
  have B1_2 := (B1_1.far (p := ⟨w.heap.size + 1 + 1, 0, none⟩) (by first | omega | (simp; omega) | simp) (.slice B1 l1.length d1)).below hb2 (by first | omega | (simp; omega) | simp)
  have B2_2 : Blk w2 (w.heap.size + 1 + 1) 67 #[.slice B1 l1.length d1, .int .i64 0, .int .i64 0] := (B2_1.set_ 0 (.slice B1 l1.length d1)).below hb2 (by first | omega | (simp; omega) | simp)
  have hB2 : Below w.heap.size w w2 := Below.trans ((by repeat (first | with_reducible exact hB1 | with_reducible apply below_drewN' | with_reducible apply Below.drew | (with_reducible refine Below.alloc ?_ (by first | omega | (simp; omega) | simp) _) | (with_reducible refine Below.setCell ?_ (by first | omega | (simp; omega) | simp) _) | exact hB1))) (hb2.mono (by first | omega | (simp; omega) | simp))
  have hBs2 := hB2.size
  have hZ2 := B2_2.lt
  have hO_1 := (own_far hO_1 (b := w.heap.size + 1 + 1) (off := 0) (u := .slice B1 l1.length d1) (by first | omega | (simp; omega) | simp)).below hb2
  have x0_2 : w2.cell? ⟨w.heap.size, 0, none⟩ = some (.slice A1 l1.length c1) := B0_2.cell 0
  have y0_2 : w2.cell? ⟨w.heap.size + 1 + 1, 0, none⟩ = some (.slice B1 l1.length d1) := B2_2.cell 0
  have yf0_2 : w2.frozen? ⟨w.heap.size + 1 + 1, 0, none⟩ = false := B2_2.frozen 0
  have z0_2 : w2.cell? ⟨w.heap.size + 1, 0, none⟩ = some (.slice none 0 0) := B1_2.cell 0
  have zf0_2 : w2.frozen? ⟨w.heap.size + 1, 0, none⟩ = false := B1_2.frozen 0
  have x1_2 : w2.cell? ⟨w.heap.size, 1, none⟩ = some (.int .i64 p) := B0_2.cell 1
  have y1_2 : w2.cell? ⟨w.heap.size + 1 + 1, 1, none⟩ = some (.int .i64 0) := B2_2.cell 1
  have yf1_2 : w2.frozen? ⟨w.heap.size + 1 + 1, 1, none⟩ = false := B2_2.frozen 1
  have z1_2 : w2.cell? ⟨w.heap.size + 1, 1, none⟩ = some (.int .i64 0) := B1_2.cell 1
  have zf1_2 : w2.frozen? ⟨w.heap.size + 1, 1, none⟩ = false := B1_2.frozen 1
  have x2_2 : w2.cell? ⟨w.heap.size, 2, none⟩ = some (.int .i64 q) := B0_2.cell 2
  have y2_2 : w2.cell? ⟨w.heap.size + 1 + 1, 2, none⟩ = some (.int .i64 0) := B2_2.cell 2
  have yf2_2 : w2.frozen? ⟨w.heap.size + 1 + 1, 2, none⟩ = false := B2_2.frozen 2
  have z2_2 : w2.cell? ⟨w.heap.size + 1, 2, none⟩ = some (.int .i64 0) := B1_2.cell 2
  have zf2_2 : w2.frozen? ⟨w.heap.size + 1, 2, none⟩ = false := B1_2.frozen 2
  go_wp2_with fail
  refine bodyPost_ret (v := .agg #[.slice B1 l1.length d1, .int .i64 p, .int .i64 q]) (by simp [results, Tryz.results34, go_sem, z0_2, z1_2, z2_2]) rfl ⟨B1, d1, rfl, own_mono (base := w.heap.size + 1 + 1 + 1) (by repeat (first | with_reducible exact hO_1 | (with_reducible refine own_far ?_ (by first | omega | (simp; omega))))) (by first | omega | (simp; omega) | simp), (by repeat (first | with_reducible exact hB2 | with_reducible apply below_drewN' | with_reducible apply Below.drew | (with_reducible refine Below.alloc ?_ (by first | omega | (simp; omega) | simp) _) | (with_reducible refine Below.setCell ?_ (by first | omega | (simp; omega) | simp) _) | exact hB2))⟩

set_option maxRecDepth 100000 in
theorem eqAnswer_c (A1 : Option Addr) (c1 : Nat) (A1' : Option Addr) (c1' : Nat) (l1 : List Move) (p q : Int) (w : World) (h1 : l1.length ≤ 1048576) (hs1 : Sl w w.heap.size 4 A1 (l1.map Move.cells)) (hs2 : Sl w w.heap.size 4 A1' (l1.map Move.cells)) :
    Calls Tryz.prog 36 #[.agg #[.slice A1 l1.length c1, .int .i64 p, .int .i64 q], .agg #[.slice A1' l1.length c1', .int .i64 p, .int .i64 q]] w fun e w' => e = .returned (.bool true) ∧ Below w.heap.size w w' := by
  go_enter Tryz.func36, Tryz.ntmps36
  go_wp2_with fail
  refine (eqMoveS_c A1 A1' c1 c1' l1 _ (by omega) ((hs1.below ((by repeat (first | with_reducible exact Below.refl _ _ | with_reducible apply below_drewN' | with_reducible apply Below.drew | (with_reducible refine Below.alloc ?_ (by first | omega | (simp; omega) | simp) _) | (with_reducible refine Below.setCell ?_ (by first | omega | (simp; omega) | simp) _) | exact Below.refl _ _)))).more (by first | omega | (simp; omega) | simp)) ((hs2.below ((by repeat (first | with_reducible exact Below.refl _ _ | with_reducible apply below_drewN' | with_reducible apply Below.drew | (with_reducible refine Below.alloc ?_ (by first | omega | (simp; omega) | simp) _) | (with_reducible refine Below.setCell ?_ (by first | omega | (simp; omega) | simp) _) | exact Below.refl _ _)))).more (by first | omega | (simp; omega) | simp))).mono ?_; rintro e w1 ⟨rfl, hb1⟩
  have B0_1 := ((Blk.new w 67 #[.slice A1 l1.length c1, .int .i64 p, .int .i64 q]).alloc (.cells #[.slice A1' l1.length c1', .int .i64 p, .int .i64 q] 67)).below hb1 (by first | omega | (simp; omega) | simp)
  have B1_1 := (Blk.new' (w.alloc (.cells #[.slice A1 l1.length c1, .int .i64 p, .int .i64 q] 67)) 67 #[.slice A1' l1.length c1', .int .i64 p, .int .i64 q] (g := w.heap.size + 1) (by simp)).below hb1 (by first | omega | (simp; omega) | simp)
  have hB1 : Below w.heap.size w w1 := Below.trans ((by repeat (first | with_reducible exact Below.refl _ _ | with_reducible apply below_drewN' | with_reducible apply Below.drew | (with_reducible refine Below.alloc ?_ (by first | omega | (simp; omega) | simp) _) | (with_reducible refine Below.setCell ?_ (by first | omega | (simp; omega) | simp) _) | exact Below.refl _ _))) (hb1.mono (by first | omega | (simp; omega) | simp))
  have hBs1 := hB1.size
  have hZ1 := B1_1.lt
  have x0_1 : w1.cell? ⟨w.heap.size, 0, none⟩ = some (.slice A1 l1.length c1) := B0_1.cell 0
  have y0_1 : w1.cell? ⟨w.heap.size + 1, 0, none⟩ = some (.slice A1' l1.length c1') := B1_1.cell 0
  have x1_1 : w1.cell? ⟨w.heap.size, 1, none⟩ = some (.int .i64 p) := B0_1.cell 1
  have y1_1 : w1.cell? ⟨w.heap.size + 1, 1, none⟩ = some (.int .i64 p) := B1_1.cell 1
  have x2_1 : w1.cell? ⟨w.heap.size, 2, none⟩ = some (.int .i64 q) := B0_1.cell 2
  have y2_1 : w1.cell? ⟨w.heap.size + 1, 2, none⟩ = some (.int .i64 q) := B1_1.cell 2
  go_wp2_with fail
  refine (eqFigure_c p q _).mono ?_; rintro e w2 ⟨rfl, hb2⟩
  have B0_2 := B0_1.below hb2 (by first | omega | (simp; omega) | simp)
  have B1_2 := B1_1.below hb2 (by first | omega | (simp; omega) | simp)
  have hB2 : Below w.heap.size w w2 := Below.trans ((by repeat (first | with_reducible exact hB1 | with_reducible apply below_drewN' | with_reducible apply Below.drew | (with_reducible refine Below.alloc ?_ (by first | omega | (simp; omega) | simp) _) | (with_reducible refine Below.setCell ?_ (by first | omega | (simp; omega) | simp) _) | exact hB1))) (hb2.mono (by first | omega | (simp; omega) | simp))
  have hBs2 := hB2.size
  have hZ2 := B1_2.lt
  have x0_2 : w2.cell? ⟨w.heap.size, 0, none⟩ = some (.slice A1 l1.length c1) := B0_2.cell 0
  have y0_2 : w2.cell? ⟨w.heap.size + 1, 0, none⟩ = some (.slice A1' l1.length c1') := B1_2.cell 0
  have x1_2 : w2.cell? ⟨w.heap.size, 1, none⟩ = some (.int .i64 p) := B0_2.cell 1
  have y1_2 : w2.cell? ⟨w.heap.size + 1, 1, none⟩ = some (.int .i64 p) := B1_2.cell 1
  have x2_2 : w2.cell? ⟨w.heap.size, 2, none⟩ = some (.int .i64 q) := B0_2.cell 2
  have y2_2 : w2.cell? ⟨w.heap.size + 1, 2, none⟩ = some (.int .i64 q) := B1_2.cell 2
  go_wp2_with fail
  go_ret
  exact ⟨rfl, (by repeat (first | with_reducible exact hB2 | with_reducible apply below_drewN' | with_reducible apply Below.drew | (with_reducible refine Below.alloc ?_ (by first | omega | (simp; omega) | simp) _) | (with_reducible refine Below.setCell ?_ (by first | omega | (simp; omega) | simp) _) | exact hB2))⟩
end Go.Proofs.YtgkobjpoeajkdaaGreat
namespace Go.Proofs.YtgkobjpoeajkdaaGreat
open Go.RowKit
def nextX (x : Int) : Int := (x * 1103 + 12345) % 1000003
def xsMk (seed : Int) : Nat → Int
  | 0 => seed
  | k + 1 => nextX (xsMk seed k)
def termX (x : Int) (k : Nat) : Term := ⟨1000 + x % 9000, 0, decide (0 < k) && decide (x / 9000 % 2 = 1)⟩
def mkTo (seed : Int) (k : Nat) : List Term := (List.range k).map fun i => termX (xsMk seed (i + 1)) i
theorem mkTo_succ (seed : Int) (k : Nat) : mkTo seed (k + 1) = mkTo seed k ++ [termX (nextX (xsMk seed k)) k] := by
  unfold mkTo
  rw [List.range_succ, List.map_append]
  rfl
theorem mkTo_length (seed : Int) (k : Nat) : (mkTo seed k).length = k := by simp [mkTo]
theorem nextX_bd (x : Int) : 0 ≤ nextX x ∧ nextX x ≤ 1000002 := by unfold nextX; omega
theorem xsMk_bd {seed : Int} (h : 0 ≤ seed ∧ seed ≤ 1000000) : ∀ k, 0 ≤ xsMk seed k ∧ xsMk seed k ≤ 1000002
  | 0 => ⟨h.1, by have := h.2; unfold xsMk; omega⟩
  | k + 1 => nextX_bd (xsMk seed k)
theorem apart_two {x y : Value} {N : Nat} (h1 : ∀ r, x.ownBlock = some r → r < N) (h2 : ∀ r, y.ownBlock = some r → N ≤ r) : Apart x y ∧ Apart y x := by
  unfold Apart
  cases hx : x.ownBlock with
  | none => cases hy : y.ownBlock with
    | none => exact ⟨.inl rfl, .inl rfl⟩
    | some b => exact ⟨.inr (by simp), .inl rfl⟩
  | some a => cases hy : y.ownBlock with
    | none => exact ⟨.inl rfl, .inr (by simp)⟩
    | some b =>
      have := h1 a hx
      have := h2 b hy
      exact ⟨.inr (by simp; omega), .inr (by simp; omega)⟩
/-- while the rule's lists are copied: what is read, copied, stored so far -/
structure OwR (w0 : World) (L : Int) (l1 l2 : List Int) (A1 A2 : Value) (r1 b1 s1 r2 b2 s2 : Bool) (v5 v8 : Value) (v : World) : Prop where
  hb : Below w0.heap.size w0 v
  br : Blk v w0.heap.size 32 #[.int .i64 L, bif s1 then v5 else A1, bif s2 then v8 else A2]
  bo : Blk v (w0.heap.size + 1) 32 #[.int .i64 0, .slice none 0 0, .slice none 0 0]
  c1 : b1 = true → r1 = true
  c2 : b2 = true → r2 = true
  d1 : s1 = true → b1 = true
  d2 : s2 = true → b2 = true
  o1 : b1 = true → ∃ B d, v5 = .slice B l1.length d ∧ Own v (w0.heap.size + 2) 2 1 (.slice B l1.length d) (l1.map ic)
  o2 : b2 = true → ∃ B d, v8 = .slice B l2.length d ∧ Own v (w0.heap.size + 2) 2 1 (.slice B l2.length d) (l2.map ic)
  ap : b1 = true → b2 = true → Apart v5 v8
section
variable {w0 v v' : World} {L : Int} {l1 l2 : List Int} {A1 A2 v5 v8 : Value} {r1 b1 s1 r2 b2 s2 : Bool}
theorem OwR.rd1 (h : OwR w0 L l1 l2 A1 A2 r1 b1 s1 r2 b2 s2 v5 v8 v) : OwR w0 L l1 l2 A1 A2 true b1 s1 r2 b2 s2 v5 v8 v := ⟨h.hb, h.br, h.bo, fun _ => rfl, h.c2, h.d1, h.d2, h.o1, h.o2, h.ap⟩
theorem OwR.rd2 (h : OwR w0 L l1 l2 A1 A2 r1 b1 s1 r2 b2 s2 v5 v8 v) : OwR w0 L l1 l2 A1 A2 r1 b1 s1 true b2 s2 v5 v8 v := ⟨h.hb, h.br, h.bo, h.c1, fun _ => rfl, h.d1, h.d2, h.o1, h.o2, h.ap⟩
theorem OwR.size (h : OwR w0 L l1 l2 A1 A2 r1 b1 s1 r2 b2 s2 v5 v8 v) : w0.heap.size + 2 ≤ v.heap.size := h.bo.lt
theorem OwR.old1 (h : OwR w0 L l1 l2 A1 A2 r1 b1 s1 r2 b2 s2 v5 v8 v) (hr : r1 = false) : v.cell? ⟨w0.heap.size, 1, none⟩ = some A1 := by
  have hs : s1 = false := by cases hs : s1 with
    | false => rfl
    | true => have := h.c1 (h.d1 hs); rw [hr] at this; cases this
  have := h.br.cell 1
  rw [hs] at this
  exact this
theorem OwR.old2 (h : OwR w0 L l1 l2 A1 A2 r1 b1 s1 r2 b2 s2 v5 v8 v) (hr : r2 = false) : v.cell? ⟨w0.heap.size, 2, none⟩ = some A2 := by
  have hs : s2 = false := by cases hs : s2 with
    | false => rfl
    | true => have := h.c2 (h.d2 hs); rw [hr] at this; cases this
  have := h.br.cell 2
  rw [hs] at this
  exact this
theorem own_ltS {w : World} {base : Nat} {e : TypeId} {k : Nat} {u : Value} {xs : List (List Value)} (h : Own w base e k u xs) : ∀ r, u.ownBlock = some r → r < w.heap.size := fun r hr => (h.1.lt r hr).2
theorem OwR.put1 (h : OwR w0 L l1 l2 A1 A2 true b1 s1 r2 b2 s2 v5 v8 v) (hf : b1 = false) {B : Option Addr} {d : Nat} (ho : Own v' v.heap.size 2 1 (.slice B l1.length d) (l1.map ic)) (hb : Below v.heap.size v v') :
    OwR w0 L l1 l2 A1 A2 true true s1 r2 b2 s2 (.slice B l1.length d) v8 v' := by
  have hs : s1 = false := by cases hs : s1 with
    | false => rfl
    | true => have := h.d1 hs; rw [hf] at this; cases this
  subst hs
  exact ⟨h.hb.trans (hb.mono h.hb.size), h.br.below hb h.br.lt, h.bo.below hb h.bo.lt, fun _ => rfl, h.c2, nofun, h.d2, fun _ => ⟨B, d, rfl, ho.mono h.size⟩, fun e => by
    obtain ⟨B', d', h1, h2⟩ := h.o2 e
    exact ⟨B', d', h1, h2.below hb⟩, fun _ e => by
    obtain ⟨B', d', rfl, h2⟩ := h.o2 e
    exact (apart_two (own_ltS h2) ho.ownGe).2⟩
theorem OwR.put2 (h : OwR w0 L l1 l2 A1 A2 r1 b1 s1 true b2 s2 v5 v8 v) (hf : b2 = false) {B : Option Addr} {d : Nat} (ho : Own v' v.heap.size 2 1 (.slice B l2.length d) (l2.map ic)) (hb : Below v.heap.size v v') :
    OwR w0 L l1 l2 A1 A2 r1 b1 s1 true true s2 v5 (.slice B l2.length d) v' := by
  have hs : s2 = false := by cases hs : s2 with
    | false => rfl
    | true => have := h.d2 hs; rw [hf] at this; cases this
  subst hs
  exact ⟨h.hb.trans (hb.mono h.hb.size), h.br.below hb h.br.lt, h.bo.below hb h.bo.lt, h.c1, fun _ => rfl, h.d1, nofun, fun e => by
    obtain ⟨B', d', h1, h2⟩ := h.o1 e
    exact ⟨B', d', h1, h2.below hb⟩, fun _ => ⟨B, d, rfl, ho.mono h.size⟩, fun e _ => by
    obtain ⟨B', d', rfl, h2⟩ := h.o1 e
    exact (apart_two (own_ltS h2) ho.ownGe).1⟩
theorem OwR.put1' (h : OwR w0 L l1 l2 A1 A2 r1 b1 s1 r2 b2 s2 v5 v8 v) (hr : r1 = true) (hf : b1 = false) {B : Option Addr} {d : Nat} (ho : Own v' v.heap.size 2 1 (.slice B l1.length d) (l1.map ic)) (hb : Below v.heap.size v v') :
    OwR w0 L l1 l2 A1 A2 r1 true s1 r2 b2 s2 (.slice B l1.length d) v8 v' := by
  subst hr
  exact h.put1 hf ho hb
theorem OwR.put2' (h : OwR w0 L l1 l2 A1 A2 r1 b1 s1 r2 b2 s2 v5 v8 v) (hr : r2 = true) (hf : b2 = false) {B : Option Addr} {d : Nat} (ho : Own v' v.heap.size 2 1 (.slice B l2.length d) (l2.map ic)) (hb : Below v.heap.size v v') :
    OwR w0 L l1 l2 A1 A2 r1 b1 s1 r2 true s2 v5 (.slice B l2.length d) v' := by
  subst hr
  exact h.put2 hf ho hb
theorem OwR.st1 (h : OwR w0 L l1 l2 A1 A2 r1 b1 s1 r2 b2 s2 v5 v8 v) (e : b1 = true) : OwR w0 L l1 l2 A1 A2 r1 b1 true r2 b2 s2 v5 v8 (v.setCell ⟨w0.heap.size, 1, none⟩ v5) :=
  ⟨h.hb.setCell (Nat.le_refl _) _, h.br.set_ 1 v5, h.bo.far (by simp) _, h.c1, h.c2, fun _ => e, h.d2, fun e => by
    obtain ⟨B, d, h1, h2⟩ := h.o1 e
    exact ⟨B, d, h1, own_far h2 (by omega)⟩, fun e => by
    obtain ⟨B, d, h1, h2⟩ := h.o2 e
    exact ⟨B, d, h1, own_far h2 (by omega)⟩, h.ap⟩
theorem OwR.st2 (h : OwR w0 L l1 l2 A1 A2 r1 b1 s1 r2 b2 s2 v5 v8 v) (e : b2 = true) : OwR w0 L l1 l2 A1 A2 r1 b1 s1 r2 b2 true v5 v8 (v.setCell ⟨w0.heap.size, 2, none⟩ v8) :=
  ⟨h.hb.setCell (Nat.le_refl _) _, h.br.set_ 2 v8, h.bo.far (by simp) _, h.c1, h.c2, h.d1, fun _ => e, fun e => by
    obtain ⟨B, d, h1, h2⟩ := h.o1 e
    exact ⟨B, d, h1, own_far h2 (by omega)⟩, fun e => by
    obtain ⟨B, d, h1, h2⟩ := h.o2 e
    exact ⟨B, d, h1, own_far h2 (by omega)⟩, h.ap⟩
end
set_option maxRecDepth 100000 in
set_option maxHeartbeats 1000000 in
theorem ownRule_c (L : Int) (A1 : Option Addr) (c1 : Nat) (l1 : List Int) (A2 : Option Addr) (c2 : Nat) (l2 : List Int) (w : World) (h1 : l1.length ≤ 1048576) (h2 : l2.length ≤ 1048576) (hs1 : Sl w w.heap.size 1 A1 (l1.map ic)) (hs2 : Sl w w.heap.size 1 A2 (l2.map ic)) :
    Calls Tryz.prog 79 #[.agg #[.int .i64 L, .slice A1 l1.length c1, .slice A2 l2.length c2]] w fun e w' => RulePost L l1 l2 w e w' := by
  have H1 := Lib.hid (fun (W : World) (hW : Below w.heap.size w W) => cloneInt_c A1 c1 l1 W (by omega) ((hs1.below hW).more hW.size))
  have H2 := Lib.hid (fun (W : World) (hW : Below w.heap.size w W) => cloneInt_c A2 c2 l2 W (by omega) ((hs2.below hW).more hW.size))
  have hb0 : Below w.heap.size w ((w.alloc (.cells #[.int .i64 L, .slice A1 l1.length c1, .slice A2 l2.length c2] 32)).alloc (.cells #[.int .i64 0, .slice none 0 0, .slice none 0 0] 32)) := (by repeat (first | with_reducible exact Below.refl _ _ | with_reducible apply below_drewN' | with_reducible apply Below.drew | (with_reducible refine Below.alloc ?_ (by first | omega | (simp; omega) | simp) _) | (with_reducible refine Below.setCell ?_ (by first | omega | (simp; omega) | simp) _) | exact Below.refl _ _))
  have br0 := (Blk.new w 32 #[.int .i64 L, .slice A1 l1.length c1, .slice A2 l2.length c2]).alloc (.cells #[.int .i64 0, .slice none 0 0, .slice none 0 0] 32)
  have bo0 := Blk.new' (w.alloc (.cells #[.int .i64 L, .slice A1 l1.length c1, .slice A2 l2.length c2] 32)) 32 #[.int .i64 0, .slice none 0 0, .slice none 0 0] (g := w.heap.size + 1) (by simp)
  clear hs1 hs2
  go_enter Tryz.func79, Tryz.ntmps79
  go_wp2_with fail
  generalize ((w.alloc (.cells #[.int .i64 L, .slice A1 l1.length c1, .slice A2 l2.length c2] 32)).alloc (.cells #[.int .i64 0, .slice none 0 0, .slice none 0 0] 32)) = W at *
  refine wp_region_all (fun a0 fL bA v => ∃ v3 v4 v5 v6 v7 v8 v9 v10 : Value, bA = (((((((a0.put (some 3) v3).put (some 4) v4).put (some 5) v5).put (some 6) v6).put (some 7) v7).put (some 8) v8).put (some 9) v9).put (some 10) v10 ∧ (OwR w L l1 l2 (.slice A1 l1.length c1) (.slice A2 l2.length c2) (fL 1) (fL 2) (fL 7) (fL 4) (fL 5) (fL 9) v5 v8 v) ∧ (fL 0 = true → v3 = .pointer (some ⟨w.heap.size, 1, none⟩)) ∧ (fL 1 = true → v4 = .slice A1 l1.length c1) ∧ (fL 2 = true → True) ∧ (fL 3 = true → v6 = .pointer (some ⟨w.heap.size, 2, none⟩)) ∧ (fL 4 = true → v7 = .slice A2 l2.length c2) ∧ (fL 5 = true → True) ∧ (fL 6 = true → v9 = .pointer (some ⟨w.heap.size, 1, none⟩)) ∧ (fL 8 = true → v10 = .pointer (some ⟨w.heap.size, 2, none⟩))) (by kernel_rfl) (by decide +kernel) ?_ ?_ ?_
  · exact ⟨undef, undef, undef, undef, undef, undef, undef, undef, by simp only [Act.put, List.setIfInBounds_toArray, List.set_cons_zero, List.set_cons_succ], ⟨hb0.drew, br0, bo0, nofun, nofun, nofun, nofun, nofun, nofun, nofun⟩, nofun, nofun, nofun, nofun, nofun, nofun, nofun, nofun⟩
  · rintro fL bA v ⟨v3, v4, v5, v6, v7, v8, v9, v10, rfl, hS, q0, q1, q2, q3, q4, q5, q6, q8⟩ i hi hf o ho hall
    simp only [Act.put, List.setIfInBounds_toArray, List.set_cons_zero, List.set_cons_succ]
    simp only [List.length_cons, List.length_nil] at hi
    have hn : i = 0 ∨ i = 1 ∨ i = 2 ∨ i = 3 ∨ i = 4 ∨ i = 5 ∨ i = 6 ∨ i = 7 ∨ i = 8 ∨ i = 9 := by omega
    clear hi
    rcases hn with rfl | rfl | rfl | rfl | rfl | rfl | rfl | rfl | rfl | rfl
    · obtain rfl := Option.some.inj ho
      clear hall ho
      refine wpOp_step rfl (fun K hK => ?_)
      go_simp
      exact hK _ _ ⟨_, _, _, _, _, _, _, _, rfl, hS, fun _ => rfl, q1, fun _ => trivial, q3, q4, fun _ => trivial, q6, q8⟩
    · obtain rfl := Option.some.inj ho
      obtain rfl := q0 (hall ⟨0, .data⟩ (by simp) rfl)
      have y0 := hS.old1 hf
      clear hall ho
      refine wpOp_step rfl (fun K hK => ?_)
      go_simp
      exact hK _ _ ⟨_, _, _, _, _, _, _, _, rfl, hS.rd1, fun _ => rfl, fun _ => rfl, fun _ => trivial, q3, q4, fun _ => trivial, q6, q8⟩
    · obtain rfl := Option.some.inj ho
      obtain rfl := q1 (hall ⟨1, .data⟩ (by simp) rfl)
      have r1 : fL 1 = true := hall ⟨1, .data⟩ (by simp) rfl
      clear hall ho
      refine wpOp_step rfl (fun K hK => ?_)
      go_simp
      refine Calls.mono (H1.out v hS.hb) ?_; rintro e w7 ⟨B, d, rfl, ho, hb7⟩
      go_simp
      exact hK _ _ ⟨_, _, _, _, _, _, _, _, rfl, by have h := hS.put1' r1 hf ho hb7; exact h, q0, fun _ => rfl, fun _ => trivial, q3, q4, fun _ => trivial, q6, q8⟩
    · obtain rfl := Option.some.inj ho
      clear hall ho
      refine wpOp_step rfl (fun K hK => ?_)
      go_simp
      exact hK _ _ ⟨_, _, _, _, _, _, _, _, rfl, hS, q0, q1, fun _ => trivial, fun _ => rfl, q4, fun _ => trivial, q6, q8⟩
    · obtain rfl := Option.some.inj ho
      obtain rfl := q3 (hall ⟨3, .data⟩ (by simp) rfl)
      have y0 := hS.old2 hf
      clear hall ho
      refine wpOp_step rfl (fun K hK => ?_)
      go_simp
      exact hK _ _ ⟨_, _, _, _, _, _, _, _, rfl, hS.rd2, q0, q1, fun _ => trivial, fun _ => rfl, fun _ => rfl, fun _ => trivial, q6, q8⟩
    · obtain rfl := Option.some.inj ho
      obtain rfl := q4 (hall ⟨4, .data⟩ (by simp) rfl)
      have r2 : fL 4 = true := hall ⟨4, .data⟩ (by simp) rfl
      clear hall ho
      refine wpOp_step rfl (fun K hK => ?_)
      go_simp
      refine Calls.mono (H2.out v hS.hb) ?_; rintro e w7 ⟨B, d, rfl, ho, hb7⟩
      go_simp
      exact hK _ _ ⟨_, _, _, _, _, _, _, _, rfl, by have h := hS.put2' r2 hf ho hb7; exact h, q0, q1, fun _ => trivial, q3, fun _ => rfl, fun _ => trivial, q6, q8⟩
    · obtain rfl := Option.some.inj ho
      clear hall ho
      refine wpOp_step rfl (fun K hK => ?_)
      go_simp
      exact hK _ _ ⟨_, _, _, _, _, _, _, _, rfl, hS, q0, q1, fun _ => trivial, q3, q4, fun _ => trivial, fun _ => rfl, q8⟩
    · obtain rfl := Option.some.inj ho
      obtain rfl := q6 (hall ⟨6, .data⟩ (by simp) rfl)
      have e2 : fL 2 = true := hall ⟨2, .data⟩ (by simp) rfl
      obtain ⟨B, d, rfl, _⟩ := hS.o1 e2
      have y0 := hS.br.cell 1
      have yf := hS.br.frozen 1
      clear hall ho
      refine wpOp_step rfl (fun K hK => ?_)
      go_simp
      exact hK _ _ ⟨_, _, _, _, _, _, _, _, rfl, hS.st1 e2, q0, q1, fun _ => trivial, q3, q4, fun _ => trivial, fun _ => rfl, q8⟩
    · obtain rfl := Option.some.inj ho
      clear hall ho
      refine wpOp_step rfl (fun K hK => ?_)
      go_simp
      exact hK _ _ ⟨_, _, _, _, _, _, _, _, rfl, hS, q0, q1, fun _ => trivial, q3, q4, fun _ => trivial, q6, fun _ => rfl⟩
    · obtain rfl := Option.some.inj ho
      obtain rfl := q8 (hall ⟨8, .data⟩ (by simp) rfl)
      have e5 : fL 5 = true := hall ⟨5, .data⟩ (by simp) rfl
      obtain ⟨B, d, rfl, _⟩ := hS.o2 e5
      have y0 := hS.br.cell 2
      have yf := hS.br.frozen 2
      clear hall ho
      refine wpOp_step rfl (fun K hK => ?_)
      go_simp
      exact hK _ _ ⟨_, _, _, _, _, _, _, _, rfl, hS.st2 e5, q0, q1, fun _ => trivial, q3, q4, fun _ => trivial, q6, fun _ => rfl⟩
  · rintro fL bA v ⟨v3, v4, v5, v6, v7, v8, v9, v10, rfl, hS, q0, q1, q2, q3, q4, q5, q6, q8⟩ hall
    simp only [Act.put, List.setIfInBounds_toArray, List.set_cons_zero, List.set_cons_succ]
    simp only [List.length_cons, List.length_nil] at hall
    obtain rfl := q0 (hall 0 (by omega))
    obtain rfl := q1 (hall 1 (by omega))
    have e2 : fL 2 = true := hall 2 (by omega)
    obtain rfl := q3 (hall 3 (by omega))
    obtain rfl := q4 (hall 4 (by omega))
    have e5 : fL 5 = true := hall 5 (by omega)
    obtain rfl := q6 (hall 6 (by omega))
    obtain rfl := q8 (hall 8 (by omega))
    have e7 : fL 7 = true := hall 7 (by omega)
    have e9 : fL 9 = true := hall 9 (by omega)
    clear hall
    obtain ⟨B1, d1, rfl, o1⟩ := hS.o1 e2
    obtain ⟨B2, d2, rfl, o2⟩ := hS.o2 e5
    have hap := hS.ap e2 e5
    have hb := hS.hb
    have br := hS.br
    have bo := hS.bo
    rw [e7, e9] at br
    have y0 : v.cell? ⟨w.heap.size, 0, none⟩ = some (.int .i64 L) := br.cell 0
    have y1 : v.cell? ⟨w.heap.size, 1, none⟩ = some (.slice B1 l1.length d1) := br.cell 1
    have y2 : v.cell? ⟨w.heap.size, 2, none⟩ = some (.slice B2 l2.length d2) := br.cell 2
    have z0 : v.cell? ⟨w.heap.size + 1, 0, none⟩ = some (.int .i64 0) := bo.cell 0
    have z1 : v.cell? ⟨w.heap.size + 1, 1, none⟩ = some (.slice none 0 0) := bo.cell 1
    have z2 : v.cell? ⟨w.heap.size + 1, 2, none⟩ = some (.slice none 0 0) := bo.cell 2
    have zf0 := bo.frozen 0
    have zf1 := bo.frozen 1
    have zf2 := bo.frozen 2
    clear hS
    go_wp2
    refine bodyPost_ret (v := .agg #[.int .i64 L, .slice B1 l1.length d1, .slice B2 l2.length d2]) (by simp [results, Tryz.results79, go_sem, z0, z1, z2]) rfl ⟨B1, d1, B2, d2, rfl, ?_, ?_, hap, (by repeat (first | with_reducible exact hb | with_reducible apply below_drewN' | with_reducible apply Below.drew | (with_reducible refine Below.alloc ?_ (by first | omega | (simp; omega) | simp) _) | (with_reducible refine Below.setCell ?_ (by first | omega | (simp; omega) | simp) _) | exact hb))⟩
    · exact own_mono (own_far (own_far (own_far o1 (by omega)) (by omega)) (by omega)) (by omega)
    · exact own_mono (own_far (own_far (own_far o2 (by omega)) (by omega)) (by omega)) (by omega)
end Go.Proofs.YtgkobjpoeajkdaaGreat
