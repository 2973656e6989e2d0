/- Desks: the laws' copies and comparisons of them. No condition beyond the lengths. -/
import Derived.Test.YtmdliicdlehibaaChart0
import Derived.Test.YtmdliicdlehibaaTerm
namespace Go.Proofs.Ytmdliicdlehibaa
open Go.RowKit
set_option maxRecDepth 100000 in
theorem toDesk_c (L : Int) (A1 : Option Addr) (c1 : Nat) (l1 : List Int) (A2 : Option Addr) (c2 : Nat) (l2 : List Int) (p q r : Int) (A3 : Option Addr) (c3 : Nat) (l3 : List Term) (fd ft : Int) (nm : ByteArray) (A4 : Option Addr) (c4 : Nat) (l4 : List Int) (wd lf rt : Int) (w : World) (h1 : l1.length ≤ 1048576) (h2 : l2.length ≤ 1048576) (h3 : l3.length ≤ 1048576) (h4 : l4.length ≤ 1048576) (hs1 : Sl w w.heap.size 1 A1 (l1.map ic)) (hs2 : Sl w w.heap.size 1 A2 (l2.map ic)) (hs3 : Sl w w.heap.size 3 A3 (l3.map Term.cells)) (hs4 : Sl w w.heap.size 1 A4 (l4.map ic)) :
    Calls Try.prog 19 #[.agg #[.int .i64 L, .slice A1 l1.length c1, .slice A2 l2.length c2, .int .i64 p, .int .i64 q, .int .i64 r, .slice A3 l3.length c3, .int .i64 fd, .int .i64 ft, .string nm, .slice A4 l4.length c4, .int .i64 wd, .int .i64 lf, .int .i64 rt]] w fun e w' => ∃ B1 d1 B2 d2 B3 d3 B4 d4, e = .returned (.agg #[.int .i64 L, .slice B1 l1.length d1, .slice B2 l2.length d2, .int .i64 p, .int .i64 q, .int .i64 r, .slice B3 l3.length d3, .int .i64 fd, .int .i64 ft, .string nm, .slice B4 l4.length d4, .int .i64 wd, .int .i64 lf, .int .i64 rt]) ∧ Own w' w.heap.size 2 1 (.slice B1 l1.length d1) (l1.map ic) ∧ Own w' w.heap.size 2 1 (.slice B2 l2.length d2) (l2.map ic) ∧ Own w' w.heap.size 103 3 (.slice B3 l3.length d3) (l3.map Term.cells) ∧ Own w' w.heap.size 2 1 (.slice B4 l4.length d4) (l4.map ic) ∧ Below w.heap.size w w' := by
  go_enter Try.func19, Try.ntmps19
  go_wp2_with fail
  refine (toRule_c L A1 c1 l1 A2 c2 l2 _ (by omega) (by omega) ((hs1.below ((by repeat (first | with_reducible exact Below.refl _ _ | with_reducible apply below_drewN' | with_reducible apply Below.drew | (with_reducible refine Below.alloc ?_ (by first | omega | (simp; omega) | simp) _) | (with_reducible refine Below.setCell ?_ (by first | omega | (simp; omega) | simp) _) | exact Below.refl _ _)))).more (by first | omega | (simp; omega) | simp)) ((hs2.below ((by repeat (first | with_reducible exact Below.refl _ _ | with_reducible apply below_drewN' | with_reducible apply Below.drew | (with_reducible refine Below.alloc ?_ (by first | omega | (simp; omega) | simp) _) | (with_reducible refine Below.setCell ?_ (by first | omega | (simp; omega) | simp) _) | exact Below.refl _ _)))).more (by first | omega | (simp; omega) | simp))).mono ?_; rintro e w1 ⟨B1, d1, B2, d2, rfl, hO_1, hO_2, hap, hb1⟩
  have B0_1 := (((Blk.new w 56 #[.int .i64 L, .slice A1 l1.length c1, .slice A2 l2.length c2, .int .i64 p, .int .i64 q, .int .i64 r, .slice A3 l3.length c3, .int .i64 fd, .int .i64 ft, .string nm, .slice A4 l4.length c4, .int .i64 wd, .int .i64 lf, .int .i64 rt]).alloc (.cells #[.int .i64 0, .slice none 0 0, .slice none 0 0, .int .i64 0, .int .i64 0, .int .i64 0, .slice none 0 0, .int .i64 0, .int .i64 0, .string ByteArray.empty, .slice none 0 0, .int .i64 0, .int .i64 0, .int .i64 0] 63)).alloc (.cells #[.int .i64 0, .slice none 0 0, .slice none 0 0, .int .i64 0, .int .i64 0, .int .i64 0, .slice none 0 0, .int .i64 0, .int .i64 0, .string ByteArray.empty, .slice none 0 0, .int .i64 0, .int .i64 0, .int .i64 0] 63)).below hb1 (by first | omega | (simp; omega) | simp)
  have B1_1 := ((Blk.new' (w.alloc (.cells #[.int .i64 L, .slice A1 l1.length c1, .slice A2 l2.length c2, .int .i64 p, .int .i64 q, .int .i64 r, .slice A3 l3.length c3, .int .i64 fd, .int .i64 ft, .string nm, .slice A4 l4.length c4, .int .i64 wd, .int .i64 lf, .int .i64 rt] 56)) 63 #[.int .i64 0, .slice none 0 0, .slice none 0 0, .int .i64 0, .int .i64 0, .int .i64 0, .slice none 0 0, .int .i64 0, .int .i64 0, .string ByteArray.empty, .slice none 0 0, .int .i64 0, .int .i64 0, .int .i64 0] (g := w.heap.size + 1) (by simp)).alloc (.cells #[.int .i64 0, .slice none 0 0, .slice none 0 0, .int .i64 0, .int .i64 0, .int .i64 0, .slice none 0 0, .int .i64 0, .int .i64 0, .string ByteArray.empty, .slice none 0 0, .int .i64 0, .int .i64 0, .int .i64 0] 63)).below hb1 (by first | omega | (simp; omega) | simp)
  have B2_1 : Blk w1 (w.heap.size + 1 + 1) 63 #[.int .i64 0, .slice none 0 0, .slice none 0 0, .int .i64 0, .int .i64 0, .int .i64 0, .slice none 0 0, .int .i64 0, .int .i64 0, .string ByteArray.empty, .slice none 0 0, .int .i64 0, .int .i64 0, .int .i64 0] := (Blk.new' ((w.alloc (.cells #[.int .i64 L, .slice A1 l1.length c1, .slice A2 l2.length c2, .int .i64 p, .int .i64 q, .int .i64 r, .slice A3 l3.length c3, .int .i64 fd, .int .i64 ft, .string nm, .slice A4 l4.length c4, .int .i64 wd, .int .i64 lf, .int .i64 rt] 56)).alloc (.cells #[.int .i64 0, .slice none 0 0, .slice none 0 0, .int .i64 0, .int .i64 0, .int .i64 0, .slice none 0 0, .int .i64 0, .int .i64 0, .string ByteArray.empty, .slice none 0 0, .int .i64 0, .int .i64 0, .int .i64 0] 63)) 63 #[.int .i64 0, .slice none 0 0, .slice none 0 0, .int .i64 0, .int .i64 0, .int .i64 0, .slice none 0 0, .int .i64 0, .int .i64 0, .string ByteArray.empty, .slice none 0 0, .int .i64 0, .int .i64 0, .int .i64 0] (g := w.heap.size + 1 + 1) (by simp)).below hb1 (by first | omega | (simp; omega) | simp)
  have hB1 : Below w.heap.size w w1 := Below.trans ((by repeat (first | with_reducible exact Below.refl _ _ | with_reducible apply below_drewN' | with_reducible apply Below.drew | (with_reducible refine Below.alloc ?_ (by first | omega | (simp; omega) | simp) _) | (with_reducible refine Below.setCell ?_ (by first | omega | (simp; omega) | simp) _) | exact Below.refl _ _))) (hb1.mono (by first | omega | (simp; omega) | simp))
  have hBs1 := hB1.size
  have hZ1 := B2_1.lt
  have lt_1 := fun r hr => (hO_1.1.lt r hr).2
  have ge_1 := hO_1.ownGe
  have hO_1 := own_mono (base' := w.heap.size + 1 + 1 + 1) hO_1 (by first | omega | (simp; omega) | simp)
  have lt_2 := fun r hr => (hO_2.1.lt r hr).2
  have ge_2 := hO_2.ownGe
  have hO_2 := own_mono (base' := w.heap.size + 1 + 1 + 1) hO_2 (by first | omega | (simp; omega) | simp)
  have x0_1 : w1.cell? ⟨w.heap.size, 0, none⟩ = some (.int .i64 L) := B0_1.cell 0
  have y0_1 : w1.cell? ⟨w.heap.size + 1 + 1, 0, none⟩ = some (.int .i64 0) := B2_1.cell 0
  have yf0_1 : w1.frozen? ⟨w.heap.size + 1 + 1, 0, none⟩ = false := B2_1.frozen 0
  have z0_1 : w1.cell? ⟨w.heap.size + 1, 0, none⟩ = some (.int .i64 0) := B1_1.cell 0
  have zf0_1 : w1.frozen? ⟨w.heap.size + 1, 0, none⟩ = false := B1_1.frozen 0
  have x1_1 : w1.cell? ⟨w.heap.size, 1, none⟩ = some (.slice A1 l1.length c1) := B0_1.cell 1
  have y1_1 : w1.cell? ⟨w.heap.size + 1 + 1, 1, none⟩ = some (.slice none 0 0) := B2_1.cell 1
  have yf1_1 : w1.frozen? ⟨w.heap.size + 1 + 1, 1, none⟩ = false := B2_1.frozen 1
  have z1_1 : w1.cell? ⟨w.heap.size + 1, 1, none⟩ = some (.slice none 0 0) := B1_1.cell 1
  have zf1_1 : w1.frozen? ⟨w.heap.size + 1, 1, none⟩ = false := B1_1.frozen 1
  have x2_1 : w1.cell? ⟨w.heap.size, 2, none⟩ = some (.slice A2 l2.length c2) := B0_1.cell 2
  have y2_1 : w1.cell? ⟨w.heap.size + 1 + 1, 2, none⟩ = some (.slice none 0 0) := B2_1.cell 2
  have yf2_1 : w1.frozen? ⟨w.heap.size + 1 + 1, 2, none⟩ = false := B2_1.frozen 2
  have z2_1 : w1.cell? ⟨w.heap.size + 1, 2, none⟩ = some (.slice none 0 0) := B1_1.cell 2
  have zf2_1 : w1.frozen? ⟨w.heap.size + 1, 2, none⟩ = false := B1_1.frozen 2
  have x3_1 : w1.cell? ⟨w.heap.size, 3, none⟩ = some (.int .i64 p) := B0_1.cell 3
  have y3_1 : w1.cell? ⟨w.heap.size + 1 + 1, 3, none⟩ = some (.int .i64 0) := B2_1.cell 3
  have yf3_1 : w1.frozen? ⟨w.heap.size + 1 + 1, 3, none⟩ = false := B2_1.frozen 3
  have z3_1 : w1.cell? ⟨w.heap.size + 1, 3, none⟩ = some (.int .i64 0) := B1_1.cell 3
  have zf3_1 : w1.frozen? ⟨w.heap.size + 1, 3, none⟩ = false := B1_1.frozen 3
  have x4_1 : w1.cell? ⟨w.heap.size, 4, none⟩ = some (.int .i64 q) := B0_1.cell 4
  have y4_1 : w1.cell? ⟨w.heap.size + 1 + 1, 4, none⟩ = some (.int .i64 0) := B2_1.cell 4
  have yf4_1 : w1.frozen? ⟨w.heap.size + 1 + 1, 4, none⟩ = false := B2_1.frozen 4
  have z4_1 : w1.cell? ⟨w.heap.size + 1, 4, none⟩ = some (.int .i64 0) := B1_1.cell 4
  have zf4_1 : w1.frozen? ⟨w.heap.size + 1, 4, none⟩ = false := B1_1.frozen 4
  have x5_1 : w1.cell? ⟨w.heap.size, 5, none⟩ = some (.int .i64 r) := B0_1.cell 5
  have y5_1 : w1.cell? ⟨w.heap.size + 1 + 1, 5, none⟩ = some (.int .i64 0) := B2_1.cell 5
  have yf5_1 : w1.frozen? ⟨w.heap.size + 1 + 1, 5, none⟩ = false := B2_1.frozen 5
  have z5_1 : w1.cell? ⟨w.heap.size + 1, 5, none⟩ = some (.int .i64 0) := B1_1.cell 5
  have zf5_1 : w1.frozen? ⟨w.heap.size + 1, 5, none⟩ = false := B1_1.frozen 5
  have x6_1 : w1.cell? ⟨w.heap.size, 6, none⟩ = some (.slice A3 l3.length c3) := B0_1.cell 6
  have y6_1 : w1.cell? ⟨w.heap.size + 1 + 1, 6, none⟩ = some (.slice none 0 0) := B2_1.cell 6
  have yf6_1 : w1.frozen? ⟨w.heap.size + 1 + 1, 6, none⟩ = false := B2_1.frozen 6
  have z6_1 : w1.cell? ⟨w.heap.size + 1, 6, none⟩ = some (.slice none 0 0) := B1_1.cell 6
  have zf6_1 : w1.frozen? ⟨w.heap.size + 1, 6, none⟩ = false := B1_1.frozen 6
  have x7_1 : w1.cell? ⟨w.heap.size, 7, none⟩ = some (.int .i64 fd) := B0_1.cell 7
  have y7_1 : w1.cell? ⟨w.heap.size + 1 + 1, 7, none⟩ = some (.int .i64 0) := B2_1.cell 7
  have yf7_1 : w1.frozen? ⟨w.heap.size + 1 + 1, 7, none⟩ = false := B2_1.frozen 7
  have z7_1 : w1.cell? ⟨w.heap.size + 1, 7, none⟩ = some (.int .i64 0) := B1_1.cell 7
  have zf7_1 : w1.frozen? ⟨w.heap.size + 1, 7, none⟩ = false := B1_1.frozen 7
  have x8_1 : w1.cell? ⟨w.heap.size, 8, none⟩ = some (.int .i64 ft) := B0_1.cell 8
  have y8_1 : w1.cell? ⟨w.heap.size + 1 + 1, 8, none⟩ = some (.int .i64 0) := B2_1.cell 8
  have yf8_1 : w1.frozen? ⟨w.heap.size + 1 + 1, 8, none⟩ = false := B2_1.frozen 8
  have z8_1 : w1.cell? ⟨w.heap.size + 1, 8, none⟩ = some (.int .i64 0) := B1_1.cell 8
  have zf8_1 : w1.frozen? ⟨w.heap.size + 1, 8, none⟩ = false := B1_1.frozen 8
  have x9_1 : w1.cell? ⟨w.heap.size, 9, none⟩ = some (.string nm) := B0_1.cell 9
  have y9_1 : w1.cell? ⟨w.heap.size + 1 + 1, 9, none⟩ = some (.string ByteArray.empty) := B2_1.cell 9
  have yf9_1 : w1.frozen? ⟨w.heap.size + 1 + 1, 9, none⟩ = false := B2_1.frozen 9
  have z9_1 : w1.cell? ⟨w.heap.size + 1, 9, none⟩ = some (.string ByteArray.empty) := B1_1.cell 9
  have zf9_1 : w1.frozen? ⟨w.heap.size + 1, 9, none⟩ = false := B1_1.frozen 9
  have x10_1 : w1.cell? ⟨w.heap.size, 10, none⟩ = some (.slice A4 l4.length c4) := B0_1.cell 10
  have y10_1 : w1.cell? ⟨w.heap.size + 1 + 1, 10, none⟩ = some (.slice none 0 0) := B2_1.cell 10
  have yf10_1 : w1.frozen? ⟨w.heap.size + 1 + 1, 10, none⟩ = false := B2_1.frozen 10
  have z10_1 : w1.cell? ⟨w.heap.size + 1, 10, none⟩ = some (.slice none 0 0) := B1_1.cell 10
  have zf10_1 : w1.frozen? ⟨w.heap.size + 1, 10, none⟩ = false := B1_1.frozen 10
  have x11_1 : w1.cell? ⟨w.heap.size, 11, none⟩ = some (.int .i64 wd) := B0_1.cell 11
  have y11_1 : w1.cell? ⟨w.heap.size + 1 + 1, 11, none⟩ = some (.int .i64 0) := B2_1.cell 11
  have yf11_1 : w1.frozen? ⟨w.heap.size + 1 + 1, 11, none⟩ = false := B2_1.frozen 11
  have z11_1 : w1.cell? ⟨w.heap.size + 1, 11, none⟩ = some (.int .i64 0) := B1_1.cell 11
  have zf11_1 : w1.frozen? ⟨w.heap.size + 1, 11, none⟩ = false := B1_1.frozen 11
  have x12_1 : w1.cell? ⟨w.heap.size, 12, none⟩ = some (.int .i64 lf) := B0_1.cell 12
  have y12_1 : w1.cell? ⟨w.heap.size + 1 + 1, 12, none⟩ = some (.int .i64 0) := B2_1.cell 12
  have yf12_1 : w1.frozen? ⟨w.heap.size + 1 + 1, 12, none⟩ = false := B2_1.frozen 12
  have z12_1 : w1.cell? ⟨w.heap.size + 1, 12, none⟩ = some (.int .i64 0) := B1_1.cell 12
  have zf12_1 : w1.frozen? ⟨w.heap.size + 1, 12, none⟩ = false := B1_1.frozen 12
  have x13_1 : w1.cell? ⟨w.heap.size, 13, none⟩ = some (.int .i64 rt) := B0_1.cell 13
  have y13_1 : w1.cell? ⟨w.heap.size + 1 + 1, 13, none⟩ = some (.int .i64 0) := B2_1.cell 13
  have yf13_1 : w1.frozen? ⟨w.heap.size + 1 + 1, 13, none⟩ = false := B2_1.frozen 13
  have z13_1 : w1.cell? ⟨w.heap.size + 1, 13, none⟩ = some (.int .i64 0) := B1_1.cell 13
  have zf13_1 : w1.frozen? ⟨w.heap.size + 1, 13, none⟩ = false := B1_1.frozen 13
  go_wp2_with fail
  refine (toErrors_c p q r _).mono ?_; rintro e w2 ⟨rfl, hb2⟩
  have B0_2 := (((B0_1.far (p := ⟨w.heap.size + 1 + 1, 0, none⟩) (by first | omega | (simp; omega) | simp) (.int .i64 L)).far (p := ⟨w.heap.size + 1 + 1, 1, none⟩) (by first | omega | (simp; omega) | simp) (.slice B1 l1.length d1)).far (p := ⟨w.heap.size + 1 + 1, 2, none⟩) (by first | omega | (simp; omega) | simp) (.slice B2 l2.length d2)).below hb2 (by first | omega | (simp; omega) | simp)
  have B1_2 := (((B1_1.far (p := ⟨w.heap.size + 1 + 1, 0, none⟩) (by first | omega | (simp; omega) | simp) (.int .i64 L)).far (p := ⟨w.heap.size + 1 + 1, 1, none⟩) (by first | omega | (simp; omega) | simp) (.slice B1 l1.length d1)).far (p := ⟨w.heap.size + 1 + 1, 2, none⟩) (by first | omega | (simp; omega) | simp) (.slice B2 l2.length d2)).below hb2 (by first | omega | (simp; omega) | simp)
  have B2_2 : Blk w2 (w.heap.size + 1 + 1) 63 #[.int .i64 L, .slice B1 l1.length d1, .slice B2 l2.length d2, .int .i64 0, .int .i64 0, .int .i64 0, .slice none 0 0, .int .i64 0, .int .i64 0, .string ByteArray.empty, .slice none 0 0, .int .i64 0, .int .i64 0, .int .i64 0] := (((B2_1.set_ 0 (.int .i64 L)).set_ 1 (.slice B1 l1.length d1)).set_ 2 (.slice B2 l2.length d2)).below hb2 (by first | omega | (simp; omega) | simp)
  have hB2 : Below w.heap.size w w2 := Below.trans ((by repeat (first | with_reducible exact hB1 | with_reducible apply below_drewN' | with_reducible apply Below.drew | (with_reducible refine Below.alloc ?_ (by first | omega | (simp; omega) | simp) _) | (with_reducible refine Below.setCell ?_ (by first | omega | (simp; omega) | simp) _) | exact hB1))) (hb2.mono (by first | omega | (simp; omega) | simp))
  have hBs2 := hB2.size
  have hZ2 := B2_2.lt
  have hO_1 := (own_far (own_far (own_far hO_1 (b := w.heap.size + 1 + 1) (off := 0) (u := .int .i64 L) (by first | omega | (simp; omega) | simp)) (b := w.heap.size + 1 + 1) (off := 1) (u := .slice B1 l1.length d1) (by first | omega | (simp; omega) | simp)) (b := w.heap.size + 1 + 1) (off := 2) (u := .slice B2 l2.length d2) (by first | omega | (simp; omega) | simp)).below hb2
  have hO_2 := (own_far (own_far (own_far hO_2 (b := w.heap.size + 1 + 1) (off := 0) (u := .int .i64 L) (by first | omega | (simp; omega) | simp)) (b := w.heap.size + 1 + 1) (off := 1) (u := .slice B1 l1.length d1) (by first | omega | (simp; omega) | simp)) (b := w.heap.size + 1 + 1) (off := 2) (u := .slice B2 l2.length d2) (by first | omega | (simp; omega) | simp)).below hb2
  have x0_2 : w2.cell? ⟨w.heap.size, 0, none⟩ = some (.int .i64 L) := B0_2.cell 0
  have y0_2 : w2.cell? ⟨w.heap.size + 1 + 1, 0, none⟩ = some (.int .i64 L) := B2_2.cell 0
  have yf0_2 : w2.frozen? ⟨w.heap.size + 1 + 1, 0, none⟩ = false := B2_2.frozen 0
  have z0_2 : w2.cell? ⟨w.heap.size + 1, 0, none⟩ = some (.int .i64 0) := B1_2.cell 0
  have zf0_2 : w2.frozen? ⟨w.heap.size + 1, 0, none⟩ = false := B1_2.frozen 0
  have x1_2 : w2.cell? ⟨w.heap.size, 1, none⟩ = some (.slice A1 l1.length c1) := B0_2.cell 1
  have y1_2 : w2.cell? ⟨w.heap.size + 1 + 1, 1, none⟩ = some (.slice B1 l1.length d1) := B2_2.cell 1
  have yf1_2 : w2.frozen? ⟨w.heap.size + 1 + 1, 1, none⟩ = false := B2_2.frozen 1
  have z1_2 : w2.cell? ⟨w.heap.size + 1, 1, none⟩ = some (.slice none 0 0) := B1_2.cell 1
  have zf1_2 : w2.frozen? ⟨w.heap.size + 1, 1, none⟩ = false := B1_2.frozen 1
  have x2_2 : w2.cell? ⟨w.heap.size, 2, none⟩ = some (.slice A2 l2.length c2) := B0_2.cell 2
  have y2_2 : w2.cell? ⟨w.heap.size + 1 + 1, 2, none⟩ = some (.slice B2 l2.length d2) := B2_2.cell 2
  have yf2_2 : w2.frozen? ⟨w.heap.size + 1 + 1, 2, none⟩ = false := B2_2.frozen 2
  have z2_2 : w2.cell? ⟨w.heap.size + 1, 2, none⟩ = some (.slice none 0 0) := B1_2.cell 2
  have zf2_2 : w2.frozen? ⟨w.heap.size + 1, 2, none⟩ = false := B1_2.frozen 2
  have x3_2 : w2.cell? ⟨w.heap.size, 3, none⟩ = some (.int .i64 p) := B0_2.cell 3
  have y3_2 : w2.cell? ⟨w.heap.size + 1 + 1, 3, none⟩ = some (.int .i64 0) := B2_2.cell 3
  have yf3_2 : w2.frozen? ⟨w.heap.size + 1 + 1, 3, none⟩ = false := B2_2.frozen 3
  have z3_2 : w2.cell? ⟨w.heap.size + 1, 3, none⟩ = some (.int .i64 0) := B1_2.cell 3
  have zf3_2 : w2.frozen? ⟨w.heap.size + 1, 3, none⟩ = false := B1_2.frozen 3
  have x4_2 : w2.cell? ⟨w.heap.size, 4, none⟩ = some (.int .i64 q) := B0_2.cell 4
  have y4_2 : w2.cell? ⟨w.heap.size + 1 + 1, 4, none⟩ = some (.int .i64 0) := B2_2.cell 4
  have yf4_2 : w2.frozen? ⟨w.heap.size + 1 + 1, 4, none⟩ = false := B2_2.frozen 4
  have z4_2 : w2.cell? ⟨w.heap.size + 1, 4, none⟩ = some (.int .i64 0) := B1_2.cell 4
  have zf4_2 : w2.frozen? ⟨w.heap.size + 1, 4, none⟩ = false := B1_2.frozen 4
  have x5_2 : w2.cell? ⟨w.heap.size, 5, none⟩ = some (.int .i64 r) := B0_2.cell 5
  have y5_2 : w2.cell? ⟨w.heap.size + 1 + 1, 5, none⟩ = some (.int .i64 0) := B2_2.cell 5
  have yf5_2 : w2.frozen? ⟨w.heap.size + 1 + 1, 5, none⟩ = false := B2_2.frozen 5
  have z5_2 : w2.cell? ⟨w.heap.size + 1, 5, none⟩ = some (.int .i64 0) := B1_2.cell 5
  have zf5_2 : w2.frozen? ⟨w.heap.size + 1, 5, none⟩ = false := B1_2.frozen 5
  have x6_2 : w2.cell? ⟨w.heap.size, 6, none⟩ = some (.slice A3 l3.length c3) := B0_2.cell 6
  have y6_2 : w2.cell? ⟨w.heap.size + 1 + 1, 6, none⟩ = some (.slice none 0 0) := B2_2.cell 6
  have yf6_2 : w2.frozen? ⟨w.heap.size + 1 + 1, 6, none⟩ = false := B2_2.frozen 6
  have z6_2 : w2.cell? ⟨w.heap.size + 1, 6, none⟩ = some (.slice none 0 0) := B1_2.cell 6
  have zf6_2 : w2.frozen? ⟨w.heap.size + 1, 6, none⟩ = false := B1_2.frozen 6
  have x7_2 : w2.cell? ⟨w.heap.size, 7, none⟩ = some (.int .i64 fd) := B0_2.cell 7
  have y7_2 : w2.cell? ⟨w.heap.size + 1 + 1, 7, none⟩ = some (.int .i64 0) := B2_2.cell 7
  have yf7_2 : w2.frozen? ⟨w.heap.size + 1 + 1, 7, none⟩ = false := B2_2.frozen 7
  have z7_2 : w2.cell? ⟨w.heap.size + 1, 7, none⟩ = some (.int .i64 0) := B1_2.cell 7
  have zf7_2 : w2.frozen? ⟨w.heap.size + 1, 7, none⟩ = false := B1_2.frozen 7
  have x8_2 : w2.cell? ⟨w.heap.size, 8, none⟩ = some (.int .i64 ft) := B0_2.cell 8
  have y8_2 : w2.cell? ⟨w.heap.size + 1 + 1, 8, none⟩ = some (.int .i64 0) := B2_2.cell 8
  have yf8_2 : w2.frozen? ⟨w.heap.size + 1 + 1, 8, none⟩ = false := B2_2.frozen 8
  have z8_2 : w2.cell? ⟨w.heap.size + 1, 8, none⟩ = some (.int .i64 0) := B1_2.cell 8
  have zf8_2 : w2.frozen? ⟨w.heap.size + 1, 8, none⟩ = false := B1_2.frozen 8
  have x9_2 : w2.cell? ⟨w.heap.size, 9, none⟩ = some (.string nm) := B0_2.cell 9
  have y9_2 : w2.cell? ⟨w.heap.size + 1 + 1, 9, none⟩ = some (.string ByteArray.empty) := B2_2.cell 9
  have yf9_2 : w2.frozen? ⟨w.heap.size + 1 + 1, 9, none⟩ = false := B2_2.frozen 9
  have z9_2 : w2.cell? ⟨w.heap.size + 1, 9, none⟩ = some (.string ByteArray.empty) := B1_2.cell 9
  have zf9_2 : w2.frozen? ⟨w.heap.size + 1, 9, none⟩ = false := B1_2.frozen 9
  have x10_2 : w2.cell? ⟨w.heap.size, 10, none⟩ = some (.slice A4 l4.length c4) := B0_2.cell 10
  have y10_2 : w2.cell? ⟨w.heap.size + 1 + 1, 10, none⟩ = some (.slice none 0 0) := B2_2.cell 10
  have yf10_2 : w2.frozen? ⟨w.heap.size + 1 + 1, 10, none⟩ = false := B2_2.frozen 10
  have z10_2 : w2.cell? ⟨w.heap.size + 1, 10, none⟩ = some (.slice none 0 0) := B1_2.cell 10
  have zf10_2 : w2.frozen? ⟨w.heap.size + 1, 10, none⟩ = false := B1_2.frozen 10
  have x11_2 : w2.cell? ⟨w.heap.size, 11, none⟩ = some (.int .i64 wd) := B0_2.cell 11
  have y11_2 : w2.cell? ⟨w.heap.size + 1 + 1, 11, none⟩ = some (.int .i64 0) := B2_2.cell 11
  have yf11_2 : w2.frozen? ⟨w.heap.size + 1 + 1, 11, none⟩ = false := B2_2.frozen 11
  have z11_2 : w2.cell? ⟨w.heap.size + 1, 11, none⟩ = some (.int .i64 0) := B1_2.cell 11
  have zf11_2 : w2.frozen? ⟨w.heap.size + 1, 11, none⟩ = false := B1_2.frozen 11
  have x12_2 : w2.cell? ⟨w.heap.size, 12, none⟩ = some (.int .i64 lf) := B0_2.cell 12
  have y12_2 : w2.cell? ⟨w.heap.size + 1 + 1, 12, none⟩ = some (.int .i64 0) := B2_2.cell 12
  have yf12_2 : w2.frozen? ⟨w.heap.size + 1 + 1, 12, none⟩ = false := B2_2.frozen 12
  have z12_2 : w2.cell? ⟨w.heap.size + 1, 12, none⟩ = some (.int .i64 0) := B1_2.cell 12
  have zf12_2 : w2.frozen? ⟨w.heap.size + 1, 12, none⟩ = false := B1_2.frozen 12
  have x13_2 : w2.cell? ⟨w.heap.size, 13, none⟩ = some (.int .i64 rt) := B0_2.cell 13
  have y13_2 : w2.cell? ⟨w.heap.size + 1 + 1, 13, none⟩ = some (.int .i64 0) := B2_2.cell 13
  have yf13_2 : w2.frozen? ⟨w.heap.size + 1 + 1, 13, none⟩ = false := B2_2.frozen 13
  have z13_2 : w2.cell? ⟨w.heap.size + 1, 13, none⟩ = some (.int .i64 0) := B1_2.cell 13
  have zf13_2 : w2.frozen? ⟨w.heap.size + 1, 13, none⟩ = false := B1_2.frozen 13
  go_wp2_with fail
  refine (toTermS_c A3 c3 l3 _ (by omega) ((hs3.below ((by repeat (first | with_reducible exact hB2 | with_reducible apply below_drewN' | with_reducible apply Below.drew | (with_reducible refine Below.alloc ?_ (by first | omega | (simp; omega) | simp) _) | (with_reducible refine Below.setCell ?_ (by first | omega | (simp; omega) | simp) _) | exact hB2)))).more (by first | omega | (simp; omega) | simp))).mono ?_; rintro e w3 ⟨B3, d3, rfl, hO_3, hb3⟩
  have B0_3 := (((B0_2.far (p := ⟨w.heap.size + 1 + 1, 3, none⟩) (by first | omega | (simp; omega) | simp) (.int .i64 p)).far (p := ⟨w.heap.size + 1 + 1, 4, none⟩) (by first | omega | (simp; omega) | simp) (.int .i64 q)).far (p := ⟨w.heap.size + 1 + 1, 5, none⟩) (by first | omega | (simp; omega) | simp) (.int .i64 r)).below hb3 (by first | omega | (simp; omega) | simp)
  have B1_3 := (((B1_2.far (p := ⟨w.heap.size + 1 + 1, 3, none⟩) (by first | omega | (simp; omega) | simp) (.int .i64 p)).far (p := ⟨w.heap.size + 1 + 1, 4, none⟩) (by first | omega | (simp; omega) | simp) (.int .i64 q)).far (p := ⟨w.heap.size + 1 + 1, 5, none⟩) (by first | omega | (simp; omega) | simp) (.int .i64 r)).below hb3 (by first | omega | (simp; omega) | simp)
  have B2_3 : Blk w3 (w.heap.size + 1 + 1) 63 #[.int .i64 L, .slice B1 l1.length d1, .slice B2 l2.length d2, .int .i64 p, .int .i64 q, .int .i64 r, .slice none 0 0, .int .i64 0, .int .i64 0, .string ByteArray.empty, .slice none 0 0, .int .i64 0, .int .i64 0, .int .i64 0] := (((B2_2.set_ 3 (.int .i64 p)).set_ 4 (.int .i64 q)).set_ 5 (.int .i64 r)).below hb3 (by first | omega | (simp; omega) | simp)
  have hB3 : Below w.heap.size w w3 := Below.trans ((by repeat (first | with_reducible exact hB2 | with_reducible apply below_drewN' | with_reducible apply Below.drew | (with_reducible refine Below.alloc ?_ (by first | omega | (simp; omega) | simp) _) | (with_reducible refine Below.setCell ?_ (by first | omega | (simp; omega) | simp) _) | exact hB2))) (hb3.mono (by first | omega | (simp; omega) | simp))
  have hBs3 := hB3.size
  have hZ3 := B2_3.lt
  have hO_1 := (own_far (own_far (own_far hO_1 (b := w.heap.size + 1 + 1) (off := 3) (u := .int .i64 p) (by first | omega | (simp; omega) | simp)) (b := w.heap.size + 1 + 1) (off := 4) (u := .int .i64 q) (by first | omega | (simp; omega) | simp)) (b := w.heap.size + 1 + 1) (off := 5) (u := .int .i64 r) (by first | omega | (simp; omega) | simp)).below hb3
  have hO_2 := (own_far (own_far (own_far hO_2 (b := w.heap.size + 1 + 1) (off := 3) (u := .int .i64 p) (by first | omega | (simp; omega) | simp)) (b := w.heap.size + 1 + 1) (off := 4) (u := .int .i64 q) (by first | omega | (simp; omega) | simp)) (b := w.heap.size + 1 + 1) (off := 5) (u := .int .i64 r) (by first | omega | (simp; omega) | simp)).below hb3
  have lt_3 := fun r hr => (hO_3.1.lt r hr).2
  have ge_3 := hO_3.ownGe
  have hO_3 := own_mono (base' := w.heap.size + 1 + 1 + 1) hO_3 (by first | omega | (simp; omega) | simp)
  have x0_3 : w3.cell? ⟨w.heap.size, 0, none⟩ = some (.int .i64 L) := B0_3.cell 0
  have y0_3 : w3.cell? ⟨w.heap.size + 1 + 1, 0, none⟩ = some (.int .i64 L) := B2_3.cell 0
  have yf0_3 : w3.frozen? ⟨w.heap.size + 1 + 1, 0, none⟩ = false := B2_3.frozen 0
  have z0_3 : w3.cell? ⟨w.heap.size + 1, 0, none⟩ = some (.int .i64 0) := B1_3.cell 0
  have zf0_3 : w3.frozen? ⟨w.heap.size + 1, 0, none⟩ = false := B1_3.frozen 0
  have x1_3 : w3.cell? ⟨w.heap.size, 1, none⟩ = some (.slice A1 l1.length c1) := B0_3.cell 1
  have y1_3 : w3.cell? ⟨w.heap.size + 1 + 1, 1, none⟩ = some (.slice B1 l1.length d1) := B2_3.cell 1
  have yf1_3 : w3.frozen? ⟨w.heap.size + 1 + 1, 1, none⟩ = false := B2_3.frozen 1
  have z1_3 : w3.cell? ⟨w.heap.size + 1, 1, none⟩ = some (.slice none 0 0) := B1_3.cell 1
  have zf1_3 : w3.frozen? ⟨w.heap.size + 1, 1, none⟩ = false := B1_3.frozen 1
  have x2_3 : w3.cell? ⟨w.heap.size, 2, none⟩ = some (.slice A2 l2.length c2) := B0_3.cell 2
  have y2_3 : w3.cell? ⟨w.heap.size + 1 + 1, 2, none⟩ = some (.slice B2 l2.length d2) := B2_3.cell 2
  have yf2_3 : w3.frozen? ⟨w.heap.size + 1 + 1, 2, none⟩ = false := B2_3.frozen 2
  have z2_3 : w3.cell? ⟨w.heap.size + 1, 2, none⟩ = some (.slice none 0 0) := B1_3.cell 2
  have zf2_3 : w3.frozen? ⟨w.heap.size + 1, 2, none⟩ = false := B1_3.frozen 2
  have x3_3 : w3.cell? ⟨w.heap.size, 3, none⟩ = some (.int .i64 p) := B0_3.cell 3
  have y3_3 : w3.cell? ⟨w.heap.size + 1 + 1, 3, none⟩ = some (.int .i64 p) := B2_3.cell 3
  have yf3_3 : w3.frozen? ⟨w.heap.size + 1 + 1, 3, none⟩ = false := B2_3.frozen 3
  have z3_3 : w3.cell? ⟨w.heap.size + 1, 3, none⟩ = some (.int .i64 0) := B1_3.cell 3
  have zf3_3 : w3.frozen? ⟨w.heap.size + 1, 3, none⟩ = false := B1_3.frozen 3
  have x4_3 : w3.cell? ⟨w.heap.size, 4, none⟩ = some (.int .i64 q) := B0_3.cell 4
  have y4_3 : w3.cell? ⟨w.heap.size + 1 + 1, 4, none⟩ = some (.int .i64 q) := B2_3.cell 4
  have yf4_3 : w3.frozen? ⟨w.heap.size + 1 + 1, 4, none⟩ = false := B2_3.frozen 4
  have z4_3 : w3.cell? ⟨w.heap.size + 1, 4, none⟩ = some (.int .i64 0) := B1_3.cell 4
  have zf4_3 : w3.frozen? ⟨w.heap.size + 1, 4, none⟩ = false := B1_3.frozen 4
  have x5_3 : w3.cell? ⟨w.heap.size, 5, none⟩ = some (.int .i64 r) := B0_3.cell 5
  have y5_3 : w3.cell? ⟨w.heap.size + 1 + 1, 5, none⟩ = some (.int .i64 r) := B2_3.cell 5
  have yf5_3 : w3.frozen? ⟨w.heap.size + 1 + 1, 5, none⟩ = false := B2_3.frozen 5
  have z5_3 : w3.cell? ⟨w.heap.size + 1, 5, none⟩ = some (.int .i64 0) := B1_3.cell 5
  have zf5_3 : w3.frozen? ⟨w.heap.size + 1, 5, none⟩ = false := B1_3.frozen 5
  have x6_3 : w3.cell? ⟨w.heap.size, 6, none⟩ = some (.slice A3 l3.length c3) := B0_3.cell 6
  have y6_3 : w3.cell? ⟨w.heap.size + 1 + 1, 6, none⟩ = some (.slice none 0 0) := B2_3.cell 6
  have yf6_3 : w3.frozen? ⟨w.heap.size + 1 + 1, 6, none⟩ = false := B2_3.frozen 6
  have z6_3 : w3.cell? ⟨w.heap.size + 1, 6, none⟩ = some (.slice none 0 0) := B1_3.cell 6
  have zf6_3 : w3.frozen? ⟨w.heap.size + 1, 6, none⟩ = false := B1_3.frozen 6
  have x7_3 : w3.cell? ⟨w.heap.size, 7, none⟩ = some (.int .i64 fd) := B0_3.cell 7
  have y7_3 : w3.cell? ⟨w.heap.size + 1 + 1, 7, none⟩ = some (.int .i64 0) := B2_3.cell 7
  have yf7_3 : w3.frozen? ⟨w.heap.size + 1 + 1, 7, none⟩ = false := B2_3.frozen 7
  have z7_3 : w3.cell? ⟨w.heap.size + 1, 7, none⟩ = some (.int .i64 0) := B1_3.cell 7
  have zf7_3 : w3.frozen? ⟨w.heap.size + 1, 7, none⟩ = false := B1_3.frozen 7
  have x8_3 : w3.cell? ⟨w.heap.size, 8, none⟩ = some (.int .i64 ft) := B0_3.cell 8
  have y8_3 : w3.cell? ⟨w.heap.size + 1 + 1, 8, none⟩ = some (.int .i64 0) := B2_3.cell 8
  have yf8_3 : w3.frozen? ⟨w.heap.size + 1 + 1, 8, none⟩ = false := B2_3.frozen 8
  have z8_3 : w3.cell? ⟨w.heap.size + 1, 8, none⟩ = some (.int .i64 0) := B1_3.cell 8
  have zf8_3 : w3.frozen? ⟨w.heap.size + 1, 8, none⟩ = false := B1_3.frozen 8
  have x9_3 : w3.cell? ⟨w.heap.size, 9, none⟩ = some (.string nm) := B0_3.cell 9
  have y9_3 : w3.cell? ⟨w.heap.size + 1 + 1, 9, none⟩ = some (.string ByteArray.empty) := B2_3.cell 9
  have yf9_3 : w3.frozen? ⟨w.heap.size + 1 + 1, 9, none⟩ = false := B2_3.frozen 9
  have z9_3 : w3.cell? ⟨w.heap.size + 1, 9, none⟩ = some (.string ByteArray.empty) := B1_3.cell 9
  have zf9_3 : w3.frozen? ⟨w.heap.size + 1, 9, none⟩ = false := B1_3.frozen 9
  have x10_3 : w3.cell? ⟨w.heap.size, 10, none⟩ = some (.slice A4 l4.length c4) := B0_3.cell 10
  have y10_3 : w3.cell? ⟨w.heap.size + 1 + 1, 10, none⟩ = some (.slice none 0 0) := B2_3.cell 10
  have yf10_3 : w3.frozen? ⟨w.heap.size + 1 + 1, 10, none⟩ = false := B2_3.frozen 10
  have z10_3 : w3.cell? ⟨w.heap.size + 1, 10, none⟩ = some (.slice none 0 0) := B1_3.cell 10
  have zf10_3 : w3.frozen? ⟨w.heap.size + 1, 10, none⟩ = false := B1_3.frozen 10
  have x11_3 : w3.cell? ⟨w.heap.size, 11, none⟩ = some (.int .i64 wd) := B0_3.cell 11
  have y11_3 : w3.cell? ⟨w.heap.size + 1 + 1, 11, none⟩ = some (.int .i64 0) := B2_3.cell 11
  have yf11_3 : w3.frozen? ⟨w.heap.size + 1 + 1, 11, none⟩ = false := B2_3.frozen 11
  have z11_3 : w3.cell? ⟨w.heap.size + 1, 11, none⟩ = some (.int .i64 0) := B1_3.cell 11
  have zf11_3 : w3.frozen? ⟨w.heap.size + 1, 11, none⟩ = false := B1_3.frozen 11
  have x12_3 : w3.cell? ⟨w.heap.size, 12, none⟩ = some (.int .i64 lf) := B0_3.cell 12
  have y12_3 : w3.cell? ⟨w.heap.size + 1 + 1, 12, none⟩ = some (.int .i64 0) := B2_3.cell 12
  have yf12_3 : w3.frozen? ⟨w.heap.size + 1 + 1, 12, none⟩ = false := B2_3.frozen 12
  have z12_3 : w3.cell? ⟨w.heap.size + 1, 12, none⟩ = some (.int .i64 0) := B1_3.cell 12
  have zf12_3 : w3.frozen? ⟨w.heap.size + 1, 12, none⟩ = false := B1_3.frozen 12
  have x13_3 : w3.cell? ⟨w.heap.size, 13, none⟩ = some (.int .i64 rt) := B0_3.cell 13
  have y13_3 : w3.cell? ⟨w.heap.size + 1 + 1, 13, none⟩ = some (.int .i64 0) := B2_3.cell 13
  have yf13_3 : w3.frozen? ⟨w.heap.size + 1 + 1, 13, none⟩ = false := B2_3.frozen 13
  have z13_3 : w3.cell? ⟨w.heap.size + 1, 13, none⟩ = some (.int .i64 0) := B1_3.cell 13
  have zf13_3 : w3.frozen? ⟨w.heap.size + 1, 13, none⟩ = false := B1_3.frozen 13
  go_wp2_with fail
  refine (toChart_c fd ft nm A4 c4 l4 wd lf rt _ (by omega) ((hs4.below ((by repeat (first | with_reducible exact hB3 | with_reducible apply below_drewN' | with_reducible apply Below.drew | (with_reducible refine Below.alloc ?_ (by first | omega | (simp; omega) | simp) _) | (with_reducible refine Below.setCell ?_ (by first | omega | (simp; omega) | simp) _) | exact hB3)))).more (by first | omega | (simp; omega) | simp))).mono ?_; rintro e w4 ⟨B4, d4, rfl, hO_4, hb4⟩
  have B0_4 := (B0_3.far (p := ⟨w.heap.size + 1 + 1, 6, none⟩) (by first | omega | (simp; omega) | simp) (.slice B3 l3.length d3)).below hb4 (by first | omega | (simp; omega) | simp)
  have B1_4 := (B1_3.far (p := ⟨w.heap.size + 1 + 1, 6, none⟩) (by first | omega | (simp; omega) | simp) (.slice B3 l3.length d3)).below hb4 (by first | omega | (simp; omega) | simp)
  have B2_4 : Blk w4 (w.heap.size + 1 + 1) 63 #[.int .i64 L, .slice B1 l1.length d1, .slice B2 l2.length d2, .int .i64 p, .int .i64 q, .int .i64 r, .slice B3 l3.length d3, .int .i64 0, .int .i64 0, .string ByteArray.empty, .slice none 0 0, .int .i64 0, .int .i64 0, .int .i64 0] := (B2_3.set_ 6 (.slice B3 l3.length d3)).below hb4 (by first | omega | (simp; omega) | simp)
  have hB4 : Below w.heap.size w w4 := Below.trans ((by repeat (first | with_reducible exact hB3 | with_reducible apply below_drewN' | with_reducible apply Below.drew | (with_reducible refine Below.alloc ?_ (by first | omega | (simp; omega) | simp) _) | (with_reducible refine Below.setCell ?_ (by first | omega | (simp; omega) | simp) _) | exact hB3))) (hb4.mono (by first | omega | (simp; omega) | simp))
  have hBs4 := hB4.size
  have hZ4 := B2_4.lt
  have hO_1 := (own_far hO_1 (b := w.heap.size + 1 + 1) (off := 6) (u := .slice B3 l3.length d3) (by first | omega | (simp; omega) | simp)).below hb4
  have hO_2 := (own_far hO_2 (b := w.heap.size + 1 + 1) (off := 6) (u := .slice B3 l3.length d3) (by first | omega | (simp; omega) | simp)).below hb4
  have hO_3 := (own_far hO_3 (b := w.heap.size + 1 + 1) (off := 6) (u := .slice B3 l3.length d3) (by first | omega | (simp; omega) | simp)).below hb4
  have lt_4 := fun r hr => (hO_4.1.lt r hr).2
  have ge_4 := hO_4.ownGe
  have hO_4 := own_mono (base' := w.heap.size + 1 + 1 + 1) hO_4 (by first | omega | (simp; omega) | simp)
  have x0_4 : w4.cell? ⟨w.heap.size, 0, none⟩ = some (.int .i64 L) := B0_4.cell 0
  have y0_4 : w4.cell? ⟨w.heap.size + 1 + 1, 0, none⟩ = some (.int .i64 L) := B2_4.cell 0
  have yf0_4 : w4.frozen? ⟨w.heap.size + 1 + 1, 0, none⟩ = false := B2_4.frozen 0
  have z0_4 : w4.cell? ⟨w.heap.size + 1, 0, none⟩ = some (.int .i64 0) := B1_4.cell 0
  have zf0_4 : w4.frozen? ⟨w.heap.size + 1, 0, none⟩ = false := B1_4.frozen 0
  have x1_4 : w4.cell? ⟨w.heap.size, 1, none⟩ = some (.slice A1 l1.length c1) := B0_4.cell 1
  have y1_4 : w4.cell? ⟨w.heap.size + 1 + 1, 1, none⟩ = some (.slice B1 l1.length d1) := B2_4.cell 1
  have yf1_4 : w4.frozen? ⟨w.heap.size + 1 + 1, 1, none⟩ = false := B2_4.frozen 1
  have z1_4 : w4.cell? ⟨w.heap.size + 1, 1, none⟩ = some (.slice none 0 0) := B1_4.cell 1
  have zf1_4 : w4.frozen? ⟨w.heap.size + 1, 1, none⟩ = false := B1_4.frozen 1
  have x2_4 : w4.cell? ⟨w.heap.size, 2, none⟩ = some (.slice A2 l2.length c2) := B0_4.cell 2
  have y2_4 : w4.cell? ⟨w.heap.size + 1 + 1, 2, none⟩ = some (.slice B2 l2.length d2) := B2_4.cell 2
  have yf2_4 : w4.frozen? ⟨w.heap.size + 1 + 1, 2, none⟩ = false := B2_4.frozen 2
  have z2_4 : w4.cell? ⟨w.heap.size + 1, 2, none⟩ = some (.slice none 0 0) := B1_4.cell 2
  have zf2_4 : w4.frozen? ⟨w.heap.size + 1, 2, none⟩ = false := B1_4.frozen 2
  have x3_4 : w4.cell? ⟨w.heap.size, 3, none⟩ = some (.int .i64 p) := B0_4.cell 3
  have y3_4 : w4.cell? ⟨w.heap.size + 1 + 1, 3, none⟩ = some (.int .i64 p) := B2_4.cell 3
  have yf3_4 : w4.frozen? ⟨w.heap.size + 1 + 1, 3, none⟩ = false := B2_4.frozen 3
  have z3_4 : w4.cell? ⟨w.heap.size + 1, 3, none⟩ = some (.int .i64 0) := B1_4.cell 3
  have zf3_4 : w4.frozen? ⟨w.heap.size + 1, 3, none⟩ = false := B1_4.frozen 3
  have x4_4 : w4.cell? ⟨w.heap.size, 4, none⟩ = some (.int .i64 q) := B0_4.cell 4
  have y4_4 : w4.cell? ⟨w.heap.size + 1 + 1, 4, none⟩ = some (.int .i64 q) := B2_4.cell 4
  have yf4_4 : w4.frozen? ⟨w.heap.size + 1 + 1, 4, none⟩ = false := B2_4.frozen 4
  have z4_4 : w4.cell? ⟨w.heap.size + 1, 4, none⟩ = some (.int .i64 0) := B1_4.cell 4
  have zf4_4 : w4.frozen? ⟨w.heap.size + 1, 4, none⟩ = false := B1_4.frozen 4
  have x5_4 : w4.cell? ⟨w.heap.size, 5, none⟩ = some (.int .i64 r) := B0_4.cell 5
  have y5_4 : w4.cell? ⟨w.heap.size + 1 + 1, 5, none⟩ = some (.int .i64 r) := B2_4.cell 5
  have yf5_4 : w4.frozen? ⟨w.heap.size + 1 + 1, 5, none⟩ = false := B2_4.frozen 5
  have z5_4 : w4.cell? ⟨w.heap.size + 1, 5, none⟩ = some (.int .i64 0) := B1_4.cell 5
  have zf5_4 : w4.frozen? ⟨w.heap.size + 1, 5, none⟩ = false := B1_4.frozen 5
  have x6_4 : w4.cell? ⟨w.heap.size, 6, none⟩ = some (.slice A3 l3.length c3) := B0_4.cell 6
  have y6_4 : w4.cell? ⟨w.heap.size + 1 + 1, 6, none⟩ = some (.slice B3 l3.length d3) := B2_4.cell 6
  have yf6_4 : w4.frozen? ⟨w.heap.size + 1 + 1, 6, none⟩ = false := B2_4.frozen 6
  have z6_4 : w4.cell? ⟨w.heap.size + 1, 6, none⟩ = some (.slice none 0 0) := B1_4.cell 6
  have zf6_4 : w4.frozen? ⟨w.heap.size + 1, 6, none⟩ = false := B1_4.frozen 6
  have x7_4 : w4.cell? ⟨w.heap.size, 7, none⟩ = some (.int .i64 fd) := B0_4.cell 7
  have y7_4 : w4.cell? ⟨w.heap.size + 1 + 1, 7, none⟩ = some (.int .i64 0) := B2_4.cell 7
  have yf7_4 : w4.frozen? ⟨w.heap.size + 1 + 1, 7, none⟩ = false := B2_4.frozen 7
  have z7_4 : w4.cell? ⟨w.heap.size + 1, 7, none⟩ = some (.int .i64 0) := B1_4.cell 7
  have zf7_4 : w4.frozen? ⟨w.heap.size + 1, 7, none⟩ = false := B1_4.frozen 7
  have x8_4 : w4.cell? ⟨w.heap.size, 8, none⟩ = some (.int .i64 ft) := B0_4.cell 8
  have y8_4 : w4.cell? ⟨w.heap.size + 1 + 1, 8, none⟩ = some (.int .i64 0) := B2_4.cell 8
  have yf8_4 : w4.frozen? ⟨w.heap.size + 1 + 1, 8, none⟩ = false := B2_4.frozen 8
  have z8_4 : w4.cell? ⟨w.heap.size + 1, 8, none⟩ = some (.int .i64 0) := B1_4.cell 8
  have zf8_4 : w4.frozen? ⟨w.heap.size + 1, 8, none⟩ = false := B1_4.frozen 8
  have x9_4 : w4.cell? ⟨w.heap.size, 9, none⟩ = some (.string nm) := B0_4.cell 9
  have y9_4 : w4.cell? ⟨w.heap.size + 1 + 1, 9, none⟩ = some (.string ByteArray.empty) := B2_4.cell 9
  have yf9_4 : w4.frozen? ⟨w.heap.size + 1 + 1, 9, none⟩ = false := B2_4.frozen 9
  have z9_4 : w4.cell? ⟨w.heap.size + 1, 9, none⟩ = some (.string ByteArray.empty) := B1_4.cell 9
  have zf9_4 : w4.frozen? ⟨w.heap.size + 1, 9, none⟩ = false := B1_4.frozen 9
  have x10_4 : w4.cell? ⟨w.heap.size, 10, none⟩ = some (.slice A4 l4.length c4) := B0_4.cell 10
  have y10_4 : w4.cell? ⟨w.heap.size + 1 + 1, 10, none⟩ = some (.slice none 0 0) := B2_4.cell 10
  have yf10_4 : w4.frozen? ⟨w.heap.size + 1 + 1, 10, none⟩ = false := B2_4.frozen 10
  have z10_4 : w4.cell? ⟨w.heap.size + 1, 10, none⟩ = some (.slice none 0 0) := B1_4.cell 10
  have zf10_4 : w4.frozen? ⟨w.heap.size + 1, 10, none⟩ = false := B1_4.frozen 10
  have x11_4 : w4.cell? ⟨w.heap.size, 11, none⟩ = some (.int .i64 wd) := B0_4.cell 11
  have y11_4 : w4.cell? ⟨w.heap.size + 1 + 1, 11, none⟩ = some (.int .i64 0) := B2_4.cell 11
  have yf11_4 : w4.frozen? ⟨w.heap.size + 1 + 1, 11, none⟩ = false := B2_4.frozen 11
  have z11_4 : w4.cell? ⟨w.heap.size + 1, 11, none⟩ = some (.int .i64 0) := B1_4.cell 11
  have zf11_4 : w4.frozen? ⟨w.heap.size + 1, 11, none⟩ = false := B1_4.frozen 11
  have x12_4 : w4.cell? ⟨w.heap.size, 12, none⟩ = some (.int .i64 lf) := B0_4.cell 12
  have y12_4 : w4.cell? ⟨w.heap.size + 1 + 1, 12, none⟩ = some (.int .i64 0) := B2_4.cell 12
  have yf12_4 : w4.frozen? ⟨w.heap.size + 1 + 1, 12, none⟩ = false := B2_4.frozen 12
  have z12_4 : w4.cell? ⟨w.heap.size + 1, 12, none⟩ = some (.int .i64 0) := B1_4.cell 12
  have zf12_4 : w4.frozen? ⟨w.heap.size + 1, 12, none⟩ = false := B1_4.frozen 12
  have x13_4 : w4.cell? ⟨w.heap.size, 13, none⟩ = some (.int .i64 rt) := B0_4.cell 13
  have y13_4 : w4.cell? ⟨w.heap.size + 1 + 1, 13, none⟩ = some (.int .i64 0) := B2_4.cell 13
  have yf13_4 : w4.frozen? ⟨w.heap.size + 1 + 1, 13, none⟩ = false := B2_4.frozen 13
  have z13_4 : w4.cell? ⟨w.heap.size + 1, 13, none⟩ = some (.int .i64 0) := B1_4.cell 13
  have zf13_4 : w4.frozen? ⟨w.heap.size + 1, 13, none⟩ = false := B1_4.frozen 13
  go_wp2_with fail
  refine bodyPost_ret (v := .agg #[.int .i64 L, .slice B1 l1.length d1, .slice B2 l2.length d2, .int .i64 p, .int .i64 q, .int .i64 r, .slice B3 l3.length d3, .int .i64 fd, .int .i64 ft, .string nm, .slice B4 l4.length d4, .int .i64 wd, .int .i64 lf, .int .i64 rt]) (by simp [results, Try.results19, go_sem, z0_4, z1_4, z2_4, z3_4, z4_4, z5_4, z6_4, z7_4, z8_4, z9_4, z10_4, z11_4, z12_4, z13_4]) rfl ⟨B1, d1, B2, d2, B3, d3, B4, d4, rfl, own_mono (base := w.heap.size + 1 + 1 + 1) (by repeat (first | with_reducible exact hO_1 | (with_reducible refine own_far ?_ (by first | omega | (simp; omega))))) (by first | omega | (simp; omega) | simp), own_mono (base := w.heap.size + 1 + 1 + 1) (by repeat (first | with_reducible exact hO_2 | (with_reducible refine own_far ?_ (by first | omega | (simp; omega))))) (by first | omega | (simp; omega) | simp), own_mono (base := w.heap.size + 1 + 1 + 1) (by repeat (first | with_reducible exact hO_3 | (with_reducible refine own_far ?_ (by first | omega | (simp; omega))))) (by first | omega | (simp; omega) | simp), own_mono (base := w.heap.size + 1 + 1 + 1) (by repeat (first | with_reducible exact hO_4 | (with_reducible refine own_far ?_ (by first | omega | (simp; omega))))) (by first | omega | (simp; omega) | simp), (by repeat (first | with_reducible exact hB4 | with_reducible apply below_drewN' | with_reducible apply Below.drew | (with_reducible refine Below.alloc ?_ (by first | omega | (simp; omega) | simp) _) | (with_reducible refine Below.setCell ?_ (by first | omega | (simp; omega) | simp) _) | exact hB4))⟩

set_option maxRecDepth 100000 in
theorem eqDesk_c (L : Int) (A1 : Option Addr) (c1 : Nat) (A1' : Option Addr) (c1' : Nat) (l1 : List Int) (A2 : Option Addr) (c2 : Nat) (A2' : Option Addr) (c2' : Nat) (l2 : List Int) (p q r : Int) (A3 : Option Addr) (c3 : Nat) (A3' : Option Addr) (c3' : Nat) (l3 : List Term) (fd ft : Int) (nm : ByteArray) (A4 : Option Addr) (c4 : Nat) (A4' : Option Addr) (c4' : Nat) (l4 : List Int) (wd lf rt : Int) (w : World) (h1 : l1.length ≤ 1048576) (h2 : l2.length ≤ 1048576) (h3 : l3.length ≤ 1048576) (h4 : l4.length ≤ 1048576) (hs1 : Sl w w.heap.size 1 A1 (l1.map ic)) (hs2 : Sl w w.heap.size 1 A1' (l1.map ic)) (hs3 : Sl w w.heap.size 1 A2 (l2.map ic)) (hs4 : Sl w w.heap.size 1 A2' (l2.map ic)) (hs5 : Sl w w.heap.size 3 A3 (l3.map Term.cells)) (hs6 : Sl w w.heap.size 3 A3' (l3.map Term.cells)) (hs7 : Sl w w.heap.size 1 A4 (l4.map ic)) (hs8 : Sl w w.heap.size 1 A4' (l4.map ic)) :
    Calls Try.prog 21 #[.agg #[.int .i64 L, .slice A1 l1.length c1, .slice A2 l2.length c2, .int .i64 p, .int .i64 q, .int .i64 r, .slice A3 l3.length c3, .int .i64 fd, .int .i64 ft, .string nm, .slice A4 l4.length c4, .int .i64 wd, .int .i64 lf, .int .i64 rt], .agg #[.int .i64 L, .slice A1' l1.length c1', .slice A2' l2.length c2', .int .i64 p, .int .i64 q, .int .i64 r, .slice A3' l3.length c3', .int .i64 fd, .int .i64 ft, .string nm, .slice A4' l4.length c4', .int .i64 wd, .int .i64 lf, .int .i64 rt]] w fun e w' => e = .returned (.bool true) ∧ Below w.heap.size w w' := by
  go_enter Try.func21, Try.ntmps21
  go_wp2_with fail
  refine (eqRule_c L A1 c1 A1' c1' l1 A2 c2 A2' c2' l2 _ (by omega) (by omega) ((hs1.below ((by repeat (first | with_reducible exact Below.refl _ _ | with_reducible apply below_drewN' | with_reducible apply Below.drew | (with_reducible refine Below.alloc ?_ (by first | omega | (simp; omega) | simp) _) | (with_reducible refine Below.setCell ?_ (by first | omega | (simp; omega) | simp) _) | exact Below.refl _ _)))).more (by first | omega | (simp; omega) | simp)) ((hs2.below ((by repeat (first | with_reducible exact Below.refl _ _ | with_reducible apply below_drewN' | with_reducible apply Below.drew | (with_reducible refine Below.alloc ?_ (by first | omega | (simp; omega) | simp) _) | (with_reducible refine Below.setCell ?_ (by first | omega | (simp; omega) | simp) _) | exact Below.refl _ _)))).more (by first | omega | (simp; omega) | simp)) ((hs3.below ((by repeat (first | with_reducible exact Below.refl _ _ | with_reducible apply below_drewN' | with_reducible apply Below.drew | (with_reducible refine Below.alloc ?_ (by first | omega | (simp; omega) | simp) _) | (with_reducible refine Below.setCell ?_ (by first | omega | (simp; omega) | simp) _) | exact Below.refl _ _)))).more (by first | omega | (simp; omega) | simp)) ((hs4.below ((by repeat (first | with_reducible exact Below.refl _ _ | with_reducible apply below_drewN' | with_reducible apply Below.drew | (with_reducible refine Below.alloc ?_ (by first | omega | (simp; omega) | simp) _) | (with_reducible refine Below.setCell ?_ (by first | omega | (simp; omega) | simp) _) | exact Below.refl _ _)))).more (by first | omega | (simp; omega) | simp))).mono ?_; rintro e w1 ⟨rfl, hb1⟩
  have B0_1 := ((Blk.new w 63 #[.int .i64 L, .slice A1 l1.length c1, .slice A2 l2.length c2, .int .i64 p, .int .i64 q, .int .i64 r, .slice A3 l3.length c3, .int .i64 fd, .int .i64 ft, .string nm, .slice A4 l4.length c4, .int .i64 wd, .int .i64 lf, .int .i64 rt]).alloc (.cells #[.int .i64 L, .slice A1' l1.length c1', .slice A2' l2.length c2', .int .i64 p, .int .i64 q, .int .i64 r, .slice A3' l3.length c3', .int .i64 fd, .int .i64 ft, .string nm, .slice A4' l4.length c4', .int .i64 wd, .int .i64 lf, .int .i64 rt] 63)).below hb1 (by first | omega | (simp; omega) | simp)
  have B1_1 := (Blk.new' (w.alloc (.cells #[.int .i64 L, .slice A1 l1.length c1, .slice A2 l2.length c2, .int .i64 p, .int .i64 q, .int .i64 r, .slice A3 l3.length c3, .int .i64 fd, .int .i64 ft, .string nm, .slice A4 l4.length c4, .int .i64 wd, .int .i64 lf, .int .i64 rt] 63)) 63 #[.int .i64 L, .slice A1' l1.length c1', .slice A2' l2.length c2', .int .i64 p, .int .i64 q, .int .i64 r, .slice A3' l3.length c3', .int .i64 fd, .int .i64 ft, .string nm, .slice A4' l4.length c4', .int .i64 wd, .int .i64 lf, .int .i64 rt] (g := w.heap.size + 1) (by simp)).below hb1 (by first | omega | (simp; omega) | simp)
  have hB1 : Below w.heap.size w w1 := Below.trans ((by repeat (first | with_reducible exact Below.refl _ _ | with_reducible apply below_drewN' | with_reducible apply Below.drew | (with_reducible refine Below.alloc ?_ (by first | omega | (simp; omega) | simp) _) | (with_reducible refine Below.setCell ?_ (by first | omega | (simp; omega) | simp) _) | exact Below.refl _ _))) (hb1.mono (by first | omega | (simp; omega) | simp))
  have hBs1 := hB1.size
  have hZ1 := B1_1.lt
  have x0_1 : w1.cell? ⟨w.heap.size, 0, none⟩ = some (.int .i64 L) := B0_1.cell 0
  have y0_1 : w1.cell? ⟨w.heap.size + 1, 0, none⟩ = some (.int .i64 L) := B1_1.cell 0
  have x1_1 : w1.cell? ⟨w.heap.size, 1, none⟩ = some (.slice A1 l1.length c1) := B0_1.cell 1
  have y1_1 : w1.cell? ⟨w.heap.size + 1, 1, none⟩ = some (.slice A1' l1.length c1') := B1_1.cell 1
  have x2_1 : w1.cell? ⟨w.heap.size, 2, none⟩ = some (.slice A2 l2.length c2) := B0_1.cell 2
  have y2_1 : w1.cell? ⟨w.heap.size + 1, 2, none⟩ = some (.slice A2' l2.length c2') := B1_1.cell 2
  have x3_1 : w1.cell? ⟨w.heap.size, 3, none⟩ = some (.int .i64 p) := B0_1.cell 3
  have y3_1 : w1.cell? ⟨w.heap.size + 1, 3, none⟩ = some (.int .i64 p) := B1_1.cell 3
  have x4_1 : w1.cell? ⟨w.heap.size, 4, none⟩ = some (.int .i64 q) := B0_1.cell 4
  have y4_1 : w1.cell? ⟨w.heap.size + 1, 4, none⟩ = some (.int .i64 q) := B1_1.cell 4
  have x5_1 : w1.cell? ⟨w.heap.size, 5, none⟩ = some (.int .i64 r) := B0_1.cell 5
  have y5_1 : w1.cell? ⟨w.heap.size + 1, 5, none⟩ = some (.int .i64 r) := B1_1.cell 5
  have x6_1 : w1.cell? ⟨w.heap.size, 6, none⟩ = some (.slice A3 l3.length c3) := B0_1.cell 6
  have y6_1 : w1.cell? ⟨w.heap.size + 1, 6, none⟩ = some (.slice A3' l3.length c3') := B1_1.cell 6
  have x7_1 : w1.cell? ⟨w.heap.size, 7, none⟩ = some (.int .i64 fd) := B0_1.cell 7
  have y7_1 : w1.cell? ⟨w.heap.size + 1, 7, none⟩ = some (.int .i64 fd) := B1_1.cell 7
  have x8_1 : w1.cell? ⟨w.heap.size, 8, none⟩ = some (.int .i64 ft) := B0_1.cell 8
  have y8_1 : w1.cell? ⟨w.heap.size + 1, 8, none⟩ = some (.int .i64 ft) := B1_1.cell 8
  have x9_1 : w1.cell? ⟨w.heap.size, 9, none⟩ = some (.string nm) := B0_1.cell 9
  have y9_1 : w1.cell? ⟨w.heap.size + 1, 9, none⟩ = some (.string nm) := B1_1.cell 9
  have x10_1 : w1.cell? ⟨w.heap.size, 10, none⟩ = some (.slice A4 l4.length c4) := B0_1.cell 10
  have y10_1 : w1.cell? ⟨w.heap.size + 1, 10, none⟩ = some (.slice A4' l4.length c4') := B1_1.cell 10
  have x11_1 : w1.cell? ⟨w.heap.size, 11, none⟩ = some (.int .i64 wd) := B0_1.cell 11
  have y11_1 : w1.cell? ⟨w.heap.size + 1, 11, none⟩ = some (.int .i64 wd) := B1_1.cell 11
  have x12_1 : w1.cell? ⟨w.heap.size, 12, none⟩ = some (.int .i64 lf) := B0_1.cell 12
  have y12_1 : w1.cell? ⟨w.heap.size + 1, 12, none⟩ = some (.int .i64 lf) := B1_1.cell 12
  have x13_1 : w1.cell? ⟨w.heap.size, 13, none⟩ = some (.int .i64 rt) := B0_1.cell 13
  have y13_1 : w1.cell? ⟨w.heap.size + 1, 13, none⟩ = some (.int .i64 rt) := B1_1.cell 13
  go_wp2_with fail
  refine (eqErrors_c p q r _).mono ?_; rintro e w2 ⟨rfl, hb2⟩
  have B0_2 := B0_1.below hb2 (by first | omega | (simp; omega) | simp)
  have B1_2 := B1_1.below hb2 (by first | omega | (simp; omega) | simp)
  have hB2 : Below w.heap.size w w2 := Below.trans ((by repeat (first | with_reducible exact hB1 | with_reducible apply below_drewN' | with_reducible apply Below.drew | (with_reducible refine Below.alloc ?_ (by first | omega | (simp; omega) | simp) _) | (with_reducible refine Below.setCell ?_ (by first | omega | (simp; omega) | simp) _) | exact hB1))) (hb2.mono (by first | omega | (simp; omega) | simp))
  have hBs2 := hB2.size
  have hZ2 := B1_2.lt
  have x0_2 : w2.cell? ⟨w.heap.size, 0, none⟩ = some (.int .i64 L) := B0_2.cell 0
  have y0_2 : w2.cell? ⟨w.heap.size + 1, 0, none⟩ = some (.int .i64 L) := B1_2.cell 0
  have x1_2 : w2.cell? ⟨w.heap.size, 1, none⟩ = some (.slice A1 l1.length c1) := B0_2.cell 1
  have y1_2 : w2.cell? ⟨w.heap.size + 1, 1, none⟩ = some (.slice A1' l1.length c1') := B1_2.cell 1
  have x2_2 : w2.cell? ⟨w.heap.size, 2, none⟩ = some (.slice A2 l2.length c2) := B0_2.cell 2
  have y2_2 : w2.cell? ⟨w.heap.size + 1, 2, none⟩ = some (.slice A2' l2.length c2') := B1_2.cell 2
  have x3_2 : w2.cell? ⟨w.heap.size, 3, none⟩ = some (.int .i64 p) := B0_2.cell 3
  have y3_2 : w2.cell? ⟨w.heap.size + 1, 3, none⟩ = some (.int .i64 p) := B1_2.cell 3
  have x4_2 : w2.cell? ⟨w.heap.size, 4, none⟩ = some (.int .i64 q) := B0_2.cell 4
  have y4_2 : w2.cell? ⟨w.heap.size + 1, 4, none⟩ = some (.int .i64 q) := B1_2.cell 4
  have x5_2 : w2.cell? ⟨w.heap.size, 5, none⟩ = some (.int .i64 r) := B0_2.cell 5
  have y5_2 : w2.cell? ⟨w.heap.size + 1, 5, none⟩ = some (.int .i64 r) := B1_2.cell 5
  have x6_2 : w2.cell? ⟨w.heap.size, 6, none⟩ = some (.slice A3 l3.length c3) := B0_2.cell 6
  have y6_2 : w2.cell? ⟨w.heap.size + 1, 6, none⟩ = some (.slice A3' l3.length c3') := B1_2.cell 6
  have x7_2 : w2.cell? ⟨w.heap.size, 7, none⟩ = some (.int .i64 fd) := B0_2.cell 7
  have y7_2 : w2.cell? ⟨w.heap.size + 1, 7, none⟩ = some (.int .i64 fd) := B1_2.cell 7
  have x8_2 : w2.cell? ⟨w.heap.size, 8, none⟩ = some (.int .i64 ft) := B0_2.cell 8
  have y8_2 : w2.cell? ⟨w.heap.size + 1, 8, none⟩ = some (.int .i64 ft) := B1_2.cell 8
  have x9_2 : w2.cell? ⟨w.heap.size, 9, none⟩ = some (.string nm) := B0_2.cell 9
  have y9_2 : w2.cell? ⟨w.heap.size + 1, 9, none⟩ = some (.string nm) := B1_2.cell 9
  have x10_2 : w2.cell? ⟨w.heap.size, 10, none⟩ = some (.slice A4 l4.length c4) := B0_2.cell 10
  have y10_2 : w2.cell? ⟨w.heap.size + 1, 10, none⟩ = some (.slice A4' l4.length c4') := B1_2.cell 10
  have x11_2 : w2.cell? ⟨w.heap.size, 11, none⟩ = some (.int .i64 wd) := B0_2.cell 11
  have y11_2 : w2.cell? ⟨w.heap.size + 1, 11, none⟩ = some (.int .i64 wd) := B1_2.cell 11
  have x12_2 : w2.cell? ⟨w.heap.size, 12, none⟩ = some (.int .i64 lf) := B0_2.cell 12
  have y12_2 : w2.cell? ⟨w.heap.size + 1, 12, none⟩ = some (.int .i64 lf) := B1_2.cell 12
  have x13_2 : w2.cell? ⟨w.heap.size, 13, none⟩ = some (.int .i64 rt) := B0_2.cell 13
  have y13_2 : w2.cell? ⟨w.heap.size + 1, 13, none⟩ = some (.int .i64 rt) := B1_2.cell 13
  go_wp2_with fail
  refine (eqTermS_c A3 A3' c3 c3' l3 _ (by omega) ((hs5.below ((by repeat (first | with_reducible exact hB2 | with_reducible apply below_drewN' | with_reducible apply Below.drew | (with_reducible refine Below.alloc ?_ (by first | omega | (simp; omega) | simp) _) | (with_reducible refine Below.setCell ?_ (by first | omega | (simp; omega) | simp) _) | exact hB2)))).more (by first | omega | (simp; omega) | simp)) ((hs6.below ((by repeat (first | with_reducible exact hB2 | with_reducible apply below_drewN' | with_reducible apply Below.drew | (with_reducible refine Below.alloc ?_ (by first | omega | (simp; omega) | simp) _) | (with_reducible refine Below.setCell ?_ (by first | omega | (simp; omega) | simp) _) | exact hB2)))).more (by first | omega | (simp; omega) | simp))).mono ?_; rintro e w3 ⟨rfl, hb3⟩
  have B0_3 := B0_2.below hb3 (by first | omega | (simp; omega) | simp)
  have B1_3 := B1_2.below hb3 (by first | omega | (simp; omega) | simp)
  have hB3 : Below w.heap.size w w3 := Below.trans ((by repeat (first | with_reducible exact hB2 | with_reducible apply below_drewN' | with_reducible apply Below.drew | (with_reducible refine Below.alloc ?_ (by first | omega | (simp; omega) | simp) _) | (with_reducible refine Below.setCell ?_ (by first | omega | (simp; omega) | simp) _) | exact hB2))) (hb3.mono (by first | omega | (simp; omega) | simp))
  have hBs3 := hB3.size
  have hZ3 := B1_3.lt
  have x0_3 : w3.cell? ⟨w.heap.size, 0, none⟩ = some (.int .i64 L) := B0_3.cell 0
  have y0_3 : w3.cell? ⟨w.heap.size + 1, 0, none⟩ = some (.int .i64 L) := B1_3.cell 0
  have x1_3 : w3.cell? ⟨w.heap.size, 1, none⟩ = some (.slice A1 l1.length c1) := B0_3.cell 1
  have y1_3 : w3.cell? ⟨w.heap.size + 1, 1, none⟩ = some (.slice A1' l1.length c1') := B1_3.cell 1
  have x2_3 : w3.cell? ⟨w.heap.size, 2, none⟩ = some (.slice A2 l2.length c2) := B0_3.cell 2
  have y2_3 : w3.cell? ⟨w.heap.size + 1, 2, none⟩ = some (.slice A2' l2.length c2') := B1_3.cell 2
  have x3_3 : w3.cell? ⟨w.heap.size, 3, none⟩ = some (.int .i64 p) := B0_3.cell 3
  have y3_3 : w3.cell? ⟨w.heap.size + 1, 3, none⟩ = some (.int .i64 p) := B1_3.cell 3
  have x4_3 : w3.cell? ⟨w.heap.size, 4, none⟩ = some (.int .i64 q) := B0_3.cell 4
  have y4_3 : w3.cell? ⟨w.heap.size + 1, 4, none⟩ = some (.int .i64 q) := B1_3.cell 4
  have x5_3 : w3.cell? ⟨w.heap.size, 5, none⟩ = some (.int .i64 r) := B0_3.cell 5
  have y5_3 : w3.cell? ⟨w.heap.size + 1, 5, none⟩ = some (.int .i64 r) := B1_3.cell 5
  have x6_3 : w3.cell? ⟨w.heap.size, 6, none⟩ = some (.slice A3 l3.length c3) := B0_3.cell 6
  have y6_3 : w3.cell? ⟨w.heap.size + 1, 6, none⟩ = some (.slice A3' l3.length c3') := B1_3.cell 6
  have x7_3 : w3.cell? ⟨w.heap.size, 7, none⟩ = some (.int .i64 fd) := B0_3.cell 7
  have y7_3 : w3.cell? ⟨w.heap.size + 1, 7, none⟩ = some (.int .i64 fd) := B1_3.cell 7
  have x8_3 : w3.cell? ⟨w.heap.size, 8, none⟩ = some (.int .i64 ft) := B0_3.cell 8
  have y8_3 : w3.cell? ⟨w.heap.size + 1, 8, none⟩ = some (.int .i64 ft) := B1_3.cell 8
  have x9_3 : w3.cell? ⟨w.heap.size, 9, none⟩ = some (.string nm) := B0_3.cell 9
  have y9_3 : w3.cell? ⟨w.heap.size + 1, 9, none⟩ = some (.string nm) := B1_3.cell 9
  have x10_3 : w3.cell? ⟨w.heap.size, 10, none⟩ = some (.slice A4 l4.length c4) := B0_3.cell 10
  have y10_3 : w3.cell? ⟨w.heap.size + 1, 10, none⟩ = some (.slice A4' l4.length c4') := B1_3.cell 10
  have x11_3 : w3.cell? ⟨w.heap.size, 11, none⟩ = some (.int .i64 wd) := B0_3.cell 11
  have y11_3 : w3.cell? ⟨w.heap.size + 1, 11, none⟩ = some (.int .i64 wd) := B1_3.cell 11
  have x12_3 : w3.cell? ⟨w.heap.size, 12, none⟩ = some (.int .i64 lf) := B0_3.cell 12
  have y12_3 : w3.cell? ⟨w.heap.size + 1, 12, none⟩ = some (.int .i64 lf) := B1_3.cell 12
  have x13_3 : w3.cell? ⟨w.heap.size, 13, none⟩ = some (.int .i64 rt) := B0_3.cell 13
  have y13_3 : w3.cell? ⟨w.heap.size + 1, 13, none⟩ = some (.int .i64 rt) := B1_3.cell 13
  go_wp2_with fail
  refine (eqChart_c fd ft nm A4 c4 A4' c4' l4 wd lf rt _ (by omega) ((hs7.below ((by repeat (first | with_reducible exact hB3 | with_reducible apply below_drewN' | with_reducible apply Below.drew | (with_reducible refine Below.alloc ?_ (by first | omega | (simp; omega) | simp) _) | (with_reducible refine Below.setCell ?_ (by first | omega | (simp; omega) | simp) _) | exact hB3)))).more (by first | omega | (simp; omega) | simp)) ((hs8.below ((by repeat (first | with_reducible exact hB3 | with_reducible apply below_drewN' | with_reducible apply Below.drew | (with_reducible refine Below.alloc ?_ (by first | omega | (simp; omega) | simp) _) | (with_reducible refine Below.setCell ?_ (by first | omega | (simp; omega) | simp) _) | exact hB3)))).more (by first | omega | (simp; omega) | simp))).mono ?_; rintro e w4 ⟨rfl, hb4⟩
  have B0_4 := B0_3.below hb4 (by first | omega | (simp; omega) | simp)
  have B1_4 := B1_3.below hb4 (by first | omega | (simp; omega) | simp)
  have hB4 : Below w.heap.size w w4 := Below.trans ((by repeat (first | with_reducible exact hB3 | with_reducible apply below_drewN' | with_reducible apply Below.drew | (with_reducible refine Below.alloc ?_ (by first | omega | (simp; omega) | simp) _) | (with_reducible refine Below.setCell ?_ (by first | omega | (simp; omega) | simp) _) | exact hB3))) (hb4.mono (by first | omega | (simp; omega) | simp))
  have hBs4 := hB4.size
  have hZ4 := B1_4.lt
  have x0_4 : w4.cell? ⟨w.heap.size, 0, none⟩ = some (.int .i64 L) := B0_4.cell 0
  have y0_4 : w4.cell? ⟨w.heap.size + 1, 0, none⟩ = some (.int .i64 L) := B1_4.cell 0
  have x1_4 : w4.cell? ⟨w.heap.size, 1, none⟩ = some (.slice A1 l1.length c1) := B0_4.cell 1
  have y1_4 : w4.cell? ⟨w.heap.size + 1, 1, none⟩ = some (.slice A1' l1.length c1') := B1_4.cell 1
  have x2_4 : w4.cell? ⟨w.heap.size, 2, none⟩ = some (.slice A2 l2.length c2) := B0_4.cell 2
  have y2_4 : w4.cell? ⟨w.heap.size + 1, 2, none⟩ = some (.slice A2' l2.length c2') := B1_4.cell 2
  have x3_4 : w4.cell? ⟨w.heap.size, 3, none⟩ = some (.int .i64 p) := B0_4.cell 3
  have y3_4 : w4.cell? ⟨w.heap.size + 1, 3, none⟩ = some (.int .i64 p) := B1_4.cell 3
  have x4_4 : w4.cell? ⟨w.heap.size, 4, none⟩ = some (.int .i64 q) := B0_4.cell 4
  have y4_4 : w4.cell? ⟨w.heap.size + 1, 4, none⟩ = some (.int .i64 q) := B1_4.cell 4
  have x5_4 : w4.cell? ⟨w.heap.size, 5, none⟩ = some (.int .i64 r) := B0_4.cell 5
  have y5_4 : w4.cell? ⟨w.heap.size + 1, 5, none⟩ = some (.int .i64 r) := B1_4.cell 5
  have x6_4 : w4.cell? ⟨w.heap.size, 6, none⟩ = some (.slice A3 l3.length c3) := B0_4.cell 6
  have y6_4 : w4.cell? ⟨w.heap.size + 1, 6, none⟩ = some (.slice A3' l3.length c3') := B1_4.cell 6
  have x7_4 : w4.cell? ⟨w.heap.size, 7, none⟩ = some (.int .i64 fd) := B0_4.cell 7
  have y7_4 : w4.cell? ⟨w.heap.size + 1, 7, none⟩ = some (.int .i64 fd) := B1_4.cell 7
  have x8_4 : w4.cell? ⟨w.heap.size, 8, none⟩ = some (.int .i64 ft) := B0_4.cell 8
  have y8_4 : w4.cell? ⟨w.heap.size + 1, 8, none⟩ = some (.int .i64 ft) := B1_4.cell 8
  have x9_4 : w4.cell? ⟨w.heap.size, 9, none⟩ = some (.string nm) := B0_4.cell 9
  have y9_4 : w4.cell? ⟨w.heap.size + 1, 9, none⟩ = some (.string nm) := B1_4.cell 9
  have x10_4 : w4.cell? ⟨w.heap.size, 10, none⟩ = some (.slice A4 l4.length c4) := B0_4.cell 10
  have y10_4 : w4.cell? ⟨w.heap.size + 1, 10, none⟩ = some (.slice A4' l4.length c4') := B1_4.cell 10
  have x11_4 : w4.cell? ⟨w.heap.size, 11, none⟩ = some (.int .i64 wd) := B0_4.cell 11
  have y11_4 : w4.cell? ⟨w.heap.size + 1, 11, none⟩ = some (.int .i64 wd) := B1_4.cell 11
  have x12_4 : w4.cell? ⟨w.heap.size, 12, none⟩ = some (.int .i64 lf) := B0_4.cell 12
  have y12_4 : w4.cell? ⟨w.heap.size + 1, 12, none⟩ = some (.int .i64 lf) := B1_4.cell 12
  have x13_4 : w4.cell? ⟨w.heap.size, 13, none⟩ = some (.int .i64 rt) := B0_4.cell 13
  have y13_4 : w4.cell? ⟨w.heap.size + 1, 13, none⟩ = some (.int .i64 rt) := B1_4.cell 13
  go_wp2_with fail
  go_ret
  exact ⟨rfl, (by repeat (first | with_reducible exact hB4 | with_reducible apply below_drewN' | with_reducible apply Below.drew | (with_reducible refine Below.alloc ?_ (by first | omega | (simp; omega) | simp) _) | (with_reducible refine Below.setCell ?_ (by first | omega | (simp; omega) | simp) _) | exact hB4))⟩
end Go.Proofs.Ytmdliicdlehibaa
