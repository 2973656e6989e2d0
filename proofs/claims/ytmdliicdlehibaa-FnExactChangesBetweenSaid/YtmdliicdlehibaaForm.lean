/- Formulas: the laws' copies and comparisons of them. No condition beyond the lengths. -/
import Derived.Test.YtmdliicdlehibaaNest
namespace Go.Proofs.Ytmdliicdlehibaa
open Go.RowKit
set_option maxRecDepth 100000 in
theorem toFormula_c (fd ft : Int) (nm : ByteArray) (A1 : Option Addr) (c1 : Nat) (l1 : List Int) (w : World) (h1 : l1.length ≤ 1048576) (hs1 : Sl w w.heap.size 1 A1 (l1.map ic)) :
    Calls Try.prog 55 #[.agg #[.int .i64 fd, .int .i64 ft, .string nm, .slice A1 l1.length c1]] w fun e w' => ∃ B1 d1, e = .returned (.agg #[.int .i64 fd, .int .i64 ft, .string nm, .slice B1 l1.length d1]) ∧ Own w' w.heap.size 2 1 (.slice B1 l1.length d1) (l1.map ic) ∧ Below w.heap.size w w' := by
  go_enter Try.func55, Try.ntmps55
  go_wp2_with fail
  refine (toFigure_c fd ft _).mono ?_; rintro e w1 ⟨rfl, hb1⟩
  have B0_1 := (((Blk.new w 26 #[.int .i64 fd, .int .i64 ft, .string nm, .slice A1 l1.length c1]).alloc (.cells #[.int .i64 0, .int .i64 0, .string ByteArray.empty, .slice none 0 0] 36)).alloc (.cells #[.int .i64 0, .int .i64 0, .string ByteArray.empty, .slice none 0 0] 36)).below hb1 (by first | omega | (simp; omega) | simp)
  have B1_1 := ((Blk.new' (w.alloc (.cells #[.int .i64 fd, .int .i64 ft, .string nm, .slice A1 l1.length c1] 26)) 36 #[.int .i64 0, .int .i64 0, .string ByteArray.empty, .slice none 0 0] (g := w.heap.size + 1) (by simp)).alloc (.cells #[.int .i64 0, .int .i64 0, .string ByteArray.empty, .slice none 0 0] 36)).below hb1 (by first | omega | (simp; omega) | simp)
  have B2_1 : Blk w1 (w.heap.size + 1 + 1) 36 #[.int .i64 0, .int .i64 0, .string ByteArray.empty, .slice none 0 0] := (Blk.new' ((w.alloc (.cells #[.int .i64 fd, .int .i64 ft, .string nm, .slice A1 l1.length c1] 26)).alloc (.cells #[.int .i64 0, .int .i64 0, .string ByteArray.empty, .slice none 0 0] 36)) 36 #[.int .i64 0, .int .i64 0, .string ByteArray.empty, .slice none 0 0] (g := w.heap.size + 1 + 1) (by simp)).below hb1 (by first | omega | (simp; omega) | simp)
  have hB1 : Below w.heap.size w w1 := Below.trans ((by repeat (first | with_reducible exact Below.refl _ _ | with_reducible apply below_drewN' | with_reducible apply Below.drew | (with_reducible refine Below.alloc ?_ (by first | omega | (simp; omega) | simp | (have := (Below.refl _ _).size; omega) | (have := (Below.refl _ _).size; simp; omega)) _) | (with_reducible refine Below.setCell ?_ (by first | omega | (simp; omega) | simp | (have := (Below.refl _ _).size; omega) | (have := (Below.refl _ _).size; simp; omega)) _) | exact Below.refl _ _))) (hb1.mono (by first | omega | (simp; omega) | simp))
  have hBs1 := hB1.size
  have hZ1 := B2_1.lt
  have x0_1 : w1.cell? ⟨w.heap.size, 0, none⟩ = some (.int .i64 fd) := B0_1.cell 0
  have y0_1 : w1.cell? ⟨w.heap.size + 1 + 1, 0, none⟩ = some (.int .i64 0) := B2_1.cell 0
  have yf0_1 : w1.frozen? ⟨w.heap.size + 1 + 1, 0, none⟩ = false := B2_1.frozen 0
  have z0_1 : w1.cell? ⟨w.heap.size + 1, 0, none⟩ = some (.int .i64 0) := B1_1.cell 0
  have zf0_1 : w1.frozen? ⟨w.heap.size + 1, 0, none⟩ = false := B1_1.frozen 0
  have x1_1 : w1.cell? ⟨w.heap.size, 1, none⟩ = some (.int .i64 ft) := B0_1.cell 1
  have y1_1 : w1.cell? ⟨w.heap.size + 1 + 1, 1, none⟩ = some (.int .i64 0) := B2_1.cell 1
  have yf1_1 : w1.frozen? ⟨w.heap.size + 1 + 1, 1, none⟩ = false := B2_1.frozen 1
  have z1_1 : w1.cell? ⟨w.heap.size + 1, 1, none⟩ = some (.int .i64 0) := B1_1.cell 1
  have zf1_1 : w1.frozen? ⟨w.heap.size + 1, 1, none⟩ = false := B1_1.frozen 1
  have x2_1 : w1.cell? ⟨w.heap.size, 2, none⟩ = some (.string nm) := B0_1.cell 2
  have y2_1 : w1.cell? ⟨w.heap.size + 1 + 1, 2, none⟩ = some (.string ByteArray.empty) := B2_1.cell 2
  have yf2_1 : w1.frozen? ⟨w.heap.size + 1 + 1, 2, none⟩ = false := B2_1.frozen 2
  have z2_1 : w1.cell? ⟨w.heap.size + 1, 2, none⟩ = some (.string ByteArray.empty) := B1_1.cell 2
  have zf2_1 : w1.frozen? ⟨w.heap.size + 1, 2, none⟩ = false := B1_1.frozen 2
  have x3_1 : w1.cell? ⟨w.heap.size, 3, none⟩ = some (.slice A1 l1.length c1) := B0_1.cell 3
  have y3_1 : w1.cell? ⟨w.heap.size + 1 + 1, 3, none⟩ = some (.slice none 0 0) := B2_1.cell 3
  have yf3_1 : w1.frozen? ⟨w.heap.size + 1 + 1, 3, none⟩ = false := B2_1.frozen 3
  have z3_1 : w1.cell? ⟨w.heap.size + 1, 3, none⟩ = some (.slice none 0 0) := B1_1.cell 3
  have zf3_1 : w1.frozen? ⟨w.heap.size + 1, 3, none⟩ = false := B1_1.frozen 3
  go_wp2_with fail
  refine (toInt64S_c A1 c1 l1 _ (by omega) ((hs1.below ((by repeat (first | with_reducible exact hB1 | with_reducible apply below_drewN' | with_reducible apply Below.drew | (with_reducible refine Below.alloc ?_ (by first | omega | (simp; omega) | simp | (have := (hB1).size; omega) | (have := (hB1).size; simp; omega)) _) | (with_reducible refine Below.setCell ?_ (by first | omega | (simp; omega) | simp | (have := (hB1).size; omega) | (have := (hB1).size; simp; omega)) _) | exact hB1)))).more (by first | omega | (simp; omega) | simp))).mono ?_; rintro e w2 ⟨B1, d1, rfl, hO_1, hb2⟩
  have B0_2 := (((B0_1.far (p := ⟨w.heap.size + 1 + 1, 0, none⟩) (by first | omega | (simp; omega) | simp) (.int .i64 fd)).far (p := ⟨w.heap.size + 1 + 1, 1, none⟩) (by first | omega | (simp; omega) | simp) (.int .i64 ft)).far (p := ⟨w.heap.size + 1 + 1, 2, none⟩) (by first | omega | (simp; omega) | simp) (.string nm)).below hb2 (by first | omega | (simp; omega) | simp)
  have B1_2 := (((B1_1.far (p := ⟨w.heap.size + 1 + 1, 0, none⟩) (by first | omega | (simp; omega) | simp) (.int .i64 fd)).far (p := ⟨w.heap.size + 1 + 1, 1, none⟩) (by first | omega | (simp; omega) | simp) (.int .i64 ft)).far (p := ⟨w.heap.size + 1 + 1, 2, none⟩) (by first | omega | (simp; omega) | simp) (.string nm)).below hb2 (by first | omega | (simp; omega) | simp)
  have B2_2 : Blk w2 (w.heap.size + 1 + 1) 36 #[.int .i64 fd, .int .i64 ft, .string nm, .slice none 0 0] := (((B2_1.set_ 0 (.int .i64 fd)).set_ 1 (.int .i64 ft)).set_ 2 (.string nm)).below hb2 (by first | omega | (simp; omega) | simp)
  have hB2 : Below w.heap.size w w2 := Below.trans ((by repeat (first | with_reducible exact hB1 | with_reducible apply below_drewN' | with_reducible apply Below.drew | (with_reducible refine Below.alloc ?_ (by first | omega | (simp; omega) | simp | (have := (hB1).size; omega) | (have := (hB1).size; simp; omega)) _) | (with_reducible refine Below.setCell ?_ (by first | omega | (simp; omega) | simp | (have := (hB1).size; omega) | (have := (hB1).size; simp; omega)) _) | exact hB1))) (hb2.mono (by first | omega | (simp; omega) | simp))
  have hBs2 := hB2.size
  have hZ2 := B2_2.lt
  have lt_1 := fun r hr => (hO_1.1.lt r hr).2
  have ge_1 := hO_1.ownGe
  have hO_1 := own_mono (base' := w.heap.size + 1 + 1 + 1) hO_1 (by first | omega | (simp; omega) | simp)
  have x0_2 : w2.cell? ⟨w.heap.size, 0, none⟩ = some (.int .i64 fd) := B0_2.cell 0
  have y0_2 : w2.cell? ⟨w.heap.size + 1 + 1, 0, none⟩ = some (.int .i64 fd) := B2_2.cell 0
  have yf0_2 : w2.frozen? ⟨w.heap.size + 1 + 1, 0, none⟩ = false := B2_2.frozen 0
  have z0_2 : w2.cell? ⟨w.heap.size + 1, 0, none⟩ = some (.int .i64 0) := B1_2.cell 0
  have zf0_2 : w2.frozen? ⟨w.heap.size + 1, 0, none⟩ = false := B1_2.frozen 0
  have x1_2 : w2.cell? ⟨w.heap.size, 1, none⟩ = some (.int .i64 ft) := B0_2.cell 1
  have y1_2 : w2.cell? ⟨w.heap.size + 1 + 1, 1, none⟩ = some (.int .i64 ft) := B2_2.cell 1
  have yf1_2 : w2.frozen? ⟨w.heap.size + 1 + 1, 1, none⟩ = false := B2_2.frozen 1
  have z1_2 : w2.cell? ⟨w.heap.size + 1, 1, none⟩ = some (.int .i64 0) := B1_2.cell 1
  have zf1_2 : w2.frozen? ⟨w.heap.size + 1, 1, none⟩ = false := B1_2.frozen 1
  have x2_2 : w2.cell? ⟨w.heap.size, 2, none⟩ = some (.string nm) := B0_2.cell 2
  have y2_2 : w2.cell? ⟨w.heap.size + 1 + 1, 2, none⟩ = some (.string nm) := B2_2.cell 2
  have yf2_2 : w2.frozen? ⟨w.heap.size + 1 + 1, 2, none⟩ = false := B2_2.frozen 2
  have z2_2 : w2.cell? ⟨w.heap.size + 1, 2, none⟩ = some (.string ByteArray.empty) := B1_2.cell 2
  have zf2_2 : w2.frozen? ⟨w.heap.size + 1, 2, none⟩ = false := B1_2.frozen 2
  have x3_2 : w2.cell? ⟨w.heap.size, 3, none⟩ = some (.slice A1 l1.length c1) := B0_2.cell 3
  have y3_2 : w2.cell? ⟨w.heap.size + 1 + 1, 3, none⟩ = some (.slice none 0 0) := B2_2.cell 3
  have yf3_2 : w2.frozen? ⟨w.heap.size + 1 + 1, 3, none⟩ = false := B2_2.frozen 3
  have z3_2 : w2.cell? ⟨w.heap.size + 1, 3, none⟩ = some (.slice none 0 0) := B1_2.cell 3
  have zf3_2 : w2.frozen? ⟨w.heap.size + 1, 3, none⟩ = false := B1_2.frozen 3
  go_wp2_with fail
  refine bodyPost_ret (v := .agg #[.int .i64 fd, .int .i64 ft, .string nm, .slice B1 l1.length d1]) (by simp [results, Try.results55, go_sem, z0_2, z1_2, z2_2, z3_2]) rfl ⟨B1, d1, rfl, own_mono (base := w.heap.size + 1 + 1 + 1) (by repeat (first | with_reducible exact hO_1 | (with_reducible refine own_far ?_ (by first | omega | (simp; omega))))) (by first | omega | (simp; omega) | simp), (by repeat (first | with_reducible exact hB2 | with_reducible apply below_drewN' | with_reducible apply Below.drew | (with_reducible refine Below.alloc ?_ (by first | omega | (simp; omega) | simp | (have := (hB2).size; omega) | (have := (hB2).size; simp; omega)) _) | (with_reducible refine Below.setCell ?_ (by first | omega | (simp; omega) | simp | (have := (hB2).size; omega) | (have := (hB2).size; simp; omega)) _) | exact hB2))⟩

set_option maxRecDepth 100000 in
theorem eqFormula_c (fd ft : Int) (nm : ByteArray) (A1 : Option Addr) (c1 : Nat) (A1' : Option Addr) (c1' : Nat) (l1 : List Int) (w : World) (h1 : l1.length ≤ 1048576) (hs1 : Sl w w.heap.size 1 A1 (l1.map ic)) (hs2 : Sl w w.heap.size 1 A1' (l1.map ic)) :
    Calls Try.prog 61 #[.agg #[.int .i64 fd, .int .i64 ft, .string nm, .slice A1 l1.length c1], .agg #[.int .i64 fd, .int .i64 ft, .string nm, .slice A1' l1.length c1']] w fun e w' => e = .returned (.bool true) ∧ Below w.heap.size w w' := by
  go_enter Try.func61, Try.ntmps61
  go_wp2_with fail
  refine (eqFigure_c fd ft _).mono ?_; rintro e w1 ⟨rfl, hb1⟩
  have B0_1 := ((Blk.new w 36 #[.int .i64 fd, .int .i64 ft, .string nm, .slice A1 l1.length c1]).alloc (.cells #[.int .i64 fd, .int .i64 ft, .string nm, .slice A1' l1.length c1'] 36)).below hb1 (by first | omega | (simp; omega) | simp)
  have B1_1 := (Blk.new' (w.alloc (.cells #[.int .i64 fd, .int .i64 ft, .string nm, .slice A1 l1.length c1] 36)) 36 #[.int .i64 fd, .int .i64 ft, .string nm, .slice A1' l1.length c1'] (g := w.heap.size + 1) (by simp)).below hb1 (by first | omega | (simp; omega) | simp)
  have hB1 : Below w.heap.size w w1 := Below.trans ((by repeat (first | with_reducible exact Below.refl _ _ | with_reducible apply below_drewN' | with_reducible apply Below.drew | (with_reducible refine Below.alloc ?_ (by first | omega | (simp; omega) | simp | (have := (Below.refl _ _).size; omega) | (have := (Below.refl _ _).size; simp; omega)) _) | (with_reducible refine Below.setCell ?_ (by first | omega | (simp; omega) | simp | (have := (Below.refl _ _).size; omega) | (have := (Below.refl _ _).size; simp; omega)) _) | exact Below.refl _ _))) (hb1.mono (by first | omega | (simp; omega) | simp))
  have hBs1 := hB1.size
  have hZ1 := B1_1.lt
  have x0_1 : w1.cell? ⟨w.heap.size, 0, none⟩ = some (.int .i64 fd) := B0_1.cell 0
  have y0_1 : w1.cell? ⟨w.heap.size + 1, 0, none⟩ = some (.int .i64 fd) := B1_1.cell 0
  have x1_1 : w1.cell? ⟨w.heap.size, 1, none⟩ = some (.int .i64 ft) := B0_1.cell 1
  have y1_1 : w1.cell? ⟨w.heap.size + 1, 1, none⟩ = some (.int .i64 ft) := B1_1.cell 1
  have x2_1 : w1.cell? ⟨w.heap.size, 2, none⟩ = some (.string nm) := B0_1.cell 2
  have y2_1 : w1.cell? ⟨w.heap.size + 1, 2, none⟩ = some (.string nm) := B1_1.cell 2
  have x3_1 : w1.cell? ⟨w.heap.size, 3, none⟩ = some (.slice A1 l1.length c1) := B0_1.cell 3
  have y3_1 : w1.cell? ⟨w.heap.size + 1, 3, none⟩ = some (.slice A1' l1.length c1') := B1_1.cell 3
  go_wp2_with fail
  refine (eqInt64S_c A1 A1' c1 c1' l1 _ (by omega) ((hs1.below ((by repeat (first | with_reducible exact hB1 | with_reducible apply below_drewN' | with_reducible apply Below.drew | (with_reducible refine Below.alloc ?_ (by first | omega | (simp; omega) | simp | (have := (hB1).size; omega) | (have := (hB1).size; simp; omega)) _) | (with_reducible refine Below.setCell ?_ (by first | omega | (simp; omega) | simp | (have := (hB1).size; omega) | (have := (hB1).size; simp; omega)) _) | exact hB1)))).more (by first | omega | (simp; omega) | simp)) ((hs2.below ((by repeat (first | with_reducible exact hB1 | with_reducible apply below_drewN' | with_reducible apply Below.drew | (with_reducible refine Below.alloc ?_ (by first | omega | (simp; omega) | simp | (have := (hB1).size; omega) | (have := (hB1).size; simp; omega)) _) | (with_reducible refine Below.setCell ?_ (by first | omega | (simp; omega) | simp | (have := (hB1).size; omega) | (have := (hB1).size; simp; omega)) _) | exact hB1)))).more (by first | omega | (simp; omega) | simp))).mono ?_; rintro e w2 ⟨rfl, hb2⟩
  have B0_2 := B0_1.below hb2 (by first | omega | (simp; omega) | simp)
  have B1_2 := B1_1.below hb2 (by first | omega | (simp; omega) | simp)
  have hB2 : Below w.heap.size w w2 := Below.trans ((by repeat (first | with_reducible exact hB1 | with_reducible apply below_drewN' | with_reducible apply Below.drew | (with_reducible refine Below.alloc ?_ (by first | omega | (simp; omega) | simp | (have := (hB1).size; omega) | (have := (hB1).size; simp; omega)) _) | (with_reducible refine Below.setCell ?_ (by first | omega | (simp; omega) | simp | (have := (hB1).size; omega) | (have := (hB1).size; simp; omega)) _) | exact hB1))) (hb2.mono (by first | omega | (simp; omega) | simp))
  have hBs2 := hB2.size
  have hZ2 := B1_2.lt
  have x0_2 : w2.cell? ⟨w.heap.size, 0, none⟩ = some (.int .i64 fd) := B0_2.cell 0
  have y0_2 : w2.cell? ⟨w.heap.size + 1, 0, none⟩ = some (.int .i64 fd) := B1_2.cell 0
  have x1_2 : w2.cell? ⟨w.heap.size, 1, none⟩ = some (.int .i64 ft) := B0_2.cell 1
  have y1_2 : w2.cell? ⟨w.heap.size + 1, 1, none⟩ = some (.int .i64 ft) := B1_2.cell 1
  have x2_2 : w2.cell? ⟨w.heap.size, 2, none⟩ = some (.string nm) := B0_2.cell 2
  have y2_2 : w2.cell? ⟨w.heap.size + 1, 2, none⟩ = some (.string nm) := B1_2.cell 2
  have x3_2 : w2.cell? ⟨w.heap.size, 3, none⟩ = some (.slice A1 l1.length c1) := B0_2.cell 3
  have y3_2 : w2.cell? ⟨w.heap.size + 1, 3, none⟩ = some (.slice A1' l1.length c1') := B1_2.cell 3
  go_wp2_with fail
  go_ret
  exact ⟨rfl, (by repeat (first | with_reducible exact hB2 | with_reducible apply below_drewN' | with_reducible apply Below.drew | (with_reducible refine Below.alloc ?_ (by first | omega | (simp; omega) | simp | (have := (hB2).size; omega) | (have := (hB2).size; simp; omega)) _) | (with_reducible refine Below.setCell ?_ (by first | omega | (simp; omega) | simp | (have := (hB2).size; omega) | (have := (hB2).size; simp; omega)) _) | exact hB2))⟩
/-- what is left of a budget, or that there is none; what the sizes are then -/
def SzP (left : Int) (ok : Prop) (w : World) (e : Ending) (w' : World) : Prop := (∃ v : Int, e = .returned (.int .i64 v) ∧ (v < 0 ∨ (0 ≤ v ∧ v ≤ left ∧ ok))) ∧ Below w.heap.size w w'
set_option maxRecDepth 100000 in
theorem szFormula_c (fd ft : Int) (nm : ByteArray) (A1 : Option Addr) (n1 c1 : Nat) (left : Int) (w : World) (hn : n1 ≤ 140737488351232) (hm : nm.size ≤ maxLen) (hl : 0 ≤ left ∧ left ≤ 1048576) :
    Calls Try.prog 50 #[.agg #[.int .i64 fd, .int .i64 ft, .string nm, .slice A1 n1 c1], .int .i64 left] w (SzP left (nm.size ≤ 1048576 ∧ n1 ≤ 1048576) w) := by
  obtain ⟨hl1, hl2⟩ := hl
  unfold maxLen at hm
  have hW : Below w.heap.size w (w.alloc (.cells #[.int .i64 fd, .int .i64 ft, .string nm, .slice A1 n1 c1] 26)) := (by repeat (first | with_reducible exact Below.refl _ _ | with_reducible apply below_drewN' | with_reducible apply Below.drew | (with_reducible refine Below.alloc ?_ (by first | omega | (simp; omega) | simp | (have := (Below.refl _ _).size; omega) | (have := (Below.refl _ _).size; simp; omega)) _) | (with_reducible refine Below.setCell ?_ (by first | omega | (simp; omega) | simp | (have := (Below.refl _ _).size; omega) | (have := (Below.refl _ _).size; simp; omega)) _) | exact Below.refl _ _))
  by_cases h : left < nm.size
  · have h' : left - nm.size < 0 := by omega
    go_enter Try.func50, Try.ntmps50
    go_wp2
    go_ret
    exact ⟨⟨-1, rfl, .inl (by omega)⟩, (by repeat (first | with_reducible exact hW | with_reducible apply below_drewN' | with_reducible apply Below.drew | (with_reducible refine Below.alloc ?_ (by first | omega | (simp; omega) | simp | (have := (hW).size; omega) | (have := (hW).size; simp; omega)) _) | (with_reducible refine Below.setCell ?_ (by first | omega | (simp; omega) | simp | (have := (hW).size; omega) | (have := (hW).size; simp; omega)) _) | exact hW))⟩
  · have h' : ¬ left - nm.size < 0 := by omega
    have H := fun W => Lib.hid (szInt64S_c A1 n1 c1 (left - nm.size) W hn (by omega))
    by_cases h2 : left - nm.size < n1
    · simp only [if_pos h2] at H
      go_enter Try.func50, Try.ntmps50
      go_wp2_with (go_at_call 65; refine Calls.mono (H _).out ?_; rintro e w1 ⟨rfl, rfl⟩)
      go_ret
      exact ⟨⟨-1, rfl, .inl (by omega)⟩, (by repeat (first | with_reducible exact hW | with_reducible apply below_drewN' | with_reducible apply Below.drew | (with_reducible refine Below.alloc ?_ (by first | omega | (simp; omega) | simp | (have := (hW).size; omega) | (have := (hW).size; simp; omega)) _) | (with_reducible refine Below.setCell ?_ (by first | omega | (simp; omega) | simp | (have := (hW).size; omega) | (have := (hW).size; simp; omega)) _) | exact hW))⟩
    · simp only [if_neg h2] at H
      have h3 : ¬ left - nm.size - n1 < 0 := by omega
      go_enter Try.func50, Try.ntmps50
      go_wp2_with (go_at_call 65; refine Calls.mono (H _).out ?_; rintro e w1 ⟨rfl, rfl⟩)
      go_ret
      exact ⟨⟨left - nm.size - n1, rfl, .inr ⟨by omega, by omega, by omega, by omega⟩⟩, (by repeat (first | with_reducible exact hW | with_reducible apply below_drewN' | with_reducible apply Below.drew | (with_reducible refine Below.alloc ?_ (by first | omega | (simp; omega) | simp | (have := (hW).size; omega) | (have := (hW).size; simp; omega)) _) | (with_reducible refine Below.setCell ?_ (by first | omega | (simp; omega) | simp | (have := (hW).size; omega) | (have := (hW).size; simp; omega)) _) | exact hW))⟩
end Go.Proofs.Ytmdliicdlehibaa
