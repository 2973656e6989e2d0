/- Products and quotients of figures: the program's and the reference's. Conditions: both figures are valid. -/
import Derived.Test.YtednjmldjbndhaaGreatKSc24
set_option linter.unusedSimpArgs false
set_option linter.unusedVariables false
namespace Go.Proofs.YtednjmldjbndhaaGreat
open Go.RowKit
/-- a figure, or ErrLimit -/
def limR (f : Figure) : Figure × Int := if figOK f = true then (f, 0) else (⟨0, 0⟩, 3)
set_option maxRecDepth 100000 in
theorem limitedG_c (a b : Int) (w : World) : Calls Tryz.prog 194 #[.agg #[.int .i64 a, .int .i64 b]] w fun e w' => e = .returned (.tuple #[.agg #[.int .i64 (limR ⟨a, b⟩).1.digits, .int .i64 (limR ⟨a, b⟩).1.tens], .int .i64 (limR ⟨a, b⟩).2]) ∧ Below w.heap.size w w' := by
 have hI := fun W => implIsFigure_c ⟨a, b⟩ W
 unfold Figure.agg at hI
 have hW : Below w.heap.size w ((w.alloc (.cells #[.int .i64 a, .int .i64 b] 51)).alloc (.cells #[.int .i64 0, .int .i64 0] 51)) := (by repeat first | with_reducible (first | exact Below.refl _ _ | apply below_drewN' | apply Below.drew | refine Below.alloc ?_ ?_ _ | refine Below.setCell ?_ ?_ _) | exact Below.refl _ _ | omega | (simp <;> omega) | (have := (Below.refl _ _).size; first | omega | (simp <;> omega)))
 have X0 := (Blk.new w 51 #[.int .i64 a, .int .i64 b]).alloc (.cells #[.int .i64 0, .int .i64 0] 51)
 have R0 := Blk.new' (w.alloc (.cells #[.int .i64 a, .int .i64 b] 51)) 51 #[.int .i64 0, .int .i64 0] (g := w.heap.size + 1) (by simp)
 cases hf : figOK ⟨a, b⟩ with
 | false =>
  have hR : Hid (limR ⟨a, b⟩ = (⟨0, 0⟩, 3)) := if_neg (by rw [hf]; simp)
  simp only [hf] at hI
  have HI := fun W => Lib.hid (hI W)
  clear hI hf
  go_enter Tryz.func194, Tryz.ntmps194
  go_wp2_with fail
  generalize ((w.alloc (.cells #[.int .i64 a, .int .i64 b] 51)).alloc (.cells #[.int .i64 0, .int .i64 0] 51)) = W at *
  refine Calls.mono (HI _).out ?_; rintro e w1 ⟨rfl, hb1⟩
  have R1 := R0.below hb1 R0.lt
  have hW1 := hW.trans (hb1.mono hW.size)
  have c0 : w1.cell? ⟨w.heap.size + 1, 0, none⟩ = some (.int .i64 0) := R1.cell 0
  have c1 : w1.cell? ⟨w.heap.size + 1, 1, none⟩ = some (.int .i64 0) := R1.cell 1
  have f0 : w1.frozen? ⟨w.heap.size + 1, 0, none⟩ = false := R1.frozen 0
  have f1 : w1.frozen? ⟨w.heap.size + 1, 1, none⟩ = false := R1.frozen 1
  have hs := hW1.size
  go_wp2
  refine bodyPost_ret (v := .tuple #[.agg #[.int .i64 0, .int .i64 0], .int .i64 3]) (by simp [results, Tryz.results194, go_sem, c0, c1]) rfl ⟨by rw [hR.out], (by repeat first | with_reducible (first | exact hW1 | apply below_drewN' | apply Below.drew | refine Below.alloc ?_ ?_ _ | refine Below.setCell ?_ ?_ _) | exact hW1 | omega | (simp <;> omega) | (have := (hW1).size; first | omega | (simp <;> omega)))⟩
 | true =>
  have hR : Hid (limR ⟨a, b⟩ = (⟨a, b⟩, 0)) := if_pos hf
  simp only [hf] at hI
  have HI := fun W => Lib.hid (hI W)
  clear hI hf
  go_enter Tryz.func194, Tryz.ntmps194
  go_wp2_with fail
  generalize ((w.alloc (.cells #[.int .i64 a, .int .i64 b] 51)).alloc (.cells #[.int .i64 0, .int .i64 0] 51)) = W at *
  refine Calls.mono (HI _).out ?_; rintro e w1 ⟨rfl, hb1⟩
  have X1 := X0.below hb1 X0.lt
  have R1 := R0.below hb1 R0.lt
  have hW1 := hW.trans (hb1.mono hW.size)
  have x0 : w1.cell? ⟨w.heap.size, 0, none⟩ = some (.int .i64 a) := X1.cell 0
  have x1 : w1.cell? ⟨w.heap.size, 1, none⟩ = some (.int .i64 b) := X1.cell 1
  have c0 : w1.cell? ⟨w.heap.size + 1, 0, none⟩ = some (.int .i64 0) := R1.cell 0
  have c1 : w1.cell? ⟨w.heap.size + 1, 1, none⟩ = some (.int .i64 0) := R1.cell 1
  have f0 : w1.frozen? ⟨w.heap.size + 1, 0, none⟩ = false := R1.frozen 0
  have f1 : w1.frozen? ⟨w.heap.size + 1, 1, none⟩ = false := R1.frozen 1
  have hs := hW1.size
  go_wp2
  refine bodyPost_ret (v := .tuple #[.agg #[.int .i64 a, .int .i64 b], .int .i64 0]) (by simp [results, Tryz.results194, go_sem, c0, c1]) rfl ⟨by rw [hR.out], (by repeat first | with_reducible (first | exact hW1 | apply below_drewN' | apply Below.drew | refine Below.alloc ?_ ?_ _ | refine Below.setCell ?_ ?_ _) | exact hW1 | omega | (simp <;> omega) | (have := (hW1).size; first | omega | (simp <;> omega)))⟩
set_option maxRecDepth 100000 in
theorem l02Result_c (a b : Int) (w : World) : Calls Tryz.prog 191 #[.agg #[.int .i64 a, .int .i64 b]] w fun e w' => e = .returned (.tuple #[.agg #[.int .i64 (limR ⟨a, b⟩).1.digits, .int .i64 (limR ⟨a, b⟩).1.tens], .int .i64 (limR ⟨a, b⟩).2]) ∧ Below w.heap.size w w' := by
 have hI := fun W => specIsFigure_c ⟨a, b⟩ W
 unfold Figure.agg at hI
 have hW : Below w.heap.size w ((w.alloc (.cells #[.int .i64 a, .int .i64 b] 51)).alloc (.cells #[.int .i64 0, .int .i64 0] 51)) := (by repeat first | with_reducible (first | exact Below.refl _ _ | apply below_drewN' | apply Below.drew | refine Below.alloc ?_ ?_ _ | refine Below.setCell ?_ ?_ _) | exact Below.refl _ _ | omega | (simp <;> omega) | (have := (Below.refl _ _).size; first | omega | (simp <;> omega)))
 have X0 := (Blk.new w 51 #[.int .i64 a, .int .i64 b]).alloc (.cells #[.int .i64 0, .int .i64 0] 51)
 have R0 := Blk.new' (w.alloc (.cells #[.int .i64 a, .int .i64 b] 51)) 51 #[.int .i64 0, .int .i64 0] (g := w.heap.size + 1) (by simp)
 cases hf : figOK ⟨a, b⟩ with
 | false =>
  have hR : Hid (limR ⟨a, b⟩ = (⟨0, 0⟩, 3)) := if_neg (by rw [hf]; simp)
  simp only [hf] at hI
  have HI := fun W => Lib.hid (hI W)
  clear hI hf
  go_enter Tryz.func191, Tryz.ntmps191
  go_wp2_with fail
  generalize ((w.alloc (.cells #[.int .i64 a, .int .i64 b] 51)).alloc (.cells #[.int .i64 0, .int .i64 0] 51)) = W at *
  refine Calls.mono (HI _).out ?_; rintro e w1 ⟨rfl, hb1⟩
  have R1 := R0.below hb1 R0.lt
  have hW1 := hW.trans (hb1.mono hW.size)
  have c0 : w1.cell? ⟨w.heap.size + 1, 0, none⟩ = some (.int .i64 0) := R1.cell 0
  have c1 : w1.cell? ⟨w.heap.size + 1, 1, none⟩ = some (.int .i64 0) := R1.cell 1
  have f0 : w1.frozen? ⟨w.heap.size + 1, 0, none⟩ = false := R1.frozen 0
  have f1 : w1.frozen? ⟨w.heap.size + 1, 1, none⟩ = false := R1.frozen 1
  have hs := hW1.size
  go_wp2
  refine bodyPost_ret (v := .tuple #[.agg #[.int .i64 0, .int .i64 0], .int .i64 3]) (by simp [results, Tryz.results191, go_sem, c0, c1]) rfl ⟨by rw [hR.out], (by repeat first | with_reducible (first | exact hW1 | apply below_drewN' | apply Below.drew | refine Below.alloc ?_ ?_ _ | refine Below.setCell ?_ ?_ _) | exact hW1 | omega | (simp <;> omega) | (have := (hW1).size; first | omega | (simp <;> omega)))⟩
 | true =>
  have hR : Hid (limR ⟨a, b⟩ = (⟨a, b⟩, 0)) := if_pos hf
  simp only [hf] at hI
  have HI := fun W => Lib.hid (hI W)
  clear hI hf
  go_enter Tryz.func191, Tryz.ntmps191
  go_wp2_with fail
  generalize ((w.alloc (.cells #[.int .i64 a, .int .i64 b] 51)).alloc (.cells #[.int .i64 0, .int .i64 0] 51)) = W at *
  refine Calls.mono (HI _).out ?_; rintro e w1 ⟨rfl, hb1⟩
  have X1 := X0.below hb1 X0.lt
  have R1 := R0.below hb1 R0.lt
  have hW1 := hW.trans (hb1.mono hW.size)
  have x0 : w1.cell? ⟨w.heap.size, 0, none⟩ = some (.int .i64 a) := X1.cell 0
  have x1 : w1.cell? ⟨w.heap.size, 1, none⟩ = some (.int .i64 b) := X1.cell 1
  have c0 : w1.cell? ⟨w.heap.size + 1, 0, none⟩ = some (.int .i64 0) := R1.cell 0
  have c1 : w1.cell? ⟨w.heap.size + 1, 1, none⟩ = some (.int .i64 0) := R1.cell 1
  have f0 : w1.frozen? ⟨w.heap.size + 1, 0, none⟩ = false := R1.frozen 0
  have f1 : w1.frozen? ⟨w.heap.size + 1, 1, none⟩ = false := R1.frozen 1
  have hs := hW1.size
  go_wp2
  refine bodyPost_ret (v := .tuple #[.agg #[.int .i64 a, .int .i64 b], .int .i64 0]) (by simp [results, Tryz.results191, go_sem, c0, c1]) rfl ⟨by rw [hR.out], (by repeat first | with_reducible (first | exact hW1 | apply below_drewN' | apply Below.drew | refine Below.alloc ?_ ?_ _ | refine Below.setCell ?_ ?_ _) | exact hW1 | omega | (simp <;> omega) | (have := (hW1).size; first | omega | (simp <;> omega)))⟩
end Go.Proofs.YtednjmldjbndhaaGreat
