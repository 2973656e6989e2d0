/- Two figures: the reference's. No condition. -/
import Derived.Test.YtmdliicdlehibaaCPt
namespace Go.Proofs.Ytmdliicdlehibaa
open Go.RowKit
set_option maxRecDepth 100000 in
theorem l02Two_c (a b : Figure) (w : World) : Calls Try.prog 51 #[a.agg, b.agg] w fun e w' => e = .returned (.bool (figOK a && figOK b)) ∧ Below w.heap.size w w' := by
  have HA := fun W => specIsFigure_c a W
  have HB := fun W => specIsFigure_c b W
  have hW : Below w.heap.size w ((w.alloc (.cells #[.int .i64 a.digits, .int .i64 a.tens] 34)).alloc (.cells #[.int .i64 b.digits, .int .i64 b.tens] 34)) := (by repeat (first | with_reducible exact Below.refl _ _ | with_reducible apply below_drewN' | with_reducible apply Below.drew | (with_reducible refine Below.alloc ?_ (by first | omega | (simp; omega) | simp | (have := (Below.refl _ _).size; omega) | (have := (Below.refl _ _).size; simp; omega)) _) | (with_reducible refine Below.setCell ?_ (by first | omega | (simp; omega) | simp | (have := (Below.refl _ _).size; omega) | (have := (Below.refl _ _).size; simp; omega)) _) | exact Below.refl _ _))
  have B1 := Blk.new' (w.alloc (.cells #[.int .i64 a.digits, .int .i64 a.tens] 34)) 34 #[.int .i64 b.digits, .int .i64 b.tens] (g := w.heap.size + 1) (by simp)
  cases ha : figOK a <;> cases hb : figOK b
  all_goals
    simp only [ha] at HA
    simp only [hb] at HB
    clear ha hb
    unfold Figure.agg at HA HB ⊢
    replace HA := fun W => Lib.hid (HA W)
    replace HB := fun W => Lib.hid (HB W)
    go_enter Try.func51, Try.ntmps51
    go_wp2_with fail
    refine Calls.mono (HA _).out ?_; rintro e w1 ⟨rfl, hb1⟩
    have hW1 := hW.trans (hb1.mono hW.size)
    have D1 := B1.below hb1 B1.lt
    have y0 : w1.cell? ⟨w.heap.size + 1, 0, none⟩ = some (.int .i64 b.digits) := D1.cell 0
    have y1 : w1.cell? ⟨w.heap.size + 1, 1, none⟩ = some (.int .i64 b.tens) := D1.cell 1
    clear HA
  · go_wp2
    go_ret
    exact ⟨rfl, (by repeat (first | with_reducible exact hW1 | with_reducible apply below_drewN' | with_reducible apply Below.drew | (with_reducible refine Below.alloc ?_ (by first | omega | (simp; omega) | simp | (have := (hW1).size; omega) | (have := (hW1).size; simp; omega)) _) | (with_reducible refine Below.setCell ?_ (by first | omega | (simp; omega) | simp | (have := (hW1).size; omega) | (have := (hW1).size; simp; omega)) _) | exact hW1))⟩
  · go_wp2
    go_ret
    exact ⟨rfl, (by repeat (first | with_reducible exact hW1 | with_reducible apply below_drewN' | with_reducible apply Below.drew | (with_reducible refine Below.alloc ?_ (by first | omega | (simp; omega) | simp | (have := (hW1).size; omega) | (have := (hW1).size; simp; omega)) _) | (with_reducible refine Below.setCell ?_ (by first | omega | (simp; omega) | simp | (have := (hW1).size; omega) | (have := (hW1).size; simp; omega)) _) | exact hW1))⟩
  · go_wp2_with fail
    refine Calls.mono (HB _).out ?_; rintro e w2 ⟨rfl, hb2⟩
    have hW2 := hW1.trans (hb2.mono hW1.size)
    go_wp2
    go_ret
    exact ⟨rfl, (by repeat (first | with_reducible exact hW2 | with_reducible apply below_drewN' | with_reducible apply Below.drew | (with_reducible refine Below.alloc ?_ (by first | omega | (simp; omega) | simp | (have := (hW2).size; omega) | (have := (hW2).size; simp; omega)) _) | (with_reducible refine Below.setCell ?_ (by first | omega | (simp; omega) | simp | (have := (hW2).size; omega) | (have := (hW2).size; simp; omega)) _) | exact hW2))⟩
  · go_wp2_with fail
    refine Calls.mono (HB _).out ?_; rintro e w2 ⟨rfl, hb2⟩
    have hW2 := hW1.trans (hb2.mono hW1.size)
    go_wp2
    go_ret
    exact ⟨rfl, (by repeat (first | with_reducible exact hW2 | with_reducible apply below_drewN' | with_reducible apply Below.drew | (with_reducible refine Below.alloc ?_ (by first | omega | (simp; omega) | simp | (have := (hW2).size; omega) | (have := (hW2).size; simp; omega)) _) | (with_reducible refine Below.setCell ?_ (by first | omega | (simp; omega) | simp | (have := (hW2).size; omega) | (have := (hW2).size; simp; omega)) _) | exact hW2))⟩
end Go.Proofs.Ytmdliicdlehibaa
