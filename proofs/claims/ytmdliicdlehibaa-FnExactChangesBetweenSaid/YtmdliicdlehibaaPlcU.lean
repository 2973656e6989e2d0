/- Places on a chart's scales: the reference's code. Conditions: the chart and the figure are valid. -/
import Derived.Test.YtmdliicdlehibaaPlcT
import Derived.Test.YtmdliicdlehibaaDesk
namespace Go.Proofs.Ytmdliicdlehibaa
open Go.RowKit
set_option maxRecDepth 100000 in
set_option maxHeartbeats 4000000 in
theorem l23Code_c (fd ft : Int) (s : ByteArray) (A : Option Addr) (c : Nat) (l : List Int) (wd lf rt k : Int) (f : Figure) (w : World) (hk : k = 0 ∨ k = 1) (hsz : s.size ≤ 1048576) (hl : l.length ≤ 1048576) (hs : Sl w w.heap.size 1 A (l.map ic))
    (hc : chartB fd ft s l wd lf rt = true) (hf : figOK f = true) :
    Calls Try.prog 80 #[.agg #[.int .i64 fd, .int .i64 ft, .string s, .slice A l.length c, .int .i64 wd, .int .i64 lf, .int .i64 rt], .int .i64 k, f.agg] w fun e w' => e = .returned (.int .i64 0) ∧ Below w.heap.size w w' := by
  have hW : Below w.heap.size w ((w.alloc (.cells #[.int .i64 fd, .int .i64 ft, .string s, .slice A l.length c, .int .i64 wd, .int .i64 lf, .int .i64 rt] 38)).alloc (.cells #[.int .i64 f.digits, .int .i64 f.tens] 34)) := (by repeat (first | with_reducible exact Below.refl _ _ | with_reducible apply below_drewN' | with_reducible apply Below.drew | (with_reducible refine Below.alloc ?_ (by first | omega | (simp; omega) | simp | (have := (Below.refl _ _).size; omega) | (have := (Below.refl _ _).size; simp; omega)) _) | (with_reducible refine Below.setCell ?_ (by first | omega | (simp; omega) | simp | (have := (Below.refl _ _).size; omega) | (have := (Below.refl _ _).size; simp; omega)) _) | exact Below.refl _ _))
  have HC := specIsChart_c fd ft s A c l wd lf rt _ hsz hl ((hs.below hW).more hW.size)
  have HF := fun W => specIsFigure_c f W
  rw [hc] at HC
  simp only [hf] at HF
  have HI := fun W => l01In_c k 0 2 W
  have hi : inB k 0 2 = true := inB_true.mpr (by omega)
  simp only [hi] at HI
  unfold Figure.agg at HF ⊢
  replace HC := Lib.hid HC
  replace HF := fun W => Lib.hid (HF W)
  replace HI := fun W => Lib.hid (HI W)
  have B1 := Blk.new' (w.alloc (.cells #[.int .i64 fd, .int .i64 ft, .string s, .slice A l.length c, .int .i64 wd, .int .i64 lf, .int .i64 rt] 38)) 34 #[.int .i64 f.digits, .int .i64 f.tens] (g := w.heap.size + 1) (by simp)
  clear hc hf hi hs
  go_enter Try.func80, Try.ntmps80
  go_wp2_with fail
  refine Calls.mono HC.out ?_; rintro e w1 ⟨rfl, hb1⟩
  have hW1 := hW.trans (hb1.mono hW.size)
  have D1 := B1.below hb1 B1.lt
  have y0 : w1.cell? ⟨w.heap.size + 1, 0, none⟩ = some (.int .i64 f.digits) := D1.cell 0
  have y1 : w1.cell? ⟨w.heap.size + 1, 1, none⟩ = some (.int .i64 f.tens) := D1.cell 1
  go_wp2_with fail
  refine Calls.mono (HF _).out ?_; rintro e w2 ⟨rfl, hb2⟩
  have hW2 := hW1.trans (hb2.mono hW1.size)
  go_wp2_with (go_at_call 52; refine (HI _).out.mono ?_; rintro e w5 ⟨rfl, rfl⟩)
  go_ret
  exact ⟨rfl, (by repeat (first | with_reducible exact hW2 | with_reducible apply below_drewN' | with_reducible apply Below.drew | (with_reducible refine Below.alloc ?_ (by first | omega | (simp; omega) | simp | (have := (hW2).size; omega) | (have := (hW2).size; simp; omega)) _) | (with_reducible refine Below.setCell ?_ (by first | omega | (simp; omega) | simp | (have := (hW2).size; omega) | (have := (hW2).size; simp; omega)) _) | exact hW2))⟩
end Go.Proofs.Ytmdliicdlehibaa
