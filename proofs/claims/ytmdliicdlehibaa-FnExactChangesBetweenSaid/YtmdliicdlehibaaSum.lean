/- Sums of intervals, and the reference's logarithm of a figure. Conditions: bounds. -/
import Derived.Test.YtmdliicdlehibaaPlace1
namespace Go.Proofs.Ytmdliicdlehibaa
open Go.RowKit
set_option maxRecDepth 100000 in
theorem l03Figure_c (f : Figure) (w : World) (h : 1000 ≤ f.digits ∧ f.digits ≤ 9999) (ht : -30 ≤ f.tens ∧ f.tens ≤ 30) :
    Calls Try.prog 109 #[f.agg] w fun e w' => e = .returned (.agg #[.int .i64 (logLow (f.digits * 100000) + f.tens * 1048576), .int .i64 (logHigh (f.digits * 100000) + f.tens * 1048576)]) ∧ Below w.heap.size w w' := by
  obtain ⟨d, t⟩ := f
  unfold Figure.agg
  simp only at *
  have hx : 100000000 ≤ d * 100000 ∧ d * 100000 ≤ 1000000000 := by omega
  have h1 := logLow_bd hx
  have h2 := logHigh_bd hx
  obtain ⟨h, h'⟩ := h
  obtain ⟨ht, ht'⟩ := ht
  have hlog := fun W => Lib.hid (l03Log_c (d * 100000) W hx)
  generalize logLow (d * 100000) = lo at *
  generalize logHigh (d * 100000) = hi at *
  go_enter Try.func109, Try.ntmps109
  go_wp2_with fail
  refine (hlog _).out.mono ?_; rintro e w1 ⟨rfl, hb1⟩
  have B0 : Blk w1 w.heap.size 34 #[.int .i64 d, .int .i64 t] := ((Blk.new w _ _).alloc _).below hb1 (by simp; omega)
  have B1 : Blk w1 (w.heap.size + 1) 122 #[.int .i64 0, .int .i64 0] := (Blk.new' _ _ _ (by simp)).below hb1 (by simp)
  have hb0 : Below w.heap.size w w1 := (((Below.refl _ _).alloc (Nat.le_refl _) _).alloc (by simp) _).trans (hb1.mono (by simp; omega))
  clear hb1
  have z0 := B0.lt
  have z1 := B1.lt
  have c1 : w1.cell? ⟨w.heap.size, 1, none⟩ = some (.int .i64 t) := B0.cell 1
  have d0 : w1.cell? ⟨w.heap.size + 1, 0, none⟩ = some (.int .i64 0) := B1.cell 0
  have d1 : w1.cell? ⟨w.heap.size + 1, 1, none⟩ = some (.int .i64 0) := B1.cell 1
  have f0 := B1.frozen 0
  have f1 := B1.frozen 1
  clear B0 B1
  go_wp2
  refine bodyPost_ret (v := .agg #[.int .i64 (lo + t * 1048576), .int .i64 (hi + t * 1048576)]) (by simp [results, Try.results109, go_sem, d0, d1, z1]) rfl ⟨rfl, ?_⟩
  have hbs := hb0.size
  exact (by repeat (first | with_reducible exact hb0 | with_reducible apply below_drewN' | with_reducible apply Below.drew | (with_reducible refine Below.alloc ?_ (by first | omega | (simp; omega) | simp | (have := (hb0).size; omega) | (have := (hb0).size; simp; omega)) _) | (with_reducible refine Below.setCell ?_ (by first | omega | (simp; omega) | simp | (have := (hb0).size; omega) | (have := (hb0).size; simp; omega)) _) | exact hb0))

def figLo (d t : Int) : Int := logLow (d * 100000) + t * 1048576
def figHi (d t : Int) : Int := logHigh (d * 100000) + t * 1048576
theorem figLo_bd {d t : Int} (h : 1000 ≤ d ∧ d ≤ 9999) (ht : -30 ≤ t ∧ t ≤ 30) : (-33554432 ≤ figLo d t ∧ figLo d t ≤ 33554432) ∧ (-33554432 ≤ figHi d t ∧ figHi d t ≤ 33554432) := by
  have h1 := logLow_bd (x := d * 100000) (by omega)
  have h2 := logHigh_bd (x := d * 100000) (by omega)
  unfold figLo figHi
  omega
end Go.Proofs.Ytmdliicdlehibaa
