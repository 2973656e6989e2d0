/- Figures on a circle: valid figures, their angles. -/
import Derived.Test.YtkjommcmeinkaaaGreatKRw5
import Derived.Test.YtkjommcmeinkaaaGreatKRw6
set_option linter.unusedSimpArgs false
namespace Go.Proofs.YtkjommcmeinkaaaGreat
open Go.RowKit
def figOK (f : Figure) : Bool := inB f.digits 1000 9999 && inB f.tens (-30) 30
theorem fig_bd {f : Figure} (h : figOK f = true) : (1000 ≤ f.digits ∧ f.digits ≤ 9999) ∧ (-30 ≤ f.tens ∧ f.tens ≤ 30) := by
  simp only [figOK, Bool.and_eq_true] at h
  exact ⟨inB_true.1 h.1, inB_true.1 h.2⟩
def angleRaw (d t : Int) : Int := (logLow (d * 100000) + logHigh (d * 100000)) / 2 * t * 1296000 / 1048576
set_option maxRecDepth 100000 in
theorem figureLog_c (f : Figure) (w : World) (h : 1000 ≤ f.digits ∧ f.digits ≤ 9999) (ht : -30 ≤ f.tens ∧ f.tens ≤ 30) :
    Calls Tryz.prog 98 #[f.agg] w fun e w' => e = .returned (.agg #[.int .i64 (logLow (f.digits * 100000) + f.tens * 1048576), .int .i64 (logHigh (f.digits * 100000) + f.tens * 1048576)]) ∧ Below w.heap.size w w' := by
  obtain ⟨d, t⟩ := f
  unfold Figure.agg
  simp only at *
  have hx : 100000000 ≤ d * 100000 ∧ d * 100000 ≤ 1000000000 := by omega
  have h1 := logLow_bd hx
  have h2 := logHigh_bd hx
  obtain ⟨h, h'⟩ := h
  obtain ⟨ht, ht'⟩ := ht
  have hlog := fun W => Lib.hid (logarithm_c (d * 100000) W hx)
  generalize logLow (d * 100000) = lo at *
  generalize logHigh (d * 100000) = hi at *
  go_enter Tryz.func98, Tryz.ntmps98
  go_wp2_with fail
  refine (hlog _).out.mono ?_; rintro e w1 ⟨rfl, hb1⟩
  have B0 : Blk w1 w.heap.size 87 #[.int .i64 d, .int .i64 t] := ((Blk.new w _ _).alloc _).below hb1 (by simp; omega)
  have B1 : Blk w1 (w.heap.size + 1) 84 #[.int .i64 0, .int .i64 0] := (Blk.new' _ _ _ (by simp)).below hb1 (by simp)
  have hb0 : Below w.heap.size w w1 := (((Below.refl _ _).alloc (Nat.le_refl _) _).alloc (by simp) _).trans (hb1.mono (by simp; omega))
  clear hb1
  have z0 := B0.lt
  have z1 := B1.lt
  have c1 : w1.cell? ⟨w.heap.size, 1, none⟩ = some (.int .i64 t) := B0.cell 1
  have d0 : w1.cell? ⟨w.heap.size + 1, 0, none⟩ = some (.int .i64 0) := B1.cell 0
  have d1 : w1.cell? ⟨w.heap.size + 1, 1, none⟩ = some (.int .i64 0) := B1.cell 1
  have f0 := B1.frozen 0
  have f1 := B1.frozen 1
  clear B0 B1
  go_wp2
  refine bodyPost_ret (v := .agg #[.int .i64 (lo + t * 1048576), .int .i64 (hi + t * 1048576)]) (by simp [results, Tryz.results98, go_sem, d0, d1, z1]) rfl ⟨rfl, ?_⟩
  have hbs := hb0.size
  exact (by repeat (first | with_reducible exact hb0 | with_reducible apply below_drewN' | with_reducible apply Below.drew | (with_reducible refine Below.alloc ?_ (by first | omega | (simp; omega) | simp | (have := (hb0).size; omega) | (have := (hb0).size; simp; omega)) _) | (with_reducible refine Below.setCell ?_ (by first | omega | (simp; omega) | simp | (have := (hb0).size; omega) | (have := (hb0).size; simp; omega)) _) | exact hb0))

theorem log_sum {d : Int} (h : 1000 ≤ d ∧ d ≤ 9999) : (0 ≤ logLow (d * 100000) ∧ logLow (d * 100000) < 1048576) ∧ (1 ≤ logHigh (d * 100000) ∧ logHigh (d * 100000) ≤ 1048576) :=
  ⟨logLow_bd (by omega), logHigh_bd (by omega)⟩
theorem angle_mul {s t : Int} (hs : 0 ≤ s ∧ s ≤ 1048576) (ht : 1 ≤ t ∧ t ≤ 20) : (0 ≤ s * t ∧ s * t ≤ 20971520) := by
  have h1 : 0 ≤ s * t := Int.mul_nonneg hs.1 (by omega)
  have h2 : s * t ≤ 1048576 * 20 := Int.mul_le_mul hs.2 ht.2 (by omega) (by omega)
  omega
theorem angleRaw_bd {d t : Int} (h : 1000 ≤ d ∧ d ≤ 9999) (ht : 1 ≤ t ∧ t ≤ 20) : 0 ≤ angleRaw d t ∧ angleRaw d t ≤ 1296000 * t := by
  have hl := log_sum h
  unfold angleRaw
  generalize logLow (d * 100000) = lo at *
  generalize logHigh (d * 100000) = hi at *
  have hs : 0 ≤ (lo + hi) / 2 ∧ (lo + hi) / 2 ≤ 1048576 := by omega
  generalize (lo + hi) / 2 = s at *
  have hm := angle_mul hs ht
  have h2 : s * t ≤ 1048576 * t := Int.mul_le_mul_of_nonneg_right hs.2 (by omega)
  generalize s * t = q at *
  omega
end Go.Proofs.YtkjommcmeinkaaaGreat
