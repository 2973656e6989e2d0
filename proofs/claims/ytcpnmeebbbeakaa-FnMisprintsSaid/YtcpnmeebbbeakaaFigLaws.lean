/- FigureAt and FigureOnStrip, the program's and the reference's, and the laws on them. No condition. -/
import Derived.Test.YtcpnmeebbbeakaaFigAt
import Derived.Test.YtcpnmeebbbeakaaFigAtS
import Derived.Test.YtcpnmeebbbeakaaSeen
namespace Go.Proofs.Ytcpnmeebbbeakaa
open Go.RowKit
def figAtRes (angle t : Int) : Figure × Int := if inB t 1 20 && inB angle 0 (1296000 * t - 1) then (⟨nearD angle t, 0⟩, 0) else (⟨0, 0⟩, 2)
theorem figAt_ok {angle t : Int} (h1 : inB t 1 20 = true) (h2 : inB angle 0 (1296000 * t - 1) = true) : (1 ≤ t ∧ t ≤ 20) ∧ (0 ≤ angle ∧ angle ≤ 25920000) := by
  have b1 := inB_true.1 h1
  have b2 := inB_true.1 h2
  omega
theorem eqFigureAny_c (a b : Int) (w : World) : Calls Try.prog 27 #[.agg #[.int .i64 a, .int .i64 b], .agg #[.int .i64 a, .int .i64 b]] w fun e w' => e = .returned (.bool true) ∧ Below w.heap.size w w' := eqFigure_c a b w
set_option maxRecDepth 100000 in
theorem specFigureAt_c (angle t : Int) (w : World) : Calls Try.prog 67 #[.int .i64 angle, .int .i64 t] w fun e w' => e = .returned (.tuple #[(figAtRes angle t).1.agg, .int .i64 (figAtRes angle t).2]) ∧ Below w.heap.size w w' := by
  cases h1 : inB t 1 20 <;> cases h2 : inB angle 0 (1296000 * t - 1)
  case true.true =>
    have hok := figAt_ok h1 h2
    have h0 : angB angle = true := inB_true.2 (by omega)
    have HR : Hid (figAtRes angle t = (⟨nearD angle t, 0⟩, 0)) := by unfold Hid figAtRes; rw [h1, h2]; rfl
    have HN := fun W => Lib.hid (l30At_c angle t W hok.1 hok.2)
    obtain ⟨⟨t1, t2⟩, a1, a2⟩ := hok
    generalize nearD angle t = d at *
    go_enter Try.func67, Try.ntmps67
    go_wp2_with (first | (go_at_call 133; refine (l30Is_c _ _).mono ?_; rintro e w' ⟨rfl, rfl⟩) | (go_at_call 120; refine (l30Turns_c _ _).mono ?_; rintro e w' ⟨rfl, rfl⟩) | (go_at_call 100; refine (l01In_c _ _ _ _).mono ?_; rintro e w' ⟨rfl, rfl⟩) | (go_at_call 86; refine (HN _).out.mono ?_; rintro e w1 ⟨rfl, hb1⟩; have B0 := (Blk.new w 36 #[.int .i64 0, .int .i64 0]).below hb1 (by simp); have z0 := B0.lt; have c0 : w1.cell? ⟨w.heap.size, 0, none⟩ = some (.int .i64 0) := B0.cell 0; have c1 : w1.cell? ⟨w.heap.size, 1, none⟩ = some (.int .i64 0) := B0.cell 1; have f0 := B0.frozen 0; have f1 := B0.frozen 1; have hB := ((Below.refl w.heap.size w).alloc (Nat.le_refl _) (.cells #[.int .i64 0, .int .i64 0] 36)).trans (hb1.mono (by simp))))
    refine bodyPost_ret (v := .tuple #[.agg #[.int .i64 d, .int .i64 0], .int .i64 0]) (by simp [results, Try.results67, go_sem, c0, c1]) rfl ⟨by rw [HR.out]; rfl, (by repeat (first | with_reducible exact hB | with_reducible apply below_drewN' | with_reducible apply Below.drew | (with_reducible refine Below.alloc ?_ (by first | omega | (simp; omega) | simp) _) | (with_reducible refine Below.setCell ?_ (by first | omega | (simp; omega) | simp) _) | exact hB))⟩
  case false.true =>
    have HR : Hid (figAtRes angle t = (⟨0, 0⟩, 2)) := by unfold Hid figAtRes; rw [h1, h2]; rfl
    cases h0 : angB angle
    all_goals
      go_enter Try.func67, Try.ntmps67
      go_wp2_with (first | (go_at_call 133; refine (l30Is_c _ _).mono ?_; rintro e w' ⟨rfl, rfl⟩) | (go_at_call 120; refine (l30Turns_c _ _).mono ?_; rintro e w' ⟨rfl, rfl⟩) | (go_at_call 100; refine (l01In_c _ _ _ _).mono ?_; rintro e w' ⟨rfl, rfl⟩))
      refine bodyPost_ret (v := .tuple #[.agg #[.int .i64 0, .int .i64 0], .int .i64 2]) (by simp [results, Try.results67, go_sem]) rfl ⟨by rw [HR.out]; rfl, (by repeat (first | with_reducible exact Below.refl _ _ | with_reducible apply below_drewN' | with_reducible apply Below.drew | (with_reducible refine Below.alloc ?_ (by first | omega | (simp; omega) | simp) _) | (with_reducible refine Below.setCell ?_ (by first | omega | (simp; omega) | simp) _) | exact Below.refl _ _))⟩
  case false.false =>
    have HR : Hid (figAtRes angle t = (⟨0, 0⟩, 2)) := by unfold Hid figAtRes; rw [h1, h2]; rfl
    cases h0 : angB angle
    all_goals
      go_enter Try.func67, Try.ntmps67
      go_wp2_with (first | (go_at_call 133; refine (l30Is_c _ _).mono ?_; rintro e w' ⟨rfl, rfl⟩) | (go_at_call 120; refine (l30Turns_c _ _).mono ?_; rintro e w' ⟨rfl, rfl⟩) | (go_at_call 100; refine (l01In_c _ _ _ _).mono ?_; rintro e w' ⟨rfl, rfl⟩))
      refine bodyPost_ret (v := .tuple #[.agg #[.int .i64 0, .int .i64 0], .int .i64 2]) (by simp [results, Try.results67, go_sem]) rfl ⟨by rw [HR.out]; rfl, (by repeat (first | with_reducible exact Below.refl _ _ | with_reducible apply below_drewN' | with_reducible apply Below.drew | (with_reducible refine Below.alloc ?_ (by first | omega | (simp; omega) | simp) _) | (with_reducible refine Below.setCell ?_ (by first | omega | (simp; omega) | simp) _) | exact Below.refl _ _))⟩
  case true.false =>
    have bt := turnsB_bd h1
    obtain ⟨t1, t2⟩ := bt
    have HR : Hid (figAtRes angle t = (⟨0, 0⟩, 2)) := by unfold Hid figAtRes; rw [h1, h2]; rfl
    cases h0 : angB angle
    all_goals
      go_enter Try.func67, Try.ntmps67
      go_wp2_with (first | (go_at_call 133; refine (l30Is_c _ _).mono ?_; rintro e w' ⟨rfl, rfl⟩) | (go_at_call 120; refine (l30Turns_c _ _).mono ?_; rintro e w' ⟨rfl, rfl⟩) | (go_at_call 100; refine (l01In_c _ _ _ _).mono ?_; rintro e w' ⟨rfl, rfl⟩))
      refine bodyPost_ret (v := .tuple #[.agg #[.int .i64 0, .int .i64 0], .int .i64 2]) (by simp [results, Try.results67, go_sem]) rfl ⟨by rw [HR.out]; rfl, (by repeat (first | with_reducible exact Below.refl _ _ | with_reducible apply below_drewN' | with_reducible apply Below.drew | (with_reducible refine Below.alloc ?_ (by first | omega | (simp; omega) | simp) _) | (with_reducible refine Below.setCell ?_ (by first | omega | (simp; omega) | simp) _) | exact Below.refl _ _))⟩
set_option maxRecDepth 100000 in
theorem implFigureAt_c (angle t : Int) (w : World) : Calls Try.prog 66 #[.int .i64 angle, .int .i64 t] w fun e w' => e = .returned (.tuple #[(figAtRes angle t).1.agg, .int .i64 (figAtRes angle t).2]) ∧ Below w.heap.size w w' := by
  cases h1 : inB t 1 20 <;> cases h2 : inB angle 0 (1296000 * t - 1)
  case true.true =>
    have hok := figAt_ok h1 h2
    have h0 : angB angle = true := inB_true.2 (by omega)
    have HR : Hid (figAtRes angle t = (⟨nearD angle t, 0⟩, 0)) := by unfold Hid figAtRes; rw [h1, h2]; rfl
    have HN := fun W => Lib.hid (figureAt_c angle t W hok.1 hok.2)
    obtain ⟨⟨t1, t2⟩, a1, a2⟩ := hok
    generalize nearD angle t = d at *
    go_enter Try.func66, Try.ntmps66
    go_wp2_with (first | (go_at_call 130; refine (isTurns_c _ _).mono ?_; rintro e w' ⟨rfl, rfl⟩) | (go_at_call 113; refine (within_c _ _ _ _).mono ?_; rintro e w' ⟨rfl, rfl⟩) | (go_at_call 91; refine (HN _).out.mono ?_; rintro e w1 ⟨rfl, hb1⟩; have B0 := (Blk.new w 36 #[.int .i64 0, .int .i64 0]).below hb1 (by simp); have z0 := B0.lt; have c0 : w1.cell? ⟨w.heap.size, 0, none⟩ = some (.int .i64 0) := B0.cell 0; have c1 : w1.cell? ⟨w.heap.size, 1, none⟩ = some (.int .i64 0) := B0.cell 1; have f0 := B0.frozen 0; have f1 := B0.frozen 1; have hB := ((Below.refl w.heap.size w).alloc (Nat.le_refl _) (.cells #[.int .i64 0, .int .i64 0] 36)).trans (hb1.mono (by simp))))
    refine bodyPost_ret (v := .tuple #[.agg #[.int .i64 d, .int .i64 0], .int .i64 0]) (by simp [results, Try.results66, go_sem, c0, c1]) rfl ⟨by rw [HR.out]; rfl, (by repeat (first | with_reducible exact hB | with_reducible apply below_drewN' | with_reducible apply Below.drew | (with_reducible refine Below.alloc ?_ (by first | omega | (simp; omega) | simp) _) | (with_reducible refine Below.setCell ?_ (by first | omega | (simp; omega) | simp) _) | exact hB))⟩
  case false.true =>
    have HR : Hid (figAtRes angle t = (⟨0, 0⟩, 2)) := by unfold Hid figAtRes; rw [h1, h2]; rfl
    go_enter Try.func66, Try.ntmps66
    go_wp2_with (first | (go_at_call 130; refine (isTurns_c _ _).mono ?_; rintro e w' ⟨rfl, rfl⟩) | (go_at_call 113; refine (within_c _ _ _ _).mono ?_; rintro e w' ⟨rfl, rfl⟩))
    refine bodyPost_ret (v := .tuple #[.agg #[.int .i64 0, .int .i64 0], .int .i64 2]) (by simp [results, Try.results66, go_sem]) rfl ⟨by rw [HR.out]; rfl, (by repeat (first | with_reducible exact Below.refl _ _ | with_reducible apply below_drewN' | with_reducible apply Below.drew | (with_reducible refine Below.alloc ?_ (by first | omega | (simp; omega) | simp) _) | (with_reducible refine Below.setCell ?_ (by first | omega | (simp; omega) | simp) _) | exact Below.refl _ _))⟩
  case false.false =>
    have HR : Hid (figAtRes angle t = (⟨0, 0⟩, 2)) := by unfold Hid figAtRes; rw [h1, h2]; rfl
    go_enter Try.func66, Try.ntmps66
    go_wp2_with (first | (go_at_call 130; refine (isTurns_c _ _).mono ?_; rintro e w' ⟨rfl, rfl⟩) | (go_at_call 113; refine (within_c _ _ _ _).mono ?_; rintro e w' ⟨rfl, rfl⟩))
    refine bodyPost_ret (v := .tuple #[.agg #[.int .i64 0, .int .i64 0], .int .i64 2]) (by simp [results, Try.results66, go_sem]) rfl ⟨by rw [HR.out]; rfl, (by repeat (first | with_reducible exact Below.refl _ _ | with_reducible apply below_drewN' | with_reducible apply Below.drew | (with_reducible refine Below.alloc ?_ (by first | omega | (simp; omega) | simp) _) | (with_reducible refine Below.setCell ?_ (by first | omega | (simp; omega) | simp) _) | exact Below.refl _ _))⟩
  case true.false =>
    have bt := turnsB_bd h1
    obtain ⟨t1, t2⟩ := bt
    have HR : Hid (figAtRes angle t = (⟨0, 0⟩, 2)) := by unfold Hid figAtRes; rw [h1, h2]; rfl
    go_enter Try.func66, Try.ntmps66
    go_wp2_with (first | (go_at_call 130; refine (isTurns_c _ _).mono ?_; rintro e w' ⟨rfl, rfl⟩) | (go_at_call 113; refine (within_c _ _ _ _).mono ?_; rintro e w' ⟨rfl, rfl⟩))
    refine bodyPost_ret (v := .tuple #[.agg #[.int .i64 0, .int .i64 0], .int .i64 2]) (by simp [results, Try.results66, go_sem]) rfl ⟨by rw [HR.out]; rfl, (by repeat (first | with_reducible exact Below.refl _ _ | with_reducible apply below_drewN' | with_reducible apply Below.drew | (with_reducible refine Below.alloc ?_ (by first | omega | (simp; omega) | simp) _) | (with_reducible refine Below.setCell ?_ (by first | omega | (simp; omega) | simp) _) | exact Below.refl _ _))⟩
end Go.Proofs.Ytcpnmeebbbeakaa
