/- FigureOnStrip, the program's and the reference's; the laws on it and on FigureAt, walked. No condition. -/
import Derived.Test.YtcpnmeebbbeakaaFigLaws
namespace Go.Proofs.Ytcpnmeebbbeakaa
open Go.RowKit
def stripAng (line at_ len : Int) : Int := line * 1296000 + at_ * 1296000 / len
def figStripRes (line at_ t len : Int) : Figure × Int := if inB t 1 20 && inB len 1 100000 && inB line 0 (t - 1) && inB at_ 0 (len - 1) then (⟨nearD (stripAng line at_ len) t, 0⟩, 0) else (⟨0, 0⟩, 2)
theorem stripAng_bd {line at_ t len : Int} (h1 : 1 ≤ t ∧ t ≤ 20) (h2 : 1 ≤ len ∧ len ≤ 100000) (h3 : 0 ≤ line ∧ line ≤ t - 1) (h4 : 0 ≤ at_ ∧ at_ ≤ len - 1) :
    (0 ≤ at_ * 1296000 / len ∧ at_ * 1296000 / len ≤ 1296000) ∧ 0 ≤ stripAng line at_ len ∧ stripAng line at_ len ≤ 25920000 := by
  have e1 : 0 ≤ at_ * 1296000 / len := Int.ediv_nonneg (by omega) (by omega)
  have e2 : at_ * 1296000 / len < 1296000 + 1 := Int.ediv_lt_of_lt_mul (by omega) (by
    have : at_ * 1296000 < (1296000 + 1) * len := by
      have h5 : at_ * 1296000 ≤ (len - 1) * 1296000 := Int.mul_le_mul_of_nonneg_right h4.2 (by omega)
      omega
    exact this)
  unfold stripAng
  omega
set_option maxRecDepth 100000 in
theorem specFigureOnStrip_c (line at_ t len : Int) (w : World) : Calls Try.prog 58 #[.int .i64 line, .int .i64 at_, .int .i64 t, .int .i64 len] w fun e w' => e = .returned (.tuple #[(figStripRes line at_ t len).1.agg, .int .i64 (figStripRes line at_ t len).2]) ∧ Below w.heap.size w w' := by
  cases h1 : inB t 1 20 <;> cases h2 : inB len 1 100000
  case true.true =>
    have b1 := turnsB_bd h1
    have b2 := inB_true.1 h2
    cases h3 : inB line 0 (t - 1) <;> cases h4 : inB at_ 0 (len - 1)
    case true.true =>
      have b3 := inB_true.1 h3
      have b4 := inB_true.1 h4
      have bs := stripAng_bd b1 b2 b3 b4
      have HR : Hid (figStripRes line at_ t len = (⟨nearD (stripAng line at_ len) t, 0⟩, 0)) := by unfold Hid figStripRes; rw [h1, h2, h3, h4]; rfl
      have HN := fun W => Lib.hid (l30At_c (stripAng line at_ len) t W b1 bs.2)
      generalize nearD (stripAng line at_ len) t = d at *
      unfold stripAng at *
      obtain ⟨t1, t2⟩ := b1
      obtain ⟨l1, l2⟩ := b2
      obtain ⟨p1, p2⟩ := b3
      obtain ⟨q1, q2⟩ := b4
      obtain ⟨⟨s1, s2⟩, s3, s4⟩ := bs
      have hl0 : ¬ len = 0 := by omega
      go_enter Try.func58, Try.ntmps58
      go_wp2_with (first | (go_at_call 120; refine (l30Turns_c _ _).mono ?_; rintro e w' ⟨rfl, rfl⟩) | (go_at_call 128; refine (l05Length_c _ _).mono ?_; rintro e w' ⟨rfl, rfl⟩) | (go_at_call 100; refine (l01In_c _ _ _ _).mono ?_; rintro e w' ⟨rfl, rfl⟩) | (go_at_call 86; refine (HN _).out.mono ?_; rintro e w1 ⟨rfl, hb1⟩; have B0 := (Blk.new w 36 #[.int .i64 0, .int .i64 0]).below hb1 (by simp); have z0 := B0.lt; have c0 : w1.cell? ⟨w.heap.size, 0, none⟩ = some (.int .i64 0) := B0.cell 0; have c1 : w1.cell? ⟨w.heap.size, 1, none⟩ = some (.int .i64 0) := B0.cell 1; have f0 := B0.frozen 0; have f1 := B0.frozen 1; have hB := ((Below.refl w.heap.size w).alloc (Nat.le_refl _) (.cells #[.int .i64 0, .int .i64 0] 36)).trans (hb1.mono (by simp))))
      refine bodyPost_ret (v := .tuple #[.agg #[.int .i64 d, .int .i64 0], .int .i64 0]) (by simp [results, Try.results58, go_sem, c0, c1]) rfl ⟨by rw [HR.out]; rfl, (by repeat (first | with_reducible exact hB | with_reducible apply below_drewN' | with_reducible apply Below.drew | (with_reducible refine Below.alloc ?_ (by first | omega | (simp; omega) | simp) _) | (with_reducible refine Below.setCell ?_ (by first | omega | (simp; omega) | simp) _) | exact hB))⟩
    all_goals
      have HR : Hid (figStripRes line at_ t len = (⟨0, 0⟩, 2)) := by unfold Hid figStripRes; rw [h1, h2, h3, h4]; rfl
      obtain ⟨t1, t2⟩ := b1
      obtain ⟨l1, l2⟩ := b2
      go_enter Try.func58, Try.ntmps58
      go_wp2_with (first | (go_at_call 120; refine (l30Turns_c _ _).mono ?_; rintro e w' ⟨rfl, rfl⟩) | (go_at_call 128; refine (l05Length_c _ _).mono ?_; rintro e w' ⟨rfl, rfl⟩) | (go_at_call 100; refine (l01In_c _ _ _ _).mono ?_; rintro e w' ⟨rfl, rfl⟩))
      refine bodyPost_ret (v := .tuple #[.agg #[.int .i64 0, .int .i64 0], .int .i64 2]) (by simp [results, Try.results58, go_sem]) rfl ⟨by rw [HR.out]; rfl, (by repeat (first | with_reducible exact Below.refl _ _ | with_reducible apply below_drewN' | with_reducible apply Below.drew | (with_reducible refine Below.alloc ?_ (by first | omega | (simp; omega) | simp) _) | (with_reducible refine Below.setCell ?_ (by first | omega | (simp; omega) | simp) _) | exact Below.refl _ _))⟩
  all_goals
    have HR : Hid (figStripRes line at_ t len = (⟨0, 0⟩, 2)) := by unfold Hid figStripRes; rw [h1, h2]; rfl
    go_enter Try.func58, Try.ntmps58
    go_wp2_with (first | (go_at_call 120; refine (l30Turns_c _ _).mono ?_; rintro e w' ⟨rfl, rfl⟩) | (go_at_call 128; refine (l05Length_c _ _).mono ?_; rintro e w' ⟨rfl, rfl⟩) | (go_at_call 100; refine (l01In_c _ _ _ _).mono ?_; rintro e w' ⟨rfl, rfl⟩))
    refine bodyPost_ret (v := .tuple #[.agg #[.int .i64 0, .int .i64 0], .int .i64 2]) (by simp [results, Try.results58, go_sem]) rfl ⟨by rw [HR.out]; rfl, (by repeat (first | with_reducible exact Below.refl _ _ | with_reducible apply below_drewN' | with_reducible apply Below.drew | (with_reducible refine Below.alloc ?_ (by first | omega | (simp; omega) | simp) _) | (with_reducible refine Below.setCell ?_ (by first | omega | (simp; omega) | simp) _) | exact Below.refl _ _))⟩
set_option maxRecDepth 100000 in
theorem implFigureOnStrip_c (line at_ t len : Int) (w : World) : Calls Try.prog 57 #[.int .i64 line, .int .i64 at_, .int .i64 t, .int .i64 len] w fun e w' => e = .returned (.tuple #[(figStripRes line at_ t len).1.agg, .int .i64 (figStripRes line at_ t len).2]) ∧ Below w.heap.size w w' := by
  cases h1 : inB t 1 20 <;> cases h2 : inB len 1 100000
  case true.true =>
    have b1 := turnsB_bd h1
    have b2 := inB_true.1 h2
    cases h3 : inB line 0 (t - 1) <;> cases h4 : inB at_ 0 (len - 1)
    case true.true =>
      have b3 := inB_true.1 h3
      have b4 := inB_true.1 h4
      have bs := stripAng_bd b1 b2 b3 b4
      have HR : Hid (figStripRes line at_ t len = (⟨nearD (stripAng line at_ len) t, 0⟩, 0)) := by unfold Hid figStripRes; rw [h1, h2, h3, h4]; rfl
      have HN := fun W => Lib.hid (figureAt_c (stripAng line at_ len) t W b1 bs.2)
      generalize nearD (stripAng line at_ len) t = d at *
      unfold stripAng at *
      obtain ⟨t1, t2⟩ := b1
      obtain ⟨l1, l2⟩ := b2
      obtain ⟨p1, p2⟩ := b3
      obtain ⟨q1, q2⟩ := b4
      obtain ⟨⟨s1, s2⟩, s3, s4⟩ := bs
      have hl0 : ¬ len = 0 := by omega
      go_enter Try.func57, Try.ntmps57
      go_wp2_with (first | (go_at_call 130; refine (isTurns_c _ _).mono ?_; rintro e w' ⟨rfl, rfl⟩) | (go_at_call 125; refine (isLength_c _ _).mono ?_; rintro e w' ⟨rfl, rfl⟩) | (go_at_call 113; refine (within_c _ _ _ _).mono ?_; rintro e w' ⟨rfl, rfl⟩) | (go_at_call 126; refine (down_c _ _ _ (by omega) (by omega)).mono ?_; rintro e w' ⟨rfl, rfl⟩) | (go_at_call 91; refine (HN _).out.mono ?_; rintro e w1 ⟨rfl, hb1⟩; have B0 := (Blk.new w 36 #[.int .i64 0, .int .i64 0]).below hb1 (by simp); have z0 := B0.lt; have c0 : w1.cell? ⟨w.heap.size, 0, none⟩ = some (.int .i64 0) := B0.cell 0; have c1 : w1.cell? ⟨w.heap.size, 1, none⟩ = some (.int .i64 0) := B0.cell 1; have f0 := B0.frozen 0; have f1 := B0.frozen 1; have hB := ((Below.refl w.heap.size w).alloc (Nat.le_refl _) (.cells #[.int .i64 0, .int .i64 0] 36)).trans (hb1.mono (by simp))))
      refine bodyPost_ret (v := .tuple #[.agg #[.int .i64 d, .int .i64 0], .int .i64 0]) (by simp [results, Try.results57, go_sem, c0, c1]) rfl ⟨by rw [HR.out]; rfl, (by repeat (first | with_reducible exact hB | with_reducible apply below_drewN' | with_reducible apply Below.drew | (with_reducible refine Below.alloc ?_ (by first | omega | (simp; omega) | simp) _) | (with_reducible refine Below.setCell ?_ (by first | omega | (simp; omega) | simp) _) | exact hB))⟩
    all_goals
      have HR : Hid (figStripRes line at_ t len = (⟨0, 0⟩, 2)) := by unfold Hid figStripRes; rw [h1, h2, h3, h4]; rfl
      obtain ⟨t1, t2⟩ := b1
      obtain ⟨l1, l2⟩ := b2
      go_enter Try.func57, Try.ntmps57
      go_wp2_with (first | (go_at_call 130; refine (isTurns_c _ _).mono ?_; rintro e w' ⟨rfl, rfl⟩) | (go_at_call 125; refine (isLength_c _ _).mono ?_; rintro e w' ⟨rfl, rfl⟩) | (go_at_call 113; refine (within_c _ _ _ _).mono ?_; rintro e w' ⟨rfl, rfl⟩) | (go_at_call 126; refine (down_c _ _ _ (by omega) (by omega)).mono ?_; rintro e w' ⟨rfl, rfl⟩))
      refine bodyPost_ret (v := .tuple #[.agg #[.int .i64 0, .int .i64 0], .int .i64 2]) (by simp [results, Try.results57, go_sem]) rfl ⟨by rw [HR.out]; rfl, (by repeat (first | with_reducible exact Below.refl _ _ | with_reducible apply below_drewN' | with_reducible apply Below.drew | (with_reducible refine Below.alloc ?_ (by first | omega | (simp; omega) | simp) _) | (with_reducible refine Below.setCell ?_ (by first | omega | (simp; omega) | simp) _) | exact Below.refl _ _))⟩
  all_goals
    have HR : Hid (figStripRes line at_ t len = (⟨0, 0⟩, 2)) := by unfold Hid figStripRes; rw [h1, h2]; rfl
    go_enter Try.func57, Try.ntmps57
    go_wp2_with (first | (go_at_call 130; refine (isTurns_c _ _).mono ?_; rintro e w' ⟨rfl, rfl⟩) | (go_at_call 125; refine (isLength_c _ _).mono ?_; rintro e w' ⟨rfl, rfl⟩) | (go_at_call 113; refine (within_c _ _ _ _).mono ?_; rintro e w' ⟨rfl, rfl⟩) | (go_at_call 126; refine (down_c _ _ _ (by omega) (by omega)).mono ?_; rintro e w' ⟨rfl, rfl⟩))
    refine bodyPost_ret (v := .tuple #[.agg #[.int .i64 0, .int .i64 0], .int .i64 2]) (by simp [results, Try.results57, go_sem]) rfl ⟨by rw [HR.out]; rfl, (by repeat (first | with_reducible exact Below.refl _ _ | with_reducible apply below_drewN' | with_reducible apply Below.drew | (with_reducible refine Below.alloc ?_ (by first | omega | (simp; omega) | simp) _) | (with_reducible refine Below.setCell ?_ (by first | omega | (simp; omega) | simp) _) | exact Below.refl _ _))⟩
end Go.Proofs.Ytcpnmeebbbeakaa
