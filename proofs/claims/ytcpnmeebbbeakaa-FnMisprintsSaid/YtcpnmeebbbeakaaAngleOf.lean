/- AngleOf and StripPlace, the program's and the reference's. No condition. -/
import Derived.Test.YtcpnmeebbbeakaaAngle
namespace Go.Proofs.Ytcpnmeebbbeakaa
open Go.RowKit
def turnsB (t : Int) : Bool := inB t 1 20
theorem turnsB_bd {t : Int} (h : inB t 1 20 = true) : 1 ≤ t ∧ t ≤ 20 := inB_true.1 h
def angleRes (f : Figure) (t : Int) : Int × Int := if figOK f then (if inB t 1 20 then (angleRaw f.digits t, 0) else (0, 2)) else (0, 1)
/-- one figure in a slice of the call's own -/
theorem one_fig {w : World} {g : Nat} {t : TypeId} {f : Figure} (h : Blk w g t #[.int .i64 f.digits, .int .i64 f.tens]) (hg : g < w.heap.size) : Sl w w.heap.size 2 (some ⟨g, 0, none⟩) ([f].map Figure.cells) :=
  (Sl.of_blk h _ rfl (by simp [Figure.cells])).more hg
theorem turnsCode1 (t : Int) (f : Figure) : turnsCode t [f] = if figOK f then (if inB t 1 20 then 0 else 2) else 1 := by
  unfold turnsCode; simp
set_option maxRecDepth 100000 in
theorem specAngleOf_c (f : Figure) (t : Int) (w : World) : Calls Try.prog 51 #[f.agg, .int .i64 t] w fun e w' => e = .returned (.tuple #[.int .i64 (angleRes f t).1, .int .i64 (angleRes f t).2]) ∧ Below w.heap.size w w' := by
  have hI := fun W => specIsFigure_c f W
  cases h1 : figOK f
  · have HR : Hid (angleRes f t = (0, 1)) := by unfold Hid angleRes; rw [h1]; rfl
    obtain ⟨d, n⟩ := f
    rw [h1] at hI
    have HI := fun W => Lib.hid (hI W); clear hI h1
    unfold Figure.agg at *
    go_enter Try.func51, Try.ntmps51
    go_wp2_with (go_at_call 119; refine (HI _).out.mono ?_; rintro e w1 ⟨rfl, hb1⟩)
    go_ret2
    exact ⟨by rw [HR.out]; rfl, ((Below.refl _ _).alloc (Nat.le_refl _) _).trans (hb1.mono (by simp))⟩
  cases h2 : inB t 1 20
  · have HR : Hid (angleRes f t = (0, 2)) := by unfold Hid angleRes; rw [h1, h2]; rfl
    obtain ⟨d, n⟩ := f
    rw [h1] at hI
    have HI := fun W => Lib.hid (hI W); clear hI h1
    unfold Figure.agg at *
    go_enter Try.func51, Try.ntmps51
    go_wp2_with (first | (go_at_call 119; refine (HI _).out.mono ?_; rintro e w1 ⟨rfl, hb1⟩) | (go_at_call 120; refine (l30Turns_c _ _).mono ?_; rintro e w' ⟨rfl, rfl⟩))
    go_ret2
    exact ⟨by rw [HR.out]; rfl, ((Below.refl _ _).alloc (Nat.le_refl _) _).trans (hb1.mono (by simp))⟩
  · have HR : Hid (angleRes f t = (angleRaw f.digits t, 0)) := by unfold Hid angleRes; rw [h1, h2]; rfl
    have bt := turnsB_bd h2
    have bf := (fig_bd h1).1
    obtain ⟨d, n⟩ := f
    rw [h1] at hI
    have HI := fun W => Lib.hid (hI W); clear hI h1
    unfold Figure.agg at *
    simp only at bf
    go_enter Try.func51, Try.ntmps51
    go_wp2_with (first | (go_at_call 119; refine (HI _).out.mono ?_; rintro e w1 ⟨rfl, hb1⟩; have B0 := (Blk.new w 36 #[.int .i64 d, .int .i64 n]).below hb1 (by simp); have c0 : w1.cell? ⟨w.heap.size, 0, none⟩ = some (.int .i64 d) := B0.cell 0) | (go_at_call 120; refine (l30Turns_c _ _).mono ?_; rintro e w' ⟨rfl, rfl⟩) | (go_at_call 88; refine (l30Angle_c _ _ _ bf bt).mono ?_; rintro e w2 ⟨rfl, hb2⟩))
    go_ret2
    exact ⟨by rw [HR.out]; rfl, (((Below.refl _ _).alloc (Nat.le_refl _) _).trans (hb1.mono (by simp))).trans (hb2.mono (by have := hb1.size; simp at this; omega))⟩
set_option maxRecDepth 100000 in
theorem implAngleOf_c (f : Figure) (t : Int) (w : World) : Calls Try.prog 50 #[f.agg, .int .i64 t] w fun e w' => e = .returned (.tuple #[.int .i64 (angleRes f t).1, .int .i64 (angleRes f t).2]) ∧ Below w.heap.size w w' := by
  have hcode := turnsCode1 t f
  by_cases h0 : turnsCode t [f] = 0
  · have h12 : figOK f = true ∧ inB t 1 20 = true := by
      rw [hcode] at h0
      cases h1 : figOK f <;> cases h2 : inB t 1 20 <;> simp [h1, h2] at h0 ⊢
    obtain ⟨h1, h2⟩ := h12
    have HR : Hid (angleRes f t = (angleRaw f.digits t, 0)) := by unfold Hid angleRes; rw [h1, h2]; rfl
    have bt := turnsB_bd h2
    have bf := (fig_bd h1).1
    clear hcode h1 h2
    have hC := fun W A c hs => checkTurns_c t A c [f] W (by simp) hs
    rw [h0] at hC
    clear h0
    have HC := fun W A c hs => Lib.hid (hC W A c hs); clear hC
    have HA := fun W => Lib.hid (angleOf_c f t W bf bt)
    have hO := fun (W : World) (g : Nat) (h : Blk W g 36 #[.int .i64 f.digits, .int .i64 f.tens]) => one_fig h h.lt
    obtain ⟨d, n⟩ := f
    unfold Figure.agg at *
    simp only at bf hO HR
    go_enter Try.func50, Try.ntmps50
    go_wp2_with (first | (go_at_call 89; refine (HC _ _ _ (hO _ _ (Blk.new' _ _ _ (by simp)))).out.mono ?_; rintro e w1 ⟨rfl, hb1⟩; have B0 := ((Blk.new w 36 #[.int .i64 d, .int .i64 n]).alloc _).below hb1 (by simp; omega); have c0 : w1.cell? ⟨w.heap.size, 0, none⟩ = some (.int .i64 d) := B0.cell 0; have c1 : w1.cell? ⟨w.heap.size, 1, none⟩ = some (.int .i64 n) := B0.cell 1) | (go_at_call 90; refine (HA _).out.mono ?_; rintro e w2 ⟨rfl, hb2⟩))
    go_ret2
    have hb : Below w.heap.size w w1 := (((Below.refl _ _).alloc (Nat.le_refl _) _).alloc (by simp) _).trans (hb1.mono (by simp; omega))
    exact ⟨by rw [HR.out]; rfl, hb.trans (hb2.mono hb.size)⟩
  · have HR : Hid (angleRes f t = (0, turnsCode t [f])) := by
      unfold Hid angleRes
      rw [hcode] at h0 ⊢
      cases h1 : figOK f <;> cases h2 : inB t 1 20 <;> simp [h1, h2] at h0 ⊢
    have hne : (turnsCode t [f] != 0) = true := by simp [h0]
    have hC := fun W A c hs => checkTurns_c t A c [f] W (by simp) hs
    generalize turnsCode t [f] = tc at *
    clear h0 hcode
    have HC := fun W A c hs => Lib.hid (hC W A c hs); clear hC
    have hO := fun (W : World) (g : Nat) (h : Blk W g 36 #[.int .i64 f.digits, .int .i64 f.tens]) => one_fig h h.lt
    obtain ⟨d, n⟩ := f
    unfold Figure.agg at *
    simp only at hO HR
    go_enter Try.func50, Try.ntmps50
    go_wp2_with (first | (go_at_call 89; refine (HC _ _ _ (hO _ _ (Blk.new' _ _ _ (by simp)))).out.mono ?_; rintro e w1 ⟨rfl, hb1⟩))
    go_ret2
    have hb : Below w.heap.size w w1 := (((Below.refl _ _).alloc (Nat.le_refl _) _).alloc (by simp) _).trans (hb1.mono (by simp; omega))
    exact ⟨by rw [HR.out]; rfl, hb⟩

def stripRes (f : Figure) (t len : Int) : Int × Int × Int :=
  if figOK f then (if inB t 1 20 && inB len 1 100000 then (angleRaw f.digits t / 1296000, angleRaw f.digits t % 1296000 * len / 1296000, 0) else (0, 0, 2)) else (0, 0, 1)
theorem mod_mul_bd {x len : Int} (hl : 1 ≤ len ∧ len ≤ 100000) : 0 ≤ x % 1296000 * len ∧ x % 1296000 * len ≤ 129600000000 := by
  have h1 : 0 ≤ x % 1296000 * len := Int.mul_nonneg (by omega) (by omega)
  have h2 : x % 1296000 * len ≤ 1296000 * 100000 := Int.mul_le_mul (by omega) hl.2 (by omega) (by omega)
  omega
set_option maxRecDepth 100000 in
theorem specStripPlace_c (f : Figure) (t len : Int) (w : World) : Calls Try.prog 55 #[f.agg, .int .i64 t, .int .i64 len] w fun e w' => e = .returned (.tuple #[.int .i64 (stripRes f t len).1, .int .i64 (stripRes f t len).2.1, .int .i64 (stripRes f t len).2.2]) ∧ Below w.heap.size w w' := by
  have hI := fun W => specIsFigure_c f W
  cases h1 : figOK f
  · have HR : Hid (stripRes f t len = (0, 0, 1)) := by unfold Hid stripRes; rw [h1]; rfl
    obtain ⟨d, n⟩ := f
    rw [h1] at hI
    have HI := fun W => Lib.hid (hI W); clear hI h1
    unfold Figure.agg at *
    go_enter Try.func55, Try.ntmps55
    go_wp2_with (go_at_call 119; refine (HI _).out.mono ?_; rintro e w1 ⟨rfl, hb1⟩)
    go_ret3
    exact ⟨by rw [HR.out]; rfl, ((Below.refl _ _).alloc (Nat.le_refl _) _).trans (hb1.mono (by simp))⟩
  cases h2 : inB t 1 20 <;> cases h3 : inB len 1 100000
  case true.true =>
    have HR : Hid (stripRes f t len = (angleRaw f.digits t / 1296000, angleRaw f.digits t % 1296000 * len / 1296000, 0)) := by unfold Hid stripRes; rw [h1, h2, h3]; rfl
    have bt := turnsB_bd h2
    have bl := inB_true.1 h3
    have bf := (fig_bd h1).1
    have HA := fun W => Lib.hid (l30Angle_c f.digits t W bf bt)
    have ba := angleRaw_bd bf bt
    have hmb := mod_mul_bd (x := angleRaw f.digits t) bl
    obtain ⟨d, n⟩ := f
    rw [h1] at hI
    have HI := fun W => Lib.hid (hI W); clear hI h1
    unfold Figure.agg at *
    simp only at bf HA ba hmb HR
    generalize angleRaw d t = ang at *
    obtain ⟨bt1, bt2⟩ := bt
    obtain ⟨bl1, bl2⟩ := bl
    obtain ⟨ba1, ba2⟩ := ba
    obtain ⟨hm1, hm2⟩ := hmb
    have ba3 : ang ≤ 25920000 := by omega
    clear ba2
    go_enter Try.func55, Try.ntmps55
    go_wp2_with (first | (go_at_call 119; refine (HI _).out.mono ?_; rintro e w1 ⟨rfl, hb1⟩; have B0 := (Blk.new w 36 #[.int .i64 d, .int .i64 n]).below hb1 (by simp); have c0 : w1.cell? ⟨w.heap.size, 0, none⟩ = some (.int .i64 d) := B0.cell 0) | (go_at_call 120; refine (l30Turns_c _ _).mono ?_; rintro e w' ⟨rfl, rfl⟩) | (go_at_call 128; refine (l05Length_c _ _).mono ?_; rintro e w' ⟨rfl, rfl⟩) | (go_at_call 88; refine (HA _).out.mono ?_; rintro e w2 ⟨rfl, hb2⟩))
    go_ret3
    exact ⟨by rw [HR.out]; rfl, (((Below.refl _ _).alloc (Nat.le_refl _) _).trans (hb1.mono (by simp))).trans (hb2.mono (by have := hb1.size; simp at this; omega))⟩
  all_goals
    have HR : Hid (stripRes f t len = (0, 0, 2)) := by unfold Hid stripRes; rw [h1, h2]; first | rfl | (rw [h3]; rfl)
    obtain ⟨d, n⟩ := f
    rw [h1] at hI
    have HI := fun W => Lib.hid (hI W); clear hI h1
    unfold Figure.agg at *
    go_enter Try.func55, Try.ntmps55
    go_wp2_with (first | (go_at_call 119; refine (HI _).out.mono ?_; rintro e w1 ⟨rfl, hb1⟩) | (go_at_call 120; refine (l30Turns_c _ _).mono ?_; rintro e w' ⟨rfl, rfl⟩) | (go_at_call 128; refine (l05Length_c _ _).mono ?_; rintro e w' ⟨rfl, rfl⟩))
    go_ret3
    exact ⟨by rw [HR.out]; rfl, ((Below.refl _ _).alloc (Nat.le_refl _) _).trans (hb1.mono (by simp))⟩
set_option maxRecDepth 100000 in
theorem implStripPlace_c (f : Figure) (t len : Int) (w : World) : Calls Try.prog 54 #[f.agg, .int .i64 t, .int .i64 len] w fun e w' => e = .returned (.tuple #[.int .i64 (stripRes f t len).1, .int .i64 (stripRes f t len).2.1, .int .i64 (stripRes f t len).2.2]) ∧ Below w.heap.size w w' := by
  have hcode := turnsCode1 t f
  have hC := fun W A c hs => checkTurns_c t A c [f] W (by simp) hs
  have hO := fun (W : World) (g : Nat) (h : Blk W g 36 #[.int .i64 f.digits, .int .i64 f.tens]) => one_fig h h.lt
  by_cases h0 : turnsCode t [f] = 0
  · have h12 : figOK f = true ∧ inB t 1 20 = true := by
      rw [hcode] at h0
      cases h1 : figOK f <;> cases h2 : inB t 1 20 <;> simp [h1, h2] at h0 ⊢
    obtain ⟨h1, h2⟩ := h12
    rw [h0] at hC
    clear h0 hcode
    have HC := fun W A c hs => Lib.hid (hC W A c hs); clear hC
    have bt := turnsB_bd h2
    have bf := (fig_bd h1).1
    have HA := fun W => Lib.hid (angleOf_c f t W bf bt)
    have ba := angleRaw_bd bf bt
    cases h3 : inB len 1 100000
    · have HR : Hid (stripRes f t len = (0, 0, 2)) := by unfold Hid stripRes; rw [h1, h2, h3]; rfl
      obtain ⟨d, n⟩ := f
      unfold Figure.agg at *
      simp only at hO
      clear h1 h2
      go_enter Try.func54, Try.ntmps54
      go_wp2_with (first | (go_at_call 89; refine (HC _ _ _ (hO _ _ (Blk.new' _ _ _ (by simp)))).out.mono ?_; rintro e w1 ⟨rfl, hb1⟩) | (go_at_call 125; refine (isLength_c _ _).mono ?_; rintro e w' ⟨rfl, rfl⟩))
      go_ret3
      have hb : Below w.heap.size w w1 := (((Below.refl _ _).alloc (Nat.le_refl _) _).alloc (by simp) _).trans (hb1.mono (by simp; omega))
      exact ⟨by rw [HR.out]; rfl, hb⟩
    · have HR : Hid (stripRes f t len = (angleRaw f.digits t / 1296000, angleRaw f.digits t % 1296000 * len / 1296000, 0)) := by unfold Hid stripRes; rw [h1, h2, h3]; rfl
      have bl := inB_true.1 h3
      have hmb := mod_mul_bd (x := angleRaw f.digits t) bl
      obtain ⟨d, n⟩ := f
      unfold Figure.agg at *
      simp only at bf hO HA ba hmb HR
      generalize angleRaw d t = ang at *
      obtain ⟨bt1, bt2⟩ := bt
      obtain ⟨bl1, bl2⟩ := bl
      obtain ⟨ba1, ba2⟩ := ba
      obtain ⟨hm1, hm2⟩ := hmb
      have ba3 : ang ≤ 25920000 := by omega
      clear ba2 h1 h2
      go_enter Try.func54, Try.ntmps54
      go_wp2_with (first | (go_at_call 89; refine (HC _ _ _ (hO _ _ (Blk.new' _ _ _ (by simp)))).out.mono ?_; rintro e w1 ⟨rfl, hb1⟩; have B0 := ((Blk.new w 36 #[.int .i64 d, .int .i64 n]).alloc _).below hb1 (by simp; omega); have c0 : w1.cell? ⟨w.heap.size, 0, none⟩ = some (.int .i64 d) := B0.cell 0; have c1 : w1.cell? ⟨w.heap.size, 1, none⟩ = some (.int .i64 n) := B0.cell 1) | (go_at_call 125; refine (isLength_c _ _).mono ?_; rintro e w' ⟨rfl, rfl⟩) | (go_at_call 90; refine (HA _).out.mono ?_; rintro e w2 ⟨rfl, hb2⟩) | (go_at_call 126; refine (down_c _ _ _ (by omega) (by omega)).mono ?_; rintro e w' ⟨rfl, rfl⟩) | (go_at_call 127; refine (modulo_c _ _ _ (by omega) (by omega)).mono ?_; rintro e w' ⟨rfl, rfl⟩))
      go_ret3
      have hb : Below w.heap.size w w1 := (((Below.refl _ _).alloc (Nat.le_refl _) _).alloc (by simp) _).trans (hb1.mono (by simp; omega))
      exact ⟨by rw [HR.out]; rfl, hb.trans (hb2.mono hb.size)⟩
  · have HR : Hid (stripRes f t len = (0, 0, turnsCode t [f])) := by
      unfold Hid stripRes
      rw [hcode] at h0 ⊢
      cases h1 : figOK f <;> cases h2 : inB t 1 20 <;> simp [h1, h2] at h0 ⊢
    have hne : (turnsCode t [f] != 0) = true := by simp [h0]
    generalize turnsCode t [f] = tc at *
    clear h0 hcode
    have HC := fun W A c hs => Lib.hid (hC W A c hs); clear hC
    obtain ⟨d, n⟩ := f
    unfold Figure.agg at *
    simp only at hO HR
    go_enter Try.func54, Try.ntmps54
    go_wp2_with (first | (go_at_call 89; refine (HC _ _ _ (hO _ _ (Blk.new' _ _ _ (by simp)))).out.mono ?_; rintro e w1 ⟨rfl, hb1⟩))
    go_ret3
    have hb : Below w.heap.size w w1 := (((Below.refl _ _).alloc (Nat.le_refl _) _).alloc (by simp) _).trans (hb1.mono (by simp; omega))
    exact ⟨by rw [HR.out]; rfl, hb⟩
end Go.Proofs.Ytcpnmeebbbeakaa
