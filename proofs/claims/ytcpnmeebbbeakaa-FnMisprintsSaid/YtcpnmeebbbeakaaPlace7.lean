/- IsMisprint: both sides and the law, walked. No condition. -/
import Derived.Test.YtcpnmeebbbeakaaPlace6
namespace Go.Proofs.Ytcpnmeebbbeakaa
open Go.RowKit
def misB (s n m p tol : Int) : Bool := decide (tol < max (away s n m p) (-(away s n m p)))
def imRes (s n : Int) (t : Tick) (tol : Int) : Bool × Int := if printCode s n [t] tol = 0 then (misB s n t.mark t.place tol, 0) else (false, printCode s n [t] tol)
theorem im_ok {s n tol : Int} {t : Tick} (h : printCode s n [t] tol = 0) : (0 ≤ s ∧ s ≤ 5) ∧ (1 ≤ n ∧ n ≤ 100000) ∧ (0 ≤ tol ∧ tol ≤ 200) ∧ (1000 ≤ t.mark ∧ t.mark ≤ 9999) ∧ (0 ≤ t.place ∧ t.place ≤ 100000) := by
  obtain ⟨h1, h2, h3, h4⟩ := print_ok h
  have h5 : tickOK t = true := by simpa using h4
  exact ⟨h1, h2, h3, (tick_bd h5).1, (tick_bd h5).2⟩
theorem away_bd (s n m p : Int) (hm : 1000 ≤ m ∧ m ≤ 9999) (hn : 1 ≤ n ∧ n ≤ 100000) (ha : 0 ≤ p ∧ p ≤ 100000) : -2199023255552 ≤ away s n m p ∧ away s n m p ≤ 2199023255552 := by
  obtain ⟨⟨p1, p2⟩, p3, p4⟩ := plOf_bd s m n hm hn
  unfold away
  split
  · omega
  · split <;> omega
set_option maxRecDepth 100000 in
theorem l29Is_c (s n m p tol : Int) (w : World) (hs : 0 ≤ s ∧ s ≤ 5) (hm : 1000 ≤ m ∧ m ≤ 9999) (hn : 1 ≤ n ∧ n ≤ 100000) (ha : 0 ≤ p ∧ p ≤ 100000) :
    Calls Try.prog 96 #[.int .i64 s, .int .i64 n, .int .i64 m, .int .i64 p, .int .i64 tol] w fun e w' => e = .returned (.bool (misB s n m p tol)) ∧ Below w.heap.size w w' := by
  have HP := fun W => Lib.hid (l29Away_c s n m p W hs hm hn ha)
  have hb := away_bd s n m p hm hn ha
  have HR : Hid (misB s n m p tol = decide (tol < max (away s n m p) (-(away s n m p)))) := rfl
  generalize misB s n m p tol = r at *
  generalize away s n m p = aw at *
  obtain ⟨D, hD⟩ : ∃ D, D = max aw (-aw) := ⟨_, rfl⟩
  have HD : ∀ W, Hid (Calls Try.prog 148 #[.int .i64 aw] W fun e w' => e = .returned (.int .i64 D) ∧ W = w') := fun W => by
    have := l01Abs_c aw W (by omega)
    rw [show max aw (-aw) = D from by omega] at this
    exact this
  rw [← hD] at HR
  clear hD hs hm hn ha hb
  go_enter Try.func96, Try.ntmps96
  go_wp2_with (first | (go_at_call 93; refine (HP _).out.mono ?_; rintro e w1 ⟨rfl, hb1⟩) | (go_at_call 148; refine (HD _).out.mono ?_; rintro e w2 ⟨rfl, rfl⟩))
  go_ret
  have hz := hb1.size
  exact ⟨by rw [HR.out]; rfl, hb1⟩
set_option maxRecDepth 100000 in
theorem isMisprint_c (s n : Int) (t : Tick) (tol : Int) (w : World) (hs : 0 ≤ s ∧ s ≤ 5) (hm : 1000 ≤ t.mark ∧ t.mark ≤ 9999) (hn : 1 ≤ n ∧ n ≤ 100000) (ha : 0 ≤ t.place ∧ t.place ≤ 100000) :
    Calls Try.prog 97 #[.int .i64 s, .int .i64 n, t.agg, .int .i64 tol] w fun e w' => e = .returned (.bool (misB s n t.mark t.place tol)) ∧ Below w.heap.size w w' := by
  have HP := fun W => Lib.hid (placeDifference_c s n t.mark t.place W hs hm hn ha)
  have hb := away_bd s n t.mark t.place hm hn ha
  have HR : Hid (misB s n t.mark t.place tol = decide (tol < max (away s n t.mark t.place) (-(away s n t.mark t.place)))) := rfl
  generalize misB s n t.mark t.place tol = r at *
  generalize away s n t.mark t.place = aw at *
  obtain ⟨D, hD⟩ : ∃ D, D = max aw (-aw) := ⟨_, rfl⟩
  have HD : ∀ W, Hid (Calls Try.prog 154 #[.int .i64 aw, .int .i64 0] W fun e w' => e = .returned (.int .i64 D) ∧ W = w') := fun W => by
    have := distance_c aw 0 W (by omega) (by omega)
    rw [show max (aw - 0) (0 - aw) = D from by omega] at this
    exact this
  rw [← hD] at HR
  clear hD hs hm hn ha hb
  obtain ⟨m, p, h⟩ := t
  unfold Tick.agg
  simp only at *
  go_enter Try.func97, Try.ntmps97
  go_wp2_with (first | (go_at_call 95; refine (HP _).out.mono ?_; rintro e w1 ⟨rfl, hb1⟩) | (go_at_call 154; refine (HD _).out.mono ?_; rintro e w2 ⟨rfl, rfl⟩))
  go_ret
  have hz := hb1.size
  exact ⟨by rw [HR.out]; rfl, ((Below.refl _ _).alloc (Nat.le_refl _) _).trans (hb1.mono (by simp))⟩
set_option maxRecDepth 100000 in
theorem specIsMisprint_c (s n tol : Int) (t : Tick) (w : World) : Calls Try.prog 33 #[.int .i64 s, .int .i64 n, t.agg, .int .i64 tol] w fun e w' => e = .returned (.tuple #[.bool (imRes s n t tol).1, .int .i64 (imRes s n t tol).2]) ∧ Below w.heap.size w w' := by
  have hC := fun W A c hs => l29Code_c s n A c [t] tol W (by simp) hs
  have hO := fun (W : World) (g : Nat) (h : Blk W g 46 #[.int .i64 t.mark, .int .i64 t.place, .int .i64 t.height]) => one_tick h h.lt
  by_cases h0 : printCode s n [t] tol = 0
  · obtain ⟨hs, hn, ht, hm, hp⟩ := im_ok h0
    have HR : Hid (imRes s n t tol = (misB s n t.mark t.place tol, 0)) := by unfold Hid imRes; rw [if_pos h0]
    have HW := fun W => Lib.hid (l29Is_c s n t.mark t.place tol W hs hm hn hp)
    rw [h0] at hC
    clear h0 hs hn hm hp ht
    have HC := fun W A c hs => Lib.hid (hC W A c hs); clear hC
    generalize misB s n t.mark t.place tol = aw at *
    obtain ⟨m, p, h⟩ := t
    unfold Tick.agg at *
    simp only at *
    go_enter Try.func33, Try.ntmps33
    go_wp2_with (first | (go_at_call 92; refine (HC _ _ _ (hO _ _ (Blk.new' _ _ _ (by simp)))).out.mono ?_; rintro e w1 ⟨rfl, hb1⟩; have Bx := ((Blk.new w 46 #[.int .i64 m, .int .i64 p, .int .i64 h]).alloc (.cells #[.int .i64 m, .int .i64 p, .int .i64 h] 46)).below hb1 (by first | (simp; done) | (simp; omega)); have x0 : w1.cell? ⟨w.heap.size, 0, none⟩ = some (.int .i64 m) := Bx.cell 0; have x1 : w1.cell? ⟨w.heap.size, 1, none⟩ = some (.int .i64 p) := Bx.cell 1; have x2 : w1.cell? ⟨w.heap.size, 2, none⟩ = some (.int .i64 h) := Bx.cell 2; have hB1 : Below w.heap.size w w1 := ((Below.alloc (Below.alloc (Below.refl _ _) (Nat.le_refl _) _) (by simp) _ : Below w.heap.size w ((w.alloc (.cells #[.int .i64 m, .int .i64 p, .int .i64 h] 46)).alloc (.cells #[.int .i64 m, .int .i64 p, .int .i64 h] 46)))).trans (hb1.mono (by first | (simp; done) | (simp; omega)))) | (go_at_call 96; refine (HW _).out.mono ?_; rintro e w2 ⟨rfl, hb2⟩))
    go_ret2
    exact ⟨by rw [HR.out]; rfl, hB1.trans (hb2.mono hB1.size)⟩
  · have HR : Hid (imRes s n t tol = (false, printCode s n [t] tol)) := by unfold Hid imRes; rw [if_neg h0]
    have HC := fun W A c hs => Lib.hid (hC W A c hs); clear hC
    have hne : (printCode s n [t] tol != 0) = true := by simp [h0]
    generalize printCode s n [t] tol = pc at *
    clear h0
    obtain ⟨m, p, h⟩ := t
    unfold Tick.agg at *
    simp only at *
    go_enter Try.func33, Try.ntmps33
    go_wp2_with (first | (go_at_call 92; refine (HC _ _ _ (hO _ _ (Blk.new' _ _ _ (by simp)))).out.mono ?_; rintro e w1 ⟨rfl, hb1⟩; have Bx := ((Blk.new w 46 #[.int .i64 m, .int .i64 p, .int .i64 h]).alloc (.cells #[.int .i64 m, .int .i64 p, .int .i64 h] 46)).below hb1 (by first | (simp; done) | (simp; omega)); have x0 : w1.cell? ⟨w.heap.size, 0, none⟩ = some (.int .i64 m) := Bx.cell 0; have x1 : w1.cell? ⟨w.heap.size, 1, none⟩ = some (.int .i64 p) := Bx.cell 1; have x2 : w1.cell? ⟨w.heap.size, 2, none⟩ = some (.int .i64 h) := Bx.cell 2; have hB1 : Below w.heap.size w w1 := ((Below.alloc (Below.alloc (Below.refl _ _) (Nat.le_refl _) _) (by simp) _ : Below w.heap.size w ((w.alloc (.cells #[.int .i64 m, .int .i64 p, .int .i64 h] 46)).alloc (.cells #[.int .i64 m, .int .i64 p, .int .i64 h] 46)))).trans (hb1.mono (by first | (simp; done) | (simp; omega)))))
    go_ret2
    exact ⟨by rw [HR.out]; rfl, hB1⟩
set_option maxRecDepth 100000 in
theorem implIsMisprint_c (s n tol : Int) (t : Tick) (w : World) : Calls Try.prog 34 #[.int .i64 s, .int .i64 n, t.agg, .int .i64 tol] w fun e w' => e = .returned (.tuple #[.bool (imRes s n t tol).1, .int .i64 (imRes s n t tol).2]) ∧ Below w.heap.size w w' := by
  have hC := fun W A c hs => checkPrint_c s n A c [t] tol W (by simp) hs
  have hO := fun (W : World) (g : Nat) (h : Blk W g 46 #[.int .i64 t.mark, .int .i64 t.place, .int .i64 t.height]) => one_tick h h.lt
  by_cases h0 : printCode s n [t] tol = 0
  · obtain ⟨hs, hn, ht, hm, hp⟩ := im_ok h0
    have HR : Hid (imRes s n t tol = (misB s n t.mark t.place tol, 0)) := by unfold Hid imRes; rw [if_pos h0]
    have HW := fun W => Lib.hid (isMisprint_c s n t tol W hs hm hn hp)
    rw [h0] at hC
    clear h0 hs hn hm hp ht
    have HC := fun W A c hs => Lib.hid (hC W A c hs); clear hC
    generalize misB s n t.mark t.place tol = aw at *
    obtain ⟨m, p, h⟩ := t
    unfold Tick.agg at *
    simp only at *
    go_enter Try.func34, Try.ntmps34
    go_wp2_with (first | (go_at_call 94; refine (HC _ _ _ (hO _ _ (Blk.new' _ _ _ (by simp)))).out.mono ?_; rintro e w1 ⟨rfl, hb1⟩; have Bx := ((Blk.new w 46 #[.int .i64 m, .int .i64 p, .int .i64 h]).alloc (.cells #[.int .i64 m, .int .i64 p, .int .i64 h] 46)).below hb1 (by first | (simp; done) | (simp; omega)); have x0 : w1.cell? ⟨w.heap.size, 0, none⟩ = some (.int .i64 m) := Bx.cell 0; have x1 : w1.cell? ⟨w.heap.size, 1, none⟩ = some (.int .i64 p) := Bx.cell 1; have x2 : w1.cell? ⟨w.heap.size, 2, none⟩ = some (.int .i64 h) := Bx.cell 2; have hB1 : Below w.heap.size w w1 := ((Below.alloc (Below.alloc (Below.refl _ _) (Nat.le_refl _) _) (by simp) _ : Below w.heap.size w ((w.alloc (.cells #[.int .i64 m, .int .i64 p, .int .i64 h] 46)).alloc (.cells #[.int .i64 m, .int .i64 p, .int .i64 h] 46)))).trans (hb1.mono (by first | (simp; done) | (simp; omega)))) | (go_at_call 97; refine (HW _).out.mono ?_; rintro e w2 ⟨rfl, hb2⟩))
    go_ret2
    exact ⟨by rw [HR.out]; rfl, hB1.trans (hb2.mono hB1.size)⟩
  · have HR : Hid (imRes s n t tol = (false, printCode s n [t] tol)) := by unfold Hid imRes; rw [if_neg h0]
    have HC := fun W A c hs => Lib.hid (hC W A c hs); clear hC
    have hne : (printCode s n [t] tol != 0) = true := by simp [h0]
    generalize printCode s n [t] tol = pc at *
    clear h0
    obtain ⟨m, p, h⟩ := t
    unfold Tick.agg at *
    simp only at *
    go_enter Try.func34, Try.ntmps34
    go_wp2_with (first | (go_at_call 94; refine (HC _ _ _ (hO _ _ (Blk.new' _ _ _ (by simp)))).out.mono ?_; rintro e w1 ⟨rfl, hb1⟩; have Bx := ((Blk.new w 46 #[.int .i64 m, .int .i64 p, .int .i64 h]).alloc (.cells #[.int .i64 m, .int .i64 p, .int .i64 h] 46)).below hb1 (by first | (simp; done) | (simp; omega)); have x0 : w1.cell? ⟨w.heap.size, 0, none⟩ = some (.int .i64 m) := Bx.cell 0; have x1 : w1.cell? ⟨w.heap.size, 1, none⟩ = some (.int .i64 p) := Bx.cell 1; have x2 : w1.cell? ⟨w.heap.size, 2, none⟩ = some (.int .i64 h) := Bx.cell 2; have hB1 : Below w.heap.size w w1 := ((Below.alloc (Below.alloc (Below.refl _ _) (Nat.le_refl _) _) (by simp) _ : Below w.heap.size w ((w.alloc (.cells #[.int .i64 m, .int .i64 p, .int .i64 h] 46)).alloc (.cells #[.int .i64 m, .int .i64 p, .int .i64 h] 46)))).trans (hb1.mono (by first | (simp; done) | (simp; omega)))))
    go_ret2
    exact ⟨by rw [HR.out]; rfl, hB1⟩
set_option maxRecDepth 100000 in
theorem lawIsMisprint_c (s n a b c tol : Int) (w : World) : Calls Try.prog 7 #[.int .i64 s, .int .i64 n, .agg #[.int .i64 a, .int .i64 b, .int .i64 c], .int .i64 tol] w fun e w' => e = .returned (.bool true) ∧ Below w.heap.size w w' := by
  have HS := fun W => Lib.hid (specIsMisprint_c s n tol ⟨a, b, c⟩ W)
  have HI := fun W => Lib.hid (implIsMisprint_c s n tol ⟨a, b, c⟩ W)
  unfold Tick.agg at *
  generalize imRes s n ⟨a, b, c⟩ tol = r at *
  obtain ⟨r0, r1⟩ := r
  simp only at *
  go_enter Try.func7, Try.ntmps7
  go_wp2_with fail
  refine (toTick_c a b c _).mono ?_; rintro e w1 ⟨rfl, hb1⟩
  have B1 := (Blk.new w 43 #[.int .i64 a, .int .i64 b, .int .i64 c]).below hb1 (by simp)
  have hB1 : Below w.heap.size w w1 := ((Below.refl _ _).alloc (Nat.le_refl _) _).trans (hb1.mono (by simp))
  go_wp2_with fail
  refine (HS _).out.mono ?_; rintro e w2 ⟨rfl, hb2⟩
  have B2 := B1.below hb2 B1.lt
  have hB2 := hB1.trans (hb2.mono hB1.size)
  have c0 : w2.cell? ⟨w.heap.size, 0, none⟩ = some (.int .i64 a) := B2.cell 0
  have c1 : w2.cell? ⟨w.heap.size, 1, none⟩ = some (.int .i64 b) := B2.cell 1
  have c2 : w2.cell? ⟨w.heap.size, 2, none⟩ = some (.int .i64 c) := B2.cell 2
  go_wp2_with fail
  refine (toTick_c a b c _).mono ?_; rintro e w3 ⟨rfl, hb3⟩
  have hB3 := hB2.trans (hb3.mono hB2.size)
  go_wp2_with fail
  refine (HI _).out.mono ?_; rintro e w4 ⟨rfl, hb4⟩
  have hB4 := hB3.trans (hb4.mono hB3.size)
  go_wp2
  go_ret
  exact ⟨rfl, hB4⟩
end Go.Proofs.Ytcpnmeebbbeakaa
