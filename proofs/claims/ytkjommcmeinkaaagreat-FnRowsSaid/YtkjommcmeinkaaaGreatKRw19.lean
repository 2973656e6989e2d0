/- IsMisprint: both sides and the law, walked. No condition. -/
import Derived.Test.YtkjommcmeinkaaaGreatKRw18
set_option linter.unusedSimpArgs false
namespace Go.Proofs.YtkjommcmeinkaaaGreat
open Go.RowKit
def misB (s n m p tol : Int) : Bool := decide (tol < max (away s n m p) (-(away s n m p)))
def imRes (s n : Int) (t : Tick) (tol : Int) : Bool × Int := if printCode s n [t] tol = 0 then (misB s n t.mark t.place tol, 0) else (false, printCode s n [t] tol)
theorem im_ok {s n tol : Int} {t : Tick} (h : printCode s n [t] tol = 0) : (0 ≤ s ∧ s ≤ 5) ∧ (1 ≤ n ∧ n ≤ 100000) ∧ (0 ≤ tol ∧ tol ≤ 200) ∧ (1000 ≤ t.mark ∧ t.mark ≤ 9999) ∧ (0 ≤ t.place ∧ t.place ≤ 100000) := by
  obtain ⟨h1, h2, h3, h4⟩ := print_ok h
  have h5 : tickOK t = true := by simpa using h4
  exact ⟨h1, h2, h3, (tick_bd h5).1, (tick_bd h5).2⟩
theorem away_bd (s n m p : Int) (hm : 1000 ≤ m ∧ m ≤ 9999) (hn : 1 ≤ n ∧ n ≤ 100000) (ha : 0 ≤ p ∧ p ≤ 100000) : -2199023255552 ≤ away s n m p ∧ away s n m p ≤ 2199023255552 := by
  obtain ⟨⟨p1, p2⟩, p3, p4⟩ := plOf_bd s m n hm hn
  unfold away
  split
  · omega
  · split <;> omega
set_option maxRecDepth 100000 in
theorem l29Is_c (s n m p tol : Int) (w : World) (hs : 0 ≤ s ∧ s ≤ 5) (hm : 1000 ≤ m ∧ m ≤ 9999) (hn : 1 ≤ n ∧ n ≤ 100000) (ha : 0 ≤ p ∧ p ≤ 100000) :
    Calls Tryz.prog 26 #[.int .i64 s, .int .i64 n, .int .i64 m, .int .i64 p, .int .i64 tol] w fun e w' => e = .returned (.bool (misB s n m p tol)) ∧ Below w.heap.size w w' := by
  have HP := fun W => Lib.hid (l29Away_c s n m p W hs hm hn ha)
  have hb := away_bd s n m p hm hn ha
  have HR : Hid (misB s n m p tol = decide (tol < max (away s n m p) (-(away s n m p)))) := rfl
  generalize misB s n m p tol = r at *
  generalize away s n m p = aw at *
  obtain ⟨D, hD⟩ : ∃ D, D = max aw (-aw) := ⟨_, rfl⟩
  have HD : ∀ W, Hid (Calls Tryz.prog 52 #[.int .i64 aw] W fun e w' => e = .returned (.int .i64 D) ∧ W = w') := fun W => by
    have := l01Abs_c aw W (by omega)
    rw [show max aw (-aw) = D from by omega] at this
    exact this
  rw [← hD] at HR
  clear hD hs hm hn ha hb
  go_enter Tryz.func26, Tryz.ntmps26
  go_wp2_with (first | (go_at_call 53; refine (HP _).out.mono ?_; rintro e w1 ⟨rfl, hb1⟩) | (go_at_call 52; refine (HD _).out.mono ?_; rintro e w2 ⟨rfl, rfl⟩))
  go_ret
  have hz := hb1.size
  exact ⟨by rw [HR.out]; rfl, hb1⟩
set_option maxRecDepth 100000 in
theorem isMisprint_c (s n : Int) (t : Tick) (tol : Int) (w : World) (hs : 0 ≤ s ∧ s ≤ 5) (hm : 1000 ≤ t.mark ∧ t.mark ≤ 9999) (hn : 1 ≤ n ∧ n ≤ 100000) (ha : 0 ≤ t.place ∧ t.place ≤ 100000) :
    Calls Tryz.prog 24 #[.int .i64 s, .int .i64 n, t.agg, .int .i64 tol] w fun e w' => e = .returned (.bool (misB s n t.mark t.place tol)) ∧ Below w.heap.size w w' := by
  have HP := fun W => Lib.hid (placeDifference_c s n t.mark t.place W hs hm hn ha)
  have hb := away_bd s n t.mark t.place hm hn ha
  have HR : Hid (misB s n t.mark t.place tol = decide (tol < max (away s n t.mark t.place) (-(away s n t.mark t.place)))) := rfl
  generalize misB s n t.mark t.place tol = r at *
  generalize away s n t.mark t.place = aw at *
  obtain ⟨D, hD⟩ : ∃ D, D = max aw (-aw) := ⟨_, rfl⟩
  have HD : ∀ W, Hid (Calls Tryz.prog 48 #[.int .i64 aw, .int .i64 0] W fun e w' => e = .returned (.int .i64 D) ∧ W = w') := fun W => by
    have := distance_c aw 0 W (by omega) (by omega)
    rw [show max (aw - 0) (0 - aw) = D from by omega] at this
    exact this
  rw [← hD] at HR
  clear hD hs hm hn ha hb
  obtain ⟨m, p, h⟩ := t
  unfold Tick.agg
  simp only at *
  go_enter Tryz.func24, Tryz.ntmps24
  go_wp2_with (first | (go_at_call 45; refine (HP _).out.mono ?_; rintro e w1 ⟨rfl, hb1⟩) | (go_at_call 48; refine (HD _).out.mono ?_; rintro e w2 ⟨rfl, rfl⟩))
  go_ret
  have hz := hb1.size
  exact ⟨by rw [HR.out]; rfl, ((Below.refl _ _).alloc (Nat.le_refl _) _).trans (hb1.mono (by simp))⟩
set_option maxRecDepth 100000 in
theorem specIsMisprint_c (s n tol : Int) (t : Tick) (w : World) : Calls Tryz.prog 7 #[.int .i64 s, .int .i64 n, t.agg, .int .i64 tol] w fun e w' => e = .returned (.tuple #[.bool (imRes s n t tol).1, .int .i64 (imRes s n t tol).2]) ∧ Below w.heap.size w w' := by
  have hC := fun W A c hs => l29Code_c s n A c [t] tol W (by simp) hs
  have hO := fun (W : World) (g : Nat) (h : Blk W g 25 #[.int .i64 t.mark, .int .i64 t.place, .int .i64 t.height]) => one_tick h h.lt
  by_cases h0 : printCode s n [t] tol = 0
  · obtain ⟨hs, hn, ht, hm, hp⟩ := im_ok h0
    have HR : Hid (imRes s n t tol = (misB s n t.mark t.place tol, 0)) := by unfold Hid imRes; rw [if_pos h0]
    have HW := fun W => Lib.hid (l29Is_c s n t.mark t.place tol W hs hm hn hp)
    rw [h0] at hC
    clear h0 hs hn hm hp ht
    have HC := fun W A c hs => Lib.hid (hC W A c hs); clear hC
    generalize misB s n t.mark t.place tol = aw at *
    obtain ⟨m, p, h⟩ := t
    unfold Tick.agg at *
    simp only at *
    go_enter Tryz.func7, Tryz.ntmps7
    go_wp2_with (first | (go_at_call 25; refine (HC _ _ _ (hO _ _ (Blk.new' _ _ _ (by simp)))).out.mono ?_; rintro e w1 ⟨rfl, hb1⟩; have Bx := ((Blk.new w 25 #[.int .i64 m, .int .i64 p, .int .i64 h]).alloc (.cells #[.int .i64 m, .int .i64 p, .int .i64 h] 25)).below hb1 (by first | (simp; done) | (simp; omega)); have x0 : w1.cell? ⟨w.heap.size, 0, none⟩ = some (.int .i64 m) := Bx.cell 0; have x1 : w1.cell? ⟨w.heap.size, 1, none⟩ = some (.int .i64 p) := Bx.cell 1; have x2 : w1.cell? ⟨w.heap.size, 2, none⟩ = some (.int .i64 h) := Bx.cell 2; have hB1 : Below w.heap.size w w1 := ((Below.alloc (Below.alloc (Below.refl _ _) (Nat.le_refl _) _) (by simp) _ : Below w.heap.size w ((w.alloc (.cells #[.int .i64 m, .int .i64 p, .int .i64 h] 25)).alloc (.cells #[.int .i64 m, .int .i64 p, .int .i64 h] 25)))).trans (hb1.mono (by first | (simp; done) | (simp; omega)))) | (go_at_call 26; refine (HW _).out.mono ?_; rintro e w2 ⟨rfl, hb2⟩))
    go_ret2
    exact ⟨by rw [HR.out]; rfl, hB1.trans (hb2.mono hB1.size)⟩
  · have HR : Hid (imRes s n t tol = (false, printCode s n [t] tol)) := by unfold Hid imRes; rw [if_neg h0]
    have HC := fun W A c hs => Lib.hid (hC W A c hs); clear hC
    have hne : (printCode s n [t] tol != 0) = true := by simp [h0]
    generalize printCode s n [t] tol = pc at *
    clear h0
    obtain ⟨m, p, h⟩ := t
    unfold Tick.agg at *
    simp only at *
    go_enter Tryz.func7, Tryz.ntmps7
    go_wp2_with (first | (go_at_call 25; refine (HC _ _ _ (hO _ _ (Blk.new' _ _ _ (by simp)))).out.mono ?_; rintro e w1 ⟨rfl, hb1⟩; have Bx := ((Blk.new w 25 #[.int .i64 m, .int .i64 p, .int .i64 h]).alloc (.cells #[.int .i64 m, .int .i64 p, .int .i64 h] 25)).below hb1 (by first | (simp; done) | (simp; omega)); have x0 : w1.cell? ⟨w.heap.size, 0, none⟩ = some (.int .i64 m) := Bx.cell 0; have x1 : w1.cell? ⟨w.heap.size, 1, none⟩ = some (.int .i64 p) := Bx.cell 1; have x2 : w1.cell? ⟨w.heap.size, 2, none⟩ = some (.int .i64 h) := Bx.cell 2; have hB1 : Below w.heap.size w w1 := ((Below.alloc (Below.alloc (Below.refl _ _) (Nat.le_refl _) _) (by simp) _ : Below w.heap.size w ((w.alloc (.cells #[.int .i64 m, .int .i64 p, .int .i64 h] 25)).alloc (.cells #[.int .i64 m, .int .i64 p, .int .i64 h] 25)))).trans (hb1.mono (by first | (simp; done) | (simp; omega)))))
    go_ret2
    exact ⟨by rw [HR.out]; rfl, hB1⟩
set_option maxRecDepth 100000 in
theorem implIsMisprint_c (s n tol : Int) (t : Tick) (w : World) : Calls Tryz.prog 6 #[.int .i64 s, .int .i64 n, t.agg, .int .i64 tol] w fun e w' => e = .returned (.tuple #[.bool (imRes s n t tol).1, .int .i64 (imRes s n t tol).2]) ∧ Below w.heap.size w w' := by
  have hC := fun W A c hs => checkPrint_c s n A c [t] tol W (by simp) hs
  have hO := fun (W : World) (g : Nat) (h : Blk W g 25 #[.int .i64 t.mark, .int .i64 t.place, .int .i64 t.height]) => one_tick h h.lt
  by_cases h0 : printCode s n [t] tol = 0
  · obtain ⟨hs, hn, ht, hm, hp⟩ := im_ok h0
    have HR : Hid (imRes s n t tol = (misB s n t.mark t.place tol, 0)) := by unfold Hid imRes; rw [if_pos h0]
    have HW := fun W => Lib.hid (isMisprint_c s n t tol W hs hm hn hp)
    rw [h0] at hC
    clear h0 hs hn hm hp ht
    have HC := fun W A c hs => Lib.hid (hC W A c hs); clear hC
    generalize misB s n t.mark t.place tol = aw at *
    obtain ⟨m, p, h⟩ := t
    unfold Tick.agg at *
    simp only at *
    go_enter Tryz.func6, Tryz.ntmps6
    go_wp2_with (first | (go_at_call 23; refine (HC _ _ _ (hO _ _ (Blk.new' _ _ _ (by simp)))).out.mono ?_; rintro e w1 ⟨rfl, hb1⟩; have Bx := ((Blk.new w 25 #[.int .i64 m, .int .i64 p, .int .i64 h]).alloc (.cells #[.int .i64 m, .int .i64 p, .int .i64 h] 25)).below hb1 (by first | (simp; done) | (simp; omega)); have x0 : w1.cell? ⟨w.heap.size, 0, none⟩ = some (.int .i64 m) := Bx.cell 0; have x1 : w1.cell? ⟨w.heap.size, 1, none⟩ = some (.int .i64 p) := Bx.cell 1; have x2 : w1.cell? ⟨w.heap.size, 2, none⟩ = some (.int .i64 h) := Bx.cell 2; have hB1 : Below w.heap.size w w1 := ((Below.alloc (Below.alloc (Below.refl _ _) (Nat.le_refl _) _) (by simp) _ : Below w.heap.size w ((w.alloc (.cells #[.int .i64 m, .int .i64 p, .int .i64 h] 25)).alloc (.cells #[.int .i64 m, .int .i64 p, .int .i64 h] 25)))).trans (hb1.mono (by first | (simp; done) | (simp; omega)))) | (go_at_call 24; refine (HW _).out.mono ?_; rintro e w2 ⟨rfl, hb2⟩))
    go_ret2
    exact ⟨by rw [HR.out]; rfl, hB1.trans (hb2.mono hB1.size)⟩
  · have HR : Hid (imRes s n t tol = (false, printCode s n [t] tol)) := by unfold Hid imRes; rw [if_neg h0]
    have HC := fun W A c hs => Lib.hid (hC W A c hs); clear hC
    have hne : (printCode s n [t] tol != 0) = true := by simp [h0]
    generalize printCode s n [t] tol = pc at *
    clear h0
    obtain ⟨m, p, h⟩ := t
    unfold Tick.agg at *
    simp only at *
    go_enter Tryz.func6, Tryz.ntmps6
    go_wp2_with (first | (go_at_call 23; refine (HC _ _ _ (hO _ _ (Blk.new' _ _ _ (by simp)))).out.mono ?_; rintro e w1 ⟨rfl, hb1⟩; have Bx := ((Blk.new w 25 #[.int .i64 m, .int .i64 p, .int .i64 h]).alloc (.cells #[.int .i64 m, .int .i64 p, .int .i64 h] 25)).below hb1 (by first | (simp; done) | (simp; omega)); have x0 : w1.cell? ⟨w.heap.size, 0, none⟩ = some (.int .i64 m) := Bx.cell 0; have x1 : w1.cell? ⟨w.heap.size, 1, none⟩ = some (.int .i64 p) := Bx.cell 1; have x2 : w1.cell? ⟨w.heap.size, 2, none⟩ = some (.int .i64 h) := Bx.cell 2; have hB1 : Below w.heap.size w w1 := ((Below.alloc (Below.alloc (Below.refl _ _) (Nat.le_refl _) _) (by simp) _ : Below w.heap.size w ((w.alloc (.cells #[.int .i64 m, .int .i64 p, .int .i64 h] 25)).alloc (.cells #[.int .i64 m, .int .i64 p, .int .i64 h] 25)))).trans (hb1.mono (by first | (simp; done) | (simp; omega)))))
    go_ret2
    exact ⟨by rw [HR.out]; rfl, hB1⟩
end Go.Proofs.YtkjommcmeinkaaaGreat
