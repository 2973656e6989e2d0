/- PlaceDifference: both sides and the law, walked. No condition. -/
import Derived.Test.YtcpnmeebbbeakaaPlace5
namespace Go.Proofs.Ytcpnmeebbbeakaa
open Go.RowKit
def pdRes (s n : Int) (t : Tick) : Int × Int := if printCode s n [t] 0 = 0 then (away s n t.mark t.place, 0) else (0, printCode s n [t] 0)
theorem print_ok {s n tol : Int} {l : List Tick} (h : printCode s n l tol = 0) : (0 ≤ s ∧ s ≤ 5) ∧ (1 ≤ n ∧ n ≤ 100000) ∧ (0 ≤ tol ∧ tol ≤ 200) ∧ l.all tickOK = true := by
  unfold printCode at h
  split at h
  · rename_i hr
    cases h1 : inB s 0 5 <;> cases h2 : inB n 1 100000 <;> cases h3 : inB tol 0 200 <;> simp [h1, h2, h3] at h
    exact ⟨inB_true.1 h1, inB_true.1 h2, inB_true.1 h3, (rowCode_ok hr).2⟩
  · rename_i hr; exact absurd h hr
theorem pd_ok {s n : Int} {t : Tick} (h : printCode s n [t] 0 = 0) : (0 ≤ s ∧ s ≤ 5) ∧ (1 ≤ n ∧ n ≤ 100000) ∧ (1000 ≤ t.mark ∧ t.mark ≤ 9999) ∧ (0 ≤ t.place ∧ t.place ≤ 100000) := by
  obtain ⟨h1, h2, _, h4⟩ := print_ok h
  have h5 : tickOK t = true := by simpa using h4
  exact ⟨h1, h2, (tick_bd h5).1, (tick_bd h5).2⟩
theorem one_tick {w : World} {g : Nat} {t : TypeId} {f : Tick} (h : Blk w g t #[.int .i64 f.mark, .int .i64 f.place, .int .i64 f.height]) (hg : g < w.heap.size) : Sl w w.heap.size 3 (some ⟨g, 0, none⟩) ([f].map Tick.cells) :=
  (Sl.of_blk h _ rfl (by simp [Tick.cells])).more hg
set_option maxRecDepth 100000 in
theorem specPlaceDifference_c (s n : Int) (t : Tick) (w : World) : Calls Try.prog 30 #[.int .i64 s, .int .i64 n, t.agg] w fun e w' => e = .returned (.tuple #[.int .i64 (pdRes s n t).1, .int .i64 (pdRes s n t).2]) ∧ Below w.heap.size w w' := by
  have hC := fun W A c hs => l29Code_c s n A c [t] 0 W (by simp) hs
  have hO := fun (W : World) (g : Nat) (h : Blk W g 46 #[.int .i64 t.mark, .int .i64 t.place, .int .i64 t.height]) => one_tick h h.lt
  by_cases h0 : printCode s n [t] 0 = 0
  · obtain ⟨hs, hn, hm, hp⟩ := pd_ok h0
    have HR : Hid (pdRes s n t = (away s n t.mark t.place, 0)) := by unfold Hid pdRes; rw [if_pos h0]
    have HW := fun W => Lib.hid (l29Away_c s n t.mark t.place W hs hm hn hp)
    rw [h0] at hC
    clear h0 hs hn hm hp
    have HC := fun W A c hs => Lib.hid (hC W A c hs); clear hC
    generalize away s n t.mark t.place = aw at *
    obtain ⟨m, p, h⟩ := t
    unfold Tick.agg
    simp only at *
    go_enter Try.func30, Try.ntmps30
    go_wp2_with (first | (go_at_call 92; refine (HC _ _ _ (hO _ _ (Blk.new' _ _ _ (by simp)))).out.mono ?_; rintro e w1 ⟨rfl, hb1⟩; have Bx := ((Blk.new w 46 #[.int .i64 m, .int .i64 p, .int .i64 h]).alloc (.cells #[.int .i64 m, .int .i64 p, .int .i64 h] 46)).below hb1 (by first | (simp; done) | (simp; omega)); have x0 : w1.cell? ⟨w.heap.size, 0, none⟩ = some (.int .i64 m) := Bx.cell 0; have x1 : w1.cell? ⟨w.heap.size, 1, none⟩ = some (.int .i64 p) := Bx.cell 1; have hB1 : Below w.heap.size w w1 := ((Below.alloc (Below.alloc (Below.refl _ _) (Nat.le_refl _) _) (by simp) _ : Below w.heap.size w ((w.alloc (.cells #[.int .i64 m, .int .i64 p, .int .i64 h] 46)).alloc (.cells #[.int .i64 m, .int .i64 p, .int .i64 h] 46)))).trans (hb1.mono (by first | (simp; done) | (simp; omega)))) | (go_at_call 93; refine (HW _).out.mono ?_; rintro e w2 ⟨rfl, hb2⟩))
    go_ret2
    exact ⟨by rw [HR.out]; rfl, hB1.trans (hb2.mono hB1.size)⟩
  · have HR : Hid (pdRes s n t = (0, printCode s n [t] 0)) := by unfold Hid pdRes; rw [if_neg h0]
    have HC := fun W A c hs => Lib.hid (hC W A c hs); clear hC
    have hne : (printCode s n [t] 0 != 0) = true := by simp [h0]
    generalize printCode s n [t] 0 = pc at *
    clear h0
    obtain ⟨m, p, h⟩ := t
    unfold Tick.agg
    simp only at *
    go_enter Try.func30, Try.ntmps30
    go_wp2_with (first | (go_at_call 92; refine (HC _ _ _ (hO _ _ (Blk.new' _ _ _ (by simp)))).out.mono ?_; rintro e w1 ⟨rfl, hb1⟩; have Bx := ((Blk.new w 46 #[.int .i64 m, .int .i64 p, .int .i64 h]).alloc (.cells #[.int .i64 m, .int .i64 p, .int .i64 h] 46)).below hb1 (by first | (simp; done) | (simp; omega)); have x0 : w1.cell? ⟨w.heap.size, 0, none⟩ = some (.int .i64 m) := Bx.cell 0; have x1 : w1.cell? ⟨w.heap.size, 1, none⟩ = some (.int .i64 p) := Bx.cell 1; have hB1 : Below w.heap.size w w1 := ((Below.alloc (Below.alloc (Below.refl _ _) (Nat.le_refl _) _) (by simp) _ : Below w.heap.size w ((w.alloc (.cells #[.int .i64 m, .int .i64 p, .int .i64 h] 46)).alloc (.cells #[.int .i64 m, .int .i64 p, .int .i64 h] 46)))).trans (hb1.mono (by first | (simp; done) | (simp; omega)))))
    go_ret2
    exact ⟨by rw [HR.out]; rfl, hB1⟩
set_option maxRecDepth 100000 in
theorem implPlaceDifference_c (s n : Int) (t : Tick) (w : World) : Calls Try.prog 32 #[.int .i64 s, .int .i64 n, t.agg] w fun e w' => e = .returned (.tuple #[.int .i64 (pdRes s n t).1, .int .i64 (pdRes s n t).2]) ∧ Below w.heap.size w w' := by
  have hC := fun W A c hs => checkPrint_c s n A c [t] 0 W (by simp) hs
  have hO := fun (W : World) (g : Nat) (h : Blk W g 46 #[.int .i64 t.mark, .int .i64 t.place, .int .i64 t.height]) => one_tick h h.lt
  by_cases h0 : printCode s n [t] 0 = 0
  · obtain ⟨hs, hn, hm, hp⟩ := pd_ok h0
    have HR : Hid (pdRes s n t = (away s n t.mark t.place, 0)) := by unfold Hid pdRes; rw [if_pos h0]
    have HW := fun W => Lib.hid (placeDifference_c s n t.mark t.place W hs hm hn hp)
    rw [h0] at hC
    clear h0 hs hn hm hp
    have HC := fun W A c hs => Lib.hid (hC W A c hs); clear hC
    generalize away s n t.mark t.place = aw at *
    obtain ⟨m, p, h⟩ := t
    unfold Tick.agg
    simp only at *
    go_enter Try.func32, Try.ntmps32
    go_wp2_with (first | (go_at_call 94; refine (HC _ _ _ (hO _ _ (Blk.new' _ _ _ (by simp)))).out.mono ?_; rintro e w1 ⟨rfl, hb1⟩; have Bx := ((Blk.new w 46 #[.int .i64 m, .int .i64 p, .int .i64 h]).alloc (.cells #[.int .i64 m, .int .i64 p, .int .i64 h] 46)).below hb1 (by first | (simp; done) | (simp; omega)); have x0 : w1.cell? ⟨w.heap.size, 0, none⟩ = some (.int .i64 m) := Bx.cell 0; have x1 : w1.cell? ⟨w.heap.size, 1, none⟩ = some (.int .i64 p) := Bx.cell 1; have hB1 : Below w.heap.size w w1 := ((Below.alloc (Below.alloc (Below.refl _ _) (Nat.le_refl _) _) (by simp) _ : Below w.heap.size w ((w.alloc (.cells #[.int .i64 m, .int .i64 p, .int .i64 h] 46)).alloc (.cells #[.int .i64 m, .int .i64 p, .int .i64 h] 46)))).trans (hb1.mono (by first | (simp; done) | (simp; omega)))) | (go_at_call 95; refine (HW _).out.mono ?_; rintro e w2 ⟨rfl, hb2⟩))
    go_ret2
    exact ⟨by rw [HR.out]; rfl, hB1.trans (hb2.mono hB1.size)⟩
  · have HR : Hid (pdRes s n t = (0, printCode s n [t] 0)) := by unfold Hid pdRes; rw [if_neg h0]
    have HC := fun W A c hs => Lib.hid (hC W A c hs); clear hC
    have hne : (printCode s n [t] 0 != 0) = true := by simp [h0]
    generalize printCode s n [t] 0 = pc at *
    clear h0
    obtain ⟨m, p, h⟩ := t
    unfold Tick.agg
    simp only at *
    go_enter Try.func32, Try.ntmps32
    go_wp2_with (first | (go_at_call 94; refine (HC _ _ _ (hO _ _ (Blk.new' _ _ _ (by simp)))).out.mono ?_; rintro e w1 ⟨rfl, hb1⟩; have Bx := ((Blk.new w 46 #[.int .i64 m, .int .i64 p, .int .i64 h]).alloc (.cells #[.int .i64 m, .int .i64 p, .int .i64 h] 46)).below hb1 (by first | (simp; done) | (simp; omega)); have x0 : w1.cell? ⟨w.heap.size, 0, none⟩ = some (.int .i64 m) := Bx.cell 0; have x1 : w1.cell? ⟨w.heap.size, 1, none⟩ = some (.int .i64 p) := Bx.cell 1; have hB1 : Below w.heap.size w w1 := ((Below.alloc (Below.alloc (Below.refl _ _) (Nat.le_refl _) _) (by simp) _ : Below w.heap.size w ((w.alloc (.cells #[.int .i64 m, .int .i64 p, .int .i64 h] 46)).alloc (.cells #[.int .i64 m, .int .i64 p, .int .i64 h] 46)))).trans (hb1.mono (by first | (simp; done) | (simp; omega)))))
    go_ret2
    exact ⟨by rw [HR.out]; rfl, hB1⟩
set_option maxRecDepth 100000 in
theorem lawPlaceDifference_c (s n a b c : Int) (w : World) : Calls Try.prog 6 #[.int .i64 s, .int .i64 n, .agg #[.int .i64 a, .int .i64 b, .int .i64 c]] w fun e w' => e = .returned (.bool true) ∧ Below w.heap.size w w' := by
  have HS := fun W => Lib.hid (specPlaceDifference_c s n ⟨a, b, c⟩ W)
  have HI := fun W => Lib.hid (implPlaceDifference_c s n ⟨a, b, c⟩ W)
  unfold Tick.agg at *
  generalize pdRes s n ⟨a, b, c⟩ = r at *
  obtain ⟨r0, r1⟩ := r
  simp only at *
  go_enter Try.func6, Try.ntmps6
  go_wp2_with fail
  refine (toTick_c a b c _).mono ?_; rintro e w1 ⟨rfl, hb1⟩
  have B1 := (Blk.new w 43 #[.int .i64 a, .int .i64 b, .int .i64 c]).below hb1 (by simp)
  have hB1 : Below w.heap.size w w1 := ((Below.refl _ _).alloc (Nat.le_refl _) _).trans (hb1.mono (by simp))
  go_wp2_with fail
  refine (HS _).out.mono ?_; rintro e w2 ⟨rfl, hb2⟩
  have B2 := B1.below hb2 B1.lt
  have hB2 := hB1.trans (hb2.mono hB1.size)
  have c0 : w2.cell? ⟨w.heap.size, 0, none⟩ = some (.int .i64 a) := B2.cell 0
  have c1 : w2.cell? ⟨w.heap.size, 1, none⟩ = some (.int .i64 b) := B2.cell 1
  have c2 : w2.cell? ⟨w.heap.size, 2, none⟩ = some (.int .i64 c) := B2.cell 2
  go_wp2_with fail
  refine (toTick_c a b c _).mono ?_; rintro e w3 ⟨rfl, hb3⟩
  have hB3 := hB2.trans (hb3.mono hB2.size)
  go_wp2_with fail
  refine (HI _).out.mono ?_; rintro e w4 ⟨rfl, hb4⟩
  have hB4 := hB3.trans (hb4.mono hB3.size)
  go_wp2
  go_ret
  exact ⟨rfl, hB4⟩
end Go.Proofs.Ytcpnmeebbbeakaa
