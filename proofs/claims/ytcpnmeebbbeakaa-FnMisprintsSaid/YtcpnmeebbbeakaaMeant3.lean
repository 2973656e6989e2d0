/- MeantMarks: both functions and the law, walked. No condition. -/
import Derived.Test.YtcpnmeebbbeakaaMeant2
namespace Go.Proofs.Ytcpnmeebbbeakaa
open Go.RowKit
def mmRes (s n : Int) (t : Tick) (tol step : Int) : List Int × Int :=
  if printCode s n [t] tol = 0 then (if inB step 10 1000 then (if 100 < (meant s n t tol step).length then ([], 3) else (meant s n t tol step, 0)) else ([], 2)) else ([], printCode s n [t] tol)
theorem mmRes_len (s n : Int) (t : Tick) (tol step : Int) : (mmRes s n t tol step).1.length ≤ 100 := by
  unfold mmRes
  split
  · split
    · split <;> simp <;> omega
    · simp
  · simp
theorem l29Step_c (n : Int) (w : World) : Calls Try.prog 111 #[.int .i64 n] w fun e w' => e = .returned (.bool (inB n 10 1000)) ∧ w = w' := by
  go_enter Try.func111, Try.ntmps111
  go_wp2_with (go_at_call 100; refine (l01In_c _ _ _ _).mono ?_; rintro e w' ⟨rfl, rfl⟩)
  go_ret
  exact ⟨rfl, rfl⟩
set_option maxRecDepth 100000 in
set_option maxHeartbeats 800000 in
theorem specMeantMarks_c (s n tol step : Int) (t : Tick) (w : World) : Calls Try.prog 44 #[.int .i64 s, .int .i64 n, t.agg, .int .i64 tol, .int .i64 step] w (PostRows 2 1 (mmRes s n t tol step).1.length ((mmRes s n t tol step).1.map ic) (mmRes s n t tol step).2 w) := by
  have hC := fun W A c hs => l29Code_c s n A c [t] tol W (by simp) hs
  have hO := fun (W : World) (g : Nat) (h : Blk W g 46 #[.int .i64 t.mark, .int .i64 t.place, .int .i64 t.height]) => one_tick h h.lt
  by_cases h0 : printCode s n [t] tol = 0
  · obtain ⟨hs, hn, ht, hm, hp⟩ := im_ok h0
    rw [h0] at hC
    have HC := fun W A c hs => Lib.hid (hC W A c hs); clear hC
    cases hst : inB step 10 1000
    · have HR : Hid (mmRes s n t tol step = ([], 2)) := by unfold Hid mmRes; rw [if_pos h0, hst]; rfl
      generalize mmRes s n t tol step = r at *
      clear h0 hs hn hm hp ht
      obtain ⟨m, p, h⟩ := t
      unfold Tick.agg at *
      simp only at *
      go_enter Try.func44, Try.ntmps44
      go_wp2_with (first | (go_at_call 92; refine (HC _ _ _ (hO _ _ (Blk.new' _ _ _ (by simp)))).out.mono ?_; rintro e w1 ⟨rfl, hb1⟩; have Bx := ((Blk.new w 46 #[.int .i64 m, .int .i64 p, .int .i64 h]).alloc (.cells #[.int .i64 m, .int .i64 p, .int .i64 h] 46)).below hb1 (by first | (simp; done) | (simp; omega)); have x0 : w1.cell? ⟨w.heap.size, 0, none⟩ = some (.int .i64 m) := Bx.cell 0; have x1 : w1.cell? ⟨w.heap.size, 1, none⟩ = some (.int .i64 p) := Bx.cell 1; have x2 : w1.cell? ⟨w.heap.size, 2, none⟩ = some (.int .i64 h) := Bx.cell 2; have hB1 : Below w.heap.size w w1 := ((Below.alloc (Below.alloc (Below.refl _ _) (Nat.le_refl _) _) (by simp) _ : Below w.heap.size w ((w.alloc (.cells #[.int .i64 m, .int .i64 p, .int .i64 h] 46)).alloc (.cells #[.int .i64 m, .int .i64 p, .int .i64 h] 46)))).trans (hb1.mono (by first | (simp; done) | (simp; omega)))) | (go_at_call 111; refine (l29Step_c _ _).mono ?_; rintro e w9 ⟨rfl, rfl⟩))
      go_ret2
      unfold PostRows
      rw [HR.out]
      exact ⟨none, 0, rfl, Own.nil_, hB1⟩
    · have hst' := inB_true.1 hst
      have HW := fun W => Lib.hid (l29Meant_c s n t tol step W hs hn hm hp hst')
      have hlen := meant_len (s := s) (n := n) (t := t) (tol := tol) hst'
      have hdef : mmRes s n t tol step = if 100 < (meant s n t tol step).length then ([], 3) else (meant s n t tol step, 0) := by unfold mmRes; rw [if_pos h0, hst]; rfl
      clear h0 hs hn hm hp ht
      generalize mmRes s n t tol step = r at *
      generalize meant s n t tol step = R at *
      by_cases hbig : 100 < R.length
      · rw [if_pos hbig] at hdef
        have HR := Lib.hid hdef; clear hdef
        obtain ⟨m, p, h⟩ := t
        unfold Tick.agg at *
        simp only at *
        go_enter Try.func44, Try.ntmps44
        go_wp2_with (first | (go_at_call 92; refine (HC _ _ _ (hO _ _ (Blk.new' _ _ _ (by simp)))).out.mono ?_; rintro e w1 ⟨rfl, hb1⟩; have Bx := ((Blk.new w 46 #[.int .i64 m, .int .i64 p, .int .i64 h]).alloc (.cells #[.int .i64 m, .int .i64 p, .int .i64 h] 46)).below hb1 (by first | (simp; done) | (simp; omega)); have x0 : w1.cell? ⟨w.heap.size, 0, none⟩ = some (.int .i64 m) := Bx.cell 0; have x1 : w1.cell? ⟨w.heap.size, 1, none⟩ = some (.int .i64 p) := Bx.cell 1; have x2 : w1.cell? ⟨w.heap.size, 2, none⟩ = some (.int .i64 h) := Bx.cell 2; have hB1 : Below w.heap.size w w1 := ((Below.alloc (Below.alloc (Below.refl _ _) (Nat.le_refl _) _) (by simp) _ : Below w.heap.size w ((w.alloc (.cells #[.int .i64 m, .int .i64 p, .int .i64 h] 46)).alloc (.cells #[.int .i64 m, .int .i64 p, .int .i64 h] 46)))).trans (hb1.mono (by first | (simp; done) | (simp; omega)))) | (go_at_call 111; refine (l29Step_c _ _).mono ?_; rintro e w9 ⟨rfl, rfl⟩) | (go_at_call 112; refine (HW _).out.mono ?_; rintro e w2 ⟨A', c', rfl, hO2, hb2⟩; have hB2 := hB1.trans (hb2.mono hB1.size)))
        go_ret2
        unfold PostRows
        rw [HR.out]
        exact ⟨none, 0, rfl, Own.nil_, hB2⟩
      · rw [if_neg hbig] at hdef
        have HR := Lib.hid hdef; clear hdef
        obtain ⟨m, p, h⟩ := t
        unfold Tick.agg at *
        simp only at *
        go_enter Try.func44, Try.ntmps44
        go_wp2_with (first | (go_at_call 92; refine (HC _ _ _ (hO _ _ (Blk.new' _ _ _ (by simp)))).out.mono ?_; rintro e w1 ⟨rfl, hb1⟩; have Bx := ((Blk.new w 46 #[.int .i64 m, .int .i64 p, .int .i64 h]).alloc (.cells #[.int .i64 m, .int .i64 p, .int .i64 h] 46)).below hb1 (by first | (simp; done) | (simp; omega)); have x0 : w1.cell? ⟨w.heap.size, 0, none⟩ = some (.int .i64 m) := Bx.cell 0; have x1 : w1.cell? ⟨w.heap.size, 1, none⟩ = some (.int .i64 p) := Bx.cell 1; have x2 : w1.cell? ⟨w.heap.size, 2, none⟩ = some (.int .i64 h) := Bx.cell 2; have hB1 : Below w.heap.size w w1 := ((Below.alloc (Below.alloc (Below.refl _ _) (Nat.le_refl _) _) (by simp) _ : Below w.heap.size w ((w.alloc (.cells #[.int .i64 m, .int .i64 p, .int .i64 h] 46)).alloc (.cells #[.int .i64 m, .int .i64 p, .int .i64 h] 46)))).trans (hb1.mono (by first | (simp; done) | (simp; omega)))) | (go_at_call 111; refine (l29Step_c _ _).mono ?_; rintro e w9 ⟨rfl, rfl⟩) | (go_at_call 112; refine (HW _).out.mono ?_; rintro e w2 ⟨A', c', rfl, hO2, hb2⟩; have hB2 := hB1.trans (hb2.mono hB1.size); have hO2' := hO2.mono hB1.size))
        go_ret2
        unfold PostRows
        rw [HR.out]
        exact ⟨A', c', rfl, hO2', hB2⟩
  · have HR : Hid (mmRes s n t tol step = ([], printCode s n [t] tol)) := by unfold Hid mmRes; rw [if_neg h0]
    have HC := fun W A c hs => Lib.hid (hC W A c hs); clear hC
    have hne : (printCode s n [t] tol != 0) = true := by simp [h0]
    have hne2 : (printCode s n [t] tol == 0) = false := by simp [h0]
    generalize mmRes s n t tol step = r at *
    generalize printCode s n [t] tol = pc at *
    clear h0
    obtain ⟨m, p, h⟩ := t
    unfold Tick.agg at *
    simp only at *
    go_enter Try.func44, Try.ntmps44
    go_wp2_with (first | (go_at_call 92; refine (HC _ _ _ (hO _ _ (Blk.new' _ _ _ (by simp)))).out.mono ?_; rintro e w1 ⟨rfl, hb1⟩; have Bx := ((Blk.new w 46 #[.int .i64 m, .int .i64 p, .int .i64 h]).alloc (.cells #[.int .i64 m, .int .i64 p, .int .i64 h] 46)).below hb1 (by first | (simp; done) | (simp; omega)); have x0 : w1.cell? ⟨w.heap.size, 0, none⟩ = some (.int .i64 m) := Bx.cell 0; have x1 : w1.cell? ⟨w.heap.size, 1, none⟩ = some (.int .i64 p) := Bx.cell 1; have x2 : w1.cell? ⟨w.heap.size, 2, none⟩ = some (.int .i64 h) := Bx.cell 2; have hB1 : Below w.heap.size w w1 := ((Below.alloc (Below.alloc (Below.refl _ _) (Nat.le_refl _) _) (by simp) _ : Below w.heap.size w ((w.alloc (.cells #[.int .i64 m, .int .i64 p, .int .i64 h] 46)).alloc (.cells #[.int .i64 m, .int .i64 p, .int .i64 h] 46)))).trans (hb1.mono (by first | (simp; done) | (simp; omega)))))
    go_ret2
    unfold PostRows
    rw [HR.out]
    exact ⟨none, 0, rfl, Own.nil_, hB1⟩
set_option maxRecDepth 100000 in
set_option maxHeartbeats 800000 in
theorem implMeantMarks_c (s n tol step : Int) (t : Tick) (w : World) : Calls Try.prog 45 #[.int .i64 s, .int .i64 n, t.agg, .int .i64 tol, .int .i64 step] w (PostRows 2 1 (mmRes s n t tol step).1.length ((mmRes s n t tol step).1.map ic) (mmRes s n t tol step).2 w) := by
  have hC := fun W A c hs => checkPrint_c s n A c [t] tol W (by simp) hs
  have hO := fun (W : World) (g : Nat) (h : Blk W g 46 #[.int .i64 t.mark, .int .i64 t.place, .int .i64 t.height]) => one_tick h h.lt
  by_cases h0 : printCode s n [t] tol = 0
  · obtain ⟨hs, hn, ht, hm, hp⟩ := im_ok h0
    rw [h0] at hC
    have HC := fun W A c hs => Lib.hid (hC W A c hs); clear hC
    cases hst : inB step 10 1000
    · have HR : Hid (mmRes s n t tol step = ([], 2)) := by unfold Hid mmRes; rw [if_pos h0, hst]; rfl
      generalize mmRes s n t tol step = r at *
      clear h0 hs hn hm hp ht
      obtain ⟨m, p, h⟩ := t
      unfold Tick.agg at *
      simp only at *
      go_enter Try.func45, Try.ntmps45
      go_wp2_with (first | (go_at_call 94; refine (HC _ _ _ (hO _ _ (Blk.new' _ _ _ (by simp)))).out.mono ?_; rintro e w1 ⟨rfl, hb1⟩; have Bx := ((Blk.new w 46 #[.int .i64 m, .int .i64 p, .int .i64 h]).alloc (.cells #[.int .i64 m, .int .i64 p, .int .i64 h] 46)).below hb1 (by first | (simp; done) | (simp; omega)); have x0 : w1.cell? ⟨w.heap.size, 0, none⟩ = some (.int .i64 m) := Bx.cell 0; have x1 : w1.cell? ⟨w.heap.size, 1, none⟩ = some (.int .i64 p) := Bx.cell 1; have x2 : w1.cell? ⟨w.heap.size, 2, none⟩ = some (.int .i64 h) := Bx.cell 2; have hB1 : Below w.heap.size w w1 := ((Below.alloc (Below.alloc (Below.refl _ _) (Nat.le_refl _) _) (by simp) _ : Below w.heap.size w ((w.alloc (.cells #[.int .i64 m, .int .i64 p, .int .i64 h] 46)).alloc (.cells #[.int .i64 m, .int .i64 p, .int .i64 h] 46)))).trans (hb1.mono (by first | (simp; done) | (simp; omega)))) | (go_at_call 113; refine (within_c _ _ _ _).mono ?_; rintro e w' ⟨rfl, rfl⟩))
      go_ret2
      unfold PostRows
      rw [HR.out]
      exact ⟨none, 0, rfl, Own.nil_, hB1⟩
    · have hst' := inB_true.1 hst
      have HW := fun W => Lib.hid (meantMarks_c s n t tol step W hs hn hm hp hst')
      have hlen := meant_len (s := s) (n := n) (t := t) (tol := tol) hst'
      have hdef : mmRes s n t tol step = if 100 < (meant s n t tol step).length then ([], 3) else (meant s n t tol step, 0) := by unfold mmRes; rw [if_pos h0, hst]; rfl
      clear h0 hs hn hm hp ht
      generalize mmRes s n t tol step = r at *
      generalize meant s n t tol step = R at *
      by_cases hbig : 100 < R.length
      · rw [if_pos hbig] at hdef
        have HR := Lib.hid hdef; clear hdef
        obtain ⟨m, p, h⟩ := t
        unfold Tick.agg at *
        simp only at *
        go_enter Try.func45, Try.ntmps45
        go_wp2_with (first | (go_at_call 94; refine (HC _ _ _ (hO _ _ (Blk.new' _ _ _ (by simp)))).out.mono ?_; rintro e w1 ⟨rfl, hb1⟩; have Bx := ((Blk.new w 46 #[.int .i64 m, .int .i64 p, .int .i64 h]).alloc (.cells #[.int .i64 m, .int .i64 p, .int .i64 h] 46)).below hb1 (by first | (simp; done) | (simp; omega)); have x0 : w1.cell? ⟨w.heap.size, 0, none⟩ = some (.int .i64 m) := Bx.cell 0; have x1 : w1.cell? ⟨w.heap.size, 1, none⟩ = some (.int .i64 p) := Bx.cell 1; have x2 : w1.cell? ⟨w.heap.size, 2, none⟩ = some (.int .i64 h) := Bx.cell 2; have hB1 : Below w.heap.size w w1 := ((Below.alloc (Below.alloc (Below.refl _ _) (Nat.le_refl _) _) (by simp) _ : Below w.heap.size w ((w.alloc (.cells #[.int .i64 m, .int .i64 p, .int .i64 h] 46)).alloc (.cells #[.int .i64 m, .int .i64 p, .int .i64 h] 46)))).trans (hb1.mono (by first | (simp; done) | (simp; omega)))) | (go_at_call 113; refine (within_c _ _ _ _).mono ?_; rintro e w' ⟨rfl, rfl⟩) | (go_at_call 114; refine (HW _).out.mono ?_; rintro e w2 ⟨A', c', rfl, hO2, hb2⟩; have hB2 := hB1.trans (hb2.mono hB1.size)))
        go_ret2
        unfold PostRows
        rw [HR.out]
        exact ⟨none, 0, rfl, Own.nil_, hB2⟩
      · rw [if_neg hbig] at hdef
        have HR := Lib.hid hdef; clear hdef
        obtain ⟨m, p, h⟩ := t
        unfold Tick.agg at *
        simp only at *
        go_enter Try.func45, Try.ntmps45
        go_wp2_with (first | (go_at_call 94; refine (HC _ _ _ (hO _ _ (Blk.new' _ _ _ (by simp)))).out.mono ?_; rintro e w1 ⟨rfl, hb1⟩; have Bx := ((Blk.new w 46 #[.int .i64 m, .int .i64 p, .int .i64 h]).alloc (.cells #[.int .i64 m, .int .i64 p, .int .i64 h] 46)).below hb1 (by first | (simp; done) | (simp; omega)); have x0 : w1.cell? ⟨w.heap.size, 0, none⟩ = some (.int .i64 m) := Bx.cell 0; have x1 : w1.cell? ⟨w.heap.size, 1, none⟩ = some (.int .i64 p) := Bx.cell 1; have x2 : w1.cell? ⟨w.heap.size, 2, none⟩ = some (.int .i64 h) := Bx.cell 2; have hB1 : Below w.heap.size w w1 := ((Below.alloc (Below.alloc (Below.refl _ _) (Nat.le_refl _) _) (by simp) _ : Below w.heap.size w ((w.alloc (.cells #[.int .i64 m, .int .i64 p, .int .i64 h] 46)).alloc (.cells #[.int .i64 m, .int .i64 p, .int .i64 h] 46)))).trans (hb1.mono (by first | (simp; done) | (simp; omega)))) | (go_at_call 113; refine (within_c _ _ _ _).mono ?_; rintro e w' ⟨rfl, rfl⟩) | (go_at_call 114; refine (HW _).out.mono ?_; rintro e w2 ⟨A', c', rfl, hO2, hb2⟩; have hB2 := hB1.trans (hb2.mono hB1.size); have hO2' := hO2.mono hB1.size))
        go_ret2
        unfold PostRows
        rw [HR.out]
        exact ⟨A', c', rfl, hO2', hB2⟩
  · have HR : Hid (mmRes s n t tol step = ([], printCode s n [t] tol)) := by unfold Hid mmRes; rw [if_neg h0]
    have HC := fun W A c hs => Lib.hid (hC W A c hs); clear hC
    have hne : (printCode s n [t] tol != 0) = true := by simp [h0]
    have hne2 : (printCode s n [t] tol == 0) = false := by simp [h0]
    generalize mmRes s n t tol step = r at *
    generalize printCode s n [t] tol = pc at *
    clear h0
    obtain ⟨m, p, h⟩ := t
    unfold Tick.agg at *
    simp only at *
    go_enter Try.func45, Try.ntmps45
    go_wp2_with (first | (go_at_call 94; refine (HC _ _ _ (hO _ _ (Blk.new' _ _ _ (by simp)))).out.mono ?_; rintro e w1 ⟨rfl, hb1⟩; have Bx := ((Blk.new w 46 #[.int .i64 m, .int .i64 p, .int .i64 h]).alloc (.cells #[.int .i64 m, .int .i64 p, .int .i64 h] 46)).below hb1 (by first | (simp; done) | (simp; omega)); have x0 : w1.cell? ⟨w.heap.size, 0, none⟩ = some (.int .i64 m) := Bx.cell 0; have x1 : w1.cell? ⟨w.heap.size, 1, none⟩ = some (.int .i64 p) := Bx.cell 1; have x2 : w1.cell? ⟨w.heap.size, 2, none⟩ = some (.int .i64 h) := Bx.cell 2; have hB1 : Below w.heap.size w w1 := ((Below.alloc (Below.alloc (Below.refl _ _) (Nat.le_refl _) _) (by simp) _ : Below w.heap.size w ((w.alloc (.cells #[.int .i64 m, .int .i64 p, .int .i64 h] 46)).alloc (.cells #[.int .i64 m, .int .i64 p, .int .i64 h] 46)))).trans (hb1.mono (by first | (simp; done) | (simp; omega)))))
    go_ret2
    unfold PostRows
    rw [HR.out]
    exact ⟨none, 0, rfl, Own.nil_, hB1⟩
set_option maxRecDepth 100000 in
set_option maxHeartbeats 800000 in
theorem lawMeantMarks_c (s n a b c tol step : Int) (w : World) : Calls Try.prog 9 #[.int .i64 s, .int .i64 n, .agg #[.int .i64 a, .int .i64 b, .int .i64 c], .int .i64 tol, .int .i64 step] w fun e w' => e = .returned (.bool true) ∧ Below w.heap.size w w' := by
  have HS := fun W => Lib.hid (specMeantMarks_c s n tol step ⟨a, b, c⟩ W)
  have HI := fun W => Lib.hid (implMeantMarks_c s n tol step ⟨a, b, c⟩ W)
  have hlen := mmRes_len s n ⟨a, b, c⟩ tol step
  unfold Tick.agg at *
  generalize mmRes s n ⟨a, b, c⟩ tol step = r at *
  obtain ⟨R, code⟩ := r
  simp only at *
  go_enter Try.func9, Try.ntmps9
  go_wp2_with fail
  refine (toTick_c a b c _).mono ?_; rintro e w1 ⟨rfl, hb1⟩
  have B1 := (Blk.new w 43 #[.int .i64 a, .int .i64 b, .int .i64 c]).below hb1 (by simp)
  have hB1 : Below w.heap.size w w1 := ((Below.refl _ _).alloc (Nat.le_refl _) _).trans (hb1.mono (by simp))
  go_wp2_with fail
  refine (HS _).out.mono ?_; rintro e w2 ⟨Aw, cw, rfl, hOw, hb2⟩
  have B2 := B1.below hb2 B1.lt
  have hB2 := hB1.trans (hb2.mono hB1.size)
  have c0 : w2.cell? ⟨w.heap.size, 0, none⟩ = some (.int .i64 a) := B2.cell 0
  have c1 : w2.cell? ⟨w.heap.size, 1, none⟩ = some (.int .i64 b) := B2.cell 1
  have c2 : w2.cell? ⟨w.heap.size, 2, none⟩ = some (.int .i64 c) := B2.cell 2
  go_wp2_with fail
  refine (toTick_c a b c _).mono ?_; rintro e w3 ⟨rfl, hb3⟩
  have hB3 := hB2.trans (hb3.mono hB2.size)
  have hOw3 := hOw.below hb3
  have B3 := B2.below hb3 B2.lt
  have s23 := hb3.size
  go_wp2_with fail
  refine (HI _).out.mono ?_; rintro e w4 ⟨Ag, cg, rfl, hOg, hb4⟩
  have hB4 := hB3.trans (hb4.mono hB3.size)
  have hOw4 := hOw3.below hb4
  have B4 := B3.below hb4 B3.lt
  have s34 := hb4.size
  go_wp2_with fail
  refine (eqInt64S_c Ag Aw cg cw R w4 (by omega) hOg.sl hOw4.sl).mono ?_; rintro e w5 ⟨rfl, hb5⟩
  have hB5 := hB4.trans (hb5.mono hB4.size)
  have hOw5 := hOw4.below hb5
  have hOg5 := hOg.below hb5
  have B5 := B4.below hb5 B4.lt
  have s45 := hb5.size
  go_wp2_with fail
  have hmk := markInt64S_c Ag cg w3.heap.size 1 (R.map ic) w5 (by omega) (by simp; omega) (by rw [List.length_map]; exact hOg5)
  rw [List.length_map] at hmk
  refine hmk.mono ?_; rintro e w10 ⟨rfl, hOg10, hg10⟩
  have hB10 := below_app hB5 hg10 hB5.size (fun g hg => Nat.le_trans hB3.size (hOg5.ownGe g hg))
  have hOw10 := hOw5.kept hg10 (own_apart hOw (hOg5.mono s23))
  have B10 : Blk w10 w.heap.size 43 #[.int .i64 a, .int .i64 b, .int .i64 c] := (hg10.block _ B5.lt (fun e => by have := hOg5.ownGe _ e.symm; have := B3.lt; omega)).trans B5
  clear hmk
  have d0 : w10.cell? ⟨w.heap.size, 0, none⟩ = some (.int .i64 a) := B10.cell 0
  have d1 : w10.cell? ⟨w.heap.size, 1, none⟩ = some (.int .i64 b) := B10.cell 1
  have d2 : w10.cell? ⟨w.heap.size, 2, none⟩ = some (.int .i64 c) := B10.cell 2
  go_wp2_with fail
  refine (heldInt64S_c Ag R.length cg 1 w10 (by omega) (by omega) hOg10.sl).mono ?_; rintro e w10' ⟨rfl, rfl⟩
  go_wp2_with fail
  refine (toTick_c a b c _).mono ?_; rintro e w11 ⟨rfl, hb11⟩
  have hB11 := hB10.trans (hb11.mono hB10.size)
  have hOw11 := hOw10.below hb11
  have hOg11 := hOg10.below hb11
  go_wp2_with fail
  refine (HI _).out.mono ?_; rintro e w12 ⟨Ah, ch, rfl, hOh, hb12⟩
  have hB12 := hB11.trans (hb12.mono hB11.size)
  have hOw12 := hOw11.below hb12
  have hOg12 := hOg11.below hb12
  go_wp2_with fail
  refine (eqInt64S_c Ah Aw ch cw R w12 (by omega) hOh.sl hOw12.sl).mono ?_; rintro e w13 ⟨rfl, hb13⟩
  have hB13 := hB12.trans (hb13.mono hB12.size)
  have hOg13 := hOg12.below hb13
  go_wp2_with fail
  refine (heldInt64S_c Ag R.length cg 1 w13 (by omega) (by omega) hOg13.sl).mono ?_; rintro e w14 ⟨rfl, rfl⟩
  go_wp2
  go_ret
  exact ⟨rfl, hB13⟩
end Go.Proofs.Ytcpnmeebbbeakaa
