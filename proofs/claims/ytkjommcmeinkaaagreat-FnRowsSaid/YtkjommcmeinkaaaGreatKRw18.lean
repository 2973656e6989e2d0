/- PlaceDifference: both sides and the law, walked. No condition. -/
import Derived.Test.YtkjommcmeinkaaaGreatKRw17
set_option linter.unusedSimpArgs false
namespace Go.Proofs.YtkjommcmeinkaaaGreat
open Go.RowKit
def pdRes (s n : Int) (t : Tick) : Int × Int := if printCode s n [t] 0 = 0 then (away s n t.mark t.place, 0) else (0, printCode s n [t] 0)
theorem print_ok {s n tol : Int} {l : List Tick} (h : printCode s n l tol = 0) : (0 ≤ s ∧ s ≤ 5) ∧ (1 ≤ n ∧ n ≤ 100000) ∧ (0 ≤ tol ∧ tol ≤ 200) ∧ l.all tickOK = true := by
  unfold printCode at h
  split at h
  · rename_i hr
    cases h1 : inB s 0 5 <;> cases h2 : inB n 1 100000 <;> cases h3 : inB tol 0 200 <;> simp [h1, h2, h3] at h
    exact ⟨inB_true.1 h1, inB_true.1 h2, inB_true.1 h3, (rowCode_ok hr).2⟩
  · rename_i hr; exact absurd h hr
theorem pd_ok {s n : Int} {t : Tick} (h : printCode s n [t] 0 = 0) : (0 ≤ s ∧ s ≤ 5) ∧ (1 ≤ n ∧ n ≤ 100000) ∧ (1000 ≤ t.mark ∧ t.mark ≤ 9999) ∧ (0 ≤ t.place ∧ t.place ≤ 100000) := by
  obtain ⟨h1, h2, _, h4⟩ := print_ok h
  have h5 : tickOK t = true := by simpa using h4
  exact ⟨h1, h2, (tick_bd h5).1, (tick_bd h5).2⟩
theorem one_tick {w : World} {g : Nat} {t : TypeId} {f : Tick} (h : Blk w g t #[.int .i64 f.mark, .int .i64 f.place, .int .i64 f.height]) (hg : g < w.heap.size) : Sl w w.heap.size 3 (some ⟨g, 0, none⟩) ([f].map Tick.cells) :=
  (Sl.of_blk h _ rfl (by simp [Tick.cells])).more hg
set_option maxRecDepth 100000 in
theorem implPlaceDifference_c (s n : Int) (t : Tick) (w : World) : Calls Tryz.prog 19 #[.int .i64 s, .int .i64 n, t.agg] w fun e w' => e = .returned (.tuple #[.int .i64 (pdRes s n t).1, .int .i64 (pdRes s n t).2]) ∧ Below w.heap.size w w' := by
  have hC := fun W A c hs => checkPrint_c s n A c [t] 0 W (by simp) hs
  have hO := fun (W : World) (g : Nat) (h : Blk W g 25 #[.int .i64 t.mark, .int .i64 t.place, .int .i64 t.height]) => one_tick h h.lt
  by_cases h0 : printCode s n [t] 0 = 0
  · obtain ⟨hs, hn, hm, hp⟩ := pd_ok h0
    have HR : Hid (pdRes s n t = (away s n t.mark t.place, 0)) := by unfold Hid pdRes; rw [if_pos h0]
    have HW := fun W => Lib.hid (placeDifference_c s n t.mark t.place W hs hm hn hp)
    rw [h0] at hC
    clear h0 hs hn hm hp
    have HC := fun W A c hs => Lib.hid (hC W A c hs); clear hC
    generalize away s n t.mark t.place = aw at *
    obtain ⟨m, p, h⟩ := t
    unfold Tick.agg
    simp only at *
    go_enter Tryz.func19, Tryz.ntmps19
    go_wp2_with (first | (go_at_call 23; refine (HC _ _ _ (hO _ _ (Blk.new' _ _ _ (by simp)))).out.mono ?_; rintro e w1 ⟨rfl, hb1⟩; have Bx := ((Blk.new w 25 #[.int .i64 m, .int .i64 p, .int .i64 h]).alloc (.cells #[.int .i64 m, .int .i64 p, .int .i64 h] 25)).below hb1 (by first | (simp; done) | (simp; omega)); have x0 : w1.cell? ⟨w.heap.size, 0, none⟩ = some (.int .i64 m) := Bx.cell 0; have x1 : w1.cell? ⟨w.heap.size, 1, none⟩ = some (.int .i64 p) := Bx.cell 1; have hB1 : Below w.heap.size w w1 := ((Below.alloc (Below.alloc (Below.refl _ _) (Nat.le_refl _) _) (by simp) _ : Below w.heap.size w ((w.alloc (.cells #[.int .i64 m, .int .i64 p, .int .i64 h] 25)).alloc (.cells #[.int .i64 m, .int .i64 p, .int .i64 h] 25)))).trans (hb1.mono (by first | (simp; done) | (simp; omega)))) | (go_at_call 45; refine (HW _).out.mono ?_; rintro e w2 ⟨rfl, hb2⟩))
    go_ret2
    exact ⟨by rw [HR.out]; rfl, hB1.trans (hb2.mono hB1.size)⟩
  · have HR : Hid (pdRes s n t = (0, printCode s n [t] 0)) := by unfold Hid pdRes; rw [if_neg h0]
    have HC := fun W A c hs => Lib.hid (hC W A c hs); clear hC
    have hne : (printCode s n [t] 0 != 0) = true := by simp [h0]
    generalize printCode s n [t] 0 = pc at *
    clear h0
    obtain ⟨m, p, h⟩ := t
    unfold Tick.agg
    simp only at *
    go_enter Tryz.func19, Tryz.ntmps19
    go_wp2_with (first | (go_at_call 23; refine (HC _ _ _ (hO _ _ (Blk.new' _ _ _ (by simp)))).out.mono ?_; rintro e w1 ⟨rfl, hb1⟩; have Bx := ((Blk.new w 25 #[.int .i64 m, .int .i64 p, .int .i64 h]).alloc (.cells #[.int .i64 m, .int .i64 p, .int .i64 h] 25)).below hb1 (by first | (simp; done) | (simp; omega)); have x0 : w1.cell? ⟨w.heap.size, 0, none⟩ = some (.int .i64 m) := Bx.cell 0; have x1 : w1.cell? ⟨w.heap.size, 1, none⟩ = some (.int .i64 p) := Bx.cell 1; have hB1 : Below w.heap.size w w1 := ((Below.alloc (Below.alloc (Below.refl _ _) (Nat.le_refl _) _) (by simp) _ : Below w.heap.size w ((w.alloc (.cells #[.int .i64 m, .int .i64 p, .int .i64 h] 25)).alloc (.cells #[.int .i64 m, .int .i64 p, .int .i64 h] 25)))).trans (hb1.mono (by first | (simp; done) | (simp; omega)))))
    go_ret2
    exact ⟨by rw [HR.out]; rfl, hB1⟩
end Go.Proofs.YtkjommcmeinkaaaGreat
