/- The reference's draws for strips and angles. Condition: the code has at most 4096 bytes. -/
import Derived.Test.YtcpnmeebbbeakaaDraw4
import Derived.Test.YtcpnmeebbbeakaaSmall
namespace Go.Proofs.Ytcpnmeebbbeakaa
open Go.RowKit
set_option maxRecDepth 100000 in
set_option maxHeartbeats 800000 in
theorem drawTurnOf_c (A : Option Addr) (n c : Nat) (w : World) (hn : n ≤ 4096) (hb : Bytes w A n w.heap.size) :
    Calls Try.prog 59 #[.slice A n c] w fun e w' => (∃ r0 : Int, e = .returned (.int .i64 r0)) ∧ Below w.heap.size w w' := by
  have hF := Lib.hid (l01From_c A n c w hn hb)
  clear hb
  go_enter Try.func59, Try.ntmps59
  go_wp2_with (first | (go_at_call 115; refine hF.out.mono ?_; rintro e w1 ⟨rfl, hS, hB⟩) | (go_at_call 131; refine (l30DrawAngle_c A n c _ _ (by with_reducible exact hS)).mono ?_; rintro e w2 ⟨r, rfl, ⟨hr1, hr2⟩, hS, hg⟩; have hB := below_src hB hg hB.size (Nat.le_refl _); clear hg))
  go_ret
  exact ⟨⟨_, rfl⟩, hB⟩
set_option maxRecDepth 100000 in
set_option maxHeartbeats 800000 in
theorem drawSeenAngle_c (A : Option Addr) (n c : Nat) (w : World) (hn : n ≤ 4096) (hb : Bytes w A n w.heap.size) :
    Calls Try.prog 62 #[.slice A n c] w fun e w' => (∃ r0 r1 : Int, e = .returned (.tuple #[.int .i64 r0, .int .i64 r1])) ∧ Below w.heap.size w w' := by
  have hF := Lib.hid (l01From_c A n c w hn hb)
  clear hb
  go_enter Try.func62, Try.ntmps62
  go_wp2_with (first | (go_at_call 115; refine hF.out.mono ?_; rintro e w1 ⟨rfl, hS, hB⟩) | (go_at_call 131; refine (l30DrawAngle_c A n c _ _ (by with_reducible exact hS)).mono ?_; rintro e w2 ⟨r, rfl, ⟨hr1, hr2⟩, hS, hg⟩; have hB := below_src hB hg hB.size (Nat.le_refl _); clear hg))
  go_ret2
  exact ⟨⟨_, _, rfl⟩, hB⟩
set_option maxRecDepth 100000 in
set_option maxHeartbeats 800000 in
theorem drawFigureAt_c (A : Option Addr) (n c : Nat) (w : World) (hn : n ≤ 4096) (hb : Bytes w A n w.heap.size) :
    Calls Try.prog 65 #[.slice A n c] w fun e w' => (∃ r0 r1 : Int, e = .returned (.tuple #[.int .i64 r0, .int .i64 r1])) ∧ Below w.heap.size w w' := by
  have hF := Lib.hid (l01From_c A n c w hn hb)
  clear hb
  go_enter Try.func65, Try.ntmps65
  go_wp2_with (go_at_call 115; refine hF.out.mono ?_; rintro e w1 ⟨rfl, hS, hB⟩)
  refine (l30DrawTurns_c A n c _ _ hS).mono ?_; rintro e w2 ⟨t, rfl, ⟨ht1, ht2⟩, hS, hg⟩
  have hB := below_src hB hg hB.size (Nat.le_refl _)
  have hT := fun W => l30Turns_c t W
  cases htb : inB t 1 20
  all_goals
    rw [htb] at hT
    have hT' := fun W => Lib.hid (hT W); clear hT
  · clear htb
    go_wp2_with (first | (go_at_call 120; refine (hT' _).out.mono ?_; rintro e w3 ⟨rfl, rfl⟩) | (go_at_call 129; refine (l01Next_c A n c _ _ _ (by with_reducible exact hS)).mono ?_; rintro e w2 ⟨r, rfl, ⟨hr1, hr2⟩, hr3, hS, hg⟩; have hB := below_src hB hg hB.size (Nat.le_refl _); clear hg) | (go_at_call 131; refine (l30DrawAngle_c A n c _ _ (by with_reducible exact hS)).mono ?_; rintro e w2 ⟨r, rfl, ⟨hr1, hr2⟩, hS, hg⟩; have hB := below_src hB hg hB.size (Nat.le_refl _); clear hg))
    go_ret2
    exact ⟨⟨_, _, rfl⟩, hB⟩
  · obtain ⟨b1, b2⟩ := inB_true.1 htb
    clear htb
    go_wp2_with (first | (go_at_call 120; refine (hT' _).out.mono ?_; rintro e w3 ⟨rfl, rfl⟩) | (go_at_call 129; refine (l01Next_c A n c _ _ _ (by with_reducible exact hS)).mono ?_; rintro e w2 ⟨r, rfl, ⟨hr1, hr2⟩, hr3, hS, hg⟩; have hB := below_src hB hg hB.size (Nat.le_refl _); clear hg) | (go_at_call 131; refine (l30DrawAngle_c A n c _ _ (by with_reducible exact hS)).mono ?_; rintro e w2 ⟨r, rfl, ⟨hr1, hr2⟩, hS, hg⟩; have hB := below_src hB hg hB.size (Nat.le_refl _); clear hg))
    all_goals
      go_ret2
      exact ⟨⟨_, _, rfl⟩, hB⟩
set_option maxRecDepth 100000 in
set_option maxHeartbeats 800000 in
theorem drawFigureOnStrip_c (A : Option Addr) (n c : Nat) (w : World) (hn : n ≤ 4096) (hb : Bytes w A n w.heap.size) :
    Calls Try.prog 56 #[.slice A n c] w fun e w' => (∃ r0 r1 r2 r3 : Int, e = .returned (.tuple #[.int .i64 r0, .int .i64 r1, .int .i64 r2, .int .i64 r3])) ∧ Below w.heap.size w w' := by
  have hF := Lib.hid (l01From_c A n c w hn hb)
  clear hb
  go_enter Try.func56, Try.ntmps56
  go_wp2_with (go_at_call 115; refine hF.out.mono ?_; rintro e w1 ⟨rfl, hS, hB⟩)
  refine (l30DrawTurns_c A n c _ _ hS).mono ?_; rintro e w2 ⟨t, rfl, ⟨ht1, ht2⟩, hS, hg⟩
  have hB := below_src hB hg hB.size (Nat.le_refl _)
  clear hg
  go_wp2_with fail
  refine (l05DrawLength_c A n c _ _ hS).mono ?_; rintro e w3 ⟨l, rfl, ⟨hl1, hl2⟩, hS, hg⟩
  have hB := below_src hB hg hB.size (Nat.le_refl _)
  clear hg
  go_wp2_with fail
  refine (l01Next_c A n c _ _ _ hS).mono ?_; rintro e w4 ⟨r1, rfl, ⟨h11, h12⟩, _, hS, hg⟩
  have hB := below_src hB hg hB.size (Nat.le_refl _)
  clear hg
  go_wp2_with fail
  refine (l01Next_c A n c _ _ _ hS).mono ?_; rintro e w5 ⟨r2, rfl, ⟨h21, h22⟩, _, hS, hg⟩
  have hB := below_src hB hg hB.size (Nat.le_refl _)
  clear hg
  go_wp2_with fail
  refine (l01Next_c A n c _ _ _ hS).mono ?_; rintro e w6 ⟨r3, rfl, ⟨h31, h32⟩, _, hS, hg⟩
  have hB := below_src hB hg hB.size (Nat.le_refl _)
  clear hg
  go_wp2_with fail
  refine (l01Next_c A n c _ _ _ hS).mono ?_; rintro e w7 ⟨r4, rfl, ⟨h41, h42⟩, _, hS, hg⟩
  have hB := below_src hB hg hB.size (Nat.le_refl _)
  clear hg
  go_wp2_with fail
  refine (l01Next_c A n c _ _ _ hS).mono ?_; rintro e w8 ⟨r5, rfl, ⟨h51, h52⟩, _, hS, hg⟩
  have hB := below_src hB hg hB.size (Nat.le_refl _)
  clear hg
  go_wp2_with fail
  refine bodyPost_ret (v := .tuple #[.int .i64 (r2 - r3 / 23), .int .i64 r5, .int .i64 t, .int .i64 l]) (by simp [results, Try.results56, go_sem]) rfl ⟨⟨_, _, _, _, rfl⟩, hB⟩
set_option maxRecDepth 100000 in
set_option maxHeartbeats 800000 in
theorem drawStripPlace_c (A : Option Addr) (n c : Nat) (w : World) (hn : n ≤ 4096) (hb : Bytes w A n w.heap.size) :
    Calls Try.prog 53 #[.slice A n c] w fun e w' => ∃ a b t l : Int, e = .returned (.tuple #[.agg #[.int .i64 a, .int .i64 b], .int .i64 t, .int .i64 l]) ∧ Below w.heap.size w w' := by
  have hF' := Lib.hid (l01From_c A n c (w.alloc (.cells #[.int .i64 0, .int .i64 0] 36)) hn ((hb.alloc _ (Nat.le_refl _)).more (by simp)))
  have hBel : Below w.heap.size w (w.alloc (.cells #[.int .i64 0, .int .i64 0] 36)) := (by repeat (first | with_reducible exact Below.refl _ _ | with_reducible apply below_drewN' | with_reducible apply Below.drew | (with_reducible refine Below.alloc ?_ (by first | omega | (simp; omega) | simp) _) | (with_reducible refine Below.setCell ?_ (by first | omega | (simp; omega) | simp) _) | exact Below.refl _ _))
  have R1 := Blk.new w 36 #[.int .i64 0, .int .i64 0]
  clear hb
  go_enter Try.func53, Try.ntmps53
  go_wp2_with fail
  refine hF'.out.mono ?_; rintro e w1 ⟨rfl, hS1, hb1⟩
  have hB1 := hBel.trans (hb1.mono (by simp))
  have R11 := R1.below hb1 (by simp)
  have e2 : (w.alloc (.cells #[.int .i64 0, .int .i64 0] 36)).heap.size = w.heap.size + 1 := by simp
  rw [e2] at hS1
  clear hF' hBel R1 hb1 e2
  go_wp2_with fail
  have g1 := hS1.lt
  refine (drawAngleOf_c A n c _ hn (hS1.1.1.more (by omega))).mono ?_; rintro e w2 ⟨a, b, t, rfl, hb2⟩
  have hB2 := hB1.trans (hb2.mono hB1.size)
  have hz2 := hb2.size
  have R12 := R11.below hb2 R11.lt
  have hSw := (hS1.below hb2).alloc (.cells #[.int .i64 a, .int .i64 b] 36)
  have hBw : Below w.heap.size w (w2.alloc (.cells #[.int .i64 a, .int .i64 b] 36)) := (by repeat (first | with_reducible exact hB2 | with_reducible apply below_drewN' | with_reducible apply Below.drew | (with_reducible refine Below.alloc ?_ (by first | omega | (simp; omega) | simp) _) | (with_reducible refine Below.setCell ?_ (by first | omega | (simp; omega) | simp) _) | exact hB2))
  have R1w := R12.alloc (.cells #[.int .i64 a, .int .i64 b] 36)
  have F1w := Blk.new w2 36 #[.int .i64 a, .int .i64 b]
  clear R11 R12 hB1 hB2 hb2
  go_wp2_with fail
  generalize w2.alloc (.cells #[.int .i64 a, .int .i64 b] 36) = W at *
  have gw := hSw.lt
  have r0 : W.cell? ⟨w.heap.size, 0, none⟩ = some (.int .i64 0) := R1w.cell 0
  have rf0 : W.frozen? ⟨w.heap.size, 0, none⟩ = false := R1w.frozen 0
  have r1 : W.cell? ⟨w.heap.size, 1, none⟩ = some (.int .i64 0) := R1w.cell 1
  have rf1 : W.frozen? ⟨w.heap.size, 1, none⟩ = false := R1w.frozen 1
  have rz := R1w.lt
  have x0 : W.cell? ⟨w2.heap.size, 0, none⟩ = some (.int .i64 a) := F1w.cell 0
  have x1 : W.cell? ⟨w2.heap.size, 1, none⟩ = some (.int .i64 b) := F1w.cell 1
  have xz := F1w.lt
  go_region_with (first | (go_at_call 124; refine (l05DrawLength_c A n c _ _ (show Src W.drew A n c _ from hSw.keep fun _ _ => rfl)).mono ?_; rintro e w5 ⟨q, rfl, hq, hS5, hg5⟩; have R1w5 := (show Blk W.drew _ _ _ from R1w).src hg5 (by omega); have r50 : w5.cell? ⟨w.heap.size, 0, none⟩ = some (.int .i64 0) := R1w5.cell 0; have r5f0 : w5.frozen? ⟨w.heap.size, 0, none⟩ = false := R1w5.frozen 0; have r51 : w5.cell? ⟨w.heap.size, 1, none⟩ = some (.int .i64 0) := R1w5.cell 1; have r5f1 : w5.frozen? ⟨w.heap.size, 1, none⟩ = false := R1w5.frozen 1; have r5z := R1w5.lt; have F1w5 := (show Blk W.drew _ _ _ from F1w).src hg5 (by omega); have x50 : w5.cell? ⟨w2.heap.size, 0, none⟩ = some (.int .i64 a) := F1w5.cell 0; have x51 : w5.cell? ⟨w2.heap.size, 1, none⟩ = some (.int .i64 b) := F1w5.cell 1; have x5z := F1w5.lt; have hB5 := below_src hBw.drew hg5 hBw.size (by omega)))
  all_goals
    go_wp2_with fail
    refine bodyPost_ret (v := .tuple #[.agg #[.int .i64 a, .int .i64 b], .int .i64 t, .int .i64 q]) (by simp [results, Try.results53, go_sem, r50, r51]) rfl ⟨a, b, t, q, rfl, (by repeat (first | with_reducible exact hB5 | with_reducible apply below_drewN' | with_reducible apply Below.drew | (with_reducible refine Below.alloc ?_ (by first | omega | (simp; omega) | simp) _) | (with_reducible refine Below.setCell ?_ (by first | omega | (simp; omega) | simp) _) | exact hB5))⟩
end Go.Proofs.Ytcpnmeebbbeakaa
