/- The reference's draws for the circular rule: turning, angles, strips. Condition: the code has at most 4096 bytes. -/
import Derived.Test.YtcpnmeebbbeakaaDraw3
namespace Go.Proofs.Ytcpnmeebbbeakaa
open Go.RowKit
set_option maxRecDepth 100000 in
set_option maxHeartbeats 800000 in
theorem drawTurnMultiply_c (A : Option Addr) (n c : Nat) (w : World) (hn : n ≤ 4096) (hb : Bytes w A n w.heap.size) :
    Calls Try.prog 47 #[.slice A n c] w fun e w' => ∃ a b a' b' t : Int, e = .returned (.tuple #[.agg #[.int .i64 a, .int .i64 b], .agg #[.int .i64 a', .int .i64 b'], .int .i64 t]) ∧ Below w.heap.size w w' := by
  have hF' := Lib.hid (l01From_c A n c ((w.alloc (.cells #[.int .i64 0, .int .i64 0] 36)).alloc (.cells #[.int .i64 0, .int .i64 0] 36)) hn (((hb.alloc _ (Nat.le_refl _)).alloc _ (by simp)).more (by simp; omega)))
  have hBel : Below w.heap.size w ((w.alloc (.cells #[.int .i64 0, .int .i64 0] 36)).alloc (.cells #[.int .i64 0, .int .i64 0] 36)) := (by repeat (first | with_reducible exact Below.refl _ _ | with_reducible apply below_drewN' | with_reducible apply Below.drew | (with_reducible refine Below.alloc ?_ (by first | omega | (simp; omega) | simp) _) | (with_reducible refine Below.setCell ?_ (by first | omega | (simp; omega) | simp) _) | exact Below.refl _ _))
  have R1 := (Blk.new w 36 #[.int .i64 0, .int .i64 0]).alloc (.cells #[.int .i64 0, .int .i64 0] 36)
  have R2 := Blk.new' (w.alloc (.cells #[.int .i64 0, .int .i64 0] 36)) 36 #[.int .i64 0, .int .i64 0] (g := w.heap.size + 1) (by simp)
  clear hb
  go_enter Try.func47, Try.ntmps47
  go_wp2_with fail
  refine hF'.out.mono ?_; rintro e w1 ⟨rfl, hS1, hb1⟩
  have hB1 := hBel.trans (hb1.mono (by simp; omega))
  have R11 := R1.below hb1 (by simp; omega)
  have R21 := R2.below hb1 (by simp)
  have e2 : ((w.alloc (.cells #[.int .i64 0, .int .i64 0] 36)).alloc (.cells #[.int .i64 0, .int .i64 0] 36)).heap.size = w.heap.size + 2 := by simp
  rw [e2] at hS1
  clear hF' hBel R1 R2 hb1 e2
  go_wp2_with fail
  have g1 := hS1.lt
  refine (l02DrawTwo_c A n c _ hn (hS1.1.1.more (by omega))).mono ?_; rintro e w2 ⟨a, b, a', b', rfl, hb2⟩
  have hB2 := hB1.trans (hb2.mono hB1.size)
  have hz2 := hb2.size
  have hSw := ((hS1.below hb2).alloc (.cells #[.int .i64 a, .int .i64 b] 36)).alloc (.cells #[.int .i64 a', .int .i64 b'] 36)
  have hBw : Below w.heap.size w ((w2.alloc (.cells #[.int .i64 a, .int .i64 b] 36)).alloc (.cells #[.int .i64 a', .int .i64 b'] 36)) := (by repeat (first | with_reducible exact hB2 | with_reducible apply below_drewN' | with_reducible apply Below.drew | (with_reducible refine Below.alloc ?_ (by first | omega | (simp; omega) | simp) _) | (with_reducible refine Below.setCell ?_ (by first | omega | (simp; omega) | simp) _) | exact hB2))
  have R1w := ((R11.below hb2 R11.lt).alloc (.cells #[.int .i64 a, .int .i64 b] 36)).alloc (.cells #[.int .i64 a', .int .i64 b'] 36)
  have R2w := ((R21.below hb2 R21.lt).alloc (.cells #[.int .i64 a, .int .i64 b] 36)).alloc (.cells #[.int .i64 a', .int .i64 b'] 36)
  have F1w := (Blk.new w2 36 #[.int .i64 a, .int .i64 b]).alloc (.cells #[.int .i64 a', .int .i64 b'] 36)
  have F2w := Blk.new' (w2.alloc (.cells #[.int .i64 a, .int .i64 b] 36)) 36 #[.int .i64 a', .int .i64 b'] (g := w2.heap.size + 1) (by simp)
  clear R11 R21 hB1 hB2 hb2
  go_wp2_with fail
  generalize (w2.alloc (.cells #[.int .i64 a, .int .i64 b] 36)).alloc (.cells #[.int .i64 a', .int .i64 b'] 36) = W at *
  have gw := hSw.lt
  have r0 : W.cell? ⟨w.heap.size, 0, none⟩ = some (.int .i64 0) := R1w.cell 0
  have rf0 : W.frozen? ⟨w.heap.size, 0, none⟩ = false := R1w.frozen 0
  have r1 : W.cell? ⟨w.heap.size, 1, none⟩ = some (.int .i64 0) := R1w.cell 1
  have rf1 : W.frozen? ⟨w.heap.size, 1, none⟩ = false := R1w.frozen 1
  have rz := R1w.lt
  have s0 : W.cell? ⟨w.heap.size + 1, 0, none⟩ = some (.int .i64 0) := R2w.cell 0
  have sf0 : W.frozen? ⟨w.heap.size + 1, 0, none⟩ = false := R2w.frozen 0
  have s1 : W.cell? ⟨w.heap.size + 1, 1, none⟩ = some (.int .i64 0) := R2w.cell 1
  have sf1 : W.frozen? ⟨w.heap.size + 1, 1, none⟩ = false := R2w.frozen 1
  have sz := R2w.lt
  have x0 : W.cell? ⟨w2.heap.size, 0, none⟩ = some (.int .i64 a) := F1w.cell 0
  have x1 : W.cell? ⟨w2.heap.size, 1, none⟩ = some (.int .i64 b) := F1w.cell 1
  have xz := F1w.lt
  have y0 : W.cell? ⟨w2.heap.size + 1, 0, none⟩ = some (.int .i64 a') := F2w.cell 0
  have y1 : W.cell? ⟨w2.heap.size + 1, 1, none⟩ = some (.int .i64 b') := F2w.cell 1
  have yz := F2w.lt
  go_region_with (first | (go_at_call 117; refine (l30DrawTurns_c A n c _ _ (show Src W.drew A n c _ from hSw.keep fun _ _ => rfl)).mono ?_; rintro e w5 ⟨q, rfl, hq, hS5, hg5⟩; have R1w5 := (show Blk W.drew _ _ _ from R1w).src hg5 (by omega); have r50 : w5.cell? ⟨w.heap.size, 0, none⟩ = some (.int .i64 0) := R1w5.cell 0; have r5f0 : w5.frozen? ⟨w.heap.size, 0, none⟩ = false := R1w5.frozen 0; have r51 : w5.cell? ⟨w.heap.size, 1, none⟩ = some (.int .i64 0) := R1w5.cell 1; have r5f1 : w5.frozen? ⟨w.heap.size, 1, none⟩ = false := R1w5.frozen 1; have r5z := R1w5.lt; have R2w5 := (show Blk W.drew _ _ _ from R2w).src hg5 (by omega); have s50 : w5.cell? ⟨w.heap.size + 1, 0, none⟩ = some (.int .i64 0) := R2w5.cell 0; have s5f0 : w5.frozen? ⟨w.heap.size + 1, 0, none⟩ = false := R2w5.frozen 0; have s51 : w5.cell? ⟨w.heap.size + 1, 1, none⟩ = some (.int .i64 0) := R2w5.cell 1; have s5f1 : w5.frozen? ⟨w.heap.size + 1, 1, none⟩ = false := R2w5.frozen 1; have s5z := R2w5.lt; have F1w5 := (show Blk W.drew _ _ _ from F1w).src hg5 (by omega); have x50 : w5.cell? ⟨w2.heap.size, 0, none⟩ = some (.int .i64 a) := F1w5.cell 0; have x51 : w5.cell? ⟨w2.heap.size, 1, none⟩ = some (.int .i64 b) := F1w5.cell 1; have x5z := F1w5.lt; have F2w5 := (show Blk W.drew _ _ _ from F2w).src hg5 (by omega); have y50 : w5.cell? ⟨w2.heap.size + 1, 0, none⟩ = some (.int .i64 a') := F2w5.cell 0; have y51 : w5.cell? ⟨w2.heap.size + 1, 1, none⟩ = some (.int .i64 b') := F2w5.cell 1; have y5z := F2w5.lt; have hB5 := below_src hBw.drew hg5 hBw.size (by omega)))
  all_goals
    go_wp2_with fail
    refine bodyPost_ret (v := .tuple #[.agg #[.int .i64 a, .int .i64 b], .agg #[.int .i64 a', .int .i64 b'], .int .i64 q]) (by simp [results, Try.results47, go_sem, r50, r51, s50, s51]) rfl ⟨a, b, a', b', q, rfl, (by repeat (first | with_reducible exact hB5 | with_reducible apply below_drewN' | with_reducible apply Below.drew | (with_reducible refine Below.alloc ?_ (by first | omega | (simp; omega) | simp) _) | (with_reducible refine Below.setCell ?_ (by first | omega | (simp; omega) | simp) _) | exact hB5))⟩
set_option maxRecDepth 100000 in
theorem drawTurnDivide_c (A : Option Addr) (n c : Nat) (w : World) (hn : n ≤ 4096) (hb : Bytes w A n w.heap.size) :
    Calls Try.prog 48 #[.slice A n c] w fun e w' => ∃ a b a' b' t : Int, e = .returned (.tuple #[.agg #[.int .i64 a, .int .i64 b], .agg #[.int .i64 a', .int .i64 b'], .int .i64 t]) ∧ Below w.heap.size w w' := by
  have hF' := Lib.hid (drawTurnMultiply_c A n c ((w.alloc (.cells #[.int .i64 0, .int .i64 0] 36)).alloc (.cells #[.int .i64 0, .int .i64 0] 36)) hn (((hb.alloc _ (Nat.le_refl _)).alloc _ (by simp)).more (by simp; omega)))
  have hBel : Below w.heap.size w ((w.alloc (.cells #[.int .i64 0, .int .i64 0] 36)).alloc (.cells #[.int .i64 0, .int .i64 0] 36)) := (by repeat (first | with_reducible exact Below.refl _ _ | with_reducible apply below_drewN' | with_reducible apply Below.drew | (with_reducible refine Below.alloc ?_ (by first | omega | (simp; omega) | simp) _) | (with_reducible refine Below.setCell ?_ (by first | omega | (simp; omega) | simp) _) | exact Below.refl _ _))
  have R1 := (Blk.new w 36 #[.int .i64 0, .int .i64 0]).alloc (.cells #[.int .i64 0, .int .i64 0] 36)
  have R2 := Blk.new' (w.alloc (.cells #[.int .i64 0, .int .i64 0] 36)) 36 #[.int .i64 0, .int .i64 0] (g := w.heap.size + 1) (by simp)
  clear hb
  go_enter Try.func48, Try.ntmps48
  go_wp2_with (go_at_call 47; refine hF'.out.mono ?_; rintro e w1 ⟨a, b, a', b', t, rfl, hb1⟩; have hB1 := hBel.trans (hb1.mono (by simp; omega)); have R11 := R1.below hb1 (by simp; omega); have R21 := R2.below hb1 (by simp); have r0 : w1.cell? ⟨w.heap.size, 0, none⟩ = some (.int .i64 0) := R11.cell 0; have rf0 : w1.frozen? ⟨w.heap.size, 0, none⟩ = false := R11.frozen 0; have r1 : w1.cell? ⟨w.heap.size, 1, none⟩ = some (.int .i64 0) := R11.cell 1; have rf1 : w1.frozen? ⟨w.heap.size, 1, none⟩ = false := R11.frozen 1; have rz := R11.lt; have s0 : w1.cell? ⟨w.heap.size + 1, 0, none⟩ = some (.int .i64 0) := R21.cell 0; have sf0 : w1.frozen? ⟨w.heap.size + 1, 0, none⟩ = false := R21.frozen 0; have s1 : w1.cell? ⟨w.heap.size + 1, 1, none⟩ = some (.int .i64 0) := R21.cell 1; have sf1 : w1.frozen? ⟨w.heap.size + 1, 1, none⟩ = false := R21.frozen 1; have sz := R21.lt)
  refine bodyPost_ret (v := .tuple #[.agg #[.int .i64 a, .int .i64 b], .agg #[.int .i64 a', .int .i64 b'], .int .i64 t]) (by simp [results, Try.results48, go_sem, r0, r1, s0, s1]) rfl ⟨a, b, a', b', t, rfl, (by repeat (first | with_reducible exact hB1 | with_reducible apply below_drewN' | with_reducible apply Below.drew | (with_reducible refine Below.alloc ?_ (by first | omega | (simp; omega) | simp) _) | (with_reducible refine Below.setCell ?_ (by first | omega | (simp; omega) | simp) _) | exact hB1))⟩
set_option maxRecDepth 100000 in
set_option maxHeartbeats 800000 in
theorem drawAngleOf_c (A : Option Addr) (n c : Nat) (w : World) (hn : n ≤ 4096) (hb : Bytes w A n w.heap.size) :
    Calls Try.prog 49 #[.slice A n c] w fun e w' => ∃ a b t : Int, e = .returned (.tuple #[.agg #[.int .i64 a, .int .i64 b], .int .i64 t]) ∧ Below w.heap.size w w' := by
  have hF' := Lib.hid (l01From_c A n c (w.alloc (.cells #[.int .i64 0, .int .i64 0] 36)) hn ((hb.alloc _ (Nat.le_refl _)).more (by simp)))
  have hBel : Below w.heap.size w (w.alloc (.cells #[.int .i64 0, .int .i64 0] 36)) := (by repeat (first | with_reducible exact Below.refl _ _ | with_reducible apply below_drewN' | with_reducible apply Below.drew | (with_reducible refine Below.alloc ?_ (by first | omega | (simp; omega) | simp) _) | (with_reducible refine Below.setCell ?_ (by first | omega | (simp; omega) | simp) _) | exact Below.refl _ _))
  have R1 := Blk.new w 36 #[.int .i64 0, .int .i64 0]
  clear hb
  go_enter Try.func49, Try.ntmps49
  go_wp2_with fail
  refine hF'.out.mono ?_; rintro e w1 ⟨rfl, hS1, hb1⟩
  have hB1 := hBel.trans (hb1.mono (by simp))
  have R11 := R1.below hb1 (by simp)
  have e2 : (w.alloc (.cells #[.int .i64 0, .int .i64 0] 36)).heap.size = w.heap.size + 1 := by simp
  rw [e2] at hS1
  clear hF' hBel R1 hb1 e2
  go_wp2_with fail
  have g1 := hS1.lt
  refine (l02Draw_c A n c _ _ hS1).mono ?_; rintro e w2 ⟨a, b, rfl, _, _, hS2, hg2⟩
  have hB2 := below_src hB1 hg2 hB1.size (by omega)
  have R12 := R11.src hg2 (by omega)
  have hz2 := hS2.lt
  have hSw := hS2.alloc (.cells #[.int .i64 a, .int .i64 b] 36)
  have hBw : Below w.heap.size w (w2.alloc (.cells #[.int .i64 a, .int .i64 b] 36)) := (by repeat (first | with_reducible exact hB2 | with_reducible apply below_drewN' | with_reducible apply Below.drew | (with_reducible refine Below.alloc ?_ (by first | omega | (simp; omega) | simp) _) | (with_reducible refine Below.setCell ?_ (by first | omega | (simp; omega) | simp) _) | exact hB2))
  have R1w := R12.alloc (.cells #[.int .i64 a, .int .i64 b] 36)
  have F1w := Blk.new w2 36 #[.int .i64 a, .int .i64 b]
  clear R11 R12 hB1 hB2 hg2
  go_wp2_with fail
  generalize w2.alloc (.cells #[.int .i64 a, .int .i64 b] 36) = W at *
  have gw := hSw.lt
  have r0 : W.cell? ⟨w.heap.size, 0, none⟩ = some (.int .i64 0) := R1w.cell 0
  have rf0 : W.frozen? ⟨w.heap.size, 0, none⟩ = false := R1w.frozen 0
  have r1 : W.cell? ⟨w.heap.size, 1, none⟩ = some (.int .i64 0) := R1w.cell 1
  have rf1 : W.frozen? ⟨w.heap.size, 1, none⟩ = false := R1w.frozen 1
  have rz := R1w.lt
  have x0 : W.cell? ⟨w2.heap.size, 0, none⟩ = some (.int .i64 a) := F1w.cell 0
  have x1 : W.cell? ⟨w2.heap.size, 1, none⟩ = some (.int .i64 b) := F1w.cell 1
  have xz := F1w.lt
  go_region_with (first | (go_at_call 117; refine (l30DrawTurns_c A n c _ _ (show Src W.drew A n c _ from hSw.keep fun _ _ => rfl)).mono ?_; rintro e w5 ⟨q, rfl, hq, hS5, hg5⟩; have R1w5 := (show Blk W.drew _ _ _ from R1w).src hg5 (by omega); have r50 : w5.cell? ⟨w.heap.size, 0, none⟩ = some (.int .i64 0) := R1w5.cell 0; have r5f0 : w5.frozen? ⟨w.heap.size, 0, none⟩ = false := R1w5.frozen 0; have r51 : w5.cell? ⟨w.heap.size, 1, none⟩ = some (.int .i64 0) := R1w5.cell 1; have r5f1 : w5.frozen? ⟨w.heap.size, 1, none⟩ = false := R1w5.frozen 1; have r5z := R1w5.lt; have F1w5 := (show Blk W.drew _ _ _ from F1w).src hg5 (by omega); have x50 : w5.cell? ⟨w2.heap.size, 0, none⟩ = some (.int .i64 a) := F1w5.cell 0; have x51 : w5.cell? ⟨w2.heap.size, 1, none⟩ = some (.int .i64 b) := F1w5.cell 1; have x5z := F1w5.lt; have hB5 := below_src hBw.drew hg5 hBw.size (by omega)))
  all_goals
    go_wp2_with fail
    refine bodyPost_ret (v := .tuple #[.agg #[.int .i64 a, .int .i64 b], .int .i64 q]) (by simp [results, Try.results49, go_sem, r50, r51]) rfl ⟨a, b, q, rfl, (by repeat (first | with_reducible exact hB5 | with_reducible apply below_drewN' | with_reducible apply Below.drew | (with_reducible refine Below.alloc ?_ (by first | omega | (simp; omega) | simp) _) | (with_reducible refine Below.setCell ?_ (by first | omega | (simp; omega) | simp) _) | exact hB5))⟩
end Go.Proofs.Ytcpnmeebbbeakaa
