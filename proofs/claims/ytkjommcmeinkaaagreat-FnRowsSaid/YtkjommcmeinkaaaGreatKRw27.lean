/- The reference's draws for the misprints. Condition: the code has at most 4096 bytes. -/
import Derived.Test.YtkjommcmeinkaaaGreatKRw26
set_option linter.unusedSimpArgs false
namespace Go.Proofs.YtkjommcmeinkaaaGreat
open Go.RowKit
set_option maxRecDepth 100000 in
set_option maxHeartbeats 800000 in
theorem l29DrawTick_c (A : Option Addr) (n c g : Nat) (w : World) (hS : Src w A n c g) :
    Calls Tryz.prog 21 #[.pointer (some ⟨g, 0, none⟩)] w fun e w' => ∃ sc ln a b d : Int, e = .returned (.tuple #[.int .i64 sc, .int .i64 ln, .agg #[.int .i64 a, .int .i64 b, .int .i64 d]]) ∧ Src w' A n c g ∧ w.grownBy w' (some g) := by
  have hG : w.grownBy (w.alloc (.cells #[.int .i64 0, .int .i64 0, .int .i64 0] 25)) (some g) := grown_alloc _ _
  have hlt := hS.lt
  have Br := Blk.new w 25 #[.int .i64 0, .int .i64 0, .int .i64 0]
  have hS := hS.alloc (.cells #[.int .i64 0, .int .i64 0, .int .i64 0] 25)
  go_enter Tryz.func21, Tryz.ntmps21
  go_wp2_with fail
  refine (l29Draw_c A n c g _ hS).mono ?_; rintro e w2 ⟨sc, ln, R, A', c', rfl, hR, hO, hS2, hg⟩
  have hG2 := hG.trans hg
  have Br2 := Br.src hg (by omega)
  clear hS hG Br hg
  have r0 : w2.cell? ⟨w.heap.size, 0, none⟩ = some (.int .i64 0) := Br2.cell 0
  have rf0 : w2.frozen? ⟨w.heap.size, 0, none⟩ = false := Br2.frozen 0
  have r1 : w2.cell? ⟨w.heap.size, 1, none⟩ = some (.int .i64 0) := Br2.cell 1
  have rf1 : w2.frozen? ⟨w.heap.size, 1, none⟩ = false := Br2.frozen 1
  have r2 : w2.cell? ⟨w.heap.size, 2, none⟩ = some (.int .i64 0) := Br2.cell 2
  have rf2 : w2.frozen? ⟨w.heap.size, 2, none⟩ = false := Br2.frozen 2
  have rz := Br2.lt
  by_cases h0 : R.length = 0
  · go_wp2_with fail
    refine bodyPost_ret (v := .tuple #[.int .i64 sc, .int .i64 ln, .agg #[.int .i64 2000, .int .i64 100, .int .i64 0]]) (by simp [results, Tryz.results21, go_sem, r0, r1, r2]) rfl ⟨sc, ln, 2000, 100, 0, rfl, ((hS2.far (by simp only; omega)).far (by simp only; omega)).far (by simp only; omega), grown_far (grown_far (grown_far hG2 (by simp)) (by simp)) (by simp)⟩
  · obtain ⟨m, hm⟩ : ∃ m, R.length = m + 1 := ⟨R.length - 1, by omega⟩
    obtain ⟨b, off, rfl, hbB, hc⟩ := hO.sl.at_ (i := m) (by rw [List.length_map]; omega)
    obtain rfl := hO.off0 (i := m) (by rw [List.length_map]; omega)
    simp only [List.getElem_map, Nat.zero_add] at hc
    have hbge := hO.ownGe b rfl
    have hm' : m < R.length := by omega
    have x0 : w2.cell? ⟨b, m * 3, none⟩ = some (.int .i64 R[m].mark) := hc 0 _ rfl
    have x1 : w2.cell? ⟨b, m * 3 + 1, none⟩ = some (.int .i64 R[m].place) := hc 1 _ rfl
    have x2 : w2.cell? ⟨b, m * 3 + 2, none⟩ = some (.int .i64 R[m].height) := hc 2 _ rfl
    clear hc
    generalize R[m] = tk at *
    have hm100 : m ≤ 100 := by omega
    have hO' := Lib.hid hO; clear hO hm' h0 hR
    rw [hm]
    clear hm
    have hv1 : IntKind.i64.wrap (m : Int) = m := IntWalk.i64_in _ (by omega)
    have hv2 : (0 : Int) ≤ m := by omega
    have hv3 : (m : Int) < (m : Int) + 1 := by omega
    have hv4 : IntKind.i64.wrap ((m : Int) + 1 - 1) = m := by rw [show (m : Int) + 1 - 1 = m from by omega]; exact hv1
    go_wp2_with fail
    go_region_with (fail)
    all_goals
      go_wp2_with fail
      refine bodyPost_ret (v := .tuple #[.int .i64 sc, .int .i64 ln, .agg #[.int .i64 tk.mark, .int .i64 tk.place, .int .i64 tk.height]]) (by simp [results, Tryz.results21, go_sem, r0, r1, r2]) rfl ⟨sc, ln, tk.mark, tk.place, tk.height, rfl, (((show Src w2.drew A n c g from hS2.keep fun _ _ => rfl).far (by simp only; omega)).far (by simp only; omega)).far (by simp only; omega), grown_far (grown_far (grown_far (grown_drewN hG2 1) (by simp)) (by simp)) (by simp)⟩
set_option maxRecDepth 100000 in
set_option maxHeartbeats 800000 in
theorem drawIsMisprint_c (A : Option Addr) (n c : Nat) (w : World) (hn : n ≤ 4096) (hb : Bytes w A n w.heap.size) :
    Calls Tryz.prog 5 #[.slice A n c] w fun e w' => ∃ sc ln a b d q : Int, e = .returned (.tuple #[.int .i64 sc, .int .i64 ln, .agg #[.int .i64 a, .int .i64 b, .int .i64 d], .int .i64 q]) ∧ Below w.heap.size w w' := by
  have hF' := Lib.hid (l01From_c A n c (w.alloc (.cells #[.int .i64 0, .int .i64 0, .int .i64 0] 25)) hn ((hb.alloc _ (Nat.le_refl _)).more (by simp)))
  have hBel : Below w.heap.size w (w.alloc (.cells #[.int .i64 0, .int .i64 0, .int .i64 0] 25)) := (by repeat (first | with_reducible exact Below.refl _ _ | with_reducible apply below_drewN' | with_reducible apply Below.drew | (with_reducible refine Below.alloc ?_ (by first | omega | (simp; omega) | simp | (have := (Below.refl _ _).size; omega) | (have := (Below.refl _ _).size; simp; omega)) _) | (with_reducible refine Below.setCell ?_ (by first | omega | (simp; omega) | simp | (have := (Below.refl _ _).size; omega) | (have := (Below.refl _ _).size; simp; omega)) _) | exact Below.refl _ _))
  have R1 := Blk.new w 25 #[.int .i64 0, .int .i64 0, .int .i64 0]
  clear hb
  go_enter Tryz.func5, Tryz.ntmps5
  go_wp2_with fail
  refine hF'.out.mono ?_; rintro e w1 ⟨rfl, hS1, hb1⟩
  have hB1 := hBel.trans (hb1.mono (by simp))
  have R11 := R1.below hb1 (by simp)
  have e2 : (w.alloc (.cells #[.int .i64 0, .int .i64 0, .int .i64 0] 25)).heap.size = w.heap.size + 1 := by simp
  rw [e2] at hS1
  clear hF' hBel R1 hb1 e2
  go_wp2_with fail
  have g1 := hS1.lt
  refine (l29DrawTick_c A n c _ _ hS1).mono ?_; rintro e w2 ⟨sc, ln, a, b, d, rfl, hS2, hg2⟩
  have hB2 := below_src hB1 hg2 hB1.size (by omega)
  have R12 := R11.src hg2 (by omega)
  clear R11 hB1 hg2
  have hz2 := hS2.lt
  have hB2s := hB2.size
  have hSw := hS2.alloc (.cells #[.int .i64 a, .int .i64 b, .int .i64 d] 25)
  have hBw : Below w.heap.size w (w2.alloc (.cells #[.int .i64 a, .int .i64 b, .int .i64 d] 25)) := (by repeat (first | with_reducible exact hB2 | with_reducible apply below_drewN' | with_reducible apply Below.drew | (with_reducible refine Below.alloc ?_ (by first | omega | (simp; omega) | simp | (have := (hB2).size; omega) | (have := (hB2).size; simp; omega)) _) | (with_reducible refine Below.setCell ?_ (by first | omega | (simp; omega) | simp | (have := (hB2).size; omega) | (have := (hB2).size; simp; omega)) _) | exact hB2))
  have R1w := R12.alloc (.cells #[.int .i64 a, .int .i64 b, .int .i64 d] 25)
  have F1w := Blk.new w2 25 #[.int .i64 a, .int .i64 b, .int .i64 d]
  go_wp2_with fail
  generalize w2.alloc (.cells #[.int .i64 a, .int .i64 b, .int .i64 d] 25) = W at *
  have gw := hSw.lt
  have r0 : W.cell? ⟨w.heap.size, 0, none⟩ = some (.int .i64 0) := R1w.cell 0
  have rf0 : W.frozen? ⟨w.heap.size, 0, none⟩ = false := R1w.frozen 0
  have r1 : W.cell? ⟨w.heap.size, 1, none⟩ = some (.int .i64 0) := R1w.cell 1
  have rf1 : W.frozen? ⟨w.heap.size, 1, none⟩ = false := R1w.frozen 1
  have r2 : W.cell? ⟨w.heap.size, 2, none⟩ = some (.int .i64 0) := R1w.cell 2
  have rf2 : W.frozen? ⟨w.heap.size, 2, none⟩ = false := R1w.frozen 2
  have rz := R1w.lt
  have x0 : W.cell? ⟨w2.heap.size, 0, none⟩ = some (.int .i64 a) := F1w.cell 0
  have x1 : W.cell? ⟨w2.heap.size, 1, none⟩ = some (.int .i64 b) := F1w.cell 1
  have x2 : W.cell? ⟨w2.heap.size, 2, none⟩ = some (.int .i64 d) := F1w.cell 2
  have xz := F1w.lt
  go_region_with (first | (go_at_call 22; refine (l29DrawTolerance_c A n c _ _ (show Src W.drew A n c _ from hSw.keep fun _ _ => rfl)).mono ?_; rintro e w5 ⟨q, rfl, hq, hS5, hg5⟩; have R1w5 := (show Blk W.drew _ _ _ from R1w).src hg5 (by omega); have r50 : w5.cell? ⟨w.heap.size, 0, none⟩ = some (.int .i64 0) := R1w5.cell 0; have r5f0 : w5.frozen? ⟨w.heap.size, 0, none⟩ = false := R1w5.frozen 0; have r51 : w5.cell? ⟨w.heap.size, 1, none⟩ = some (.int .i64 0) := R1w5.cell 1; have r5f1 : w5.frozen? ⟨w.heap.size, 1, none⟩ = false := R1w5.frozen 1; have r52 : w5.cell? ⟨w.heap.size, 2, none⟩ = some (.int .i64 0) := R1w5.cell 2; have r5f2 : w5.frozen? ⟨w.heap.size, 2, none⟩ = false := R1w5.frozen 2; have r5z := R1w5.lt; have F1w5 := (show Blk W.drew _ _ _ from F1w).src hg5 (by omega); have x50 : w5.cell? ⟨w2.heap.size, 0, none⟩ = some (.int .i64 a) := F1w5.cell 0; have x51 : w5.cell? ⟨w2.heap.size, 1, none⟩ = some (.int .i64 b) := F1w5.cell 1; have x52 : w5.cell? ⟨w2.heap.size, 2, none⟩ = some (.int .i64 d) := F1w5.cell 2; have x5z := F1w5.lt; have hB5 := below_src hBw.drew hg5 hBw.size (by omega)))
  all_goals
    go_wp2_with fail
    refine bodyPost_ret (v := .tuple #[.int .i64 sc, .int .i64 ln, .agg #[.int .i64 a, .int .i64 b, .int .i64 d], .int .i64 q]) (by simp [results, Tryz.results5, go_sem, r50, r51, r52]) rfl ⟨sc, ln, a, b, d, q, rfl, (by repeat (first | with_reducible exact hB5 | with_reducible apply below_drewN' | with_reducible apply Below.drew | (with_reducible refine Below.alloc ?_ (by first | omega | (simp; omega) | simp | (have := (hB5).size; omega) | (have := (hB5).size; simp; omega)) _) | (with_reducible refine Below.setCell ?_ (by first | omega | (simp; omega) | simp | (have := (hB5).size; omega) | (have := (hB5).size; simp; omega)) _) | exact hB5))⟩
end Go.Proofs.YtkjommcmeinkaaaGreat
