/- The reference's draws for the circular rule. Condition: the code has at most 4096 bytes. -/
import Derived.Test.YtcpnmeebbbeakaaDraw2
import Derived.IntWalk
namespace Go.Proofs.Ytcpnmeebbbeakaa
open Go.RowKit
theorem Bytes.alloc {w : World} {A : Option Addr} {n B : Nat} (h : Bytes w A n B) (o : Obj) (hB : B ≤ w.heap.size) : Bytes (w.alloc o) A n B := h.keep fun p hp => World.cell?_alloc_lt w o p (by omega)
theorem below_of_grown {w0 w w' : World} {B g : Nat} (h : Below B w0 w) (hg : w.grownBy w' (some g)) (hB : B ≤ w.heap.size) (hr : B ≤ g) : Below B w0 w' := below_src h hg hB hr
theorem cell_far2 {w0 : World} {b o p : Nat} {u v x : Value} (h : w0.cell? ⟨b, o, none⟩ = some x) (hne : b ≠ p) : ((w0.setCell ⟨p, 0, none⟩ u).setCell ⟨p, 1, none⟩ v).cell? ⟨b, o, none⟩ = some x :=
  (World.cell?_of_block ((Below.heap_setCell _ ⟨p, 1, none⟩ _ _ hne).trans (Below.heap_setCell _ ⟨p, 0, none⟩ _ _ hne))).trans h
set_option maxRecDepth 100000 in
set_option maxHeartbeats 800000 in
theorem l02DrawTwo_c (A : Option Addr) (n c : Nat) (w : World) (hn : n ≤ 4096) (hb : Bytes w A n w.heap.size) :
    Calls Try.prog 116 #[.slice A n c] w fun e w' => ∃ a b a' b' : Int, e = .returned (.tuple #[.agg #[.int .i64 a, .int .i64 b], .agg #[.int .i64 a', .int .i64 b']]) ∧ Below w.heap.size w w' := by
  have hF := l01From_c A n c ((w.alloc (.cells #[.int .i64 0, .int .i64 0] 36)).alloc (.cells #[.int .i64 0, .int .i64 0] 36)) hn (((hb.alloc _ (Nat.le_refl _)).alloc _ (by simp)).more (by simp; omega))
  have hF' := Lib.hid hF
  have hBel : Below w.heap.size w ((w.alloc (.cells #[.int .i64 0, .int .i64 0] 36)).alloc (.cells #[.int .i64 0, .int .i64 0] 36)) := (by repeat (first | with_reducible exact Below.refl _ _ | with_reducible apply below_drewN' | with_reducible apply Below.drew | (with_reducible refine Below.alloc ?_ (by first | omega | (simp; omega) | simp) _) | (with_reducible refine Below.setCell ?_ (by first | omega | (simp; omega) | simp) _) | exact Below.refl _ _))
  have R1 := (Blk.new w 36 #[.int .i64 0, .int .i64 0]).alloc (.cells #[.int .i64 0, .int .i64 0] 36)
  have R2 := Blk.new' (w.alloc (.cells #[.int .i64 0, .int .i64 0] 36)) 36 #[.int .i64 0, .int .i64 0] (g := w.heap.size + 1) (by simp)
  clear hb hF
  go_enter Try.func116, Try.ntmps116
  go_wp2_with fail
  refine hF'.out.mono ?_; rintro e w1 ⟨rfl, hS1, hb1⟩
  have hB1 := hBel.trans (hb1.mono (by simp; omega))
  have R11 := R1.below hb1 (by simp; omega)
  have R21 := R2.below hb1 (by simp)
  have e2 : ((w.alloc (.cells #[.int .i64 0, .int .i64 0] 36)).alloc (.cells #[.int .i64 0, .int .i64 0] 36)).heap.size = w.heap.size + 2 := by simp
  rw [e2] at hS1
  clear hF' hBel R1 R2 hb1
  clear e2
  go_wp2_with fail
  have g1 := hS1.lt
  refine (l02Draw_c A n c _ _ hS1).mono ?_; rintro e w2 ⟨a, b, rfl, ⟨ha1, ha2⟩, ⟨hb1, hb2⟩, hS2, hg2⟩
  have hB2 := below_src hB1 hg2 hB1.size (by omega)
  have R12 := R11.src hg2 (by omega)
  have R22 := R21.src hg2 (by omega)
  have g2 := hS2.lt
  clear R11 R21 hB1 hg2
  go_wp2_with fail
  refine (l02Draw_c A n c _ _ (hS2.alloc _)).mono ?_; rintro e w3 ⟨a', b', rfl, ⟨ha1', ha2'⟩, ⟨hb1', hb2'⟩, hS3, hg3⟩
  have hg3' := (grown_alloc _ _).trans hg3
  have hB3 := below_src hB2 hg3' hB2.size (by omega)
  have R13 := R12.src hg3' (by omega)
  have R23 := R22.src hg3' (by omega)
  have F13 := (Blk.new w2 36 #[.int .i64 a, .int .i64 b]).src hg3 (by omega)
  have g3 := hS3.lt
  have z13 := F13.lt
  clear R12 R22 hB2 hg3 hg3'
  go_wp2_with fail
  refine (l01Next_c A n c _ _ _ (hS3.alloc _)).mono ?_; rintro e w4 ⟨r, rfl, hr, hr3, hS4, hg4⟩
  have hg4' := (grown_alloc _ _).trans hg4
  have hB4 := below_src hB3 hg4' hB3.size (by omega)
  have R14 := R13.src hg4' (by omega)
  have R24 := R23.src hg4' (by omega)
  have F14 := F13.src hg4' (by omega)
  have F24 := (Blk.new w3 36 #[.int .i64 a', .int .i64 b']).src hg4 (by omega)
  have g4 := hS4.lt
  have z14 := F14.lt
  have z24 := F24.lt
  clear R13 R23 hB3 hg4 hg4' F13
  have END : ∀ (W : World) (u v u' v' : Int), Below w.heap.size w W → Blk W w.heap.size 36 #[.int .i64 0, .int .i64 0] → Blk W (w.heap.size + 1) 36 #[.int .i64 0, .int .i64 0] → Blk W w2.heap.size 36 #[.int .i64 u, .int .i64 v] → Blk W w3.heap.size 36 #[.int .i64 u', .int .i64 v'] → True := fun _ _ _ _ _ _ _ _ _ _ => trivial
  clear END
  by_cases h0 : r = 0
  · subst h0
    go_wp2_with fail
    have x0 : w4.drew.cell? ⟨w2.heap.size, 0, none⟩ = some (.int .i64 a) := F14.cell 0
    have x1 : w4.drew.cell? ⟨w2.heap.size, 1, none⟩ = some (.int .i64 b) := F14.cell 1
    have hI := And.intro x0 x1
    have hK : ∀ (w0 : World) (u v : Value), (w0.cell? ⟨w2.heap.size, 0, none⟩ = some (.int .i64 a) ∧ w0.cell? ⟨w2.heap.size, 1, none⟩ = some (.int .i64 b)) → (((w0.setCell ⟨w3.heap.size, 0, none⟩ u).setCell ⟨w3.heap.size, 1, none⟩ v).cell? ⟨w2.heap.size, 0, none⟩ = some (.int .i64 a) ∧ ((w0.setCell ⟨w3.heap.size, 0, none⟩ u).setCell ⟨w3.heap.size, 1, none⟩ v).cell? ⟨w2.heap.size, 1, none⟩ = some (.int .i64 b)) := by
      rintro w0 u v ⟨k1, k2⟩
      have hL : Below w3.heap.size w0 ((w0.setCell ⟨w3.heap.size, 0, none⟩ u).setCell ⟨w3.heap.size, 1, none⟩ v) := (by repeat (first | with_reducible exact Below.refl _ _ | with_reducible apply below_drewN' | with_reducible apply Below.drew | (with_reducible refine Below.alloc ?_ (by first | omega | (simp; omega) | simp) _) | (with_reducible refine Below.setCell ?_ (by first | omega | (simp; omega) | simp) _) | exact Below.refl _ _))
      exact ⟨(hL.cell (p := ⟨w2.heap.size, 0, none⟩) (by simp only; omega)).trans k1, (hL.cell (p := ⟨w2.heap.size, 1, none⟩) (by simp only; omega)).trans k2⟩
    go_region_held3 (fun w' => w'.cell? ⟨w2.heap.size, 0, none⟩ = some (.int .i64 a) ∧ w'.cell? ⟨w2.heap.size, 1, none⟩ = some (.int .i64 b))
      (first | exact hI | assumption | exact hK _ _ _ (by assumption))
      (first | (go_at_call 129; refine (l01Next_c A n c _ _ _ (show Src w4.drew A n c _ from hS4.keep fun _ _ => rfl)).mono ?_; rintro e w5 ⟨q, rfl, ⟨hq1, hq2⟩, hq3, hS5, hg5⟩; have F15 := (show Blk w4.drew _ _ _ from F14).src hg5 (by omega); have F25 := (show Blk w4.drew _ _ _ from F24).src hg5 (by omega); have R15 := (show Blk w4.drew _ _ _ from R14).src hg5 (by omega); have R25 := (show Blk w4.drew _ _ _ from R24).src hg5 (by omega); have hB5 := below_src hB4.drew hg5 hB4.size (by omega); have k0 : w5.cell? ⟨w2.heap.size, 0, none⟩ = some (.int .i64 a) := F15.cell 0; have k1 : w5.cell? ⟨w2.heap.size, 1, none⟩ = some (.int .i64 b) := F15.cell 1; have hI5 := And.intro k0 k1; have m0 : w5.cell? ⟨w3.heap.size, 0, none⟩ = some (.int .i64 a') := F25.cell 0; have m1 : w5.cell? ⟨w3.heap.size, 1, none⟩ = some (.int .i64 b') := F25.cell 1; have mf0 := F25.frozen 0; have mf1 := F25.frozen 1; have mz := F25.lt; have hw1 : IntKind.i64.wrap (a + q) = a + q := IntWalk.i64_in _ (by omega); have hw2 : IntKind.i64.wrap (a + q - 10) = a + q - 10 := IntWalk.i64_in _ (by omega)))
    go_wp2_with fail
    all_goals
      generalize hT : World.setCell (World.setCell w5 ⟨w3.heap.size, 0, none⟩ _) ⟨w3.heap.size, 1, none⟩ _ = W6
      have hex : ∃ u, Blk W6 w3.heap.size 36 #[.int .i64 u, .int .i64 b] := by rw [← hT]; exact ⟨_, (F25.set_ 0 _).set_ 1 _⟩
      obtain ⟨u6, F26⟩ := hex
      have F16 : Blk W6 w2.heap.size 36 #[.int .i64 a, .int .i64 b] := by rw [← hT]; exact (F15.far (by simp only; omega) _).far (by simp only; omega) _
      have R16 : Blk W6 w.heap.size 36 #[.int .i64 0, .int .i64 0] := by rw [← hT]; exact (R15.far (by simp only; omega) _).far (by simp only; omega) _
      have R26 : Blk W6 (w.heap.size + 1) 36 #[.int .i64 0, .int .i64 0] := by rw [← hT]; exact (R25.far (by simp only; omega) _).far (by simp only; omega) _
      have hB6 : Below w.heap.size w W6 := by rw [← hT]; exact (by repeat (first | with_reducible exact hB5 | with_reducible apply below_drewN' | with_reducible apply Below.drew | (with_reducible refine Below.alloc ?_ (by first | omega | (simp; omega) | simp) _) | (with_reducible refine Below.setCell ?_ (by first | omega | (simp; omega) | simp) _) | exact hB5))
      clear hT hI5 hI hK k0 k1 m0 m1 mf0 mf1 x0 x1
      have cz := R16.lt
      have pc0 : W6.cell? ⟨w.heap.size, 0, none⟩ = some (.int .i64 0) := R16.cell 0
      have pcf0 : W6.frozen? ⟨w.heap.size, 0, none⟩ = false := R16.frozen 0
      have pc1 : W6.cell? ⟨w.heap.size, 1, none⟩ = some (.int .i64 0) := R16.cell 1
      have pcf1 : W6.frozen? ⟨w.heap.size, 1, none⟩ = false := R16.frozen 1
      have pd0 : W6.cell? ⟨w.heap.size + 1, 0, none⟩ = some (.int .i64 0) := R26.cell 0
      have pdf0 : W6.frozen? ⟨w.heap.size + 1, 0, none⟩ = false := R26.frozen 0
      have pd1 : W6.cell? ⟨w.heap.size + 1, 1, none⟩ = some (.int .i64 0) := R26.cell 1
      have pdf1 : W6.frozen? ⟨w.heap.size + 1, 1, none⟩ = false := R26.frozen 1
      have ps0 : W6.cell? ⟨w2.heap.size, 0, none⟩ = some (.int .i64 a) := F16.cell 0
      have ps1 : W6.cell? ⟨w2.heap.size, 1, none⟩ = some (.int .i64 b) := F16.cell 1
      have pt0 : W6.cell? ⟨w3.heap.size, 0, none⟩ = some (.int .i64 u6) := F26.cell 0
      have pt1 : W6.cell? ⟨w3.heap.size, 1, none⟩ = some (.int .i64 b) := F26.cell 1
      have dz := R26.lt
      go_region_with (fail)
      all_goals
        go_wp2_with fail
        refine bodyPost_ret (v := .tuple #[.agg #[.int .i64 a, .int .i64 b], .agg #[.int .i64 u6, .int .i64 b]]) (by simp [results, Try.results116, go_sem, pc0, pc1, pd0, pd1]) rfl ⟨a, b, u6, b, rfl, (by repeat (first | with_reducible exact hB6 | with_reducible apply below_drewN' | with_reducible apply Below.drew | (with_reducible refine Below.alloc ?_ (by first | omega | (simp; omega) | simp) _) | (with_reducible refine Below.setCell ?_ (by first | omega | (simp; omega) | simp) _) | exact hB6))⟩
  · go_wp2_with fail
    have cz := R14.lt
    have pc0 : w4.cell? ⟨w.heap.size, 0, none⟩ = some (.int .i64 0) := R14.cell 0
    have pcf0 : w4.frozen? ⟨w.heap.size, 0, none⟩ = false := R14.frozen 0
    have pc1 : w4.cell? ⟨w.heap.size, 1, none⟩ = some (.int .i64 0) := R14.cell 1
    have pcf1 : w4.frozen? ⟨w.heap.size, 1, none⟩ = false := R14.frozen 1
    have pd0 : w4.cell? ⟨w.heap.size + 1, 0, none⟩ = some (.int .i64 0) := R24.cell 0
    have pdf0 : w4.frozen? ⟨w.heap.size + 1, 0, none⟩ = false := R24.frozen 0
    have pd1 : w4.cell? ⟨w.heap.size + 1, 1, none⟩ = some (.int .i64 0) := R24.cell 1
    have pdf1 : w4.frozen? ⟨w.heap.size + 1, 1, none⟩ = false := R24.frozen 1
    have ps0 : w4.cell? ⟨w2.heap.size, 0, none⟩ = some (.int .i64 a) := F14.cell 0
    have ps1 : w4.cell? ⟨w2.heap.size, 1, none⟩ = some (.int .i64 b) := F14.cell 1
    have pt0 : w4.cell? ⟨w3.heap.size, 0, none⟩ = some (.int .i64 a') := F24.cell 0
    have pt1 : w4.cell? ⟨w3.heap.size, 1, none⟩ = some (.int .i64 b') := F24.cell 1
    have dz := R24.lt
    go_region_with (fail)
    all_goals
      go_wp2_with fail
      refine bodyPost_ret (v := .tuple #[.agg #[.int .i64 a, .int .i64 b], .agg #[.int .i64 a', .int .i64 b']]) (by simp [results, Try.results116, go_sem, pc0, pc1, pd0, pd1]) rfl ⟨a, b, a', b', rfl, (by repeat (first | with_reducible exact hB4 | with_reducible apply below_drewN' | with_reducible apply Below.drew | (with_reducible refine Below.alloc ?_ (by first | omega | (simp; omega) | simp) _) | (with_reducible refine Below.setCell ?_ (by first | omega | (simp; omega) | simp) _) | exact hB4))⟩
end Go.Proofs.Ytcpnmeebbbeakaa
