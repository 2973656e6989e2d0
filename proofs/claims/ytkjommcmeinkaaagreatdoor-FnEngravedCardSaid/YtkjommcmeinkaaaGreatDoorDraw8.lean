/- The reference's draws of strokes, and of ticks to be engraved. Condition: the code has at most 4096 bytes. -/
import Derived.Test.YtkjommcmeinkaaaGreatDoorDraw1
import Derived.Test.YtkjommcmeinkaaaGreatDoorCloneStroke
import Derived.Deep.LoopGhost
namespace Go.Proofs.YtkjommcmeinkaaaGreatDoor
open Go.RowKit
/-- a row that the call itself made has changed: nothing that lay in w has -/
theorem grown_trans_own {w w1 w2 : World} {g : Nat} {v : Value} (h : w.grownBy w1 (some g)) (h2 : w1.grownBy w2 v.ownBlock) (hv : ∀ r, v.ownBlock = some r → w.heap.size ≤ r) : w.grownBy w2 (some g) :=
  ⟨h2.os.trans h.os, h2.tape.trans h.tape, h2.output.trans h.output, Nat.le_trans h.size h2.size, fun k hk hne => by
    rw [h2.block k (Nat.lt_of_lt_of_le hk h.size) (fun e => by have := hv k e.symm; omega)]
    exact h.block k hk hne⟩
/-- strokes, drawn -/
def DSt (A : Option Addr) (n c g : Nat) (w : World) (e : Ending) (w' : World) : Prop := ∃ (l : List Stroke) (A' : Option Addr) (c' : Nat), e = .returned (.slice A' l.length c') ∧ l.length ≤ 1000 ∧ Own w' w.heap.size 35 3 (.slice A' l.length c') (l.map Stroke.cells) ∧ Src w' A n c g ∧ w.grownBy w' (some g)
set_option maxRecDepth 100000 in
set_option maxHeartbeats 4000000 in
theorem l32Draw_c (A : Option Addr) (n c g : Nat) (w : World) (hS : Src w A n c g) : Calls Tryz.prog 17 #[.pointer (some ⟨g, 0, none⟩)] w (DSt A n c g w) := by
  obtain ⟨i0, hi, hz0, hz1, hz2⟩ := info_parts info_Stroke
  have hG : w.grownBy w (some g) := World.grownBy.refl _ _
  have hlt := hS.lt
  unfold DSt
  go_enter Tryz.func17, Tryz.ntmps17
  go_wp2_with fail
  have hO : Own (w.alloc (.cells #[] 35)) w.heap.size 35 3 (.slice (some ⟨w.heap.size, 0, none⟩) 0 0) (([] : List Stroke).map Stroke.cells) := Own.empty (Nat.le_refl _)
  refine (l01Next_c A n c g _ _ (hS.alloc _)).mono ?_; rintro e w1 ⟨r, rfl, ⟨ra, rb⟩, rd, hS1, hg⟩
  have hO := hO.src hg (by omega)
  have hG := (grown_alloc (.cells #[] 35) (some g)).trans hg
  have gz := hG.size
  clear hg hS
  obtain ⟨k, rfl⟩ := Int.eq_ofNat_of_zero_le ra
  go_wp2_with fail
  go_loopw [3, 4] (fun v i wr => ∃ (j : Nat) (R : List Stroke), i = .int .i64 j ∧ R.length + j ≤ 9 ∧ Own wr w.heap.size 35 3 v (R.map Stroke.cells) ∧ Src wr A n c g ∧ w.grownBy wr (some g)) (fun _ i _ => (intOf i).toNat)
  case atStart => exact ⟨k, [], rfl, by simp; omega, hO, hS1, hG⟩
  case round =>
    clear hO hS1 hG gz
    obtain ⟨j, R, rfl, hj, hO, hS, hG⟩ := hrel
    have gz := hG.size
    by_cases hj0 : 0 < j
    · have hjz : (0 : Int) < (j : Int) := by omega
      go_wp2_with fail
      refine (l01Next_c A n c g _ _ hS).mono ?_; rintro e w2 ⟨r1, rfl, ⟨r1a, r1b⟩, r1d, hS, hg⟩
      have hO := hO.src hg (by omega)
      have hG := hG.trans hg
      clear hg
      have gz := hG.size
      go_wp2_with fail
      refine (l01Next_c A n c g _ _ hS).mono ?_; rintro e w3 ⟨r2, rfl, ⟨r2a, r2b⟩, r2d, hS, hg⟩
      have hO := hO.src hg (by omega)
      have hG := hG.trans hg
      clear hg
      have gz := hG.size
      go_wp2_with fail
      refine (l01Next_c A n c g _ _ hS).mono ?_; rintro e w4 ⟨r3, rfl, ⟨r3a, r3b⟩, r3d, hS, hg⟩
      have hO := hO.src hg (by omega)
      have hG := hG.trans hg
      clear hg
      have gz := hG.size
      go_wp2_with fail
      refine (l01Pick_n A n c g #[.int .i64 r2, .int .i64 (100 * r3)] 2 2 _ hS (by intro v hv; simp only [List.mem_cons, List.not_mem_nil, or_false] at hv; rcases hv with rfl | rfl; all_goals exact ⟨_, rfl, by omega, by omega⟩) rfl (by decide) (by decide)).mono ?_; rintro e w5 ⟨r4, rfl, ⟨r4a, r4b⟩, hS, hg⟩
      have hO := hO.src hg (by omega)
      have hG := hG.trans hg
      clear hg
      have gz := hG.size
      go_wp2_with fail
      refine (l01Next_c A n c g _ _ hS).mono ?_; rintro e w6 ⟨r5, rfl, ⟨r5a, r5b⟩, r5d, hS, hg⟩
      have hO := hO.src hg (by omega)
      have hG := hG.trans hg
      clear hg
      have gz := hG.size
      go_wp2_with (at_builtin; refine wpList_append_rows _ rfl _ _ _ rfl w.heap.size 35 i0 _ 3 24 Tryz.underlying24 hi hz0 hz1 hz2 rfl (by omega) _ _ rfl (hO.alloc _) _ _ _ _ ([(⟨1 + r1, r4, 100 + 50 * r5⟩ : Stroke)].map Stroke.cells) rfl rfl (Sl.of_blk (Blk.new' _ _ _ (by first | rfl | simp)) _ rfl (by simp [Stroke.cells])) (Stroke.one (l := [⟨1 + r1, r4, 100 + 50 * r5⟩])) (by simp; unfold maxLen; omega) (by simp; omega) (by simp; omega) ?_; intro v1 w7 hO3 hg3 hat3)
      have hS3 := (hS.alloc (.cells #[.int .i64 (1 + r1), .int .i64 (r4), .int .i64 (100 + 50 * r5)] 35)).grown hg3 (fun r hr => by have := hO.ownGe r hr; omega)
      have hG3 : w.grownBy w7 (some g) := grown_trans_own (hG.trans (grown_alloc _ _)) hg3 (fun r hr => hO.ownGe r hr)
      go_roundw
      case rel => exact ⟨j - 1, R ++ [⟨1 + r1, r4, 100 + 50 * r5⟩], by rw [show ((j - 1 : Nat) : Int) = (j : Int) - 1 from by omega], by simp; omega, by rw [List.map_append]; exact hO3, hS3, hG3⟩
      case measure => simp [intOf]; omega
    · have hjz : ¬ (0 : Int) < (j : Int) := by omega
      clear hj0
      go_wp2_with fail
      refine (l01Next_c A n c g _ _ hS).mono ?_; rintro e w2 ⟨q, rfl, ⟨qa, qb⟩, qd, hS, hg⟩
      have hO := hO.src hg (by omega)
      have hG := hG.trans hg
      clear hg
      have gz := hG.size
      by_cases q0 : q = 0
      · subst q0
        go_wp2_with fail
        refine (l01Pick_n A n c g #[.int .i64 0, .int .i64 1, .int .i64 3] 3 3 _ hS (by intro v hv; simp only [List.mem_cons, List.not_mem_nil, or_false] at hv; rcases hv with rfl | rfl | rfl; all_goals exact ⟨_, rfl, by omega, by omega⟩) rfl (by decide) (by decide)).mono ?_; rintro e w3 ⟨r1, rfl, ⟨r1a, r1b⟩, hS, hg⟩
        have hO := hO.src hg (by omega)
        have hG := hG.trans hg
        clear hg
        have gz := hG.size
        go_wp2_with fail
        refine (l01Pick_n A n c g #[.int .i64 (-1), .int .i64 0, .int .i64 100001] 3 3 _ hS (by intro v hv; simp only [List.mem_cons, List.not_mem_nil, or_false] at hv; rcases hv with rfl | rfl | rfl; all_goals exact ⟨_, rfl, by omega, by omega⟩) rfl (by decide) (by decide)).mono ?_; rintro e w4 ⟨r2, rfl, ⟨r2a, r2b⟩, hS, hg⟩
        have hO := hO.src hg (by omega)
        have hG := hG.trans hg
        clear hg
        have gz := hG.size
        go_wp2_with fail
        refine (l01Pick_n A n c g #[.int .i64 0, .int .i64 1, .int .i64 1000, .int .i64 1001] 4 4 _ hS (by intro v hv; simp only [List.mem_cons, List.not_mem_nil, or_false] at hv; rcases hv with rfl | rfl | rfl | rfl; all_goals exact ⟨_, rfl, by omega, by omega⟩) rfl (by decide) (by decide)).mono ?_; rintro e w5 ⟨r3, rfl, ⟨r3a, r3b⟩, hS, hg⟩
        have hO := hO.src hg (by omega)
        have hG := hG.trans hg
        clear hg
        have gz := hG.size
        go_wp2_with (at_builtin; refine wpList_append_rows _ rfl _ _ _ rfl w.heap.size 35 i0 _ 3 24 Tryz.underlying24 hi hz0 hz1 hz2 rfl (by omega) _ _ rfl (hO.alloc _) _ _ _ _ ([(⟨r1, r2, r3⟩ : Stroke)].map Stroke.cells) rfl rfl (Sl.of_blk (Blk.new' _ _ _ (by first | rfl | simp)) _ rfl (by simp [Stroke.cells])) (Stroke.one (l := [⟨r1, r2, r3⟩])) (by simp; unfold maxLen; omega) (by simp; omega) (by simp; omega) ?_; intro v1 w6 hO3 hg3 hat3)
        have hS3 := (hS.alloc (.cells #[.int .i64 (r1), .int .i64 (r2), .int .i64 (r3)] 35)).grown hg3 (fun r hr => by have := hO.ownGe r hr; omega)
        have hG3 : w.grownBy w6 (some g) := grown_trans_own (hG.trans (grown_alloc _ _)) hg3 (fun r hr => hO.ownGe r hr)
        have hO4 : Own w6 w.heap.size 35 3 v1 ((R ++ [(⟨r1, r2, r3⟩ : Stroke)]).map Stroke.cells) := by rw [List.map_append]; exact hO3
        obtain ⟨A', c', hv1, _⟩ := hO4.form
        subst hv1
        go_wp2
        go_ret
        exact ⟨R ++ [⟨r1, r2, r3⟩], A', c', by simp, by simp; omega, by simpa using hO4, hS3, hG3⟩
      · have q0' : (q == 0) = false := by simp [q0]
        by_cases q1 : q = 1
        · subst q1
          go_wp2_with fail
          go_loopg [3] 200 (fun gx v wr => ∃ (R : List Stroke), R.length ≤ 151 ∧ 151 - R.length ≤ gx ∧ (∃ (A' : Option Addr) (c' : Nat), v = .slice A' R.length c') ∧ Own wr w.heap.size 35 3 v (R.map Stroke.cells) ∧ Src wr A n c g ∧ w.grownBy wr (some g))
          case atStart => exact ⟨R, by omega, by omega, by obtain ⟨A', c', hv, _⟩ := hO.form; exact ⟨A', c', by simpa using hv⟩, hO, hS, hG⟩
          case round =>
            clear hO hS hG gz hj
            obtain ⟨R, hR, hgx, ⟨A', c', hv⟩, hO, hS, hG⟩ := hrel
            subst hv
            have gz := hG.size
            go_wp2_with fail
            refine (l01Next_c A n c g _ _ hS).mono ?_; rintro e w3 ⟨r1, rfl, ⟨r1a, r1b⟩, r1d, hS, hg⟩
            have hO := hO.src hg (by omega)
            have hG := hG.trans hg
            clear hg
            have gz := hG.size
            by_cases hlt2 : (R.length : Int) < 150 + r1
            · go_wp2_with (at_builtin; refine wpList_append_rows _ rfl _ _ _ rfl w.heap.size 35 i0 _ 3 24 Tryz.underlying24 hi hz0 hz1 hz2 rfl (by omega) _ _ rfl (hO.alloc _) _ _ _ _ ([(⟨1, R.length, 100⟩ : Stroke)].map Stroke.cells) rfl rfl (Sl.of_blk (Blk.new' _ _ _ (by first | rfl | simp)) _ rfl (by simp [Stroke.cells])) (Stroke.one (l := [⟨1, R.length, 100⟩])) (by simp; unfold maxLen; omega) (by simp; omega) (by simp; omega) ?_; intro v1 w4 hO3 hg3 hat3)
              have hS3 := (hS.alloc (.cells #[.int .i64 (1), .int .i64 (R.length), .int .i64 (100)] 35)).grown hg3 (fun r hr => by have := hO.ownGe r hr; omega)
              have hG3 : w.grownBy w4 (some g) := grown_trans_own (hG.trans (grown_alloc _ _)) hg3 (fun r hr => hO.ownGe r hr)
              have hO4 : Own w4 w.heap.size 35 3 v1 ((R ++ [(⟨1, R.length, 100⟩ : Stroke)]).map Stroke.cells) := by rw [List.map_append]; exact hO3
              go_roundg (151 - (R.length + 1))
              case measure => omega
              case rel => exact ⟨R ++ [⟨1, R.length, 100⟩], by simp; omega, by simp, by obtain ⟨A2, c2, hv, _⟩ := hO4.form; exact ⟨A2, c2, by simpa using hv⟩, hO4, hS3, hG3⟩
            · go_wp2_with fail
              go_ret
              exact ⟨R, A', c', rfl, by omega, hO, hS, hG⟩
        · have q1' : (q == 1) = false := by simp [q1]
          obtain ⟨A', c', hv, _⟩ := hO.form
          rw [List.length_map] at hv
          subst hv
          go_wp2
          go_ret
          exact ⟨R, A', c', rfl, by omega, hO, hS, hG⟩
end Go.Proofs.YtkjommcmeinkaaaGreatDoor
