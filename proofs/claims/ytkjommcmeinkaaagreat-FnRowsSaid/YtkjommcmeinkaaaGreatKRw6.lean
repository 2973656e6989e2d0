/- The logarithm of a number from 10^8 to 10^9: the program's and the reference's. -/
import Derived.Test.YtkjommcmeinkaaaGreatKRw5
set_option linter.unusedSimpArgs false
namespace Go.Proofs.YtkjommcmeinkaaaGreat
open Go.RowKit
set_option maxRecDepth 100000 in
theorem l03BitsL_c (x : Int) (w : World) (h : 100000000 ≤ x ∧ x ≤ 1000000000) : Calls Tryz.prog 103 #[.int .i64 x, .bool false] w fun e w' => e = .returned (.int .i64 (itL x 20).2) ∧ w = w' := by
  go_enter Tryz.func103, Tryz.ntmps103
  go_wp2_with fail
  go_loop [0, 5, 6] (fun y n i => ∃ k : Nat, k ≤ 20 ∧ i = .int .i64 k ∧ y = .int .i64 (itL x k).1 ∧ n = .int .i64 (itL x k).2) (fun _ _ i => 20 - (intOf i).toNat)
  case atStart => exact ⟨0, Nat.zero_le _, rfl, rfl, rfl⟩
  case round =>
    obtain ⟨k, hk, rfl, rfl, rfl⟩ := hrel
    have bd := itL_bd h k
    have hp := two_pow_le k hk
    have hsu : itL x (k + 1) = stepL (itL x k) := rfl
    by_cases hlt : k < 20
    · have hlt' : (k : Int) < 20 := by omega
      generalize itL x k = st at bd hsu ⊢
      obtain ⟨y, n⟩ := st
      simp only at bd ⊢
      have hs := sq_bd bd.1
      obtain ⟨⟨b1, b2⟩, b3, b4⟩ := bd
      obtain ⟨s1, s2⟩ := hs
      have b5 : n ≤ 1048576 := by omega
      clear b4 hp
      by_cases hbig : 1000000000 ≤ y * y / 100000000
      · have Hs : Hid (itL x (k + 1) = (y * y / 100000000 / 10, 2 * n + 1)) := by unfold Hid; rw [hsu]; unfold stepL; rw [if_pos hbig]
        clear hsu
        go_wp2
        go_round
        case rel => exact ⟨k + 1, by omega, by go_num, by rw [Hs.out], by rw [Hs.out]⟩
        case measure => simp [intOf]; omega
      · have Hs : Hid (itL x (k + 1) = (y * y / 100000000, 2 * n)) := by unfold Hid; rw [hsu]; unfold stepL; rw [if_neg hbig]
        clear hsu
        go_wp2
        go_round
        case rel => exact ⟨k + 1, by omega, by go_num, by rw [Hs.out], by rw [Hs.out]⟩
        case measure => simp [intOf]; omega
    · have : k = 20 := by omega
      subst this
      go_wp2
      go_ret
      exact ⟨rfl, rfl⟩
set_option maxRecDepth 100000 in
theorem l03BitsH_c (x : Int) (w : World) (h : 100000000 ≤ x ∧ x ≤ 1000000000) : Calls Tryz.prog 103 #[.int .i64 x, .bool true] w fun e w' => e = .returned (.int .i64 (itH x 20).2) ∧ w = w' := by
  go_enter Tryz.func103, Tryz.ntmps103
  go_wp2_with fail
  go_loop [0, 5, 6] (fun y n i => ∃ k : Nat, k ≤ 20 ∧ i = .int .i64 k ∧ y = .int .i64 (itH x k).1 ∧ n = .int .i64 (itH x k).2) (fun _ _ i => 20 - (intOf i).toNat)
  case atStart => exact ⟨0, Nat.zero_le _, rfl, rfl, rfl⟩
  case round =>
    obtain ⟨k, hk, rfl, rfl, rfl⟩ := hrel
    have bd := itH_bd h k
    have hp := two_pow_le k hk
    have hsu : itH x (k + 1) = stepH (itH x k) := rfl
    by_cases hlt : k < 20
    · have hlt' : (k : Int) < 20 := by omega
      generalize itH x k = st at bd hsu ⊢
      obtain ⟨y, n⟩ := st
      simp only at bd ⊢
      have hs := sq_bd bd.1
      obtain ⟨⟨b1, b2⟩, b3, b4⟩ := bd
      obtain ⟨s1, s2⟩ := hs
      have b5 : n ≤ 1048576 := by omega
      clear b4 hp
      by_cases hbig : 1000000000 ≤ -(-(y * y) / 100000000)
      · have Hs : Hid (itH x (k + 1) = (cdiv (cdiv (y * y) 100000000) 10, 2 * n + 1)) := by unfold Hid; rw [hsu]; unfold stepH; rw [if_pos (show 1000000000 ≤ cdiv (y * y) 100000000 from hbig)]
        clear hsu
        go_wp2_with (go_at_call 87; refine (l01Ceil_c _ _ _ (by omega) (by omega)).mono ?_; rintro e w' ⟨rfl, rfl⟩)
        go_round
        case rel => exact ⟨k + 1, by omega, by go_num, by rw [Hs.out]; simp [cdiv], by rw [Hs.out]⟩
        case measure => simp [intOf]; omega
      · have Hs : Hid (itH x (k + 1) = (cdiv (y * y) 100000000, 2 * n)) := by unfold Hid; rw [hsu]; unfold stepH; rw [if_neg (show ¬ 1000000000 ≤ cdiv (y * y) 100000000 from hbig)]
        clear hsu
        go_wp2_with (go_at_call 87; refine (l01Ceil_c _ _ _ (by omega) (by omega)).mono ?_; rintro e w' ⟨rfl, rfl⟩)
        go_round
        case rel => exact ⟨k + 1, by omega, by go_num, by rw [Hs.out]; rfl, by rw [Hs.out]⟩
        case measure => simp [intOf]; omega
    · have : k = 20 := by omega
      subst this
      go_wp2
      go_ret
      exact ⟨rfl, rfl⟩

theorem l03Log_c (x : Int) (w : World) (h : 100000000 ≤ x ∧ x ≤ 1000000000) : Calls Tryz.prog 88 #[.int .i64 x] w fun e w' => e = .returned (.agg #[.int .i64 (logLow x), .int .i64 (logHigh x)]) ∧ Below w.heap.size w w' := by
  have h1 := logLow_bd h
  have h2 := logHigh_bd h
  unfold logLow at *
  unfold logHigh at *
  go_enter Tryz.func88, Tryz.ntmps88
  go_wp2_with fail
  refine (l03BitsL_c x _ h).mono ?_; rintro e w' ⟨rfl, rfl⟩
  go_wp2_with fail
  refine (l03BitsH_c x _ h).mono ?_; rintro e w' ⟨rfl, rfl⟩
  go_wp2
  refine bodyPost_ret (v := .agg #[.int .i64 (itL x 20).2, .int .i64 ((itH x 20).2 + 1)]) (by simp [results, Tryz.results88, go_sem]) rfl ⟨rfl, ?_⟩
  exact (by repeat (first | with_reducible exact Below.refl _ _ | with_reducible apply below_drewN' | with_reducible apply Below.drew | (with_reducible refine Below.alloc ?_ (by first | omega | (simp; omega) | simp | (have := (Below.refl _ _).size; omega) | (have := (Below.refl _ _).size; simp; omega)) _) | (with_reducible refine Below.setCell ?_ (by first | omega | (simp; omega) | simp | (have := (Below.refl _ _).size; omega) | (have := (Below.refl _ _).size; simp; omega)) _) | exact Below.refl _ _))
set_option maxRecDepth 100000 in
set_option maxHeartbeats 1000000 in
theorem logarithm_c (x : Int) (w : World) (h : 100000000 ≤ x ∧ x ≤ 1000000000) : Calls Tryz.prog 105 #[.int .i64 x] w fun e w' => e = .returned (.agg #[.int .i64 (logLow x), .int .i64 (logHigh x)]) ∧ Below w.heap.size w w' := by
  go_enter Tryz.func105, Tryz.ntmps105
  go_wp2_with fail
  go_loopw [3, 4, 9] (fun lo hi i wr => ∃ k : Nat, k ≤ 20 ∧ i = .int .i64 k ∧ lo = .int .i64 (itL x k).1 ∧ hi = .int .i64 (itH x k).1 ∧ Below w.heap.size w wr ∧
      Blk wr w.heap.size 84 #[.int .i64 0, .int .i64 0] ∧ Blk wr (w.heap.size + 1) 84 #[.int .i64 (itL x k).2, .int .i64 (itH x k).2]) (fun _ _ i _ => 20 - (intOf i).toNat)
  case atStart =>
    refine ⟨0, Nat.zero_le _, rfl, rfl, rfl, (by repeat (first | with_reducible exact Below.refl _ _ | with_reducible apply below_drewN' | with_reducible apply Below.drew | (with_reducible refine Below.alloc ?_ (by first | omega | (simp; omega) | simp | (have := (Below.refl _ _).size; omega) | (have := (Below.refl _ _).size; simp; omega)) _) | (with_reducible refine Below.setCell ?_ (by first | omega | (simp; omega) | simp | (have := (Below.refl _ _).size; omega) | (have := (Below.refl _ _).size; simp; omega)) _) | exact Below.refl _ _)), ?_, ?_⟩
    · exact (Blk.new w _ _).alloc _
    · exact Blk.new' _ _ _ (by simp)
  case round =>
    obtain ⟨k, hk, rfl, rfl, rfl, hb, hB0, hB1⟩ := hrel
    have bd := itL_bd h k
    have bh := itH_bd h k
    have hp := two_pow_le k hk
    have hsu : itL x (k + 1) = stepL (itL x k) := rfl
    have hsh : itH x (k + 1) = stepH (itH x k) := rfl
    have hz1 := hB1.lt
    generalize hgg : w.heap.size = g at *
    by_cases hlt : k < 20
    · have hlt' : (k : Int) < 20 := by omega
      generalize itL x k = st at *
      generalize itH x k = sh at *
      obtain ⟨y, n⟩ := st
      obtain ⟨z, m⟩ := sh
      simp only at bd bh hB1 ⊢
      have hs := sq_bd bd.1
      have hs' := sq_bd bh.1
      obtain ⟨⟨b1, b2⟩, b3, b4⟩ := bd
      obtain ⟨⟨d1, d2⟩, d3, d4⟩ := bh
      obtain ⟨s1, s2⟩ := hs
      obtain ⟨s3, s4⟩ := hs'
      have b5 : n ≤ 1048576 := by omega
      have d5 : m ≤ 1048576 := by omega
      clear b4 d4 hp
      have c0 : wr.cell? ⟨g + 1, 0, none⟩ = some (.int .i64 n) := hB1.cell 0
      have c1 : wr.cell? ⟨g + 1, 1, none⟩ = some (.int .i64 m) := hB1.cell 1
      have f0 := hB1.frozen 0
      have f1 := hB1.frozen 1
      have HB0 := Lib.hid hB0
      have HB1 := Lib.hid hB1
      clear hB0 hB1
      have e1 : (1000000000 ≤ y * y / 100000000 ∧ stepL (y, n) = (y * y / 100000000 / 10, 2 * n + 1)) ∨ (¬ 1000000000 ≤ y * y / 100000000 ∧ stepL (y, n) = (y * y / 100000000, 2 * n)) := by
        by_cases hbig : 1000000000 ≤ y * y / 100000000
        · exact .inl ⟨hbig, by unfold stepL; rw [if_pos hbig]⟩
        · exact .inr ⟨hbig, by unfold stepL; rw [if_neg hbig]⟩
      have e2 : (1000000000 ≤ -(-(z * z) / 100000000) ∧ stepH (z, m) = (cdiv (cdiv (z * z) 100000000) 10, 2 * m + 1)) ∨ (¬ 1000000000 ≤ -(-(z * z) / 100000000) ∧ stepH (z, m) = (cdiv (z * z) 100000000, 2 * m)) := by
        by_cases hbig : 1000000000 ≤ -(-(z * z) / 100000000)
        · exact .inl ⟨hbig, by unfold stepH; rw [if_pos (show 1000000000 ≤ cdiv (z * z) 100000000 from hbig)]⟩
        · exact .inr ⟨hbig, by unfold stepH; rw [if_neg (show ¬ 1000000000 ≤ cdiv (z * z) 100000000 from hbig)]⟩
      rcases e1 with ⟨e1, E1⟩ | ⟨e1, E1⟩ <;> rcases e2 with ⟨e2, E2⟩ | ⟨e2, E2⟩
      all_goals
        have H1 := Lib.hid (hsu.trans E1)
        have H2 := Lib.hid (hsh.trans E2)
        clear hsu hsh E1 E2
        go_wp2_with (first | (go_at_call 85; refine (down_c _ _ _ (by omega) (by omega)).mono ?_; rintro e w' ⟨rfl, rfl⟩) | (go_at_call 86; refine (up_c _ _ _ (by omega) (by omega)).mono ?_; rintro e w' ⟨rfl, rfl⟩))
        go_roundw
        case rel =>
          refine ⟨k + 1, by omega, by go_num, by rw [H1.out], by rw [H2.out]; simp [cdiv], (by repeat (first | with_reducible exact hb | with_reducible apply below_drewN' | with_reducible apply Below.drew | (with_reducible refine Below.alloc ?_ (by first | omega | (simp; omega) | simp | (have := (hb).size; omega) | (have := (hb).size; simp; omega)) _) | (with_reducible refine Below.setCell ?_ (by first | omega | (simp; omega) | simp | (have := (hb).size; omega) | (have := (hb).size; simp; omega)) _) | exact hb)), ?_, ?_⟩
          · repeat (first | with_reducible exact HB0.out | refine Blk.far ?_ (show g ≠ g + 1 from by omega) _)
          · rw [H1.out, H2.out]
            dsimp only
            rw [Int.mul_comm 2 n, Int.mul_comm 2 m]
            repeat (first | with_reducible exact HB1.out | with_reducible apply Blk.two0 | with_reducible apply Blk.two1)
        case measure => simp [intOf]; omega
    · have : k = 20 := by omega
      subst this
      have c0 : wr.cell? ⟨g + 1, 0, none⟩ = some (.int .i64 (itL x 20).2) := hB1.cell 0
      have c1 : wr.cell? ⟨g + 1, 1, none⟩ = some (.int .i64 (itH x 20).2) := hB1.cell 1
      have f1 := hB1.frozen 1
      have r0 : wr.cell? ⟨g, 0, none⟩ = some (.int .i64 0) := hB0.cell 0
      have r1 : wr.cell? ⟨g, 1, none⟩ = some (.int .i64 0) := hB0.cell 1
      have q0 := hB0.frozen 0
      have q1 := hB0.frozen 1
      have hz0 := hB0.lt
      clear hB0 hB1 hsu hsh bd
      go_wp2
      refine bodyPost_ret (v := .agg #[.int .i64 (itL x 20).2, .int .i64 ((itH x 20).2 + 1)]) ?_ rfl ⟨rfl, by rw [hgg]; exact (by repeat (first | with_reducible exact hb | with_reducible apply below_drewN' | with_reducible apply Below.drew | (with_reducible refine Below.alloc ?_ (by first | omega | (simp; omega) | simp | (have := (hb).size; omega) | (have := (hb).size; simp; omega)) _) | (with_reducible refine Below.setCell ?_ (by first | omega | (simp; omega) | simp | (have := (hb).size; omega) | (have := (hb).size; simp; omega)) _) | exact hb))⟩
      simp [results, Tryz.results105, go_sem, r0, r1]
end Go.Proofs.YtkjommcmeinkaaaGreat
