/- The logarithm of a number from 10^8 to 10^9: the program's and the reference's. Figures on a circle: valid figures, their angles. The small functions behind a mark's place: differences, halves and thirds of intervals. No condition beyond bounds. The point of a figure on ScaleC, the program's and the reference's. Condition: the digits are in range. Sums of intervals, and the reference's logarithm of a figure. Conditions: bounds. Errors: the structure, the laws' copies and comparisons of it. No condition beyond the length. -/
import Derived.Deep.RegionHeld3
import Derived.IntWalk
import Derived.StillTailTactics
import Derived.Test.YtgkobjpoeajkdaaGreatKMakeExercise1
namespace Go.Proofs.YtgkobjpoeajkdaaGreat
open Go.RowKit
set_option maxRecDepth 100000 in
theorem l03BitsL_c (x : Int) (w : World) (h : 100000000 ≤ x ∧ x ≤ 1000000000) : Calls Tryz.prog 256 #[.int .i64 x, .bool false] w fun e w' => e = .returned (.int .i64 (itL x 20).2) ∧ w = w' := by
  go_enter Tryz.func256, Tryz.ntmps256
  go_wp2_with fail
  go_loop [0, 5, 6] (fun y n i => ∃ k : Nat, k ≤ 20 ∧ i = .int .i64 k ∧ y = .int .i64 (itL x k).1 ∧ n = .int .i64 (itL x k).2) (fun _ _ i => 20 - (intOf i).toNat)
  case atStart => exact ⟨0, Nat.zero_le _, rfl, rfl, rfl⟩
  case round =>
    obtain ⟨k, hk, rfl, rfl, rfl⟩ := hrel
    have bd := itL_bd h k
    have hp := two_pow_le k hk
    have hsu : itL x (k + 1) = stepL (itL x k) := rfl
    by_cases hlt : k < 20
    · have hlt' : (k : Int) < 20 := by omega
      generalize itL x k = st at bd hsu ⊢
      obtain ⟨y, n⟩ := st
      simp only at bd ⊢
      have hs := sq_bd bd.1
      obtain ⟨⟨b1, b2⟩, b3, b4⟩ := bd
      obtain ⟨s1, s2⟩ := hs
      have b5 : n ≤ 1048576 := by omega
      clear b4 hp
      by_cases hbig : 1000000000 ≤ y * y / 100000000
      · have Hs : Hid (itL x (k + 1) = (y * y / 100000000 / 10, 2 * n + 1)) := by unfold Hid; rw [hsu]; unfold stepL; rw [if_pos hbig]
        clear hsu
        go_wp2
        go_round
        case rel => exact ⟨k + 1, by omega, by go_num, by rw [Hs.out], by rw [Hs.out]⟩
        case measure => simp [intOf]; omega
      · have Hs : Hid (itL x (k + 1) = (y * y / 100000000, 2 * n)) := by unfold Hid; rw [hsu]; unfold stepL; rw [if_neg hbig]
        clear hsu
        go_wp2
        go_round
        case rel => exact ⟨k + 1, by omega, by go_num, by rw [Hs.out], by rw [Hs.out]⟩
        case measure => simp [intOf]; omega
    · have : k = 20 := by omega
      subst this
      go_wp2
      go_ret
      exact ⟨rfl, rfl⟩
set_option maxRecDepth 100000 in
theorem l03BitsH_c (x : Int) (w : World) (h : 100000000 ≤ x ∧ x ≤ 1000000000) : Calls Tryz.prog 256 #[.int .i64 x, .bool true] w fun e w' => e = .returned (.int .i64 (itH x 20).2) ∧ w = w' := by
  go_enter Tryz.func256, Tryz.ntmps256
  go_wp2_with fail
  go_loop [0, 5, 6] (fun y n i => ∃ k : Nat, k ≤ 20 ∧ i = .int .i64 k ∧ y = .int .i64 (itH x k).1 ∧ n = .int .i64 (itH x k).2) (fun _ _ i => 20 - (intOf i).toNat)
  case atStart => exact ⟨0, Nat.zero_le _, rfl, rfl, rfl⟩
  case round =>
    obtain ⟨k, hk, rfl, rfl, rfl⟩ := hrel
    have bd := itH_bd h k
    have hp := two_pow_le k hk
    have hsu : itH x (k + 1) = stepH (itH x k) := rfl
    by_cases hlt : k < 20
    · have hlt' : (k : Int) < 20 := by omega
      generalize itH x k = st at bd hsu ⊢
      obtain ⟨y, n⟩ := st
      simp only at bd ⊢
      have hs := sq_bd bd.1
      obtain ⟨⟨b1, b2⟩, b3, b4⟩ := bd
      obtain ⟨s1, s2⟩ := hs
      have b5 : n ≤ 1048576 := by omega
      clear b4 hp
      by_cases hbig : 1000000000 ≤ -(-(y * y) / 100000000)
      · have Hs : Hid (itH x (k + 1) = (cdiv (cdiv (y * y) 100000000) 10, 2 * n + 1)) := by unfold Hid; rw [hsu]; unfold stepH; rw [if_pos (show 1000000000 ≤ cdiv (y * y) 100000000 from hbig)]
        clear hsu
        go_wp2_with (go_at_call 244; refine (l01Ceil_c _ _ _ (by omega) (by omega)).mono ?_; rintro e w' ⟨rfl, rfl⟩)
        go_round
        case rel => exact ⟨k + 1, by omega, by go_num, by rw [Hs.out]; simp [cdiv], by rw [Hs.out]⟩
        case measure => simp [intOf]; omega
      · have Hs : Hid (itH x (k + 1) = (cdiv (y * y) 100000000, 2 * n)) := by unfold Hid; rw [hsu]; unfold stepH; rw [if_neg (show ¬ 1000000000 ≤ cdiv (y * y) 100000000 from hbig)]
        clear hsu
        go_wp2_with (go_at_call 244; refine (l01Ceil_c _ _ _ (by omega) (by omega)).mono ?_; rintro e w' ⟨rfl, rfl⟩)
        go_round
        case rel => exact ⟨k + 1, by omega, by go_num, by rw [Hs.out]; rfl, by rw [Hs.out]⟩
        case measure => simp [intOf]; omega
    · have : k = 20 := by omega
      subst this
      go_wp2
      go_ret
      exact ⟨rfl, rfl⟩

theorem l03Log_c (x : Int) (w : World) (h : 100000000 ≤ x ∧ x ≤ 1000000000) : Calls Tryz.prog 243 #[.int .i64 x] w fun e w' => e = .returned (.agg #[.int .i64 (logLow x), .int .i64 (logHigh x)]) ∧ Below w.heap.size w w' := by
  have h1 := logLow_bd h
  have h2 := logHigh_bd h
  unfold logLow at *
  unfold logHigh at *
  go_enter Tryz.func243, Tryz.ntmps243
  go_wp2_with fail
  refine (l03BitsL_c x _ h).mono ?_; rintro e w' ⟨rfl, rfl⟩
  go_wp2_with fail
  refine (l03BitsH_c x _ h).mono ?_; rintro e w' ⟨rfl, rfl⟩
  go_wp2
  refine bodyPost_ret (v := .agg #[.int .i64 (itL x 20).2, .int .i64 ((itH x 20).2 + 1)]) (by simp [results, Tryz.results243, go_sem]) rfl ⟨rfl, ?_⟩
  exact (by repeat (first | with_reducible exact Below.refl _ _ | with_reducible apply below_drewN' | with_reducible apply Below.drew | (with_reducible refine Below.alloc ?_ (by first | omega | (simp; omega) | simp) _) | (with_reducible refine Below.setCell ?_ (by first | omega | (simp; omega) | simp) _) | exact Below.refl _ _))
set_option maxRecDepth 100000 in
set_option maxHeartbeats 1000000 in
theorem logarithm_c (x : Int) (w : World) (h : 100000000 ≤ x ∧ x ≤ 1000000000) : Calls Tryz.prog 242 #[.int .i64 x] w fun e w' => e = .returned (.agg #[.int .i64 (logLow x), .int .i64 (logHigh x)]) ∧ Below w.heap.size w w' := by
  go_enter Tryz.func242, Tryz.ntmps242
  go_wp2_with fail
  go_loopw [3, 4, 9] (fun lo hi i wr => ∃ k : Nat, k ≤ 20 ∧ i = .int .i64 k ∧ lo = .int .i64 (itL x k).1 ∧ hi = .int .i64 (itH x k).1 ∧ Below w.heap.size w wr ∧
      Blk wr w.heap.size 201 #[.int .i64 0, .int .i64 0] ∧ Blk wr (w.heap.size + 1) 201 #[.int .i64 (itL x k).2, .int .i64 (itH x k).2]) (fun _ _ i _ => 20 - (intOf i).toNat)
  case atStart =>
    refine ⟨0, Nat.zero_le _, rfl, rfl, rfl, (by repeat (first | with_reducible exact Below.refl _ _ | with_reducible apply below_drewN' | with_reducible apply Below.drew | (with_reducible refine Below.alloc ?_ (by first | omega | (simp; omega) | simp) _) | (with_reducible refine Below.setCell ?_ (by first | omega | (simp; omega) | simp) _) | exact Below.refl _ _)), ?_, ?_⟩
    · exact (Blk.new w _ _).alloc _
    · exact Blk.new' _ _ _ (by simp)
  case round =>
    obtain ⟨k, hk, rfl, rfl, rfl, hb, hB0, hB1⟩ := hrel
    have bd := itL_bd h k
    have bh := itH_bd h k
    have hp := two_pow_le k hk
    have hsu : itL x (k + 1) = stepL (itL x k) := rfl
    have hsh : itH x (k + 1) = stepH (itH x k) := rfl
    have hz1 := hB1.lt
    generalize hgg : w.heap.size = g at *
    by_cases hlt : k < 20
    · have hlt' : (k : Int) < 20 := by omega
      generalize itL x k = st at *
      generalize itH x k = sh at *
      obtain ⟨y, n⟩ := st
      obtain ⟨z, m⟩ := sh
      simp only at bd bh hB1 ⊢
      have hs := sq_bd bd.1
      have hs' := sq_bd bh.1
      obtain ⟨⟨b1, b2⟩, b3, b4⟩ := bd
      obtain ⟨⟨d1, d2⟩, d3, d4⟩ := bh
      obtain ⟨s1, s2⟩ := hs
      obtain ⟨s3, s4⟩ := hs'
      have b5 : n ≤ 1048576 := by omega
      have d5 : m ≤ 1048576 := by omega
      clear b4 d4 hp
      have c0 : wr.cell? ⟨g + 1, 0, none⟩ = some (.int .i64 n) := hB1.cell 0
      have c1 : wr.cell? ⟨g + 1, 1, none⟩ = some (.int .i64 m) := hB1.cell 1
      have f0 := hB1.frozen 0
      have f1 := hB1.frozen 1
      have HB0 := Lib.hid hB0
      have HB1 := Lib.hid hB1
      clear hB0 hB1
      have e1 : (1000000000 ≤ y * y / 100000000 ∧ stepL (y, n) = (y * y / 100000000 / 10, 2 * n + 1)) ∨ (¬ 1000000000 ≤ y * y / 100000000 ∧ stepL (y, n) = (y * y / 100000000, 2 * n)) := by
        by_cases hbig : 1000000000 ≤ y * y / 100000000
        · exact .inl ⟨hbig, by unfold stepL; rw [if_pos hbig]⟩
        · exact .inr ⟨hbig, by unfold stepL; rw [if_neg hbig]⟩
      have e2 : (1000000000 ≤ -(-(z * z) / 100000000) ∧ stepH (z, m) = (cdiv (cdiv (z * z) 100000000) 10, 2 * m + 1)) ∨ (¬ 1000000000 ≤ -(-(z * z) / 100000000) ∧ stepH (z, m) = (cdiv (z * z) 100000000, 2 * m)) := by
        by_cases hbig : 1000000000 ≤ -(-(z * z) / 100000000)
        · exact .inl ⟨hbig, by unfold stepH; rw [if_pos (show 1000000000 ≤ cdiv (z * z) 100000000 from hbig)]⟩
        · exact .inr ⟨hbig, by unfold stepH; rw [if_neg (show ¬ 1000000000 ≤ cdiv (z * z) 100000000 from hbig)]⟩
      rcases e1 with ⟨e1, E1⟩ | ⟨e1, E1⟩ <;> rcases e2 with ⟨e2, E2⟩ | ⟨e2, E2⟩
      all_goals
        have H1 := Lib.hid (hsu.trans E1)
        have H2 := Lib.hid (hsh.trans E2)
        clear hsu hsh E1 E2
        go_wp2_with (first | (go_at_call 171; refine (down_c _ _ _ (by omega) (by omega)).mono ?_; rintro e w' ⟨rfl, rfl⟩) | (go_at_call 206; refine (up_c _ _ _ (by omega) (by omega)).mono ?_; rintro e w' ⟨rfl, rfl⟩))
        go_roundw
        case rel =>
          refine ⟨k + 1, by omega, by go_num, by rw [H1.out], by rw [H2.out]; simp [cdiv], (by repeat (first | with_reducible exact hb | with_reducible apply below_drewN' | with_reducible apply Below.drew | (with_reducible refine Below.alloc ?_ (by first | omega | (simp; omega) | simp) _) | (with_reducible refine Below.setCell ?_ (by first | omega | (simp; omega) | simp) _) | exact hb)), ?_, ?_⟩
          · repeat (first | with_reducible exact HB0.out | refine Blk.far ?_ (show g ≠ g + 1 from by omega) _)
          · rw [H1.out, H2.out]
            dsimp only
            rw [Int.mul_comm 2 n, Int.mul_comm 2 m]
            repeat (first | with_reducible exact HB1.out | with_reducible apply Blk.two0 | with_reducible apply Blk.two1)
        case measure => simp [intOf]; omega
    · have : k = 20 := by omega
      subst this
      have c0 : wr.cell? ⟨g + 1, 0, none⟩ = some (.int .i64 (itL x 20).2) := hB1.cell 0
      have c1 : wr.cell? ⟨g + 1, 1, none⟩ = some (.int .i64 (itH x 20).2) := hB1.cell 1
      have f1 := hB1.frozen 1
      have r0 : wr.cell? ⟨g, 0, none⟩ = some (.int .i64 0) := hB0.cell 0
      have r1 : wr.cell? ⟨g, 1, none⟩ = some (.int .i64 0) := hB0.cell 1
      have q0 := hB0.frozen 0
      have q1 := hB0.frozen 1
      have hz0 := hB0.lt
      clear hB0 hB1 hsu hsh bd
      go_wp2
      refine bodyPost_ret (v := .agg #[.int .i64 (itL x 20).2, .int .i64 ((itH x 20).2 + 1)]) ?_ rfl ⟨rfl, by rw [hgg]; exact (by repeat (first | with_reducible exact hb | with_reducible apply below_drewN' | with_reducible apply Below.drew | (with_reducible refine Below.alloc ?_ (by first | omega | (simp; omega) | simp) _) | (with_reducible refine Below.setCell ?_ (by first | omega | (simp; omega) | simp) _) | exact hb))⟩
      simp [results, Tryz.results242, go_sem, r0, r1]
end Go.Proofs.YtgkobjpoeajkdaaGreat
namespace Go.Proofs.YtgkobjpoeajkdaaGreat
open Go.RowKit
def figOK (f : Figure) : Bool := inB f.digits 1000 9999 && inB f.tens (-30) 30
theorem fig_bd {f : Figure} (h : figOK f = true) : (1000 ≤ f.digits ∧ f.digits ≤ 9999) ∧ (-30 ≤ f.tens ∧ f.tens ≤ 30) := by
  simp only [figOK, Bool.and_eq_true] at h
  exact ⟨inB_true.1 h.1, inB_true.1 h.2⟩
def angleRaw (d t : Int) : Int := (logLow (d * 100000) + logHigh (d * 100000)) / 2 * t * 1296000 / 1048576
theorem specIsFigure_c (f : Figure) (w : World) : Calls Tryz.prog 134 #[f.agg] w fun e w' => e = .returned (.bool (figOK f)) ∧ Below w.heap.size w w' := by
  obtain ⟨a, b⟩ := f
  unfold Figure.agg figOK
  cases h1 : inB a 1000 9999 <;> cases h2 : inB b (-30) 30
  all_goals
    go_enter Tryz.func134, Tryz.ntmps134
    go_wp2_with (first | (go_at_call 73; refine (l01In_c _ _ _ _).mono ?_; rintro e w' ⟨rfl, rfl⟩))
    go_ret
    exact ⟨rfl, (Below.refl _ _).alloc (by simp) _⟩
theorem implIsFigure_c (f : Figure) (w : World) : Calls Tryz.prog 189 #[f.agg] w fun e w' => e = .returned (.bool (figOK f)) ∧ Below w.heap.size w w' := by
  obtain ⟨a, b⟩ := f
  unfold Figure.agg figOK
  cases h1 : inB a 1000 9999 <;> cases h2 : inB b (-30) 30
  all_goals
    go_enter Tryz.func189, Tryz.ntmps189
    go_wp2_with (first | (go_at_call 78; refine (within_c _ _ _ _).mono ?_; rintro e w' ⟨rfl, rfl⟩))
    go_ret
    exact ⟨rfl, (Below.refl _ _).alloc (by simp) _⟩
set_option maxRecDepth 100000 in
theorem areFigures_c (A : Option Addr) (c : Nat) (l : List Figure) (w : World) (hl : l.length ≤ 140737488351232) (hs : Sl w w.heap.size 2 A (l.map Figure.cells)) :
    Calls Tryz.prog 234 #[.slice A l.length c] w fun e w' => e = .returned (.bool (l.all figOK)) ∧ Below w.heap.size w w' := by
  go_enter Tryz.func234, Tryz.ntmps234
  go_wp2_with fail
  go_loopw [7] (fun i wr => ∃ k : Nat, k ≤ l.length ∧ i = .int .i64 k ∧ Below w.heap.size w wr ∧ Hid ((l.take k).all figOK = true)) (fun i _ => l.length - (intOf i).toNat)
  case atStart => exact ⟨0, Nat.zero_le _, rfl, Below.refl _ _, (show (l.take 0).all figOK = true from by simp)⟩
  case round =>
    obtain ⟨k, hk, rfl, hb, hn⟩ := hrel
    have hbs := hb.size
    by_cases hlt : k < l.length
    · obtain ⟨b, off, rfl, bB, cc⟩ := hs.at_ (i := k) (by simpa using hlt)
      simp only [List.getElem_map] at cc
      have c0 : wr.cell? ⟨b, off + k * 2, none⟩ = some (.int .i64 l[k].digits) := by rw [hb.cell bB]; exact cc 0 _ rfl
      have c1 : wr.cell? ⟨b, off + k * 2 + 1, none⟩ = some (.int .i64 l[k].tens) := by rw [hb.cell bB]; exact cc 1 _ rfl
      clear cc
      have hnx : (l.take (k + 1)).all figOK = ((l.take k).all figOK && figOK l[k]) := by rw [List.take_succ_eq_append_getElem hlt, List.all_append]; simp
      have hnx' := Lib.hid hnx; clear hnx
      have hcall := fun W => implIsFigure_c l[k] W
      cases hq : figOK l[k] with
      | true =>
        rw [hq] at hcall
        have hcall' := Lib.hid hcall; clear hcall
        have hq' := Lib.hid hq; clear hq
        go_wp2_with (go_at_call 189; refine (hcall'.out _).mono ?_; rintro e w1 ⟨rfl, hb1⟩)
        go_roundw
        case rel => exact ⟨k + 1, by omega, by go_num, (hb.alloc hbs _).trans (hb1.mono (by simp; omega)), (show _ = true from by rw [hnx'.out, hn.out, hq'.out]; rfl)⟩
        case measure => simp [intOf]; omega
      | false =>
        rw [hq] at hcall
        have hcall' := Lib.hid hcall; clear hcall
        have hq' := Lib.hid hq; clear hq
        go_wp2_with (go_at_call 189; refine (hcall'.out _).mono ?_; rintro e w1 ⟨rfl, hb1⟩)
        go_ret
        refine ⟨ret_bool ?_, (hb.alloc hbs _).trans (hb1.mono (by simp; omega))⟩
        symm
        rw [Bool.eq_false_iff]
        intro h
        have := List.all_eq_true.1 h l[k] (List.getElem_mem hlt)
        rw [hq'.out] at this
        cases this
    · have : k = l.length := by omega
      subst this
      have hn' := hn.out
      rw [List.take_length] at hn'
      have hn'' := Lib.hid hn'; clear hn'
      go_wp2
      go_ret
      exact ⟨ret_bool hn''.out.symm, hb⟩
set_option maxRecDepth 100000 in
theorem figureLog_c (f : Figure) (w : World) (h : 1000 ≤ f.digits ∧ f.digits ≤ 9999) (ht : -30 ≤ f.tens ∧ f.tens ≤ 30) :
    Calls Tryz.prog 207 #[f.agg] w fun e w' => e = .returned (.agg #[.int .i64 (logLow (f.digits * 100000) + f.tens * 1048576), .int .i64 (logHigh (f.digits * 100000) + f.tens * 1048576)]) ∧ Below w.heap.size w w' := by
  obtain ⟨d, t⟩ := f
  unfold Figure.agg
  simp only at *
  have hx : 100000000 ≤ d * 100000 ∧ d * 100000 ≤ 1000000000 := by omega
  have h1 := logLow_bd hx
  have h2 := logHigh_bd hx
  obtain ⟨h, h'⟩ := h
  obtain ⟨ht, ht'⟩ := ht
  have hlog := fun W => Lib.hid (logarithm_c (d * 100000) W hx)
  generalize logLow (d * 100000) = lo at *
  generalize logHigh (d * 100000) = hi at *
  go_enter Tryz.func207, Tryz.ntmps207
  go_wp2_with fail
  refine (hlog _).out.mono ?_; rintro e w1 ⟨rfl, hb1⟩
  have B0 : Blk w1 w.heap.size 65 #[.int .i64 d, .int .i64 t] := ((Blk.new w _ _).alloc _).below hb1 (by simp; omega)
  have B1 : Blk w1 (w.heap.size + 1) 201 #[.int .i64 0, .int .i64 0] := (Blk.new' _ _ _ (by simp)).below hb1 (by simp)
  have hb0 : Below w.heap.size w w1 := (((Below.refl _ _).alloc (Nat.le_refl _) _).alloc (by simp) _).trans (hb1.mono (by simp; omega))
  clear hb1
  have z0 := B0.lt
  have z1 := B1.lt
  have c1 : w1.cell? ⟨w.heap.size, 1, none⟩ = some (.int .i64 t) := B0.cell 1
  have d0 : w1.cell? ⟨w.heap.size + 1, 0, none⟩ = some (.int .i64 0) := B1.cell 0
  have d1 : w1.cell? ⟨w.heap.size + 1, 1, none⟩ = some (.int .i64 0) := B1.cell 1
  have f0 := B1.frozen 0
  have f1 := B1.frozen 1
  clear B0 B1
  go_wp2
  refine bodyPost_ret (v := .agg #[.int .i64 (lo + t * 1048576), .int .i64 (hi + t * 1048576)]) (by simp [results, Tryz.results207, go_sem, d0, d1, z1]) rfl ⟨rfl, ?_⟩
  have hbs := hb0.size
  exact (by repeat (first | with_reducible exact hb0 | with_reducible apply below_drewN' | with_reducible apply Below.drew | (with_reducible refine Below.alloc ?_ (by first | omega | (simp; omega) | simp) _) | (with_reducible refine Below.setCell ?_ (by first | omega | (simp; omega) | simp) _) | exact hb0))

theorem log_sum {d : Int} (h : 1000 ≤ d ∧ d ≤ 9999) : (0 ≤ logLow (d * 100000) ∧ logLow (d * 100000) < 1048576) ∧ (1 ≤ logHigh (d * 100000) ∧ logHigh (d * 100000) ≤ 1048576) :=
  ⟨logLow_bd (by omega), logHigh_bd (by omega)⟩
theorem angle_mul {s t : Int} (hs : 0 ≤ s ∧ s ≤ 1048576) (ht : 1 ≤ t ∧ t ≤ 20) : (0 ≤ s * t ∧ s * t ≤ 20971520) := by
  have h1 : 0 ≤ s * t := Int.mul_nonneg hs.1 (by omega)
  have h2 : s * t ≤ 1048576 * 20 := Int.mul_le_mul hs.2 ht.2 (by omega) (by omega)
  omega
theorem angleRaw_bd {d t : Int} (h : 1000 ≤ d ∧ d ≤ 9999) (ht : 1 ≤ t ∧ t ≤ 20) : 0 ≤ angleRaw d t ∧ angleRaw d t ≤ 1296000 * t := by
  have hl := log_sum h
  unfold angleRaw
  generalize logLow (d * 100000) = lo at *
  generalize logHigh (d * 100000) = hi at *
  have hs : 0 ≤ (lo + hi) / 2 ∧ (lo + hi) / 2 ≤ 1048576 := by omega
  generalize (lo + hi) / 2 = s at *
  have hm := angle_mul hs ht
  have h2 : s * t ≤ 1048576 * t := Int.mul_le_mul_of_nonneg_right hs.2 (by omega)
  generalize s * t = q at *
  omega
end Go.Proofs.YtgkobjpoeajkdaaGreat
namespace Go.Proofs.YtgkobjpoeajkdaaGreat
open Go.RowKit
def iv (a b : Int) : Value := .agg #[.int .i64 a, .int .i64 b]
set_option maxRecDepth 100000 in
theorem difference_c (a b a' b' : Int) (w : World) (h : -1099511627776 ≤ a ∧ a ≤ 1099511627776) (h2 : -1099511627776 ≤ b ∧ b ≤ 1099511627776) (h3 : -1099511627776 ≤ a' ∧ a' ≤ 1099511627776) (h4 : -1099511627776 ≤ b' ∧ b' ≤ 1099511627776) :
    Calls Tryz.prog 210 #[.agg #[.int .i64 a, .int .i64 b], .agg #[.int .i64 a', .int .i64 b']] w fun e w' => e = .returned (.agg #[.int .i64 (a - b'), .int .i64 (b - a')]) ∧ Below w.heap.size w w' := by
  obtain ⟨p1, p2⟩ := h
  obtain ⟨p3, p4⟩ := h2
  obtain ⟨p5, p6⟩ := h3
  obtain ⟨p7, p8⟩ := h4
  go_enter Tryz.func210, Tryz.ntmps210
  go_wp2
  refine bodyPost_ret (v := .agg #[.int .i64 (a - b'), .int .i64 (b - a')]) (by simp [results, Tryz.results210, go_sem]) rfl ⟨rfl, (by repeat (first | with_reducible exact Below.refl _ _ | with_reducible apply below_drewN' | with_reducible apply Below.drew | (with_reducible refine Below.alloc ?_ (by first | omega | (simp; omega) | simp) _) | (with_reducible refine Below.setCell ?_ (by first | omega | (simp; omega) | simp) _) | exact Below.refl _ _))⟩
set_option maxRecDepth 100000 in
theorem l03Sub_c (a b a' b' : Int) (w : World) (h : -1099511627776 ≤ a ∧ a ≤ 1099511627776) (h2 : -1099511627776 ≤ b ∧ b ≤ 1099511627776) (h3 : -1099511627776 ≤ a' ∧ a' ≤ 1099511627776) (h4 : -1099511627776 ≤ b' ∧ b' ≤ 1099511627776) :
    Calls Tryz.prog 212 #[.agg #[.int .i64 a, .int .i64 b], .agg #[.int .i64 a', .int .i64 b']] w fun e w' => e = .returned (.agg #[.int .i64 (a - b'), .int .i64 (b - a')]) ∧ Below w.heap.size w w' := by
  obtain ⟨p1, p2⟩ := h
  obtain ⟨p3, p4⟩ := h2
  obtain ⟨p5, p6⟩ := h3
  obtain ⟨p7, p8⟩ := h4
  go_enter Tryz.func212, Tryz.ntmps212
  go_wp2
  refine bodyPost_ret (v := .agg #[.int .i64 (a - b'), .int .i64 (b - a')]) (by simp [results, Tryz.results212, go_sem]) rfl ⟨rfl, (by repeat (first | with_reducible exact Below.refl _ _ | with_reducible apply below_drewN' | with_reducible apply Below.drew | (with_reducible refine Below.alloc ?_ (by first | omega | (simp; omega) | simp) _) | (with_reducible refine Below.setCell ?_ (by first | omega | (simp; omega) | simp) _) | exact Below.refl _ _))⟩
set_option maxRecDepth 100000 in
theorem scaled_c (a b d : Int) (w : World) (h : -1099511627776 ≤ a ∧ a ≤ 1099511627776) (h2 : -1099511627776 ≤ b ∧ b ≤ 1099511627776) (hd : 0 < d ∧ d ≤ 12) :
    Calls Tryz.prog 209 #[.agg #[.int .i64 a, .int .i64 b], .int .i64 1, .int .i64 d] w fun e w' => e = .returned (.agg #[.int .i64 ((min a b) / d), .int .i64 (-(-(max a b) / d))]) ∧ Below w.heap.size w w' := by
  obtain ⟨p1, p2⟩ := h
  obtain ⟨p3, p4⟩ := h2
  obtain ⟨d1, d2⟩ := hd
  have e1 : a * 1 = a := Int.mul_one a
  have e2 : b * 1 = b := Int.mul_one b
  have s1 : IntKind.i64.wrap a = a := IntWalk.i64_in _ (by omega)
  have s2 : IntKind.i64.wrap b = b := IntWalk.i64_in _ (by omega)
  go_enter Tryz.func209, Tryz.ntmps209
  go_wp2_with fail
  go_quiet (fail)
  clear e1 e2 s1 s2
  go_wp2_with (first | (go_at_call 171; refine (down_c _ _ _ (by omega) (by omega)).mono ?_; rintro e w' ⟨rfl, rfl⟩) | (go_at_call 206; refine (up_c _ _ _ (by omega) (by omega)).mono ?_; rintro e w' ⟨rfl, rfl⟩))
  all_goals
    first
      | (have q1 : min a b = a := (by omega); have q2 : max a b = a := (by omega); refine bodyPost_ret (v := .agg #[.int .i64 (min a b / d), .int .i64 (-(-(max a b) / d))]) (by simp [results, Tryz.results209, go_sem, q1, q2]) rfl ⟨rfl, (by repeat (first | with_reducible exact Below.refl _ _ | with_reducible apply below_drewN' | with_reducible apply Below.drew | (with_reducible refine Below.alloc ?_ (by first | omega | (simp; omega) | simp) _) | (with_reducible refine Below.setCell ?_ (by first | omega | (simp; omega) | simp) _) | exact Below.refl _ _))⟩)
      | (have q1 : min a b = a := (by omega); have q2 : max a b = b := (by omega); refine bodyPost_ret (v := .agg #[.int .i64 (min a b / d), .int .i64 (-(-(max a b) / d))]) (by simp [results, Tryz.results209, go_sem, q1, q2]) rfl ⟨rfl, (by repeat (first | with_reducible exact Below.refl _ _ | with_reducible apply below_drewN' | with_reducible apply Below.drew | (with_reducible refine Below.alloc ?_ (by first | omega | (simp; omega) | simp) _) | (with_reducible refine Below.setCell ?_ (by first | omega | (simp; omega) | simp) _) | exact Below.refl _ _))⟩)
      | (have q1 : min a b = b := (by omega); have q2 : max a b = a := (by omega); refine bodyPost_ret (v := .agg #[.int .i64 (min a b / d), .int .i64 (-(-(max a b) / d))]) (by simp [results, Tryz.results209, go_sem, q1, q2]) rfl ⟨rfl, (by repeat (first | with_reducible exact Below.refl _ _ | with_reducible apply below_drewN' | with_reducible apply Below.drew | (with_reducible refine Below.alloc ?_ (by first | omega | (simp; omega) | simp) _) | (with_reducible refine Below.setCell ?_ (by first | omega | (simp; omega) | simp) _) | exact Below.refl _ _))⟩)
      | (have q1 : min a b = b := (by omega); have q2 : max a b = b := (by omega); refine bodyPost_ret (v := .agg #[.int .i64 (min a b / d), .int .i64 (-(-(max a b) / d))]) (by simp [results, Tryz.results209, go_sem, q1, q2]) rfl ⟨rfl, (by repeat (first | with_reducible exact Below.refl _ _ | with_reducible apply below_drewN' | with_reducible apply Below.drew | (with_reducible refine Below.alloc ?_ (by first | omega | (simp; omega) | simp) _) | (with_reducible refine Below.setCell ?_ (by first | omega | (simp; omega) | simp) _) | exact Below.refl _ _))⟩)
set_option maxRecDepth 100000 in
theorem l03Scale_c (a b d : Int) (w : World) (h : -1099511627776 ≤ a ∧ a ≤ 1099511627776) (h2 : -1099511627776 ≤ b ∧ b ≤ 1099511627776) (hd : 0 < d ∧ d ≤ 12) :
    Calls Tryz.prog 252 #[.agg #[.int .i64 a, .int .i64 b], .int .i64 1, .int .i64 d] w fun e w' => e = .returned (.agg #[.int .i64 ((min a b) / d), .int .i64 (-(-(max a b) / d))]) ∧ Below w.heap.size w w' := by
  obtain ⟨p1, p2⟩ := h
  obtain ⟨p3, p4⟩ := h2
  obtain ⟨d1, d2⟩ := hd
  have e1 : a * 1 = a := Int.mul_one a
  have e2 : b * 1 = b := Int.mul_one b
  have s1 : IntKind.i64.wrap a = a := IntWalk.i64_in _ (by omega)
  have s2 : IntKind.i64.wrap b = b := IntWalk.i64_in _ (by omega)
  go_enter Tryz.func252, Tryz.ntmps252
  go_wp2_with fail
  go_quiet (fail)
  clear e1 e2 s1 s2
  go_wp2_with (first | (go_at_call 226; refine (l01Floor_c _ _ _ (by omega) (by omega)).mono ?_; rintro e w' ⟨rfl, rfl⟩) | (go_at_call 244; refine (l01Ceil_c _ _ _ (by omega) (by omega)).mono ?_; rintro e w' ⟨rfl, rfl⟩))
  all_goals
    first
      | (have q1 : min a b = a := (by omega); have q2 : max a b = a := (by omega); refine bodyPost_ret (v := .agg #[.int .i64 (min a b / d), .int .i64 (-(-(max a b) / d))]) (by simp [results, Tryz.results252, go_sem, q1, q2]) rfl ⟨rfl, (by repeat (first | with_reducible exact Below.refl _ _ | with_reducible apply below_drewN' | with_reducible apply Below.drew | (with_reducible refine Below.alloc ?_ (by first | omega | (simp; omega) | simp) _) | (with_reducible refine Below.setCell ?_ (by first | omega | (simp; omega) | simp) _) | exact Below.refl _ _))⟩)
      | (have q1 : min a b = a := (by omega); have q2 : max a b = b := (by omega); refine bodyPost_ret (v := .agg #[.int .i64 (min a b / d), .int .i64 (-(-(max a b) / d))]) (by simp [results, Tryz.results252, go_sem, q1, q2]) rfl ⟨rfl, (by repeat (first | with_reducible exact Below.refl _ _ | with_reducible apply below_drewN' | with_reducible apply Below.drew | (with_reducible refine Below.alloc ?_ (by first | omega | (simp; omega) | simp) _) | (with_reducible refine Below.setCell ?_ (by first | omega | (simp; omega) | simp) _) | exact Below.refl _ _))⟩)
      | (have q1 : min a b = b := (by omega); have q2 : max a b = a := (by omega); refine bodyPost_ret (v := .agg #[.int .i64 (min a b / d), .int .i64 (-(-(max a b) / d))]) (by simp [results, Tryz.results252, go_sem, q1, q2]) rfl ⟨rfl, (by repeat (first | with_reducible exact Below.refl _ _ | with_reducible apply below_drewN' | with_reducible apply Below.drew | (with_reducible refine Below.alloc ?_ (by first | omega | (simp; omega) | simp) _) | (with_reducible refine Below.setCell ?_ (by first | omega | (simp; omega) | simp) _) | exact Below.refl _ _))⟩)
      | (have q1 : min a b = b := (by omega); have q2 : max a b = b := (by omega); refine bodyPost_ret (v := .agg #[.int .i64 (min a b / d), .int .i64 (-(-(max a b) / d))]) (by simp [results, Tryz.results252, go_sem, q1, q2]) rfl ⟨rfl, (by repeat (first | with_reducible exact Below.refl _ _ | with_reducible apply below_drewN' | with_reducible apply Below.drew | (with_reducible refine Below.alloc ?_ (by first | omega | (simp; omega) | simp) _) | (with_reducible refine Below.setCell ?_ (by first | omega | (simp; omega) | simp) _) | exact Below.refl _ _))⟩)
end Go.Proofs.YtgkobjpoeajkdaaGreat
namespace Go.Proofs.YtgkobjpoeajkdaaGreat
open Go.RowKit
/-- the point of digits on ScaleC -/
def pointC (m : Int) : Int := (logLow (m * 100000) + logHigh (m * 100000)) / 2
set_option maxRecDepth 100000 in
set_option maxHeartbeats 400000 in
theorem positionC_c (m t : Int) (w : World) (hm : 1000 ≤ m ∧ m ≤ 9999) :
    Calls Tryz.prog 170 #[.int .i64 0, .agg #[.int .i64 m, .int .i64 t]] w fun e w' => e = .returned (.agg #[.int .i64 (logLow (m * 100000)), .int .i64 (logHigh (m * 100000))]) ∧ Below w.heap.size w w' := by
  have hmf : ∀ (fn : Fn) (first cap : Array Value) (w : World), (Instr.makeFunc fn first cap).run Tryz.prog w = .ok (.func fn first cap) w := fun _ _ _ _ => rfl
  have HL := fun W => figureLog_c ⟨m, 0⟩ W hm (by simp)
  unfold Figure.agg at HL
  simp only [Int.zero_mul, Int.add_zero] at HL
  have HL := fun W => Lib.hid (HL W)
  generalize logLow (m * 100000) = lo at *
  generalize logHigh (m * 100000) = hi at *
  go_enter Tryz.func170, Tryz.ntmps170
  go_wp2_with fail
  refine (HL _).out.mono ?_; rintro e w1 ⟨rfl, hb1⟩
  have Bg := (Blk.new' (w.alloc (.cells #[.int .i64 m, .int .i64 t] 65)) 201 #[.int .i64 0, .int .i64 0] (g := w.heap.size + 1) (by simp)).below hb1 (by simp)
  have c0 : w1.cell? ⟨w.heap.size + 1, 0, none⟩ = some (.int .i64 0) := Bg.cell 0
  have c1 : w1.cell? ⟨w.heap.size + 1, 1, none⟩ = some (.int .i64 0) := Bg.cell 1
  have cf0 : w1.frozen? ⟨w.heap.size + 1, 0, none⟩ = false := Bg.frozen 0
  have cf1 : w1.frozen? ⟨w.heap.size + 1, 1, none⟩ = false := Bg.frozen 1
  have cz := Bg.lt
  have hB1 : Below w.heap.size w w1 := Below.trans ((by repeat (first | with_reducible exact Below.refl _ _ | with_reducible apply below_drewN' | with_reducible apply Below.drew | (with_reducible refine Below.alloc ?_ (by first | omega | (simp; omega) | simp) _) | (with_reducible refine Below.setCell ?_ (by first | omega | (simp; omega) | simp) _) | exact Below.refl _ _))) (hb1.mono (by simp <;> omega))
  have hB1s := hB1.size
  go_wp2
  refine bodyPost_ret (v := .agg #[.int .i64 lo, .int .i64 hi]) (by simp [results, Tryz.results170, go_sem, c0, c1, cz]) rfl ⟨rfl, (by repeat (first | with_reducible exact hB1 | with_reducible apply below_drewN' | with_reducible apply Below.drew | (with_reducible refine Below.alloc ?_ (by first | omega | (simp; omega) | simp) _) | (with_reducible refine Below.setCell ?_ (by first | omega | (simp; omega) | simp) _) | exact hB1))⟩
set_option maxRecDepth 100000 in
set_option maxHeartbeats 400000 in
theorem l05PositionC_c (m t : Int) (w : World) (hm : 1000 ≤ m ∧ m ≤ 9999) :
    Calls Tryz.prog 225 #[.int .i64 0, .agg #[.int .i64 m, .int .i64 t]] w fun e w' => e = .returned (.agg #[.int .i64 (logLow (m * 100000)), .int .i64 (logHigh (m * 100000))]) ∧ Below w.heap.size w w' := by
  have HL := fun W => Lib.hid (l03Log_c (m * 100000) W (by omega))
  generalize logLow (m * 100000) = lo at *
  generalize logHigh (m * 100000) = hi at *
  go_enter Tryz.func225, Tryz.ntmps225
  go_wp2_with fail
  refine (HL _).out.mono ?_; rintro e w1 ⟨rfl, hb1⟩
  have Bg := (Blk.new' (w.alloc (.cells #[.int .i64 m, .int .i64 t] 65)) 201 #[.int .i64 0, .int .i64 0] (g := w.heap.size + 1) (by simp)).below hb1 (by simp)
  have c0 : w1.cell? ⟨w.heap.size + 1, 0, none⟩ = some (.int .i64 0) := Bg.cell 0
  have c1 : w1.cell? ⟨w.heap.size + 1, 1, none⟩ = some (.int .i64 0) := Bg.cell 1
  have cf0 : w1.frozen? ⟨w.heap.size + 1, 0, none⟩ = false := Bg.frozen 0
  have cf1 : w1.frozen? ⟨w.heap.size + 1, 1, none⟩ = false := Bg.frozen 1
  have cz := Bg.lt
  have hB1 : Below w.heap.size w w1 := Below.trans ((by repeat (first | with_reducible exact Below.refl _ _ | with_reducible apply below_drewN' | with_reducible apply Below.drew | (with_reducible refine Below.alloc ?_ (by first | omega | (simp; omega) | simp) _) | (with_reducible refine Below.setCell ?_ (by first | omega | (simp; omega) | simp) _) | exact Below.refl _ _))) (hb1.mono (by simp <;> omega))
  have hB1s := hB1.size
  go_wp2
  refine bodyPost_ret (v := .agg #[.int .i64 lo, .int .i64 hi]) (by simp [results, Tryz.results225, go_sem, c0, c1, cz]) rfl ⟨rfl, (by repeat (first | with_reducible exact hB1 | with_reducible apply below_drewN' | with_reducible apply Below.drew | (with_reducible refine Below.alloc ?_ (by first | omega | (simp; omega) | simp) _) | (with_reducible refine Below.setCell ?_ (by first | omega | (simp; omega) | simp) _) | exact hB1))⟩
set_option maxRecDepth 100000 in
theorem pointOf_c (m t : Int) (w : World) (hm : 1000 ≤ m ∧ m ≤ 9999) :
    Calls Tryz.prog 110 #[.int .i64 0, .agg #[.int .i64 m, .int .i64 t]] w fun e w' => e = .returned (.int .i64 (pointC m)) ∧ Below w.heap.size w w' := by
  have h1 := logLow_bd (x := m * 100000) (by omega)
  have h2 := logHigh_bd (x := m * 100000) (by omega)
  have HL := fun W => Lib.hid (positionC_c m t W hm)
  unfold pointC
  generalize logLow (m * 100000) = lo at *
  generalize logHigh (m * 100000) = hi at *
  have HD := fun W => Lib.hid (down_c (lo + hi) 2 W (by omega) (by omega))
  go_enter Tryz.func110, Tryz.ntmps110
  go_wp2_with fail
  refine (HL _).out.mono ?_; rintro e w1 ⟨rfl, hb1⟩
  have hB1 : Below w.heap.size w w1 := ((Below.refl _ _).alloc (Nat.le_refl _) _).trans (hb1.mono (by simp))
  have hB1s := hB1.size
  go_wp2_with (go_at_call 171; refine (HD _).out.mono ?_; rintro e w2 ⟨rfl, rfl⟩)
  go_ret
  exact ⟨rfl, (by repeat (first | with_reducible exact hB1 | with_reducible apply below_drewN' | with_reducible apply Below.drew | (with_reducible refine Below.alloc ?_ (by first | omega | (simp; omega) | simp) _) | (with_reducible refine Below.setCell ?_ (by first | omega | (simp; omega) | simp) _) | exact hB1))⟩
set_option maxRecDepth 100000 in
theorem l11Point_c (m t : Int) (w : World) (hm : 1000 ≤ m ∧ m ≤ 9999) :
    Calls Tryz.prog 179 #[.int .i64 0, .agg #[.int .i64 m, .int .i64 t]] w fun e w' => e = .returned (.int .i64 (pointC m)) ∧ Below w.heap.size w w' := by
  have h1 := logLow_bd (x := m * 100000) (by omega)
  have h2 := logHigh_bd (x := m * 100000) (by omega)
  have HL := fun W => Lib.hid (l05PositionC_c m t W hm)
  unfold pointC
  generalize logLow (m * 100000) = lo at *
  generalize logHigh (m * 100000) = hi at *
  have HD := fun W => Lib.hid (l01Floor_c (lo + hi) 2 W (by omega) (by omega))
  go_enter Tryz.func179, Tryz.ntmps179
  go_wp2_with fail
  refine (HL _).out.mono ?_; rintro e w1 ⟨rfl, hb1⟩
  have hB1 : Below w.heap.size w w1 := ((Below.refl _ _).alloc (Nat.le_refl _) _).trans (hb1.mono (by simp))
  have hB1s := hB1.size
  go_wp2_with (go_at_call 226; refine (HD _).out.mono ?_; rintro e w2 ⟨rfl, rfl⟩)
  go_ret
  exact ⟨rfl, (by repeat (first | with_reducible exact hB1 | with_reducible apply below_drewN' | with_reducible apply Below.drew | (with_reducible refine Below.alloc ?_ (by first | omega | (simp; omega) | simp) _) | (with_reducible refine Below.setCell ?_ (by first | omega | (simp; omega) | simp) _) | exact hB1))⟩
theorem l14Point_c (m t : Int) (w : World) (hm : 1000 ≤ m ∧ m ≤ 9999) :
    Calls Tryz.prog 121 #[.agg #[.int .i64 m, .int .i64 t]] w fun e w' => e = .returned (.int .i64 (pointC m)) ∧ Below w.heap.size w w' := by
  have HL := fun W => Lib.hid (l11Point_c m t W hm)
  go_enter Tryz.func121, Tryz.ntmps121
  go_wp2_with (go_at_call 179; refine (HL _).out.mono ?_; rintro e w1 ⟨rfl, hb1⟩)
  go_ret
  exact ⟨rfl, ((Below.refl _ _).alloc (Nat.le_refl _) _).trans (hb1.mono (by simp))⟩
end Go.Proofs.YtgkobjpoeajkdaaGreat
namespace Go.Proofs.YtgkobjpoeajkdaaGreat
open Go.RowKit
set_option maxRecDepth 100000 in
theorem sum_c (a b a' b' : Int) (w : World) (h : -1099511627776 ≤ a ∧ a ≤ 1099511627776) (h2 : -1099511627776 ≤ b ∧ b ≤ 1099511627776) (h3 : -1099511627776 ≤ a' ∧ a' ≤ 1099511627776) (h4 : -1099511627776 ≤ b' ∧ b' ≤ 1099511627776) :
    Calls Tryz.prog 222 #[.agg #[.int .i64 a, .int .i64 b], .agg #[.int .i64 a', .int .i64 b']] w fun e w' => e = .returned (.agg #[.int .i64 (a + a'), .int .i64 (b + b')]) ∧ Below w.heap.size w w' := by
  obtain ⟨p1, p2⟩ := h
  obtain ⟨p3, p4⟩ := h2
  obtain ⟨p5, p6⟩ := h3
  obtain ⟨p7, p8⟩ := h4
  go_enter Tryz.func222, Tryz.ntmps222
  go_wp2
  refine bodyPost_ret (v := .agg #[.int .i64 (a + a'), .int .i64 (b + b')]) (by simp [results, Tryz.results222, go_sem]) rfl ⟨rfl, (by repeat (first | with_reducible exact Below.refl _ _ | with_reducible apply below_drewN' | with_reducible apply Below.drew | (with_reducible refine Below.alloc ?_ (by first | omega | (simp; omega) | simp) _) | (with_reducible refine Below.setCell ?_ (by first | omega | (simp; omega) | simp) _) | exact Below.refl _ _))⟩
set_option maxRecDepth 100000 in
theorem l03Add_c (a b a' b' : Int) (w : World) (h : -1099511627776 ≤ a ∧ a ≤ 1099511627776) (h2 : -1099511627776 ≤ b ∧ b ≤ 1099511627776) (h3 : -1099511627776 ≤ a' ∧ a' ≤ 1099511627776) (h4 : -1099511627776 ≤ b' ∧ b' ≤ 1099511627776) :
    Calls Tryz.prog 213 #[.agg #[.int .i64 a, .int .i64 b], .agg #[.int .i64 a', .int .i64 b']] w fun e w' => e = .returned (.agg #[.int .i64 (a + a'), .int .i64 (b + b')]) ∧ Below w.heap.size w w' := by
  obtain ⟨p1, p2⟩ := h
  obtain ⟨p3, p4⟩ := h2
  obtain ⟨p5, p6⟩ := h3
  obtain ⟨p7, p8⟩ := h4
  go_enter Tryz.func213, Tryz.ntmps213
  go_wp2
  refine bodyPost_ret (v := .agg #[.int .i64 (a + a'), .int .i64 (b + b')]) (by simp [results, Tryz.results213, go_sem]) rfl ⟨rfl, (by repeat (first | with_reducible exact Below.refl _ _ | with_reducible apply below_drewN' | with_reducible apply Below.drew | (with_reducible refine Below.alloc ?_ (by first | omega | (simp; omega) | simp) _) | (with_reducible refine Below.setCell ?_ (by first | omega | (simp; omega) | simp) _) | exact Below.refl _ _))⟩
set_option maxRecDepth 100000 in
theorem l03Figure_c (f : Figure) (w : World) (h : 1000 ≤ f.digits ∧ f.digits ≤ 9999) (ht : -30 ≤ f.tens ∧ f.tens ≤ 30) :
    Calls Tryz.prog 211 #[f.agg] w fun e w' => e = .returned (.agg #[.int .i64 (logLow (f.digits * 100000) + f.tens * 1048576), .int .i64 (logHigh (f.digits * 100000) + f.tens * 1048576)]) ∧ Below w.heap.size w w' := by
  obtain ⟨d, t⟩ := f
  unfold Figure.agg
  simp only at *
  have hx : 100000000 ≤ d * 100000 ∧ d * 100000 ≤ 1000000000 := by omega
  have h1 := logLow_bd hx
  have h2 := logHigh_bd hx
  obtain ⟨h, h'⟩ := h
  obtain ⟨ht, ht'⟩ := ht
  have hlog := fun W => Lib.hid (l03Log_c (d * 100000) W hx)
  generalize logLow (d * 100000) = lo at *
  generalize logHigh (d * 100000) = hi at *
  go_enter Tryz.func211, Tryz.ntmps211
  go_wp2_with fail
  refine (hlog _).out.mono ?_; rintro e w1 ⟨rfl, hb1⟩
  have B0 : Blk w1 w.heap.size 65 #[.int .i64 d, .int .i64 t] := ((Blk.new w _ _).alloc _).below hb1 (by simp; omega)
  have B1 : Blk w1 (w.heap.size + 1) 201 #[.int .i64 0, .int .i64 0] := (Blk.new' _ _ _ (by simp)).below hb1 (by simp)
  have hb0 : Below w.heap.size w w1 := (((Below.refl _ _).alloc (Nat.le_refl _) _).alloc (by simp) _).trans (hb1.mono (by simp; omega))
  clear hb1
  have z0 := B0.lt
  have z1 := B1.lt
  have c1 : w1.cell? ⟨w.heap.size, 1, none⟩ = some (.int .i64 t) := B0.cell 1
  have d0 : w1.cell? ⟨w.heap.size + 1, 0, none⟩ = some (.int .i64 0) := B1.cell 0
  have d1 : w1.cell? ⟨w.heap.size + 1, 1, none⟩ = some (.int .i64 0) := B1.cell 1
  have f0 := B1.frozen 0
  have f1 := B1.frozen 1
  clear B0 B1
  go_wp2
  refine bodyPost_ret (v := .agg #[.int .i64 (lo + t * 1048576), .int .i64 (hi + t * 1048576)]) (by simp [results, Tryz.results211, go_sem, d0, d1, z1]) rfl ⟨rfl, ?_⟩
  have hbs := hb0.size
  exact (by repeat (first | with_reducible exact hb0 | with_reducible apply below_drewN' | with_reducible apply Below.drew | (with_reducible refine Below.alloc ?_ (by first | omega | (simp; omega) | simp) _) | (with_reducible refine Below.setCell ?_ (by first | omega | (simp; omega) | simp) _) | exact hb0))

def figLo (d t : Int) : Int := logLow (d * 100000) + t * 1048576
def figHi (d t : Int) : Int := logHigh (d * 100000) + t * 1048576
theorem figLo_bd {d t : Int} (h : 1000 ≤ d ∧ d ≤ 9999) (ht : -30 ≤ t ∧ t ≤ 30) : (-33554432 ≤ figLo d t ∧ figLo d t ≤ 33554432) ∧ (-33554432 ≤ figHi d t ∧ figHi d t ≤ 33554432) := by
  have h1 := logLow_bd (x := d * 100000) (by omega)
  have h2 := logHigh_bd (x := d * 100000) (by omega)
  unfold figLo figHi
  omega
end Go.Proofs.YtgkobjpoeajkdaaGreat
namespace Go.Proofs.YtgkobjpoeajkdaaGreat
open Go.RowKit
@[ext] structure Errors where
  engraving : Int
  parallax : Int
  eye : Int
deriving DecidableEq
def Errors.cells (s : Errors) : List Value := [.int .i64 s.engraving, .int .i64 s.parallax, .int .i64 s.eye]
def Errors.agg (s : Errors) : Value := .agg #[.int .i64 s.engraving, .int .i64 s.parallax, .int .i64 s.eye]

theorem Errors.of_rows : ∀ rows : List (List Int), (∀ x ∈ rows, x.length = 3) → ∃ l : List Errors, rows.map (·.map (Value.int .i64)) = l.map Errors.cells
  | [], _ => ⟨[], rfl⟩
  | x :: r, h => by
    obtain ⟨l, hl⟩ := Errors.of_rows r fun y hy => h y (by simp [hy])
    match x, h x (by simp) with
    | [a, b, c], _ => exact ⟨⟨a, b, c⟩ :: l, by rw [List.map_cons, hl]; rfl⟩

theorem toErrors_c (a : Int) (b : Int) (c : Int) (w : World) : Calls Tryz.prog 26 #[.agg #[.int .i64 a, .int .i64 b, .int .i64 c]] w fun e w' => e = .returned (.agg #[.int .i64 a, .int .i64 b, .int .i64 c]) ∧ Below w.heap.size w w' := by
  go_enter Tryz.func26, Tryz.ntmps26
  go_wp2
  refine bodyPost_ret (v := .agg #[.int .i64 a, .int .i64 b, .int .i64 c]) (by simp [results, Tryz.results26, go_sem]) rfl ⟨rfl, ?_⟩
  exact (by repeat (first | with_reducible exact Below.refl _ _ | with_reducible apply below_drewN' | with_reducible apply Below.drew | (with_reducible refine Below.alloc ?_ (by first | omega | (simp; omega) | simp) _) | (with_reducible refine Below.setCell ?_ (by first | omega | (simp; omega) | simp) _) | exact Below.refl _ _))


theorem eqErrors_c (a : Int) (b : Int) (c : Int) (w : World) : Calls Tryz.prog 65 #[.agg #[.int .i64 a, .int .i64 b, .int .i64 c], .agg #[.int .i64 a, .int .i64 b, .int .i64 c]] w fun e w' => e = .returned (.bool true) ∧ Below w.heap.size w w' := by
  go_enter Tryz.func65, Tryz.ntmps65
  go_wp2
  go_ret
  exact ⟨rfl, (by repeat (first | with_reducible exact Below.refl _ _ | with_reducible apply below_drewN' | with_reducible apply Below.drew | (with_reducible refine Below.alloc ?_ (by first | omega | (simp; omega) | simp) _) | (with_reducible refine Below.setCell ?_ (by first | omega | (simp; omega) | simp) _) | exact Below.refl _ _))⟩





end Go.Proofs.YtgkobjpoeajkdaaGreat
