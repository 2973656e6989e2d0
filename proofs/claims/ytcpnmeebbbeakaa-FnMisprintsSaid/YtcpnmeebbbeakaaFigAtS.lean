/- The reference's search for the figure at an angle. Conditions: 1 to 20 turns, an angle of the circle. -/
import Derived.Test.YtcpnmeebbbeakaaPlainNear
namespace Go.Proofs.Ytcpnmeebbbeakaa
open Go.RowKit
set_option maxRecDepth 100000 in
set_option maxHeartbeats 1000000 in
theorem l30At_c (angle t : Int) (w : World) (ht : 1 ≤ t ∧ t ≤ 20) (ha : 0 ≤ angle ∧ angle ≤ 25920000) :
    Calls Try.prog 86 #[.int .i64 angle, .int .i64 t] w fun e w' => e = .returned (.agg #[.int .i64 (nearD angle t), .int .i64 0]) ∧ Below w.heap.size w w' := by
  have hfl := firstD_le t angle
  have Hlt := fun d h1 h2 => Lib.hid (first_lt (t := t) (n := angle) (d := d) h1 h2)
  have Hge := fun d h1 h2 => Lib.hid (first_ge (t := t) (n := angle) (d := d) ht h1 h2)
  have Hst := fun n best least hn hs => Lib.hid (winSt_step (angle := angle) (t := t) (n := n) (best := best) (least := least) ht hn hs)
  have Hend := fun best least hs => Lib.hid (winSt_end (angle := angle) (t := t) (best := best) (least := least) hs)
  have Hbd := fun n best least hn hs => Lib.hid (winSt_bd (angle := angle) (t := t) (n := n) (best := best) (least := least) ht ha hn hs)
  have HA := fun d (h1 : 1000 ≤ d) (h2 : d ≤ 9999) W => Lib.hid (l30Angle_c d t W ⟨h1, h2⟩ ht)
  have Hab := fun d (h1 : 1000 ≤ d) (h2 : d ≤ 9999) => Lib.hid (angleRaw_bd (d := d) (t := t) ⟨h1, h2⟩ ht)
  generalize hra : (1000 : Int) + firstD t angle = a at *
  have a1 : 1000 ≤ a := by omega
  have a2 : a ≤ 10000 := by omega
  clear hra hfl
  obtain ⟨ha1, ha2⟩ := ha
  obtain ⟨ht1, ht2⟩ := ht
  go_enter Try.func86, Try.ntmps86
  go_wp2_with fail
  go_loopw [5, 6] (fun lo hi wr => ∃ l h : Int, 999 ≤ l ∧ l < a ∧ a ≤ h ∧ h ≤ 10000 ∧ lo = .int .i64 l ∧ hi = .int .i64 h ∧ Below w.heap.size w wr ∧ Blk wr w.heap.size 36 #[.int .i64 0, .int .i64 0]) (fun lo hi _ => (intOf hi - intOf lo).toNat)
  case atStart => exact ⟨999, 10000, by omega, by omega, a2, by omega, rfl, rfl, (Below.refl _ _).alloc (Nat.le_refl _) _, Blk.new w _ _⟩
  case round =>
    obtain ⟨l, h, hl1, hl2, hh1, hh2, rfl, rfl, hb, hB⟩ := hrel
    have hbs := hb.size
    by_cases hgt : 1 < h - l
    · obtain ⟨m, hm⟩ : ∃ m, m = (l + h) / 2 := ⟨_, rfl⟩
      have m1 : l < m := by omega
      have m2 : m < h := by omega
      have Hm := Lib.hid hm.symm; clear hm
      by_cases hma : a ≤ m
      · have hx := (Hge m hma (by omega)).out
        go_wp2_with fail
        rw [Hm.out]
        refine (HA m (by omega) (by omega) _).out.mono ?_; rintro e w1 ⟨rfl, hb1⟩
        go_wp2
        go_roundw
        case rel => exact ⟨l, m, hl1, hl2, hma, by omega, rfl, rfl, hb.trans (hb1.mono hbs), hB.below hb1 hB.lt⟩
        case measure => simp [intOf]; omega
      · have hx := (Hlt m (by omega) (by omega)).out
        go_wp2_with fail
        rw [Hm.out]
        refine (HA m (by omega) (by omega) _).out.mono ?_; rintro e w1 ⟨rfl, hb1⟩
        go_wp2
        go_roundw
        case rel => exact ⟨m, h, by omega, by omega, hh1, hh2, rfl, rfl, hb.trans (hb1.mono hbs), hB.below hb1 hB.lt⟩
        case measure => simp [intOf]; omega
    · obtain rfl : a = h := by omega
      go_wp2_with fail
      all_goals
        obtain ⟨wo, rfl⟩ : ∃ wo : World, wo = wr := ⟨_, rfl⟩
        go_loopw [8, 9, 10] (fun bs ls nn wq => ∃ n best least : Int, 1000 ≤ n ∧ n ≤ 10000 ∧ n ≤ a + 3 ∧ bs = .int .i64 best ∧ ls = .int .i64 least ∧ nn = .int .i64 n ∧ Hid (winSt angle t a n best least) ∧ Below w.heap.size w wq ∧ Blk wq w.heap.size 36 #[.int .i64 0, .int .i64 0]) (fun _ _ nn _ => (20000 - intOf nn).toNat)
        case atStart => exact ⟨_, 0, -1, by omega, by omega, by omega, rfl, rfl, rfl, .inl ⟨by omega, rfl, rfl⟩, hb, hB⟩
        case round =>
          obtain ⟨n, best, least, n1, n2, n3, rfl, rfl, rfl, hw, hb, hB⟩ := hrel
          have hbs := hb.size
          have hbd := (Hbd n best least ⟨n1, n2⟩ hw.out).out
          rcases (show (a + 3 ≤ 10000 ∧ n < a + 3) ∨ (10000 < a + 3 ∧ n < 10000) ∨ (a + 3 ≤ 10000 ∧ n = a + 3) ∨ (10000 < a + 3 ∧ n = 10000) by omega) with ⟨h3, hn⟩ | ⟨h3, hn⟩ | ⟨h3, rfl⟩ | ⟨h3, rfl⟩
          iterate 2
            · have hst := (Hst n best least ⟨n1, by omega⟩ hw.out).out
              have hab := (Hab n n1 (by omega)).out
              have hab2 : angleRaw n t ≤ 25920000 := by omega
              obtain ⟨hab1, _⟩ := hab
              have haw : absI (angleRaw n t - angle) ≤ 30000000 ∧ 0 ≤ absI (angleRaw n t - angle) := by unfold absI; omega
              have Habs : ∀ W, Hid (Calls Try.prog 148 #[.int .i64 (angleRaw n t - angle)] W fun e w' => e = .returned (.int .i64 (absI (angleRaw n t - angle))) ∧ W = w') := fun W => l01Abs_c _ W (by omega)
              generalize absI (angleRaw n t - angle) = aw at *
              have Hst' := Lib.hid hst; clear hst
              by_cases c1 : least < 0
              · have Hw := Lib.hid (Hst'.out.1 (.inl c1))
                go_wp2_with (first | (go_at_call 88; refine (HA _ n1 (by omega) _).out.mono ?_; rintro e w1 ⟨rfl, hb1⟩) | (go_at_call 148; refine (Habs _).out.mono ?_; rintro e w2 ⟨rfl, rfl⟩))
                first
                  | done
                  | (go_roundw
                     case rel => exact ⟨n + 1, n, aw, by omega, by omega, by omega, rfl, rfl, rfl, Hw, hb.trans (hb1.mono hbs), hB.below hb1 hB.lt⟩
                     case measure => simp [intOf]; omega)
              · by_cases c2 : aw < least
                · have Hw := Lib.hid (Hst'.out.1 (.inr c2))
                  go_wp2_with (first | (go_at_call 88; refine (HA _ n1 (by omega) _).out.mono ?_; rintro e w1 ⟨rfl, hb1⟩) | (go_at_call 148; refine (Habs _).out.mono ?_; rintro e w2 ⟨rfl, rfl⟩))
                  first
                    | done
                    | (go_roundw
                       case rel => exact ⟨n + 1, n, aw, by omega, by omega, by omega, rfl, rfl, rfl, Hw, hb.trans (hb1.mono hbs), hB.below hb1 hB.lt⟩
                       case measure => simp [intOf]; omega)
                · have Hw := Lib.hid (Hst'.out.2 (by omega) (by omega))
                  go_wp2_with (first | (go_at_call 88; refine (HA _ n1 (by omega) _).out.mono ?_; rintro e w1 ⟨rfl, hb1⟩) | (go_at_call 148; refine (Habs _).out.mono ?_; rintro e w2 ⟨rfl, rfl⟩))
                  first
                    | done
                    | (go_roundw
                       case rel => exact ⟨n + 1, best, least, by omega, by omega, by omega, rfl, rfl, rfl, Hw, hb.trans (hb1.mono hbs), hB.below hb1 hB.lt⟩
                       case measure => simp [intOf]; omega)
          all_goals
            have hE := (Hend best least (by first | (rw [show min 10000 (a + 3) = a + 3 from by omega]; exact hw.out) | (rw [show min 10000 (a + 3) = 10000 from by omega]; exact hw.out))).out
            have r0 : wr.cell? ⟨w.heap.size, 0, none⟩ = some (.int .i64 0) := hB.cell 0
            have r1 : wr.cell? ⟨w.heap.size, 1, none⟩ = some (.int .i64 0) := hB.cell 1
            have q0 := hB.frozen 0
            have q1 := hB.frozen 1
            have HE := Lib.hid hE; clear hE
            go_wp2
            all_goals refine bodyPost_ret (v := .agg #[.int .i64 best, .int .i64 0]) (by simp [results, Try.results86, go_sem, r0, r1]) rfl ⟨by rw [HE.out], (by repeat (first | with_reducible exact hb | with_reducible apply below_drewN' | with_reducible apply Below.drew | (with_reducible refine Below.alloc ?_ (by first | omega | (simp; omega) | simp) _) | (with_reducible refine Below.setCell ?_ (by first | omega | (simp; omega) | simp) _) | exact hb))⟩
end Go.Proofs.Ytcpnmeebbbeakaa
