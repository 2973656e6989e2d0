/- The law on rows: walked. Condition: none. -/
import Derived.Test.YtkjommcmeinkaaaGreatKRw28
import Derived.Test.YtkjommcmeinkaaaGreatKRw35
import Derived.Test.YtkjommcmeinkaaaGreatKRw43
set_option linter.unusedSimpArgs false
namespace Go.Proofs.YtkjommcmeinkaaaGreat
open Go.RowKit
set_option maxRecDepth 100000 in
set_option maxHeartbeats 2000000 in
theorem lawRows_c (A : Option Addr) (n c : Nat) (w : World) (hn : n ≤ 140737488351232) (hb : Bytes w A n w.heap.size) :
    Calls Tryz.prog 3 #[.slice A n c] w fun e w' => e = .returned (.bool true) ∧ Below w.heap.size w w' := by
  have hG := big_c A n c w hn
  by_cases hbig : 4096 < n
  · rw [decide_eq_true hbig] at hG
    have HG := Lib.hid hG; clear hG hb
    go_enter Tryz.func3, Tryz.ntmps3
    go_wp2_with (go_at_call 4; refine HG.out.mono ?_; rintro e w1 ⟨rfl, rfl⟩)
    go_ret
    exact ⟨rfl, Below.refl _ _⟩
  · rw [decide_eq_false hbig] at hG
    have HG := Lib.hid hG; clear hG
    have hn' : n ≤ 4096 := by omega
    have HB := Lib.hid hb; clear hb
    go_enter Tryz.func3, Tryz.ntmps3
    go_wp2_with (go_at_call 4; refine HG.out.mono ?_; rintro e w1 ⟨rfl, rfl⟩)
    clear HG
    refine (drawIsMisprint_c A n c w hn' HB.out).mono ?_; rintro e w1 ⟨a, b, ta, tb, td, tc, rfl, hB1⟩
    have HI := fun W => Lib.hid (implIsMisprint_c a b tc ⟨ta, tb, td⟩ W)
    have HS := fun W => Lib.hid (specIsMisprint_c a b tc ⟨ta, tb, td⟩ W)
    have HD := fun W => Lib.hid (implPlaceDifference_c a b ⟨ta, tb, td⟩ W)
    have hma := Lib.hid (fun h => mis_away (s := a) (n := b) (tol := tc) (t := ⟨ta, tb, td⟩) h)
    unfold Tick.agg at HI HS HD
    generalize imRes a b ⟨ta, tb, td⟩ tc = mr at *
    generalize pdRes a b ⟨ta, tb, td⟩ = pr at *
    obtain ⟨mb, mc⟩ := mr
    obtain ⟨pv, pc⟩ := pr
    simp only at HI HS HD
    have hz1 := hB1.size
    have Bt := Blk.new w1 25 #[.int .i64 ta, .int .i64 tb, .int .i64 td]
    have hB : Below w.heap.size w (w1.alloc (.cells #[.int .i64 ta, .int .i64 tb, .int .i64 td] 25)) := (by repeat (first | with_reducible exact hB1 | with_reducible apply below_drewN' | with_reducible apply Below.drew | (with_reducible refine Below.alloc ?_ (by first | omega | (simp; omega) | simp | (have := (hB1).size; omega) | (have := (hB1).size; simp; omega)) _) | (with_reducible refine Below.setCell ?_ (by first | omega | (simp; omega) | simp | (have := (hB1).size; omega) | (have := (hB1).size; simp; omega)) _) | exact hB1))
    go_wp2_with fail
    generalize hbt : w1.heap.size = bt at *
    generalize w1.alloc (.cells #[.int .i64 ta, .int .i64 tb, .int .i64 td] 25) = w2 at *
    refine (HI _).out.mono ?_; rintro e w3 ⟨rfl, hb3⟩
    have hB := hB.trans (hb3.mono hB.size)
    have Bt := Bt.below hb3 Bt.lt
    have x0 : w3.cell? ⟨bt, 0, none⟩ = some (.int .i64 ta) := Bt.cell 0
    have x1 : w3.cell? ⟨bt, 1, none⟩ = some (.int .i64 tb) := Bt.cell 1
    have x2 : w3.cell? ⟨bt, 2, none⟩ = some (.int .i64 td) := Bt.cell 2
    go_wp2_with fail
    refine (HS _).out.mono ?_; rintro e w4 ⟨rfl, hb4⟩
    have hB := hB.trans (hb4.mono hB.size)
    have Bt := Bt.below hb4 Bt.lt
    clear HI HS x0 x1 x2
    go_wp2_with fail
    refine (drawIsOrdered_c A n c _ hn' ((HB.out.keep fun p hp => hB.cell hp).more hB.size)).mono ?_; rintro e w5 ⟨sc, R, A1, c1, rfl, hR, hO1, hb5⟩
    have hB := hB.trans (hb5.mono hB.size)
    have Bt := Bt.below hb5 Bt.lt
    have HI := fun W h => Lib.hid (implIsOrdered_c sc A1 c1 R W (by omega) h)
    have HS := fun W h => Lib.hid (specIsOrdered_c sc A1 c1 R W (by omega) h)
    have hdn := Lib.hid (fun h => dbl_none (s := sc) (l := R) h)
    generalize ordRes sc R = od at *
    obtain ⟨ob, oc⟩ := od
    simp only at HI HS
    go_wp2_with fail
    refine (HI _ hO1.sl).out.mono ?_; rintro e w6 ⟨rfl, hb6⟩
    have hB := hB.trans (hb6.mono hB.size)
    have hO1 := hO1.below hb6
    have Bt := Bt.below hb6 Bt.lt
    go_wp2_with fail
    refine (HS _ hO1.sl).out.mono ?_; rintro e w7 ⟨rfl, hb7⟩
    have hB := hB.trans (hb7.mono hB.size)
    have hO1 := hO1.below hb7
    have Bt := Bt.below hb7 Bt.lt
    clear HI HS
    go_wp2_with fail
    refine (drawMissingMarks_c A n c _ hn' ((HB.out.keep fun p hp => hB.cell hp).more hB.size)).mono ?_; rintro e w8 ⟨G, Ag, cg, L, A2, c2, x, y, rfl, hGl, hLl, hOg, hO2, hb8⟩
    have hB := hB.trans (hb8.mono hB.size)
    have hO1 := hO1.below hb8
    have Bt := Bt.below hb8 Bt.lt
    have HI := fun W h h2 => Lib.hid (implMissing_c Ag cg G A2 c2 L x y W (by omega) h (by omega) h2)
    have HS := fun W h h2 => Lib.hid (specMissing_c Ag cg G A2 c2 L x y W (by omega) h (by omega) h2)
    have hml := missR_len G L x y
    have hmn := Lib.hid (fun t h => miss_not (g := G) (l := L) (a := x) (b := y) (t := t) h)
    generalize missR G L x y = M at *
    generalize missCode G L x y = mcode at *
    go_wp2_with fail
    refine (HI _ hOg.sl hO2.sl).out.mono ?_; rintro e w9 ⟨A3, c3, rfl, hO3, hb9⟩
    have hB := hB.trans (hb9.mono hB.size)
    have hO1 := hO1.below hb9
    have hOg := hOg.below hb9
    have hO2 := hO2.below hb9
    have Bt := Bt.below hb9 Bt.lt
    go_wp2_with fail
    refine (HS _ hOg.sl hO2.sl).out.mono ?_; rintro e w10 ⟨A4, c4, rfl, hO4, hb10⟩
    have hB := hB.trans (hb10.mono hB.size)
    have hO1 := hO1.below hb10
    have hOg := hOg.below hb10
    have hO2 := hO2.below hb10
    have hO3 := hO3.below hb10
    have Bt := Bt.below hb10 Bt.lt
    clear HI HS
    go_wp2_with fail
    refine (drawDoubleMarks_c A n c _ hn' ((HB.out.keep fun p hp => hB.cell hp).more hB.size)).mono ?_; rintro e w11 ⟨D, A5, c5, rfl, hDl, hO5, hb11⟩
    have hB := hB.trans (hb11.mono hB.size)
    have hO1 := hO1.below hb11
    have hOg := hOg.below hb11
    have hO2 := hO2.below hb11
    have hO3 := hO3.below hb11
    have hO4 := hO4.below hb11
    have Bt := Bt.below hb11 Bt.lt
    have HI := fun W h => Lib.hid (implDouble_c A5 c5 D W (by omega) h)
    have HS := fun W h => Lib.hid (specDouble_c A5 c5 D W (by omega) h)
    have hdl := dblR_len D
    generalize dblR D = E at *
    generalize rowCode D = ec at *
    go_wp2_with fail
    refine (HI _ hO5.sl).out.mono ?_; rintro e w12 ⟨A6, c6, rfl, hO6, hb12⟩
    have hB := hB.trans (hb12.mono hB.size)
    have hO1 := hO1.below hb12
    have hOg := hOg.below hb12
    have hO2 := hO2.below hb12
    have hO3 := hO3.below hb12
    have hO4 := hO4.below hb12
    have hO5 := hO5.below hb12
    have Bt := Bt.below hb12 Bt.lt
    go_wp2_with fail
    refine (HS _ hO5.sl).out.mono ?_; rintro e w13 ⟨A7, c7, rfl, hO7, hb13⟩
    have hB := hB.trans (hb13.mono hB.size)
    have hO1 := hO1.below hb13
    have hOg := hOg.below hb13
    have hO2 := hO2.below hb13
    have hO3 := hO3.below hb13
    have hO4 := hO4.below hb13
    have hO5 := hO5.below hb13
    have hO6 := hO6.below hb13
    have Bt := Bt.below hb13 Bt.lt
    clear HI HS
    go_wp2_with fail
    refine (likeInts_c A3 A4 c3 c4 M _ (by omega) hO3.sl hO4.sl).mono ?_; rintro e w14 ⟨rfl, hb14⟩
    have hB := hB.trans (hb14.mono hB.size)
    have hO1 := hO1.below hb14
    have hOg := hOg.below hb14
    have hO2 := hO2.below hb14
    have hO3 := hO3.below hb14
    have hO4 := hO4.below hb14
    have hO5 := hO5.below hb14
    have hO6 := hO6.below hb14
    have hO7 := hO7.below hb14
    have Bt := Bt.below hb14 Bt.lt
    go_wp2_with fail
    refine (likeInts_c A6 A7 c6 c7 E _ (by omega) hO6.sl hO7.sl).mono ?_; rintro e w15 ⟨rfl, hb15⟩
    have hB := hB.trans (hb15.mono hB.size)
    have hO1 := hO1.below hb15
    have hOg := hOg.below hb15
    have hO2 := hO2.below hb15
    have hO3 := hO3.below hb15
    have hO4 := hO4.below hb15
    have hO5 := hO5.below hb15
    have hO6 := hO6.below hb15
    have hO7 := hO7.below hb15
    have Bt := Bt.below hb15 Bt.lt
    have hR2 : R.length ≤ 140737488351232 := by omega
    have HDb := fun W h => Lib.hid (implDouble_c A1 c1 R W hR2 h)
    by_cases hoc : oc = 0
    · subst hoc
      cases ob
      · go_wp2_with fail
        have hBz := hB.size
        go_loopw [32] (fun i wr => ∃ k : Nat, k ≤ L.length ∧ i = .int .i64 k ∧ Below w15.heap.size w15 wr) (fun i _ => L.length - (intOf i).toNat)
        case atStart => exact ⟨0, Nat.zero_le _, rfl, Below.refl _ _⟩
        case round =>
          obtain ⟨k, hk, rfl, hw⟩ := hrel
          by_cases hgo : mcode = 0 ∧ k < L.length
          · obtain ⟨hm0, hlt⟩ := hgo
            subst hm0
            have hO3 := hO3.below hw
            have hO2 := hO2.below hw
            have hno := hmn.out L[k] (List.getElem_mem hlt)
            obtain ⟨bz, oz, rfl, hbz, hcz⟩ := hO2.sl.at_ (i := k) (by rw [List.length_map]; exact hlt)
            obtain rfl := hO2.off0 (i := k) (by rw [List.length_map]; exact hlt)
            have y0 := hcz 0 (.int .i64 L[k].mark) (by rw [List.getElem_map]; rfl)
            rw [Nat.zero_add, Nat.add_zero] at y0
            have hH := fun W h => Lib.hid (hasIntN_c A3 c3 M L[k].mark W (by omega) hno h)
            clear hno hcz
            generalize L[k].mark = z at *
            go_wp2_with (go_at_call 18; refine (hH _ hO3.sl).out.mono ?_; rintro e v1 ⟨rfl, hd1⟩)
            go_roundw
            case rel => exact ⟨k + 1, by omega, by go_num, hw.trans (hd1.mono hw.size)⟩
            case measure => simp [intOf]; omega
          · have hB := hB.trans (hw.mono hB.size)
            have Bt := Bt.below hw Bt.lt
            have x0 : wr.cell? ⟨bt, 0, none⟩ = some (.int .i64 ta) := Bt.cell 0
            have x1 : wr.cell? ⟨bt, 1, none⟩ = some (.int .i64 tb) := Bt.cell 1
            have x2 : wr.cell? ⟨bt, 2, none⟩ = some (.int .i64 td) := Bt.cell 2
            have hor : ¬ mcode = 0 ∨ (mcode = 0 ∧ ¬ (k : Int) < L.length) := by omega
            rcases hor with hor | ⟨hor, hor2⟩
            all_goals
              by_cases hmc : mc = 0
              · subst hmc
                obtain ⟨rfl, hpb, hp1, hp2⟩ := hma.out rfl
                go_wp2_with (go_at_call 19; refine (HD _).out.mono ?_; rintro e v2 ⟨rfl, hd2⟩)
                go_ret
                exact ⟨ret_bool (by simp), hB.trans (hd2.mono hB.size)⟩
              · go_wp2
                go_ret
                exact ⟨rfl, hB⟩
      · obtain ⟨hd1, hd2⟩ := hdn.out rfl
        rw [hd1, hd2] at HDb
        go_wp2_with fail
        refine (HDb _ hO1.sl).out.mono ?_; rintro e w16 ⟨A8, c8, rfl, _, hb16⟩
        have hB := hB.trans (hb16.mono hB.size)
        have hO1 := hO1.below hb16
        have hOg := hOg.below hb16
        have hO2 := hO2.below hb16
        have hO3 := hO3.below hb16
        have hO4 := hO4.below hb16
        have hO5 := hO5.below hb16
        have hO6 := hO6.below hb16
        have hO7 := hO7.below hb16
        have Bt := Bt.below hb16 Bt.lt
        go_wp2_with fail
        have hBz := hB.size
        go_loopw [32] (fun i wr => ∃ k : Nat, k ≤ L.length ∧ i = .int .i64 k ∧ Below w16.heap.size w16 wr) (fun i _ => L.length - (intOf i).toNat)
        case atStart => exact ⟨0, Nat.zero_le _, rfl, Below.refl _ _⟩
        case round =>
          obtain ⟨k, hk, rfl, hw⟩ := hrel
          by_cases hgo : mcode = 0 ∧ k < L.length
          · obtain ⟨hm0, hlt⟩ := hgo
            subst hm0
            have hO3 := hO3.below hw
            have hO2 := hO2.below hw
            have hno := hmn.out L[k] (List.getElem_mem hlt)
            obtain ⟨bz, oz, rfl, hbz, hcz⟩ := hO2.sl.at_ (i := k) (by rw [List.length_map]; exact hlt)
            obtain rfl := hO2.off0 (i := k) (by rw [List.length_map]; exact hlt)
            have y0 := hcz 0 (.int .i64 L[k].mark) (by rw [List.getElem_map]; rfl)
            rw [Nat.zero_add, Nat.add_zero] at y0
            have hH := fun W h => Lib.hid (hasIntN_c A3 c3 M L[k].mark W (by omega) hno h)
            clear hno hcz
            generalize L[k].mark = z at *
            go_wp2_with (go_at_call 18; refine (hH _ hO3.sl).out.mono ?_; rintro e v1 ⟨rfl, hd1⟩)
            go_roundw
            case rel => exact ⟨k + 1, by omega, by go_num, hw.trans (hd1.mono hw.size)⟩
            case measure => simp [intOf]; omega
          · have hB := hB.trans (hw.mono hB.size)
            have Bt := Bt.below hw Bt.lt
            have x0 : wr.cell? ⟨bt, 0, none⟩ = some (.int .i64 ta) := Bt.cell 0
            have x1 : wr.cell? ⟨bt, 1, none⟩ = some (.int .i64 tb) := Bt.cell 1
            have x2 : wr.cell? ⟨bt, 2, none⟩ = some (.int .i64 td) := Bt.cell 2
            have hor : ¬ mcode = 0 ∨ (mcode = 0 ∧ ¬ (k : Int) < L.length) := by omega
            rcases hor with hor | ⟨hor, hor2⟩
            all_goals
              by_cases hmc : mc = 0
              · subst hmc
                obtain ⟨rfl, hpb, hp1, hp2⟩ := hma.out rfl
                go_wp2_with (go_at_call 19; refine (HD _).out.mono ?_; rintro e v2 ⟨rfl, hd2⟩)
                go_ret
                exact ⟨ret_bool (by simp), hB.trans (hd2.mono hB.size)⟩
              · go_wp2
                go_ret
                exact ⟨rfl, hB⟩
    · go_wp2_with fail
      have hBz := hB.size
      go_loopw [32] (fun i wr => ∃ k : Nat, k ≤ L.length ∧ i = .int .i64 k ∧ Below w15.heap.size w15 wr) (fun i _ => L.length - (intOf i).toNat)
      case atStart => exact ⟨0, Nat.zero_le _, rfl, Below.refl _ _⟩
      case round =>
        obtain ⟨k, hk, rfl, hw⟩ := hrel
        by_cases hgo : mcode = 0 ∧ k < L.length
        · obtain ⟨hm0, hlt⟩ := hgo
          subst hm0
          have hO3 := hO3.below hw
          have hO2 := hO2.below hw
          have hno := hmn.out L[k] (List.getElem_mem hlt)
          obtain ⟨bz, oz, rfl, hbz, hcz⟩ := hO2.sl.at_ (i := k) (by rw [List.length_map]; exact hlt)
          obtain rfl := hO2.off0 (i := k) (by rw [List.length_map]; exact hlt)
          have y0 := hcz 0 (.int .i64 L[k].mark) (by rw [List.getElem_map]; rfl)
          rw [Nat.zero_add, Nat.add_zero] at y0
          have hH := fun W h => Lib.hid (hasIntN_c A3 c3 M L[k].mark W (by omega) hno h)
          clear hno hcz
          generalize L[k].mark = z at *
          go_wp2_with (go_at_call 18; refine (hH _ hO3.sl).out.mono ?_; rintro e v1 ⟨rfl, hd1⟩)
          go_roundw
          case rel => exact ⟨k + 1, by omega, by go_num, hw.trans (hd1.mono hw.size)⟩
          case measure => simp [intOf]; omega
        · have hB := hB.trans (hw.mono hB.size)
          have Bt := Bt.below hw Bt.lt
          have x0 : wr.cell? ⟨bt, 0, none⟩ = some (.int .i64 ta) := Bt.cell 0
          have x1 : wr.cell? ⟨bt, 1, none⟩ = some (.int .i64 tb) := Bt.cell 1
          have x2 : wr.cell? ⟨bt, 2, none⟩ = some (.int .i64 td) := Bt.cell 2
          have hor : ¬ mcode = 0 ∨ (mcode = 0 ∧ ¬ (k : Int) < L.length) := by omega
          rcases hor with hor | ⟨hor, hor2⟩
          all_goals
            by_cases hmc : mc = 0
            · subst hmc
              obtain ⟨rfl, hpb, hp1, hp2⟩ := hma.out rfl
              go_wp2_with (go_at_call 19; refine (HD _).out.mono ?_; rintro e v2 ⟨rfl, hd2⟩)
              go_ret
              exact ⟨ret_bool (by simp), hB.trans (hd2.mono hB.size)⟩
            · go_wp2
              go_ret
              exact ⟨rfl, hB⟩
end Go.Proofs.YtkjommcmeinkaaaGreat
