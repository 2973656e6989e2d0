/- The law on misprints: walked. Condition: none. -/
import Derived.Test.YtcpnmeebbbeakaaDraw7
import Derived.Test.YtcpnmeebbbeakaaLike
import Derived.Test.YtcpnmeebbbeakaaCircLaw0
namespace Go.Proofs.Ytcpnmeebbbeakaa
open Go.RowKit
theorem rr_ok {s n tol step : Int} {l : List Tick} (h : (rrRes s n l tol step).2.2 = 0) : (rrRes s n l tol step).1 = l.map (fixT s n tol step) ∧ (rrRes s n l tol step).2.1 = misIdx s n tol (l.map (fixT s n tol step)) ∧ printCode s n l tol = 0 ∧ (10 ≤ step ∧ step ≤ 1000) := by
  unfold rrRes at h ⊢
  split at h
  · rename_i h0
    split at h
    · rename_i h1
      split at h
      · cases h
      · rename_i h2
        rw [if_pos h0, if_pos h1, if_neg h2]
        exact ⟨rfl, rfl, h0, inB_true.1 h1⟩
    · cases h
  · rename_i h0; exact absurd h h0
theorem mm_good {s n tol step m : Int} {t : Tick} (h : (mmRes s n t tol step).2 = 0) (hm : m ∈ (mmRes s n t tol step).1) : imRes s n ⟨m, t.place, 0⟩ tol = (false, 0) ∧ m % step = 0 ∧ (1000 ≤ m ∧ m ≤ 9999) ∧ (10 ≤ step ∧ step ≤ 1000) := by
  unfold mmRes at h hm
  split at h
  · rename_i h0
    split at h
    · rename_i h1
      split at h
      · cases h
      · rename_i h2
        rw [if_pos h0, if_pos h1, if_neg h2] at hm
        have hst := inB_true.1 h1
        obtain ⟨hs, hn, ht, hmk, hp⟩ := im_ok h0
        have key : misB s n m t.place tol = false ∧ (1000 ≤ m ∧ m ≤ 9999) ∧ m % step = 0 := by
          cases hw : misB s n t.mark t.place tol
          · simp only at hm
            rw [meant_right hst hmk hw] at hm
            split at hm
            · rename_i h3
              rw [List.mem_singleton] at hm
              subst hm
              exact ⟨hw, hmk, h3⟩
            · cases hm
          · exact meant_mem hst hw hm
        obtain ⟨k1, k2, k3⟩ := key
        refine ⟨?_, k3, k2, hst⟩
        have hp0 : printCode s n [⟨m, t.place, 0⟩] tol = 0 := by
          unfold printCode rowCode
          simp [tickOK, inB_true.2 hs, inB_true.2 hn, inB_true.2 ht, inB_true.2 k2, inB_true.2 hp]
        unfold imRes
        rw [if_pos hp0]
        simp only
        rw [k1]
    · cases h
  · rename_i h0; exact absurd h h0
theorem fix_code {s n tol step : Int} {l : List Tick} (h : printCode s n l tol = 0) (hst : 10 ≤ step ∧ step ≤ 1000) : printCode s n (l.map (fixT s n tol step)) tol = 0 := by
  obtain ⟨h1, h2, h3, h4⟩ := print_ok h
  have h40 := print_len h
  have hok := fix_ok (s := s) (n := n) (tol := tol) hst h4
  have hr : rowCode (l.map (fixT s n tol step)) = 0 := by
    unfold rowCode
    rw [if_neg (by rw [List.length_map]; omega), if_pos hok]
  unfold printCode
  rw [if_pos hr, inB_true.2 h1, inB_true.2 h2, inB_true.2 h3]
  rfl
theorem rest_sub {s n tol step x : Int} {l : List Tick} (hst : 10 ≤ step ∧ step ≤ 1000) (hx : x ∈ misIdx s n tol (l.map (fixT s n tol step))) : x ∈ misIdx s n tol l := by
  obtain ⟨i, hi, hf, rfl⟩ := collect_mem.1 hx
  rw [List.length_map] at hi
  rw [mis_fix hst hi, Bool.and_eq_true] at hf
  exact mis_mem hi hf.1
set_option maxRecDepth 100000 in
set_option maxHeartbeats 2000000 in
theorem lawMisprints_c (A : Option Addr) (n c : Nat) (w : World) (hn : n ≤ 140737488351232) (hb : Bytes w A n w.heap.size) :
    Calls Try.prog 14 #[.slice A n c] w fun e w' => e = .returned (.bool true) ∧ Below w.heap.size w w' := by
  have hG := big_c A n c w hn
  by_cases hbig : 4096 < n
  · rw [decide_eq_true hbig] at hG
    have HG := Lib.hid hG; clear hG hb
    go_enter Try.func14, Try.ntmps14
    go_wp2_with (go_at_call 46; refine HG.out.mono ?_; rintro e w1 ⟨rfl, rfl⟩)
    go_ret
    exact ⟨rfl, Below.refl _ _⟩
  · rw [decide_eq_false hbig] at hG
    have HG := Lib.hid hG; clear hG
    have hn' : n ≤ 4096 := by omega
    have HB := Lib.hid hb; clear hb
    go_enter Try.func14, Try.ntmps14
    go_wp2_with (go_at_call 46; refine HG.out.mono ?_; rintro e w1 ⟨rfl, rfl⟩)
    clear HG
    refine (drawRepairRow_c A n c w hn' HB.out).mono ?_; rintro e w1 ⟨sc, ln, R, A1, c1, tol, st, rfl, hR1, hO1, hB1⟩
    have hB := hB1
    go_wp2_with fail
    have hrr := rr_ok (s := sc) (n := ln) (l := R) (tol := tol) (step := st)
    have hrl := rrRes_len sc ln R tol st
    have HI := fun A c W h => Lib.hid (implRepairRow_c sc ln tol st A c R W (by omega) h)
    have HS := fun A c W h => Lib.hid (specRepairRow_c sc ln tol st A c R W (by omega) h)
    generalize rrRes sc ln R tol st = rr at *
    obtain ⟨r, rest, bad⟩ := rr
    simp only at hrr hrl
    have Hrr := Lib.hid hrr; clear hrr
    obtain ⟨hrl1, hrl2⟩ := hrl
    refine (HI A1 c1 _ hO1.sl).out.mono ?_; rintro e w2 ⟨Ar, cr, As, cs, rfl, hOr, hOs, _, hb2⟩
    have hB := hB.trans (hb2.mono hB.size)
    have hO1 := hO1.below hb2
    go_wp2_with fail
    refine (HS A1 c1 _ hO1.sl).out.mono ?_; rintro e w3 ⟨Am, cm, An, cn, rfl, hOm, hOn, _, hb3⟩
    have hB := hB.trans (hb3.mono hB.size)
    have hO1 := hO1.below hb3
    have hOr := hOr.below hb3
    have hOs := hOs.below hb3
    clear HI HS
    go_wp2_with fail
    refine (drawFindMisprints_c A n c _ hn' ((HB.out.keep fun p hp => hB.cell hp).more hB.size)).mono ?_; rintro e w4 ⟨sd, le, R2, A2, c2, to, rfl, hR2, hO2, hb4⟩
    have hB := hB.trans (hb4.mono hB.size)
    have hO1 := hO1.below hb4
    have hOr := hOr.below hb4
    have hOs := hOs.below hb4
    have hOm := hOm.below hb4
    have hOn := hOn.below hb4
    have HI := fun A c W h => Lib.hid (implFindMisprints_c sd le to A c R2 W (by omega) h)
    have HS := fun A c W h => Lib.hid (specFindMisprints_c sd le to A c R2 W (by omega) h)
    have hfl := fmRes_len sd le to R2
    generalize fmRes sd le to R2 = F at *
    generalize printCode sd le R2 to = fc at *
    go_wp2_with fail
    refine (HI A2 c2 _ hO2.sl).out.mono ?_; rintro e w5 ⟨Af, cf, rfl, hOf, hb5⟩
    have hB := hB.trans (hb5.mono hB.size)
    have hO1 := hO1.below hb5
    have hOr := hOr.below hb5
    have hOs := hOs.below hb5
    have hOm := hOm.below hb5
    have hOn := hOn.below hb5
    have hO2 := hO2.below hb5
    go_wp2_with fail
    refine (HS A2 c2 _ hO2.sl).out.mono ?_; rintro e w6 ⟨Ag, cg, rfl, hOg, hb6⟩
    have hB := hB.trans (hb6.mono hB.size)
    have hO1 := hO1.below hb6
    have hOr := hOr.below hb6
    have hOs := hOs.below hb6
    have hOm := hOm.below hb6
    have hOn := hOn.below hb6
    have hO2 := hO2.below hb6
    have hOf := hOf.below hb6
    clear HI HS
    go_wp2_with fail
    refine (drawMeantMarks_c A n c _ hn' ((HB.out.keep fun p hp => hB.cell hp).more hB.size)).mono ?_; rintro e w7 ⟨a, b, ta, tb, td, tc, d, rfl, hb7⟩
    have hB := hB.trans (hb7.mono hB.size)
    have hO1 := hO1.below hb7
    have hOr := hOr.below hb7
    have hOs := hOs.below hb7
    have hOm := hOm.below hb7
    have hOn := hOn.below hb7
    have hO2 := hO2.below hb7
    have hOf := hOf.below hb7
    have hOg := hOg.below hb7
    have HI := fun W => Lib.hid (implMeantMarks_c a b tc d ⟨ta, tb, td⟩ W)
    have HS := fun W => Lib.hid (specMeantMarks_c a b tc d ⟨ta, tb, td⟩ W)
    have hml := mmRes_len a b ⟨ta, tb, td⟩ tc d
    have hmg := fun m h hm => mm_good (s := a) (n := b) (t := ⟨ta, tb, td⟩) (tol := tc) (step := d) (m := m) h hm
    unfold Tick.agg at HI HS
    generalize mmRes a b ⟨ta, tb, td⟩ tc d = mr at *
    obtain ⟨M, mc⟩ := mr
    simp only at HI HS hml hmg
    have Hmg := fun m h hm => Lib.hid (hmg m h hm); clear hmg
    have hz7 := hB.size
    have Bt := Blk.new w7 46 #[.int .i64 ta, .int .i64 tb, .int .i64 td]
    have hB : Below w.heap.size w (w7.alloc (.cells #[.int .i64 ta, .int .i64 tb, .int .i64 td] 46)) := (by repeat (first | with_reducible exact hB | with_reducible apply below_drewN' | with_reducible apply Below.drew | (with_reducible refine Below.alloc ?_ (by first | omega | (simp; omega) | simp) _) | (with_reducible refine Below.setCell ?_ (by first | omega | (simp; omega) | simp) _) | exact hB))
    have hO1 := hO1.alloc (.cells #[.int .i64 ta, .int .i64 tb, .int .i64 td] 46)
    have hOr := hOr.alloc (.cells #[.int .i64 ta, .int .i64 tb, .int .i64 td] 46)
    have hOs := hOs.alloc (.cells #[.int .i64 ta, .int .i64 tb, .int .i64 td] 46)
    have hOm := hOm.alloc (.cells #[.int .i64 ta, .int .i64 tb, .int .i64 td] 46)
    have hOn := hOn.alloc (.cells #[.int .i64 ta, .int .i64 tb, .int .i64 td] 46)
    have hO2 := hO2.alloc (.cells #[.int .i64 ta, .int .i64 tb, .int .i64 td] 46)
    have hOf := hOf.alloc (.cells #[.int .i64 ta, .int .i64 tb, .int .i64 td] 46)
    have hOg := hOg.alloc (.cells #[.int .i64 ta, .int .i64 tb, .int .i64 td] 46)
    go_wp2_with fail
    generalize hbt : w7.heap.size = bt at *
    generalize w7.alloc (.cells #[.int .i64 ta, .int .i64 tb, .int .i64 td] 46) = w7' at *
    refine (HI _).out.mono ?_; rintro e w8 ⟨Ah, ch, rfl, hOh, hb8⟩
    have hB := hB.trans (hb8.mono hB.size)
    have hO1 := hO1.below hb8
    have hOr := hOr.below hb8
    have hOs := hOs.below hb8
    have hOm := hOm.below hb8
    have hOn := hOn.below hb8
    have hO2 := hO2.below hb8
    have hOf := hOf.below hb8
    have hOg := hOg.below hb8
    have Bt := Bt.below hb8 Bt.lt
    have x0 : w8.cell? ⟨bt, 0, none⟩ = some (.int .i64 ta) := Bt.cell 0
    have x1 : w8.cell? ⟨bt, 1, none⟩ = some (.int .i64 tb) := Bt.cell 1
    have x2 : w8.cell? ⟨bt, 2, none⟩ = some (.int .i64 td) := Bt.cell 2
    go_wp2_with fail
    refine (HS _).out.mono ?_; rintro e w9 ⟨Ai, ci, rfl, hOi, hb9⟩
    have hB := hB.trans (hb9.mono hB.size)
    have hO1 := hO1.below hb9
    have hOr := hOr.below hb9
    have hOs := hOs.below hb9
    have hOm := hOm.below hb9
    have hOn := hOn.below hb9
    have hO2 := hO2.below hb9
    have hOf := hOf.below hb9
    have hOg := hOg.below hb9
    have hOh := hOh.below hb9
    have Bt := Bt.below hb9 Bt.lt
    clear HI HS x0 x1 x2
    go_wp2_with fail
    refine (likeTicks_c Ar Am cr cm r _ (by omega) hOr.sl hOm.sl).mono ?_; rintro e w10 ⟨rfl, hb10⟩
    have hB := hB.trans (hb10.mono hB.size)
    have hO1 := hO1.below hb10
    have hOr := hOr.below hb10
    have hOs := hOs.below hb10
    have hOm := hOm.below hb10
    have hOn := hOn.below hb10
    have hO2 := hO2.below hb10
    have hOf := hOf.below hb10
    have hOg := hOg.below hb10
    have hOh := hOh.below hb10
    have hOi := hOi.below hb10
    have Bt := Bt.below hb10 Bt.lt
    go_wp2_with fail
    refine (likeInts_c As An cs cn rest _ (by omega) hOs.sl hOn.sl).mono ?_; rintro e w11 ⟨rfl, hb11⟩
    have hB := hB.trans (hb11.mono hB.size)
    have hO1 := hO1.below hb11
    have hOr := hOr.below hb11
    have hOs := hOs.below hb11
    have hOm := hOm.below hb11
    have hOn := hOn.below hb11
    have hO2 := hO2.below hb11
    have hOf := hOf.below hb11
    have hOg := hOg.below hb11
    have hOh := hOh.below hb11
    have hOi := hOi.below hb11
    have Bt := Bt.below hb11 Bt.lt
    go_wp2_with fail
    refine (likeInts_c Af Ag cf cg F _ (by omega) hOf.sl hOg.sl).mono ?_; rintro e w12 ⟨rfl, hb12⟩
    have hB := hB.trans (hb12.mono hB.size)
    have hO1 := hO1.below hb12
    have hOr := hOr.below hb12
    have hOs := hOs.below hb12
    have hOm := hOm.below hb12
    have hOn := hOn.below hb12
    have hO2 := hO2.below hb12
    have hOf := hOf.below hb12
    have hOg := hOg.below hb12
    have hOh := hOh.below hb12
    have hOi := hOi.below hb12
    have Bt := Bt.below hb12 Bt.lt
    go_wp2_with fail
    refine (likeInts_c Ah Ai ch ci M _ (by omega) hOh.sl hOi.sl).mono ?_; rintro e w13 ⟨rfl, hb13⟩
    have hB := hB.trans (hb13.mono hB.size)
    have hO1 := hO1.below hb13
    have hOr := hOr.below hb13
    have hOs := hOs.below hb13
    have hOm := hOm.below hb13
    have hOn := hOn.below hb13
    have hO2 := hO2.below hb13
    have hOf := hOf.below hb13
    have hOg := hOg.below hb13
    have hOh := hOh.below hb13
    have hOi := hOi.below hb13
    have Bt := Bt.below hb13 Bt.lt
    go_wp2_with fail
    clear hOm hOn hO2 hOf hOg hOi
    have hB13s := hB.size
    go_loopw [31] (fun i wr => ∃ k : Nat, k ≤ M.length ∧ i = .int .i64 k ∧ Below w13.heap.size w13 wr) (fun i _ => M.length - (intOf i).toNat)
    case atStart => exact ⟨0, Nat.zero_le _, rfl, Below.refl _ _⟩
    case round =>
      obtain ⟨k, hk, rfl, hw⟩ := hrel
      by_cases hmc : mc = 0
      · subst hmc
        by_cases hlt : k < M.length
        · have hg := (Hmg M[k] rfl (List.getElem_mem hlt)).out
          obtain ⟨g1, g2, ⟨g3, g4⟩, g5, g6⟩ := hg
          have hIM := fun W => implIsMisprint_c a b tc ⟨M[k], tb, 0⟩ W
          rw [g1] at hIM
          unfold Tick.agg at hIM
          simp only at hIM
          have HIM := fun W => Lib.hid (hIM W); clear hIM g1
          have hOh2 := hOh.below hw
          have Bt2 := Bt.below hw Bt.lt
          obtain ⟨bz, oz, rfl, hbz, hcz⟩ := hOh2.sl.int hlt
          obtain rfl := hOh2.off0 (i := k) (by simpa using hlt)
          rw [Nat.zero_add] at hcz
          have y1 : wr.cell? ⟨bt, 1, none⟩ = some (.int .i64 tb) := Bt2.cell 1
          have hd0 : ¬ d = 0 := by omega
          clear Hmg Hrr hOr hOs hO1 hOh2 hOh
          generalize M[k] = x at *
          go_wp2_with fail
          go_region_with (first | (go_at_call 34; refine (HIM _).out.mono ?_; rintro e v5 ⟨rfl, hd5⟩; have hcz5 : v5.cell? ⟨bz, k, none⟩ = some (.int .i64 x) := (hd5.cell (p := ⟨bz, k, none⟩) hbz).trans hcz))
          all_goals
            go_wp2
            go_roundw
            case rel => exact ⟨k + 1, by omega, by go_num, (show Below w13.heap.size w13 wr.drew from hw.drew).trans (hd5.mono hw.size)⟩
            case measure => simp [intOf] <;> omega
        · have hkM : k = M.length := by omega
          subst hkM
          clear Hmg
          have hB := hB.trans (hw.mono hB.size)
          have hO1 := hO1.below hw
          have hOr := hOr.below hw
          have hOs := hOs.below hw
          by_cases hbad : bad = 0
          · obtain ⟨e1, e2, hp0, hst⟩ := Hrr.out hbad
            have hp1 := fix_code (step := st) hp0 hst
            have hsub := fun x hx => Lib.hid (rest_sub (s := sc) (n := ln) (tol := tol) (l := R) (x := x) hst hx)
            have HI := fun A c W h => implFindMisprints_c sc ln tol A c R W (by omega) h
            have HJ := fun A c W h => implFindMisprints_c sc ln tol A c (R.map (fixT sc ln tol st)) W (by rw [List.length_map]; omega) h
            have f1 : fmRes sc ln tol R = misIdx sc ln tol R := by unfold fmRes; rw [if_pos hp0]
            have f2 : fmRes sc ln tol (R.map (fixT sc ln tol st)) = misIdx sc ln tol (R.map (fixT sc ln tol st)) := by unfold fmRes; rw [if_pos hp1]
            have hml1 := misIdx_len sc ln tol R
            rw [f1, hp0] at HI
            rw [← e1] at e2
            rw [f2, hp1, ← e1, ← e2] at HJ
            rw [← e1, ← e2] at hsub
            have HrR : Hid (r.length = R.length) := by unfold Hid; rw [e1, List.length_map]
            clear f1 f2 hp0 hp1 hst e1 e2 Hrr
            generalize misIdx sc ln tol R = G at *
            subst hbad
            have HI' := fun A c W h => Lib.hid (HI A c W h); clear HI
            have HJ' := fun A c W h => Lib.hid (HJ A c W h); clear HJ
            go_wp2_with fail
            refine (HI' A1 c1 _ hO1.sl).out.mono ?_; rintro e v1 ⟨Ak, ck, rfl, hOk, hd1⟩
            have hB := hB.trans (hd1.mono hB.size)
            have hOr := hOr.below hd1
            have hOs := hOs.below hd1
            go_wp2_with fail
            refine (HJ' Ar cr _ hOr.sl).out.mono ?_; rintro e v2 ⟨Al, cl, rfl, hOl, hd2⟩
            have hB := hB.trans (hd2.mono hB.size)
            have hOs := hOs.below hd2
            have hOk := hOk.below hd2
            have hrR := HrR.out
            go_wp2_with fail
            refine (likeInts_c Al As cl cs rest _ (by omega) hOl.sl hOs.sl).mono ?_; rintro e v3 ⟨rfl, hd3⟩
            have hB := hB.trans (hd3.mono hB.size)
            have hOs := hOs.below hd3
            have hOk := hOk.below hd3
            have hBs := hB.size
            go_wp2_with fail
            go_loopw [38] (fun i vr => ∃ k : Nat, k ≤ rest.length ∧ i = .int .i64 k ∧ Below v3.heap.size v3 vr) (fun i _ => rest.length - (intOf i).toNat)
            case atStart => exact ⟨0, Nat.zero_le _, rfl, Below.refl _ _⟩
            case round =>
              obtain ⟨k, hk, rfl, hd⟩ := hrel
              have hOs2 := hOs.below hd
              have hOk2 := hOk.below hd
              by_cases hlt : k < rest.length
              · obtain ⟨bz, oz, rfl, hbz, hcz⟩ := hOs2.sl.int hlt
                have hmem := (hsub rest[k] (List.getElem_mem hlt)).out
                have hH := fun W h => Lib.hid (hasInt_c Ak ck G rest[k] W (by omega) hmem h)
                clear hmem
                generalize rest[k] = x at *
                go_wp2_with (go_at_call 78; refine (hH _ hOk2.sl).out.mono ?_; rintro e v4 ⟨rfl, hd4⟩)
                go_roundw
                case rel => exact ⟨k + 1, by omega, by go_num, hd.trans (hd4.mono hd.size)⟩
                case measure => simp [intOf] <;> omega
              · go_wp2
                go_ret
                exact ⟨rfl, hB.trans (hd.mono hB.size)⟩
          · clear Hrr
            go_wp2
            go_ret
            exact ⟨rfl, hB⟩
      · clear Hmg
        have hB := hB.trans (hw.mono hB.size)
        have hO1 := hO1.below hw
        have hOr := hOr.below hw
        have hOs := hOs.below hw
        by_cases hbad : bad = 0
        · obtain ⟨e1, e2, hp0, hst⟩ := Hrr.out hbad
          have hp1 := fix_code (step := st) hp0 hst
          have hsub := fun x hx => Lib.hid (rest_sub (s := sc) (n := ln) (tol := tol) (l := R) (x := x) hst hx)
          have HI := fun A c W h => implFindMisprints_c sc ln tol A c R W (by omega) h
          have HJ := fun A c W h => implFindMisprints_c sc ln tol A c (R.map (fixT sc ln tol st)) W (by rw [List.length_map]; omega) h
          have f1 : fmRes sc ln tol R = misIdx sc ln tol R := by unfold fmRes; rw [if_pos hp0]
          have f2 : fmRes sc ln tol (R.map (fixT sc ln tol st)) = misIdx sc ln tol (R.map (fixT sc ln tol st)) := by unfold fmRes; rw [if_pos hp1]
          have hml1 := misIdx_len sc ln tol R
          rw [f1, hp0] at HI
          rw [← e1] at e2
          rw [f2, hp1, ← e1, ← e2] at HJ
          rw [← e1, ← e2] at hsub
          have HrR : Hid (r.length = R.length) := by unfold Hid; rw [e1, List.length_map]
          clear f1 f2 hp0 hp1 hst e1 e2 Hrr
          generalize misIdx sc ln tol R = G at *
          subst hbad
          have HI' := fun A c W h => Lib.hid (HI A c W h); clear HI
          have HJ' := fun A c W h => Lib.hid (HJ A c W h); clear HJ
          go_wp2_with fail
          refine (HI' A1 c1 _ hO1.sl).out.mono ?_; rintro e v1 ⟨Ak, ck, rfl, hOk, hd1⟩
          have hB := hB.trans (hd1.mono hB.size)
          have hOr := hOr.below hd1
          have hOs := hOs.below hd1
          go_wp2_with fail
          refine (HJ' Ar cr _ hOr.sl).out.mono ?_; rintro e v2 ⟨Al, cl, rfl, hOl, hd2⟩
          have hB := hB.trans (hd2.mono hB.size)
          have hOs := hOs.below hd2
          have hOk := hOk.below hd2
          have hrR := HrR.out
          go_wp2_with fail
          refine (likeInts_c Al As cl cs rest _ (by omega) hOl.sl hOs.sl).mono ?_; rintro e v3 ⟨rfl, hd3⟩
          have hB := hB.trans (hd3.mono hB.size)
          have hOs := hOs.below hd3
          have hOk := hOk.below hd3
          have hBs := hB.size
          go_wp2_with fail
          go_loopw [38] (fun i vr => ∃ k : Nat, k ≤ rest.length ∧ i = .int .i64 k ∧ Below v3.heap.size v3 vr) (fun i _ => rest.length - (intOf i).toNat)
          case atStart => exact ⟨0, Nat.zero_le _, rfl, Below.refl _ _⟩
          case round =>
            obtain ⟨k, hk, rfl, hd⟩ := hrel
            have hOs2 := hOs.below hd
            have hOk2 := hOk.below hd
            by_cases hlt : k < rest.length
            · obtain ⟨bz, oz, rfl, hbz, hcz⟩ := hOs2.sl.int hlt
              have hmem := (hsub rest[k] (List.getElem_mem hlt)).out
              have hH := fun W h => Lib.hid (hasInt_c Ak ck G rest[k] W (by omega) hmem h)
              clear hmem
              generalize rest[k] = x at *
              go_wp2_with (go_at_call 78; refine (hH _ hOk2.sl).out.mono ?_; rintro e v4 ⟨rfl, hd4⟩)
              go_roundw
              case rel => exact ⟨k + 1, by omega, by go_num, hd.trans (hd4.mono hd.size)⟩
              case measure => simp [intOf] <;> omega
            · go_wp2
              go_ret
              exact ⟨rfl, hB.trans (hd.mono hB.size)⟩
        · clear Hrr
          go_wp2
          go_ret
          exact ⟨rfl, hB⟩
end Go.Proofs.Ytcpnmeebbbeakaa
