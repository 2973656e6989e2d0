/- ReadProgram, the reference's. Conditions: the text's length. -/
import Derived.Test.YtkjommcmeinkaaaGreatDoorReadI
namespace Go.Proofs.YtkjommcmeinkaaaGreatDoor
open Go.RowKit
set_option linter.unusedSimpArgs false
/-- while a stroke's literal is laid -/
structure SkS (w0 : World) (t m n : Int) (b9 : Bool) (x : Value) (v : World) : Prop where
  hb : Below w0.heap.size w0 v
  q : b9 = true → ∃ gb, x = .slice (some ⟨gb, 0, none⟩) 1 1 ∧ Blk v gb 35 #[.int .i64 t, .int .i64 m, .int .i64 n]
set_option maxRecDepth 100000 in
set_option maxHeartbeats 2000000 in
theorem specRead_c (s : List UInt8) (w : World) (hl : s.length ≤ 1048576) : Calls Tryz.prog 10 #[.string (bs s)] w (RdP (readL s) (readC s) w) := by
  by_cases hs0 : s = []
  · subst hs0
    rw [read_empty.1, read_empty.2]
    have hq : ((bs []).toList == (⟨#[]⟩ : ByteArray).toList) = true := by rw [show bs [] = ⟨#[]⟩ from rfl]; simp
    have hq2 : (bs []).toList.isEmpty = true := by rw [ByteArray.toList_eq, bs_data]; rfl
    generalize bs [] = S at *
    go_enter Tryz.func10, Tryz.ntmps10
    go_wp2
    go_ret2
    exact ⟨_, 0, rfl, Own.empty (Nat.le_refl _), (by repeat (first | with_reducible exact Below.refl _ _ | with_reducible apply below_drewN' | with_reducible apply Below.drew | (with_reducible refine Below.alloc ?_ (by first | omega | (simp; omega) | simp | (have := (Below.refl _ _).size; omega) | (have := (Below.refl _ _).size; simp; omega)) _) | (with_reducible refine Below.setCell ?_ (by first | omega | (simp; omega) | simp | (have := (Below.refl _ _).size; omega) | (have := (Below.refl _ _).size; simp; omega)) _) | exact Below.refl _ _))⟩
  · obtain ⟨ii, hi, hz0, hz1, hz2⟩ := info_parts info_Strk
    have hq : ((bs s).toList == (⟨#[]⟩ : ByteArray).toList) = false := by
      rw [show (⟨#[]⟩ : ByteArray) = bs [] from rfl, bs_beq]
      exact decide_eq_false hs0
    have hq2 : (bs s).toList.isEmpty = false := by rw [ByteArray.toList_eq, bs_data, List.isEmpty_eq_false_iff]; exact hs0
    obtain ⟨hpl, hpx⟩ := pieces_len (b := 32) s
    have HC := Lib.hid (l01Split_c 32 s w hl : Calls Tryz.prog 32 #[.string (bs s), .int .u8 32] w _)
    have hbad := Lib.hid (fun k hk h => read_bad hs0 (g := wordF numS tlS) (fun x => (good_same x).symm) (k := k) hk h)
    have hgood := Lib.hid (fun L h hc => read_good hs0 (g := wordF numS tlS) (fun x => (good_same x).symm) (L := L) h hc)
    have hcode := Lib.hid (fun L h hc => read_code hs0 (g := wordF numS tlS) (fun x => (good_same x).symm) (L := L) h hc)
    generalize splitC 32 s = ws at *
    have hwl : ws.length ≤ 1048577 := by omega
    have HN := Lib.hid (fun (r : List UInt8) W (h : r.length ≤ 1048576) => (l01Split_c 46 r W h : Calls Tryz.prog 32 #[.string (bs r), .int .u8 46] W _))
    have HM := Lib.hid (fun (r : List UInt8) A c W (h : r.length ≤ 1048576) hs => l01Numbers_c A c (splitC 46 r) W (by have := (pieces_len (b := 46) r).1; omega) (fun x hx => by have := (pieces_len (b := 46) r).2 x hx; omega) hs)
    have hpx2 := Lib.hid (fun k (hk : k < ws.length) => hpx _ (List.getElem_mem hk))
    have htk : Hid (ws.take ws.length = ws) := Lib.hid List.take_length
    have hnx := Lib.hid (fun k (hk : k < ws.length) (M : List Stroke) (x : Stroke) (h : (ws.take k).map (wordF numS tlS) = M.map some) (h2 : wordF numS tlS ws[k] = some x) => (by
      rw [List.take_succ_eq_append_getElem hk, List.map_append, List.map_append, h, List.map_singleton, h2]; rfl : (ws.take (k + 1)).map (wordF numS tlS) = (M ++ [x]).map some))
    clear hpx hs0
    generalize readL s = RL at *
    generalize readC s = RC at *
    generalize bs s = S at *
    go_enter Tryz.func10, Tryz.ntmps10
    go_wp2_with fail
    refine Calls.mono HC.out ?_; rintro e w1 ⟨Aw, cw, rfl, Ow, hb1⟩
    have L0 : AppK w [] (.slice (some ⟨w1.heap.size, 0, none⟩) 0 0) (w1.alloc (.cells #[] 35)) := ⟨(by repeat (first | with_reducible exact hb1 | with_reducible apply below_drewN' | with_reducible apply Below.drew | (with_reducible refine Below.alloc ?_ (by first | omega | (simp; omega) | simp | (have := (hb1).size; omega) | (have := (hb1).size; simp; omega)) _) | (with_reducible refine Below.setCell ?_ (by first | omega | (simp; omega) | simp | (have := (hb1).size; omega) | (have := (hb1).size; simp; omega)) _) | exact hb1)), Own.empty hb1.size⟩
    have hne0 : (Value.slice Aw ws.length cw).ownBlock = none ∨ (Value.slice Aw ws.length cw).ownBlock ≠ (Value.slice (some ⟨w1.heap.size, 0, none⟩) 0 0).ownBlock := .inr (fun e => by
      have := (Ow.1.lt w1.heap.size e).2
      omega)
    replace Ow := Ow.alloc (.cells #[] 35)
    clear hb1
    go_wp2_with fail
    go_loopw [5, 6] (fun o i wr => ∃ (k : Nat) (M : List Stroke), k ≤ ws.length ∧ i = .int .i64 k ∧ M.length = k ∧ Hid ((ws.take k).map (wordF numS tlS) = M.map some) ∧ AppK w M o wr ∧ Own wr w.heap.size 9 1 (.slice Aw ws.length cw) (ws.map str1) ∧ ((Value.slice Aw ws.length cw).ownBlock = none ∨ (Value.slice Aw ws.length cw).ownBlock ≠ o.ownBlock)) (fun _ i _ => ws.length - (intOf i).toNat)
    case atStart => exact ⟨0, [], Nat.zero_le _, rfl, rfl, Lib.hid (by simp), L0, Ow, hne0⟩
    case round =>
      clear L0 Ow hne0
      obtain ⟨k, M, hk, rfl, hMk, hM, hL, Ow, hne⟩ := hrel
      by_cases hlt : k < ws.length
      · obtain ⟨wb, wo, rfl, hwb, c0⟩ := Ow.sl.txt hlt
        have hb2 := Lib.hid (hbad.out k hlt)
        have hn2 := Lib.hid (fun x h2 => hnx.out k hlt M x hM.out h2)
        have hxl := hpx2.out k hlt
        clear hbad hnx hpx2 hM
        generalize hx : ws[k] = x at *
        clear hx
        cases x with
        | nil =>
          obtain ⟨hA, hB⟩ := hb2.out rfl
          subst hA hB
          have hX : ((bs []).toList == (⟨#[]⟩ : ByteArray).toList) = true := by rw [show bs [] = ⟨#[]⟩ from rfl]; simp
          have hX2 : (bs []).toList.isEmpty = true := by rw [ByteArray.toList_eq, bs_data]; rfl
          generalize bs [] = X at *
          have hbw := hL.hb
          clear hL Ow hb2 hn2 HN HM hgood hcode htk hne
          go_wp2
          go_ret2
          exact ⟨none, 0, rfl, Own.nil_, hbw⟩
        | cons c r =>
          have hX : ((bs (c :: r)).toList == (⟨#[]⟩ : ByteArray).toList) = false := by
            rw [show (⟨#[]⟩ : ByteArray) = bs [] from rfl, bs_beq]
            exact decide_eq_false (by simp)
          have hX2 : (bs (c :: r)).toList.isEmpty = false := by rw [ByteArray.toList_eq, bs_data]; rfl
          have hex : (bs (c :: r)).extract 1 (r.length + 1) = bs r := by rw [bs_extract]; simp
          obtain ⟨w1, w2⟩ := wordF_cons numS tlS (c := c) (r := r) (t := (if c = 70 then 1 else if c = 66 then 2 else 0)) rfl
          have hrl : r.length ≤ 1048576 := by simp at hxl; omega
          have hR := Lib.hid (fun W => HN.out r W hrl)
          have hQ := Lib.hid (fun A c W hs => HM.out r A c W hrl hs)
          obtain ⟨X, hXe, hg0, hXs⟩ : ∃ X : ByteArray, bs (c :: r) = X ∧ (∀ h : 0 < X.size, (X[0].toNat : Int) = (c.toNat : Int)) ∧ X.size = r.length + 1 := ⟨bs (c :: r), rfl, fun h => rfl, by rw [bs_size]; simp⟩
          rw [hXe] at hX hX2 hex c0
          have hg1 := hg0 (by omega)
          generalize wordF numS tlS (c :: r) = wf at *
          generalize splitC 46 r = pc at *
          generalize bs r = rb at *
          replace w1 := Lib.hid w1
          replace w2 := Lib.hid w2
          clear HN HM hXe hg0 hxl
          go_wp2_with fail
          refine Calls.mono (hR.out wr) ?_; rintro e w3 ⟨A3, c3, rfl, O3, hb3⟩
          have hc0 := cell_keep hb3 c0
          have hQQ := Lib.hid (hQ.out A3 c3 w3 O3.sl)
          replace hL := hL.below hb3
          replace Ow := Ow.below hb3
          clear O3 hb3 hR hQ c0 hwb
          go_wp2_with fail
          refine Calls.mono hQQ.out ?_; rintro e w4 hns
          rcases hns with ⟨hok, A4, c4, rfl, O4, hb4⟩ | ⟨hok, rfl, hb4⟩
          · by_cases h2 : pc.length = 2
            · obtain ⟨m, n, hv, hwf⟩ := w2.out hok h2
              rw [hv, h2] at O4
              obtain ⟨bl, off, rfl, hbl, d0⟩ := O4.sl.at_ (i := 0) (by simp)
              obtain ⟨_, _, e2, _, d1⟩ := O4.sl.at_ (i := 1) (by simp)
              obtain ⟨rfl, rfl⟩ : bl = _ ∧ off = _ := by simpa using e2
              have y0 : w4.cell? ⟨bl, off, none⟩ = some (.int .i64 m) := by have := d0 0 _ rfl; simpa using this
              have y1 : w4.cell? ⟨bl, off + 1, none⟩ = some (.int .i64 n) := by have := d1 0 _ rfl; simpa using this
              have hnx2 := Lib.hid (hn2.out _ hwf)
              have hpc : (pc.length : Int) = 2 := by omega
              have x0 := cell_keep hb4 hc0
              replace hL := hL.below hb4
              replace Ow := Ow.below hb4
              have hMl : M.length ≤ 1048577 := by omega
              replace hMk := Lib.hid hMk
              replace hMl := Lib.hid hMl
              clear d0 d1 e2 O4 hv hwf w1 w2 hb2 hn2 hb4 hc0 hQQ hbl
              have hch : (X[0].toNat : Int) = (c.toNat : Int) := hg1
              by_cases h70 : c = 70
              · rw [if_pos h70] at hnx2
                have hcc : ((c.toNat : Nat) : Int) = 70 := by rw [h70]; rfl
                have e1 : ((X[0].toNat : Int) == 70) = true := by rw [hg1, hcc]; rfl
                have e2 : ((X[0].toNat : Int) == 66) = false := by rw [hg1, hcc]; rfl
                clear hch hg1 hcc
                generalize hq0 : (X[0].toNat : Int) = ch at *
                go_wp2_with fail
                refine wp_region_sink 10 (fun a0 fL bA v => ∃ v53 v54 v55 v56 v57 v58 v59 v60 v61 v62 : Value, bA = (((((((((a0.put (some 53) v53).put (some 54) v54).put (some 55) v55).put (some 56) v56).put (some 57) v57).put (some 58) v58).put (some 59) v59).put (some 60) v60).put (some 61) v61).put (some 62) v62 ∧ (SkS w4 1 m n (fL 9) v62 v) ∧ (fL 0 = true → v53 = u5) ∧ (fL 1 = true → v54 = .int .i64 1) ∧ (fL 2 = true → v55 = .slice (some ⟨bl, off, none⟩) 2 c4) ∧ (fL 3 = true → v56 = .pointer (some ⟨bl, off, none⟩)) ∧ (fL 4 = true → v57 = .int .i64 m) ∧ (fL 5 = true → v58 = .slice (some ⟨bl, off, none⟩) 2 c4) ∧ (fL 6 = true → v59 = .pointer (some ⟨bl, off + 1, none⟩)) ∧ (fL 7 = true → v60 = .int .i64 n) ∧ (fL 8 = true → v61 = .agg #[.int .i64 1, .int .i64 m, .int .i64 n]) ∧ (fL 9 = true → True)) (by kernel_rfl) (by decide +kernel) ?_ ?_ ?_
                · exact ⟨_, _, _, _, _, _, _, _, _, _, put_more (put_more (put_more (put_more (put_more (put_more (put_more (put_more (put_more (put_more (rfl) 53) 54) 55) 56) 57) 58) 59) 60) 61) 62, ⟨(Below.refl _ _).drew, nofun⟩, nofun, nofun, nofun, nofun, nofun, nofun, nofun, nofun, nofun, nofun⟩
                · rintro fL bA v ⟨v53, v54, v55, v56, v57, v58, v59, v60, v61, v62, rfl, hS, q0, q1, q2, q3, q4, q5, q6, q7, q8, q9⟩ i hi hf o ho hall
                  simp only [Act.put, List.setIfInBounds_toArray, List.set_cons_zero, List.set_cons_succ]
                  have hn : i = 0 ∨ i = 1 ∨ i = 2 ∨ i = 3 ∨ i = 4 ∨ i = 5 ∨ i = 6 ∨ i = 7 ∨ i = 8 ∨ i = 9 := by omega
                  clear hi
                  rcases hn with rfl | rfl | rfl | rfl | rfl | rfl | rfl | rfl | rfl | rfl
                  · obtain rfl := Option.some.inj ho
                    clear hall ho
                    refine wpOp_step rfl (fun K hK => ?_)
                    go_simp
                    exact hK _ _ ⟨_, _, _, _, _, _, _, _, _, _, rfl, hS, fun _ => rfl, q1, q2, q3, q4, q5, q6, q7, q8, fun _ => trivial⟩
                  · obtain rfl := Option.some.inj ho
                    clear hall ho
                    refine wpOp_step rfl (fun K hK => ?_)
                    go_simp
                    exact hK _ _ ⟨_, _, _, _, _, _, _, _, _, _, rfl, hS, q0, fun _ => rfl, q2, q3, q4, q5, q6, q7, q8, fun _ => trivial⟩
                  · obtain rfl := Option.some.inj ho
                    clear hall ho
                    refine wpOp_step rfl (fun K hK => ?_)
                    go_simp
                    exact hK _ _ ⟨_, _, _, _, _, _, _, _, _, _, rfl, hS, q0, q1, fun _ => rfl, q3, q4, q5, q6, q7, q8, fun _ => trivial⟩
                  · obtain rfl := Option.some.inj ho
                    obtain rfl := q2 (hall ⟨2, .data⟩ (by simp) rfl)
                    clear hall ho
                    refine wpOp_step rfl (fun K hK => ?_)
                    go_simp
                    exact hK _ _ ⟨_, _, _, _, _, _, _, _, _, _, rfl, hS, q0, q1, fun _ => rfl, fun _ => rfl, q4, q5, q6, q7, q8, fun _ => trivial⟩
                  · obtain rfl := Option.some.inj ho
                    obtain rfl := q3 (hall ⟨3, .data⟩ (by simp) rfl)
                    have y := cell_keep hS.hb y0
                    clear hall ho
                    refine wpOp_step rfl (fun K hK => ?_)
                    go_simp
                    exact hK _ _ ⟨_, _, _, _, _, _, _, _, _, _, rfl, hS, q0, q1, q2, fun _ => rfl, fun _ => rfl, q5, q6, q7, q8, fun _ => trivial⟩
                  · obtain rfl := Option.some.inj ho
                    clear hall ho
                    refine wpOp_step rfl (fun K hK => ?_)
                    go_simp
                    exact hK _ _ ⟨_, _, _, _, _, _, _, _, _, _, rfl, hS, q0, q1, q2, q3, q4, fun _ => rfl, q6, q7, q8, fun _ => trivial⟩
                  · obtain rfl := Option.some.inj ho
                    obtain rfl := q5 (hall ⟨5, .data⟩ (by simp) rfl)
                    clear hall ho
                    refine wpOp_step rfl (fun K hK => ?_)
                    go_simp
                    exact hK _ _ ⟨_, _, _, _, _, _, _, _, _, _, rfl, hS, q0, q1, q2, q3, q4, fun _ => rfl, fun _ => rfl, q7, q8, fun _ => trivial⟩
                  · obtain rfl := Option.some.inj ho
                    obtain rfl := q6 (hall ⟨6, .data⟩ (by simp) rfl)
                    have y := cell_keep hS.hb y1
                    clear hall ho
                    refine wpOp_step rfl (fun K hK => ?_)
                    go_simp
                    exact hK _ _ ⟨_, _, _, _, _, _, _, _, _, _, rfl, hS, q0, q1, q2, q3, q4, q5, fun _ => rfl, fun _ => rfl, q8, fun _ => trivial⟩
                  · obtain rfl := Option.some.inj ho
                    obtain rfl := q1 (hall ⟨1, .data⟩ (by simp) rfl)
                    obtain rfl := q4 (hall ⟨4, .data⟩ (by simp) rfl)
                    obtain rfl := q7 (hall ⟨7, .data⟩ (by simp) rfl)
                    clear hall ho
                    refine wpOp_step rfl (fun K hK => ?_)
                    go_simp
                    exact hK _ _ ⟨_, _, _, _, _, _, _, _, _, _, rfl, hS, q0, fun _ => rfl, q2, q3, fun _ => rfl, q5, q6, fun _ => rfl, fun _ => rfl, fun _ => trivial⟩
                  · obtain rfl := Option.some.inj ho
                    obtain rfl := q8 (hall ⟨8, .data⟩ (by simp) rfl)
                    clear hall ho
                    refine wpOp_step rfl (fun K hK => ?_)
                    go_simp
                    exact hK _ _ ⟨_, _, _, _, _, _, _, _, _, _, rfl, ⟨hS.hb.alloc hS.hb.size _, fun _ => ⟨v.heap.size, rfl, Blk.new _ _ _⟩⟩, q0, q1, q2, q3, q4, q5, q6, q7, fun _ => rfl, fun _ => trivial⟩
                · rintro fL bA v ⟨v53, v54, v55, v56, v57, v58, v59, v60, v61, v62, rfl, hS, q0, q1, q2, q3, q4, q5, q6, q7, q8, q9⟩ hall
                  simp only [Act.put, List.setIfInBounds_toArray, List.set_cons_zero, List.set_cons_succ]
                  obtain rfl := q0 (hall 0 (by omega))
                  obtain rfl := q1 (hall 1 (by omega))
                  obtain rfl := q2 (hall 2 (by omega))
                  obtain rfl := q3 (hall 3 (by omega))
                  obtain rfl := q4 (hall 4 (by omega))
                  obtain rfl := q5 (hall 5 (by omega))
                  obtain rfl := q6 (hall 6 (by omega))
                  obtain rfl := q7 (hall 7 (by omega))
                  obtain rfl := q8 (hall 8 (by omega))
                  have e9 : fL 9 = true := hall 9 (by omega)
                  clear hall
                  simp only [List.drop_succ_cons, List.drop_zero]
                  obtain ⟨gb, rfl, Bk⟩ := hS.q e9
                  have hbv := hS.hb
                  have hA := hL.below hbv
                  have Ov := Ow.below hbv
                  clear hS hL Ow hbv y0 y1 x0 hex hX hX2
                  go_wp2_with (at_builtin; refine wpList_append_rows _ rfl _ _ _ rfl w.heap.size 35 ii _ 3 24 Tryz.underlying24 hi hz0 hz1 hz2 rfl (by omega) _ _ rfl hA.o _ _ _ _ ([⟨1, m, n⟩].map Stroke.cells) rfl rfl (Sl.blkK (x := ⟨1, m, n⟩) Bk) stroke_one (by simp only [List.length_map]; have := hMl.out; unfold maxLen; omega) (by simp only [List.length_map]; have := hMl.out; omega) (hA.hb.size) ?_; intro v1 w6 hO2 hg2 hat; have hL2 := hA.app hg2 hO2)
                  have O6 := Ov.kept hg2 hne
                  have hne3 : (Value.slice (some ⟨wb, wo, none⟩) ws.length cw).ownBlock = none ∨ (Value.slice (some ⟨wb, wo, none⟩) ws.length cw).ownBlock ≠ v1.ownBlock := by
                    rcases hat with e | e
                    · rw [e]; exact hne
                    · refine .inr (fun h => ?_)
                      rw [e] at h
                      have := (Ov.1.lt _ h).2
                      omega
                  go_roundw
                  case rel => exact ⟨k + 1, M ++ [⟨1, m, n⟩], by omega, by go_num, by rw [List.length_append, hMk.out]; rfl, hnx2, hL2, O6, hne3⟩
                  case measure => simp [intOf]; omega
              by_cases h66 : c = 66
              · rw [if_neg h70, if_pos h66] at hnx2
                have hcc : ((c.toNat : Nat) : Int) = 66 := by rw [h66]; rfl
                have e1 : ((X[0].toNat : Int) == 70) = false := by rw [hg1, hcc]; rfl
                have e2 : ((X[0].toNat : Int) == 66) = true := by rw [hg1, hcc]; rfl
                clear hch hg1 hcc
                generalize hq0 : (X[0].toNat : Int) = ch at *
                go_wp2_with fail
                refine wp_region_sink 10 (fun a0 fL bA v => ∃ v53 v54 v55 v56 v57 v58 v59 v60 v61 v62 : Value, bA = (((((((((a0.put (some 53) v53).put (some 54) v54).put (some 55) v55).put (some 56) v56).put (some 57) v57).put (some 58) v58).put (some 59) v59).put (some 60) v60).put (some 61) v61).put (some 62) v62 ∧ (SkS w4 2 m n (fL 9) v62 v) ∧ (fL 0 = true → v53 = u5) ∧ (fL 1 = true → v54 = .int .i64 2) ∧ (fL 2 = true → v55 = .slice (some ⟨bl, off, none⟩) 2 c4) ∧ (fL 3 = true → v56 = .pointer (some ⟨bl, off, none⟩)) ∧ (fL 4 = true → v57 = .int .i64 m) ∧ (fL 5 = true → v58 = .slice (some ⟨bl, off, none⟩) 2 c4) ∧ (fL 6 = true → v59 = .pointer (some ⟨bl, off + 1, none⟩)) ∧ (fL 7 = true → v60 = .int .i64 n) ∧ (fL 8 = true → v61 = .agg #[.int .i64 2, .int .i64 m, .int .i64 n]) ∧ (fL 9 = true → True)) (by kernel_rfl) (by decide +kernel) ?_ ?_ ?_
                · exact ⟨_, _, _, _, _, _, _, _, _, _, put_more (put_more (put_more (put_more (put_more (put_more (put_more (put_more (put_more (put_more (rfl) 53) 54) 55) 56) 57) 58) 59) 60) 61) 62, ⟨(Below.refl _ _).drew, nofun⟩, nofun, nofun, nofun, nofun, nofun, nofun, nofun, nofun, nofun, nofun⟩
                · rintro fL bA v ⟨v53, v54, v55, v56, v57, v58, v59, v60, v61, v62, rfl, hS, q0, q1, q2, q3, q4, q5, q6, q7, q8, q9⟩ i hi hf o ho hall
                  simp only [Act.put, List.setIfInBounds_toArray, List.set_cons_zero, List.set_cons_succ]
                  have hn : i = 0 ∨ i = 1 ∨ i = 2 ∨ i = 3 ∨ i = 4 ∨ i = 5 ∨ i = 6 ∨ i = 7 ∨ i = 8 ∨ i = 9 := by omega
                  clear hi
                  rcases hn with rfl | rfl | rfl | rfl | rfl | rfl | rfl | rfl | rfl | rfl
                  · obtain rfl := Option.some.inj ho
                    clear hall ho
                    refine wpOp_step rfl (fun K hK => ?_)
                    go_simp
                    exact hK _ _ ⟨_, _, _, _, _, _, _, _, _, _, rfl, hS, fun _ => rfl, q1, q2, q3, q4, q5, q6, q7, q8, fun _ => trivial⟩
                  · obtain rfl := Option.some.inj ho
                    clear hall ho
                    refine wpOp_step rfl (fun K hK => ?_)
                    go_simp
                    exact hK _ _ ⟨_, _, _, _, _, _, _, _, _, _, rfl, hS, q0, fun _ => rfl, q2, q3, q4, q5, q6, q7, q8, fun _ => trivial⟩
                  · obtain rfl := Option.some.inj ho
                    clear hall ho
                    refine wpOp_step rfl (fun K hK => ?_)
                    go_simp
                    exact hK _ _ ⟨_, _, _, _, _, _, _, _, _, _, rfl, hS, q0, q1, fun _ => rfl, q3, q4, q5, q6, q7, q8, fun _ => trivial⟩
                  · obtain rfl := Option.some.inj ho
                    obtain rfl := q2 (hall ⟨2, .data⟩ (by simp) rfl)
                    clear hall ho
                    refine wpOp_step rfl (fun K hK => ?_)
                    go_simp
                    exact hK _ _ ⟨_, _, _, _, _, _, _, _, _, _, rfl, hS, q0, q1, fun _ => rfl, fun _ => rfl, q4, q5, q6, q7, q8, fun _ => trivial⟩
                  · obtain rfl := Option.some.inj ho
                    obtain rfl := q3 (hall ⟨3, .data⟩ (by simp) rfl)
                    have y := cell_keep hS.hb y0
                    clear hall ho
                    refine wpOp_step rfl (fun K hK => ?_)
                    go_simp
                    exact hK _ _ ⟨_, _, _, _, _, _, _, _, _, _, rfl, hS, q0, q1, q2, fun _ => rfl, fun _ => rfl, q5, q6, q7, q8, fun _ => trivial⟩
                  · obtain rfl := Option.some.inj ho
                    clear hall ho
                    refine wpOp_step rfl (fun K hK => ?_)
                    go_simp
                    exact hK _ _ ⟨_, _, _, _, _, _, _, _, _, _, rfl, hS, q0, q1, q2, q3, q4, fun _ => rfl, q6, q7, q8, fun _ => trivial⟩
                  · obtain rfl := Option.some.inj ho
                    obtain rfl := q5 (hall ⟨5, .data⟩ (by simp) rfl)
                    clear hall ho
                    refine wpOp_step rfl (fun K hK => ?_)
                    go_simp
                    exact hK _ _ ⟨_, _, _, _, _, _, _, _, _, _, rfl, hS, q0, q1, q2, q3, q4, fun _ => rfl, fun _ => rfl, q7, q8, fun _ => trivial⟩
                  · obtain rfl := Option.some.inj ho
                    obtain rfl := q6 (hall ⟨6, .data⟩ (by simp) rfl)
                    have y := cell_keep hS.hb y1
                    clear hall ho
                    refine wpOp_step rfl (fun K hK => ?_)
                    go_simp
                    exact hK _ _ ⟨_, _, _, _, _, _, _, _, _, _, rfl, hS, q0, q1, q2, q3, q4, q5, fun _ => rfl, fun _ => rfl, q8, fun _ => trivial⟩
                  · obtain rfl := Option.some.inj ho
                    obtain rfl := q1 (hall ⟨1, .data⟩ (by simp) rfl)
                    obtain rfl := q4 (hall ⟨4, .data⟩ (by simp) rfl)
                    obtain rfl := q7 (hall ⟨7, .data⟩ (by simp) rfl)
                    clear hall ho
                    refine wpOp_step rfl (fun K hK => ?_)
                    go_simp
                    exact hK _ _ ⟨_, _, _, _, _, _, _, _, _, _, rfl, hS, q0, fun _ => rfl, q2, q3, fun _ => rfl, q5, q6, fun _ => rfl, fun _ => rfl, fun _ => trivial⟩
                  · obtain rfl := Option.some.inj ho
                    obtain rfl := q8 (hall ⟨8, .data⟩ (by simp) rfl)
                    clear hall ho
                    refine wpOp_step rfl (fun K hK => ?_)
                    go_simp
                    exact hK _ _ ⟨_, _, _, _, _, _, _, _, _, _, rfl, ⟨hS.hb.alloc hS.hb.size _, fun _ => ⟨v.heap.size, rfl, Blk.new _ _ _⟩⟩, q0, q1, q2, q3, q4, q5, q6, q7, fun _ => rfl, fun _ => trivial⟩
                · rintro fL bA v ⟨v53, v54, v55, v56, v57, v58, v59, v60, v61, v62, rfl, hS, q0, q1, q2, q3, q4, q5, q6, q7, q8, q9⟩ hall
                  simp only [Act.put, List.setIfInBounds_toArray, List.set_cons_zero, List.set_cons_succ]
                  obtain rfl := q0 (hall 0 (by omega))
                  obtain rfl := q1 (hall 1 (by omega))
                  obtain rfl := q2 (hall 2 (by omega))
                  obtain rfl := q3 (hall 3 (by omega))
                  obtain rfl := q4 (hall 4 (by omega))
                  obtain rfl := q5 (hall 5 (by omega))
                  obtain rfl := q6 (hall 6 (by omega))
                  obtain rfl := q7 (hall 7 (by omega))
                  obtain rfl := q8 (hall 8 (by omega))
                  have e9 : fL 9 = true := hall 9 (by omega)
                  clear hall
                  simp only [List.drop_succ_cons, List.drop_zero]
                  obtain ⟨gb, rfl, Bk⟩ := hS.q e9
                  have hbv := hS.hb
                  have hA := hL.below hbv
                  have Ov := Ow.below hbv
                  clear hS hL Ow hbv y0 y1 x0 hex hX hX2
                  go_wp2_with (at_builtin; refine wpList_append_rows _ rfl _ _ _ rfl w.heap.size 35 ii _ 3 24 Tryz.underlying24 hi hz0 hz1 hz2 rfl (by omega) _ _ rfl hA.o _ _ _ _ ([⟨2, m, n⟩].map Stroke.cells) rfl rfl (Sl.blkK (x := ⟨2, m, n⟩) Bk) stroke_one (by simp only [List.length_map]; have := hMl.out; unfold maxLen; omega) (by simp only [List.length_map]; have := hMl.out; omega) (hA.hb.size) ?_; intro v1 w6 hO2 hg2 hat; have hL2 := hA.app hg2 hO2)
                  have O6 := Ov.kept hg2 hne
                  have hne3 : (Value.slice (some ⟨wb, wo, none⟩) ws.length cw).ownBlock = none ∨ (Value.slice (some ⟨wb, wo, none⟩) ws.length cw).ownBlock ≠ v1.ownBlock := by
                    rcases hat with e | e
                    · rw [e]; exact hne
                    · refine .inr (fun h => ?_)
                      rw [e] at h
                      have := (Ov.1.lt _ h).2
                      omega
                  go_roundw
                  case rel => exact ⟨k + 1, M ++ [⟨2, m, n⟩], by omega, by go_num, by rw [List.length_append, hMk.out]; rfl, hnx2, hL2, O6, hne3⟩
                  case measure => simp [intOf]; omega
              · rw [if_neg h70, if_neg h66] at hnx2
                have e1 : ((X[0].toNat : Int) == 70) = false := by
                  rw [hg1]
                  have : ¬ (c.toNat : Int) = 70 := fun e => h70 (UInt8.toNat_inj.1 (by have : (70 : UInt8).toNat = 70 := rfl; omega))
                  simpa using this
                have e2 : ((X[0].toNat : Int) == 66) = false := by
                  rw [hg1]
                  have : ¬ (c.toNat : Int) = 66 := fun e => h66 (UInt8.toNat_inj.1 (by have : (66 : UInt8).toNat = 66 := rfl; omega))
                  simpa using this
                clear hch hg1
                generalize hq0 : (X[0].toNat : Int) = ch at *
                go_wp2_with fail
                refine wp_region_sink 10 (fun a0 fL bA v => ∃ v53 v54 v55 v56 v57 v58 v59 v60 v61 v62 : Value, bA = (((((((((a0.put (some 53) v53).put (some 54) v54).put (some 55) v55).put (some 56) v56).put (some 57) v57).put (some 58) v58).put (some 59) v59).put (some 60) v60).put (some 61) v61).put (some 62) v62 ∧ (SkS w4 0 m n (fL 9) v62 v) ∧ (fL 0 = true → v53 = u5) ∧ (fL 1 = true → v54 = .int .i64 0) ∧ (fL 2 = true → v55 = .slice (some ⟨bl, off, none⟩) 2 c4) ∧ (fL 3 = true → v56 = .pointer (some ⟨bl, off, none⟩)) ∧ (fL 4 = true → v57 = .int .i64 m) ∧ (fL 5 = true → v58 = .slice (some ⟨bl, off, none⟩) 2 c4) ∧ (fL 6 = true → v59 = .pointer (some ⟨bl, off + 1, none⟩)) ∧ (fL 7 = true → v60 = .int .i64 n) ∧ (fL 8 = true → v61 = .agg #[.int .i64 0, .int .i64 m, .int .i64 n]) ∧ (fL 9 = true → True)) (by kernel_rfl) (by decide +kernel) ?_ ?_ ?_
                · exact ⟨_, _, _, _, _, _, _, _, _, _, put_more (put_more (put_more (put_more (put_more (put_more (put_more (put_more (put_more (put_more (rfl) 53) 54) 55) 56) 57) 58) 59) 60) 61) 62, ⟨(Below.refl _ _).drew, nofun⟩, nofun, nofun, nofun, nofun, nofun, nofun, nofun, nofun, nofun, nofun⟩
                · rintro fL bA v ⟨v53, v54, v55, v56, v57, v58, v59, v60, v61, v62, rfl, hS, q0, q1, q2, q3, q4, q5, q6, q7, q8, q9⟩ i hi hf o ho hall
                  simp only [Act.put, List.setIfInBounds_toArray, List.set_cons_zero, List.set_cons_succ]
                  have hn : i = 0 ∨ i = 1 ∨ i = 2 ∨ i = 3 ∨ i = 4 ∨ i = 5 ∨ i = 6 ∨ i = 7 ∨ i = 8 ∨ i = 9 := by omega
                  clear hi
                  rcases hn with rfl | rfl | rfl | rfl | rfl | rfl | rfl | rfl | rfl | rfl
                  · obtain rfl := Option.some.inj ho
                    clear hall ho
                    refine wpOp_step rfl (fun K hK => ?_)
                    go_simp
                    exact hK _ _ ⟨_, _, _, _, _, _, _, _, _, _, rfl, hS, fun _ => rfl, q1, q2, q3, q4, q5, q6, q7, q8, fun _ => trivial⟩
                  · obtain rfl := Option.some.inj ho
                    clear hall ho
                    refine wpOp_step rfl (fun K hK => ?_)
                    go_simp
                    exact hK _ _ ⟨_, _, _, _, _, _, _, _, _, _, rfl, hS, q0, fun _ => rfl, q2, q3, q4, q5, q6, q7, q8, fun _ => trivial⟩
                  · obtain rfl := Option.some.inj ho
                    clear hall ho
                    refine wpOp_step rfl (fun K hK => ?_)
                    go_simp
                    exact hK _ _ ⟨_, _, _, _, _, _, _, _, _, _, rfl, hS, q0, q1, fun _ => rfl, q3, q4, q5, q6, q7, q8, fun _ => trivial⟩
                  · obtain rfl := Option.some.inj ho
                    obtain rfl := q2 (hall ⟨2, .data⟩ (by simp) rfl)
                    clear hall ho
                    refine wpOp_step rfl (fun K hK => ?_)
                    go_simp
                    exact hK _ _ ⟨_, _, _, _, _, _, _, _, _, _, rfl, hS, q0, q1, fun _ => rfl, fun _ => rfl, q4, q5, q6, q7, q8, fun _ => trivial⟩
                  · obtain rfl := Option.some.inj ho
                    obtain rfl := q3 (hall ⟨3, .data⟩ (by simp) rfl)
                    have y := cell_keep hS.hb y0
                    clear hall ho
                    refine wpOp_step rfl (fun K hK => ?_)
                    go_simp
                    exact hK _ _ ⟨_, _, _, _, _, _, _, _, _, _, rfl, hS, q0, q1, q2, fun _ => rfl, fun _ => rfl, q5, q6, q7, q8, fun _ => trivial⟩
                  · obtain rfl := Option.some.inj ho
                    clear hall ho
                    refine wpOp_step rfl (fun K hK => ?_)
                    go_simp
                    exact hK _ _ ⟨_, _, _, _, _, _, _, _, _, _, rfl, hS, q0, q1, q2, q3, q4, fun _ => rfl, q6, q7, q8, fun _ => trivial⟩
                  · obtain rfl := Option.some.inj ho
                    obtain rfl := q5 (hall ⟨5, .data⟩ (by simp) rfl)
                    clear hall ho
                    refine wpOp_step rfl (fun K hK => ?_)
                    go_simp
                    exact hK _ _ ⟨_, _, _, _, _, _, _, _, _, _, rfl, hS, q0, q1, q2, q3, q4, fun _ => rfl, fun _ => rfl, q7, q8, fun _ => trivial⟩
                  · obtain rfl := Option.some.inj ho
                    obtain rfl := q6 (hall ⟨6, .data⟩ (by simp) rfl)
                    have y := cell_keep hS.hb y1
                    clear hall ho
                    refine wpOp_step rfl (fun K hK => ?_)
                    go_simp
                    exact hK _ _ ⟨_, _, _, _, _, _, _, _, _, _, rfl, hS, q0, q1, q2, q3, q4, q5, fun _ => rfl, fun _ => rfl, q8, fun _ => trivial⟩
                  · obtain rfl := Option.some.inj ho
                    obtain rfl := q1 (hall ⟨1, .data⟩ (by simp) rfl)
                    obtain rfl := q4 (hall ⟨4, .data⟩ (by simp) rfl)
                    obtain rfl := q7 (hall ⟨7, .data⟩ (by simp) rfl)
                    clear hall ho
                    refine wpOp_step rfl (fun K hK => ?_)
                    go_simp
                    exact hK _ _ ⟨_, _, _, _, _, _, _, _, _, _, rfl, hS, q0, fun _ => rfl, q2, q3, fun _ => rfl, q5, q6, fun _ => rfl, fun _ => rfl, fun _ => trivial⟩
                  · obtain rfl := Option.some.inj ho
                    obtain rfl := q8 (hall ⟨8, .data⟩ (by simp) rfl)
                    clear hall ho
                    refine wpOp_step rfl (fun K hK => ?_)
                    go_simp
                    exact hK _ _ ⟨_, _, _, _, _, _, _, _, _, _, rfl, ⟨hS.hb.alloc hS.hb.size _, fun _ => ⟨v.heap.size, rfl, Blk.new _ _ _⟩⟩, q0, q1, q2, q3, q4, q5, q6, q7, fun _ => rfl, fun _ => trivial⟩
                · rintro fL bA v ⟨v53, v54, v55, v56, v57, v58, v59, v60, v61, v62, rfl, hS, q0, q1, q2, q3, q4, q5, q6, q7, q8, q9⟩ hall
                  simp only [Act.put, List.setIfInBounds_toArray, List.set_cons_zero, List.set_cons_succ]
                  obtain rfl := q0 (hall 0 (by omega))
                  obtain rfl := q1 (hall 1 (by omega))
                  obtain rfl := q2 (hall 2 (by omega))
                  obtain rfl := q3 (hall 3 (by omega))
                  obtain rfl := q4 (hall 4 (by omega))
                  obtain rfl := q5 (hall 5 (by omega))
                  obtain rfl := q6 (hall 6 (by omega))
                  obtain rfl := q7 (hall 7 (by omega))
                  obtain rfl := q8 (hall 8 (by omega))
                  have e9 : fL 9 = true := hall 9 (by omega)
                  clear hall
                  simp only [List.drop_succ_cons, List.drop_zero]
                  obtain ⟨gb, rfl, Bk⟩ := hS.q e9
                  have hbv := hS.hb
                  have hA := hL.below hbv
                  have Ov := Ow.below hbv
                  clear hS hL Ow hbv y0 y1 x0 hex hX hX2
                  go_wp2_with (at_builtin; refine wpList_append_rows _ rfl _ _ _ rfl w.heap.size 35 ii _ 3 24 Tryz.underlying24 hi hz0 hz1 hz2 rfl (by omega) _ _ rfl hA.o _ _ _ _ ([⟨0, m, n⟩].map Stroke.cells) rfl rfl (Sl.blkK (x := ⟨0, m, n⟩) Bk) stroke_one (by simp only [List.length_map]; have := hMl.out; unfold maxLen; omega) (by simp only [List.length_map]; have := hMl.out; omega) (hA.hb.size) ?_; intro v1 w6 hO2 hg2 hat; have hL2 := hA.app hg2 hO2)
                  have O6 := Ov.kept hg2 hne
                  have hne3 : (Value.slice (some ⟨wb, wo, none⟩) ws.length cw).ownBlock = none ∨ (Value.slice (some ⟨wb, wo, none⟩) ws.length cw).ownBlock ≠ v1.ownBlock := by
                    rcases hat with e | e
                    · rw [e]; exact hne
                    · refine .inr (fun h => ?_)
                      rw [e] at h
                      have := (Ov.1.lt _ h).2
                      omega
                  go_roundw
                  case rel => exact ⟨k + 1, M ++ [⟨0, m, n⟩], by omega, by go_num, by rw [List.length_append, hMk.out]; rfl, hnx2, hL2, O6, hne3⟩
                  case measure => simp [intOf]; omega
            · have hpc : ((pc.length : Int) == 2) = false := by simpa using (by omega : ¬ (pc.length : Int) = 2)
              obtain ⟨hA, hB⟩ := hb2.out (w1.out (.inr h2))
              subst hA hB
              have hbw := hL.hb.trans (hb4.mono hL.hb.size)
              clear hL Ow hb2 hn2 hgood hcode htk w1 w2 hb4 O4 hQQ hne
              go_wp2
              go_ret2
              exact ⟨none, 0, rfl, Own.nil_, hbw⟩
          · obtain ⟨hA, hB⟩ := hb2.out (w1.out (.inl hok))
            subst hA hB
            have hbw := hL.hb.trans (hb4.mono hL.hb.size)
            clear hL Ow hb2 hn2 hgood hcode htk w1 w2 hb4 hQQ hne
            go_wp2
            go_ret2
            exact ⟨none, 0, rfl, Own.nil_, hbw⟩
      · have : k = ws.length := by omega
        subst this
        have hO := hL.o
        have hbw := hL.hb
        rw [htk.out] at hM
        have hMl : M.length ≤ 1048577 := by omega
        obtain ⟨A9, c9, hv, _⟩ := hO.form
        rw [List.length_map] at hv
        subst hv
        have HI := Lib.hid (l32Code_c A9 c9 M wr (by omega) hO.sl)
        clear hL hne hbad hnx HN HM Ow
        replace hMk := Lib.hid hMk
        by_cases h0 : strokesCode M = 0
        · obtain ⟨rfl, rfl⟩ := hgood.out M hM.out h0
          rw [h0] at HI
          go_wp2_with fail
          refine Calls.mono HI.out ?_; rintro e w4 ⟨rfl, hb4⟩
          have hO4 := hO.below hb4
          go_wp2
          go_ret2
          exact ⟨A9, c9, rfl, hO4, hbw.trans (hb4.mono hbw.size)⟩
        · obtain ⟨rfl, rfl⟩ := hcode.out M hM.out h0
          have hb0 : (strokesCode M == 0) = false := by simpa using h0
          generalize strokesCode M = cd at *
          go_wp2_with fail
          refine Calls.mono HI.out ?_; rintro e w4 ⟨rfl, hb4⟩
          go_wp2
          go_ret2
          exact ⟨none, 0, rfl, Own.nil_, hbw.trans (hb4.mono hbw.size)⟩
end Go.Proofs.YtkjommcmeinkaaaGreatDoor
