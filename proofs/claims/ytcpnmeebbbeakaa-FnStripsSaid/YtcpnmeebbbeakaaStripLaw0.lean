/- The law on strips: walked. Condition: none. -/
import Derived.Test.YtcpnmeebbbeakaaCircLaw0
import Derived.Test.YtcpnmeebbbeakaaDraw5
import Derived.Test.YtcpnmeebbbeakaaStripP
namespace Go.Proofs.Ytcpnmeebbbeakaa
open Go.RowKit
set_option maxRecDepth 100000 in
set_option maxHeartbeats 2000000 in
theorem lawStrips_c (A : Option Addr) (n c : Nat) (w : World) (hn : n ≤ 140737488351232) (hb : Bytes w A n w.heap.size) :
    Calls Try.prog 11 #[.slice A n c] w fun e w' => e = .returned (.bool true) ∧ Below w.heap.size w w' := by
  have hG := big_c A n c w hn
  by_cases hbig : 4096 < n
  · rw [decide_eq_true hbig] at hG
    have HG := Lib.hid hG; clear hG hb
    go_enter Try.func11, Try.ntmps11
    go_wp2_with (go_at_call 46; refine HG.out.mono ?_; rintro e w1 ⟨rfl, rfl⟩)
    go_ret
    exact ⟨rfl, Below.refl _ _⟩
  · rw [decide_eq_false hbig] at hG
    have HG := Lib.hid hG; clear hG
    have hn' : n ≤ 4096 := by omega
    have HN := fun a b w => neFig a b w
    have hgd : Try.prog.eqGuardType Try.prog.depth 36 = false := by kernel_rfl
    have HB := Lib.hid hb; clear hb
    go_enter Try.func11, Try.ntmps11
    go_wp2_with (go_at_call 46; refine HG.out.mono ?_; rintro e w1 ⟨rfl, rfl⟩)
    clear HG
    refine (drawStripPlace_c A n c w hn' HB.out).mono ?_; rintro e w1 ⟨fa, fb, t, ln, rfl, hB1⟩
    have Bf := Blk.new w1 36 #[.int .i64 fa, .int .i64 fb]
    have z1 := hB1.size
    have hB1' : Below w.heap.size w ((w1).alloc (.cells #[.int .i64 fa, .int .i64 fb] 36)) := (by repeat (first | with_reducible exact hB1 | with_reducible apply below_drewN' | with_reducible apply Below.drew | (with_reducible refine Below.alloc ?_ (by first | omega | (simp; omega) | simp) _) | (with_reducible refine Below.setCell ?_ (by first | omega | (simp; omega) | simp) _) | exact hB1))
    have HB1 : Hid (Bytes ((w1).alloc (.cells #[.int .i64 fa, .int .i64 fb] 36)) A n w.heap.size) := HB.out.keep fun p hp => (hB1').cell hp
    have cf0 : ((w1).alloc (.cells #[.int .i64 fa, .int .i64 fb] 36)).cell? ⟨w1.heap.size, 0, none⟩ = some (.int .i64 fa) := Bf.cell 0
    have cf1 : ((w1).alloc (.cells #[.int .i64 fa, .int .i64 fb] 36)).cell? ⟨w1.heap.size, 1, none⟩ = some (.int .i64 fb) := Bf.cell 1
    go_wp2_with fail
    generalize (w1).alloc (.cells #[.int .i64 fa, .int .i64 fb] 36) = W1 at *
    have hBW := hB1'
    have sW1 := hBW.size
    have HS := fun W => Lib.hid (implStripPlace_c ⟨fa, fb⟩ t ln W)
    have HR := fun W => Lib.hid (specStripPlace_c ⟨fa, fb⟩ t ln W)
    have hsk := strip_ok (f := ⟨fa, fb⟩) (t := t) (len := ln)
    unfold Figure.agg at HS HR
    generalize stripRes ⟨fa, fb⟩ t ln = sr at *
    obtain ⟨l, p, bad⟩ := sr
    simp only at HS HR hsk
    have Hsk := Lib.hid hsk; clear hsk
    refine ((HS _).out).mono ?_; rintro e w2 ⟨rfl, hbw2⟩
    have hBw2 := hBW.trans (hbw2.mono hBW.size)
    have Bf := Bf.below hbw2 Bf.lt
    clear cf0 cf1
    have z_w2 := hBw2.size
    have hBW := hBw2
    have HB_w2 : Hid (Bytes w2 A n w.heap.size) := HB.out.keep fun p hp => hBW.cell hp
    have cf0 : w2.cell? ⟨w1.heap.size, 0, none⟩ = some (.int .i64 fa) := Bf.cell 0
    have cf1 : w2.cell? ⟨w1.heap.size, 1, none⟩ = some (.int .i64 fb) := Bf.cell 1
    go_wp2_with fail
    refine ((HR _).out).mono ?_; rintro e w3 ⟨rfl, hbw3⟩
    have hBw3 := hBW.trans (hbw3.mono hBW.size)
    have Bf := Bf.below hbw3 Bf.lt
    clear cf0 cf1
    have z_w3 := hBw3.size
    have hBW := hBw3
    have HB_w3 : Hid (Bytes w3 A n w.heap.size) := HB.out.keep fun p hp => hBW.cell hp
    go_wp2_with fail
    refine (drawFigureOnStrip_c A n c _ hn' (HB_w3.out.more hBW.size)).mono ?_; rintro e w4 ⟨⟨r0, r1, r2, r3, rfl⟩, hbw4⟩
    have hBw4 := hBW.trans (hbw4.mono hBW.size)
    have Bf := Bf.below hbw4 Bf.lt
    have z_w4 := hBw4.size
    have hBW := hBw4
    have HB_w4 : Hid (Bytes w4 A n w.heap.size) := HB.out.keep fun p hp => hBW.cell hp
    go_wp2_with fail
    have HF := fun W => Lib.hid (implFigureOnStrip_c r0 r1 r2 r3 W)
    have HP := fun W => Lib.hid (specFigureOnStrip_c r0 r1 r2 r3 W)
    unfold Figure.agg at HF HP
    generalize figStripRes r0 r1 r2 r3 = fr at *
    obtain ⟨⟨ga, gb⟩, gc⟩ := fr
    simp only at HF HP
    refine ((HF _).out).mono ?_; rintro e w5 ⟨rfl, hbw5⟩
    have hBw5 := hBW.trans (hbw5.mono hBW.size)
    have Bf := Bf.below hbw5 Bf.lt
    have Bf := (Bf).alloc (.cells #[.int .i64 ga, .int .i64 gb] 36)
    have Bg := Blk.new w5 36 #[.int .i64 ga, .int .i64 gb]
    have z2 := hBw5.size
    have hBw5' : Below w.heap.size w ((w5).alloc (.cells #[.int .i64 ga, .int .i64 gb] 36)) := (by repeat (first | with_reducible exact hBw5 | with_reducible apply below_drewN' | with_reducible apply Below.drew | (with_reducible refine Below.alloc ?_ (by first | omega | (simp; omega) | simp) _) | (with_reducible refine Below.setCell ?_ (by first | omega | (simp; omega) | simp) _) | exact hBw5))
    have HB2 : Hid (Bytes ((w5).alloc (.cells #[.int .i64 ga, .int .i64 gb] 36)) A n w.heap.size) := HB.out.keep fun p hp => (hBw5').cell hp
    go_wp2_with fail
    generalize (w5).alloc (.cells #[.int .i64 ga, .int .i64 gb] 36) = W2 at *
    have hBW := hBw5'
    have sW2 := hBW.size
    refine ((HP _).out).mono ?_; rintro e w6 ⟨rfl, hbw6⟩
    have hBw6 := hBW.trans (hbw6.mono hBW.size)
    have Bf := Bf.below hbw6 Bf.lt
    have Bg := Bg.below hbw6 Bg.lt
    have Bf := (Bf).alloc (.cells #[.int .i64 ga, .int .i64 gb] 36)
    have Bg := (Bg).alloc (.cells #[.int .i64 ga, .int .i64 gb] 36)
    have Bu := Blk.new w6 36 #[.int .i64 ga, .int .i64 gb]
    have z3 := hBw6.size
    have hBw6' : Below w.heap.size w ((w6).alloc (.cells #[.int .i64 ga, .int .i64 gb] 36)) := (by repeat (first | with_reducible exact hBw6 | with_reducible apply below_drewN' | with_reducible apply Below.drew | (with_reducible refine Below.alloc ?_ (by first | omega | (simp; omega) | simp) _) | (with_reducible refine Below.setCell ?_ (by first | omega | (simp; omega) | simp) _) | exact hBw6))
    have HB3 : Hid (Bytes ((w6).alloc (.cells #[.int .i64 ga, .int .i64 gb] 36)) A n w.heap.size) := HB.out.keep fun p hp => (hBw6').cell hp
    go_wp2_with fail
    generalize (w6).alloc (.cells #[.int .i64 ga, .int .i64 gb] 36) = W3 at *
    have hBW := hBw6'
    have sW3 := hBW.size
    refine (drawTurnOf_c A n c _ hn' (HB3.out.more hBW.size)).mono ?_; rintro e w7 ⟨⟨x, rfl⟩, hbw7⟩
    have hBw7 := hBW.trans (hbw7.mono hBW.size)
    have Bf := Bf.below hbw7 Bf.lt
    have Bg := Bg.below hbw7 Bg.lt
    have Bu := Bu.below hbw7 Bu.lt
    have HT := fun W => Lib.hid (implTurnOf_c x W)
    have HU := fun W => Lib.hid (specTurnOf_c x W)
    have htk := turn_ok (x := x)
    generalize turnOf x = tr at *
    obtain ⟨tx, ex, cx⟩ := tr
    simp only at HT HU htk
    have Htk := Lib.hid htk; clear htk
    have z_w7 := hBw7.size
    have hBW := hBw7
    have HB_w7 : Hid (Bytes w7 A n w.heap.size) := HB.out.keep fun p hp => hBW.cell hp
    go_wp2_with fail
    refine (HT _).out.mono ?_; rintro e w7' ⟨rfl, rfl⟩
    go_wp2_with fail
    refine (HU _).out.mono ?_; rintro e w7' ⟨rfl, rfl⟩
    go_wp2_with fail
    refine (drawSeenAngle_c A n c _ hn' (HB_w7.out.more hBW.size)).mono ?_; rintro e w8 ⟨⟨sa, sb, rfl⟩, hbw8⟩
    have hBw8 := hBW.trans (hbw8.mono hBW.size)
    have Bf := Bf.below hbw8 Bf.lt
    have Bg := Bg.below hbw8 Bg.lt
    have Bu := Bu.below hbw8 Bu.lt
    have HV := fun W => Lib.hid (implSeenAngle_c sa sb W)
    have HW := fun W => Lib.hid (specSeenAngle_c sa sb W)
    generalize seenAngle sa sb = sr at *
    obtain ⟨se, sc⟩ := sr
    simp only at HV HW
    have z_w8 := hBw8.size
    have hBW := hBw8
    have HB_w8 : Hid (Bytes w8 A n w.heap.size) := HB.out.keep fun p hp => hBW.cell hp
    go_wp2_with fail
    refine (HV _).out.mono ?_; rintro e w8' ⟨rfl, rfl⟩
    go_wp2_with fail
    refine (HW _).out.mono ?_; rintro e w8' ⟨rfl, rfl⟩
    go_wp2_with fail
    refine (drawFigureAt_c A n c _ hn' (HB_w8.out.more hBW.size)).mono ?_; rintro e w9 ⟨⟨an, ak, rfl⟩, hbw9⟩
    have hBw9 := hBW.trans (hbw9.mono hBW.size)
    have Bf := Bf.below hbw9 Bf.lt
    have Bg := Bg.below hbw9 Bg.lt
    have Bu := Bu.below hbw9 Bu.lt
    have HX := fun W => Lib.hid (implFigureAt_c an ak W)
    have HY := fun W => Lib.hid (specFigureAt_c an ak W)
    unfold Figure.agg at HX HY
    generalize figAtRes an ak = ar at *
    obtain ⟨⟨ha, hb⟩, hc⟩ := ar
    simp only at HX HY
    have z_w9 := hBw9.size
    have hBW := hBw9
    have HB_w9 : Hid (Bytes w9 A n w.heap.size) := HB.out.keep fun p hp => hBW.cell hp
    go_wp2_with fail
    refine ((HX _).out).mono ?_; rintro e w10 ⟨rfl, hbw10⟩
    have hBw10 := hBW.trans (hbw10.mono hBW.size)
    have Bf := Bf.below hbw10 Bf.lt
    have Bg := Bg.below hbw10 Bg.lt
    have Bu := Bu.below hbw10 Bu.lt
    have Bf := (Bf).alloc (.cells #[.int .i64 ha, .int .i64 hb] 36)
    have Bg := (Bg).alloc (.cells #[.int .i64 ha, .int .i64 hb] 36)
    have Bu := (Bu).alloc (.cells #[.int .i64 ha, .int .i64 hb] 36)
    have Bh := Blk.new w10 36 #[.int .i64 ha, .int .i64 hb]
    have z4 := hBw10.size
    have hBw10' : Below w.heap.size w ((w10).alloc (.cells #[.int .i64 ha, .int .i64 hb] 36)) := (by repeat (first | with_reducible exact hBw10 | with_reducible apply below_drewN' | with_reducible apply Below.drew | (with_reducible refine Below.alloc ?_ (by first | omega | (simp; omega) | simp) _) | (with_reducible refine Below.setCell ?_ (by first | omega | (simp; omega) | simp) _) | exact hBw10))
    have HB4 : Hid (Bytes ((w10).alloc (.cells #[.int .i64 ha, .int .i64 hb] 36)) A n w.heap.size) := HB.out.keep fun p hp => (hBw10').cell hp
    go_wp2_with fail
    generalize (w10).alloc (.cells #[.int .i64 ha, .int .i64 hb] 36) = W4 at *
    have hBW := hBw10'
    have sW4 := hBW.size
    refine ((HY _).out).mono ?_; rintro e w11 ⟨rfl, hbw11⟩
    have hBw11 := hBW.trans (hbw11.mono hBW.size)
    have Bf := Bf.below hbw11 Bf.lt
    have Bg := Bg.below hbw11 Bg.lt
    have Bu := Bu.below hbw11 Bu.lt
    have Bh := Bh.below hbw11 Bh.lt
    have zE := hBw11.size
    clear HS HR HF HP HT HU HV HW HX HY
    have Bf1 := Bf.alloc (.cells #[.int .i64 ha, .int .i64 hb] 36)
    have Bg1 := Bg.alloc (.cells #[.int .i64 ha, .int .i64 hb] 36)
    have Bu1 := Bu.alloc (.cells #[.int .i64 ha, .int .i64 hb] 36)
    have Bh1 := Bh.alloc (.cells #[.int .i64 ha, .int .i64 hb] 36)
    have Bk1 := Blk.new w11 36 #[.int .i64 ha, .int .i64 hb]
    have hBE : Below w.heap.size w (w11.alloc (.cells #[.int .i64 ha, .int .i64 hb] 36)) := (by repeat (first | with_reducible exact hBw11 | with_reducible apply below_drewN' | with_reducible apply Below.drew | (with_reducible refine Below.alloc ?_ (by first | omega | (simp; omega) | simp) _) | (with_reducible refine Below.setCell ?_ (by first | omega | (simp; omega) | simp) _) | exact hBw11))
    have ef0 : (w11.alloc (.cells #[.int .i64 ha, .int .i64 hb] 36)).cell? ⟨w1.heap.size, 0, none⟩ = some (.int .i64 fa) := Bf1.cell 0
    have ef1 : (w11.alloc (.cells #[.int .i64 ha, .int .i64 hb] 36)).cell? ⟨w1.heap.size, 1, none⟩ = some (.int .i64 fb) := Bf1.cell 1
    have eg0 : (w11.alloc (.cells #[.int .i64 ha, .int .i64 hb] 36)).cell? ⟨w5.heap.size, 0, none⟩ = some (.int .i64 ga) := Bg1.cell 0
    have eg1 : (w11.alloc (.cells #[.int .i64 ha, .int .i64 hb] 36)).cell? ⟨w5.heap.size, 1, none⟩ = some (.int .i64 gb) := Bg1.cell 1
    have eu0 : (w11.alloc (.cells #[.int .i64 ha, .int .i64 hb] 36)).cell? ⟨w6.heap.size, 0, none⟩ = some (.int .i64 ga) := Bu1.cell 0
    have eu1 : (w11.alloc (.cells #[.int .i64 ha, .int .i64 hb] 36)).cell? ⟨w6.heap.size, 1, none⟩ = some (.int .i64 gb) := Bu1.cell 1
    have eh0 : (w11.alloc (.cells #[.int .i64 ha, .int .i64 hb] 36)).cell? ⟨w10.heap.size, 0, none⟩ = some (.int .i64 ha) := Bh1.cell 0
    have eh1 : (w11.alloc (.cells #[.int .i64 ha, .int .i64 hb] 36)).cell? ⟨w10.heap.size, 1, none⟩ = some (.int .i64 hb) := Bh1.cell 1
    have ek0 : (w11.alloc (.cells #[.int .i64 ha, .int .i64 hb] 36)).cell? ⟨w11.heap.size, 0, none⟩ = some (.int .i64 ha) := Bk1.cell 0
    have ek1 : (w11.alloc (.cells #[.int .i64 ha, .int .i64 hb] 36)).cell? ⟨w11.heap.size, 1, none⟩ = some (.int .i64 hb) := Bk1.cell 1
    have hxc : cx = 0 ∨ cx ≠ 0 := by omega
    by_cases hbad : bad = 0
    · obtain ⟨hf, ht, hl, hl1, hp1⟩ := Hsk.out hbad
      have hd := (fig_bd hf).1
      have hin := strip_in hd ht hl
      have hbk := strip_back hd ht hl
      have hfg := strip_fig hd ht hl
      have hyb := angleRaw_bd hd ht
      (try simp only at hl1 hp1)
      rw [← hl1, ← hp1] at hin hbk hfg
      have hnb := nearD_bd (stripAng l p ln) t
      have hzb := angleRaw_bd hnb ht
      have hfz : figOK ⟨nearD (stripAng l p ln) t, 0⟩ = true := by simp [figOK, inB]; omega
      have HF := fun W => implFigureOnStrip_c l p t ln W
      rw [hfg] at HF
      have HY := fun W => implAngleOf_c ⟨fa, fb⟩ t W
      rw [angle_ok hf ht] at HY
      have HZ := fun W => implAngleOf_c ⟨nearD (stripAng l p ln) t, 0⟩ t W
      rw [angle_ok hfz ht] at HZ
      unfold Figure.agg at HF HY HZ
      (try simp only at HF HY HZ)
      have HF' := fun W => Lib.hid (HF W); clear HF
      have HY' := fun W => Lib.hid (HY W); clear HY
      have HZ' := fun W => Lib.hid (HZ W); clear HZ
      have hKb : 0 ≤ 1296000 / ln ∧ 1296000 / ln ≤ 1296000 := by
        have k1 := Int.emod_add_mul_ediv 1296000 ln
        have k2 := Int.emod_nonneg 1296000 (show ln ≠ 0 by omega)
        have k4 : 0 ≤ 1296000 / ln := Int.ediv_nonneg (by omega) (by omega)
        have k5 := Int.mul_le_mul_of_nonneg_right hl.1 k4
        omega
      clear Hsk hfg hnb hfz hl1 hp1 hf hd
      generalize nearD (stripAng l p ln) t = bd at *
      generalize angleRaw fa t = y at *
      generalize angleRaw bd t = z at *
      obtain ⟨⟨i1, i2⟩, i3, i4⟩ := hin
      obtain ⟨t1, t2⟩ := ht
      obtain ⟨l1, l2⟩ := hl
      obtain ⟨y1, y2⟩ := hyb
      obtain ⟨z1', z2'⟩ := hzb
      obtain ⟨b1, b2⟩ := hbk
      obtain ⟨K1, K2⟩ := hKb
      have l3 : ¬ ln = 0 := by omega
      have y3 : y ≤ 25920000 := by omega
      have z3 : z ≤ 25920000 := by omega
      subst hbad
      rcases hxc with hx0 | hx0
      · obtain ⟨⟨x1, x2⟩, x3, x4, x5⟩ := Htk.out hx0
        clear Htk
        subst hx0
        go_wp2_with (first | (go_at_call 57; refine (HF' _).out.mono ?_; rintro e w12 ⟨rfl, hbw12⟩; have hB12 := hBE.trans (hbw12.mono hBE.size); have z12 := hB12.size; have Bf2 := (Bf1.below hbw12 Bf1.lt).alloc (.cells #[.int .i64 bd, .int .i64 0] 36); have Bb2 := Blk.new w12 36 #[.int .i64 bd, .int .i64 0]; have hB12' : Below w.heap.size w (w12.alloc (.cells #[.int .i64 bd, .int .i64 0] 36)) := (by repeat (first | with_reducible exact hB12 | with_reducible apply below_drewN' | with_reducible apply Below.drew | (with_reducible refine Below.alloc ?_ (by first | omega | (simp; omega) | simp) _) | (with_reducible refine Below.setCell ?_ (by first | omega | (simp; omega) | simp) _) | exact hB12)); have s0 : (w12.alloc (.cells #[.int .i64 bd, .int .i64 0] 36)).cell? ⟨w1.heap.size, 0, none⟩ = some (.int .i64 fa) := Bf2.cell 0; have s1 : (w12.alloc (.cells #[.int .i64 bd, .int .i64 0] 36)).cell? ⟨w1.heap.size, 1, none⟩ = some (.int .i64 fb) := Bf2.cell 1))
        refine (HY' _).out.mono ?_; rintro e w13 ⟨rfl, hbw13⟩
        have hB13 := hB12'.trans (hbw13.mono hB12'.size)
        have Bb3 := Bb2.below hbw13 Bb2.lt
        have u0 : w13.cell? ⟨w12.heap.size, 0, none⟩ = some (.int .i64 bd) := Bb3.cell 0
        have u1 : w13.cell? ⟨w12.heap.size, 1, none⟩ = some (.int .i64 0) := Bb3.cell 1
        go_wp2_with fail
        refine (HZ' _).out.mono ?_; rintro e w14 ⟨rfl, hbw14⟩
        have hB14 := hB13.trans (hbw14.mono hB13.size)
        have z14 := hB14.size
        go_wp2
        all_goals
          go_ret
          exact ⟨rfl, (by repeat (first | with_reducible exact hB14 | with_reducible apply below_drewN' | with_reducible apply Below.drew | (with_reducible refine Below.alloc ?_ (by first | omega | (simp; omega) | simp) _) | (with_reducible refine Below.setCell ?_ (by first | omega | (simp; omega) | simp) _) | exact hB14))⟩
      · clear Htk
        go_wp2_with (first | (go_at_call 57; refine (HF' _).out.mono ?_; rintro e w12 ⟨rfl, hbw12⟩; have hB12 := hBE.trans (hbw12.mono hBE.size); have z12 := hB12.size; have Bf2 := (Bf1.below hbw12 Bf1.lt).alloc (.cells #[.int .i64 bd, .int .i64 0] 36); have Bb2 := Blk.new w12 36 #[.int .i64 bd, .int .i64 0]; have hB12' : Below w.heap.size w (w12.alloc (.cells #[.int .i64 bd, .int .i64 0] 36)) := (by repeat (first | with_reducible exact hB12 | with_reducible apply below_drewN' | with_reducible apply Below.drew | (with_reducible refine Below.alloc ?_ (by first | omega | (simp; omega) | simp) _) | (with_reducible refine Below.setCell ?_ (by first | omega | (simp; omega) | simp) _) | exact hB12)); have s0 : (w12.alloc (.cells #[.int .i64 bd, .int .i64 0] 36)).cell? ⟨w1.heap.size, 0, none⟩ = some (.int .i64 fa) := Bf2.cell 0; have s1 : (w12.alloc (.cells #[.int .i64 bd, .int .i64 0] 36)).cell? ⟨w1.heap.size, 1, none⟩ = some (.int .i64 fb) := Bf2.cell 1))
        refine (HY' _).out.mono ?_; rintro e w13 ⟨rfl, hbw13⟩
        have hB13 := hB12'.trans (hbw13.mono hB12'.size)
        have Bb3 := Bb2.below hbw13 Bb2.lt
        have u0 : w13.cell? ⟨w12.heap.size, 0, none⟩ = some (.int .i64 bd) := Bb3.cell 0
        have u1 : w13.cell? ⟨w12.heap.size, 1, none⟩ = some (.int .i64 0) := Bb3.cell 1
        go_wp2_with fail
        refine (HZ' _).out.mono ?_; rintro e w14 ⟨rfl, hbw14⟩
        have hB14 := hB13.trans (hbw14.mono hB13.size)
        have z14 := hB14.size
        go_wp2
        all_goals
          go_ret
          exact ⟨rfl, (by repeat (first | with_reducible exact hB14 | with_reducible apply below_drewN' | with_reducible apply Below.drew | (with_reducible refine Below.alloc ?_ (by first | omega | (simp; omega) | simp) _) | (with_reducible refine Below.setCell ?_ (by first | omega | (simp; omega) | simp) _) | exact hB14))⟩
    · clear Hsk
      rcases hxc with hx0 | hx0
      · obtain ⟨⟨x1, x2⟩, x3, x4, x5⟩ := Htk.out hx0
        clear Htk
        subst hx0
        go_wp2
        go_ret
        exact ⟨rfl, hBE⟩
      · clear Htk
        go_wp2
        go_ret
        exact ⟨rfl, hBE⟩
end Go.Proofs.Ytcpnmeebbbeakaa
