/- Whether a release is valid: the program's and the reference's. Conditions: the lengths. -/
import Derived.Test.YtednjmldjbndhaaGreatDoorKMr14
import Derived.Test.YtednjmldjbndhaaGreatDoorKMr16
set_option linter.unusedSimpArgs false
set_option linter.unusedVariables false
set_option maxRecDepth 100000
set_option maxHeartbeats 8000000
namespace Go.Proofs.YtednjmldjbndhaaGreatDoor
open Go.RowKit
theorem relB_eq (fd ft:Int) (s:ByteArray) (p0 p1 wd lf rt:Int) (lu hu lv hv:Figure) (ey bo:Int):relB fd ft s [p0,p1] wd lf rt lu hu lv hv ey bo =
  (chartB fd ft s [p0,p1] wd lf rt && (figOK lu && figOK hu && (figOK lv && figOK hv)) && (inB ey 0 200 && inB bo 0 1048576) && (decide (0 ≤ cmpF hu lu) && decide (0 ≤ cmpF hv lv)) && decide (ptsCode (lf * p0) [lu,hu]=0) && decide (ptsCode (rt * p1) [lv,hv]=0)):=by
 have h (n:Int) (a b:Figure):decide (ptsCode n [a,b]=0)=(decide (plCode n a=0) && decide (plCode n b=0)):=by
  unfold ptsCode
  cases h1:decide (plCode n a=0) <;> cases h2:decide (plCode n b=0) <;> simp [h1,h2]
 rw [h,h]
 unfold relB
 simp only [List.getD_cons_zero,List.getD_cons_succ,Bool.and_assoc]
theorem relB_no {fd ft:Int} {s:ByteArray} {l:List Int} {wd lf rt:Int} {lu hu lv hv:Figure} {ey bo:Int} (h:chartB fd ft s l wd lf rt=false):relB fd ft s l wd lf rt lu hu lv hv ey bo=false:=by
 unfold relB
 rw [h]
 rfl
theorem all4 (a b c d:Figure):[a,b,c,d].all figOK=(figOK a && figOK b && (figOK c && figOK d)):=by
 simp [Bool.and_assoc]
theorem all2 (a b:Figure):[a,b].all figOK=(figOK a && figOK b):=by
 simp
theorem Sl.fig2 (W:World) (t:TypeId) (a b:Figure) {g:Nat} (hg:W.heap.size=g):Sl (W.alloc (.cells #[.int .i64 a.digits,.int .i64 a.tens,.int .i64 b.digits,.int .i64 b.tens] t)) (g+1) 2 (some ⟨g,0,none⟩) ([a,b].map Figure.cells):=by
 subst hg
 exact Sl.of_blk (Blk.new W t _) _ rfl (by intro x hx;simp only [List.map_cons,List.map_nil,List.mem_cons,List.not_mem_nil,or_false] at hx;rcases hx with rfl | rfl <;> rfl)
theorem Sl.fig4 (W:World) (t:TypeId) (a b c d:Figure) {g:Nat} (hg:W.heap.size=g):Sl (W.alloc (.cells #[.int .i64 a.digits,.int .i64 a.tens,.int .i64 b.digits,.int .i64 b.tens,.int .i64 c.digits,.int .i64 c.tens,.int .i64 d.digits,.int .i64 d.tens] t)) (g+1) 2 (some ⟨g,0,none⟩) ([a,b,c,d].map Figure.cells):=by
 subst hg
 exact Sl.of_blk (Blk.new W t _) _ rfl (by intro x hx;simp only [List.map_cons,List.map_nil,List.mem_cons,List.not_mem_nil,or_false] at hx;rcases hx with rfl | rfl | rfl | rfl <;> rfl)
theorem plCode_pts {n:Int} {F:List Figure}:ptsCode n F=0 ∨ ptsCode n F=3:=by
 unfold ptsCode
 split
 ·exact .inl rfl
 ·exact .inr rfl
theorem implIsRelease1_c (fd ft:Int) (s:ByteArray) (b off c:Nat) (p0 p1 wd lf rt:Int) (lu hu lv hv:Figure) (ey bo:Int) (w:World) (hsz:s.size ≤ 1048576) (hs:Sl w w.heap.size 1 (some ⟨b,off,none⟩) ([p0,p1].map ic)) (hb:b < w.heap.size) (c0:w.cell? ⟨b,off,none⟩=some (.int .i64 p0)) (c1:w.cell? ⟨b,off+1,none⟩=some (.int .i64 p1)) (hc:chartB fd ft s [p0,p1] wd lf rt=true) :
  Calls Tryz.prog 52 #[.agg #[.int .i64 fd,.int .i64 ft,.string s,.slice (some ⟨b,off,none⟩) 2 c,.int .i64 wd,.int .i64 lf,.int .i64 rt,.int .i64 lu.digits,.int .i64 lu.tens,.int .i64 hu.digits,.int .i64 hu.tens,.int .i64 lv.digits,.int .i64 lv.tens,.int .i64 hv.digits,.int .i64 hv.tens,.int .i64 ey,.int .i64 bo]] w fun e w'=>e=.returned (.bool (relB fd ft s [p0,p1] wd lf rt lu hu lv hv ey bo))∧Below w.heap.size w w':=by
 have hR:=relB_eq fd ft s p0 p1 wd lf rt lu hu lv hv ey bo
 rw [hc,Bool.true_and] at hR
 obtain ⟨_,_,hwd,hlf,hrt,q0,q1,hq,hp0,hp1⟩:=chart_parts hc
 obtain ⟨rfl,rfl⟩:p0=q0∧p1=q1:=by simpa using hq
 clear hq
 have HC:=fun W (hW:Below w.heap.size w W)=>implIsChart_c fd ft s (some ⟨b,off,none⟩) c [p0,p1] wd lf rt W hsz (by simp) ((hs.below hW).more hW.size)
 rw [hc] at HC
 have HF:=fun W A c hs=>areFigures_c A c [lu,hu,lv,hv] W (by simp) hs
 simp only [all4] at HF
 have HE:=fun W=>within_c ey 0 200 W
 have HB:=fun W=>within_c bo 0 1048576 W
 have HX:=fun W=>compareFigures_c hu lu W
 have HY:=fun W=>compareFigures_c hv lv W
 have HU:=fun W A cc (hW:Below w.heap.size w W) hok hs=>chartPoints0_c fd ft s b off c p0 p1 wd lf rt A cc [lu,hu] W (by simp) (Nat.lt_of_lt_of_le hb hW.size) ((hW.cell hb).trans c0) ((hW.cell hb).trans c1) hp0 hp1 hwd hlf hrt hok hs
 have HV:=fun W A cc (hW:Below w.heap.size w W) hok hs=>chartPoints1_c fd ft s b off c p0 p1 wd lf rt A cc [lv,hv] W (by simp) (Nat.lt_of_lt_of_le hb hW.size) ((hW.cell hb).trans c0) ((hW.cell hb).trans c1) hp0 hp1 hwd hlf hrt hok hs
 simp only [all2] at HU HV
 have hcu:=@plCode_pts (lf * p0) [lu,hu]
 have hcv:=@plCode_pts (rt * p1) [lv,hv]
 generalize ptsCode (lf * p0) [lu,hu]=cu at *
 generalize ptsCode (rt * p1) [lv,hv]=cv at *
 clear hc hp0 hp1 hwd hlf hrt c0 c1 hs hsz
 generalize relB fd ft s [p0,p1] wd lf rt lu hu lv hv ey bo=res at *
 generalize hf0:figOK lu=f0 at *
 generalize hf1:figOK hu=f1 at *
 generalize hf2:figOK lv=f2 at *
 generalize hf3:figOK hv=f3 at *
 generalize inB ey 0 200=be at *
 generalize inB bo 0 1048576=bb at *
 generalize cmpF hu lu=cx at *
 generalize cmpF hv lv=cy at *
 replace hR:=Lib.hid hR
 replace hcu:=Lib.hid hcu
 replace hcv:=Lib.hid hcv
 clear hf0 hf1 hf2 hf3
 obtain ⟨lud,lut⟩:=lu
 obtain ⟨hud,hut⟩:=hu
 obtain ⟨lvd,lvt⟩:=lv
 obtain ⟨hvd,hvt⟩:=hv
 unfold Figure.agg at HX HY
 simp only at *
 replace HF:=Lib.hid HF
 replace HC:=Lib.hid HC
 replace HE:=Lib.hid HE
 replace HB:=Lib.hid HB
 replace HX:=Lib.hid HX
 replace HY:=Lib.hid HY
 replace HU:=Lib.hid HU
 replace HV:=Lib.hid HV
 have hW:Below w.heap.size w (w.alloc (.cells #[.int .i64 fd,.int .i64 ft,.string s,.slice (some ⟨b,off,none⟩) 2 c,.int .i64 wd,.int .i64 lf,.int .i64 rt,.int .i64 lud,.int .i64 lut,.int .i64 hud,.int .i64 hut,.int .i64 lvd,.int .i64 lvt,.int .i64 hvd,.int .i64 hvt,.int .i64 ey,.int .i64 bo] 33)):=(by repeat first | with_reducible (first | exact Below.refl _ _ | apply below_drewN' | apply Below.drew | refine Below.alloc ?_ ?_ _ | refine Below.setCell ?_ ?_ _) | exact Below.refl _ _ | omega | (simp <;> omega) | (have:=(Below.refl _ _).size;first | omega | (simp <;> omega)))
 have B0:=Blk.new w 33 #[.int .i64 fd,.int .i64 ft,.string s,.slice (some ⟨b,off,none⟩) 2 c,.int .i64 wd,.int .i64 lf,.int .i64 rt,.int .i64 lud,.int .i64 lut,.int .i64 hud,.int .i64 hut,.int .i64 lvd,.int .i64 lvt,.int .i64 hvd,.int .i64 hvt,.int .i64 ey,.int .i64 bo]
 go_enter Tryz.func52,Tryz.ntmps52
 go_wp2_with fail
 generalize w.alloc (.cells #[.int .i64 fd,.int .i64 ft,.string s,.slice (some ⟨b,off,none⟩) 2 c,.int .i64 wd,.int .i64 lf,.int .i64 rt,.int .i64 lud,.int .i64 lut,.int .i64 hud,.int .i64 hut,.int .i64 lvd,.int .i64 lvt,.int .i64 hvd,.int .i64 hvt,.int .i64 ey,.int .i64 bo] 33)=W at *
 refine Calls.mono (HC.out W hW) ?_;rintro e w1 ⟨rfl,hb1⟩
 replace B0:=B0.below hb1 B0.lt
 replace hW:=hW.trans (hb1.mono hW.size)
 clear hb1
 clear HC
 have B0_0:=B0.c0
 have B0_1:=B0.c1
 have B0_2:=B0.c2
 have B0_3:=B0.c3
 have B0_4:=B0.c4
 have B0_5:=B0.c5
 have B0_6:=B0.c6
 have B0_7:=B0.c7
 have B0_8:=B0.c8
 have B0_9:=B0.c9
 have B0_10:=B0.c10
 have B0_11:=B0.c11
 have B0_12:=B0.c12
 have B0_13:=B0.c13
 have B0_14:=B0.c14
 have B0_15:=B0.c15
 have B0_16:=B0.c16
 go_wp2_with fail
 refine Calls.mono (HF.out _ _ _ (by simpa using Sl.fig4 w1 26 ⟨lud,lut⟩ ⟨hud,hut⟩ ⟨lvd,lvt⟩ ⟨hvd,hvt⟩ rfl)) ?_;rintro e w2 ⟨rfl,hb2⟩
 replace B0:=(B0.alloc _).below hb2 (by have:=B0.lt;simp;omega)
 replace hW:=(hW.alloc hW.size _).trans (hb2.mono (by have:=hW.size;simp;omega))
 clear hb2 HF
 have B0_0:=B0.c0
 have B0_1:=B0.c1
 have B0_2:=B0.c2
 have B0_3:=B0.c3
 have B0_4:=B0.c4
 have B0_5:=B0.c5
 have B0_6:=B0.c6
 have B0_7:=B0.c7
 have B0_8:=B0.c8
 have B0_9:=B0.c9
 have B0_10:=B0.c10
 have B0_11:=B0.c11
 have B0_12:=B0.c12
 have B0_13:=B0.c13
 have B0_14:=B0.c14
 have B0_15:=B0.c15
 have B0_16:=B0.c16
 have ff:(f0 && f1 && (f2 && f3))=true ∨ (f0 && f1 && (f2 && f3))=false:=by cases (f0 && f1 && (f2 && f3)) <;> simp
 rcases ff with ff | ff
 case inr =>
  have hq:=Lib.hid ff
  generalize (f0 && f1 && (f2 && f3))=g at *
  subst ff
  go_wp2
  go_ret
  exact ⟨by rw [hR.out];simp,(by repeat first | with_reducible (first | exact hW | apply below_drewN' | apply Below.drew | refine Below.alloc ?_ ?_ _ | refine Below.setCell ?_ ?_ _) | exact hW | omega | (simp <;> omega) | (have:=(hW).size;first | omega | (simp <;> omega)))⟩
 obtain ⟨⟨rfl,rfl⟩,rfl,rfl⟩:(f0=true∧f1=true)∧f2=true∧f3=true:=by simpa using ff
 clear ff
 replace hR:=Lib.hid hR.out
 rcases be with _ | _
 ·go_wp2_with (go_at_call 66;refine Calls.mono (HE.out _) ?_;rintro e w3 ⟨rfl,rfl⟩)
  go_ret
  exact ⟨by rw [hR.out];simp,(by repeat first | with_reducible (first | exact hW | apply below_drewN' | apply Below.drew | refine Below.alloc ?_ ?_ _ | refine Below.setCell ?_ ?_ _) | exact hW | omega | (simp <;> omega) | (have:=(hW).size;first | omega | (simp <;> omega)))⟩
 rcases bb with _ | _
 ·go_wp2_with (first | (go_at_call 66;with_reducible refine Calls.mono (HE.out _) ?_;rintro e w3 ⟨rfl,rfl⟩) | (go_at_call 66;with_reducible refine Calls.mono (HB.out _) ?_;rintro e w3 ⟨rfl,rfl⟩))
  go_ret
  exact ⟨by rw [hR.out];simp,(by repeat first | with_reducible (first | exact hW | apply below_drewN' | apply Below.drew | refine Below.alloc ?_ ?_ _ | refine Below.setCell ?_ ?_ _) | exact hW | omega | (simp <;> omega) | (have:=(hW).size;first | omega | (simp <;> omega)))⟩
 go_wp2_with (first | (go_at_call 66;with_reducible refine Calls.mono (HE.out _) ?_;rintro e w3 ⟨rfl,rfl⟩) | (go_at_call 66;with_reducible refine Calls.mono (HB.out _) ?_;rintro e w3 ⟨rfl,rfl⟩) | fail)
 refine Calls.mono (HX.out w2) ?_;rintro e w3 ⟨rfl,hb3⟩
 replace B0:=B0.below hb3 B0.lt
 replace hW:=hW.trans (hb3.mono hW.size)
 clear hb3
 have B0_0:=B0.c0
 have B0_1:=B0.c1
 have B0_2:=B0.c2
 have B0_3:=B0.c3
 have B0_4:=B0.c4
 have B0_5:=B0.c5
 have B0_6:=B0.c6
 have B0_7:=B0.c7
 have B0_8:=B0.c8
 have B0_9:=B0.c9
 have B0_10:=B0.c10
 have B0_11:=B0.c11
 have B0_12:=B0.c12
 have B0_13:=B0.c13
 have B0_14:=B0.c14
 have B0_15:=B0.c15
 have B0_16:=B0.c16
 clear HX HE HB
 by_cases hx:cx < 0
 ·have hx2:decide (0 ≤ cx)=false:=decide_eq_false (by omega)
  replace hR:Hid (res=false):=Lib.hid (by rw [hR.out,hx2];simp)
  clear hx2
  go_wp2
  go_ret
  exact ⟨by rw [hR.out];rfl,(by repeat first | with_reducible (first | exact hW | apply below_drewN' | apply Below.drew | refine Below.alloc ?_ ?_ _ | refine Below.setCell ?_ ?_ _) | exact hW | omega | (simp <;> omega) | (have:=(hW).size;first | omega | (simp <;> omega)))⟩
 go_wp2_with fail
 refine Calls.mono (HY.out w3) ?_;rintro e w4 ⟨rfl,hb4⟩
 replace B0:=B0.below hb4 B0.lt
 replace hW:=hW.trans (hb4.mono hW.size)
 clear hb4
 have B0_0:=B0.c0
 have B0_1:=B0.c1
 have B0_2:=B0.c2
 have B0_3:=B0.c3
 have B0_4:=B0.c4
 have B0_5:=B0.c5
 have B0_6:=B0.c6
 have B0_7:=B0.c7
 have B0_8:=B0.c8
 have B0_9:=B0.c9
 have B0_10:=B0.c10
 have B0_11:=B0.c11
 have B0_12:=B0.c12
 have B0_13:=B0.c13
 have B0_14:=B0.c14
 have B0_15:=B0.c15
 have B0_16:=B0.c16
 clear HY
 by_cases hy:cy < 0
 ·have hx2:decide (0 ≤ cy)=false:=decide_eq_false (by omega)
  replace hR:Hid (res=false):=Lib.hid (by rw [hR.out,hx2];simp)
  clear hx2
  go_wp2
  go_ret
  exact ⟨by rw [hR.out];rfl,(by repeat first | with_reducible (first | exact hW | apply below_drewN' | apply Below.drew | refine Below.alloc ?_ ?_ _ | refine Below.setCell ?_ ?_ _) | exact hW | omega | (simp <;> omega) | (have:=(hW).size;first | omega | (simp <;> omega)))⟩
 have hx2:decide (0 ≤ cx)=true:=decide_eq_true (by omega)
 have hy2:decide (0 ≤ cy)=true:=decide_eq_true (by omega)
 replace hR:Hid (res=(decide (cu=0) && decide (cv=0))):=Lib.hid (by rw [hR.out,hx2,hy2];simp)
 clear hx2 hy2
 go_wp2_with fail
 have ha:Below w.heap.size w (w4.alloc (.cells #[.int .i64 lud,.int .i64 lut,.int .i64 hud,.int .i64 hut] 26)):=hW.alloc hW.size _
 refine Calls.mono (HU.out _ _ _ ha (by first | rfl | trivial) (by simpa using Sl.fig2 w4 26 ⟨lud,lut⟩ ⟨hud,hut⟩ rfl)) ?_;rintro e w5 ⟨⟨v0,rfl⟩,hb5⟩
 replace B0:=(B0.alloc _).below hb5 (by have:=B0.lt;simp;omega)
 replace hW:=ha.trans (hb5.mono ha.size)
 clear hb5 ha HU
 have B0_0:=B0.c0
 have B0_1:=B0.c1
 have B0_2:=B0.c2
 have B0_3:=B0.c3
 have B0_4:=B0.c4
 have B0_5:=B0.c5
 have B0_6:=B0.c6
 have B0_7:=B0.c7
 have B0_8:=B0.c8
 have B0_9:=B0.c9
 have B0_10:=B0.c10
 have B0_11:=B0.c11
 have B0_12:=B0.c12
 have B0_13:=B0.c13
 have B0_14:=B0.c14
 have B0_15:=B0.c15
 have B0_16:=B0.c16
 go_wp2_with fail
 have ha:Below w.heap.size w (w5.alloc (.cells #[.int .i64 lvd,.int .i64 lvt,.int .i64 hvd,.int .i64 hvt] 26)):=hW.alloc hW.size _
 refine Calls.mono (HV.out _ _ _ ha (by first | rfl | trivial) (by simpa using Sl.fig2 w5 26 ⟨lvd,lvt⟩ ⟨hvd,hvt⟩ rfl)) ?_;rintro e w6 ⟨⟨v1,rfl⟩,hb5⟩
 replace B0:=(B0.alloc _).below hb5 (by have:=B0.lt;simp;omega)
 replace hW:=ha.trans (hb5.mono ha.size)
 clear hb5 ha HV
 rcases hcu.out with rfl | rfl <;> rcases hcv.out with rfl | rfl
 all_goals
  go_wp2
  go_ret
  exact ⟨by rw [hR.out];rfl,(by repeat first | with_reducible (first | exact hW | apply below_drewN' | apply Below.drew | refine Below.alloc ?_ ?_ _ | refine Below.setCell ?_ ?_ _) | exact hW | omega | (simp <;> omega) | (have:=(hW).size;first | omega | (simp <;> omega)))⟩
theorem implIsRelease_c (fd ft:Int) (s:ByteArray) (A:Option Addr) (c:Nat) (l:List Int) (wd lf rt:Int) (lu hu lv hv:Figure) (ey bo:Int) (w:World) (hsz:s.size ≤ 1048576) (hl:l.length ≤ 1048576) (hs:Sl w w.heap.size 1 A (l.map ic)) :
  Calls Tryz.prog 52 #[.agg #[.int .i64 fd,.int .i64 ft,.string s,.slice A l.length c,.int .i64 wd,.int .i64 lf,.int .i64 rt,.int .i64 lu.digits,.int .i64 lu.tens,.int .i64 hu.digits,.int .i64 hu.tens,.int .i64 lv.digits,.int .i64 lv.tens,.int .i64 hv.digits,.int .i64 hv.tens,.int .i64 ey,.int .i64 bo]] w fun e w'=>e=.returned (.bool (relB fd ft s l wd lf rt lu hu lv hv ey bo))∧Below w.heap.size w w':=by
 cases hc:chartB fd ft s l wd lf rt with
 | true =>
  obtain ⟨_,_,_,_,_,p0,p1,rfl,_,_⟩:=chart_parts hc
  obtain ⟨b,off,rfl,hb,hx⟩:=hs.at_ (i:=0) (by simp)
  obtain ⟨b1,off1,h1,_,hx1⟩:=hs.at_ (i:=1) (by simp)
  obtain ⟨rfl,rfl⟩:b=b1∧off=off1:=by simpa using h1
  exact implIsRelease1_c fd ft s b off c p0 p1 wd lf rt lu hu lv hv ey bo w hsz hs hb (by simpa using hx 0 _ rfl) (by simpa using hx1 0 _ rfl) hc
 | false =>
  rw [relB_no hc]
  have HC:=fun W (hW:Below w.heap.size w W)=>implIsChart_c fd ft s A c l wd lf rt W hsz hl ((hs.below hW).more hW.size)
  rw [hc] at HC
  replace HC:=Lib.hid HC
  clear hc hs
  have hW:Below w.heap.size w (w.alloc (.cells #[.int .i64 fd,.int .i64 ft,.string s,.slice A l.length c,.int .i64 wd,.int .i64 lf,.int .i64 rt,.int .i64 lu.digits,.int .i64 lu.tens,.int .i64 hu.digits,.int .i64 hu.tens,.int .i64 lv.digits,.int .i64 lv.tens,.int .i64 hv.digits,.int .i64 hv.tens,.int .i64 ey,.int .i64 bo] 33)):=(by repeat first | with_reducible (first | exact Below.refl _ _ | apply below_drewN' | apply Below.drew | refine Below.alloc ?_ ?_ _ | refine Below.setCell ?_ ?_ _) | exact Below.refl _ _ | omega | (simp <;> omega) | (have:=(Below.refl _ _).size;first | omega | (simp <;> omega)))
  have B0:=Blk.new w 33 #[.int .i64 fd,.int .i64 ft,.string s,.slice A l.length c,.int .i64 wd,.int .i64 lf,.int .i64 rt,.int .i64 lu.digits,.int .i64 lu.tens,.int .i64 hu.digits,.int .i64 hu.tens,.int .i64 lv.digits,.int .i64 lv.tens,.int .i64 hv.digits,.int .i64 hv.tens,.int .i64 ey,.int .i64 bo]
  go_enter Tryz.func52,Tryz.ntmps52
  go_wp2_with fail
  generalize w.alloc (.cells #[.int .i64 fd,.int .i64 ft,.string s,.slice A l.length c,.int .i64 wd,.int .i64 lf,.int .i64 rt,.int .i64 lu.digits,.int .i64 lu.tens,.int .i64 hu.digits,.int .i64 hu.tens,.int .i64 lv.digits,.int .i64 lv.tens,.int .i64 hv.digits,.int .i64 hv.tens,.int .i64 ey,.int .i64 bo] 33)=W at *
  refine Calls.mono (HC.out W hW) ?_;rintro e w1 ⟨rfl,hb1⟩
  replace B0:=B0.below hb1 B0.lt
  replace hW:=hW.trans (hb1.mono hW.size)
  clear hb1
  go_wp2
  go_ret
  exact ⟨rfl,(by repeat first | with_reducible (first | exact hW | apply below_drewN' | apply Below.drew | refine Below.alloc ?_ ?_ _ | refine Below.setCell ?_ ?_ _) | exact hW | omega | (simp <;> omega) | (have:=(hW).size;first | omega | (simp <;> omega)))⟩
theorem specIsRelease1_c (fd ft:Int) (s:ByteArray) (b off c:Nat) (p0 p1 wd lf rt:Int) (lu hu lv hv:Figure) (ey bo:Int) (w:World) (hsz:s.size ≤ 1048576) (hs:Sl w w.heap.size 1 (some ⟨b,off,none⟩) ([p0,p1].map ic)) (hb:b < w.heap.size) (c0:w.cell? ⟨b,off,none⟩=some (.int .i64 p0)) (c1:w.cell? ⟨b,off+1,none⟩=some (.int .i64 p1)) (hc:chartB fd ft s [p0,p1] wd lf rt=true) :
  Calls Tryz.prog 57 #[.agg #[.int .i64 fd,.int .i64 ft,.string s,.slice (some ⟨b,off,none⟩) 2 c,.int .i64 wd,.int .i64 lf,.int .i64 rt,.int .i64 lu.digits,.int .i64 lu.tens,.int .i64 hu.digits,.int .i64 hu.tens,.int .i64 lv.digits,.int .i64 lv.tens,.int .i64 hv.digits,.int .i64 hv.tens,.int .i64 ey,.int .i64 bo]] w fun e w'=>e=.returned (.bool (relB fd ft s [p0,p1] wd lf rt lu hu lv hv ey bo))∧Below w.heap.size w w':=by
 have hR:=relB_eq fd ft s p0 p1 wd lf rt lu hu lv hv ey bo
 rw [hc,Bool.true_and] at hR
 obtain ⟨_,_,hwd,hlf,hrt,q0,q1,hq,hp0,hp1⟩:=chart_parts hc
 obtain ⟨rfl,rfl⟩:p0=q0∧p1=q1:=by simpa using hq
 clear hq
 have HC:=fun W (hW:Below w.heap.size w W)=>specIsChart_c fd ft s (some ⟨b,off,none⟩) c [p0,p1] wd lf rt W hsz (by simp) ((hs.below hW).more hW.size)
 rw [hc] at HC
 have HF1:=fun W=>l02Two_c lu hu W
 have HF2:=fun W=>l02Two_c lv hv W
 have HE:=fun W=>l01In_c ey 0 200 W
 have HB:=fun W=>l01In_c bo 0 1048576 W
 have HX:=fun h1 h2 W=>l02Compare_c hu lu W h1 h2
 have HY:=fun h1 h2 W=>l02Compare_c hv lv W h1 h2
 have HU:=fun W A cc (hW:Below w.heap.size w W) hok hs'=>scalePoints_c fd ft s b off c p0 p1 wd lf rt 0 A cc [lu,hu] W (.inl rfl) hsz (by simp) (Nat.lt_of_lt_of_le hb hW.size) ((hW.cell hb).trans c0) ((hW.cell hb).trans c1) ((hs.below hW).more hW.size) hc hp0 hp1 hlf hrt hok hs'
 have HV:=fun W A cc (hW:Below w.heap.size w W) hok hs'=>scalePoints_c fd ft s b off c p0 p1 wd lf rt 1 A cc [lv,hv] W (.inr rfl) hsz (by simp) (Nat.lt_of_lt_of_le hb hW.size) ((hW.cell hb).trans c0) ((hW.cell hb).trans c1) ((hs.below hW).more hW.size) hc hp0 hp1 hlf hrt hok hs'
 rw [if_pos rfl] at HU
 rw [if_neg (by decide:¬ (1:Int)=0)] at HV
 simp only [all2] at HU HV
 have hcu:=@plCode_pts (lf * p0) [lu,hu]
 have hcv:=@plCode_pts (rt * p1) [lv,hv]
 generalize ptsCode (lf * p0) [lu,hu]=cu at *
 generalize ptsCode (rt * p1) [lv,hv]=cv at *
 clear hc hp0 hp1 hwd hlf hrt c0 c1 hs hsz
 generalize relB fd ft s [p0,p1] wd lf rt lu hu lv hv ey bo=res at *
 generalize hf0:figOK lu=f0 at *
 generalize hf1:figOK hu=f1 at *
 generalize hf2:figOK lv=f2 at *
 generalize hf3:figOK hv=f3 at *
 generalize inB ey 0 200=be at *
 generalize inB bo 0 1048576=bb at *
 generalize cmpF hu lu=cx at *
 generalize cmpF hv lv=cy at *
 replace hR:=Lib.hid hR
 replace hcu:=Lib.hid hcu
 replace hcv:=Lib.hid hcv
 clear hf0 hf1 hf2 hf3
 obtain ⟨lud,lut⟩:=lu
 obtain ⟨hud,hut⟩:=hu
 obtain ⟨lvd,lvt⟩:=lv
 obtain ⟨hvd,hvt⟩:=hv
 unfold Figure.agg at HX HY HF1 HF2
 simp only at *
 replace HF1:=Lib.hid HF1
 replace HF2:=Lib.hid HF2
 replace HC:=Lib.hid HC
 replace HE:=Lib.hid HE
 replace HB:=Lib.hid HB
 replace HX:=Lib.hid HX
 replace HY:=Lib.hid HY
 replace HU:=Lib.hid HU
 replace HV:=Lib.hid HV
 have hW:Below w.heap.size w (w.alloc (.cells #[.int .i64 fd,.int .i64 ft,.string s,.slice (some ⟨b,off,none⟩) 2 c,.int .i64 wd,.int .i64 lf,.int .i64 rt,.int .i64 lud,.int .i64 lut,.int .i64 hud,.int .i64 hut,.int .i64 lvd,.int .i64 lvt,.int .i64 hvd,.int .i64 hvt,.int .i64 ey,.int .i64 bo] 33)):=(by repeat first | with_reducible (first | exact Below.refl _ _ | apply below_drewN' | apply Below.drew | refine Below.alloc ?_ ?_ _ | refine Below.setCell ?_ ?_ _) | exact Below.refl _ _ | omega | (simp <;> omega) | (have:=(Below.refl _ _).size;first | omega | (simp <;> omega)))
 have B0:=Blk.new w 33 #[.int .i64 fd,.int .i64 ft,.string s,.slice (some ⟨b,off,none⟩) 2 c,.int .i64 wd,.int .i64 lf,.int .i64 rt,.int .i64 lud,.int .i64 lut,.int .i64 hud,.int .i64 hut,.int .i64 lvd,.int .i64 lvt,.int .i64 hvd,.int .i64 hvt,.int .i64 ey,.int .i64 bo]
 go_enter Tryz.func57,Tryz.ntmps57
 go_wp2_with fail
 generalize w.alloc (.cells #[.int .i64 fd,.int .i64 ft,.string s,.slice (some ⟨b,off,none⟩) 2 c,.int .i64 wd,.int .i64 lf,.int .i64 rt,.int .i64 lud,.int .i64 lut,.int .i64 hud,.int .i64 hut,.int .i64 lvd,.int .i64 lvt,.int .i64 hvd,.int .i64 hvt,.int .i64 ey,.int .i64 bo] 33)=W at *
 refine Calls.mono (HC.out W hW) ?_;rintro e w1 ⟨rfl,hb1⟩
 replace B0:=B0.below hb1 B0.lt
 replace hW:=hW.trans (hb1.mono hW.size)
 clear hb1
 clear HC
 have B0_0:=B0.c0
 have B0_1:=B0.c1
 have B0_2:=B0.c2
 have B0_3:=B0.c3
 have B0_4:=B0.c4
 have B0_5:=B0.c5
 have B0_6:=B0.c6
 have B0_7:=B0.c7
 have B0_8:=B0.c8
 have B0_9:=B0.c9
 have B0_10:=B0.c10
 have B0_11:=B0.c11
 have B0_12:=B0.c12
 have B0_13:=B0.c13
 have B0_14:=B0.c14
 have B0_15:=B0.c15
 have B0_16:=B0.c16
 go_wp2_with fail
 refine Calls.mono (HF1.out w1) ?_;rintro e w2 ⟨rfl,hb2⟩
 replace B0:=B0.below hb2 B0.lt
 replace hW:=hW.trans (hb2.mono hW.size)
 clear hb2
 have B0_0:=B0.c0
 have B0_1:=B0.c1
 have B0_2:=B0.c2
 have B0_3:=B0.c3
 have B0_4:=B0.c4
 have B0_5:=B0.c5
 have B0_6:=B0.c6
 have B0_7:=B0.c7
 have B0_8:=B0.c8
 have B0_9:=B0.c9
 have B0_10:=B0.c10
 have B0_11:=B0.c11
 have B0_12:=B0.c12
 have B0_13:=B0.c13
 have B0_14:=B0.c14
 have B0_15:=B0.c15
 have B0_16:=B0.c16
 clear HF1
 have ff:(f0 && f1)=true ∨ (f0 && f1)=false:=by cases (f0 && f1) <;> simp
 rcases ff with ff | ff
 case inr =>
  generalize (f0 && f1)=g at *
  subst ff
  go_wp2
  go_ret
  exact ⟨by rw [hR.out];simp,(by repeat first | with_reducible (first | exact hW | apply below_drewN' | apply Below.drew | refine Below.alloc ?_ ?_ _ | refine Below.setCell ?_ ?_ _) | exact hW | omega | (simp <;> omega) | (have:=(hW).size;first | omega | (simp <;> omega)))⟩
 obtain ⟨rfl,rfl⟩:f0=true∧f1=true:=by simpa using ff
 clear ff
 simp only [Bool.true_and] at *
 go_wp2_with fail
 refine Calls.mono (HF2.out w2) ?_;rintro e w2b ⟨rfl,hb2⟩
 replace B0:=B0.below hb2 B0.lt
 replace hW:=hW.trans (hb2.mono hW.size)
 clear hb2
 have B0_0:=B0.c0
 have B0_1:=B0.c1
 have B0_2:=B0.c2
 have B0_3:=B0.c3
 have B0_4:=B0.c4
 have B0_5:=B0.c5
 have B0_6:=B0.c6
 have B0_7:=B0.c7
 have B0_8:=B0.c8
 have B0_9:=B0.c9
 have B0_10:=B0.c10
 have B0_11:=B0.c11
 have B0_12:=B0.c12
 have B0_13:=B0.c13
 have B0_14:=B0.c14
 have B0_15:=B0.c15
 have B0_16:=B0.c16
 clear HF2
 have ff:(f2 && f3)=true ∨ (f2 && f3)=false:=by cases (f2 && f3) <;> simp
 rcases ff with ff | ff
 case inr =>
  generalize (f2 && f3)=g at *
  subst ff
  go_wp2
  go_ret
  exact ⟨by rw [hR.out];simp,(by repeat first | with_reducible (first | exact hW | apply below_drewN' | apply Below.drew | refine Below.alloc ?_ ?_ _ | refine Below.setCell ?_ ?_ _) | exact hW | omega | (simp <;> omega) | (have:=(hW).size;first | omega | (simp <;> omega)))⟩
 obtain ⟨rfl,rfl⟩:f2=true∧f3=true:=by simpa using ff
 clear ff
 replace hR:=Lib.hid hR.out
 rcases be with _ | _
 ·go_wp2_with (go_at_call 71;refine Calls.mono (HE.out _) ?_;rintro e w3 ⟨rfl,rfl⟩)
  go_ret
  exact ⟨by rw [hR.out];simp,(by repeat first | with_reducible (first | exact hW | apply below_drewN' | apply Below.drew | refine Below.alloc ?_ ?_ _ | refine Below.setCell ?_ ?_ _) | exact hW | omega | (simp <;> omega) | (have:=(hW).size;first | omega | (simp <;> omega)))⟩
 rcases bb with _ | _
 ·go_wp2_with (first | (go_at_call 71;with_reducible refine Calls.mono (HE.out _) ?_;rintro e w3 ⟨rfl,rfl⟩) | (go_at_call 71;with_reducible refine Calls.mono (HB.out _) ?_;rintro e w3 ⟨rfl,rfl⟩))
  go_ret
  exact ⟨by rw [hR.out];simp,(by repeat first | with_reducible (first | exact hW | apply below_drewN' | apply Below.drew | refine Below.alloc ?_ ?_ _ | refine Below.setCell ?_ ?_ _) | exact hW | omega | (simp <;> omega) | (have:=(hW).size;first | omega | (simp <;> omega)))⟩
 go_wp2_with (first | (go_at_call 71;with_reducible refine Calls.mono (HE.out _) ?_;rintro e w3 ⟨rfl,rfl⟩) | (go_at_call 71;with_reducible refine Calls.mono (HB.out _) ?_;rintro e w3 ⟨rfl,rfl⟩) | fail)
 refine Calls.mono (HX.out (by first | rfl | trivial) (by first | rfl | trivial) w2b) ?_;rintro e w3 ⟨rfl,hb3⟩
 replace B0:=B0.below hb3 B0.lt
 replace hW:=hW.trans (hb3.mono hW.size)
 clear hb3
 have B0_0:=B0.c0
 have B0_1:=B0.c1
 have B0_2:=B0.c2
 have B0_3:=B0.c3
 have B0_4:=B0.c4
 have B0_5:=B0.c5
 have B0_6:=B0.c6
 have B0_7:=B0.c7
 have B0_8:=B0.c8
 have B0_9:=B0.c9
 have B0_10:=B0.c10
 have B0_11:=B0.c11
 have B0_12:=B0.c12
 have B0_13:=B0.c13
 have B0_14:=B0.c14
 have B0_15:=B0.c15
 have B0_16:=B0.c16
 clear HX HE HB
 by_cases hx:cx < 0
 ·have hx2:decide (0 ≤ cx)=false:=decide_eq_false (by omega)
  replace hR:Hid (res=false):=Lib.hid (by rw [hR.out,hx2];simp)
  clear hx2
  go_wp2
  go_ret
  exact ⟨by rw [hR.out];rfl,(by repeat first | with_reducible (first | exact hW | apply below_drewN' | apply Below.drew | refine Below.alloc ?_ ?_ _ | refine Below.setCell ?_ ?_ _) | exact hW | omega | (simp <;> omega) | (have:=(hW).size;first | omega | (simp <;> omega)))⟩
 go_wp2_with fail
 refine Calls.mono (HY.out (by first | rfl | trivial) (by first | rfl | trivial) w3) ?_;rintro e w4 ⟨rfl,hb4⟩
 replace B0:=B0.below hb4 B0.lt
 replace hW:=hW.trans (hb4.mono hW.size)
 clear hb4
 have B0_0:=B0.c0
 have B0_1:=B0.c1
 have B0_2:=B0.c2
 have B0_3:=B0.c3
 have B0_4:=B0.c4
 have B0_5:=B0.c5
 have B0_6:=B0.c6
 have B0_7:=B0.c7
 have B0_8:=B0.c8
 have B0_9:=B0.c9
 have B0_10:=B0.c10
 have B0_11:=B0.c11
 have B0_12:=B0.c12
 have B0_13:=B0.c13
 have B0_14:=B0.c14
 have B0_15:=B0.c15
 have B0_16:=B0.c16
 clear HY
 by_cases hy:cy < 0
 ·have hx2:decide (0 ≤ cy)=false:=decide_eq_false (by omega)
  replace hR:Hid (res=false):=Lib.hid (by rw [hR.out,hx2];simp)
  clear hx2
  go_wp2
  go_ret
  exact ⟨by rw [hR.out];rfl,(by repeat first | with_reducible (first | exact hW | apply below_drewN' | apply Below.drew | refine Below.alloc ?_ ?_ _ | refine Below.setCell ?_ ?_ _) | exact hW | omega | (simp <;> omega) | (have:=(hW).size;first | omega | (simp <;> omega)))⟩
 have hx2:decide (0 ≤ cx)=true:=decide_eq_true (by omega)
 have hy2:decide (0 ≤ cy)=true:=decide_eq_true (by omega)
 replace hR:Hid (res=(decide (cu=0) && decide (cv=0))):=Lib.hid (by rw [hR.out,hx2,hy2];simp)
 clear hx2 hy2
 go_wp2_with fail
 have ha:Below w.heap.size w (w4.alloc (.cells #[.int .i64 lud,.int .i64 lut,.int .i64 hud,.int .i64 hut] 26)):=hW.alloc hW.size _
 refine Calls.mono (HU.out _ _ _ ha (by first | rfl | trivial) (by simpa using Sl.fig2 w4 26 ⟨lud,lut⟩ ⟨hud,hut⟩ rfl)) ?_;rintro e w5 ⟨⟨v0,rfl⟩,hb5⟩
 replace B0:=(B0.alloc _).below hb5 (by have:=B0.lt;simp;omega)
 replace hW:=ha.trans (hb5.mono ha.size)
 clear hb5 ha HU
 have B0_0:=B0.c0
 have B0_1:=B0.c1
 have B0_2:=B0.c2
 have B0_3:=B0.c3
 have B0_4:=B0.c4
 have B0_5:=B0.c5
 have B0_6:=B0.c6
 have B0_7:=B0.c7
 have B0_8:=B0.c8
 have B0_9:=B0.c9
 have B0_10:=B0.c10
 have B0_11:=B0.c11
 have B0_12:=B0.c12
 have B0_13:=B0.c13
 have B0_14:=B0.c14
 have B0_15:=B0.c15
 have B0_16:=B0.c16
 go_wp2_with fail
 have ha:Below w.heap.size w (w5.alloc (.cells #[.int .i64 lvd,.int .i64 lvt,.int .i64 hvd,.int .i64 hvt] 26)):=hW.alloc hW.size _
 refine Calls.mono (HV.out _ _ _ ha (by first | rfl | trivial) (by simpa using Sl.fig2 w5 26 ⟨lvd,lvt⟩ ⟨hvd,hvt⟩ rfl)) ?_;rintro e w6 ⟨⟨v1,rfl⟩,hb5⟩
 replace B0:=(B0.alloc _).below hb5 (by have:=B0.lt;simp;omega)
 replace hW:=ha.trans (hb5.mono ha.size)
 clear hb5 ha HV
 rcases hcu.out with rfl | rfl <;> rcases hcv.out with rfl | rfl
 all_goals
  go_wp2
  go_ret
  exact ⟨by rw [hR.out];rfl,(by repeat first | with_reducible (first | exact hW | apply below_drewN' | apply Below.drew | refine Below.alloc ?_ ?_ _ | refine Below.setCell ?_ ?_ _) | exact hW | omega | (simp <;> omega) | (have:=(hW).size;first | omega | (simp <;> omega)))⟩
theorem specIsRelease_c (fd ft:Int) (s:ByteArray) (A:Option Addr) (c:Nat) (l:List Int) (wd lf rt:Int) (lu hu lv hv:Figure) (ey bo:Int) (w:World) (hsz:s.size ≤ 1048576) (hl:l.length ≤ 1048576) (hs:Sl w w.heap.size 1 A (l.map ic)) :
  Calls Tryz.prog 57 #[.agg #[.int .i64 fd,.int .i64 ft,.string s,.slice A l.length c,.int .i64 wd,.int .i64 lf,.int .i64 rt,.int .i64 lu.digits,.int .i64 lu.tens,.int .i64 hu.digits,.int .i64 hu.tens,.int .i64 lv.digits,.int .i64 lv.tens,.int .i64 hv.digits,.int .i64 hv.tens,.int .i64 ey,.int .i64 bo]] w fun e w'=>e=.returned (.bool (relB fd ft s l wd lf rt lu hu lv hv ey bo))∧Below w.heap.size w w':=by
 cases hc:chartB fd ft s l wd lf rt with
 | true =>
  obtain ⟨_,_,_,_,_,p0,p1,rfl,_,_⟩:=chart_parts hc
  obtain ⟨b,off,rfl,hb,hx⟩:=hs.at_ (i:=0) (by simp)
  obtain ⟨b1,off1,h1,_,hx1⟩:=hs.at_ (i:=1) (by simp)
  obtain ⟨rfl,rfl⟩:b=b1∧off=off1:=by simpa using h1
  exact specIsRelease1_c fd ft s b off c p0 p1 wd lf rt lu hu lv hv ey bo w hsz hs hb (by simpa using hx 0 _ rfl) (by simpa using hx1 0 _ rfl) hc
 | false =>
  rw [relB_no hc]
  have HC:=fun W (hW:Below w.heap.size w W)=>specIsChart_c fd ft s A c l wd lf rt W hsz hl ((hs.below hW).more hW.size)
  rw [hc] at HC
  replace HC:=Lib.hid HC
  clear hc hs
  have hW:Below w.heap.size w (w.alloc (.cells #[.int .i64 fd,.int .i64 ft,.string s,.slice A l.length c,.int .i64 wd,.int .i64 lf,.int .i64 rt,.int .i64 lu.digits,.int .i64 lu.tens,.int .i64 hu.digits,.int .i64 hu.tens,.int .i64 lv.digits,.int .i64 lv.tens,.int .i64 hv.digits,.int .i64 hv.tens,.int .i64 ey,.int .i64 bo] 33)):=(by repeat first | with_reducible (first | exact Below.refl _ _ | apply below_drewN' | apply Below.drew | refine Below.alloc ?_ ?_ _ | refine Below.setCell ?_ ?_ _) | exact Below.refl _ _ | omega | (simp <;> omega) | (have:=(Below.refl _ _).size;first | omega | (simp <;> omega)))
  have B0:=Blk.new w 33 #[.int .i64 fd,.int .i64 ft,.string s,.slice A l.length c,.int .i64 wd,.int .i64 lf,.int .i64 rt,.int .i64 lu.digits,.int .i64 lu.tens,.int .i64 hu.digits,.int .i64 hu.tens,.int .i64 lv.digits,.int .i64 lv.tens,.int .i64 hv.digits,.int .i64 hv.tens,.int .i64 ey,.int .i64 bo]
  go_enter Tryz.func57,Tryz.ntmps57
  go_wp2_with fail
  generalize w.alloc (.cells #[.int .i64 fd,.int .i64 ft,.string s,.slice A l.length c,.int .i64 wd,.int .i64 lf,.int .i64 rt,.int .i64 lu.digits,.int .i64 lu.tens,.int .i64 hu.digits,.int .i64 hu.tens,.int .i64 lv.digits,.int .i64 lv.tens,.int .i64 hv.digits,.int .i64 hv.tens,.int .i64 ey,.int .i64 bo] 33)=W at *
  refine Calls.mono (HC.out W hW) ?_;rintro e w1 ⟨rfl,hb1⟩
  replace B0:=B0.below hb1 B0.lt
  replace hW:=hW.trans (hb1.mono hW.size)
  clear hb1
  go_wp2
  go_ret
  exact ⟨rfl,(by repeat first | with_reducible (first | exact hW | apply below_drewN' | apply Below.drew | refine Below.alloc ?_ ?_ _ | refine Below.setCell ?_ ?_ _) | exact hW | omega | (simp <;> omega) | (have:=(hW).size;first | omega | (simp <;> omega)))⟩
end Go.Proofs.YtednjmldjbndhaaGreatDoor
