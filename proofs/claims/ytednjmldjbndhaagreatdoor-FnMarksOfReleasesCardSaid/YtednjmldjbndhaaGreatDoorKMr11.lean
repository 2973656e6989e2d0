/- Places on a chart's scales: the reference's. Conditions: the chart and the figure are valid. -/
import Derived.Test.YtednjmldjbndhaaGreatDoorKMr10
set_option linter.unusedSimpArgs false
set_option linter.unusedVariables false
set_option maxRecDepth 100000
set_option maxHeartbeats 8000000
namespace Go.Proofs.YtednjmldjbndhaaGreatDoor
open Go.RowKit
structure CpS (V:World) (b:Bool) (v9:Value) (v:World):Prop where
 hb:Below V.heap.size V v
 bl:b=true→∃ g,v9=.pointer (some ⟨g,0,none⟩)∧V.heap.size ≤ g∧Blk v g 149 #[.int .i64 0,.int .i64 0]
theorem CpS.below {V v v':World} {b:Bool} {v9:Value} (h:CpS V b v9 v) (hb:Below v.heap.size v v'):CpS V b v9 v' :=
 ⟨h.hb.trans (hb.mono h.hb.size),fun e=>let ⟨g,h1,h2,h3⟩:=h.bl e;⟨g,h1,h2,h3.below hb h3.lt⟩⟩
theorem CpS.new {V v:World} {b:Bool} {v9:Value} (h:CpS V b v9 v):CpS V true (.pointer (some ⟨v.heap.size,0,none⟩)) (v.alloc (.cells #[.int .i64 0,.int .i64 0] 149)) :=
 ⟨h.hb.alloc h.hb.size _,fun _=>⟨_,rfl,h.hb.size,Blk.new _ _ _⟩⟩
theorem specChartPlace_c (fd ft:Int) (s:ByteArray) (b off c:Nat) (p0 p1 wd lf rt k:Int) (f:Figure) (w:World) (hk:k=0 ∨ k=1) (hsz:s.size ≤ 1048576) (hb:b < w.heap.size) (c0:w.cell? ⟨b,off,none⟩=some (.int .i64 p0)) (c1:w.cell? ⟨b,off+1,none⟩=some (.int .i64 p1))
  (hs:Sl w w.heap.size 1 (some ⟨b,off,none⟩) ([p0,p1].map ic)) (hc:chartB fd ft s [p0,p1] wd lf rt=true) (hf:figOK f=true)
  (hp0:-6 ≤ p0∧p0 ≤ 6) (hp1:-6 ≤ p1∧p1 ≤ 6) (hlf:100 ≤ lf∧lf ≤ 20000) (hrt:100 ≤ rt∧rt ≤ 20000) :
  Calls Tryz.prog 137 #[.agg #[.int .i64 fd,.int .i64 ft,.string s,.slice (some ⟨b,off,none⟩) 2 c,.int .i64 wd,.int .i64 lf,.int .i64 rt],.int .i64 k,f.agg] w fun e w'=>e=.returned (.tuple #[.agg #[.int .i64 (pl2 (if k=0 then lf * p0 else rt * p1) f).1,.int .i64 (pl2 (if k=0 then lf * p0 else rt * p1) f).2],.int .i64 (plCode (if k=0 then lf * p0 else rt * p1) f)])∧Below w.heap.size w w':=by
 have hW:Below w.heap.size w (((w.alloc (.cells #[.int .i64 fd,.int .i64 ft,.string s,.slice (some ⟨b,off,none⟩) 2 c,.int .i64 wd,.int .i64 lf,.int .i64 rt] 31)).alloc (.cells #[.int .i64 f.digits,.int .i64 f.tens] 26)).alloc (.cells #[.int .i64 0,.int .i64 0] 149)):=(by repeat first | with_reducible (first | exact Below.refl _ _ | apply below_drewN' | apply Below.drew | refine Below.alloc ?_ ?_ _ | refine Below.setCell ?_ ?_ _) | exact Below.refl _ _ | omega | (simp <;> omega) | (have:=(Below.refl _ _).size;first | omega | (simp <;> omega)))
 have HC:=l23Code_c fd ft s (some ⟨b,off,none⟩) c [p0,p1] wd lf rt k f _ hk hsz (by simp) ((hs.below hW).more hW.size) hc hf
 have HL:=fun W=>l23Log_c fd ft s (some ⟨b,off,none⟩) 2 c wd lf rt k f W hk (fig_bd hf)
 have HS:=fun W h1 h2 h3=>l23Scale_c fd ft s b off c p0 p1 wd lf rt k (figLo f.digits f.tens) (figHi f.digits f.tens) W hk h1 h2 h3 hp0 hp1 hlf hrt (figLo_bd (fig_bd hf).1 (fig_bd hf).2)
 generalize (if k=0 then lf * p0 else rt * p1)=n at *
 generalize hx1:(pl2 n f).1=X1
 generalize hx2:(pl2 n f).2=X2
 generalize hx3:plCode n f=X3
 have hX:Hid ((pl2 n f).1=X1∧(pl2 n f).2=X2∧plCode n f=X3):=⟨hx1,hx2,hx3⟩
 clear hx1 hx2 hx3 hc hf hs hsz hk
 unfold pl2 plCode at hX
 generalize figLo f.digits f.tens=lo at *
 generalize figHi f.digits f.tens=hi at *
 generalize plLo n lo hi=x at *
 generalize plHi n lo hi=y at *
 have HX:=fun W=>l22Place_c x W
 have HY:=fun W=>l22Place_c y W
 unfold Figure.agg at HC HL ⊢
 simp only [List.length_cons,List.length_nil,Nat.zero_add,Nat.reduceAdd] at HC
 replace HC:=Lib.hid HC
 replace HL:=fun W=>Lib.hid (HL W)
 replace HS:=fun W h1 h2 h3=>Lib.hid (HS W h1 h2 h3)
 have B0:=((Blk.new w 31 #[.int .i64 fd,.int .i64 ft,.string s,.slice (some ⟨b,off,none⟩) 2 c,.int .i64 wd,.int .i64 lf,.int .i64 rt]).alloc (.cells #[.int .i64 f.digits,.int .i64 f.tens] 26)).alloc (.cells #[.int .i64 0,.int .i64 0] 149)
 have B1:=(Blk.new' (w.alloc (.cells #[.int .i64 fd,.int .i64 ft,.string s,.slice (some ⟨b,off,none⟩) 2 c,.int .i64 wd,.int .i64 lf,.int .i64 rt] 31)) 26 #[.int .i64 f.digits,.int .i64 f.tens] (g:=w.heap.size+1) (by simp)).alloc (.cells #[.int .i64 0,.int .i64 0] 149)
 have B2:=Blk.new' ((w.alloc (.cells #[.int .i64 fd,.int .i64 ft,.string s,.slice (some ⟨b,off,none⟩) 2 c,.int .i64 wd,.int .i64 lf,.int .i64 rt] 31)).alloc (.cells #[.int .i64 f.digits,.int .i64 f.tens] 26)) 149 #[.int .i64 0,.int .i64 0] (g:=w.heap.size+1+1) (by simp)
 go_enter Tryz.func137,Tryz.ntmps137
 go_wp2_with fail
 refine Calls.mono HC.out ?_;rintro e w1 ⟨rfl,hb1⟩
 have hW1:=hW.trans (hb1.mono hW.size)
 have D0:=B0.below hb1 B0.lt
 have D1:=B1.below hb1 B1.lt
 have D2:=B2.below hb1 B2.lt
 have x0:w1.cell? ⟨b,off,none⟩=some (.int .i64 p0):=by rw [hW1.cell hb];exact c0
 have x1:w1.cell? ⟨b,off+1,none⟩=some (.int .i64 p1):=by rw [hW1.cell hb];exact c1
 have hb3:b < w1.heap.size:=Nat.lt_of_lt_of_le hb hW1.size
 clear B0 B1 B2 HC hW hb1 c0 c1
 go_wp2_with fail
 refine wp_region_sink 8 (fun a0 fL bA v=>∃ v18 v19 v20 v21 v22 v23 v24 v9:Value,bA=(((((((a0.put (some 18) v18).put (some 19) v19).put (some 20) v20).put (some 21) v21).put (some 22) v22).put (some 23) v23).put (some 24) v24).put (some 9) v9∧(CpS w1 (fL 7) v9 v)∧(fL 0=true→v18=.agg #[.int .i64 fd,.int .i64 ft,.string s,.slice (some ⟨b,off,none⟩) 2 c,.int .i64 wd,.int .i64 lf,.int .i64 rt])∧(fL 1=true→v19=.int .i64 k)∧(fL 2=true→v20=.agg #[.int .i64 fd,.int .i64 ft,.string s,.slice (some ⟨b,off,none⟩) 2 c,.int .i64 wd,.int .i64 lf,.int .i64 rt])∧(fL 3=true→v21=.int .i64 k)∧(fL 4=true→v22=.agg #[.int .i64 f.digits,.int .i64 f.tens])∧(fL 5=true→v23=.agg #[.int .i64 lo,.int .i64 hi])∧(fL 6=true→v24=.agg #[.int .i64 x,.int .i64 y])∧(fL 7=true→True)) (by kernel_rfl) (by decide +kernel) ?_ ?_ ?_
 ·exact ⟨undef,undef,undef,undef,undef,undef,undef,undef,by simp only [Act.put,List.setIfInBounds_toArray,List.set_cons_zero,List.set_cons_succ],⟨(Below.refl _ _).drew,nofun⟩,nofun,nofun,nofun,nofun,nofun,nofun,nofun,nofun⟩
 ·rintro fL bA v ⟨v18,v19,v20,v21,v22,v23,v24,v9,rfl,hS,q0,q1,q2,q3,q4,q5,q6,q7⟩ i hi hf o ho hall
  simp only [Act.put,List.setIfInBounds_toArray,List.set_cons_zero,List.set_cons_succ]
  have hn:i=0 ∨ i=1 ∨ i=2 ∨ i=3 ∨ i=4 ∨ i=5 ∨ i=6 ∨ i=7:=by omega
  clear hi
  rcases hn with rfl | rfl | rfl | rfl | rfl | rfl | rfl | rfl
  ·obtain rfl:=Option.some.inj ho
   have F:=D0.below hS.hb D0.lt
   have y0:v.cell? ⟨w.heap.size,0,none⟩=some (.int .i64 fd):=F.cell 0
   have y1:v.cell? ⟨w.heap.size,1,none⟩=some (.int .i64 ft):=F.cell 1
   have y2:v.cell? ⟨w.heap.size,2,none⟩=some (.string s):=F.cell 2
   have y3:v.cell? ⟨w.heap.size,3,none⟩=some (.slice (some ⟨b,off,none⟩) 2 c):=F.cell 3
   have y4:v.cell? ⟨w.heap.size,4,none⟩=some (.int .i64 wd):=F.cell 4
   have y5:v.cell? ⟨w.heap.size,5,none⟩=some (.int .i64 lf):=F.cell 5
   have y6:v.cell? ⟨w.heap.size,6,none⟩=some (.int .i64 rt):=F.cell 6
   clear hall ho
   refine wpOp_step rfl (fun K hK=>?_)
   go_simp
   exact hK _ _ ⟨_,_,_,_,_,_,_,_,rfl,hS,fun _=>rfl,q1,q2,q3,q4,q5,q6,fun _=>trivial⟩
  ·obtain rfl:=Option.some.inj ho
   clear hall ho
   refine wpOp_step rfl (fun K hK=>?_)
   go_simp
   exact hK _ _ ⟨_,_,_,_,_,_,_,_,rfl,hS,q0,fun _=>rfl,q2,q3,q4,q5,q6,fun _=>trivial⟩
  ·obtain rfl:=Option.some.inj ho
   have F:=D0.below hS.hb D0.lt
   have y0:v.cell? ⟨w.heap.size,0,none⟩=some (.int .i64 fd):=F.cell 0
   have y1:v.cell? ⟨w.heap.size,1,none⟩=some (.int .i64 ft):=F.cell 1
   have y2:v.cell? ⟨w.heap.size,2,none⟩=some (.string s):=F.cell 2
   have y3:v.cell? ⟨w.heap.size,3,none⟩=some (.slice (some ⟨b,off,none⟩) 2 c):=F.cell 3
   have y4:v.cell? ⟨w.heap.size,4,none⟩=some (.int .i64 wd):=F.cell 4
   have y5:v.cell? ⟨w.heap.size,5,none⟩=some (.int .i64 lf):=F.cell 5
   have y6:v.cell? ⟨w.heap.size,6,none⟩=some (.int .i64 rt):=F.cell 6
   clear hall ho
   refine wpOp_step rfl (fun K hK=>?_)
   go_simp
   exact hK _ _ ⟨_,_,_,_,_,_,_,_,rfl,hS,q0,q1,fun _=>rfl,q3,q4,q5,q6,fun _=>trivial⟩
  ·obtain rfl:=Option.some.inj ho
   clear hall ho
   refine wpOp_step rfl (fun K hK=>?_)
   go_simp
   exact hK _ _ ⟨_,_,_,_,_,_,_,_,rfl,hS,q0,q1,q2,fun _=>rfl,q4,q5,q6,fun _=>trivial⟩
  ·obtain rfl:=Option.some.inj ho
   have F:=D1.below hS.hb D1.lt
   have y0:v.cell? ⟨w.heap.size+1,0,none⟩=some (.int .i64 f.digits):=F.cell 0
   have y1:v.cell? ⟨w.heap.size+1,1,none⟩=some (.int .i64 f.tens):=F.cell 1
   clear hall ho
   refine wpOp_step rfl (fun K hK=>?_)
   go_simp
   exact hK _ _ ⟨_,_,_,_,_,_,_,_,rfl,hS,q0,q1,q2,q3,fun _=>rfl,q5,q6,fun _=>trivial⟩
  ·obtain rfl:=Option.some.inj ho
   obtain rfl:=q2 (hall ⟨2,.data⟩ (by simp) rfl)
   obtain rfl:=q3 (hall ⟨3,.data⟩ (by simp) rfl)
   obtain rfl:=q4 (hall ⟨4,.data⟩ (by simp) rfl)
   clear hall ho
   refine wpOp_step rfl (fun K hK=>?_)
   go_simp
   refine Calls.mono ((HL v).out) ?_;rintro e w1 ⟨rfl,hb1⟩
   go_simp
   exact hK _ _ ⟨_,_,_,_,_,_,_,_,rfl,hS.below hb1,q0,q1,fun _=>rfl,fun _=>rfl,fun _=>rfl,fun _=>rfl,q6,fun _=>trivial⟩
  ·obtain rfl:=Option.some.inj ho
   obtain rfl:=q0 (hall ⟨0,.data⟩ (by simp) rfl)
   obtain rfl:=q1 (hall ⟨1,.data⟩ (by simp) rfl)
   obtain rfl:=q5 (hall ⟨5,.data⟩ (by simp) rfl)
   clear hall ho
   refine wpOp_step rfl (fun K hK=>?_)
   go_simp
   refine Calls.mono ((HS v (Nat.lt_of_lt_of_le hb3 hS.hb.size) (by rw [hS.hb.cell hb3];exact x0) (by rw [hS.hb.cell hb3];exact x1)).out) ?_;rintro e w1 ⟨rfl,hb1⟩
   go_simp
   exact hK _ _ ⟨_,_,_,_,_,_,_,_,rfl,hS.below hb1,fun _=>rfl,fun _=>rfl,q2,q3,q4,fun _=>rfl,fun _=>rfl,fun _=>trivial⟩
  ·obtain rfl:=Option.some.inj ho
   clear hall ho
   refine wpOp_step rfl (fun K hK=>?_)
   go_simp
   exact hK _ _ ⟨_,_,_,_,_,_,_,_,rfl,hS.new,q0,q1,q2,q3,q4,q5,q6,fun _=>trivial⟩
 ·rintro fL bA v ⟨v18,v19,v20,v21,v22,v23,v24,v9,rfl,hS,q0,q1,q2,q3,q4,q5,q6,q7⟩ hall
  simp only [Act.put,List.setIfInBounds_toArray,List.set_cons_zero,List.set_cons_succ]
  obtain rfl:=q0 (hall 0 (by omega))
  obtain rfl:=q1 (hall 1 (by omega))
  obtain rfl:=q2 (hall 2 (by omega))
  obtain rfl:=q3 (hall 3 (by omega))
  obtain rfl:=q4 (hall 4 (by omega))
  obtain rfl:=q5 (hall 5 (by omega))
  obtain rfl:=q6 (hall 6 (by omega))
  have e7:fL 7=true:=hall 7 (by omega)
  clear hall
  simp only [List.drop_succ_cons,List.drop_zero]
  obtain ⟨g,rfl,hg,hB⟩:=hS.bl e7
  have hS':=hS.hb
  have E2:=D2.below hS' D2.lt
  have hW2:=hW1.trans (hS'.mono hW1.size)
  have z2:=D2.lt
  have zz:w.heap.size ≤ g:=Nat.le_trans hW1.size hg
  have E3:=(E2.far (p:=⟨g,0,none⟩) (by first | omega | (simp;omega) | simp) (.int .i64 x)).far (p:=⟨g,1,none⟩) (by first | omega | (simp;omega) | simp) (.int .i64 y)
  have F3:=(hB.set_ 0 (.int .i64 x)).set_ 1 (.int .i64 y)
  have hW3:Below w.heap.size w ((v.setCell ⟨g,0,none⟩ (.int .i64 x)).setCell ⟨g,1,none⟩ (.int .i64 y)):=(by repeat first | with_reducible (first | exact hW2 | apply below_drewN' | apply Below.drew | refine Below.alloc ?_ ?_ _ | refine Below.setCell ?_ ?_ _) | exact hW2 | omega | (simp <;> omega) | (have:=(hW2).size;first | omega | (simp <;> omega)))
  have b0:v.cell? ⟨g,0,none⟩=some (.int .i64 0):=hB.cell 0
  have b1:v.cell? ⟨g,1,none⟩=some (.int .i64 0):=hB.cell 1
  have bf0:v.frozen? ⟨g,0,none⟩=false:=hB.frozen 0
  have bf1:v.frozen? ⟨g,1,none⟩=false:=hB.frozen 1
  go_wp2_with fail
  generalize (v.setCell ⟨g,0,none⟩ (.int .i64 x)).setCell ⟨g,1,none⟩ (.int .i64 y)=V at *
  have r0:V.cell? ⟨w.heap.size+1+1,0,none⟩=some (.int .i64 0):=E3.cell 0
  have r1:V.cell? ⟨w.heap.size+1+1,1,none⟩=some (.int .i64 0):=E3.cell 1
  have rf0:V.frozen? ⟨w.heap.size+1+1,0,none⟩=false:=E3.frozen 0
  have rf1:V.frozen? ⟨w.heap.size+1+1,1,none⟩=false:=E3.frozen 1
  have j0:V.cell? ⟨g,0,none⟩=some (.int .i64 x):=F3.cell 0
  have j1:V.cell? ⟨g,1,none⟩=some (.int .i64 y):=F3.cell 1
  clear D0 D1 D2 hW1 hS hS' HL HS x0 x1 b0 b1 bf0 bf1 hB E2 hW2
  cases hx:inB x (-100000) 100000 with
  | false =>
   simp only [hx] at HX
   replace HX:=fun W=>Lib.hid (HX W)
   go_wp2_with (go_at_call 154;refine (HX _).out.mono ?_;rintro e w5 ⟨rfl,rfl⟩)
   refine bodyPost_ret (v:=.tuple #[.agg #[.int .i64 0,.int .i64 0],.int .i64 3]) (by simp [results,Tryz.results137,go_sem,r0,r1]) rfl ⟨?_,(by repeat first | with_reducible (first | exact hW3 | apply below_drewN' | apply Below.drew | refine Below.alloc ?_ ?_ _ | refine Below.setCell ?_ ?_ _) | exact hW3 | omega | (simp <;> omega) | (have:=(hW3).size;first | omega | (simp <;> omega)))⟩
   obtain ⟨u1,u2,u3⟩:=hX.out
   simp [hx] at u1 u2 u3
   rw [← u1,← u2,← u3]
  | true =>
   simp only [hx] at HX
   replace HX:=fun W=>Lib.hid (HX W)
   cases hy:inB y (-100000) 100000 with
   | false =>
    simp only [hy] at HY
    replace HY:=fun W=>Lib.hid (HY W)
    go_wp2_with (first | (go_at_call 154;refine (HX _).out.mono ?_;rintro e w5 ⟨rfl,rfl⟩) | (go_at_call 154;refine (HY _).out.mono ?_;rintro e w5 ⟨rfl,rfl⟩))
    refine bodyPost_ret (v:=.tuple #[.agg #[.int .i64 0,.int .i64 0],.int .i64 3]) (by simp [results,Tryz.results137,go_sem,r0,r1]) rfl ⟨?_,(by repeat first | with_reducible (first | exact hW3 | apply below_drewN' | apply Below.drew | refine Below.alloc ?_ ?_ _ | refine Below.setCell ?_ ?_ _) | exact hW3 | omega | (simp <;> omega) | (have:=(hW3).size;first | omega | (simp <;> omega)))⟩
    obtain ⟨u1,u2,u3⟩:=hX.out
    simp [hx,hy] at u1 u2 u3
    rw [← u1,← u2,← u3]
   | true =>
    simp only [hy] at HY
    replace HY:=fun W=>Lib.hid (HY W)
    go_wp2_with (first | (go_at_call 154;refine (HX _).out.mono ?_;rintro e w5 ⟨rfl,rfl⟩) | (go_at_call 154;refine (HY _).out.mono ?_;rintro e w5 ⟨rfl,rfl⟩))
    refine bodyPost_ret (v:=.tuple #[.agg #[.int .i64 x,.int .i64 y],.int .i64 0]) (by simp [results,Tryz.results137,go_sem,r0,r1]) rfl ⟨?_,(by repeat first | with_reducible (first | exact hW3 | apply below_drewN' | apply Below.drew | refine Below.alloc ?_ ?_ _ | refine Below.setCell ?_ ?_ _) | exact hW3 | omega | (simp <;> omega) | (have:=(hW3).size;first | omega | (simp <;> omega)))⟩
    obtain ⟨u1,u2,u3⟩:=hX.out
    simp [hx,hy] at u1 u2 u3
    rw [← u1,← u2,← u3]
end Go.Proofs.YtednjmldjbndhaaGreatDoor
