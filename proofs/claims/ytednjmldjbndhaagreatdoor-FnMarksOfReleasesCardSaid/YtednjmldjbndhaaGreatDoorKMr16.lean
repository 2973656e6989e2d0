/- The points of a list of figures on a chart's scale: the reference's. Conditions: the chart and the figures are valid. -/
import Derived.Test.YtednjmldjbndhaaGreatDoorKMr10
import Derived.Test.YtednjmldjbndhaaGreatDoorKMr15
set_option linter.unusedSimpArgs false
set_option linter.unusedVariables false
set_option maxRecDepth 100000
set_option maxHeartbeats 8000000
namespace Go.Proofs.YtednjmldjbndhaaGreatDoor
open Go.RowKit
structure ScS (V:World) (T:TypeId) (b10 b11:Bool) (x y:Int) (v12:Value) (v:World):Prop where
 hb:Below V.heap.size V v
 k:b11=true→b10=true
 q0:b10=true→b11=false→∃ g,v12=.pointer (some ⟨g,0,none⟩)∧V.heap.size ≤ g∧Blk v g T #[.int .i64 0,.int .i64 0]
 q1:b11=true→∃ g,v12=.pointer (some ⟨g,0,none⟩)∧V.heap.size ≤ g∧Blk v g T #[.int .i64 x,.int .i64 y]
section
variable {V v v' : World} {T : TypeId} {b10 b11 : Bool} {x y : Int} {v12 : Value}
theorem ScS.init:ScS V T false false x y v12 V.drew:=⟨(Below.refl _ _).drew,nofun,nofun,nofun⟩
theorem ScS.below (h:ScS V T b10 b11 x y v12 v) (hb:Below v.heap.size v v'):ScS V T b10 b11 x y v12 v' :=
 ⟨h.hb.trans (hb.mono h.hb.size),h.k,fun e f=>let ⟨g,h1,h2,h3⟩:=h.q0 e f;⟨g,h1,h2,h3.below hb h3.lt⟩,fun e=>let ⟨g,h1,h2,h3⟩:=h.q1 e;⟨g,h1,h2,h3.below hb h3.lt⟩⟩
theorem ScS.new (h:ScS V T b10 b11 x y v12 v) (h0:b10=false):ScS V T true b11 x y (.pointer (some ⟨v.heap.size,0,none⟩)) (v.alloc (.cells #[.int .i64 0,.int .i64 0] T)) :=
 ⟨h.hb.alloc h.hb.size _,fun _=>rfl,fun _ _=>⟨_,rfl,h.hb.size,Blk.new _ _ _⟩,fun e=>absurd (h.k e) (by rw [h0];simp)⟩
theorem ScS.st {g:Nat} (h:ScS V T b10 b11 x y (.pointer (some ⟨g,0,none⟩)) v) (h10:b10=true) (hg:V.heap.size ≤ g) (B:Blk v g T #[.int .i64 0,.int .i64 0]) :
  ScS V T b10 true x y (.pointer (some ⟨g,0,none⟩)) ((v.setCell ⟨g,0,none⟩ (.int .i64 x)).setCell ⟨g,1,none⟩ (.int .i64 y)) :=
 ⟨(h.hb.setCell hg _).setCell hg _,fun _=>h10,fun _ f=>absurd f (by simp),fun _=>⟨g,rfl,hg,(B.set_ 0 _).set_ 1 _⟩⟩
end
theorem scalePoints_c (fd ft:Int) (s:ByteArray) (b off c:Nat) (p0 p1 wd lf rt k:Int) (A:Option Addr) (cc:Nat) (F:List Figure) (w:World) (hk01:k=0 ∨ k=1) (hsz:s.size ≤ 1048576) (hF:F.length ≤ 100) (hb:b < w.heap.size) (c0:w.cell? ⟨b,off,none⟩=some (.int .i64 p0)) (c1:w.cell? ⟨b,off+1,none⟩=some (.int .i64 p1))
  (hs0:Sl w w.heap.size 1 (some ⟨b,off,none⟩) ([p0,p1].map ic)) (hc:chartB fd ft s [p0,p1] wd lf rt=true)
  (hp0:-6 ≤ p0∧p0 ≤ 6) (hp1:-6 ≤ p1∧p1 ≤ 6) (hlf:100 ≤ lf∧lf ≤ 20000) (hrt:100 ≤ rt∧rt ≤ 20000) (hok:F.all figOK=true) (hs:Sl w w.heap.size 2 A (F.map Figure.cells)) :
  Calls Tryz.prog 89 #[.agg #[.int .i64 fd,.int .i64 ft,.string s,.slice (some ⟨b,off,none⟩) 2 c,.int .i64 wd,.int .i64 lf,.int .i64 rt],.int .i64 k,.slice A F.length cc] w fun e w'=>(∃ v,e=.returned (.tuple #[v,.int .i64 (ptsCode (if k=0 then lf * p0 else rt * p1) F)]))∧Below w.heap.size w w':=by
 have HP:=Lib.hid (fun f hf W (hW:Below w.heap.size w W)=>specChartPoint_c fd ft s b off c p0 p1 wd lf rt k f W hk01 hsz (Nat.lt_of_lt_of_le hb hW.size) ((hW.cell hb).trans c0) ((hW.cell hb).trans c1) ((hs0.below hW).more hW.size) hc hf hp0 hp1 hlf hrt)
 have HL:=Lib.hid (fun W (hW:Below w.heap.size w W)=>l23Code_c fd ft s (some ⟨b,off,none⟩) c [p0,p1] wd lf rt k ⟨1000,0⟩ W hk01 hsz (by simp) ((hs0.below hW).more hW.size) hc (by decide))
 have HI:=Lib.hid (fun f W=>specIsFigure_c f W)
 have hCA:=@ptsCode_all (if k=0 then lf * p0 else rt * p1) F
 have hCN:=fun f hf=>@ptsCode_no (if k=0 then lf * p0 else rt * p1) F f hf
 generalize ptsCode (if k=0 then lf * p0 else rt * p1) F=code at *
 generalize (if k=0 then lf * p0 else rt * p1)=n at *
 unfold Figure.agg at HP HL HI
 simp only [List.length_cons,List.length_nil] at HL
 replace hCA:=Lib.hid hCA
 replace hCN:=Lib.hid hCN
 clear hp0 hp1 hlf hrt hc hs0 hk01 hsz c0 c1
 have hl0:(100:Int) < (F.length:Int)→False:=fun h=>by omega
 have hW:Below w.heap.size w (w.alloc (.cells #[.int .i64 fd,.int .i64 ft,.string s,.slice (some ⟨b,off,none⟩) 2 c,.int .i64 wd,.int .i64 lf,.int .i64 rt] 31)):=(by repeat first | with_reducible (first | exact Below.refl _ _ | apply below_drewN' | apply Below.drew | refine Below.alloc ?_ ?_ _ | refine Below.setCell ?_ ?_ _) | exact Below.refl _ _ | omega | (simp <;> omega) | (have:=(Below.refl _ _).size;first | omega | (simp <;> omega)))
 have B0:=Blk.new w 31 #[.int .i64 fd,.int .i64 ft,.string s,.slice (some ⟨b,off,none⟩) 2 c,.int .i64 wd,.int .i64 lf,.int .i64 rt]
 obtain ⟨i0,hi,hz0,hz1,hzb⟩:=info_parts info_Point
 go_enter Tryz.func89,Tryz.ntmps89
 go_wp2_with fail
 refine Calls.mono (HL.out _ hW) ?_;rintro e w1 ⟨rfl,hb1⟩
 replace B0:=B0.below hb1 B0.lt
 replace hW:=hW.trans (hb1.mono hW.size)
 clear hb1
 go_wp2_with fail
 go_loopw [8,9] (fun cd i wr=>∃ j:Nat,j ≤ F.length∧i=.int .i64 j∧cd=.int .i64 0∧Below w1.heap.size w1 wr) (fun _ i _=>F.length - (intOf i).toNat)
 case atStart=>exact ⟨0,Nat.zero_le _,rfl,rfl,Below.refl _ _⟩
 case round =>
  obtain ⟨j,hj,rfl,rfl,hr⟩:=hrel
  have hWr:=hW.trans (hr.mono hW.size)
  have hbs:=hWr.size
  by_cases hlt:j < F.length
  ·have hLb:=hWr
   obtain ⟨fb,fo,rfl,fbB,xc⟩:=hs.at_ (i:=j) (by simpa using hlt)
   simp only [List.getElem_map] at xc
   have x0:wr.cell? ⟨fb,fo+j * 2,none⟩=some (.int .i64 F[j].digits):=by rw [hLb.cell fbB];exact xc 0 _ rfl
   have x1:wr.cell? ⟨fb,fo+j * 2+1,none⟩=some (.int .i64 F[j].tens):=by rw [hLb.cell fbB];exact xc 1 _ rfl
   clear xc
   have hfo:=List.all_eq_true.1 hok _ (List.getElem_mem hlt)
   have HC:=HI.out F[j]
   rw [hfo] at HC
   replace HC:=Lib.hid HC
   generalize F[j]=f at *
   clear hfo
   obtain ⟨d,t⟩:=f
   simp only at *
   go_wp2_with fail
   refine Calls.mono (HC.out _) ?_;rintro e w2 ⟨rfl,hb2⟩
   have hr2:=hr.trans (hb2.mono hr.size)
   go_wp2
   go_roundw
   case rel=>exact ⟨j+1,by omega,by go_num,rfl,hr2⟩
   case measure=>simp [intOf];omega
  ·have:j=F.length:=by omega
   subst this
   have C0:=B0.below hr B0.lt
   clear B0 hW hr
   have L0:PtL w 124 31 #[.int .i64 fd,.int .i64 ft,.string s,.slice (some ⟨b,off,none⟩) 2 c,.int .i64 wd,.int .i64 lf,.int .i64 rt] 0 (.slice (some ⟨wr.heap.size,0,none⟩) 0 0) (wr.alloc (.cells #[] 124)) :=
    ⟨(by repeat first | with_reducible (first | exact hWr | apply below_drewN' | apply Below.drew | refine Below.alloc ?_ ?_ _ | refine Below.setCell ?_ ?_ _) | exact hWr | omega | (simp <;> omega) | (have:=(hWr).size;first | omega | (simp <;> omega))),C0.alloc _,[],rfl,Own.empty (w:=wr) (base:=w.heap.size+1) (e:=124) (k:=2) (by have:=C0.lt;omega)⟩
   clear C0 hWr
   go_wp2_with fail
   go_loopw [10,11] (fun o i wr=>∃ k:Nat,k ≤ F.length∧i=.int .i64 k∧PtL w 124 31 #[.int .i64 fd,.int .i64 ft,.string s,.slice (some ⟨b,off,none⟩) 2 c,.int .i64 wd,.int .i64 lf,.int .i64 rt] k o wr∧Hid ((F.take k).all (fun f=>decide (plCode n f=0))=true)) (fun _ i _=>F.length - (intOf i).toNat)
   case atStart=>exact ⟨0,Nat.zero_le _,rfl,L0,(show _=true from by simp)⟩
   case round =>
    clear L0
    obtain ⟨k',hk,rfl,hL,hn⟩:=hrel
    have hbs:=hL.hb.size
    by_cases hlt:k' < F.length
    ·have hLb:=hL.hb
     obtain ⟨fb,fo,rfl,fbB,xc⟩:=hs.at_ (i:=k') (by simpa using hlt)
     simp only [List.getElem_map] at xc
     have x0:wr.cell? ⟨fb,fo+k' * 2,none⟩=some (.int .i64 F[k'].digits):=by rw [hLb.cell fbB];exact xc 0 _ rfl
     have x1:wr.cell? ⟨fb,fo+k' * 2+1,none⟩=some (.int .i64 F[k'].tens):=by rw [hLb.cell fbB];exact xc 1 _ rfl
     clear xc
     have hxB:=Lib.hid (Nat.lt_of_lt_of_le fbB hbs)
     have hmem:=List.getElem_mem hlt
     have hfo:=List.all_eq_true.1 hok _ hmem
     have hnx:=Lib.hid (@take_all_succ _ (fun f=>decide (plCode n f=0)) F k' hlt)
     have HC:=HP.out F[k'] hfo
     obtain ⟨px,py,hpv⟩:=ptv_two (plCode n F[k']) (if k=0 then 0 else wd) (pl2 n F[k']).1 (pl2 n F[k']).2
     rw [hpv] at HC
     clear hpv
     replace HC:=Lib.hid HC
     have hcc:=Lib.hid (plCode_two n F[k'])
     have hnx:=Lib.hid (@take_all_succ _ (fun f=>decide (plCode n f=0)) F k' hlt)
     have hno:=Lib.hid (hCN.out F[k'] hmem)
     have C0:=hL.bg
     generalize hfk:F[k']=f at *
     clear hfk hfo hmem
     generalize hpc:plCode n f=pc at *
     replace hpc:=Lib.hid hpc
     obtain ⟨d,t⟩:=f
     simp only at *
     have C0_0:=C0.c0
     have C0_1:=C0.c1
     have C0_2:=C0.c2
     have C0_3:=C0.c3
     have C0_4:=C0.c4
     have C0_5:=C0.c5
     have C0_6:=C0.c6
     go_wp2_with fail
     refine wp_region_all (fun a0 fL bA v=>∃ v48 v49 v50 v51 v52 v53 v54 v47 v55 v56 v12 v13:Value,bA=(((((((((((a0.put (some 48) v48).put (some 49) v49).put (some 50) v50).put (some 51) v51).put (some 52) v52).put (some 53) v53).put (some 54) v54).put (some 47) v47).put (some 55) v55).put (some 56) v56).put (some 12) v12).put (some 13) v13∧(ScS wr 124 (fL 10) (fL 11) px py v12 v)∧(fL 0=true→v48=.agg #[.int .i64 fd,.int .i64 ft,.string s,.slice (some ⟨b,off,none⟩) 2 c,.int .i64 wd,.int .i64 lf,.int .i64 rt])∧(fL 1=true→v49=.int .i64 k)∧(fL 2=true→v50=.slice (some ⟨fb,fo,none⟩) F.length cc)∧(fL 3=true→v51=.int .i64 k')∧(fL 4=true→v52=.pointer (some ⟨fb,fo+k' * 2,none⟩))∧(fL 5=true→v53=.agg #[.int .i64 d,.int .i64 t])∧(fL 6=true→v54=.tuple #[.agg #[.int .i64 px,.int .i64 py],.int .i64 pc])∧(fL 7=true→v47=.tuple #[.agg #[.int .i64 px,.int .i64 py],.int .i64 pc])∧(fL 8=true→v55=.agg #[.int .i64 px,.int .i64 py])∧(fL 9=true→v56=.int .i64 pc)∧(fL 10=true→True)∧(fL 12=true→v13=.int .i64 pc)) (by kernel_rfl) (by decide +kernel) ?_ ?_ ?_
     ·exact ⟨_,_,_,_,_,_,_,_,_,_,_,_,put_more (put_more (put_more (put_more (put_more (put_more (put_more (put_more (put_more (put_more (put_more (put_more (rfl) 48) 49) 50) 51) 52) 53) 54) 47) 55) 56) 12) 13,ScS.init,nofun,nofun,nofun,nofun,nofun,nofun,nofun,nofun,nofun,nofun,nofun,nofun⟩
     ·rintro fL bA v ⟨v48,v49,v50,v51,v52,v53,v54,v47,v55,v56,v12,v13,rfl,hS,q0,q1,q2,q3,q4,q5,q6,q7,q8,q9,q10,q12⟩ i hi hf o ho hall
      simp only [Act.put,List.setIfInBounds_toArray,List.set_cons_zero,List.set_cons_succ]
      simp only [List.length_cons,List.length_nil] at hi
      have hn:i=0 ∨ i=1 ∨ i=2 ∨ i=3 ∨ i=4 ∨ i=5 ∨ i=6 ∨ i=7 ∨ i=8 ∨ i=9 ∨ i=10 ∨ i=11 ∨ i=12:=by omega
      clear hi
      rcases hn with rfl | rfl | rfl | rfl | rfl | rfl | rfl | rfl | rfl | rfl | rfl | rfl | rfl
      ·obtain rfl:=Option.some.inj ho
       have FF:=C0.below hS.hb C0.lt
       have y0:v.cell? ⟨w.heap.size,0,none⟩=some (.int .i64 fd):=FF.cell 0
       have y1:v.cell? ⟨w.heap.size,1,none⟩=some (.int .i64 ft):=FF.cell 1
       have y2:v.cell? ⟨w.heap.size,2,none⟩=some (.string s):=FF.cell 2
       have y3:v.cell? ⟨w.heap.size,3,none⟩=some (.slice (some ⟨b,off,none⟩) 2 c):=FF.cell 3
       have y4:v.cell? ⟨w.heap.size,4,none⟩=some (.int .i64 wd):=FF.cell 4
       have y5:v.cell? ⟨w.heap.size,5,none⟩=some (.int .i64 lf):=FF.cell 5
       have y6:v.cell? ⟨w.heap.size,6,none⟩=some (.int .i64 rt):=FF.cell 6
       clear hall ho
       refine wpOp_step rfl (fun K hK=>?_)
       go_simp
       exact hK _ _ ⟨_,_,_,_,_,_,_,_,_,_,_,_,rfl,hS,fun _=>rfl,q1,q2,q3,q4,q5,q6,q7,q8,q9,fun _=>trivial,q12⟩
      ·obtain rfl:=Option.some.inj ho
       clear hall ho
       refine wpOp_step rfl (fun K hK=>?_)
       go_simp
       exact hK _ _ ⟨_,_,_,_,_,_,_,_,_,_,_,_,rfl,hS,q0,fun _=>rfl,q2,q3,q4,q5,q6,q7,q8,q9,fun _=>trivial,q12⟩
      ·obtain rfl:=Option.some.inj ho
       clear hall ho
       refine wpOp_step rfl (fun K hK=>?_)
       go_simp
       exact hK _ _ ⟨_,_,_,_,_,_,_,_,_,_,_,_,rfl,hS,q0,q1,fun _=>rfl,q3,q4,q5,q6,q7,q8,q9,fun _=>trivial,q12⟩
      ·obtain rfl:=Option.some.inj ho
       clear hall ho
       refine wpOp_step rfl (fun K hK=>?_)
       go_simp
       exact hK _ _ ⟨_,_,_,_,_,_,_,_,_,_,_,_,rfl,hS,q0,q1,q2,fun _=>rfl,q4,q5,q6,q7,q8,q9,fun _=>trivial,q12⟩
      ·obtain rfl:=Option.some.inj ho
       obtain rfl:=q2 (hall ⟨2,.data⟩ (by simp) rfl)
       obtain rfl:=q3 (hall ⟨3,.data⟩ (by simp) rfl)
       clear hall ho
       refine wpOp_step rfl (fun K hK=>?_)
       go_simp
       exact hK _ _ ⟨_,_,_,_,_,_,_,_,_,_,_,_,rfl,hS,q0,q1,fun _=>rfl,fun _=>rfl,fun _=>rfl,q5,q6,q7,q8,q9,fun _=>trivial,q12⟩
      ·obtain rfl:=Option.some.inj ho
       obtain rfl:=q4 (hall ⟨4,.data⟩ (by simp) rfl)
       have z0:=(hS.hb.cell hxB.out).trans x0
       have z1:=(hS.hb.cell hxB.out).trans x1
       clear hall ho
       refine wpOp_step rfl (fun K hK=>?_)
       go_simp
       exact hK _ _ ⟨_,_,_,_,_,_,_,_,_,_,_,_,rfl,hS,q0,q1,q2,q3,fun _=>rfl,fun _=>rfl,q6,q7,q8,q9,fun _=>trivial,q12⟩
      ·obtain rfl:=Option.some.inj ho
       obtain rfl:=q0 (hall ⟨0,.data⟩ (by simp) rfl)
       obtain rfl:=q1 (hall ⟨1,.data⟩ (by simp) rfl)
       obtain rfl:=q5 (hall ⟨5,.data⟩ (by simp) rfl)
       clear hall ho
       refine wpOp_step rfl (fun K hK=>?_)
       go_simp
       refine Calls.mono ((HC.out v (hLb.trans (hS.hb.mono hbs)))) ?_;rintro e w1 ⟨rfl,hb1⟩
       go_simp
       exact hK _ _ ⟨_,_,_,_,_,_,_,_,_,_,_,_,rfl,hS.below hb1,fun _=>rfl,fun _=>rfl,q2,q3,q4,fun _=>rfl,fun _=>rfl,q7,q8,q9,fun _=>trivial,q12⟩
      ·obtain rfl:=Option.some.inj ho
       obtain rfl:=q6 (hall ⟨6,.data⟩ (by simp) rfl)
       clear hall ho
       refine wpOp_step rfl (fun K hK=>?_)
       go_simp
       exact hK _ _ ⟨_,_,_,_,_,_,_,_,_,_,_,_,rfl,hS,q0,q1,q2,q3,q4,q5,fun _=>rfl,fun _=>rfl,q8,q9,fun _=>trivial,q12⟩
      ·obtain rfl:=Option.some.inj ho
       obtain rfl:=q7 (hall ⟨7,.data⟩ (by simp) rfl)
       clear hall ho
       refine wpOp_step rfl (fun K hK=>?_)
       go_simp
       exact hK _ _ ⟨_,_,_,_,_,_,_,_,_,_,_,_,rfl,hS,q0,q1,q2,q3,q4,q5,q6,fun _=>rfl,fun _=>rfl,q9,fun _=>trivial,q12⟩
      ·obtain rfl:=Option.some.inj ho
       obtain rfl:=q7 (hall ⟨7,.data⟩ (by simp) rfl)
       clear hall ho
       refine wpOp_step rfl (fun K hK=>?_)
       go_simp
       exact hK _ _ ⟨_,_,_,_,_,_,_,_,_,_,_,_,rfl,hS,q0,q1,q2,q3,q4,q5,q6,fun _=>rfl,q8,fun _=>rfl,fun _=>trivial,q12⟩
      ·obtain rfl:=Option.some.inj ho
       clear hall ho
       refine wpOp_step rfl (fun K hK=>?_)
       go_simp
       exact hK _ _ ⟨_,_,_,_,_,_,_,_,_,_,_,_,rfl,hS.new hf,q0,q1,q2,q3,q4,q5,q6,q7,q8,q9,fun _=>trivial,q12⟩
      ·obtain rfl:=Option.some.inj ho
       have e10:fL 10=true:=hall ⟨10,.data⟩ (by simp) rfl
       obtain rfl:=q8 (hall ⟨8,.data⟩ (by simp) rfl)
       have e8:=hall ⟨8,.data⟩ (by simp) rfl
       obtain ⟨g,rfl,hg,BB⟩:=hS.q0 e10 hf
       have c0':v.cell? ⟨g,0,none⟩=some (.int .i64 0):=BB.cell 0
       have c1':v.cell? ⟨g,1,none⟩=some (.int .i64 0):=BB.cell 1
       have f0':v.frozen? ⟨g,0,none⟩=false:=BB.frozen 0
       have f1':v.frozen? ⟨g,1,none⟩=false:=BB.frozen 1
       clear hall ho
       refine wpOp_step rfl (fun K hK=>?_)
       go_simp
       exact hK _ _ ⟨_,_,_,_,_,_,_,_,_,_,_,_,rfl,hS.st e10 hg BB,q0,q1,q2,q3,q4,q5,q6,q7,fun _=>rfl,q9,fun _=>trivial,q12⟩
      ·obtain rfl:=Option.some.inj ho
       obtain rfl:=q9 (hall ⟨9,.data⟩ (by simp) rfl)
       clear hall ho
       refine wpOp_step rfl (fun K hK=>?_)
       go_simp
       exact hK _ _ ⟨_,_,_,_,_,_,_,_,_,_,_,_,rfl,hS,q0,q1,q2,q3,q4,q5,q6,q7,q8,fun _=>rfl,fun _=>trivial,fun _=>rfl⟩
     ·rintro fL bA v ⟨v48,v49,v50,v51,v52,v53,v54,v47,v55,v56,v12,v13,rfl,hS,q0,q1,q2,q3,q4,q5,q6,q7,q8,q9,q10,q12⟩ hall
      simp only [Act.put,List.setIfInBounds_toArray,List.set_cons_zero,List.set_cons_succ]
      simp only [List.length_cons,List.length_nil] at hall
      obtain rfl:=q0 (hall 0 (by omega))
      obtain rfl:=q1 (hall 1 (by omega))
      obtain rfl:=q2 (hall 2 (by omega))
      obtain rfl:=q3 (hall 3 (by omega))
      obtain rfl:=q4 (hall 4 (by omega))
      obtain rfl:=q5 (hall 5 (by omega))
      obtain rfl:=q6 (hall 6 (by omega))
      obtain rfl:=q7 (hall 7 (by omega))
      obtain rfl:=q8 (hall 8 (by omega))
      obtain rfl:=q9 (hall 9 (by omega))
      have e10:fL 10=true:=hall 10 (by omega)
      obtain rfl:=q12 (hall 12 (by omega))
      have e11:fL 11=true:=hall 11 (by omega)
      clear hall
      obtain ⟨g,rfl,hg,BB⟩:=hS.q1 e11
      have hL1:=hL.below hS.hb
      have hbs1:=hL1.hb.size
      rcases hcc.out with rfl | rfl
      ·have p0:v.cell? ⟨g,0,none⟩=some (.int .i64 px):=BB.cell 0
       have p1:v.cell? ⟨g,1,none⟩=some (.int .i64 py):=BB.cell 1
       obtain ⟨xs,hxl,hO⟩:=hL1.o
       go_wp2_with (at_builtin;refine wpList_append_rows _ rfl _ _ _ rfl (w.heap.size+1) 124 i0 _ 2 16 Tryz.underlying100 hi hz0 hz1 hzb rfl (by omega) _ _ rfl (hO.alloc _) _ _ _ _ [[.int .i64 px,.int .i64 py]] rfl rfl (Sl.one2 _ _ _ _ (by simp)) (one2_cells _ _) (by rw [hxl];unfold maxLen;omega) (by rw [hxl];omega) (by have:=hL1.bg.lt;first | omega | (simp only [];omega) | (simp;omega)) ?_;intro v1 w2 hO2 hg2 hat;have hL2:=(hL1.alloc _).app (hO.alloc _) hxl hg2 hO2)
       go_roundw
       case rel=>exact ⟨k'+1,by omega,by go_num,hL2,(show _=true from by rw [hnx.out,hn.out];rfl)⟩
       case measure=>simp [intOf];omega
      ·have hcd:=Lib.hid (hno.out rfl)
       have hW1:=hL1.hb
       go_wp2
       go_ret2
       exact ⟨⟨_,by rw [hcd.out];rfl⟩,(by repeat first | with_reducible (first | exact hW1 | apply below_drewN' | apply Below.drew | refine Below.alloc ?_ ?_ _ | refine Below.setCell ?_ ?_ _) | exact hW1 | omega | (simp <;> omega) | (have:=(hW1).size;first | omega | (simp <;> omega)))⟩
    ·have:k'=F.length:=by omega
     subst this
     have hn':=hn.out
     rw [List.take_length] at hn'
     have hcc:=Lib.hid (hCA.out hn')
     clear hn'
     have hLb:=hL.hb
     go_wp2
     go_ret2
     exact ⟨⟨_,by rw [hcc.out];rfl⟩,hLb⟩
end Go.Proofs.YtednjmldjbndhaaGreatDoor
