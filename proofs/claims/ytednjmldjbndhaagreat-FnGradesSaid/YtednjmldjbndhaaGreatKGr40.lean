/- The result of a chain on a rule: the program's. Conditions: the lengths. Moves made one after the other: the reference. Conditions: the rule, the setting and the moves are valid. Whether moves are a plan of a chain: both sides. Conditions: the rule, the chain and the moves are valid. -/
import Derived.Test.YtednjmldjbndhaaGreatKGr12
import Derived.Test.YtednjmldjbndhaaGreatKGr2
import Derived.Test.YtednjmldjbndhaaGreatKGr24
import Derived.Test.YtednjmldjbndhaaGreatKGr32
import Derived.Test.YtednjmldjbndhaaGreatKGr39
import Derived.Test.YtednjmldjbndhaaGreatKGr5
set_option linter.unusedSimpArgs false
set_option linter.unusedVariables false
set_option maxRecDepth 100000
set_option maxHeartbeats 8000000
namespace Go.Proofs.YtednjmldjbndhaaGreat
open Go.RowKit
def resF (code:Int) (l3:List Term):Figure:=if code=0 then ⟨rdD (usualP l3).cu,0⟩ else ⟨0,0⟩
theorem implResultOf_c (L:Int) (A1:Option Addr) (c1:Nat) (l1:List Int) (A2:Option Addr) (c2:Nat) (l2:List Int) (A3:Option Addr) (c3:Nat) (l3:List Term) (w:World) (E:ExIn w A1 c1 l1 A2 c2 l2 A3 c3 l3) :
  Calls Tryz.prog 37 #[.agg #[.int .i64 L,.slice A1 l1.length c1,.slice A2 l2.length c2],.slice A3 l3.length c3] w fun e w'=>e=.returned (.tuple #[.agg #[.int .i64 (resF (planCode L l1 l2 l3) l3).digits,.int .i64 (resF (planCode L l1 l2 l3) l3).tens],.int .i64 (planCode L l1 l2 l3)])∧Below w.heap.size w w':=by
 have hW:Below w.heap.size w ((w.alloc (.cells #[.int .i64 L,.slice A1 l1.length c1,.slice A2 l2.length c2] 26)).alloc (.cells #[.int .i64 0,.int .i64 0] 51)):=(by repeat first | with_reducible (first | exact Below.refl _ _ | apply below_drewN' | apply Below.drew | refine Below.alloc ?_ ?_ _ | refine Below.setCell ?_ ?_ _) | exact Below.refl _ _ | omega | (simp <;> omega) | (have:=(Below.refl _ _).size;first | omega | (simp <;> omega)))
 have B0:=(Blk.new w 26 #[.int .i64 L,.slice A1 l1.length c1,.slice A2 l2.length c2]).alloc (.cells #[.int .i64 0,.int .i64 0] 51)
 have F0:=Blk.new' (w.alloc (.cells #[.int .i64 L,.slice A1 l1.length c1,.slice A2 l2.length c2] 26)) 51 #[.int .i64 0,.int .i64 0] (g:=w.heap.size+1) (by simp)
 have HC:=Lib.hid (have Q:=E.later hW;checkPlan_c L A1 c1 l1 A2 c2 l2 A3 c3 l3 _ Q.h1 Q.h2 Q.h3 Q.k1 Q.k2 Q.s1 Q.s2 Q.s3)
 have HU:Hid (planCode L l1 l2 l3=0→∀ W,Below w.heap.size w W→_):=fun h W hW=>have P:=plan_parts h;have K:=chainB_parts P.2.1;usualPlan_c L A1 c1 l1 A2 c2 l2 A3 c3 l3 W ((E.later hW).rule P.2.2.1 P.2.2.2) K.1 K.2.1 E.k3 K.2.2.1 (E.later hW).s3
 have HB:Hid (planCode L l1 l2 l3=0→0 ≤ (usualP l3).cu∧(usualP l3).cu ≤ 1048576):=Lib.hid fun h=>have P:=plan_parts h;have K:=chainB_parts P.2.1;(usual_ok K.1 K.2.1 K.2.2.1).1.1.2
 clear E
 unfold resF
 unfold PlanPost at HU
 generalize (usualP l3).cu=cu at *
 generalize (usualP l3).sh=sh at *
 generalize (usualP l3).ms=ms at *
 generalize planCode L l1 l2 l3=pc at *
 by_cases h0:pc=0
 ·subst h0
  have HR:=fun W=>Lib.hid (readAt_c cu W (HB.out rfl))
  have HU2:=Lib.hid (HU.out rfl)
  simp only [if_true]
  generalize rdD cu=rd at *
  clear HU HB
  go_enter Tryz.func37,Tryz.ntmps37
  go_wp2_with fail
  generalize (w.alloc (.cells #[.int .i64 L,.slice A1 l1.length c1,.slice A2 l2.length c2] 26)).alloc (.cells #[.int .i64 0,.int .i64 0] 51)=W at *
  refine Calls.mono HC.out ?_;rintro e w1 ⟨rfl,hb1⟩
  have hW1:=hW.trans (hb1.mono hW.size)
  have C0:=B0.below hb1 B0.lt
  have F1:=F0.below hb1 F0.lt
  have r0:w1.cell? ⟨w.heap.size,0,none⟩=some (.int .i64 L):=C0.cell 0
  have r1:w1.cell? ⟨w.heap.size,1,none⟩=some (.slice A1 l1.length c1):=C0.cell 1
  have r2:w1.cell? ⟨w.heap.size,2,none⟩=some (.slice A2 l2.length c2):=C0.cell 2
  clear B0 F0 hW hb1 HC
  go_wp2_with fail
  refine Calls.mono (HU2.out w1 hW1) ?_;rintro e w2 ⟨A',c',rfl,_,hb2⟩
  have hW2:=hW1.trans (hb2.mono hW1.size)
  have F2:=F1.below hb2 F1.lt
  have hal:Below w2.heap.size w2 (w2.alloc (.cells #[.int .i64 sh,.int .i64 cu] 104)):=(Below.refl _ _).alloc (Nat.le_refl _) _
  replace F2:=F2.below hal F2.lt
  have hW3:=hW2.trans (hal.mono hW2.size)
  clear hb2 r0 r1 r2 C0 F1 hal
  go_wp2_with fail
  generalize w2.alloc (.cells #[.int .i64 sh,.int .i64 cu] 104)=w3 at *
  refine Calls.mono (HR _).out ?_;rintro e w4 ⟨rfl,hb4⟩
  have F4:=F2.below hb4 F2.lt
  have hW4:=hW3.trans (hb4.mono hW3.size)
  have x0:w4.cell? ⟨w.heap.size+1,0,none⟩=some (.int .i64 0):=F4.cell 0
  have x1:w4.cell? ⟨w.heap.size+1,1,none⟩=some (.int .i64 0):=F4.cell 1
  have xf0:=F4.frozen 0
  have xf1:=F4.frozen 1
  go_wp2
  refine bodyPost_ret (v:=.tuple #[.agg #[.int .i64 rd,.int .i64 0],.int .i64 0]) (by simp [results,Tryz.results37,go_sem,x0,x1,xf0,xf1]) rfl ⟨rfl,(by repeat first | with_reducible (first | exact hW4 | apply below_drewN' | apply Below.drew | refine Below.alloc ?_ ?_ _ | refine Below.setCell ?_ ?_ _) | exact hW4 | omega | (simp <;> omega) | (have:=(hW4).size;first | omega | (simp <;> omega)))⟩
 ·have hne:(pc != 0)=true:=by simpa using h0
  simp only [if_neg h0]
  clear HU HB h0
  go_enter Tryz.func37,Tryz.ntmps37
  go_wp2_with fail
  generalize (w.alloc (.cells #[.int .i64 L,.slice A1 l1.length c1,.slice A2 l2.length c2] 26)).alloc (.cells #[.int .i64 0,.int .i64 0] 51)=W at *
  refine Calls.mono HC.out ?_;rintro e w1 ⟨rfl,hb1⟩
  have hW1:=hW.trans (hb1.mono hW.size)
  have F4:=F0.below hb1 F0.lt
  have x0:w1.cell? ⟨w.heap.size+1,0,none⟩=some (.int .i64 0):=F4.cell 0
  have x1:w1.cell? ⟨w.heap.size+1,1,none⟩=some (.int .i64 0):=F4.cell 1
  have xf0:=F4.frozen 0
  have xf1:=F4.frozen 1
  go_wp2
  refine bodyPost_ret (v:=.tuple #[.agg #[.int .i64 0,.int .i64 0],.int .i64 pc]) (by simp [results,Tryz.results37,go_sem,x0,x1,xf0,xf1]) rfl ⟨rfl,(by repeat first | with_reducible (first | exact hW1 | apply below_drewN' | apply Below.drew | refine Below.alloc ?_ ?_ _ | refine Below.setCell ?_ ?_ _) | exact hW1 | omega | (simp <;> omega) | (have:=(hW1).size;first | omega | (simp <;> omega)))⟩
end Go.Proofs.YtednjmldjbndhaaGreat
namespace Go.Proofs.YtednjmldjbndhaaGreat
open Go.RowKit
structure LrS (w:World) (rc:Array Value) (sh cu:Int) (wr:World):Prop where
 hb:Below w.heap.size w wr
 br:Blk wr w.heap.size 26 rc
 bs:Blk wr (w.heap.size+1) 104 #[.int .i64 sh,.int .i64 cu]
 b6:Blk wr (w.heap.size+2) 104 #[.int .i64 0,.int .i64 0]
section
variable {w : World} {rc : Array Value} {sh cu : Int} {wr w2 : World}
theorem LrS.below (h:LrS w rc sh cu wr) (hb:Below wr.heap.size wr w2):LrS w rc sh cu w2 :=
 ⟨h.hb.trans (hb.mono h.hb.size),h.br.below hb h.br.lt,h.bs.below hb h.bs.lt,h.b6.below hb h.b6.lt⟩
theorem LrS.set (h:LrS w rc sh cu wr) (a b:Int):LrS w rc a b ((wr.setCell ⟨w.heap.size+1,0,none⟩ (.int .i64 a)).setCell ⟨w.heap.size+1,1,none⟩ (.int .i64 b)) :=
 ⟨(by repeat first | with_reducible (first | exact h.hb | apply below_drewN' | apply Below.drew | refine Below.alloc ?_ ?_ _ | refine Below.setCell ?_ ?_ _) | exact h.hb | omega | (simp <;> omega) | (have:=(h.hb).size;first | omega | (simp <;> omega))),(h.br.far (by simp) _).far (by simp) _,h.bs.two0.two1,(h.b6.far (by simp) _).far (by simp) _⟩
end
structure RnS (W:World) (b10 b11:Bool) (xa xb:Int) (v9:Value) (v:World):Prop where
 hb:Below W.heap.size W v
 k:b11=true→b10=true
 q:b10=true→∃ g,v9=.pointer (some ⟨g,0,none⟩)∧W.heap.size ≤ g∧Blk v g 104 (bif b11 then #[.int .i64 xa,.int .i64 xb] else #[.int .i64 0,.int .i64 0])
section
variable {W v v' : World} {b10 b11 : Bool} {xa xb : Int} {v9 : Value}
theorem RnS.init:RnS W false false xa xb v9 W.drew:=⟨(Below.refl _ _).drew,nofun,nofun⟩
theorem RnS.next (h:RnS W b10 b11 xa xb v9 v) (hb:Below v.heap.size v v'):RnS W b10 b11 xa xb v9 v' :=
 ⟨h.hb.trans (hb.mono h.hb.size),h.k,fun e=>by
  obtain ⟨g,h1,h2,h3⟩:=h.q e
  exact ⟨g,h1,h2,h3.below hb h3.lt⟩⟩
theorem RnS.mk1 (h:RnS W b10 b11 xa xb v9 v) (h10:b10=false):RnS W true b11 xa xb (.pointer (some ⟨v.heap.size,0,none⟩)) (v.alloc (.cells #[.int .i64 0,.int .i64 0] 104)) :=
 ⟨h.hb.alloc h.hb.size _,fun _=>rfl,fun _=>⟨_,rfl,h.hb.size,by
  have h11:b11=false:=by cases e:b11 with | false=>rfl | true=>have:=h.k e;rw [h10] at this;cases this
  rw [h11];exact Blk.new _ _ _⟩⟩
theorem RnS.st {g:Nat} (h:RnS W b10 b11 xa xb (.pointer (some ⟨g,0,none⟩)) v) (h10:b10=true):RnS W b10 true xa xb (.pointer (some ⟨g,0,none⟩)) ((v.setCell ⟨g,0,none⟩ (.int .i64 xa)).setCell ⟨g,1,none⟩ (.int .i64 xb)):=by
 obtain ⟨g',h1,h2,h3⟩:=h.q h10
 cases h1
 have hB:Below W.heap.size W ((v.setCell ⟨g,0,none⟩ (.int .i64 xa)).setCell ⟨g,1,none⟩ (.int .i64 xb)):=(h.hb.setCell (p:=⟨g,0,none⟩) h2 _).setCell (p:=⟨g,1,none⟩) h2 _
 refine ⟨hB,fun _=>h10,fun _=>⟨g,rfl,h2,?_⟩⟩
 cases b11 <;> exact h3.two0.two1
end
theorem l12Run_c (L:Int) (A1:Option Addr) (c1:Nat) (l1:List Int) (A2:Option Addr) (c2:Nat) (l2:List Int) (a0 b0:Int) (A:Option Addr) (c:Nat) (l:List Move) (w:World)
  (hst:setB a0 b0=true) (hall:l.all moveB=true) (hl:l.length ≤ 30) (h1:l1.length ≤ 1048576) (h2:l2.length ≤ 1048576) (s1:Sl w w.heap.size 1 A1 (l1.map ic)) (s2:Sl w w.heap.size 1 A2 (l2.map ic)) (hs:Sl w w.heap.size 4 A (l.map Move.cells)) :
  Calls Tryz.prog 68 #[.agg #[.int .i64 L,.slice A1 l1.length c1,.slice A2 l2.length c2],.agg #[.int .i64 a0,.int .i64 b0],.slice A l.length c] w fun e w' =>
   e=.returned (.tuple #[.agg #[.int .i64 (runR l1 l2 (a0,b0) l).1.1,.int .i64 (runR l1 l2 (a0,b0) l).1.2],.int .i64 (if (runR l1 l2 (a0,b0) l).2=l.length then -1 else ((runR l1 l2 (a0,b0) l).2:Int))])∧Below w.heap.size w w':=by
 have HM:Hid (∀ (a b:Int) (m:Move) (W:World),setB a b=true→moveB m=true→Below w.heap.size w W→_):=fun a b m W hs hm hW=>applyM_c L A1 c1 l1 A2 c2 l2 (a,b) m W hs hm h1 h2 ((s1.below hW).more hW.size) ((s2.below hW).more hW.size)
 unfold Move.agg at HM
 simp only at HM
 have HS:=Lib.hid hs
 have HA:=Lib.hid (List.all_eq_true.1 hall)
 have Hst:=Lib.hid hst
 have hR0:=Lib.hid (RunI.start l1 l2 (a0,b0) l)
 have L0:LrS w #[.int .i64 L,.slice A1 l1.length c1,.slice A2 l2.length c2] a0 b0 (((w.alloc (.cells #[.int .i64 L,.slice A1 l1.length c1,.slice A2 l2.length c2] 26)).alloc (.cells #[.int .i64 a0,.int .i64 b0] 104)).alloc (.cells #[.int .i64 0,.int .i64 0] 104)) :=
  ⟨(by repeat first | with_reducible (first | exact Below.refl _ _ | apply below_drewN' | apply Below.drew | refine Below.alloc ?_ ?_ _ | refine Below.setCell ?_ ?_ _) | exact Below.refl _ _ | omega | (simp <;> omega) | (have:=(Below.refl _ _).size;first | omega | (simp <;> omega))),((Blk.new _ _ _).alloc _).alloc _,(Blk.new' _ _ _ (by simp)).alloc _,Blk.new' _ _ _ (by simp)⟩
 clear hst hall h1 h2 s1 s2 hs
 go_enter Tryz.func68,Tryz.ntmps68
 go_wp2_with fail
 generalize (((w.alloc (.cells #[.int .i64 L,.slice A1 l1.length c1,.slice A2 l2.length c2] 26)).alloc (.cells #[.int .i64 a0,.int .i64 b0] 104)).alloc (.cells #[.int .i64 0,.int .i64 0] 104))=W0 at *
 go_loopw [8] (fun i wr=>∃ (k:Nat) (a b:Int),k ≤ l.length∧i=.int .i64 k∧Hid (RunI l1 l2 (a0,b0) l k (a,b))∧Hid (setB a b=true)∧LrS w #[.int .i64 L,.slice A1 l1.length c1,.slice A2 l2.length c2] a b wr) (fun i _=>l.length - (intOf i).toNat)
 case atStart=>exact ⟨0,a0,b0,Nat.zero_le _,rfl,hR0,Hst,L0⟩
 case round =>
  clear L0 Hst hR0
  obtain ⟨k,a,b,hk,rfl,hRun,hSt,hL⟩:=hrel
  by_cases hlt:k < l.length
  ·obtain ⟨bm,off,rfl,hbB,hc⟩:=(HS.out.below hL.hb).at_ (i:=k) (by rw [List.length_map];exact hlt)
   simp only [List.getElem_map] at hc
   have hmv:=Lib.hid (HA.out l[k] (List.getElem_mem hlt))
   have hnx:=Lib.hid (fun hs=>hRun.out.next hlt hs)
   have hsp:=Lib.hid (fun hs=>hRun.out.stop hlt hs)
   generalize l[k]=m at *
   obtain ⟨mk,ms,md,mt⟩:=m
   have y0:wr.cell? ⟨bm,off+k * 4,none⟩=some (.int .i64 mk):=hc 0 _ rfl
   have y1:wr.cell? ⟨bm,off+k * 4+1,none⟩=some (.int .i64 ms):=hc 1 _ rfl
   have y2:wr.cell? ⟨bm,off+k * 4+2,none⟩=some (.int .i64 md):=hc 2 _ rfl
   have y3:wr.cell? ⟨bm,off+k * 4+3,none⟩=some (.int .i64 mt):=hc 3 _ rfl
   have hz:=hL.hb.size
   have hbm:bm < wr.heap.size:=by omega
   have hcall:=fun W hW=>Lib.hid (HM.out a b ⟨mk,ms,md,mt⟩ W hSt.out hmv.out hW)
   have hso:=Lib.hid (fun h=>step_ok (l1:=l1) (l2:=l2) (st:=(a,b)) (m:=⟨mk,ms,md,mt⟩) h)
   generalize stepM l1 l2 (a,b) ⟨mk,ms,md,mt⟩=x at *
   obtain ⟨⟨xa,xb⟩,ok⟩:=x
   simp only at hcall hso hnx hsp
   have Hcall:=Lib.hid hcall
   clear hc HM hmv hRun hcall
   have hkl:(k:Int) < l.length:=by omega
   go_wp2_with fail
   refine wp_region_all (fun a0 fL bA v=>∃ v18 v19 v20 v21 v22 v23 v24 v17 v25 v26 v9 v10:Value,bA=(((((((((((a0.put (some 18) v18).put (some 19) v19).put (some 20) v20).put (some 21) v21).put (some 22) v22).put (some 23) v23).put (some 24) v24).put (some 17) v17).put (some 25) v25).put (some 26) v26).put (some 9) v9).put (some 10) v10∧(RnS wr (fL 10) (fL 11) xa xb v9 v)∧(fL 0=true→v18=.agg #[.int .i64 L,.slice A1 l1.length c1,.slice A2 l2.length c2])∧(fL 1=true→v19=.agg #[.int .i64 a,.int .i64 b])∧(fL 2=true→v20=.slice (some ⟨bm,off,none⟩) l.length c)∧(fL 3=true→v21=.int .i64 (k:Int))∧(fL 4=true→v22=.pointer (some ⟨bm,off+k * 4,none⟩))∧(fL 5=true→v23=.agg #[.int .i64 mk,.int .i64 ms,.int .i64 md,.int .i64 mt])∧(fL 6=true→v24=.tuple #[.agg #[.int .i64 xa,.int .i64 xb],.bool ok])∧(fL 7=true→v17=.tuple #[.agg #[.int .i64 xa,.int .i64 xb],.bool ok])∧(fL 8=true→v25=.agg #[.int .i64 xa,.int .i64 xb])∧(fL 9=true→v26=.bool ok)∧(fL 10=true→True)∧(fL 12=true→v10=.bool ok)) (by kernel_rfl) (by decide +kernel) ?_ ?_ ?_
   ·exact ⟨_,_,_,_,_,_,_,_,_,_,_,_,put_more (put_more (put_more (put_more (put_more (put_more (put_more (put_more (put_more (put_more (put_more (put_more (rfl) 18) 19) 20) 21) 22) 23) 24) 17) 25) 26) 9) 10,RnS.init,nofun,nofun,nofun,nofun,nofun,nofun,nofun,nofun,nofun,nofun,nofun,nofun⟩
   ·rintro fL bA v ⟨v18,v19,v20,v21,v22,v23,v24,v17,v25,v26,v9,v10,rfl,hS,q0,q1,q2,q3,q4,q5,q6,q7,q8,q9,q10,q12⟩ i hi hf o ho hall
    simp only [Act.put,List.setIfInBounds_toArray,List.set_cons_zero,List.set_cons_succ]
    simp only [List.length_cons,List.length_nil] at hi
    have hn:i=0 ∨ i=1 ∨ i=2 ∨ i=3 ∨ i=4 ∨ i=5 ∨ i=6 ∨ i=7 ∨ i=8 ∨ i=9 ∨ i=10 ∨ i=11 ∨ i=12:=by omega
    clear hi
    rcases hn with rfl | rfl | rfl | rfl | rfl | rfl | rfl | rfl | rfl | rfl | rfl | rfl | rfl
    ·obtain rfl:=Option.some.inj ho
     have FF:=hL.br.below hS.hb hL.br.lt
     have r0:v.cell? ⟨w.heap.size,0,none⟩=some (.int .i64 L):=FF.cell 0
     have r1:v.cell? ⟨w.heap.size,1,none⟩=some (.slice A1 l1.length c1):=FF.cell 1
     have r2:v.cell? ⟨w.heap.size,2,none⟩=some (.slice A2 l2.length c2):=FF.cell 2
     clear hall ho
     refine wpOp_step rfl (fun K hK=>?_)
     go_simp
     exact hK _ _ ⟨_,_,_,_,_,_,_,_,_,_,_,_,rfl,hS,fun _=>rfl,q1,q2,q3,q4,q5,q6,q7,q8,q9,fun _=>trivial,q12⟩
    ·obtain rfl:=Option.some.inj ho
     have FF:=hL.bs.below hS.hb hL.bs.lt
     have r0:v.cell? ⟨w.heap.size+1,0,none⟩=some (.int .i64 a):=FF.cell 0
     have r1:v.cell? ⟨w.heap.size+1,1,none⟩=some (.int .i64 b):=FF.cell 1
     clear hall ho
     refine wpOp_step rfl (fun K hK=>?_)
     go_simp
     exact hK _ _ ⟨_,_,_,_,_,_,_,_,_,_,_,_,rfl,hS,q0,fun _=>rfl,q2,q3,q4,q5,q6,q7,q8,q9,fun _=>trivial,q12⟩
    ·obtain rfl:=Option.some.inj ho
     clear hall ho
     refine wpOp_step rfl (fun K hK=>?_)
     go_simp
     exact hK _ _ ⟨_,_,_,_,_,_,_,_,_,_,_,_,rfl,hS,q0,q1,fun _=>rfl,q3,q4,q5,q6,q7,q8,q9,fun _=>trivial,q12⟩
    ·obtain rfl:=Option.some.inj ho
     clear hall ho
     refine wpOp_step rfl (fun K hK=>?_)
     go_simp
     exact hK _ _ ⟨_,_,_,_,_,_,_,_,_,_,_,_,rfl,hS,q0,q1,q2,fun _=>rfl,q4,q5,q6,q7,q8,q9,fun _=>trivial,q12⟩
    ·obtain rfl:=Option.some.inj ho
     obtain rfl:=q2 (hall ⟨2,.data⟩ (by simp) rfl)
     obtain rfl:=q3 (hall ⟨3,.data⟩ (by simp) rfl)
     clear hall ho
     refine wpOp_step rfl (fun K hK=>?_)
     go_simp
     exact hK _ _ ⟨_,_,_,_,_,_,_,_,_,_,_,_,rfl,hS,q0,q1,fun _=>rfl,fun _=>rfl,fun _=>rfl,q5,q6,q7,q8,q9,fun _=>trivial,q12⟩
    ·obtain rfl:=Option.some.inj ho
     obtain rfl:=q4 (hall ⟨4,.data⟩ (by simp) rfl)
     have r0:=(hS.hb.cell (p:=⟨bm,off+k * 4,none⟩) hbm).trans y0
     have r1:=(hS.hb.cell (p:=⟨bm,off+k * 4+1,none⟩) hbm).trans y1
     have r2:=(hS.hb.cell (p:=⟨bm,off+k * 4+2,none⟩) hbm).trans y2
     have r3:=(hS.hb.cell (p:=⟨bm,off+k * 4+3,none⟩) hbm).trans y3
     clear hall ho
     refine wpOp_step rfl (fun K hK=>?_)
     go_simp
     exact hK _ _ ⟨_,_,_,_,_,_,_,_,_,_,_,_,rfl,hS,q0,q1,q2,q3,fun _=>rfl,fun _=>rfl,q6,q7,q8,q9,fun _=>trivial,q12⟩
    ·obtain rfl:=Option.some.inj ho
     obtain rfl:=q0 (hall ⟨0,.data⟩ (by simp) rfl)
     obtain rfl:=q1 (hall ⟨1,.data⟩ (by simp) rfl)
     obtain rfl:=q5 (hall ⟨5,.data⟩ (by simp) rfl)
     clear hall ho
     refine wpOp_step rfl (fun K hK=>?_)
     go_simp
     refine Calls.mono (Hcall.out v (hL.hb.trans (hS.hb.mono hL.hb.size))).out ?_;rintro e w5 ⟨rfl,hb5⟩
     go_simp
     exact hK _ _ ⟨_,_,_,_,_,_,_,_,_,_,_,_,rfl,hS.next hb5,fun _=>rfl,fun _=>rfl,q2,q3,q4,fun _=>rfl,fun _=>rfl,q7,q8,q9,fun _=>trivial,q12⟩
    ·obtain rfl:=Option.some.inj ho
     obtain rfl:=q6 (hall ⟨6,.data⟩ (by simp) rfl)
     clear hall ho
     refine wpOp_step rfl (fun K hK=>?_)
     go_simp
     exact hK _ _ ⟨_,_,_,_,_,_,_,_,_,_,_,_,rfl,hS,q0,q1,q2,q3,q4,q5,fun _=>rfl,fun _=>rfl,q8,q9,fun _=>trivial,q12⟩
    ·obtain rfl:=Option.some.inj ho
     obtain rfl:=q7 (hall ⟨7,.data⟩ (by simp) rfl)
     clear hall ho
     refine wpOp_step rfl (fun K hK=>?_)
     go_simp
     exact hK _ _ ⟨_,_,_,_,_,_,_,_,_,_,_,_,rfl,hS,q0,q1,q2,q3,q4,q5,q6,fun _=>rfl,fun _=>rfl,q9,fun _=>trivial,q12⟩
    ·obtain rfl:=Option.some.inj ho
     obtain rfl:=q7 (hall ⟨7,.data⟩ (by simp) rfl)
     clear hall ho
     refine wpOp_step rfl (fun K hK=>?_)
     go_simp
     exact hK _ _ ⟨_,_,_,_,_,_,_,_,_,_,_,_,rfl,hS,q0,q1,q2,q3,q4,q5,q6,fun _=>rfl,q8,fun _=>rfl,fun _=>trivial,q12⟩
    ·obtain rfl:=Option.some.inj ho
     clear hall ho
     refine wpOp_step rfl (fun K hK=>?_)
     go_simp
     exact hK _ _ ⟨_,_,_,_,_,_,_,_,_,_,_,_,rfl,hS.mk1 hf,q0,q1,q2,q3,q4,q5,q6,q7,q8,q9,fun _=>trivial,q12⟩
    ·obtain rfl:=Option.some.inj ho
     have e10:fL 10=true:=hall ⟨10,.data⟩ (by simp) rfl
     obtain rfl:=q8 (hall ⟨8,.data⟩ (by simp) rfl)
     obtain ⟨g9,rfl,hg9,B9⟩:=hS.q e10
     have hh:fL 11=false:=hf
     rw [hh] at B9
     have z0:v.cell? ⟨g9,0,none⟩=some (.int .i64 0):=B9.cell 0
     have z1:v.cell? ⟨g9,1,none⟩=some (.int .i64 0):=B9.cell 1
     have f0:=B9.frozen 0
     have f1:=B9.frozen 1
     clear hall ho
     refine wpOp_step rfl (fun K hK=>?_)
     go_simp
     exact hK _ _ ⟨_,_,_,_,_,_,_,_,_,_,_,_,rfl,hS.st e10,q0,q1,q2,q3,q4,q5,q6,q7,fun _=>rfl,q9,fun _=>trivial,q12⟩
    ·obtain rfl:=Option.some.inj ho
     obtain rfl:=q9 (hall ⟨9,.data⟩ (by simp) rfl)
     clear hall ho
     refine wpOp_step rfl (fun K hK=>?_)
     go_simp
     exact hK _ _ ⟨_,_,_,_,_,_,_,_,_,_,_,_,rfl,hS,q0,q1,q2,q3,q4,q5,q6,q7,q8,fun _=>rfl,fun _=>trivial,fun _=>rfl⟩
   ·rintro fL bA v ⟨v18,v19,v20,v21,v22,v23,v24,v17,v25,v26,v9,v10,rfl,hS,q0,q1,q2,q3,q4,q5,q6,q7,q8,q9,q10,q12⟩ hall
    simp only [Act.put,List.setIfInBounds_toArray,List.set_cons_zero,List.set_cons_succ]
    simp only [List.length_cons,List.length_nil] at hall
    obtain rfl:=q0 (hall 0 (by omega))
    obtain rfl:=q1 (hall 1 (by omega))
    obtain rfl:=q2 (hall 2 (by omega))
    obtain rfl:=q3 (hall 3 (by omega))
    obtain rfl:=q4 (hall 4 (by omega))
    obtain rfl:=q5 (hall 5 (by omega))
    obtain rfl:=q6 (hall 6 (by omega))
    obtain rfl:=q7 (hall 7 (by omega))
    obtain rfl:=q8 (hall 8 (by omega))
    obtain rfl:=q9 (hall 9 (by omega))
    have e10:fL 10=true:=hall 10 (by omega)
    obtain rfl:=q12 (hall 12 (by omega))
    have e11:fL 11=true:=hall 11 (by omega)
    clear hall
    obtain ⟨g9,rfl,hg9,B9⟩:=hS.q e10
    rw [e11] at B9
    have B9:Blk v g9 104 #[.int .i64 xa,.int .i64 xb]:=B9
    have hL2:=hL.below hS.hb
    have z0:v.cell? ⟨g9,0,none⟩=some (.int .i64 xa):=B9.cell 0
    have z1:v.cell? ⟨g9,1,none⟩=some (.int .i64 xb):=B9.cell 1
    have p0:v.cell? ⟨w.heap.size+1,0,none⟩=some (.int .i64 a):=hL2.bs.cell 0
    have p1:v.cell? ⟨w.heap.size+1,1,none⟩=some (.int .i64 b):=hL2.bs.cell 1
    clear hL hS B9 y0 y1 y2 y3 Hcall
    cases ok with
    | false =>
     have hrr:=hsp.out rfl
     have u0:v.cell? ⟨w.heap.size+1+1,0,none⟩=some (.int .i64 0):=hL2.b6.cell 0
     have u1:v.cell? ⟨w.heap.size+1+1,1,none⟩=some (.int .i64 0):=hL2.b6.cell 1
     have f0:v.frozen? ⟨w.heap.size+1+1,0,none⟩=false:=hL2.b6.frozen 0
     have f1:v.frozen? ⟨w.heap.size+1+1,1,none⟩=false:=hL2.b6.frozen 1
     have hB:=hL2.hb
     go_wp2
     refine bodyPost_ret (v:=.tuple #[.agg #[.int .i64 a,.int .i64 b],.int .i64 (k:Int)]) (by simp [results,Tryz.results68,go_sem,u0,u1]) rfl ⟨rfl,(by repeat first | with_reducible (first | exact hB | apply below_drewN' | apply Below.drew | refine Below.alloc ?_ ?_ _ | refine Below.setCell ?_ ?_ _) | exact hB | omega | (simp <;> omega) | (have:=(hB).size;first | omega | (simp <;> omega)))⟩
    | true =>
     have hrn:=Lib.hid (hnx.out rfl)
     have hst2:=Lib.hid (hso.out rfl)
     have f0:=hL2.bs.frozen 0
     have f1:=hL2.bs.frozen 1
     clear hnx hsp hso
     go_wp2_with fail
     go_roundw
     case rel=>exact ⟨k+1,xa,xb,by omega,by go_num,hrn,hst2,hL2.set xa xb⟩
     case measure=>simp [intOf];omega
  ·have hke:k=l.length:=by omega
   have hrr:=hRun.out.done hke
   have p0:wr.cell? ⟨w.heap.size+1,0,none⟩=some (.int .i64 a):=hL.bs.cell 0
   have p1:wr.cell? ⟨w.heap.size+1,1,none⟩=some (.int .i64 b):=hL.bs.cell 1
   have u0:wr.cell? ⟨w.heap.size+1+1,0,none⟩=some (.int .i64 0):=hL.b6.cell 0
   have u1:wr.cell? ⟨w.heap.size+1+1,1,none⟩=some (.int .i64 0):=hL.b6.cell 1
   have f0:wr.frozen? ⟨w.heap.size+1+1,0,none⟩=false:=hL.b6.frozen 0
   have f1:wr.frozen? ⟨w.heap.size+1+1,1,none⟩=false:=hL.b6.frozen 1
   have hB:=hL.hb
   have hkl:¬ (k:Int) < l.length:=by omega
   go_wp2
   refine bodyPost_ret (v:=.tuple #[.agg #[.int .i64 a,.int .i64 b],.int .i64 (-1)]) (by simp [results,Tryz.results68,go_sem,u0,u1]) rfl ⟨rfl,(by repeat first | with_reducible (first | exact hB | apply below_drewN' | apply Below.drew | refine Below.alloc ?_ ?_ _ | refine Below.setCell ?_ ?_ _) | exact hB | omega | (simp <;> omega) | (have:=(hB).size;first | omega | (simp <;> omega)))⟩
end Go.Proofs.YtednjmldjbndhaaGreat
namespace Go.Proofs.YtednjmldjbndhaaGreat
open Go.RowKit
structure ChOK (w:World) (A3:Option Addr) (c3:Nat) (l3:List Term):Prop where
 a:l3.all termOK=true
 n:l3.length ≤ 6
 k:l3.length ≤ c3
 s:Sl w w.heap.size 3 A3 (l3.map Term.cells)
theorem ChOK.later {w W:World} {A3:Option Addr} {c3:Nat} {l3:List Term} (R:ChOK w A3 c3 l3) (hW:Below w.heap.size w W):ChOK W A3 c3 l3:=⟨R.a,R.n,R.k,(R.s.below hW).more hW.size⟩
theorem runR_cu (l1 l2:List Int):∀ (l:List Move) (s0:Int × Int),(-1048576 ≤ s0.2∧s0.2 ≤ 1048576)→l.all moveB=true→-1048576 ≤ (runR l1 l2 s0 l).1.2∧(runR l1 l2 s0 l).1.2 ≤ 1048576
 | [],_,h,_=>h
 | m :: r,s0,h,ha=>by
  unfold runR
  split
  ·rename_i hs
   have:=setB_true.1 (step_ok hs)
   exact runR_cu l1 l2 r _ ⟨by omega,by omega⟩ (by simp only [List.all_cons,Bool.and_eq_true] at ha;exact ha.2)
  ·exact h
theorem implIsPlanFor_c (L:Int) (A1:Option Addr) (c1:Nat) (l1:List Int) (A2:Option Addr) (c2:Nat) (l2:List Int) (A3:Option Addr) (c3:Nat) (l3:List Term) (A:Option Addr) (c:Nat) (l:List Move) (w:World) (R:RuOK w L A1 c1 l1 A2 c2 l2) (T:ChOK w A3 c3 l3) (hp:planCode L l1 l2 l3=0) (M:MvOK w A l) :
  Calls Tryz.prog 38 #[.agg #[.int .i64 L,.slice A1 l1.length c1,.slice A2 l2.length c2],.slice A3 l3.length c3,.slice A l.length c] w fun e w'=>e=.returned (.tuple #[.bool (planB l1 l2 l3 l),.int .i64 0])∧Below w.heap.size w w':=by
 have hW:Below w.heap.size w (w.alloc (.cells #[.int .i64 L,.slice A1 l1.length c1,.slice A2 l2.length c2] 26)):=(by repeat first | with_reducible (first | exact Below.refl _ _ | apply below_drewN' | apply Below.drew | refine Below.alloc ?_ ?_ _ | refine Below.setCell ?_ ?_ _) | exact Below.refl _ _ | omega | (simp <;> omega) | (have:=(Below.refl _ _).size;first | omega | (simp <;> omega)))
 have B0:=Blk.new w 26 #[.int .i64 L,.slice A1 l1.length c1,.slice A2 l2.length c2]
 have HC:=Lib.hid (have Q:=R.later hW;checkPlan_c L A1 c1 l1 A2 c2 l2 A3 c3 l3 _ Q.h1 Q.h2 (by have:=T.n;omega) Q.k1 Q.k2 Q.s1 Q.s2 (T.later hW).s)
 rw [hp] at HC
 have HM:=Lib.hid (fun W (h:Below w.heap.size w W)=>runMoves_c L A1 c1 l1 A2 c2 l2 A c l W (R.later h) (M.later h))
 have HP:=Lib.hid (fun d t W (h:1000 ≤ d∧d ≤ 9999)=>pointOf_c d t W h)
 have hall:=Lib.hid T.a
 have hs3:=Lib.hid T.s
 have hn3:=T.n
 have hbd:=Lib.hid (fun k hk=>sumP_bd T.a k hk)
 have hnx:=Lib.hid (fun k hk=>sumP_succ l3 (k:=k) hk)
 have hs0:sumP l3 0=0:=rfl
 have hrs:=runR_cu l1 l2 l (0,0) (by decide) M.a
 clear R T M
 unfold planB
 generalize runR l1 l2 (0,0) l=rr at *
 obtain ⟨⟨ra,rb⟩,n⟩:=rr
 simp only at HM hrs ⊢
 have hrbb:Hid (-1048576 ≤ rb∧rb ≤ 1048576):=Lib.hid hrs
 clear hrs
 by_cases hn:n=l.length
 ·rw [decide_eq_true hn]
  simp only [if_pos hn] at HM
  simp only [Bool.true_and]
  have HM:=Lib.hid HM.out
  go_enter Tryz.func38,Tryz.ntmps38
  go_wp2_with fail
  generalize (w.alloc (.cells #[.int .i64 L,.slice A1 l1.length c1,.slice A2 l2.length c2] 26))=W at *
  refine Calls.mono HC.out ?_;rintro e w1 ⟨rfl,hb1⟩
  have hW1:=hW.trans (hb1.mono hW.size)
  have C0:=B0.below hb1 B0.lt
  have r0:w1.cell? ⟨w.heap.size,0,none⟩=some (.int .i64 L):=C0.cell 0
  have r1:w1.cell? ⟨w.heap.size,1,none⟩=some (.slice A1 l1.length c1):=C0.cell 1
  have r2:w1.cell? ⟨w.heap.size,2,none⟩=some (.slice A2 l2.length c2):=C0.cell 2
  clear B0 hW hb1 HC
  go_wp2_with fail
  refine Calls.mono (HM.out w1 hW1) ?_;rintro e w2 ⟨rfl,hb2⟩
  have hW2:=hW1.trans (hb2.mono hW1.size)
  have hW3:Below w.heap.size w (w2.alloc (.cells #[.int .i64 ra,.int .i64 rb] 104)):=(by repeat first | with_reducible (first | exact hW2 | apply below_drewN' | apply Below.drew | refine Below.alloc ?_ ?_ _ | refine Below.setCell ?_ ?_ _) | exact hW2 | omega | (simp <;> omega) | (have:=(hW2).size;first | omega | (simp <;> omega)))
  have D9:=Blk.new w2 104 #[.int .i64 ra,.int .i64 rb]
  clear r0 r1 r2 C0 hW1 hb2 HM hW2
  go_wp2_with fail
  generalize w2.alloc (.cells #[.int .i64 ra,.int .i64 rb] 104)=w3 at *
  generalize w2.heap.size=g9 at *
  go_loopw [11,31] (fun o i wr=>∃ k:Nat,k ≤ l3.length∧i=.int .i64 k∧o=.int .i64 (sumP l3 k)∧Below w.heap.size w wr∧Blk wr g9 104 #[.int .i64 ra,.int .i64 rb]) (fun _ i _=>l3.length - (intOf i).toNat)
  case atStart=>exact ⟨0,Nat.zero_le _,rfl,by rw [hs0],hW3,D9⟩
  case round =>
   clear hW3 D9 hs0
   obtain ⟨k,hk,rfl,rfl,hB,D9⟩:=hrel
   obtain ⟨hb1,hb2⟩:=hbd.out k hk
   by_cases hlt:k < l3.length
   ·obtain ⟨bt,off,rfl,hbB,hc⟩:=(hs3.out.below hB).at_ (i:=k) (by rw [List.length_map];exact hlt)
    simp only [List.getElem_map] at hc
    have htm:=(fig_bd (List.all_eq_true.1 hall.out l3[k] (List.getElem_mem hlt))).1
    have hnk:=hnx.out k hlt
    simp only [Term.fig] at htm
    unfold ptT at hnk
    generalize l3[k]=tm at *
    obtain ⟨d,tn,dv⟩:=tm
    simp only at htm hnk
    have y0:wr.cell? ⟨bt,off+k * 3,none⟩=some (.int .i64 d):=hc 0 _ rfl
    have y1:wr.cell? ⟨bt,off+k * 3+1,none⟩=some (.int .i64 tn):=hc 1 _ rfl
    have y2:wr.cell? ⟨bt,off+k * 3+2,none⟩=some (.bool dv):=hc 2 _ rfl
    have hz:=hB.size
    have hcall:=Lib.hid (HP.out d tn (wr.alloc (.cells #[.int .i64 d,.int .i64 tn,.bool dv] 100)) htm)
    have hpb:=pointC_bd htm
    generalize pointC d=pd at *
    generalize hsk:sumP l3 k=sk at *
    have Hnk:=Lib.hid hnk
    have hB2:Below w.heap.size w (wr.alloc (.cells #[.int .i64 d,.int .i64 tn,.bool dv] 100)):=(by repeat first | with_reducible (first | exact hB | apply below_drewN' | apply Below.drew | refine Below.alloc ?_ ?_ _ | refine Below.setCell ?_ ?_ _) | exact hB | omega | (simp <;> omega) | (have:=(hB).size;first | omega | (simp <;> omega)))
    have D92:=D9.alloc (.cells #[.int .i64 d,.int .i64 tn,.bool dv] 100)
    clear hc hnk hsk hB D9
    cases dv with
    | true =>
     go_wp2_with fail
     refine Calls.mono hcall.out ?_;rintro e w5 ⟨rfl,hb5⟩
     have hB3:=hB2.trans (hb5.mono hB2.size)
     have D93:=D92.below hb5 D92.lt
     clear hB2 D92 hb5 y0 y1 y2 hcall
     go_wp2_with fail
     go_roundw
     case rel=>exact ⟨k+1,by omega,by go_num,by rw [Hnk.out];simp;omega,hB3,D93⟩
     case measure=>simp [intOf];omega
    | false =>
     go_wp2_with fail
     refine Calls.mono hcall.out ?_;rintro e w5 ⟨rfl,hb5⟩
     have hB3:=hB2.trans (hb5.mono hB2.size)
     have D93:=D92.below hb5 D92.lt
     clear hB2 D92 hb5 y0 y1 y2 hcall
     go_wp2_with fail
     go_roundw
     case rel=>exact ⟨k+1,by omega,by go_num,by rw [Hnk.out];simp,hB3,D93⟩
     case measure=>simp [intOf];omega
   ·have hke:k=l3.length:=by omega
    have p1:wr.cell? ⟨g9,1,none⟩=some (.int .i64 rb):=D9.cell 1
    have Hke:=Lib.hid hke
    have hrb:=hrbb.out
    clear hke
    go_wp2_with (go_at_call 87;refine (modulo_c _ _ _ (by omega) (by omega)).mono ?_;rintro e w' ⟨rfl,rfl⟩)
    go_ret2
    exact ⟨by rw [← Hke.out];rfl,hB⟩
 ·rw [decide_eq_false hn]
  simp only [if_neg hn] at HM
  simp only [Bool.false_and]
  have HM:=Lib.hid HM.out
  go_enter Tryz.func38,Tryz.ntmps38
  go_wp2_with fail
  generalize (w.alloc (.cells #[.int .i64 L,.slice A1 l1.length c1,.slice A2 l2.length c2] 26))=W at *
  refine Calls.mono HC.out ?_;rintro e w1 ⟨rfl,hb1⟩
  have hW1:=hW.trans (hb1.mono hW.size)
  have C0:=B0.below hb1 B0.lt
  have r0:w1.cell? ⟨w.heap.size,0,none⟩=some (.int .i64 L):=C0.cell 0
  have r1:w1.cell? ⟨w.heap.size,1,none⟩=some (.slice A1 l1.length c1):=C0.cell 1
  have r2:w1.cell? ⟨w.heap.size,2,none⟩=some (.slice A2 l2.length c2):=C0.cell 2
  clear B0 hW hb1 HC
  go_wp2_with fail
  refine Calls.mono (HM.out w1 hW1) ?_;rintro e w2 ⟨rfl,hb2⟩
  have hW2:=hW1.trans (hb2.mono hW1.size)
  clear hb2
  go_wp2
  go_ret2
  exact ⟨rfl,(by repeat first | with_reducible (first | exact hW2 | apply below_drewN' | apply Below.drew | refine Below.alloc ?_ ?_ _ | refine Below.setCell ?_ ?_ _) | exact hW2 | omega | (simp <;> omega) | (have:=(hW2).size;first | omega | (simp <;> omega)))⟩
end Go.Proofs.YtednjmldjbndhaaGreat
