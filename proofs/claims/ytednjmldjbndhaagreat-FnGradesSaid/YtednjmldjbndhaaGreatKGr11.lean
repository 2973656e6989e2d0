/- The planner's method term where the slide is set anew: the program's. Conditions: the rule has ScaleC on both parts; the term is valid; the plan so far is sound. -/
import Derived.Test.YtednjmldjbndhaaGreatKGr10
set_option linter.unusedSimpArgs false
set_option linter.unusedVariables false
set_option maxRecDepth 100000
set_option maxHeartbeats 8000000
namespace Go.Proofs.YtednjmldjbndhaaGreat
open Go.RowKit
theorem mv_bd {p:PS} {k:Int} (hp:(-1048576 ≤ p.sh∧p.sh ≤ 1048576)∧0 ≤ p.cu∧p.cu ≤ 1048576) (hk:k=3 ∨ k=4):(-1048576 ≤ (mvP p k 0 0 false).sh∧(mvP p k 0 0 false).sh ≤ 1048576)∧0 ≤ (mvP p k 0 0 false).cu∧(mvP p k 0 0 false).cu ≤ 1048576:=by
 rcases hk with rfl | rfl <;> (simp [mvP,moveS];omega)
theorem termRest1_c {w0:World} {A1:Option Addr} {l1:List Int} {A2:Option Addr} {l2:List Int} (R:RuleIn w0 A1 l1 A2 l2) (L:Int) (c1 c2:Nat) (g:Nat) (sh cu:Int) (ms:List Move) (mv:Value) (d t:Int) (w:World)
  (P:PlAt w0 g L A1 l1.length c1 A2 l2.length c2 ⟨sh,cu,ms,false⟩ mv w) (hg:w0.heap.size ≤ g) (hp:okP ⟨sh,cu,ms,false⟩) (ht:termOK ⟨d,t,false⟩=true) (hr:ms.length ≤ 900)
  : Calls Tryz.prog 116 #[.pointer (some ⟨g,0,none⟩),.agg #[.int .i64 d,.int .i64 t,.bool false]] w fun e w'=>e=.returned (.tuple #[])∧∃ mv',PlAt w0 g L A1 l1.length c1 A2 l2.length c2 (termP ⟨sh,cu,ms,false⟩ ⟨d,t,false⟩) mv' w'∧Spare w w' g mv mv':=by
 have hfb:=(term_bd ht).1
 simp only at hfb
 have hu:=okP_under hp
 have hue:=under_en ⟨sh,cu,ms,false⟩
 have hul:=under_len ⟨sh,cu,ms,false⟩
 have e:termP ⟨sh,cu,ms,false⟩ ⟨d,t,false⟩=mvP (mvP (underP ⟨sh,cu,ms,false⟩) (if fitsB (underP ⟨sh,cu,ms,false⟩).cu d then 3 else 4) 0 0 false) 1 d t false:=by
  unfold termP
  rfl
 rw [e]
 have hpu:PlAt w0 g L A1 l1.length c1 A2 l2.length c2 (underP ⟨sh,cu,ms,false⟩) mv w:=P
 clear e ht
 generalize underP ⟨sh,cu,ms,false⟩=q at *
 have hq:=hu.1
 obtain ⟨qs,qc,qm,qe⟩:=q
 simp only at hue hq hul
 subst hue
 have hC:=fun (W:World) mv (PW:PlAt w0 g L A1 l1.length c1 A2 l2.length c2 ⟨qs,qc,qm,false⟩ mv W)=>can_c g L A1 l1.length c1 A2 l2.length c2 qs qc mv false 3 0 0 0 qc qc (setB qc qc) W PW.bp (fun W' hW'=>by
  have:=movedC_c R L c1 c2 qs qc 3 0 0 (by omega) hq (fun h=>by omega) W' (PW.hb.trans (hW'.mono PW.hb.size))
  rw [show moveS qs qc 3 (pointC 0)=(qc,qc) from rfl] at this
  exact this)
 have hC:=fun W mv PW=>Lib.hid (hC W mv PW)
 have hM:=fun (W:World) (hW:Below w0.heap.size w0 W)=>movedC_c R L c1 c2 qc qc 1 d t (by omega) (by omega) (fun _=>hfb) W hW
 rw [show moveS qc qc 1 (pointC d)=(qc,pointC d+qc) from rfl] at hM
 have hsC:=setB_fits d (sh:=qc) (by omega)
 simp only at hM hsC
 rw [hsC] at hM
 simp only
 clear hsC
 generalize fitsB qc d=fq at hM ⊢
 have hD:=fun k (hk:k=3 ∨ k=4) W mv PW=>Lib.hid (doP_c R L c1 c2 g ⟨qs,qc,qm,false⟩ mv k 0 0 W PW hg (by omega) hq (fun h=>by omega) (by simp only;omega))
 have hE:=fun k (hk:k=3 ∨ k=4) W mv PW=>Lib.hid (doP_c R L c1 c2 g (mvP ⟨qs,qc,qm,false⟩ k 0 0 false) mv 1 d t W PW hg (by omega) (mv_bd hq hk) (fun _=>hfb) (by simp [mvP];omega))
 have hM:=Lib.hid hM
 have hgl:=P.bp.lt
 have k6:w.cell? ⟨g,6,none⟩=some (.bool false):=P.bp.cell 6
 have hw3:=own_lt P.own (Nat.le_refl w.heap.size)
 have hw4:=own_lt P.own (Nat.le_succ w.heap.size)
 have hW:Below w.heap.size w ((w.alloc (.cells #[.int .i64 d,.int .i64 t,.bool false] 100)).alloc (.cells #[.int .i64 1,.int .i64 0,.int .i64 d,.int .i64 t] 75)):=(by repeat first | with_reducible (first | exact Below.refl _ _ | apply below_drewN' | apply Below.drew | refine Below.alloc ?_ ?_ _ | refine Below.setCell ?_ ?_ _) | exact Below.refl _ _ | omega | (simp <;> omega) | (have:=(Below.refl _ _).size;first | omega | (simp <;> omega)))
 have hB3:Blk ((w.alloc (.cells #[.int .i64 d,.int .i64 t,.bool false] 100)).alloc (.cells #[.int .i64 1,.int .i64 0,.int .i64 d,.int .i64 t] 75)) w.heap.size 100 #[.int .i64 d,.int .i64 t,.bool false]:=(Blk.new _ _ _).alloc _
 have hB4:Blk ((w.alloc (.cells #[.int .i64 d,.int .i64 t,.bool false] 100)).alloc (.cells #[.int .i64 1,.int .i64 0,.int .i64 d,.int .i64 t] 75)) (w.heap.size+1) 75 #[.int .i64 1,.int .i64 0,.int .i64 d,.int .i64 t]:=Blk.new' _ _ _ (by simp)
 have P1:=hpu.below hW
 clear P hpu hq hul hu hp hr
 go_enter Tryz.func116,Tryz.ntmps116
 go_wp2_with fail
 generalize ((w.alloc (.cells #[.int .i64 d,.int .i64 t,.bool false] 100)).alloc (.cells #[.int .i64 1,.int .i64 0,.int .i64 d,.int .i64 t] 75))=W at *
 clear k6
 have hS1:Spare w W g mv mv:=Spare.ofBelow hW
 refine Calls.mono (hC W mv P1).out ?_;rintro e w2 ⟨rfl,hb2⟩
 have P2:=P1.below hb2
 have D3:=hB3.below hb2 hB3.lt
 have D4:=hB4.below hb2 hB4.lt
 have hS2:=hS1.trans (Spare.ofBelow hb2)
 clear P1 hB3 hB4 hS1 hb2
 go_wp2_with fail
 have hba:Below w2.heap.size w2 (w2.alloc (.cells #[.int .i64 qc,.int .i64 qc] 104)):=(Below.refl _ _).alloc (Nat.le_refl _) _
 have B7:=Blk.new w2 104 #[.int .i64 qc,.int .i64 qc]
 have P5:=P2.below hba
 have E3:=D3.below hba D3.lt
 have E4:=D4.below hba D4.lt
 have hS5:=hS2.trans (Spare.ofBelow hba)
 clear P2 D3 D4 hS2 hba
 generalize w2.alloc (.cells #[.int .i64 qc,.int .i64 qc] 104)=w5 at *
 generalize w2.heap.size=g7 at *
 have hA0:AlS w5 false undef w5.drew:=⟨(Below.refl _ _).drew,nofun⟩
 refine wp_region_all (fun a0 fL bA v=>∃ v52 v53 v54 v55 v56 v57 v58 v51 v59 v60 v9 v10:Value,bA=(((((((((((a0.put (some 52) v52).put (some 53) v53).put (some 54) v54).put (some 55) v55).put (some 56) v56).put (some 57) v57).put (some 58) v58).put (some 51) v51).put (some 59) v59).put (some 60) v60).put (some 9) v9).put (some 10) v10∧(AlS w5 (fL 10) v9 v)∧(fL 0=true→v52=.pointer (some ⟨g,0,none⟩))∧(fL 1=true→v53=.pointer (some ⟨g,0,none⟩))∧(fL 2=true→v54=.pointer (some ⟨g,0,none⟩))∧(fL 3=true→v55=.agg #[.int .i64 L,.slice A1 l1.length c1,.slice A2 l2.length c2])∧(fL 4=true→v56=.agg #[.int .i64 qc,.int .i64 qc])∧(fL 5=true→v57=.agg #[.int .i64 1,.int .i64 0,.int .i64 d,.int .i64 t])∧(fL 6=true→v58=.tuple #[.agg #[.int .i64 qc,.int .i64 (pointC d+qc)],.bool fq])∧(fL 7=true→v51=.tuple #[.agg #[.int .i64 qc,.int .i64 (pointC d+qc)],.bool fq])∧(fL 8=true→v59=.agg #[.int .i64 qc,.int .i64 (pointC d+qc)])∧(fL 9=true→v60=.bool fq)∧(fL 10=true→True)∧(fL 12=true→v10=.bool fq)) (by kernel_rfl) (by decide +kernel) ?_ ?_ ?_
 ·exact ⟨undef,undef,undef,undef,undef,undef,undef,undef,undef,undef,undef,undef,by simp only [Act.put,List.setIfInBounds_toArray,List.set_cons_zero,List.set_cons_succ],hA0,nofun,nofun,nofun,nofun,nofun,nofun,nofun,nofun,nofun,nofun,nofun,nofun⟩
 ·rintro fL bA v ⟨v52,v53,v54,v55,v56,v57,v58,v51,v59,v60,v9,v10,rfl,hS,q0,q1,q2,q3,q4,q5,q6,q7,q8,q9,q10,q12⟩ i hi hf o ho hall
  simp only [Act.put,List.setIfInBounds_toArray,List.set_cons_zero,List.set_cons_succ]
  simp only [List.length_cons,List.length_nil] at hi
  have hn:i=0 ∨ i=1 ∨ i=2 ∨ i=3 ∨ i=4 ∨ i=5 ∨ i=6 ∨ i=7 ∨ i=8 ∨ i=9 ∨ i=10 ∨ i=11 ∨ i=12:=by omega
  clear hi
  rcases hn with rfl | rfl | rfl | rfl | rfl | rfl | rfl | rfl | rfl | rfl | rfl | rfl | rfl
  ·obtain rfl:=Option.some.inj ho
   clear hall ho
   refine wpOp_step rfl (fun K hK=>?_)
   go_simp
   exact hK _ _ ⟨_,_,_,_,_,_,_,_,_,_,_,_,rfl,hS,fun _=>rfl,q1,q2,q3,q4,q5,q6,q7,q8,q9,fun _=>trivial,q12⟩
  ·obtain rfl:=Option.some.inj ho
   obtain rfl:=q0 (hall ⟨0,.data⟩ (by simp) rfl)
   clear hall ho
   refine wpOp_step rfl (fun K hK=>?_)
   go_simp
   exact hK _ _ ⟨_,_,_,_,_,_,_,_,_,_,_,_,rfl,hS,fun _=>rfl,fun _=>rfl,q2,q3,q4,q5,q6,q7,q8,q9,fun _=>trivial,q12⟩
  ·obtain rfl:=Option.some.inj ho
   obtain rfl:=q1 (hall ⟨1,.data⟩ (by simp) rfl)
   clear hall ho
   refine wpOp_step rfl (fun K hK=>?_)
   go_simp
   exact hK _ _ ⟨_,_,_,_,_,_,_,_,_,_,_,_,rfl,hS,q0,fun _=>rfl,fun _=>rfl,q3,q4,q5,q6,q7,q8,q9,fun _=>trivial,q12⟩
  ·obtain rfl:=Option.some.inj ho
   obtain rfl:=q2 (hall ⟨2,.data⟩ (by simp) rfl)
   have Bp:=P5.bp.below hS.1 P5.bp.lt
   have c0:v.cell? ⟨g,0,none⟩=some (.int .i64 L):=Bp.cell 0
   have c1:v.cell? ⟨g,1,none⟩=some (.slice A1 l1.length c1):=Bp.cell 1
   have c2:v.cell? ⟨g,2,none⟩=some (.slice A2 l2.length c2):=Bp.cell 2
   clear hall ho
   refine wpOp_step rfl (fun K hK=>?_)
   go_simp
   exact hK _ _ ⟨_,_,_,_,_,_,_,_,_,_,_,_,rfl,hS,q0,q1,fun _=>rfl,fun _=>rfl,q4,q5,q6,q7,q8,q9,fun _=>trivial,q12⟩
  ·obtain rfl:=Option.some.inj ho
   have Bp:=B7.below hS.1 B7.lt
   have c0:v.cell? ⟨g7,0,none⟩=some (.int .i64 qc):=Bp.cell 0
   have c1:v.cell? ⟨g7,1,none⟩=some (.int .i64 qc):=Bp.cell 1
   clear hall ho
   refine wpOp_step rfl (fun K hK=>?_)
   go_simp
   exact hK _ _ ⟨_,_,_,_,_,_,_,_,_,_,_,_,rfl,hS,q0,q1,q2,q3,fun _=>rfl,q5,q6,q7,q8,q9,fun _=>trivial,q12⟩
  ·obtain rfl:=Option.some.inj ho
   have Bp:=E4.below hS.1 E4.lt
   have c0:v.cell? ⟨w.heap.size+1,0,none⟩=some (.int .i64 1):=Bp.cell 0
   have c1:v.cell? ⟨w.heap.size+1,1,none⟩=some (.int .i64 0):=Bp.cell 1
   have c2:v.cell? ⟨w.heap.size+1,2,none⟩=some (.int .i64 d):=Bp.cell 2
   have c3:v.cell? ⟨w.heap.size+1,3,none⟩=some (.int .i64 t):=Bp.cell 3
   clear hall ho
   refine wpOp_step rfl (fun K hK=>?_)
   go_simp
   exact hK _ _ ⟨_,_,_,_,_,_,_,_,_,_,_,_,rfl,hS,q0,q1,q2,q3,q4,fun _=>rfl,q6,q7,q8,q9,fun _=>trivial,q12⟩
  ·obtain rfl:=Option.some.inj ho
   obtain rfl:=q3 (hall ⟨3,.data⟩ (by simp) rfl)
   obtain rfl:=q4 (hall ⟨4,.data⟩ (by simp) rfl)
   obtain rfl:=q5 (hall ⟨5,.data⟩ (by simp) rfl)
   clear hall ho
   refine wpOp_step rfl (fun K hK=>?_)
   go_simp
   refine Calls.mono ((hM.out _ (P5.below hS.1).hb).out) ?_;rintro e w1 ⟨rfl,hb1⟩
   go_simp
   exact hK _ _ ⟨_,_,_,_,_,_,_,_,_,_,_,_,rfl,hS.below hb1,q0,q1,q2,fun _=>rfl,fun _=>rfl,fun _=>rfl,fun _=>rfl,q7,q8,q9,fun _=>trivial,q12⟩
  ·obtain rfl:=Option.some.inj ho
   obtain rfl:=q6 (hall ⟨6,.data⟩ (by simp) rfl)
   clear hall ho
   refine wpOp_step rfl (fun K hK=>?_)
   go_simp
   exact hK _ _ ⟨_,_,_,_,_,_,_,_,_,_,_,_,rfl,hS,q0,q1,q2,q3,q4,q5,fun _=>rfl,fun _=>rfl,q8,q9,fun _=>trivial,q12⟩
  ·obtain rfl:=Option.some.inj ho
   obtain rfl:=q7 (hall ⟨7,.data⟩ (by simp) rfl)
   clear hall ho
   refine wpOp_step rfl (fun K hK=>?_)
   go_simp
   exact hK _ _ ⟨_,_,_,_,_,_,_,_,_,_,_,_,rfl,hS,q0,q1,q2,q3,q4,q5,q6,fun _=>rfl,fun _=>rfl,q9,fun _=>trivial,q12⟩
  ·obtain rfl:=Option.some.inj ho
   obtain rfl:=q7 (hall ⟨7,.data⟩ (by simp) rfl)
   clear hall ho
   refine wpOp_step rfl (fun K hK=>?_)
   go_simp
   exact hK _ _ ⟨_,_,_,_,_,_,_,_,_,_,_,_,rfl,hS,q0,q1,q2,q3,q4,q5,q6,fun _=>rfl,q8,fun _=>rfl,fun _=>trivial,q12⟩
  ·obtain rfl:=Option.some.inj ho
   clear hall ho
   refine wpOp_step rfl (fun K hK=>?_)
   go_simp
   exact hK _ _ ⟨_,_,_,_,_,_,_,_,_,_,_,_,rfl,hS.new,q0,q1,q2,q3,q4,q5,q6,q7,q8,q9,fun _=>trivial,q12⟩
  ·obtain rfl:=Option.some.inj ho
   have e10:fL 10=true:=hall ⟨10,.data⟩ (by simp) rfl
   obtain rfl:=q8 (hall ⟨8,.data⟩ (by simp) rfl)
   obtain ⟨gb,x,y,rfl,Bb,hgb⟩:=hS.2 e10
   have z0:v.cell? ⟨gb,0,none⟩=some x:=Bb.cell 0
   have z1:v.cell? ⟨gb,1,none⟩=some y:=Bb.cell 1
   have zf0:=Bb.frozen 0
   have zf1:=Bb.frozen 1
   clear hall ho
   refine wpOp_step rfl (fun K hK=>?_)
   go_simp
   exact hK _ _ ⟨_,_,_,_,_,_,_,_,_,_,_,_,rfl,hS.set Bb hgb _ _,q0,q1,q2,q3,q4,q5,q6,q7,fun _=>rfl,q9,fun _=>trivial,q12⟩
  ·obtain rfl:=Option.some.inj ho
   obtain rfl:=q9 (hall ⟨9,.data⟩ (by simp) rfl)
   clear hall ho
   refine wpOp_step rfl (fun K hK=>?_)
   go_simp
   exact hK _ _ ⟨_,_,_,_,_,_,_,_,_,_,_,_,rfl,hS,q0,q1,q2,q3,q4,q5,q6,q7,q8,fun _=>rfl,fun _=>trivial,fun _=>rfl⟩
 ·rintro fL bA v ⟨v52,v53,v54,v55,v56,v57,v58,v51,v59,v60,v9,v10,rfl,hS,q0,q1,q2,q3,q4,q5,q6,q7,q8,q9,q10,q12⟩ hall
  simp only [Act.put,List.setIfInBounds_toArray,List.set_cons_zero,List.set_cons_succ]
  simp only [List.length_cons,List.length_nil] at hall
  obtain rfl:=q0 (hall 0 (by omega))
  obtain rfl:=q1 (hall 1 (by omega))
  obtain rfl:=q2 (hall 2 (by omega))
  obtain rfl:=q3 (hall 3 (by omega))
  obtain rfl:=q4 (hall 4 (by omega))
  obtain rfl:=q5 (hall 5 (by omega))
  obtain rfl:=q6 (hall 6 (by omega))
  obtain rfl:=q7 (hall 7 (by omega))
  obtain rfl:=q8 (hall 8 (by omega))
  obtain rfl:=q9 (hall 9 (by omega))
  have e10:fL 10=true:=hall 10 (by omega)
  obtain rfl:=q12 (hall 12 (by omega))
  have e11:fL 11=true:=hall 11 (by omega)
  clear hall
  have hb6:=hS.1
  have P6:=P5.below hb6
  have F3:=E3.below hb6 E3.lt
  have hS6:=hS5.trans (Spare.ofBelow hb6)
  clear P5 E3 E4 B7 hS5
  cases fq with
  | true =>
   go_wp2_with fail
   refine Calls.mono (hD 3 (.inl rfl) _ mv P6).out ?_;rintro e w7 ⟨rfl,mv7,P7,hS7⟩
   obtain ⟨G3,_⟩:=hS7.blk F3 (by omega) hw3
   have c0:w7.cell? ⟨w.heap.size,0,none⟩=some (.int .i64 d):=G3.cell 0
   have c1:w7.cell? ⟨w.heap.size,1,none⟩=some (.int .i64 t):=G3.cell 1
   go_wp2_with fail
   refine Calls.mono (hE 3 (.inl rfl) _ mv7 P7).out ?_;rintro e w8 ⟨rfl,mv8,P8,hS8⟩
   go_wp2
   refine bodyPost_end (v:=.tuple #[]) (by simp [results,Tryz.results116,go_sem]) rfl ⟨rfl,mv8,P8,(hS6.trans hS7).trans hS8⟩
  | false =>
   go_wp2_with fail
   refine Calls.mono (hD 4 (.inr rfl) _ mv P6).out ?_;rintro e w7 ⟨rfl,mv7,P7,hS7⟩
   obtain ⟨G3,_⟩:=hS7.blk F3 (by omega) hw3
   have c0:w7.cell? ⟨w.heap.size,0,none⟩=some (.int .i64 d):=G3.cell 0
   have c1:w7.cell? ⟨w.heap.size,1,none⟩=some (.int .i64 t):=G3.cell 1
   go_wp2_with fail
   refine Calls.mono (hE 4 (.inr rfl) _ mv7 P7).out ?_;rintro e w8 ⟨rfl,mv8,P8,hS8⟩
   go_wp2
   refine bodyPost_end (v:=.tuple #[]) (by simp [results,Tryz.results116,go_sem]) rfl ⟨rfl,mv8,P8,(hS6.trans hS7).trans hS8⟩
theorem termRest2_c {w0:World} {A1:Option Addr} {l1:List Int} {A2:Option Addr} {l2:List Int} (R:RuleIn w0 A1 l1 A2 l2) (L:Int) (c1 c2:Nat) (g:Nat) (sh cu:Int) (ms:List Move) (mv:Value) (d t:Int) (w:World)
  (P:PlAt w0 g L A1 l1.length c1 A2 l2.length c2 ⟨sh,cu,ms,true⟩ mv w) (hg:w0.heap.size ≤ g) (hp:okP ⟨sh,cu,ms,true⟩) (ht:termOK ⟨d,t,false⟩=true) (hr:ms.length ≤ 900)
  (hfit:fitsB sh d=false)
  : Calls Tryz.prog 116 #[.pointer (some ⟨g,0,none⟩),.agg #[.int .i64 d,.int .i64 t,.bool false]] w fun e w'=>e=.returned (.tuple #[])∧∃ mv',PlAt w0 g L A1 l1.length c1 A2 l2.length c2 (termP ⟨sh,cu,ms,true⟩ ⟨d,t,false⟩) mv' w'∧Spare w w' g mv mv':=by
 have hfb:=(term_bd ht).1
 simp only at hfb
 have hsB:=setB_fits d hp.1.1
 rw [hfit] at hsB
 have hC1:=fun (W:World) mv (PW:PlAt w0 g L A1 l1.length c1 A2 l2.length c2 ⟨sh,cu,ms,true⟩ mv W)=>can_c g L A1 l1.length c1 A2 l2.length c2 sh cu mv true 1 0 d t sh (pointC d+sh) false W PW.bp (fun W' hW'=>by
  have:=movedC_c R L c1 c2 sh cu 1 d t (by omega) hp.1 (fun _=>hfb) W' (PW.hb.trans (hW'.mono PW.hb.size))
  rw [show moveS sh cu 1 (pointC d)=(sh,pointC d+sh) from rfl] at this
  simp only at this hsB
  rw [hsB] at this
  exact this)
 have hC1:=fun W mv PW=>Lib.hid (hC1 W mv PW)
 have hT:=fun W mv PW=>Lib.hid (toCursor_c R L c1 c2 g ⟨sh,cu,ms,true⟩ mv W PW hg hp.1 (by simp only;omega))
 have hu:=okP_under hp
 have hue:=under_en ⟨sh,cu,ms,true⟩
 have hul:=under_len ⟨sh,cu,ms,true⟩
 have e:termP ⟨sh,cu,ms,true⟩ ⟨d,t,false⟩=mvP (mvP (underP ⟨sh,cu,ms,true⟩) (if fitsB (underP ⟨sh,cu,ms,true⟩).cu d then 3 else 4) 0 0 false) 1 d t false:=by
  unfold termP
  simp only [hfit]
  rfl
 rw [e]
 clear e ht
 generalize underP ⟨sh,cu,ms,true⟩=q at *
 have hq:=hu.1
 obtain ⟨qs,qc,qm,qe⟩:=q
 simp only at hue hq hul
 subst hue
 have hC:=fun (W:World) mv (PW:PlAt w0 g L A1 l1.length c1 A2 l2.length c2 ⟨qs,qc,qm,false⟩ mv W)=>can_c g L A1 l1.length c1 A2 l2.length c2 qs qc mv false 3 0 0 0 qc qc (setB qc qc) W PW.bp (fun W' hW'=>by
  have:=movedC_c R L c1 c2 qs qc 3 0 0 (by omega) hq (fun h=>by omega) W' (PW.hb.trans (hW'.mono PW.hb.size))
  rw [show moveS qs qc 3 (pointC 0)=(qc,qc) from rfl] at this
  exact this)
 have hC:=fun W mv PW=>Lib.hid (hC W mv PW)
 have hM:=fun (W:World) (hW:Below w0.heap.size w0 W)=>movedC_c R L c1 c2 qc qc 1 d t (by omega) (by omega) (fun _=>hfb) W hW
 rw [show moveS qc qc 1 (pointC d)=(qc,pointC d+qc) from rfl] at hM
 have hsC:=setB_fits d (sh:=qc) (by omega)
 simp only at hM hsC
 rw [hsC] at hM
 simp only
 clear hsC
 generalize fitsB qc d=fq at hM ⊢
 have hD:=fun k (hk:k=3 ∨ k=4) W mv PW=>Lib.hid (doP_c R L c1 c2 g ⟨qs,qc,qm,false⟩ mv k 0 0 W PW hg (by omega) hq (fun h=>by omega) (by simp only;omega))
 have hE:=fun k (hk:k=3 ∨ k=4) W mv PW=>Lib.hid (doP_c R L c1 c2 g (mvP ⟨qs,qc,qm,false⟩ k 0 0 false) mv 1 d t W PW hg (by omega) (mv_bd hq hk) (fun _=>hfb) (by simp [mvP];omega))
 have hM:=Lib.hid hM
 have hgl:=P.bp.lt
 have k6:w.cell? ⟨g,6,none⟩=some (.bool true):=P.bp.cell 6
 have hw3:=own_lt P.own (Nat.le_refl w.heap.size)
 have hw4:=own_lt P.own (Nat.le_succ w.heap.size)
 have hW:Below w.heap.size w ((w.alloc (.cells #[.int .i64 d,.int .i64 t,.bool false] 100)).alloc (.cells #[.int .i64 1,.int .i64 0,.int .i64 d,.int .i64 t] 75)):=(by repeat first | with_reducible (first | exact Below.refl _ _ | apply below_drewN' | apply Below.drew | refine Below.alloc ?_ ?_ _ | refine Below.setCell ?_ ?_ _) | exact Below.refl _ _ | omega | (simp <;> omega) | (have:=(Below.refl _ _).size;first | omega | (simp <;> omega)))
 have hB3:Blk ((w.alloc (.cells #[.int .i64 d,.int .i64 t,.bool false] 100)).alloc (.cells #[.int .i64 1,.int .i64 0,.int .i64 d,.int .i64 t] 75)) w.heap.size 100 #[.int .i64 d,.int .i64 t,.bool false]:=(Blk.new _ _ _).alloc _
 have hB4:Blk ((w.alloc (.cells #[.int .i64 d,.int .i64 t,.bool false] 100)).alloc (.cells #[.int .i64 1,.int .i64 0,.int .i64 d,.int .i64 t] 75)) (w.heap.size+1) 75 #[.int .i64 1,.int .i64 0,.int .i64 d,.int .i64 t]:=Blk.new' _ _ _ (by simp)
 have PW:=P.below hW
 clear P hq hul hu hp hr hfit hsB
 go_enter Tryz.func116,Tryz.ntmps116
 go_wp2_with fail
 generalize ((w.alloc (.cells #[.int .i64 d,.int .i64 t,.bool false] 100)).alloc (.cells #[.int .i64 1,.int .i64 0,.int .i64 d,.int .i64 t] 75))=W at *
 clear k6
 have hSW:Spare w W g mv mv:=Spare.ofBelow hW
 refine Calls.mono (hC1 W mv PW).out ?_;rintro e w1 ⟨rfl,hb1⟩
 have PW1:=PW.below hb1
 have hB3a:=hB3.below hb1 hB3.lt
 have hB4a:=hB4.below hb1 hB4.lt
 have hSW1:=hSW.trans (Spare.ofBelow hb1)
 clear hb1 PW hB3 hB4 hSW hW
 go_wp2_with fail
 have hba:Below w1.heap.size w1 (w1.alloc (.cells #[.int .i64 sh,.int .i64 (pointC d+sh)] 104)):=(Below.refl _ _).alloc (Nat.le_refl _) _
 have PW2:=PW1.below hba
 have hB3b:=hB3a.below hba hB3a.lt
 have hB4b:=hB4a.below hba hB4a.lt
 have hSW2:=hSW1.trans (Spare.ofBelow hba)
 clear PW1 hB3a hB4a hSW1 hba
 generalize w1.alloc (.cells #[.int .i64 sh,.int .i64 (pointC d+sh)] 104)=w3 at *
 refine Calls.mono (hT w3 mv PW2).out ?_;rintro e w4 ⟨rfl,mv,P1,hS4⟩
 have hS1:=hSW2.trans hS4
 obtain ⟨hB3,hw3⟩:=hS4.blk hB3b (by omega) hw3
 obtain ⟨hB4,hw4⟩:=hS4.blk hB4b (by omega) hw4
 clear PW2 hB3b hB4b hSW2 hS4
 go_wp2_with fail
 refine Calls.mono (hC w4 mv P1).out ?_;rintro e w2 ⟨rfl,hb2⟩
 have P2:=P1.below hb2
 have D3:=hB3.below hb2 hB3.lt
 have D4:=hB4.below hb2 hB4.lt
 have hS2:=hS1.trans (Spare.ofBelow hb2)
 clear P1 hB3 hB4 hS1 hb2
 go_wp2_with fail
 have hba:Below w2.heap.size w2 (w2.alloc (.cells #[.int .i64 qc,.int .i64 qc] 104)):=(Below.refl _ _).alloc (Nat.le_refl _) _
 have B7:=Blk.new w2 104 #[.int .i64 qc,.int .i64 qc]
 have P5:=P2.below hba
 have E3:=D3.below hba D3.lt
 have E4:=D4.below hba D4.lt
 have hS5:=hS2.trans (Spare.ofBelow hba)
 clear P2 D3 D4 hS2 hba
 generalize w2.alloc (.cells #[.int .i64 qc,.int .i64 qc] 104)=w5 at *
 generalize w2.heap.size=g7 at *
 have hA0:AlS w5 false undef w5.drew:=⟨(Below.refl _ _).drew,nofun⟩
 refine wp_region_all (fun a0 fL bA v=>∃ v52 v53 v54 v55 v56 v57 v58 v51 v59 v60 v9 v10:Value,bA=(((((((((((a0.put (some 52) v52).put (some 53) v53).put (some 54) v54).put (some 55) v55).put (some 56) v56).put (some 57) v57).put (some 58) v58).put (some 51) v51).put (some 59) v59).put (some 60) v60).put (some 9) v9).put (some 10) v10∧(AlS w5 (fL 10) v9 v)∧(fL 0=true→v52=.pointer (some ⟨g,0,none⟩))∧(fL 1=true→v53=.pointer (some ⟨g,0,none⟩))∧(fL 2=true→v54=.pointer (some ⟨g,0,none⟩))∧(fL 3=true→v55=.agg #[.int .i64 L,.slice A1 l1.length c1,.slice A2 l2.length c2])∧(fL 4=true→v56=.agg #[.int .i64 qc,.int .i64 qc])∧(fL 5=true→v57=.agg #[.int .i64 1,.int .i64 0,.int .i64 d,.int .i64 t])∧(fL 6=true→v58=.tuple #[.agg #[.int .i64 qc,.int .i64 (pointC d+qc)],.bool fq])∧(fL 7=true→v51=.tuple #[.agg #[.int .i64 qc,.int .i64 (pointC d+qc)],.bool fq])∧(fL 8=true→v59=.agg #[.int .i64 qc,.int .i64 (pointC d+qc)])∧(fL 9=true→v60=.bool fq)∧(fL 10=true→True)∧(fL 12=true→v10=.bool fq)) (by kernel_rfl) (by decide +kernel) ?_ ?_ ?_
 ·exact ⟨undef,undef,undef,undef,undef,undef,undef,undef,undef,undef,undef,undef,by simp only [Act.put,List.setIfInBounds_toArray,List.set_cons_zero,List.set_cons_succ],hA0,nofun,nofun,nofun,nofun,nofun,nofun,nofun,nofun,nofun,nofun,nofun,nofun⟩
 ·rintro fL bA v ⟨v52,v53,v54,v55,v56,v57,v58,v51,v59,v60,v9,v10,rfl,hS,q0,q1,q2,q3,q4,q5,q6,q7,q8,q9,q10,q12⟩ i hi hf o ho hall
  simp only [Act.put,List.setIfInBounds_toArray,List.set_cons_zero,List.set_cons_succ]
  simp only [List.length_cons,List.length_nil] at hi
  have hn:i=0 ∨ i=1 ∨ i=2 ∨ i=3 ∨ i=4 ∨ i=5 ∨ i=6 ∨ i=7 ∨ i=8 ∨ i=9 ∨ i=10 ∨ i=11 ∨ i=12:=by omega
  clear hi
  rcases hn with rfl | rfl | rfl | rfl | rfl | rfl | rfl | rfl | rfl | rfl | rfl | rfl | rfl
  ·obtain rfl:=Option.some.inj ho
   clear hall ho
   refine wpOp_step rfl (fun K hK=>?_)
   go_simp
   exact hK _ _ ⟨_,_,_,_,_,_,_,_,_,_,_,_,rfl,hS,fun _=>rfl,q1,q2,q3,q4,q5,q6,q7,q8,q9,fun _=>trivial,q12⟩
  ·obtain rfl:=Option.some.inj ho
   obtain rfl:=q0 (hall ⟨0,.data⟩ (by simp) rfl)
   clear hall ho
   refine wpOp_step rfl (fun K hK=>?_)
   go_simp
   exact hK _ _ ⟨_,_,_,_,_,_,_,_,_,_,_,_,rfl,hS,fun _=>rfl,fun _=>rfl,q2,q3,q4,q5,q6,q7,q8,q9,fun _=>trivial,q12⟩
  ·obtain rfl:=Option.some.inj ho
   obtain rfl:=q1 (hall ⟨1,.data⟩ (by simp) rfl)
   clear hall ho
   refine wpOp_step rfl (fun K hK=>?_)
   go_simp
   exact hK _ _ ⟨_,_,_,_,_,_,_,_,_,_,_,_,rfl,hS,q0,fun _=>rfl,fun _=>rfl,q3,q4,q5,q6,q7,q8,q9,fun _=>trivial,q12⟩
  ·obtain rfl:=Option.some.inj ho
   obtain rfl:=q2 (hall ⟨2,.data⟩ (by simp) rfl)
   have Bp:=P5.bp.below hS.1 P5.bp.lt
   have c0:v.cell? ⟨g,0,none⟩=some (.int .i64 L):=Bp.cell 0
   have c1:v.cell? ⟨g,1,none⟩=some (.slice A1 l1.length c1):=Bp.cell 1
   have c2:v.cell? ⟨g,2,none⟩=some (.slice A2 l2.length c2):=Bp.cell 2
   clear hall ho
   refine wpOp_step rfl (fun K hK=>?_)
   go_simp
   exact hK _ _ ⟨_,_,_,_,_,_,_,_,_,_,_,_,rfl,hS,q0,q1,fun _=>rfl,fun _=>rfl,q4,q5,q6,q7,q8,q9,fun _=>trivial,q12⟩
  ·obtain rfl:=Option.some.inj ho
   have Bp:=B7.below hS.1 B7.lt
   have c0:v.cell? ⟨g7,0,none⟩=some (.int .i64 qc):=Bp.cell 0
   have c1:v.cell? ⟨g7,1,none⟩=some (.int .i64 qc):=Bp.cell 1
   clear hall ho
   refine wpOp_step rfl (fun K hK=>?_)
   go_simp
   exact hK _ _ ⟨_,_,_,_,_,_,_,_,_,_,_,_,rfl,hS,q0,q1,q2,q3,fun _=>rfl,q5,q6,q7,q8,q9,fun _=>trivial,q12⟩
  ·obtain rfl:=Option.some.inj ho
   have Bp:=E4.below hS.1 E4.lt
   have c0:v.cell? ⟨w.heap.size+1,0,none⟩=some (.int .i64 1):=Bp.cell 0
   have c1:v.cell? ⟨w.heap.size+1,1,none⟩=some (.int .i64 0):=Bp.cell 1
   have c2:v.cell? ⟨w.heap.size+1,2,none⟩=some (.int .i64 d):=Bp.cell 2
   have c3:v.cell? ⟨w.heap.size+1,3,none⟩=some (.int .i64 t):=Bp.cell 3
   clear hall ho
   refine wpOp_step rfl (fun K hK=>?_)
   go_simp
   exact hK _ _ ⟨_,_,_,_,_,_,_,_,_,_,_,_,rfl,hS,q0,q1,q2,q3,q4,fun _=>rfl,q6,q7,q8,q9,fun _=>trivial,q12⟩
  ·obtain rfl:=Option.some.inj ho
   obtain rfl:=q3 (hall ⟨3,.data⟩ (by simp) rfl)
   obtain rfl:=q4 (hall ⟨4,.data⟩ (by simp) rfl)
   obtain rfl:=q5 (hall ⟨5,.data⟩ (by simp) rfl)
   clear hall ho
   refine wpOp_step rfl (fun K hK=>?_)
   go_simp
   refine Calls.mono ((hM.out _ (P5.below hS.1).hb).out) ?_;rintro e w1 ⟨rfl,hb1⟩
   go_simp
   exact hK _ _ ⟨_,_,_,_,_,_,_,_,_,_,_,_,rfl,hS.below hb1,q0,q1,q2,fun _=>rfl,fun _=>rfl,fun _=>rfl,fun _=>rfl,q7,q8,q9,fun _=>trivial,q12⟩
  ·obtain rfl:=Option.some.inj ho
   obtain rfl:=q6 (hall ⟨6,.data⟩ (by simp) rfl)
   clear hall ho
   refine wpOp_step rfl (fun K hK=>?_)
   go_simp
   exact hK _ _ ⟨_,_,_,_,_,_,_,_,_,_,_,_,rfl,hS,q0,q1,q2,q3,q4,q5,fun _=>rfl,fun _=>rfl,q8,q9,fun _=>trivial,q12⟩
  ·obtain rfl:=Option.some.inj ho
   obtain rfl:=q7 (hall ⟨7,.data⟩ (by simp) rfl)
   clear hall ho
   refine wpOp_step rfl (fun K hK=>?_)
   go_simp
   exact hK _ _ ⟨_,_,_,_,_,_,_,_,_,_,_,_,rfl,hS,q0,q1,q2,q3,q4,q5,q6,fun _=>rfl,fun _=>rfl,q9,fun _=>trivial,q12⟩
  ·obtain rfl:=Option.some.inj ho
   obtain rfl:=q7 (hall ⟨7,.data⟩ (by simp) rfl)
   clear hall ho
   refine wpOp_step rfl (fun K hK=>?_)
   go_simp
   exact hK _ _ ⟨_,_,_,_,_,_,_,_,_,_,_,_,rfl,hS,q0,q1,q2,q3,q4,q5,q6,fun _=>rfl,q8,fun _=>rfl,fun _=>trivial,q12⟩
  ·obtain rfl:=Option.some.inj ho
   clear hall ho
   refine wpOp_step rfl (fun K hK=>?_)
   go_simp
   exact hK _ _ ⟨_,_,_,_,_,_,_,_,_,_,_,_,rfl,hS.new,q0,q1,q2,q3,q4,q5,q6,q7,q8,q9,fun _=>trivial,q12⟩
  ·obtain rfl:=Option.some.inj ho
   have e10:fL 10=true:=hall ⟨10,.data⟩ (by simp) rfl
   obtain rfl:=q8 (hall ⟨8,.data⟩ (by simp) rfl)
   obtain ⟨gb,x,y,rfl,Bb,hgb⟩:=hS.2 e10
   have z0:v.cell? ⟨gb,0,none⟩=some x:=Bb.cell 0
   have z1:v.cell? ⟨gb,1,none⟩=some y:=Bb.cell 1
   have zf0:=Bb.frozen 0
   have zf1:=Bb.frozen 1
   clear hall ho
   refine wpOp_step rfl (fun K hK=>?_)
   go_simp
   exact hK _ _ ⟨_,_,_,_,_,_,_,_,_,_,_,_,rfl,hS.set Bb hgb _ _,q0,q1,q2,q3,q4,q5,q6,q7,fun _=>rfl,q9,fun _=>trivial,q12⟩
  ·obtain rfl:=Option.some.inj ho
   obtain rfl:=q9 (hall ⟨9,.data⟩ (by simp) rfl)
   clear hall ho
   refine wpOp_step rfl (fun K hK=>?_)
   go_simp
   exact hK _ _ ⟨_,_,_,_,_,_,_,_,_,_,_,_,rfl,hS,q0,q1,q2,q3,q4,q5,q6,q7,q8,fun _=>rfl,fun _=>trivial,fun _=>rfl⟩
 ·rintro fL bA v ⟨v52,v53,v54,v55,v56,v57,v58,v51,v59,v60,v9,v10,rfl,hS,q0,q1,q2,q3,q4,q5,q6,q7,q8,q9,q10,q12⟩ hall
  simp only [Act.put,List.setIfInBounds_toArray,List.set_cons_zero,List.set_cons_succ]
  simp only [List.length_cons,List.length_nil] at hall
  obtain rfl:=q0 (hall 0 (by omega))
  obtain rfl:=q1 (hall 1 (by omega))
  obtain rfl:=q2 (hall 2 (by omega))
  obtain rfl:=q3 (hall 3 (by omega))
  obtain rfl:=q4 (hall 4 (by omega))
  obtain rfl:=q5 (hall 5 (by omega))
  obtain rfl:=q6 (hall 6 (by omega))
  obtain rfl:=q7 (hall 7 (by omega))
  obtain rfl:=q8 (hall 8 (by omega))
  obtain rfl:=q9 (hall 9 (by omega))
  have e10:fL 10=true:=hall 10 (by omega)
  obtain rfl:=q12 (hall 12 (by omega))
  have e11:fL 11=true:=hall 11 (by omega)
  clear hall
  have hb6:=hS.1
  have P6:=P5.below hb6
  have F3:=E3.below hb6 E3.lt
  have hS6:=hS5.trans (Spare.ofBelow hb6)
  clear P5 E3 E4 B7 hS5
  cases fq with
  | true =>
   go_wp2_with fail
   refine Calls.mono (hD 3 (.inl rfl) _ mv P6).out ?_;rintro e w7 ⟨rfl,mv7,P7,hS7⟩
   obtain ⟨G3,_⟩:=hS7.blk F3 (by omega) hw3
   have c0:w7.cell? ⟨w.heap.size,0,none⟩=some (.int .i64 d):=G3.cell 0
   have c1:w7.cell? ⟨w.heap.size,1,none⟩=some (.int .i64 t):=G3.cell 1
   go_wp2_with fail
   refine Calls.mono (hE 3 (.inl rfl) _ mv7 P7).out ?_;rintro e w8 ⟨rfl,mv8,P8,hS8⟩
   go_wp2
   refine bodyPost_end (v:=.tuple #[]) (by simp [results,Tryz.results116,go_sem]) rfl ⟨rfl,mv8,P8,(hS6.trans hS7).trans hS8⟩
  | false =>
   go_wp2_with fail
   refine Calls.mono (hD 4 (.inr rfl) _ mv P6).out ?_;rintro e w7 ⟨rfl,mv7,P7,hS7⟩
   obtain ⟨G3,_⟩:=hS7.blk F3 (by omega) hw3
   have c0:w7.cell? ⟨w.heap.size,0,none⟩=some (.int .i64 d):=G3.cell 0
   have c1:w7.cell? ⟨w.heap.size,1,none⟩=some (.int .i64 t):=G3.cell 1
   go_wp2_with fail
   refine Calls.mono (hE 4 (.inr rfl) _ mv7 P7).out ?_;rintro e w8 ⟨rfl,mv8,P8,hS8⟩
   go_wp2
   refine bodyPost_end (v:=.tuple #[]) (by simp [results,Tryz.results116,go_sem]) rfl ⟨rfl,mv8,P8,(hS6.trans hS7).trans hS8⟩
end Go.Proofs.YtednjmldjbndhaaGreat
