/- Points on a chart's scales: the reference's. Conditions: the chart and the figure are valid. -/
import Derived.Test.YtednjmldjbndhaaGreatDoorKMr12
set_option linter.unusedSimpArgs false
set_option linter.unusedVariables false
set_option maxRecDepth 100000
set_option maxHeartbeats 8000000
namespace Go.Proofs.YtednjmldjbndhaaGreatDoor
open Go.RowKit
def ptv (code col P1 P2:Int):Value:=if code=0 then .agg #[.int .i64 col,.int .i64 ((P1+P2) / 2)] else .agg #[.int .i64 0,.int .i64 0]
theorem ptv_0 (col P1 P2:Int):ptv 0 col P1 P2=.agg #[.int .i64 col,.int .i64 ((P1+P2) / 2)]:=rfl
theorem ptv_3 (col P1 P2:Int):ptv 3 col P1 P2=.agg #[.int .i64 0,.int .i64 0]:=rfl
theorem ptv_two (code col P1 P2:Int):∃ x y,ptv code col P1 P2=.agg #[.int .i64 x,.int .i64 y]:=by
 unfold ptv
 split
 ·exact ⟨_,_,rfl⟩
 ·exact ⟨_,_,rfl⟩
theorem specChartPoint_c (fd ft:Int) (s:ByteArray) (b off c:Nat) (p0 p1 wd lf rt k:Int) (f:Figure) (w:World) (hk:k=0 ∨ k=1) (hsz:s.size ≤ 1048576) (hb:b < w.heap.size) (c0:w.cell? ⟨b,off,none⟩=some (.int .i64 p0)) (c1:w.cell? ⟨b,off+1,none⟩=some (.int .i64 p1))
  (hs:Sl w w.heap.size 1 (some ⟨b,off,none⟩) ([p0,p1].map ic)) (hc:chartB fd ft s [p0,p1] wd lf rt=true) (hf:figOK f=true)
  (hp0:-6 ≤ p0∧p0 ≤ 6) (hp1:-6 ≤ p1∧p1 ≤ 6) (hlf:100 ≤ lf∧lf ≤ 20000) (hrt:100 ≤ rt∧rt ≤ 20000) :
  Calls Tryz.prog 115 #[.agg #[.int .i64 fd,.int .i64 ft,.string s,.slice (some ⟨b,off,none⟩) 2 c,.int .i64 wd,.int .i64 lf,.int .i64 rt],.int .i64 k,f.agg] w fun e w'=>e=.returned (.tuple #[ptv (plCode (if k=0 then lf * p0 else rt * p1) f) (if k=0 then 0 else wd) (pl2 (if k=0 then lf * p0 else rt * p1) f).1 (pl2 (if k=0 then lf * p0 else rt * p1) f).2,.int .i64 (plCode (if k=0 then lf * p0 else rt * p1) f)])∧Below w.heap.size w w':=by
 have hW:Below w.heap.size w (((w.alloc (.cells #[.int .i64 fd,.int .i64 ft,.string s,.slice (some ⟨b,off,none⟩) 2 c,.int .i64 wd,.int .i64 lf,.int .i64 rt] 31)).alloc (.cells #[.int .i64 f.digits,.int .i64 f.tens] 26)).alloc (.cells #[.int .i64 0,.int .i64 0] 124)):=(by repeat first | with_reducible (first | exact Below.refl _ _ | apply below_drewN' | apply Below.drew | refine Below.alloc ?_ ?_ _ | refine Below.setCell ?_ ?_ _) | exact Below.refl _ _ | omega | (simp <;> omega) | (have:=(Below.refl _ _).size;first | omega | (simp <;> omega)))
 have HP:=specChartPlace_c fd ft s b off c p0 p1 wd lf rt k f _ hk hsz (Nat.lt_of_lt_of_le hb hW.size) (by rw [hW.cell hb];exact c0) (by rw [hW.cell hb];exact c1) ((hs.below hW).more hW.size) hc hf hp0 hp1 hlf hrt
 have HCo:=fun W=>Lib.hid (l23Column_c fd ft s (some ⟨b,off,none⟩) 2 c wd lf rt k W hk)
 generalize (if k=0 then 0 else wd)=col at HCo ⊢
 generalize (if k=0 then lf * p0 else rt * p1)=n at *
 have hz:=@pl2_bd n f
 rcases plCode_two n f with hcd | hcd
 all_goals
  rw [hcd] at HP hz ⊢
  clear hcd hc hf hs hsz hk
  generalize (pl2 n f).1=P1 at *
  generalize (pl2 n f).2=P2 at *
  unfold Figure.agg at HP ⊢
  replace HP:=Lib.hid HP
  have B0:=((Blk.new w 31 #[.int .i64 fd,.int .i64 ft,.string s,.slice (some ⟨b,off,none⟩) 2 c,.int .i64 wd,.int .i64 lf,.int .i64 rt]).alloc (.cells #[.int .i64 f.digits,.int .i64 f.tens] 26)).alloc (.cells #[.int .i64 0,.int .i64 0] 124)
  have B2:=Blk.new' ((w.alloc (.cells #[.int .i64 fd,.int .i64 ft,.string s,.slice (some ⟨b,off,none⟩) 2 c,.int .i64 wd,.int .i64 lf,.int .i64 rt] 31)).alloc (.cells #[.int .i64 f.digits,.int .i64 f.tens] 26)) 124 #[.int .i64 0,.int .i64 0] (g:=w.heap.size+1+1) (by simp)
  go_enter Tryz.func115,Tryz.ntmps115
  go_wp2_with fail
  refine Calls.mono HP.out ?_;rintro e w1 ⟨rfl,hb1⟩
  have hW1:=hW.trans (hb1.mono hW.size)
  have C2:=B2.below hb1 B2.lt
  have D0:=(B0.below hb1 B0.lt).alloc (.cells #[.int .i64 P1,.int .i64 P2] 149)
  have D2:=C2.alloc (.cells #[.int .i64 P1,.int .i64 P2] 149)
  have z2:=C2.lt
  have D8:=Blk.new w1 149 #[.int .i64 P1,.int .i64 P2]
  have hs1:=hW1.size
  have hW2:Below w.heap.size w (w1.alloc (.cells #[.int .i64 P1,.int .i64 P2] 149)):=(by repeat first | with_reducible (first | exact hW1 | apply below_drewN' | apply Below.drew | refine Below.alloc ?_ ?_ _ | refine Below.setCell ?_ ?_ _) | exact hW1 | omega | (simp <;> omega) | (have:=(hW1).size;first | omega | (simp <;> omega)))
  clear B0 B2 hW hb1 HP
 ·obtain ⟨⟨z5,z6⟩,z7,z8⟩:=hz (by first | trivial | rfl)
  clear hz
  have HD:=fun W=>Lib.hid (l01Floor_c (P1+P2) 2 W (by omega) (by omega))
  generalize hm:(P1+P2) / 2=m at HD
  replace hm:=Lib.hid hm
  have hw2:IntKind.i64.wrap (P1+P2)=P1+P2:=IntWalk.i64_in _ (by omega)
  go_wp2_with fail
  generalize w1.alloc (.cells #[.int .i64 P1,.int .i64 P2] 149)=V at *
  generalize w1.heap.size=g8 at *
  have zV:=D8.lt
  refine wp_region_sink 10 (fun a0 fL bA v=>∃ v21 v22 v23 v24 v25 v26 v27 v28 v29 v30:Value,bA=(((((((((a0.put (some 21) v21).put (some 22) v22).put (some 23) v23).put (some 24) v24).put (some 25) v25).put (some 26) v26).put (some 27) v27).put (some 28) v28).put (some 29) v29).put (some 30) v30∧(Below V.heap.size V v)∧(fL 0=true→v21=.agg #[.int .i64 fd,.int .i64 ft,.string s,.slice (some ⟨b,off,none⟩) 2 c,.int .i64 wd,.int .i64 lf,.int .i64 rt])∧(fL 1=true→v22=.int .i64 k)∧(fL 2=true→v23=.int .i64 col)∧(fL 3=true→v24=.pointer (some ⟨g8,0,none⟩))∧(fL 4=true→v25=.int .i64 P1)∧(fL 5=true→v26=.pointer (some ⟨g8,1,none⟩))∧(fL 6=true→v27=.int .i64 P2)∧(fL 7=true→v28=.int .i64 (P1+P2))∧(fL 8=true→v29=.int .i64 m)∧(fL 9=true→v30=.agg #[.int .i64 col,.int .i64 m])) (by kernel_rfl) (by decide +kernel) ?_ ?_ ?_
  ·exact ⟨undef,undef,undef,undef,undef,undef,undef,undef,undef,undef,by simp only [Act.put,List.setIfInBounds_toArray,List.set_cons_zero,List.set_cons_succ],(Below.refl _ _).drew,nofun,nofun,nofun,nofun,nofun,nofun,nofun,nofun,nofun,nofun⟩
  ·rintro fL bA v ⟨v21,v22,v23,v24,v25,v26,v27,v28,v29,v30,rfl,hS,q0,q1,q2,q3,q4,q5,q6,q7,q8,q9⟩ i hi hf o ho hall
   simp only [Act.put,List.setIfInBounds_toArray,List.set_cons_zero,List.set_cons_succ]
   have hn:i=0 ∨ i=1 ∨ i=2 ∨ i=3 ∨ i=4 ∨ i=5 ∨ i=6 ∨ i=7 ∨ i=8 ∨ i=9:=by omega
   clear hi
   rcases hn with rfl | rfl | rfl | rfl | rfl | rfl | rfl | rfl | rfl | rfl
   ·obtain rfl:=Option.some.inj ho
    have F:=D0.below hS D0.lt
    have y0:v.cell? ⟨w.heap.size,0,none⟩=some (.int .i64 fd):=F.cell 0
    have y1:v.cell? ⟨w.heap.size,1,none⟩=some (.int .i64 ft):=F.cell 1
    have y2:v.cell? ⟨w.heap.size,2,none⟩=some (.string s):=F.cell 2
    have y3:v.cell? ⟨w.heap.size,3,none⟩=some (.slice (some ⟨b,off,none⟩) 2 c):=F.cell 3
    have y4:v.cell? ⟨w.heap.size,4,none⟩=some (.int .i64 wd):=F.cell 4
    have y5:v.cell? ⟨w.heap.size,5,none⟩=some (.int .i64 lf):=F.cell 5
    have y6:v.cell? ⟨w.heap.size,6,none⟩=some (.int .i64 rt):=F.cell 6
    clear hall ho
    refine wpOp_step rfl (fun K hK=>?_)
    go_simp
    exact hK _ _ ⟨_,_,_,_,_,_,_,_,_,_,rfl,hS,fun _=>rfl,q1,q2,q3,q4,q5,q6,q7,q8,q9⟩
   ·obtain rfl:=Option.some.inj ho
    clear hall ho
    refine wpOp_step rfl (fun K hK=>?_)
    go_simp
    exact hK _ _ ⟨_,_,_,_,_,_,_,_,_,_,rfl,hS,q0,fun _=>rfl,q2,q3,q4,q5,q6,q7,q8,q9⟩
   ·obtain rfl:=Option.some.inj ho
    obtain rfl:=q0 (hall ⟨0,.data⟩ (by simp) rfl)
    obtain rfl:=q1 (hall ⟨1,.data⟩ (by simp) rfl)
    clear hall ho
    refine wpOp_step rfl (fun K hK=>?_)
    go_simp
    refine Calls.mono ((HCo v).out) ?_;rintro e w1 ⟨rfl,hb1⟩
    go_simp
    exact hK _ _ ⟨_,_,_,_,_,_,_,_,_,_,rfl,hS.trans (hb1.mono hS.size),fun _=>rfl,fun _=>rfl,fun _=>rfl,q3,q4,q5,q6,q7,q8,q9⟩
   ·obtain rfl:=Option.some.inj ho
    clear hall ho
    refine wpOp_step rfl (fun K hK=>?_)
    go_simp
    exact hK _ _ ⟨_,_,_,_,_,_,_,_,_,_,rfl,hS,q0,q1,q2,fun _=>rfl,q4,q5,q6,q7,q8,q9⟩
   ·obtain rfl:=Option.some.inj ho
    obtain rfl:=q3 (hall ⟨3,.data⟩ (by simp) rfl)
    have y0:v.cell? ⟨g8,0,none⟩=some (.int .i64 P1):=(D8.below hS D8.lt).cell 0
    clear hall ho
    refine wpOp_step rfl (fun K hK=>?_)
    go_simp
    exact hK _ _ ⟨_,_,_,_,_,_,_,_,_,_,rfl,hS,q0,q1,q2,fun _=>rfl,fun _=>rfl,q5,q6,q7,q8,q9⟩
   ·obtain rfl:=Option.some.inj ho
    clear hall ho
    refine wpOp_step rfl (fun K hK=>?_)
    go_simp
    exact hK _ _ ⟨_,_,_,_,_,_,_,_,_,_,rfl,hS,q0,q1,q2,q3,q4,fun _=>rfl,q6,q7,q8,q9⟩
   ·obtain rfl:=Option.some.inj ho
    obtain rfl:=q5 (hall ⟨5,.data⟩ (by simp) rfl)
    have y0:v.cell? ⟨g8,1,none⟩=some (.int .i64 P2):=(D8.below hS D8.lt).cell 1
    clear hall ho
    refine wpOp_step rfl (fun K hK=>?_)
    go_simp
    exact hK _ _ ⟨_,_,_,_,_,_,_,_,_,_,rfl,hS,q0,q1,q2,q3,q4,fun _=>rfl,fun _=>rfl,q7,q8,q9⟩
   ·obtain rfl:=Option.some.inj ho
    obtain rfl:=q4 (hall ⟨4,.data⟩ (by simp) rfl)
    obtain rfl:=q6 (hall ⟨6,.data⟩ (by simp) rfl)
    clear hall ho
    refine wpOp_step rfl (fun K hK=>?_)
    go_simp
    exact hK _ _ ⟨_,_,_,_,_,_,_,_,_,_,rfl,hS,q0,q1,q2,q3,fun _=>rfl,q5,fun _=>rfl,fun _=>rfl,q8,q9⟩
   ·obtain rfl:=Option.some.inj ho
    obtain rfl:=q7 (hall ⟨7,.data⟩ (by simp) rfl)
    clear hall ho
    refine wpOp_step rfl (fun K hK=>?_)
    go_simp
    refine Calls.mono ((calls_same (HD v).out)) ?_;rintro e w1 ⟨rfl,hb1⟩
    go_simp
    exact hK _ _ ⟨_,_,_,_,_,_,_,_,_,_,rfl,hS.trans (hb1.mono hS.size),q0,q1,q2,q3,q4,q5,q6,fun _=>rfl,fun _=>rfl,q9⟩
   ·obtain rfl:=Option.some.inj ho
    obtain rfl:=q2 (hall ⟨2,.data⟩ (by simp) rfl)
    obtain rfl:=q8 (hall ⟨8,.data⟩ (by simp) rfl)
    clear hall ho
    refine wpOp_step rfl (fun K hK=>?_)
    go_simp
    exact hK _ _ ⟨_,_,_,_,_,_,_,_,_,_,rfl,hS,q0,q1,fun _=>rfl,q3,q4,q5,q6,q7,fun _=>rfl,fun _=>rfl⟩
  ·rintro fL bA v ⟨v21,v22,v23,v24,v25,v26,v27,v28,v29,v30,rfl,hS,q0,q1,q2,q3,q4,q5,q6,q7,q8,q9⟩ hall
   simp only [Act.put,List.setIfInBounds_toArray,List.set_cons_zero,List.set_cons_succ]
   obtain rfl:=q0 (hall 0 (by omega))
   obtain rfl:=q1 (hall 1 (by omega))
   obtain rfl:=q2 (hall 2 (by omega))
   obtain rfl:=q3 (hall 3 (by omega))
   obtain rfl:=q4 (hall 4 (by omega))
   obtain rfl:=q5 (hall 5 (by omega))
   obtain rfl:=q6 (hall 6 (by omega))
   obtain rfl:=q7 (hall 7 (by omega))
   obtain rfl:=q8 (hall 8 (by omega))
   obtain rfl:=q9 (hall 9 (by omega))
   clear hall
   simp only [List.drop_succ_cons,List.drop_zero]
   have E2:=D2.below hS D2.lt
   have r0:v.cell? ⟨w.heap.size+1+1,0,none⟩=some (.int .i64 0):=E2.cell 0
   have r1:v.cell? ⟨w.heap.size+1+1,1,none⟩=some (.int .i64 0):=E2.cell 1
   have rf0:v.frozen? ⟨w.heap.size+1+1,0,none⟩=false:=E2.frozen 0
   have rf1:v.frozen? ⟨w.heap.size+1+1,1,none⟩=false:=E2.frozen 1
   have hW3:=hW2.trans (hS.mono hW2.size)
   go_wp2_with fail
   refine bodyPost_ret (v:=.tuple #[.agg #[.int .i64 col,.int .i64 m],.int .i64 0]) (by simp [results,Tryz.results115,go_sem,r0,r1]) rfl ⟨by rw [ptv_0,hm.out],(by repeat first | with_reducible (first | exact hW3 | apply below_drewN' | apply Below.drew | refine Below.alloc ?_ ?_ _ | refine Below.setCell ?_ ?_ _) | exact hW3 | omega | (simp <;> omega) | (have:=(hW3).size;first | omega | (simp <;> omega)))⟩
 ·have r0:w1.cell? ⟨w.heap.size+1+1,0,none⟩=some (.int .i64 0):=C2.cell 0
  have r1:w1.cell? ⟨w.heap.size+1+1,1,none⟩=some (.int .i64 0):=C2.cell 1
  have rf0:w1.frozen? ⟨w.heap.size+1+1,0,none⟩=false:=C2.frozen 0
  have rf1:w1.frozen? ⟨w.heap.size+1+1,1,none⟩=false:=C2.frozen 1
  go_wp2_with fail
  refine bodyPost_ret (v:=.tuple #[.agg #[.int .i64 0,.int .i64 0],.int .i64 3]) (by simp [results,Tryz.results115,go_sem,r0,r1,z2]) rfl ⟨by rw [ptv_3],(by repeat first | with_reducible (first | exact hW1 | apply below_drewN' | apply Below.drew | refine Below.alloc ?_ ?_ _ | refine Below.setCell ?_ ?_ _) | exact hW1 | omega | (simp <;> omega) | (have:=(hW1).size;first | omega | (simp <;> omega)))⟩
end Go.Proofs.YtednjmldjbndhaaGreatDoor
