/- Points on a chart's scales: the program's. Conditions: the chart's and the figure's bounds. -/
import Derived.Test.YtednjmldjbndhaaGreatDoorKMr6
set_option linter.unusedSimpArgs false
set_option linter.unusedVariables false
set_option maxRecDepth 100000
set_option maxHeartbeats 8000000
namespace Go.Proofs.YtednjmldjbndhaaGreatDoor
open Go.RowKit
def nearV (n d:Int):Int:=(2 * n+d) / (2 * d)
theorem nearC_c (n d:Int) (w:World) (hn:0 ≤ n∧n ≤ 10000000000) (hd:0 < d∧d ≤ 1000000000):Calls Tryz.prog 135 #[.int .i64 n,.int .i64 d] w fun e w'=>e=.returned (.int .i64 (nearV n d))∧w=w':=by
 unfold nearV
 obtain ⟨hn1,hn2⟩:=hn
 obtain ⟨hd1,hd2⟩:=hd
 have h0:¬ d < 0:=by omega
 go_enter Tryz.func135,Tryz.ntmps135
 go_wp2_with (go_at_call 91;refine (down_c _ _ _ (by omega) (by omega)).mono ?_;rintro e w' ⟨rfl,rfl⟩)
 go_ret
 exact ⟨rfl,rfl⟩
theorem calls_same {P:Program} {f:FuncId} {args:Array Value} {W:World} {v:Value} (h:Calls P f args W fun e w'=>e=.returned v∧W=w'):Calls P f args W fun e w'=>e=.returned v∧Below W.heap.size W w' :=
 h.mono fun _ w' h=>(⟨h.1,by rw [← h.2];exact Below.refl _ _⟩:_∧Below W.heap.size W w')
theorem plCode_two (n:Int) (f:Figure):plCode n f=0 ∨ plCode n f=3:=by
 unfold plCode
 split
 ·exact .inl rfl
 ·exact .inr rfl
theorem pl2_bd {n:Int} {f:Figure} (h:plCode n f=0):(-100000 ≤ (pl2 n f).1∧(pl2 n f).1 ≤ 100000)∧(-100000 ≤ (pl2 n f).2∧(pl2 n f).2 ≤ 100000):=by
 unfold pl2
 rw [if_pos h]
 unfold plCode at h
 split at h
 ·rename_i h2
  simp only [Bool.and_eq_true] at h2
  exact ⟨inB_true.mp h2.1,inB_true.mp h2.2⟩
 ·cases h
structure PnS (V:World) (wd nr:Int) (b:Bool) (v35:Value) (v:World):Prop where
 hb:Below V.heap.size V v
 sl:b=true→∃ g,v35=.slice (some ⟨g,0,none⟩) 3 3∧V.heap.size ≤ g∧Blk v g 2 #[.int .i64 0,.int .i64 wd,.int .i64 nr]
theorem PnS.below {V v v':World} {wd nr:Int} {b:Bool} {v35:Value} (h:PnS V wd nr b v35 v) (hb:Below v.heap.size v v'):PnS V wd nr b v35 v' :=
 ⟨h.hb.trans (hb.mono h.hb.size),fun e=>let ⟨g,h1,h2,h3⟩:=h.sl e;⟨g,h1,h2,h3.below hb h3.lt⟩⟩
theorem PnS.new {V v:World} {wd nr:Int} {b:Bool} {v35:Value} (h:PnS V wd nr b v35 v):PnS V wd nr true (.slice (some ⟨v.heap.size,0,none⟩) 3 3) (v.alloc (.cells #[.int .i64 0,.int .i64 wd,.int .i64 nr] 2)) :=
 ⟨h.hb.alloc h.hb.size _,fun _=>⟨_,rfl,h.hb.size,Blk.new _ _ _⟩⟩
theorem chartPoint0_c (fd ft:Int) (s:ByteArray) (b off c:Nat) (p0 p1 wd lf rt:Int) (f:Figure) (w:World) (hb:b < w.heap.size) (c0:w.cell? ⟨b,off,none⟩=some (.int .i64 p0)) (c1:w.cell? ⟨b,off+1,none⟩=some (.int .i64 p1))
  (hp0:-6 ≤ p0∧p0 ≤ 6) (hp1:-6 ≤ p1∧p1 ≤ 6) (hwd:1000 ≤ wd∧wd ≤ 100000) (hlf:100 ≤ lf∧lf ≤ 20000) (hrt:100 ≤ rt∧rt ≤ 20000) (hf:(1000 ≤ f.digits∧f.digits ≤ 9999)∧(-30 ≤ f.tens∧f.tens ≤ 30)) :
  Calls Tryz.prog 110 #[.agg #[.int .i64 fd,.int .i64 ft,.string s,.slice (some ⟨b,off,none⟩) 2 c,.int .i64 wd,.int .i64 lf,.int .i64 rt],.int .i64 0,f.agg] w fun e w'=>(∃ x y,e=.returned (.tuple #[.agg #[.int .i64 x,.int .i64 y],.int .i64 (plCode (lf * p0) f)]))∧Below w.heap.size w w':=by
 have HP:=fun W h1 h2 h3=>chartPlace0_c fd ft s b off c p0 p1 wd lf rt f W h1 h2 h3 hp0 hp1 hlf hrt hf
 have hz:=@pl2_bd (lf * p0) f
 rcases plCode_two (lf * p0) f with hc | hc
 all_goals
  rw [hc] at HP hz ⊢
  clear hc
  generalize (pl2 (lf * p0) f).1=P1 at *
  generalize (pl2 (lf * p0) f).2=P2 at *
  unfold Figure.agg at HP ⊢
  replace HP:=fun W h1 h2 h3=>Lib.hid (HP W h1 h2 h3)
  have hW:Below w.heap.size w (((w.alloc (.cells #[.int .i64 fd,.int .i64 ft,.string s,.slice (some ⟨b,off,none⟩) 2 c,.int .i64 wd,.int .i64 lf,.int .i64 rt] 31)).alloc (.cells #[.int .i64 f.digits,.int .i64 f.tens] 26)).alloc (.cells #[.int .i64 0,.int .i64 0] 124)):=(by repeat first | with_reducible (first | exact Below.refl _ _ | apply below_drewN' | apply Below.drew | refine Below.alloc ?_ ?_ _ | refine Below.setCell ?_ ?_ _) | exact Below.refl _ _ | omega | (simp <;> omega) | (have:=(Below.refl _ _).size;first | omega | (simp <;> omega)))
  have HP:=HP _ (Nat.lt_of_lt_of_le hb hW.size) (by rw [hW.cell hb];exact c0) (by rw [hW.cell hb];exact c1)
  have B0:=((Blk.new w 31 #[.int .i64 fd,.int .i64 ft,.string s,.slice (some ⟨b,off,none⟩) 2 c,.int .i64 wd,.int .i64 lf,.int .i64 rt]).alloc (.cells #[.int .i64 f.digits,.int .i64 f.tens] 26)).alloc (.cells #[.int .i64 0,.int .i64 0] 124)
  have B2:=Blk.new' ((w.alloc (.cells #[.int .i64 fd,.int .i64 ft,.string s,.slice (some ⟨b,off,none⟩) 2 c,.int .i64 wd,.int .i64 lf,.int .i64 rt] 31)).alloc (.cells #[.int .i64 f.digits,.int .i64 f.tens] 26)) 124 #[.int .i64 0,.int .i64 0] (g:=w.heap.size+1+1) (by simp)
  go_enter Tryz.func110,Tryz.ntmps110
  go_wp2_with fail
  refine Calls.mono HP.out ?_;rintro e w1 ⟨rfl,hb1⟩
  have hW1:=hW.trans (hb1.mono hW.size)
  have D0:=(B0.below hb1 B0.lt).alloc (.cells #[.int .i64 P1,.int .i64 P2] 149)
  have C2:=B2.below hb1 B2.lt
  have D2:=(B2.below hb1 B2.lt).alloc (.cells #[.int .i64 P1,.int .i64 P2] 149)
  have z2:=(B2.below hb1 B2.lt).lt
  have D8:=Blk.new w1 149 #[.int .i64 P1,.int .i64 P2]
  have hW2:Below w.heap.size w (w1.alloc (.cells #[.int .i64 P1,.int .i64 P2] 149)):=(by repeat first | with_reducible (first | exact hW1 | apply below_drewN' | apply Below.drew | refine Below.alloc ?_ ?_ _ | refine Below.setCell ?_ ?_ _) | exact hW1 | omega | (simp <;> omega) | (have:=(hW1).size;first | omega | (simp <;> omega)))
  have hs1:=hW1.size
  clear B0 B2 hW hb1 HP
 ·have qn:0 ≤ wd * lf∧wd * lf ≤ 2000000000:=⟨Int.mul_nonneg (by omega) (by omega),(mul_abs (a:=wd) (b:=lf) (A:=100000) (B:=20000) (by omega) (by omega)).2⟩
  have HN:=fun W=>Lib.hid (nearC_c (wd * lf) (lf+rt) W (by omega) (by omega))
  generalize hnr:nearV (wd * lf) (lf+rt)=nr at HN
  clear hnr
  obtain ⟨⟨z5,z6⟩,z7,z8⟩:=hz (by first | trivial | rfl)
  clear hz
  have HD:=fun W=>Lib.hid (down_c (P1+P2) 2 W (by omega) (by omega))
  have hw1:IntKind.i64.wrap (wd * lf)=wd * lf:=IntWalk.i64_in _ (by omega)
  have hw2:IntKind.i64.wrap (lf+rt)=lf+rt:=IntWalk.i64_in _ (by omega)
  go_wp2_with fail
  generalize w1.alloc (.cells #[.int .i64 P1,.int .i64 P2] 149)=V at *
  generalize w1.heap.size=g8 at *
  have zV:=D8.lt
  refine wp_region_sink 15 (fun a0 fL bA v=>∃ v22 v23 v24 v25 v26 v27 v28 v29 v30 v31 v32 v33 v34 v35 v36:Value,bA=((((((((((((((a0.put (some 22) v22).put (some 23) v23).put (some 24) v24).put (some 25) v25).put (some 26) v26).put (some 27) v27).put (some 28) v28).put (some 29) v29).put (some 30) v30).put (some 31) v31).put (some 32) v32).put (some 33) v33).put (some 34) v34).put (some 35) v35).put (some 36) v36∧(PnS V wd nr (fL 13) v35 v)∧(fL 0=true→v22=.pointer (some ⟨w.heap.size,4,none⟩))∧(fL 1=true→v23=.int .i64 wd)∧(fL 2=true→v24=.pointer (some ⟨w.heap.size,4,none⟩))∧(fL 3=true→v25=.int .i64 wd)∧(fL 4=true→v26=.pointer (some ⟨w.heap.size,5,none⟩))∧(fL 5=true→v27=.int .i64 lf)∧(fL 6=true→v28=.int .i64 (wd * lf))∧(fL 7=true→v29=.pointer (some ⟨w.heap.size,5,none⟩))∧(fL 8=true→v30=.int .i64 lf)∧(fL 9=true→v31=.pointer (some ⟨w.heap.size,6,none⟩))∧(fL 10=true→v32=.int .i64 rt)∧(fL 11=true→v33=.int .i64 (lf+rt))∧(fL 12=true→v34=.int .i64 nr)∧(fL 13=true→True)∧(fL 14=true→v36=.int .i64 0)) (by kernel_rfl) (by decide +kernel) ?_ ?_ ?_
  ·exact ⟨undef,undef,undef,undef,undef,undef,undef,undef,undef,undef,undef,undef,undef,undef,undef,by simp only [Act.put,List.setIfInBounds_toArray,List.set_cons_zero,List.set_cons_succ],⟨(Below.refl _ _).drew,nofun⟩,nofun,nofun,nofun,nofun,nofun,nofun,nofun,nofun,nofun,nofun,nofun,nofun,nofun,nofun,nofun⟩
  ·rintro fL bA v ⟨v22,v23,v24,v25,v26,v27,v28,v29,v30,v31,v32,v33,v34,v35,v36,rfl,hS,q0,q1,q2,q3,q4,q5,q6,q7,q8,q9,q10,q11,q12,q13,q14⟩ i hi hf o ho hall
   simp only [Act.put,List.setIfInBounds_toArray,List.set_cons_zero,List.set_cons_succ]
   have hn:i=0 ∨ i=1 ∨ i=2 ∨ i=3 ∨ i=4 ∨ i=5 ∨ i=6 ∨ i=7 ∨ i=8 ∨ i=9 ∨ i=10 ∨ i=11 ∨ i=12 ∨ i=13 ∨ i=14:=by omega
   clear hi
   rcases hn with rfl | rfl | rfl | rfl | rfl | rfl | rfl | rfl | rfl | rfl | rfl | rfl | rfl | rfl | rfl
   ·obtain rfl:=Option.some.inj ho
    clear hall ho
    refine wpOp_step rfl (fun K hK=>?_)
    go_simp
    exact hK _ _ ⟨_,_,_,_,_,_,_,_,_,_,_,_,_,_,_,rfl,hS,fun _=>rfl,q1,q2,q3,q4,q5,q6,q7,q8,q9,q10,q11,q12,fun _=>trivial,q14⟩
   ·obtain rfl:=Option.some.inj ho
    obtain rfl:=q0 (hall ⟨0,.data⟩ (by simp) rfl)
    have y0:v.cell? ⟨w.heap.size,4,none⟩=some (.int .i64 wd):=(D0.below hS.hb D0.lt).cell 4
    clear hall ho
    refine wpOp_step rfl (fun K hK=>?_)
    go_simp
    exact hK _ _ ⟨_,_,_,_,_,_,_,_,_,_,_,_,_,_,_,rfl,hS,fun _=>rfl,fun _=>rfl,q2,q3,q4,q5,q6,q7,q8,q9,q10,q11,q12,fun _=>trivial,q14⟩
   ·obtain rfl:=Option.some.inj ho
    clear hall ho
    refine wpOp_step rfl (fun K hK=>?_)
    go_simp
    exact hK _ _ ⟨_,_,_,_,_,_,_,_,_,_,_,_,_,_,_,rfl,hS,q0,q1,fun _=>rfl,q3,q4,q5,q6,q7,q8,q9,q10,q11,q12,fun _=>trivial,q14⟩
   ·obtain rfl:=Option.some.inj ho
    obtain rfl:=q2 (hall ⟨2,.data⟩ (by simp) rfl)
    have y0:v.cell? ⟨w.heap.size,4,none⟩=some (.int .i64 wd):=(D0.below hS.hb D0.lt).cell 4
    clear hall ho
    refine wpOp_step rfl (fun K hK=>?_)
    go_simp
    exact hK _ _ ⟨_,_,_,_,_,_,_,_,_,_,_,_,_,_,_,rfl,hS,q0,q1,fun _=>rfl,fun _=>rfl,q4,q5,q6,q7,q8,q9,q10,q11,q12,fun _=>trivial,q14⟩
   ·obtain rfl:=Option.some.inj ho
    clear hall ho
    refine wpOp_step rfl (fun K hK=>?_)
    go_simp
    exact hK _ _ ⟨_,_,_,_,_,_,_,_,_,_,_,_,_,_,_,rfl,hS,q0,q1,q2,q3,fun _=>rfl,q5,q6,q7,q8,q9,q10,q11,q12,fun _=>trivial,q14⟩
   ·obtain rfl:=Option.some.inj ho
    obtain rfl:=q4 (hall ⟨4,.data⟩ (by simp) rfl)
    have y0:v.cell? ⟨w.heap.size,5,none⟩=some (.int .i64 lf):=(D0.below hS.hb D0.lt).cell 5
    clear hall ho
    refine wpOp_step rfl (fun K hK=>?_)
    go_simp
    exact hK _ _ ⟨_,_,_,_,_,_,_,_,_,_,_,_,_,_,_,rfl,hS,q0,q1,q2,q3,fun _=>rfl,fun _=>rfl,q6,q7,q8,q9,q10,q11,q12,fun _=>trivial,q14⟩
   ·obtain rfl:=Option.some.inj ho
    obtain rfl:=q3 (hall ⟨3,.data⟩ (by simp) rfl)
    obtain rfl:=q5 (hall ⟨5,.data⟩ (by simp) rfl)
    clear hall ho
    refine wpOp_step rfl (fun K hK=>?_)
    go_simp
    exact hK _ _ ⟨_,_,_,_,_,_,_,_,_,_,_,_,_,_,_,rfl,hS,q0,q1,q2,fun _=>rfl,q4,fun _=>rfl,fun _=>rfl,q7,q8,q9,q10,q11,q12,fun _=>trivial,q14⟩
   ·obtain rfl:=Option.some.inj ho
    clear hall ho
    refine wpOp_step rfl (fun K hK=>?_)
    go_simp
    exact hK _ _ ⟨_,_,_,_,_,_,_,_,_,_,_,_,_,_,_,rfl,hS,q0,q1,q2,q3,q4,q5,q6,fun _=>rfl,q8,q9,q10,q11,q12,fun _=>trivial,q14⟩
   ·obtain rfl:=Option.some.inj ho
    obtain rfl:=q7 (hall ⟨7,.data⟩ (by simp) rfl)
    have y0:v.cell? ⟨w.heap.size,5,none⟩=some (.int .i64 lf):=(D0.below hS.hb D0.lt).cell 5
    clear hall ho
    refine wpOp_step rfl (fun K hK=>?_)
    go_simp
    exact hK _ _ ⟨_,_,_,_,_,_,_,_,_,_,_,_,_,_,_,rfl,hS,q0,q1,q2,q3,q4,q5,q6,fun _=>rfl,fun _=>rfl,q9,q10,q11,q12,fun _=>trivial,q14⟩
   ·obtain rfl:=Option.some.inj ho
    clear hall ho
    refine wpOp_step rfl (fun K hK=>?_)
    go_simp
    exact hK _ _ ⟨_,_,_,_,_,_,_,_,_,_,_,_,_,_,_,rfl,hS,q0,q1,q2,q3,q4,q5,q6,q7,q8,fun _=>rfl,q10,q11,q12,fun _=>trivial,q14⟩
   ·obtain rfl:=Option.some.inj ho
    obtain rfl:=q9 (hall ⟨9,.data⟩ (by simp) rfl)
    have y0:v.cell? ⟨w.heap.size,6,none⟩=some (.int .i64 rt):=(D0.below hS.hb D0.lt).cell 6
    clear hall ho
    refine wpOp_step rfl (fun K hK=>?_)
    go_simp
    exact hK _ _ ⟨_,_,_,_,_,_,_,_,_,_,_,_,_,_,_,rfl,hS,q0,q1,q2,q3,q4,q5,q6,q7,q8,fun _=>rfl,fun _=>rfl,q11,q12,fun _=>trivial,q14⟩
   ·obtain rfl:=Option.some.inj ho
    obtain rfl:=q8 (hall ⟨8,.data⟩ (by simp) rfl)
    obtain rfl:=q10 (hall ⟨10,.data⟩ (by simp) rfl)
    clear hall ho
    refine wpOp_step rfl (fun K hK=>?_)
    go_simp
    exact hK _ _ ⟨_,_,_,_,_,_,_,_,_,_,_,_,_,_,_,rfl,hS,q0,q1,q2,q3,q4,q5,q6,q7,fun _=>rfl,q9,fun _=>rfl,fun _=>rfl,q12,fun _=>trivial,q14⟩
   ·obtain rfl:=Option.some.inj ho
    obtain rfl:=q6 (hall ⟨6,.data⟩ (by simp) rfl)
    obtain rfl:=q11 (hall ⟨11,.data⟩ (by simp) rfl)
    clear hall ho
    refine wpOp_step rfl (fun K hK=>?_)
    go_simp
    refine Calls.mono ((calls_same (HN v).out)) ?_;rintro e w1 ⟨rfl,hb1⟩
    go_simp
    exact hK _ _ ⟨_,_,_,_,_,_,_,_,_,_,_,_,_,_,_,rfl,hS.below hb1,q0,q1,q2,q3,q4,q5,fun _=>rfl,q7,q8,q9,q10,fun _=>rfl,fun _=>rfl,fun _=>trivial,q14⟩
   ·obtain rfl:=Option.some.inj ho
    obtain rfl:=q1 (hall ⟨1,.data⟩ (by simp) rfl)
    obtain rfl:=q12 (hall ⟨12,.data⟩ (by simp) rfl)
    clear hall ho
    refine wpOp_step rfl (fun K hK=>?_)
    go_simp
    exact hK _ _ ⟨_,_,_,_,_,_,_,_,_,_,_,_,_,_,_,rfl,hS.new,q0,fun _=>rfl,q2,q3,q4,q5,q6,q7,q8,q9,q10,q11,fun _=>rfl,fun _=>trivial,q14⟩
   ·obtain rfl:=Option.some.inj ho
    clear hall ho
    refine wpOp_step rfl (fun K hK=>?_)
    go_simp
    exact hK _ _ ⟨_,_,_,_,_,_,_,_,_,_,_,_,_,_,_,rfl,hS,q0,q1,q2,q3,q4,q5,q6,q7,q8,q9,q10,q11,q12,fun _=>trivial,fun _=>rfl⟩
  ·rintro fL bA v ⟨v22,v23,v24,v25,v26,v27,v28,v29,v30,v31,v32,v33,v34,v35,v36,rfl,hS,q0,q1,q2,q3,q4,q5,q6,q7,q8,q9,q10,q11,q12,q13,q14⟩ hall
   simp only [Act.put,List.setIfInBounds_toArray,List.set_cons_zero,List.set_cons_succ]
   obtain rfl:=q0 (hall 0 (by omega))
   obtain rfl:=q1 (hall 1 (by omega))
   obtain rfl:=q2 (hall 2 (by omega))
   obtain rfl:=q3 (hall 3 (by omega))
   obtain rfl:=q4 (hall 4 (by omega))
   obtain rfl:=q5 (hall 5 (by omega))
   obtain rfl:=q6 (hall 6 (by omega))
   obtain rfl:=q7 (hall 7 (by omega))
   obtain rfl:=q8 (hall 8 (by omega))
   obtain rfl:=q9 (hall 9 (by omega))
   obtain rfl:=q10 (hall 10 (by omega))
   obtain rfl:=q11 (hall 11 (by omega))
   obtain rfl:=q12 (hall 12 (by omega))
   have e13:fL 13=true:=hall 13 (by omega)
   obtain rfl:=q14 (hall 14 (by omega))
   clear hall
   simp only [List.drop_succ_cons,List.drop_zero]
   obtain ⟨g,rfl,hg,hB⟩:=hS.sl e13
   have hb2:=hS.hb
   have E2:=D2.below hb2 D2.lt
   have E8:=D8.below hb2 D8.lt
   have y0:v.cell? ⟨g,0,none⟩=some (.int .i64 0):=hB.cell 0
   have i0:v.cell? ⟨g8,0,none⟩=some (.int .i64 P1):=E8.cell 0
   have i1:v.cell? ⟨g8,1,none⟩=some (.int .i64 P2):=E8.cell 1
   have r0:v.cell? ⟨w.heap.size+1+1,0,none⟩=some (.int .i64 0):=E2.cell 0
   have r1:v.cell? ⟨w.heap.size+1+1,1,none⟩=some (.int .i64 0):=E2.cell 1
   have rf0:v.frozen? ⟨w.heap.size+1+1,0,none⟩=false:=E2.frozen 0
   have rf1:v.frozen? ⟨w.heap.size+1+1,1,none⟩=false:=E2.frozen 1
   have hW3:=hW2.trans (hb2.mono hW2.size)
   clear hS D0 D2 D8 hW2 HN
   go_wp2_with (go_at_call 91;refine (HD _).out.mono ?_;rintro e w5 ⟨rfl,rfl⟩)
   refine bodyPost_ret (v:=.tuple #[.agg #[.int .i64 0,.int .i64 ((P1+P2) / 2)],.int .i64 0]) (by simp [results,Tryz.results110,go_sem,r0,r1]) rfl ⟨⟨_,_,rfl⟩,(by repeat first | with_reducible (first | exact hW3 | apply below_drewN' | apply Below.drew | refine Below.alloc ?_ ?_ _ | refine Below.setCell ?_ ?_ _) | exact hW3 | omega | (simp <;> omega) | (have:=(hW3).size;first | omega | (simp <;> omega)))⟩
 ·have r0:w1.cell? ⟨w.heap.size+1+1,0,none⟩=some (.int .i64 0):=C2.cell 0
  have r1:w1.cell? ⟨w.heap.size+1+1,1,none⟩=some (.int .i64 0):=C2.cell 1
  have rf0:w1.frozen? ⟨w.heap.size+1+1,0,none⟩=false:=C2.frozen 0
  have rf1:w1.frozen? ⟨w.heap.size+1+1,1,none⟩=false:=C2.frozen 1
  go_wp2_with fail
  refine bodyPost_ret (v:=.tuple #[.agg #[.int .i64 0,.int .i64 0],.int .i64 3]) (by simp [results,Tryz.results110,go_sem,r0,r1,z2]) rfl ⟨⟨_,_,rfl⟩,(by repeat first | with_reducible (first | exact hW1 | apply below_drewN' | apply Below.drew | refine Below.alloc ?_ ?_ _ | refine Below.setCell ?_ ?_ _) | exact hW1 | omega | (simp <;> omega) | (have:=(hW1).size;first | omega | (simp <;> omega)))⟩
theorem chartPoint1_c (fd ft:Int) (s:ByteArray) (b off c:Nat) (p0 p1 wd lf rt:Int) (f:Figure) (w:World) (hb:b < w.heap.size) (c0:w.cell? ⟨b,off,none⟩=some (.int .i64 p0)) (c1:w.cell? ⟨b,off+1,none⟩=some (.int .i64 p1))
  (hp0:-6 ≤ p0∧p0 ≤ 6) (hp1:-6 ≤ p1∧p1 ≤ 6) (hwd:1000 ≤ wd∧wd ≤ 100000) (hlf:100 ≤ lf∧lf ≤ 20000) (hrt:100 ≤ rt∧rt ≤ 20000) (hf:(1000 ≤ f.digits∧f.digits ≤ 9999)∧(-30 ≤ f.tens∧f.tens ≤ 30)) :
  Calls Tryz.prog 110 #[.agg #[.int .i64 fd,.int .i64 ft,.string s,.slice (some ⟨b,off,none⟩) 2 c,.int .i64 wd,.int .i64 lf,.int .i64 rt],.int .i64 1,f.agg] w fun e w'=>(∃ x y,e=.returned (.tuple #[.agg #[.int .i64 x,.int .i64 y],.int .i64 (plCode (rt * p1) f)]))∧Below w.heap.size w w':=by
 have HP:=fun W h1 h2 h3=>chartPlace1_c fd ft s b off c p0 p1 wd lf rt f W h1 h2 h3 hp0 hp1 hlf hrt hf
 have hz:=@pl2_bd (rt * p1) f
 rcases plCode_two (rt * p1) f with hc | hc
 all_goals
  rw [hc] at HP hz ⊢
  clear hc
  generalize (pl2 (rt * p1) f).1=P1 at *
  generalize (pl2 (rt * p1) f).2=P2 at *
  unfold Figure.agg at HP ⊢
  replace HP:=fun W h1 h2 h3=>Lib.hid (HP W h1 h2 h3)
  have hW:Below w.heap.size w (((w.alloc (.cells #[.int .i64 fd,.int .i64 ft,.string s,.slice (some ⟨b,off,none⟩) 2 c,.int .i64 wd,.int .i64 lf,.int .i64 rt] 31)).alloc (.cells #[.int .i64 f.digits,.int .i64 f.tens] 26)).alloc (.cells #[.int .i64 0,.int .i64 0] 124)):=(by repeat first | with_reducible (first | exact Below.refl _ _ | apply below_drewN' | apply Below.drew | refine Below.alloc ?_ ?_ _ | refine Below.setCell ?_ ?_ _) | exact Below.refl _ _ | omega | (simp <;> omega) | (have:=(Below.refl _ _).size;first | omega | (simp <;> omega)))
  have HP:=HP _ (Nat.lt_of_lt_of_le hb hW.size) (by rw [hW.cell hb];exact c0) (by rw [hW.cell hb];exact c1)
  have B0:=((Blk.new w 31 #[.int .i64 fd,.int .i64 ft,.string s,.slice (some ⟨b,off,none⟩) 2 c,.int .i64 wd,.int .i64 lf,.int .i64 rt]).alloc (.cells #[.int .i64 f.digits,.int .i64 f.tens] 26)).alloc (.cells #[.int .i64 0,.int .i64 0] 124)
  have B2:=Blk.new' ((w.alloc (.cells #[.int .i64 fd,.int .i64 ft,.string s,.slice (some ⟨b,off,none⟩) 2 c,.int .i64 wd,.int .i64 lf,.int .i64 rt] 31)).alloc (.cells #[.int .i64 f.digits,.int .i64 f.tens] 26)) 124 #[.int .i64 0,.int .i64 0] (g:=w.heap.size+1+1) (by simp)
  go_enter Tryz.func110,Tryz.ntmps110
  go_wp2_with fail
  refine Calls.mono HP.out ?_;rintro e w1 ⟨rfl,hb1⟩
  have hW1:=hW.trans (hb1.mono hW.size)
  have D0:=(B0.below hb1 B0.lt).alloc (.cells #[.int .i64 P1,.int .i64 P2] 149)
  have C2:=B2.below hb1 B2.lt
  have D2:=(B2.below hb1 B2.lt).alloc (.cells #[.int .i64 P1,.int .i64 P2] 149)
  have z2:=(B2.below hb1 B2.lt).lt
  have D8:=Blk.new w1 149 #[.int .i64 P1,.int .i64 P2]
  have hW2:Below w.heap.size w (w1.alloc (.cells #[.int .i64 P1,.int .i64 P2] 149)):=(by repeat first | with_reducible (first | exact hW1 | apply below_drewN' | apply Below.drew | refine Below.alloc ?_ ?_ _ | refine Below.setCell ?_ ?_ _) | exact hW1 | omega | (simp <;> omega) | (have:=(hW1).size;first | omega | (simp <;> omega)))
  have hs1:=hW1.size
  clear B0 B2 hW hb1 HP
 ·have qn:0 ≤ wd * lf∧wd * lf ≤ 2000000000:=⟨Int.mul_nonneg (by omega) (by omega),(mul_abs (a:=wd) (b:=lf) (A:=100000) (B:=20000) (by omega) (by omega)).2⟩
  have HN:=fun W=>Lib.hid (nearC_c (wd * lf) (lf+rt) W (by omega) (by omega))
  generalize hnr:nearV (wd * lf) (lf+rt)=nr at HN
  clear hnr
  obtain ⟨⟨z5,z6⟩,z7,z8⟩:=hz (by first | trivial | rfl)
  clear hz
  have HD:=fun W=>Lib.hid (down_c (P1+P2) 2 W (by omega) (by omega))
  have hw1:IntKind.i64.wrap (wd * lf)=wd * lf:=IntWalk.i64_in _ (by omega)
  have hw2:IntKind.i64.wrap (lf+rt)=lf+rt:=IntWalk.i64_in _ (by omega)
  go_wp2_with fail
  generalize w1.alloc (.cells #[.int .i64 P1,.int .i64 P2] 149)=V at *
  generalize w1.heap.size=g8 at *
  have zV:=D8.lt
  refine wp_region_sink 15 (fun a0 fL bA v=>∃ v22 v23 v24 v25 v26 v27 v28 v29 v30 v31 v32 v33 v34 v35 v36:Value,bA=((((((((((((((a0.put (some 22) v22).put (some 23) v23).put (some 24) v24).put (some 25) v25).put (some 26) v26).put (some 27) v27).put (some 28) v28).put (some 29) v29).put (some 30) v30).put (some 31) v31).put (some 32) v32).put (some 33) v33).put (some 34) v34).put (some 35) v35).put (some 36) v36∧(PnS V wd nr (fL 13) v35 v)∧(fL 0=true→v22=.pointer (some ⟨w.heap.size,4,none⟩))∧(fL 1=true→v23=.int .i64 wd)∧(fL 2=true→v24=.pointer (some ⟨w.heap.size,4,none⟩))∧(fL 3=true→v25=.int .i64 wd)∧(fL 4=true→v26=.pointer (some ⟨w.heap.size,5,none⟩))∧(fL 5=true→v27=.int .i64 lf)∧(fL 6=true→v28=.int .i64 (wd * lf))∧(fL 7=true→v29=.pointer (some ⟨w.heap.size,5,none⟩))∧(fL 8=true→v30=.int .i64 lf)∧(fL 9=true→v31=.pointer (some ⟨w.heap.size,6,none⟩))∧(fL 10=true→v32=.int .i64 rt)∧(fL 11=true→v33=.int .i64 (lf+rt))∧(fL 12=true→v34=.int .i64 nr)∧(fL 13=true→True)∧(fL 14=true→v36=.int .i64 1)) (by kernel_rfl) (by decide +kernel) ?_ ?_ ?_
  ·exact ⟨undef,undef,undef,undef,undef,undef,undef,undef,undef,undef,undef,undef,undef,undef,undef,by simp only [Act.put,List.setIfInBounds_toArray,List.set_cons_zero,List.set_cons_succ],⟨(Below.refl _ _).drew,nofun⟩,nofun,nofun,nofun,nofun,nofun,nofun,nofun,nofun,nofun,nofun,nofun,nofun,nofun,nofun,nofun⟩
  ·rintro fL bA v ⟨v22,v23,v24,v25,v26,v27,v28,v29,v30,v31,v32,v33,v34,v35,v36,rfl,hS,q0,q1,q2,q3,q4,q5,q6,q7,q8,q9,q10,q11,q12,q13,q14⟩ i hi hf o ho hall
   simp only [Act.put,List.setIfInBounds_toArray,List.set_cons_zero,List.set_cons_succ]
   have hn:i=0 ∨ i=1 ∨ i=2 ∨ i=3 ∨ i=4 ∨ i=5 ∨ i=6 ∨ i=7 ∨ i=8 ∨ i=9 ∨ i=10 ∨ i=11 ∨ i=12 ∨ i=13 ∨ i=14:=by omega
   clear hi
   rcases hn with rfl | rfl | rfl | rfl | rfl | rfl | rfl | rfl | rfl | rfl | rfl | rfl | rfl | rfl | rfl
   ·obtain rfl:=Option.some.inj ho
    clear hall ho
    refine wpOp_step rfl (fun K hK=>?_)
    go_simp
    exact hK _ _ ⟨_,_,_,_,_,_,_,_,_,_,_,_,_,_,_,rfl,hS,fun _=>rfl,q1,q2,q3,q4,q5,q6,q7,q8,q9,q10,q11,q12,fun _=>trivial,q14⟩
   ·obtain rfl:=Option.some.inj ho
    obtain rfl:=q0 (hall ⟨0,.data⟩ (by simp) rfl)
    have y0:v.cell? ⟨w.heap.size,4,none⟩=some (.int .i64 wd):=(D0.below hS.hb D0.lt).cell 4
    clear hall ho
    refine wpOp_step rfl (fun K hK=>?_)
    go_simp
    exact hK _ _ ⟨_,_,_,_,_,_,_,_,_,_,_,_,_,_,_,rfl,hS,fun _=>rfl,fun _=>rfl,q2,q3,q4,q5,q6,q7,q8,q9,q10,q11,q12,fun _=>trivial,q14⟩
   ·obtain rfl:=Option.some.inj ho
    clear hall ho
    refine wpOp_step rfl (fun K hK=>?_)
    go_simp
    exact hK _ _ ⟨_,_,_,_,_,_,_,_,_,_,_,_,_,_,_,rfl,hS,q0,q1,fun _=>rfl,q3,q4,q5,q6,q7,q8,q9,q10,q11,q12,fun _=>trivial,q14⟩
   ·obtain rfl:=Option.some.inj ho
    obtain rfl:=q2 (hall ⟨2,.data⟩ (by simp) rfl)
    have y0:v.cell? ⟨w.heap.size,4,none⟩=some (.int .i64 wd):=(D0.below hS.hb D0.lt).cell 4
    clear hall ho
    refine wpOp_step rfl (fun K hK=>?_)
    go_simp
    exact hK _ _ ⟨_,_,_,_,_,_,_,_,_,_,_,_,_,_,_,rfl,hS,q0,q1,fun _=>rfl,fun _=>rfl,q4,q5,q6,q7,q8,q9,q10,q11,q12,fun _=>trivial,q14⟩
   ·obtain rfl:=Option.some.inj ho
    clear hall ho
    refine wpOp_step rfl (fun K hK=>?_)
    go_simp
    exact hK _ _ ⟨_,_,_,_,_,_,_,_,_,_,_,_,_,_,_,rfl,hS,q0,q1,q2,q3,fun _=>rfl,q5,q6,q7,q8,q9,q10,q11,q12,fun _=>trivial,q14⟩
   ·obtain rfl:=Option.some.inj ho
    obtain rfl:=q4 (hall ⟨4,.data⟩ (by simp) rfl)
    have y0:v.cell? ⟨w.heap.size,5,none⟩=some (.int .i64 lf):=(D0.below hS.hb D0.lt).cell 5
    clear hall ho
    refine wpOp_step rfl (fun K hK=>?_)
    go_simp
    exact hK _ _ ⟨_,_,_,_,_,_,_,_,_,_,_,_,_,_,_,rfl,hS,q0,q1,q2,q3,fun _=>rfl,fun _=>rfl,q6,q7,q8,q9,q10,q11,q12,fun _=>trivial,q14⟩
   ·obtain rfl:=Option.some.inj ho
    obtain rfl:=q3 (hall ⟨3,.data⟩ (by simp) rfl)
    obtain rfl:=q5 (hall ⟨5,.data⟩ (by simp) rfl)
    clear hall ho
    refine wpOp_step rfl (fun K hK=>?_)
    go_simp
    exact hK _ _ ⟨_,_,_,_,_,_,_,_,_,_,_,_,_,_,_,rfl,hS,q0,q1,q2,fun _=>rfl,q4,fun _=>rfl,fun _=>rfl,q7,q8,q9,q10,q11,q12,fun _=>trivial,q14⟩
   ·obtain rfl:=Option.some.inj ho
    clear hall ho
    refine wpOp_step rfl (fun K hK=>?_)
    go_simp
    exact hK _ _ ⟨_,_,_,_,_,_,_,_,_,_,_,_,_,_,_,rfl,hS,q0,q1,q2,q3,q4,q5,q6,fun _=>rfl,q8,q9,q10,q11,q12,fun _=>trivial,q14⟩
   ·obtain rfl:=Option.some.inj ho
    obtain rfl:=q7 (hall ⟨7,.data⟩ (by simp) rfl)
    have y0:v.cell? ⟨w.heap.size,5,none⟩=some (.int .i64 lf):=(D0.below hS.hb D0.lt).cell 5
    clear hall ho
    refine wpOp_step rfl (fun K hK=>?_)
    go_simp
    exact hK _ _ ⟨_,_,_,_,_,_,_,_,_,_,_,_,_,_,_,rfl,hS,q0,q1,q2,q3,q4,q5,q6,fun _=>rfl,fun _=>rfl,q9,q10,q11,q12,fun _=>trivial,q14⟩
   ·obtain rfl:=Option.some.inj ho
    clear hall ho
    refine wpOp_step rfl (fun K hK=>?_)
    go_simp
    exact hK _ _ ⟨_,_,_,_,_,_,_,_,_,_,_,_,_,_,_,rfl,hS,q0,q1,q2,q3,q4,q5,q6,q7,q8,fun _=>rfl,q10,q11,q12,fun _=>trivial,q14⟩
   ·obtain rfl:=Option.some.inj ho
    obtain rfl:=q9 (hall ⟨9,.data⟩ (by simp) rfl)
    have y0:v.cell? ⟨w.heap.size,6,none⟩=some (.int .i64 rt):=(D0.below hS.hb D0.lt).cell 6
    clear hall ho
    refine wpOp_step rfl (fun K hK=>?_)
    go_simp
    exact hK _ _ ⟨_,_,_,_,_,_,_,_,_,_,_,_,_,_,_,rfl,hS,q0,q1,q2,q3,q4,q5,q6,q7,q8,fun _=>rfl,fun _=>rfl,q11,q12,fun _=>trivial,q14⟩
   ·obtain rfl:=Option.some.inj ho
    obtain rfl:=q8 (hall ⟨8,.data⟩ (by simp) rfl)
    obtain rfl:=q10 (hall ⟨10,.data⟩ (by simp) rfl)
    clear hall ho
    refine wpOp_step rfl (fun K hK=>?_)
    go_simp
    exact hK _ _ ⟨_,_,_,_,_,_,_,_,_,_,_,_,_,_,_,rfl,hS,q0,q1,q2,q3,q4,q5,q6,q7,fun _=>rfl,q9,fun _=>rfl,fun _=>rfl,q12,fun _=>trivial,q14⟩
   ·obtain rfl:=Option.some.inj ho
    obtain rfl:=q6 (hall ⟨6,.data⟩ (by simp) rfl)
    obtain rfl:=q11 (hall ⟨11,.data⟩ (by simp) rfl)
    clear hall ho
    refine wpOp_step rfl (fun K hK=>?_)
    go_simp
    refine Calls.mono ((calls_same (HN v).out)) ?_;rintro e w1 ⟨rfl,hb1⟩
    go_simp
    exact hK _ _ ⟨_,_,_,_,_,_,_,_,_,_,_,_,_,_,_,rfl,hS.below hb1,q0,q1,q2,q3,q4,q5,fun _=>rfl,q7,q8,q9,q10,fun _=>rfl,fun _=>rfl,fun _=>trivial,q14⟩
   ·obtain rfl:=Option.some.inj ho
    obtain rfl:=q1 (hall ⟨1,.data⟩ (by simp) rfl)
    obtain rfl:=q12 (hall ⟨12,.data⟩ (by simp) rfl)
    clear hall ho
    refine wpOp_step rfl (fun K hK=>?_)
    go_simp
    exact hK _ _ ⟨_,_,_,_,_,_,_,_,_,_,_,_,_,_,_,rfl,hS.new,q0,fun _=>rfl,q2,q3,q4,q5,q6,q7,q8,q9,q10,q11,fun _=>rfl,fun _=>trivial,q14⟩
   ·obtain rfl:=Option.some.inj ho
    clear hall ho
    refine wpOp_step rfl (fun K hK=>?_)
    go_simp
    exact hK _ _ ⟨_,_,_,_,_,_,_,_,_,_,_,_,_,_,_,rfl,hS,q0,q1,q2,q3,q4,q5,q6,q7,q8,q9,q10,q11,q12,fun _=>trivial,fun _=>rfl⟩
  ·rintro fL bA v ⟨v22,v23,v24,v25,v26,v27,v28,v29,v30,v31,v32,v33,v34,v35,v36,rfl,hS,q0,q1,q2,q3,q4,q5,q6,q7,q8,q9,q10,q11,q12,q13,q14⟩ hall
   simp only [Act.put,List.setIfInBounds_toArray,List.set_cons_zero,List.set_cons_succ]
   obtain rfl:=q0 (hall 0 (by omega))
   obtain rfl:=q1 (hall 1 (by omega))
   obtain rfl:=q2 (hall 2 (by omega))
   obtain rfl:=q3 (hall 3 (by omega))
   obtain rfl:=q4 (hall 4 (by omega))
   obtain rfl:=q5 (hall 5 (by omega))
   obtain rfl:=q6 (hall 6 (by omega))
   obtain rfl:=q7 (hall 7 (by omega))
   obtain rfl:=q8 (hall 8 (by omega))
   obtain rfl:=q9 (hall 9 (by omega))
   obtain rfl:=q10 (hall 10 (by omega))
   obtain rfl:=q11 (hall 11 (by omega))
   obtain rfl:=q12 (hall 12 (by omega))
   have e13:fL 13=true:=hall 13 (by omega)
   obtain rfl:=q14 (hall 14 (by omega))
   clear hall
   simp only [List.drop_succ_cons,List.drop_zero]
   obtain ⟨g,rfl,hg,hB⟩:=hS.sl e13
   have hb2:=hS.hb
   have E2:=D2.below hb2 D2.lt
   have E8:=D8.below hb2 D8.lt
   have y0:v.cell? ⟨g,1,none⟩=some (.int .i64 wd):=hB.cell 1
   have i0:v.cell? ⟨g8,0,none⟩=some (.int .i64 P1):=E8.cell 0
   have i1:v.cell? ⟨g8,1,none⟩=some (.int .i64 P2):=E8.cell 1
   have r0:v.cell? ⟨w.heap.size+1+1,0,none⟩=some (.int .i64 0):=E2.cell 0
   have r1:v.cell? ⟨w.heap.size+1+1,1,none⟩=some (.int .i64 0):=E2.cell 1
   have rf0:v.frozen? ⟨w.heap.size+1+1,0,none⟩=false:=E2.frozen 0
   have rf1:v.frozen? ⟨w.heap.size+1+1,1,none⟩=false:=E2.frozen 1
   have hW3:=hW2.trans (hb2.mono hW2.size)
   clear hS D0 D2 D8 hW2 HN
   go_wp2_with (go_at_call 91;refine (HD _).out.mono ?_;rintro e w5 ⟨rfl,rfl⟩)
   refine bodyPost_ret (v:=.tuple #[.agg #[.int .i64 wd,.int .i64 ((P1+P2) / 2)],.int .i64 0]) (by simp [results,Tryz.results110,go_sem,r0,r1]) rfl ⟨⟨_,_,rfl⟩,(by repeat first | with_reducible (first | exact hW3 | apply below_drewN' | apply Below.drew | refine Below.alloc ?_ ?_ _ | refine Below.setCell ?_ ?_ _) | exact hW3 | omega | (simp <;> omega) | (have:=(hW3).size;first | omega | (simp <;> omega)))⟩
 ·have r0:w1.cell? ⟨w.heap.size+1+1,0,none⟩=some (.int .i64 0):=C2.cell 0
  have r1:w1.cell? ⟨w.heap.size+1+1,1,none⟩=some (.int .i64 0):=C2.cell 1
  have rf0:w1.frozen? ⟨w.heap.size+1+1,0,none⟩=false:=C2.frozen 0
  have rf1:w1.frozen? ⟨w.heap.size+1+1,1,none⟩=false:=C2.frozen 1
  go_wp2_with fail
  refine bodyPost_ret (v:=.tuple #[.agg #[.int .i64 0,.int .i64 0],.int .i64 3]) (by simp [results,Tryz.results110,go_sem,r0,r1,z2]) rfl ⟨⟨_,_,rfl⟩,(by repeat first | with_reducible (first | exact hW1 | apply below_drewN' | apply Below.drew | refine Below.alloc ?_ ?_ _ | refine Below.setCell ?_ ?_ _) | exact hW1 | omega | (simp <;> omega) | (have:=(hW1).size;first | omega | (simp <;> omega)))⟩
end Go.Proofs.YtednjmldjbndhaaGreatDoor
