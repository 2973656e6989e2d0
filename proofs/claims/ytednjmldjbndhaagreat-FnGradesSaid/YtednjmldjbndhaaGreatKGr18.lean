/- The usual plan of a chain: the reference's. Conditions: the rule has ScaleC on both parts; the chain is valid. -/
import Derived.Test.YtednjmldjbndhaaGreatKGr12
import Derived.Test.YtednjmldjbndhaaGreatKGr17
set_option linter.unusedSimpArgs false
set_option linter.unusedVariables false
set_option maxRecDepth 100000
set_option maxHeartbeats 8000000
namespace Go.Proofs.YtednjmldjbndhaaGreat
open Go.RowKit
theorem sl_far {w:World} {B k:Nat} {A:Option Addr} {xs:List (List Value)} {g j:Nat} {u:Value} (h:Sl w B k A xs) (ho:Off A g):Sl (w.setCell ⟨g,j,none⟩ u) B k A xs:=fun i x hx=>by
 obtain ⟨hl,b,off,e,hb,hc⟩:=h i x hx
 exact ⟨hl,b,off,e,hb,fun jj v hv=>(World.cell?_setCell_far _ _ _ _ (Ne.symm (ho b off e))).trans (hc jj v hv)⟩
def plan4 (p:PS) (A':Option Addr) (c':Nat):Array Value:=#[.int .i64 p.sh,.int .i64 p.cu,.slice A' p.ms.length c',.bool p.en]
structure UsA (w:World) (L:Int) (A1:Option Addr) (n1 c1:Nat) (A2:Option Addr) (n2 c2:Nat) (g:Nat) (p:PS) (A':Option Addr) (c':Nat) (wr:World):Prop where
 hb:Below w.heap.size w wr
 b2:Blk wr w.heap.size 26 #[.int .i64 L,.slice A1 n1 c1,.slice A2 n2 c2]
 b5:Blk wr g 154 (plan4 p A' c')
 sl:Sl wr wr.heap.size 4 A' (p.ms.map Move.cells)
 off:Off A' g
 hg:w.heap.size < g
 nw:∀ q',q' < w.heap.size→Off A' q'
 cp:p.ms.length ≤ c'
section
variable {w v v' : World} {L : Int} {A1 : Option Addr} {n1 c1 : Nat} {A2 : Option Addr} {n2 c2 : Nat} {g : Nat} {p q : PS} {A' A'' : Option Addr} {c' c'' : Nat}
theorem UsA.below (h:UsA w L A1 n1 c1 A2 n2 c2 g p A' c' v) (hb:Below v.heap.size v v'):UsA w L A1 n1 c1 A2 n2 c2 g p A' c' v' :=
 ⟨h.hb.trans (hb.mono h.hb.size),h.b2.below hb h.b2.lt,h.b5.below hb h.b5.lt,(h.sl.below hb).more hb.size,h.off,h.hg,h.nw,h.cp⟩
theorem UsA.store (h:UsA w L A1 n1 c1 A2 n2 c2 g p A' c' v) (hs:Sl v v.heap.size 4 A'' (q.ms.map Move.cells)) (ho:Off A'' g) (hn:∀ q',q' < w.heap.size→Off A'' q') (hp:q.ms.length ≤ c'') :
  UsA w L A1 n1 c1 A2 n2 c2 g q A'' c'' ((((v.setCell ⟨g,0,none⟩ (.int .i64 q.sh)).setCell ⟨g,1,none⟩ (.int .i64 q.cu)).setCell ⟨g,2,none⟩ (.slice A'' q.ms.length c'')).setCell ⟨g,3,none⟩ (.bool q.en)):=by
 have hne:w.heap.size ≠ g:=Nat.ne_of_lt h.hg
 have hle:w.heap.size ≤ g:=Nat.le_of_lt h.hg
 refine ⟨(((h.hb.setCell hle _).setCell hle _).setCell hle _).setCell hle _,(((h.b2.far hne _).far hne _).far hne _).far hne _,(((h.b5.set_ 0 (.int .i64 q.sh)).set_ 1 (.int .i64 q.cu)).set_ 2 (.slice A'' q.ms.length c'')).set_ 3 (.bool q.en),?_,ho,h.hg,hn,hp⟩
 have:=sl_far (j:=3) (u:=.bool q.en) (sl_far (j:=2) (u:=.slice A'' q.ms.length c'') (sl_far (j:=1) (u:=.int .i64 q.cu) (sl_far (j:=0) (u:=.int .i64 q.sh) hs ho) ho) ho) ho
 exact this.more (by simp)
theorem UsA.setEn (h:UsA w L A1 n1 c1 A2 n2 c2 g p A' c' v) (b:Bool):UsA w L A1 n1 c1 A2 n2 c2 g ⟨p.sh,p.cu,p.ms,b⟩ A' c' (v.setCell ⟨g,3,none⟩ (.bool b)) :=
 ⟨h.hb.setCell (Nat.le_of_lt h.hg) _,h.b2.far (Nat.ne_of_lt h.hg) _,h.b5.set_ 3 (.bool b),(sl_far h.sl h.off).more (by simp),h.off,h.hg,h.nw,h.cp⟩
end
structure U2 (w1:World) (A:Option Addr) (q1 q2:PS) (b1 b2:Bool) (x1 x2:Value) (v:World):Prop where
 hb:Below w1.heap.size w1 v
 y1:b1=true→PlanP q1 x1 v A w1.heap.size
 y2:b2=true→PlanP q2 x2 v A w1.heap.size
section
variable {w1 v v' : World} {A A' : Option Addr} {q1 q2 : PS} {b1 b2 : Bool} {x1 x2 u : Value}
theorem U2.drew (h:U2 w1 A q1 q2 b1 b2 x1 x2 v):U2 w1 A q1 q2 b1 b2 x1 x2 v.drew:=⟨h.hb.drew,h.y1,h.y2⟩
theorem U2.init:U2 w1 A q1 q2 false false x1 x2 w1.drew:=⟨(Below.refl _ _).drew,nofun,nofun⟩
theorem U2.s1 (h:U2 w1 A q1 q2 b1 b2 x1 x2 v) (hb:Below v.heap.size v v') (hu:PlanP q1 u v' A v.heap.size):U2 w1 A q1 q2 true b2 u x2 v':=by
 refine ⟨h.hb.trans (hb.mono h.hb.size),fun _=>?_,fun e=>(h.y2 e).below hb⟩
 obtain ⟨A',c',h1,h2,h3,h4⟩:=hu
 exact ⟨A',c',h1,h2,fun g hg=>h3 g (Nat.lt_of_lt_of_le hg h.hb.size),h4⟩
theorem U2.s2 (h:U2 w1 A q1 q2 b1 b2 x1 x2 v) (hb:Below v.heap.size v v') (ho:∀ g,g < w1.heap.size→Off A g→Off A' g) (hu:PlanP q2 u v' A' v.heap.size):U2 w1 A q1 q2 b1 true x1 u v':=by
 refine ⟨h.hb.trans (hb.mono h.hb.size),fun e=>(h.y1 e).below hb,fun _=>?_⟩
 obtain ⟨A'',c',h1,h2,h3,h4⟩:=hu
 exact ⟨A'',c',h1,h2,fun g hg hog=>h3 g (Nat.lt_of_lt_of_le hg h.hb.size) (ho g hg hog),h4⟩
end
structure U1 (w1:World) (q:PS) (b15 b5:Bool) (v15 v5:Value) (v:World):Prop where
 hb:Below w1.heap.size w1 v
 y15:b15=true→∃ A' c',v15=.agg (plan4 q A' c')∧Own v w1.heap.size 75 4 (.slice A' q.ms.length c') (q.ms.map Move.cells)
 y5:b5=true→∃ g,v5=.pointer (some ⟨g,0,none⟩)∧Blk v g 154 #[.int .i64 0,.int .i64 0,.slice none 0 0,.bool false]∧w1.heap.size ≤ g
section
variable {w1 v v' : World} {q : PS} {b15 b5 : Bool} {v15 v5 u : Value}
theorem U1.init:U1 w1 q false false undef undef w1.drew:=⟨(Below.refl _ _).drew,nofun,nofun⟩
theorem U1.s15 (h:U1 w1 q b15 b5 v15 v5 v) (hb:Below v.heap.size v v') (hu:PlanV v q u v'):U1 w1 q true b5 u v5 v':=by
 refine ⟨h.hb.trans (hb.mono h.hb.size),fun _=>?_,fun e=>?_⟩
 ·obtain ⟨A',c',h1,h2⟩:=hu
  exact ⟨A',c',h1,h2.mono h.hb.size⟩
 ·obtain ⟨g,h1,h2,h3⟩:=h.y5 e
  exact ⟨g,h1,h2.below hb h2.lt,h3⟩
theorem U1.s5 (h:U1 w1 q b15 b5 v15 v5 v):U1 w1 q b15 true v15 (.pointer (some ⟨v.heap.size,0,none⟩)) (v.alloc (.cells #[.int .i64 0,.int .i64 0,.slice none 0 0,.bool false] 154)):=by
 refine ⟨h.hb.alloc h.hb.size _,fun e=>?_,fun _=>⟨_,rfl,Blk.new _ _ _,h.hb.size⟩⟩
 obtain ⟨A',c',h1,h2⟩:=h.y15 e
 exact ⟨A',c',h1,h2.alloc _⟩
end
def ListPostN (ms:List Move) (w:World) (e:Ending) (w':World):Prop:=∃ A' c',e=.returned (.slice A' ms.length c')∧Sl w' w'.heap.size 4 A' (ms.map Move.cells)∧Below w.heap.size w w'∧(∀ q',q' < w.heap.size→Off A' q')∧ms.length ≤ c'
def ListPost (ms:List Move) (w:World) (e:Ending) (w':World):Prop:=∃ A' c',e=.returned (.slice A' ms.length c')∧Sl w' w'.heap.size 4 A' (ms.map Move.cells)∧Below w.heap.size w w'
theorem l14UsualN_c (L:Int) (A1:Option Addr) (c1:Nat) (l1:List Int) (A2:Option Addr) (c2:Nat) (l2:List Int) (A3:Option Addr) (c3:Nat) (l:List Term) (w:World) (R:RuleIn w A1 l1 A2 l2)
  (h0:0 < l.length) (h6:l.length ≤ 6) (hall:l.all termOK=true) (hs:Sl w w.heap.size 3 A3 (l.map Term.cells)) :
  Calls Tryz.prog 61 #[.agg #[.int .i64 L,.slice A1 l1.length c1,.slice A2 l2.length c2],.slice A3 l.length c3] w (ListPostN (usualP l).ms w):=by
 have Heq:=Lib.hid (usualP_eq h0)
 have Hfold:=Lib.hid (fun k (h1:1 ≤ k) (hk:k ≤ l.length)=>okP_fold hall h1 hk)
 have Hall:=Lib.hid (fun k (hk:k < l.length)=>List.all_eq_true.1 hall l[k] (List.getElem_mem hk))
 have hfb:=(term_bd (Hall.out 0 h0)).1
 obtain ⟨b,off,hA,hbB,hc⟩:=hs.at_ (i:=0) (by simpa using h0)
 simp only [List.getElem_map] at hc
 have c0:w.cell? ⟨b,off,none⟩=some (.int .i64 l[0].digits):=by have:=hc 0 _ rfl;simpa using this
 have c1':w.cell? ⟨b,off+1,none⟩=some (.int .i64 l[0].tens):=by have:=hc 1 _ rfl;simpa using this
 clear hc hall
 subst hA
 have HSl:=Lib.hid hs
 clear hs
 have h0I:(0:Int) < (l.length:Int):=by omega
 have HD:=fun (W:World) (hW:Below w.heap.size w W)=>Lib.hid (l14Do_c L A1 c1 l1 A2 c2 l2 ⟨0,0,[],false⟩ none 0 0 l[0].digits l[0].tens W (R.later hW) (by omega) (by simp only;omega) (fun _=>hfb) (by simp) Sl.nil_)
 have Hh:Hid (mvP ⟨0,0,[],false⟩ 0 l[0].digits l[0].tens false=foldP (headP l[0]) l 1):=by unfold Hid;rw [foldP_one];rfl
 rw [Hh.out] at HD
 simp only [List.length_nil] at HD
 have HD:=Lib.hid HD
 generalize l[0].digits=d0 at *
 generalize l[0].tens=t0 at *
 have hW:Below w.heap.size w (w.alloc (.cells #[.int .i64 L,.slice A1 l1.length c1,.slice A2 l2.length c2] 26)):=(by repeat first | with_reducible (first | exact Below.refl _ _ | apply below_drewN' | apply Below.drew | refine Below.alloc ?_ ?_ _ | refine Below.setCell ?_ ?_ _) | exact Below.refl _ _ | omega | (simp <;> omega) | (have:=(Below.refl _ _).size;first | omega | (simp <;> omega)))
 have B2:=Blk.new w 26 #[.int .i64 L,.slice A1 l1.length c1,.slice A2 l2.length c2]
 clear hfb Hh
 go_enter Tryz.func61,Tryz.ntmps61
 go_wp2_with fail
 have k0:(w.alloc (.cells #[.int .i64 L,.slice A1 l1.length c1,.slice A2 l2.length c2] 26)).cell? ⟨b,off,none⟩=some (.int .i64 d0):=by rw [hW.cell (p:=⟨b,off,none⟩) hbB];exact c0
 have k1:(w.alloc (.cells #[.int .i64 L,.slice A1 l1.length c1,.slice A2 l2.length c2] 26)).cell? ⟨b,off+1,none⟩=some (.int .i64 t0):=by rw [hW.cell (p:=⟨b,off+1,none⟩) hbB];exact c1'
 have hbW:b < (w.alloc (.cells #[.int .i64 L,.slice A1 l1.length c1,.slice A2 l2.length c2] 26)).heap.size:=Nat.lt_of_lt_of_le hbB hW.size
 clear c0 c1'
 generalize w.alloc (.cells #[.int .i64 L,.slice A1 l1.length c1,.slice A2 l2.length c2] 26)=W at *
 refine wp_region_sink 8 (fun a0 fL bA v=>∃ v9 v10 v11 v12 v13 v14 v15 v5:Value,bA=(((((((a0.put (some 9) v9).put (some 10) v10).put (some 11) v11).put (some 12) v12).put (some 13) v13).put (some 14) v14).put (some 15) v15).put (some 5) v5∧(U1 W (foldP (headP l[0]) l 1) (fL 6) (fL 7) v15 v5 v)∧(fL 0=true→v9=.agg #[.int .i64 0,.int .i64 0,.slice none 0 0,.bool false])∧(fL 1=true→v10=.agg #[.int .i64 L,.slice A1 l1.length c1,.slice A2 l2.length c2])∧(fL 2=true→v11=.slice (some ⟨b,off,none⟩) l.length c3)∧(fL 3=true→v12=.pointer (some ⟨b,off,none⟩))∧(fL 4=true→v13=.pointer (some ⟨b,off,none⟩))∧(fL 5=true→v14=.agg #[.int .i64 d0,.int .i64 t0])∧(fL 6=true→True)∧(fL 7=true→True)) (by kernel_rfl) (by decide +kernel) ?_ ?_ ?_
 ·exact ⟨undef,undef,undef,undef,undef,undef,undef,undef,by simp only [Act.put,List.setIfInBounds_toArray,List.set_cons_zero,List.set_cons_succ],U1.init,nofun,nofun,nofun,nofun,nofun,nofun,nofun,nofun⟩
 ·rintro fL bA v ⟨v9,v10,v11,v12,v13,v14,v15,v5,rfl,hS,q0,q1,q2,q3,q4,q5,q6,q7⟩ i hi hf o ho hall
  simp only [Act.put,List.setIfInBounds_toArray,List.set_cons_zero,List.set_cons_succ]
  have hn:i=0 ∨ i=1 ∨ i=2 ∨ i=3 ∨ i=4 ∨ i=5 ∨ i=6 ∨ i=7:=by omega
  clear hi
  rcases hn with rfl | rfl | rfl | rfl | rfl | rfl | rfl | rfl
  ·obtain rfl:=Option.some.inj ho
   clear hall ho
   refine wpOp_step rfl (fun K hK=>?_)
   go_simp
   exact hK _ _ ⟨_,_,_,_,_,_,_,_,rfl,hS,fun _=>rfl,q1,q2,q3,q4,q5,fun _=>trivial,fun _=>trivial⟩
  ·obtain rfl:=Option.some.inj ho
   have E:=B2.below hS.hb B2.lt
   have y0:v.cell? ⟨w.heap.size,0,none⟩=some (.int .i64 L):=E.cell 0
   have y1:v.cell? ⟨w.heap.size,1,none⟩=some (.slice A1 l1.length c1):=E.cell 1
   have y2:v.cell? ⟨w.heap.size,2,none⟩=some (.slice A2 l2.length c2):=E.cell 2
   clear hall ho
   refine wpOp_step rfl (fun K hK=>?_)
   go_simp
   exact hK _ _ ⟨_,_,_,_,_,_,_,_,rfl,hS,q0,fun _=>rfl,q2,q3,q4,q5,fun _=>trivial,fun _=>trivial⟩
  ·obtain rfl:=Option.some.inj ho
   clear hall ho
   refine wpOp_step rfl (fun K hK=>?_)
   go_simp
   exact hK _ _ ⟨_,_,_,_,_,_,_,_,rfl,hS,q0,q1,fun _=>rfl,q3,q4,q5,fun _=>trivial,fun _=>trivial⟩
  ·obtain rfl:=Option.some.inj ho
   obtain rfl:=q2 (hall ⟨2,.data⟩ (by simp) rfl)
   clear hall ho
   refine wpOp_step rfl (fun K hK=>?_)
   go_simp
   exact hK _ _ ⟨_,_,_,_,_,_,_,_,rfl,hS,q0,q1,fun _=>rfl,fun _=>rfl,q4,q5,fun _=>trivial,fun _=>trivial⟩
  ·obtain rfl:=Option.some.inj ho
   obtain rfl:=q3 (hall ⟨3,.data⟩ (by simp) rfl)
   clear hall ho
   refine wpOp_step rfl (fun K hK=>?_)
   go_simp
   exact hK _ _ ⟨_,_,_,_,_,_,_,_,rfl,hS,q0,q1,q2,fun _=>rfl,fun _=>rfl,q5,fun _=>trivial,fun _=>trivial⟩
  ·obtain rfl:=Option.some.inj ho
   obtain rfl:=q4 (hall ⟨4,.data⟩ (by simp) rfl)
   have y0:v.cell? ⟨b,off,none⟩=some (.int .i64 d0):=by rw [hS.hb.cell (p:=⟨b,off,none⟩) hbW];exact k0
   have y1:v.cell? ⟨b,off+1,none⟩=some (.int .i64 t0):=by rw [hS.hb.cell (p:=⟨b,off+1,none⟩) hbW];exact k1
   clear hall ho
   refine wpOp_step rfl (fun K hK=>?_)
   go_simp
   exact hK _ _ ⟨_,_,_,_,_,_,_,_,rfl,hS,q0,q1,q2,q3,fun _=>rfl,fun _=>rfl,fun _=>trivial,fun _=>trivial⟩
  ·obtain rfl:=Option.some.inj ho
   obtain rfl:=q0 (hall ⟨0,.data⟩ (by simp) rfl)
   obtain rfl:=q1 (hall ⟨1,.data⟩ (by simp) rfl)
   obtain rfl:=q5 (hall ⟨5,.data⟩ (by simp) rfl)
   clear hall ho
   refine wpOp_step rfl (fun K hK=>?_)
   go_simp
   refine Calls.mono (HD.out v (hW.trans (hS.hb.mono hW.size))).out ?_;rintro e w1 ⟨⟨u,rfl,hu⟩,hb1⟩
   go_simp
   exact hK _ _ ⟨_,_,_,_,_,_,_,_,rfl,hS.s15 hb1 hu,fun _=>rfl,fun _=>rfl,q2,q3,q4,fun _=>rfl,fun _=>trivial,fun _=>trivial⟩
  ·obtain rfl:=Option.some.inj ho
   clear hall ho
   refine wpOp_step rfl (fun K hK=>?_)
   go_simp
   exact hK _ _ ⟨_,_,_,_,_,_,_,_,rfl,hS.s5,q0,q1,q2,q3,q4,q5,fun _=>trivial,fun _=>trivial⟩
 ·rintro fL bA v ⟨v9,v10,v11,v12,v13,v14,v15,v5,rfl,hS,q0,q1,q2,q3,q4,q5,q6,q7⟩ hall
  simp only [Act.put,List.setIfInBounds_toArray,List.set_cons_zero,List.set_cons_succ]
  obtain rfl:=q0 (hall 0 (by omega))
  obtain rfl:=q1 (hall 1 (by omega))
  obtain rfl:=q2 (hall 2 (by omega))
  obtain rfl:=q3 (hall 3 (by omega))
  obtain rfl:=q4 (hall 4 (by omega))
  obtain rfl:=q5 (hall 5 (by omega))
  have e6:fL 6=true:=hall 6 (by omega)
  have e7:fL 7=true:=hall 7 (by omega)
  clear hall
  simp only [List.drop_succ_cons,List.drop_zero]
  obtain ⟨A',c',rfl,hO⟩:=hS.y15 e6
  obtain ⟨g,rfl,Bg,hgW⟩:=hS.y5 e7
  have hvb:=hS.hb
  have UA0:UsA w L A1 l1.length c1 A2 l2.length c2 g ⟨0,0,[],false⟩ none 0 v:=⟨hW.trans (hvb.mono hW.size),B2.below hvb B2.lt,Bg,Sl.nil_,nofun,Nat.lt_of_lt_of_le B2.lt hgW,fun _ _=>nofun,Nat.le_refl _⟩
  have hoff:Off A' g:=by
   intro b' off' e' e''
   subst e''
   refine own_ne_blk hO Bg (by decide) ?_
   rw [e']
   simp only [Value.ownBlock]
  have hUA:=UA0.store (q:=foldP (headP l[0]) l 1) (c'':=c') hO.sl hoff (fun q' hq'=>own_off hO (Nat.lt_of_lt_of_le hq' hW.size)) hO.le_cap
  have z0:v.cell? ⟨g,0,none⟩=some (.int .i64 0):=Bg.cell 0
  have z1:v.cell? ⟨g,1,none⟩=some (.int .i64 0):=Bg.cell 1
  have z2:v.cell? ⟨g,2,none⟩=some (.slice none 0 0):=Bg.cell 2
  have z3:v.cell? ⟨g,3,none⟩=some (.bool false):=Bg.cell 3
  have f0:=Bg.frozen 0
  have f1:=Bg.frozen 1
  have f2:=Bg.frozen 2
  have f3:=Bg.frozen 3
  have HUA:=Lib.hid hUA
  clear UA0 hO Bg hS hvb k0 k1 hW B2 HD hbW hUA
  unfold plan4
  go_wp2_with fail
  have hUA:=HUA.out
  clear z0 z1 z2 z3 f0 f1 f2 f3 HUA
  generalize ((((v.setCell ⟨g,0,none⟩ _).setCell ⟨g,1,none⟩ _).setCell ⟨g,2,none⟩ _).setCell ⟨g,3,none⟩ _)=w2 at *
  go_loopw [6] (fun i wr=>∃ (k:Nat) (Ak:Option Addr) (ck:Nat),1 ≤ k∧k ≤ l.length∧i=.int .i64 k∧UsA w L A1 l1.length c1 A2 l2.length c2 g (foldP (headP l[0]) l k) Ak ck wr) (fun i _=>l.length - (intOf i).toNat)
  case atStart=>exact ⟨1,A',c',Nat.le_refl _,h0,rfl,hUA⟩
  case round =>
   clear hUA
   obtain ⟨k,Ak,ck,hk1,hk,rfl,U⟩:=hrel
   by_cases hlt:k < l.length
   ·obtain ⟨b',off',hA',_,hc'⟩:=HSl.out.at_ (i:=k) (by simpa using hlt)
    obtain ⟨rfl,rfl⟩:b=b'∧off=off':=by simpa using hA'
    clear hA'
    simp only [List.getElem_map] at hc'
    have e0:wr.cell? ⟨b,off+k * 3,none⟩=some (.int .i64 l[k].digits):=by rw [U.hb.cell hbB];exact hc' 0 _ rfl
    have e1:wr.cell? ⟨b,off+k * 3+1,none⟩=some (.int .i64 l[k].tens):=by rw [U.hb.cell hbB];exact hc' 1 _ rfl
    have e2:wr.cell? ⟨b,off+k * 3+2,none⟩=some (.bool l[k].div):=by rw [U.hb.cell hbB];exact hc' 2 _ rfl
    clear hc'
    obtain ⟨hok,hln⟩:=Hfold.out k hk1 hk
    have hok2:=okP_under hok
    have hue:=under_en (foldP (headP l[0]) l k)
    have hul:=under_len (foldP (headP l[0]) l k)
    have htk:=Hall.out k hlt
    have hfb:=(term_bd htk).1
    have Hnx:=Lib.hid (foldP_succ (headP l[0]) l (k:=k) hk1 hlt)
    have hltI:(k:Int) < (l.length:Int):=by omega
    have hbw:b < wr.heap.size:=Nat.lt_of_lt_of_le hbB U.hb.size
    generalize l[k]=tk at *
    generalize hp0:foldP (headP l[0]) l k=p at *
    clear hp0 htk
    obtain ⟨td,tt,tv⟩:=tk
    simp only at e0 e1 e2 hfb
    have hba:Below wr.heap.size wr (wr.alloc (.cells #[.int .i64 td,.int .i64 tt] 51)):=(Below.refl _ _).alloc (Nat.le_refl _) _
    have e2':(wr.alloc (.cells #[.int .i64 td,.int .i64 tt] 51)).cell? ⟨b,off+k * 3+2,none⟩=some (.bool tv):=by rw [hba.cell (p:=⟨b,off+k * 3+2,none⟩) hbw];exact e2
    have B7:=Blk.new wr 51 #[.int .i64 td,.int .i64 tt]
    have U0:=U.below hba
    have hgg7:g < wr.heap.size:=U.b5.lt
    have HU:=fun (A:Option Addr) (c:Nat) (W:World) (hW:Below w.heap.size w W) (hS:Sl W W.heap.size 4 A (p.ms.map Move.cells)) (hC:p.ms.length ≤ c)=>Lib.hid (l14Under_c L A1 c1 l1 A2 c2 l2 p A c W (R.later hW) hok.1 (by omega) hS hC)
    have HDo:=fun (q:PS) (A:Option Addr) (c:Nat) (kk d t:Int) (hkk:0 ≤ kk∧kk ≤ 6) (hq:(-1048576 ≤ q.sh∧q.sh ≤ 1048576)∧0 ≤ q.cu∧q.cu ≤ 1048576) (hd:kk ≤ 2→1000 ≤ d∧d ≤ 9999) (hr:q.ms.length ≤ 1000) (W:World) (hW:Below w.heap.size w W) (hS:Sl W W.heap.size 4 A (q.ms.map Move.cells))=>Lib.hid (l14DoP_c L A1 c1 l1 A2 c2 l2 q A c kk d t W (R.later hW) hkk hq hd hr hS)
    have HU:=Lib.hid HU
    have HDo:=Lib.hid HDo
    have Hok:=Lib.hid hok
    have Hok2:=Lib.hid hok2
    have Hln:Hid (p.ms.length ≤ 20):=(show p.ms.length ≤ 20 by omega)
    have Hul:Hid ((underP p).ms.length ≤ 21):=(show (underP p).ms.length ≤ 21 by omega)
    have Hue:=Lib.hid hue
    have Hfb:=Lib.hid hfb
    clear hok hok2 hln hul hue hba U hfb
    cases tv with
    | true =>
     go_wp2_with fail
     clear e0 e1 e2 e2'
     generalize hg7:wr.heap.size=g7 at *
     generalize wr.alloc (.cells #[.int .i64 td,.int .i64 tt] 51)=w3 at *
     refine wp_region_sink 6 (fun a0 fL bA v=>∃ v51 v52 v53 v54 v55 v56:Value,bA=(((((a0.put (some 51) v51).put (some 52) v52).put (some 53) v53).put (some 54) v54).put (some 55) v55).put (some 56) v56∧(U2 w3 Ak (underP p) (mvP (underP p) 2 td tt false) (fL 2) (fL 5) v53 v56 v)∧(fL 0=true→v51=.agg (plan4 p Ak ck))∧(fL 1=true→v52=.agg #[.int .i64 L,.slice A1 l1.length c1,.slice A2 l2.length c2])∧(fL 2=true→True)∧(fL 3=true→v54=.agg #[.int .i64 L,.slice A1 l1.length c1,.slice A2 l2.length c2])∧(fL 4=true→v55=.agg #[.int .i64 td,.int .i64 tt])∧(fL 5=true→True)) (by kernel_rfl) (by decide +kernel) ?_ ?_ ?_
     ·exact ⟨_,_,_,_,_,_,put_more (put_more (put_more (put_more (put_more (put_more (rfl) 51) 52) 53) 54) 55) 56,U2.init,nofun,nofun,nofun,nofun,nofun,nofun⟩
     ·rintro fL bA v ⟨v51,v52,v53,v54,v55,v56,rfl,hS,q0,q1,q2,q3,q4,q5⟩ i hi hf o ho hall
      simp only [Act.put,List.setIfInBounds_toArray,List.set_cons_zero,List.set_cons_succ]
      have hn:i=0 ∨ i=1 ∨ i=2 ∨ i=3 ∨ i=4 ∨ i=5:=by omega
      clear hi
      rcases hn with rfl | rfl | rfl | rfl | rfl | rfl
      ·obtain rfl:=Option.some.inj ho
       have E:=U0.b5.below hS.hb U0.b5.lt
       have y0:v.cell? ⟨g,0,none⟩=some (.int .i64 p.sh):=E.cell 0
       have y1:v.cell? ⟨g,1,none⟩=some (.int .i64 p.cu):=E.cell 1
       have y2:v.cell? ⟨g,2,none⟩=some (.slice Ak p.ms.length ck):=E.cell 2
       have y3:v.cell? ⟨g,3,none⟩=some (.bool p.en):=E.cell 3
       clear hall ho
       refine wpOp_step rfl (fun K hK=>?_)
       go_simp
       exact hK _ _ ⟨_,_,_,_,_,_,rfl,hS,fun _=>rfl,q1,fun _=>trivial,q3,q4,fun _=>trivial⟩
      ·obtain rfl:=Option.some.inj ho
       have E:=U0.b2.below hS.hb U0.b2.lt
       have y0:v.cell? ⟨w.heap.size,0,none⟩=some (.int .i64 L):=E.cell 0
       have y1:v.cell? ⟨w.heap.size,1,none⟩=some (.slice A1 l1.length c1):=E.cell 1
       have y2:v.cell? ⟨w.heap.size,2,none⟩=some (.slice A2 l2.length c2):=E.cell 2
       clear hall ho
       refine wpOp_step rfl (fun K hK=>?_)
       go_simp
       exact hK _ _ ⟨_,_,_,_,_,_,rfl,hS,q0,fun _=>rfl,fun _=>trivial,q3,q4,fun _=>trivial⟩
      ·obtain rfl:=Option.some.inj ho
       obtain rfl:=q0 (hall ⟨0,.data⟩ (by simp) rfl)
       obtain rfl:=q1 (hall ⟨1,.data⟩ (by simp) rfl)
       clear hall ho
       refine wpOp_step rfl (fun K hK=>?_)
       unfold plan4
       go_simp
       refine Calls.mono (HU.out Ak ck v (U0.hb.trans (hS.hb.mono U0.hb.size)) ((U0.sl.below hS.hb).more hS.hb.size) U0.cp).out ?_;rintro e w1 ⟨⟨u,rfl,hu⟩,hb1⟩
       go_simp
       exact hK _ _ ⟨_,_,_,_,_,_,rfl,hS.s1 hb1 hu,fun _=>rfl,fun _=>rfl,fun _=>trivial,q3,q4,fun _=>trivial⟩
      ·obtain rfl:=Option.some.inj ho
       have E:=U0.b2.below hS.hb U0.b2.lt
       have y0:v.cell? ⟨w.heap.size,0,none⟩=some (.int .i64 L):=E.cell 0
       have y1:v.cell? ⟨w.heap.size,1,none⟩=some (.slice A1 l1.length c1):=E.cell 1
       have y2:v.cell? ⟨w.heap.size,2,none⟩=some (.slice A2 l2.length c2):=E.cell 2
       clear hall ho
       refine wpOp_step rfl (fun K hK=>?_)
       go_simp
       exact hK _ _ ⟨_,_,_,_,_,_,rfl,hS,q0,q1,fun _=>trivial,fun _=>rfl,q4,fun _=>trivial⟩
      ·obtain rfl:=Option.some.inj ho
       have E:=B7.below hS.hb B7.lt
       have y0:v.cell? ⟨g7,0,none⟩=some (.int .i64 td):=E.cell 0
       have y1:v.cell? ⟨g7,1,none⟩=some (.int .i64 tt):=E.cell 1
       clear hall ho
       refine wpOp_step rfl (fun K hK=>?_)
       go_simp
       exact hK _ _ ⟨_,_,_,_,_,_,rfl,hS,q0,q1,fun _=>trivial,q3,fun _=>rfl,fun _=>trivial⟩
      ·obtain rfl:=Option.some.inj ho
       have e2:fL 2=true:=hall ⟨2,.data⟩ (by simp) rfl
       obtain rfl:=q3 (hall ⟨3,.data⟩ (by simp) rfl)
       obtain rfl:=q4 (hall ⟨4,.data⟩ (by simp) rfl)
       clear hall ho
       refine wpOp_step rfl (fun K hK=>?_)
       obtain ⟨A4,c4,rfl,hsl4,ho4,hcp4⟩:=hS.y1 e2
       go_simp
       refine Calls.mono (HDo.out (underP p) A4 c4 2 td tt (by omega) Hok2.out.1 (fun _=>Hfb.out) (by have:=Hul.out;omega) v (U0.hb.trans (hS.hb.mono U0.hb.size)) hsl4).out ?_;rintro e w1 ⟨⟨u,rfl,hu⟩,hb1⟩
       go_simp
       exact hK _ _ ⟨_,_,_,_,_,_,rfl,hS.s2 hb1 ho4 hu,q0,q1,fun _=>trivial,fun _=>rfl,fun _=>rfl,fun _=>trivial⟩
     ·rintro fL bA v ⟨v51,v52,v53,v54,v55,v56,rfl,hS,q0,q1,q2,q3,q4,q5⟩ hall
      simp only [Act.put,List.setIfInBounds_toArray,List.set_cons_zero,List.set_cons_succ]
      obtain rfl:=q0 (hall 0 (by omega))
      obtain rfl:=q1 (hall 1 (by omega))
      have e2:fL 2=true:=hall 2 (by omega)
      obtain rfl:=q3 (hall 3 (by omega))
      obtain rfl:=q4 (hall 4 (by omega))
      have e5:fL 5=true:=hall 5 (by omega)
      clear hall
      simp only [List.drop_succ_cons,List.drop_zero]
      obtain ⟨A5,c5,rfl,hsl5,ho5,hcp5⟩:=hS.y2 e5
      have U3:=U0.below hS.hb
      have hoff5:Off A5 g:=ho5 g U0.b5.lt U0.off
      have hnw5:∀ q',q' < w.heap.size→Off A5 q':=fun q' hq'=>ho5 q' (Nat.lt_of_lt_of_le hq' U0.hb.size) (U0.nw q' hq')
      have U4:=(U3.store (q:=mvP (underP p) 2 td tt false) (c'':=c5) hsl5 hoff5 hnw5 hcp5)
      have Bg:=U3.b5
      have z0:v.cell? ⟨g,0,none⟩=some (.int .i64 p.sh):=Bg.cell 0
      have z1:v.cell? ⟨g,1,none⟩=some (.int .i64 p.cu):=Bg.cell 1
      have z2:v.cell? ⟨g,2,none⟩=some (.slice Ak p.ms.length ck):=Bg.cell 2
      have z3:v.cell? ⟨g,3,none⟩=some (.bool p.en):=Bg.cell 3
      have f0:=Bg.frozen 0
      have f1:=Bg.frozen 1
      have f2:=Bg.frozen 2
      have f3:=Bg.frozen 3
      have HU5:Hid (UsA w L A1 l1.length c1 A2 l2.length c2 g (termP p ⟨td,tt,true⟩) A5 c5 _):=U4.setEn true
      clear U0 U3 U4 Bg hS B7 HU HDo Hok Hok2 hsl5 ho5 hnw5 hcp5
      go_wp2
      go_roundw
      case rel=>exact ⟨k+1,A5,c5,by omega,by omega,by go_num,by rw [Hnx.out];exact HU5.out⟩
      case measure=>simp [intOf];omega
    | false =>
     cases hen:p.en with
     | true =>
      have Hen:=Lib.hid hen;clear hen
      have HF:=fun W=>Lib.hid (l14Fits_c p.sh p.cu td tt W Hok.out.1.1 Hfb.out)
      have z0:(wr.alloc (.cells #[.int .i64 td,.int .i64 tt] 51)).cell? ⟨g,0,none⟩=some (.int .i64 p.sh):=U0.b5.cell 0
      have z1:(wr.alloc (.cells #[.int .i64 td,.int .i64 tt] 51)).cell? ⟨g,1,none⟩=some (.int .i64 p.cu):=U0.b5.cell 1
      have z2:(wr.alloc (.cells #[.int .i64 td,.int .i64 tt] 51)).cell? ⟨g,2,none⟩=some (.slice Ak p.ms.length ck):=U0.b5.cell 2
      have z3:(wr.alloc (.cells #[.int .i64 td,.int .i64 tt] 51)).cell? ⟨g,3,none⟩=some (.bool true):=by rw [← Hen.out];exact U0.b5.cell 3
      have r0:(wr.alloc (.cells #[.int .i64 td,.int .i64 tt] 51)).cell? ⟨w.heap.size,0,none⟩=some (.int .i64 L):=U0.b2.cell 0
      have r1:(wr.alloc (.cells #[.int .i64 td,.int .i64 tt] 51)).cell? ⟨w.heap.size,1,none⟩=some (.slice A1 l1.length c1):=U0.b2.cell 1
      have r2:(wr.alloc (.cells #[.int .i64 td,.int .i64 tt] 51)).cell? ⟨w.heap.size,2,none⟩=some (.slice A2 l2.length c2):=U0.b2.cell 2
      go_wp2_with fail
      clear e0 e1 e2 e2' z0 z1 z2 z3 r0 r1 r2
      generalize hg7:wr.heap.size=g7 at *
      generalize wr.alloc (.cells #[.int .i64 td,.int .i64 tt] 51)=w3 at *
      refine Calls.mono (HF w3).out ?_;rintro e w5 ⟨rfl,hb5⟩
      have UX:=U0.below hb5
      have BX:=B7.below hb5 B7.lt
      have hg7g:g < g7:=hgg7
      clear U0 B7 hb5 HF
      have z0:w5.cell? ⟨g,0,none⟩=some (.int .i64 p.sh):=UX.b5.cell 0
      have z1:w5.cell? ⟨g,1,none⟩=some (.int .i64 p.cu):=UX.b5.cell 1
      have z2:w5.cell? ⟨g,2,none⟩=some (.slice Ak p.ms.length ck):=UX.b5.cell 2
      have z3:w5.cell? ⟨g,3,none⟩=some (.bool true):=by rw [← Hen.out];exact UX.b5.cell 3
      have r0:w5.cell? ⟨w.heap.size,0,none⟩=some (.int .i64 L):=UX.b2.cell 0
      have r1:w5.cell? ⟨w.heap.size,1,none⟩=some (.slice A1 l1.length c1):=UX.b2.cell 1
      have r2:w5.cell? ⟨w.heap.size,2,none⟩=some (.slice A2 l2.length c2):=UX.b2.cell 2
      have t0:w5.cell? ⟨g7,0,none⟩=some (.int .i64 td):=BX.cell 0
      have t1:w5.cell? ⟨g7,1,none⟩=some (.int .i64 tt):=BX.cell 1
      cases hfit:fitsB p.sh td with
      | true =>
       have Hfit:=Lib.hid hfit;clear hfit
       go_wp2_with fail
       clear z0 z1 z2 z3 r0 r1 r2 t0 t1
       have hdo:=HDo.out p Ak ck 1 td tt (by omega) Hok.out.1 (fun _=>Hfb.out) (by have:=Hln.out;omega) w5 UX.hb UX.sl
       rw [Hen.out] at hdo
       refine Calls.mono hdo.out ?_;rintro e w6 ⟨⟨u6,rfl,A5,c5,rfl,hsl5,ho5,hcp5⟩,hb6⟩
       have U6:=UX.below hb6
       have hoff5:Off A5 g:=ho5 g UX.b5.lt UX.off
       have hnw5:∀ q',q' < w.heap.size→Off A5 q':=fun q' hq'=>ho5 q' (Nat.lt_of_lt_of_le hq' UX.hb.size) (UX.nw q' hq')
       have Hq5:Hid (termP p ⟨td,tt,false⟩=mvP p 1 td tt false):=by
        unfold Hid termP
        simp only [Bool.false_eq_true,if_false,Hen.out,Hfit.out,Bool.true_and,if_true]
       have HU5:=Lib.hid (U6.store (q:=mvP p 1 td tt false) (c'':=c5) hsl5 hoff5 hnw5 hcp5)
       have Bg:=U6.b5
       have z0:w6.cell? ⟨g,0,none⟩=some (.int .i64 p.sh):=Bg.cell 0
       have z1:w6.cell? ⟨g,1,none⟩=some (.int .i64 p.cu):=Bg.cell 1
       have z2:w6.cell? ⟨g,2,none⟩=some (.slice Ak p.ms.length ck):=Bg.cell 2
       have z3:w6.cell? ⟨g,3,none⟩=some (.bool p.en):=Bg.cell 3
       have f0:w6.frozen? ⟨g,0,none⟩=false:=Bg.frozen 0
       have f1:w6.frozen? ⟨g,1,none⟩=false:=Bg.frozen 1
       have f2:w6.frozen? ⟨g,2,none⟩=false:=Bg.frozen 2
       have f3:w6.frozen? ⟨g,3,none⟩=false:=Bg.frozen 3
       clear UX BX U6 Bg HU HDo Hok Hok2 hsl5 ho5 hnw5 hcp5 hdo hb6
       go_wp2
       go_roundw
       case rel=>exact ⟨k+1,A5,c5,by omega,by omega,by go_num,by rw [Hnx.out,Hq5.out];exact HU5.out⟩
       case measure=>simp [intOf];omega
      | false =>
       have Hfit:=Lib.hid hfit;clear hfit
       go_wp2_with fail
       clear z0 z1 z2 z3 r0 r1 r2 t0 t1
       have hun:=HU.out Ak ck w5 UX.hb UX.sl UX.cp
       rw [Hen.out] at hun
       refine Calls.mono hun.out ?_;clear hun;rintro e w6 ⟨⟨u6,rfl,A6,c6,rfl,hsl6,ho6,hcp6⟩,hb6⟩
       have U6:=UX.below hb6
       have B76:=BX.below hb6 BX.lt
       have hoff6:Off A6 g:=ho6 g UX.b5.lt UX.off
       have hnw6:∀ q',q' < w.heap.size→Off A6 q':=fun q' hq'=>ho6 q' (Nat.lt_of_lt_of_le hq' UX.hb.size) (UX.nw q' hq')
       have U7:=U6.store (q:=underP p) (c'':=c6) hsl6 hoff6 hnw6 hcp6
       have hgr:w6.grownBy ((((w6.setCell ⟨g,0,none⟩ (.int .i64 (underP p).sh)).setCell ⟨g,1,none⟩ (.int .i64 (underP p).cu)).setCell ⟨g,2,none⟩ (.slice A6 (underP p).ms.length c6)).setCell ⟨g,3,none⟩ (.bool (underP p).en)) (some g):=grownBy_stores [_,_,_,_] 0 (World.grownBy.refl _ _)
       have B77:Blk _ g7 51 #[.int .i64 td,.int .i64 tt]:=(hgr.block g7 B76.lt (by intro e;simp only [Option.some.injEq] at e;omega)).trans B76
       have z0:w6.cell? ⟨g,0,none⟩=some (.int .i64 p.sh):=U6.b5.cell 0
       have z1:w6.cell? ⟨g,1,none⟩=some (.int .i64 p.cu):=U6.b5.cell 1
       have z2:w6.cell? ⟨g,2,none⟩=some (.slice Ak p.ms.length ck):=U6.b5.cell 2
       have z3:w6.cell? ⟨g,3,none⟩=some (.bool p.en):=U6.b5.cell 3
       have f0:w6.frozen? ⟨g,0,none⟩=false:=U6.b5.frozen 0
       have f1:w6.frozen? ⟨g,1,none⟩=false:=U6.b5.frozen 1
       have f2:w6.frozen? ⟨g,2,none⟩=false:=U6.b5.frozen 2
       have f3:w6.frozen? ⟨g,3,none⟩=false:=U6.b5.frozen 3
       have HU7:=Lib.hid U7
       have HB7:=Lib.hid B77
       have Hsc:∀ W,Hid (Calls Tryz.prog 56 #[.int .i64 ((underP p).cu+pointC td),.int .i64 0,.int .i64 1048576] W fun e w'=>e=.returned (.bool (fitsB (underP p).cu td))∧Below W.heap.size W w'):=fun W=>calls_same (l01In_c ((underP p).cu+pointC td) 0 1048576 W)
       have hpb:=pointC_bd Hfb.out
       have hcu:=Hok2.out.1.2
       have hw1:IntKind.i64.wrap ((underP p).cu+pointC td)=(underP p).cu+pointC td:=IntWalk.i64_in _ (by omega)
       have HPt:=fun W=>Lib.hid (l14Point_c td tt W Hfb.out)
       clear hsl6 ho6 hnw6 hcp6 hb6 U6 B76 UX BX U7 hgr B77 hcu hpb
       go_wp2_with fail
       have U7:=HU7.out
       have B77:=HB7.out
       clear z0 z1 z2 z3 f0 f1 f2 f3 HU7 HB7
       generalize ((((w6.setCell ⟨g,0,none⟩ _).setCell ⟨g,1,none⟩ _).setCell ⟨g,2,none⟩ _).setCell ⟨g,3,none⟩ _)=w7 at *
       refine wp_region_all (fun a0 fL bA v=>∃ v30 v31 v32 v33 v34 v35 v36:Value,bA=((((((a0.put (some 30) v30).put (some 31) v31).put (some 32) v32).put (some 33) v33).put (some 34) v34).put (some 35) v35).put (some 36) v36∧(Below w7.heap.size w7 v)∧(fL 0=true→v30=.pointer (some ⟨g,0,none⟩))∧(fL 1=true→v31=.pointer (some ⟨g,1,none⟩))∧(fL 2=true→v32=.int .i64 (underP p).cu)∧(fL 3=true→v33=.agg #[.int .i64 td,.int .i64 tt])∧(fL 4=true→v34=.int .i64 (pointC td))∧(fL 5=true→v35=.int .i64 ((underP p).cu+pointC td))∧(fL 6=true→v36=.bool (fitsB (underP p).cu td))) (by kernel_rfl) (by decide +kernel) ?_ ?_ ?_
       ·exact ⟨_,_,_,_,_,_,_,put_more (put_more (put_more (put_more (put_more (put_more (put_more (rfl) 30) 31) 32) 33) 34) 35) 36,(Below.refl _ _).drew,nofun,nofun,nofun,nofun,nofun,nofun,nofun⟩
       ·rintro fL bA v ⟨v30,v31,v32,v33,v34,v35,v36,rfl,hS,q0,q1,q2,q3,q4,q5,q6⟩ i hi hf o ho hall
        simp only [Act.put,List.setIfInBounds_toArray,List.set_cons_zero,List.set_cons_succ]
        simp only [List.length_cons,List.length_nil] at hi
        have hn:i=0 ∨ i=1 ∨ i=2 ∨ i=3 ∨ i=4 ∨ i=5 ∨ i=6:=by omega
        clear hi
        rcases hn with rfl | rfl | rfl | rfl | rfl | rfl | rfl
        ·obtain rfl:=Option.some.inj ho
         clear hall ho
         refine wpOp_step rfl (fun K hK=>?_)
         go_simp
         exact hK _ _ ⟨_,_,_,_,_,_,_,rfl,hS,fun _=>rfl,q1,q2,q3,q4,q5,q6⟩
        ·obtain rfl:=Option.some.inj ho
         obtain rfl:=q0 (hall ⟨0,.data⟩ (by simp) rfl)
         clear hall ho
         refine wpOp_step rfl (fun K hK=>?_)
         go_simp
         exact hK _ _ ⟨_,_,_,_,_,_,_,rfl,hS,fun _=>rfl,fun _=>rfl,q2,q3,q4,q5,q6⟩
        ·obtain rfl:=Option.some.inj ho
         obtain rfl:=q1 (hall ⟨1,.data⟩ (by simp) rfl)
         have E:=U7.b5.below hS U7.b5.lt
         have y0:v.cell? ⟨g,1,none⟩=some (.int .i64 (underP p).cu):=E.cell 1
         clear hall ho
         refine wpOp_step rfl (fun K hK=>?_)
         go_simp
         exact hK _ _ ⟨_,_,_,_,_,_,_,rfl,hS,q0,fun _=>rfl,fun _=>rfl,q3,q4,q5,q6⟩
        ·obtain rfl:=Option.some.inj ho
         have E:=B77.below hS B77.lt
         have y0:v.cell? ⟨g7,0,none⟩=some (.int .i64 td):=E.cell 0
         have y1:v.cell? ⟨g7,1,none⟩=some (.int .i64 tt):=E.cell 1
         clear hall ho
         refine wpOp_step rfl (fun K hK=>?_)
         go_simp
         exact hK _ _ ⟨_,_,_,_,_,_,_,rfl,hS,q0,q1,q2,fun _=>rfl,q4,q5,q6⟩
        ·obtain rfl:=Option.some.inj ho
         obtain rfl:=q3 (hall ⟨3,.data⟩ (by simp) rfl)
         clear hall ho
         refine wpOp_step rfl (fun K hK=>?_)
         go_simp
         refine Calls.mono ((HPt _).out) ?_;rintro e w1 ⟨rfl,hb1⟩
         go_simp
         exact hK _ _ ⟨_,_,_,_,_,_,_,rfl,hS.trans (hb1.mono hS.size),q0,q1,q2,fun _=>rfl,fun _=>rfl,q5,q6⟩
        ·obtain rfl:=Option.some.inj ho
         obtain rfl:=q2 (hall ⟨2,.data⟩ (by simp) rfl)
         obtain rfl:=q4 (hall ⟨4,.data⟩ (by simp) rfl)
         clear hall ho
         refine wpOp_step rfl (fun K hK=>?_)
         go_simp
         exact hK _ _ ⟨_,_,_,_,_,_,_,rfl,hS,q0,q1,fun _=>rfl,q3,fun _=>rfl,fun _=>rfl,q6⟩
        ·obtain rfl:=Option.some.inj ho
         obtain rfl:=q5 (hall ⟨5,.data⟩ (by simp) rfl)
         clear hall ho
         refine wpOp_step rfl (fun K hK=>?_)
         go_simp
         refine Calls.mono ((Hsc _).out) ?_;rintro e w1 ⟨rfl,hb1⟩
         go_simp
         exact hK _ _ ⟨_,_,_,_,_,_,_,rfl,hS.trans (hb1.mono hS.size),q0,q1,q2,q3,q4,fun _=>rfl,fun _=>rfl⟩
       ·rintro fL bA v ⟨v30,v31,v32,v33,v34,v35,v36,rfl,hS,q0,q1,q2,q3,q4,q5,q6⟩ hall
        simp only [Act.put,List.setIfInBounds_toArray,List.set_cons_zero,List.set_cons_succ]
        simp only [List.length_cons,List.length_nil] at hall
        obtain rfl:=q0 (hall 0 (by omega))
        obtain rfl:=q1 (hall 1 (by omega))
        obtain rfl:=q2 (hall 2 (by omega))
        obtain rfl:=q3 (hall 3 (by omega))
        obtain rfl:=q4 (hall 4 (by omega))
        obtain rfl:=q5 (hall 5 (by omega))
        obtain rfl:=q6 (hall 6 (by omega))
        clear hall
        have hv8:∃ v8,v8=v:=⟨_,rfl⟩
        obtain ⟨v8,hv8⟩:=hv8
        rw [← hv8] at hS ⊢
        clear hv8
        have U8:=U7.below hS
        have B78:=B77.below hS B77.lt
        clear hS U7 B77 Hsc HPt hw1
        cases hfq:fitsB (underP p).cu td with
        | true =>
         have Hfq:=Lib.hid hfq
         clear hfq
         go_wp2_with fail
         refine wp_region_sink 8 (fun a0 fL bA v=>∃ v37 v38 v39 v40 v41 v42 v43 v44:Value,bA=(((((((a0.put (some 37) v37).put (some 38) v38).put (some 39) v39).put (some 40) v40).put (some 41) v41).put (some 42) v42).put (some 43) v43).put (some 44) v44∧(U2 v8 A6 (mvP (underP p) 3 0 0 false) (mvP (mvP (underP p) 3 0 0 false) 1 td tt false) (fL 4) (fL 7) v41 v44 v)∧(fL 0=true→v37=.agg (plan4 (underP p) A6 c6))∧(fL 1=true→v38=.agg #[.int .i64 L,.slice A1 l1.length c1,.slice A2 l2.length c2])∧(fL 2=true→v39=.int .i64 3)∧(fL 3=true→v40=.agg #[.int .i64 0,.int .i64 0])∧(fL 4=true→True)∧(fL 5=true→v42=.agg #[.int .i64 L,.slice A1 l1.length c1,.slice A2 l2.length c2])∧(fL 6=true→v43=.agg #[.int .i64 td,.int .i64 tt])∧(fL 7=true→True)) (by kernel_rfl) (by decide +kernel) ?_ ?_ ?_
         ·exact ⟨_,_,_,_,_,_,_,_,put_more (put_more (put_more (put_more (put_more (put_more (put_more (put_more (rfl) 37) 38) 39) 40) 41) 42) 43) 44,U2.init,nofun,nofun,nofun,nofun,nofun,nofun,nofun,nofun⟩
         ·rintro fL bA v ⟨v37,v38,v39,v40,v41,v42,v43,v44,rfl,hS,q0,q1,q2,q3,q4,q5,q6,q7⟩ i hi hf o ho hall
          simp only [Act.put,List.setIfInBounds_toArray,List.set_cons_zero,List.set_cons_succ]
          have hn:i=0 ∨ i=1 ∨ i=2 ∨ i=3 ∨ i=4 ∨ i=5 ∨ i=6 ∨ i=7:=by omega
          clear hi
          rcases hn with rfl | rfl | rfl | rfl | rfl | rfl | rfl | rfl
          ·obtain rfl:=Option.some.inj ho
           have E:=U8.b5.below hS.hb U8.b5.lt
           have y0:v.cell? ⟨g,0,none⟩=some (.int .i64 (underP p).sh):=E.cell 0
           have y1:v.cell? ⟨g,1,none⟩=some (.int .i64 (underP p).cu):=E.cell 1
           have y2:v.cell? ⟨g,2,none⟩=some (.slice A6 (underP p).ms.length c6):=E.cell 2
           have y3:v.cell? ⟨g,3,none⟩=some (.bool (underP p).en):=E.cell 3
           clear hall ho
           refine wpOp_step rfl (fun K hK=>?_)
           go_simp
           exact hK _ _ ⟨_,_,_,_,_,_,_,_,rfl,hS,fun _=>rfl,q1,q2,q3,fun _=>trivial,q5,q6,fun _=>trivial⟩
          ·obtain rfl:=Option.some.inj ho
           have E:=U8.b2.below hS.hb U8.b2.lt
           have y0:v.cell? ⟨w.heap.size,0,none⟩=some (.int .i64 L):=E.cell 0
           have y1:v.cell? ⟨w.heap.size,1,none⟩=some (.slice A1 l1.length c1):=E.cell 1
           have y2:v.cell? ⟨w.heap.size,2,none⟩=some (.slice A2 l2.length c2):=E.cell 2
           clear hall ho
           refine wpOp_step rfl (fun K hK=>?_)
           go_simp
           exact hK _ _ ⟨_,_,_,_,_,_,_,_,rfl,hS,q0,fun _=>rfl,q2,q3,fun _=>trivial,q5,q6,fun _=>trivial⟩
          ·obtain rfl:=Option.some.inj ho
           clear hall ho
           refine wpOp_step rfl (fun K hK=>?_)
           go_simp
           exact hK _ _ ⟨_,_,_,_,_,_,_,_,rfl,hS,q0,q1,fun _=>rfl,q3,fun _=>trivial,q5,q6,fun _=>trivial⟩
          ·obtain rfl:=Option.some.inj ho
           clear hall ho
           refine wpOp_step rfl (fun K hK=>?_)
           go_simp
           exact hK _ _ ⟨_,_,_,_,_,_,_,_,rfl,hS,q0,q1,q2,fun _=>rfl,fun _=>trivial,q5,q6,fun _=>trivial⟩
          ·obtain rfl:=Option.some.inj ho
           obtain rfl:=q0 (hall ⟨0,.data⟩ (by simp) rfl)
           obtain rfl:=q1 (hall ⟨1,.data⟩ (by simp) rfl)
           obtain rfl:=q2 (hall ⟨2,.data⟩ (by simp) rfl)
           obtain rfl:=q3 (hall ⟨3,.data⟩ (by simp) rfl)
           clear hall ho
           refine wpOp_step rfl (fun K hK=>?_)
           unfold plan4
           go_simp
           refine Calls.mono (HDo.out (underP p) A6 c6 3 0 0 (by omega) Hok2.out.1 (fun h=>by omega) (by have:=Hul.out;omega) v (U8.hb.trans (hS.hb.mono U8.hb.size)) ((U8.sl.below hS.hb).more hS.hb.size)).out ?_;rintro e w1 ⟨⟨u,rfl,hu⟩,hb1⟩
           go_simp
           exact hK _ _ ⟨_,_,_,_,_,_,_,_,rfl,hS.s1 hb1 hu,fun _=>rfl,fun _=>rfl,fun _=>rfl,fun _=>rfl,fun _=>trivial,q5,q6,fun _=>trivial⟩
          ·obtain rfl:=Option.some.inj ho
           have E:=U8.b2.below hS.hb U8.b2.lt
           have y0:v.cell? ⟨w.heap.size,0,none⟩=some (.int .i64 L):=E.cell 0
           have y1:v.cell? ⟨w.heap.size,1,none⟩=some (.slice A1 l1.length c1):=E.cell 1
           have y2:v.cell? ⟨w.heap.size,2,none⟩=some (.slice A2 l2.length c2):=E.cell 2
           clear hall ho
           refine wpOp_step rfl (fun K hK=>?_)
           go_simp
           exact hK _ _ ⟨_,_,_,_,_,_,_,_,rfl,hS,q0,q1,q2,q3,fun _=>trivial,fun _=>rfl,q6,fun _=>trivial⟩
          ·obtain rfl:=Option.some.inj ho
           have E:=B78.below hS.hb B78.lt
           have y0:v.cell? ⟨g7,0,none⟩=some (.int .i64 td):=E.cell 0
           have y1:v.cell? ⟨g7,1,none⟩=some (.int .i64 tt):=E.cell 1
           clear hall ho
           refine wpOp_step rfl (fun K hK=>?_)
           go_simp
           exact hK _ _ ⟨_,_,_,_,_,_,_,_,rfl,hS,q0,q1,q2,q3,fun _=>trivial,q5,fun _=>rfl,fun _=>trivial⟩
          ·obtain rfl:=Option.some.inj ho
           have e4:fL 4=true:=hall ⟨4,.data⟩ (by simp) rfl
           obtain rfl:=q5 (hall ⟨5,.data⟩ (by simp) rfl)
           obtain rfl:=q6 (hall ⟨6,.data⟩ (by simp) rfl)
           clear hall ho
           refine wpOp_step rfl (fun K hK=>?_)
           obtain ⟨A4,c4,rfl,hsl4,ho4,hcp4⟩:=hS.y1 e4
           go_simp
           refine Calls.mono (HDo.out (mvP (underP p) 3 0 0 false) A4 c4 1 td tt (by omega) (mv_bd Hok2.out.1 (.inl rfl)) (fun _=>Hfb.out) (by have:=Hul.out;simp only [mvP,List.length_append,List.length_singleton];omega) v (U8.hb.trans (hS.hb.mono U8.hb.size)) hsl4).out ?_;rintro e w1 ⟨⟨u,rfl,hu⟩,hb1⟩
           go_simp
           exact hK _ _ ⟨_,_,_,_,_,_,_,_,rfl,hS.s2 hb1 ho4 hu,q0,q1,q2,q3,fun _=>trivial,fun _=>rfl,fun _=>rfl,fun _=>trivial⟩
         ·rintro fL bA v ⟨v37,v38,v39,v40,v41,v42,v43,v44,rfl,hS,q0,q1,q2,q3,q4,q5,q6,q7⟩ hall
          simp only [Act.put,List.setIfInBounds_toArray,List.set_cons_zero,List.set_cons_succ]
          obtain rfl:=q0 (hall 0 (by omega))
          obtain rfl:=q1 (hall 1 (by omega))
          obtain rfl:=q2 (hall 2 (by omega))
          obtain rfl:=q3 (hall 3 (by omega))
          have e4:fL 4=true:=hall 4 (by omega)
          obtain rfl:=q5 (hall 5 (by omega))
          obtain rfl:=q6 (hall 6 (by omega))
          have e7:fL 7=true:=hall 7 (by omega)
          clear hall
          simp only [List.drop_succ_cons,List.drop_zero]
          obtain ⟨A5,c5,rfl,hsl5,ho5,hcp5⟩:=hS.y2 e7
          have U3:=U8.below hS.hb
          have hoff5:Off A5 g:=ho5 g U8.b5.lt U8.off
          have hnw5:∀ q',q' < w.heap.size→Off A5 q':=fun q' hq'=>ho5 q' (Nat.lt_of_lt_of_le hq' U8.hb.size) (U8.nw q' hq')
          have Hq5:Hid (termP p ⟨td,tt,false⟩=mvP (mvP (underP p) 3 0 0 false) 1 td tt false):=by
           unfold Hid termP
           simp only [Bool.false_eq_true,if_false,Hen.out,Hfit.out,Bool.true_and,Hfq.out,if_true]
          have HU5:=Lib.hid (U3.store (q:=mvP (mvP (underP p) 3 0 0 false) 1 td tt false) (c'':=c5) hsl5 hoff5 hnw5 hcp5)
          have Bg:=U3.b5
          have z0:v.cell? ⟨g,0,none⟩=some (.int .i64 (underP p).sh):=Bg.cell 0
          have z1:v.cell? ⟨g,1,none⟩=some (.int .i64 (underP p).cu):=Bg.cell 1
          have z2:v.cell? ⟨g,2,none⟩=some (.slice A6 (underP p).ms.length c6):=Bg.cell 2
          have z3:v.cell? ⟨g,3,none⟩=some (.bool (underP p).en):=Bg.cell 3
          have f0:v.frozen? ⟨g,0,none⟩=false:=Bg.frozen 0
          have f1:v.frozen? ⟨g,1,none⟩=false:=Bg.frozen 1
          have f2:v.frozen? ⟨g,2,none⟩=false:=Bg.frozen 2
          have f3:v.frozen? ⟨g,3,none⟩=false:=Bg.frozen 3
          clear U8 U3 Bg hS B78 HU HDo Hok Hok2 hsl5 ho5 hnw5 hcp5
          go_wp2
          go_roundw
          case rel=>exact ⟨k+1,A5,c5,by omega,by omega,by go_num,by rw [Hnx.out,Hq5.out];exact HU5.out⟩
          case measure=>simp [intOf];omega
        | false =>
         have Hfq:=Lib.hid hfq
         clear hfq
         go_wp2_with fail
         refine wp_region_sink 8 (fun a0 fL bA v=>∃ v37 v38 v39 v40 v41 v42 v43 v44:Value,bA=(((((((a0.put (some 37) v37).put (some 38) v38).put (some 39) v39).put (some 40) v40).put (some 41) v41).put (some 42) v42).put (some 43) v43).put (some 44) v44∧(U2 v8 A6 (mvP (underP p) 4 0 0 false) (mvP (mvP (underP p) 4 0 0 false) 1 td tt false) (fL 4) (fL 7) v41 v44 v)∧(fL 0=true→v37=.agg (plan4 (underP p) A6 c6))∧(fL 1=true→v38=.agg #[.int .i64 L,.slice A1 l1.length c1,.slice A2 l2.length c2])∧(fL 2=true→v39=.int .i64 4)∧(fL 3=true→v40=.agg #[.int .i64 0,.int .i64 0])∧(fL 4=true→True)∧(fL 5=true→v42=.agg #[.int .i64 L,.slice A1 l1.length c1,.slice A2 l2.length c2])∧(fL 6=true→v43=.agg #[.int .i64 td,.int .i64 tt])∧(fL 7=true→True)) (by kernel_rfl) (by decide +kernel) ?_ ?_ ?_
         ·exact ⟨_,_,_,_,_,_,_,_,put_more (put_more (put_more (put_more (put_more (put_more (put_more (put_more (rfl) 37) 38) 39) 40) 41) 42) 43) 44,U2.init,nofun,nofun,nofun,nofun,nofun,nofun,nofun,nofun⟩
         ·rintro fL bA v ⟨v37,v38,v39,v40,v41,v42,v43,v44,rfl,hS,q0,q1,q2,q3,q4,q5,q6,q7⟩ i hi hf o ho hall
          simp only [Act.put,List.setIfInBounds_toArray,List.set_cons_zero,List.set_cons_succ]
          have hn:i=0 ∨ i=1 ∨ i=2 ∨ i=3 ∨ i=4 ∨ i=5 ∨ i=6 ∨ i=7:=by omega
          clear hi
          rcases hn with rfl | rfl | rfl | rfl | rfl | rfl | rfl | rfl
          ·obtain rfl:=Option.some.inj ho
           have E:=U8.b5.below hS.hb U8.b5.lt
           have y0:v.cell? ⟨g,0,none⟩=some (.int .i64 (underP p).sh):=E.cell 0
           have y1:v.cell? ⟨g,1,none⟩=some (.int .i64 (underP p).cu):=E.cell 1
           have y2:v.cell? ⟨g,2,none⟩=some (.slice A6 (underP p).ms.length c6):=E.cell 2
           have y3:v.cell? ⟨g,3,none⟩=some (.bool (underP p).en):=E.cell 3
           clear hall ho
           refine wpOp_step rfl (fun K hK=>?_)
           go_simp
           exact hK _ _ ⟨_,_,_,_,_,_,_,_,rfl,hS,fun _=>rfl,q1,q2,q3,fun _=>trivial,q5,q6,fun _=>trivial⟩
          ·obtain rfl:=Option.some.inj ho
           have E:=U8.b2.below hS.hb U8.b2.lt
           have y0:v.cell? ⟨w.heap.size,0,none⟩=some (.int .i64 L):=E.cell 0
           have y1:v.cell? ⟨w.heap.size,1,none⟩=some (.slice A1 l1.length c1):=E.cell 1
           have y2:v.cell? ⟨w.heap.size,2,none⟩=some (.slice A2 l2.length c2):=E.cell 2
           clear hall ho
           refine wpOp_step rfl (fun K hK=>?_)
           go_simp
           exact hK _ _ ⟨_,_,_,_,_,_,_,_,rfl,hS,q0,fun _=>rfl,q2,q3,fun _=>trivial,q5,q6,fun _=>trivial⟩
          ·obtain rfl:=Option.some.inj ho
           clear hall ho
           refine wpOp_step rfl (fun K hK=>?_)
           go_simp
           exact hK _ _ ⟨_,_,_,_,_,_,_,_,rfl,hS,q0,q1,fun _=>rfl,q3,fun _=>trivial,q5,q6,fun _=>trivial⟩
          ·obtain rfl:=Option.some.inj ho
           clear hall ho
           refine wpOp_step rfl (fun K hK=>?_)
           go_simp
           exact hK _ _ ⟨_,_,_,_,_,_,_,_,rfl,hS,q0,q1,q2,fun _=>rfl,fun _=>trivial,q5,q6,fun _=>trivial⟩
          ·obtain rfl:=Option.some.inj ho
           obtain rfl:=q0 (hall ⟨0,.data⟩ (by simp) rfl)
           obtain rfl:=q1 (hall ⟨1,.data⟩ (by simp) rfl)
           obtain rfl:=q2 (hall ⟨2,.data⟩ (by simp) rfl)
           obtain rfl:=q3 (hall ⟨3,.data⟩ (by simp) rfl)
           clear hall ho
           refine wpOp_step rfl (fun K hK=>?_)
           unfold plan4
           go_simp
           refine Calls.mono (HDo.out (underP p) A6 c6 4 0 0 (by omega) Hok2.out.1 (fun h=>by omega) (by have:=Hul.out;omega) v (U8.hb.trans (hS.hb.mono U8.hb.size)) ((U8.sl.below hS.hb).more hS.hb.size)).out ?_;rintro e w1 ⟨⟨u,rfl,hu⟩,hb1⟩
           go_simp
           exact hK _ _ ⟨_,_,_,_,_,_,_,_,rfl,hS.s1 hb1 hu,fun _=>rfl,fun _=>rfl,fun _=>rfl,fun _=>rfl,fun _=>trivial,q5,q6,fun _=>trivial⟩
          ·obtain rfl:=Option.some.inj ho
           have E:=U8.b2.below hS.hb U8.b2.lt
           have y0:v.cell? ⟨w.heap.size,0,none⟩=some (.int .i64 L):=E.cell 0
           have y1:v.cell? ⟨w.heap.size,1,none⟩=some (.slice A1 l1.length c1):=E.cell 1
           have y2:v.cell? ⟨w.heap.size,2,none⟩=some (.slice A2 l2.length c2):=E.cell 2
           clear hall ho
           refine wpOp_step rfl (fun K hK=>?_)
           go_simp
           exact hK _ _ ⟨_,_,_,_,_,_,_,_,rfl,hS,q0,q1,q2,q3,fun _=>trivial,fun _=>rfl,q6,fun _=>trivial⟩
          ·obtain rfl:=Option.some.inj ho
           have E:=B78.below hS.hb B78.lt
           have y0:v.cell? ⟨g7,0,none⟩=some (.int .i64 td):=E.cell 0
           have y1:v.cell? ⟨g7,1,none⟩=some (.int .i64 tt):=E.cell 1
           clear hall ho
           refine wpOp_step rfl (fun K hK=>?_)
           go_simp
           exact hK _ _ ⟨_,_,_,_,_,_,_,_,rfl,hS,q0,q1,q2,q3,fun _=>trivial,q5,fun _=>rfl,fun _=>trivial⟩
          ·obtain rfl:=Option.some.inj ho
           have e4:fL 4=true:=hall ⟨4,.data⟩ (by simp) rfl
           obtain rfl:=q5 (hall ⟨5,.data⟩ (by simp) rfl)
           obtain rfl:=q6 (hall ⟨6,.data⟩ (by simp) rfl)
           clear hall ho
           refine wpOp_step rfl (fun K hK=>?_)
           obtain ⟨A4,c4,rfl,hsl4,ho4,hcp4⟩:=hS.y1 e4
           go_simp
           refine Calls.mono (HDo.out (mvP (underP p) 4 0 0 false) A4 c4 1 td tt (by omega) (mv_bd Hok2.out.1 (.inr rfl)) (fun _=>Hfb.out) (by have:=Hul.out;simp only [mvP,List.length_append,List.length_singleton];omega) v (U8.hb.trans (hS.hb.mono U8.hb.size)) hsl4).out ?_;rintro e w1 ⟨⟨u,rfl,hu⟩,hb1⟩
           go_simp
           exact hK _ _ ⟨_,_,_,_,_,_,_,_,rfl,hS.s2 hb1 ho4 hu,q0,q1,q2,q3,fun _=>trivial,fun _=>rfl,fun _=>rfl,fun _=>trivial⟩
         ·rintro fL bA v ⟨v37,v38,v39,v40,v41,v42,v43,v44,rfl,hS,q0,q1,q2,q3,q4,q5,q6,q7⟩ hall
          simp only [Act.put,List.setIfInBounds_toArray,List.set_cons_zero,List.set_cons_succ]
          obtain rfl:=q0 (hall 0 (by omega))
          obtain rfl:=q1 (hall 1 (by omega))
          obtain rfl:=q2 (hall 2 (by omega))
          obtain rfl:=q3 (hall 3 (by omega))
          have e4:fL 4=true:=hall 4 (by omega)
          obtain rfl:=q5 (hall 5 (by omega))
          obtain rfl:=q6 (hall 6 (by omega))
          have e7:fL 7=true:=hall 7 (by omega)
          clear hall
          simp only [List.drop_succ_cons,List.drop_zero]
          obtain ⟨A5,c5,rfl,hsl5,ho5,hcp5⟩:=hS.y2 e7
          have U3:=U8.below hS.hb
          have hoff5:Off A5 g:=ho5 g U8.b5.lt U8.off
          have hnw5:∀ q',q' < w.heap.size→Off A5 q':=fun q' hq'=>ho5 q' (Nat.lt_of_lt_of_le hq' U8.hb.size) (U8.nw q' hq')
          have Hq5:Hid (termP p ⟨td,tt,false⟩=mvP (mvP (underP p) 4 0 0 false) 1 td tt false):=by
           unfold Hid termP
           simp only [Bool.false_eq_true,if_false,Hen.out,Hfit.out,Bool.true_and,Hfq.out]
          have HU5:=Lib.hid (U3.store (q:=mvP (mvP (underP p) 4 0 0 false) 1 td tt false) (c'':=c5) hsl5 hoff5 hnw5 hcp5)
          have Bg:=U3.b5
          have z0:v.cell? ⟨g,0,none⟩=some (.int .i64 (underP p).sh):=Bg.cell 0
          have z1:v.cell? ⟨g,1,none⟩=some (.int .i64 (underP p).cu):=Bg.cell 1
          have z2:v.cell? ⟨g,2,none⟩=some (.slice A6 (underP p).ms.length c6):=Bg.cell 2
          have z3:v.cell? ⟨g,3,none⟩=some (.bool (underP p).en):=Bg.cell 3
          have f0:v.frozen? ⟨g,0,none⟩=false:=Bg.frozen 0
          have f1:v.frozen? ⟨g,1,none⟩=false:=Bg.frozen 1
          have f2:v.frozen? ⟨g,2,none⟩=false:=Bg.frozen 2
          have f3:v.frozen? ⟨g,3,none⟩=false:=Bg.frozen 3
          clear U8 U3 Bg hS B78 HU HDo Hok Hok2 hsl5 ho5 hnw5 hcp5
          go_wp2
          go_roundw
          case rel=>exact ⟨k+1,A5,c5,by omega,by omega,by go_num,by rw [Hnx.out,Hq5.out];exact HU5.out⟩
          case measure=>simp [intOf];omega
     | false =>
      have Hen:=Lib.hid hen;clear hen
      have z0:(wr.alloc (.cells #[.int .i64 td,.int .i64 tt] 51)).cell? ⟨g,0,none⟩=some (.int .i64 p.sh):=U0.b5.cell 0
      have z1:(wr.alloc (.cells #[.int .i64 td,.int .i64 tt] 51)).cell? ⟨g,1,none⟩=some (.int .i64 p.cu):=U0.b5.cell 1
      have z2:(wr.alloc (.cells #[.int .i64 td,.int .i64 tt] 51)).cell? ⟨g,2,none⟩=some (.slice Ak p.ms.length ck):=U0.b5.cell 2
      have z3:(wr.alloc (.cells #[.int .i64 td,.int .i64 tt] 51)).cell? ⟨g,3,none⟩=some (.bool false):=by rw [← Hen.out];exact U0.b5.cell 3
      have r0:(wr.alloc (.cells #[.int .i64 td,.int .i64 tt] 51)).cell? ⟨w.heap.size,0,none⟩=some (.int .i64 L):=U0.b2.cell 0
      have r1:(wr.alloc (.cells #[.int .i64 td,.int .i64 tt] 51)).cell? ⟨w.heap.size,1,none⟩=some (.slice A1 l1.length c1):=U0.b2.cell 1
      have r2:(wr.alloc (.cells #[.int .i64 td,.int .i64 tt] 51)).cell? ⟨w.heap.size,2,none⟩=some (.slice A2 l2.length c2):=U0.b2.cell 2
      go_wp2_with fail
      clear e0 e1 e2 e2' z0 z1 z2 z3 r0 r1 r2
      generalize hg7:wr.heap.size=g7 at *
      generalize wr.alloc (.cells #[.int .i64 td,.int .i64 tt] 51)=w5 at *
      have UX:=U0
      have BX:=B7
      have hg7g:g < g7:=hgg7
      clear U0 B7
      have hun:=HU.out Ak ck w5 UX.hb UX.sl UX.cp
      rw [Hen.out] at hun
      refine Calls.mono hun.out ?_;clear hun;rintro e w6 ⟨⟨u6,rfl,A6,c6,rfl,hsl6,ho6,hcp6⟩,hb6⟩
      have U6:=UX.below hb6
      have B76:=BX.below hb6 BX.lt
      have hoff6:Off A6 g:=ho6 g UX.b5.lt UX.off
      have hnw6:∀ q',q' < w.heap.size→Off A6 q':=fun q' hq'=>ho6 q' (Nat.lt_of_lt_of_le hq' UX.hb.size) (UX.nw q' hq')
      have U7:=U6.store (q:=underP p) (c'':=c6) hsl6 hoff6 hnw6 hcp6
      have hgr:w6.grownBy ((((w6.setCell ⟨g,0,none⟩ (.int .i64 (underP p).sh)).setCell ⟨g,1,none⟩ (.int .i64 (underP p).cu)).setCell ⟨g,2,none⟩ (.slice A6 (underP p).ms.length c6)).setCell ⟨g,3,none⟩ (.bool (underP p).en)) (some g):=grownBy_stores [_,_,_,_] 0 (World.grownBy.refl _ _)
      have B77:Blk _ g7 51 #[.int .i64 td,.int .i64 tt]:=(hgr.block g7 B76.lt (by intro e;simp only [Option.some.injEq] at e;omega)).trans B76
      have z0:w6.cell? ⟨g,0,none⟩=some (.int .i64 p.sh):=U6.b5.cell 0
      have z1:w6.cell? ⟨g,1,none⟩=some (.int .i64 p.cu):=U6.b5.cell 1
      have z2:w6.cell? ⟨g,2,none⟩=some (.slice Ak p.ms.length ck):=U6.b5.cell 2
      have z3:w6.cell? ⟨g,3,none⟩=some (.bool p.en):=U6.b5.cell 3
      have f0:w6.frozen? ⟨g,0,none⟩=false:=U6.b5.frozen 0
      have f1:w6.frozen? ⟨g,1,none⟩=false:=U6.b5.frozen 1
      have f2:w6.frozen? ⟨g,2,none⟩=false:=U6.b5.frozen 2
      have f3:w6.frozen? ⟨g,3,none⟩=false:=U6.b5.frozen 3
      have HU7:=Lib.hid U7
      have HB7:=Lib.hid B77
      have Hsc:∀ W,Hid (Calls Tryz.prog 56 #[.int .i64 ((underP p).cu+pointC td),.int .i64 0,.int .i64 1048576] W fun e w'=>e=.returned (.bool (fitsB (underP p).cu td))∧Below W.heap.size W w'):=fun W=>calls_same (l01In_c ((underP p).cu+pointC td) 0 1048576 W)
      have hpb:=pointC_bd Hfb.out
      have hcu:=Hok2.out.1.2
      have hw1:IntKind.i64.wrap ((underP p).cu+pointC td)=(underP p).cu+pointC td:=IntWalk.i64_in _ (by omega)
      have HPt:=fun W=>Lib.hid (l14Point_c td tt W Hfb.out)
      clear hsl6 ho6 hnw6 hcp6 hb6 U6 B76 UX BX U7 hgr B77 hcu hpb
      go_wp2_with fail
      have U7:=HU7.out
      have B77:=HB7.out
      clear z0 z1 z2 z3 f0 f1 f2 f3 HU7 HB7
      generalize ((((w6.setCell ⟨g,0,none⟩ _).setCell ⟨g,1,none⟩ _).setCell ⟨g,2,none⟩ _).setCell ⟨g,3,none⟩ _)=w7 at *
      refine wp_region_all (fun a0 fL bA v=>∃ v30 v31 v32 v33 v34 v35 v36:Value,bA=((((((a0.put (some 30) v30).put (some 31) v31).put (some 32) v32).put (some 33) v33).put (some 34) v34).put (some 35) v35).put (some 36) v36∧(Below w7.heap.size w7 v)∧(fL 0=true→v30=.pointer (some ⟨g,0,none⟩))∧(fL 1=true→v31=.pointer (some ⟨g,1,none⟩))∧(fL 2=true→v32=.int .i64 (underP p).cu)∧(fL 3=true→v33=.agg #[.int .i64 td,.int .i64 tt])∧(fL 4=true→v34=.int .i64 (pointC td))∧(fL 5=true→v35=.int .i64 ((underP p).cu+pointC td))∧(fL 6=true→v36=.bool (fitsB (underP p).cu td))) (by kernel_rfl) (by decide +kernel) ?_ ?_ ?_
      ·exact ⟨_,_,_,_,_,_,_,put_more (put_more (put_more (put_more (put_more (put_more (put_more (rfl) 30) 31) 32) 33) 34) 35) 36,(Below.refl _ _).drew,nofun,nofun,nofun,nofun,nofun,nofun,nofun⟩
      ·rintro fL bA v ⟨v30,v31,v32,v33,v34,v35,v36,rfl,hS,q0,q1,q2,q3,q4,q5,q6⟩ i hi hf o ho hall
       simp only [Act.put,List.setIfInBounds_toArray,List.set_cons_zero,List.set_cons_succ]
       simp only [List.length_cons,List.length_nil] at hi
       have hn:i=0 ∨ i=1 ∨ i=2 ∨ i=3 ∨ i=4 ∨ i=5 ∨ i=6:=by omega
       clear hi
       rcases hn with rfl | rfl | rfl | rfl | rfl | rfl | rfl
       ·obtain rfl:=Option.some.inj ho
        clear hall ho
        refine wpOp_step rfl (fun K hK=>?_)
        go_simp
        exact hK _ _ ⟨_,_,_,_,_,_,_,rfl,hS,fun _=>rfl,q1,q2,q3,q4,q5,q6⟩
       ·obtain rfl:=Option.some.inj ho
        obtain rfl:=q0 (hall ⟨0,.data⟩ (by simp) rfl)
        clear hall ho
        refine wpOp_step rfl (fun K hK=>?_)
        go_simp
        exact hK _ _ ⟨_,_,_,_,_,_,_,rfl,hS,fun _=>rfl,fun _=>rfl,q2,q3,q4,q5,q6⟩
       ·obtain rfl:=Option.some.inj ho
        obtain rfl:=q1 (hall ⟨1,.data⟩ (by simp) rfl)
        have E:=U7.b5.below hS U7.b5.lt
        have y0:v.cell? ⟨g,1,none⟩=some (.int .i64 (underP p).cu):=E.cell 1
        clear hall ho
        refine wpOp_step rfl (fun K hK=>?_)
        go_simp
        exact hK _ _ ⟨_,_,_,_,_,_,_,rfl,hS,q0,fun _=>rfl,fun _=>rfl,q3,q4,q5,q6⟩
       ·obtain rfl:=Option.some.inj ho
        have E:=B77.below hS B77.lt
        have y0:v.cell? ⟨g7,0,none⟩=some (.int .i64 td):=E.cell 0
        have y1:v.cell? ⟨g7,1,none⟩=some (.int .i64 tt):=E.cell 1
        clear hall ho
        refine wpOp_step rfl (fun K hK=>?_)
        go_simp
        exact hK _ _ ⟨_,_,_,_,_,_,_,rfl,hS,q0,q1,q2,fun _=>rfl,q4,q5,q6⟩
       ·obtain rfl:=Option.some.inj ho
        obtain rfl:=q3 (hall ⟨3,.data⟩ (by simp) rfl)
        clear hall ho
        refine wpOp_step rfl (fun K hK=>?_)
        go_simp
        refine Calls.mono ((HPt _).out) ?_;rintro e w1 ⟨rfl,hb1⟩
        go_simp
        exact hK _ _ ⟨_,_,_,_,_,_,_,rfl,hS.trans (hb1.mono hS.size),q0,q1,q2,fun _=>rfl,fun _=>rfl,q5,q6⟩
       ·obtain rfl:=Option.some.inj ho
        obtain rfl:=q2 (hall ⟨2,.data⟩ (by simp) rfl)
        obtain rfl:=q4 (hall ⟨4,.data⟩ (by simp) rfl)
        clear hall ho
        refine wpOp_step rfl (fun K hK=>?_)
        go_simp
        exact hK _ _ ⟨_,_,_,_,_,_,_,rfl,hS,q0,q1,fun _=>rfl,q3,fun _=>rfl,fun _=>rfl,q6⟩
       ·obtain rfl:=Option.some.inj ho
        obtain rfl:=q5 (hall ⟨5,.data⟩ (by simp) rfl)
        clear hall ho
        refine wpOp_step rfl (fun K hK=>?_)
        go_simp
        refine Calls.mono ((Hsc _).out) ?_;rintro e w1 ⟨rfl,hb1⟩
        go_simp
        exact hK _ _ ⟨_,_,_,_,_,_,_,rfl,hS.trans (hb1.mono hS.size),q0,q1,q2,q3,q4,fun _=>rfl,fun _=>rfl⟩
      ·rintro fL bA v ⟨v30,v31,v32,v33,v34,v35,v36,rfl,hS,q0,q1,q2,q3,q4,q5,q6⟩ hall
       simp only [Act.put,List.setIfInBounds_toArray,List.set_cons_zero,List.set_cons_succ]
       simp only [List.length_cons,List.length_nil] at hall
       obtain rfl:=q0 (hall 0 (by omega))
       obtain rfl:=q1 (hall 1 (by omega))
       obtain rfl:=q2 (hall 2 (by omega))
       obtain rfl:=q3 (hall 3 (by omega))
       obtain rfl:=q4 (hall 4 (by omega))
       obtain rfl:=q5 (hall 5 (by omega))
       obtain rfl:=q6 (hall 6 (by omega))
       clear hall
       have hv8:∃ v8,v8=v:=⟨_,rfl⟩
       obtain ⟨v8,hv8⟩:=hv8
       rw [← hv8] at hS ⊢
       clear hv8
       have U8:=U7.below hS
       have B78:=B77.below hS B77.lt
       clear hS U7 B77 Hsc HPt hw1
       cases hfq:fitsB (underP p).cu td with
       | true =>
        have Hfq:=Lib.hid hfq
        clear hfq
        go_wp2_with fail
        refine wp_region_sink 8 (fun a0 fL bA v=>∃ v37 v38 v39 v40 v41 v42 v43 v44:Value,bA=(((((((a0.put (some 37) v37).put (some 38) v38).put (some 39) v39).put (some 40) v40).put (some 41) v41).put (some 42) v42).put (some 43) v43).put (some 44) v44∧(U2 v8 A6 (mvP (underP p) 3 0 0 false) (mvP (mvP (underP p) 3 0 0 false) 1 td tt false) (fL 4) (fL 7) v41 v44 v)∧(fL 0=true→v37=.agg (plan4 (underP p) A6 c6))∧(fL 1=true→v38=.agg #[.int .i64 L,.slice A1 l1.length c1,.slice A2 l2.length c2])∧(fL 2=true→v39=.int .i64 3)∧(fL 3=true→v40=.agg #[.int .i64 0,.int .i64 0])∧(fL 4=true→True)∧(fL 5=true→v42=.agg #[.int .i64 L,.slice A1 l1.length c1,.slice A2 l2.length c2])∧(fL 6=true→v43=.agg #[.int .i64 td,.int .i64 tt])∧(fL 7=true→True)) (by kernel_rfl) (by decide +kernel) ?_ ?_ ?_
        ·exact ⟨_,_,_,_,_,_,_,_,put_more (put_more (put_more (put_more (put_more (put_more (put_more (put_more (rfl) 37) 38) 39) 40) 41) 42) 43) 44,U2.init,nofun,nofun,nofun,nofun,nofun,nofun,nofun,nofun⟩
        ·rintro fL bA v ⟨v37,v38,v39,v40,v41,v42,v43,v44,rfl,hS,q0,q1,q2,q3,q4,q5,q6,q7⟩ i hi hf o ho hall
         simp only [Act.put,List.setIfInBounds_toArray,List.set_cons_zero,List.set_cons_succ]
         have hn:i=0 ∨ i=1 ∨ i=2 ∨ i=3 ∨ i=4 ∨ i=5 ∨ i=6 ∨ i=7:=by omega
         clear hi
         rcases hn with rfl | rfl | rfl | rfl | rfl | rfl | rfl | rfl
         ·obtain rfl:=Option.some.inj ho
          have E:=U8.b5.below hS.hb U8.b5.lt
          have y0:v.cell? ⟨g,0,none⟩=some (.int .i64 (underP p).sh):=E.cell 0
          have y1:v.cell? ⟨g,1,none⟩=some (.int .i64 (underP p).cu):=E.cell 1
          have y2:v.cell? ⟨g,2,none⟩=some (.slice A6 (underP p).ms.length c6):=E.cell 2
          have y3:v.cell? ⟨g,3,none⟩=some (.bool (underP p).en):=E.cell 3
          clear hall ho
          refine wpOp_step rfl (fun K hK=>?_)
          go_simp
          exact hK _ _ ⟨_,_,_,_,_,_,_,_,rfl,hS,fun _=>rfl,q1,q2,q3,fun _=>trivial,q5,q6,fun _=>trivial⟩
         ·obtain rfl:=Option.some.inj ho
          have E:=U8.b2.below hS.hb U8.b2.lt
          have y0:v.cell? ⟨w.heap.size,0,none⟩=some (.int .i64 L):=E.cell 0
          have y1:v.cell? ⟨w.heap.size,1,none⟩=some (.slice A1 l1.length c1):=E.cell 1
          have y2:v.cell? ⟨w.heap.size,2,none⟩=some (.slice A2 l2.length c2):=E.cell 2
          clear hall ho
          refine wpOp_step rfl (fun K hK=>?_)
          go_simp
          exact hK _ _ ⟨_,_,_,_,_,_,_,_,rfl,hS,q0,fun _=>rfl,q2,q3,fun _=>trivial,q5,q6,fun _=>trivial⟩
         ·obtain rfl:=Option.some.inj ho
          clear hall ho
          refine wpOp_step rfl (fun K hK=>?_)
          go_simp
          exact hK _ _ ⟨_,_,_,_,_,_,_,_,rfl,hS,q0,q1,fun _=>rfl,q3,fun _=>trivial,q5,q6,fun _=>trivial⟩
         ·obtain rfl:=Option.some.inj ho
          clear hall ho
          refine wpOp_step rfl (fun K hK=>?_)
          go_simp
          exact hK _ _ ⟨_,_,_,_,_,_,_,_,rfl,hS,q0,q1,q2,fun _=>rfl,fun _=>trivial,q5,q6,fun _=>trivial⟩
         ·obtain rfl:=Option.some.inj ho
          obtain rfl:=q0 (hall ⟨0,.data⟩ (by simp) rfl)
          obtain rfl:=q1 (hall ⟨1,.data⟩ (by simp) rfl)
          obtain rfl:=q2 (hall ⟨2,.data⟩ (by simp) rfl)
          obtain rfl:=q3 (hall ⟨3,.data⟩ (by simp) rfl)
          clear hall ho
          refine wpOp_step rfl (fun K hK=>?_)
          unfold plan4
          go_simp
          refine Calls.mono (HDo.out (underP p) A6 c6 3 0 0 (by omega) Hok2.out.1 (fun h=>by omega) (by have:=Hul.out;omega) v (U8.hb.trans (hS.hb.mono U8.hb.size)) ((U8.sl.below hS.hb).more hS.hb.size)).out ?_;rintro e w1 ⟨⟨u,rfl,hu⟩,hb1⟩
          go_simp
          exact hK _ _ ⟨_,_,_,_,_,_,_,_,rfl,hS.s1 hb1 hu,fun _=>rfl,fun _=>rfl,fun _=>rfl,fun _=>rfl,fun _=>trivial,q5,q6,fun _=>trivial⟩
         ·obtain rfl:=Option.some.inj ho
          have E:=U8.b2.below hS.hb U8.b2.lt
          have y0:v.cell? ⟨w.heap.size,0,none⟩=some (.int .i64 L):=E.cell 0
          have y1:v.cell? ⟨w.heap.size,1,none⟩=some (.slice A1 l1.length c1):=E.cell 1
          have y2:v.cell? ⟨w.heap.size,2,none⟩=some (.slice A2 l2.length c2):=E.cell 2
          clear hall ho
          refine wpOp_step rfl (fun K hK=>?_)
          go_simp
          exact hK _ _ ⟨_,_,_,_,_,_,_,_,rfl,hS,q0,q1,q2,q3,fun _=>trivial,fun _=>rfl,q6,fun _=>trivial⟩
         ·obtain rfl:=Option.some.inj ho
          have E:=B78.below hS.hb B78.lt
          have y0:v.cell? ⟨g7,0,none⟩=some (.int .i64 td):=E.cell 0
          have y1:v.cell? ⟨g7,1,none⟩=some (.int .i64 tt):=E.cell 1
          clear hall ho
          refine wpOp_step rfl (fun K hK=>?_)
          go_simp
          exact hK _ _ ⟨_,_,_,_,_,_,_,_,rfl,hS,q0,q1,q2,q3,fun _=>trivial,q5,fun _=>rfl,fun _=>trivial⟩
         ·obtain rfl:=Option.some.inj ho
          have e4:fL 4=true:=hall ⟨4,.data⟩ (by simp) rfl
          obtain rfl:=q5 (hall ⟨5,.data⟩ (by simp) rfl)
          obtain rfl:=q6 (hall ⟨6,.data⟩ (by simp) rfl)
          clear hall ho
          refine wpOp_step rfl (fun K hK=>?_)
          obtain ⟨A4,c4,rfl,hsl4,ho4,hcp4⟩:=hS.y1 e4
          go_simp
          refine Calls.mono (HDo.out (mvP (underP p) 3 0 0 false) A4 c4 1 td tt (by omega) (mv_bd Hok2.out.1 (.inl rfl)) (fun _=>Hfb.out) (by have:=Hul.out;simp only [mvP,List.length_append,List.length_singleton];omega) v (U8.hb.trans (hS.hb.mono U8.hb.size)) hsl4).out ?_;rintro e w1 ⟨⟨u,rfl,hu⟩,hb1⟩
          go_simp
          exact hK _ _ ⟨_,_,_,_,_,_,_,_,rfl,hS.s2 hb1 ho4 hu,q0,q1,q2,q3,fun _=>trivial,fun _=>rfl,fun _=>rfl,fun _=>trivial⟩
        ·rintro fL bA v ⟨v37,v38,v39,v40,v41,v42,v43,v44,rfl,hS,q0,q1,q2,q3,q4,q5,q6,q7⟩ hall
         simp only [Act.put,List.setIfInBounds_toArray,List.set_cons_zero,List.set_cons_succ]
         obtain rfl:=q0 (hall 0 (by omega))
         obtain rfl:=q1 (hall 1 (by omega))
         obtain rfl:=q2 (hall 2 (by omega))
         obtain rfl:=q3 (hall 3 (by omega))
         have e4:fL 4=true:=hall 4 (by omega)
         obtain rfl:=q5 (hall 5 (by omega))
         obtain rfl:=q6 (hall 6 (by omega))
         have e7:fL 7=true:=hall 7 (by omega)
         clear hall
         simp only [List.drop_succ_cons,List.drop_zero]
         obtain ⟨A5,c5,rfl,hsl5,ho5,hcp5⟩:=hS.y2 e7
         have U3:=U8.below hS.hb
         have hoff5:Off A5 g:=ho5 g U8.b5.lt U8.off
         have hnw5:∀ q',q' < w.heap.size→Off A5 q':=fun q' hq'=>ho5 q' (Nat.lt_of_lt_of_le hq' U8.hb.size) (U8.nw q' hq')
         have Hq5:Hid (termP p ⟨td,tt,false⟩=mvP (mvP (underP p) 3 0 0 false) 1 td tt false):=by
          unfold Hid termP
          simp only [Bool.false_eq_true,if_false,Hen.out,Bool.false_and,Hfq.out,if_true]
         have HU5:=Lib.hid (U3.store (q:=mvP (mvP (underP p) 3 0 0 false) 1 td tt false) (c'':=c5) hsl5 hoff5 hnw5 hcp5)
         have Bg:=U3.b5
         have z0:v.cell? ⟨g,0,none⟩=some (.int .i64 (underP p).sh):=Bg.cell 0
         have z1:v.cell? ⟨g,1,none⟩=some (.int .i64 (underP p).cu):=Bg.cell 1
         have z2:v.cell? ⟨g,2,none⟩=some (.slice A6 (underP p).ms.length c6):=Bg.cell 2
         have z3:v.cell? ⟨g,3,none⟩=some (.bool (underP p).en):=Bg.cell 3
         have f0:v.frozen? ⟨g,0,none⟩=false:=Bg.frozen 0
         have f1:v.frozen? ⟨g,1,none⟩=false:=Bg.frozen 1
         have f2:v.frozen? ⟨g,2,none⟩=false:=Bg.frozen 2
         have f3:v.frozen? ⟨g,3,none⟩=false:=Bg.frozen 3
         clear U8 U3 Bg hS B78 HU HDo Hok Hok2 hsl5 ho5 hnw5 hcp5
         go_wp2
         go_roundw
         case rel=>exact ⟨k+1,A5,c5,by omega,by omega,by go_num,by rw [Hnx.out,Hq5.out];exact HU5.out⟩
         case measure=>simp [intOf];omega
       | false =>
        have Hfq:=Lib.hid hfq
        clear hfq
        go_wp2_with fail
        refine wp_region_sink 8 (fun a0 fL bA v=>∃ v37 v38 v39 v40 v41 v42 v43 v44:Value,bA=(((((((a0.put (some 37) v37).put (some 38) v38).put (some 39) v39).put (some 40) v40).put (some 41) v41).put (some 42) v42).put (some 43) v43).put (some 44) v44∧(U2 v8 A6 (mvP (underP p) 4 0 0 false) (mvP (mvP (underP p) 4 0 0 false) 1 td tt false) (fL 4) (fL 7) v41 v44 v)∧(fL 0=true→v37=.agg (plan4 (underP p) A6 c6))∧(fL 1=true→v38=.agg #[.int .i64 L,.slice A1 l1.length c1,.slice A2 l2.length c2])∧(fL 2=true→v39=.int .i64 4)∧(fL 3=true→v40=.agg #[.int .i64 0,.int .i64 0])∧(fL 4=true→True)∧(fL 5=true→v42=.agg #[.int .i64 L,.slice A1 l1.length c1,.slice A2 l2.length c2])∧(fL 6=true→v43=.agg #[.int .i64 td,.int .i64 tt])∧(fL 7=true→True)) (by kernel_rfl) (by decide +kernel) ?_ ?_ ?_
        ·exact ⟨_,_,_,_,_,_,_,_,put_more (put_more (put_more (put_more (put_more (put_more (put_more (put_more (rfl) 37) 38) 39) 40) 41) 42) 43) 44,U2.init,nofun,nofun,nofun,nofun,nofun,nofun,nofun,nofun⟩
        ·rintro fL bA v ⟨v37,v38,v39,v40,v41,v42,v43,v44,rfl,hS,q0,q1,q2,q3,q4,q5,q6,q7⟩ i hi hf o ho hall
         simp only [Act.put,List.setIfInBounds_toArray,List.set_cons_zero,List.set_cons_succ]
         have hn:i=0 ∨ i=1 ∨ i=2 ∨ i=3 ∨ i=4 ∨ i=5 ∨ i=6 ∨ i=7:=by omega
         clear hi
         rcases hn with rfl | rfl | rfl | rfl | rfl | rfl | rfl | rfl
         ·obtain rfl:=Option.some.inj ho
          have E:=U8.b5.below hS.hb U8.b5.lt
          have y0:v.cell? ⟨g,0,none⟩=some (.int .i64 (underP p).sh):=E.cell 0
          have y1:v.cell? ⟨g,1,none⟩=some (.int .i64 (underP p).cu):=E.cell 1
          have y2:v.cell? ⟨g,2,none⟩=some (.slice A6 (underP p).ms.length c6):=E.cell 2
          have y3:v.cell? ⟨g,3,none⟩=some (.bool (underP p).en):=E.cell 3
          clear hall ho
          refine wpOp_step rfl (fun K hK=>?_)
          go_simp
          exact hK _ _ ⟨_,_,_,_,_,_,_,_,rfl,hS,fun _=>rfl,q1,q2,q3,fun _=>trivial,q5,q6,fun _=>trivial⟩
         ·obtain rfl:=Option.some.inj ho
          have E:=U8.b2.below hS.hb U8.b2.lt
          have y0:v.cell? ⟨w.heap.size,0,none⟩=some (.int .i64 L):=E.cell 0
          have y1:v.cell? ⟨w.heap.size,1,none⟩=some (.slice A1 l1.length c1):=E.cell 1
          have y2:v.cell? ⟨w.heap.size,2,none⟩=some (.slice A2 l2.length c2):=E.cell 2
          clear hall ho
          refine wpOp_step rfl (fun K hK=>?_)
          go_simp
          exact hK _ _ ⟨_,_,_,_,_,_,_,_,rfl,hS,q0,fun _=>rfl,q2,q3,fun _=>trivial,q5,q6,fun _=>trivial⟩
         ·obtain rfl:=Option.some.inj ho
          clear hall ho
          refine wpOp_step rfl (fun K hK=>?_)
          go_simp
          exact hK _ _ ⟨_,_,_,_,_,_,_,_,rfl,hS,q0,q1,fun _=>rfl,q3,fun _=>trivial,q5,q6,fun _=>trivial⟩
         ·obtain rfl:=Option.some.inj ho
          clear hall ho
          refine wpOp_step rfl (fun K hK=>?_)
          go_simp
          exact hK _ _ ⟨_,_,_,_,_,_,_,_,rfl,hS,q0,q1,q2,fun _=>rfl,fun _=>trivial,q5,q6,fun _=>trivial⟩
         ·obtain rfl:=Option.some.inj ho
          obtain rfl:=q0 (hall ⟨0,.data⟩ (by simp) rfl)
          obtain rfl:=q1 (hall ⟨1,.data⟩ (by simp) rfl)
          obtain rfl:=q2 (hall ⟨2,.data⟩ (by simp) rfl)
          obtain rfl:=q3 (hall ⟨3,.data⟩ (by simp) rfl)
          clear hall ho
          refine wpOp_step rfl (fun K hK=>?_)
          unfold plan4
          go_simp
          refine Calls.mono (HDo.out (underP p) A6 c6 4 0 0 (by omega) Hok2.out.1 (fun h=>by omega) (by have:=Hul.out;omega) v (U8.hb.trans (hS.hb.mono U8.hb.size)) ((U8.sl.below hS.hb).more hS.hb.size)).out ?_;rintro e w1 ⟨⟨u,rfl,hu⟩,hb1⟩
          go_simp
          exact hK _ _ ⟨_,_,_,_,_,_,_,_,rfl,hS.s1 hb1 hu,fun _=>rfl,fun _=>rfl,fun _=>rfl,fun _=>rfl,fun _=>trivial,q5,q6,fun _=>trivial⟩
         ·obtain rfl:=Option.some.inj ho
          have E:=U8.b2.below hS.hb U8.b2.lt
          have y0:v.cell? ⟨w.heap.size,0,none⟩=some (.int .i64 L):=E.cell 0
          have y1:v.cell? ⟨w.heap.size,1,none⟩=some (.slice A1 l1.length c1):=E.cell 1
          have y2:v.cell? ⟨w.heap.size,2,none⟩=some (.slice A2 l2.length c2):=E.cell 2
          clear hall ho
          refine wpOp_step rfl (fun K hK=>?_)
          go_simp
          exact hK _ _ ⟨_,_,_,_,_,_,_,_,rfl,hS,q0,q1,q2,q3,fun _=>trivial,fun _=>rfl,q6,fun _=>trivial⟩
         ·obtain rfl:=Option.some.inj ho
          have E:=B78.below hS.hb B78.lt
          have y0:v.cell? ⟨g7,0,none⟩=some (.int .i64 td):=E.cell 0
          have y1:v.cell? ⟨g7,1,none⟩=some (.int .i64 tt):=E.cell 1
          clear hall ho
          refine wpOp_step rfl (fun K hK=>?_)
          go_simp
          exact hK _ _ ⟨_,_,_,_,_,_,_,_,rfl,hS,q0,q1,q2,q3,fun _=>trivial,q5,fun _=>rfl,fun _=>trivial⟩
         ·obtain rfl:=Option.some.inj ho
          have e4:fL 4=true:=hall ⟨4,.data⟩ (by simp) rfl
          obtain rfl:=q5 (hall ⟨5,.data⟩ (by simp) rfl)
          obtain rfl:=q6 (hall ⟨6,.data⟩ (by simp) rfl)
          clear hall ho
          refine wpOp_step rfl (fun K hK=>?_)
          obtain ⟨A4,c4,rfl,hsl4,ho4,hcp4⟩:=hS.y1 e4
          go_simp
          refine Calls.mono (HDo.out (mvP (underP p) 4 0 0 false) A4 c4 1 td tt (by omega) (mv_bd Hok2.out.1 (.inr rfl)) (fun _=>Hfb.out) (by have:=Hul.out;simp only [mvP,List.length_append,List.length_singleton];omega) v (U8.hb.trans (hS.hb.mono U8.hb.size)) hsl4).out ?_;rintro e w1 ⟨⟨u,rfl,hu⟩,hb1⟩
          go_simp
          exact hK _ _ ⟨_,_,_,_,_,_,_,_,rfl,hS.s2 hb1 ho4 hu,q0,q1,q2,q3,fun _=>trivial,fun _=>rfl,fun _=>rfl,fun _=>trivial⟩
        ·rintro fL bA v ⟨v37,v38,v39,v40,v41,v42,v43,v44,rfl,hS,q0,q1,q2,q3,q4,q5,q6,q7⟩ hall
         simp only [Act.put,List.setIfInBounds_toArray,List.set_cons_zero,List.set_cons_succ]
         obtain rfl:=q0 (hall 0 (by omega))
         obtain rfl:=q1 (hall 1 (by omega))
         obtain rfl:=q2 (hall 2 (by omega))
         obtain rfl:=q3 (hall 3 (by omega))
         have e4:fL 4=true:=hall 4 (by omega)
         obtain rfl:=q5 (hall 5 (by omega))
         obtain rfl:=q6 (hall 6 (by omega))
         have e7:fL 7=true:=hall 7 (by omega)
         clear hall
         simp only [List.drop_succ_cons,List.drop_zero]
         obtain ⟨A5,c5,rfl,hsl5,ho5,hcp5⟩:=hS.y2 e7
         have U3:=U8.below hS.hb
         have hoff5:Off A5 g:=ho5 g U8.b5.lt U8.off
         have hnw5:∀ q',q' < w.heap.size→Off A5 q':=fun q' hq'=>ho5 q' (Nat.lt_of_lt_of_le hq' U8.hb.size) (U8.nw q' hq')
         have Hq5:Hid (termP p ⟨td,tt,false⟩=mvP (mvP (underP p) 4 0 0 false) 1 td tt false):=by
          unfold Hid termP
          simp only [Bool.false_eq_true,if_false,Hen.out,Bool.false_and,Hfq.out]
         have HU5:=Lib.hid (U3.store (q:=mvP (mvP (underP p) 4 0 0 false) 1 td tt false) (c'':=c5) hsl5 hoff5 hnw5 hcp5)
         have Bg:=U3.b5
         have z0:v.cell? ⟨g,0,none⟩=some (.int .i64 (underP p).sh):=Bg.cell 0
         have z1:v.cell? ⟨g,1,none⟩=some (.int .i64 (underP p).cu):=Bg.cell 1
         have z2:v.cell? ⟨g,2,none⟩=some (.slice A6 (underP p).ms.length c6):=Bg.cell 2
         have z3:v.cell? ⟨g,3,none⟩=some (.bool (underP p).en):=Bg.cell 3
         have f0:v.frozen? ⟨g,0,none⟩=false:=Bg.frozen 0
         have f1:v.frozen? ⟨g,1,none⟩=false:=Bg.frozen 1
         have f2:v.frozen? ⟨g,2,none⟩=false:=Bg.frozen 2
         have f3:v.frozen? ⟨g,3,none⟩=false:=Bg.frozen 3
         clear U8 U3 Bg hS B78 HU HDo Hok Hok2 hsl5 ho5 hnw5 hcp5
         go_wp2
         go_roundw
         case rel=>exact ⟨k+1,A5,c5,by omega,by omega,by go_num,by rw [Hnx.out,Hq5.out];exact HU5.out⟩
         case measure=>simp [intOf];omega
   ·have:k=l.length:=by omega
    subst this
    obtain ⟨hok,hln⟩:=Hfold.out l.length hk1 (Nat.le_refl _)
    have hnlt:¬ (l.length:Int) < (l.length:Int):=by omega
    have hfl:∀ (x y z u:Value) (w:World),(Instr.field 154 (.agg #[x,y,z,u]) 1).run Tryz.prog w=.ok z w:=fun x y z u w=>by simp [Instr.field,go_sem,asAgg]
    have hUn:=l14Under_c L A1 c1 l1 A2 c2 l2 (foldP (headP l[0]) l l.length) Ak ck wr (R.later U.hb) hok.1 (by omega) U.sl U.cp
    rw [← Heq.out] at hUn
    have HUn:=Lib.hid hUn
    have hn0:Hid ((foldP (headP l[0]) l l.length).ms.length ≤ 1000):=(show (foldP (headP l[0]) l l.length).ms.length ≤ 1000 by omega)
    clear hok hln hUn
    have z0:wr.cell? ⟨g,0,none⟩=some (.int .i64 (foldP (headP l[0]) l l.length).sh):=U.b5.cell 0
    have z1:wr.cell? ⟨g,1,none⟩=some (.int .i64 (foldP (headP l[0]) l l.length).cu):=U.b5.cell 1
    have z2:wr.cell? ⟨g,2,none⟩=some (.slice Ak (foldP (headP l[0]) l l.length).ms.length ck):=U.b5.cell 2
    have z3:wr.cell? ⟨g,3,none⟩=some (.bool (foldP (headP l[0]) l l.length).en):=U.b5.cell 3
    have r0:wr.cell? ⟨w.heap.size,0,none⟩=some (.int .i64 L):=U.b2.cell 0
    have r1:wr.cell? ⟨w.heap.size,1,none⟩=some (.slice A1 l1.length c1):=U.b2.cell 1
    have r2:wr.cell? ⟨w.heap.size,2,none⟩=some (.slice A2 l2.length c2):=U.b2.cell 2
    go_wp2_with fail
    refine Calls.mono HUn.out ?_;rintro e w6 ⟨⟨u6,rfl,A6,c6,rfl,hsl6,ho6,hcp6⟩,hb6⟩
    have hW6:=U.hb.trans (hb6.mono U.hb.size)
    have Hnw:Hid (∀ q',q' < w.heap.size→Off A6 q'):=Lib.hid (fun q' hq'=>ho6 q' (Nat.lt_of_lt_of_le hq' U.hb.size) (U.nw q' hq'))
    generalize usualP l=q at *
    have Hsl:=Lib.hid hsl6
    have Hcp:=Lib.hid hcp6
    clear hsl6 ho6 hcp6 hb6 U z0 z1 z2 z3 r0 r1 r2
    go_wp2
    go_ret
    exact ⟨A6,c6,rfl,Hsl.out,hW6,Hnw.out,Hcp.out⟩
theorem l14Usual_c (L:Int) (A1:Option Addr) (c1:Nat) (l1:List Int) (A2:Option Addr) (c2:Nat) (l2:List Int) (A3:Option Addr) (c3:Nat) (l:List Term) (w:World) (R:RuleIn w A1 l1 A2 l2)
  (h0:0 < l.length) (h6:l.length ≤ 6) (hall:l.all termOK=true) (hs:Sl w w.heap.size 3 A3 (l.map Term.cells)) :
  Calls Tryz.prog 61 #[.agg #[.int .i64 L,.slice A1 l1.length c1,.slice A2 l2.length c2],.slice A3 l.length c3] w (ListPost (usualP l).ms w) :=
 (l14UsualN_c L A1 c1 l1 A2 c2 l2 A3 c3 l w R h0 h6 hall hs).mono fun _ _ ⟨A',c',q1,q2,q3,_⟩=>⟨A',c',q1,q2,q3⟩
end Go.Proofs.YtednjmldjbndhaaGreat
