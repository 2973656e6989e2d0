/- A plan's value under the cursor, and whether a figure fits: the reference's. Conditions: the rule has ScaleC on both parts; the plan so far is sound. -/
import Derived.Test.YtednjmldjbndhaaGreatKGr16
set_option linter.unusedSimpArgs false
set_option linter.unusedVariables false
set_option maxRecDepth 100000
set_option maxHeartbeats 8000000
namespace Go.Proofs.YtednjmldjbndhaaGreat
open Go.RowKit
theorem calls_same {P:Program} {f:FuncId} {args:Array Value} {W:World} {v:Value} (h:Calls P f args W fun e w'=>e=.returned v∧W=w'):Calls P f args W fun e w'=>e=.returned v∧Below W.heap.size W w' :=
 h.mono fun _ w' ⟨h1,h2⟩=>⟨h1,by subst h2;exact Below.refl _ _⟩
def Off (A:Option Addr) (g:Nat):Prop:=∀ b off,A=some ⟨b,off,none⟩→b ≠ g
def PlanP (p:PS) (v:Value) (w':World) (A0:Option Addr) (n0:Nat):Prop:=∃ A' c',v=.agg #[.int .i64 p.sh,.int .i64 p.cu,.slice A' p.ms.length c',.bool p.en]∧Sl w' w'.heap.size 4 A' (p.ms.map Move.cells)∧(∀ g,g < n0→Off A0 g→Off A' g)∧p.ms.length ≤ c'
theorem PlanP.below {p:PS} {v:Value} {w w':World} {A0:Option Addr} {n0:Nat} (h:PlanP p v w A0 n0) (hb:Below w.heap.size w w'):PlanP p v w' A0 n0:=by
 obtain ⟨A',c',h1,h2,h3,h4⟩:=h
 exact ⟨A',c',h1,(h2.below hb).more hb.size,h3,h4⟩
theorem own_off {w':World} {base n c':Nat} {A':Option Addr} {e:TypeId} {k:Nat} {xs:List (List Value)} (h2:Own w' base e k (.slice A' n c') xs) {g:Nat} (hg:g < base):Off A' g:=fun b off e=>by
 have:=h2.ownGe b (by rw [e];simp only [Value.ownBlock])
 omega
theorem PlanV.toP {w w':World} {p:PS} {v:Value} (h:PlanV w p v w') (A0:Option Addr):PlanP p v w' A0 w.heap.size:=by
 obtain ⟨A',c',h1,h2⟩:=h
 exact ⟨A',c',h1,h2.sl,fun g hg _=>own_off h2 hg,h2.le_cap⟩
theorem l14DoP_c (L:Int) (A1:Option Addr) (c1:Nat) (l1:List Int) (A2:Option Addr) (c2:Nat) (l2:List Int) (p:PS) (A:Option Addr) (c:Nat) (k d t:Int) (w:World) (R:RuleIn w A1 l1 A2 l2)
  (hk:0 ≤ k∧k ≤ 6) (hs:(-1048576 ≤ p.sh∧p.sh ≤ 1048576)∧0 ≤ p.cu∧p.cu ≤ 1048576) (hd:k ≤ 2→1000 ≤ d∧d ≤ 9999) (hr:p.ms.length ≤ 1000) (hS:Sl w w.heap.size 4 A (p.ms.map Move.cells)) :
  Calls Tryz.prog 118 #[.agg #[.int .i64 p.sh,.int .i64 p.cu,.slice A p.ms.length c,.bool p.en],.agg #[.int .i64 L,.slice A1 l1.length c1,.slice A2 l2.length c2],.int .i64 k,.agg #[.int .i64 d,.int .i64 t]] w fun e w'=>(∃ v,e=.returned v∧PlanP (mvP p k d t false) v w' A w.heap.size)∧Below w.heap.size w w' :=
 (l14Do_c L A1 c1 l1 A2 c2 l2 p A c k d t w R hk hs hd hr hS).mono fun _ _ ⟨⟨v,h1,h2⟩,h3⟩=>⟨⟨v,h1,h2.toP A⟩,h3⟩
theorem l14Under_c (L:Int) (A1:Option Addr) (c1:Nat) (l1:List Int) (A2:Option Addr) (c2:Nat) (l2:List Int) (p:PS) (A:Option Addr) (c:Nat) (w:World) (R:RuleIn w A1 l1 A2 l2)
  (hs:(-1048576 ≤ p.sh∧p.sh ≤ 1048576)∧0 ≤ p.cu∧p.cu ≤ 1048576) (hr:p.ms.length ≤ 1000) (hS:Sl w w.heap.size 4 A (p.ms.map Move.cells)) (hC:p.ms.length ≤ c) :
  Calls Tryz.prog 119 #[.agg #[.int .i64 p.sh,.int .i64 p.cu,.slice A p.ms.length c,.bool p.en],.agg #[.int .i64 L,.slice A1 l1.length c1,.slice A2 l2.length c2]] w fun e w'=>(∃ v,e=.returned v∧PlanP (underP p) v w' A w.heap.size)∧Below w.heap.size w w':=by
 have HD:=fun k (hk:5 ≤ k∧k ≤ 6) (W:World) (hW:Below w.heap.size w W)=>Lib.hid (l14Do_c L A1 c1 l1 A2 c2 l2 p A c k 0 0 W (R.later hW) (by omega) hs (fun h=>by omega) hr ((hS.below hW).more hW.size))
 have HS:=Lib.hid hS
 have HC:=Lib.hid hC
 clear hS hC
 obtain ⟨sh,cu,ms,en⟩:=p
 have Hunder:∀ en,Hid (underP ⟨sh,cu,ms,en⟩=if en then (if 0 ≤ sh then mvP ⟨sh,cu,ms,en⟩ 5 0 0 false else mvP ⟨sh,cu,ms,en⟩ 6 0 0 false) else ⟨sh,cu,ms,en⟩):=fun en=>rfl
 have Hu:=Hunder en
 clear Hunder R
 simp only at hs hr HS HC HD ⊢
 cases en with
 | false =>
  clear HD
  go_enter Tryz.func119,Tryz.ntmps119
  go_wp2
  refine bodyPost_ret (v:=.agg #[.int .i64 sh,.int .i64 cu,.slice A ms.length c,.bool false]) (by simp [results,Tryz.results119,go_sem]) rfl ⟨⟨_,rfl,?_⟩,(by repeat first | with_reducible (first | exact Below.refl _ _ | apply below_drewN' | apply Below.drew | refine Below.alloc ?_ ?_ _ | refine Below.setCell ?_ ?_ _) | exact Below.refl _ _ | omega | (simp <;> omega) | (have:=(Below.refl _ _).size;first | omega | (simp <;> omega)))⟩
  rw [Hu.out]
  have hb:Below w.heap.size w (((w.alloc (.cells #[.int .i64 sh,.int .i64 cu,.slice A ms.length c,.bool false] 154)).alloc (.cells #[.int .i64 L,.slice A1 l1.length c1,.slice A2 l2.length c2] 26)).alloc (.cells #[.int .i64 sh,.int .i64 cu,.slice A ms.length c,.bool false] 154)):=(by repeat first | with_reducible (first | exact Below.refl _ _ | apply below_drewN' | apply Below.drew | refine Below.alloc ?_ ?_ _ | refine Below.setCell ?_ ?_ _) | exact Below.refl _ _ | omega | (simp <;> omega) | (have:=(Below.refl _ _).size;first | omega | (simp <;> omega)))
  exact ⟨A,c,rfl,(HS.out.below hb).more hb.size,fun _ _ h=>h,HC.out⟩
 | true =>
  have hW:Below w.heap.size w (((w.alloc (.cells #[.int .i64 sh,.int .i64 cu,.slice A ms.length c,.bool true] 154)).alloc (.cells #[.int .i64 L,.slice A1 l1.length c1,.slice A2 l2.length c2] 26)).alloc (.cells #[.int .i64 0,.int .i64 0,.slice none 0 0,.bool false] 154)):=(by repeat first | with_reducible (first | exact Below.refl _ _ | apply below_drewN' | apply Below.drew | refine Below.alloc ?_ ?_ _ | refine Below.setCell ?_ ?_ _) | exact Below.refl _ _ | omega | (simp <;> omega) | (have:=(Below.refl _ _).size;first | omega | (simp <;> omega)))
  have B4:Blk (((w.alloc (.cells #[.int .i64 sh,.int .i64 cu,.slice A ms.length c,.bool true] 154)).alloc (.cells #[.int .i64 L,.slice A1 l1.length c1,.slice A2 l2.length c2] 26)).alloc (.cells #[.int .i64 0,.int .i64 0,.slice none 0 0,.bool false] 154)) (w.heap.size+2) 154 #[.int .i64 0,.int .i64 0,.slice none 0 0,.bool false]:=Blk.new' _ _ _ (by simp)
  by_cases h5:0 ≤ sh
  ·have H:=HD 5 (by omega)
   simp only [if_true,if_pos h5] at Hu
   have Hq:=Lib.hid Hu
   generalize underP ⟨sh,cu,ms,true⟩=q at *
   rw [← Hq.out] at H
   clear HD Hu Hq
   go_enter Tryz.func119,Tryz.ntmps119
   go_wp2_with fail
   generalize ((w.alloc (.cells #[.int .i64 sh,.int .i64 cu,.slice A ms.length c,.bool true] 154)).alloc (.cells #[.int .i64 L,.slice A1 l1.length c1,.slice A2 l2.length c2] 26)).alloc (.cells #[.int .i64 0,.int .i64 0,.slice none 0 0,.bool false] 154)=W at *
   refine Calls.mono (H W hW).out ?_;rintro e w1 ⟨⟨v,rfl,A',c',rfl,hO⟩,hb1⟩
   have hW1:=hW.trans (hb1.mono hW.size)
   have C4:=B4.below hb1 B4.lt
   have hO4:=hO.kept (w':=(((w1.setCell ⟨w.heap.size+1+1,0,none⟩ (.int .i64 q.sh)).setCell ⟨w.heap.size+1+1,1,none⟩ (.int .i64 q.cu)).setCell ⟨w.heap.size+1+1,2,none⟩ (.slice A' q.ms.length c')).setCell ⟨w.heap.size+1+1,3,none⟩ (.bool q.en)) (grownBy_stores [_,_,_,_] 0 (World.grownBy.refl _ _)) (.inr (Ne.symm (own_ne_blk hO C4 (by decide))))
   have Hsl:=Lib.hid hO4.sl
   have Hcap:=Lib.hid hO4.le_cap
   have Hoff:=Lib.hid (fun g (hg:g < w.heap.size)=>own_off hO4 (g:=g) (Nat.lt_of_lt_of_le hg hW.size))
   clear hO hO4 hW B4 hb1 h5
   have z0:w1.cell? ⟨w.heap.size+1+1,0,none⟩=some (.int .i64 0):=C4.cell 0
   have z1:w1.cell? ⟨w.heap.size+1+1,1,none⟩=some (.int .i64 0):=C4.cell 1
   have z2:w1.cell? ⟨w.heap.size+1+1,2,none⟩=some (.slice none 0 0):=C4.cell 2
   have z3:w1.cell? ⟨w.heap.size+1+1,3,none⟩=some (.bool false):=C4.cell 3
   have f0:w1.frozen? ⟨w.heap.size+1+1,0,none⟩=false:=C4.frozen 0
   have f1:w1.frozen? ⟨w.heap.size+1+1,1,none⟩=false:=C4.frozen 1
   have f2:w1.frozen? ⟨w.heap.size+1+1,2,none⟩=false:=C4.frozen 2
   have f3:w1.frozen? ⟨w.heap.size+1+1,3,none⟩=false:=C4.frozen 3
   clear C4
   go_wp2
   refine bodyPost_ret (v:=.agg #[.int .i64 q.sh,.int .i64 q.cu,.slice A' q.ms.length c',.bool q.en]) (by simp [results,Tryz.results119,go_sem,z0,z1,z2,z3]) rfl ⟨⟨_,rfl,A',c',rfl,Hsl.out,fun g hg _=>Hoff.out g hg,Hcap.out⟩,(by repeat first | with_reducible (first | exact hW1 | apply below_drewN' | apply Below.drew | refine Below.alloc ?_ ?_ _ | refine Below.setCell ?_ ?_ _) | exact hW1 | omega | (simp <;> omega) | (have:=(hW1).size;first | omega | (simp <;> omega)))⟩
  ·have H:=HD 6 (by omega)
   simp only [if_true,if_neg h5] at Hu
   have Hq:=Lib.hid Hu
   generalize underP ⟨sh,cu,ms,true⟩=q at *
   rw [← Hq.out] at H
   clear HD Hu Hq
   go_enter Tryz.func119,Tryz.ntmps119
   go_wp2_with fail
   generalize ((w.alloc (.cells #[.int .i64 sh,.int .i64 cu,.slice A ms.length c,.bool true] 154)).alloc (.cells #[.int .i64 L,.slice A1 l1.length c1,.slice A2 l2.length c2] 26)).alloc (.cells #[.int .i64 0,.int .i64 0,.slice none 0 0,.bool false] 154)=W at *
   refine Calls.mono (H W hW).out ?_;rintro e w1 ⟨⟨v,rfl,A',c',rfl,hO⟩,hb1⟩
   have hW1:=hW.trans (hb1.mono hW.size)
   have C4:=B4.below hb1 B4.lt
   have hO4:=hO.kept (w':=(((w1.setCell ⟨w.heap.size+1+1,0,none⟩ (.int .i64 q.sh)).setCell ⟨w.heap.size+1+1,1,none⟩ (.int .i64 q.cu)).setCell ⟨w.heap.size+1+1,2,none⟩ (.slice A' q.ms.length c')).setCell ⟨w.heap.size+1+1,3,none⟩ (.bool q.en)) (grownBy_stores [_,_,_,_] 0 (World.grownBy.refl _ _)) (.inr (Ne.symm (own_ne_blk hO C4 (by decide))))
   have Hsl:=Lib.hid hO4.sl
   have Hcap:=Lib.hid hO4.le_cap
   have Hoff:=Lib.hid (fun g (hg:g < w.heap.size)=>own_off hO4 (g:=g) (Nat.lt_of_lt_of_le hg hW.size))
   clear hO hO4 hW B4 hb1 h5
   have z0:w1.cell? ⟨w.heap.size+1+1,0,none⟩=some (.int .i64 0):=C4.cell 0
   have z1:w1.cell? ⟨w.heap.size+1+1,1,none⟩=some (.int .i64 0):=C4.cell 1
   have z2:w1.cell? ⟨w.heap.size+1+1,2,none⟩=some (.slice none 0 0):=C4.cell 2
   have z3:w1.cell? ⟨w.heap.size+1+1,3,none⟩=some (.bool false):=C4.cell 3
   have f0:w1.frozen? ⟨w.heap.size+1+1,0,none⟩=false:=C4.frozen 0
   have f1:w1.frozen? ⟨w.heap.size+1+1,1,none⟩=false:=C4.frozen 1
   have f2:w1.frozen? ⟨w.heap.size+1+1,2,none⟩=false:=C4.frozen 2
   have f3:w1.frozen? ⟨w.heap.size+1+1,3,none⟩=false:=C4.frozen 3
   clear C4
   go_wp2
   refine bodyPost_ret (v:=.agg #[.int .i64 q.sh,.int .i64 q.cu,.slice A' q.ms.length c',.bool q.en]) (by simp [results,Tryz.results119,go_sem,z0,z1,z2,z3]) rfl ⟨⟨_,rfl,A',c',rfl,Hsl.out,fun g hg _=>Hoff.out g hg,Hcap.out⟩,(by repeat first | with_reducible (first | exact hW1 | apply below_drewN' | apply Below.drew | refine Below.alloc ?_ ?_ _ | refine Below.setCell ?_ ?_ _) | exact hW1 | omega | (simp <;> omega) | (have:=(hW1).size;first | omega | (simp <;> omega)))⟩
theorem l14Fits_c (sh cu d t:Int) (w:World) (hs:-1048576 ≤ sh∧sh ≤ 1048576) (hd:1000 ≤ d∧d ≤ 9999) :
  Calls Tryz.prog 120 #[.agg #[.int .i64 sh,.int .i64 cu],.agg #[.int .i64 d,.int .i64 t]] w fun e w'=>e=.returned (.bool (fitsB sh d))∧Below w.heap.size w w':=by
 have hpb:=pointC_bd hd
 have HP:=fun W=>Lib.hid (l14Point_c d t W hd)
 unfold fitsB
 generalize pointC d=pt at *
 have HI:=fun W=>Lib.hid (calls_same (l01In_c (sh+pt) 0 1048576 W))
 have hw1:IntKind.i64.wrap (sh+pt)=sh+pt:=IntWalk.i64_in _ (by omega)
 have hW:Below w.heap.size w ((w.alloc (.cells #[.int .i64 sh,.int .i64 cu] 104)).alloc (.cells #[.int .i64 d,.int .i64 t] 51)):=(by repeat first | with_reducible (first | exact Below.refl _ _ | apply below_drewN' | apply Below.drew | refine Below.alloc ?_ ?_ _ | refine Below.setCell ?_ ?_ _) | exact Below.refl _ _ | omega | (simp <;> omega) | (have:=(Below.refl _ _).size;first | omega | (simp <;> omega)))
 have B2:Blk ((w.alloc (.cells #[.int .i64 sh,.int .i64 cu] 104)).alloc (.cells #[.int .i64 d,.int .i64 t] 51)) w.heap.size 104 #[.int .i64 sh,.int .i64 cu]:=(Blk.new _ _ _).alloc _
 have B3:Blk ((w.alloc (.cells #[.int .i64 sh,.int .i64 cu] 104)).alloc (.cells #[.int .i64 d,.int .i64 t] 51)) (w.heap.size+1) 51 #[.int .i64 d,.int .i64 t]:=Blk.new' _ _ _ (by simp)
 go_enter Tryz.func120,Tryz.ntmps120
 go_wp2_with fail
 generalize (w.alloc (.cells #[.int .i64 sh,.int .i64 cu] 104)).alloc (.cells #[.int .i64 d,.int .i64 t] 51)=W at *
 refine wp_region_sink 6 (fun a0 fL bA v=>∃ v5 v6 v7 v8 v9 v10:Value,bA=(((((a0.put (some 5) v5).put (some 6) v6).put (some 7) v7).put (some 8) v8).put (some 9) v9).put (some 10) v10∧(Below W.heap.size W v)∧(fL 0=true→v5=.pointer (some ⟨w.heap.size,0,none⟩))∧(fL 1=true→v6=.int .i64 sh)∧(fL 2=true→v7=.agg #[.int .i64 d,.int .i64 t])∧(fL 3=true→v8=.int .i64 pt)∧(fL 4=true→v9=.int .i64 (sh+pt))∧(fL 5=true→v10=.bool (inB (sh+pt) 0 1048576))) (by kernel_rfl) (by decide +kernel) ?_ ?_ ?_
 ·exact ⟨undef,undef,undef,undef,undef,undef,by simp only [Act.put,List.setIfInBounds_toArray,List.set_cons_zero,List.set_cons_succ],(Below.refl _ _).drew,nofun,nofun,nofun,nofun,nofun,nofun⟩
 ·rintro fL bA v ⟨v5,v6,v7,v8,v9,v10,rfl,hS,q0,q1,q2,q3,q4,q5⟩ i hi hf o ho hall
  simp only [Act.put,List.setIfInBounds_toArray,List.set_cons_zero,List.set_cons_succ]
  have hn:i=0 ∨ i=1 ∨ i=2 ∨ i=3 ∨ i=4 ∨ i=5:=by omega
  clear hi
  rcases hn with rfl | rfl | rfl | rfl | rfl | rfl
  ·obtain rfl:=Option.some.inj ho
   clear hall ho
   refine wpOp_step rfl (fun K hK=>?_)
   go_simp
   exact hK _ _ ⟨_,_,_,_,_,_,rfl,hS,fun _=>rfl,q1,q2,q3,q4,q5⟩
  ·obtain rfl:=Option.some.inj ho
   obtain rfl:=q0 (hall ⟨0,.data⟩ (by simp) rfl)
   have E:=B2.below hS B2.lt
   have y0:v.cell? ⟨w.heap.size,0,none⟩=some (.int .i64 sh):=E.cell 0
   clear hall ho
   refine wpOp_step rfl (fun K hK=>?_)
   go_simp
   exact hK _ _ ⟨_,_,_,_,_,_,rfl,hS,fun _=>rfl,fun _=>rfl,q2,q3,q4,q5⟩
  ·obtain rfl:=Option.some.inj ho
   have E:=B3.below hS B3.lt
   have y0:v.cell? ⟨w.heap.size+1,0,none⟩=some (.int .i64 d):=E.cell 0
   have y1:v.cell? ⟨w.heap.size+1,1,none⟩=some (.int .i64 t):=E.cell 1
   clear hall ho
   refine wpOp_step rfl (fun K hK=>?_)
   go_simp
   exact hK _ _ ⟨_,_,_,_,_,_,rfl,hS,q0,q1,fun _=>rfl,q3,q4,q5⟩
  ·obtain rfl:=Option.some.inj ho
   obtain rfl:=q2 (hall ⟨2,.data⟩ (by simp) rfl)
   clear hall ho
   refine wpOp_step rfl (fun K hK=>?_)
   go_simp
   refine Calls.mono ((HP _).out) ?_;rintro e w1 ⟨rfl,hb1⟩
   go_simp
   exact hK _ _ ⟨_,_,_,_,_,_,rfl,hS.trans (hb1.mono hS.size),q0,q1,fun _=>rfl,fun _=>rfl,q4,q5⟩
  ·obtain rfl:=Option.some.inj ho
   obtain rfl:=q1 (hall ⟨1,.data⟩ (by simp) rfl)
   obtain rfl:=q3 (hall ⟨3,.data⟩ (by simp) rfl)
   clear hall ho
   refine wpOp_step rfl (fun K hK=>?_)
   go_simp
   exact hK _ _ ⟨_,_,_,_,_,_,rfl,hS,q0,fun _=>rfl,q2,fun _=>rfl,fun _=>rfl,q5⟩
  ·obtain rfl:=Option.some.inj ho
   obtain rfl:=q4 (hall ⟨4,.data⟩ (by simp) rfl)
   clear hall ho
   refine wpOp_step rfl (fun K hK=>?_)
   go_simp
   refine Calls.mono ((HI _).out) ?_;rintro e w1 ⟨rfl,hb1⟩
   go_simp
   exact hK _ _ ⟨_,_,_,_,_,_,rfl,hS.trans (hb1.mono hS.size),q0,q1,q2,q3,fun _=>rfl,fun _=>rfl⟩
 ·rintro fL bA v ⟨v5,v6,v7,v8,v9,v10,rfl,hS,q0,q1,q2,q3,q4,q5⟩ hall
  simp only [Act.put,List.setIfInBounds_toArray,List.set_cons_zero,List.set_cons_succ]
  obtain rfl:=q0 (hall 0 (by omega))
  obtain rfl:=q1 (hall 1 (by omega))
  obtain rfl:=q2 (hall 2 (by omega))
  obtain rfl:=q3 (hall 3 (by omega))
  obtain rfl:=q4 (hall 4 (by omega))
  obtain rfl:=q5 (hall 5 (by omega))
  clear hall
  simp only [List.drop_succ_cons,List.drop_zero]
  have hbv:=hW.trans (hS.mono hW.size)
  go_wp2
  go_ret
  exact ⟨rfl,(by repeat first | with_reducible (first | exact hbv | apply below_drewN' | apply Below.drew | refine Below.alloc ?_ ?_ _ | refine Below.setCell ?_ ?_ _) | exact hbv | omega | (simp <;> omega) | (have:=(hbv).size;first | omega | (simp <;> omega)))⟩
end Go.Proofs.YtednjmldjbndhaaGreat
