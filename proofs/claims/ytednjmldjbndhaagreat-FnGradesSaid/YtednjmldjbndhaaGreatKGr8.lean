/- The reference's draw of a move. Condition: the code has at most 4096 bytes. -/
import Derived.Test.YtednjmldjbndhaaGreatKGr2
import Derived.Test.YtednjmldjbndhaaGreatKGr7
set_option linter.unusedSimpArgs false
set_option linter.unusedVariables false
set_option maxRecDepth 100000
set_option maxHeartbeats 8000000
namespace Go.Proofs.YtednjmldjbndhaaGreat
open Go.RowKit
theorem grown_below {w w':World} {g:Nat} (h:Below w.heap.size w w'):w.grownBy w' (some g):=⟨h.os,h.tape,h.output,h.size,fun k hk _=>h.block k hk⟩
def DAny (A:Option Addr) (n c g:Nat) (w:World) (e:Ending) (w':World):Prop:=∃ r:Int,e=.returned (.int .i64 r)∧Src w' A n c g∧w.grownBy w' (some g)
theorem l11DrawOn_c (A:Option Addr) (n c g:Nat) (w:World) (hS:Src w A n c g) (sl:Bool) (L:Int) (l1 l2:List Int) (A1 A2:Option Addr) (c1 c2 base:Nat) (hb:g < base) (hO1:Own w base 2 1 (.slice A1 l1.length c1) (l1.map ic)) (hO2:Own w base 2 1 (.slice A2 l2.length c2) (l2.map ic)) (hl1:l1.length ≤ 100) (hl2:l2.length ≤ 100):Calls Tryz.prog 155 #[.pointer (some ⟨g,0,none⟩),.agg #[.int .i64 L,.slice A1 l1.length c1,.slice A2 l2.length c2],.bool sl] w (DAny A n c g w):=by
 have hlt:=hS.lt
 have hG:w.grownBy (w.alloc (.cells #[.int .i64 L,.slice A1 l1.length c1,.slice A2 l2.length c2] 26)) (some g):=grown_alloc _ _
 have hS:=hS.alloc (.cells #[.int .i64 L,.slice A1 l1.length c1,.slice A2 l2.length c2] 26)
 have hO1:=hO1.alloc (.cells #[.int .i64 L,.slice A1 l1.length c1,.slice A2 l2.length c2] 26)
 have hO2:=hO2.alloc (.cells #[.int .i64 L,.slice A1 l1.length c1,.slice A2 l2.length c2] 26)
 unfold DAny
 have hON:∃ (B:Option Addr) (m:List Int) (d:Nat),m.length ≤ 100∧Own (w.alloc (.cells #[.int .i64 L,.slice A1 l1.length c1,.slice A2 l2.length c2] 26)) base 2 1 (.slice B m.length d) (m.map ic)∧Hid (∀ W,Calls Tryz.prog 173 #[.agg #[.int .i64 L,.slice A1 l1.length c1,.slice A2 l2.length c2],.bool sl] W fun e w'=>e=.returned (.slice B m.length d)∧Below W.heap.size W w'):=by
  cases sl with
  | true=>exact ⟨A2,l2,c2,hl2,hO2,Lib.hid fun W=>l11OnT_c L _ _ W _ _ _ rfl⟩
  | false=>exact ⟨A1,l1,c1,hl1,hO1,Lib.hid fun W=>l11OnF_c L _ _ W _ _ _ rfl⟩
 obtain ⟨B,m,d,hm,hO,HO⟩:=hON
 clear hO1 hO2
 go_enter Tryz.func155,Tryz.ntmps155
 go_wp2_with fail
 generalize w.alloc (.cells #[.int .i64 L,.slice A1 l1.length c1,.slice A2 l2.length c2] 26)=w0 at *
 refine Calls.mono (HO.out w0) ?_;rintro e w1 ⟨rfl,hb1⟩
 have hO:=hO.below hb1
 have hS:=hS.below hb1
 have hG:=hG.trans (grown_below hb1)
 clear HO hb1
 by_cases h0:m.length=0
 ·have he:((m.length:Int) == 0)=true:=by rw [h0];rfl
  clear h0
  go_wp2_with fail
  refine (l05DrawScale_c A n c g _ hS).mono ?_;rintro e w2 ⟨r,rfl,_,hS,hg⟩
  have hG:=hG.trans hg
  go_wp2
  go_ret
  exact ⟨r,rfl,hS,hG⟩
 ·have he:((m.length:Int) == 0)=false:=by simpa using h0
  have H0:=Lib.hid h0
  clear h0
  go_wp2_with fail
  refine (l01Next_c A n c g _ _ hS).mono ?_;rintro e w2 ⟨q,rfl,_,_,hS,hg⟩
  have hO:=hO.src hg (by omega)
  have hG:=hG.trans hg
  clear hg
  by_cases q0:q=0
  ·subst q0
   go_wp2_with fail
   refine (l05DrawScale_c A n c g _ hS).mono ?_;rintro e w3 ⟨r,rfl,_,hS,hg⟩
   have hG:=hG.trans hg
   go_wp2
   go_ret
   exact ⟨r,rfl,hS,hG⟩
  ·have q0':(q == 0)=false:=by simpa using q0
   go_wp2_with fail
   refine (l01Next_c A n c g _ _ hS).mono ?_;rintro e w3 ⟨x,rfl,⟨xa,xb⟩,xd,hS,hg⟩
   have hO:=hO.src hg (by omega)
   have hG:=hG.trans hg
   clear hg
   obtain ⟨k,rfl⟩:=Int.eq_ofNat_of_zero_le xa
   have hk:k < m.length:=by have:=H0.out;omega
   obtain ⟨bq,off,rfl,_,hc⟩:=hO.sl.int hk
   have hki:(k:Int) < m.length:=by omega
   generalize m[k]=y at *
   clear xa xb xd hO
   go_wp2
   go_ret
   exact ⟨y,rfl,hS,hG⟩
def DMv (A:Option Addr) (n c g:Nat) (w:World) (e:Ending) (w':World):Prop:=∃ m:Move,e=.returned m.agg∧Src w' A n c g∧w.grownBy w' (some g)
structure MfS (w:World) (A:Option Addr) (n c g base b5:Nat) (rc mc:Array Value) (k:Int) (u1 u2:Value) (r1 r2:List (List Value)) (b20 b22 b23:Bool) (v20 v22 v23:Value) (v:World):Prop where
 s:Src v A n c g
 gr:w.grownBy v (some g)
 bu:Blk v w.heap.size 26 rc
 bn:Blk v (w.heap.size+1) 75 #[.int .i64 0,.int .i64 0,.int .i64 0,.int .i64 0]
 b5_:Blk v b5 75 mc
 o1:Own v base 2 1 u1 r1
 o2:Own v base 2 1 u2 r2
 l20:b20=true→∃ x:Int,v20=.int .i64 x
 l22:b22=true→∃ x y:Int,v22=.agg #[.int .i64 x,.int .i64 y]
 l23:b23=true→∃ x y z:Int,v23=.agg #[.int .i64 k,.int .i64 x,.int .i64 y,.int .i64 z]
section
variable {w v v' : World} {A : Option Addr} {n c g base b5 : Nat} {rc mc : Array Value} {k : Int} {u1 u2 : Value} {r1 r2 : List (List Value)} {b20 b22 b23 : Bool} {v20 v22 v23 : Value}
theorem MfS.start (hS:Src v A n c g) (hG:w.grownBy v (some g)) (bu:Blk v w.heap.size 26 rc) (bn:Blk v (w.heap.size+1) 75 #[.int .i64 0,.int .i64 0,.int .i64 0,.int .i64 0]) (hb5:Blk v b5 75 mc) (o1:Own v base 2 1 u1 r1) (o2:Own v base 2 1 u2 r2):MfS w A n c g base b5 rc mc k u1 u2 r1 r2 false false false v20 v22 v23 v.drew :=
 ⟨hS.keep fun _ _=>rfl,grown_drewN hG 1,bu.drewN 1,bn.drewN 1,hb5.drewN 1,o1.drewN 1,o2.drewN 1,nofun,nofun,nofun⟩
theorem MfS.dr (h:MfS w A n c g base b5 rc mc k u1 u2 r1 r2 b20 b22 b23 v20 v22 v23 v) (hn:g < w.heap.size∧g < base∧b5 ≠ g) (hS:Src v' A n c g) (hg:v.grownBy v' (some g)):MfS w A n c g base b5 rc mc k u1 u2 r1 r2 b20 b22 b23 v20 v22 v23 v' :=
 ⟨hS,h.gr.trans hg,h.bu.src hg (by omega),h.bn.src hg (by omega),h.b5_.src hg hn.2.2,h.o1.src hg hn.2.1,h.o2.src hg hn.2.1,h.l20,h.l22,h.l23⟩
theorem MfS.s20 (h:MfS w A n c g base b5 rc mc k u1 u2 r1 r2 b20 b22 b23 v20 v22 v23 v) (x:Int):MfS w A n c g base b5 rc mc k u1 u2 r1 r2 true b22 b23 (.int .i64 x) v22 v23 v :=
 ⟨h.s,h.gr,h.bu,h.bn,h.b5_,h.o1,h.o2,fun _=>⟨x,rfl⟩,h.l22,h.l23⟩
theorem MfS.s22 (h:MfS w A n c g base b5 rc mc k u1 u2 r1 r2 b20 b22 b23 v20 v22 v23 v) (x y:Int):MfS w A n c g base b5 rc mc k u1 u2 r1 r2 b20 true b23 v20 (.agg #[.int .i64 x,.int .i64 y]) v23 v :=
 ⟨h.s,h.gr,h.bu,h.bn,h.b5_,h.o1,h.o2,h.l20,fun _=>⟨x,y,rfl⟩,h.l23⟩
theorem MfS.s23 (h:MfS w A n c g base b5 rc mc k u1 u2 r1 r2 b20 b22 b23 v20 v22 v23 v) (x y z:Int):MfS w A n c g base b5 rc mc k u1 u2 r1 r2 b20 b22 true v20 v22 (.agg #[.int .i64 k,.int .i64 x,.int .i64 y,.int .i64 z]) v :=
 ⟨h.s,h.gr,h.bu,h.bn,h.b5_,h.o1,h.o2,h.l20,h.l22,fun _=>⟨x,y,z,rfl⟩⟩
end
theorem l12DrawMove_c (A:Option Addr) (n c g:Nat) (w:World) (hS:Src w A n c g) (L:Int) (l1 l2:List Int) (A1 A2:Option Addr) (c1 c2 base:Nat) (hb:g < base) (hO1:Own w base 2 1 (.slice A1 l1.length c1) (l1.map ic)) (hO2:Own w base 2 1 (.slice A2 l2.length c2) (l2.map ic)) (hl1:l1.length ≤ 100) (hl2:l2.length ≤ 100):Calls Tryz.prog 93 #[.pointer (some ⟨g,0,none⟩),.agg #[.int .i64 L,.slice A1 l1.length c1,.slice A2 l2.length c2]] w (DMv A n c g w):=by
 have hlt:=hS.lt
 have hG:=(grown_alloc (w:=w) (.cells #[.int .i64 L,.slice A1 l1.length c1,.slice A2 l2.length c2] 26) (some g)).trans (grown_alloc (.cells #[.int .i64 0,.int .i64 0,.int .i64 0,.int .i64 0] 75) (some g))
 have hS:=(hS.alloc (.cells #[.int .i64 L,.slice A1 l1.length c1,.slice A2 l2.length c2] 26)).alloc (.cells #[.int .i64 0,.int .i64 0,.int .i64 0,.int .i64 0] 75)
 have hO1:=(hO1.alloc (.cells #[.int .i64 L,.slice A1 l1.length c1,.slice A2 l2.length c2] 26)).alloc (.cells #[.int .i64 0,.int .i64 0,.int .i64 0,.int .i64 0] 75)
 have hO2:=(hO2.alloc (.cells #[.int .i64 L,.slice A1 l1.length c1,.slice A2 l2.length c2] 26)).alloc (.cells #[.int .i64 0,.int .i64 0,.int .i64 0,.int .i64 0] 75)
 have BU:=(Blk.new w 26 #[.int .i64 L,.slice A1 l1.length c1,.slice A2 l2.length c2]).alloc (.cells #[.int .i64 0,.int .i64 0,.int .i64 0,.int .i64 0] 75)
 have BN:=Blk.new' (w.alloc (.cells #[.int .i64 L,.slice A1 l1.length c1,.slice A2 l2.length c2] 26)) 75 #[.int .i64 0,.int .i64 0,.int .i64 0,.int .i64 0] (g:=w.heap.size+1) (by simp)
 have hz0:((w.alloc (.cells #[.int .i64 L,.slice A1 l1.length c1,.slice A2 l2.length c2] 26)).alloc (.cells #[.int .i64 0,.int .i64 0,.int .i64 0,.int .i64 0] 75)).heap.size=w.heap.size+1+1:=by simp
 unfold DMv Move.agg
 go_enter Tryz.func93,Tryz.ntmps93
 go_wp2_with fail
 generalize (w.alloc (.cells #[.int .i64 L,.slice A1 l1.length c1,.slice A2 l2.length c2] 26)).alloc (.cells #[.int .i64 0,.int .i64 0,.int .i64 0,.int .i64 0] 75)=w0 at *
 rw [← hz0]
 refine (l01Pick_n A n c g #[.int .i64 0,.int .i64 1,.int .i64 1,.int .i64 2,.int .i64 2,.int .i64 3,.int .i64 4,.int .i64 5,.int .i64 6] 9 9 _ hS (by intro v hv;simp only [List.mem_cons,List.not_mem_nil,or_false] at hv;rcases hv with rfl | rfl | rfl | rfl | rfl | rfl | rfl | rfl | rfl;all_goals exact ⟨_,rfl,by omega,by omega⟩) rfl (by decide) (by decide)).mono ?_;rintro e w1 ⟨k,rfl,_,hS,hg⟩
 have hO1:=hO1.src hg (by omega)
 have hO2:=hO2.src hg (by omega)
 have BU:=BU.src hg (by omega)
 have BN:=BN.src hg (by omega)
 have hG:=hG.trans hg
 clear hg
 have hbn:=BN.lt
 have hgz:=hS.lt
 have B5:=Blk.new w1 75 #[.int .i64 k,.int .i64 0,.int .i64 0,.int .i64 0]
 have BN:=BN.alloc (.cells #[.int .i64 k,.int .i64 0,.int .i64 0,.int .i64 0] 75)
 have BU:=BU.alloc (.cells #[.int .i64 k,.int .i64 0,.int .i64 0,.int .i64 0] 75)
 have hO1:=hO1.alloc (.cells #[.int .i64 k,.int .i64 0,.int .i64 0,.int .i64 0] 75)
 have hO2:=hO2.alloc (.cells #[.int .i64 k,.int .i64 0,.int .i64 0,.int .i64 0] 75)
 have hS:=hS.alloc (.cells #[.int .i64 k,.int .i64 0,.int .i64 0,.int .i64 0] 75)
 have hG:=hG.trans (grown_alloc (.cells #[.int .i64 k,.int .i64 0,.int .i64 0,.int .i64 0] 75) (some g))
 by_cases hk:k ≤ 2
 ·skip
  go_wp2_with fail
  generalize w1.alloc (.cells #[.int .i64 k,.int .i64 0,.int .i64 0,.int .i64 0] 75)=w2 at *
  generalize w1.heap.size=b5 at *
  have hne:b5 ≠ w.heap.size+1:=by omega
  have hnn:g < w.heap.size∧g < base∧b5 ≠ g:=by omega
  (try rw [decide_eq_true hk])
  refine wp_region_sink 11 (fun a0 fL bA v=>∃ v13 v14 v15 v16 v17 v18 v19 v20 v21 v22 v23:Value,bA=((((((((((a0.put (some 13) v13).put (some 14) v14).put (some 15) v15).put (some 16) v16).put (some 17) v17).put (some 18) v18).put (some 19) v19).put (some 20) v20).put (some 21) v21).put (some 22) v22).put (some 23) v23∧(MfS w A n c g base b5 #[.int .i64 L,.slice A1 l1.length c1,.slice A2 l2.length c2] #[.int .i64 k,.int .i64 0,.int .i64 0,.int .i64 0] k (.slice A1 l1.length c1) (.slice A2 l2.length c2) (l1.map ic) (l2.map ic) (fL 7) (fL 9) (fL 10) v20 v22 v23 v)∧(fL 0=true→v13=.pointer (some ⟨b5,0,none⟩))∧(fL 1=true→v14=.int .i64 k)∧(fL 2=true→v15=.pointer (some ⟨g,0,none⟩))∧(fL 3=true→v16=.agg #[.int .i64 L,.slice A1 l1.length c1,.slice A2 l2.length c2])∧(fL 4=true→v17=.pointer (some ⟨b5,0,none⟩))∧(fL 5=true→v18=.int .i64 k)∧(fL 6=true→v19=.bool (k != 0))∧(fL 7=true→True)∧(fL 8=true→v21=.pointer (some ⟨g,0,none⟩))∧(fL 9=true→True)∧(fL 10=true→True)) (by kernel_rfl) (by decide +kernel) ?_ ?_ ?_
  ·exact ⟨undef,undef,undef,undef,undef,undef,undef,undef,undef,undef,undef,by simp only [Act.put,List.setIfInBounds_toArray,List.set_cons_zero,List.set_cons_succ],MfS.start hS hG BU BN B5 hO1 hO2,nofun,nofun,nofun,nofun,nofun,nofun,nofun,nofun,nofun,nofun,nofun⟩
  ·rintro fL bA v ⟨v13,v14,v15,v16,v17,v18,v19,v20,v21,v22,v23,rfl,hS,q0,q1,q2,q3,q4,q5,q6,q7,q8,q9,q10⟩ i hi hf o ho hall
   simp only [Act.put,List.setIfInBounds_toArray,List.set_cons_zero,List.set_cons_succ]
   have hn:i=0 ∨ i=1 ∨ i=2 ∨ i=3 ∨ i=4 ∨ i=5 ∨ i=6 ∨ i=7 ∨ i=8 ∨ i=9 ∨ i=10:=by omega
   clear hi
   rcases hn with rfl | rfl | rfl | rfl | rfl | rfl | rfl | rfl | rfl | rfl | rfl
   ·obtain rfl:=Option.some.inj ho
    clear hall ho
    refine wpOp_step rfl (fun K hK=>?_)
    go_simp
    exact hK _ _ ⟨_,_,_,_,_,_,_,_,_,_,_,rfl,hS,fun _=>rfl,q1,q2,q3,q4,q5,q6,fun _=>trivial,q8,fun _=>trivial,fun _=>trivial⟩
   ·obtain rfl:=Option.some.inj ho
    obtain rfl:=q0 (hall ⟨0,.data⟩ (by simp) rfl)
    have y0:v.cell? ⟨b5,0,none⟩=some (.int .i64 k):=hS.b5_.cell 0
    clear hall ho
    refine wpOp_step rfl (fun K hK=>?_)
    go_simp
    exact hK _ _ ⟨_,_,_,_,_,_,_,_,_,_,_,rfl,hS,fun _=>rfl,fun _=>rfl,q2,q3,q4,q5,q6,fun _=>trivial,q8,fun _=>trivial,fun _=>trivial⟩
   ·obtain rfl:=Option.some.inj ho
    clear hall ho
    refine wpOp_step rfl (fun K hK=>?_)
    go_simp
    exact hK _ _ ⟨_,_,_,_,_,_,_,_,_,_,_,rfl,hS,q0,q1,fun _=>rfl,q3,q4,q5,q6,fun _=>trivial,q8,fun _=>trivial,fun _=>trivial⟩
   ·obtain rfl:=Option.some.inj ho
    have y0:v.cell? ⟨w.heap.size,0,none⟩=some (.int .i64 L):=hS.bu.cell 0
    have y1:v.cell? ⟨w.heap.size,1,none⟩=some (.slice A1 l1.length c1):=hS.bu.cell 1
    have y2:v.cell? ⟨w.heap.size,2,none⟩=some (.slice A2 l2.length c2):=hS.bu.cell 2
    clear hall ho
    refine wpOp_step rfl (fun K hK=>?_)
    go_simp
    exact hK _ _ ⟨_,_,_,_,_,_,_,_,_,_,_,rfl,hS,q0,q1,q2,fun _=>rfl,q4,q5,q6,fun _=>trivial,q8,fun _=>trivial,fun _=>trivial⟩
   ·obtain rfl:=Option.some.inj ho
    clear hall ho
    refine wpOp_step rfl (fun K hK=>?_)
    go_simp
    exact hK _ _ ⟨_,_,_,_,_,_,_,_,_,_,_,rfl,hS,q0,q1,q2,q3,fun _=>rfl,q5,q6,fun _=>trivial,q8,fun _=>trivial,fun _=>trivial⟩
   ·obtain rfl:=Option.some.inj ho
    obtain rfl:=q4 (hall ⟨4,.data⟩ (by simp) rfl)
    have y0:v.cell? ⟨b5,0,none⟩=some (.int .i64 k):=hS.b5_.cell 0
    clear hall ho
    refine wpOp_step rfl (fun K hK=>?_)
    go_simp
    exact hK _ _ ⟨_,_,_,_,_,_,_,_,_,_,_,rfl,hS,q0,q1,q2,q3,fun _=>rfl,fun _=>rfl,q6,fun _=>trivial,q8,fun _=>trivial,fun _=>trivial⟩
   ·obtain rfl:=Option.some.inj ho
    obtain rfl:=q5 (hall ⟨5,.data⟩ (by simp) rfl)
    clear hall ho
    refine wpOp_step rfl (fun K hK=>?_)
    go_simp
    exact hK _ _ ⟨_,_,_,_,_,_,_,_,_,_,_,rfl,hS,q0,q1,q2,q3,q4,fun _=>rfl,fun _=>rfl,fun _=>trivial,q8,fun _=>trivial,fun _=>trivial⟩
   ·obtain rfl:=Option.some.inj ho
    obtain rfl:=q2 (hall ⟨2,.data⟩ (by simp) rfl)
    obtain rfl:=q3 (hall ⟨3,.data⟩ (by simp) rfl)
    obtain rfl:=q6 (hall ⟨6,.data⟩ (by simp) rfl)
    clear hall ho
    refine wpOp_step rfl (fun K hK=>?_)
    go_simp
    refine Calls.mono (l11DrawOn_c A n c g v hS.s (k != 0) L l1 l2 A1 A2 c1 c2 base hb hS.o1 hS.o2 hl1 hl2) ?_;rintro e w8 ⟨x,rfl,hS8,hg8⟩
    go_simp
    exact hK _ _ ⟨_,_,_,_,_,_,_,_,_,_,_,rfl,(hS.dr hnn hS8 hg8).s20 x,q0,q1,fun _=>rfl,fun _=>rfl,q4,q5,fun _=>rfl,fun _=>trivial,q8,fun _=>trivial,fun _=>trivial⟩
   ·obtain rfl:=Option.some.inj ho
    clear hall ho
    refine wpOp_step rfl (fun K hK=>?_)
    go_simp
    exact hK _ _ ⟨_,_,_,_,_,_,_,_,_,_,_,rfl,hS,q0,q1,q2,q3,q4,q5,q6,fun _=>trivial,fun _=>rfl,fun _=>trivial,fun _=>trivial⟩
   ·obtain rfl:=Option.some.inj ho
    obtain rfl:=q8 (hall ⟨8,.data⟩ (by simp) rfl)
    clear hall ho
    refine wpOp_step rfl (fun K hK=>?_)
    go_simp
    refine Calls.mono (l02Valid_c A n c g v hS.s) ?_;rintro e w8 ⟨x,y,rfl,_,_,hS8,hg8⟩
    go_simp
    exact hK _ _ ⟨_,_,_,_,_,_,_,_,_,_,_,rfl,(hS.dr hnn hS8 hg8).s22 x y,q0,q1,q2,q3,q4,q5,q6,fun _=>trivial,fun _=>rfl,fun _=>trivial,fun _=>trivial⟩
   ·obtain rfl:=Option.some.inj ho
    obtain rfl:=q1 (hall ⟨1,.data⟩ (by simp) rfl)
    have e7:fL 7=true:=hall ⟨7,.data⟩ (by simp) rfl
    have e9:fL 9=true:=hall ⟨9,.data⟩ (by simp) rfl
    obtain ⟨x,rfl⟩:=hS.l20 e7
    obtain ⟨y,z,rfl⟩:=hS.l22 e9
    clear hall ho
    refine wpOp_step rfl (fun K hK=>?_)
    go_simp
    exact hK _ _ ⟨_,_,_,_,_,_,_,_,_,_,_,rfl,hS.s23 x y z,q0,fun _=>rfl,q2,q3,q4,q5,q6,fun _=>trivial,q8,fun _=>trivial,fun _=>trivial⟩
  ·rintro fL bA v ⟨v13,v14,v15,v16,v17,v18,v19,v20,v21,v22,v23,rfl,hS,q0,q1,q2,q3,q4,q5,q6,q7,q8,q9,q10⟩ hall
   simp only [Act.put,List.setIfInBounds_toArray,List.set_cons_zero,List.set_cons_succ]
   obtain rfl:=q0 (hall 0 (by omega))
   obtain rfl:=q1 (hall 1 (by omega))
   obtain rfl:=q2 (hall 2 (by omega))
   obtain rfl:=q3 (hall 3 (by omega))
   obtain rfl:=q4 (hall 4 (by omega))
   obtain rfl:=q5 (hall 5 (by omega))
   obtain rfl:=q6 (hall 6 (by omega))
   have e7:fL 7=true:=hall 7 (by omega)
   obtain rfl:=q8 (hall 8 (by omega))
   have e9:fL 9=true:=hall 9 (by omega)
   have e10:fL 10=true:=hall 10 (by omega)
   clear hall
   simp only [List.drop_succ_cons,List.drop_zero]
   obtain ⟨x,y,z,rfl⟩:=hS.l23 e10
   have BN:=hS.bn
   have B5:=hS.b5_
   have hG:=hS.gr
   have hS:=hS.s
   have ye0:v.cell? ⟨b5,0,none⟩=some (.int .i64 k):=B5.cell 0
   have ye1:v.cell? ⟨b5,1,none⟩=some (.int .i64 0):=B5.cell 1
   have ye2:v.cell? ⟨b5,2,none⟩=some (.int .i64 0):=B5.cell 2
   have ye3:v.cell? ⟨b5,3,none⟩=some (.int .i64 0):=B5.cell 3
   have fe0:=B5.frozen 0
   have fe1:=B5.frozen 1
   have fe2:=B5.frozen 2
   have fe3:=B5.frozen 3
   have hz5:=B5.lt
   have hS7:Src ((((v.setCell ⟨b5,0,none⟩ (.int .i64 k)).setCell ⟨b5,1,none⟩ (.int .i64 x)).setCell ⟨b5,2,none⟩ (.int .i64 y)).setCell ⟨b5,3,none⟩ (.int .i64 z)) A n c g:=(by repeat (first | with_reducible exact hS | with_reducible refine Src.far ?_ (by first | omega | (simp only;omega))))
   have hG7:w.grownBy ((((v.setCell ⟨b5,0,none⟩ (.int .i64 k)).setCell ⟨b5,1,none⟩ (.int .i64 x)).setCell ⟨b5,2,none⟩ (.int .i64 y)).setCell ⟨b5,3,none⟩ (.int .i64 z)) (some g):=(by repeat (first | with_reducible exact hG | with_reducible refine grown_far ?_ (by first | (simp;done) | omega | (simp only;omega))))
   have BN7:Blk ((((v.setCell ⟨b5,0,none⟩ (.int .i64 k)).setCell ⟨b5,1,none⟩ (.int .i64 x)).setCell ⟨b5,2,none⟩ (.int .i64 y)).setCell ⟨b5,3,none⟩ (.int .i64 z)) (w.heap.size+1) 75 #[.int .i64 0,.int .i64 0,.int .i64 0,.int .i64 0]:=(by repeat (first | with_reducible exact BN | with_reducible refine Blk.far ?_ (by simp only;omega) _))
   have B57:Blk ((((v.setCell ⟨b5,0,none⟩ (.int .i64 k)).setCell ⟨b5,1,none⟩ (.int .i64 x)).setCell ⟨b5,2,none⟩ (.int .i64 y)).setCell ⟨b5,3,none⟩ (.int .i64 z)) b5 75 #[.int .i64 k,.int .i64 x,.int .i64 y,.int .i64 z]:=((((B5.set_ 0 _).set_ 1 _).set_ 2 _).set_ 3 _)
   go_wp2_with fail
   generalize ((((v.setCell ⟨b5,0,none⟩ (.int .i64 k)).setCell ⟨b5,1,none⟩ (.int .i64 x)).setCell ⟨b5,2,none⟩ (.int .i64 y)).setCell ⟨b5,3,none⟩ (.int .i64 z))=w6 at *
   clear hS hG BN B5 ye0 ye1 ye2 ye3 fe0 fe1 fe2 fe3
   have hS:=hS7
   have hG:=hG7
   have BN:=BN7
   have B5:=B57
   refine (l01Next_c A n c g _ _ hS).mono ?_;rintro e w7 ⟨q,rfl,_,_,hS,hg⟩
   have BN:=BN.src hg (by omega)
   have B5:=B5.src hg (by omega)
   have hG:=hG.trans hg
   clear hg
   by_cases q0:q=0
   ·subst q0
    go_wp2_with fail
    refine (l01Pick_n A n c g #[.int .i64 (-1),.int .i64 7,.int .i64 3] 3 3 _ hS (by intro v hv;simp only [List.mem_cons,List.not_mem_nil,or_false] at hv;rcases hv with rfl | rfl | rfl;all_goals exact ⟨_,rfl,by omega,by omega⟩) rfl (by decide) (by decide)).mono ?_;rintro e w8 ⟨p,rfl,_,hS,hg⟩
    have BN:=BN.src hg (by omega)
    have B5:=B5.src hg (by omega)
    have hG:=hG.trans hg
    clear hg
    have yc0:w8.cell? ⟨b5,0,none⟩=some (.int .i64 k):=B5.cell 0
    have yd0:w8.cell? ⟨w.heap.size+1,0,none⟩=some (.int .i64 0):=BN.cell 0
    have fc0:=B5.frozen 0
    have fd0:=BN.frozen 0
    have yc1:w8.cell? ⟨b5,1,none⟩=some (.int .i64 x):=B5.cell 1
    have yd1:w8.cell? ⟨w.heap.size+1,1,none⟩=some (.int .i64 0):=BN.cell 1
    have fc1:=B5.frozen 1
    have fd1:=BN.frozen 1
    have yc2:w8.cell? ⟨b5,2,none⟩=some (.int .i64 y):=B5.cell 2
    have yd2:w8.cell? ⟨w.heap.size+1,2,none⟩=some (.int .i64 0):=BN.cell 2
    have fc2:=B5.frozen 2
    have fd2:=BN.frozen 2
    have yc3:w8.cell? ⟨b5,3,none⟩=some (.int .i64 z):=B5.cell 3
    have yd3:w8.cell? ⟨w.heap.size+1,3,none⟩=some (.int .i64 0):=BN.cell 3
    have fc3:=B5.frozen 3
    have fd3:=BN.frozen 3
    have zb:=B5.lt
    have zn:=BN.lt
    go_wp2
    refine bodyPost_ret (v:=.agg #[.int .i64 p,.int .i64 x,.int .i64 y,.int .i64 z]) (by simp [results,Tryz.results93,go_sem,yd0,yd1,yd2,yd3]) rfl ⟨⟨p,x,y,z⟩,rfl,(by repeat (first | with_reducible exact hS | with_reducible refine Src.far ?_ (by first | omega | (simp only;omega)))),(by repeat (first | with_reducible exact hG | with_reducible refine grown_far ?_ (by first | (simp;done) | omega | (simp only;omega))))⟩
   ·have q0':(q == 0)=false:=by simpa using q0
    by_cases q1:q=1
    ·subst q1
     go_wp2_with fail
     refine (l02Draw_c A n c g _ hS).mono ?_;rintro e w8 ⟨a,b,rfl,_,_,hS,hg⟩
     have BN:=BN.src hg (by omega)
     have B5:=B5.src hg (by omega)
     have hG:=hG.trans hg
     clear hg
     have yc0:w8.cell? ⟨b5,0,none⟩=some (.int .i64 k):=B5.cell 0
     have yd0:w8.cell? ⟨w.heap.size+1,0,none⟩=some (.int .i64 0):=BN.cell 0
     have fc0:=B5.frozen 0
     have fd0:=BN.frozen 0
     have yc1:w8.cell? ⟨b5,1,none⟩=some (.int .i64 x):=B5.cell 1
     have yd1:w8.cell? ⟨w.heap.size+1,1,none⟩=some (.int .i64 0):=BN.cell 1
     have fc1:=B5.frozen 1
     have fd1:=BN.frozen 1
     have yc2:w8.cell? ⟨b5,2,none⟩=some (.int .i64 y):=B5.cell 2
     have yd2:w8.cell? ⟨w.heap.size+1,2,none⟩=some (.int .i64 0):=BN.cell 2
     have fc2:=B5.frozen 2
     have fd2:=BN.frozen 2
     have yc3:w8.cell? ⟨b5,3,none⟩=some (.int .i64 z):=B5.cell 3
     have yd3:w8.cell? ⟨w.heap.size+1,3,none⟩=some (.int .i64 0):=BN.cell 3
     have fc3:=B5.frozen 3
     have fd3:=BN.frozen 3
     have zb:=B5.lt
     have zn:=BN.lt
     go_wp2
     refine bodyPost_ret (v:=.agg #[.int .i64 k,.int .i64 x,.int .i64 a,.int .i64 b]) (by simp [results,Tryz.results93,go_sem,yd0,yd1,yd2,yd3]) rfl ⟨⟨k,x,a,b⟩,rfl,(by repeat (first | with_reducible exact hS | with_reducible refine Src.far ?_ (by first | omega | (simp only;omega)))),(by repeat (first | with_reducible exact hG | with_reducible refine grown_far ?_ (by first | (simp;done) | omega | (simp only;omega))))⟩
    ·have q1':(q == 1)=false:=by simpa using q1
     have yc0:w7.cell? ⟨b5,0,none⟩=some (.int .i64 k):=B5.cell 0
     have yd0:w7.cell? ⟨w.heap.size+1,0,none⟩=some (.int .i64 0):=BN.cell 0
     have fc0:=B5.frozen 0
     have fd0:=BN.frozen 0
     have yc1:w7.cell? ⟨b5,1,none⟩=some (.int .i64 x):=B5.cell 1
     have yd1:w7.cell? ⟨w.heap.size+1,1,none⟩=some (.int .i64 0):=BN.cell 1
     have fc1:=B5.frozen 1
     have fd1:=BN.frozen 1
     have yc2:w7.cell? ⟨b5,2,none⟩=some (.int .i64 y):=B5.cell 2
     have yd2:w7.cell? ⟨w.heap.size+1,2,none⟩=some (.int .i64 0):=BN.cell 2
     have fc2:=B5.frozen 2
     have fd2:=BN.frozen 2
     have yc3:w7.cell? ⟨b5,3,none⟩=some (.int .i64 z):=B5.cell 3
     have yd3:w7.cell? ⟨w.heap.size+1,3,none⟩=some (.int .i64 0):=BN.cell 3
     have fc3:=B5.frozen 3
     have fd3:=BN.frozen 3
     have zb:=B5.lt
     have zn:=BN.lt
     go_wp2
     refine bodyPost_ret (v:=.agg #[.int .i64 k,.int .i64 x,.int .i64 y,.int .i64 z]) (by simp [results,Tryz.results93,go_sem,yd0,yd1,yd2,yd3]) rfl ⟨⟨k,x,y,z⟩,rfl,(by repeat (first | with_reducible exact hS | with_reducible refine Src.far ?_ (by first | omega | (simp only;omega)))),(by repeat (first | with_reducible exact hG | with_reducible refine grown_far ?_ (by first | (simp;done) | omega | (simp only;omega))))⟩
 ·have hkd:decide (k ≤ 2)=false:=decide_eq_false hk
  have hk2:2 < k:=by omega
  go_wp2_with fail
  generalize w1.alloc (.cells #[.int .i64 k,.int .i64 0,.int .i64 0,.int .i64 0] 75)=w2 at *
  generalize w1.heap.size=b5 at *
  have hne:b5 ≠ w.heap.size+1:=by omega
  refine (l01Next_c A n c g _ _ hS).mono ?_;rintro e w7 ⟨q,rfl,_,_,hS,hg⟩
  have BN:=BN.src hg (by omega)
  have B5:=B5.src hg (by omega)
  have hG:=hG.trans hg
  clear hg
  by_cases q0:q=0
  ·subst q0
   go_wp2_with fail
   refine (l01Pick_n A n c g #[.int .i64 (-1),.int .i64 7,.int .i64 3] 3 3 _ hS (by intro v hv;simp only [List.mem_cons,List.not_mem_nil,or_false] at hv;rcases hv with rfl | rfl | rfl;all_goals exact ⟨_,rfl,by omega,by omega⟩) rfl (by decide) (by decide)).mono ?_;rintro e w8 ⟨p,rfl,_,hS,hg⟩
   have BN:=BN.src hg (by omega)
   have B5:=B5.src hg (by omega)
   have hG:=hG.trans hg
   clear hg
   have yc0:w8.cell? ⟨b5,0,none⟩=some (.int .i64 k):=B5.cell 0
   have yd0:w8.cell? ⟨w.heap.size+1,0,none⟩=some (.int .i64 0):=BN.cell 0
   have fc0:=B5.frozen 0
   have fd0:=BN.frozen 0
   have yc1:w8.cell? ⟨b5,1,none⟩=some (.int .i64 0):=B5.cell 1
   have yd1:w8.cell? ⟨w.heap.size+1,1,none⟩=some (.int .i64 0):=BN.cell 1
   have fc1:=B5.frozen 1
   have fd1:=BN.frozen 1
   have yc2:w8.cell? ⟨b5,2,none⟩=some (.int .i64 0):=B5.cell 2
   have yd2:w8.cell? ⟨w.heap.size+1,2,none⟩=some (.int .i64 0):=BN.cell 2
   have fc2:=B5.frozen 2
   have fd2:=BN.frozen 2
   have yc3:w8.cell? ⟨b5,3,none⟩=some (.int .i64 0):=B5.cell 3
   have yd3:w8.cell? ⟨w.heap.size+1,3,none⟩=some (.int .i64 0):=BN.cell 3
   have fc3:=B5.frozen 3
   have fd3:=BN.frozen 3
   have zb:=B5.lt
   have zn:=BN.lt
   go_wp2
   refine bodyPost_ret (v:=.agg #[.int .i64 p,.int .i64 0,.int .i64 0,.int .i64 0]) (by simp [results,Tryz.results93,go_sem,yd0,yd1,yd2,yd3]) rfl ⟨⟨p,0,0,0⟩,rfl,(by repeat (first | with_reducible exact hS | with_reducible refine Src.far ?_ (by first | omega | (simp only;omega)))),(by repeat (first | with_reducible exact hG | with_reducible refine grown_far ?_ (by first | (simp;done) | omega | (simp only;omega))))⟩
  ·have q0':(q == 0)=false:=by simpa using q0
   by_cases q1:q=1
   ·subst q1
    go_wp2_with fail
    refine (l02Draw_c A n c g _ hS).mono ?_;rintro e w8 ⟨a,b,rfl,_,_,hS,hg⟩
    have BN:=BN.src hg (by omega)
    have B5:=B5.src hg (by omega)
    have hG:=hG.trans hg
    clear hg
    have yc0:w8.cell? ⟨b5,0,none⟩=some (.int .i64 k):=B5.cell 0
    have yd0:w8.cell? ⟨w.heap.size+1,0,none⟩=some (.int .i64 0):=BN.cell 0
    have fc0:=B5.frozen 0
    have fd0:=BN.frozen 0
    have yc1:w8.cell? ⟨b5,1,none⟩=some (.int .i64 0):=B5.cell 1
    have yd1:w8.cell? ⟨w.heap.size+1,1,none⟩=some (.int .i64 0):=BN.cell 1
    have fc1:=B5.frozen 1
    have fd1:=BN.frozen 1
    have yc2:w8.cell? ⟨b5,2,none⟩=some (.int .i64 0):=B5.cell 2
    have yd2:w8.cell? ⟨w.heap.size+1,2,none⟩=some (.int .i64 0):=BN.cell 2
    have fc2:=B5.frozen 2
    have fd2:=BN.frozen 2
    have yc3:w8.cell? ⟨b5,3,none⟩=some (.int .i64 0):=B5.cell 3
    have yd3:w8.cell? ⟨w.heap.size+1,3,none⟩=some (.int .i64 0):=BN.cell 3
    have fc3:=B5.frozen 3
    have fd3:=BN.frozen 3
    have zb:=B5.lt
    have zn:=BN.lt
    go_wp2
    refine bodyPost_ret (v:=.agg #[.int .i64 k,.int .i64 0,.int .i64 a,.int .i64 b]) (by simp [results,Tryz.results93,go_sem,yd0,yd1,yd2,yd3]) rfl ⟨⟨k,0,a,b⟩,rfl,(by repeat (first | with_reducible exact hS | with_reducible refine Src.far ?_ (by first | omega | (simp only;omega)))),(by repeat (first | with_reducible exact hG | with_reducible refine grown_far ?_ (by first | (simp;done) | omega | (simp only;omega))))⟩
   ·have q1':(q == 1)=false:=by simpa using q1
    have yc0:w7.cell? ⟨b5,0,none⟩=some (.int .i64 k):=B5.cell 0
    have yd0:w7.cell? ⟨w.heap.size+1,0,none⟩=some (.int .i64 0):=BN.cell 0
    have fc0:=B5.frozen 0
    have fd0:=BN.frozen 0
    have yc1:w7.cell? ⟨b5,1,none⟩=some (.int .i64 0):=B5.cell 1
    have yd1:w7.cell? ⟨w.heap.size+1,1,none⟩=some (.int .i64 0):=BN.cell 1
    have fc1:=B5.frozen 1
    have fd1:=BN.frozen 1
    have yc2:w7.cell? ⟨b5,2,none⟩=some (.int .i64 0):=B5.cell 2
    have yd2:w7.cell? ⟨w.heap.size+1,2,none⟩=some (.int .i64 0):=BN.cell 2
    have fc2:=B5.frozen 2
    have fd2:=BN.frozen 2
    have yc3:w7.cell? ⟨b5,3,none⟩=some (.int .i64 0):=B5.cell 3
    have yd3:w7.cell? ⟨w.heap.size+1,3,none⟩=some (.int .i64 0):=BN.cell 3
    have fc3:=B5.frozen 3
    have fd3:=BN.frozen 3
    have zb:=B5.lt
    have zn:=BN.lt
    go_wp2
    refine bodyPost_ret (v:=.agg #[.int .i64 k,.int .i64 0,.int .i64 0,.int .i64 0]) (by simp [results,Tryz.results93,go_sem,yd0,yd1,yd2,yd3]) rfl ⟨⟨k,0,0,0⟩,rfl,(by repeat (first | with_reducible exact hS | with_reducible refine Src.far ?_ (by first | omega | (simp only;omega)))),(by repeat (first | with_reducible exact hG | with_reducible refine grown_far ?_ (by first | (simp;done) | omega | (simp only;omega))))⟩
end Go.Proofs.YtednjmldjbndhaaGreat
