/- The reference's draw of an exercise and one answer. Condition: the code has at most 4096 bytes. -/
import Derived.Test.YtednjmldjbndhaaGreatKGr25
import Derived.Test.YtednjmldjbndhaaGreatKGr26
set_option linter.unusedSimpArgs false
set_option linter.unusedVariables false
set_option maxRecDepth 100000
set_option maxHeartbeats 8000000
namespace Go.Proofs.YtednjmldjbndhaaGreat
open Go.RowKit
def DGr (w:World) (e:Ending) (w':World):Prop:=∃ (L:Int) (l1 l2:List Int) (l3:List Term) (A1 A2 A3:Option Addr) (c1 c2 c3:Nat) (p q r:Int) (A':Option Addr) (c':Nat) (l:List Move) (a b:Int),e=.returned (.tuple #[.agg #[.int .i64 L,.slice A1 l1.length c1,.slice A2 l2.length c2,.slice A3 l3.length c3,.int .i64 p,.int .i64 q,.int .i64 r],.agg #[.slice A' l.length c',.int .i64 a,.int .i64 b]]) ∧
 ExIn w' A1 c1 l1 A2 c2 l2 A3 c3 l3∧AnIn w' A' c' l∧l.length ≤ 100∧Below w.heap.size w w'
theorem Bytes.kb {bad:Nat→Prop} {v v':World} {A:Option Addr} {n B:Nat} (hy:Bytes v A n B) (hk:Kb bad v v') (hl:B ≤ v.heap.size) (hB:∀ k,k < B→¬ bad k):Bytes v' A n B:=hy.keep fun p hp=>World.cell?_of_block (hk.block p.block (by omega) (hB _ hp))
theorem Src.kb {bad:Nat→Prop} {v v':World} {A:Option Addr} {n c g B:Nat} (h:Src v A n c g) (hy:Bytes v A n B) (hk:Kb bad v v') (hB:∀ k,k < B→¬ bad k) (hg:¬ bad g) (hBg:B ≤ g):Src v' A n c g:=by
 have hlt:=h.lt
 obtain ⟨⟨_,h2⟩,a,s,hb,ha,hs⟩:=h
 exact ⟨⟨(hy.kb hk (by omega) hB).more hBg,h2⟩,a,s,(hk.block g hlt hg).trans hb,ha,hs⟩
theorem kb_store {bad:Nat→Prop} {w v:World} {g j:Nat} {u:Value} (h:Kb bad w v) (hg:bad g):Kb bad w (v.setCell ⟨g,j,none⟩ u) :=
 ⟨h.os,h.tape,h.output,by simpa using h.size,fun k hk hn=>(Below.heap_setCell v ⟨g,j,none⟩ u k (fun e=>hn (e ▸ hg))).trans (h.block k hk hn)⟩
theorem MvN.kb {bad:Nat→Prop} {w w':World} {lo:Nat} {A:Option Addr} {l:List Move} (h:MvN w lo A l) (hk:Kb bad w w') (hn:∀ k,lo ≤ k→¬ bad k):MvN w' lo A l:=h.keep_ hk.size fun b hlt hlb=>hk.block b hlt (hn b hlb)
structure GdS (A:Option Addr) (n c g z0 base bx:Nat) (w:World) (X:Array Value) (u1 u2 u3:Value) (r1 r2 r3:List (List Value)) (b13 bR bT:Bool) (v13:Value) (v:World):Prop where
 s:Src v A n c g
 y:Bytes v A n z0
 hb:Below z0 w v
 gg:g=z0+1+1∧g < base∧g < bx
 zl:z0 ≤ v.heap.size∧base ≤ v.heap.size
 o1:Own v base 2 1 u1 r1
 o2:Own v base 2 1 u2 r2
 o3:Own v base 100 3 u3 r3
 bx_:Blk v bx 31 X
 rF:bR=false→Blk v z0 31 #[.int .i64 0,.slice none 0 0,.slice none 0 0,.slice none 0 0,.int .i64 0,.int .i64 0,.int .i64 0]
 rT:bR=true→Blk v z0 31 X
 aF:bT=false→Blk v (z0+1) 53 #[.slice none 0 0,.int .i64 0,.int .i64 0]
 aT:bT=true→∃ (l:List Move) (A':Option Addr) (c':Nat) (a b:Int),Blk v (z0+1) 53 #[.slice A' l.length c',.int .i64 a,.int .i64 b]∧(l.length ≤ 100∧l.length ≤ c')∧MvN v base A' l
 l13:b13=true→∃ (l:List Move) (A':Option Addr) (c':Nat) (a b:Int),v13=.agg #[.slice A' l.length c',.int .i64 a,.int .i64 b]∧(l.length ≤ 100∧l.length ≤ c')∧MvN v base A' l
section
variable {A : Option Addr} {n c g z0 base bx : Nat} {w v v' : World} {X : Array Value} {u1 u2 u3 : Value} {r1 r2 r3 : List (List Value)} {b13 bR bT : Bool} {v13 : Value}
theorem GdS.kb {bad:Nat→Prop} {bR' bT':Bool} (h:GdS A n c g z0 base bx w X u1 u2 u3 r1 r2 r3 b13 bR bT v13 v) (hk:Kb bad v v') (hs:Src v' A n c g) (hn:∀ k,bad k→k=z0 ∨ k=z0+1 ∨ k=g)
  (hR:bR'=false→Blk v' z0 31 #[.int .i64 0,.slice none 0 0,.slice none 0 0,.slice none 0 0,.int .i64 0,.int .i64 0,.int .i64 0]) (hR':bR'=true→Blk v' z0 31 X) (hT:bT'=false→Blk v' (z0+1) 53 #[.slice none 0 0,.int .i64 0,.int .i64 0])
  (hT':bT'=true→∃ (l:List Move) (A':Option Addr) (c':Nat) (a b:Int),Blk v' (z0+1) 53 #[.slice A' l.length c',.int .i64 a,.int .i64 b]∧(l.length ≤ 100∧l.length ≤ c')∧MvN v base A' l):GdS A n c g z0 base bx w X u1 u2 u3 r1 r2 r3 b13 bR' bT' v13 v':=by
 have gg:=h.gg
 have zl:=h.zl
 have hsz:=hk.size
 have nb:∀ k,k < z0→¬ bad k:=fun k hk' hb=>by have:=hn k hb;omega
 have nl:∀ k,base ≤ k→¬ bad k:=fun k hk' hb=>by have:=hn k hb;omega
 refine ⟨hs,h.y.kb hk zl.1 nb,below_kb h.hb hk zl.1 nb,gg,by omega,h.o1.kb hk fun x hx=>nl x (h.o1.ownGe x hx),h.o2.kb hk fun x hx=>nl x (h.o2.ownGe x hx),h.o3.kb hk fun x hx=>nl x (h.o3.ownGe x hx),h.bx_.kb hk fun hb=>by have:=hn bx hb;omega,hR,hR',hT,?_,?_⟩
 ·intro e
  obtain ⟨l,A',c',a,b,k1,k2,k3⟩:=hT' e
  exact ⟨l,A',c',a,b,k1,k2,k3.kb hk nl⟩
 ·intro e
  obtain ⟨l,A',c',a,b,k1,k2,k3⟩:=h.l13 e
  exact ⟨l,A',c',a,b,k1,k2,k3.kb hk nl⟩
theorem GdS.dr (h:GdS A n c g z0 base bx w X u1 u2 u3 r1 r2 r3 b13 bR bT v13 v) (hS:Src v' A n c g) (hg:v.grownBy v' (some g)):GdS A n c g z0 base bx w X u1 u2 u3 r1 r2 r3 b13 bR bT v13 v':=by
 have gg:=h.gg
 have hk:Kb (fun k=>k=g) v v':=Kb.of_grown hg fun k e=>by cases e;rfl
 exact h.kb hk hS (fun k e=>.inr (.inr e)) (fun e=>(h.rF e).kb hk (by omega)) (fun e=>(h.rT e).kb hk (by omega)) (fun e=>(h.aF e).kb hk (by omega)) (fun e=>let ⟨l,A',c',a,b,k1,k2,k3⟩:=h.aT e;⟨l,A',c',a,b,k1.kb hk (by omega),k2,k3⟩)
theorem GdS.drew (h:GdS A n c g z0 base bx w X u1 u2 u3 r1 r2 r3 b13 bR bT v13 v):GdS A n c g z0 base bx w X u1 u2 u3 r1 r2 r3 b13 bR bT v13 v.drew:=by
 have hk:Kb (fun _=>False) v v.drew:=⟨rfl,rfl,rfl,Nat.le_refl _,fun _ _ _=>rfl⟩
 exact h.kb hk (h.s.keep fun _ _=>rfl) (fun _ e=>e.elim) (fun e=>(h.rF e).kb hk id) (fun e=>(h.rT e).kb hk id) (fun e=>(h.aF e).kb hk id) (fun e=>let ⟨l,A',c',a,b,k1,k2,k3⟩:=h.aT e;⟨l,A',c',a,b,k1.kb hk id,k2,k3⟩)
theorem GdS.sR {x0 x1 x2 x3 x4 x5 x6:Value} (h:GdS A n c g z0 base bx w #[x0,x1,x2,x3,x4,x5,x6] u1 u2 u3 r1 r2 r3 b13 bR bT v13 v) (hf:bR=false):GdS A n c g z0 base bx w #[x0,x1,x2,x3,x4,x5,x6] u1 u2 u3 r1 r2 r3 b13 true bT v13 (((((((v.setCell ⟨z0,0,none⟩ x0).setCell ⟨z0,1,none⟩ x1).setCell ⟨z0,2,none⟩ x2).setCell ⟨z0,3,none⟩ x3).setCell ⟨z0,4,none⟩ x4).setCell ⟨z0,5,none⟩ x5).setCell ⟨z0,6,none⟩ x6):=by
 have gg:=h.gg
 have B:=h.rF hf
 have hk:Kb (fun k=>k=z0) v (((((((v.setCell ⟨z0,0,none⟩ x0).setCell ⟨z0,1,none⟩ x1).setCell ⟨z0,2,none⟩ x2).setCell ⟨z0,3,none⟩ x3).setCell ⟨z0,4,none⟩ x4).setCell ⟨z0,5,none⟩ x5).setCell ⟨z0,6,none⟩ x6):=kb_store (kb_store (kb_store (kb_store (kb_store (kb_store (kb_store (Kb.of_below (Below.refl _ _)) rfl) rfl) rfl) rfl) rfl) rfl) rfl
 have B':=((((((B.set_ 0 x0).set_ 1 x1).set_ 2 x2).set_ 3 x3).set_ 4 x4).set_ 5 x5).set_ 6 x6
 exact h.kb hk (h.s.kb h.y hk (fun k hk' e=>by omega) (by omega) (by omega)) (fun k e=>.inl e) nofun (fun _=>B') (fun e=>(h.aF e).kb hk (by omega)) (fun e=>let ⟨l,A',c',a,b,k1,k2,k3⟩:=h.aT e;⟨l,A',c',a,b,k1.kb hk (by omega),k2,k3⟩)
theorem GdS.sT {l:List Move} {A1:Option Addr} {c1:Nat} {a b:Int} (h:GdS A n c g z0 base bx w X u1 u2 u3 r1 r2 r3 b13 bR bT v13 v) (hf:bT=false) (hl:l.length ≤ 100∧l.length ≤ c1) (hM:MvN v base A1 l):GdS A n c g z0 base bx w X u1 u2 u3 r1 r2 r3 b13 bR true v13 (((v.setCell ⟨z0+1,0,none⟩ (.slice A1 l.length c1)).setCell ⟨z0+1,1,none⟩ (.int .i64 a)).setCell ⟨z0+1,2,none⟩ (.int .i64 b)):=by
 have gg:=h.gg
 have B:=h.aF hf
 have hk:Kb (fun k=>k=z0+1) v (((v.setCell ⟨z0+1,0,none⟩ (.slice A1 l.length c1)).setCell ⟨z0+1,1,none⟩ (.int .i64 a)).setCell ⟨z0+1,2,none⟩ (.int .i64 b)):=kb_store (kb_store (kb_store (Kb.of_below (Below.refl _ _)) rfl) rfl) rfl
 have B':=((B.set_ 0 (.slice A1 l.length c1)).set_ 1 (.int .i64 a)).set_ 2 (.int .i64 b)
 exact h.kb hk (h.s.kb h.y hk (fun k hk' e=>by omega) (by omega) (by omega)) (fun k e=>.inr (.inl e)) (fun e=>(h.rF e).kb hk (by omega)) (fun e=>(h.rT e).kb hk (by omega)) nofun (fun _=>⟨l,A1,c1,a,b,B',hl,hM⟩)
end
theorem drawGradeOf_c (A:Option Addr) (n c:Nat) (w:World) (hn:n ≤ 4096) (hb:Bytes w A n w.heap.size):Calls Tryz.prog 29 #[.slice A n c] w (DGr w):=by
 have hF:=Lib.hid (l01From_c A n c ((w.alloc (.cells #[.int .i64 0,.slice none 0 0,.slice none 0 0,.slice none 0 0,.int .i64 0,.int .i64 0,.int .i64 0] 31)).alloc (.cells #[.slice none 0 0,.int .i64 0,.int .i64 0] 53)) hn ((hb.keep fun p hp=>(World.cell?_alloc_lt _ _ p (by simp;omega)).trans (World.cell?_alloc_lt w _ p hp)).more (by simp;omega)))
 have BR:=(Blk.new w 31 #[.int .i64 0,.slice none 0 0,.slice none 0 0,.slice none 0 0,.int .i64 0,.int .i64 0,.int .i64 0]).alloc (.cells #[.slice none 0 0,.int .i64 0,.int .i64 0] 53)
 have BE:=Blk.new' (w.alloc (.cells #[.int .i64 0,.slice none 0 0,.slice none 0 0,.slice none 0 0,.int .i64 0,.int .i64 0,.int .i64 0] 31)) 53 #[.slice none 0 0,.int .i64 0,.int .i64 0] (g:=w.heap.size+1) (by simp)
 have hB0:Below w.heap.size w ((w.alloc (.cells #[.int .i64 0,.slice none 0 0,.slice none 0 0,.slice none 0 0,.int .i64 0,.int .i64 0,.int .i64 0] 31)).alloc (.cells #[.slice none 0 0,.int .i64 0,.int .i64 0] 53)):=(by repeat first | with_reducible (first | exact Below.refl _ _ | apply below_drewN' | apply Below.drew | refine Below.alloc ?_ ?_ _ | refine Below.setCell ?_ ?_ _) | exact Below.refl _ _ | omega | (simp <;> omega) | (have:=(Below.refl _ _).size;first | omega | (simp <;> omega)))
 have hz9:((w.alloc (.cells #[.int .i64 0,.slice none 0 0,.slice none 0 0,.slice none 0 0,.int .i64 0,.int .i64 0,.int .i64 0] 31)).alloc (.cells #[.slice none 0 0,.int .i64 0,.int .i64 0] 53)).heap.size=w.heap.size+1+1:=by simp
 have hb0:=Lib.hid hb
 clear hb
 unfold DGr
 go_enter Tryz.func29,Tryz.ntmps29
 go_wp2_with fail
 generalize (w.alloc (.cells #[.int .i64 0,.slice none 0 0,.slice none 0 0,.slice none 0 0,.int .i64 0,.int .i64 0,.int .i64 0] 31)).alloc (.cells #[.slice none 0 0,.int .i64 0,.int .i64 0] 53)=w0 at *
 refine hF.out.mono ?_;rintro e w1 ⟨rfl,hS,hb1⟩
 have BR:=BR.below hb1 BR.lt
 have BE:=BE.below hb1 BE.lt
 have hB:=hB0.trans (hb1.mono hB0.size)
 clear hF hb1 hB0
 rw [hz9] at hS
 go_wp2_with fail
 generalize hgw:w.heap.size+1+1=g at *
 have hgl:g < w1.heap.size:=hS.lt
 refine (l31Draw_c A n c g _ hS).mono ?_;rintro e w2 ⟨L,l1,l2,l3,A1,A2,A3,c1,c2,c3,p,q,r,rfl,hll,hO1,hO2,hO3,hS,hg⟩
 have BR:=(BR.src hg (by omega)).alloc (.cells #[.int .i64 L,.slice A1 l1.length c1,.slice A2 l2.length c2,.slice A3 l3.length c3,.int .i64 p,.int .i64 q,.int .i64 r] 31)
 have BE:=(BE.src hg (by omega)).alloc (.cells #[.int .i64 L,.slice A1 l1.length c1,.slice A2 l2.length c2,.slice A3 l3.length c3,.int .i64 p,.int .i64 q,.int .i64 r] 31)
 have hsz:=hg.size
 have hB:=(below_src hB hg hB.size (by omega)).alloc (by omega) (.cells #[.int .i64 L,.slice A1 l1.length c1,.slice A2 l2.length c2,.slice A3 l3.length c3,.int .i64 p,.int .i64 q,.int .i64 r] 31)
 have BX:=Blk.new w2 31 #[.int .i64 L,.slice A1 l1.length c1,.slice A2 l2.length c2,.slice A3 l3.length c3,.int .i64 p,.int .i64 q,.int .i64 r]
 have hO1:=hO1.alloc (.cells #[.int .i64 L,.slice A1 l1.length c1,.slice A2 l2.length c2,.slice A3 l3.length c3,.int .i64 p,.int .i64 q,.int .i64 r] 31)
 have hO2:=hO2.alloc (.cells #[.int .i64 L,.slice A1 l1.length c1,.slice A2 l2.length c2,.slice A3 l3.length c3,.int .i64 p,.int .i64 q,.int .i64 r] 31)
 have hO3:=hO3.alloc (.cells #[.int .i64 L,.slice A1 l1.length c1,.slice A2 l2.length c2,.slice A3 l3.length c3,.int .i64 p,.int .i64 q,.int .i64 r] 31)
 have hS:=hS.alloc (.cells #[.int .i64 L,.slice A1 l1.length c1,.slice A2 l2.length c2,.slice A3 l3.length c3,.int .i64 p,.int .i64 q,.int .i64 r] 31)
 have hgb7:g < w2.heap.size:=by omega
 have hz4:w2.heap.size+1=(w2.alloc (.cells #[.int .i64 L,.slice A1 l1.length c1,.slice A2 l2.length c2,.slice A3 l3.length c3,.int .i64 p,.int .i64 q,.int .i64 r] 31)).heap.size:=by simp
 clear hg
 go_wp2_with fail
 generalize w2.alloc (.cells #[.int .i64 L,.slice A1 l1.length c1,.slice A2 l2.length c2,.slice A3 l3.length c3,.int .i64 p,.int .i64 q,.int .i64 r] 31)=w4 at *
 generalize hb7:w2.heap.size=b7 at *
 have HY:Bytes w4 A n w.heap.size:=hb0.out.keep fun p hp=>World.cell?_of_block (hB.block p.block hp)
 have hM0:∀ a1:Value,GdS A n c g w.heap.size w1.heap.size b7 w #[.int .i64 L,.slice A1 l1.length c1,.slice A2 l2.length c2,.slice A3 l3.length c3,.int .i64 p,.int .i64 q,.int .i64 r] (.slice A1 l1.length c1) (.slice A2 l2.length c2) (.slice A3 l3.length c3) (l1.map ic) (l2.map ic) (l3.map Term.cells) false false false a1 w4:=fun a1=>⟨hS,HY,hB,by omega,by omega,hO1,hO2,hO3,BX,fun _=>BR,nofun,fun _=>BE,nofun,nofun⟩
 refine wp_region_all (fun a0 fL bA v=>∃ v10 v11 v12 v13:Value,bA=(((a0.put (some 10) v10).put (some 11) v11).put (some 12) v12).put (some 13) v13∧(GdS A n c g w.heap.size w1.heap.size b7 w #[.int .i64 L,.slice A1 l1.length c1,.slice A2 l2.length c2,.slice A3 l3.length c3,.int .i64 p,.int .i64 q,.int .i64 r] (.slice A1 l1.length c1) (.slice A2 l2.length c2) (.slice A3 l3.length c3) (l1.map ic) (l2.map ic) (l3.map Term.cells) (fL 3) (fL 4) (fL 5) v13 v)∧(fL 0=true→v10=.agg #[.int .i64 L,.slice A1 l1.length c1,.slice A2 l2.length c2,.slice A3 l3.length c3,.int .i64 p,.int .i64 q,.int .i64 r])∧(fL 1=true→v11=.pointer (some ⟨g,0,none⟩))∧(fL 2=true→v12=.agg #[.int .i64 L,.slice A1 l1.length c1,.slice A2 l2.length c2,.slice A3 l3.length c3,.int .i64 p,.int .i64 q,.int .i64 r])∧(fL 3=true→True)) (by kernel_rfl) (by decide +kernel) ?_ ?_ ?_
 ·exact ⟨_,_,_,_,put_more (put_more (put_more (put_more (rfl) 10) 11) 12) 13,(hM0 _).drew,nofun,nofun,nofun,nofun⟩
 ·rintro fL bA v ⟨v10,v11,v12,v13,rfl,hS,q0,q1,q2,q3⟩ i hi hf o ho hall
  simp only [Act.put,List.setIfInBounds_toArray,List.set_cons_zero,List.set_cons_succ]
  simp only [List.length_cons,List.length_nil] at hi
  have hn:i=0 ∨ i=1 ∨ i=2 ∨ i=3 ∨ i=4 ∨ i=5:=by omega
  clear hi
  rcases hn with rfl | rfl | rfl | rfl | rfl | rfl
  ·obtain rfl:=Option.some.inj ho
   have y0:v.cell? ⟨b7,0,none⟩=some (.int .i64 L):=hS.bx_.cell 0
   have y1:v.cell? ⟨b7,1,none⟩=some (.slice A1 l1.length c1):=hS.bx_.cell 1
   have y2:v.cell? ⟨b7,2,none⟩=some (.slice A2 l2.length c2):=hS.bx_.cell 2
   have y3:v.cell? ⟨b7,3,none⟩=some (.slice A3 l3.length c3):=hS.bx_.cell 3
   have y4:v.cell? ⟨b7,4,none⟩=some (.int .i64 p):=hS.bx_.cell 4
   have y5:v.cell? ⟨b7,5,none⟩=some (.int .i64 q):=hS.bx_.cell 5
   have y6:v.cell? ⟨b7,6,none⟩=some (.int .i64 r):=hS.bx_.cell 6
   clear hall ho
   refine wpOp_step rfl (fun K hK=>?_)
   go_simp
   exact hK _ _ ⟨_,_,_,_,rfl,hS,fun _=>rfl,q1,q2,fun _=>trivial⟩
  ·obtain rfl:=Option.some.inj ho
   clear hall ho
   refine wpOp_step rfl (fun K hK=>?_)
   go_simp
   exact hK _ _ ⟨_,_,_,_,rfl,hS,q0,fun _=>rfl,q2,fun _=>trivial⟩
  ·obtain rfl:=Option.some.inj ho
   have y0:v.cell? ⟨b7,0,none⟩=some (.int .i64 L):=hS.bx_.cell 0
   have y1:v.cell? ⟨b7,1,none⟩=some (.slice A1 l1.length c1):=hS.bx_.cell 1
   have y2:v.cell? ⟨b7,2,none⟩=some (.slice A2 l2.length c2):=hS.bx_.cell 2
   have y3:v.cell? ⟨b7,3,none⟩=some (.slice A3 l3.length c3):=hS.bx_.cell 3
   have y4:v.cell? ⟨b7,4,none⟩=some (.int .i64 p):=hS.bx_.cell 4
   have y5:v.cell? ⟨b7,5,none⟩=some (.int .i64 q):=hS.bx_.cell 5
   have y6:v.cell? ⟨b7,6,none⟩=some (.int .i64 r):=hS.bx_.cell 6
   clear hall ho
   refine wpOp_step rfl (fun K hK=>?_)
   go_simp
   exact hK _ _ ⟨_,_,_,_,rfl,hS,q0,q1,fun _=>rfl,fun _=>trivial⟩
  ·obtain rfl:=Option.some.inj ho
   obtain rfl:=q1 (hall ⟨1,.data⟩ (by simp) rfl)
   obtain rfl:=q2 (hall ⟨2,.data⟩ (by simp) rfl)
   clear hall ho
   refine wpOp_step rfl (fun K hK=>?_)
   go_simp
   refine Calls.mono (l31DrawAnswer_c A n c g v hS.s L l1 l2 l3 A1 A2 A3 c1 c2 c3 w1.heap.size p q r hgl hS.o1 hS.o2 hS.o3 hll.1 hll.2.1 hll.2.2) ?_;rintro e w9 ⟨ml,A9,c9,fa,fb,rfl,hml,hM9,hS9,hg9⟩
   go_simp
   have ha:=hS.dr hS9 hg9
   exact hK _ _ ⟨_,_,_,_,rfl,{ ha with l13:=fun _=>⟨ml,A9,c9,fa,fb,rfl,hml,hM9.weak hS.zl.2⟩ },q0,fun _=>rfl,fun _=>rfl,fun _=>trivial⟩
  ·obtain rfl:=Option.some.inj ho
   obtain rfl:=q0 (hall ⟨0,.data⟩ (by simp) rfl)
   have B:=hS.rF hf
   have y0:v.cell? ⟨w.heap.size,0,none⟩=some (.int .i64 0):=B.cell 0
   have yf0:=B.frozen 0
   have y1:v.cell? ⟨w.heap.size,1,none⟩=some (.slice none 0 0):=B.cell 1
   have yf1:=B.frozen 1
   have y2:v.cell? ⟨w.heap.size,2,none⟩=some (.slice none 0 0):=B.cell 2
   have yf2:=B.frozen 2
   have y3:v.cell? ⟨w.heap.size,3,none⟩=some (.slice none 0 0):=B.cell 3
   have yf3:=B.frozen 3
   have y4:v.cell? ⟨w.heap.size,4,none⟩=some (.int .i64 0):=B.cell 4
   have yf4:=B.frozen 4
   have y5:v.cell? ⟨w.heap.size,5,none⟩=some (.int .i64 0):=B.cell 5
   have yf5:=B.frozen 5
   have y6:v.cell? ⟨w.heap.size,6,none⟩=some (.int .i64 0):=B.cell 6
   have yf6:=B.frozen 6
   have yl:=B.lt
   clear hall ho
   refine wpOp_step rfl (fun K hK=>?_)
   go_simp
   exact hK _ _ ⟨_,_,_,_,rfl,hS.sR hf,fun _=>rfl,q1,q2,fun _=>trivial⟩
  ·obtain rfl:=Option.some.inj ho
   have e3:fL 3=true:=hall ⟨3,.data⟩ (by simp) rfl
   obtain ⟨ml,A9,c9,fa,fb,rfl,hml,hM9⟩:=hS.l13 e3
   have B:=hS.aF hf
   have y0:v.cell? ⟨w.heap.size+1,0,none⟩=some (.slice none 0 0):=B.cell 0
   have yf0:=B.frozen 0
   have y1:v.cell? ⟨w.heap.size+1,1,none⟩=some (.int .i64 0):=B.cell 1
   have yf1:=B.frozen 1
   have y2:v.cell? ⟨w.heap.size+1,2,none⟩=some (.int .i64 0):=B.cell 2
   have yf2:=B.frozen 2
   have yl:=B.lt
   clear hall ho
   refine wpOp_step rfl (fun K hK=>?_)
   go_simp
   exact hK _ _ ⟨_,_,_,_,rfl,hS.sT hf hml hM9,q0,q1,q2,fun _=>trivial⟩
 ·rintro fL bA v ⟨v10,v11,v12,v13,rfl,hS,q0,q1,q2,q3⟩ hall
  simp only [Act.put,List.setIfInBounds_toArray,List.set_cons_zero,List.set_cons_succ]
  simp only [List.length_cons,List.length_nil] at hall
  obtain rfl:=q0 (hall 0 (by omega))
  obtain rfl:=q1 (hall 1 (by omega))
  obtain rfl:=q2 (hall 2 (by omega))
  have e3:fL 3=true:=hall 3 (by omega)
  have e4:fL 4=true:=hall 4 (by omega)
  have e5:fL 5=true:=hall 5 (by omega)
  clear hall
  have BR9:=hS.rT e4
  obtain ⟨ml,A9,c9,fa,fb,BA9,hml,hM9⟩:=hS.aT e5
  have yd0:v.cell? ⟨w.heap.size,0,none⟩=some (.int .i64 L):=BR9.cell 0
  have yd1:v.cell? ⟨w.heap.size,1,none⟩=some (.slice A1 l1.length c1):=BR9.cell 1
  have yd2:v.cell? ⟨w.heap.size,2,none⟩=some (.slice A2 l2.length c2):=BR9.cell 2
  have yd3:v.cell? ⟨w.heap.size,3,none⟩=some (.slice A3 l3.length c3):=BR9.cell 3
  have yd4:v.cell? ⟨w.heap.size,4,none⟩=some (.int .i64 p):=BR9.cell 4
  have yd5:v.cell? ⟨w.heap.size,5,none⟩=some (.int .i64 q):=BR9.cell 5
  have yd6:v.cell? ⟨w.heap.size,6,none⟩=some (.int .i64 r):=BR9.cell 6
  have ye0:v.cell? ⟨w.heap.size+1,0,none⟩=some (.slice A9 ml.length c9):=BA9.cell 0
  have ye1:v.cell? ⟨w.heap.size+1,1,none⟩=some (.int .i64 fa):=BA9.cell 1
  have ye2:v.cell? ⟨w.heap.size+1,2,none⟩=some (.int .i64 fb):=BA9.cell 2
  have hBf:=hS.hb
  go_wp2
  refine bodyPost_ret (v:=.tuple #[.agg #[.int .i64 L,.slice A1 l1.length c1,.slice A2 l2.length c2,.slice A3 l3.length c3,.int .i64 p,.int .i64 q,.int .i64 r],.agg #[.slice A9 ml.length c9,.int .i64 fa,.int .i64 fb]]) (by simp [results,Tryz.results29,go_sem,yd0,yd1,yd2,yd3,yd4,yd5,yd6,ye0,ye1,ye2]) rfl ?_
  exact ⟨L,l1,l2,l3,A1,A2,A3,c1,c2,c3,p,q,r,A9,c9,ml,⟨fa,fb,rfl⟩,⟨by omega,by omega,by omega,hS.o1.le_cap,hS.o2.le_cap,hS.o3.le_cap,hS.o1.sl,hS.o2.sl,hS.o3.sl⟩,⟨by omega,hml.2,hM9.s⟩,hml.1,hBf⟩
end Go.Proofs.YtednjmldjbndhaaGreat
