/- The reference's draw of an exercise. Condition: the code has at most 4096 bytes. -/
import Derived.Test.YtednjmldjbndhaaGreatKGr19
import Derived.Test.YtednjmldjbndhaaGreatKGr2
set_option linter.unusedSimpArgs false
set_option linter.unusedVariables false
set_option maxRecDepth 100000
set_option maxHeartbeats 8000000
namespace Go.Proofs.YtednjmldjbndhaaGreat
open Go.RowKit
def DEx (A:Option Addr) (n c g:Nat) (w:World) (e:Ending) (w':World):Prop:=∃ (L:Int) (l1 l2:List Int) (l3:List Term) (A1 A2 A3:Option Addr) (c1 c2 c3:Nat) (p q r:Int),e=.returned (.agg #[.int .i64 L,.slice A1 l1.length c1,.slice A2 l2.length c2,.slice A3 l3.length c3,.int .i64 p,.int .i64 q,.int .i64 r]) ∧
 (l1.length ≤ 100∧l2.length ≤ 100∧l3.length ≤ 100)∧Own w' w.heap.size 2 1 (.slice A1 l1.length c1) (l1.map ic)∧Own w' w.heap.size 2 1 (.slice A2 l2.length c2) (l2.map ic)∧Own w' w.heap.size 100 3 (.slice A3 l3.length c3) (l3.map Term.cells)∧Src w' A n c g∧w.grownBy w' (some g)
structure R2S (w:World) (A:Option Addr) (n c g b3:Nat) (rc:Array Value) (u1 u2:Value) (r1 r2:List (List Value)) (b10 b12 b13 b14 b4:Bool) (v10 v12 v13 v14 v4:Value) (v:World):Prop where
 s:Src v A n c g
 gr:w.grownBy v (some g)
 bn:Blk v w.heap.size 31 #[.int .i64 0,.slice none 0 0,.slice none 0 0,.slice none 0 0,.int .i64 0,.int .i64 0,.int .i64 0]
 br:Blk v b3 26 rc
 o1:Own v w.heap.size 2 1 u1 r1
 o2:Own v w.heap.size 2 1 u2 r2
 l10:b10=true→∃ (l:List Term) (A':Option Addr) (c':Nat),v10=.slice A' l.length c'∧l.length ≤ 100∧Own v w.heap.size 100 3 (.slice A' l.length c') (l.map Term.cells)
 l12:b12=true→∃ x:Int,v12=.int .i64 x
 l13:b13=true→∃ x:Int,v13=.agg #[.int .i64 0,.int .i64 0,.int .i64 x]
 l14:b14=true→∃ (l:List Term) (A':Option Addr) (c':Nat) (x:Int),v14=.agg #[.int .i64 25000,u1,u2,.slice A' l.length c',.int .i64 0,.int .i64 0,.int .i64 x]∧l.length ≤ 100∧Own v w.heap.size 100 3 (.slice A' l.length c') (l.map Term.cells)
 l4:b4=true→∃ b:Nat,v4=.pointer (some ⟨b,0,none⟩)∧w.heap.size < b∧Blk v b 31 #[.int .i64 0,.slice none 0 0,.slice none 0 0,.slice none 0 0,.int .i64 0,.int .i64 0,.int .i64 0]
section
variable {w v v' : World} {A : Option Addr} {n c g b3 : Nat} {rc : Array Value} {u1 u2 : Value} {r1 r2 : List (List Value)} {b10 b12 b13 b14 b4 : Bool} {v10 v12 v13 v14 v4 : Value}
theorem R2S.start (hS:Src v A n c g) (hG:w.grownBy v (some g)) (bn:Blk v w.heap.size 31 #[.int .i64 0,.slice none 0 0,.slice none 0 0,.slice none 0 0,.int .i64 0,.int .i64 0,.int .i64 0]) (br:Blk v b3 26 rc) (o1:Own v w.heap.size 2 1 u1 r1) (o2:Own v w.heap.size 2 1 u2 r2):R2S w A n c g b3 rc u1 u2 r1 r2 false false false false false v10 v12 v13 v14 v4 v.drew :=
 ⟨hS.keep fun _ _=>rfl,grown_drewN hG 1,bn.drewN 1,br.drewN 1,o1.drewN 1,o2.drewN 1,nofun,nofun,nofun,nofun,nofun⟩
theorem R2S.dr (h:R2S w A n c g b3 rc u1 u2 r1 r2 b10 b12 b13 b14 b4 v10 v12 v13 v14 v4 v) (hn:g < w.heap.size∧b3 ≠ g) (hS:Src v' A n c g) (hg:v.grownBy v' (some g)):R2S w A n c g b3 rc u1 u2 r1 r2 b10 b12 b13 b14 b4 v10 v12 v13 v14 v4 v' :=
 ⟨hS,h.gr.trans hg,h.bn.src hg (by omega),h.br.src hg hn.2,h.o1.src hg hn.1,h.o2.src hg hn.1,(fun e=>by
  obtain ⟨l,A',c',h1,h2,h3⟩:=h.l10 e
  exact ⟨l,A',c',h1,h2,h3.src hg hn.1⟩),h.l12,h.l13,(fun e=>by
  obtain ⟨l,A',c',x,h1,h2,h3⟩:=h.l14 e
  exact ⟨l,A',c',x,h1,h2,h3.src hg hn.1⟩),(fun e=>by
  obtain ⟨b,h1,h2,h3⟩:=h.l4 e
  exact ⟨b,h1,h2,h3.src hg (by omega)⟩)⟩
theorem R2S.s10 (h:R2S w A n c g b3 rc u1 u2 r1 r2 b10 b12 b13 b14 b4 v10 v12 v13 v14 v4 v) {l:List Term} {A':Option Addr} {c':Nat} (hl:l.length ≤ 100) (hO:Own v w.heap.size 100 3 (.slice A' l.length c') (l.map Term.cells)):R2S w A n c g b3 rc u1 u2 r1 r2 true b12 b13 b14 b4 (.slice A' l.length c') v12 v13 v14 v4 v :=
 ⟨h.s,h.gr,h.bn,h.br,h.o1,h.o2,fun _=>⟨l,A',c',rfl,hl,hO⟩,h.l12,h.l13,h.l14,h.l4⟩
theorem R2S.s12 (h:R2S w A n c g b3 rc u1 u2 r1 r2 b10 b12 b13 b14 b4 v10 v12 v13 v14 v4 v) (x:Int):R2S w A n c g b3 rc u1 u2 r1 r2 b10 true b13 b14 b4 v10 (.int .i64 x) v13 v14 v4 v :=
 ⟨h.s,h.gr,h.bn,h.br,h.o1,h.o2,h.l10,fun _=>⟨x,rfl⟩,h.l13,h.l14,h.l4⟩
theorem R2S.s13 (h:R2S w A n c g b3 rc u1 u2 r1 r2 b10 b12 b13 b14 b4 v10 v12 v13 v14 v4 v) (x:Int):R2S w A n c g b3 rc u1 u2 r1 r2 b10 b12 true b14 b4 v10 v12 (.agg #[.int .i64 0,.int .i64 0,.int .i64 x]) v14 v4 v :=
 ⟨h.s,h.gr,h.bn,h.br,h.o1,h.o2,h.l10,h.l12,fun _=>⟨x,rfl⟩,h.l14,h.l4⟩
theorem R2S.s14 (h:R2S w A n c g b3 rc u1 u2 r1 r2 b10 b12 b13 b14 b4 v10 v12 v13 v14 v4 v) {l:List Term} {A':Option Addr} {c':Nat} (x:Int) (hl:l.length ≤ 100) (hO:Own v w.heap.size 100 3 (.slice A' l.length c') (l.map Term.cells)):R2S w A n c g b3 rc u1 u2 r1 r2 b10 b12 b13 true b4 v10 v12 v13 (.agg #[.int .i64 25000,u1,u2,.slice A' l.length c',.int .i64 0,.int .i64 0,.int .i64 x]) v4 v :=
 ⟨h.s,h.gr,h.bn,h.br,h.o1,h.o2,h.l10,h.l12,h.l13,fun _=>⟨l,A',c',x,rfl,hl,hO⟩,h.l4⟩
theorem R2S.mk4 (h:R2S w A n c g b3 rc u1 u2 r1 r2 b10 b12 b13 b14 b4 v10 v12 v13 v14 v4 v):R2S w A n c g b3 rc u1 u2 r1 r2 b10 b12 b13 b14 true v10 v12 v13 v14 (.pointer (some ⟨v.heap.size,0,none⟩)) (v.alloc (.cells #[.int .i64 0,.slice none 0 0,.slice none 0 0,.slice none 0 0,.int .i64 0,.int .i64 0,.int .i64 0] 31)) :=
 ⟨h.s.alloc _,h.gr.trans (grown_alloc _ _),h.bn.alloc _,h.br.alloc _,h.o1.alloc _,h.o2.alloc _,(fun e=>by
  obtain ⟨l,A',c',h1,h2,h3⟩:=h.l10 e
  exact ⟨l,A',c',h1,h2,h3.alloc _⟩),h.l12,h.l13,(fun e=>by
  obtain ⟨l,A',c',x,h1,h2,h3⟩:=h.l14 e
  exact ⟨l,A',c',x,h1,h2,h3.alloc _⟩),fun _=>⟨_,rfl,h.bn.lt,Blk.new _ _ _⟩⟩
end
theorem l31Draw_c (A:Option Addr) (n c g:Nat) (w:World) (hS:Src w A n c g):Calls Tryz.prog 40 #[.pointer (some ⟨g,0,none⟩)] w (DEx A n c g w):=by
 have hlt:=hS.lt
 have hS:=(((hS.alloc (.cells #[.int .i64 0,.slice none 0 0,.slice none 0 0,.slice none 0 0,.int .i64 0,.int .i64 0,.int .i64 0] 31)).alloc (.cells #[.int .i64 0,.int .i64 1] 2)).alloc (.cells #[.int .i64 0] 2)).alloc (.cells #[.int .i64 25000,.slice (some ⟨w.heap.size+1,0,none⟩) 2 2,.slice (some ⟨w.heap.size+1+1,0,none⟩) 1 1] 26)
 have hG:=(((grown_alloc (w:=w) (.cells #[.int .i64 0,.slice none 0 0,.slice none 0 0,.slice none 0 0,.int .i64 0,.int .i64 0,.int .i64 0] 31) (some g)).trans (grown_alloc (.cells #[.int .i64 0,.int .i64 1] 2) (some g))).trans (grown_alloc (.cells #[.int .i64 0] 2) (some g))).trans (grown_alloc (.cells #[.int .i64 25000,.slice (some ⟨w.heap.size+1,0,none⟩) 2 2,.slice (some ⟨w.heap.size+1+1,0,none⟩) 1 1] 26) (some g))
 have BN:=(((Blk.new w 31 #[.int .i64 0,.slice none 0 0,.slice none 0 0,.slice none 0 0,.int .i64 0,.int .i64 0,.int .i64 0]).alloc (.cells #[.int .i64 0,.int .i64 1] 2)).alloc (.cells #[.int .i64 0] 2)).alloc (.cells #[.int .i64 25000,.slice (some ⟨w.heap.size+1,0,none⟩) 2 2,.slice (some ⟨w.heap.size+1+1,0,none⟩) 1 1] 26)
 have B3:=Blk.new' (((w.alloc (.cells #[.int .i64 0,.slice none 0 0,.slice none 0 0,.slice none 0 0,.int .i64 0,.int .i64 0,.int .i64 0] 31)).alloc (.cells #[.int .i64 0,.int .i64 1] 2)).alloc (.cells #[.int .i64 0] 2)) 26 #[.int .i64 25000,.slice (some ⟨w.heap.size+1,0,none⟩) 2 2,.slice (some ⟨w.heap.size+1+1,0,none⟩) 1 1] (g:=w.heap.size+1+1+1) (by simp)
 have hO1:Own ((((w.alloc (.cells #[.int .i64 0,.slice none 0 0,.slice none 0 0,.slice none 0 0,.int .i64 0,.int .i64 0,.int .i64 0] 31)).alloc (.cells #[.int .i64 0,.int .i64 1] 2)).alloc (.cells #[.int .i64 0] 2)).alloc (.cells #[.int .i64 25000,.slice (some ⟨w.heap.size+1,0,none⟩) 2 2,.slice (some ⟨w.heap.size+1+1,0,none⟩) 1 1] 26)) w.heap.size 2 1 (.slice (some ⟨w.heap.size+1,0,none⟩) 2 2) ([(0:Int),1].map ic):=by
  have:=Own.litX (w:=w.alloc (.cells #[.int .i64 0,.slice none 0 0,.slice none 0 0,.slice none 0 0,.int .i64 0,.int .i64 0,.int .i64 0] 31)) (base:=w.heap.size) (xs:=[0,1]) (by simp) (by simp)
  exact ((by simpa using this:Own _ w.heap.size 2 1 (.slice (some ⟨w.heap.size+1,0,none⟩) 2 2) ([(0:Int),1].map ic)).alloc _).alloc _
 have hO2:Own ((((w.alloc (.cells #[.int .i64 0,.slice none 0 0,.slice none 0 0,.slice none 0 0,.int .i64 0,.int .i64 0,.int .i64 0] 31)).alloc (.cells #[.int .i64 0,.int .i64 1] 2)).alloc (.cells #[.int .i64 0] 2)).alloc (.cells #[.int .i64 25000,.slice (some ⟨w.heap.size+1,0,none⟩) 2 2,.slice (some ⟨w.heap.size+1+1,0,none⟩) 1 1] 26)) w.heap.size 2 1 (.slice (some ⟨w.heap.size+1+1,0,none⟩) 1 1) ([(0:Int)].map ic):=by
  have:=Own.litX (w:=(w.alloc (.cells #[.int .i64 0,.slice none 0 0,.slice none 0 0,.slice none 0 0,.int .i64 0,.int .i64 0,.int .i64 0] 31)).alloc (.cells #[.int .i64 0,.int .i64 1] 2)) (base:=w.heap.size) (xs:=[0]) (by simp <;> omega) (by simp)
  exact (by simpa using this:Own _ w.heap.size 2 1 (.slice (some ⟨w.heap.size+1+1,0,none⟩) 1 1) ([(0:Int)].map ic)).alloc _
 unfold DEx
 go_enter Tryz.func40,Tryz.ntmps40
 go_wp2_with fail
 generalize (((w.alloc (.cells #[.int .i64 0,.slice none 0 0,.slice none 0 0,.slice none 0 0,.int .i64 0,.int .i64 0,.int .i64 0] 31)).alloc (.cells #[.int .i64 0,.int .i64 1] 2)).alloc (.cells #[.int .i64 0] 2)).alloc (.cells #[.int .i64 25000,.slice (some ⟨w.heap.size+1,0,none⟩) 2 2,.slice (some ⟨w.heap.size+1+1,0,none⟩) 1 1] 26)=w0 at *
 have hnn:g < w.heap.size∧w.heap.size+1+1+1 ≠ g:=by omega
 refine wp_region_sink 8 (fun a0 fL bA v=>∃ v8 v9 v10 v11 v12 v13 v14 v4:Value,bA=(((((((a0.put (some 8) v8).put (some 9) v9).put (some 10) v10).put (some 11) v11).put (some 12) v12).put (some 13) v13).put (some 14) v14).put (some 4) v4∧(R2S w A n c g (w.heap.size+1+1+1) #[.int .i64 25000,.slice (some ⟨w.heap.size+1,0,none⟩) 2 2,.slice (some ⟨w.heap.size+1+1,0,none⟩) 1 1] (.slice (some ⟨w.heap.size+1,0,none⟩) 2 2) (.slice (some ⟨w.heap.size+1+1,0,none⟩) 1 1) ([(0:Int),1].map ic) ([(0:Int)].map ic) (fL 2) (fL 4) (fL 5) (fL 6) (fL 7) v10 v12 v13 v14 v4 v)∧(fL 0=true→v8=.agg #[.int .i64 25000,.slice (some ⟨w.heap.size+1,0,none⟩) 2 2,.slice (some ⟨w.heap.size+1+1,0,none⟩) 1 1])∧(fL 1=true→v9=.pointer (some ⟨g,0,none⟩))∧(fL 2=true→True)∧(fL 3=true→v11=.pointer (some ⟨g,0,none⟩))∧(fL 4=true→True)∧(fL 5=true→True)∧(fL 6=true→True)∧(fL 7=true→True)) (by kernel_rfl) (by decide +kernel) ?_ ?_ ?_
 ·exact ⟨undef,undef,undef,undef,undef,undef,undef,undef,by simp only [Act.put,List.setIfInBounds_toArray,List.set_cons_zero,List.set_cons_succ],R2S.start hS hG BN B3 hO1 hO2,nofun,nofun,nofun,nofun,nofun,nofun,nofun,nofun⟩
 ·rintro fL bA v ⟨v8,v9,v10,v11,v12,v13,v14,v4,rfl,hS,q0,q1,q2,q3,q4,q5,q6,q7⟩ i hi hf o ho hall
  simp only [Act.put,List.setIfInBounds_toArray,List.set_cons_zero,List.set_cons_succ]
  have hn:i=0 ∨ i=1 ∨ i=2 ∨ i=3 ∨ i=4 ∨ i=5 ∨ i=6 ∨ i=7:=by omega
  clear hi
  rcases hn with rfl | rfl | rfl | rfl | rfl | rfl | rfl | rfl
  ·obtain rfl:=Option.some.inj ho
   have y0:v.cell? ⟨w.heap.size+1+1+1,0,none⟩=some (.int .i64 25000):=hS.br.cell 0
   have y1:v.cell? ⟨w.heap.size+1+1+1,1,none⟩=some (.slice (some ⟨w.heap.size+1,0,none⟩) 2 2):=hS.br.cell 1
   have y2:v.cell? ⟨w.heap.size+1+1+1,2,none⟩=some (.slice (some ⟨w.heap.size+1+1,0,none⟩) 1 1):=hS.br.cell 2
   clear hall ho
   refine wpOp_step rfl (fun K hK=>?_)
   go_simp
   exact hK _ _ ⟨_,_,_,_,_,_,_,_,rfl,hS,fun _=>rfl,q1,fun _=>trivial,q3,fun _=>trivial,fun _=>trivial,fun _=>trivial,fun _=>trivial⟩
  ·obtain rfl:=Option.some.inj ho
   clear hall ho
   refine wpOp_step rfl (fun K hK=>?_)
   go_simp
   exact hK _ _ ⟨_,_,_,_,_,_,_,_,rfl,hS,q0,fun _=>rfl,fun _=>trivial,q3,fun _=>trivial,fun _=>trivial,fun _=>trivial,fun _=>trivial⟩
  ·obtain rfl:=Option.some.inj ho
   obtain rfl:=q1 (hall ⟨1,.data⟩ (by simp) rfl)
   clear hall ho
   refine wpOp_step rfl (fun K hK=>?_)
   go_simp
   refine Calls.mono (l13Valid_c A n c g v hS.s) ?_;rintro e w8 ⟨l,A',c',rfl,hl8,hO8,hS8,hg8⟩
   go_simp
   exact hK _ _ ⟨_,_,_,_,_,_,_,_,rfl,(hS.dr hnn hS8 hg8).s10 hl8.2 (hO8.mono hS.gr.size),q0,fun _=>rfl,fun _=>trivial,q3,fun _=>trivial,fun _=>trivial,fun _=>trivial,fun _=>trivial⟩
  ·obtain rfl:=Option.some.inj ho
   clear hall ho
   refine wpOp_step rfl (fun K hK=>?_)
   go_simp
   exact hK _ _ ⟨_,_,_,_,_,_,_,_,rfl,hS,q0,q1,fun _=>trivial,fun _=>rfl,fun _=>trivial,fun _=>trivial,fun _=>trivial,fun _=>trivial⟩
  ·obtain rfl:=Option.some.inj ho
   obtain rfl:=q3 (hall ⟨3,.data⟩ (by simp) rfl)
   clear hall ho
   refine wpOp_step rfl (fun K hK=>?_)
   go_simp
   refine Calls.mono (l01Next_c A n c g 10 v hS.s) ?_;rintro e w8 ⟨x,rfl,_,_,hS8,hg8⟩
   go_simp
   exact hK _ _ ⟨_,_,_,_,_,_,_,_,rfl,(hS.dr hnn hS8 hg8).s12 x,q0,q1,fun _=>trivial,fun _=>rfl,fun _=>trivial,fun _=>trivial,fun _=>trivial,fun _=>trivial⟩
  ·obtain rfl:=Option.some.inj ho
   have e4:fL 4=true:=hall ⟨4,.data⟩ (by simp) rfl
   obtain ⟨x,rfl⟩:=hS.l12 e4
   clear hall ho
   refine wpOp_step rfl (fun K hK=>?_)
   go_simp
   exact hK _ _ ⟨_,_,_,_,_,_,_,_,rfl,hS.s13 x,q0,q1,fun _=>trivial,q3,fun _=>trivial,fun _=>trivial,fun _=>trivial,fun _=>trivial⟩
  ·obtain rfl:=Option.some.inj ho
   obtain rfl:=q0 (hall ⟨0,.data⟩ (by simp) rfl)
   have e2:fL 2=true:=hall ⟨2,.data⟩ (by simp) rfl
   have e5:fL 5=true:=hall ⟨5,.data⟩ (by simp) rfl
   obtain ⟨l,A',c',rfl,hl8,hO8⟩:=hS.l10 e2
   obtain ⟨x,rfl⟩:=hS.l13 e5
   clear hall ho
   refine wpOp_step rfl (fun K hK=>?_)
   go_simp
   exact hK _ _ ⟨_,_,_,_,_,_,_,_,rfl,hS.s14 x hl8 hO8,fun _=>rfl,q1,fun _=>trivial,q3,fun _=>trivial,fun _=>trivial,fun _=>trivial,fun _=>trivial⟩
  ·obtain rfl:=Option.some.inj ho
   clear hall ho
   refine wpOp_step rfl (fun K hK=>?_)
   go_simp
   exact hK _ _ ⟨_,_,_,_,_,_,_,_,rfl,hS.mk4,q0,q1,fun _=>trivial,q3,fun _=>trivial,fun _=>trivial,fun _=>trivial,fun _=>trivial⟩
 ·rintro fL bA v ⟨v8,v9,v10,v11,v12,v13,v14,v4,rfl,hS,q0,q1,q2,q3,q4,q5,q6,q7⟩ hall
  simp only [Act.put,List.setIfInBounds_toArray,List.set_cons_zero,List.set_cons_succ]
  obtain rfl:=q0 (hall 0 (by omega))
  obtain rfl:=q1 (hall 1 (by omega))
  have e2:fL 2=true:=hall 2 (by omega)
  obtain rfl:=q3 (hall 3 (by omega))
  have e4:fL 4=true:=hall 4 (by omega)
  have e5:fL 5=true:=hall 5 (by omega)
  have e6:fL 6=true:=hall 6 (by omega)
  have e7:fL 7=true:=hall 7 (by omega)
  clear hall
  simp only [List.drop_succ_cons,List.drop_zero]
  obtain ⟨l3,A3,c3,r,rfl,hl3,hO3⟩:=hS.l14 e6
  obtain ⟨b4,rfl,hb4,B4⟩:=hS.l4 e7
  have hO1:=hS.o1
  have hO2:=hS.o2
  have BN:=hS.bn
  have hG:=hS.gr
  have hS:=hS.s
  have ye0:v.cell? ⟨b4,0,none⟩=some (.int .i64 0):=B4.cell 0
  have fe0:=B4.frozen 0
  have ye1:v.cell? ⟨b4,1,none⟩=some (.slice none 0 0):=B4.cell 1
  have fe1:=B4.frozen 1
  have ye2:v.cell? ⟨b4,2,none⟩=some (.slice none 0 0):=B4.cell 2
  have fe2:=B4.frozen 2
  have ye3:v.cell? ⟨b4,3,none⟩=some (.slice none 0 0):=B4.cell 3
  have fe3:=B4.frozen 3
  have ye4:v.cell? ⟨b4,4,none⟩=some (.int .i64 0):=B4.cell 4
  have fe4:=B4.frozen 4
  have ye5:v.cell? ⟨b4,5,none⟩=some (.int .i64 0):=B4.cell 5
  have fe5:=B4.frozen 5
  have ye6:v.cell? ⟨b4,6,none⟩=some (.int .i64 0):=B4.cell 6
  have fe6:=B4.frozen 6
  have n1b:(Value.slice (some ⟨w.heap.size+1,0,none⟩) 2 2).ownBlock ≠ some b4:=own_ne_blkX hO1 B4 (by decide)
  have n2b:(Value.slice (some ⟨w.heap.size+1+1,0,none⟩) 1 1).ownBlock ≠ some b4:=own_ne_blkX hO2 B4 (by decide)
  have n3b:(Value.slice A3 l3.length c3).ownBlock ≠ some b4:=own_ne_blkX hO3 B4 (by decide)
  have n1b:=Lib.hid n1b;have n2b:=Lib.hid n2b;have n3b:=Lib.hid n3b
  have hz4:=B4.lt
  clear hnn
  have hS7:Src (((((((v.setCell ⟨b4,0,none⟩ (.int .i64 25000)).setCell ⟨b4,1,none⟩ (.slice (some ⟨w.heap.size+1,0,none⟩) 2 2)).setCell ⟨b4,2,none⟩ (.slice (some ⟨w.heap.size+1+1,0,none⟩) 1 1)).setCell ⟨b4,3,none⟩ (.slice A3 l3.length c3)).setCell ⟨b4,4,none⟩ (.int .i64 0)).setCell ⟨b4,5,none⟩ (.int .i64 0)).setCell ⟨b4,6,none⟩ (.int .i64 r)) A n c g:=(by repeat (first | with_reducible exact hS | with_reducible refine Src.far ?_ (by first | omega | (simp only;omega))))
  have hG7:w.grownBy (((((((v.setCell ⟨b4,0,none⟩ (.int .i64 25000)).setCell ⟨b4,1,none⟩ (.slice (some ⟨w.heap.size+1,0,none⟩) 2 2)).setCell ⟨b4,2,none⟩ (.slice (some ⟨w.heap.size+1+1,0,none⟩) 1 1)).setCell ⟨b4,3,none⟩ (.slice A3 l3.length c3)).setCell ⟨b4,4,none⟩ (.int .i64 0)).setCell ⟨b4,5,none⟩ (.int .i64 0)).setCell ⟨b4,6,none⟩ (.int .i64 r)) (some g):=(by repeat (first | with_reducible exact hG | with_reducible refine grown_far ?_ (by first | (simp;done) | omega | (simp only;omega))))
  have hO17:Own (((((((v.setCell ⟨b4,0,none⟩ (.int .i64 25000)).setCell ⟨b4,1,none⟩ (.slice (some ⟨w.heap.size+1,0,none⟩) 2 2)).setCell ⟨b4,2,none⟩ (.slice (some ⟨w.heap.size+1+1,0,none⟩) 1 1)).setCell ⟨b4,3,none⟩ (.slice A3 l3.length c3)).setCell ⟨b4,4,none⟩ (.int .i64 0)).setCell ⟨b4,5,none⟩ (.int .i64 0)).setCell ⟨b4,6,none⟩ (.int .i64 r)) w.heap.size 2 1 (.slice (some ⟨w.heap.size+1,0,none⟩) [(0:Int),1].length 2) ([(0:Int),1].map ic):=(by have q:=hO1;repeat (first | with_reducible exact q | refine Own.setNe ?_ n1b.out _ _))
  have hO27:Own (((((((v.setCell ⟨b4,0,none⟩ (.int .i64 25000)).setCell ⟨b4,1,none⟩ (.slice (some ⟨w.heap.size+1,0,none⟩) 2 2)).setCell ⟨b4,2,none⟩ (.slice (some ⟨w.heap.size+1+1,0,none⟩) 1 1)).setCell ⟨b4,3,none⟩ (.slice A3 l3.length c3)).setCell ⟨b4,4,none⟩ (.int .i64 0)).setCell ⟨b4,5,none⟩ (.int .i64 0)).setCell ⟨b4,6,none⟩ (.int .i64 r)) w.heap.size 2 1 (.slice (some ⟨w.heap.size+1+1,0,none⟩) [(0:Int)].length 1) ([(0:Int)].map ic):=(by have q:=hO2;repeat (first | with_reducible exact q | refine Own.setNe ?_ n2b.out _ _))
  have hO37:Own (((((((v.setCell ⟨b4,0,none⟩ (.int .i64 25000)).setCell ⟨b4,1,none⟩ (.slice (some ⟨w.heap.size+1,0,none⟩) 2 2)).setCell ⟨b4,2,none⟩ (.slice (some ⟨w.heap.size+1+1,0,none⟩) 1 1)).setCell ⟨b4,3,none⟩ (.slice A3 l3.length c3)).setCell ⟨b4,4,none⟩ (.int .i64 0)).setCell ⟨b4,5,none⟩ (.int .i64 0)).setCell ⟨b4,6,none⟩ (.int .i64 r)) w.heap.size 100 3 (.slice A3 l3.length c3) (l3.map Term.cells):=(by repeat (first | with_reducible exact hO3 | with_reducible refine Own.setNe ?_ (by first | exact n3b.out | exact n3b.out) _ _))
  have BN7:Blk (((((((v.setCell ⟨b4,0,none⟩ (.int .i64 25000)).setCell ⟨b4,1,none⟩ (.slice (some ⟨w.heap.size+1,0,none⟩) 2 2)).setCell ⟨b4,2,none⟩ (.slice (some ⟨w.heap.size+1+1,0,none⟩) 1 1)).setCell ⟨b4,3,none⟩ (.slice A3 l3.length c3)).setCell ⟨b4,4,none⟩ (.int .i64 0)).setCell ⟨b4,5,none⟩ (.int .i64 0)).setCell ⟨b4,6,none⟩ (.int .i64 r)) w.heap.size 31 #[.int .i64 0,.slice none 0 0,.slice none 0 0,.slice none 0 0,.int .i64 0,.int .i64 0,.int .i64 0]:=(by repeat (first | with_reducible exact BN | with_reducible refine Blk.far ?_ (by simp only;omega) _))
  have B47:Blk (((((((v.setCell ⟨b4,0,none⟩ (.int .i64 25000)).setCell ⟨b4,1,none⟩ (.slice (some ⟨w.heap.size+1,0,none⟩) 2 2)).setCell ⟨b4,2,none⟩ (.slice (some ⟨w.heap.size+1+1,0,none⟩) 1 1)).setCell ⟨b4,3,none⟩ (.slice A3 l3.length c3)).setCell ⟨b4,4,none⟩ (.int .i64 0)).setCell ⟨b4,5,none⟩ (.int .i64 0)).setCell ⟨b4,6,none⟩ (.int .i64 r)) b4 31 #[.int .i64 25000,.slice (some ⟨w.heap.size+1,0,none⟩) 2 2,.slice (some ⟨w.heap.size+1+1,0,none⟩) 1 1,.slice A3 l3.length c3,.int .i64 0,.int .i64 0,.int .i64 r]:=(((((((B4.set_ 0 _).set_ 1 _).set_ 2 _).set_ 3 _).set_ 4 _).set_ 5 _).set_ 6 _)
  clear n1b n2b n3b
  go_wp2_with fail
  generalize (((((((v.setCell ⟨b4,0,none⟩ (.int .i64 25000)).setCell ⟨b4,1,none⟩ (.slice (some ⟨w.heap.size+1,0,none⟩) 2 2)).setCell ⟨b4,2,none⟩ (.slice (some ⟨w.heap.size+1+1,0,none⟩) 1 1)).setCell ⟨b4,3,none⟩ (.slice A3 l3.length c3)).setCell ⟨b4,4,none⟩ (.int .i64 0)).setCell ⟨b4,5,none⟩ (.int .i64 0)).setCell ⟨b4,6,none⟩ (.int .i64 r))=w1 at *
  clear hS hG hO1 hO2 hO3 BN B4
  refine (l01Next_c A n c g _ _ hS7).mono ?_;rintro e w2 ⟨k,rfl,_,_,hS,hg⟩
  have hO1:=hO17.src hg (by omega)
  have hO2:=hO27.src hg (by omega)
  have hO3:=hO37.src hg (by omega)
  have BN:=BN7.src hg (by omega)
  have B4:=B47.src hg (by omega)
  have hG:=hG7.trans hg
  clear hg hO17 hO27 hO37 BN7 B47 hG7 hS7
  have gz:=hG.size
  have hne:b4 ≠ w.heap.size:=by omega
  obtain ⟨L,l1,l2,A1,A2,c1,c2,p,q,hl1,hl2,hO1,hO2,B4⟩:∃ (L:Int) (l1 l2:List Int) (A1 A2:Option Addr) (c1 c2:Nat) (p q:Int),l1.length ≤ 100∧l2.length ≤ 100∧Own w2 w.heap.size 2 1 (.slice A1 l1.length c1) (l1.map ic)∧Own w2 w.heap.size 2 1 (.slice A2 l2.length c2) (l2.map ic)∧Blk w2 b4 31 #[.int .i64 L,.slice A1 l1.length c1,.slice A2 l2.length c2,.slice A3 l3.length c3,.int .i64 p,.int .i64 q,.int .i64 r] :=
   ⟨25000,[0,1],[0],some ⟨w.heap.size+1,0,none⟩,some ⟨w.heap.size+1+1,0,none⟩,2,1,0,0,by simp,by simp,hO1,hO2,B4⟩
  have N1b:=Lib.hid (own_ne_blkX hO1 B4 (by decide))
  have N1N:=Lib.hid (own_ne_blkX hO1 BN (by decide))
  have N2b:=Lib.hid (own_ne_blkX hO2 B4 (by decide))
  have N2N:=Lib.hid (own_ne_blkX hO2 BN (by decide))
  have N3b:=Lib.hid (own_ne_blkX hO3 B4 (by decide))
  have N3N:=Lib.hid (own_ne_blkX hO3 BN (by decide))
  by_cases k0:k=0
  ·subst k0
   go_wp2_with fail
   refine (l11Draw_c A n c g _ hS).mono ?_;rintro e w3 ⟨L',m1,m2,D1,D2,d1,d2,rfl,hm,hP1,hP2,hS,hg⟩
   have hP1:=hP1.mono gz
   have hP2:=hP2.mono gz
   have hO3:=hO3.src hg (by omega)
   have BN:=BN.src hg (by omega)
   have B4:=B4.src hg (by omega)
   have hG:=hG.trans hg
   clear hg
   have M1b:=Lib.hid (own_ne_blkX hP1 B4 (by decide))
   have M1N:=Lib.hid (own_ne_blkX hP1 BN (by decide))
   have M2b:=Lib.hid (own_ne_blkX hP2 B4 (by decide))
   have M2N:=Lib.hid (own_ne_blkX hP2 BN (by decide))
   have yc0:w3.cell? ⟨b4,0,none⟩=some (.int .i64 L):=B4.cell 0
   have yd0:w3.cell? ⟨w.heap.size,0,none⟩=some (.int .i64 0):=BN.cell 0
   have fc0:=B4.frozen 0
   have fd0:=BN.frozen 0
   have yc1:w3.cell? ⟨b4,1,none⟩=some (.slice A1 l1.length c1):=B4.cell 1
   have yd1:w3.cell? ⟨w.heap.size,1,none⟩=some (.slice none 0 0):=BN.cell 1
   have fc1:=B4.frozen 1
   have fd1:=BN.frozen 1
   have yc2:w3.cell? ⟨b4,2,none⟩=some (.slice A2 l2.length c2):=B4.cell 2
   have yd2:w3.cell? ⟨w.heap.size,2,none⟩=some (.slice none 0 0):=BN.cell 2
   have fc2:=B4.frozen 2
   have fd2:=BN.frozen 2
   have yc3:w3.cell? ⟨b4,3,none⟩=some (.slice A3 l3.length c3):=B4.cell 3
   have yd3:w3.cell? ⟨w.heap.size,3,none⟩=some (.slice none 0 0):=BN.cell 3
   have fc3:=B4.frozen 3
   have fd3:=BN.frozen 3
   have yc4:w3.cell? ⟨b4,4,none⟩=some (.int .i64 p):=B4.cell 4
   have yd4:w3.cell? ⟨w.heap.size,4,none⟩=some (.int .i64 0):=BN.cell 4
   have fc4:=B4.frozen 4
   have fd4:=BN.frozen 4
   have yc5:w3.cell? ⟨b4,5,none⟩=some (.int .i64 q):=B4.cell 5
   have yd5:w3.cell? ⟨w.heap.size,5,none⟩=some (.int .i64 0):=BN.cell 5
   have fc5:=B4.frozen 5
   have fd5:=BN.frozen 5
   have yc6:w3.cell? ⟨b4,6,none⟩=some (.int .i64 r):=B4.cell 6
   have yd6:w3.cell? ⟨w.heap.size,6,none⟩=some (.int .i64 0):=BN.cell 6
   have fc6:=B4.frozen 6
   have fd6:=BN.frozen 6
   have zb:=B4.lt
   have zn:=BN.lt
   go_wp2
   refine bodyPost_ret (v:=.agg #[.int .i64 L',.slice D1 m1.length d1,.slice D2 m2.length d2,.slice A3 l3.length c3,.int .i64 p,.int .i64 q,.int .i64 r]) (by simp [results,Tryz.results40,go_sem,yd0,yd1,yd2,yd3,yd4,yd5,yd6]) rfl ⟨L',m1,m2,l3,D1,D2,A3,d1,d2,c3,p,q,r,rfl,⟨by omega,by omega,by omega⟩,(by repeat (first | with_reducible exact hP1 | with_reducible refine Own.setNe ?_ (by first | exact M1b.out | exact M1N.out) _ _)),(by repeat (first | with_reducible exact hP2 | with_reducible refine Own.setNe ?_ (by first | exact M2b.out | exact M2N.out) _ _)),(by repeat (first | with_reducible exact hO3 | with_reducible refine Own.setNe ?_ (by first | exact N3b.out | exact N3N.out) _ _)),(by repeat (first | with_reducible exact hS | with_reducible refine Src.far ?_ (by first | omega | (simp only;omega)))),(by repeat (first | with_reducible exact hG | with_reducible refine grown_far ?_ (by first | (simp;done) | omega | (simp only;omega))))⟩
  ·have k0':(k == 0)=false:=by simpa using k0
   by_cases k1:k=1
   ·subst k1
    go_wp2_with fail
    refine (l13Draw_c A n c g _ hS).mono ?_;rintro e w3 ⟨m3,D3,d3,rfl,hm,hP3,hS,hg⟩
    have hP3:=hP3.mono gz
    have hO1:=hO1.src hg (by omega)
    have hO2:=hO2.src hg (by omega)
    have BN:=BN.src hg (by omega)
    have B4:=B4.src hg (by omega)
    have hG:=hG.trans hg
    clear hg
    have M3b:=Lib.hid (own_ne_blkX hP3 B4 (by decide))
    have M3N:=Lib.hid (own_ne_blkX hP3 BN (by decide))
    have yc0:w3.cell? ⟨b4,0,none⟩=some (.int .i64 L):=B4.cell 0
    have yd0:w3.cell? ⟨w.heap.size,0,none⟩=some (.int .i64 0):=BN.cell 0
    have fc0:=B4.frozen 0
    have fd0:=BN.frozen 0
    have yc1:w3.cell? ⟨b4,1,none⟩=some (.slice A1 l1.length c1):=B4.cell 1
    have yd1:w3.cell? ⟨w.heap.size,1,none⟩=some (.slice none 0 0):=BN.cell 1
    have fc1:=B4.frozen 1
    have fd1:=BN.frozen 1
    have yc2:w3.cell? ⟨b4,2,none⟩=some (.slice A2 l2.length c2):=B4.cell 2
    have yd2:w3.cell? ⟨w.heap.size,2,none⟩=some (.slice none 0 0):=BN.cell 2
    have fc2:=B4.frozen 2
    have fd2:=BN.frozen 2
    have yc3:w3.cell? ⟨b4,3,none⟩=some (.slice A3 l3.length c3):=B4.cell 3
    have yd3:w3.cell? ⟨w.heap.size,3,none⟩=some (.slice none 0 0):=BN.cell 3
    have fc3:=B4.frozen 3
    have fd3:=BN.frozen 3
    have yc4:w3.cell? ⟨b4,4,none⟩=some (.int .i64 p):=B4.cell 4
    have yd4:w3.cell? ⟨w.heap.size,4,none⟩=some (.int .i64 0):=BN.cell 4
    have fc4:=B4.frozen 4
    have fd4:=BN.frozen 4
    have yc5:w3.cell? ⟨b4,5,none⟩=some (.int .i64 q):=B4.cell 5
    have yd5:w3.cell? ⟨w.heap.size,5,none⟩=some (.int .i64 0):=BN.cell 5
    have fc5:=B4.frozen 5
    have fd5:=BN.frozen 5
    have yc6:w3.cell? ⟨b4,6,none⟩=some (.int .i64 r):=B4.cell 6
    have yd6:w3.cell? ⟨w.heap.size,6,none⟩=some (.int .i64 0):=BN.cell 6
    have fc6:=B4.frozen 6
    have fd6:=BN.frozen 6
    have zb:=B4.lt
    have zn:=BN.lt
    go_wp2
    refine bodyPost_ret (v:=.agg #[.int .i64 L,.slice A1 l1.length c1,.slice A2 l2.length c2,.slice D3 m3.length d3,.int .i64 p,.int .i64 q,.int .i64 r]) (by simp [results,Tryz.results40,go_sem,yd0,yd1,yd2,yd3,yd4,yd5,yd6]) rfl ⟨L,l1,l2,m3,A1,A2,D3,c1,c2,d3,p,q,r,rfl,⟨by omega,by omega,by omega⟩,(by repeat (first | with_reducible exact hO1 | with_reducible refine Own.setNe ?_ (by first | exact N1b.out | exact N1N.out) _ _)),(by repeat (first | with_reducible exact hO2 | with_reducible refine Own.setNe ?_ (by first | exact N2b.out | exact N2N.out) _ _)),(by repeat (first | with_reducible exact hP3 | with_reducible refine Own.setNe ?_ (by first | exact M3b.out | exact M3N.out) _ _)),(by repeat (first | with_reducible exact hS | with_reducible refine Src.far ?_ (by first | omega | (simp only;omega)))),(by repeat (first | with_reducible exact hG | with_reducible refine grown_far ?_ (by first | (simp;done) | omega | (simp only;omega))))⟩
   ·have k1':(k == 1)=false:=by simpa using k1
    by_cases k2:k=2
    ·subst k2
     go_wp2_with fail
     refine (l10Draw_c A n c g _ hS).mono ?_;rintro e w3 ⟨p2,q2,r2,rfl,hS,hg⟩
     have hO1:=hO1.src hg (by omega)
     have hO2:=hO2.src hg (by omega)
     have hO3:=hO3.src hg (by omega)
     have BN:=BN.src hg (by omega)
     have B4:=B4.src hg (by omega)
     have hG:=hG.trans hg
     clear hg
     have yc0:w3.cell? ⟨b4,0,none⟩=some (.int .i64 L):=B4.cell 0
     have yd0:w3.cell? ⟨w.heap.size,0,none⟩=some (.int .i64 0):=BN.cell 0
     have fc0:=B4.frozen 0
     have fd0:=BN.frozen 0
     have yc1:w3.cell? ⟨b4,1,none⟩=some (.slice A1 l1.length c1):=B4.cell 1
     have yd1:w3.cell? ⟨w.heap.size,1,none⟩=some (.slice none 0 0):=BN.cell 1
     have fc1:=B4.frozen 1
     have fd1:=BN.frozen 1
     have yc2:w3.cell? ⟨b4,2,none⟩=some (.slice A2 l2.length c2):=B4.cell 2
     have yd2:w3.cell? ⟨w.heap.size,2,none⟩=some (.slice none 0 0):=BN.cell 2
     have fc2:=B4.frozen 2
     have fd2:=BN.frozen 2
     have yc3:w3.cell? ⟨b4,3,none⟩=some (.slice A3 l3.length c3):=B4.cell 3
     have yd3:w3.cell? ⟨w.heap.size,3,none⟩=some (.slice none 0 0):=BN.cell 3
     have fc3:=B4.frozen 3
     have fd3:=BN.frozen 3
     have yc4:w3.cell? ⟨b4,4,none⟩=some (.int .i64 p):=B4.cell 4
     have yd4:w3.cell? ⟨w.heap.size,4,none⟩=some (.int .i64 0):=BN.cell 4
     have fc4:=B4.frozen 4
     have fd4:=BN.frozen 4
     have yc5:w3.cell? ⟨b4,5,none⟩=some (.int .i64 q):=B4.cell 5
     have yd5:w3.cell? ⟨w.heap.size,5,none⟩=some (.int .i64 0):=BN.cell 5
     have fc5:=B4.frozen 5
     have fd5:=BN.frozen 5
     have yc6:w3.cell? ⟨b4,6,none⟩=some (.int .i64 r):=B4.cell 6
     have yd6:w3.cell? ⟨w.heap.size,6,none⟩=some (.int .i64 0):=BN.cell 6
     have fc6:=B4.frozen 6
     have fd6:=BN.frozen 6
     have zb:=B4.lt
     have zn:=BN.lt
     go_wp2
     refine bodyPost_ret (v:=.agg #[.int .i64 L,.slice A1 l1.length c1,.slice A2 l2.length c2,.slice A3 l3.length c3,.int .i64 p2,.int .i64 q2,.int .i64 r2]) (by simp [results,Tryz.results40,go_sem,yd0,yd1,yd2,yd3,yd4,yd5,yd6]) rfl ⟨L,l1,l2,l3,A1,A2,A3,c1,c2,c3,p2,q2,r2,rfl,⟨by omega,by omega,by omega⟩,(by repeat (first | with_reducible exact hO1 | with_reducible refine Own.setNe ?_ (by first | exact N1b.out | exact N1N.out) _ _)),(by repeat (first | with_reducible exact hO2 | with_reducible refine Own.setNe ?_ (by first | exact N2b.out | exact N2N.out) _ _)),(by repeat (first | with_reducible exact hO3 | with_reducible refine Own.setNe ?_ (by first | exact N3b.out | exact N3N.out) _ _)),(by repeat (first | with_reducible exact hS | with_reducible refine Src.far ?_ (by first | omega | (simp only;omega)))),(by repeat (first | with_reducible exact hG | with_reducible refine grown_far ?_ (by first | (simp;done) | omega | (simp only;omega))))⟩
    ·have k2':(k == 2)=false:=by simpa using k2
     have yc0:w2.cell? ⟨b4,0,none⟩=some (.int .i64 L):=B4.cell 0
     have yd0:w2.cell? ⟨w.heap.size,0,none⟩=some (.int .i64 0):=BN.cell 0
     have fc0:=B4.frozen 0
     have fd0:=BN.frozen 0
     have yc1:w2.cell? ⟨b4,1,none⟩=some (.slice A1 l1.length c1):=B4.cell 1
     have yd1:w2.cell? ⟨w.heap.size,1,none⟩=some (.slice none 0 0):=BN.cell 1
     have fc1:=B4.frozen 1
     have fd1:=BN.frozen 1
     have yc2:w2.cell? ⟨b4,2,none⟩=some (.slice A2 l2.length c2):=B4.cell 2
     have yd2:w2.cell? ⟨w.heap.size,2,none⟩=some (.slice none 0 0):=BN.cell 2
     have fc2:=B4.frozen 2
     have fd2:=BN.frozen 2
     have yc3:w2.cell? ⟨b4,3,none⟩=some (.slice A3 l3.length c3):=B4.cell 3
     have yd3:w2.cell? ⟨w.heap.size,3,none⟩=some (.slice none 0 0):=BN.cell 3
     have fc3:=B4.frozen 3
     have fd3:=BN.frozen 3
     have yc4:w2.cell? ⟨b4,4,none⟩=some (.int .i64 p):=B4.cell 4
     have yd4:w2.cell? ⟨w.heap.size,4,none⟩=some (.int .i64 0):=BN.cell 4
     have fc4:=B4.frozen 4
     have fd4:=BN.frozen 4
     have yc5:w2.cell? ⟨b4,5,none⟩=some (.int .i64 q):=B4.cell 5
     have yd5:w2.cell? ⟨w.heap.size,5,none⟩=some (.int .i64 0):=BN.cell 5
     have fc5:=B4.frozen 5
     have fd5:=BN.frozen 5
     have yc6:w2.cell? ⟨b4,6,none⟩=some (.int .i64 r):=B4.cell 6
     have yd6:w2.cell? ⟨w.heap.size,6,none⟩=some (.int .i64 0):=BN.cell 6
     have fc6:=B4.frozen 6
     have fd6:=BN.frozen 6
     have zb:=B4.lt
     have zn:=BN.lt
     go_wp2
     refine bodyPost_ret (v:=.agg #[.int .i64 L,.slice A1 l1.length c1,.slice A2 l2.length c2,.slice A3 l3.length c3,.int .i64 p,.int .i64 q,.int .i64 r]) (by simp [results,Tryz.results40,go_sem,yd0,yd1,yd2,yd3,yd4,yd5,yd6]) rfl ⟨L,l1,l2,l3,A1,A2,A3,c1,c2,c3,p,q,r,rfl,⟨by omega,by omega,by omega⟩,(by repeat (first | with_reducible exact hO1 | with_reducible refine Own.setNe ?_ (by first | exact N1b.out | exact N1N.out) _ _)),(by repeat (first | with_reducible exact hO2 | with_reducible refine Own.setNe ?_ (by first | exact N2b.out | exact N2N.out) _ _)),(by repeat (first | with_reducible exact hO3 | with_reducible refine Own.setNe ?_ (by first | exact N3b.out | exact N3N.out) _ _)),(by repeat (first | with_reducible exact hS | with_reducible refine Src.far ?_ (by first | omega | (simp only;omega)))),(by repeat (first | with_reducible exact hG | with_reducible refine grown_far ?_ (by first | (simp;done) | omega | (simp only;omega))))⟩
end Go.Proofs.YtednjmldjbndhaaGreat
