/- Formulas, charts and releases in new memory: the program's copies, and the reference's of a formula. Conditions: the lengths. Lists of entries: the laws' copies and comparison of them. Conditions: the lists' lengths. A formula in new memory: the reference's copy; slices.Clone at []impl.Entry. Conditions: the lengths. What a call may have changed: some blocks, and new ones. A great region whose open values are of any kind. Plain. The laws' marks on lists of entries: what they may have changed. Conditions: the lists' lengths, and what the list owns. The laws' marks on a list of entries. Conditions: the lists' lengths, and what the list owns. AddEntry in plain words; lists of entries that a call made. No condition of their own. A literal of one struct whose cells stand behind a name; what a region holds that clones a list and lays an entry on. No condition of their own. A part of a row of the call's own stored anew; what the reference's AddEntry holds on its way. No condition of their own. The laws' comparisons of lists of entries and of texts at equal lists; membership. Conditions: the lengths. -/
import Derived.Laws.BytesArg
import Derived.Great.FillDense
import Derived.Great.Walk
import Derived.Test.YtednjmldjbndhaaGreatDoorKMr18
import Derived.Test.YtednjmldjbndhaaGreatDoorKMr20
import Derived.Test.YtednjmldjbndhaaGreatDoorKMr23
import Derived.Test.YtednjmldjbndhaaGreatDoorKMr28
import Derived.Test.YtednjmldjbndhaaGreatDoorKMr3
import Derived.Test.YtednjmldjbndhaaGreatDoorKMr8
set_option linter.unusedSimpArgs false
set_option linter.unusedVariables false
set_option maxRecDepth 100000
set_option maxHeartbeats 8000000
namespace Go.Proofs.YtednjmldjbndhaaGreatDoor
open Go.RowKit
def formC (fd ft:Int) (s:ByteArray) (A:Option Addr) (n c:Nat):List Value:=[.int .i64 fd,.int .i64 ft,.string s,.slice A n c]
def chartC (fd ft:Int) (s:ByteArray) (A:Option Addr) (n c:Nat) (wd lf rt:Int):List Value:=formC fd ft s A n c ++ [.int .i64 wd,.int .i64 lf,.int .i64 rt]
def Rl.tail (r:Rl):List Value:=[.int .i64 r.lud,.int .i64 r.lut,.int .i64 r.hud,.int .i64 r.hut,.int .i64 r.lvd,.int .i64 r.lvt,.int .i64 r.hvd,.int .i64 r.hvt,.int .i64 r.ey,.int .i64 r.bo]
theorem Rl.split (r:Rl) (A:Option Addr) (c:Nat):r.cells A c=chartC r.fd r.ft r.nm A r.l.length c r.wd r.lf r.rt ++ r.tail:=rfl
theorem formC_one (fd ft:Int) (s:ByteArray) (A:Option Addr) (n c:Nat):∀ v ∈ formC fd ft s A n c,v.oneCell'=true:=by
 unfold formC
 simp only [List.mem_cons,List.not_mem_nil,or_false]
 rintro v (h | h | h | h) <;> subst h <;> rfl
theorem aggFo (W:World):(isAgg 29).run Tryz.prog W=.ok true W:=by simp [isAgg,go_sem]
theorem szFoC (W:World):(sizeOf 29).run Tryz.prog W=.ok 4 W:=by simp [go_sem]
theorem aggRe (W:World):(isAgg 33).run Tryz.prog W=.ok true W:=by simp [isAgg,go_sem]
theorem szReC (W:World):(sizeOf 33).run Tryz.prog W=.ok 17 W:=by simp [go_sem]
end Go.Proofs.YtednjmldjbndhaaGreatDoor
namespace Go.Proofs.YtednjmldjbndhaaGreatDoor
open Go.RowKit
def EnR.sl (x:EnR):Value:=.slice x.A x.e.r.l.length x.c
def EnR.apart (x y:EnR):Prop:=∀ g,x.sl.ownBlock=some g→y.sl.ownBlock ≠ some g
theorem info_Entry:(Tryz.prog.info? 35).map (fun i=>(i.zero,i.size,i.bytes))=some (some (.agg EnZ.toArray),20,192):=by kernel_rfl
theorem wpList_store_row {P:Program} {ops:Array Oper} {rest:List Oper} {op:Oper} {a:Act} {w:World} {Q:Exit→Act→World→Prop} (hgd:op.guard=none) (ty:TypeId) (x y:Operand) (ho:op.op=.store ty x y)
  (g o:Nat) (cs:List Value) (hx:a.eval x=.pointer (some ⟨g,o,none⟩)) (hy:a.eval y=.agg cs.toArray) (ht:∀ j,j < cs.length→∃ v,w.cell? ⟨g,o+j,none⟩=some v) (hf:∀ j,w.frozen? ⟨g,j,none⟩=false)
  (hi:(P.info? ty).map (·.size)=some cs.length) (h1:∀ v ∈ cs,v.oneCell'=true)
  (h:wpList P ops Q rest (a.put op.dst undef) (stores w g o cs)):wpList P ops Q (op :: rest) a w:=by
 refine wpList_store_mid hgd ty x y ho g o cs.toArray hx hy (fun j hj=>⟨?_,hf _⟩) (by simpa using hi) (all_oneCell_toArray h1) ?_
 ·obtain ⟨v,hv⟩:=ht j (by simpa using hj)
  rw [hv]
  rfl
 ·have hc:w.setCells g o cs.toArray.toList=stores w g o cs:=stores_cells' g cs o w
  rw [hc]
  exact h
end Go.Proofs.YtednjmldjbndhaaGreatDoor
namespace Go.Proofs.YtednjmldjbndhaaGreatDoor
open Go.RowKit
structure L18S (W0:World) (n:Nat) (R:List (List Value)) (fd ft:Int) (s:ByteArray) (b9 b10:Bool) (x9 x10:Value) (v:World):Prop where
 hb:Below W0.heap.size W0 v
 q:b9=true→∃ B d,x9=.slice B n d∧Own v W0.heap.size 2 1 x9 R
 k:b10=true→b9=true∧x10=.agg #[.int .i64 fd,.int .i64 ft,.string s,x9]
theorem l18Own_c (fd ft:Int) (s:ByteArray) (A:Option Addr) (c:Nat) (l:List Int) (w:World) (hl:l.length ≤ 1048576) (hs:Sl w w.heap.size 1 A (l.map ic)) :
  Calls Tryz.prog 43 #[.agg (formC fd ft s A l.length c).toArray] w fun x w'=>∃ B d,x=.returned (.agg (formC fd ft s B l.length d).toArray)∧Own w' w.heap.size 2 1 (.slice B l.length d) (l.map ic)∧Below w.heap.size w w':=by
 have HC:=Lib.hid (fun W (hW:Below w.heap.size w W)=>l01Own_c A c l W (by omega) ((hs.below hW).more hW.size))
 have hW:Below w.heap.size w ((w.alloc (.cells #[.int .i64 fd,.int .i64 ft,.string s,.slice A l.length c] 29)).alloc (.cells #[.int .i64 0,.int .i64 0,.string ⟨#[]⟩,.slice none 0 0] 29)):=(by repeat first | with_reducible (first | exact Below.refl _ _ | apply below_drewN' | apply Below.drew | refine Below.alloc ?_ ?_ _ | refine Below.setCell ?_ ?_ _) | exact Below.refl _ _ | omega | (simp <;> omega) | (have:=(Below.refl _ _).size;first | omega | (simp <;> omega)))
 have B0:=(Blk.new w 29 #[.int .i64 fd,.int .i64 ft,.string s,.slice A l.length c]).alloc (.cells #[.int .i64 0,.int .i64 0,.string ⟨#[]⟩,.slice none 0 0] 29)
 have Z0:=Blk.new' (w.alloc (.cells #[.int .i64 fd,.int .i64 ft,.string s,.slice A l.length c] 29)) 29 #[.int .i64 0,.int .i64 0,.string ⟨#[]⟩,.slice none 0 0] (g:=w.heap.size+1) (by simp)
 unfold formC
 clear hs
 go_enter Tryz.func43,Tryz.ntmps43
 go_wp2_with fail
 generalize ((w.alloc (.cells #[.int .i64 fd,.int .i64 ft,.string s,.slice A l.length c] 29)).alloc (.cells #[.int .i64 0,.int .i64 0,.string ⟨#[]⟩,.slice none 0 0] 29))=W at *
 have hWs:=Z0.lt
 have hBl:=B0.lt
 refine wp_region_sink 8 (fun a0 fL bA v=>∃ v3 v4 v5 v6 v7 v8 v9 v10:Value,bA=(((((((a0.put (some 3) v3).put (some 4) v4).put (some 5) v5).put (some 6) v6).put (some 7) v7).put (some 8) v8).put (some 9) v9).put (some 10) v10∧(L18S W l.length (l.map ic) fd ft s (fL 6) (fL 7) v9 v10 v)∧(fL 0=true→v3=.pointer (some ⟨w.heap.size,0,none⟩))∧(fL 1=true→v4=.agg #[.int .i64 fd,.int .i64 ft])∧(fL 2=true→v5=.pointer (some ⟨w.heap.size,2,none⟩))∧(fL 3=true→v6=.string s)∧(fL 4=true→v7=.pointer (some ⟨w.heap.size,3,none⟩))∧(fL 5=true→v8=.slice A l.length c)∧(fL 6=true→True)∧(fL 7=true→True)) (by kernel_rfl) (by decide +kernel) ?_ ?_ ?_
 ·exact ⟨_,_,_,_,_,_,_,_,put_more (put_more (put_more (put_more (put_more (put_more (put_more (put_more (rfl) 3) 4) 5) 6) 7) 8) 9) 10,⟨(Below.refl _ _).drew,nofun,nofun⟩,nofun,nofun,nofun,nofun,nofun,nofun,nofun,nofun⟩
 ·rintro fL bA v ⟨v3,v4,v5,v6,v7,v8,v9,v10,rfl,hS,q0,q1,q2,q3,q4,q5,q6,q7⟩ i hi hf o ho hall
  simp only [Act.put,List.setIfInBounds_toArray,List.set_cons_zero,List.set_cons_succ]
  have hn:i=0 ∨ i=1 ∨ i=2 ∨ i=3 ∨ i=4 ∨ i=5 ∨ i=6 ∨ i=7:=by omega
  clear hi
  rcases hn with rfl | rfl | rfl | rfl | rfl | rfl | rfl | rfl
  ·obtain rfl:=Option.some.inj ho
   clear hall ho
   refine wpOp_step rfl (fun K hK=>?_)
   go_simp
   exact hK _ _ ⟨_,_,_,_,_,_,_,_,rfl,hS,fun _=>rfl,q1,q2,q3,q4,q5,fun _=>trivial,fun _=>trivial⟩
  ·obtain rfl:=Option.some.inj ho
   obtain rfl:=q0 (hall ⟨0,.data⟩ (by simp) rfl)
   have z0:v.cell? ⟨w.heap.size,0,none⟩=some (.int .i64 fd):=(B0.below hS.hb hBl).cell 0
   have z1:v.cell? ⟨w.heap.size,1,none⟩=some (.int .i64 ft):=(B0.below hS.hb hBl).cell 1
   clear hall ho
   refine wpOp_step rfl (fun K hK=>?_)
   go_simp
   exact hK _ _ ⟨_,_,_,_,_,_,_,_,rfl,hS,fun _=>rfl,fun _=>rfl,q2,q3,q4,q5,fun _=>trivial,fun _=>trivial⟩
  ·obtain rfl:=Option.some.inj ho
   clear hall ho
   refine wpOp_step rfl (fun K hK=>?_)
   go_simp
   exact hK _ _ ⟨_,_,_,_,_,_,_,_,rfl,hS,q0,q1,fun _=>rfl,q3,q4,q5,fun _=>trivial,fun _=>trivial⟩
  ·obtain rfl:=Option.some.inj ho
   obtain rfl:=q2 (hall ⟨2,.data⟩ (by simp) rfl)
   have z2:v.cell? ⟨w.heap.size,2,none⟩=some (.string s):=(B0.below hS.hb hBl).cell 2
   clear hall ho
   refine wpOp_step rfl (fun K hK=>?_)
   go_simp
   exact hK _ _ ⟨_,_,_,_,_,_,_,_,rfl,hS,q0,q1,fun _=>rfl,fun _=>rfl,q4,q5,fun _=>trivial,fun _=>trivial⟩
  ·obtain rfl:=Option.some.inj ho
   clear hall ho
   refine wpOp_step rfl (fun K hK=>?_)
   go_simp
   exact hK _ _ ⟨_,_,_,_,_,_,_,_,rfl,hS,q0,q1,q2,q3,fun _=>rfl,q5,fun _=>trivial,fun _=>trivial⟩
  ·obtain rfl:=Option.some.inj ho
   obtain rfl:=q4 (hall ⟨4,.data⟩ (by simp) rfl)
   have z3:v.cell? ⟨w.heap.size,3,none⟩=some (.slice A l.length c):=(B0.below hS.hb hBl).cell 3
   clear hall ho
   refine wpOp_step rfl (fun K hK=>?_)
   go_simp
   exact hK _ _ ⟨_,_,_,_,_,_,_,_,rfl,hS,q0,q1,q2,q3,fun _=>rfl,fun _=>rfl,fun _=>trivial,fun _=>trivial⟩
  ·obtain rfl:=Option.some.inj ho
   obtain rfl:=q5 (hall ⟨5,.data⟩ (by simp) rfl)
   clear hall ho
   refine wpOp_step rfl (fun K hK=>?_)
   go_simp
   refine Calls.mono (HC.out v (hW.trans (hS.hb.mono hW.size))) ?_;rintro e w7 ⟨B7,d7,rfl,O7,hb7⟩
   go_simp
   exact hK _ _ ⟨_,_,_,_,_,_,_,_,rfl,⟨hS.hb.trans (hb7.mono hS.hb.size),fun _=>⟨B7,d7,rfl,O7.mono hS.hb.size⟩,fun e=>absurd (hS.k e).1 (by rw [hf];simp)⟩,q0,q1,q2,q3,q4,fun _=>rfl,fun _=>trivial,fun _=>trivial⟩
  ·obtain rfl:=Option.some.inj ho
   obtain rfl:=q1 (hall ⟨1,.data⟩ (by simp) rfl)
   obtain rfl:=q3 (hall ⟨3,.data⟩ (by simp) rfl)
   have e6:fL 6=true:=hall ⟨6,.data⟩ (by simp) rfl
   obtain ⟨B7,d7,rfl,O7⟩:=hS.q e6
   clear hall ho
   refine wpOp_step rfl (fun K hK=>?_)
   go_simp
   exact hK _ _ ⟨_,_,_,_,_,_,_,_,rfl,⟨hS.hb,hS.q,fun _=>⟨e6,rfl⟩⟩,q0,fun _=>rfl,q2,fun _=>rfl,q4,q5,fun _=>trivial,fun _=>trivial⟩
 ·rintro fL bA v ⟨v3,v4,v5,v6,v7,v8,v9,v10,rfl,hS,q0,q1,q2,q3,q4,q5,q6,q7⟩ hall
  simp only [Act.put,List.setIfInBounds_toArray,List.set_cons_zero,List.set_cons_succ]
  obtain rfl:=q0 (hall 0 (by omega))
  obtain rfl:=q1 (hall 1 (by omega))
  obtain rfl:=q2 (hall 2 (by omega))
  obtain rfl:=q3 (hall 3 (by omega))
  obtain rfl:=q4 (hall 4 (by omega))
  obtain rfl:=q5 (hall 5 (by omega))
  have e6:fL 6=true:=hall 6 (by omega)
  have e7:fL 7=true:=hall 7 (by omega)
  clear hall
  simp only [List.drop_succ_cons,List.drop_zero]
  obtain ⟨B,d,rfl,O⟩:=hS.q e6
  obtain ⟨_,rfl⟩:=hS.k e7
  have hb1:=hS.hb
  clear hS
  obtain ⟨w1,hnm⟩:∃ u,u=v:=⟨_,rfl⟩
  subst hnm
  replace B0:=B0.below hb1 B0.lt
  replace Z0:=Z0.below hb1 Z0.lt
  replace hW:=hW.trans (hb1.mono hW.size)
  clear hb1
  clear HC
  have hge:=O.ownGe
  go_wp2_with (refine wpList_store_part rfl 29 _ _ rfl (w.heap.size+1) 0 [Value.int .i64 fd,.int .i64 ft,.string s,.slice B l.length d] rfl rfl (L:=[Value.int .i64 0,.int .i64 0,.string ⟨#[]⟩,.slice none 0 0]) Z0 (by simp) (by kernel_rfl) (formC_one fd ft s B l.length d) ?_;intro w4 hg4 D4;refine Hid.out ?_)
  refine Lib.hid ?_
  have D5:Blk w4 (w.heap.size+1) 29 [Value.int .i64 fd,.int .i64 ft,.string s,.slice B l.length d].toArray:=D4
  have O4:=O.kept hg4 (.inr (fun h=>by have:=hge _ h;omega))
  have hW4:Below w.heap.size w w4:=hW.grown hg4 hW.size (fun g hh=>by simp only [Option.some.injEq] at hh;omega)
  have hs2:w.heap.size ≤ W.heap.size:=by omega
  clear D4 Z0 B0 O hW
  go_wp2_with fail
  refine bodyPost_ret (res_cells (k:=2) (vs:=[Value.int .i64 fd,.int .i64 ft,.string s,.slice B l.length d]) Tryz.results43 rfl (aggFo w4) (szFoC w4) D5) rfl ⟨B,d,rfl,O4.mono hs2,hW4⟩
theorem EnR.one {l:List EnR}:∀ y ∈ l.map EnR.cells,∀ u ∈ y,u.oneCell'=true:=fun y hy u hu=>by
 obtain ⟨x,_,rfl⟩:=List.mem_map.1 hy
 exact x.e.one x.A x.c u hu
end Go.Proofs.YtednjmldjbndhaaGreatDoor
namespace Go.Proofs.YtednjmldjbndhaaGreatDoor
open Go.RowKit
structure Kb (bad:Nat→Prop) (w w':World):Prop where
 os:w'.os=w.os
 tape:w'.tape=w.tape
 output:w'.output=w.output
 size:w.heap.size ≤ w'.heap.size
 block:∀ k,k < w.heap.size→¬ bad k→w'.heap[k]?=w.heap[k]?
section
variable {bad : Nat → Prop} {w w' w1 w2 a : World} {B g base k : Nat} {t e : TypeId} {cs : Array Value} {u : Value} {xs : List (List Value)} {r : Option Nat}
theorem Kb.of_grown (h:w.grownBy w' r) (hr:∀ k,some k=r→bad k):Kb bad w w':=⟨h.os,h.tape,h.output,h.size,fun k hk hn=>h.block k hk (fun e=>hn (hr k e))⟩
theorem Kb.of_below (h:Below w.heap.size w w'):Kb bad w w':=⟨h.os,h.tape,h.output,h.size,fun k hk _=>h.block k hk⟩
theorem Kb.trans (h1:Kb bad w w1) (h2:Kb bad w1 w2):Kb bad w w2:=⟨h2.os.trans h1.os,h2.tape.trans h1.tape,h2.output.trans h1.output,Nat.le_trans h1.size h2.size,fun k hk hn=>(h2.block k (Nat.lt_of_lt_of_le hk h1.size) hn).trans (h1.block k hk hn)⟩
theorem Blk.kb (h:Blk w g t cs) (hk:Kb bad w w') (hn:¬ bad g):Blk w' g t cs:=(hk.block g h.lt hn).trans h
theorem Own.kb (h:Own w base e k u xs) (hk:Kb bad w w') (hn:∀ x,u.ownBlock=some x→¬ bad x):Own w' base e k u xs:=by
 obtain ⟨⟨h1,h2⟩,h3⟩:=h
 refine ⟨⟨h1,?_⟩,h3⟩
 rcases h2 with h2 | ⟨g,cap,cur,hv,hg,hh,r⟩
 ·exact Or.inl h2
 ·refine Or.inr ⟨g,cap,cur,hv,hg,?_,r⟩
  have hlt:g < w.heap.size:=by
   rcases Nat.lt_or_ge g w.heap.size with hlt | hge
   ·exact hlt
   ·rw [Array.getElem?_eq_none hge] at hh;cases hh
  rw [hk.block g hlt (hn g (by rw [hv];rfl))]
  exact hh
end
end Go.Proofs.YtednjmldjbndhaaGreatDoor
namespace Go.Proofs.YtednjmldjbndhaaGreatDoor
open Go.RowKit
def Nb (lo hi:Nat) (k:Nat):Prop:=lo ≤ k∧k < hi
theorem kb_set {w:World} {bad:Nat→Prop} {g o:Nat} {u:Value} (h:bad g):Kb bad w (w.setCell ⟨g,o,none⟩ u) :=
 Kb.of_grown (r:=some g) (grownBy_stores [u] o (World.grownBy.refl w (some g))) (fun k hk=>by cases hk;exact h)
theorem own_set {w:World} {base:Nat} {e:TypeId} {k g o:Nat} {u v:Value} {xs:List (List Value)} (h:Own w base e k v xs) (hn:v.ownBlock=none ∨ v.ownBlock ≠ some g):Own (w.setCell ⟨g,o,none⟩ u) base e k v xs :=
 h.kept (grownBy_stores [u] o (World.grownBy.refl w (some g))) hn
end Go.Proofs.YtednjmldjbndhaaGreatDoor
namespace Go.Proofs.YtednjmldjbndhaaGreatDoor
open Go.RowKit
structure MkE (base hi g N:Nat) (fs:List EnR) (w wr:World):Prop where
 kb:Kb (Nb base hi) w wr
 bl:∃ cs:Array Value,Blk wr g 35 cs∧cs.size=N∧∀ (i:Nat) (f:EnR),fs[i]?=some f→cs[i * 20+5]?=some f.sl
 ow:∀ f ∈ fs,∃ xs:List (List Value),xs.length=f.e.r.l.length∧Own wr base 2 1 f.sl xs
structure MkF (base hi g N:Nat) (fs:List EnR):Prop where
 gl:base ≤ g∧g < hi
 nl:fs.length * 20 ≤ N
 off:∀ f ∈ fs,f.sl.ownBlock ≠ some g
 hi:∀ f ∈ fs,∀ b,f.sl.ownBlock=some b→b < hi
 ap:fs.Pairwise EnR.apart
section
variable {base hi g N : Nat} {fs : List EnR} {w wr w2 : World}
theorem ne_of_some {x:Option Nat} {g:Nat} (h:x ≠ some g):x=none ∨ x ≠ some g:=.inr h
theorem MkE.below (h:MkE base hi g N fs w wr) (hb:Below wr.heap.size wr w2):MkE base hi g N fs w w2:=by
 obtain ⟨cs,h1,h2,h3⟩:=h.bl
 exact ⟨h.kb.trans (Kb.of_below hb),⟨cs,h1.below hb h1.lt,h2,h3⟩,fun f hf=>let ⟨xs,a,b⟩:=h.ow f hf;⟨xs,a,b.below hb⟩⟩
theorem MkE.set (F:MkF base hi g N fs) (h:MkE base hi g N fs w wr) (o:Nat) (u:Value) (h5:∀ i,o ≠ i * 20+5):MkE base hi g N fs w (wr.setCell ⟨g,o,none⟩ u):=by
 obtain ⟨cs,h1,h2,h3⟩:=h.bl
 exact ⟨h.kb.trans (kb_set F.gl),⟨_,h1.set_ o u,by simpa using h2,fun i f hi=>by rw [Array.getElem?_setIfInBounds_ne (h5 i)];exact h3 i f hi⟩,
  fun f hf=>let ⟨xs,a,b⟩:=h.ow f hf;⟨xs,a,own_set b (ne_of_some (F.off f hf))⟩⟩
theorem MkE.cell (h:MkE base hi g N fs w wr) {o:Nat} (ho:o < N):∃ u,wr.cell? ⟨g,o,none⟩=some u:=by
 obtain ⟨cs,h1,h2,_⟩:=h.bl
 exact ⟨cs[o]'(by omega),by rw [h1.cell,Array.getElem?_eq_getElem]⟩
theorem MkE.frozen (h:MkE base hi g N fs w wr) (o:Nat):wr.frozen? ⟨g,o,none⟩=false:=by
 obtain ⟨cs,h1,_⟩:=h.bl
 exact h1.frozen o
theorem MkE.c5 (h:MkE base hi g N fs w wr) {k:Nat} (hk:k < fs.length):wr.cell? ⟨g,k * 20+5,none⟩=some (.slice fs[k].A fs[k].e.r.l.length fs[k].c):=by
 obtain ⟨cs,h1,_,h3⟩:=h.bl
 rw [h1.cell]
 exact h3 k _ (List.getElem?_eq_getElem hk)
end
end Go.Proofs.YtednjmldjbndhaaGreatDoor
namespace Go.Proofs.YtednjmldjbndhaaGreatDoor
open Go.RowKit
def addC (l:List En) (e:En):Int:=if catB l=true then (if (decide (l.length=12) || !entB l e)=true then 5 else 0) else 1
def addR (l:List En) (e:En):List En:=if addC l e=0 then l ++ [e] else []
theorem entAt_snoc {l:List En} {e:En} {k:Nat} (hk:k < l.length):entAt (l ++ [e]) k=entAt l k:=by
 unfold entAt
 rw [List.getElem?_append_left hk,List.take_append_of_le_length (by omega)]
theorem catTo_snoc (l:List En) (e:En):∀ k:Nat,k ≤ l.length→catTo (l ++ [e]) k=catTo l k
 | 0,_=>rfl
 | k+1,hk=>by rw [catTo_succ,catTo_succ,catTo_snoc l e k (by omega),entAt_snoc (by omega)]
theorem catB_snoc {l:List En} (e:En) (h:catB l=true):catB (l ++ [e])=!(decide (l.length=12) || !entB l e):=by
 have hl:=catB_len h
 unfold catB at h ⊢
 simp only [Bool.and_eq_true] at h
 have h1:(l ++ [e]).length=l.length+1:=by simp
 rw [h1,catTo_succ,catTo_snoc l e _ (Nat.le_refl _),h.1,Bool.true_and,entAt_get (by simp)]
 rw [List.take_append_of_le_length (Nat.le_refl _),List.take_length]
 have h2:(l ++ [e])[l.length]'(by simp)=e:=by simp
 rw [h2]
 have h3:decide (l.length+1 ≤ 12)=!decide (l.length=12):=by
  by_cases hh:l.length=12
  ·simp [hh]
  ·have:l.length+1 ≤ 12:=by omega
   simp [hh,this]
 rw [h3]
 cases entB l e <;> cases decide (l.length=12) <;> rfl
def EnsOwn (L:List En) (v:Value) (w':World) (base:Nat):Prop:=∃ A' c' fs,v=.slice A' L.length c'∧ens fs=L∧EnsIn w' A' fs∧Own w' base 35 20 (.slice A' L.length c') (fs.map EnR.cells) ∧
 (∀ f ∈ fs,Own w' base 2 1 f.sl (f.e.r.l.map ic)∧∀ g,A'=some ⟨g,0,none⟩→OffE f.A g)∧fs.Pairwise EnR.apart
theorem EnsOwn.nil (w':World) (base:Nat):EnsOwn [] (.slice none 0 0) w' base :=
 ⟨none,0,[],rfl,rfl,⟨by simp,by simpa using Sl.nil_,by simp⟩,Own.nil_,by simp,List.Pairwise.nil⟩
def PostEns (L:List En) (code:Int) (w:World) (e:Ending) (w':World):Prop:=∃ v,e=.returned (.tuple #[v,.int .i64 code])∧EnsOwn L v w' w.heap.size∧Below w.heap.size w w'
theorem off_of_ne {w:World} {base:Nat} {e:TypeId} {k n c g:Nat} {A:Option Addr} {xs:List (List Value)} (h:Own w base e k (.slice A n c) xs) (hn:(Value.slice A n c).ownBlock ≠ some g):OffE A g:=fun b off hA hb=>by
 subst hA hb
 exact hn rfl
structure AdL (w:World) (L:List En) (k:Nat) (fs:List EnR) (V:Value) (wr:World):Prop where
 hb:Below w.heap.size w wr
 fk:fs.length=k
 o:Own wr w.heap.size 35 20 V (fs.map EnR.cells)
 i:∀ f ∈ fs,f.In wr∧∀ b,f.sl.ownBlock=some b→V.ownBlock ≠ some b
 p:∀ f ∈ fs,Own wr w.heap.size 2 1 f.sl (f.e.r.l.map ic)
 d:fs.Pairwise EnR.apart
 s:ens fs=L.take k
section
variable {w wr w2 : World} {L : List En} {k : Nat} {fs : List EnR} {V V' : Value}
theorem AdL.below (h:AdL w L k fs V wr) (hb:Below wr.heap.size wr w2):AdL w L k fs V w2 :=
 ⟨h.hb.trans (hb.mono h.hb.size),h.fk,h.o.below hb,fun f hf=>⟨EnIn.later (h.i f hf).1 hb,(h.i f hf).2⟩,fun f hf=>(h.p f hf).below hb,h.d,h.s⟩
theorem AdL.grown (h:AdL w L k fs V wr) {g:Nat} (hg:wr.grownBy w2 (some g)) (hgl:w.heap.size ≤ g) (hV:V.ownBlock ≠ some g) (hf:∀ f ∈ fs,f.sl.ownBlock ≠ some g):AdL w L k fs V w2:=by
 refine ⟨h.hb.grown hg h.hb.size (fun b e=>by simp only [Option.some.injEq] at e;omega),h.fk,h.o.kept hg (.inr hV),fun f hf'=>⟨?_,(h.i f hf').2⟩,fun f hf'=>(h.p f hf').kept hg (.inr (hf f hf')),h.d,h.s⟩
 have hp:=(h.p f hf').kept hg (.inr (hf f hf'))
 exact ⟨(h.i f hf').1.t,(h.i f hf').1.r.h,(h.i f hf').1.r.hn,hp.sl⟩
theorem AdL.done (h:AdL w L L.length fs V wr) (hl:L.length ≤ 1048576):EnsOwn L V wr w.heap.size:=by
 obtain ⟨A,c,rfl,_⟩:=h.o.form
 have hn:(fs.map EnR.cells).length=L.length:=by rw [List.length_map,h.fk]
 rw [hn]
 have ho:=h.o
 rw [hn] at ho
 refine ⟨A,c,fs,rfl,by rw [h.s,List.take_length],⟨by rw [h.fk];exact hl,ho.sl,fun f hf=>(h.i f hf).1⟩,ho,fun f hf=>⟨h.p f hf,fun g hg=>?_⟩,h.d⟩
 subst hg
 refine off_of_ne (h.p f hf) (fun e=>(h.i f hf).2 g e ?_)
 rfl
end
end Go.Proofs.YtednjmldjbndhaaGreatDoor
namespace Go.Proofs.YtednjmldjbndhaaGreatDoor
open Go.RowKit
theorem Own.lit1 {w:World} {base:Nat} {e:TypeId} {k:Nat} {cs:List Value} (hb:base ≤ w.heap.size) (hk:cs.length=k):Own (w.alloc (.cells cs.toArray e)) base e k (.slice (some ⟨w.heap.size,0,none⟩) 1 1) [cs]:=by
 refine ⟨?_,by simpa using hk⟩
 have:=World.ownsRow_lit (base:=base) (e:=e) (size:=k) w cs.toArray 1 hb (by simp [maxLen]) (by simp [hk])
 simpa using this
theorem wp_build_one {P:Program} {o:Oper} {a:Act} {w:World} {K:Act→World→Prop} {Q:Exit→Act→World→Prop} (t e:TypeId) (x:Operand) (ho:o.op=.buildSlice t 1 #[(0,x)])
  (cs:List Value) (k:Nat) (hk:cs.length=k) (h0:0 < k) (hsm:k ≤ 2 ^ 24) (hx:a.eval x=.agg cs.toArray) (ie:TypeInfo) (z:Value)
  (hu:P.underlying t=some (.slice e)) (hie:P.info? e=some ie) (hz:ie.zero=some z) (hsize:ie.size=k)
  (h:K (a.put o.dst (.slice (some ⟨w.heap.size,0,none⟩) 1 1)) (w.alloc (.cells cs.toArray e))):o.wp P a w K Q:=by
 refine wp_buildSlice t e 1 _ ho cs.toArray ie z hu hie hz (by rw [hsize];omega) (by rw [hsize];omega) ?_ h
 have hcs:(Value.agg cs.toArray).cells=cs.toArray:=rfl
 have hf:=Great.fill_whole (s:=k) h0 [Value.agg cs.toArray] ((Array.range (1 * ie.size)).map (z.cells[· % z.cells.size]!)) (by intro v hv;obtain rfl:v=Value.agg cs.toArray:=(by simpa using hv);rw [hcs];simpa using hk) (by simp [hsize])
 rw [hsize] at hf ⊢
 simpa [hx,hcs] using hf
theorem wpList_build_one {P:Program} {ops:Array Oper} {rest:List Oper} {o:Oper} {a:Act} {w:World} {Q:Exit→Act→World→Prop} (hg:o.guard=none) (t e:TypeId) (x:Operand) (ho:o.op=.buildSlice t 1 #[(0,x)])
  (cs:List Value) (k:Nat) (hk:cs.length=k) (h0:0 < k) (hsm:k ≤ 2 ^ 24) (hx:a.eval x=.agg cs.toArray) (ie:TypeInfo) (z:Value)
  (hu:P.underlying t=some (.slice e)) (hie:P.info? e=some ie) (hz:ie.zero=some z) (hsize:ie.size=k)
  (h:wpList P ops Q rest (a.put o.dst (.slice (some ⟨w.heap.size,0,none⟩) 1 1)) (w.alloc (.cells cs.toArray e))):wpList P ops Q (o :: rest) a w :=
 wpList_plain hg fun _ hK=>wp_build_one t e x ho cs k hk h0 hsm hx ie z hu hie hz hsize (hK _ _ h)
structure AdS (W0:World) (n:Nat) (L:List (List Value)) (cs:List Value) (b1 b3 b4:Bool) (x1 x3 x4:Value) (v:World):Prop where
 hb:Below W0.heap.size W0 v
 q1:b1=true→b4=false→∃ B d,x1=.slice B n d∧Own v W0.heap.size 35 20 x1 L
 q3:b3=true→b4=false→∃ g,x3=.slice (some ⟨g,0,none⟩) 1 1∧Own v W0.heap.size 35 20 x3 [cs]
 q4:b4=true→(b1=true∧b3=true)∧∃ B d,x4=.slice B (n+1) d∧Own v W0.heap.size 35 20 x4 (L ++ [cs])
theorem addC_cases {l:List En} {e:En}:(catB l=false→addC l e=1∧addR l e=[])∧(catB l=true→(l.length=12 ∨ entB l e=false)→addC l e=5∧addR l e=[])∧(catB l=true→l.length ≠ 12→entB l e=true→addC l e=0∧addR l e=l ++ [e]):=by
 refine ⟨fun h=>?_,fun h h2=>?_,fun h h2 h3=>?_⟩
 ·have:addC l e=1:=by unfold addC;rw [h];rfl
  exact ⟨this,by unfold addR;rw [this];rfl⟩
 ·have:addC l e=5:=by
   unfold addC
   rw [h,if_pos rfl,if_pos]
   rcases h2 with h2 | h2 <;> simp [h2]
  exact ⟨this,by unfold addR;rw [this];rfl⟩
 ·have:addC l e=0:=by
   unfold addC
   rw [h,if_pos rfl,if_neg]
   simp [h2,h3]
  exact ⟨this,by unfold addR;rw [this];rfl⟩
end Go.Proofs.YtednjmldjbndhaaGreatDoor
namespace Go.Proofs.YtednjmldjbndhaaGreatDoor
open Go.RowKit
theorem Own.store_part {w:World} {base:Nat} {e:TypeId} {k g n cap:Nat} {xs:List (List Value)} (h:Own w base e k (.slice (some ⟨g,0,none⟩) n cap) xs) {i:Nat} (hi:i < xs.length) (P S T ys:List Value) (hx:xs[i]=P ++ S ++ T) (hy:ys.length=S.length) :
  Own (stores w g (i * k+P.length) ys) base e k (.slice (some ⟨g,0,none⟩) n cap) (xs.set i (P ++ ys ++ T)):=by
 obtain ⟨h1,h2⟩:=h
 have hn:n=xs.length:=by
  rcases h1.2 with ⟨h',_⟩ | ⟨g',cap',cur,h',_⟩
  ·simp at h'
  ·simp only [Value.slice.injEq] at h';exact h'.2.1
 subst hn
 refine ⟨?_,fun y hm=>?_⟩
 ·rw [List.length_set,flat_set hi]
  rw [flat_split hi,hx] at h1
  have h3:=ownsRow_stores ys (i * k+P.length) w ((xs.take i).flatten ++ P) S (T ++ (xs.drop (i+1)).flatten) (by simpa only [List.append_assoc] using h1) (by
   rw [List.length_append,flat_length fun z hz=>h2 z (List.mem_of_mem_take hz),List.length_take,Nat.min_eq_left (by omega)]) hy.symm
  simpa only [List.append_assoc] using h3
 ·rcases List.mem_or_eq_of_mem_set hm with h | rfl
  ·exact h2 y h
  ·have:=h2 _ (List.getElem_mem hi)
   rw [hx] at this
   simp only [List.length_append] at this ⊢
   omega
theorem Own.some1 {w:World} {base:Nat} {e:TypeId} {k:Nat} {v:Value} {xs:List (List Value)} (h:Own w base e k v xs) (hx:0 < xs.length):∃ g c,v=.slice (some ⟨g,0,none⟩) xs.length c:=by
 rcases h.1.2 with ⟨_,h0⟩ | ⟨g,cap,cur,rfl,_⟩
 ·omega
 ·exact ⟨g,cap,rfl⟩
structure AdT (W0:World) (n:Nat) (L:List (List Value)) (cs:List Value) (b0 b2 b4 b5:Bool) (x0 x2 x4 x5:Value) (v:World):Prop where
 hb:Below W0.heap.size W0 v
 q0:b0=true→b2=false→∃ g,x0=.slice (some ⟨g,0,none⟩) 0 0∧Own v W0.heap.size 35 20 x0 []
 q2:b2=true→b0=true∧(b5=false→∃ B d,x2=.slice B n d∧Own v W0.heap.size 35 20 x2 L)
 q4:b4=true→b5=false→∃ g,x4=.slice (some ⟨g,0,none⟩) 1 1∧Own v W0.heap.size 35 20 x4 [cs]
 q5:b5=true→(b2=true∧b4=true)∧∃ B d,x5=.slice B (n+1) d∧Own v W0.heap.size 35 20 x5 (L ++ [cs])
 ap:b0=true→b4=true→b2=false→x4.ownBlock ≠ x0.ownBlock
theorem addC_cases2 {l:List En} {e:En}:(catB l=false→addC l e=1∧addR l e=[])∧(catB l=true→catB (l ++ [e])=false→addC l e=5∧addR l e=[])∧(catB l=true→catB (l ++ [e])=true→addC l e=0∧addR l e=l ++ [e]):=by
 refine ⟨addC_cases.1,fun h h2=>?_,fun h h2=>?_⟩
 ·rw [catB_snoc e h] at h2
  refine addC_cases.2.1 h ?_
  by_cases h3:l.length=12
  ·exact .inl h3
  ·exact .inr (by simpa [h3] using h2)
 ·rw [catB_snoc e h] at h2
  have h3:¬ l.length=12:=fun h3=>by simp [h3] at h2
  exact addC_cases.2.2 h h3 (by simpa [h3] using h2)
theorem range_mid {w:World} {g o:Nat} {P S T:List Value} (h:w.rangeAt g o (P ++ S ++ T)):w.rangeAt g (o+P.length) S:=fun j v hv=>by
 have hj:j < S.length:=(List.getElem?_eq_some_iff.1 hv).1
 have h2:=h (P.length+j) v (by rw [List.getElem?_append_left (by simp;omega),List.getElem?_append_right (by omega),Nat.add_sub_cancel_left];exact hv)
 rw [Nat.add_assoc]
 exact h2
structure SpL (w:World) (xs:List EnR) (k:Nat) (fs:List EnR) (g n c:Nat) (wr:World):Prop where
 hb:Below w.heap.size w wr
 fk:fs.length=k
 o:Own wr w.heap.size 35 20 (.slice (some ⟨g,0,none⟩) n c) ((fs ++ xs.drop k).map EnR.cells)
 i:∀ f ∈ fs,f.In wr∧f.sl.ownBlock ≠ some g
 p:∀ f ∈ fs,Own wr w.heap.size 2 1 f.sl (f.e.r.l.map ic)
 d:fs.Pairwise EnR.apart
 s:ens fs=(ens xs).take k
section
variable {w wr w2 : World} {xs : List EnR} {k g n c : Nat} {fs : List EnR}
theorem SpL.below (h:SpL w xs k fs g n c wr) (hb:Below wr.heap.size wr w2):SpL w xs k fs g n c w2 :=
 ⟨h.hb.trans (hb.mono h.hb.size),h.fk,h.o.below hb,fun f hf=>⟨EnIn.later (h.i f hf).1 hb,(h.i f hf).2⟩,fun f hf=>(h.p f hf).below hb,h.d,h.s⟩
theorem SpL.next (h:SpL w xs k fs g n c wr) (hk:k < xs.length) {f:EnR} (hf:f.e=xs[k].e) (hi:f.In wr) (hp:Own wr w.heap.size 2 1 f.sl (f.e.r.l.map ic)) (hV:f.sl.ownBlock ≠ some g) (hap:∀ x ∈ fs,EnR.apart x f)
  (hg:wr.grownBy w2 (some g)) (h2:Own w2 w.heap.size 35 20 (.slice (some ⟨g,0,none⟩) n c) (((fs ++ xs.drop k).map EnR.cells).set k f.cells)):SpL w xs (k+1) (fs ++ [f]) g n c w2:=by
 have hpw:∀ x ∈ fs ++ [f],Own wr w.heap.size 2 1 x.sl (x.e.r.l.map ic)∧x.In wr∧x.sl.ownBlock ≠ some g:=fun x hx=>by
  rcases List.mem_append.1 hx with hx | hx
  ·exact ⟨h.p x hx,h.i x hx⟩
  ·obtain rfl:x=f:=by simpa using hx
   exact ⟨hp,hi,hV⟩
 have hp2:∀ x ∈ fs ++ [f],Own w2 w.heap.size 2 1 x.sl (x.e.r.l.map ic):=fun x hx=>(hpw x hx).1.kept hg (.inr (hpw x hx).2.2)
 have hge:=h.o.ownGe
 have hrow:((fs ++ xs.drop k).map EnR.cells).set k f.cells=((fs ++ [f]) ++ xs.drop (k+1)).map EnR.cells:=by
  rw [← List.map_set,List.set_append_right _ _ (Nat.le_of_eq h.fk),h.fk,Nat.sub_self,List.drop_eq_getElem_cons hk,List.set_cons_zero]
  simp
 refine ⟨h.hb.grown hg h.hb.size (fun b e=>hge b e),by simp [h.fk],hrow ▸ h2,fun x hx=>⟨⟨(hpw x hx).2.1.t,(hpw x hx).2.1.r.h,(hpw x hx).2.1.r.hn,(hp2 x hx).sl⟩,(hpw x hx).2.2⟩,hp2,?_,?_⟩
 ·rw [List.pairwise_append]
  refine ⟨h.d,List.pairwise_singleton _ _,fun x hx y hy=>?_⟩
  obtain rfl:y=f:=by simpa using hy
  exact hap x hx
 ·have hk2:k < (ens xs).length:=by rw [ens_len];exact hk
  rw [List.take_succ_eq_append_getElem hk2,← h.s,ens_get hk]
  simp [ens,hf]
theorem SpL.row (h:SpL w xs k fs g n c wr) (hk:k < xs.length):∃ hi:k < ((fs ++ xs.drop k).map EnR.cells).length,((fs ++ xs.drop k).map EnR.cells)[k]=xs[k].cells∧wr.rangeAt g (k * 20) xs[k].cells:=by
 have hi:k < ((fs ++ xs.drop k).map EnR.cells).length:=by simp [h.fk];omega
 have hx:((fs ++ xs.drop k).map EnR.cells)[k]=xs[k].cells:=by simp [List.getElem_append_right,h.fk]
 obtain ⟨b,off,he,_,hr⟩:=h.o.sl.rg hi
 simp only [Option.some.injEq,Addr.mk.injEq,and_true] at he
 obtain ⟨rfl,rfl⟩:=he
 rw [hx,Nat.zero_add] at hr
 exact ⟨hi,hx,hr⟩
theorem SpL.done (h:SpL w xs xs.length fs g n c wr) (hl:xs.length ≤ 1048576) (hn:n=xs.length):EnsOwn (ens xs) (.slice (some ⟨g,0,none⟩) n c) wr w.heap.size:=by
 subst hn
 have ho:=h.o
 rw [List.drop_length,List.append_nil] at ho
 have hE:(ens xs).length=xs.length:=ens_len xs
 refine ⟨some ⟨g,0,none⟩,c,fs,by rw [hE],by rw [h.s,← hE,List.take_length],⟨by rw [h.fk];exact hl,ho.sl,fun f hf=>(h.i f hf).1⟩,by rw [hE];exact ho,fun f hf=>⟨h.p f hf,fun g' hg=>?_⟩,h.d⟩
 obtain rfl:g=g':=by simpa using hg
 exact off_of_ne (h.p f hf) (h.i f hf).2
end
end Go.Proofs.YtednjmldjbndhaaGreatDoor
namespace Go.Proofs.YtednjmldjbndhaaGreatDoor
open Go.RowKit
end Go.Proofs.YtednjmldjbndhaaGreatDoor
