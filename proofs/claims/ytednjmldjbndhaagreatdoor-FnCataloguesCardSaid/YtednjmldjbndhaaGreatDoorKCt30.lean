/- A literal of one struct whose cells stand behind a name; what a region holds that clones a list and lays an entry on. No condition of their own. A part of a row of the call's own stored anew; what the reference's AddEntry holds on its way. No condition of their own. -/
import Derived.Great.FillDense
import Derived.Great.Walk
import Derived.Test.YtednjmldjbndhaaGreatDoorKCt18
import Derived.Test.YtednjmldjbndhaaGreatDoorKCt24
set_option linter.unusedSimpArgs false
set_option linter.unusedVariables false
set_option maxRecDepth 100000
set_option maxHeartbeats 8000000
namespace Go.Proofs.YtednjmldjbndhaaGreatDoor
open Go.RowKit
theorem Own.lit1 {w:World} {base:Nat} {e:TypeId} {k:Nat} {cs:List Value} (hb:base ≤ w.heap.size) (hk:cs.length=k):Own (w.alloc (.cells cs.toArray e)) base e k (.slice (some ⟨w.heap.size,0,none⟩) 1 1) [cs]:=by
 refine ⟨?_,by simpa using hk⟩
 have:=World.ownsRow_lit (base:=base) (e:=e) (size:=k) w cs.toArray 1 hb (by simp [maxLen]) (by simp [hk])
 simpa using this
theorem wp_build_one {P:Program} {o:Oper} {a:Act} {w:World} {K:Act→World→Prop} {Q:Exit→Act→World→Prop} (t e:TypeId) (x:Operand) (ho:o.op=.buildSlice t 1 #[(0,x)])
  (cs:List Value) (k:Nat) (hk:cs.length=k) (h0:0 < k) (hsm:k ≤ 2 ^ 24) (hx:a.eval x=.agg cs.toArray) (ie:TypeInfo) (z:Value)
  (hu:P.underlying t=some (.slice e)) (hie:P.info? e=some ie) (hz:ie.zero=some z) (hsize:ie.size=k)
  (h:K (a.put o.dst (.slice (some ⟨w.heap.size,0,none⟩) 1 1)) (w.alloc (.cells cs.toArray e))):o.wp P a w K Q:=by
 refine wp_buildSlice t e 1 _ ho cs.toArray ie z hu hie hz (by rw [hsize];omega) (by rw [hsize];omega) ?_ h
 have hcs:(Value.agg cs.toArray).cells=cs.toArray:=rfl
 have hf:=Great.fill_whole (s:=k) h0 [Value.agg cs.toArray] ((Array.range (1 * ie.size)).map (z.cells[· % z.cells.size]!)) (by intro v hv;obtain rfl:v=Value.agg cs.toArray:=(by simpa using hv);rw [hcs];simpa using hk) (by simp [hsize])
 rw [hsize] at hf ⊢
 simpa [hx,hcs] using hf
theorem wpList_build_one {P:Program} {ops:Array Oper} {rest:List Oper} {o:Oper} {a:Act} {w:World} {Q:Exit→Act→World→Prop} (hg:o.guard=none) (t e:TypeId) (x:Operand) (ho:o.op=.buildSlice t 1 #[(0,x)])
  (cs:List Value) (k:Nat) (hk:cs.length=k) (h0:0 < k) (hsm:k ≤ 2 ^ 24) (hx:a.eval x=.agg cs.toArray) (ie:TypeInfo) (z:Value)
  (hu:P.underlying t=some (.slice e)) (hie:P.info? e=some ie) (hz:ie.zero=some z) (hsize:ie.size=k)
  (h:wpList P ops Q rest (a.put o.dst (.slice (some ⟨w.heap.size,0,none⟩) 1 1)) (w.alloc (.cells cs.toArray e))):wpList P ops Q (o :: rest) a w :=
 wpList_plain hg fun _ hK=>wp_build_one t e x ho cs k hk h0 hsm hx ie z hu hie hz hsize (hK _ _ h)
structure AdS (W0:World) (n:Nat) (L:List (List Value)) (cs:List Value) (b1 b3 b4:Bool) (x1 x3 x4:Value) (v:World):Prop where
 hb:Below W0.heap.size W0 v
 q1:b1=true→b4=false→∃ B d,x1=.slice B n d∧Own v W0.heap.size 35 20 x1 L
 q3:b3=true→b4=false→∃ g,x3=.slice (some ⟨g,0,none⟩) 1 1∧Own v W0.heap.size 35 20 x3 [cs]
 q4:b4=true→(b1=true∧b3=true)∧∃ B d,x4=.slice B (n+1) d∧Own v W0.heap.size 35 20 x4 (L ++ [cs])
theorem addC_cases {l:List En} {e:En}:(catB l=false→addC l e=1∧addR l e=[])∧(catB l=true→(l.length=12 ∨ entB l e=false)→addC l e=5∧addR l e=[])∧(catB l=true→l.length ≠ 12→entB l e=true→addC l e=0∧addR l e=l ++ [e]):=by
 refine ⟨fun h=>?_,fun h h2=>?_,fun h h2 h3=>?_⟩
 ·have:addC l e=1:=by unfold addC;rw [h];rfl
  exact ⟨this,by unfold addR;rw [this];rfl⟩
 ·have:addC l e=5:=by
   unfold addC
   rw [h,if_pos rfl,if_pos]
   rcases h2 with h2 | h2 <;> simp [h2]
  exact ⟨this,by unfold addR;rw [this];rfl⟩
 ·have:addC l e=0:=by
   unfold addC
   rw [h,if_pos rfl,if_neg]
   simp [h2,h3]
  exact ⟨this,by unfold addR;rw [this];rfl⟩
end Go.Proofs.YtednjmldjbndhaaGreatDoor
namespace Go.Proofs.YtednjmldjbndhaaGreatDoor
open Go.RowKit
theorem Own.store_part {w:World} {base:Nat} {e:TypeId} {k g n cap:Nat} {xs:List (List Value)} (h:Own w base e k (.slice (some ⟨g,0,none⟩) n cap) xs) {i:Nat} (hi:i < xs.length) (P S T ys:List Value) (hx:xs[i]=P ++ S ++ T) (hy:ys.length=S.length) :
  Own (stores w g (i * k+P.length) ys) base e k (.slice (some ⟨g,0,none⟩) n cap) (xs.set i (P ++ ys ++ T)):=by
 obtain ⟨h1,h2⟩:=h
 have hn:n=xs.length:=by
  rcases h1.2 with ⟨h',_⟩ | ⟨g',cap',cur,h',_⟩
  ·simp at h'
  ·simp only [Value.slice.injEq] at h';exact h'.2.1
 subst hn
 refine ⟨?_,fun y hm=>?_⟩
 ·rw [List.length_set,flat_set hi]
  rw [flat_split hi,hx] at h1
  have h3:=ownsRow_stores ys (i * k+P.length) w ((xs.take i).flatten ++ P) S (T ++ (xs.drop (i+1)).flatten) (by simpa only [List.append_assoc] using h1) (by
   rw [List.length_append,flat_length fun z hz=>h2 z (List.mem_of_mem_take hz),List.length_take,Nat.min_eq_left (by omega)]) hy.symm
  simpa only [List.append_assoc] using h3
 ·rcases List.mem_or_eq_of_mem_set hm with h | rfl
  ·exact h2 y h
  ·have:=h2 _ (List.getElem_mem hi)
   rw [hx] at this
   simp only [List.length_append] at this ⊢
   omega
theorem Own.some1 {w:World} {base:Nat} {e:TypeId} {k:Nat} {v:Value} {xs:List (List Value)} (h:Own w base e k v xs) (hx:0 < xs.length):∃ g c,v=.slice (some ⟨g,0,none⟩) xs.length c:=by
 rcases h.1.2 with ⟨_,h0⟩ | ⟨g,cap,cur,rfl,_⟩
 ·omega
 ·exact ⟨g,cap,rfl⟩
structure AdT (W0:World) (n:Nat) (L:List (List Value)) (cs:List Value) (b0 b2 b4 b5:Bool) (x0 x2 x4 x5:Value) (v:World):Prop where
 hb:Below W0.heap.size W0 v
 q0:b0=true→b2=false→∃ g,x0=.slice (some ⟨g,0,none⟩) 0 0∧Own v W0.heap.size 35 20 x0 []
 q2:b2=true→b0=true∧(b5=false→∃ B d,x2=.slice B n d∧Own v W0.heap.size 35 20 x2 L)
 q4:b4=true→b5=false→∃ g,x4=.slice (some ⟨g,0,none⟩) 1 1∧Own v W0.heap.size 35 20 x4 [cs]
 q5:b5=true→(b2=true∧b4=true)∧∃ B d,x5=.slice B (n+1) d∧Own v W0.heap.size 35 20 x5 (L ++ [cs])
 ap:b0=true→b4=true→b2=false→x4.ownBlock ≠ x0.ownBlock
theorem addC_cases2 {l:List En} {e:En}:(catB l=false→addC l e=1∧addR l e=[])∧(catB l=true→catB (l ++ [e])=false→addC l e=5∧addR l e=[])∧(catB l=true→catB (l ++ [e])=true→addC l e=0∧addR l e=l ++ [e]):=by
 refine ⟨addC_cases.1,fun h h2=>?_,fun h h2=>?_⟩
 ·rw [catB_snoc e h] at h2
  refine addC_cases.2.1 h ?_
  by_cases h3:l.length=12
  ·exact .inl h3
  ·exact .inr (by simpa [h3] using h2)
 ·rw [catB_snoc e h] at h2
  have h3:¬ l.length=12:=fun h3=>by simp [h3] at h2
  exact addC_cases.2.2 h h3 (by simpa [h3] using h2)
theorem range_mid {w:World} {g o:Nat} {P S T:List Value} (h:w.rangeAt g o (P ++ S ++ T)):w.rangeAt g (o+P.length) S:=fun j v hv=>by
 have hj:j < S.length:=(List.getElem?_eq_some_iff.1 hv).1
 have h2:=h (P.length+j) v (by rw [List.getElem?_append_left (by simp;omega),List.getElem?_append_right (by omega),Nat.add_sub_cancel_left];exact hv)
 rw [Nat.add_assoc]
 exact h2
structure SpL (w:World) (xs:List EnR) (k:Nat) (fs:List EnR) (g n c:Nat) (wr:World):Prop where
 hb:Below w.heap.size w wr
 fk:fs.length=k
 o:Own wr w.heap.size 35 20 (.slice (some ⟨g,0,none⟩) n c) ((fs ++ xs.drop k).map EnR.cells)
 i:∀ f ∈ fs,f.In wr∧f.sl.ownBlock ≠ some g
 p:∀ f ∈ fs,Own wr w.heap.size 2 1 f.sl (f.e.r.l.map ic)
 d:fs.Pairwise EnR.apart
 s:ens fs=(ens xs).take k
section
variable {w wr w2 : World} {xs : List EnR} {k g n c : Nat} {fs : List EnR}
theorem SpL.below (h:SpL w xs k fs g n c wr) (hb:Below wr.heap.size wr w2):SpL w xs k fs g n c w2 :=
 ⟨h.hb.trans (hb.mono h.hb.size),h.fk,h.o.below hb,fun f hf=>⟨EnIn.later (h.i f hf).1 hb,(h.i f hf).2⟩,fun f hf=>(h.p f hf).below hb,h.d,h.s⟩
theorem SpL.next (h:SpL w xs k fs g n c wr) (hk:k < xs.length) {f:EnR} (hf:f.e=xs[k].e) (hi:f.In wr) (hp:Own wr w.heap.size 2 1 f.sl (f.e.r.l.map ic)) (hV:f.sl.ownBlock ≠ some g) (hap:∀ x ∈ fs,EnR.apart x f)
  (hg:wr.grownBy w2 (some g)) (h2:Own w2 w.heap.size 35 20 (.slice (some ⟨g,0,none⟩) n c) (((fs ++ xs.drop k).map EnR.cells).set k f.cells)):SpL w xs (k+1) (fs ++ [f]) g n c w2:=by
 have hpw:∀ x ∈ fs ++ [f],Own wr w.heap.size 2 1 x.sl (x.e.r.l.map ic)∧x.In wr∧x.sl.ownBlock ≠ some g:=fun x hx=>by
  rcases List.mem_append.1 hx with hx | hx
  ·exact ⟨h.p x hx,h.i x hx⟩
  ·obtain rfl:x=f:=by simpa using hx
   exact ⟨hp,hi,hV⟩
 have hp2:∀ x ∈ fs ++ [f],Own w2 w.heap.size 2 1 x.sl (x.e.r.l.map ic):=fun x hx=>(hpw x hx).1.kept hg (.inr (hpw x hx).2.2)
 have hge:=h.o.ownGe
 have hrow:((fs ++ xs.drop k).map EnR.cells).set k f.cells=((fs ++ [f]) ++ xs.drop (k+1)).map EnR.cells:=by
  rw [← List.map_set,List.set_append_right _ _ (Nat.le_of_eq h.fk),h.fk,Nat.sub_self,List.drop_eq_getElem_cons hk,List.set_cons_zero]
  simp
 refine ⟨h.hb.grown hg h.hb.size (fun b e=>hge b e),by simp [h.fk],hrow ▸ h2,fun x hx=>⟨⟨(hpw x hx).2.1.t,(hpw x hx).2.1.r.h,(hpw x hx).2.1.r.hn,(hp2 x hx).sl⟩,(hpw x hx).2.2⟩,hp2,?_,?_⟩
 ·rw [List.pairwise_append]
  refine ⟨h.d,List.pairwise_singleton _ _,fun x hx y hy=>?_⟩
  obtain rfl:y=f:=by simpa using hy
  exact hap x hx
 ·have hk2:k < (ens xs).length:=by rw [ens_len];exact hk
  rw [List.take_succ_eq_append_getElem hk2,← h.s,ens_get hk]
  simp [ens,hf]
theorem SpL.row (h:SpL w xs k fs g n c wr) (hk:k < xs.length):∃ hi:k < ((fs ++ xs.drop k).map EnR.cells).length,((fs ++ xs.drop k).map EnR.cells)[k]=xs[k].cells∧wr.rangeAt g (k * 20) xs[k].cells:=by
 have hi:k < ((fs ++ xs.drop k).map EnR.cells).length:=by simp [h.fk];omega
 have hx:((fs ++ xs.drop k).map EnR.cells)[k]=xs[k].cells:=by simp [List.getElem_append_right,h.fk]
 obtain ⟨b,off,he,_,hr⟩:=h.o.sl.rg hi
 simp only [Option.some.injEq,Addr.mk.injEq,and_true] at he
 obtain ⟨rfl,rfl⟩:=he
 rw [hx,Nat.zero_add] at hr
 exact ⟨hi,hx,hr⟩
theorem SpL.done (h:SpL w xs xs.length fs g n c wr) (hl:xs.length ≤ 1048576) (hn:n=xs.length):EnsOwn (ens xs) (.slice (some ⟨g,0,none⟩) n c) wr w.heap.size:=by
 subst hn
 have ho:=h.o
 rw [List.drop_length,List.append_nil] at ho
 have hE:(ens xs).length=xs.length:=ens_len xs
 refine ⟨some ⟨g,0,none⟩,c,fs,by rw [hE],by rw [h.s,← hE,List.take_length],⟨by rw [h.fk];exact hl,ho.sl,fun f hf=>(h.i f hf).1⟩,by rw [hE];exact ho,fun f hf=>⟨h.p f hf,fun g' hg=>?_⟩,h.d⟩
 obtain rfl:g=g':=by simpa using hg
 exact off_of_ne (h.p f hf) (h.i f hf).2
end
end Go.Proofs.YtednjmldjbndhaaGreatDoor
