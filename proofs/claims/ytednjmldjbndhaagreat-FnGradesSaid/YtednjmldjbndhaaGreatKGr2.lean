/- A region that draws its order, by an invariant: one step for each operation. Plain lemmas on the kit's laws. The reference's draws of chains, scales, rules and errors. Condition: the code has at most 4096 bytes. The reference's draws of scales, rules and errors. Condition: the code has at most 4096 bytes. The reference's draw of a rule. Condition: the code has at most 4096 bytes. -/
import Derived.Deep.RegionHeld3
import Derived.StillTail
import Derived.Deep.LoopGhost
import Derived.Test.YtednjmldjbndhaaGreatKGr1
set_option linter.unusedSimpArgs false
set_option linter.unusedVariables false
set_option maxRecDepth 100000
set_option maxHeartbeats 8000000
namespace Go.Proofs.YtednjmldjbndhaaGreat
open Go.RowKit
section
variable {P : Program} {ops : Array Oper} {Q : Exit → Act → World → Prop} {md : Region.Mode}
theorem getD_set_self' {L:Array Bool} {i:Nat} (h:i < L.size) (d:Bool):(L.setIfInBounds i true).getD i d=true:=by
 simp [Array.getD,h]
theorem getD_set_ne' {L:Array Bool} {i j:Nat} (h:i ≠ j) (d:Bool):(L.setIfInBounds i true).getD j d=L.getD j d:=getD_set_ne d h
theorem getD_lt {L:Array Bool} {i:Nat} (h:L.getD i true=false):i < L.size:=by
 rcases Nat.lt_or_ge i L.size with h1 | h1
 ·exact h1
 ·simp [Array.getD,Nat.not_lt.2 h1] at h
theorem count_set:∀ (l:List Bool) (i:Nat),l[i]?=some false→(l.set i true).count false+1=l.count false
 | [],i,h=>by simp at h
 | b :: l,0,h=>by
  simp only [List.getElem?_cons_zero,Option.some.injEq] at h
  subst h
  simp
 | b :: l,i+1,h=>by
  have:=count_set l i (by simpa using h)
  rw [List.set_cons_succ,List.count_cons,List.count_cons]
  omega
theorem wpAny_inv (I:Array Bool→Act→World→Prop)
  (hI:∀ L a w,I L a w→∀ i ∈ Region.ready md ops L,wpOp P ops Q i (fun a' w'=>I (L.setIfInBounds i true) a' w') a w)
  (hE:∀ L a w,I L a w→Region.ready md ops L=[]→Q .normal a w) :
  ∀ (fuel:Nat) (L:Array Bool) (a:Act) (w:World),L.toList.count false ≤ fuel→I L a w→wpAny P md ops Q fuel L a w:=by
 intro fuel
 induction fuel with
 | zero =>
  intro L a w hc h
  have hr:Region.ready md ops L=[]:=by
   rw [List.eq_nil_iff_forall_not_mem]
   intro j hj
   have h0:=(mem_ready.1 hj).1
   have hl:=getD_lt h0
   have:false ∈ L.toList:=by
    rw [List.mem_iff_getElem]
    refine ⟨j,by simpa using hl,?_⟩
    simpa [Array.getD,hl] using h0
   have:=List.count_pos_iff.2 this
   omega
  exact ⟨hr,hE L a w h hr⟩
 | succ fuel ih =>
  intro L a w hc h
  refine ⟨fun hr=>hE L a w h hr,fun i hi=>?_⟩
  refine wpOp_mono (fun a' w' h'=>ih _ a' w' ?_ h') (hI L a w h i hi)
  have h0:=(mem_ready.1 hi).1
  have hl:=getD_lt h0
  have:=count_set L.toList i (by
   rw [List.getElem?_eq_getElem (by simpa using hl)]
   simpa [Array.getD,hl] using h0)
  rw [Array.toList_setIfInBounds]
  omega
theorem wp_region_inv (J:Act→Array Bool→Act→World→Prop) {id:Nat} {a:Act} {w:World} (hm:P.follows .mixedOrders=true)
  (h0:J a (Array.replicate ops.size false) a w.drew)
  (hI:∀ L b v,J a L b v→∀ i,L.getD i true=false→(∀ o,ops[i]?=some o→(∀ e ∈ o.after,Region.binds .any e=true→L.getD e.on false=true)→wpOp P ops Q i (fun a' w'=>J a (L.setIfInBounds i true) a' w') b v))
  (hE:∀ L b v,J a L b v→(∀ i,i < ops.size→L.getD i false=true)→Q .normal b v)
  (hL:∀ L b v,J a L b v→L.size=ops.size)
  (hA:∀ L:Array Bool,L.size=ops.size→Region.ready .any ops L=[]→∀ i,i < ops.size→L.getD i false=true):(Code.region id ops true).wp P Q a w:=by
 refine wp_region_any hm (wpAny_inv (J a) (fun L b v h i hi=>?_) (fun L b v h hr=>hE L b v h (hA L (hL L b v h) hr)) _ _ _ _ ?_ h0)
 ·obtain ⟨h1,o,h2,h3⟩:=mem_ready.1 hi
  exact hI L b v h i h1 o h2 h3
 ·have:(Array.replicate ops.size false).toList.count false=ops.size:=by simp
  omega
theorem ready_all {L:Array Bool} (hs:L.size=ops.size) (hb:(List.range ops.size).all (fun i=>((ops[i]?).map fun o=>o.after.all fun e=>!Region.binds md e || decide (e.on < i)).getD true)=true)
  (hr:Region.ready md ops L=[]):∀ i,i < ops.size→L.getD i false=true:=by
 intro i
 induction i using Nat.strongRecOn with
 | ind i ih =>
  intro hi
  cases hx:L.getD i true with
  | true =>
   have:i < L.size:=by omega
   simp [Array.getD,this] at hx ⊢
   exact hx
  | false =>
   exfalso
   have hmem:i ∈ Region.ready md ops L:=by
    refine mem_ready.2 ⟨hx,ops[i],Array.getElem?_eq_getElem hi,fun e he hbd=>ih e.on ?_ ?_⟩
    ·have h1:=List.all_eq_true.1 hb i (List.mem_range.2 hi)
     rw [Array.getElem?_eq_getElem hi,Option.map_some,Option.getD_some,Array.all_eq_true_iff_forall_mem] at h1
     have:=h1 e he
     rw [hbd] at this
     simpa using this
    ·have h1:=List.all_eq_true.1 hb i (List.mem_range.2 hi)
     rw [Array.getElem?_eq_getElem hi,Option.map_some,Option.getD_some,Array.all_eq_true_iff_forall_mem] at h1
     have:=h1 e he
     rw [hbd] at this
     have:e.on < i:=by simpa using this
     omega
   rw [hr] at hmem
   cases hmem
def headOpen (n:Nat) (L:Array Bool):Nat:=((List.range n).filter fun i=>!L.getD i false).length
theorem headOpen_set {n:Nat} {L:Array Bool} {i:Nat} (hi:i < n) (hu:L.getD i true=false):headOpen n (L.setIfInBounds i true)+1=headOpen n L:=by
 unfold headOpen
 have hl:=getD_lt hu
 have hf:L.getD i false=false:=getD_both hu
 induction n with
 | zero=>omega
 | succ n ih =>
  rw [List.range_succ,List.filter_append,List.filter_append,List.length_append,List.length_append]
  by_cases h:i < n
  ·have h1:=ih h
   have h2:(L.setIfInBounds i true).getD n false=L.getD n false:=getD_set_ne false (by omega)
   simp only [List.filter_cons,List.filter_nil,h2]
   omega
  ·obtain rfl:i=n:=by omega
   have h1:∀ j ∈ List.range i,(!(L.setIfInBounds i true).getD j false)=(!L.getD j false):=fun j hj=>by
    rw [getD_set_ne false (by have:=List.mem_range.1 hj;omega)]
   rw [List.filter_congr h1]
   have h2:(L.setIfInBounds i true).getD i false=true:=getD_set_self' hl false
   simp only [List.filter_cons,List.filter_nil,h2,hf]
   simp
theorem headOpen_zero {n:Nat} {L:Array Bool} (h:headOpen n L=0):∀ i,i < n→L.getD i false=true:=fun i hi=>by
 unfold headOpen at h
 rw [List.length_eq_zero_iff,List.filter_eq_nil_iff] at h
 simpa using h i (List.mem_range.2 hi)
theorem headOpen_pos {n:Nat} {L:Array Bool} (h:headOpen n L ≠ 0):∃ i,i < n∧L.getD i false=false:=by
 unfold headOpen at h
 match hl:(List.range n).filter (fun i=>!L.getD i false),h with
 | [],h=>exact absurd rfl h
 | i :: r,h =>
  have:i ∈ (List.range n).filter (fun i=>!L.getD i false):=by rw [hl];simp
  rw [List.mem_filter,List.mem_range] at this
  exact ⟨i,this.1,by simpa using this.2⟩
def upd (f:Nat→Bool) (i:Nat) (k:Nat):Bool:=k == i || f k
theorem upd_of {L:Array Bool} {i:Nat} (h:L.getD i true=false):(fun k=>(L.setIfInBounds i true).getD k false)=upd (fun k=>L.getD k false) i:=by
 funext k
 unfold upd
 by_cases hk:k=i
 ·subst hk
  rw [getD_set_self' (getD_lt h)]
  simp
 ·rw [getD_set_ne' (Ne.symm hk)]
  simp [hk]
theorem getD_ff {L:Array Bool} {i:Nat} (h:L.getD i true=false):L.getD i false=false:=getD_both h
theorem size_drewed (w:World):w.drew.heap.size=w.heap.size:=rfl
def backB (md:Region.Mode) (ops:Array Oper):Bool:=(List.range ops.size).all (fun i=>((ops[i]?).map fun o=>o.after.all fun e=>!Region.binds md e || decide (e.on < i)).getD true)
def sinkAll (ops:Array Oper) (n:Nat):Bool :=
 decide (n < ops.size) && Region.sinkB .any ops n && Region.chainB .any ops n && backB .any ops && Region.seqB .any ops (ops.size - n) n (Array.replicate n true ++ Array.replicate (ops.size - n) false)
theorem wpAny_sink {l:List Oper} {n:Nat} (J:(Nat→Bool)→Act→World→Prop) (hB:sinkAll l.toArray n=true)
  (hI:∀ f b v,J f b v→∀ i,i < n→f i=false→∀ o,l.toArray[i]?=some o→(∀ e ∈ o.after,Region.binds .any e=true→f e.on=true)→wpOp P l.toArray Q i (fun a' w'=>J (upd f i) a' w') b v)
  (hE:∀ f b v,J f b v→(∀ i,i < n→f i=true)→wpList P l.toArray Q (l.drop n) b v) :
  ∀ (c:Nat) (L:Array Bool) (b:Act) (v:World),headOpen n L=c→HeadInv .any l.toArray n L→J (fun k=>L.getD k false) b v→wpAny P .any l.toArray Q (c+(l.toArray.size - n)) L b v:=by
 unfold sinkAll at hB
 simp only [Bool.and_eq_true,decide_eq_true_eq] at hB
 obtain ⟨⟨⟨⟨hn,hs⟩,hc⟩,hbk⟩,hq⟩:=hB
 intro c
 induction c with
 | zero =>
  intro L b v h0 inv hJ
  have hall:=headOpen_zero h0
  have hL:L=Array.replicate n true ++ Array.replicate (l.toArray.size - n) false:=by
   apply Array.ext
   ·rw [inv.size,Array.size_append,Array.size_replicate,Array.size_replicate];omega
   ·intro i h1 h2
    by_cases hi:i < n
    ·have:=hall i hi
     rw [Array.getElem_append_left (by simpa using hi),Array.getElem_replicate]
     simpa [Array.getD,h1] using this
    ·have:=inv.tail i (by omega) (by rw [← inv.size];exact h1)
     rw [Array.getElem_append_right (by simp;omega),Array.getElem_replicate]
     simpa [Array.getD,h1] using this
  rw [Nat.zero_add]
  have hdl:(l.drop n).length=l.toArray.size - n:=by simp
  rw [← hdl]
  refine wpAny_of_seq (md:=.any) (l.drop n) n L b v (fun j=>by simp [List.getElem?_drop]) ?_ (hE _ b v hJ hall)
  rw [hdl,hL]
  exact hq
 | succ c ih =>
  intro L b v h0 inv hJ
  rw [show c+1+(l.toArray.size - n)=(c+(l.toArray.size - n))+1 by omega]
  obtain ⟨i0,hi0,hu0⟩:=headOpen_pos (n:=n) (L:=L) (by omega)
  have hu0':L.getD i0 true=false:=getD_in (by rw [inv.size];omega) hu0
  refine ⟨fun hr=>?_,fun i hi=>?_⟩
  ·have:=ready_all inv.size hbk hr i0 (by omega)
   rw [hu0] at this
   cases this
  ·have hin:i < n:=by
    rcases Nat.lt_or_ge i n with h | h
    ·exact h
    ·exact absurd hi (tail_waits hs hc hn inv _ i0 rfl hi0 hu0' i h)
   obtain ⟨h1,o,h2,h3⟩:=mem_ready.1 hi
   refine wpOp_mono (fun a' w' h'=>ih _ a' w' ?_ (inv.set hi hin) ?_) (hI _ b v hJ i hin (getD_both h1) o h2 h3)
   ·have:=headOpen_set hin h1
    omega
   ·rw [upd_of h1]
    exact h'
theorem wp_region_sink {l:List Oper} (n:Nat) (J:Act→(Nat→Bool)→Act→World→Prop) {id:Nat} {a:Act} {w:World} (hm:P.follows .mixedOrders=true) (hB:sinkAll l.toArray n=true)
  (h0:J a (fun _=>false) a w.drew)
  (hI:∀ f b v,J a f b v→∀ i,i < n→f i=false→∀ o,l.toArray[i]?=some o→(∀ e ∈ o.after,Region.binds .any e=true→f e.on=true)→wpOp P l.toArray Q i (fun a' w'=>J a (upd f i) a' w') b v)
  (hE:∀ f b v,J a f b v→(∀ i,i < n→f i=true)→wpList P l.toArray Q (l.drop n) b v):(Code.region id l.toArray true).wp P Q a w:=by
 refine wp_region_any hm ?_
 have hn:n ≤ l.toArray.size:=by
  unfold sinkAll at hB
  simp only [Bool.and_eq_true,decide_eq_true_eq] at hB
  omega
 have hall:∀ j,(Array.replicate l.toArray.size false).getD j false=false:=getD_replicate_false _
 have hc:headOpen n (Array.replicate l.toArray.size false)=n:=by
  unfold headOpen
  rw [List.filter_eq_self.2 (fun j _=>by rw [hall];rfl),List.length_range]
 have:=wpAny_sink (J a) hB hI hE n (Array.replicate l.toArray.size false) a w.drew hc
  ⟨by simp,fun j oj _ hl=>(by rw [hall] at hl;cases hl),fun t _ ht=>getD_in (by simpa using ht) (hall t)⟩ (by rw [show (fun k=>(Array.replicate l.toArray.size false).getD k false)=fun _=>false from funext hall];exact h0)
 rw [show n+(l.toArray.size - n)=l.toArray.size by omega] at this
 exact this
theorem wp_region_all {l:List Oper} (J:Act→(Nat→Bool)→Act→World→Prop) {id:Nat} {a:Act} {w:World} (hm:P.follows .mixedOrders=true) (hB:backB .any l.toArray=true)
  (h0:J a (fun _=>false) a w.drew)
  (hI:∀ f b v,J a f b v→∀ i,i < l.length→f i=false→∀ o,l.toArray[i]?=some o→(∀ e ∈ o.after,Region.binds .any e=true→f e.on=true)→wpOp P l.toArray Q i (fun a' w'=>J a (upd f i) a' w') b v)
  (hE:∀ f b v,J a f b v→(∀ i,i < l.length→f i=true)→Q .normal b v):(Code.region id l.toArray true).wp P Q a w:=by
 have hall:∀ j,(Array.replicate l.toArray.size false).getD j false=false:=getD_replicate_false _
 refine wp_region_inv (fun a0 L b v=>L.size=l.toArray.size∧J a0 (fun k=>L.getD k false) b v) hm ⟨by simp,by rw [show (fun k=>(Array.replicate l.toArray.size false).getD k false)=fun _=>false from funext hall];exact h0⟩ ?_ ?_ (fun L b v h=>h.1) (fun L hs hr=>ready_all hs hB hr)
 ·rintro L b v ⟨hs,hJ⟩ i hi o ho hall'
  have hlt:i < l.length:=by have:=(Array.getElem?_eq_some_iff.1 ho).1;simpa using this
  refine wpOp_mono (fun a' w' h'=>⟨by rw [Array.size_setIfInBounds];exact hs,by rw [upd_of hi];exact h'⟩) (hI _ b v hJ i hlt (getD_both hi) o ho hall')
 ·rintro L b v ⟨_,hJ⟩ hf
  exact hE _ b v hJ (fun i hi=>hf i (by simpa using hi))
end
section
variable {w : World} {g : Nat} {t : TypeId} {v : Value} {r : List Value}
theorem Blk.c0 (h:Blk w g t (v :: r).toArray):w.cell? ⟨g,0,none⟩=some v:=h.cl 0 rfl
theorem Blk.c1 {x0:Value} (h:Blk w g t (x0 :: v :: r).toArray):w.cell? ⟨g,1,none⟩=some v:=h.cl 1 rfl
theorem Blk.c2 {x0 x1:Value} (h:Blk w g t (x0 :: x1 :: v :: r).toArray):w.cell? ⟨g,2,none⟩=some v:=h.cl 2 rfl
theorem Blk.c3 {x0 x1 x2:Value} (h:Blk w g t (x0 :: x1 :: x2 :: v :: r).toArray):w.cell? ⟨g,3,none⟩=some v:=h.cl 3 rfl
theorem Blk.c4 {x0 x1 x2 x3:Value} (h:Blk w g t (x0 :: x1 :: x2 :: x3 :: v :: r).toArray):w.cell? ⟨g,4,none⟩=some v:=h.cl 4 rfl
theorem Blk.c5 {x0 x1 x2 x3 x4:Value} (h:Blk w g t (x0 :: x1 :: x2 :: x3 :: x4 :: v :: r).toArray):w.cell? ⟨g,5,none⟩=some v:=h.cl 5 rfl
theorem Blk.c6 {x0 x1 x2 x3 x4 x5:Value} (h:Blk w g t (x0 :: x1 :: x2 :: x3 :: x4 :: x5 :: v :: r).toArray):w.cell? ⟨g,6,none⟩=some v:=h.cl 6 rfl
theorem Blk.c7 {x0 x1 x2 x3 x4 x5 x6:Value} (h:Blk w g t (x0 :: x1 :: x2 :: x3 :: x4 :: x5 :: x6 :: v :: r).toArray):w.cell? ⟨g,7,none⟩=some v:=h.cl 7 rfl
theorem Blk.c9 {x0 x1 x2 x3 x4 x5 x6 x7 x8:Value} (h:Blk w g t (x0 :: x1 :: x2 :: x3 :: x4 :: x5 :: x6 :: x7 :: x8 :: v :: r).toArray):w.cell? ⟨g,9,none⟩=some v:=h.cl 9 rfl
end
theorem put_more {a b:Act} (h:a=b) (i:Nat):a=b.put (some i) (a.tmps.getD i undef):=by
 subst h
 obtain ⟨tmps,defers⟩:=a
 simp only [Act.put,Act.mk.injEq,and_true]
 apply Array.ext
 ·simp
 ·intro j h1 h2
  rw [Array.getElem_setIfInBounds h1]
  by_cases hij:i=j
  ·subst hij
   simp [Array.getD,h1]
  ·rw [if_neg hij]
end Go.Proofs.YtednjmldjbndhaaGreat
namespace Go.Proofs.YtednjmldjbndhaaGreat
open Go.RowKit
theorem Own.prefix_ {w:World} {base:Nat} {e:TypeId} {k:Nat} {A:Option Addr} {m cap j:Nat} {xs:List (List Value)} (h:Own w base e k (.slice A m cap) xs) (hj:j ≤ xs.length):Own w base e k (.slice A j cap) (xs.take j):=by
 obtain ⟨⟨h1,h2⟩,h3⟩:=h
 have hm:(xs.take j).length=j:=by rw [List.length_take];omega
 have hf:(xs.take j).flatten=xs.flatten.take (j * k):=by
  have e1:xs.flatten=(xs.take j).flatten ++ (xs.drop j).flatten:=by rw [← List.flatten_append,List.take_append_drop]
  have e2:(xs.take j).flatten.length=j * k:=by rw [flat_length fun z hz=>h3 z (List.mem_of_mem_take hz),hm]
  rw [e1,← e2]
  exact List.take_left.symm
 refine ⟨⟨?_,?_⟩,fun x hx=>h3 x (List.mem_of_mem_take hx)⟩
 ·rw [flat_length fun z hz=>h3 z (List.mem_of_mem_take hz)]
 ·rw [hm,hf]
  rcases h2 with ⟨h4,h5⟩ | ⟨q,cp,cur,hv,hg,hh,hc,hmx,hcs,htk⟩
  ·simp only [Value.slice.injEq] at h4
   obtain ⟨rfl,rfl,rfl⟩:=h4
   have:j=0:=by omega
   subst this
   exact .inl ⟨rfl,rfl⟩
  ·simp only [Value.slice.injEq] at hv
   obtain ⟨rfl,_,rfl⟩:=hv
   refine .inr ⟨q,cap,cur,rfl,hg,hh,by omega,hmx,hcs,?_⟩
   rw [← htk,List.take_take,Nat.min_eq_left (Nat.mul_le_mul_right _ hj)]
theorem flat_setX {xs:List (List Value)} {k i j:Nat} {u:Value} (h:∀ x ∈ xs,x.length=k) (hi:i < xs.length) (hj:j < k):xs.flatten.set (i * k+j) u=(xs.set i (xs[i].set j u)).flatten:=by
 rw [flat_set hi]
 conv=>lhs;rw [flat_split hi]
 have hA:(xs.take i).flatten.length=i * k:=by
  rw [flat_length fun z hz=>h z (List.mem_of_mem_take hz),List.length_take,Nat.min_eq_left (by omega)]
 have hx:xs[i].length=k:=h _ (List.getElem_mem hi)
 rw [List.append_assoc,List.set_append_right _ _ (by omega),hA,show i * k+j - i * k=j from by omega,List.set_append_left _ _ (by omega)]
 rw [List.append_assoc]
theorem Own.setX {w:World} {base:Nat} {e:TypeId} {k q m cap:Nat} {xs:List (List Value)} (h:Own w base e k (.slice (some ⟨q,0,none⟩) m cap) xs) {i j:Nat} (hi:i < xs.length) (hj:j < k) (u:Value) :
  Own (w.setCell ⟨q,i * k+j,none⟩ u) base e k (.slice (some ⟨q,0,none⟩) m cap) (xs.set i (xs[i].set j u)):=by
 obtain ⟨h1,h2⟩:=h
 have hn:m=xs.length:=by
  rcases h1.2 with ⟨h',_⟩ | ⟨g',cap',cur,h',_⟩
  ·simp at h'
  ·simp only [Value.slice.injEq] at h';exact h'.2.1
 subst hn
 refine ⟨?_,fun y hy=>?_⟩
 ·have:=(h1.stored (i * k+j) u).1
  rw [flat_setX h2 hi hj] at this
  rw [List.length_set]
  exact this
 ·rcases List.mem_or_eq_of_mem_set hy with h | rfl
  ·exact h2 y h
  ·rw [List.length_set];exact h2 _ (List.getElem_mem hi)
theorem grown_own {w w1 w2:World} {g:Nat} {v:Value} (h:w.grownBy w1 (some g)) (h2:w1.grownBy w2 v.ownBlock) (hv:∀ r,v.ownBlock=some r→w.heap.size ≤ r):w.grownBy w2 (some g) :=
 ⟨h2.os.trans h.os,h2.tape.trans h.tape,h2.output.trans h.output,Nat.le_trans h.size h2.size,fun k hk hne=>by
  rw [h2.block k (Nat.lt_of_lt_of_le hk h.size) (fun e=>by have:=hv k e.symm;omega)]
  exact h.block k hk hne⟩
theorem Term.oneX {l:List Term}:∀ y ∈ l.map Term.cells,∀ u ∈ y,u.oneCell'=true:=fun y hy u hu=>by
 obtain ⟨x,_,rfl⟩:=List.mem_map.1 hy
 simp only [Term.cells,List.mem_cons,List.not_mem_nil,or_false] at hu
 rcases hu with rfl | rfl | rfl <;> rfl
theorem info_TermX:(Tryz.prog.info? 100).map (fun i=>(i.zero,i.size,i.bytes))=some (some (.agg #[.int .i64 0,.int .i64 0,.bool false]),3,24):=by kernel_rfl
theorem Own.litT {w:World} {base:Nat} {x:Term} (hb:base ≤ w.heap.size):Own (w.alloc (.cells #[.int .i64 x.digits,.int .i64 x.tens,.bool x.div] 100)) base 100 3 (.slice (some ⟨w.heap.size,0,none⟩) 1 1) ([x].map Term.cells):=by
 refine ⟨?_,by simp [Term.cells]⟩
 have:=World.ownsRow_lit (base:=base) (e:=100) (size:=3) w #[.int .i64 x.digits,.int .i64 x.tens,.bool x.div] 1 hb (by unfold maxLen;omega) (by simp)
 simpa [Term.cells] using this
theorem Own.litX {w:World} {base:Nat} {xs:List Int} (hb:base ≤ w.heap.size) (hl:xs.length ≤ 1000):Own (w.alloc (.cells (xs.map (Value.int .i64)).toArray 2)) base 2 1 (.slice (some ⟨w.heap.size,0,none⟩) xs.length xs.length) (xs.map ic):=by
 have e:(xs.map ic).flatten=xs.map (Value.int .i64):=by
  induction xs with
  | nil=>rfl
  | cons a r ih=>simp only [List.map_cons,List.flatten_cons,ic,List.cons_append,List.nil_append];rw [ih (by simp at hl;omega)]
 refine ⟨?_,by intro x hx;obtain ⟨y,_,rfl⟩:=List.mem_map.1 hx;rfl⟩
 have:=World.ownsRow_lit (base:=base) (e:=2) (size:=1) w (xs.map (Value.int .i64)).toArray xs.length hb (by unfold maxLen;omega) (by simp)
 rw [e]
 simpa using this
def DCh (j:Nat) (A:Option Addr) (n c g:Nat) (w:World) (e:Ending) (w':World):Prop:=∃ (l:List Term) (A':Option Addr) (c':Nat),e=.returned (.slice A' l.length c')∧(j ≤ l.length∧l.length ≤ 100)∧Own w' w.heap.size 100 3 (.slice A' l.length c') (l.map Term.cells)∧Src w' A n c g∧w.grownBy w' (some g)
def DSc (A:Option Addr) (n c g:Nat) (w:World) (e:Ending) (w':World):Prop:=∃ (l:List Int) (A':Option Addr) (c':Nat),e=.returned (.slice A' l.length c')∧(1 ≤ l.length∧l.length ≤ 100)∧Own w' w.heap.size 2 1 (.slice A' l.length c') (l.map ic)∧Src w' A n c g∧w.grownBy w' (some g)
def DRu (A:Option Addr) (n c g:Nat) (w:World) (e:Ending) (w':World):Prop:=∃ (L:Int) (l1 l2:List Int) (A1 A2:Option Addr) (c1 c2:Nat),e=.returned (.agg #[.int .i64 L,.slice A1 l1.length c1,.slice A2 l2.length c2])∧(l1.length ≤ 100∧l2.length ≤ 100)∧Own w' w.heap.size 2 1 (.slice A1 l1.length c1) (l1.map ic)∧Own w' w.heap.size 2 1 (.slice A2 l2.length c2) (l2.map ic)∧Src w' A n c g∧w.grownBy w' (some g)
def DEr (A:Option Addr) (n c g:Nat) (w:World) (e:Ending) (w':World):Prop:=∃ p q r:Int,e=.returned (.agg #[.int .i64 p,.int .i64 q,.int .i64 r])∧Src w' A n c g∧w.grownBy w' (some g)
theorem l13Valid_c (A:Option Addr) (n c g:Nat) (w:World) (hS:Src w A n c g):Calls Tryz.prog 88 #[.pointer (some ⟨g,0,none⟩)] w (DCh 1 A n c g w):=by
 obtain ⟨i0,hi,hz0,hz1,hz2⟩:=info_parts info_TermX
 have hG:w.grownBy w (some g):=World.grownBy.refl _ _
 have hlt:=hS.lt
 unfold DCh
 go_enter Tryz.func88,Tryz.ntmps88
 go_wp2_with fail
 refine (l02Valid_c A n c g _ hS).mono ?_;rintro e w1 ⟨a,b,rfl,ha,hb,hS,hg⟩
 have hG:=hG.trans hg
 clear hg
 have gz:=hG.size
 have hO:Own (w1.alloc (.cells #[.int .i64 a,.int .i64 b,.bool false] 100)) w.heap.size 100 3 (.slice (some ⟨w1.heap.size,0,none⟩) 1 1) ([(⟨a,b,false⟩:Term)].map Term.cells):=Own.litT (x:=⟨a,b,false⟩) gz
 have hS:=hS.alloc (.cells #[.int .i64 a,.int .i64 b,.bool false] 100)
 have hG:=hG.trans (grown_alloc (.cells #[.int .i64 a,.int .i64 b,.bool false] 100) (some g))
 clear ha hb
 go_wp2_with fail
 generalize w1.alloc (.cells #[.int .i64 a,.int .i64 b,.bool false] 100)=w2 at *
 generalize w1.heap.size=gb at *
 refine (l01Next_c A n c g _ _ hS).mono ?_;rintro e w3 ⟨r,rfl,⟨ra,rb⟩,rd,hS,hg⟩
 have hO:=hO.src hg (by omega)
 have hG:=hG.trans hg
 clear hg
 obtain ⟨k,rfl⟩:=Int.eq_ofNat_of_zero_le ra
 go_wp2_with fail
 go_loopw [3,4] (fun v i wr=>∃ (j:Nat) (R:List Term),i=.int .i64 j∧(1 ≤ R.length∧R.length+j ≤ 9)∧Own wr w.heap.size 100 3 v (R.map Term.cells)∧Src wr A n c g∧w.grownBy wr (some g)) (fun _ i _=>(intOf i).toNat)
 case atStart=>exact ⟨k,[⟨a,b,false⟩],rfl,by simp;omega,hO,hS,hG⟩
 case round =>
  clear hO hS hG gz
  obtain ⟨j,R,rfl,hj,hO,hS,hG⟩:=hrel
  have gz:=hG.size
  obtain ⟨A',c',hv,hle⟩:=hO.form
  rw [List.length_map] at hv
  subst hv
  by_cases hj0:0 < j
  ·have hjz:(0:Int) < (j:Int):=by omega
   go_wp2_with fail
   refine (l02Valid_c A n c g _ hS).mono ?_;rintro e w4 ⟨a1,b1,rfl,ha,hb,hS,hg⟩
   have hO:=hO.src hg (by omega)
   have hG:=hG.trans hg
   clear hg ha hb
   go_wp2_with fail
   refine (l01Next_c A n c g _ _ hS).mono ?_;rintro e w5 ⟨r2,rfl,⟨r2a,r2b⟩,r2d,hS,hg⟩
   have hO:=hO.src hg (by omega)
   have hG:=hG.trans hg
   clear hg
   have gz:=hG.size
   clear r2a r2b r2d
   obtain ⟨dv,hdv⟩:∃ dv,(r2 == 0)=dv:=⟨_,rfl⟩
   go_wp2_with (at_builtin;refine wpList_append_rows _ rfl _ _ _ rfl w.heap.size 100 i0 _ 3 24 Tryz.underlying27 hi hz0 hz1 hz2 rfl (by omega) _ _ rfl (hO.alloc _) _ _ _ _ ([(⟨a1,b1,dv⟩:Term)].map Term.cells) rfl rfl (Sl.of_blk (Blk.new' _ _ _ (by first | rfl | simp)) _ rfl (by simp [Term.cells])) (Term.oneX (l:=[⟨a1,b1,dv⟩])) (by simp;unfold maxLen;omega) (by simp;omega) (by first | omega | (simp;omega)) ?_;intro v1 w7 hO3 hg3 hat3)
   have hS3:=(hS.alloc (.cells #[.int .i64 a1,.int .i64 b1,.bool dv] 100)).grown hg3 (fun r hr=>by have:=hO.ownGe r hr;omega)
   have hG3:w.grownBy w7 (some g):=grown_own (hG.trans (grown_alloc _ _)) hg3 (fun r hr=>hO.ownGe r hr)
   go_roundw
   case rel=>exact ⟨j - 1,R ++ [⟨a1,b1,dv⟩],by rw [show ((j - 1:Nat):Int)=(j:Int) - 1 from by omega],by simp;omega,by rw [List.map_append];exact hO3,hS3,hG3⟩
   case measure=>simp [intOf];omega
  ·have hjz:¬ (0:Int) < (j:Int):=by omega
   go_wp2
   go_ret
   exact ⟨R,A',c',rfl,by omega,hO,hS,hG⟩
theorem l13Draw_c (A:Option Addr) (n c g:Nat) (w:World) (hS:Src w A n c g):Calls Tryz.prog 89 #[.pointer (some ⟨g,0,none⟩)] w (DCh 0 A n c g w):=by
 obtain ⟨i0,hi,hz0,hz1,hz2⟩:=info_parts info_TermX
 have hlt:=hS.lt
 unfold DCh
 go_enter Tryz.func89,Tryz.ntmps89
 go_wp2_with fail
 refine (l13Valid_c A n c g _ hS).mono ?_;rintro e w1 ⟨R,A',c',rfl,hR,hO,hS,hG⟩
 have gz:=hG.size
 have hlt0:0 < R.length:=by omega
 obtain ⟨bq,off,hA',hbB,hc⟩:=hO.sl.at_ (i:=0) (by rw [List.length_map];exact hlt0)
 subst hA'
 obtain rfl:=hO.off0 (i:=0) (by rw [List.length_map];exact hlt0)
 have hbq:w.heap.size ≤ bq:=hO.ownGe bq rfl
 clear hc
 go_wp2_with fail
 refine (l01Next_c A n c g _ _ hS).mono ?_;rintro e w2 ⟨q,rfl,⟨qa,qb⟩,qd,hS,hg⟩
 have hO:=hO.src hg (by omega)
 have hG:=hG.trans hg
 clear hg
 have gz:=hG.size
 have hcell:=fun (i j:Nat) (hi:i < R.length) (hj:j < 3)=>Own.cell hO (i:=i) (j:=j) (by rw [List.length_map];exact hi) hj
 have hfz:=fun j=>Own.frozen hO j
 by_cases q0:q=0
 ·subst q0
  obtain ⟨z,hz⟩:=hcell 0 2 hlt0 (by omega)
  rw [Nat.zero_mul,Nat.zero_add] at hz
  have f2:=hfz 2
  have hlI:(0:Int) < R.length:=by omega
  clear hcell hfz
  go_wp2_with fail
  go_ret
  have h1:=hO.setX (i:=0) (j:=2) (by simpa using hlt0) (by omega) (.bool true)
  rw [Nat.zero_mul,Nat.zero_add] at h1
  have e1:(R.map Term.cells).set 0 (((R.map Term.cells)[0]'(by simpa using hlt0)).set 2 (.bool true))=(R.set 0 ⟨R[0].digits,R[0].tens,true⟩).map Term.cells:=by
   rw [List.map_set];congr 1;rw [List.getElem_map];rfl
  rw [e1] at h1
  exact ⟨R.set 0 ⟨R[0].digits,R[0].tens,true⟩,some ⟨bq,0,none⟩,c',by simp,by simp;omega,by simpa using h1,hS.far (by simp only;omega),grown_far hG (by simp only;omega)⟩
 ·have q0':(q == 0)=false:=by simpa using q0
  by_cases q1:q=1
  ·subst q1
   go_wp2_with fail
   refine (l02Draw_c A n c g _ hS).mono ?_;rintro e w3 ⟨a,b,rfl,ha,hb,hS,hg⟩
   have hO:=hO.src hg (by omega)
   have hG:=hG.trans hg
   clear hg ha hb
   have gz:=hG.size
   obtain ⟨m,hm⟩:∃ m,R.length=m+1:=⟨R.length - 1,by omega⟩
   obtain ⟨z0,hz0⟩:=Own.cell hO (i:=m) (j:=0) (by rw [List.length_map];omega) (by omega)
   obtain ⟨z1,hz1⟩:=Own.cell hO (i:=m) (j:=1) (by rw [List.length_map];omega) (by omega)
   rw [Nat.add_zero] at hz0
   have f0:=Own.frozen hO (m * 3)
   have f1:=Own.frozen hO (m * 3+1)
   have hi1:(R.length:Int) - 1=(m:Int):=by omega
   have hi2:IntKind.i64.wrap (m:Int)=m:=IntWalk.i64_in _ (by omega)
   have hi3:(m:Int) < (R.length:Int):=by omega
   have Hm:=Lib.hid hm
   have HR:=Lib.hid hR
   clear hcell hfz hm hR hlt0
   go_wp2_with fail
   go_ret
   have hm:=Hm.out
   have hR:=HR.out
   have h1:=hO.setX (i:=m) (j:=0) (by rw [List.length_map];omega) (by omega) (.int .i64 a)
   have h2:=h1.setX (i:=m) (j:=1) (by rw [List.length_set,List.length_map];omega) (by omega) (.int .i64 b)
   rw [Nat.add_zero] at h2
   have e1:(((R.map Term.cells).set m (((R.map Term.cells)[m]'(by rw [List.length_map];omega)).set 0 (.int .i64 a))).set m (((((R.map Term.cells).set m (((R.map Term.cells)[m]'(by rw [List.length_map];omega)).set 0 (.int .i64 a))))[m]'(by rw [List.length_set,List.length_map];omega)).set 1 (.int .i64 b)))=(R.set m ⟨a,b,(R[m]'(by omega)).div⟩).map Term.cells:=by
    rw [List.map_set,List.set_set];congr 1;rw [List.getElem_set_self,List.getElem_map];rfl
   rw [e1] at h2
   exact ⟨R.set m ⟨a,b,(R[m]'(by omega)).div⟩,some ⟨bq,0,none⟩,c',by simp,by simp;omega,by simpa using h2,(hS.far (by simp only;omega)).far (by simp only;omega),grown_far (grown_far hG (by simp only;omega)) (by simp only;omega)⟩
  ·have q1':(q == 1)=false:=by simpa using q1
   by_cases q2:q=2
   ·subst q2
    clear hcell hfz
    go_wp2_with fail
    go_loopg [3] 200 (fun gx v wr=>∃ (R:List Term),(R.length ≤ 100∧100 - R.length ≤ gx)∧(∃ (A':Option Addr) (c':Nat),v=.slice A' R.length c')∧Own wr w.heap.size 100 3 v (R.map Term.cells)∧Src wr A n c g∧w.grownBy wr (some g))
    case atStart=>exact ⟨R,by omega,⟨_,_,rfl⟩,hO,hS,hG⟩
    case round =>
     clear hO hS hG gz hR hlt0
     obtain ⟨R,hR,⟨A',c',hv⟩,hO,hS,hG⟩:=hrel
     subst hv
     have gz:=hG.size
     go_wp2_with fail
     refine (l01Next_c A n c g _ _ hS).mono ?_;rintro e w3 ⟨r1,rfl,⟨r1a,r1b⟩,r1d,hS,hg⟩
     have hO:=hO.src hg (by omega)
     have hG:=hG.trans hg
     clear hg
     have gz:=hG.size
     by_cases hlt2:(R.length:Int) < 6+r1
     ·go_wp2_with fail
      refine (l02Valid_c A n c g _ hS).mono ?_;rintro e w4 ⟨a1,b1,rfl,ha,hb,hS,hg⟩
      have hO:=hO.src hg (by omega)
      have hG:=hG.trans hg
      clear hg ha hb
      have gz:=hG.size
      go_wp2_with (at_builtin;refine wpList_append_rows _ rfl _ _ _ rfl w.heap.size 100 i0 _ 3 24 Tryz.underlying27 hi hz0 hz1 hz2 rfl (by omega) _ _ rfl (hO.alloc _) _ _ _ _ ([(⟨a1,b1,false⟩:Term)].map Term.cells) rfl rfl (Sl.of_blk (Blk.new' _ _ _ (by first | rfl | simp)) _ rfl (by simp [Term.cells])) (Term.oneX (l:=[⟨a1,b1,false⟩])) (by simp;unfold maxLen;omega) (by simp;omega) (by first | omega | (simp;omega)) ?_;intro v1 w7 hO3 hg3 hat3)
      have hS3:=(hS.alloc (.cells #[.int .i64 a1,.int .i64 b1,.bool false] 100)).grown hg3 (fun r hr=>by have:=hO.ownGe r hr;omega)
      have hG3:w.grownBy w7 (some g):=grown_own (hG.trans (grown_alloc _ _)) hg3 (fun r hr=>hO.ownGe r hr)
      have hO4:Own w7 w.heap.size 100 3 v1 ((R ++ [(⟨a1,b1,false⟩:Term)]).map Term.cells):=by rw [List.map_append];exact hO3
      go_roundg (100 - (R.length+1))
      case measure=>omega
      case rel=>exact ⟨R ++ [⟨a1,b1,false⟩],by simp;omega,by obtain ⟨A2,c2,hv,_⟩:=hO4.form;exact ⟨A2,c2,by simpa using hv⟩,hO4,hS3,hG3⟩
     ·go_wp2_with fail
      go_ret
      exact ⟨R,A',c',rfl,by omega,hO,hS,hG⟩
   ·have q2':(q == 2)=false:=by simpa using q2
    clear hcell hfz
    by_cases q3:q=3
    ·subst q3
     have hO2:=hO.prefix_ (j:=0) (by omega)
     go_wp2
     go_ret
     exact ⟨[],some ⟨bq,0,none⟩,c',rfl,by simp,by simpa using hO2,hS,hG⟩
    ·have q3':(q == 3)=false:=by simpa using q3
     go_wp2
     go_ret
     exact ⟨R,some ⟨bq,0,none⟩,c',rfl,by omega,hO,hS,hG⟩
end Go.Proofs.YtednjmldjbndhaaGreat
namespace Go.Proofs.YtednjmldjbndhaaGreat
open Go.RowKit
theorem own_ne_blkX {w:World} {base k:Nat} {e t:TypeId} {v:Value} {xs:List (List Value)} {g:Nat} {cs:Array Value} (h:Own w base e k v xs) (hB:Blk w g t cs) (hte:t ≠ e):v.ownBlock ≠ some g:=by
 intro hv
 rcases h.1.2 with ⟨rfl,_⟩ | ⟨q,cap,cur,rfl,_,hh,_⟩
 ·cases hv
 ·simp only [Value.ownBlock,Option.some.injEq] at hv
  subst hv
  unfold Blk at hB
  rw [hB] at hh
  simp only [Option.some.injEq,Obj.cells.injEq] at hh
  exact hte hh.2.1
theorem Own.farX {w:World} {base k:Nat} {e t:TypeId} {v:Value} {xs:List (List Value)} {g:Nat} {cs:Array Value} (h:Own w base e k v xs) (hB:Blk w g t cs) (hte:t ≠ e) (j:Nat) (u:Value):Own (w.setCell ⟨g,j,none⟩ u) base e k v xs :=
 h.kept (grownBy_stores [u] j (World.grownBy.refl w (some g))) (.inr (own_ne_blkX h hB hte))
theorem l11DrawScales_c (A:Option Addr) (n c g:Nat) (w:World) (hS:Src w A n c g):Calls Tryz.prog 105 #[.pointer (some ⟨g,0,none⟩)] w (DSc A n c g w):=by
 obtain ⟨i0,hi,hz0,hz1,hz2⟩:=info_parts info_Int64
 have hG:w.grownBy w (some g):=World.grownBy.refl _ _
 have hlt:=hS.lt
 unfold DSc
 go_enter Tryz.func105,Tryz.ntmps105
 have hO:Own (w.alloc (.cells #[.int .i64 0] 2)) w.heap.size 2 1 (.slice (some ⟨w.heap.size,0,none⟩) 1 1) ([(0:Int)].map ic):=Own.litX (xs:=[0]) (Nat.le_refl _) (by simp)
 have hS:=hS.alloc (.cells #[.int .i64 0] 2)
 have hG:=hG.trans (grown_alloc (.cells #[.int .i64 0] 2) (some g))
 go_wp2_with fail
 generalize w.alloc (.cells #[.int .i64 0] 2)=w1 at *
 go_loopw [3,4] (fun v i wr=>∃ (j:Nat) (R:List Int),i=.int .i64 ((j:Int)+1)∧j ≤ 4∧(1 ≤ R.length∧R.length ≤ j+1)∧Own wr w.heap.size 2 1 v (R.map ic)∧Src wr A n c g∧w.grownBy wr (some g)) (fun _ i _=>5 - (intOf i).toNat)
 case atStart=>exact ⟨0,[0],rfl,by omega,by simp,hO,hS,hG⟩
 case round =>
  clear hO hS hG
  obtain ⟨j,R,rfl,hj,⟨hR1,hR2⟩,hO,hS,hG⟩:=hrel
  have gz:=hG.size
  obtain ⟨A',c',hv,hle⟩:=hO.form
  rw [List.length_map] at hv
  subst hv
  by_cases hj0:j < 4
  ·have hjz:(j:Int)+1 < 5:=by omega
   go_wp2_with fail
   refine (l01Next_c A n c g _ _ hS).mono ?_;rintro e w4 ⟨r2,rfl,⟨r2a,r2b⟩,r2d,hS,hg⟩
   have hO:=hO.src hg (by omega)
   have hG:=hG.trans hg
   clear hg
   have gz:=hG.size
   by_cases hr:r2=0
   ·have hr0:(r2 == 0)=true:=by simpa using hr
    clear hr r2a r2b r2d
    go_wp2_with (at_builtin;refine wpList_append_rows _ rfl _ _ _ rfl w.heap.size 2 i0 _ 1 8 Tryz.underlying24 hi hz0 hz1 hz2 rfl (by omega) _ _ rfl (hO.alloc _) _ _ _ _ ([(j:Int)+1].map ic) rfl rfl (Sl.of_blk (Blk.new' _ _ _ (by first | rfl | simp)) _ rfl (by simp [ic])) (ic_one (x:=[(j:Int)+1])) (by simp;unfold maxLen;omega) (by simp;omega) (by first | omega | (simp;omega)) ?_;intro v1 w7 hO3 hg3 hat3)
    have hS3:=(hS.alloc (.cells #[.int .i64 ((j:Int)+1)] 2)).grown hg3 (fun r hr=>by have:=hO.ownGe r hr;omega)
    have hG3:w.grownBy w7 (some g):=grown_own (hG.trans (grown_alloc _ _)) hg3 (fun r hr=>hO.ownGe r hr)
    go_roundw
    case rel=>exact ⟨j+1,R ++ [(j:Int)+1],by go_num,by omega,by simp;omega,by rw [List.map_append];exact hO3,hS3,hG3⟩
    case measure=>simp [intOf];omega
   ·have hr0:(r2 == 0)=false:=by simpa using hr
    clear hr r2a r2b r2d
    go_wp2_with fail
    go_roundw
    case rel=>exact ⟨j+1,R,by go_num,by omega,⟨hR1,by omega⟩,hO,hS,hG⟩
    case measure=>simp [intOf];omega
  ·have hjz:¬ (j:Int)+1 < 5:=by omega
   go_wp2
   go_ret
   exact ⟨R,A',c',rfl,by omega,hO,hS,hG⟩
theorem l10Draw_c (A:Option Addr) (n c g:Nat) (w:World) (hS:Src w A n c g):Calls Tryz.prog 49 #[.pointer (some ⟨g,0,none⟩)] w (DEr A n c g w):=by
 have hG:w.grownBy (w.alloc (.cells #[.int .i64 0,.int .i64 0,.int .i64 0] 29)) (some g):=grown_alloc _ _
 have hlt:=hS.lt
 have BN:=Blk.new w 29 #[.int .i64 0,.int .i64 0,.int .i64 0]
 have hS:=hS.alloc (.cells #[.int .i64 0,.int .i64 0,.int .i64 0] 29)
 unfold DEr
 go_enter Tryz.func49,Tryz.ntmps49
 go_wp2_with fail
 generalize w.alloc (.cells #[.int .i64 0,.int .i64 0,.int .i64 0] 29)=w0 at *
 refine (l01Next_c A n c g _ _ hS).mono ?_;rintro e w1 ⟨x0,rfl,_,_,hS,hg⟩
 have BN:=BN.src hg (by omega)
 have hG:=hG.trans hg
 clear hg
 go_wp2_with fail
 refine (l01Next_c A n c g _ _ hS).mono ?_;rintro e w2 ⟨x1,rfl,_,_,hS,hg⟩
 have BN:=BN.src hg (by omega)
 have hG:=hG.trans hg
 clear hg
 go_wp2_with fail
 refine (l01Next_c A n c g _ _ hS).mono ?_;rintro e w3 ⟨x2,rfl,_,_,hS,hg⟩
 have BN:=BN.src hg (by omega)
 have hG:=hG.trans hg
 clear hg
 have gz:=hG.size
 have hbn:=BN.lt
 have hg3:=hS.lt
 have B3:=Blk.new w3 29 #[.int .i64 x0,.int .i64 x1,.int .i64 x2]
 have BN:=BN.alloc (.cells #[.int .i64 x0,.int .i64 x1,.int .i64 x2] 29)
 have hS:=hS.alloc (.cells #[.int .i64 x0,.int .i64 x1,.int .i64 x2] 29)
 have hG:=hG.trans (grown_alloc (.cells #[.int .i64 x0,.int .i64 x1,.int .i64 x2] 29) (some g))
 have hb3:w.heap.size < w3.heap.size:=hbn
 go_wp2_with fail
 generalize w3.alloc (.cells #[.int .i64 x0,.int .i64 x1,.int .i64 x2] 29)=w4 at *
 generalize w3.heap.size=b3 at *
 refine (l01Next_c A n c g _ _ hS).mono ?_;rintro e w5 ⟨q,rfl,_,_,hS,hg⟩
 have BN:=BN.src hg (by omega)
 have B3:=B3.src hg (by omega)
 have hG:=hG.trans hg
 clear hg
 have gz5:=hG.size
 have hne:b3 ≠ w.heap.size:=by omega
 by_cases q0:q=0
 ·subst q0
  go_wp2_with fail
  refine (l01Pick_n A n c g #[.int .i64 (-1),.int .i64 200,.int .i64 201] 3 3 _ hS (by intro v hv;simp only [List.mem_cons,List.not_mem_nil,or_false] at hv;rcases hv with rfl | rfl | rfl;all_goals exact ⟨_,rfl,by omega,by omega⟩) rfl (by decide) (by decide)).mono ?_;rintro e w6 ⟨p,rfl,_,hS,hg⟩
  have BN:=BN.src hg (by omega)
  have B3:=B3.src hg (by omega)
  have hG:=hG.trans hg
  clear hg
  have c0:w6.cell? ⟨b3,0,none⟩=some (.int .i64 x0):=B3.cell 0
  have d0:w6.cell? ⟨w.heap.size,0,none⟩=some (.int .i64 0):=BN.cell 0
  have fc0:=B3.frozen 0
  have fd0:=BN.frozen 0
  have c1:w6.cell? ⟨b3,1,none⟩=some (.int .i64 x1):=B3.cell 1
  have d1:w6.cell? ⟨w.heap.size,1,none⟩=some (.int .i64 0):=BN.cell 1
  have fc1:=B3.frozen 1
  have fd1:=BN.frozen 1
  have c2:w6.cell? ⟨b3,2,none⟩=some (.int .i64 x2):=B3.cell 2
  have d2:w6.cell? ⟨w.heap.size,2,none⟩=some (.int .i64 0):=BN.cell 2
  have fc2:=B3.frozen 2
  have fd2:=BN.frozen 2
  have zb:=B3.lt
  have zn:=BN.lt
  go_wp2
  refine bodyPost_ret (v:=.agg #[.int .i64 x0,.int .i64 x1,.int .i64 p]) (by simp [results,Tryz.results49,go_sem,d0,d1,d2]) rfl ⟨x0,x1,p,rfl,(by repeat (first | with_reducible exact hS | with_reducible refine Src.far ?_ (by first | omega | (simp only;omega)))),(by repeat (first | with_reducible exact hG | with_reducible refine grown_far ?_ (by first | (simp;done) | omega | (simp only;omega))))⟩
 ·have q0':(q == 0)=false:=by simpa using q0
  by_cases q1:q=1
  ·subst q1
   go_wp2_with fail
   refine (l01Pick_n A n c g #[.int .i64 (-1),.int .i64 200,.int .i64 201] 3 3 _ hS (by intro v hv;simp only [List.mem_cons,List.not_mem_nil,or_false] at hv;rcases hv with rfl | rfl | rfl;all_goals exact ⟨_,rfl,by omega,by omega⟩) rfl (by decide) (by decide)).mono ?_;rintro e w6 ⟨p,rfl,_,hS,hg⟩
   have BN:=BN.src hg (by omega)
   have B3:=B3.src hg (by omega)
   have hG:=hG.trans hg
   clear hg
   have c0:w6.cell? ⟨b3,0,none⟩=some (.int .i64 x0):=B3.cell 0
   have d0:w6.cell? ⟨w.heap.size,0,none⟩=some (.int .i64 0):=BN.cell 0
   have fc0:=B3.frozen 0
   have fd0:=BN.frozen 0
   have c1:w6.cell? ⟨b3,1,none⟩=some (.int .i64 x1):=B3.cell 1
   have d1:w6.cell? ⟨w.heap.size,1,none⟩=some (.int .i64 0):=BN.cell 1
   have fc1:=B3.frozen 1
   have fd1:=BN.frozen 1
   have c2:w6.cell? ⟨b3,2,none⟩=some (.int .i64 x2):=B3.cell 2
   have d2:w6.cell? ⟨w.heap.size,2,none⟩=some (.int .i64 0):=BN.cell 2
   have fc2:=B3.frozen 2
   have fd2:=BN.frozen 2
   have zb:=B3.lt
   have zn:=BN.lt
   go_wp2
   refine bodyPost_ret (v:=.agg #[.int .i64 p,.int .i64 x1,.int .i64 x2]) (by simp [results,Tryz.results49,go_sem,d0,d1,d2]) rfl ⟨p,x1,x2,rfl,(by repeat (first | with_reducible exact hS | with_reducible refine Src.far ?_ (by first | omega | (simp only;omega)))),(by repeat (first | with_reducible exact hG | with_reducible refine grown_far ?_ (by first | (simp;done) | omega | (simp only;omega))))⟩
  ·have q1':(q == 1)=false:=by simpa using q1
   by_cases q2:q=2
   ·subst q2
    have c0:w5.cell? ⟨b3,0,none⟩=some (.int .i64 x0):=B3.cell 0
    have d0:w5.cell? ⟨w.heap.size,0,none⟩=some (.int .i64 0):=BN.cell 0
    have fc0:=B3.frozen 0
    have fd0:=BN.frozen 0
    have c1:w5.cell? ⟨b3,1,none⟩=some (.int .i64 x1):=B3.cell 1
    have d1:w5.cell? ⟨w.heap.size,1,none⟩=some (.int .i64 0):=BN.cell 1
    have fc1:=B3.frozen 1
    have fd1:=BN.frozen 1
    have c2:w5.cell? ⟨b3,2,none⟩=some (.int .i64 x2):=B3.cell 2
    have d2:w5.cell? ⟨w.heap.size,2,none⟩=some (.int .i64 0):=BN.cell 2
    have fc2:=B3.frozen 2
    have fd2:=BN.frozen 2
    have zb:=B3.lt
    have zn:=BN.lt
    go_wp2
    refine bodyPost_ret (v:=.agg #[.int .i64 0,.int .i64 0,.int .i64 0]) (by simp [results,Tryz.results49,go_sem,d0,d1,d2]) rfl ⟨0,0,0,rfl,(by repeat (first | with_reducible exact hS | with_reducible refine Src.far ?_ (by first | omega | (simp only;omega)))),(by repeat (first | with_reducible exact hG | with_reducible refine grown_far ?_ (by first | (simp;done) | omega | (simp only;omega))))⟩
   ·have q2':(q == 2)=false:=by simpa using q2
    have c0:w5.cell? ⟨b3,0,none⟩=some (.int .i64 x0):=B3.cell 0
    have d0:w5.cell? ⟨w.heap.size,0,none⟩=some (.int .i64 0):=BN.cell 0
    have fc0:=B3.frozen 0
    have fd0:=BN.frozen 0
    have c1:w5.cell? ⟨b3,1,none⟩=some (.int .i64 x1):=B3.cell 1
    have d1:w5.cell? ⟨w.heap.size,1,none⟩=some (.int .i64 0):=BN.cell 1
    have fc1:=B3.frozen 1
    have fd1:=BN.frozen 1
    have c2:w5.cell? ⟨b3,2,none⟩=some (.int .i64 x2):=B3.cell 2
    have d2:w5.cell? ⟨w.heap.size,2,none⟩=some (.int .i64 0):=BN.cell 2
    have fc2:=B3.frozen 2
    have fd2:=BN.frozen 2
    have zb:=B3.lt
    have zn:=BN.lt
    go_wp2
    refine bodyPost_ret (v:=.agg #[.int .i64 x0,.int .i64 x1,.int .i64 x2]) (by simp [results,Tryz.results49,go_sem,d0,d1,d2]) rfl ⟨x0,x1,x2,rfl,(by repeat (first | with_reducible exact hS | with_reducible refine Src.far ?_ (by first | omega | (simp only;omega)))),(by repeat (first | with_reducible exact hG | with_reducible refine grown_far ?_ (by first | (simp;done) | omega | (simp only;omega))))⟩
end Go.Proofs.YtednjmldjbndhaaGreat
namespace Go.Proofs.YtednjmldjbndhaaGreat
open Go.RowKit
theorem Own.setNe {w:World} {base k:Nat} {e:TypeId} {v:Value} {xs:List (List Value)} {g:Nat} (h:Own w base e k v xs) (hne:v.ownBlock ≠ some g) (j:Nat) (u:Value):Own (w.setCell ⟨g,j,none⟩ u) base e k v xs :=
 h.kept (grownBy_stores [u] j (World.grownBy.refl w (some g))) (.inr hne)
structure R6S (w:World) (A:Option Addr) (n c g N b3:Nat) (rc:Array Value) (L:Int) (s2:Value) (rows2:List (List Value)) (b27 b29 b30 b33:Bool) (v27 v29 v30 v33:Value) (v:World):Prop where
 s:Src v A n c g
 gr:w.grownBy v (some g)
 bn:Blk v N 26 #[.int .i64 0,.slice none 0 0,.slice none 0 0]
 br:Blk v b3 26 rc
 o2:Own v w.heap.size 2 1 s2 rows2
 l27:b27=true→∃ x:Int,v27=.int .i64 x
 l29:b29=true→∃ x:Int,v29=.int .i64 x
 l30:b30=true→∃ (x y:Int) (bb:Nat),v30=.slice (some ⟨bb,0,none⟩) 2 2∧Own v w.heap.size 2 1 (.slice (some ⟨bb,0,none⟩) 2 2) ([x,y].map ic)
 l33:b33=true→b30=true∧v33=.agg #[.int .i64 L,v30,s2]
section
variable {w v v' : World} {A : Option Addr} {n c g N b3 : Nat} {rc : Array Value} {L : Int} {s2 : Value} {rows2 : List (List Value)} {b27 b29 b30 b33 : Bool} {v27 v29 v30 v33 : Value}
theorem R6S.start (hS:Src v A n c g) (hG:w.grownBy v (some g)) (bn:Blk v N 26 #[.int .i64 0,.slice none 0 0,.slice none 0 0]) (br:Blk v b3 26 rc) (o2:Own v w.heap.size 2 1 s2 rows2):R6S w A n c g N b3 rc L s2 rows2 false false false false v27 v29 v30 v33 v.drew :=
 ⟨hS.keep fun _ _=>rfl,grown_drewN hG 1,bn.drewN 1,br.drewN 1,o2.drewN 1,nofun,nofun,nofun,nofun⟩
theorem R6S.c27 (h:R6S w A n c g N b3 rc L s2 rows2 b27 b29 b30 b33 v27 v29 v30 v33 v) (hn:g < w.heap.size∧N ≠ g∧b3 ≠ g) (x:Int) (hS:Src v' A n c g) (hg:v.grownBy v' (some g)):R6S w A n c g N b3 rc L s2 rows2 true b29 b30 b33 (.int .i64 x) v29 v30 v33 v' :=
 ⟨hS,h.gr.trans hg,h.bn.src hg hn.2.1,h.br.src hg hn.2.2,h.o2.src hg hn.1,fun _=>⟨x,rfl⟩,h.l29,(fun e=>by
  obtain ⟨x,y,bb,h1,h2⟩:=h.l30 e
  exact ⟨x,y,bb,h1,h2.src hg hn.1⟩),h.l33⟩
theorem R6S.c29 (h:R6S w A n c g N b3 rc L s2 rows2 b27 b29 b30 b33 v27 v29 v30 v33 v) (hn:g < w.heap.size∧N ≠ g∧b3 ≠ g) (x:Int) (hS:Src v' A n c g) (hg:v.grownBy v' (some g)):R6S w A n c g N b3 rc L s2 rows2 b27 true b30 b33 v27 (.int .i64 x) v30 v33 v' :=
 ⟨hS,h.gr.trans hg,h.bn.src hg hn.2.1,h.br.src hg hn.2.2,h.o2.src hg hn.1,h.l27,fun _=>⟨x,rfl⟩,(fun e=>by
  obtain ⟨x,y,bb,h1,h2⟩:=h.l30 e
  exact ⟨x,y,bb,h1,h2.src hg hn.1⟩),h.l33⟩
theorem R6S.mk30 (h:R6S w A n c g N b3 rc L s2 rows2 b27 b29 b30 b33 v27 v29 v30 v33 v) (h30:b30=false) (x y:Int):R6S w A n c g N b3 rc L s2 rows2 b27 b29 true b33 v27 v29 (.slice (some ⟨v.heap.size,0,none⟩) 2 2) v33 (v.alloc (.cells #[.int .i64 x,.int .i64 y] 2)) :=
 ⟨h.s.alloc _,h.gr.trans (grown_alloc _ _),h.bn.alloc _,h.br.alloc _,h.o2.alloc _,h.l27,h.l29,fun _=>⟨x,y,_,rfl,Own.litX (xs:=[x,y]) h.gr.size (by simp)⟩,fun e=>by
  have:=(h.l33 e).1
  rw [h30] at this;cases this⟩
theorem R6S.b33' (h:R6S w A n c g N b3 rc L s2 rows2 b27 b29 b30 b33 v27 v29 v30 v33 v) (h30:b30=true):R6S w A n c g N b3 rc L s2 rows2 b27 b29 b30 true v27 v29 v30 (.agg #[.int .i64 L,v30,s2]) v :=
 ⟨h.s,h.gr,h.bn,h.br,h.o2,h.l27,h.l29,h.l30,fun _=>⟨h30,rfl⟩⟩
end
theorem l11Draw_c (A:Option Addr) (n c g:Nat) (w:World) (hS:Src w A n c g):Calls Tryz.prog 47 #[.pointer (some ⟨g,0,none⟩)] w (DRu A n c g w):=by
 have hG:w.grownBy (w.alloc (.cells #[.int .i64 0,.slice none 0 0,.slice none 0 0] 26)) (some g):=grown_alloc _ _
 have hlt:=hS.lt
 have BN:=Blk.new w 26 #[.int .i64 0,.slice none 0 0,.slice none 0 0]
 have hS:=hS.alloc (.cells #[.int .i64 0,.slice none 0 0,.slice none 0 0] 26)
 unfold DRu
 go_enter Tryz.func47,Tryz.ntmps47
 go_wp2_with fail
 generalize w.alloc (.cells #[.int .i64 0,.slice none 0 0,.slice none 0 0] 26)=w0 at *
 refine (l01Next_c A n c g _ _ hS).mono ?_;rintro e w1 ⟨x,rfl,⟨xa,xb⟩,_,hS,hg⟩
 have BN:=BN.src hg (by omega)
 have hG:=hG.trans hg
 clear hg
 have hw:IntKind.i64.wrap (1000+x)=1000+x:=IntWalk.i64_in _ (by omega)
 go_wp2_with fail
 refine (l01Pick_n A n c g #[.int .i64 25000,.int .i64 12500,.int .i64 (1000+x)] 3 3 _ hS (by intro v hv;simp only [List.mem_cons,List.not_mem_nil,or_false] at hv;rcases hv with rfl | rfl | rfl;all_goals exact ⟨_,rfl,by omega,by omega⟩) rfl (by decide) (by decide)).mono ?_;rintro e w2 ⟨L,rfl,_,hS,hg⟩
 have BN:=BN.src hg (by omega)
 have hG:=hG.trans hg
 clear hg xa xb hw
 have gz:=hG.size
 go_wp2_with fail
 refine (l11DrawScales_c A n c g _ hS).mono ?_;rintro e w3 ⟨l1,A1,c1,rfl,hl1,hO1,hS,hg⟩
 have hO1:=hO1.mono gz
 have BN:=BN.src hg (by omega)
 have hG:=hG.trans hg
 clear hg
 have gz:=hG.size
 go_wp2_with fail
 refine (l11DrawScales_c A n c g _ hS).mono ?_;rintro e w4 ⟨l2,A2,c2,rfl,hl2,hO2,hS,hg⟩
 have hO2:=hO2.mono gz
 have hO1:=hO1.src hg (by omega)
 have BN:=BN.src hg (by omega)
 have hG:=hG.trans hg
 clear hg
 have gz:=hG.size
 have hbn:=BN.lt
 have B3:=Blk.new w4 26 #[.int .i64 L,.slice A1 l1.length c1,.slice A2 l2.length c2]
 have BN:=BN.alloc (.cells #[.int .i64 L,.slice A1 l1.length c1,.slice A2 l2.length c2] 26)
 have hO1:=hO1.alloc (.cells #[.int .i64 L,.slice A1 l1.length c1,.slice A2 l2.length c2] 26)
 have hO2:=hO2.alloc (.cells #[.int .i64 L,.slice A1 l1.length c1,.slice A2 l2.length c2] 26)
 have hS:=hS.alloc (.cells #[.int .i64 L,.slice A1 l1.length c1,.slice A2 l2.length c2] 26)
 have hG:=hG.trans (grown_alloc (.cells #[.int .i64 L,.slice A1 l1.length c1,.slice A2 l2.length c2] 26) (some g))
 go_wp2_with fail
 generalize w4.alloc (.cells #[.int .i64 L,.slice A1 l1.length c1,.slice A2 l2.length c2] 26)=w5 at *
 generalize w4.heap.size=b3 at *
 refine (l01Next_c A n c g _ _ hS).mono ?_;rintro e w6 ⟨q,rfl,_,_,hS,hg⟩
 have hO1:=hO1.src hg (by omega)
 have hO2:=hO2.src hg (by omega)
 have BN:=BN.src hg (by omega)
 have B3:=B3.src hg (by omega)
 have hG:=hG.trans hg
 clear hg
 have gz:=hG.size
 have hne:b3 ≠ w.heap.size:=by omega
 have n1b:(Value.slice A1 l1.length c1).ownBlock ≠ some b3:=own_ne_blkX hO1 B3 (by decide)
 have n1N:(Value.slice A1 l1.length c1).ownBlock ≠ some w.heap.size:=own_ne_blkX hO1 BN (by decide)
 have n2b:(Value.slice A2 l2.length c2).ownBlock ≠ some b3:=own_ne_blkX hO2 B3 (by decide)
 have n2N:(Value.slice A2 l2.length c2).ownBlock ≠ some w.heap.size:=own_ne_blkX hO2 BN (by decide)
 have N1b:=Lib.hid n1b;have N1N:=Lib.hid n1N;have N2b:=Lib.hid n2b;have N2N:=Lib.hid n2N
 clear n1b n1N n2b n2N
 by_cases q0:q=0
 ·subst q0
  go_wp2_with fail
  refine (l05DrawLength_c A n c g _ hS).mono ?_;rintro e w7 ⟨p,rfl,_,hS,hg⟩
  have hO1:=hO1.src hg (by omega)
  have hO2:=hO2.src hg (by omega)
  have BN:=BN.src hg (by omega)
  have B3:=B3.src hg (by omega)
  have hG:=hG.trans hg
  clear hg
  have yc0:w7.cell? ⟨b3,0,none⟩=some (.int .i64 L):=B3.cell 0
  have yd0:w7.cell? ⟨w.heap.size,0,none⟩=some (.int .i64 0):=BN.cell 0
  have fc0:=B3.frozen 0
  have fd0:=BN.frozen 0
  have yc1:w7.cell? ⟨b3,1,none⟩=some (.slice A1 l1.length c1):=B3.cell 1
  have yd1:w7.cell? ⟨w.heap.size,1,none⟩=some (.slice none 0 0):=BN.cell 1
  have fc1:=B3.frozen 1
  have fd1:=BN.frozen 1
  have yc2:w7.cell? ⟨b3,2,none⟩=some (.slice A2 l2.length c2):=B3.cell 2
  have yd2:w7.cell? ⟨w.heap.size,2,none⟩=some (.slice none 0 0):=BN.cell 2
  have fc2:=B3.frozen 2
  have fd2:=BN.frozen 2
  have zb:=B3.lt
  have zn:=BN.lt
  go_wp2
  refine bodyPost_ret (v:=.agg #[.int .i64 p,.slice A1 l1.length c1,.slice A2 l2.length c2]) (by simp [results,Tryz.results47,go_sem,yd0,yd1,yd2]) rfl ⟨p,l1,l2,A1,A2,c1,c2,rfl,(by first | omega | (simp;done) | (simp;omega)),(by repeat (first | with_reducible exact hO1 | with_reducible refine Own.setNe ?_ (by first | exact N1b.out | exact N1N.out) _ _)),(by repeat (first | with_reducible exact hO2 | with_reducible refine Own.setNe ?_ (by first | exact N2b.out | exact N2N.out) _ _)),(by repeat (first | with_reducible exact hS | with_reducible refine Src.far ?_ (by first | omega | (simp only;omega)))),(by repeat (first | with_reducible exact hG | with_reducible refine grown_far ?_ (by first | (simp;done) | omega | (simp only;omega))))⟩
 ·have q0':(q == 0)=false:=by simpa using q0
  by_cases q1:q=1
  ·subst q1
   have hnn:g < w.heap.size∧w.heap.size ≠ g∧b3 ≠ g:=by omega
   clear hO1
   go_wp2_with fail
   refine wp_region_sink 10 (fun a0 fL bA v=>∃ v24 v25 v26 v27 v28 v29 v30 v31 v32 v33:Value,bA=(((((((((a0.put (some 24) v24).put (some 25) v25).put (some 26) v26).put (some 27) v27).put (some 28) v28).put (some 29) v29).put (some 30) v30).put (some 31) v31).put (some 32) v32).put (some 33) v33∧(R6S w A n c g w.heap.size b3 #[.int .i64 L,.slice A1 l1.length c1,.slice A2 l2.length c2] L (.slice A2 l2.length c2) (l2.map ic) (fL 3) (fL 5) (fL 6) (fL 9) v27 v29 v30 v33 v)∧(fL 0=true→v24=.pointer (some ⟨b3,0,none⟩))∧(fL 1=true→v25=.int .i64 L)∧(fL 2=true→v26=.pointer (some ⟨g,0,none⟩))∧(fL 3=true→True)∧(fL 4=true→v28=.pointer (some ⟨g,0,none⟩))∧(fL 5=true→True)∧(fL 6=true→True)∧(fL 7=true→v31=.pointer (some ⟨b3,2,none⟩))∧(fL 8=true→v32=.slice A2 l2.length c2)∧(fL 9=true→True)) (by kernel_rfl) (by decide +kernel) ?_ ?_ ?_
   ·exact ⟨undef,undef,undef,undef,undef,undef,undef,undef,undef,undef,by simp only [Act.put,List.setIfInBounds_toArray,List.set_cons_zero,List.set_cons_succ],R6S.start hS hG BN B3 hO2,nofun,nofun,nofun,nofun,nofun,nofun,nofun,nofun,nofun,nofun⟩
   ·rintro fL bA v ⟨v24,v25,v26,v27,v28,v29,v30,v31,v32,v33,rfl,hS,q0,q1,q2,q3,q4,q5,q6,q7,q8,q9⟩ i hi hf o ho hall
    simp only [Act.put,List.setIfInBounds_toArray,List.set_cons_zero,List.set_cons_succ]
    have hn:i=0 ∨ i=1 ∨ i=2 ∨ i=3 ∨ i=4 ∨ i=5 ∨ i=6 ∨ i=7 ∨ i=8 ∨ i=9:=by omega
    clear hi
    rcases hn with rfl | rfl | rfl | rfl | rfl | rfl | rfl | rfl | rfl | rfl
    ·obtain rfl:=Option.some.inj ho
     clear hall ho
     refine wpOp_step rfl (fun K hK=>?_)
     go_simp
     exact hK _ _ ⟨_,_,_,_,_,_,_,_,_,_,rfl,hS,fun _=>rfl,q1,q2,fun _=>trivial,q4,fun _=>trivial,fun _=>trivial,q7,q8,fun _=>trivial⟩
    ·obtain rfl:=Option.some.inj ho
     obtain rfl:=q0 (hall ⟨0,.data⟩ (by simp) rfl)
     have y0:v.cell? ⟨b3,0,none⟩=some (.int .i64 L):=hS.br.cell 0
     clear hall ho
     refine wpOp_step rfl (fun K hK=>?_)
     go_simp
     exact hK _ _ ⟨_,_,_,_,_,_,_,_,_,_,rfl,hS,fun _=>rfl,fun _=>rfl,q2,fun _=>trivial,q4,fun _=>trivial,fun _=>trivial,q7,q8,fun _=>trivial⟩
    ·obtain rfl:=Option.some.inj ho
     clear hall ho
     refine wpOp_step rfl (fun K hK=>?_)
     go_simp
     exact hK _ _ ⟨_,_,_,_,_,_,_,_,_,_,rfl,hS,q0,q1,fun _=>rfl,fun _=>trivial,q4,fun _=>trivial,fun _=>trivial,q7,q8,fun _=>trivial⟩
    ·obtain rfl:=Option.some.inj ho
     obtain rfl:=q2 (hall ⟨2,.data⟩ (by simp) rfl)
     clear hall ho
     refine wpOp_step rfl (fun K hK=>?_)
     go_simp
     refine Calls.mono (l05DrawScale_c A n c g v hS.s) ?_;rintro e w8 ⟨qq,rfl,_,hS8,hg8⟩
     go_simp
     exact hK _ _ ⟨_,_,_,_,_,_,_,_,_,_,rfl,hS.c27 hnn qq hS8 hg8,q0,q1,fun _=>rfl,fun _=>trivial,q4,fun _=>trivial,fun _=>trivial,q7,q8,fun _=>trivial⟩
    ·obtain rfl:=Option.some.inj ho
     clear hall ho
     refine wpOp_step rfl (fun K hK=>?_)
     go_simp
     exact hK _ _ ⟨_,_,_,_,_,_,_,_,_,_,rfl,hS,q0,q1,q2,fun _=>trivial,fun _=>rfl,fun _=>trivial,fun _=>trivial,q7,q8,fun _=>trivial⟩
    ·obtain rfl:=Option.some.inj ho
     obtain rfl:=q4 (hall ⟨4,.data⟩ (by simp) rfl)
     clear hall ho
     refine wpOp_step rfl (fun K hK=>?_)
     go_simp
     refine Calls.mono (l05DrawScale_c A n c g v hS.s) ?_;rintro e w8 ⟨qq,rfl,_,hS8,hg8⟩
     go_simp
     exact hK _ _ ⟨_,_,_,_,_,_,_,_,_,_,rfl,hS.c29 hnn qq hS8 hg8,q0,q1,q2,fun _=>trivial,fun _=>rfl,fun _=>trivial,fun _=>trivial,q7,q8,fun _=>trivial⟩
    ·obtain rfl:=Option.some.inj ho
     have e3:fL 3=true:=hall ⟨3,.data⟩ (by simp) rfl
     have e5:fL 5=true:=hall ⟨5,.data⟩ (by simp) rfl
     obtain ⟨x,rfl⟩:=hS.l27 e3
     obtain ⟨y,rfl⟩:=hS.l29 e5
     clear hall ho
     refine wpOp_step rfl (fun K hK=>?_)
     go_simp
     exact hK _ _ ⟨_,_,_,_,_,_,_,_,_,_,rfl,hS.mk30 hf x y,q0,q1,q2,fun _=>trivial,q4,fun _=>trivial,fun _=>trivial,q7,q8,fun _=>trivial⟩
    ·obtain rfl:=Option.some.inj ho
     clear hall ho
     refine wpOp_step rfl (fun K hK=>?_)
     go_simp
     exact hK _ _ ⟨_,_,_,_,_,_,_,_,_,_,rfl,hS,q0,q1,q2,fun _=>trivial,q4,fun _=>trivial,fun _=>trivial,fun _=>rfl,q8,fun _=>trivial⟩
    ·obtain rfl:=Option.some.inj ho
     obtain rfl:=q7 (hall ⟨7,.data⟩ (by simp) rfl)
     have y0:v.cell? ⟨b3,2,none⟩=some (.slice A2 l2.length c2):=hS.br.cell 2
     clear hall ho
     refine wpOp_step rfl (fun K hK=>?_)
     go_simp
     exact hK _ _ ⟨_,_,_,_,_,_,_,_,_,_,rfl,hS,q0,q1,q2,fun _=>trivial,q4,fun _=>trivial,fun _=>trivial,fun _=>rfl,fun _=>rfl,fun _=>trivial⟩
    ·obtain rfl:=Option.some.inj ho
     obtain rfl:=q1 (hall ⟨1,.data⟩ (by simp) rfl)
     have e6:fL 6=true:=hall ⟨6,.data⟩ (by simp) rfl
     obtain rfl:=q8 (hall ⟨8,.data⟩ (by simp) rfl)
     obtain ⟨x,y,bb,rfl,hO9⟩:=hS.l30 e6
     clear hall ho
     refine wpOp_step rfl (fun K hK=>?_)
     go_simp
     exact hK _ _ ⟨_,_,_,_,_,_,_,_,_,_,rfl,hS.b33' e6,q0,fun _=>rfl,q2,fun _=>trivial,q4,fun _=>trivial,fun _=>trivial,q7,fun _=>rfl,fun _=>trivial⟩
   ·rintro fL bA v ⟨v24,v25,v26,v27,v28,v29,v30,v31,v32,v33,rfl,hS,q0,q1,q2,q3,q4,q5,q6,q7,q8,q9⟩ hall
    simp only [Act.put,List.setIfInBounds_toArray,List.set_cons_zero,List.set_cons_succ]
    obtain rfl:=q0 (hall 0 (by omega))
    obtain rfl:=q1 (hall 1 (by omega))
    obtain rfl:=q2 (hall 2 (by omega))
    have e3:fL 3=true:=hall 3 (by omega)
    obtain rfl:=q4 (hall 4 (by omega))
    have e5:fL 5=true:=hall 5 (by omega)
    have e6:fL 6=true:=hall 6 (by omega)
    obtain rfl:=q7 (hall 7 (by omega))
    obtain rfl:=q8 (hall 8 (by omega))
    have e9:fL 9=true:=hall 9 (by omega)
    clear hall
    simp only [List.drop_succ_cons,List.drop_zero]
    obtain ⟨x,y,bb,rfl,hO1⟩:=hS.l30 e6
    obtain ⟨_,rfl⟩:=hS.l33 e9
    have hO2:=hS.o2
    have BN:=hS.bn
    have B3:=hS.br
    have hG:=hS.gr
    have hS:=hS.s
    have n1N:(Value.slice (some ⟨bb,0,none⟩) [x,y].length 2).ownBlock ≠ some w.heap.size:=own_ne_blkX hO1 BN (by decide)
    have yd0:v.cell? ⟨w.heap.size,0,none⟩=some (.int .i64 0):=BN.cell 0
    have yd1:v.cell? ⟨w.heap.size,1,none⟩=some (.slice none 0 0):=BN.cell 1
    have yd2:v.cell? ⟨w.heap.size,2,none⟩=some (.slice none 0 0):=BN.cell 2
    have fd0:=BN.frozen 0
    have fd1:=BN.frozen 1
    have fd2:=BN.frozen 2
    have zn:=BN.lt
    have n1N:=Lib.hid n1N
    have hO1:Own v w.heap.size 2 1 (.slice (some ⟨bb,0,none⟩) [x,y].length 2) ([x,y].map ic):=hO1
    go_wp2
    refine bodyPost_ret (v:=.agg #[.int .i64 L,.slice (some ⟨bb,0,none⟩) 2 2,.slice A2 l2.length c2]) (by simp [results,Tryz.results47,go_sem,yd0,yd1,yd2]) rfl ⟨L,[x,y],l2,some ⟨bb,0,none⟩,A2,2,c2,rfl,(by first | omega | (simp;done) | (simp;omega)),(by repeat (first | with_reducible exact hO1 | with_reducible refine Own.setNe ?_ (by first | exact n1N.out | exact n1N.out) _ _)),(by repeat (first | with_reducible exact hO2 | with_reducible refine Own.setNe ?_ (by first | exact N2b.out | exact N2N.out) _ _)),(by repeat (first | with_reducible exact hS | with_reducible refine Src.far ?_ (by first | omega | (simp only;omega)))),(by repeat (first | with_reducible exact hG | with_reducible refine grown_far ?_ (by first | (simp;done) | omega | (simp only;omega))))⟩
  ·have q1':(q == 1)=false:=by simpa using q1
   by_cases q2:q=2
   ·subst q2
    have yc0:w6.cell? ⟨b3,0,none⟩=some (.int .i64 L):=B3.cell 0
    have yd0:w6.cell? ⟨w.heap.size,0,none⟩=some (.int .i64 0):=BN.cell 0
    have fc0:=B3.frozen 0
    have fd0:=BN.frozen 0
    have yc1:w6.cell? ⟨b3,1,none⟩=some (.slice A1 l1.length c1):=B3.cell 1
    have yd1:w6.cell? ⟨w.heap.size,1,none⟩=some (.slice none 0 0):=BN.cell 1
    have fc1:=B3.frozen 1
    have fd1:=BN.frozen 1
    have yc2:w6.cell? ⟨b3,2,none⟩=some (.slice A2 l2.length c2):=B3.cell 2
    have yd2:w6.cell? ⟨w.heap.size,2,none⟩=some (.slice none 0 0):=BN.cell 2
    have fc2:=B3.frozen 2
    have fd2:=BN.frozen 2
    have zb:=B3.lt
    have zn:=BN.lt
    go_wp2
    refine bodyPost_ret (v:=.agg #[.int .i64 L,.slice A1 l1.length c1,.slice none 0 0]) (by simp [results,Tryz.results47,go_sem,yd0,yd1,yd2]) rfl ⟨L,l1,[],A1,none,c1,0,rfl,(by first | omega | (simp;done) | (simp;omega)),(by repeat (first | with_reducible exact hO1 | with_reducible refine Own.setNe ?_ (by first | exact N1b.out | exact N1N.out) _ _)),Own.nil_,(by repeat (first | with_reducible exact hS | with_reducible refine Src.far ?_ (by first | omega | (simp only;omega)))),(by repeat (first | with_reducible exact hG | with_reducible refine grown_far ?_ (by first | (simp;done) | omega | (simp only;omega))))⟩
   ·have q2':(q == 2)=false:=by simpa using q2
    have yc0:w6.cell? ⟨b3,0,none⟩=some (.int .i64 L):=B3.cell 0
    have yd0:w6.cell? ⟨w.heap.size,0,none⟩=some (.int .i64 0):=BN.cell 0
    have fc0:=B3.frozen 0
    have fd0:=BN.frozen 0
    have yc1:w6.cell? ⟨b3,1,none⟩=some (.slice A1 l1.length c1):=B3.cell 1
    have yd1:w6.cell? ⟨w.heap.size,1,none⟩=some (.slice none 0 0):=BN.cell 1
    have fc1:=B3.frozen 1
    have fd1:=BN.frozen 1
    have yc2:w6.cell? ⟨b3,2,none⟩=some (.slice A2 l2.length c2):=B3.cell 2
    have yd2:w6.cell? ⟨w.heap.size,2,none⟩=some (.slice none 0 0):=BN.cell 2
    have fc2:=B3.frozen 2
    have fd2:=BN.frozen 2
    have zb:=B3.lt
    have zn:=BN.lt
    go_wp2
    refine bodyPost_ret (v:=.agg #[.int .i64 L,.slice A1 l1.length c1,.slice A2 l2.length c2]) (by simp [results,Tryz.results47,go_sem,yd0,yd1,yd2]) rfl ⟨L,l1,l2,A1,A2,c1,c2,rfl,(by first | omega | (simp;done) | (simp;omega)),(by repeat (first | with_reducible exact hO1 | with_reducible refine Own.setNe ?_ (by first | exact N1b.out | exact N1N.out) _ _)),(by repeat (first | with_reducible exact hO2 | with_reducible refine Own.setNe ?_ (by first | exact N2b.out | exact N2N.out) _ _)),(by repeat (first | with_reducible exact hS | with_reducible refine Src.far ?_ (by first | omega | (simp only;omega)))),(by repeat (first | with_reducible exact hG | with_reducible refine grown_far ?_ (by first | (simp;done) | omega | (simp only;omega))))⟩
end Go.Proofs.YtednjmldjbndhaaGreat
