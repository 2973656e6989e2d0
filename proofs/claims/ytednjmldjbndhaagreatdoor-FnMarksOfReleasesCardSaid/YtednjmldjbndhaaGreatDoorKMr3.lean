/- A region that draws its order, by an invariant: one step for each operation. Plain lemmas on the kit's laws. -/
import Derived.Deep.RegionHeld3
import Derived.StillTail
import Derived.Test.YtednjmldjbndhaaGreatDoorKMr1
set_option linter.unusedSimpArgs false
set_option linter.unusedVariables false
set_option maxRecDepth 100000
set_option maxHeartbeats 8000000
namespace Go.Proofs.YtednjmldjbndhaaGreatDoor
open Go.RowKit
section
variable {P : Program} {ops : Array Oper} {Q : Exit → Act → World → Prop} {md : Region.Mode}
theorem getD_set_self' {L:Array Bool} {i:Nat} (h:i < L.size) (d:Bool):(L.setIfInBounds i true).getD i d=true:=by
 simp [Array.getD,h]
theorem getD_set_ne' {L:Array Bool} {i j:Nat} (h:i ≠ j) (d:Bool):(L.setIfInBounds i true).getD j d=L.getD j d:=getD_set_ne d h
theorem getD_lt {L:Array Bool} {i:Nat} (h:L.getD i true=false):i < L.size:=by
 rcases Nat.lt_or_ge i L.size with h1 | h1
 ·exact h1
 ·simp [Array.getD,Nat.not_lt.2 h1] at h
theorem count_set:∀ (l:List Bool) (i:Nat),l[i]?=some false→(l.set i true).count false+1=l.count false
 | [],i,h=>by simp at h
 | b :: l,0,h=>by
  simp only [List.getElem?_cons_zero,Option.some.injEq] at h
  subst h
  simp
 | b :: l,i+1,h=>by
  have:=count_set l i (by simpa using h)
  rw [List.set_cons_succ,List.count_cons,List.count_cons]
  omega
theorem wpAny_inv (I:Array Bool→Act→World→Prop)
  (hI:∀ L a w,I L a w→∀ i ∈ Region.ready md ops L,wpOp P ops Q i (fun a' w'=>I (L.setIfInBounds i true) a' w') a w)
  (hE:∀ L a w,I L a w→Region.ready md ops L=[]→Q .normal a w) :
  ∀ (fuel:Nat) (L:Array Bool) (a:Act) (w:World),L.toList.count false ≤ fuel→I L a w→wpAny P md ops Q fuel L a w:=by
 intro fuel
 induction fuel with
 | zero =>
  intro L a w hc h
  have hr:Region.ready md ops L=[]:=by
   rw [List.eq_nil_iff_forall_not_mem]
   intro j hj
   have h0:=(mem_ready.1 hj).1
   have hl:=getD_lt h0
   have:false ∈ L.toList:=by
    rw [List.mem_iff_getElem]
    refine ⟨j,by simpa using hl,?_⟩
    simpa [Array.getD,hl] using h0
   have:=List.count_pos_iff.2 this
   omega
  exact ⟨hr,hE L a w h hr⟩
 | succ fuel ih =>
  intro L a w hc h
  refine ⟨fun hr=>hE L a w h hr,fun i hi=>?_⟩
  refine wpOp_mono (fun a' w' h'=>ih _ a' w' ?_ h') (hI L a w h i hi)
  have h0:=(mem_ready.1 hi).1
  have hl:=getD_lt h0
  have:=count_set L.toList i (by
   rw [List.getElem?_eq_getElem (by simpa using hl)]
   simpa [Array.getD,hl] using h0)
  rw [Array.toList_setIfInBounds]
  omega
theorem wp_region_inv (J:Act→Array Bool→Act→World→Prop) {id:Nat} {a:Act} {w:World} (hm:P.follows .mixedOrders=true)
  (h0:J a (Array.replicate ops.size false) a w.drew)
  (hI:∀ L b v,J a L b v→∀ i,L.getD i true=false→(∀ o,ops[i]?=some o→(∀ e ∈ o.after,Region.binds .any e=true→L.getD e.on false=true)→wpOp P ops Q i (fun a' w'=>J a (L.setIfInBounds i true) a' w') b v))
  (hE:∀ L b v,J a L b v→(∀ i,i < ops.size→L.getD i false=true)→Q .normal b v)
  (hL:∀ L b v,J a L b v→L.size=ops.size)
  (hA:∀ L:Array Bool,L.size=ops.size→Region.ready .any ops L=[]→∀ i,i < ops.size→L.getD i false=true):(Code.region id ops true).wp P Q a w:=by
 refine wp_region_any hm (wpAny_inv (J a) (fun L b v h i hi=>?_) (fun L b v h hr=>hE L b v h (hA L (hL L b v h) hr)) _ _ _ _ ?_ h0)
 ·obtain ⟨h1,o,h2,h3⟩:=mem_ready.1 hi
  exact hI L b v h i h1 o h2 h3
 ·have:(Array.replicate ops.size false).toList.count false=ops.size:=by simp
  omega
theorem ready_all {L:Array Bool} (hs:L.size=ops.size) (hb:(List.range ops.size).all (fun i=>((ops[i]?).map fun o=>o.after.all fun e=>!Region.binds md e || decide (e.on < i)).getD true)=true)
  (hr:Region.ready md ops L=[]):∀ i,i < ops.size→L.getD i false=true:=by
 intro i
 induction i using Nat.strongRecOn with
 | ind i ih =>
  intro hi
  cases hx:L.getD i true with
  | true =>
   have:i < L.size:=by omega
   simp [Array.getD,this] at hx ⊢
   exact hx
  | false =>
   exfalso
   have hmem:i ∈ Region.ready md ops L:=by
    refine mem_ready.2 ⟨hx,ops[i],Array.getElem?_eq_getElem hi,fun e he hbd=>ih e.on ?_ ?_⟩
    ·have h1:=List.all_eq_true.1 hb i (List.mem_range.2 hi)
     rw [Array.getElem?_eq_getElem hi,Option.map_some,Option.getD_some,Array.all_eq_true_iff_forall_mem] at h1
     have:=h1 e he
     rw [hbd] at this
     simpa using this
    ·have h1:=List.all_eq_true.1 hb i (List.mem_range.2 hi)
     rw [Array.getElem?_eq_getElem hi,Option.map_some,Option.getD_some,Array.all_eq_true_iff_forall_mem] at h1
     have:=h1 e he
     rw [hbd] at this
     have:e.on < i:=by simpa using this
     omega
   rw [hr] at hmem
   cases hmem
def headOpen (n:Nat) (L:Array Bool):Nat:=((List.range n).filter fun i=>!L.getD i false).length
theorem headOpen_set {n:Nat} {L:Array Bool} {i:Nat} (hi:i < n) (hu:L.getD i true=false):headOpen n (L.setIfInBounds i true)+1=headOpen n L:=by
 unfold headOpen
 have hl:=getD_lt hu
 have hf:L.getD i false=false:=getD_both hu
 induction n with
 | zero=>omega
 | succ n ih =>
  rw [List.range_succ,List.filter_append,List.filter_append,List.length_append,List.length_append]
  by_cases h:i < n
  ·have h1:=ih h
   have h2:(L.setIfInBounds i true).getD n false=L.getD n false:=getD_set_ne false (by omega)
   simp only [List.filter_cons,List.filter_nil,h2]
   omega
  ·obtain rfl:i=n:=by omega
   have h1:∀ j ∈ List.range i,(!(L.setIfInBounds i true).getD j false)=(!L.getD j false):=fun j hj=>by
    rw [getD_set_ne false (by have:=List.mem_range.1 hj;omega)]
   rw [List.filter_congr h1]
   have h2:(L.setIfInBounds i true).getD i false=true:=getD_set_self' hl false
   simp only [List.filter_cons,List.filter_nil,h2,hf]
   simp
theorem headOpen_zero {n:Nat} {L:Array Bool} (h:headOpen n L=0):∀ i,i < n→L.getD i false=true:=fun i hi=>by
 unfold headOpen at h
 rw [List.length_eq_zero_iff,List.filter_eq_nil_iff] at h
 simpa using h i (List.mem_range.2 hi)
theorem headOpen_pos {n:Nat} {L:Array Bool} (h:headOpen n L ≠ 0):∃ i,i < n∧L.getD i false=false:=by
 unfold headOpen at h
 match hl:(List.range n).filter (fun i=>!L.getD i false),h with
 | [],h=>exact absurd rfl h
 | i :: r,h =>
  have:i ∈ (List.range n).filter (fun i=>!L.getD i false):=by rw [hl];simp
  rw [List.mem_filter,List.mem_range] at this
  exact ⟨i,this.1,by simpa using this.2⟩
def upd (f:Nat→Bool) (i:Nat) (k:Nat):Bool:=k == i || f k
theorem upd_of {L:Array Bool} {i:Nat} (h:L.getD i true=false):(fun k=>(L.setIfInBounds i true).getD k false)=upd (fun k=>L.getD k false) i:=by
 funext k
 unfold upd
 by_cases hk:k=i
 ·subst hk
  rw [getD_set_self' (getD_lt h)]
  simp
 ·rw [getD_set_ne' (Ne.symm hk)]
  simp [hk]
def backB (md:Region.Mode) (ops:Array Oper):Bool:=(List.range ops.size).all (fun i=>((ops[i]?).map fun o=>o.after.all fun e=>!Region.binds md e || decide (e.on < i)).getD true)
def sinkAll (ops:Array Oper) (n:Nat):Bool :=
 decide (n < ops.size) && Region.sinkB .any ops n && Region.chainB .any ops n && backB .any ops && Region.seqB .any ops (ops.size - n) n (Array.replicate n true ++ Array.replicate (ops.size - n) false)
theorem wpAny_sink {l:List Oper} {n:Nat} (J:(Nat→Bool)→Act→World→Prop) (hB:sinkAll l.toArray n=true)
  (hI:∀ f b v,J f b v→∀ i,i < n→f i=false→∀ o,l.toArray[i]?=some o→(∀ e ∈ o.after,Region.binds .any e=true→f e.on=true)→wpOp P l.toArray Q i (fun a' w'=>J (upd f i) a' w') b v)
  (hE:∀ f b v,J f b v→(∀ i,i < n→f i=true)→wpList P l.toArray Q (l.drop n) b v) :
  ∀ (c:Nat) (L:Array Bool) (b:Act) (v:World),headOpen n L=c→HeadInv .any l.toArray n L→J (fun k=>L.getD k false) b v→wpAny P .any l.toArray Q (c+(l.toArray.size - n)) L b v:=by
 unfold sinkAll at hB
 simp only [Bool.and_eq_true,decide_eq_true_eq] at hB
 obtain ⟨⟨⟨⟨hn,hs⟩,hc⟩,hbk⟩,hq⟩:=hB
 intro c
 induction c with
 | zero =>
  intro L b v h0 inv hJ
  have hall:=headOpen_zero h0
  have hL:L=Array.replicate n true ++ Array.replicate (l.toArray.size - n) false:=by
   apply Array.ext
   ·rw [inv.size,Array.size_append,Array.size_replicate,Array.size_replicate];omega
   ·intro i h1 h2
    by_cases hi:i < n
    ·have:=hall i hi
     rw [Array.getElem_append_left (by simpa using hi),Array.getElem_replicate]
     simpa [Array.getD,h1] using this
    ·have:=inv.tail i (by omega) (by rw [← inv.size];exact h1)
     rw [Array.getElem_append_right (by simp;omega),Array.getElem_replicate]
     simpa [Array.getD,h1] using this
  rw [Nat.zero_add]
  have hdl:(l.drop n).length=l.toArray.size - n:=by simp
  rw [← hdl]
  refine wpAny_of_seq (md:=.any) (l.drop n) n L b v (fun j=>by simp [List.getElem?_drop]) ?_ (hE _ b v hJ hall)
  rw [hdl,hL]
  exact hq
 | succ c ih =>
  intro L b v h0 inv hJ
  rw [show c+1+(l.toArray.size - n)=(c+(l.toArray.size - n))+1 by omega]
  obtain ⟨i0,hi0,hu0⟩:=headOpen_pos (n:=n) (L:=L) (by omega)
  have hu0':L.getD i0 true=false:=getD_in (by rw [inv.size];omega) hu0
  refine ⟨fun hr=>?_,fun i hi=>?_⟩
  ·have:=ready_all inv.size hbk hr i0 (by omega)
   rw [hu0] at this
   cases this
  ·have hin:i < n:=by
    rcases Nat.lt_or_ge i n with h | h
    ·exact h
    ·exact absurd hi (tail_waits hs hc hn inv _ i0 rfl hi0 hu0' i h)
   obtain ⟨h1,o,h2,h3⟩:=mem_ready.1 hi
   refine wpOp_mono (fun a' w' h'=>ih _ a' w' ?_ (inv.set hi hin) ?_) (hI _ b v hJ i hin (getD_both h1) o h2 h3)
   ·have:=headOpen_set hin h1
    omega
   ·rw [upd_of h1]
    exact h'
theorem wp_region_sink {l:List Oper} (n:Nat) (J:Act→(Nat→Bool)→Act→World→Prop) {id:Nat} {a:Act} {w:World} (hm:P.follows .mixedOrders=true) (hB:sinkAll l.toArray n=true)
  (h0:J a (fun _=>false) a w.drew)
  (hI:∀ f b v,J a f b v→∀ i,i < n→f i=false→∀ o,l.toArray[i]?=some o→(∀ e ∈ o.after,Region.binds .any e=true→f e.on=true)→wpOp P l.toArray Q i (fun a' w'=>J a (upd f i) a' w') b v)
  (hE:∀ f b v,J a f b v→(∀ i,i < n→f i=true)→wpList P l.toArray Q (l.drop n) b v):(Code.region id l.toArray true).wp P Q a w:=by
 refine wp_region_any hm ?_
 have hn:n ≤ l.toArray.size:=by
  unfold sinkAll at hB
  simp only [Bool.and_eq_true,decide_eq_true_eq] at hB
  omega
 have hall:∀ j,(Array.replicate l.toArray.size false).getD j false=false:=getD_replicate_false _
 have hc:headOpen n (Array.replicate l.toArray.size false)=n:=by
  unfold headOpen
  rw [List.filter_eq_self.2 (fun j _=>by rw [hall];rfl),List.length_range]
 have:=wpAny_sink (J a) hB hI hE n (Array.replicate l.toArray.size false) a w.drew hc
  ⟨by simp,fun j oj _ hl=>(by rw [hall] at hl;cases hl),fun t _ ht=>getD_in (by simpa using ht) (hall t)⟩ (by rw [show (fun k=>(Array.replicate l.toArray.size false).getD k false)=fun _=>false from funext hall];exact h0)
 rw [show n+(l.toArray.size - n)=l.toArray.size by omega] at this
 exact this
theorem wp_region_all {l:List Oper} (J:Act→(Nat→Bool)→Act→World→Prop) {id:Nat} {a:Act} {w:World} (hm:P.follows .mixedOrders=true) (hB:backB .any l.toArray=true)
  (h0:J a (fun _=>false) a w.drew)
  (hI:∀ f b v,J a f b v→∀ i,i < l.length→f i=false→∀ o,l.toArray[i]?=some o→(∀ e ∈ o.after,Region.binds .any e=true→f e.on=true)→wpOp P l.toArray Q i (fun a' w'=>J a (upd f i) a' w') b v)
  (hE:∀ f b v,J a f b v→(∀ i,i < l.length→f i=true)→Q .normal b v):(Code.region id l.toArray true).wp P Q a w:=by
 have hall:∀ j,(Array.replicate l.toArray.size false).getD j false=false:=getD_replicate_false _
 refine wp_region_inv (fun a0 L b v=>L.size=l.toArray.size∧J a0 (fun k=>L.getD k false) b v) hm ⟨by simp,by rw [show (fun k=>(Array.replicate l.toArray.size false).getD k false)=fun _=>false from funext hall];exact h0⟩ ?_ ?_ (fun L b v h=>h.1) (fun L hs hr=>ready_all hs hB hr)
 ·rintro L b v ⟨hs,hJ⟩ i hi o ho hall'
  have hlt:i < l.length:=by have:=(Array.getElem?_eq_some_iff.1 ho).1;simpa using this
  refine wpOp_mono (fun a' w' h'=>⟨by rw [Array.size_setIfInBounds];exact hs,by rw [upd_of hi];exact h'⟩) (hI _ b v hJ i hlt (getD_both hi) o ho hall')
 ·rintro L b v ⟨_,hJ⟩ hf
  exact hE _ b v hJ (fun i hi=>hf i (by simpa using hi))
end
section
variable {w : World} {g : Nat} {t : TypeId} {v : Value} {r : List Value}
theorem Blk.c0 (h:Blk w g t (v :: r).toArray):w.cell? ⟨g,0,none⟩=some v:=h.cl 0 rfl
theorem Blk.c1 {x0:Value} (h:Blk w g t (x0 :: v :: r).toArray):w.cell? ⟨g,1,none⟩=some v:=h.cl 1 rfl
theorem Blk.c2 {x0 x1:Value} (h:Blk w g t (x0 :: x1 :: v :: r).toArray):w.cell? ⟨g,2,none⟩=some v:=h.cl 2 rfl
theorem Blk.c3 {x0 x1 x2:Value} (h:Blk w g t (x0 :: x1 :: x2 :: v :: r).toArray):w.cell? ⟨g,3,none⟩=some v:=h.cl 3 rfl
theorem Blk.c4 {x0 x1 x2 x3:Value} (h:Blk w g t (x0 :: x1 :: x2 :: x3 :: v :: r).toArray):w.cell? ⟨g,4,none⟩=some v:=h.cl 4 rfl
theorem Blk.c5 {x0 x1 x2 x3 x4:Value} (h:Blk w g t (x0 :: x1 :: x2 :: x3 :: x4 :: v :: r).toArray):w.cell? ⟨g,5,none⟩=some v:=h.cl 5 rfl
theorem Blk.c6 {x0 x1 x2 x3 x4 x5:Value} (h:Blk w g t (x0 :: x1 :: x2 :: x3 :: x4 :: x5 :: v :: r).toArray):w.cell? ⟨g,6,none⟩=some v:=h.cl 6 rfl
theorem Blk.c7 {x0 x1 x2 x3 x4 x5 x6:Value} (h:Blk w g t (x0 :: x1 :: x2 :: x3 :: x4 :: x5 :: x6 :: v :: r).toArray):w.cell? ⟨g,7,none⟩=some v:=h.cl 7 rfl
theorem Blk.c8 {x0 x1 x2 x3 x4 x5 x6 x7:Value} (h:Blk w g t (x0 :: x1 :: x2 :: x3 :: x4 :: x5 :: x6 :: x7 :: v :: r).toArray):w.cell? ⟨g,8,none⟩=some v:=h.cl 8 rfl
theorem Blk.c9 {x0 x1 x2 x3 x4 x5 x6 x7 x8:Value} (h:Blk w g t (x0 :: x1 :: x2 :: x3 :: x4 :: x5 :: x6 :: x7 :: x8 :: v :: r).toArray):w.cell? ⟨g,9,none⟩=some v:=h.cl 9 rfl
theorem Blk.c10 {x0 x1 x2 x3 x4 x5 x6 x7 x8 x9:Value} (h:Blk w g t (x0 :: x1 :: x2 :: x3 :: x4 :: x5 :: x6 :: x7 :: x8 :: x9 :: v :: r).toArray):w.cell? ⟨g,10,none⟩=some v:=h.cl 10 rfl
theorem Blk.c11 {x0 x1 x2 x3 x4 x5 x6 x7 x8 x9 x10:Value} (h:Blk w g t (x0 :: x1 :: x2 :: x3 :: x4 :: x5 :: x6 :: x7 :: x8 :: x9 :: x10 :: v :: r).toArray):w.cell? ⟨g,11,none⟩=some v:=h.cl 11 rfl
theorem Blk.c12 {x0 x1 x2 x3 x4 x5 x6 x7 x8 x9 x10 x11:Value} (h:Blk w g t (x0 :: x1 :: x2 :: x3 :: x4 :: x5 :: x6 :: x7 :: x8 :: x9 :: x10 :: x11 :: v :: r).toArray):w.cell? ⟨g,12,none⟩=some v:=h.cl 12 rfl
theorem Blk.c13 {x0 x1 x2 x3 x4 x5 x6 x7 x8 x9 x10 x11 x12:Value} (h:Blk w g t (x0 :: x1 :: x2 :: x3 :: x4 :: x5 :: x6 :: x7 :: x8 :: x9 :: x10 :: x11 :: x12 :: v :: r).toArray):w.cell? ⟨g,13,none⟩=some v:=h.cl 13 rfl
theorem Blk.c14 {x0 x1 x2 x3 x4 x5 x6 x7 x8 x9 x10 x11 x12 x13:Value} (h:Blk w g t (x0 :: x1 :: x2 :: x3 :: x4 :: x5 :: x6 :: x7 :: x8 :: x9 :: x10 :: x11 :: x12 :: x13 :: v :: r).toArray):w.cell? ⟨g,14,none⟩=some v:=h.cl 14 rfl
theorem Blk.c15 {x0 x1 x2 x3 x4 x5 x6 x7 x8 x9 x10 x11 x12 x13 x14:Value} (h:Blk w g t (x0 :: x1 :: x2 :: x3 :: x4 :: x5 :: x6 :: x7 :: x8 :: x9 :: x10 :: x11 :: x12 :: x13 :: x14 :: v :: r).toArray):w.cell? ⟨g,15,none⟩=some v:=h.cl 15 rfl
theorem Blk.c16 {x0 x1 x2 x3 x4 x5 x6 x7 x8 x9 x10 x11 x12 x13 x14 x15:Value} (h:Blk w g t (x0 :: x1 :: x2 :: x3 :: x4 :: x5 :: x6 :: x7 :: x8 :: x9 :: x10 :: x11 :: x12 :: x13 :: x14 :: x15 :: v :: r).toArray):w.cell? ⟨g,16,none⟩=some v:=h.cl 16 rfl
theorem Blk.c19 {x0 x1 x2 x3 x4 x5 x6 x7 x8 x9 x10 x11 x12 x13 x14 x15 x16 x17 x18:Value} (h:Blk w g t (x0 :: x1 :: x2 :: x3 :: x4 :: x5 :: x6 :: x7 :: x8 :: x9 :: x10 :: x11 :: x12 :: x13 :: x14 :: x15 :: x16 :: x17 :: x18 :: v :: r).toArray):w.cell? ⟨g,19,none⟩=some v:=h.cl 19 rfl
end
theorem put_more {a b:Act} (h:a=b) (i:Nat):a=b.put (some i) (a.tmps.getD i undef):=by
 subst h
 obtain ⟨tmps,defers⟩:=a
 simp only [Act.put,Act.mk.injEq,and_true]
 apply Array.ext
 ·simp
 ·intro j h1 h2
  rw [Array.getElem_setIfInBounds h1]
  by_cases hij:i=j
  ·subst hij
   simp [Array.getD,h1]
  ·rw [if_neg hij]
end Go.Proofs.YtednjmldjbndhaaGreatDoor
