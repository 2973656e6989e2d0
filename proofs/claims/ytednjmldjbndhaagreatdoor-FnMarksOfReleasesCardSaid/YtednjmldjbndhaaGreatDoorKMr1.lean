/- Words for memory: a slice that reads as a list of rows of cells; a slice that the call itself made. Plain lemmas, no condition of their own. -/
import Derived.Test.YtednjmldjbndhaaGreatDoorProg
import Derived.WalkKit
import Derived.WalkLawsBesides
import Derived.Lib.Hide
import Derived.Deep.AppendLies
import Derived.Deep.QuietTactic
import Derived.BigQuiet
import Derived.StillTailTactics
set_option linter.unusedSimpArgs false
set_option linter.unusedVariables false
set_option maxRecDepth 100000
set_option maxHeartbeats 8000000
namespace Go.Proofs.YtednjmldjbndhaaGreatDoor
open Go.RowKit

theorem ret_int {k:IntKind} {a b:Int} (h:a=b):Ending.returned (.int k a)=.returned (.int k b):=by rw [h]
theorem ret_bool {a b:Bool} (h:a=b):Ending.returned (.bool a)=.returned (.bool b):=by rw [h]

def Sl (w:World) (B:Nat) (k:Nat) (A:Option Addr) (xs:List (List Value)):Prop :=
 ∀ i x,xs[i]?=some x→x.length=k∧∃ b off,A=some ⟨b,off,none⟩∧b < B∧∀ j v,x[j]?=some v→w.cell? ⟨b,off+i * k+j,none⟩=some v

section
variable {w w' : World} {B B' k : Nat} {A : Option Addr} {xs : List (List Value)}
theorem Sl.nil_:Sl w B k A []:=fun i x h=>by simp at h
theorem Sl.keep (h:Sl w B k A xs) (hk:∀ p:Addr,p.block < B→w'.cell? p=w.cell? p):Sl w' B k A xs:=fun i x hx=>by
 obtain ⟨hl,b,off,rfl,hb,hc⟩:=h i x hx
 exact ⟨hl,b,off,rfl,hb,fun j v hv=>(hk ⟨b,off+i * k+j,none⟩ hb).trans (hc j v hv)⟩
theorem Sl.more (h:Sl w B k A xs) (hB:B ≤ B'):Sl w B' k A xs:=fun i x hx=>by
 obtain ⟨hl,b,off,rfl,hb,hc⟩:=h i x hx
 exact ⟨hl,b,off,rfl,by omega,hc⟩
theorem Sl.below (h:Sl w B k A xs) (hb:Below B w w'):Sl w' B k A xs:=h.keep fun _ hp=>hb.cell hp
theorem Sl.alloc (h:Sl w B k A xs) (hB:B ≤ w.heap.size) (o:Obj):Sl (w.alloc o) B k A xs:=h.keep fun p hp=>World.cell?_alloc_lt w o p (by omega)
theorem Sl.at_ {i:Nat} (h:Sl w B k A xs) (hi:i < xs.length):∃ b off,A=some ⟨b,off,none⟩∧b < B∧∀ j v,(xs[i])[j]?=some v→w.cell? ⟨b,off+i * k+j,none⟩=some v :=
 (h i xs[i] (List.getElem?_eq_getElem hi)).2
theorem Sl.drop (h:Sl w B k A xs) {m cap:Nat} (hm:m ≤ xs.length) (hc:xs.length ≤ cap) :
  Sl w B k (if cap=m then A else A.map (·.add (m * k))) (xs.drop m):=fun i x hx=>by
 rw [List.getElem?_drop] at hx
 obtain ⟨hl,b,off,rfl,hb,hcell⟩:=h (m+i) x hx
 have hlt:m+i < xs.length:=(List.getElem?_eq_some_iff.1 hx).1
 refine ⟨hl,b,off+m * k,?_,hb,fun j v hv=>?_⟩
 ·rw [if_neg (by omega)]
  by_cases h0:m * k=0
  ·simp [Addr.add,h0]
  ·simp [Addr.add,h0]
 ·have:=hcell j v hv
  rwa [show off+(m+i) * k+j=off+m * k+i * k+j from by rw [Nat.add_mul];omega] at this
theorem Sl.take (h:Sl w B k A xs) (m:Nat):Sl w B k A (xs.take m):=fun i x hx=>by
 by_cases hi:i < m
 ·rw [List.getElem?_take,if_pos hi] at hx
  exact h i x hx
 ·rw [List.getElem?_take,if_neg hi] at hx
  cases hx
end

/-! ### Rows laid flat -/
theorem flat_get {xs:List (List Value)} {k:Nat} (h:∀ x ∈ xs,x.length=k):∀ (i j:Nat) (x:List Value) (v:Value),xs[i]?=some x→x[j]?=some v→xs.flatten[i * k+j]?=some v:=by
 induction xs with
 | nil=>intro i j x v hx;simp at hx
 | cons y ys ih =>
  intro i j x v hx hv
  have hy:y.length=k:=h y (by simp)
  rw [List.flatten_cons]
  cases i with
  | zero =>
   simp only [List.getElem?_cons_zero,Option.some.injEq] at hx
   subst hx
   rw [List.getElem?_append_left (by have:=(List.getElem?_eq_some_iff.1 hv).1;omega)]
   simpa using hv
  | succ i =>
   simp only [List.getElem?_cons_succ] at hx
   rw [List.getElem?_append_right (by rw [hy,Nat.succ_mul];omega)]
   rw [hy,show (i+1) * k+j - k=i * k+j from by rw [Nat.succ_mul];omega]
   exact ih (fun z hz=>h z (by simp [hz])) i j x v hx hv
theorem flat_length {xs:List (List Value)} {k:Nat} (h:∀ x ∈ xs,x.length=k):xs.flatten.length=xs.length * k:=by
 induction xs with
 | nil=>simp
 | cons y ys ih =>
  rw [List.flatten_cons,List.length_append,ih (fun z hz=>h z (by simp [hz])),h y (by simp),List.length_cons,Nat.succ_mul]
  omega

def Own (w:World) (base:Nat) (e:TypeId) (k:Nat) (v:Value) (xs:List (List Value)):Prop :=
 w.ownsRow base e k v xs.length xs.flatten∧∀ x ∈ xs,x.length=k

section
variable {w w' : World} {base base' : Nat} {e : TypeId} {k : Nat} {v : Value} {xs : List (List Value)}
theorem Own.nil_:Own w base e k (.slice none 0 0) []:=⟨World.ownsRow_nil _ _ _ _,by simp⟩
theorem Own.mono (h:Own w base e k v xs) (hb:base' ≤ base):Own w base' e k v xs:=by
 obtain ⟨⟨h1,h2⟩,h3⟩:=h
 refine ⟨⟨h1,?_⟩,h3⟩
 rcases h2 with h2 | ⟨g,cap,cur,hv,hg,r⟩
 ·exact Or.inl h2
 ·exact Or.inr ⟨g,cap,cur,hv,by omega,r⟩
theorem Own.below (h:Own w base e k v xs) (hb:Below w.heap.size w w'):Own w' base e k v xs:=by
 obtain ⟨⟨h1,h2⟩,h3⟩:=h
 refine ⟨⟨h1,?_⟩,h3⟩
 rcases h2 with h2 | ⟨g,cap,cur,hv,hg,hh,r⟩
 ·exact Or.inl h2
 ·refine Or.inr ⟨g,cap,cur,hv,hg,?_,r⟩
  rw [hb.block g];· exact hh
  ·rcases Nat.lt_or_ge g w.heap.size with hlt | hge
   ·exact hlt
   ·rw [Array.getElem?_eq_none hge] at hh;cases hh
theorem Own.alloc (h:Own w base e k v xs) (o:Obj):Own (w.alloc o) base e k v xs:=⟨h.1.alloc o,h.2⟩
theorem Own.drewN (h:Own w base e k v xs) (n:Nat):Own (w.drewN n) base e k v xs:=h
theorem Own.form (h:Own w base e k v xs):∃ A c,v=.slice A xs.length c∧xs.length ≤ c:=by
 rcases h.1.2 with ⟨rfl,h0⟩ | ⟨g,cap,cur,rfl,_,_,hc,_⟩
 ·exact ⟨none,0,by rw [h0],by omega⟩
 ·exact ⟨_,cap,rfl,hc⟩
theorem Own.sl {A:Option Addr} {n c:Nat} (h:Own w base e k (.slice A n c) xs):Sl w w.heap.size k A xs:=fun i x hx=>by
 have hi:i < xs.length:=(List.getElem?_eq_some_iff.1 hx).1
 refine ⟨h.2 x (List.mem_of_getElem? hx),?_⟩
 rcases h.1.2 with ⟨_,h0⟩ | ⟨g,cap,cur,hv,hg,hh,hc,_,hcs,htake⟩
 ·omega
 ·simp only [Value.slice.injEq] at hv
  obtain ⟨rfl,_,rfl⟩:=hv
  refine ⟨g,0,rfl,?_,fun j v hv=>?_⟩
  ·rcases Nat.lt_or_ge g w.heap.size with hlt | hge
   ·exact hlt
   ·rw [Array.getElem?_eq_none hge] at hh;cases hh
  ·have hf:=flat_get h.2 i j x v hx hv
   rw [← htake,List.getElem?_take] at hf
   split at hf
   ·rw [Nat.zero_add,cell_of_row w g (i * k+j) cur e (0,0) hh]
    simpa using hf
   ·cases hf
end

def Blk (w:World) (g:Nat) (t:TypeId) (cs:Array Value):Prop:=w.heap[g]?=some (.cells cs t (0,0))
section
variable {w w' : World} {g : Nat} {t : TypeId} {cs : Array Value}
theorem Blk.lt (h:Blk w g t cs):g < w.heap.size:=by
 rcases Nat.lt_or_ge g w.heap.size with hlt | hge
 ·exact hlt
 ·unfold Blk at h;rw [Array.getElem?_eq_none hge] at h;cases h
theorem Blk.cell (h:Blk w g t cs) (i:Nat):w.cell? ⟨g,i,none⟩=cs[i]?:=cell_of_row w g i cs t (0,0) h
theorem Blk.cl {v:Value} (h:Blk w g t cs) (i:Nat) (hv:cs[i]?=some v):w.cell? ⟨g,i,none⟩=some v:=(h.cell i).trans hv
theorem Blk.frozen (h:Blk w g t cs) (i:Nat):w.frozen? ⟨g,i,none⟩=false:=by
 unfold Blk at h
 simp [World.frozen?,h]
theorem Blk.set_ (h:Blk w g t cs) (i:Nat) (u:Value):Blk (w.setCell ⟨g,i,none⟩ u) g t (cs.setIfInBounds i u):=by
 unfold Blk at h ⊢
 simp [World.setCell,Array.getElem?_modify,h]
theorem Blk.two0 {a b u:Value} (h:Blk w g t #[a,b]):Blk (w.setCell ⟨g,0,none⟩ u) g t #[u,b]:=h.set_ 0 u
theorem Blk.two1 {a b u:Value} (h:Blk w g t #[a,b]):Blk (w.setCell ⟨g,1,none⟩ u) g t #[a,u]:=h.set_ 1 u
theorem Blk.new (w:World) (t:TypeId) (cs:Array Value):Blk (w.alloc (.cells cs t)) w.heap.size t cs:=heap_alloc_new w _
theorem Blk.new' (w:World) (t:TypeId) (cs:Array Value) {g:Nat} (hg:w.heap.size=g):Blk (w.alloc (.cells cs t)) g t cs:=hg ▸ Blk.new w t cs
theorem Blk.alloc (h:Blk w g t cs) (o:Obj):Blk (w.alloc o) g t cs:=(Below.heap_alloc w o g h.lt).trans h
theorem Blk.far (h:Blk w g t cs) {p:Addr} (hp:g ≠ p.block) (u:Value):Blk (w.setCell p u) g t cs:=(Below.heap_setCell w p u g hp).trans h
theorem Blk.drewN (h:Blk w g t cs) (n:Nat):Blk (w.drewN n) g t cs:=h
theorem Blk.below {B:Nat} (h:Blk w g t cs) (hb:Below B w w') (hg:g < B):Blk w' g t cs:=(hb.block g hg).trans h
end

/-! ### A row of the call's own is written, element by element -/
def stores (w:World) (g:Nat):Nat→List Value→World
 | _,[]=>w
 | p,v :: vs=>stores (w.setCell ⟨g,p,none⟩ v) g (p+1) vs

theorem ownsRow_stores {base:Nat} {e:TypeId} {size g n cap:Nat}:∀ (cs:List Value) (p:Nat) (w:World) (P S R:List Value),w.ownsRow base e size (.slice (some ⟨g,0,none⟩) n cap) n (P ++ S ++ R)→P.length=p→S.length=cs.length →
  (stores w g p cs).ownsRow base e size (.slice (some ⟨g,0,none⟩) n cap) n (P ++ cs ++ R)
 | [],_,w,P,S,R,h,_,hs=>by
  obtain rfl:S=[]:=List.eq_nil_of_length_eq_zero (by simpa using hs)
  exact h
 | v :: vs,p,w,P,S,R,h,hp,hs=>by
  match S,hs with
  | s :: S',hs =>
   have h1:=(h.stored p v).1
   have e1:(P ++ s :: S' ++ R).set p v=(P ++ [v]) ++ S' ++ R:=by
    rw [List.append_assoc,List.set_append_right _ _ (by omega),hp,Nat.sub_self]
    simp
   rw [e1] at h1
   have h2:=ownsRow_stores vs (p+1) _ (P ++ [v]) S' R h1 (by simp [hp]) (by simpa using hs)
   rw [show P ++ (v :: vs) ++ R=P ++ [v] ++ vs ++ R from by simp]
   exact h2

theorem flat_set {xs:List (List Value)} {x:List Value} {i:Nat} (hi:i < xs.length):(xs.set i x).flatten=(xs.take i).flatten ++ x ++ (xs.drop (i+1)).flatten:=by
 rw [List.set_eq_take_append_cons_drop,if_pos hi]
 simp
theorem flat_split {xs:List (List Value)} {i:Nat} (hi:i < xs.length):xs.flatten=(xs.take i).flatten ++ xs[i] ++ (xs.drop (i+1)).flatten:=by
 have h:=flat_set (xs:=xs) (x:=xs[i]) hi
 rw [List.set_getElem_self] at h
 exact h

theorem Own.store {w:World} {base:Nat} {e:TypeId} {k g n cap:Nat} {xs:List (List Value)} (h:Own w base e k (.slice (some ⟨g,0,none⟩) n cap) xs) {i:Nat} (hi:i < xs.length) (x:List Value) (hx:x.length=k) :
  Own (stores w g (i * k) x) base e k (.slice (some ⟨g,0,none⟩) n cap) (xs.set i x):=by
 obtain ⟨h1,h2⟩:=h
 have hn:n=xs.length:=by
  rcases h1.2 with ⟨h',_⟩ | ⟨g',cap',cur,h',_⟩
  ·simp at h'
  ·simp only [Value.slice.injEq] at h';exact h'.2.1
 subst hn
 refine ⟨?_,fun y hy=>?_⟩
 ·rw [List.length_set,flat_set hi]
  rw [flat_split hi] at h1
  refine ownsRow_stores x (i * k) w _ xs[i] _ h1 ?_ ?_
  ·rw [flat_length fun z hz=>h2 z (List.mem_of_mem_take hz)]
   rw [List.length_take,Nat.min_eq_left (by omega)]
  ·rw [hx,h2 _ (List.getElem_mem hi)]
 ·rcases List.mem_or_eq_of_mem_set hy with h | rfl
  ·exact h2 y h
  ·exact hx
theorem Own.cell {w:World} {base:Nat} {e:TypeId} {k g n cap:Nat} {xs:List (List Value)} (h:Own w base e k (.slice (some ⟨g,0,none⟩) n cap) xs) {i j:Nat} (hi:i < xs.length) (hj:j < k) :
  ∃ v,w.cell? ⟨g,i * k+j,none⟩=some v:=by
 have h2:=h.2 xs[i] (List.getElem_mem hi)
 obtain ⟨_,b,off,he,_,hc⟩:=h.sl i xs[i] (List.getElem?_eq_getElem hi)
 simp only [Option.some.injEq,Addr.mk.injEq,and_true] at he
 obtain ⟨rfl,rfl⟩:=he
 exact ⟨_,by have:=hc j (xs[i][j]'(by omega)) (List.getElem?_eq_getElem (by omega));rwa [Nat.zero_add] at this⟩
theorem Own.frozen {w:World} {base:Nat} {e:TypeId} {k g n cap:Nat} {xs:List (List Value)} (h:Own w base e k (.slice (some ⟨g,0,none⟩) n cap) xs) (j:Nat):w.frozen? ⟨g,j,none⟩=false:=by
 rcases h.1.2 with ⟨h',_⟩ | ⟨g',cap',cur,h',_,hg,_⟩
 ·simp at h'
 ·simp only [Value.slice.injEq,Option.some.injEq,Addr.mk.injEq,and_true] at h'
  obtain ⟨rfl,_,rfl⟩:=h'
  exact frozen_of_row w g j cur e hg
theorem Own.block_ge {w:World} {base:Nat} {e:TypeId} {k g n cap:Nat} {xs:List (List Value)} (h:Own w base e k (.slice (some ⟨g,0,none⟩) n cap) xs):base ≤ g∧g < w.heap.size:=by
 have:=h.1.lt g rfl
 exact this
theorem grownBy_stores {w:World} {g:Nat}:∀ (cs:List Value) (p:Nat) {v:World},w.grownBy v (some g)→w.grownBy (stores v g p cs) (some g)
 | [],_,_,h=>h
 | u :: us,p,v,h=>grownBy_stores us (p+1) ⟨h.os,h.tape,h.output,by simpa using h.size,fun k hk hne=>by
   rw [Below.heap_setCell _ _ _ _ (fun e=>hne (by simp [e]))];exact h.block k hk hne⟩
theorem Sl.of_blk {w:World} {g k:Nat} {t:TypeId} {cs:Array Value} (h:Blk w g t cs) (xs:List (List Value)) (hx:cs.toList=xs.flatten) (hk:∀ x ∈ xs,x.length=k):Sl w (g+1) k (some ⟨g,0,none⟩) xs:=fun i x hi =>
 ⟨hk x (List.mem_of_getElem? hi),g,0,rfl,by omega,fun j v hv=>by
  have:=flat_get hk i j x v hi hv
  rw [← hx] at this
  rw [Nat.zero_add,h.cell]
  simpa using this⟩
theorem below_drewN' {B:Nat} {a w:World} (h:Below B a w) (n:Nat):Below B a (w.drewN n):=⟨h.os,h.tape,h.output,h.size,h.block⟩
theorem Sl.drewN {w:World} {B k:Nat} {A:Option Addr} {xs:List (List Value)} (h:Sl w B k A xs) (n:Nat):Sl (w.drewN n) B k A xs:=h
end Go.Proofs.YtednjmldjbndhaaGreatDoor
