/- Words for memory: a slice that reads as a list of rows of cells; a slice that the call itself made. Plain lemmas, no condition of their own. Contracts of the small integer functions: each returns what its Lean counterpart computes, the world unchanged. No condition beyond those that are written. append of rows to a slice of the call's own, in the words of Mem. The reference's draws: numbers that follow from a code. Condition: the code has at most 4096 bytes. Figure: the structure, the laws' copies and comparisons of it. No condition beyond the length. The reference's draws of numbers and figures. Condition: the code has at most 4096 bytes. The reference's draws of figures. Condition: the code has at most 4096 bytes. Slices of int64: the laws' copies, comparisons and marks of them. No condition beyond the length. Errors: the structure, the laws' copies and comparisons of it. No condition beyond the length. Nested structs: the laws' copies and comparisons of them. No condition beyond the slices' lengths. Term: the structure, the laws' copies and comparisons of it. No condition beyond the length. -/
import Derived.Test.YtednjmldjbndhaaGreatProg
import Derived.WalkKit
import Derived.WalkLawsBesides
import Derived.Lib.Hide
import Derived.Deep.AppendLies
import Derived.Deep.QuietTactic
import Derived.BigQuiet
import Derived.StillTailTactics
import Derived.Maps.AppendAt
import Derived.OwnWalk
import Derived.Deep.RegionHeld3
set_option linter.unusedSimpArgs false
set_option linter.unusedVariables false
set_option maxRecDepth 100000
set_option maxHeartbeats 8000000
namespace Go.Proofs.YtednjmldjbndhaaGreat
open Go.RowKit

theorem ret_int {k:IntKind} {a b:Int} (h:a=b):Ending.returned (.int k a)=.returned (.int k b):=by rw [h]
theorem ret_bool {a b:Bool} (h:a=b):Ending.returned (.bool a)=.returned (.bool b):=by rw [h]

def Sl (w:World) (B:Nat) (k:Nat) (A:Option Addr) (xs:List (List Value)):Prop :=
 ∀ i x,xs[i]?=some x→x.length=k∧∃ b off,A=some ⟨b,off,none⟩∧b < B∧∀ j v,x[j]?=some v→w.cell? ⟨b,off+i * k+j,none⟩=some v

section
variable {w w' : World} {B B' k : Nat} {A : Option Addr} {xs : List (List Value)}
theorem Sl.nil_:Sl w B k A []:=fun i x h=>by simp at h
theorem Sl.keep (h:Sl w B k A xs) (hk:∀ p:Addr,p.block < B→w'.cell? p=w.cell? p):Sl w' B k A xs:=fun i x hx=>by
 obtain ⟨hl,b,off,rfl,hb,hc⟩:=h i x hx
 exact ⟨hl,b,off,rfl,hb,fun j v hv=>(hk ⟨b,off+i * k+j,none⟩ hb).trans (hc j v hv)⟩
theorem Sl.more (h:Sl w B k A xs) (hB:B ≤ B'):Sl w B' k A xs:=fun i x hx=>by
 obtain ⟨hl,b,off,rfl,hb,hc⟩:=h i x hx
 exact ⟨hl,b,off,rfl,by omega,hc⟩
theorem Sl.below (h:Sl w B k A xs) (hb:Below B w w'):Sl w' B k A xs:=h.keep fun _ hp=>hb.cell hp
theorem Sl.alloc (h:Sl w B k A xs) (hB:B ≤ w.heap.size) (o:Obj):Sl (w.alloc o) B k A xs:=h.keep fun p hp=>World.cell?_alloc_lt w o p (by omega)
theorem Sl.at_ {i:Nat} (h:Sl w B k A xs) (hi:i < xs.length):∃ b off,A=some ⟨b,off,none⟩∧b < B∧∀ j v,(xs[i])[j]?=some v→w.cell? ⟨b,off+i * k+j,none⟩=some v :=
 (h i xs[i] (List.getElem?_eq_getElem hi)).2
theorem Sl.drop (h:Sl w B k A xs) {m cap:Nat} (hm:m ≤ xs.length) (hc:xs.length ≤ cap) :
  Sl w B k (if cap=m then A else A.map (·.add (m * k))) (xs.drop m):=fun i x hx=>by
 rw [List.getElem?_drop] at hx
 obtain ⟨hl,b,off,rfl,hb,hcell⟩:=h (m+i) x hx
 have hlt:m+i < xs.length:=(List.getElem?_eq_some_iff.1 hx).1
 refine ⟨hl,b,off+m * k,?_,hb,fun j v hv=>?_⟩
 ·rw [if_neg (by omega)]
  by_cases h0:m * k=0
  ·simp [Addr.add,h0]
  ·simp [Addr.add,h0]
 ·have:=hcell j v hv
  rwa [show off+(m+i) * k+j=off+m * k+i * k+j from by rw [Nat.add_mul];omega] at this
theorem Sl.take (h:Sl w B k A xs) (m:Nat):Sl w B k A (xs.take m):=fun i x hx=>by
 by_cases hi:i < m
 ·rw [List.getElem?_take,if_pos hi] at hx
  exact h i x hx
 ·rw [List.getElem?_take,if_neg hi] at hx
  cases hx
end

/-! ### Rows laid flat -/
theorem flat_get {xs:List (List Value)} {k:Nat} (h:∀ x ∈ xs,x.length=k):∀ (i j:Nat) (x:List Value) (v:Value),xs[i]?=some x→x[j]?=some v→xs.flatten[i * k+j]?=some v:=by
 induction xs with
 | nil=>intro i j x v hx;simp at hx
 | cons y ys ih =>
  intro i j x v hx hv
  have hy:y.length=k:=h y (by simp)
  rw [List.flatten_cons]
  cases i with
  | zero =>
   simp only [List.getElem?_cons_zero,Option.some.injEq] at hx
   subst hx
   rw [List.getElem?_append_left (by have:=(List.getElem?_eq_some_iff.1 hv).1;omega)]
   simpa using hv
  | succ i =>
   simp only [List.getElem?_cons_succ] at hx
   rw [List.getElem?_append_right (by rw [hy,Nat.succ_mul];omega)]
   rw [hy,show (i+1) * k+j - k=i * k+j from by rw [Nat.succ_mul];omega]
   exact ih (fun z hz=>h z (by simp [hz])) i j x v hx hv
theorem flat_length {xs:List (List Value)} {k:Nat} (h:∀ x ∈ xs,x.length=k):xs.flatten.length=xs.length * k:=by
 induction xs with
 | nil=>simp
 | cons y ys ih =>
  rw [List.flatten_cons,List.length_append,ih (fun z hz=>h z (by simp [hz])),h y (by simp),List.length_cons,Nat.succ_mul]
  omega

def Own (w:World) (base:Nat) (e:TypeId) (k:Nat) (v:Value) (xs:List (List Value)):Prop :=
 w.ownsRow base e k v xs.length xs.flatten∧∀ x ∈ xs,x.length=k

section
variable {w w' : World} {base base' : Nat} {e : TypeId} {k : Nat} {v : Value} {xs : List (List Value)}
theorem Own.nil_:Own w base e k (.slice none 0 0) []:=⟨World.ownsRow_nil _ _ _ _,by simp⟩
theorem Own.mono (h:Own w base e k v xs) (hb:base' ≤ base):Own w base' e k v xs:=by
 obtain ⟨⟨h1,h2⟩,h3⟩:=h
 refine ⟨⟨h1,?_⟩,h3⟩
 rcases h2 with h2 | ⟨g,cap,cur,hv,hg,r⟩
 ·exact Or.inl h2
 ·exact Or.inr ⟨g,cap,cur,hv,by omega,r⟩
theorem Own.below (h:Own w base e k v xs) (hb:Below w.heap.size w w'):Own w' base e k v xs:=by
 obtain ⟨⟨h1,h2⟩,h3⟩:=h
 refine ⟨⟨h1,?_⟩,h3⟩
 rcases h2 with h2 | ⟨g,cap,cur,hv,hg,hh,r⟩
 ·exact Or.inl h2
 ·refine Or.inr ⟨g,cap,cur,hv,hg,?_,r⟩
  rw [hb.block g];· exact hh
  ·rcases Nat.lt_or_ge g w.heap.size with hlt | hge
   ·exact hlt
   ·rw [Array.getElem?_eq_none hge] at hh;cases hh
theorem Own.alloc (h:Own w base e k v xs) (o:Obj):Own (w.alloc o) base e k v xs:=⟨h.1.alloc o,h.2⟩
theorem Own.drewN (h:Own w base e k v xs) (n:Nat):Own (w.drewN n) base e k v xs:=h
theorem Own.form (h:Own w base e k v xs):∃ A c,v=.slice A xs.length c∧xs.length ≤ c:=by
 rcases h.1.2 with ⟨rfl,h0⟩ | ⟨g,cap,cur,rfl,_,_,hc,_⟩
 ·exact ⟨none,0,by rw [h0],by omega⟩
 ·exact ⟨_,cap,rfl,hc⟩
theorem Own.sl {A:Option Addr} {n c:Nat} (h:Own w base e k (.slice A n c) xs):Sl w w.heap.size k A xs:=fun i x hx=>by
 have hi:i < xs.length:=(List.getElem?_eq_some_iff.1 hx).1
 refine ⟨h.2 x (List.mem_of_getElem? hx),?_⟩
 rcases h.1.2 with ⟨_,h0⟩ | ⟨g,cap,cur,hv,hg,hh,hc,_,hcs,htake⟩
 ·omega
 ·simp only [Value.slice.injEq] at hv
  obtain ⟨rfl,_,rfl⟩:=hv
  refine ⟨g,0,rfl,?_,fun j v hv=>?_⟩
  ·rcases Nat.lt_or_ge g w.heap.size with hlt | hge
   ·exact hlt
   ·rw [Array.getElem?_eq_none hge] at hh;cases hh
  ·have hf:=flat_get h.2 i j x v hx hv
   rw [← htake,List.getElem?_take] at hf
   split at hf
   ·rw [Nat.zero_add,cell_of_row w g (i * k+j) cur e (0,0) hh]
    simpa using hf
   ·cases hf
end

def Blk (w:World) (g:Nat) (t:TypeId) (cs:Array Value):Prop:=w.heap[g]?=some (.cells cs t (0,0))
section
variable {w w' : World} {g : Nat} {t : TypeId} {cs : Array Value}
theorem Blk.lt (h:Blk w g t cs):g < w.heap.size:=by
 rcases Nat.lt_or_ge g w.heap.size with hlt | hge
 ·exact hlt
 ·unfold Blk at h;rw [Array.getElem?_eq_none hge] at h;cases h
theorem Blk.cell (h:Blk w g t cs) (i:Nat):w.cell? ⟨g,i,none⟩=cs[i]?:=cell_of_row w g i cs t (0,0) h
theorem Blk.cl {v:Value} (h:Blk w g t cs) (i:Nat) (hv:cs[i]?=some v):w.cell? ⟨g,i,none⟩=some v:=(h.cell i).trans hv
theorem Blk.frozen (h:Blk w g t cs) (i:Nat):w.frozen? ⟨g,i,none⟩=false:=by
 unfold Blk at h
 simp [World.frozen?,h]
theorem Blk.set_ (h:Blk w g t cs) (i:Nat) (u:Value):Blk (w.setCell ⟨g,i,none⟩ u) g t (cs.setIfInBounds i u):=by
 unfold Blk at h ⊢
 simp [World.setCell,Array.getElem?_modify,h]
theorem Blk.two0 {a b u:Value} (h:Blk w g t #[a,b]):Blk (w.setCell ⟨g,0,none⟩ u) g t #[u,b]:=h.set_ 0 u
theorem Blk.two1 {a b u:Value} (h:Blk w g t #[a,b]):Blk (w.setCell ⟨g,1,none⟩ u) g t #[a,u]:=h.set_ 1 u
theorem Blk.new (w:World) (t:TypeId) (cs:Array Value):Blk (w.alloc (.cells cs t)) w.heap.size t cs:=heap_alloc_new w _
theorem Blk.new' (w:World) (t:TypeId) (cs:Array Value) {g:Nat} (hg:w.heap.size=g):Blk (w.alloc (.cells cs t)) g t cs:=hg ▸ Blk.new w t cs
theorem Blk.alloc (h:Blk w g t cs) (o:Obj):Blk (w.alloc o) g t cs:=(Below.heap_alloc w o g h.lt).trans h
theorem Blk.far (h:Blk w g t cs) {p:Addr} (hp:g ≠ p.block) (u:Value):Blk (w.setCell p u) g t cs:=(Below.heap_setCell w p u g hp).trans h
theorem Blk.drewN (h:Blk w g t cs) (n:Nat):Blk (w.drewN n) g t cs:=h
theorem Blk.below {B:Nat} (h:Blk w g t cs) (hb:Below B w w') (hg:g < B):Blk w' g t cs:=(hb.block g hg).trans h
end

/-! ### A row of the call's own is written, element by element -/
def stores (w:World) (g:Nat):Nat→List Value→World
 | _,[]=>w
 | p,v :: vs=>stores (w.setCell ⟨g,p,none⟩ v) g (p+1) vs

theorem ownsRow_stores {base:Nat} {e:TypeId} {size g n cap:Nat}:∀ (cs:List Value) (p:Nat) (w:World) (P S R:List Value),w.ownsRow base e size (.slice (some ⟨g,0,none⟩) n cap) n (P ++ S ++ R)→P.length=p→S.length=cs.length →
  (stores w g p cs).ownsRow base e size (.slice (some ⟨g,0,none⟩) n cap) n (P ++ cs ++ R)
 | [],_,w,P,S,R,h,_,hs=>by
  obtain rfl:S=[]:=List.eq_nil_of_length_eq_zero (by simpa using hs)
  exact h
 | v :: vs,p,w,P,S,R,h,hp,hs=>by
  match S,hs with
  | s :: S',hs =>
   have h1:=(h.stored p v).1
   have e1:(P ++ s :: S' ++ R).set p v=(P ++ [v]) ++ S' ++ R:=by
    rw [List.append_assoc,List.set_append_right _ _ (by omega),hp,Nat.sub_self]
    simp
   rw [e1] at h1
   have h2:=ownsRow_stores vs (p+1) _ (P ++ [v]) S' R h1 (by simp [hp]) (by simpa using hs)
   rw [show P ++ (v :: vs) ++ R=P ++ [v] ++ vs ++ R from by simp]
   exact h2

theorem flat_set {xs:List (List Value)} {x:List Value} {i:Nat} (hi:i < xs.length):(xs.set i x).flatten=(xs.take i).flatten ++ x ++ (xs.drop (i+1)).flatten:=by
 rw [List.set_eq_take_append_cons_drop,if_pos hi]
 simp
theorem flat_split {xs:List (List Value)} {i:Nat} (hi:i < xs.length):xs.flatten=(xs.take i).flatten ++ xs[i] ++ (xs.drop (i+1)).flatten:=by
 have h:=flat_set (xs:=xs) (x:=xs[i]) hi
 rw [List.set_getElem_self] at h
 exact h

theorem Own.store {w:World} {base:Nat} {e:TypeId} {k g n cap:Nat} {xs:List (List Value)} (h:Own w base e k (.slice (some ⟨g,0,none⟩) n cap) xs) {i:Nat} (hi:i < xs.length) (x:List Value) (hx:x.length=k) :
  Own (stores w g (i * k) x) base e k (.slice (some ⟨g,0,none⟩) n cap) (xs.set i x):=by
 obtain ⟨h1,h2⟩:=h
 have hn:n=xs.length:=by
  rcases h1.2 with ⟨h',_⟩ | ⟨g',cap',cur,h',_⟩
  ·simp at h'
  ·simp only [Value.slice.injEq] at h';exact h'.2.1
 subst hn
 refine ⟨?_,fun y hy=>?_⟩
 ·rw [List.length_set,flat_set hi]
  rw [flat_split hi] at h1
  refine ownsRow_stores x (i * k) w _ xs[i] _ h1 ?_ ?_
  ·rw [flat_length fun z hz=>h2 z (List.mem_of_mem_take hz)]
   rw [List.length_take,Nat.min_eq_left (by omega)]
  ·rw [hx,h2 _ (List.getElem_mem hi)]
 ·rcases List.mem_or_eq_of_mem_set hy with h | rfl
  ·exact h2 y h
  ·exact hx
theorem Own.cell {w:World} {base:Nat} {e:TypeId} {k g n cap:Nat} {xs:List (List Value)} (h:Own w base e k (.slice (some ⟨g,0,none⟩) n cap) xs) {i j:Nat} (hi:i < xs.length) (hj:j < k) :
  ∃ v,w.cell? ⟨g,i * k+j,none⟩=some v:=by
 have h2:=h.2 xs[i] (List.getElem_mem hi)
 obtain ⟨_,b,off,he,_,hc⟩:=h.sl i xs[i] (List.getElem?_eq_getElem hi)
 simp only [Option.some.injEq,Addr.mk.injEq,and_true] at he
 obtain ⟨rfl,rfl⟩:=he
 exact ⟨_,by have:=hc j (xs[i][j]'(by omega)) (List.getElem?_eq_getElem (by omega));rwa [Nat.zero_add] at this⟩
theorem Own.frozen {w:World} {base:Nat} {e:TypeId} {k g n cap:Nat} {xs:List (List Value)} (h:Own w base e k (.slice (some ⟨g,0,none⟩) n cap) xs) (j:Nat):w.frozen? ⟨g,j,none⟩=false:=by
 rcases h.1.2 with ⟨h',_⟩ | ⟨g',cap',cur,h',_,hg,_⟩
 ·simp at h'
 ·simp only [Value.slice.injEq,Option.some.injEq,Addr.mk.injEq,and_true] at h'
  obtain ⟨rfl,_,rfl⟩:=h'
  exact frozen_of_row w g j cur e hg
theorem Own.off0 {w:World} {base:Nat} {e:TypeId} {k b off n cap:Nat} {xs:List (List Value)} (h:Own w base e k (.slice (some ⟨b,off,none⟩) n cap) xs) {i:Nat} (_:i < xs.length):off=0:=by
 rcases h.1.2 with ⟨h',_⟩ | ⟨g',cap',cur,h',_⟩
 ·simp at h'
 ·simp only [Value.slice.injEq,Option.some.injEq,Addr.mk.injEq] at h'
  exact h'.1.2.1
theorem grownBy_stores {w:World} {g:Nat}:∀ (cs:List Value) (p:Nat) {v:World},w.grownBy v (some g)→w.grownBy (stores v g p cs) (some g)
 | [],_,_,h=>h
 | u :: us,p,v,h=>grownBy_stores us (p+1) ⟨h.os,h.tape,h.output,by simpa using h.size,fun k hk hne=>by
   rw [Below.heap_setCell _ _ _ _ (fun e=>hne (by simp [e]))];exact h.block k hk hne⟩
theorem Sl.of_blk {w:World} {g k:Nat} {t:TypeId} {cs:Array Value} (h:Blk w g t cs) (xs:List (List Value)) (hx:cs.toList=xs.flatten) (hk:∀ x ∈ xs,x.length=k):Sl w (g+1) k (some ⟨g,0,none⟩) xs:=fun i x hi =>
 ⟨hk x (List.mem_of_getElem? hi),g,0,rfl,by omega,fun j v hv=>by
  have:=flat_get hk i j x v hi hv
  rw [← hx] at this
  rw [Nat.zero_add,h.cell]
  simpa using this⟩
theorem below_drewN' {B:Nat} {a w:World} (h:Below B a w) (n:Nat):Below B a (w.drewN n):=⟨h.os,h.tape,h.output,h.size,h.block⟩
theorem Sl.drewN {w:World} {B k:Nat} {A:Option Addr} {xs:List (List Value)} (h:Sl w B k A xs) (n:Nat):Sl (w.drewN n) B k A xs:=h
end Go.Proofs.YtednjmldjbndhaaGreat
namespace Go.Proofs.YtednjmldjbndhaaGreat
open Go.RowKit

def inB (n lo hi:Int):Bool:=decide (lo ≤ n) && decide (n ≤ hi)
theorem inB_true {n lo hi:Int}:inB n lo hi=true ↔ lo ≤ n∧n ≤ hi:=by simp [inB]
theorem inB_false {n lo hi:Int}:inB n lo hi=false ↔ ¬ (lo ≤ n∧n ≤ hi):=by rw [← inB_true];simp

theorem within_c (n lo hi:Int) (w:World) :
  Calls Tryz.prog 52 #[.int .i64 n,.int .i64 lo,.int .i64 hi] w fun e w'=>e=.returned (.bool (inB n lo hi))∧w=w':=by
 by_cases h1:lo ≤ n
 all_goals
  go_enter Tryz.func52,Tryz.ntmps52
  go_wp2
  go_ret
  exact ⟨by simp [inB,h1] <;> omega,rfl⟩

theorem l01In_c (n lo hi:Int) (w:World) :
  Calls Tryz.prog 56 #[.int .i64 n,.int .i64 lo,.int .i64 hi] w fun e w'=>e=.returned (.bool (inB n lo hi))∧w=w':=by
 by_cases h1:lo ≤ n
 all_goals
  go_enter Tryz.func56,Tryz.ntmps56
  go_wp2
  go_ret
  exact ⟨by simp [inB,h1] <;> omega,rfl⟩

theorem tdiv_neg_of (a b:Int) (hb:0 < b) (hm:a.tmod b=0):a.tdiv b=a / b:=by
 have h1:=Int.mul_tdiv_add_tmod a b
 rw [hm] at h1
 have h2:a.tdiv b=a / b:=by
  rw [← h1];simp
  rw [Int.mul_tdiv_cancel_left _ (by omega),Int.mul_ediv_cancel_left _ (by omega)]
 exact h2
theorem tmod_neg_bd (a b:Int) (ha:a < 0) (hb:0 < b):-b < a.tmod b∧a.tmod b ≤ 0:=by
 have h1:=Int.neg_tmod (-a) b
 rw [Int.neg_neg] at h1
 rw [h1]
 have h3:=Int.tmod_nonneg b (show 0 ≤ -a by omega)
 have h4:=Int.tmod_lt_of_pos (-a) hb
 omega
theorem tdiv_neg_of' (a b:Int) (ha:a < 0) (hb:0 < b) (hm:¬ a.tmod b=0):a.tdiv b - 1=a / b:=by
 have h1:=Int.mul_tdiv_add_tmod a b
 have h2:=tmod_neg_bd a b ha hb
 symm
 have h3:a=(a.tmod b+b)+b * (a.tdiv b - 1):=by rw [Int.mul_sub];omega
 rw [h3,Int.add_mul_ediv_left _ _ (by omega)]
 rw [← h3,Int.ediv_eq_zero_of_lt (by omega) (by omega)]
 omega
theorem tdiv_bd (a b:Int) (hb:0 < b) (ha:-4611686018427387904 ≤ a∧a ≤ 4611686018427387904):-4611686018427387904 ≤ a.tdiv b∧a.tdiv b ≤ 4611686018427387904:=by
 rw [tdiv_eq_if]
 split
 ·rename_i hx;have:=IntWalk.tdiv_le a b hx (by omega);omega
 ·rename_i hx;have:=IntWalk.tdiv_le (-a) b (by omega) (by omega);omega
theorem ediv_bd (a b:Int) (hb:0 < b) (ha:-4611686018427387904 ≤ a∧a ≤ 4611686018427387904):-4611686018427387904 ≤ a / b∧a / b ≤ 4611686018427387904:=by
 constructor
 ·exact Int.le_trans (by omega) (Int.le_ediv_of_mul_le hb (show -4611686018427387904 * b ≤ a by
   have:4611686018427387904 * 1 ≤ 4611686018427387904 * b:=Int.mul_le_mul_of_nonneg_left (by omega) (by omega)
   omega))
 ·have:a / b < 4611686018427387904+1:=Int.ediv_lt_of_lt_mul hb (by
   have:4611686018427387905 * 1 ≤ 4611686018427387905 * b:=Int.mul_le_mul_of_nonneg_left (by omega) (by omega)
   omega)
  omega

theorem mul_div_bd (a b:Int) (hb:0 < b):a - b < b * (a / b)∧b * (a / b) ≤ a:=by
 have h1:=Int.mul_ediv_add_emod a b
 have h2:=Int.emod_nonneg a (show b ≠ 0 by omega)
 have h3:=Int.emod_lt_of_pos a hb
 omega

theorem down_c (a b:Int) (w:World) (ha:-4611686018427387904 ≤ a∧a ≤ 4611686018427387904) (hb:0 < b∧b ≤ 4611686018427387904) :
  Calls Tryz.prog 150 #[.int .i64 a,.int .i64 b] w fun e w'=>e=.returned (.int .i64 (a / b))∧w=w':=by
 obtain ⟨ha1,ha2⟩:=ha
 obtain ⟨hb1,hb2⟩:=hb
 have hbn:¬ b < 0:=by omega
 have hb0:¬ b=0:=by omega
 have hbt:=tdiv_bd a b hb1 ⟨ha1,ha2⟩
 by_cases h:0 ≤ a
 ·have h':¬ a < 0:=by omega
  have E:=Lib.hid (Int.tdiv_eq_ediv_of_nonneg (b:=b) h)
  by_cases hm:a % b=0
  ·have hm1:((a % b) != 0)=false:=by simp [hm]
   have hm:=Lib.hid hm
   go_enter Tryz.func150,Tryz.ntmps150
   go_wp2
   go_ret
   exact ⟨ret_int E.out,rfl⟩
  ·have hm1:((a % b) != 0)=true:=by simp [hm]
   go_enter Tryz.func150,Tryz.ntmps150
   go_wp2
   go_ret
   exact ⟨ret_int E.out,rfl⟩
 ·have h':a < 0:=by omega
  by_cases hm:a.tmod b=0
  ·have hm1:((a.tmod b) != 0)=false:=by simp [hm]
   have E:=Lib.hid (tdiv_neg_of a b hb1 hm)
   have hm:=Lib.hid hm
   go_enter Tryz.func150,Tryz.ntmps150
   go_wp2
   go_ret
   exact ⟨ret_int E.out,rfl⟩
  ·have hm1:((a.tmod b) != 0)=true:=by simp [hm]
   have E:=Lib.hid (tdiv_neg_of' a b h' hb1 hm)
   go_enter Tryz.func150,Tryz.ntmps150
   go_wp2
   go_ret
   exact ⟨ret_int E.out,rfl⟩

theorem modulo_c (a b:Int) (w:World) (ha:-4611686018427387904 ≤ a∧a ≤ 4611686018427387904) (hb:0 < b∧b ≤ 4611686018427387904) :
  Calls Tryz.prog 87 #[.int .i64 a,.int .i64 b] w fun e w'=>e=.returned (.int .i64 (a % b))∧w=w':=by
 have h1:=mul_div_bd a b hb.1
 have h2:=ediv_bd a b hb.1 ha
 obtain ⟨ha1,ha2⟩:=ha
 obtain ⟨hb1,hb2⟩:=hb
 obtain ⟨h11,h12⟩:=h1
 have h4:=Int.emod_nonneg a (show b ≠ 0 by omega)
 have h5:=Int.emod_lt_of_pos a hb1
 have E:Hid (a - b * (a / b)=a % b):=by have:=Int.mul_ediv_add_emod a b;unfold Hid;omega
 go_enter Tryz.func87,Tryz.ntmps87
 go_wp2_with (go_at_call 150;refine (down_c _ _ _ ⟨ha1,ha2⟩ ⟨hb1,hb2⟩).mono ?_;rintro e w' ⟨rfl,rfl⟩)
 go_ret
 exact ⟨ret_int E.out,rfl⟩

theorem up_c (a b:Int) (w:World) (ha:-4611686018427387904 ≤ a∧a ≤ 4611686018427387904) (hb:0 < b∧b ≤ 4611686018427387904) :
  Calls Tryz.prog 185 #[.int .i64 a,.int .i64 b] w fun e w'=>e=.returned (.int .i64 (-(-a / b)))∧w=w':=by
 have h2:=ediv_bd (-a) b hb.1 (by omega)
 obtain ⟨ha1,ha2⟩:=ha
 obtain ⟨hb1,hb2⟩:=hb
 go_enter Tryz.func185,Tryz.ntmps185
 go_wp2_with (go_at_call 150;refine (down_c _ _ _ (by omega) ⟨hb1,hb2⟩).mono ?_;rintro e w' ⟨rfl,rfl⟩)
 go_ret
 exact ⟨rfl,rfl⟩

theorem l01Floor_c (a b:Int) (w:World) (ha:-4611686018427387904 ≤ a∧a ≤ 4611686018427387904) (hb:0 < b∧b ≤ 4611686018427387904) :
  Calls Tryz.prog 207 #[.int .i64 a,.int .i64 b] w fun e w'=>e=.returned (.int .i64 (a / b))∧w=w':=by
 obtain ⟨ha1,ha2⟩:=ha
 obtain ⟨hb1,hb2⟩:=hb
 have hbn:¬ b < 0:=by omega
 have hb0:¬ b=0:=by omega
 have hbt:=tdiv_bd a b hb1 ⟨ha1,ha2⟩
 by_cases h:0 ≤ a
 ·have h':¬ a < 0:=by omega
  have E:=Lib.hid (Int.tdiv_eq_ediv_of_nonneg (b:=b) h)
  have hm:=Int.emod_nonneg a (show b ≠ 0 by omega)
  go_enter Tryz.func207,Tryz.ntmps207
  go_wp2
  go_ret
  exact ⟨ret_int E.out,rfl⟩
 ·have h':a < 0:=by omega
  have hmb:=tmod_neg_bd a b h' hb1
  by_cases hm:a.tmod b=0
  ·have E:=Lib.hid (tdiv_neg_of a b hb1 hm)
   have hm1:¬ a.tmod b < 0:=by omega
   have hm:=Lib.hid hm
   go_enter Tryz.func207,Tryz.ntmps207
   go_wp2
   go_ret
   exact ⟨ret_int E.out,rfl⟩
  ·have hm1:a.tmod b < 0:=by omega
   have E:=Lib.hid (tdiv_neg_of' a b h' hb1 hm)
   go_enter Tryz.func207,Tryz.ntmps207
   go_wp2
   go_ret
   exact ⟨ret_int E.out,rfl⟩

theorem l01Ceil_c (a b:Int) (w:World) (ha:-4611686018427387904 ≤ a∧a ≤ 4611686018427387904) (hb:0 < b∧b ≤ 4611686018427387904) :
  Calls Tryz.prog 229 #[.int .i64 a,.int .i64 b] w fun e w'=>e=.returned (.int .i64 (-(-a / b)))∧w=w':=by
 have h2:=ediv_bd (-a) b hb.1 (by omega)
 obtain ⟨ha1,ha2⟩:=ha
 obtain ⟨hb1,hb2⟩:=hb
 go_enter Tryz.func229,Tryz.ntmps229
 go_wp2_with (go_at_call 207;refine (l01Floor_c _ _ _ (by omega) ⟨hb1,hb2⟩).mono ?_;rintro e w' ⟨rfl,rfl⟩)
 go_ret
 exact ⟨rfl,rfl⟩

theorem l01Mod_c (a b:Int) (w:World) (ha:-4611686018427387904 ≤ a∧a ≤ 4611686018427387904) (hb:0 < b∧b ≤ 2305843009213693952) :
  Calls Tryz.prog 125 #[.int .i64 a,.int .i64 b] w fun e w'=>e=.returned (.int .i64 (a % b))∧w=w':=by
 obtain ⟨ha1,ha2⟩:=ha
 obtain ⟨hb1,hb2⟩:=hb
 have hb0:¬ b=0:=by omega
 have h4:=Int.emod_nonneg a hb0
 have h5:=Int.emod_lt_of_pos a hb1
 by_cases h:0 ≤ a
 ·have E:Hid ((a % b+b) % b=a % b):=by unfold Hid;rw [Int.add_emod_right,Int.emod_emod]
  go_enter Tryz.func125,Tryz.ntmps125
  go_wp2
  go_ret
  exact ⟨ret_int E.out,rfl⟩
 ·have h':a < 0:=by omega
  have hmb:=tmod_neg_bd a b h' hb1
  have E:Hid (a.tmod b % b=a % b):=by
   have h1:=Int.mul_tdiv_add_tmod a b
   unfold Hid
   conv=>rhs;rw [← h1,Int.mul_add_emod_self_left]
  go_enter Tryz.func125,Tryz.ntmps125
  go_wp2
  go_ret
  exact ⟨ret_int E.out,rfl⟩


theorem distance_c (a b:Int) (w:World) (ha:-2305843009213693952 ≤ a∧a ≤ 2305843009213693952) (hb:-2305843009213693952 ≤ b∧b ≤ 2305843009213693952) :
  Calls Tryz.prog 141 #[.int .i64 a,.int .i64 b] w fun e w'=>e=.returned (.int .i64 (max (a - b) (b - a)))∧w=w':=by
 obtain ⟨ha1,ha2⟩:=ha
 obtain ⟨hb1,hb2⟩:=hb
 go_enter Tryz.func141,Tryz.ntmps141
 go_wp2
 all_goals go_ret
 all_goals exact ⟨ret_int (by omega),rfl⟩
end Go.Proofs.YtednjmldjbndhaaGreat
namespace Go.Proofs.YtednjmldjbndhaaGreat
open Go.RowKit

theorem flat_of {xs:List (List Value)} {k:Nat} (hk:0 < k) (h:∀ x ∈ xs,x.length=k) {p:Nat} {u:Value} (hp:xs.flatten[p]?=some u):∃ i j x,p=i * k+j∧xs[i]?=some x∧x[j]?=some u:=by
 have hlt:p < xs.length * k:=by rw [← flat_length h];exact (List.getElem?_eq_some_iff.1 hp).1
 have hd:p / k < xs.length:=(Nat.div_lt_iff_lt_mul hk).2 hlt
 have hm:p % k < xs[p / k].length:=by rw [h _ (List.getElem_mem hd)];exact Nat.mod_lt _ hk
 have hg:=flat_get h (p / k) (p % k) _ _ (List.getElem?_eq_getElem hd) (List.getElem?_eq_getElem hm)
 rw [show p / k * k+p % k=p from by rw [Nat.mul_comm];exact Nat.div_add_mod p k] at hg
 rw [hg] at hp
 refine ⟨p / k,p % k,_,by rw [Nat.mul_comm];exact (Nat.div_add_mod p k).symm,List.getElem?_eq_getElem hd,?_⟩
 rw [List.getElem?_eq_getElem hm]
 exact hp

section
variable {P : Program} (w : World)
theorem run_append_of_nil (base:Nat) (t ty e:TypeId) (i:TypeInfo) (size:Nat) (ht:P.underlying t=some (.slice e)) (hi:P.info? e=some i)
  (v:Value) (n:Nat) (xs:List Value) (hown:w.ownsRow base e size v n xs) (c:Nat):(Builtin.append_ #[t,t] ty #[v,.slice none 0 c]).run P w=.ok v w:=by
 rcases hown.2 with ⟨rfl,rfl⟩ | ⟨g,cap,cur,rfl,_,_,hnc,_⟩
 ·simp [Builtin.append_,run_underlying ht,sizeOf,typeInfo,hi,Builtin.lenOf,Builtin.firstCells]
 ·simp [Builtin.append_,run_underlying ht,sizeOf,typeInfo,hi,Builtin.lenOf,Builtin.firstCells,hnc,storeCells]

theorem run_append_rows (base:Nat) (t ty e:TypeId) (i:TypeInfo) (z:Value) (k bytes:Nat) (ht:P.underlying t=some (.slice e)) (hi:P.info? e=some i) (hz:i.zero=some z)
  (hsize:i.size=k) (hby:i.bytes=bytes) (hzs:z.cells.size=k) (hk:0 < k)
  (v:Value) (xs:List (List Value)) (hown:Own w base e k v xs)
  (B:Nat) (A:Option Addr) (m c:Nat) (ys:List (List Value)) (hm:ys.length=m) (hr:Sl w B k A ys) (h1:∀ y ∈ ys,∀ u ∈ y,u.oneCell'=true)
  (h63:xs.length+m ≤ maxLen) (hbytes:(xs.length+m) * bytes ≤ 140737488355328) (hbase:base ≤ w.heap.size) :
  ∃ v' w',(Builtin.append_ #[t,t] ty #[v,.slice A m c]).run P w=.ok v' w'∧Own w' base e k v' (xs ++ ys)∧w.grownBy w' v.ownBlock∧(v'.ownBlock=v.ownBlock ∨ v'.ownBlock=some w.heap.size):=by
 have hys:∀ y ∈ ys,y.length=k:=fun y hy=>by obtain ⟨j,hj⟩:=List.mem_iff_getElem?.1 hy;exact (hr j y hj).1
 have hall:∀ x ∈ xs ++ ys,x.length=k:=fun x hx=>by
  rcases List.mem_append.1 hx with h | h
  ·exact hown.2 x h
  ·exact hys x h
 rcases A with _ | ad
 ·have hy:ys=[]:=by
   cases ys with
   | nil=>rfl
   | cons y r=>obtain ⟨_,b,off,h,_⟩:=hr 0 y rfl;cases h
  subst hy
  obtain rfl:m=0:=by simpa using hm.symm
  exact ⟨v,w,run_append_of_nil w base t ty e i k ht hi v _ _ hown.1 c,by rw [List.append_nil];exact hown,World.grownBy.refl w _,.inl rfl⟩
 ·have hcells:∀ j u,ys.flatten[j]?=some u→w.cell? (ad.add j)=some u:=by
   intro p u hp
   obtain ⟨i,j,x,rfl,hx,hu⟩:=flat_of hk hys hp
   obtain ⟨_,b,off,he,_,hc⟩:=hr i x hx
   obtain rfl:ad=⟨b,off,none⟩:=by injection he
   have:=hc j u hu
   rw [Nat.add_assoc] at this
   unfold Addr.add
   split
   ·rename_i h0;rw [h0] at this;exact this
   ·exact this
  obtain ⟨v',w',hrun,h2,h3,_,h5⟩:=run_append_own_at (P:=P) w base t ty e i z k bytes ht hi hz hsize hby hzs hk v _ _ hown.1 ad m c ys.flatten (by rw [flat_length hys,hm]) hcells
   (fun u hu=>by obtain ⟨y,hy,hu⟩:=List.mem_flatten.1 hu;exact h1 y hy u hu) h63 hbytes hbase
  refine ⟨v',w',hrun,⟨?_,hall⟩,h3,h5⟩
  rw [List.length_append,List.flatten_append,hm]
  exact h2

theorem wp_append_rows {o:Oper} {a:Act} {K:Act→World→Prop} {Q:Exit→Act→World→Prop} (s x:Operand) (t:TypeId)
  (ho:o.op=.call { callee:=.builtin .append,args:=#[s,x],argTypes:=#[t,t] })
  (base:Nat) (e:TypeId) (i:TypeInfo) (z:Value) (k bytes:Nat) (ht:P.underlying t=some (.slice e)) (hi:P.info? e=some i) (hz:i.zero=some z)
  (hsize:i.size=k) (hby:i.bytes=bytes) (hzs:z.cells.size=k) (hk:0 < k)
  (v:Value) (xs:List (List Value)) (hs:a.eval s=v) (hown:Own w base e k v xs)
  (B:Nat) (A:Option Addr) (m c:Nat) (ys:List (List Value)) (hx:a.eval x=.slice A m c) (hm:ys.length=m) (hr:Sl w B k A ys) (h1:∀ y ∈ ys,∀ u ∈ y,u.oneCell'=true)
  (h63:xs.length+m ≤ maxLen) (hbytes:(xs.length+m) * bytes ≤ 140737488355328) (hbase:base ≤ w.heap.size)
  (h:∀ v' w',Own w' base e k v' (xs ++ ys)→w.grownBy w' v.ownBlock→(v'.ownBlock=v.ownBlock ∨ v'.ownBlock=some w.heap.size)→K (a.put o.dst v') w'):o.wp P a w K Q:=by
 obtain ⟨v',w',hrun,h2,h3,h4⟩:=run_append_rows (P:=P) w base t o.type e i z k bytes ht hi hz hsize hby hzs hk v xs hown B A m c ys hm hr h1 h63 hbytes hbase
 unfold Oper.wp execOp
 simp only [ho,resolve,invoke,builtin,Sem.run_bind,Sem.run_pure,Result.andThen_ok,List.map_toArray,List.map_cons,List.map_nil,hs,hx,hrun]
 exact h v' w' h2 h3 h4

theorem wpList_append_rows {ops:Array Oper} {rest:List Oper} {o:Oper} {a:Act} {Q:Exit→Act→World→Prop} (hgd:o.guard=none) (s x:Operand) (t:TypeId)
  (ho:o.op=.call { callee:=.builtin .append,args:=#[s,x],argTypes:=#[t,t] })
  (base:Nat) (e:TypeId) (i:TypeInfo) (z:Value) (k bytes:Nat) (ht:P.underlying t=some (.slice e)) (hi:P.info? e=some i) (hz:i.zero=some z)
  (hsize:i.size=k) (hby:i.bytes=bytes) (hzs:z.cells.size=k) (hk:0 < k)
  (v:Value) (xs:List (List Value)) (hs:a.eval s=v) (hown:Own w base e k v xs)
  (B:Nat) (A:Option Addr) (m c:Nat) (ys:List (List Value)) (hx:a.eval x=.slice A m c) (hm:ys.length=m) (hr:Sl w B k A ys) (h1:∀ y ∈ ys,∀ u ∈ y,u.oneCell'=true)
  (h63:xs.length+m ≤ maxLen) (hbytes:(xs.length+m) * bytes ≤ 140737488355328) (hbase:base ≤ w.heap.size)
  (h:∀ v' w',Own w' base e k v' (xs ++ ys)→w.grownBy w' v.ownBlock→(v'.ownBlock=v.ownBlock ∨ v'.ownBlock=some w.heap.size)→wpList P ops Q rest (a.put o.dst v') w'):wpList P ops Q (o :: rest) a w :=
 wpList_plain hgd fun _ hK=>wp_append_rows w s x t ho base e i z k bytes ht hi hz hsize hby hzs hk v xs hs hown B A m c ys hx hm hr h1 h63 hbytes hbase fun v' w' h2 h3 h4=>hK _ _ (h v' w' h2 h3 h4)
theorem step_append_rows {ops:Array Oper} {o:Oper} {a:Act} {K:Act→World→Prop} {Q:Exit→Act→World→Prop} {E:Prop} (hgd:o.guard=none) (s x:Operand) (t:TypeId)
  (ho:o.op=.call { callee:=.builtin .append,args:=#[s,x],argTypes:=#[t,t] })
  (base:Nat) (e:TypeId) (i:TypeInfo) (z:Value) (k bytes:Nat) (ht:P.underlying t=some (.slice e)) (hi:P.info? e=some i) (hz:i.zero=some z)
  (hsize:i.size=k) (hby:i.bytes=bytes) (hzs:z.cells.size=k) (hk:0 < k)
  (v:Value) (xs:List (List Value)) (hs:a.eval s=v) (hown:Own w base e k v xs)
  (B:Nat) (A:Option Addr) (m c:Nat) (ys:List (List Value)) (hx:a.eval x=.slice A m c) (hm:ys.length=m) (hr:Sl w B k A ys) (h1:∀ y ∈ ys,∀ u ∈ y,u.oneCell'=true)
  (h63:xs.length+m ≤ maxLen) (hbytes:(xs.length+m) * bytes ≤ 140737488355328) (hbase:base ≤ w.heap.size)
  (h:∀ v' w',Own w' base e k v' (xs ++ ys)→w.grownBy w' v.ownBlock→(v'.ownBlock=v.ownBlock ∨ v'.ownBlock=some w.heap.size)→K (a.put o.dst v') w') :
  if Region.wanted o (yielded ops a.tmps)=true then Oper.wp P o a w K Q else E:=by
 have hw:Region.wanted o (yielded ops a.tmps)=true:=by simp [Region.wanted,hgd]
 rw [if_pos hw]
 exact wp_append_rows w s x t ho base e i z k bytes ht hi hz hsize hby hzs hk v xs hs hown B A m c ys hx hm hr h1 h63 hbytes hbase h
end

theorem Own.empty {w:World} {base:Nat} {e:TypeId} {k:Nat} (hb:base ≤ w.heap.size):Own (w.alloc (.cells #[] e)) base e k (.slice (some ⟨w.heap.size,0,none⟩) 0 0) []:=by
 refine ⟨?_,by simp⟩
 have:=World.ownsRow_lit (base:=base) (e:=e) (size:=k) w #[] 0 hb (Nat.zero_le _) (by simp)
 simpa using this
theorem below_app {B:Nat} {a w w':World} {v:Value} (h:Below B a w) (hg:w.grownBy w' v.ownBlock) (hB:B ≤ w.heap.size) (hr:∀ g,v.ownBlock=some g→B ≤ g):Below B a w':=h.grown hg hB hr
theorem Own.ownGe {w:World} {base:Nat} {e:TypeId} {k:Nat} {v:Value} {xs:List (List Value)} (h:Own w base e k v xs):∀ g,v.ownBlock=some g→base ≤ g:=fun g hg=>(h.1.lt g hg).1
theorem Own.kept {w w':World} {base:Nat} {e:TypeId} {k:Nat} {v:Value} {xs:List (List Value)} {row:Option Nat} (h:Own w base e k v xs) (hg:w.grownBy w' row) (hne:v.ownBlock=none ∨ v.ownBlock ≠ row):Own w' base e k v xs:=⟨h.1.kept hg hne,h.2⟩
theorem Sl.grown {w w':World} {B k:Nat} {A:Option Addr} {xs:List (List Value)} {row:Option Nat} (h:Sl w B k A xs) (hg:w.grownBy w' row) (hB:B ≤ w.heap.size) (hr:∀ g,row=some g→B ≤ g):Sl w' B k A xs :=
 h.keep fun p hp=>World.cell?_of_block (hg.block p.block (by omega) (fun e=>by have:=hr _ e.symm;omega))
theorem Own.le_cap {w:World} {base:Nat} {e:TypeId} {k n c:Nat} {A:Option Addr} {xs:List (List Value)} (h:Own w base e k (.slice A n c) xs):n ≤ c:=by
 obtain ⟨_,_,he,hf⟩:=h.form
 simp only [Value.slice.injEq] at he
 omega
end Go.Proofs.YtednjmldjbndhaaGreat
namespace Go.Proofs.YtednjmldjbndhaaGreat
open Go.RowKit
def Bytes (w:World) (A:Option Addr) (n B:Nat):Prop:=∀ i,i < n→∃ b off,∃ m:Int,A=some ⟨b,off,none⟩∧b < B∧(0 ≤ m∧m ≤ 255)∧w.cell? ⟨b,off+i,none⟩=some (.int .u8 m)
theorem Bytes.keep {w w':World} {A:Option Addr} {n B:Nat} (h:Bytes w A n B) (hk:∀ p:Addr,p.block < B→w'.cell? p=w.cell? p):Bytes w' A n B:=fun i hi=>by
 obtain ⟨b,off,m,rfl,hb,hm,hc⟩:=h i hi
 exact ⟨b,off,m,rfl,hb,hm,(hk ⟨b,off+i,none⟩ hb).trans hc⟩
theorem Bytes.more {w:World} {A:Option Addr} {n B B':Nat} (h:Bytes w A n B) (hB:B ≤ B'):Bytes w A n B':=fun i hi=>by
 obtain ⟨b,off,m,rfl,hb,hm,hc⟩:=h i hi
 exact ⟨b,off,m,rfl,by omega,hm,hc⟩
def Src (w:World) (A:Option Addr) (n c g:Nat):Prop:=(Bytes w A n g∧n ≤ 4096)∧∃ a s:Int,Blk w g 132 #[.slice A n c,.int .i64 a,.int .i64 s]∧(0 ≤ a∧a ≤ n)∧(0 ≤ s∧s < 2147483647)
section
variable {w w' : World} {A : Option Addr} {n c g : Nat}
theorem Src.lt (h:Src w A n c g):g < w.heap.size:=by
 obtain ⟨_,_,_,hb,_⟩:=h
 exact hb.lt
theorem Src.keep (h:Src w A n c g) (hk:∀ k,k ≤ g→w'.heap[k]?=w.heap[k]?):Src w' A n c g:=by
 obtain ⟨⟨h1,h2⟩,a,s,hb,ha,hs⟩:=h
 exact ⟨⟨h1.keep fun p hp=>World.cell?_of_block (hk p.block (by omega)),h2⟩,a,s,(hk g (Nat.le_refl _)).trans hb,ha,hs⟩
theorem Src.below (h:Src w A n c g) (hb:Below w.heap.size w w'):Src w' A n c g:=h.keep fun k hk=>hb.block k (by have:=h.lt;omega)
theorem Src.alloc (h:Src w A n c g) (o:Obj):Src (w.alloc o) A n c g:=h.keep fun k hk=>Below.heap_alloc w o k (by have:=h.lt;omega)
theorem Src.grown {row:Option Nat} (h:Src w A n c g) (hg:w.grownBy w' row) (hr:∀ r,row=some r→g < r):Src w' A n c g :=
 h.keep fun k hk=>hg.block k (by have:=h.lt;omega) (fun e=>by have:=hr _ e.symm;omega)
end
theorem below_src {B g:Nat} {a w w':World} (h:Below B a w) (hg:w.grownBy w' (some g)) (hB:B ≤ w.heap.size) (hr:B ≤ g):Below B a w':=h.grown hg hB (fun r e=>by cases e;exact hr)
theorem Own.src {w w':World} {base:Nat} {e:TypeId} {k:Nat} {v:Value} {xs:List (List Value)} {g:Nat} (h:Own w base e k v xs) (hg:w.grownBy w' (some g)) (hb:g < base):Own w' base e k v xs :=
 h.kept hg (by
  cases hv:v.ownBlock with
  | none=>exact .inl rfl
  | some r =>
   refine .inr fun e=>?_
   have:=h.ownGe r hv
   cases e
   omega)
theorem Blk.src {w w':World} {b:Nat} {t:TypeId} {cs:Array Value} {g:Nat} (h:Blk w b t cs) (hg:w.grownBy w' (some g)) (hb:b ≠ g):Blk w' b t cs:=(hg.block b h.lt (fun e=>by cases e;exact hb rfl)).trans h
theorem Sl.src {w w':World} {B k:Nat} {A:Option Addr} {xs:List (List Value)} {g:Nat} (h:Sl w B k A xs) (hg:w.grownBy w' (some g)) (hB:B ≤ w.heap.size) (hr:B ≤ g):Sl w' B k A xs:=h.grown hg hB (fun r e=>by cases e;exact hr)
theorem grown_drewN {w w':World} {r:Option Nat} (h:w.grownBy w' r) (n:Nat):w.grownBy (w'.drewN n) r:=⟨h.os,h.tape,h.output,h.size,h.block⟩
theorem emod_A {x m:Int} (hx:0 ≤ x) (h7:x ≤ 70000000) (hm:0 < m):0 ≤ x % m∧x % m ≤ 70000000:=by
 have h1:=Int.emod_nonneg x (show m ≠ 0 by omega)
 have h2:=Int.emod_add_mul_ediv x m
 have h3:=Int.mul_nonneg (show 0 ≤ m by omega) (Int.ediv_nonneg hx (show 0 ≤ m by omega))
 omega
theorem emod_B {x m:Int} (hm:0 < m):x % m < m ∨ x % m=0:=.inl (Int.emod_lt_of_pos x hm)
theorem l01From_c (A:Option Addr) (n c:Nat) (w:World) (hn:n ≤ 4096) (hb:Bytes w A n w.heap.size) :
  Calls Tryz.prog 39 #[.slice A n c] w fun e w'=>e=.returned (.pointer (some ⟨w.heap.size,0,none⟩))∧Src w' A n c w.heap.size∧Below w.heap.size w w':=by
 have hb':=Lib.hid hb
 clear hb
 go_enter Tryz.func39,Tryz.ntmps39
 go_wp2_with fail
 go_loopw [4] (fun i wr=>∃ k:Nat,k ≤ n∧i=.int .i64 k∧Below w.heap.size w wr∧∃ s:Int,Blk wr w.heap.size 132 #[.slice A n c,.int .i64 0,.int .i64 s]∧(0 ≤ s∧s < 2147483647)) (fun i _=>n - (intOf i).toNat)
 case atStart=>exact ⟨0,Nat.zero_le _,rfl,(Below.refl _ _).alloc (Nat.le_refl _) _,17021,Blk.new w _ _,by omega⟩
 case round =>
  obtain ⟨k,hk,rfl,hbw,s,hB,hs1,hs2⟩:=hrel
  have z2:wr.cell? ⟨w.heap.size,2,none⟩=some (.int .i64 s):=hB.cell 2
  have f2:wr.frozen? ⟨w.heap.size,2,none⟩=false:=hB.frozen 2
  by_cases hlt:k < n
  ·by_cases h64:k < 64
   ·obtain ⟨b,off,m,rfl,hbb,⟨hm1,hm2⟩,hc⟩:=hb'.out k hlt
    have c0:wr.cell? ⟨b,off+k,none⟩=some (.int .u8 m):=by rw [hbw.cell hbb];exact hc
    clear hc
    go_wp2_with fail
    go_still_tail 15,(by kernel_rfl)
    change wpList _ _ _ _ _ wr.drew
    have hB':Blk wr.drew w.heap.size 132 #[.slice (some ⟨b,off,none⟩) n c,.int .i64 0,.int .i64 s]:=hB
    have hbw':Below w.heap.size w wr.drew:=hbw.drew
    generalize wr.drew=w2 at hB' hbw' ⊢
    have f2:w2.frozen? ⟨w.heap.size,2,none⟩=false:=hB'.frozen 2
    have z2:w2.cell? ⟨w.heap.size,2,none⟩=some (.int .i64 s):=hB'.cell 2
    go_wp2
    go_roundw
    case rel=>exact ⟨k+1,by omega,by go_num,Below.setCell hbw' (Nat.le_refl _) _,_,hB'.set_ 2 _,by omega⟩
    case measure=>simp [intOf];omega
   ·go_wp2
    go_ret
    exact ⟨rfl,⟨⟨hb'.out.keep fun p hp=>hbw.cell hp,hn⟩,0,s,hB,by omega,by omega⟩,hbw⟩
  ·go_wp2
   go_ret
   exact ⟨rfl,⟨⟨hb'.out.keep fun p hp=>hbw.cell hp,hn⟩,0,s,hB,by omega,by omega⟩,hbw⟩
theorem l01Next_c (A:Option Addr) (n c g:Nat) (m:Int) (w:World) (hS:Src w A n c g) :
  Calls Tryz.prog 41 #[.pointer (some ⟨g,0,none⟩),.int .i64 m] w fun e w'=>∃ r:Int,e=.returned (.int .i64 r)∧(0 ≤ r∧r ≤ 70000000)∧(r < m ∨ r=0)∧Src w' A n c g∧w.grownBy w' (some g):=by
 by_cases h1:m ≤ 1
 ·have hS':=Lib.hid hS;clear hS
  go_enter Tryz.func41,Tryz.ntmps41
  go_wp2
  go_ret
  exact ⟨0,rfl,by omega,.inr rfl,hS'.out,World.grownBy.refl _ _⟩
 ·obtain ⟨⟨hb,hn⟩,a,s,hB,⟨ha1,ha2⟩,hs1,hs2⟩:=hS
  have z0:w.cell? ⟨g,0,none⟩=some (.slice A n c):=hB.cell 0
  have z1:w.cell? ⟨g,1,none⟩=some (.int .i64 a):=hB.cell 1
  have z2:w.cell? ⟨g,2,none⟩=some (.int .i64 s):=hB.cell 2
  have f1:w.frozen? ⟨g,1,none⟩=false:=hB.frozen 1
  have f2:w.frozen? ⟨g,2,none⟩=false:=hB.frozen 2
  have hb':=Lib.hid hb;clear hb
  have hlt:=hB.lt
  have keep:∀ w':World,w.grownBy w' (some g)→Hid (Bytes w' A n g):=fun w' hg=>hb'.out.keep fun p hp=>World.cell?_of_block (hg.block p.block (by omega) (fun e=>by cases e;omega))
  have G1:Hid (w.grownBy (w.setCell ⟨g,2,none⟩ (.int .i64 ((s * 48271+29) % 2147483647))) (some g)):=grownBy_stores [.int .i64 ((s * 48271+29) % 2147483647)] 2 (World.grownBy.refl _ _)
  have B1:Blk (w.setCell ⟨g,2,none⟩ (.int .i64 ((s * 48271+29) % 2147483647))) g 132 #[.slice A n c,.int .i64 a,.int .i64 ((s * 48271+29) % 2147483647)]:=hB.set_ 2 _
  have HB:=Lib.hid hB;clear hB
  go_enter Tryz.func41,Tryz.ntmps41
  go_wp2_with fail
  generalize w.setCell ⟨g,2,none⟩ (.int .i64 ((s * 48271+29) % 2147483647))=W1 at *
  have hs':0 ≤ (s * 48271+29) % 2147483647∧(s * 48271+29) % 2147483647 < 2147483647:=by omega
  generalize (s * 48271+29) % 2147483647=s' at *
  obtain ⟨hs1',hs2'⟩:=hs'
  clear z0 z1 z2 f1 f2
  have y0:W1.cell? ⟨g,0,none⟩=some (.slice A n c):=B1.cell 0
  have y1:W1.cell? ⟨g,1,none⟩=some (.int .i64 a):=B1.cell 1
  have e1:W1.frozen? ⟨g,1,none⟩=false:=B1.frozen 1
  go_quiet (fail)
  by_cases hat:a < n
  ·obtain ⟨k,rfl⟩:=Int.eq_ofNat_of_zero_le ha1
   obtain ⟨b,off,v,rfl,hbb,⟨hv1,hv2⟩,hc⟩:=hb'.out k (by omega)
   have hcw:∀ w':World,w.grownBy w' (some g)→w'.cell? ⟨b,off+k,none⟩=some (.int .u8 v):=fun w' hg=>(World.cell?_of_block (hg.block b (by omega) (fun e=>by cases e;omega))).trans hc
   have c1:=hcw W1 G1.out
   have hcw':=fun w' hg=>Lib.hid (hcw w' hg);clear hcw hc
   go_wp2_with fail
   go_quiet (fail)
   by_cases h256:m ≤ 256 <;> by_cases hev:((k:Int)+1) % 2=0
   ·go_wp2_with fail
    have G2:=fun q=>Lib.hid (grownBy_stores [.int .i64 ((k:Int)+1)] 1 (grown_drewN G1.out q))
    have B2:=fun q=>Lib.hid ((Blk.drewN B1 q).set_ 1 (.int .i64 ((k:Int)+1)))
    generalize hW2:World.setCell _ ⟨g,1,none⟩ _=W2 at *
    have G3:w.grownBy W2 (some g):=by rw [← hW2];exact (G2 _).out
    have B3:Blk W2 g 132 #[.slice (some ⟨b,off,none⟩) n c,.int .i64 ((k:Int)+1),.int .i64 s']:=by rw [← hW2];exact (B2 _).out
    have c2:=(hcw' W2 G3).out
    clear hW2 G2 B2 y0 y1 e1 c1 hcw' B1 G1
    have v0:W2.cell? ⟨g,0,none⟩=some (.slice (some ⟨b,off,none⟩) n c):=B3.cell 0
    have v1:W2.cell? ⟨g,1,none⟩=some (.int .i64 ((k:Int)+1)):=B3.cell 1
    go_quiet (fail)
    go_wp2
    go_ret
    exact ⟨_,rfl,emod_A (by omega) (by omega) (by omega),emod_B (by omega),⟨⟨(keep _ (grown_drewN G3 _)).out,hn⟩,(k:Int)+1,s',Blk.drewN B3 _,by omega,by omega⟩,grown_drewN G3 _⟩
   all_goals
    go_wp2
    go_ret
    refine ⟨_,rfl,emod_A (by omega) (by omega) (by omega),emod_B (by omega),⟨⟨(keep _ (grownBy_stores [_] 1 (grown_drewN G1.out _))).out,hn⟩,(k:Int)+1,s',(Blk.drewN B1 _).set_ 1 _,by omega,by omega⟩,grownBy_stores [_] 1 (grown_drewN G1.out _)⟩
  ·go_wp2
   go_ret
   exact ⟨_,rfl,emod_A (by omega) (by omega) (by omega),emod_B (by omega),⟨⟨(keep _ (grown_drewN G1.out _)).out,hn⟩,a,s',Blk.drewN B1 _,by omega,by omega⟩,grown_drewN G1.out _⟩
end Go.Proofs.YtednjmldjbndhaaGreat
namespace Go.Proofs.YtednjmldjbndhaaGreat
open Go.RowKit
@[ext] structure Figure where
 digits:Int
 tens:Int
deriving DecidableEq
def Figure.cells (s:Figure):List Value:=[.int .i64 s.digits,.int .i64 s.tens]
def Figure.agg (s:Figure):Value:=.agg #[.int .i64 s.digits,.int .i64 s.tens]

end Go.Proofs.YtednjmldjbndhaaGreat
namespace Go.Proofs.YtednjmldjbndhaaGreat
open Go.RowKit
theorem grown_alloc {w:World} (o:Obj) (r:Option Nat):w.grownBy (w.alloc o) r:=⟨rfl,rfl,rfl,by simp,fun k hk _=>Below.heap_alloc w o k hk⟩
theorem grown_far {w w':World} {g:Nat} {p:Addr} {u:Value} (h:w.grownBy w' (some g)) (hp:w.heap.size ≤ p.block):w.grownBy (w'.setCell p u) (some g):=⟨h.os,h.tape,h.output,by simpa using h.size,fun k hk hne=>by rw [Below.heap_setCell _ _ _ _ (by omega)];exact h.block k hk hne⟩
theorem Src.far {w:World} {A:Option Addr} {n c g:Nat} (h:Src w A n c g) {p:Addr} {u:Value} (hp:g < p.block):Src (w.setCell p u) A n c g:=h.keep fun k hk=>Below.heap_setCell _ _ _ _ (by omega)
def DI (A:Option Addr) (n c g:Nat) (w:World) (e:Ending) (w':World):Prop:=∃ r:Int,e=.returned (.int .i64 r)∧(-200000000 ≤ r∧r ≤ 200000000)∧Src w' A n c g∧w.grownBy w' (some g)
def DF (A:Option Addr) (n c g:Nat) (w:World) (e:Ending) (w':World):Prop:=∃ a b:Int,e=.returned (.agg #[.int .i64 a,.int .i64 b])∧(-200000000 ≤ a∧a ≤ 200000000)∧(-200000000 ≤ b∧b ≤ 200000000)∧Src w' A n c g∧w.grownBy w' (some g)
theorem l01Pick_c (A:Option Addr) (n c g b:Nat) (cs:Array Value) (len cap:Nat) (w:World) (hS:Src w A n c g) (hB:Blk w b 2 cs) (hb:b ≠ g) (hc:∀ v ∈ cs.toList,∃ m:Int,v=.int .i64 m∧-200000000 ≤ m∧m ≤ 200000000) (hlen:cs.size=len) (h0:0 < len) (h1:len ≤ 1000) :
  Calls Tryz.prog 48 #[.pointer (some ⟨g,0,none⟩),.slice (some ⟨b,0,none⟩) len cap] w (DI A n c g w):=by
 have hc':∀ k:Nat,k < len→∃ m:Int,cs[k]?=some (.int .i64 m)∧-200000000 ≤ m∧m ≤ 200000000:=fun k hk=>by
  obtain ⟨m,hm,hb⟩:=hc cs[k] (by simp)
  exact ⟨m,by rw [Array.getElem?_eq_getElem (by omega),hm],hb⟩
 have hN:=Lib.hid (l01Next_c A n c g (len:Int) w hS)
 unfold DI
 clear hc hS
 go_enter Tryz.func48,Tryz.ntmps48
 go_wp2_with (go_at_call 41;refine hN.out.mono ?_;rintro e w1 ⟨r,rfl,⟨hr1,hr2⟩,hr3,hS1,hg1⟩;obtain ⟨k,rfl⟩:=Int.eq_ofNat_of_zero_le hr1;obtain ⟨m,hm,hm1,hm2⟩:=hc' k (by omega);have c0:w1.cell? ⟨b,k,none⟩=some (.int .i64 m):=((hB.src hg1 hb).cell k).trans hm)
 go_ret
 exact ⟨m,rfl,⟨hm1,hm2⟩,hS1,hg1⟩
theorem l01Pick_n (A:Option Addr) (n c g:Nat) (cs:Array Value) (len cap:Nat) (w:World) (hS:Src w A n c g) (hc:∀ v ∈ cs.toList,∃ m:Int,v=.int .i64 m∧-200000000 ≤ m∧m ≤ 200000000) (hlen:cs.size=len) (h0:0 < len) (h1:len ≤ 1000) :
  Calls Tryz.prog 48 #[.pointer (some ⟨g,0,none⟩),.slice (some ⟨w.heap.size,0,none⟩) len cap] (w.alloc (.cells cs 2)) (DI A n c g w) :=
 (l01Pick_c A n c g w.heap.size cs len cap _ (hS.alloc _) (Blk.new _ _ _) (by have:=hS.lt;omega) hc hlen h0 h1).mono fun _ _ ⟨r,h1,h2,h3,h4⟩=>⟨r,h1,h2,h3,(grown_alloc _ _).trans h4⟩
theorem l05DrawLength_c (A:Option Addr) (n c g:Nat) (w:World) (hS:Src w A n c g):Calls Tryz.prog 106 #[.pointer (some ⟨g,0,none⟩)] w (DI A n c g w):=by
 have hG:w.grownBy w (some g):=World.grownBy.refl _ _
 unfold DI
 go_enter Tryz.func106,Tryz.ntmps106
 go_wp2_with (first | (go_at_call 41;refine (l01Next_c A n c g _ _ (by first | with_reducible exact hS | with_reducible exact hS.alloc _ | with_reducible exact (hS.alloc _).alloc _)).mono ?_;rintro e w1 ⟨r,rfl,⟨hr1,hr2⟩,hr3,hS,hg⟩;have hG:=hG.trans (by first | with_reducible exact hg | with_reducible exact (grown_alloc _ _).trans hg | with_reducible exact ((grown_alloc _ _).trans (grown_alloc _ _)).trans hg);clear hg) | (go_at_call 48;refine (l01Pick_n A n c g _ _ _ _ hS (by simp <;> omega) (by rfl) (by decide) (by decide)).mono ?_;rintro e w1 ⟨r,rfl,⟨hr1,hr2⟩,hS,hg⟩;have hG:=hG.trans hg;clear hg))
 all_goals
  go_ret
  exact ⟨_,rfl,by omega,by first | with_reducible exact hS | with_reducible exact hS.alloc _,by first | with_reducible exact hG | with_reducible exact hG.trans (grown_alloc _ _)⟩
theorem l05DrawScale_c (A:Option Addr) (n c g:Nat) (w:World) (hS:Src w A n c g):Calls Tryz.prog 107 #[.pointer (some ⟨g,0,none⟩)] w (DI A n c g w):=by
 have hG:w.grownBy w (some g):=World.grownBy.refl _ _
 unfold DI
 go_enter Tryz.func107,Tryz.ntmps107
 go_wp2_with (first | (go_at_call 41;refine (l01Next_c A n c g _ _ (by first | with_reducible exact hS | with_reducible exact hS.alloc _ | with_reducible exact (hS.alloc _).alloc _)).mono ?_;rintro e w1 ⟨r,rfl,⟨hr1,hr2⟩,hr3,hS,hg⟩;have hG:=hG.trans (by first | with_reducible exact hg | with_reducible exact (grown_alloc _ _).trans hg | with_reducible exact ((grown_alloc _ _).trans (grown_alloc _ _)).trans hg);clear hg) | (go_at_call 48;refine (l01Pick_n A n c g _ _ _ _ hS (by simp <;> omega) (by rfl) (by decide) (by decide)).mono ?_;rintro e w1 ⟨r,rfl,⟨hr1,hr2⟩,hS,hg⟩;have hG:=hG.trans hg;clear hg))
 all_goals
  go_ret
  exact ⟨_,rfl,by omega,by first | with_reducible exact hS | with_reducible exact hS.alloc _,by first | with_reducible exact hG | with_reducible exact hG.trans (grown_alloc _ _)⟩
end Go.Proofs.YtednjmldjbndhaaGreat
namespace Go.Proofs.YtednjmldjbndhaaGreat
open Go.RowKit
theorem l02Valid_c (A:Option Addr) (n c g:Nat) (w:World) (hS:Src w A n c g):Calls Tryz.prog 151 #[.pointer (some ⟨g,0,none⟩)] w (DF A n c g w):=by
 have hG:w.grownBy (w.alloc (.cells #[.int .i64 0,.int .i64 0] 51)) (some g):=grown_alloc _ _
 have hlt:=hS.lt
 have Br:=Blk.new w 51 #[.int .i64 0,.int .i64 0]
 have hS:=hS.alloc (.cells #[.int .i64 0,.int .i64 0] 51)
 unfold DF
 go_enter Tryz.func151,Tryz.ntmps151
 go_wp2_with (first | (go_at_call 41;refine (l01Next_c A n c g _ _ (by with_reducible exact hS)).mono ?_;rintro e w1 ⟨r,rfl,⟨hr1,hr2⟩,hr3,hS,hg⟩;have hG:=hG.trans hg;have Br:=Br.src hg (by omega);clear hg;have c0:w1.cell? ⟨w.heap.size,0,none⟩=some (.int .i64 0):=Br.cell 0;have c1:w1.cell? ⟨w.heap.size,1,none⟩=some (.int .i64 0):=Br.cell 1;have f0:=Br.frozen 0;have f1:=Br.frozen 1;have z:=Br.lt) | (go_at_call 48;refine (l01Pick_n A n c g _ _ _ _ hS (by simp;omega) (by rfl) (by decide) (by decide)).mono ?_;rintro e w1 ⟨p,rfl,⟨hp1,hp2⟩,hS,hg⟩;have hG:=hG.trans hg;have Br:=Br.src hg (by omega);clear hg))
 refine bodyPost_ret (v:=.agg #[.int .i64 p,.int .i64 (r - 3)]) (by simp [results,Tryz.results151,go_sem,c0,c1]) rfl ⟨p,r - 3,rfl,by omega,by omega,(hS.far (by simp only;omega)).far (by simp only;omega),grown_far (grown_far hG (by simp)) (by simp)⟩
theorem l02Draw_c (A:Option Addr) (n c g:Nat) (w:World) (hS:Src w A n c g):Calls Tryz.prog 90 #[.pointer (some ⟨g,0,none⟩)] w (DF A n c g w):=by
 have hG:w.grownBy (w.alloc (.cells #[.int .i64 0,.int .i64 0] 51)) (some g):=grown_alloc _ _
 have hlt:=hS.lt
 have Br:=Blk.new w 51 #[.int .i64 0,.int .i64 0]
 have hS:=hS.alloc (.cells #[.int .i64 0,.int .i64 0] 51)
 unfold DF
 go_enter Tryz.func90,Tryz.ntmps90
 go_wp2_with fail
 refine (l02Valid_c A n c g _ hS).mono ?_;rintro e w1 ⟨a,b,rfl,⟨ha1,ha2⟩,⟨hb1,hb2⟩,hS1,hg1⟩
 have hG1:=hG.trans hg1
 have Br1:=Br.src hg1 (by omega)
 have hlt1:=hS1.lt
 have hz1:=Br1.lt
 go_wp2_with fail
 refine (l01Next_c A n c g _ _ (hS1.alloc _)).mono ?_;rintro e w2 ⟨r,rfl,hr,hr3,hS2,hg2⟩
 have hG2:=hG1.trans ((grown_alloc _ _).trans hg2)
 have Br2:=(Br1.alloc (.cells #[.int .i64 a,.int .i64 b] 51)).src hg2 (by omega)
 have Bf2:=(Blk.new w1 51 #[.int .i64 a,.int .i64 b]).src hg2 (by omega)
 have c0:w2.cell? ⟨w.heap.size,0,none⟩=some (.int .i64 0):=Br2.cell 0
 have c1:w2.cell? ⟨w.heap.size,1,none⟩=some (.int .i64 0):=Br2.cell 1
 have f0:=Br2.frozen 0
 have f1:=Br2.frozen 1
 have z:=Br2.lt
 have x0:w2.cell? ⟨w1.heap.size,0,none⟩=some (.int .i64 a):=Bf2.cell 0
 have x1:w2.cell? ⟨w1.heap.size,1,none⟩=some (.int .i64 b):=Bf2.cell 1
 have xz:=Bf2.lt
 clear hg1 hg2 hG hG1 Br Br1
 have hne:w1.heap.size ≠ w.heap.size:=by omega
 by_cases h0:r=0
 ·subst h0
  go_wp2_with (go_at_call 48;refine (l01Pick_n A n c g _ _ _ _ hS2 (by simp) (by rfl) (by decide) (by decide)).mono ?_;rintro e w3 ⟨p,rfl,⟨hp1,hp2⟩,hS3,hg3⟩;have hG3:=hG2.trans hg3;have Br3:=Br2.src hg3 (by omega);have Bf3:=Bf2.src hg3 (by omega);clear hg3 c0 c1 f0 f1 x0 x1;have c0:w3.cell? ⟨w.heap.size,0,none⟩=some (.int .i64 0):=Br3.cell 0;have c1:w3.cell? ⟨w.heap.size,1,none⟩=some (.int .i64 0):=Br3.cell 1;have f0:=Br3.frozen 0;have f1:=Br3.frozen 1;have z3:=Br3.lt;have x0:w3.cell? ⟨w1.heap.size,0,none⟩=some (.int .i64 a):=Bf3.cell 0;have x1:w3.cell? ⟨w1.heap.size,1,none⟩=some (.int .i64 b):=Bf3.cell 1;have xf0:=Bf3.frozen 0;have xz3:=Bf3.lt)
  refine bodyPost_ret (v:=.agg #[.int .i64 p,.int .i64 b]) (by simp [results,Tryz.results90,go_sem,c0,c1]) rfl ⟨p,b,rfl,by omega,by omega,((hS3.far (by simp only;omega)).far (by simp only;omega)).far (by simp only;omega),grown_far (grown_far (grown_far hG3 (by simp only;omega)) (by simp)) (by simp)⟩
 ·by_cases h1:r=1
  ·subst h1
   go_wp2_with (go_at_call 48;refine (l01Pick_n A n c g _ _ _ _ hS2 (by simp) (by rfl) (by decide) (by decide)).mono ?_;rintro e w3 ⟨p,rfl,⟨hp1,hp2⟩,hS3,hg3⟩;have hG3:=hG2.trans hg3;have Br3:=Br2.src hg3 (by omega);have Bf3:=Bf2.src hg3 (by omega);clear hg3 c0 c1 f0 f1 x0 x1;have c0:w3.cell? ⟨w.heap.size,0,none⟩=some (.int .i64 0):=Br3.cell 0;have c1:w3.cell? ⟨w.heap.size,1,none⟩=some (.int .i64 0):=Br3.cell 1;have f0:=Br3.frozen 0;have f1:=Br3.frozen 1;have z3:=Br3.lt;have x0:w3.cell? ⟨w1.heap.size,0,none⟩=some (.int .i64 a):=Bf3.cell 0;have x1:w3.cell? ⟨w1.heap.size,1,none⟩=some (.int .i64 b):=Bf3.cell 1;have xf1:=Bf3.frozen 1;have xz3:=Bf3.lt)
   refine bodyPost_ret (v:=.agg #[.int .i64 a,.int .i64 p]) (by simp [results,Tryz.results90,go_sem,c0,c1]) rfl ⟨a,p,rfl,by omega,by omega,((hS3.far (by simp only;omega)).far (by simp only;omega)).far (by simp only;omega),grown_far (grown_far (grown_far hG3 (by simp only;omega)) (by simp)) (by simp)⟩
  ·go_wp2_with fail
   refine bodyPost_ret (v:=.agg #[.int .i64 a,.int .i64 b]) (by simp [results,Tryz.results90,go_sem,c0,c1]) rfl ⟨a,b,rfl,by omega,by omega,(hS2.far (by simp only;omega)).far (by simp only;omega),grown_far (grown_far hG2 (by simp)) (by simp)⟩
end Go.Proofs.YtednjmldjbndhaaGreat
namespace Go.Proofs.YtednjmldjbndhaaGreat
open Go.RowKit
def ic (n:Int):List Value:=[.int .i64 n]
theorem ic_one {x:List Int}:∀ y ∈ x.map ic,∀ u ∈ y,u.oneCell'=true:=fun y hy u hu=>by
 obtain ⟨n,_,rfl⟩:=List.mem_map.1 hy
 simp only [ic,List.mem_singleton] at hu
 subst hu
 rfl
theorem info_Int64:(Tryz.prog.info? 2).map (fun i=>(i.zero,i.size,i.bytes))=some (some (.int .i64 0),1,8):=by kernel_rfl
theorem Sl.int {w:World} {B:Nat} {A:Option Addr} {l:List Int} (h:Sl w B 1 A (l.map ic)) {k:Nat} (hk:k < l.length):∃ b off,A=some ⟨b,off,none⟩∧b < B∧w.cell? ⟨b,off+k,none⟩=some (.int .i64 l[k]):=by
 obtain ⟨b,off,rfl,hb,hc⟩:=h.at_ (i:=k) (by simpa using hk)
 refine ⟨b,off,rfl,hb,?_⟩
 have:=hc 0 (.int .i64 l[k]) (by simp [ic])
 simpa using this
end Go.Proofs.YtednjmldjbndhaaGreat
namespace Go.Proofs.YtednjmldjbndhaaGreat
open Go.RowKit
@[ext] structure Errors where
 engraving:Int
 parallax:Int
 eye:Int
deriving DecidableEq
def Errors.cells (s:Errors):List Value:=[.int .i64 s.engraving,.int .i64 s.parallax,.int .i64 s.eye]
def Errors.agg (s:Errors):Value:=.agg #[.int .i64 s.engraving,.int .i64 s.parallax,.int .i64 s.eye]

end Go.Proofs.YtednjmldjbndhaaGreat
namespace Go.Proofs.YtednjmldjbndhaaGreat
open Go.RowKit
end Go.Proofs.YtednjmldjbndhaaGreat
namespace Go.Proofs.YtednjmldjbndhaaGreat
open Go.RowKit
@[ext] structure Term where
 digits:Int
 tens:Int
 div:Bool
deriving DecidableEq
def Term.cells (s:Term):List Value:=[.int .i64 s.digits,.int .i64 s.tens,.bool s.div]
def Term.agg (s:Term):Value:=.agg #[.int .i64 s.digits,.int .i64 s.tens,.bool s.div]

end Go.Proofs.YtednjmldjbndhaaGreat
