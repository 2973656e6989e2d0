/- Plain facts for the law on the marks of releases, and the comparison of texts. Conditions: the lengths. The reference's draws: numbers that follow from a code. Condition: the code has at most 4096 bytes. The reference's draws of numbers and figures. Condition: the code has at most 4096 bytes. The reference's draws of figures. Condition: the code has at most 4096 bytes. -/
import Derived.StillTailTactics
import Derived.Deep.RegionHeld3
import Derived.Test.YtednjmldjbndhaaGreatDoorKMr2
import Derived.Test.YtednjmldjbndhaaGreatDoorKMr27
import Derived.Test.YtednjmldjbndhaaGreatDoorKMr29
import Derived.Test.YtednjmldjbndhaaGreatDoorKMr30
import Derived.Test.YtednjmldjbndhaaGreatDoorKMr8
set_option linter.unusedSimpArgs false
set_option linter.unusedVariables false
set_option maxRecDepth 100000
set_option maxHeartbeats 8000000
namespace Go.Proofs.YtednjmldjbndhaaGreatDoor
open Go.Shelf Go.RowKit Go.Lib Go.Sort
theorem idxN_nil (D:List Bool):∀ k,(idxN D k).length=0 ↔ ∀ j,j < k→D.getD j true=true
 | 0=>by simp [idxN]
 | k+1=>by
  have ih:=idxN_nil D k
  unfold idxN
  by_cases h:D.getD k true=false
  ·rw [if_pos h]
   constructor
   ·intro h2;simp at h2
   ·intro h2;rw [h2 k (by omega)] at h;cases h
  ·rw [if_neg h,ih]
   constructor
   ·intro h2 j hj
    by_cases hjk:j=k
    ·rw [hjk];simpa using h
    ·exact h2 j (by omega)
   ·intro h2 j hj;exact h2 j (by omega)
theorem chg_all {a b:Rl}:((idxN (alike a b) 7).length=0) ↔ (alike a b).all id=true:=by
 rw [idxN_nil,List.all_eq_true]
 have hl:(alike a b).length=7:=rfl
 constructor
 ·intro h x hx
  obtain ⟨j,hj,rfl⟩:=List.getElem_of_mem hx
  have:=h j (by omega)
  rw [List.getD_eq_getElem?_getD,List.getElem?_eq_getElem hj] at this
  simpa using this
 ·intro h j hj
  rw [List.getD_eq_getElem?_getD,List.getElem?_eq_getElem (by omega:j < (alike a b).length)]
  simpa using h _ (List.getElem_mem (by omega:j < (alike a b).length))
theorem mr_facts {a b:Rl} (h:chgCode a b=0):a.b=true∧b.b=true∧chgCode b a=0∧chgRes b a=chgRes a b∧(((chgRes a b).length=0) ↔ (alike a b).all id=true)∧((alike a b).all id=true→a.nums=b.nums):=by
 unfold chgCode at h
 split at h
 ·rename_i hab
  rw [Bool.and_eq_true] at hab
  obtain ⟨ha,hb⟩:=hab
  have hR:chgRes a b=idxN (alike a b) 7:=by unfold chgRes;rw [ha,hb];rfl
  have hR2:chgRes b a=idxN (alike b a) 7:=by unfold chgRes;rw [ha,hb];rfl
  refine ⟨ha,hb,by unfold chgCode;rw [ha,hb];rfl,by rw [hR,hR2,alike_symm],by rw [hR];exact chg_all,fun hq=>?_⟩
  rw [alike_all] at hq
  simp only [sameFB,Bool.and_eq_true,decide_eq_true_eq,beq_iff_eq] at hq
  unfold Rl.nums
  obtain ⟨⟨⟨⟨⟨⟨⟨⟨⟨⟨⟨⟨h1,h2⟩,h3⟩,h4⟩,h5⟩,h6⟩,h7⟩,h8⟩,h9⟩,h10⟩,h11⟩,h12⟩,h13⟩:=hq
  rw [h1,h2,h4,h5,h6,h7,h8.1,h8.2,h9.1,h9.2,h10.1,h10.2,h11.1,h11.2,h12,h13]
 ·cases h
theorem likeTextsR_c (A A':Option Addr) (c c':Nat) (l:List (List UInt8)) (w:World) (hl:l.length ≤ 140737488351232) (hs:Sl w w.heap.size 1 A (l.map sc)) (hs':Sl w w.heap.size 1 A' (l.map sc)) :
  Calls Tryz.prog 34 #[.slice A l.length c,.slice A' l.length c'] w fun e w'=>e=.returned (.bool true)∧Below w.heap.size w w':=by
 go_enter Tryz.func34,Tryz.ntmps34
 go_wp2_with fail
 go_loopw [5] (fun i wr=>∃ k:Nat,k ≤ l.length∧i=.int .i64 k∧Below w.heap.size w wr) (fun i _=>l.length - (intOf i).toNat)
 case atStart=>exact ⟨0,Nat.zero_le _,rfl,Below.refl _ _⟩
 case round =>
  obtain ⟨k,hk,rfl,hb⟩:=hrel
  by_cases hlt:k < l.length
  ·obtain ⟨b,off,rfl,hbB,hc⟩:=hs.at_ (i:=k) (by simpa using hlt)
   obtain ⟨b',off',rfl,hbB',hc'⟩:=hs'.at_ (i:=k) (by simpa using hlt)
   simp only [List.getElem_map] at hc hc'
   have c0:wr.cell? ⟨b,off+k,none⟩=some (.string ⟨l[k].toArray⟩):=by rw [hb.cell hbB];simpa using hc 0 _ rfl
   have d0:wr.cell? ⟨b',off'+k,none⟩=some (.string ⟨l[k].toArray⟩):=by rw [hb.cell hbB'];simpa using hc' 0 _ rfl
   clear hc hc'
   generalize (⟨l[k].toArray⟩:ByteArray)=X at *
   have hss:(X.toList == X.toList)=true:=by simp
   go_wp2_with fail
   go_quiet (fail)
   go_wp2
   go_roundw
   case rel=>exact ⟨k+1,by omega,by go_num,(by repeat first | with_reducible (first | exact hb | apply below_drewN' | apply Below.drew | refine Below.alloc ?_ ?_ _ | refine Below.setCell ?_ ?_ _) | exact hb | omega | (simp <;> omega) | (have:=(hb).size;first | omega | (simp <;> omega)))⟩
   case measure=>simp [intOf];omega
  ·have:k=l.length:=by omega
   subst this
   go_wp2
   go_ret
   exact ⟨rfl,hb⟩
end Go.Proofs.YtednjmldjbndhaaGreatDoor
namespace Go.Proofs.YtednjmldjbndhaaGreatDoor
open Go.RowKit
def Bytes (w:World) (A:Option Addr) (n B:Nat):Prop:=∀ i,i < n→∃ b off,∃ m:Int,A=some ⟨b,off,none⟩∧b < B∧(0 ≤ m∧m ≤ 255)∧w.cell? ⟨b,off+i,none⟩=some (.int .u8 m)
theorem Bytes.keep {w w':World} {A:Option Addr} {n B:Nat} (h:Bytes w A n B) (hk:∀ p:Addr,p.block < B→w'.cell? p=w.cell? p):Bytes w' A n B:=fun i hi=>by
 obtain ⟨b,off,m,rfl,hb,hm,hc⟩:=h i hi
 exact ⟨b,off,m,rfl,hb,hm,(hk ⟨b,off+i,none⟩ hb).trans hc⟩
theorem Bytes.more {w:World} {A:Option Addr} {n B B':Nat} (h:Bytes w A n B) (hB:B ≤ B'):Bytes w A n B':=fun i hi=>by
 obtain ⟨b,off,m,rfl,hb,hm,hc⟩:=h i hi
 exact ⟨b,off,m,rfl,by omega,hm,hc⟩
def Src (w:World) (A:Option Addr) (n c g:Nat):Prop:=(Bytes w A n g∧n ≤ 4096)∧∃ a s:Int,Blk w g 87 #[.slice A n c,.int .i64 a,.int .i64 s]∧(0 ≤ a∧a ≤ n)∧(0 ≤ s∧s < 2147483647)
section
variable {w w' : World} {A : Option Addr} {n c g : Nat}
theorem Src.lt (h:Src w A n c g):g < w.heap.size:=by
 obtain ⟨_,_,_,hb,_⟩:=h
 exact hb.lt
theorem Src.keep (h:Src w A n c g) (hk:∀ k,k ≤ g→w'.heap[k]?=w.heap[k]?):Src w' A n c g:=by
 obtain ⟨⟨h1,h2⟩,a,s,hb,ha,hs⟩:=h
 exact ⟨⟨h1.keep fun p hp=>World.cell?_of_block (hk p.block (by omega)),h2⟩,a,s,(hk g (Nat.le_refl _)).trans hb,ha,hs⟩
theorem Src.below (h:Src w A n c g) (hb:Below w.heap.size w w'):Src w' A n c g:=h.keep fun k hk=>hb.block k (by have:=h.lt;omega)
theorem Src.alloc (h:Src w A n c g) (o:Obj):Src (w.alloc o) A n c g:=h.keep fun k hk=>Below.heap_alloc w o k (by have:=h.lt;omega)
theorem Src.grown {row:Option Nat} (h:Src w A n c g) (hg:w.grownBy w' row) (hr:∀ r,row=some r→g < r):Src w' A n c g :=
 h.keep fun k hk=>hg.block k (by have:=h.lt;omega) (fun e=>by have:=hr _ e.symm;omega)
end
theorem below_src {B g:Nat} {a w w':World} (h:Below B a w) (hg:w.grownBy w' (some g)) (hB:B ≤ w.heap.size) (hr:B ≤ g):Below B a w':=h.grown hg hB (fun r e=>by cases e;exact hr)
theorem Own.src {w w':World} {base:Nat} {e:TypeId} {k:Nat} {v:Value} {xs:List (List Value)} {g:Nat} (h:Own w base e k v xs) (hg:w.grownBy w' (some g)) (hb:g < base):Own w' base e k v xs :=
 h.kept hg (by
  cases hv:v.ownBlock with
  | none=>exact .inl rfl
  | some r =>
   refine .inr fun e=>?_
   have:=h.ownGe r hv
   cases e
   omega)
theorem Blk.src {w w':World} {b:Nat} {t:TypeId} {cs:Array Value} {g:Nat} (h:Blk w b t cs) (hg:w.grownBy w' (some g)) (hb:b ≠ g):Blk w' b t cs:=(hg.block b h.lt (fun e=>by cases e;exact hb rfl)).trans h
theorem Sl.src {w w':World} {B k:Nat} {A:Option Addr} {xs:List (List Value)} {g:Nat} (h:Sl w B k A xs) (hg:w.grownBy w' (some g)) (hB:B ≤ w.heap.size) (hr:B ≤ g):Sl w' B k A xs:=h.grown hg hB (fun r e=>by cases e;exact hr)
theorem grown_drewN {w w':World} {r:Option Nat} (h:w.grownBy w' r) (n:Nat):w.grownBy (w'.drewN n) r:=⟨h.os,h.tape,h.output,h.size,h.block⟩
theorem emod_A {x m:Int} (hx:0 ≤ x) (h7:x ≤ 70000000) (hm:0 < m):0 ≤ x % m∧x % m ≤ 70000000:=by
 have h1:=Int.emod_nonneg x (show m ≠ 0 by omega)
 have h2:=Int.emod_add_mul_ediv x m
 have h3:=Int.mul_nonneg (show 0 ≤ m by omega) (Int.ediv_nonneg hx (show 0 ≤ m by omega))
 omega
theorem emod_B {x m:Int} (hm:0 < m):x % m < m ∨ x % m=0:=.inl (Int.emod_lt_of_pos x hm)
theorem l01From_c (A:Option Addr) (n c:Nat) (w:World) (hn:n ≤ 4096) (hb:Bytes w A n w.heap.size) :
  Calls Tryz.prog 36 #[.slice A n c] w fun e w'=>e=.returned (.pointer (some ⟨w.heap.size,0,none⟩))∧Src w' A n c w.heap.size∧Below w.heap.size w w':=by
 have hb':=Lib.hid hb
 clear hb
 go_enter Tryz.func36,Tryz.ntmps36
 go_wp2_with fail
 go_loopw [4] (fun i wr=>∃ k:Nat,k ≤ n∧i=.int .i64 k∧Below w.heap.size w wr∧∃ s:Int,Blk wr w.heap.size 87 #[.slice A n c,.int .i64 0,.int .i64 s]∧(0 ≤ s∧s < 2147483647)) (fun i _=>n - (intOf i).toNat)
 case atStart=>exact ⟨0,Nat.zero_le _,rfl,(Below.refl _ _).alloc (Nat.le_refl _) _,17021,Blk.new w _ _,by omega⟩
 case round =>
  obtain ⟨k,hk,rfl,hbw,s,hB,hs1,hs2⟩:=hrel
  have z2:wr.cell? ⟨w.heap.size,2,none⟩=some (.int .i64 s):=hB.cell 2
  have f2:wr.frozen? ⟨w.heap.size,2,none⟩=false:=hB.frozen 2
  by_cases hlt:k < n
  ·by_cases h64:k < 64
   ·obtain ⟨b,off,m,rfl,hbb,⟨hm1,hm2⟩,hc⟩:=hb'.out k hlt
    have c0:wr.cell? ⟨b,off+k,none⟩=some (.int .u8 m):=by rw [hbw.cell hbb];exact hc
    clear hc
    go_wp2_with fail
    go_still_tail 15,(by kernel_rfl)
    change wpList _ _ _ _ _ wr.drew
    have hB':Blk wr.drew w.heap.size 87 #[.slice (some ⟨b,off,none⟩) n c,.int .i64 0,.int .i64 s]:=hB
    have hbw':Below w.heap.size w wr.drew:=hbw.drew
    generalize wr.drew=w2 at hB' hbw' ⊢
    have f2:w2.frozen? ⟨w.heap.size,2,none⟩=false:=hB'.frozen 2
    have z2:w2.cell? ⟨w.heap.size,2,none⟩=some (.int .i64 s):=hB'.cell 2
    go_wp2
    go_roundw
    case rel=>exact ⟨k+1,by omega,by go_num,Below.setCell hbw' (Nat.le_refl _) _,_,hB'.set_ 2 _,by omega⟩
    case measure=>simp [intOf];omega
   ·go_wp2
    go_ret
    exact ⟨rfl,⟨⟨hb'.out.keep fun p hp=>hbw.cell hp,hn⟩,0,s,hB,by omega,by omega⟩,hbw⟩
  ·go_wp2
   go_ret
   exact ⟨rfl,⟨⟨hb'.out.keep fun p hp=>hbw.cell hp,hn⟩,0,s,hB,by omega,by omega⟩,hbw⟩
theorem l01Next_c (A:Option Addr) (n c g:Nat) (m:Int) (w:World) (hS:Src w A n c g) :
  Calls Tryz.prog 44 #[.pointer (some ⟨g,0,none⟩),.int .i64 m] w fun e w'=>∃ r:Int,e=.returned (.int .i64 r)∧(0 ≤ r∧r ≤ 70000000)∧(r < m ∨ r=0)∧Src w' A n c g∧w.grownBy w' (some g):=by
 by_cases h1:m ≤ 1
 ·have hS':=Lib.hid hS;clear hS
  go_enter Tryz.func44,Tryz.ntmps44
  go_wp2
  go_ret
  exact ⟨0,rfl,by omega,.inr rfl,hS'.out,World.grownBy.refl _ _⟩
 ·obtain ⟨⟨hb,hn⟩,a,s,hB,⟨ha1,ha2⟩,hs1,hs2⟩:=hS
  have z0:w.cell? ⟨g,0,none⟩=some (.slice A n c):=hB.cell 0
  have z1:w.cell? ⟨g,1,none⟩=some (.int .i64 a):=hB.cell 1
  have z2:w.cell? ⟨g,2,none⟩=some (.int .i64 s):=hB.cell 2
  have f1:w.frozen? ⟨g,1,none⟩=false:=hB.frozen 1
  have f2:w.frozen? ⟨g,2,none⟩=false:=hB.frozen 2
  have hb':=Lib.hid hb;clear hb
  have hlt:=hB.lt
  have keep:∀ w':World,w.grownBy w' (some g)→Hid (Bytes w' A n g):=fun w' hg=>hb'.out.keep fun p hp=>World.cell?_of_block (hg.block p.block (by omega) (fun e=>by cases e;omega))
  have G1:Hid (w.grownBy (w.setCell ⟨g,2,none⟩ (.int .i64 ((s * 48271+29) % 2147483647))) (some g)):=grownBy_stores [.int .i64 ((s * 48271+29) % 2147483647)] 2 (World.grownBy.refl _ _)
  have B1:Blk (w.setCell ⟨g,2,none⟩ (.int .i64 ((s * 48271+29) % 2147483647))) g 87 #[.slice A n c,.int .i64 a,.int .i64 ((s * 48271+29) % 2147483647)]:=hB.set_ 2 _
  have HB:=Lib.hid hB;clear hB
  go_enter Tryz.func44,Tryz.ntmps44
  go_wp2_with fail
  generalize w.setCell ⟨g,2,none⟩ (.int .i64 ((s * 48271+29) % 2147483647))=W1 at *
  have hs':0 ≤ (s * 48271+29) % 2147483647∧(s * 48271+29) % 2147483647 < 2147483647:=by omega
  generalize (s * 48271+29) % 2147483647=s' at *
  obtain ⟨hs1',hs2'⟩:=hs'
  clear z0 z1 z2 f1 f2
  have y0:W1.cell? ⟨g,0,none⟩=some (.slice A n c):=B1.cell 0
  have y1:W1.cell? ⟨g,1,none⟩=some (.int .i64 a):=B1.cell 1
  have e1:W1.frozen? ⟨g,1,none⟩=false:=B1.frozen 1
  go_quiet (fail)
  by_cases hat:a < n
  ·obtain ⟨k,rfl⟩:=Int.eq_ofNat_of_zero_le ha1
   obtain ⟨b,off,v,rfl,hbb,⟨hv1,hv2⟩,hc⟩:=hb'.out k (by omega)
   have hcw:∀ w':World,w.grownBy w' (some g)→w'.cell? ⟨b,off+k,none⟩=some (.int .u8 v):=fun w' hg=>(World.cell?_of_block (hg.block b (by omega) (fun e=>by cases e;omega))).trans hc
   have c1:=hcw W1 G1.out
   have hcw':=fun w' hg=>Lib.hid (hcw w' hg);clear hcw hc
   go_wp2_with fail
   go_quiet (fail)
   by_cases h256:m ≤ 256 <;> by_cases hev:((k:Int)+1) % 2=0
   ·go_wp2_with fail
    have G2:=fun q=>Lib.hid (grownBy_stores [.int .i64 ((k:Int)+1)] 1 (grown_drewN G1.out q))
    have B2:=fun q=>Lib.hid ((Blk.drewN B1 q).set_ 1 (.int .i64 ((k:Int)+1)))
    generalize hW2:World.setCell _ ⟨g,1,none⟩ _=W2 at *
    have G3:w.grownBy W2 (some g):=by rw [← hW2];exact (G2 _).out
    have B3:Blk W2 g 87 #[.slice (some ⟨b,off,none⟩) n c,.int .i64 ((k:Int)+1),.int .i64 s']:=by rw [← hW2];exact (B2 _).out
    have c2:=(hcw' W2 G3).out
    clear hW2 G2 B2 y0 y1 e1 c1 hcw' B1 G1
    have v0:W2.cell? ⟨g,0,none⟩=some (.slice (some ⟨b,off,none⟩) n c):=B3.cell 0
    have v1:W2.cell? ⟨g,1,none⟩=some (.int .i64 ((k:Int)+1)):=B3.cell 1
    go_quiet (fail)
    go_wp2
    go_ret
    exact ⟨_,rfl,emod_A (by omega) (by omega) (by omega),emod_B (by omega),⟨⟨(keep _ (grown_drewN G3 _)).out,hn⟩,(k:Int)+1,s',Blk.drewN B3 _,by omega,by omega⟩,grown_drewN G3 _⟩
   all_goals
    go_wp2
    go_ret
    refine ⟨_,rfl,emod_A (by omega) (by omega) (by omega),emod_B (by omega),⟨⟨(keep _ (grownBy_stores [_] 1 (grown_drewN G1.out _))).out,hn⟩,(k:Int)+1,s',(Blk.drewN B1 _).set_ 1 _,by omega,by omega⟩,grownBy_stores [_] 1 (grown_drewN G1.out _)⟩
  ·go_wp2
   go_ret
   exact ⟨_,rfl,emod_A (by omega) (by omega) (by omega),emod_B (by omega),⟨⟨(keep _ (grown_drewN G1.out _)).out,hn⟩,a,s',Blk.drewN B1 _,by omega,by omega⟩,grown_drewN G1.out _⟩
end Go.Proofs.YtednjmldjbndhaaGreatDoor
namespace Go.Proofs.YtednjmldjbndhaaGreatDoor
open Go.RowKit
theorem grown_alloc {w:World} (o:Obj) (r:Option Nat):w.grownBy (w.alloc o) r:=⟨rfl,rfl,rfl,by simp,fun k hk _=>Below.heap_alloc w o k hk⟩
theorem grown_far {w w':World} {g:Nat} {p:Addr} {u:Value} (h:w.grownBy w' (some g)) (hp:w.heap.size ≤ p.block):w.grownBy (w'.setCell p u) (some g):=⟨h.os,h.tape,h.output,by simpa using h.size,fun k hk hne=>by rw [Below.heap_setCell _ _ _ _ (by omega)];exact h.block k hk hne⟩
theorem Src.far {w:World} {A:Option Addr} {n c g:Nat} (h:Src w A n c g) {p:Addr} {u:Value} (hp:g < p.block):Src (w.setCell p u) A n c g:=h.keep fun k hk=>Below.heap_setCell _ _ _ _ (by omega)
def DI (A:Option Addr) (n c g:Nat) (w:World) (e:Ending) (w':World):Prop:=∃ r:Int,e=.returned (.int .i64 r)∧(-200000000 ≤ r∧r ≤ 200000000)∧Src w' A n c g∧w.grownBy w' (some g)
def DF (A:Option Addr) (n c g:Nat) (w:World) (e:Ending) (w':World):Prop:=∃ a b:Int,e=.returned (.agg #[.int .i64 a,.int .i64 b])∧(-200000000 ≤ a∧a ≤ 200000000)∧(-200000000 ≤ b∧b ≤ 200000000)∧Src w' A n c g∧w.grownBy w' (some g)
theorem l01Pick_c (A:Option Addr) (n c g b:Nat) (cs:Array Value) (len cap:Nat) (w:World) (hS:Src w A n c g) (hB:Blk w b 2 cs) (hb:b ≠ g) (hc:∀ v ∈ cs.toList,∃ m:Int,v=.int .i64 m∧-200000000 ≤ m∧m ≤ 200000000) (hlen:cs.size=len) (h0:0 < len) (h1:len ≤ 1000) :
  Calls Tryz.prog 64 #[.pointer (some ⟨g,0,none⟩),.slice (some ⟨b,0,none⟩) len cap] w (DI A n c g w):=by
 have hc':∀ k:Nat,k < len→∃ m:Int,cs[k]?=some (.int .i64 m)∧-200000000 ≤ m∧m ≤ 200000000:=fun k hk=>by
  obtain ⟨m,hm,hb⟩:=hc cs[k] (by simp)
  exact ⟨m,by rw [Array.getElem?_eq_getElem (by omega),hm],hb⟩
 have hN:=Lib.hid (l01Next_c A n c g (len:Int) w hS)
 unfold DI
 clear hc hS
 go_enter Tryz.func64,Tryz.ntmps64
 go_wp2_with (go_at_call 44;refine hN.out.mono ?_;rintro e w1 ⟨r,rfl,⟨hr1,hr2⟩,hr3,hS1,hg1⟩;obtain ⟨k,rfl⟩:=Int.eq_ofNat_of_zero_le hr1;obtain ⟨m,hm,hm1,hm2⟩:=hc' k (by omega);have c0:w1.cell? ⟨b,k,none⟩=some (.int .i64 m):=((hB.src hg1 hb).cell k).trans hm)
 go_ret
 exact ⟨m,rfl,⟨hm1,hm2⟩,hS1,hg1⟩
theorem l01Pick_n (A:Option Addr) (n c g:Nat) (cs:Array Value) (len cap:Nat) (w:World) (hS:Src w A n c g) (hc:∀ v ∈ cs.toList,∃ m:Int,v=.int .i64 m∧-200000000 ≤ m∧m ≤ 200000000) (hlen:cs.size=len) (h0:0 < len) (h1:len ≤ 1000) :
  Calls Tryz.prog 64 #[.pointer (some ⟨g,0,none⟩),.slice (some ⟨w.heap.size,0,none⟩) len cap] (w.alloc (.cells cs 2)) (DI A n c g w) :=
 (l01Pick_c A n c g w.heap.size cs len cap _ (hS.alloc _) (Blk.new _ _ _) (by have:=hS.lt;omega) hc hlen h0 h1).mono fun _ _ ⟨r,h1,h2,h3,h4⟩=>⟨r,h1,h2,h3,(grown_alloc _ _).trans h4⟩
end Go.Proofs.YtednjmldjbndhaaGreatDoor
namespace Go.Proofs.YtednjmldjbndhaaGreatDoor
open Go.RowKit
theorem l02Valid_c (A:Option Addr) (n c g:Nat) (w:World) (hS:Src w A n c g):Calls Tryz.prog 81 #[.pointer (some ⟨g,0,none⟩)] w (DF A n c g w):=by
 have hG:w.grownBy (w.alloc (.cells #[.int .i64 0,.int .i64 0] 26)) (some g):=grown_alloc _ _
 have hlt:=hS.lt
 have Br:=Blk.new w 26 #[.int .i64 0,.int .i64 0]
 have hS:=hS.alloc (.cells #[.int .i64 0,.int .i64 0] 26)
 unfold DF
 go_enter Tryz.func81,Tryz.ntmps81
 go_wp2_with (first | (go_at_call 44;refine (l01Next_c A n c g _ _ (by with_reducible exact hS)).mono ?_;rintro e w1 ⟨r,rfl,⟨hr1,hr2⟩,hr3,hS,hg⟩;have hG:=hG.trans hg;have Br:=Br.src hg (by omega);clear hg;have c0:w1.cell? ⟨w.heap.size,0,none⟩=some (.int .i64 0):=Br.cell 0;have c1:w1.cell? ⟨w.heap.size,1,none⟩=some (.int .i64 0):=Br.cell 1;have f0:=Br.frozen 0;have f1:=Br.frozen 1;have z:=Br.lt) | (go_at_call 64;refine (l01Pick_n A n c g _ _ _ _ hS (by simp;omega) (by rfl) (by decide) (by decide)).mono ?_;rintro e w1 ⟨p,rfl,⟨hp1,hp2⟩,hS,hg⟩;have hG:=hG.trans hg;have Br:=Br.src hg (by omega);clear hg))
 refine bodyPost_ret (v:=.agg #[.int .i64 p,.int .i64 (r - 3)]) (by simp [results,Tryz.results81,go_sem,c0,c1]) rfl ⟨p,r - 3,rfl,by omega,by omega,(hS.far (by simp only;omega)).far (by simp only;omega),grown_far (grown_far hG (by simp)) (by simp)⟩
theorem l02Draw_c (A:Option Addr) (n c g:Nat) (w:World) (hS:Src w A n c g):Calls Tryz.prog 84 #[.pointer (some ⟨g,0,none⟩)] w (DF A n c g w):=by
 have hG:w.grownBy (w.alloc (.cells #[.int .i64 0,.int .i64 0] 26)) (some g):=grown_alloc _ _
 have hlt:=hS.lt
 have Br:=Blk.new w 26 #[.int .i64 0,.int .i64 0]
 have hS:=hS.alloc (.cells #[.int .i64 0,.int .i64 0] 26)
 unfold DF
 go_enter Tryz.func84,Tryz.ntmps84
 go_wp2_with fail
 refine (l02Valid_c A n c g _ hS).mono ?_;rintro e w1 ⟨a,b,rfl,⟨ha1,ha2⟩,⟨hb1,hb2⟩,hS1,hg1⟩
 have hG1:=hG.trans hg1
 have Br1:=Br.src hg1 (by omega)
 have hlt1:=hS1.lt
 have hz1:=Br1.lt
 go_wp2_with fail
 refine (l01Next_c A n c g _ _ (hS1.alloc _)).mono ?_;rintro e w2 ⟨r,rfl,hr,hr3,hS2,hg2⟩
 have hG2:=hG1.trans ((grown_alloc _ _).trans hg2)
 have Br2:=(Br1.alloc (.cells #[.int .i64 a,.int .i64 b] 26)).src hg2 (by omega)
 have Bf2:=(Blk.new w1 26 #[.int .i64 a,.int .i64 b]).src hg2 (by omega)
 have c0:w2.cell? ⟨w.heap.size,0,none⟩=some (.int .i64 0):=Br2.cell 0
 have c1:w2.cell? ⟨w.heap.size,1,none⟩=some (.int .i64 0):=Br2.cell 1
 have f0:=Br2.frozen 0
 have f1:=Br2.frozen 1
 have z:=Br2.lt
 have x0:w2.cell? ⟨w1.heap.size,0,none⟩=some (.int .i64 a):=Bf2.cell 0
 have x1:w2.cell? ⟨w1.heap.size,1,none⟩=some (.int .i64 b):=Bf2.cell 1
 have xz:=Bf2.lt
 clear hg1 hg2 hG hG1 Br Br1
 have hne:w1.heap.size ≠ w.heap.size:=by omega
 by_cases h0:r=0
 ·subst h0
  go_wp2_with (go_at_call 64;refine (l01Pick_n A n c g _ _ _ _ hS2 (by simp) (by rfl) (by decide) (by decide)).mono ?_;rintro e w3 ⟨p,rfl,⟨hp1,hp2⟩,hS3,hg3⟩;have hG3:=hG2.trans hg3;have Br3:=Br2.src hg3 (by omega);have Bf3:=Bf2.src hg3 (by omega);clear hg3 c0 c1 f0 f1 x0 x1;have c0:w3.cell? ⟨w.heap.size,0,none⟩=some (.int .i64 0):=Br3.cell 0;have c1:w3.cell? ⟨w.heap.size,1,none⟩=some (.int .i64 0):=Br3.cell 1;have f0:=Br3.frozen 0;have f1:=Br3.frozen 1;have z3:=Br3.lt;have x0:w3.cell? ⟨w1.heap.size,0,none⟩=some (.int .i64 a):=Bf3.cell 0;have x1:w3.cell? ⟨w1.heap.size,1,none⟩=some (.int .i64 b):=Bf3.cell 1;have xf0:=Bf3.frozen 0;have xz3:=Bf3.lt)
  refine bodyPost_ret (v:=.agg #[.int .i64 p,.int .i64 b]) (by simp [results,Tryz.results84,go_sem,c0,c1]) rfl ⟨p,b,rfl,by omega,by omega,((hS3.far (by simp only;omega)).far (by simp only;omega)).far (by simp only;omega),grown_far (grown_far (grown_far hG3 (by simp only;omega)) (by simp)) (by simp)⟩
 ·by_cases h1:r=1
  ·subst h1
   go_wp2_with (go_at_call 64;refine (l01Pick_n A n c g _ _ _ _ hS2 (by simp) (by rfl) (by decide) (by decide)).mono ?_;rintro e w3 ⟨p,rfl,⟨hp1,hp2⟩,hS3,hg3⟩;have hG3:=hG2.trans hg3;have Br3:=Br2.src hg3 (by omega);have Bf3:=Bf2.src hg3 (by omega);clear hg3 c0 c1 f0 f1 x0 x1;have c0:w3.cell? ⟨w.heap.size,0,none⟩=some (.int .i64 0):=Br3.cell 0;have c1:w3.cell? ⟨w.heap.size,1,none⟩=some (.int .i64 0):=Br3.cell 1;have f0:=Br3.frozen 0;have f1:=Br3.frozen 1;have z3:=Br3.lt;have x0:w3.cell? ⟨w1.heap.size,0,none⟩=some (.int .i64 a):=Bf3.cell 0;have x1:w3.cell? ⟨w1.heap.size,1,none⟩=some (.int .i64 b):=Bf3.cell 1;have xf1:=Bf3.frozen 1;have xz3:=Bf3.lt)
   refine bodyPost_ret (v:=.agg #[.int .i64 a,.int .i64 p]) (by simp [results,Tryz.results84,go_sem,c0,c1]) rfl ⟨a,p,rfl,by omega,by omega,((hS3.far (by simp only;omega)).far (by simp only;omega)).far (by simp only;omega),grown_far (grown_far (grown_far hG3 (by simp only;omega)) (by simp)) (by simp)⟩
  ·go_wp2_with fail
   refine bodyPost_ret (v:=.agg #[.int .i64 a,.int .i64 b]) (by simp [results,Tryz.results84,go_sem,c0,c1]) rfl ⟨a,b,rfl,by omega,by omega,(hS2.far (by simp only;omega)).far (by simp only;omega),grown_far (grown_far hG2 (by simp)) (by simp)⟩
end Go.Proofs.YtednjmldjbndhaaGreatDoor
