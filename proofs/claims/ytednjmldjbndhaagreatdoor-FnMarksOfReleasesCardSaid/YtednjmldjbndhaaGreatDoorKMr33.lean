/- The reference's draws of formulas. Condition: the code has at most 4096 bytes. -/
import Derived.Laws.BytesArg
import Derived.Laws.MakeOwn
import Derived.Test.YtednjmldjbndhaaGreatDoorKMr18
import Derived.Test.YtednjmldjbndhaaGreatDoorKMr32
import Derived.Test.YtednjmldjbndhaaGreatDoorKMr8
set_option linter.unusedSimpArgs false
set_option linter.unusedVariables false
set_option maxRecDepth 100000
set_option maxHeartbeats 8000000
namespace Go.Proofs.YtednjmldjbndhaaGreatDoor
open Go.RowKit
def bc (x:Int):List Value:=[.int .u8 x]
theorem bc_one {xs:List Int}:∀ y ∈ xs.map bc,∀ u ∈ y,u.oneCell'=true:=fun y hy u hu=>by
 obtain ⟨x,_,rfl⟩:=List.mem_map.1 hy
 simp only [bc,List.mem_singleton] at hu
 subst hu;rfl
theorem Own.empty_at {v:World} {base g:Nat} {e:TypeId} {k:Nat} (hg:v.heap.size=g) (hb:base ≤ g):Own (v.alloc (.cells #[] e)) base e k (.slice (some ⟨g,0,none⟩) 0 0) []:=by subst hg;exact Own.empty hb
theorem info_U8:(Tryz.prog.info? 5).map (fun i=>(i.zero,i.size,i.bytes))=some (some (.int .u8 0),1,1):=by kernel_rfl
theorem info_I64F:(Tryz.prog.info? 2).map (fun i=>(i.zero,i.size,i.bytes))=some (some (.int .i64 0),1,8):=by kernel_rfl
theorem bytes_str {v:World} {base:Nat} {V:Value} {xs:List Int} (o:Own v base 5 1 V (xs.map bc)):∃ nm:ByteArray,nm.size ≤ xs.length∧∀ w':World,Below v.heap.size v w'→(convert 22 9 V).run Tryz.prog w'=.ok (.string nm) w':=by
 obtain ⟨A,c,rfl,hc⟩:=o.form
 cases A with
 | none=>exact ⟨ByteArray.empty,Nat.zero_le _,fun w' _=>run_convert_bytes_nil w' 22 5 Tryz.underlying22 Tryz.underlying5 _ _ 9 Tryz.underlying9⟩
 | some ad =>
  refine ⟨strOfNums xs,by rw [strOfNums_size];exact Nat.le_refl _,fun w' hb=>?_⟩
  have hsl:=o.sl
  obtain ⟨b,off,m⟩:=ad
  have hm:m=none:=by
   rcases o.1.2 with ⟨h,_⟩ | ⟨g,cap,cur,hv,_⟩
   ·cases h
   ·simp only [Value.slice.injEq,Option.some.injEq,Addr.mk.injEq] at hv
    exact hv.1.2.2
  subst hm
  refine run_convert_bytes_arg w' 22 5 Tryz.underlying22 Tryz.underlying5 b off _ c xs (by simp) (fun i hi=>?_) 9 Tryz.underlying9
  rw [List.length_map] at hi
  obtain ⟨b2,off2,he,hbB,hcell⟩:=hsl.at_ (i:=i) (by simpa using hi)
  obtain ⟨rfl,rfl⟩:b=b2∧off=off2:=by simpa using he
  have:=hcell 0 (.int .u8 xs[i]) (by simp [bc])
  rw [hb.cell hbB]
  simpa [List.getD,List.getElem?_eq_getElem hi] using this
theorem own_setNeF {w:World} {base k:Nat} {e:TypeId} {v:Value} {xs:List (List Value)} {g:Nat} (h:Own w base e k v xs) (hne:v.ownBlock ≠ some g) (j:Nat) (u:Value):Own (w.setCell ⟨g,j,none⟩ u) base e k v xs :=
 h.kept (grownBy_stores [u] j (World.grownBy.refl w (some g))) (.inr hne)
theorem own_setLow {v:World} {base:Nat} {e:TypeId} {k b j:Nat} {u x:Value} {xs:List (List Value)} (h:Own v base e k u xs) (hb:b < base):Own (v.setCell ⟨b,j,none⟩ x) base e k u xs:=own_setNeF h (fun e=>by have:=(h.1.lt _ e).1;omega) _ _
structure MkFm (w:World) (fd ft:Int) (xs ys:List Int) (V5 V6:Value) (v:World):Prop where
 hb:Below w.heap.size w v
 r2:Blk v w.heap.size 26 #[.int .i64 fd,.int .i64 ft]
 r4:Blk v (w.heap.size+1) 29 #[.int .i64 0,.int .i64 0,.string ⟨#[]⟩,.slice none 0 0]
 o5:Own v (w.heap.size+2) 5 1 V5 (xs.map bc)
 o6:Own v (w.heap.size+2) 2 1 V6 (ys.map ic)
theorem own_ne_two {w:World} {base base' k k':Nat} {e e':TypeId} {v v':Value} {xs xs':List (List Value)} (h:Own w base e k v xs) (h':Own w base' e' k' v' xs') (he:e ≠ e'):v.ownBlock=none ∨ v.ownBlock ≠ v'.ownBlock:=by
 rcases h.1.2 with ⟨rfl,_⟩ | ⟨q,cap,cur,rfl,_,hh,_⟩
 ·exact .inl rfl
 ·refine .inr fun hv=>?_
  rcases h'.1.2 with ⟨rfl,_⟩ | ⟨q',cap',cur',rfl,_,hh',_⟩
  ·cases hv
  ·simp only [Value.ownBlock,Option.some.injEq] at hv
   subst hv
   rw [hh] at hh'
   simp only [Option.some.injEq,Obj.cells.injEq] at hh'
   exact he hh'.2.1
theorem MkFm.alloc {w v:World} {fd ft:Int} {xs ys:List Int} {V5 V6:Value} (h:MkFm w fd ft xs ys V5 V6 v) (o:Obj):MkFm w fd ft xs ys V5 V6 (v.alloc o):=⟨h.hb.alloc h.hb.size _,h.r2.alloc _,h.r4.alloc _,h.o5.alloc _,h.o6.alloc _⟩
theorem MkFm.app5 {w v v':World} {fd ft x:Int} {xs ys:List Int} {V5 V6 V:Value} (h:MkFm w fd ft xs ys V5 V6 v) (hg:v.grownBy v' V5.ownBlock) (ho:Own v' (w.heap.size+2) 5 1 V (xs.map bc ++ [bc x])):MkFm w fd ft (xs ++ [x]) ys V V6 v' :=
 ⟨below_app h.hb hg h.hb.size (fun q hq=>Nat.le_trans (by omega) (h.o5.ownGe q hq)),(hg.block _ h.r2.lt fun e=>by have:=h.o5.ownGe _ e.symm;omega).trans h.r2,(hg.block _ h.r4.lt fun e=>by have:=h.o5.ownGe _ e.symm;omega).trans h.r4,
  by rw [List.map_append];exact ho,h.o6.kept hg (own_ne_two h.o6 h.o5 (by decide))⟩
theorem MkFm.app6 {w v v':World} {fd ft y:Int} {xs ys:List Int} {V5 V6 V:Value} (h:MkFm w fd ft xs ys V5 V6 v) (hg:v.grownBy v' V6.ownBlock) (ho:Own v' (w.heap.size+2) 2 1 V (ys.map ic ++ [ic y])):MkFm w fd ft xs (ys ++ [y]) V5 V v' :=
 ⟨below_app h.hb hg h.hb.size (fun q hq=>Nat.le_trans (by omega) (h.o6.ownGe q hq)),(hg.block _ h.r2.lt fun e=>by have:=h.o6.ownGe _ e.symm;omega).trans h.r2,(hg.block _ h.r4.lt fun e=>by have:=h.o6.ownGe _ e.symm;omega).trans h.r4,
  h.o5.kept hg (own_ne_two h.o5 h.o6 (by decide)),by rw [List.map_append];exact ho⟩
theorem l18Make_c (fd ft:Int) (A:Option Addr) (c:Nat) (l:List Int) (w:World) (hl:l.length ≤ 6) (hs:Sl w w.heap.size 1 A (l.map ic)) :
  Calls Tryz.prog 151 #[.agg #[.int .i64 fd,.int .i64 ft],.slice A l.length c] w fun e w'=>∃ (nm:ByteArray) (l':List Int) (B:Option Addr) (d:Nat),e=.returned (.agg #[.int .i64 fd,.int .i64 ft,.string nm,.slice B l'.length d])∧nm.size ≤ 6∧l'.length ≤ 6∧Own w' (w.heap.size+2) 2 1 (.slice B l'.length d) (l'.map ic)∧Below w.heap.size w w':=by
 obtain ⟨iu,hiu,hu0,hu1,hu2⟩:=info_parts info_U8
 obtain ⟨ii,hii,hz0,hz1,hz2⟩:=info_parts info_I64F
 have h2:=(((Blk.new w 26 #[.int .i64 fd,.int .i64 ft]).alloc (.cells #[.int .i64 0,.int .i64 0,.string ⟨#[]⟩,.slice none 0 0] 29)).alloc (.cells #[] 5)).alloc (.cells #[] 2)
 have h4:=((Blk.new' (w.alloc (.cells #[.int .i64 fd,.int .i64 ft] 26)) 29 #[.int .i64 0,.int .i64 0,.string ⟨#[]⟩,.slice none 0 0] (g:=w.heap.size+1) (by simp)).alloc (.cells #[] 5)).alloc (.cells #[] 2)
 have hB:Below w.heap.size w ((((w.alloc (.cells #[.int .i64 fd,.int .i64 ft] 26)).alloc (.cells #[.int .i64 0,.int .i64 0,.string ⟨#[]⟩,.slice none 0 0] 29)).alloc (.cells #[] 5)).alloc (.cells #[] 2)):=(by repeat first | with_reducible (first | exact Below.refl _ _ | apply below_drewN' | apply Below.drew | refine Below.alloc ?_ ?_ _ | refine Below.setCell ?_ ?_ _) | exact Below.refl _ _ | omega | (simp <;> omega) | (have:=(Below.refl _ _).size;first | omega | (simp <;> omega)))
 have h5:=(Own.empty_at (v:=((w.alloc (.cells #[.int .i64 fd,.int .i64 ft] 26)).alloc (.cells #[.int .i64 0,.int .i64 0,.string ⟨#[]⟩,.slice none 0 0] 29))) (base:=w.heap.size+2) (g:=w.heap.size+1+1) (e:=5) (k:=1) (by simp) (by omega)).alloc (.cells #[] 2)
 have h6:=Own.empty_at (v:=(((w.alloc (.cells #[.int .i64 fd,.int .i64 ft] 26)).alloc (.cells #[.int .i64 0,.int .i64 0,.string ⟨#[]⟩,.slice none 0 0] 29))).alloc (.cells #[] 5)) (base:=w.heap.size+2) (g:=w.heap.size+1+1+1) (e:=2) (k:=1) (by simp) (by omega)
 have M0:=MkFm.mk (xs:=[]) (ys:=[]) hB h2 h4 h5 h6
 clear hB h2 h4 h5 h6
 go_enter Tryz.func151,Tryz.ntmps151
 go_wp2_with fail
 generalize ((((w.alloc (.cells #[.int .i64 fd,.int .i64 ft] 26)).alloc (.cells #[.int .i64 0,.int .i64 0,.string ⟨#[]⟩,.slice none 0 0] 29))).alloc (.cells #[] 5)).alloc (.cells #[] 2)=w0 at *
 go_loopw [5,6,7] (fun V5 V6 i wr=>∃ (k:Nat) (xs ys:List Int),k ≤ l.length∧i=.int .i64 k∧(xs.length ≤ k∧ys.length ≤ k)∧MkFm w fd ft xs ys V5 V6 wr) (fun _ _ i _=>l.length - (intOf i).toNat)
 case atStart=>exact ⟨0,[],[],Nat.zero_le _,rfl,by simp,M0⟩
 case round =>
  clear M0
  obtain ⟨k,xs,ys,hk,rfl,⟨hx,hy⟩,M⟩:=hrel
  by_cases hlt:k < l.length
  ·obtain ⟨b,off,rfl,hbB,hc⟩:=hs.int hlt
   have c0:wr.cell? ⟨b,off+k,none⟩=some (.int .i64 l[k]):=by rw [M.hb.cell hbB];exact hc
   have hltI:(k:Int) < l.length:=by omega
   generalize l[k]=y at *
   by_cases h0:y=0
   ·subst h0
    go_wp2
    go_roundw
    case rel=>exact ⟨k+1,xs,ys,by omega,by go_num,by omega,M⟩
    case measure=>simp [intOf];omega
   ·have hne:(y != 0)=true:=by simp [h0]
    have hw1:IntKind.i64.wrap (97+(k:Int))=97+k:=IntWalk.i64_in _ (by omega)
    have hz:=M.r4.lt
    go_wp2_with (first
     | (at_builtin;refine wpList_append_rows _ rfl _ _ _ rfl (w.heap.size+2) 5 iu _ 1 1 Tryz.underlying22 hiu hu0 hu1 hu2 rfl (by omega) _ _ rfl (M.o5.alloc _) _ _ _ _ ([97+(k:Int)].map bc) rfl rfl (Sl.of_blk (Blk.new' _ _ _ (by first | rfl | simp)) _ rfl (by simp [bc])) (bc_one (xs:=[97+(k:Int)])) (by simp;unfold maxLen;omega) (by simp;omega) (by first | omega | (simp;omega)) ?_;intro V5' w5 hO5 hg5 _;have M5:=(M.alloc _).app5 hg5 hO5;have c5:w5.cell? ⟨b,off+k,none⟩=some (.int .i64 y):=(by rw [M5.hb.cell hbB];exact hc);have hz5:=M5.r4.lt)
     | (at_builtin;refine wpList_append_rows _ rfl _ _ _ rfl (w.heap.size+2) 2 ii _ 1 8 Tryz.underlying27 hii hz0 hz1 hz2 rfl (by omega) _ _ rfl (M5.o6.alloc _) _ _ _ _ ([y].map ic) rfl rfl (Sl.of_blk (Blk.new' _ _ _ (by first | rfl | simp)) _ rfl (by simp [ic])) (ic_one (x:=[y])) (by simp;unfold maxLen;omega) (by simp;omega) (by first | omega | (simp;omega)) ?_;intro V6' w6 hO6 hg6 _;have M6:=(M5.alloc _).app6 hg6 hO6))
    go_roundw
    case rel=>exact ⟨k+1,xs ++ [97+(k:Int)],ys ++ [y],by omega,by go_num,by simp;omega,M6⟩
    case measure=>simp [intOf];omega
  ·obtain ⟨nm,hnm,hcv⟩:=bytes_str M.o5
   have hcv':=fun w' h=>(hcv w' h)
   obtain ⟨B6,c6,hv6,_⟩:=M.o6.form
   rw [List.length_map] at hv6
   subst hv6
   have y0:wr.cell? ⟨w.heap.size,0,none⟩=some (.int .i64 fd):=M.r2.cell 0
   have y1:wr.cell? ⟨w.heap.size,1,none⟩=some (.int .i64 ft):=M.r2.cell 1
   have z0:wr.cell? ⟨w.heap.size+1,0,none⟩=some (.int .i64 0):=M.r4.cell 0
   have z1:wr.cell? ⟨w.heap.size+1,1,none⟩=some (.int .i64 0):=M.r4.cell 1
   have z2:wr.cell? ⟨w.heap.size+1,2,none⟩=some (.string ⟨#[]⟩):=M.r4.cell 2
   have z3:wr.cell? ⟨w.heap.size+1,3,none⟩=some (.slice none 0 0):=M.r4.cell 3
   have f0:=M.r4.frozen 0
   have f1:=M.r4.frozen 1
   have f2:=M.r4.frozen 2
   have f3:=M.r4.frozen 3
   have hcv0:=hcv wr (Below.refl _ _)
   have hBw:=M.hb
   have hO6:=M.o6
   have hyl:ys.length ≤ 6:=by omega
   have hnl:nm.size ≤ 6:=by omega
   have hg4:(w.heap.size+1) < w.heap.size+2:=by omega
   clear M hcv hcv' hnm hx hy
   go_wp2
   refine bodyPost_ret (v:=.agg #[.int .i64 fd,.int .i64 ft,.string nm,.slice B6 ys.length c6]) (by simp [results,Tryz.results151,go_sem,z0,z1,z2,z3]) rfl ?_
   exact ⟨nm,ys,B6,c6,rfl,hnl,hyl,own_setLow (own_setLow (own_setLow (own_setLow hO6 hg4) hg4) hg4) hg4,(by repeat first | with_reducible (first | exact hBw | apply below_drewN' | apply Below.drew | refine Below.alloc ?_ ?_ _ | refine Below.setCell ?_ ?_ _) | exact hBw | omega | (simp <;> omega) | (have:=(hBw).size;first | omega | (simp <;> omega)))⟩
structure PwN (w:World) (lo:Nat) (A:Option Addr) (l:List Int):Prop where
 s:Sl w w.heap.size 1 A (l.map ic)
 nb:∀ b off,A=some ⟨b,off,none⟩→lo ≤ b
 ub:∀ b off,A=some ⟨b,off,none⟩→b < w.heap.size
section
variable {w w' : World} {lo : Nat} {A : Option Addr} {l : List Int}
theorem PwN.keep_ (h:PwN w lo A l) (hsz:w.heap.size ≤ w'.heap.size) (hk:∀ b off,A=some ⟨b,off,none⟩→b < w.heap.size→lo ≤ b→w'.heap[b]?=w.heap[b]?):PwN w' lo A l :=
 ⟨fun i x hx=>by
  obtain ⟨hl,b,off,rfl,hb,hc⟩:=h.s i x hx
  exact ⟨hl,b,off,rfl,by omega,fun j v hv=>(World.cell?_of_block (a:=⟨b,off+i * 1+j,none⟩) (hk b off rfl hb (h.nb b off rfl))).trans (hc j v hv)⟩,h.nb,fun b off e=>Nat.lt_of_lt_of_le (h.ub b off e) hsz⟩
theorem PwN.src {g:Nat} (h:PwN w lo A l) (hg:w.grownBy w' (some g)) (hlo:g < lo):PwN w' lo A l:=h.keep_ hg.size fun b _ _ hb hlb=>hg.block b hb (fun e=>by cases e;omega)
theorem PwN.below (h:PwN w lo A l) (hb:Below w.heap.size w w'):PwN w' lo A l:=h.keep_ hb.size fun b _ _ hlt _=>hb.block b hlt
theorem PwN.alloc (h:PwN w lo A l) (o:Obj):PwN (w.alloc o) lo A l:=h.below ((Below.refl _ _).alloc (Nat.le_refl _) o)
theorem PwN.set {q j:Nat} (h:PwN w lo A l) (hq:q < lo) (u:Value):PwN (w.setCell ⟨q,j,none⟩ u) lo A l:=h.keep_ (by simp) fun b _ _ _ hlb=>Below.heap_setCell _ _ _ _ (by simp only;omega)
theorem PwN.setF {q j:Nat} (h:PwN w lo A l) (hq:∀ b off,A=some ⟨b,off,none⟩→b < q) (u:Value):PwN (w.setCell ⟨q,j,none⟩ u) lo A l:=h.keep_ (by simp) fun b off e _ _=>Below.heap_setCell _ _ _ _ (by have:=hq b off e;simp only;omega)
theorem PwN.weak {lo':Nat} (h:PwN w lo A l) (hl:lo' ≤ lo):PwN w lo' A l:=⟨h.s,fun b off e=>Nat.le_trans hl (h.nb b off e),h.ub⟩
theorem PwN.ofOwn {base c' n':Nat} (h:Own w base 2 1 (.slice A n' c') (l.map ic)) (hb:lo ≤ base):PwN w lo A l:=⟨h.sl,fun b off e=>by subst e;exact Nat.le_trans hb (h.ownGe b rfl),fun b off e=>by subst e;exact (h.1.lt b rfl).2⟩
end
def DFo (m:Nat) (A:Option Addr) (n c g:Nat) (w:World) (e:Ending) (w':World):Prop:=∃ (fd ft:Int) (nm:ByteArray) (l:List Int) (B:Option Addr) (d:Nat),e=.returned (.agg #[.int .i64 fd,.int .i64 ft,.string nm,.slice B l.length d])∧(nm.size ≤ m∧l.length ≤ 6∧l.length ≤ d)∧PwN w' (w.heap.size+1) B l∧Src w' A n c g∧w.grownBy w' (some g)
theorem sl_blkIntsF {w:World} {g:Nat} {t:TypeId} {cs:Array Value} (h:Blk w g t cs) (l:List Int) (hc:cs=(l.map (Value.int .i64)).toArray):Sl w (g+1) 1 (some ⟨g,0,none⟩) (l.map ic):=by
 subst hc
 refine Sl.of_blk h _ ?_ (by intro x hx;obtain ⟨y,_,rfl⟩:=List.mem_map.1 hx;rfl)
 clear h
 induction l with
 | nil=>rfl
 | cons a r ih=>simp only [List.map_cons,List.flatten_cons,ic,List.cons_append,List.nil_append];exact congrArg _ ih
theorem list_set_ints (xs:List Int) (k:Nat) (x:Int):((xs.map (Value.int .i64)).toArray).setIfInBounds k (.int .i64 x)=((xs.set k x).map (Value.int .i64)).toArray:=by simp [List.map_set]
theorem make6 (W:World):(Instr.makeSlice 27 (.int .i64 6) (.int .i64 6)).run Tryz.prog W=.ok (.slice (some ⟨W.heap.size,0,none⟩) 6 6) (W.alloc (.cells #[.int .i64 0,.int .i64 0,.int .i64 0,.int .i64 0,.int .i64 0,.int .i64 0] 2)):=by
 obtain ⟨ii,hii,hz0,hz1,hz2⟩:=info_parts info_I64F
 have h:=run_make W 27 2 ii _ Tryz.underlying27 hii hz0 .i64 .i64 6 6 (by decide) (by decide) (by rw [hz2];decide) (by decide)
 rw [hz1] at h
 exact h.trans (by kernel_rfl)
theorem l18Valid_c (A:Option Addr) (n c g:Nat) (w:World) (hS:Src w A n c g):Calls Tryz.prog 136 #[.pointer (some ⟨g,0,none⟩)] w (DFo 6 A n c g w):=by
 have hlt:=hS.lt
 have D:=((Ds.init hS).alloc (.cells #[.int .i64 0,.int .i64 0,.string ⟨#[]⟩,.slice none 0 0] 29)).alloc (.cells #[.int .i64 0,.int .i64 0,.int .i64 0,.int .i64 0,.int .i64 0,.int .i64 0] 2)
 have Br:=(Blk.new w 29 #[.int .i64 0,.int .i64 0,.string ⟨#[]⟩,.slice none 0 0]).alloc (.cells #[.int .i64 0,.int .i64 0,.int .i64 0,.int .i64 0,.int .i64 0,.int .i64 0] 2)
 have Ba:=Blk.new' (w.alloc (.cells #[.int .i64 0,.int .i64 0,.string ⟨#[]⟩,.slice none 0 0] 29)) 2 #[.int .i64 0,.int .i64 0,.int .i64 0,.int .i64 0,.int .i64 0,.int .i64 0] (g:=w.heap.size+1) (by simp)
 have hmk:=make6
 have hbw:g < w.heap.size+1:=by omega
 clear hS
 unfold DFo
 go_enter Tryz.func136,Tryz.ntmps136
 go_wp2_with fail
 generalize (w.alloc (.cells #[.int .i64 0,.int .i64 0,.string ⟨#[]⟩,.slice none 0 0] 29)).alloc (.cells #[.int .i64 0,.int .i64 0,.int .i64 0,.int .i64 0,.int .i64 0,.int .i64 0] 2)=w0 at *
 clear hmk
 go_loopw [4] (fun i wr=>∃ (k:Nat) (xs:List Int),k ≤ 6∧i=.int .i64 k∧xs.length=6∧Ds A n c g w wr∧Blk wr w.heap.size 29 #[.int .i64 0,.int .i64 0,.string ⟨#[]⟩,.slice none 0 0]∧Blk wr (w.heap.size+1) 2 (xs.map (Value.int .i64)).toArray) (fun i _=>6 - (intOf i).toNat)
 case atStart=>exact ⟨0,[0,0,0,0,0,0],by omega,rfl,rfl,D,Br,Ba⟩
 case round =>
  clear D Br Ba
  obtain ⟨k,xs,hk,rfl,hx,D,Br,Ba⟩:=hrel
  by_cases hlt:k < 6
  ·have hltI:(k:Int) < 6:=by omega
   go_wp2_with (go_at_call 64;refine (pickB_n (-2) 3 A n c g _ _ _ _ D.s (by simp) (by rfl) (by decide) (by decide)).mono ?_;rintro e w2 ⟨p,rfl,hp,hS,hg⟩;refine Hid.out ?_)
   refine Lib.hid ?_
   replace D:=D.to hS hg
   replace Br:=Br.src hg (by omega)
   replace Ba:=Ba.src hg (by omega)
   clear hS hg
   have y0:w2.cell? ⟨w.heap.size+1,k,none⟩=some (.int .i64 (xs[k]'(by omega))):=by rw [Ba.cell];simp [List.getElem?_eq_getElem (show k < xs.length by omega)]
   have f0:=Ba.frozen k
   have Ba2:=Ba.set_ k (.int .i64 p)
   rw [list_set_ints] at Ba2
   have D2:=D.set (j:=k) (u:=.int .i64 p) hbw (by omega)
   have Br2:=Br.far (p:=⟨w.heap.size+1,k,none⟩) (by simp only;omega) (.int .i64 p)
   go_wp2_with fail
   go_roundw
   case rel=>exact ⟨k+1,xs.set k p,by omega,by go_num,by simpa using hx,D2,Br2,Ba2⟩
   case measure=>simp [intOf];omega
  ·obtain rfl:k=6:=by omega
   go_wp2_with fail
   refine (l02ValidV_c A n c g _ D.s).mono ?_;rintro e w2 ⟨fd,ft,rfl,hfd,hft,hS,hg⟩
   replace D:=D.to hS hg
   replace Br:=Br.src hg (by omega)
   replace Ba:=Ba.src hg (by omega)
   clear hS hg
   have hsl:=(sl_blkIntsF Ba xs rfl).more Ba.lt
   have hm:=l18Make_c fd ft (some ⟨w.heap.size+1,0,none⟩) 6 xs w2 (by omega) hsl
   rw [hx] at hm
   have hzw:=D.size
   have hz2:=Ba.lt
   go_wp2_with fail
   refine Calls.mono hm ?_;rintro e w3 ⟨nm,l,B,d,rfl,hnm,hl,hO,hb⟩
   replace D:=D.below hb
   replace Br:=Br.below hb Br.lt
   have P:=PwN.ofOwn (lo:=w.heap.size+1) hO (by omega)
   have hcap:=hO.le_cap
   have y0:w3.cell? ⟨w.heap.size,0,none⟩=some (.int .i64 0):=Br.cell 0
   have y1:w3.cell? ⟨w.heap.size,1,none⟩=some (.int .i64 0):=Br.cell 1
   have y2:w3.cell? ⟨w.heap.size,2,none⟩=some (.string ⟨#[]⟩):=Br.cell 2
   have y3:w3.cell? ⟨w.heap.size,3,none⟩=some (.slice none 0 0):=Br.cell 3
   have f0:=Br.frozen 0
   have f1:=Br.frozen 1
   have f2:=Br.frozen 2
   have f3:=Br.frozen 3
   have hw1:w.heap.size < w.heap.size+1:=by omega
   have hz:∀ {v':World} {j:Nat} {u:Value},Ds A n c g w v'→Ds A n c g w (v'.setCell ⟨w.heap.size,j,none⟩ u):=fun h=>h.set (by omega) (Nat.le_refl _)
   clear Ba hb hm hsl hO
   go_wp2
   refine bodyPost_ret (v:=.agg #[.int .i64 fd,.int .i64 ft,.string nm,.slice B l.length d]) (by simp [results,Tryz.results136,go_sem,y0,y1,y2,y3]) rfl ?_
   have D9:=hz (j:=3) (u:=.slice B l.length d) (hz (j:=2) (u:=.string nm) (hz (j:=1) (u:=.int .i64 ft) (hz (j:=0) (u:=.int .i64 fd) D)))
   exact ⟨fd,ft,nm,l,B,d,rfl,⟨hnm,hl,hcap⟩,(((P.set hw1 _).set hw1 _).set hw1 _).set hw1 _,D9.s,D9.g⟩
theorem l18Draw_c (A:Option Addr) (n c g:Nat) (w:World) (hS:Src w A n c g):Calls Tryz.prog 111 #[.pointer (some ⟨g,0,none⟩)] w (DFo 7 A n c g w):=by
 have hlt:=hS.lt
 have D:=(Ds.init hS).alloc (.cells #[.int .i64 0,.int .i64 0,.string ⟨#[]⟩,.slice none 0 0] 29)
 have Br:=Blk.new w 29 #[.int .i64 0,.int .i64 0,.string ⟨#[]⟩,.slice none 0 0]
 have hz9:(w.alloc (.cells #[.int .i64 0,.int .i64 0,.string ⟨#[]⟩,.slice none 0 0] 29)).heap.size=w.heap.size+1:=by simp
 clear hS
 unfold DFo
 go_enter Tryz.func111,Tryz.ntmps111
 go_wp2_with fail
 generalize w.alloc (.cells #[.int .i64 0,.int .i64 0,.string ⟨#[]⟩,.slice none 0 0] 29)=w0 at *
 refine (l18Valid_c A n c g _ D.s).mono ?_;rintro e w1 ⟨fd,ft,nm,l,B,d,rfl,⟨hnm,hl,hcap⟩,P,hS,hg⟩
 have hsz:=hg.size
 have P0:=P
 replace D:=(D.to hS hg).alloc (.cells #[.int .i64 fd,.int .i64 ft,.string nm,.slice B l.length d] 29)
 replace Br:=(Br.src hg (by omega)).alloc (.cells #[.int .i64 fd,.int .i64 ft,.string nm,.slice B l.length d] 29)
 have Bf:=Blk.new w1 29 #[.int .i64 fd,.int .i64 ft,.string nm,.slice B l.length d]
 replace P:=P.alloc (.cells #[.int .i64 fd,.int .i64 ft,.string nm,.slice B l.length d] 29)
 have hgw:g < w1.heap.size:=hS.lt
 have hPb:=P0.ub
 clear hS hg P0
 go_wp2_with fail
 generalize w1.alloc (.cells #[.int .i64 fd,.int .i64 ft,.string nm,.slice B l.length d] 29)=w2 at *
 have hnew:w.heap.size < w1.heap.size:=by omega
 generalize w1.heap.size=bf at *
 rw [hz9] at P
 refine (l01Next_c A n c g _ _ D.s).mono ?_;rintro e w3 ⟨x,rfl,⟨xa,xb⟩,xd,hS,hg⟩
 replace D:=D.to hS hg
 replace Br:=Br.src hg (by omega)
 replace Bf:=Bf.src hg (by omega)
 replace P:=P.src hg (by omega)
 clear hS hg
 have hne:w.heap.size ≠ bf:=by omega
 have hz:∀ {v':World} {j:Nat} {u:Value},Ds A n c g w v'→Ds A n c g w (v'.setCell ⟨w.heap.size,j,none⟩ u):=fun h=>h.set hlt (Nat.le_refl _)
 have hzf:∀ {v':World} {j:Nat} {u:Value},Ds A n c g w v'→Ds A n c g w (v'.setCell ⟨bf,j,none⟩ u):=fun h=>h.set hgw (by omega)
 have hw1:w.heap.size < w.heap.size+1+1:=by omega
 by_cases h0:x=0
 ·subst h0
  go_wp2_with fail
  refine (l02Draw_c A n c g _ D.s).mono ?_;rintro e w4 ⟨a,b,rfl,_,_,hS,hg⟩
  replace D:=D.to hS hg
  replace Br:=Br.src hg (by omega)
  replace Bf:=Bf.src hg (by omega)
  replace P:=P.src hg (by omega)
  clear hS hg
  have y0:w4.cell? ⟨w.heap.size,0,none⟩=some (.int .i64 0):=Br.cell 0
  have y1:w4.cell? ⟨w.heap.size,1,none⟩=some (.int .i64 0):=Br.cell 1
  have y2:w4.cell? ⟨w.heap.size,2,none⟩=some (.string ⟨#[]⟩):=Br.cell 2
  have y3:w4.cell? ⟨w.heap.size,3,none⟩=some (.slice none 0 0):=Br.cell 3
  have f0:=Br.frozen 0
  have f1:=Br.frozen 1
  have f2:=Br.frozen 2
  have f3:=Br.frozen 3
  have z0:w4.cell? ⟨bf,0,none⟩=some (.int .i64 fd):=Bf.cell 0
  have z1:w4.cell? ⟨bf,1,none⟩=some (.int .i64 ft):=Bf.cell 1
  have z2:w4.cell? ⟨bf,2,none⟩=some (.string nm):=Bf.cell 2
  have z3:w4.cell? ⟨bf,3,none⟩=some (.slice B l.length d):=Bf.cell 3
  have g0:=Bf.frozen 0
  have g1:=Bf.frozen 1
  go_wp2
  refine bodyPost_ret (v:=.agg #[.int .i64 a,.int .i64 b,.string nm,.slice B l.length d]) (by simp [results,Tryz.results111,go_sem,y0,y1,y2,y3]) rfl ?_
  have D9:=hz (j:=3) (u:=.slice B l.length d) (hz (j:=2) (u:=.string nm) (hz (j:=1) (u:=.int .i64 b) (hz (j:=0) (u:=.int .i64 a) (hzf (j:=1) (u:=.int .i64 b) (hzf (j:=0) (u:=.int .i64 a) D)))))
  exact ⟨a,b,nm,l,B,d,rfl,⟨by omega,hl,hcap⟩,((((((P.setF hPb _).setF hPb _).set hw1 _).set hw1 _).set hw1 _).set hw1 _).weak (by omega),D9.s,D9.g⟩
 by_cases h1:x=1
 ·subst h1
  have y0:w3.cell? ⟨w.heap.size,0,none⟩=some (.int .i64 0):=Br.cell 0
  have y1:w3.cell? ⟨w.heap.size,1,none⟩=some (.int .i64 0):=Br.cell 1
  have y2:w3.cell? ⟨w.heap.size,2,none⟩=some (.string ⟨#[]⟩):=Br.cell 2
  have y3:w3.cell? ⟨w.heap.size,3,none⟩=some (.slice none 0 0):=Br.cell 3
  have f0:=Br.frozen 0
  have f1:=Br.frozen 1
  have f2:=Br.frozen 2
  have f3:=Br.frozen 3
  have z0:w3.cell? ⟨bf,0,none⟩=some (.int .i64 fd):=Bf.cell 0
  have z1:w3.cell? ⟨bf,1,none⟩=some (.int .i64 ft):=Bf.cell 1
  have z2:w3.cell? ⟨bf,2,none⟩=some (.string nm):=Bf.cell 2
  have z3:w3.cell? ⟨bf,3,none⟩=some (.slice B l.length d):=Bf.cell 3
  have g0:=Bf.frozen 0
  have g1:=Bf.frozen 1
  have g2:=Bf.frozen 2
  have hn2:(nm ++ (⟨#[97]⟩:ByteArray)).size ≤ 7:=by rw [ByteArray.size_append];have:(⟨#[97]⟩:ByteArray).size=1:=rfl;omega
  go_wp2
  generalize nm ++ (⟨#[97]⟩:ByteArray)=nm2 at *
  refine bodyPost_ret (v:=.agg #[.int .i64 fd,.int .i64 ft,.string nm2,.slice B l.length d]) (by simp [results,Tryz.results111,go_sem,y0,y1,y2,y3]) rfl ?_
  have D9:=hz (j:=3) (u:=.slice B l.length d) (hz (j:=2) (u:=.string nm2) (hz (j:=1) (u:=.int .i64 ft) (hz (j:=0) (u:=.int .i64 fd) (hzf (j:=2) (u:=.string nm2) D))))
  exact ⟨fd,ft,nm2,l,B,d,rfl,⟨hn2,hl,hcap⟩,(((((P.setF hPb _).set hw1 _).set hw1 _).set hw1 _).set hw1 _).weak (by omega),D9.s,D9.g⟩
 by_cases h2:x=2
 ·subst h2
  have t3:w3.cell? ⟨bf,3,none⟩=some (.slice B l.length d):=Bf.cell 3
  go_wp2_with fail
  have hg3:g < w3.heap.size:=D.s.lt
  have hw3:w.heap.size < w3.heap.size:=Br.lt
  have hf3:bf < w3.heap.size:=Bf.lt
  refine (l01Own_c B d l _ (by omega) P.s).mono ?_;rintro e w4 ⟨A',c',rfl,O4,hb⟩
  replace D:=D.below hb
  replace Br:=Br.below hb hw3
  replace Bf:=Bf.below hb hf3
  clear hb P
  have hcap4:=O4.le_cap
  by_cases hl0:0 < l.length
  ·obtain ⟨q,hq,rfl⟩:∃ q,w3.heap.size ≤ q∧A'=some ⟨q,0,none⟩:=by
    rcases O4.1.2 with ⟨h,_⟩ | ⟨q,cap,cur,hv,_⟩
    ·simp only [Value.slice.injEq] at h;omega
    ·simp only [Value.slice.injEq] at hv
     exact ⟨q,O4.ownGe q (by rw [hv.1];rfl),hv.1⟩
   have hl0I:(0:Int) < l.length:=by omega
   go_wp2_with (go_at_call 64;refine (pickB_n (-7) 7 A n c g _ _ _ _ D.s (by simp) (by rfl) (by decide) (by decide)).mono ?_;rintro e w5 ⟨p,rfl,hp,hS,hg⟩;refine Hid.out ?_)
   refine Lib.hid ?_
   replace D:=D.to hS hg
   replace Br:=Br.src hg (by omega)
   replace Bf:=Bf.src hg (by omega)
   have O5:=O4.kept hg (.inr (fun e=>by have:=O4.ownGe g e;omega))
   clear hS hg O4
   have hq5:q < w5.heap.size:=(O5.1.lt q rfl).2
   have u0:w5.cell? ⟨q,0,none⟩=some (.int .i64 (l[0]'hl0)):=by
    obtain ⟨b2,off2,he,hbB,hcell⟩:=O5.sl.at_ (i:=0) (by simpa using hl0)
    obtain ⟨rfl,rfl⟩:q=b2∧0=off2:=by simpa using he
    simpa [ic] using hcell 0 (.int .i64 (l[0]'hl0)) (by simp [ic])
   have u1:=O5.frozen 0
   have z0:w5.cell? ⟨bf,0,none⟩=some (.int .i64 fd):=Bf.cell 0
   have z1:w5.cell? ⟨bf,1,none⟩=some (.int .i64 ft):=Bf.cell 1
   have z2:w5.cell? ⟨bf,2,none⟩=some (.string nm):=Bf.cell 2
   have y0:w5.cell? ⟨w.heap.size,0,none⟩=some (.int .i64 0):=Br.cell 0
   have y1:w5.cell? ⟨w.heap.size,1,none⟩=some (.int .i64 0):=Br.cell 1
   have y2:w5.cell? ⟨w.heap.size,2,none⟩=some (.string ⟨#[]⟩):=Br.cell 2
   have y3:w5.cell? ⟨w.heap.size,3,none⟩=some (.slice none 0 0):=Br.cell 3
   have f0:=Br.frozen 0
   have f1:=Br.frozen 1
   have f2:=Br.frozen 2
   have f3:=Br.frozen 3
   have hqw:q ≠ w.heap.size:=by omega
   have hqf:q ≠ bf:=by omega
   have hqw':w.heap.size ≠ q:=by omega
   have hqf':bf ≠ q:=by omega
   have O6:=O5.store (i:=0) (by simpa using hl0) [.int .i64 p] rfl
   have hst:stores w5 q (0 * 1) [.int .i64 p]=w5.setCell ⟨q,0,none⟩ (.int .i64 p):=rfl
   have hxs:(l.map ic).set 0 [.int .i64 p]=(l.set 0 p).map ic:=by simp [List.map_set,ic]
   rw [hxs,hst] at O6
   have P6:=PwN.ofOwn (lo:=w.heap.size+1) O6 (by omega)
   have hlen:(l.set 0 p).length=l.length:=by simp
   have D6:=D.set (b:=q) (j:=0) (u:=.int .i64 p) (by omega) (by omega)
   have hw1':w.heap.size < w.heap.size+1:=by omega
   clear O5 O6 hxs hst
   go_wp2
   refine bodyPost_ret (v:=.agg #[.int .i64 fd,.int .i64 ft,.string nm,.slice (some ⟨q,0,none⟩) l.length c']) (by simp [results,Tryz.results111,go_sem,y0,y1,y2,y3]) rfl ?_
   have D9:=hz (j:=3) (u:=.slice (some ⟨q,0,none⟩) l.length c') (hz (j:=2) (u:=.string nm) (hz (j:=1) (u:=.int .i64 ft) (hz (j:=0) (u:=.int .i64 fd) D6)))
   exact ⟨fd,ft,nm,l.set 0 p,some ⟨q,0,none⟩,c',by rw [hlen],⟨by omega,by omega,by omega⟩,(((P6.set hw1' _).set hw1' _).set hw1' _).set hw1' _,D9.s,D9.g⟩
  ·have hl0I:¬ (0:Int) < l.length:=by omega
   have z0:w4.cell? ⟨bf,0,none⟩=some (.int .i64 fd):=Bf.cell 0
   have z1:w4.cell? ⟨bf,1,none⟩=some (.int .i64 ft):=Bf.cell 1
   have z2:w4.cell? ⟨bf,2,none⟩=some (.string nm):=Bf.cell 2
   have y0:w4.cell? ⟨w.heap.size,0,none⟩=some (.int .i64 0):=Br.cell 0
   have y1:w4.cell? ⟨w.heap.size,1,none⟩=some (.int .i64 0):=Br.cell 1
   have y2:w4.cell? ⟨w.heap.size,2,none⟩=some (.string ⟨#[]⟩):=Br.cell 2
   have y3:w4.cell? ⟨w.heap.size,3,none⟩=some (.slice none 0 0):=Br.cell 3
   have f0:=Br.frozen 0
   have f1:=Br.frozen 1
   have f2:=Br.frozen 2
   have f3:=Br.frozen 3
   have P6:=PwN.ofOwn (lo:=w.heap.size+1) O4 (by omega)
   have hw1':w.heap.size < w.heap.size+1:=by omega
   clear O4
   go_wp2
   refine bodyPost_ret (v:=.agg #[.int .i64 fd,.int .i64 ft,.string nm,.slice A' l.length c']) (by simp [results,Tryz.results111,go_sem,y0,y1,y2,y3]) rfl ?_
   have D9:=hz (j:=3) (u:=.slice A' l.length c') (hz (j:=2) (u:=.string nm) (hz (j:=1) (u:=.int .i64 ft) (hz (j:=0) (u:=.int .i64 fd) D)))
   exact ⟨fd,ft,nm,l,A',c',rfl,⟨by omega,by omega,by omega⟩,(((P6.set hw1' _).set hw1' _).set hw1' _).set hw1' _,D9.s,D9.g⟩
 by_cases h3:x=3
 ·subst h3
  have z0:w3.cell? ⟨bf,0,none⟩=some (.int .i64 fd):=Bf.cell 0
  have z1:w3.cell? ⟨bf,1,none⟩=some (.int .i64 ft):=Bf.cell 1
  have y0:w3.cell? ⟨w.heap.size,0,none⟩=some (.int .i64 0):=Br.cell 0
  have y1:w3.cell? ⟨w.heap.size,1,none⟩=some (.int .i64 0):=Br.cell 1
  have y2:w3.cell? ⟨w.heap.size,2,none⟩=some (.string ⟨#[]⟩):=Br.cell 2
  have y3:w3.cell? ⟨w.heap.size,3,none⟩=some (.slice none 0 0):=Br.cell 3
  have f0:=Br.frozen 0
  have f1:=Br.frozen 1
  have f2:=Br.frozen 2
  have f3:=Br.frozen 3
  have h3w:w.heap.size < w3.heap.size:=Br.lt
  have hg3:g < w3.heap.size:=D.s.lt
  have hw1':w.heap.size < w.heap.size+1:=by omega
  have D9:=(hz (j:=3) (u:=.slice (some ⟨w3.heap.size,0,none⟩) 1 1) (hz (j:=2) (u:=.string ⟨#[65]⟩) (hz (j:=1) (u:=.int .i64 ft) (hz (j:=0) (u:=.int .i64 fd) D)))).alloc (.cells #[.int .i64 1] 2)
  have Bn:=Blk.new' ((((w3.setCell ⟨w.heap.size,0,none⟩ (.int .i64 fd)).setCell ⟨w.heap.size,1,none⟩ (.int .i64 ft)).setCell ⟨w.heap.size,2,none⟩ (.string ⟨#[65]⟩)).setCell ⟨w.heap.size,3,none⟩ (.slice (some ⟨w3.heap.size,0,none⟩) 1 1)) 2 #[.int .i64 1] (g:=w3.heap.size) (by simp)
  have P3:PwN (((((w3.setCell ⟨w.heap.size,0,none⟩ (.int .i64 fd)).setCell ⟨w.heap.size,1,none⟩ (.int .i64 ft)).setCell ⟨w.heap.size,2,none⟩ (.string ⟨#[65]⟩)).setCell ⟨w.heap.size,3,none⟩ (.slice (some ⟨w3.heap.size,0,none⟩) 1 1)).alloc (.cells #[.int .i64 1] 2)) (w.heap.size+1) (some ⟨w3.heap.size,0,none⟩) [1] :=
   ⟨(sl_blkIntsF Bn [1] rfl).more Bn.lt,fun b off e=>by cases e;omega,fun b off e=>by cases e;exact Bn.lt⟩
  have BR:=((((Br.set_ 0 (.int .i64 fd)).set_ 1 (.int .i64 ft)).set_ 2 (.string ⟨#[65]⟩)).set_ 3 (.slice (some ⟨w3.heap.size,0,none⟩) 1 1)).alloc (.cells #[.int .i64 1] 2)
  have x0:(((((w3.setCell ⟨w.heap.size,0,none⟩ (.int .i64 fd)).setCell ⟨w.heap.size,1,none⟩ (.int .i64 ft)).setCell ⟨w.heap.size,2,none⟩ (.string ⟨#[65]⟩)).setCell ⟨w.heap.size,3,none⟩ (.slice (some ⟨w3.heap.size,0,none⟩) 1 1)).alloc (.cells #[.int .i64 1] 2)).cell? ⟨w.heap.size,0,none⟩=some (.int .i64 fd):=BR.cell 0
  have x1:(((((w3.setCell ⟨w.heap.size,0,none⟩ (.int .i64 fd)).setCell ⟨w.heap.size,1,none⟩ (.int .i64 ft)).setCell ⟨w.heap.size,2,none⟩ (.string ⟨#[65]⟩)).setCell ⟨w.heap.size,3,none⟩ (.slice (some ⟨w3.heap.size,0,none⟩) 1 1)).alloc (.cells #[.int .i64 1] 2)).cell? ⟨w.heap.size,1,none⟩=some (.int .i64 ft):=BR.cell 1
  have x2:(((((w3.setCell ⟨w.heap.size,0,none⟩ (.int .i64 fd)).setCell ⟨w.heap.size,1,none⟩ (.int .i64 ft)).setCell ⟨w.heap.size,2,none⟩ (.string ⟨#[65]⟩)).setCell ⟨w.heap.size,3,none⟩ (.slice (some ⟨w3.heap.size,0,none⟩) 1 1)).alloc (.cells #[.int .i64 1] 2)).cell? ⟨w.heap.size,2,none⟩=some (.string ⟨#[65]⟩):=BR.cell 2
  have x3:(((((w3.setCell ⟨w.heap.size,0,none⟩ (.int .i64 fd)).setCell ⟨w.heap.size,1,none⟩ (.int .i64 ft)).setCell ⟨w.heap.size,2,none⟩ (.string ⟨#[65]⟩)).setCell ⟨w.heap.size,3,none⟩ (.slice (some ⟨w3.heap.size,0,none⟩) 1 1)).alloc (.cells #[.int .i64 1] 2)).cell? ⟨w.heap.size,3,none⟩=some (.slice (some ⟨w3.heap.size,0,none⟩) 1 1):=BR.cell 3
  clear Bn Bf P hz hzf
  go_wp2
  refine bodyPost_ret (v:=.agg #[.int .i64 fd,.int .i64 ft,.string ⟨#[65]⟩,.slice (some ⟨w3.heap.size,0,none⟩) 1 1]) (by simp [results,Tryz.results111,go_sem,x0,x1,x2,x3]) rfl ?_
  exact ⟨fd,ft,⟨#[65]⟩,[1],some ⟨w3.heap.size,0,none⟩,1,rfl,⟨by decide,by decide,by decide⟩,P3,D9.s,D9.g⟩
 have y0:w3.cell? ⟨w.heap.size,0,none⟩=some (.int .i64 0):=Br.cell 0
 have y1:w3.cell? ⟨w.heap.size,1,none⟩=some (.int .i64 0):=Br.cell 1
 have y2:w3.cell? ⟨w.heap.size,2,none⟩=some (.string ⟨#[]⟩):=Br.cell 2
 have y3:w3.cell? ⟨w.heap.size,3,none⟩=some (.slice none 0 0):=Br.cell 3
 have f0:=Br.frozen 0
 have f1:=Br.frozen 1
 have f2:=Br.frozen 2
 have f3:=Br.frozen 3
 have z0:w3.cell? ⟨bf,0,none⟩=some (.int .i64 fd):=Bf.cell 0
 have z1:w3.cell? ⟨bf,1,none⟩=some (.int .i64 ft):=Bf.cell 1
 have z2:w3.cell? ⟨bf,2,none⟩=some (.string nm):=Bf.cell 2
 have z3:w3.cell? ⟨bf,3,none⟩=some (.slice B l.length d):=Bf.cell 3
 have g0:=Bf.frozen 0
 have g1:=Bf.frozen 1
 have g2:=Bf.frozen 2
 have e0:(x == 0)=false:=by simpa using h0
 have e1:(x == 1)=false:=by simpa using h1
 have e2:(x == 2)=false:=by simpa using h2
 have e3:(x == 3)=false:=by simpa using h3
 go_wp2
 refine bodyPost_ret (v:=.agg #[.int .i64 fd,.int .i64 ft,.string nm,.slice B l.length d]) (by simp [results,Tryz.results111,go_sem,y0,y1,y2,y3]) rfl ?_
 have D9:=hz (j:=3) (u:=.slice B l.length d) (hz (j:=2) (u:=.string nm) (hz (j:=1) (u:=.int .i64 ft) (hz (j:=0) (u:=.int .i64 fd) D)))
 exact ⟨fd,ft,nm,l,B,d,rfl,⟨by omega,hl,hcap⟩,((((P.set hw1 _).set hw1 _).set hw1 _).set hw1 _).weak (by omega),D9.s,D9.g⟩
end Go.Proofs.YtednjmldjbndhaaGreatDoor
