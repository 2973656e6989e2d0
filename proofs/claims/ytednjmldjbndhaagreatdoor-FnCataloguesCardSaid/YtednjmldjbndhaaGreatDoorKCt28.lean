/- Plain facts for the law on catalogues. No condition. Equality of slices of numbers and of formulas: the program's and the reference's. Conditions: the lengths. A great region that draws its order: its frame is a function of what has come up. Plain. The changes between two releases: the program's and the reference's. Conditions: the lengths. The laws' comparisons of formulas, charts and releases: what they answer at any two. Conditions: the lengths. -/
import Derived.Laws.StructEq
import Derived.Test.YtednjmldjbndhaaGreatDoorKCt18
import Derived.Test.YtednjmldjbndhaaGreatDoorKCt2
import Derived.Test.YtednjmldjbndhaaGreatDoorKCt24
import Derived.Test.YtednjmldjbndhaaGreatDoorKCt25
import Derived.Test.YtednjmldjbndhaaGreatDoorKCt27
import Derived.Test.YtednjmldjbndhaaGreatDoorKCt3
import Derived.Test.YtednjmldjbndhaaGreatDoorKCt8
set_option linter.unusedSimpArgs false
set_option linter.unusedVariables false
set_option maxRecDepth 100000
set_option maxHeartbeats 8000000
namespace Go.Proofs.YtednjmldjbndhaaGreatDoor
open Go.RowKit
theorem kept_mem (l:List En) (i:Nat):∀ k,((i:Int) ∈ keptTo l k) ↔ (i < k∧keptAt l i=true)
 | 0=>by simp [keptTo]
 | k+1=>by
  have ih:=kept_mem l i k
  unfold keptTo
  by_cases h:keptAt l k=true
  ·rw [if_pos h,List.mem_append,List.mem_singleton,ih]
   constructor
   ·rintro (⟨h1,h2⟩ | h1)
    ·exact ⟨by omega,h2⟩
    ·obtain rfl:i=k:=by omega
     exact ⟨by omega,h⟩
   ·rintro ⟨h1,h2⟩
    by_cases hk:i=k
    ·exact .inr (by rw [hk])
    ·exact .inl ⟨by omega,h2⟩
  ·rw [if_neg h,ih]
   constructor
   ·rintro ⟨h1,h2⟩;exact ⟨by omega,h2⟩
   ·rintro ⟨h1,h2⟩
    refine ⟨?_,h2⟩
    by_cases hk:i=k
    ·subst hk;exact absurd h2 h
    ·omega
theorem der_mem (l:List En) (x:Int) (i:Nat):∀ k,((i:Int) ∈ derTo l x k) ↔ (i < k∧x ∈ chain l l.length (i:Int))
 | 0=>by simp [derTo]
 | k+1=>by
  have ih:=der_mem l x i k
  unfold derTo
  by_cases h:x ∈ chain l l.length (k:Int)
  ·rw [if_pos h,List.mem_append,List.mem_singleton,ih]
   constructor
   ·rintro (⟨h1,h2⟩ | h1)
    ·exact ⟨by omega,h2⟩
    ·obtain rfl:i=k:=by omega
     exact ⟨by omega,h⟩
   ·rintro ⟨h1,h2⟩
    by_cases hk:i=k
    ·exact .inr (by rw [hk])
    ·exact .inl ⟨by omega,h2⟩
  ·rw [if_neg h,ih]
   constructor
   ·rintro ⟨h1,h2⟩;exact ⟨by omega,h2⟩
   ·rintro ⟨h1,h2⟩
    refine ⟨?_,h2⟩
    by_cases hk:i=k
    ·subst hk;exact absurd h2 h
    ·omega
theorem chain_dom {l:List En} (h:catB l=true):∀ (n:Nat) (i:Int),-1 ≤ i∧i < (l.length:Int)→∀ x ∈ chain l n i,0 ≤ x∧x < (l.length:Int)
 | 0,_,_,x,hx=>by simp [chain] at hx
 | n+1,i,hi,x,hx=>by
  by_cases h0:i < 0
  ·rw [chain_neg l _ h0] at hx;cases hx
  ·rw [chain_next l n h0] at hx
   rcases List.mem_cons.1 hx with rfl | hx
   ·omega
   ·obtain ⟨m,rfl⟩:=Int.eq_ofNat_of_zero_le (show 0 ≤ i by omega)
    have hm:m < l.length:=by omega
    have hb:=catB_ba h hm
    rw [basOf_get hm] at hx
    exact chain_dom h n _ (by omega) x hx
theorem org_facts {l:List En} {i:Int} (h:enC l i=0):∀ x ∈ orgR l i,enC l x=0∧i ∈ derR l x:=by
 intro x hx
 obtain ⟨hc,h0,h1⟩:=enC_zero h
 unfold orgR at hx
 rw [if_pos h] at hx
 have hd:=chain_dom hc _ _ (by omega) x hx
 have hex:enC l x=0:=by
  unfold enC
  rw [if_pos hc,if_pos (inB_true.2 (by omega))]
 refine ⟨hex,?_⟩
 unfold derR
 rw [if_pos hex]
 obtain ⟨m,rfl⟩:=Int.eq_ofNat_of_zero_le h0
 exact (der_mem l x m l.length).2 ⟨by omega,hx⟩
theorem add_facts {l:List En} {e:En} (h:addC l e=0):addR l e=l ++ [e]∧catB (l ++ [e])=true:=by
 refine ⟨by unfold addR;rw [if_pos h],?_⟩
 unfold addC at h
 split at h
 ·rename_i hc
  split at h
  ·cases h
  ·rename_i hn
   rw [catB_snoc e hc]
   simpa using hn
 ·cases h
theorem kept_facts {l:List En} (h:keptC l=0):catB l=true∧∀ (i:Nat) (hi:i < l.length),l[i].r.b=true∧(((i:Int) ∈ keptR l) ↔ l[i].r.kept=true):=by
 unfold keptC at h
 split at h
 ·rename_i hc
  refine ⟨hc,fun i hi=>⟨entB_rb (catB_at hc hi),?_⟩⟩
  unfold keptR
  rw [if_pos hc,kept_mem,keptAt_get hi]
  exact ⟨fun q=>q.2,fun q=>⟨hi,q⟩⟩
 ·cases h
theorem kept_cat (l:List En):decide (keptC l=0)=catB l:=by
 unfold keptC
 cases catB l <;> simp
end Go.Proofs.YtednjmldjbndhaaGreatDoor
namespace Go.Proofs.YtednjmldjbndhaaGreatDoor
open Go.RowKit
theorem take_ne {l l':List Int} {k:Nat} (h:k < l.length) (h':k < l'.length) (hn:l[k] ≠ l'[k]):¬ l=l':=by
 rintro rfl
 exact hn rfl
theorem take_eq_next {l l':List Int} {k:Nat} (h:k < l.length) (h':k < l'.length) (ht:l.take k=l'.take k) (he:l[k]=l'[k]):l.take (k+1)=l'.take (k+1):=by
 rw [List.take_succ_eq_append_getElem h,List.take_succ_eq_append_getElem h',ht,he]
theorem eqFig2 (a b c d:Int) (w:World):Sem.run Tryz.prog (binOp .eql 26 (.agg #[.int .i64 a,.int .i64 b]) (.agg #[.int .i64 c,.int .i64 d])) w=.ok (.bool (decide (a=c) && decide (b=d))) w:=by
 have hS:Tryz.prog.underlying 26=some (.struct (Tryz.prog.fieldsOf 26)):=by kernel_rfl
 have hp:Tryz.prog.stoodInHeld 26=false:=by kernel_rfl
 have u3:=Tryz.underlying2
 have a3:=Tryz.isAgg2
 have z3:=Tryz.sizeOf2
 by_cases h1:a=c <;> by_cases h2:b=d
 all_goals
  rw [run_eql_struct,show (10000:Nat)=9999+1 from rfl,run_equalIn_agg w 9999 26 _ _ hS hp]
  simp only [Program.fieldsOf,Tryz.underlying26]
  go_simp
def sameFB (fd ft:Int) (s:ByteArray) (l:List Int) (fd' ft':Int) (s':ByteArray) (l':List Int):Bool:=(decide (fd=fd') && decide (ft=ft')) && (s.toList == s'.toList) && decide (l=l')
end Go.Proofs.YtednjmldjbndhaaGreatDoor
namespace Go.Proofs.YtednjmldjbndhaaGreatDoor
open Go.RowKit
theorem region_fr {P:Program} {Q:Exit→Act→World→Prop} {l:List Oper} (n:Nat) {id:Nat} {w:World} {slots:List Value} {d:List Deferred}
  (fr:(Nat→Bool)→List Value→Value→List Value) (S:(Nat→Bool)→Value→World→Prop) (hm:P.follows .mixedOrders=true) (hB:sinkAll l.toArray n=true)
  (x0:Value) (h00:fr (fun _=>false) slots x0=slots) (h0:S (fun _=>false) x0 w.drew)
  (hI:∀ f x v,S f x v→∀ i,i < n→f i=false→∀ o,l.toArray[i]?=some o→(∀ e ∈ o.after,Region.binds .any e=true→f e.on=true)→wpOp P l.toArray Q i (fun a' w'=>∃ x',a'=⟨(fr (upd f i) slots x').toArray,d⟩∧S (upd f i) x' w') ⟨(fr f slots x).toArray,d⟩ v)
  (hE:∀ f x v,S f x v→(∀ i,i < n→f i=true)→wpList P l.toArray Q (l.drop n) ⟨(fr f slots x).toArray,d⟩ v):(Code.region id l.toArray true).wp P Q ⟨slots.toArray,d⟩ w :=
 wp_region_sink n (fun _ f b v=>∃ x,b=⟨(fr f slots x).toArray,d⟩∧S f x v) hm hB ⟨x0,by rw [h00],h0⟩
  (fun f b v ⟨x,hb,hS⟩ i hi hf o ho ha=>by subst hb;exact hI f x v hS i hi hf o ho ha)
  (fun f b v ⟨x,hb,hS⟩ hall=>by subst hb;exact hE f x v hS hall)
end Go.Proofs.YtednjmldjbndhaaGreatDoor
namespace Go.Proofs.YtednjmldjbndhaaGreatDoor
open Go.RowKit
def alike (a b:Rl):List Bool:=[sameFB a.fd a.ft a.nm a.l b.fd b.ft b.nm b.l,a.wd == b.wd,a.lf == b.lf && a.rt == b.rt,(decide (a.lud=b.lud) && decide (a.lut=b.lut)) && (decide (a.hud=b.hud) && decide (a.hut=b.hut)),(decide (a.lvd=b.lvd) && decide (a.lvt=b.lvt)) && (decide (a.hvd=b.hvd) && decide (a.hvt=b.hvt)),a.ey == b.ey,a.bo == b.bo]
theorem BsS.below {V:World} {T:TypeId} {cs:Array Value} {n:Nat} {b:Bool} {x:Value} {v v':World} (h:BsS V T cs n b x v) (hb:Below v.heap.size v v'):BsS V T cs n b x v' :=
 ⟨h.hb.trans (hb.mono h.hb.size),fun e=>let ⟨g,h1,h2,h3⟩:=h.sl e;⟨g,h1,h2,h3.below hb h3.lt⟩⟩
structure CgL (w:World) (G:Nat) (T:TypeId) (gs:Array Value) (e:TypeId) (xs:List (List Value)) (V:Value) (wr:World):Prop where
 hb:Below w.heap.size w wr
 fg:Blk wr G T gs
 ne:V.ownBlock ≠ some G
 o:Own wr w.heap.size e 1 V xs
section
variable {w : World} {G : Nat} {T : TypeId} {gs : Array Value} {e : TypeId} {xs ys : List (List Value)} {V V' : Value} {wr w2 : World}
theorem CgL.below (h:CgL w G T gs e xs V wr) (hb:Below wr.heap.size wr w2):CgL w G T gs e xs V w2 :=
 ⟨h.hb.trans (hb.mono h.hb.size),h.fg.below hb h.fg.lt,h.ne,h.o.below hb⟩
theorem CgL.alloc (h:CgL w G T gs e xs V wr) (ob:Obj):CgL w G T gs e xs V (wr.alloc ob):=h.below ((Below.refl _ _).alloc (Nat.le_refl _) ob)
theorem CgL.app (h:CgL w G T gs e xs V wr) (hg:wr.grownBy w2 V.ownBlock) (h2:Own w2 w.heap.size e 1 V' (xs ++ ys)) (hat:V'.ownBlock=V.ownBlock ∨ V'.ownBlock=some wr.heap.size):CgL w G T gs e (xs ++ ys) V' w2 :=
 ⟨below_app h.hb hg h.hb.size (fun g hh=>h.o.ownGe g hh),(hg.block _ h.fg.lt (fun hh=>h.ne hh.symm)).trans h.fg,by
  rcases hat with hh | hh
  ·rw [hh];exact h.ne
  ·rw [hh];have:=h.fg.lt;intro h3;simp only [Option.some.injEq] at h3;omega,h2⟩
end
end Go.Proofs.YtednjmldjbndhaaGreatDoor
namespace Go.Proofs.YtednjmldjbndhaaGreatDoor
open Go.RowKit
theorem likeIntsV_c (A A':Option Addr) (c c':Nat) (l l':List Int) (w:World) (hl:l.length ≤ 1048576) (_:l'.length ≤ 1048576) (hs:Sl w w.heap.size 1 A (l.map ic)) (hs':Sl w w.heap.size 1 A' (l'.map ic)) :
  Calls Tryz.prog 18 #[.slice A l.length c,.slice A' l'.length c'] w fun e w'=>e=.returned (.bool (decide (l=l')))∧Below w.heap.size w w':=by
 by_cases hne:l.length=l'.length
 ·have hne1:((l.length:Int) != (l'.length:Int))=false:=by simp [hne]
  go_enter Tryz.func18,Tryz.ntmps18
  go_wp2_with fail
  go_loopw [5] (fun i wr=>∃ k:Nat,k ≤ l.length∧i=.int .i64 k∧Below w.heap.size w wr∧Hid (l.take k=l'.take k)) (fun i _=>l.length - (intOf i).toNat)
  case atStart=>exact ⟨0,Nat.zero_le _,rfl,Below.refl _ _,(show l.take 0=l'.take 0 from rfl)⟩
  case round =>
   obtain ⟨k,hk,rfl,hb,ht⟩:=hrel
   by_cases hlt:k < l.length
   ·have hlt':k < l'.length:=by omega
    obtain ⟨b,off,rfl,hbB,hc⟩:=hs.int hlt
    obtain ⟨b',off',rfl,hbB',hc'⟩:=hs'.int hlt'
    have c0:wr.cell? ⟨b,off+k,none⟩=some (.int .i64 l[k]):=by rw [hb.cell hbB];exact hc
    have d0:wr.cell? ⟨b',off'+k,none⟩=some (.int .i64 l'[k]):=by rw [hb.cell hbB'];exact hc'
    have hnx:=Lib.hid (take_eq_next hlt hlt' ht.out)
    have hno:=Lib.hid (take_ne hlt hlt')
    clear hc hc'
    generalize l[k]=x at *
    generalize l'[k]=y at *
    by_cases hxy:x=y
    ·have hq:(x != y)=false:=by simp [hxy]
     replace hnx:=Lib.hid (hnx.out hxy)
     clear hxy hno
     go_wp2_with fail
     go_quiet (fail)
     go_wp2
     go_roundw
     case rel=>exact ⟨k+1,by omega,by go_num,(by repeat first | with_reducible (first | exact hb | apply below_drewN' | apply Below.drew | refine Below.alloc ?_ ?_ _ | refine Below.setCell ?_ ?_ _) | exact hb | omega | (simp <;> omega) | (have:=(hb).size;first | omega | (simp <;> omega))),hnx⟩
     case measure=>simp [intOf];omega
    ·have hq:(x != y)=true:=by simp [hxy]
     have hd:Hid (decide (l=l')=false):=Lib.hid (decide_eq_false (hno.out hxy))
     clear hxy hno hnx
     go_wp2_with fail
     go_quiet (fail)
     go_wp2
     go_ret
     exact ⟨by rw [hd.out];rfl,(by repeat first | with_reducible (first | exact hb | apply below_drewN' | apply Below.drew | refine Below.alloc ?_ ?_ _ | refine Below.setCell ?_ ?_ _) | exact hb | omega | (simp <;> omega) | (have:=(hb).size;first | omega | (simp <;> omega)))⟩
   ·have:k=l.length:=by omega
    subst this
    have hd:Hid (decide (l=l')=true):=Lib.hid (decide_eq_true (by have:=ht.out;rwa [List.take_length,hne,List.take_length] at this))
    go_wp2
    go_ret
    exact ⟨by rw [hd.out];rfl,hb⟩
 ·have hne1:((l.length:Int) != (l'.length:Int))=true:=by simp;omega
  have hd:Hid (decide (l=l')=false):=Lib.hid (decide_eq_false (fun h=>hne (by rw [h])))
  go_enter Tryz.func18,Tryz.ntmps18
  go_wp2
  go_ret
  exact ⟨by rw [hd.out];rfl,Below.refl _ _⟩
theorem likeFormulas_c (fd ft:Int) (s:ByteArray) (A:Option Addr) (c:Nat) (l:List Int) (fd' ft':Int) (s':ByteArray) (A':Option Addr) (c':Nat) (l':List Int) (w:World) (hl:l.length ≤ 1048576) (hl':l'.length ≤ 1048576) (hs:Sl w w.heap.size 1 A (l.map ic)) (hs':Sl w w.heap.size 1 A' (l'.map ic)) :
  Calls Tryz.prog 94 #[.agg #[.int .i64 fd,.int .i64 ft,.string s,.slice A l.length c],.agg #[.int .i64 fd',.int .i64 ft',.string s',.slice A' l'.length c']] w fun e w'=>e=.returned (.bool (sameFB fd ft s l fd' ft' s' l'))∧Below w.heap.size w w':=by
 have hW:Below w.heap.size w ((w.alloc (.cells #[.int .i64 fd,.int .i64 ft,.string s,.slice A l.length c] 29)).alloc (.cells #[.int .i64 fd',.int .i64 ft',.string s',.slice A' l'.length c'] 29)):=(by repeat first | with_reducible (first | exact Below.refl _ _ | apply below_drewN' | apply Below.drew | refine Below.alloc ?_ ?_ _ | refine Below.setCell ?_ ?_ _) | exact Below.refl _ _ | omega | (simp <;> omega) | (have:=(Below.refl _ _).size;first | omega | (simp <;> omega)))
 have hE:=Lib.hid (likeIntsV_c A A' c c' l l' _ hl hl' ((hs.below hW).more hW.size) ((hs'.below hW).more hW.size))
 have hG:Tryz.prog.eqGuardType Tryz.prog.depth 26=false:=by kernel_rfl
 have hF:=eqFig2 fd ft fd' ft'
 have hR:Hid (sameFB fd ft s l fd' ft' s' l'=((decide (fd=fd') && decide (ft=ft')) && (s.toList == s'.toList) && decide (l=l'))):=rfl
 generalize (decide (fd=fd') && decide (ft=ft'))=q1 at *
 generalize hq2:(s.toList == s'.toList)=q2 at *
 generalize decide (l=l')=q3 at *
 clear hs hs'
 cases q1
 all_goals
  cases q2
  all_goals
   go_enter Tryz.func94,Tryz.ntmps94
   go_wp2_with (go_at_call 18;refine Calls.mono hE.out ?_;rintro e w1 ⟨rfl,hb1⟩;have hW1:=hW.trans (hb1.mono hW.size))
   go_ret
   exact ⟨by rw [hR.out];rfl,by first | exact hW1 | exact hW⟩
end Go.Proofs.YtednjmldjbndhaaGreatDoor
