/- The origin of an entry and what is derived from one: the program's and the reference's. Conditions: the lengths. -/
import Derived.Test.YtednjmldjbndhaaGreatDoorKCt10
import Derived.Test.YtednjmldjbndhaaGreatDoorKCt21
import Derived.Test.YtednjmldjbndhaaGreatDoorKCt8
set_option linter.unusedSimpArgs false
set_option linter.unusedVariables false
set_option maxRecDepth 100000
set_option maxHeartbeats 8000000
namespace Go.Proofs.YtednjmldjbndhaaGreatDoor
open Go.RowKit
structure AppL (w:World) (e:TypeId) (xs:List (List Value)) (V:Value) (wr:World):Prop where
 hb:Below w.heap.size w wr
 o:Own wr w.heap.size e 1 V xs
section
variable {w : World} {e : TypeId} {xs ys : List (List Value)} {V V' : Value} {wr w2 : World}
theorem AppL.below (h:AppL w e xs V wr) (hb:Below wr.heap.size wr w2):AppL w e xs V w2:=⟨h.hb.trans (hb.mono h.hb.size),h.o.below hb⟩
theorem AppL.alloc (h:AppL w e xs V wr) (ob:Obj):AppL w e xs V (wr.alloc ob):=h.below ((Below.refl _ _).alloc (Nat.le_refl _) ob)
theorem AppL.app (h:AppL w e xs V wr) (hg:wr.grownBy w2 V.ownBlock) (h2:Own w2 w.heap.size e 1 V' (xs ++ ys)):AppL w e (xs ++ ys) V' w2:=⟨below_app h.hb hg h.hb.size h.o.ownGe,h2⟩
end
def basOf (l:List En) (i:Int):Int:=match l[i.toNat]? with | some e=>e.ba | none=>-1
def chain (l:List En):Nat→Int→List Int
 | 0,_=>[]
 | n+1,i=>if i < 0 then [] else i :: chain l n (basOf l i)
theorem chain_len (l:List En):∀ (n:Nat) (i:Int),(chain l n i).length ≤ n
 | 0,_=>Nat.le_refl _
 | n+1,i=>by
  unfold chain
  split
  ·exact Nat.zero_le _
  ·have:=chain_len l n (basOf l i)
   simp only [List.length_cons]
   omega
theorem chain_neg (l:List En) (n:Nat) {i:Int} (h:i < 0):chain l n i=[]:=by
 cases n with
 | zero=>rfl
 | succ n=>unfold chain;rw [if_pos h]
theorem chain_next (l:List En) (n:Nat) {i:Int} (h:¬ i < 0):chain l (n+1) i=i :: chain l n (basOf l i):=by
 conv=>lhs;unfold chain
 rw [if_neg h]
theorem basOf_get {l:List En} {m:Nat} (hm:m < l.length):basOf l (m:Int)=l[m].ba:=by
 unfold basOf
 rw [Int.toNat_natCast,List.getElem?_eq_getElem hm]
theorem info_Int:(Tryz.prog.info? 2).map (fun i=>(i.zero,i.size,i.bytes))=some (some (.int .i64 0),1,8):=by kernel_rfl
theorem catB_ba {l:List En} (h:catB l=true) {m:Nat} (hm:m < l.length):-1 ≤ l[m].ba∧l[m].ba ≤ (m:Int) - 1:=by
 have h1:=entB_ba (catB_at h hm)
 rw [List.length_take,Nat.min_eq_left (by omega)] at h1
 exact h1
theorem originOf_c (A:Option Addr) (c:Nat) (es:List EnR) (i0:Int) (w:World) (E:EnsIn w A es) (hv:catB (ens es)=true) (hi0:-1 ≤ i0∧i0 < (es.length:Int)) :
  Calls Tryz.prog 46 #[.slice A es.length c,.int .i64 i0] w fun x w'=>∃ A' c',x=.returned (.slice A' (chain (ens es) es.length i0).length c')∧Own w' w.heap.size 2 1 (.slice A' (chain (ens es) es.length i0).length c') ((chain (ens es) es.length i0).map ic)∧Below w.heap.size w w':=by
 have hl:=E.n
 have hs:=E.s
 have hba:=Lib.hid (fun (m:Nat) (hm:m < es.length)=>by have h:=catB_ba hv (m:=m) (by rw [ens_len];exact hm);rw [ens_get hm] at h;exact h)
 have hbo:=Lib.hid (fun (m:Nat) (hm:m < es.length)=>(basOf_get (l:=ens es) (m:=m) (by rw [ens_len];exact hm)).trans (by rw [ens_get hm]))
 have hcl:=Lib.hid (chain_len (ens es) es.length i0)
 have hcn:=Lib.hid (fun n i h=>@chain_neg (ens es) n i h)
 have hcx:=Lib.hid (fun n i h=>@chain_next (ens es) n i h)
 obtain ⟨ii,hi,hz0,hz1,hz2⟩:=info_parts info_Int
 clear hv E
 have L0:AppL w 2 (([]:List Int).map ic) (.slice (some ⟨w.heap.size,0,none⟩) 0 0) (w.alloc (.cells #[] 2)):=⟨(by repeat first | with_reducible (first | exact Below.refl _ _ | apply below_drewN' | apply Below.drew | refine Below.alloc ?_ ?_ _ | refine Below.setCell ?_ ?_ _) | exact Below.refl _ _ | omega | (simp <;> omega) | (have:=(Below.refl _ _).size;first | omega | (simp <;> omega))),Own.empty (Nat.le_refl _)⟩
 generalize hR0:chain (ens es) es.length i0=R at *
 generalize chain (ens es)=ch at *
 have hP0:Hid ([] ++ ch es.length i0=R):=Lib.hid hR0
 clear hR0
 go_enter Tryz.func46,Tryz.ntmps46
 go_wp2_with fail
 go_loopw [1,5] (fun i o wr=>∃ (f:Nat) (j:Int) (P:List Int),i=.int .i64 j∧(-1 ≤ j∧j < (es.length:Int)∧j+1 ≤ (f:Int))∧Hid (P ++ ch f j=R)∧AppL w 2 (P.map ic) o wr) (fun i _ _=>(intOf i+1).toNat)
 case atStart=>exact ⟨es.length,i0,[],rfl,⟨by omega,by omega,by omega⟩,hP0,L0⟩
 case round =>
  clear L0 hP0
  obtain ⟨f,j,P,rfl,⟨hj0,hj1,hj2⟩,hP,hL⟩:=hrel
  by_cases hjn:j < 0
  ·have hR:P=R:=by rw [← hP.out,hcn.out f j hjn,List.append_nil]
   subst hR
   have hO:=hL.o
   have hbw:=hL.hb
   obtain ⟨A9,c9,hv,_⟩:=hO.form
   rw [List.length_map] at hv
   subst hv
   clear hL
   go_wp2
   go_ret
   exact ⟨A9,c9,rfl,hO,hbw⟩
  ·obtain ⟨m,rfl⟩:∃ m:Nat,j=(m:Int):=⟨j.toNat,by omega⟩
   have hml:m < es.length:=by omega
   obtain ⟨f,rfl⟩:∃ f',f=f'+1:=⟨f - 1,by omega⟩
   have hPl:Hid (P.length+1 ≤ 1048576):=Lib.hid (by
    have h1:=congrArg List.length hP.out
    rw [hcx.out f _ (by omega),List.length_append,List.length_cons] at h1
    have h2:=hcl.out
    omega)
   have hP':Hid ((P ++ [(m:Int)]) ++ ch f es[m].e.ba=R):=Lib.hid (by rw [← hP.out,hcx.out f _ (by omega),hbo.out m hml,List.append_assoc];rfl)
   have hbm:=hba.out m hml
   obtain ⟨b,off,rfl,hbB,hc⟩:=hs.at_ (i:=m) (by simpa using hml)
   simp only [List.getElem_map] at hc
   have HY:Hid (∀ W,Below w.heap.size w W→W.cell? ⟨b,off+m * 20+19,none⟩=some (.int .i64 es[m].e.ba)):=Lib.hid (fun W hW=>(hW.cell (p:=⟨b,off+m * 20+19,none⟩) hbB).trans (by simpa using hc 19 _ rfl))
   have hj3:(m:Int) < (es.length:Int):=by omega
   have hj4:(0:Int) ≤ (m:Int):=by omega
   have hws:=hL.hb.size
   clear hc hP
   generalize es[m].e.ba=ba at *
   have hbl:b < wr.heap.size:=Nat.lt_of_lt_of_le hbB hws
   go_wp2_with (at_builtin;refine wpList_append_rows _ rfl _ _ _ rfl w.heap.size 2 ii _ 1 8 Tryz.underlying27 hi hz0 hz1 hz2 rfl (by omega) _ _ rfl (hL.o.alloc _) _ _ _ _ ([(m:Int)].map ic) rfl rfl (Sl.blkInts (Blk.new wr 2 _) [(m:Int)] rfl) (ic_one (x:=[(m:Int)])) (by simp;have:=hPl.out;unfold maxLen;omega) (by simp;have:=hPl.out;omega) (by first | omega | (simp only [];omega) | (simp;omega)) ?_;intro v1 w2 hO2 hg2 hat;have hL2:=(hL.alloc _).app hg2 hO2;have y19:=HY.out w2 hL2.hb)
   go_roundw
   case rel=>exact ⟨f,ba,P ++ [(m:Int)],rfl,⟨by omega,by omega,by omega⟩,hP',by rw [List.map_append];exact hL2⟩
   case measure=>simp [intOf];omega
theorem l33Origin_c (A:Option Addr) (c:Nat) (es:List EnR) (i0:Int) (w:World) (E:EnsIn w A es) (hv:catB (ens es)=true) (hi0:-1 ≤ i0∧i0 < (es.length:Int)) :
  Calls Tryz.prog 48 #[.slice A es.length c,.int .i64 i0] w fun x w'=>∃ A' c',x=.returned (.slice A' (chain (ens es) es.length i0).length c')∧Own w' w.heap.size 2 1 (.slice A' (chain (ens es) es.length i0).length c') ((chain (ens es) es.length i0).map ic)∧Below w.heap.size w w':=by
 have hl:=E.n
 have hs:=E.s
 have hba:=Lib.hid (fun (m:Nat) (hm:m < es.length)=>by have h:=catB_ba hv (m:=m) (by rw [ens_len];exact hm);rw [ens_get hm] at h;exact h)
 have hbo:=Lib.hid (fun (m:Nat) (hm:m < es.length)=>(basOf_get (l:=ens es) (m:=m) (by rw [ens_len];exact hm)).trans (by rw [ens_get hm]))
 have hcl:=Lib.hid (chain_len (ens es) es.length i0)
 have hcn:=Lib.hid (fun n i h=>@chain_neg (ens es) n i h)
 have hcx:=Lib.hid (fun n i h=>@chain_next (ens es) n i h)
 obtain ⟨ii,hi,hz0,hz1,hz2⟩:=info_parts info_Int
 clear hv E
 have L0:AppL w 2 (([]:List Int).map ic) (.slice (some ⟨w.heap.size,0,none⟩) 0 0) (w.alloc (.cells #[] 2)):=⟨(by repeat first | with_reducible (first | exact Below.refl _ _ | apply below_drewN' | apply Below.drew | refine Below.alloc ?_ ?_ _ | refine Below.setCell ?_ ?_ _) | exact Below.refl _ _ | omega | (simp <;> omega) | (have:=(Below.refl _ _).size;first | omega | (simp <;> omega))),Own.empty (Nat.le_refl _)⟩
 generalize hR0:chain (ens es) es.length i0=R at *
 generalize chain (ens es)=ch at *
 have hP0:Hid ([] ++ ch es.length i0=R):=Lib.hid hR0
 clear hR0
 go_enter Tryz.func48,Tryz.ntmps48
 go_wp2_with fail
 go_loopw [1,5] (fun i o wr=>∃ (f:Nat) (j:Int) (P:List Int),i=.int .i64 j∧(-1 ≤ j∧j < (es.length:Int)∧j+1 ≤ (f:Int))∧Hid (P ++ ch f j=R)∧AppL w 2 (P.map ic) o wr) (fun i _ _=>(intOf i+1).toNat)
 case atStart=>exact ⟨es.length,i0,[],rfl,⟨by omega,by omega,by omega⟩,hP0,L0⟩
 case round =>
  clear L0 hP0
  obtain ⟨f,j,P,rfl,⟨hj0,hj1,hj2⟩,hP,hL⟩:=hrel
  by_cases hjn:j < 0
  ·have hR:P=R:=by rw [← hP.out,hcn.out f j hjn,List.append_nil]
   subst hR
   have hO:=hL.o
   have hbw:=hL.hb
   obtain ⟨A9,c9,hv,_⟩:=hO.form
   rw [List.length_map] at hv
   subst hv
   clear hL
   go_wp2
   go_ret
   exact ⟨A9,c9,rfl,hO,hbw⟩
  ·obtain ⟨m,rfl⟩:∃ m:Nat,j=(m:Int):=⟨j.toNat,by omega⟩
   have hml:m < es.length:=by omega
   obtain ⟨f,rfl⟩:∃ f',f=f'+1:=⟨f - 1,by omega⟩
   have hPl:Hid (P.length+1 ≤ 1048576):=Lib.hid (by
    have h1:=congrArg List.length hP.out
    rw [hcx.out f _ (by omega),List.length_append,List.length_cons] at h1
    have h2:=hcl.out
    omega)
   have hP':Hid ((P ++ [(m:Int)]) ++ ch f es[m].e.ba=R):=Lib.hid (by rw [← hP.out,hcx.out f _ (by omega),hbo.out m hml,List.append_assoc];rfl)
   have hbm:=hba.out m hml
   obtain ⟨b,off,rfl,hbB,hc⟩:=hs.at_ (i:=m) (by simpa using hml)
   simp only [List.getElem_map] at hc
   have HY:Hid (∀ W,Below w.heap.size w W→W.cell? ⟨b,off+m * 20+19,none⟩=some (.int .i64 es[m].e.ba)):=Lib.hid (fun W hW=>(hW.cell (p:=⟨b,off+m * 20+19,none⟩) hbB).trans (by simpa using hc 19 _ rfl))
   have hj3:(m:Int) < (es.length:Int):=by omega
   have hj4:(0:Int) ≤ (m:Int):=by omega
   have hws:=hL.hb.size
   clear hc hP
   generalize es[m].e.ba=ba at *
   have hbl:b < wr.heap.size:=Nat.lt_of_lt_of_le hbB hws
   go_wp2_with (at_builtin;refine wpList_append_rows _ rfl _ _ _ rfl w.heap.size 2 ii _ 1 8 Tryz.underlying27 hi hz0 hz1 hz2 rfl (by omega) _ _ rfl (hL.o.alloc _) _ _ _ _ ([(m:Int)].map ic) rfl rfl (Sl.blkInts (Blk.new wr 2 _) [(m:Int)] rfl) (ic_one (x:=[(m:Int)])) (by simp;have:=hPl.out;unfold maxLen;omega) (by simp;have:=hPl.out;omega) (by first | omega | (simp only [];omega) | (simp;omega)) ?_;intro v1 w2 hO2 hg2 hat;have hL2:=(hL.alloc _).app hg2 hO2;have y19:=HY.out w2 hL2.hb)
   go_roundw
   case rel=>exact ⟨f,ba,P ++ [(m:Int)],rfl,⟨by omega,by omega,by omega⟩,hP',by rw [List.map_append];exact hL2⟩
   case measure=>simp [intOf];omega
end Go.Proofs.YtednjmldjbndhaaGreatDoor
