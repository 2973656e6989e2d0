/- KeptEntries: the program's and the reference's. Conditions: the lengths. -/
import Derived.Test.YtednjmldjbndhaaGreatDoorKCt22
import Derived.Test.YtednjmldjbndhaaGreatDoorKCt26
set_option linter.unusedSimpArgs false
set_option linter.unusedVariables false
set_option maxRecDepth 100000
set_option maxHeartbeats 8000000
namespace Go.Proofs.YtednjmldjbndhaaGreatDoor
open Go.RowKit
def keptAt (l:List En) (k:Nat):Bool:=match l[k]? with | some e=>e.r.kept | none=>false
def keptTo (l:List En):Nat→List Int
 | 0=>[]
 | k+1=>if keptAt l k=true then keptTo l k ++ [(k:Int)] else keptTo l k
def keptR (l:List En):List Int:=if catB l=true then keptTo l l.length else []
def keptC (l:List En):Int:=if catB l=true then 0 else 1
theorem keptTo_len (l:List En):∀ k:Nat,(keptTo l k).length ≤ k
 | 0=>Nat.le_refl _
 | k+1=>by
  have:=keptTo_len l k
  unfold keptTo
  split
  ·simp;omega
  ·omega
theorem keptR_len (l:List En):(keptR l).length ≤ l.length:=by
 unfold keptR
 split
 ·exact keptTo_len _ _
 ·exact Nat.zero_le _
theorem keptAt_get {l:List En} {k:Nat} (h:k < l.length):keptAt l k=l[k].r.kept:=by
 unfold keptAt
 rw [List.getElem?_eq_getElem h]
theorem entB_rb {l:List En} {e:En} (h:entB l e=true):e.r.b=true:=by
 unfold entB at h
 simp only [Bool.and_eq_true] at h
 exact h.1.1.1.2
theorem implKeptEntries_c (A:Option Addr) (c:Nat) (es:List EnR) (w:World) (E:EnsIn w A es) (hc:es.length ≤ c) :
  Calls Tryz.prog 15 #[.slice A es.length c] w (PostRows 2 1 (keptR (ens es)).length ((keptR (ens es)).map ic) (keptC (ens es)) w):=by
 have hl:=E.n
 have hs:=E.s
 have hc':Hid (es.length ≤ c):=hc
 have HC:=Lib.hid (implIsCat_c A c es w E hc)
 have hR:Hid (keptR (ens es)=(if catB (ens es)=true then keptTo (ens es) es.length else [])∧keptC (ens es)=(if catB (ens es)=true then 0 else 1)):=Lib.hid (by unfold keptR keptC;rw [ens_len];exact ⟨rfl,rfl⟩)
 have HK:=Lib.hid (fun (hv:catB (ens es)=true) (k:Nat) (hk:k < es.length) W (hW:Below w.heap.size w W)=>implIsKept_c es[k].e.r es[k].A es[k].c W ((E.i es[k] (List.getElem_mem hk)).r.later hW) (by
  have h:=entB_rb (catB_at hv (k:=k) (by rw [ens_len];exact hk))
  rwa [ens_get hk] at h))
 have hds:=Lib.hid (fun (k:Nat) (hk:k < es.length)=>(by show (if keptAt (ens es) k=true then _ else _)=_;rw [keptAt_get (by rw [ens_len];exact hk),ens_get hk]:keptTo (ens es) (k+1)=if es[k].e.r.kept=true then keptTo (ens es) k ++ [(k:Int)] else keptTo (ens es) k))
 have hdl:=Lib.hid (keptTo_len (ens es))
 have hd0:Hid (keptTo (ens es) 0=[]):=Lib.hid rfl
 obtain ⟨ii,hi,hz0,hz1,hz2⟩:=info_parts info_Int
 clear E hc hc'
 generalize keptR (ens es)=R at *
 generalize keptC (ens es)=cd at *
 generalize keptTo (ens es)=dt at *
 generalize catB (ens es)=cb at *
 cases cb with
 | false =>
  obtain ⟨rfl,rfl⟩:=hR.out
  go_enter Tryz.func15,Tryz.ntmps15
  go_wp2_with fail
  refine Calls.mono HC.out ?_;rintro x w1 ⟨rfl,hb1⟩
  go_wp2
  go_ret2
  exact ⟨none,0,rfl,Own.nil_,hb1⟩
 | true =>
 obtain ⟨hR1,hR2⟩:=hR.out
 rw [if_pos rfl] at hR1 hR2
 subst hR2
 replace hR1:=Lib.hid hR1
 replace HK:=Lib.hid (HK.out rfl)
 clear hR
 go_enter Tryz.func15,Tryz.ntmps15
 go_wp2_with fail
 refine Calls.mono HC.out ?_;rintro x w1 ⟨rfl,hb1⟩
 have L0:AppL w 2 ((dt 0).map ic) (.slice (some ⟨w1.heap.size,0,none⟩) 0 0) (w1.alloc (.cells #[] 2)):=⟨(by repeat first | with_reducible (first | exact hb1 | apply below_drewN' | apply Below.drew | refine Below.alloc ?_ ?_ _ | refine Below.setCell ?_ ?_ _) | exact hb1 | omega | (simp <;> omega) | (have:=(hb1).size;first | omega | (simp <;> omega))),by rw [hd0.out];exact Own.empty hb1.size⟩
 go_wp2_with fail
 go_loopw [4,15] (fun o i wr=>∃ k:Nat,k ≤ es.length∧i=.int .i64 k∧AppL w 2 ((dt k).map ic) o wr) (fun _ i _=>es.length - (intOf i).toNat)
 case atStart=>exact ⟨0,Nat.zero_le _,rfl,L0⟩
 case round =>
  clear L0
  obtain ⟨k,hk,rfl,hL⟩:=hrel
  by_cases hlt:k < es.length
  ·have hnx:=Lib.hid (hds.out k hlt)
   have hkl:=Lib.hid (hdl.out k)
   obtain ⟨b,off,rfl,hbB,hc'⟩:=hs.rg (i:=k) (by simpa using hlt)
   simp only [List.getElem_map] at hc'
   replace hc':=rangeAt_below hc' hL.hb hbB
   have hcl:es[k].cells.length=20:=rfl
   have hlen:(es[k].e.r.cells es[k].A es[k].c).length=17:=rfl
   have hon:∀ v ∈ es[k].cells,v.oneCell'=true:=es[k].e.one es[k].A es[k].c
   have D0:=Blk.new wr 35 es[k].cells.toArray
   obtain ⟨_,_,x2,_⟩:=Blk.en (e:=es[k].e) D0
   have hbw:Below wr.heap.size wr (wr.alloc (.cells es[k].cells.toArray 35)):=(Below.refl _ _).alloc (Nat.le_refl _) _
   have hcall:=Lib.hid (HK.out k hlt _ (hL.hb.trans (hbw.mono hL.hb.size)))
   replace hL:=hL.below hbw
   clear D0 hbw
   generalize es[k].e.r.kept=kp at *
   generalize es[k].e.r.cells es[k].A es[k].c=rc at *
   generalize es[k].cells=cs at *
   go_wp2_with (first | (refine wpList_load_mid rfl 35 _ rfl (b) (off+k * 20) rfl (cs) _ hc' Tryz.underlying35 rfl (by kernel_rfl) ?_) | (refine wpList_store_new rfl _ _ rfl cs rfl rfl (by rw [hcl];kernel_rfl) (by rw [hcl];rfl) hon ?_) | (refine wpList_load_mid rfl 33 _ rfl wr.heap.size 2 rfl rc _ x2 Tryz.underlying33 rfl (by rw [hlen];kernel_rfl) ?_) | fail)
   clear hc' x2
   generalize wr.alloc (.cells cs.toArray 35)=W at *
   refine Calls.mono hcall.out ?_;rintro x w2 ⟨rfl,hb2⟩
   replace hL:=hL.below hb2
   clear hcall hb2
   cases kp with
   | true =>
    replace hnx:Hid (dt (k+1)=dt k ++ [(k:Int)]):=Lib.hid (hnx.out.trans (if_pos (by first | rfl | trivial)))
    have hws:=hL.hb.size
    go_wp2_with (at_builtin;refine wpList_append_rows _ rfl _ _ _ rfl w.heap.size 2 ii _ 1 8 Tryz.underlying27 hi hz0 hz1 hz2 rfl (by omega) _ _ rfl (hL.o.alloc _) _ _ _ _ ([(k:Int)].map ic) rfl rfl (Sl.blkInts (Blk.new w2 2 _) [(k:Int)] rfl) (ic_one (x:=[(k:Int)])) (by simp;have:=hkl.out;unfold maxLen;omega) (by simp;have:=hkl.out;omega) (by first | omega | (simp only [];omega) | (simp;omega)) ?_;intro v1 w3 hO2 hg2 hat;have hL2:=(hL.alloc _).app hg2 hO2)
    go_roundw
    case rel=>exact ⟨k+1,by omega,by go_num,by rw [hnx.out,List.map_append];exact hL2⟩
    case measure=>simp [intOf];omega
   | false =>
    replace hnx:Hid (dt (k+1)=dt k):=Lib.hid (hnx.out.trans (if_neg (by simp)))
    go_wp2
    go_roundw
    case rel=>exact ⟨k+1,by omega,by go_num,by rw [hnx.out];exact hL⟩
    case measure=>simp [intOf];omega
  ·have:k=es.length:=by omega
   subst this
   have hO:=hL.o
   have hbw:=hL.hb
   rw [← hR1.out] at hO
   obtain ⟨A9,c9,hv,_⟩:=hO.form
   rw [List.length_map] at hv
   subst hv
   clear hL
   go_wp2
   go_ret2
   exact ⟨A9,c9,rfl,hO,hbw⟩
theorem specKeptEntries_c (A:Option Addr) (c:Nat) (es:List EnR) (w:World) (E:EnsIn w A es) (hc:es.length ≤ c) :
  Calls Tryz.prog 16 #[.slice A es.length c] w (PostRows 2 1 (keptR (ens es)).length ((keptR (ens es)).map ic) (keptC (ens es)) w):=by
 have hl:=E.n
 have hs:=E.s
 have hc':Hid (es.length ≤ c):=hc
 have HC:=Lib.hid (specIsCat_c A c es w E)
 have hR:Hid (keptR (ens es)=(if catB (ens es)=true then keptTo (ens es) es.length else [])∧keptC (ens es)=(if catB (ens es)=true then 0 else 1)):=Lib.hid (by unfold keptR keptC;rw [ens_len];exact ⟨rfl,rfl⟩)
 have HK:=Lib.hid (fun (hv:catB (ens es)=true) (k:Nat) (hk:k < es.length) W (hW:Below w.heap.size w W)=>specIsKept_c es[k].e.r es[k].A es[k].c W ((E.i es[k] (List.getElem_mem hk)).r.later hW) (by
  have h:=entB_rb (catB_at hv (k:=k) (by rw [ens_len];exact hk))
  rwa [ens_get hk] at h))
 have hds:=Lib.hid (fun (k:Nat) (hk:k < es.length)=>(by show (if keptAt (ens es) k=true then _ else _)=_;rw [keptAt_get (by rw [ens_len];exact hk),ens_get hk]:keptTo (ens es) (k+1)=if es[k].e.r.kept=true then keptTo (ens es) k ++ [(k:Int)] else keptTo (ens es) k))
 have hdl:=Lib.hid (keptTo_len (ens es))
 have hd0:Hid (keptTo (ens es) 0=[]):=Lib.hid rfl
 obtain ⟨ii,hi,hz0,hz1,hz2⟩:=info_parts info_Int
 clear E hc hc'
 generalize keptR (ens es)=R at *
 generalize keptC (ens es)=cd at *
 generalize keptTo (ens es)=dt at *
 generalize catB (ens es)=cb at *
 cases cb with
 | false =>
  obtain ⟨rfl,rfl⟩:=hR.out
  go_enter Tryz.func16,Tryz.ntmps16
  go_wp2_with fail
  refine Calls.mono HC.out ?_;rintro x w1 ⟨rfl,hb1⟩
  go_wp2
  go_ret2
  exact ⟨none,0,rfl,Own.nil_,hb1⟩
 | true =>
 obtain ⟨hR1,hR2⟩:=hR.out
 rw [if_pos rfl] at hR1 hR2
 subst hR2
 replace hR1:=Lib.hid hR1
 replace HK:=Lib.hid (HK.out rfl)
 clear hR
 go_enter Tryz.func16,Tryz.ntmps16
 go_wp2_with fail
 refine Calls.mono HC.out ?_;rintro x w1 ⟨rfl,hb1⟩
 have L0:AppL w 2 ((dt 0).map ic) (.slice (some ⟨w1.heap.size,0,none⟩) 0 0) (w1.alloc (.cells #[] 2)):=⟨(by repeat first | with_reducible (first | exact hb1 | apply below_drewN' | apply Below.drew | refine Below.alloc ?_ ?_ _ | refine Below.setCell ?_ ?_ _) | exact hb1 | omega | (simp <;> omega) | (have:=(hb1).size;first | omega | (simp <;> omega))),by rw [hd0.out];exact Own.empty hb1.size⟩
 go_wp2_with fail
 go_loopw [4,5] (fun o i wr=>∃ k:Nat,k ≤ es.length∧i=.int .i64 k∧AppL w 2 ((dt k).map ic) o wr) (fun _ i _=>es.length - (intOf i).toNat)
 case atStart=>exact ⟨0,Nat.zero_le _,rfl,L0⟩
 case round =>
  clear L0
  obtain ⟨k,hk,rfl,hL⟩:=hrel
  by_cases hlt:k < es.length
  ·have hnx:=Lib.hid (hds.out k hlt)
   have hkl:=Lib.hid (hdl.out k)
   obtain ⟨b,off,rfl,hbB,hc'⟩:=hs.rg (i:=k) (by simpa using hlt)
   simp only [List.getElem_map] at hc'
   replace hc':=rangeAt_below hc' hL.hb hbB
   have hcl:es[k].cells.length=20:=rfl
   have hlen:(es[k].e.r.cells es[k].A es[k].c).length=17:=rfl
   have hon:∀ v ∈ es[k].cells,v.oneCell'=true:=es[k].e.one es[k].A es[k].c
   have x2:wr.rangeAt b (off+k * 20+2) (es[k].e.r.cells es[k].A es[k].c):=fun j v hv=>by
    have hj:j < 17:=(List.getElem?_eq_some_iff.1 hv).1
    have h:=hc' (2+j) v (by
     show (([Value.string es[k].e.ti,.int .i64 es[k].e.ve] ++ es[k].e.r.cells es[k].A es[k].c) ++ [.int .i64 es[k].e.ba])[2+j]?=some v
     rw [List.getElem?_append_left (by simp [Rl.len];omega),List.getElem?_append_right (by simp),List.length_cons,List.length_cons,List.length_nil,Nat.zero_add,Nat.add_sub_cancel_left]
     exact hv)
    rw [Nat.add_assoc (off+k * 20)]
    exact h
   have hcall:=Lib.hid (HK.out k hlt _ hL.hb)
   clear hc' hcl hon
   generalize es[k].e.r.kept=kp at *
   generalize es[k].e.r.cells es[k].A es[k].c=rc at *
   go_wp2_with (first | (refine wpList_load_mid rfl 33 _ rfl b (off+k * 20+2) rfl rc _ x2 Tryz.underlying33 rfl (by rw [hlen];kernel_rfl) ?_) | fail)
   clear x2
   refine Calls.mono hcall.out ?_;rintro x w2 ⟨rfl,hb2⟩
   replace hL:=hL.below hb2
   clear hcall hb2
   cases kp with
   | true =>
    replace hnx:Hid (dt (k+1)=dt k ++ [(k:Int)]):=Lib.hid (hnx.out.trans (if_pos (by first | rfl | trivial)))
    have hws:=hL.hb.size
    go_wp2_with (at_builtin;refine wpList_append_rows _ rfl _ _ _ rfl w.heap.size 2 ii _ 1 8 Tryz.underlying27 hi hz0 hz1 hz2 rfl (by omega) _ _ rfl (hL.o.alloc _) _ _ _ _ ([(k:Int)].map ic) rfl rfl (Sl.blkInts (Blk.new w2 2 _) [(k:Int)] rfl) (ic_one (x:=[(k:Int)])) (by simp;have:=hkl.out;unfold maxLen;omega) (by simp;have:=hkl.out;omega) (by first | omega | (simp only [];omega) | (simp;omega)) ?_;intro v1 w3 hO2 hg2 hat;have hL2:=(hL.alloc _).app hg2 hO2)
    go_roundw
    case rel=>exact ⟨k+1,by omega,by go_num,by rw [hnx.out,List.map_append];exact hL2⟩
    case measure=>simp [intOf];omega
   | false =>
    replace hnx:Hid (dt (k+1)=dt k):=Lib.hid (hnx.out.trans (if_neg (by simp)))
    go_wp2
    go_roundw
    case rel=>exact ⟨k+1,by omega,by go_num,by rw [hnx.out];exact hL⟩
    case measure=>simp [intOf];omega
  ·have:k=es.length:=by omega
   subst this
   have hO:=hL.o
   have hbw:=hL.hb
   rw [← hR1.out] at hO
   obtain ⟨A9,c9,hv,_⟩:=hO.form
   rw [List.length_map] at hv
   subst hv
   clear hL
   go_wp2
   go_ret2
   exact ⟨A9,c9,rfl,hO,hbw⟩
end Go.Proofs.YtednjmldjbndhaaGreatDoor
