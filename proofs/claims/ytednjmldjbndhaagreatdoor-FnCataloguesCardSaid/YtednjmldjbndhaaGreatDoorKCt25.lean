/- OriginOf and DerivedFrom: the program's and the reference's. Conditions: the lengths. -/
import Derived.Test.YtednjmldjbndhaaGreatDoorKCt22
set_option linter.unusedSimpArgs false
set_option linter.unusedVariables false
set_option maxRecDepth 100000
set_option maxHeartbeats 8000000
namespace Go.Proofs.YtednjmldjbndhaaGreatDoor
open Go.RowKit
def enC (l:List En) (i:Int):Int:=if catB l=true then (if inB i 0 ((l.length:Int) - 1)=true then 0 else 2) else 1
def orgR (l:List En) (i:Int):List Int:=if enC l i=0 then chain l l.length i else []
def derTo (l:List En) (x:Int):Nat→List Int
 | 0=>[]
 | k+1=>if x ∈ chain l l.length (k:Int) then derTo l x k ++ [(k:Int)] else derTo l x k
def derR (l:List En) (i:Int):List Int:=if enC l i=0 then derTo l i l.length else []
theorem derTo_len (l:List En) (x:Int):∀ k:Nat,(derTo l x k).length ≤ k
 | 0=>Nat.le_refl _
 | k+1=>by
  have:=derTo_len l x k
  unfold derTo
  split
  ·simp;omega
  ·omega
theorem orgR_len (l:List En) (i:Int):(orgR l i).length ≤ l.length:=by
 unfold orgR
 split
 ·exact chain_len _ _ _
 ·exact Nat.zero_le _
theorem derR_len (l:List En) (i:Int):(derR l i).length ≤ l.length:=by
 unfold derR
 split
 ·exact derTo_len _ _ _
 ·exact Nat.zero_le _
theorem enC_zero {l:List En} {i:Int} (h:enC l i=0):catB l=true∧0 ≤ i∧i < (l.length:Int):=by
 unfold enC at h
 split at h
 ·split at h
  ·rename_i h1 h2
   have:=inB_true.1 h2
   exact ⟨h1,by omega,by omega⟩
  ·cases h
 ·cases h
theorem enC_or (l:List En) (i:Int):enC l i=0 ∨ enC l i=1 ∨ enC l i=2:=by
 unfold enC
 split
 ·split
  ·exact .inl rfl
  ·exact .inr (.inr rfl)
 ·exact .inr (.inl rfl)
theorem checkEntry_c (A:Option Addr) (c:Nat) (es:List EnR) (i:Int) (w:World) (E:EnsIn w A es) (hc:es.length ≤ c) :
  Calls Tryz.prog 45 #[.slice A es.length c,.int .i64 i] w fun x w'=>x=.returned (.int .i64 (enC (ens es) i))∧Below w.heap.size w w':=by
 have hl:=E.n
 have hc':Hid (es.length ≤ c):=hc
 have HC:=Lib.hid (implIsCat_c A c es w E hc)
 have HI:=Lib.hid (fun W=>within_c i 0 ((es.length:Int) - 1) W)
 have hR:Hid (enC (ens es) i=if catB (ens es)=true then (if inB i 0 ((es.length:Int) - 1)=true then 0 else 2) else 1):=Lib.hid (by unfold enC;rw [ens_len])
 have hw:IntKind.i64.wrap ((es.length:Int) - 1)=(es.length:Int) - 1:=IntWalk.i64_in _ (by omega)
 clear E hc hc'
 generalize catB (ens es)=cb at *
 generalize inB i 0 ((es.length:Int) - 1)=bi at *
 generalize enC (ens es) i=r at *
 cases cb with
 | false =>
  obtain rfl:=hR.out
  go_enter Tryz.func45,Tryz.ntmps45
  go_wp2_with fail
  refine Calls.mono HC.out ?_;rintro x w1 ⟨rfl,hb1⟩
  go_wp2
  go_ret
  exact ⟨rfl,hb1⟩
 | true =>
 cases bi with
 | false =>
  obtain rfl:=hR.out
  go_enter Tryz.func45,Tryz.ntmps45
  go_wp2_with fail
  refine Calls.mono HC.out ?_;rintro x w1 ⟨rfl,hb1⟩
  go_wp2_with (go_at_call 66;refine Calls.mono (HI.out _) ?_;rintro x w3 ⟨rfl,rfl⟩)
  go_ret
  exact ⟨rfl,hb1⟩
 | true =>
  obtain rfl:=hR.out
  go_enter Tryz.func45,Tryz.ntmps45
  go_wp2_with fail
  refine Calls.mono HC.out ?_;rintro x w1 ⟨rfl,hb1⟩
  go_wp2_with (go_at_call 66;refine Calls.mono (HI.out _) ?_;rintro x w3 ⟨rfl,rfl⟩)
  go_ret
  exact ⟨rfl,hb1⟩
theorem l33Code_c (A:Option Addr) (c:Nat) (es:List EnR) (i:Int) (w:World) (E:EnsIn w A es) (hc:es.length ≤ c) :
  Calls Tryz.prog 47 #[.slice A es.length c,.int .i64 i] w fun x w'=>x=.returned (.int .i64 (enC (ens es) i))∧Below w.heap.size w w':=by
 have hl:=E.n
 have hc':Hid (es.length ≤ c):=hc
 have HC:=Lib.hid (specIsCat_c A c es w E)
 have HI:=Lib.hid (fun W=>l01In_c i 0 ((es.length:Int) - 1) W)
 have hR:Hid (enC (ens es) i=if catB (ens es)=true then (if inB i 0 ((es.length:Int) - 1)=true then 0 else 2) else 1):=Lib.hid (by unfold enC;rw [ens_len])
 have hw:IntKind.i64.wrap ((es.length:Int) - 1)=(es.length:Int) - 1:=IntWalk.i64_in _ (by omega)
 clear E hc hc'
 generalize catB (ens es)=cb at *
 generalize inB i 0 ((es.length:Int) - 1)=bi at *
 generalize enC (ens es) i=r at *
 cases cb with
 | false =>
  obtain rfl:=hR.out
  go_enter Tryz.func47,Tryz.ntmps47
  go_wp2_with fail
  refine Calls.mono HC.out ?_;rintro x w1 ⟨rfl,hb1⟩
  go_wp2
  go_ret
  exact ⟨rfl,hb1⟩
 | true =>
 cases bi with
 | false =>
  obtain rfl:=hR.out
  go_enter Tryz.func47,Tryz.ntmps47
  go_wp2_with fail
  refine Calls.mono HC.out ?_;rintro x w1 ⟨rfl,hb1⟩
  go_wp2_with (go_at_call 71;refine Calls.mono (HI.out _) ?_;rintro x w3 ⟨rfl,rfl⟩)
  go_ret
  exact ⟨rfl,hb1⟩
 | true =>
  obtain rfl:=hR.out
  go_enter Tryz.func47,Tryz.ntmps47
  go_wp2_with fail
  refine Calls.mono HC.out ?_;rintro x w1 ⟨rfl,hb1⟩
  go_wp2_with (go_at_call 71;refine Calls.mono (HI.out _) ?_;rintro x w3 ⟨rfl,rfl⟩)
  go_ret
  exact ⟨rfl,hb1⟩
theorem implOriginOf_c (A:Option Addr) (c:Nat) (es:List EnR) (i:Int) (w:World) (E:EnsIn w A es) (hc:es.length ≤ c) :
  Calls Tryz.prog 10 #[.slice A es.length c,.int .i64 i] w (PostRows 2 1 (orgR (ens es) i).length ((orgR (ens es) i).map ic) (enC (ens es) i) w):=by
 have HC:=Lib.hid (checkEntry_c A c es i w E hc)
 have HO:=Lib.hid (fun (h:enC (ens es) i=0) W (hW:Below w.heap.size w W)=>originOf_c A c es i W (E.later hW) (enC_zero h).1 (by have h2:=(enC_zero h).2;rw [ens_len] at h2;omega))
 have hR:Hid (orgR (ens es) i=if enC (ens es) i=0 then chain (ens es) es.length i else []):=Lib.hid (by unfold orgR;rw [ens_len])
 have hor:=enC_or (ens es) i
 clear E hc
 generalize orgR (ens es) i=R at *
 generalize chain (ens es) es.length i=ch at *
 generalize enC (ens es) i=r at *
 go_enter Tryz.func10,Tryz.ntmps10
 go_wp2_with fail
 refine Calls.mono HC.out ?_;rintro x w1 ⟨rfl,hb1⟩
 rcases hor with rfl | rfl | rfl
 ·rw [if_pos rfl] at hR
  have hcall:=Lib.hid (HO.out rfl w1 hb1)
  go_wp2_with fail
  refine Calls.mono hcall.out ?_;rintro x w2 ⟨A2,c2,rfl,hO,hb2⟩
  obtain rfl:=hR.out
  have hb:=hb1.trans (hb2.mono hb1.size)
  have hO':=hO.mono hb1.size
  clear hO hcall
  go_wp2
  go_ret2
  exact ⟨A2,c2,rfl,hO',hb⟩
 ·obtain rfl:=hR.out
  go_wp2
  go_ret2
  exact ⟨none,0,rfl,Own.nil_,hb1⟩
 ·obtain rfl:=hR.out
  go_wp2
  go_ret2
  exact ⟨none,0,rfl,Own.nil_,hb1⟩
theorem specOriginOf_c (A:Option Addr) (c:Nat) (es:List EnR) (i:Int) (w:World) (E:EnsIn w A es) (hc:es.length ≤ c) :
  Calls Tryz.prog 11 #[.slice A es.length c,.int .i64 i] w (PostRows 2 1 (orgR (ens es) i).length ((orgR (ens es) i).map ic) (enC (ens es) i) w):=by
 have HC:=Lib.hid (l33Code_c A c es i w E hc)
 have HO:=Lib.hid (fun (h:enC (ens es) i=0) W (hW:Below w.heap.size w W)=>l33Origin_c A c es i W (E.later hW) (enC_zero h).1 (by have h2:=(enC_zero h).2;rw [ens_len] at h2;omega))
 have hR:Hid (orgR (ens es) i=if enC (ens es) i=0 then chain (ens es) es.length i else []):=Lib.hid (by unfold orgR;rw [ens_len])
 have hor:=enC_or (ens es) i
 clear E hc
 generalize orgR (ens es) i=R at *
 generalize chain (ens es) es.length i=ch at *
 generalize enC (ens es) i=r at *
 go_enter Tryz.func11,Tryz.ntmps11
 go_wp2_with fail
 refine Calls.mono HC.out ?_;rintro x w1 ⟨rfl,hb1⟩
 rcases hor with rfl | rfl | rfl
 ·rw [if_pos rfl] at hR
  have hcall:=Lib.hid (HO.out rfl w1 hb1)
  go_wp2_with fail
  refine Calls.mono hcall.out ?_;rintro x w2 ⟨A2,c2,rfl,hO,hb2⟩
  obtain rfl:=hR.out
  have hb:=hb1.trans (hb2.mono hb1.size)
  have hO':=hO.mono hb1.size
  clear hO hcall
  go_wp2
  go_ret2
  exact ⟨A2,c2,rfl,hO',hb⟩
 ·obtain rfl:=hR.out
  go_wp2
  go_ret2
  exact ⟨none,0,rfl,Own.nil_,hb1⟩
 ·obtain rfl:=hR.out
  go_wp2
  go_ret2
  exact ⟨none,0,rfl,Own.nil_,hb1⟩
theorem implDerivedFrom_c (A:Option Addr) (c:Nat) (es:List EnR) (i:Int) (w:World) (E:EnsIn w A es) (hc:es.length ≤ c) :
  Calls Tryz.prog 12 #[.slice A es.length c,.int .i64 i] w (PostRows 2 1 (derR (ens es) i).length ((derR (ens es) i).map ic) (enC (ens es) i) w):=by
 have hl:=E.n
 have HC:=Lib.hid (checkEntry_c A c es i w E hc)
 have HO:=Lib.hid (fun (h:enC (ens es) i=0) (k:Nat) (hk:k < es.length) W (hW:Below w.heap.size w W)=>originOf_c A c es (k:Int) W (E.later hW) (enC_zero h).1 (by omega))
 have hR:Hid (derR (ens es) i=if enC (ens es) i=0 then derTo (ens es) i es.length else []):=Lib.hid (by unfold derR;rw [ens_len])
 have hds:=Lib.hid (fun k:Nat=>(by rw [← ens_len es];rfl:derTo (ens es) i (k+1)=if i ∈ chain (ens es) es.length (k:Int) then derTo (ens es) i k ++ [(k:Int)] else derTo (ens es) i k))
 have hdl:=Lib.hid (derTo_len (ens es) i)
 have hd0:Hid (derTo (ens es) i 0=[]):=Lib.hid rfl
 have hchl:=Lib.hid (fun k:Nat=>chain_len (ens es) es.length (k:Int))
 have hor:=enC_or (ens es) i
 obtain ⟨ii,hi,hz0,hz1,hz2⟩:=info_parts info_Int
 clear E hc
 generalize derR (ens es) i=R at *
 generalize derTo (ens es) i=dt at *
 generalize (fun k:Int=>chain (ens es) es.length k)=ch at *
 generalize enC (ens es) i=r at *
 go_enter Tryz.func12,Tryz.ntmps12
 go_wp2_with fail
 refine Calls.mono HC.out ?_;rintro x w1 ⟨rfl,hb1⟩
 rcases hor with rfl | rfl | rfl
 ·replace hR:=Lib.hid (hR.out.trans (if_pos rfl))
  replace HO:=Lib.hid (HO.out rfl)
  have L0:AppL w 2 ((dt 0).map ic) (.slice (some ⟨w1.heap.size,0,none⟩) 0 0) (w1.alloc (.cells #[] 2)):=⟨(by repeat first | with_reducible (first | exact hb1 | apply below_drewN' | apply Below.drew | refine Below.alloc ?_ ?_ _ | refine Below.setCell ?_ ?_ _) | exact hb1 | omega | (simp <;> omega) | (have:=(hb1).size;first | omega | (simp <;> omega))),by rw [hd0.out];exact Own.empty hb1.size⟩
  go_wp2_with fail
  go_loopw [7,18] (fun o i wr=>∃ k:Nat,k ≤ es.length∧i=.int .i64 k∧AppL w 2 ((dt k).map ic) o wr) (fun _ i _=>es.length - (intOf i).toNat)
  case atStart=>exact ⟨0,Nat.zero_le _,rfl,L0⟩
  case round =>
   clear L0
   obtain ⟨k,hk,rfl,hL⟩:=hrel
   by_cases hlt:k < es.length
   ·have hcall:=Lib.hid (HO.out k hlt _ hL.hb)
    have hnx:=Lib.hid (hds.out k)
    have hkl:=Lib.hid (hdl.out k)
    have hcl:=Lib.hid (hchl.out k)
    generalize chain (ens es) es.length (k:Int)=X at *
    go_wp2_with fail
    refine Calls.mono hcall.out ?_;rintro x w2 ⟨A2,c2,rfl,hO,hb2⟩
    replace hL:=hL.below hb2
    have hcon:=Lib.hid (containsInt_c A2 c2 X i w2 (by have:=hcl.out;omega) hO.sl)
    clear hcall hb2 hO
    by_cases hm:i ∈ X
    ·rw [decide_eq_true hm] at hcon
     replace hnx:=Lib.hid (hnx.out.trans (if_pos hm))
     have hws:=hL.hb.size
     go_wp2_with (first | (go_at_call 49;refine Calls.mono hcon.out ?_;rintro x w3 ⟨rfl,rfl⟩) | (at_builtin;refine wpList_append_rows _ rfl _ _ _ rfl w.heap.size 2 ii _ 1 8 Tryz.underlying27 hi hz0 hz1 hz2 rfl (by omega) _ _ rfl (hL.o.alloc _) _ _ _ _ ([(k:Int)].map ic) rfl rfl (Sl.blkInts (Blk.new w2 2 _) [(k:Int)] rfl) (ic_one (x:=[(k:Int)])) (by simp;have:=hkl.out;unfold maxLen;omega) (by simp;have:=hkl.out;omega) (by first | omega | (simp only [];omega) | (simp;omega)) ?_;intro v1 w3 hO2 hg2 hat;have hL2:=(hL.alloc _).app hg2 hO2))
     go_roundw
     case rel=>exact ⟨k+1,by omega,by go_num,by rw [hnx.out,List.map_append];exact hL2⟩
     case measure=>simp [intOf];omega
    ·rw [decide_eq_false hm] at hcon
     replace hnx:=Lib.hid (hnx.out.trans (if_neg hm))
     go_wp2_with (go_at_call 49;refine Calls.mono hcon.out ?_;rintro x w3 ⟨rfl,rfl⟩)
     go_roundw
     case rel=>exact ⟨k+1,by omega,by go_num,by rw [hnx.out];exact hL⟩
     case measure=>simp [intOf];omega
   ·have:k=es.length:=by omega
    subst this
    have hO:=hL.o
    have hbw:=hL.hb
    rw [← hR.out] at hO
    obtain ⟨A9,c9,hv,_⟩:=hO.form
    rw [List.length_map] at hv
    subst hv
    clear hL
    go_wp2
    go_ret2
    exact ⟨A9,c9,rfl,hO,hbw⟩
 ·obtain rfl:=hR.out
  go_wp2
  go_ret2
  exact ⟨none,0,rfl,Own.nil_,hb1⟩
 ·obtain rfl:=hR.out
  go_wp2
  go_ret2
  exact ⟨none,0,rfl,Own.nil_,hb1⟩
theorem specDerivedFrom_c (A:Option Addr) (c:Nat) (es:List EnR) (i:Int) (w:World) (E:EnsIn w A es) (hc:es.length ≤ c) :
  Calls Tryz.prog 13 #[.slice A es.length c,.int .i64 i] w (PostRows 2 1 (derR (ens es) i).length ((derR (ens es) i).map ic) (enC (ens es) i) w):=by
 have hl:=E.n
 have HC:=Lib.hid (l33Code_c A c es i w E hc)
 have HO:=Lib.hid (fun (h:enC (ens es) i=0) (k:Nat) (hk:k < es.length) W (hW:Below w.heap.size w W)=>l33Origin_c A c es (k:Int) W (E.later hW) (enC_zero h).1 (by omega))
 have hR:Hid (derR (ens es) i=if enC (ens es) i=0 then derTo (ens es) i es.length else []):=Lib.hid (by unfold derR;rw [ens_len])
 have hds:=Lib.hid (fun k:Nat=>(by rw [← ens_len es];rfl:derTo (ens es) i (k+1)=if i ∈ chain (ens es) es.length (k:Int) then derTo (ens es) i k ++ [(k:Int)] else derTo (ens es) i k))
 have hdl:=Lib.hid (derTo_len (ens es) i)
 have hd0:Hid (derTo (ens es) i 0=[]):=Lib.hid rfl
 have hchl:=Lib.hid (fun k:Nat=>chain_len (ens es) es.length (k:Int))
 have hor:=enC_or (ens es) i
 obtain ⟨ii,hi,hz0,hz1,hz2⟩:=info_parts info_Int
 clear E hc
 generalize derR (ens es) i=R at *
 generalize derTo (ens es) i=dt at *
 generalize (fun k:Int=>chain (ens es) es.length k)=ch at *
 generalize enC (ens es) i=r at *
 go_enter Tryz.func13,Tryz.ntmps13
 go_wp2_with fail
 refine Calls.mono HC.out ?_;rintro x w1 ⟨rfl,hb1⟩
 rcases hor with rfl | rfl | rfl
 ·replace hR:=Lib.hid (hR.out.trans (if_pos rfl))
  replace HO:=Lib.hid (HO.out rfl)
  have L0:AppL w 2 ((dt 0).map ic) (.slice (some ⟨w1.heap.size,0,none⟩) 0 0) (w1.alloc (.cells #[] 2)):=⟨(by repeat first | with_reducible (first | exact hb1 | apply below_drewN' | apply Below.drew | refine Below.alloc ?_ ?_ _ | refine Below.setCell ?_ ?_ _) | exact hb1 | omega | (simp <;> omega) | (have:=(hb1).size;first | omega | (simp <;> omega))),by rw [hd0.out];exact Own.empty hb1.size⟩
  go_wp2_with fail
  go_loopw [7,8] (fun o i wr=>∃ k:Nat,k ≤ es.length∧i=.int .i64 k∧AppL w 2 ((dt k).map ic) o wr) (fun _ i _=>es.length - (intOf i).toNat)
  case atStart=>exact ⟨0,Nat.zero_le _,rfl,L0⟩
  case round =>
   clear L0
   obtain ⟨k,hk,rfl,hL⟩:=hrel
   by_cases hlt:k < es.length
   ·have hcall:=Lib.hid (HO.out k hlt _ hL.hb)
    have hnx:=Lib.hid (hds.out k)
    have hkl:=Lib.hid (hdl.out k)
    have hcl:=Lib.hid (hchl.out k)
    generalize chain (ens es) es.length (k:Int)=X at *
    go_wp2_with fail
    refine Calls.mono hcall.out ?_;rintro x w2 ⟨A2,c2,rfl,hO,hb2⟩
    replace hL:=hL.below hb2
    have hcon:=Lib.hid (l01Has_c A2 c2 X i w2 (by have:=hcl.out;omega) hO.sl)
    clear hcall hb2 hO
    by_cases hm:i ∈ X
    ·rw [decide_eq_true hm] at hcon
     replace hnx:=Lib.hid (hnx.out.trans (if_pos hm))
     have hws:=hL.hb.size
     go_wp2_with (first | (go_at_call 50;refine Calls.mono hcon.out ?_;rintro x w3 ⟨rfl,rfl⟩) | (at_builtin;refine wpList_append_rows _ rfl _ _ _ rfl w.heap.size 2 ii _ 1 8 Tryz.underlying27 hi hz0 hz1 hz2 rfl (by omega) _ _ rfl (hL.o.alloc _) _ _ _ _ ([(k:Int)].map ic) rfl rfl (Sl.blkInts (Blk.new w2 2 _) [(k:Int)] rfl) (ic_one (x:=[(k:Int)])) (by simp;have:=hkl.out;unfold maxLen;omega) (by simp;have:=hkl.out;omega) (by first | omega | (simp only [];omega) | (simp;omega)) ?_;intro v1 w3 hO2 hg2 hat;have hL2:=(hL.alloc _).app hg2 hO2))
     go_roundw
     case rel=>exact ⟨k+1,by omega,by go_num,by rw [hnx.out,List.map_append];exact hL2⟩
     case measure=>simp [intOf];omega
    ·rw [decide_eq_false hm] at hcon
     replace hnx:=Lib.hid (hnx.out.trans (if_neg hm))
     go_wp2_with (go_at_call 50;refine Calls.mono hcon.out ?_;rintro x w3 ⟨rfl,rfl⟩)
     go_roundw
     case rel=>exact ⟨k+1,by omega,by go_num,by rw [hnx.out];exact hL⟩
     case measure=>simp [intOf];omega
   ·have:k=es.length:=by omega
    subst this
    have hO:=hL.o
    have hbw:=hL.hb
    rw [← hR.out] at hO
    obtain ⟨A9,c9,hv,_⟩:=hO.form
    rw [List.length_map] at hv
    subst hv
    clear hL
    go_wp2
    go_ret2
    exact ⟨A9,c9,rfl,hO,hbw⟩
 ·obtain rfl:=hR.out
  go_wp2
  go_ret2
  exact ⟨none,0,rfl,Own.nil_,hb1⟩
 ·obtain rfl:=hR.out
  go_wp2
  go_ret2
  exact ⟨none,0,rfl,Own.nil_,hb1⟩
end Go.Proofs.YtednjmldjbndhaaGreatDoor
