/- Plain facts for the law on the marks of releases. No condition. The laws' comparisons of formulas, charts and releases: what they answer at any two. Conditions: the lengths. -/
import Derived.Test.YtednjmldjbndhaaGreatDoorKMr20
import Derived.Test.YtednjmldjbndhaaGreatDoorKMr22
import Derived.Test.YtednjmldjbndhaaGreatDoorKMr23
import Derived.Test.YtednjmldjbndhaaGreatDoorKMr24
import Derived.Test.YtednjmldjbndhaaGreatDoorKMr26
set_option linter.unusedSimpArgs false
set_option linter.unusedVariables false
set_option maxRecDepth 100000
set_option maxHeartbeats 8000000
namespace Go.Proofs.YtednjmldjbndhaaGreatDoor
open Go.Shelf Go.RowKit Go.Lib Go.Sort
theorem tit_strict (l:List En):LStrict ltStr (titR l):=by
 unfold titR
 split
 ·exact compact_strict totS swo_ltStr (sortS_sorted _)
 ·exact List.Pairwise.nil
theorem best_max {l:List En} {t:ByteArray}:∀ k,k ≤ l.length→∀ (i:Nat) (hi:i < l.length),i < k→(l[i].ti.toList == t.toList)=true→∃ (j:Nat) (hj:j < l.length),bestTo l t k=(j:Int)∧l[i].ve ≤ l[j].ve
 | 0,_,i,_,h,_=>by omega
 | k+1,hk,i,hi,hik,ht=>by
  have hkl:k < l.length:=by omega
  have hbd:=bestTo_bd l t k
  rw [bestTo_succ hkl]
  by_cases hc:((l[k].ti.toList == t.toList) && (decide (bestTo l t k < 0) || newer l (bestTo l t k) l[k]))=true
  ·rw [if_pos hc]
   refine ⟨k,hkl,rfl,?_⟩
   by_cases h:i=k
   ·subst h;exact Int.le_refl _
   ·obtain ⟨j,hj,hb,hv⟩:=best_max k (by omega) i hi (by omega) ht
    rw [Bool.and_eq_true,Bool.or_eq_true,decide_eq_true_eq] at hc
    rcases hc.2 with h2 | h2
    ·omega
    ·unfold newer at h2
     rw [hb,Int.toNat_natCast,List.getElem?_eq_getElem hj] at h2
     simp only [decide_eq_true_eq] at h2
     omega
  ·rw [if_neg hc]
   by_cases h:i=k
   ·subst h
    rw [ht] at hc
    simp only [Bool.true_and,Bool.or_eq_true,decide_eq_true_eq,not_or] at hc
    obtain ⟨h1,h2⟩:=hc
    obtain ⟨m,hm⟩:=Int.eq_ofNat_of_zero_le (show 0 ≤ bestTo l t i by omega)
    have hml:m < l.length:=by omega
    refine ⟨m,hml,hm,?_⟩
    unfold newer at h2
    rw [hm] at h2
    simp only [Int.ofNat_eq_natCast,Int.toNat_natCast,List.getElem?_eq_getElem hml,decide_eq_true_eq] at h2
    omega
   ·exact best_max k (by omega) i hi (by omega) ht
theorem lat_facts {l:List En} {t:ByteArray} (h:latC l t=0):∃ (j:Nat) (_:j < l.length),latN l t=(j:Int)∧∀ (i:Nat) (hi:i < l.length),(l[i].ti.toList == t.toList)=true→l[i].ve ≤ (l[j]'(by assumption)).ve:=by
 unfold latC at h
 split at h
 ·rename_i hc
  split at h
  ·cases h
  ·rename_i hb
   have hbd:=bestTo_bd l t l.length
   obtain ⟨m,hm⟩:=Int.eq_ofNat_of_zero_le (show 0 ≤ bestTo l t l.length by omega)
   have hml:m < l.length:=by omega
   refine ⟨m,hml,?_,fun i hi ht=>?_⟩
   ·unfold latN
    rw [if_pos hc,if_neg hb,hm]
   ·obtain ⟨j,hj,hb2,hv⟩:=best_max l.length (Nat.le_refl _) i hi hi ht
    rw [hm] at hb2
    have hmj:m=j:=by (try simp only [Int.ofNat_eq_natCast] at hb2);omega
    subst hmj
    exact hv
 ·cases h
theorem alike_symm (a b:Rl):alike b a=alike a b:=by
 unfold alike sameFB
 simp only [eq_comm (a:=b.fd),eq_comm (a:=b.ft),eq_comm (a:=b.l),eq_comm (a:=b.lud),eq_comm (a:=b.lut),eq_comm (a:=b.hud),eq_comm (a:=b.hut),eq_comm (a:=b.lvd),eq_comm (a:=b.lvt),eq_comm (a:=b.hvd),eq_comm (a:=b.hvt),BEq.comm (a:=b.wd),BEq.comm (a:=b.lf),BEq.comm (a:=b.rt),BEq.comm (a:=b.ey),BEq.comm (a:=b.bo),BEq.comm (a:=b.nm.toList)]
end Go.Proofs.YtednjmldjbndhaaGreatDoor
namespace Go.Proofs.YtednjmldjbndhaaGreatDoor
open Go.RowKit
theorem likeIntsV_c (A A':Option Addr) (c c':Nat) (l l':List Int) (w:World) (hl:l.length ≤ 1048576) (_:l'.length ≤ 1048576) (hs:Sl w w.heap.size 1 A (l.map ic)) (hs':Sl w w.heap.size 1 A' (l'.map ic)) :
  Calls Tryz.prog 18 #[.slice A l.length c,.slice A' l'.length c'] w fun e w'=>e=.returned (.bool (decide (l=l')))∧Below w.heap.size w w':=by
 by_cases hne:l.length=l'.length
 ·have hne1:((l.length:Int) != (l'.length:Int))=false:=by simp [hne]
  go_enter Tryz.func18,Tryz.ntmps18
  go_wp2_with fail
  go_loopw [5] (fun i wr=>∃ k:Nat,k ≤ l.length∧i=.int .i64 k∧Below w.heap.size w wr∧Hid (l.take k=l'.take k)) (fun i _=>l.length - (intOf i).toNat)
  case atStart=>exact ⟨0,Nat.zero_le _,rfl,Below.refl _ _,(show l.take 0=l'.take 0 from rfl)⟩
  case round =>
   obtain ⟨k,hk,rfl,hb,ht⟩:=hrel
   by_cases hlt:k < l.length
   ·have hlt':k < l'.length:=by omega
    obtain ⟨b,off,rfl,hbB,hc⟩:=hs.int hlt
    obtain ⟨b',off',rfl,hbB',hc'⟩:=hs'.int hlt'
    have c0:wr.cell? ⟨b,off+k,none⟩=some (.int .i64 l[k]):=by rw [hb.cell hbB];exact hc
    have d0:wr.cell? ⟨b',off'+k,none⟩=some (.int .i64 l'[k]):=by rw [hb.cell hbB'];exact hc'
    have hnx:=Lib.hid (take_eq_next hlt hlt' ht.out)
    have hno:=Lib.hid (take_ne hlt hlt')
    clear hc hc'
    generalize l[k]=x at *
    generalize l'[k]=y at *
    by_cases hxy:x=y
    ·have hq:(x != y)=false:=by simp [hxy]
     replace hnx:=Lib.hid (hnx.out hxy)
     clear hxy hno
     go_wp2_with fail
     go_quiet (fail)
     go_wp2
     go_roundw
     case rel=>exact ⟨k+1,by omega,by go_num,(by repeat first | with_reducible (first | exact hb | apply below_drewN' | apply Below.drew | refine Below.alloc ?_ ?_ _ | refine Below.setCell ?_ ?_ _) | exact hb | omega | (simp <;> omega) | (have:=(hb).size;first | omega | (simp <;> omega))),hnx⟩
     case measure=>simp [intOf];omega
    ·have hq:(x != y)=true:=by simp [hxy]
     have hd:Hid (decide (l=l')=false):=Lib.hid (decide_eq_false (hno.out hxy))
     clear hxy hno hnx
     go_wp2_with fail
     go_quiet (fail)
     go_wp2
     go_ret
     exact ⟨by rw [hd.out];rfl,(by repeat first | with_reducible (first | exact hb | apply below_drewN' | apply Below.drew | refine Below.alloc ?_ ?_ _ | refine Below.setCell ?_ ?_ _) | exact hb | omega | (simp <;> omega) | (have:=(hb).size;first | omega | (simp <;> omega)))⟩
   ·have:k=l.length:=by omega
    subst this
    have hd:Hid (decide (l=l')=true):=Lib.hid (decide_eq_true (by have:=ht.out;rwa [List.take_length,hne,List.take_length] at this))
    go_wp2
    go_ret
    exact ⟨by rw [hd.out];rfl,hb⟩
 ·have hne1:((l.length:Int) != (l'.length:Int))=true:=by simp;omega
  have hd:Hid (decide (l=l')=false):=Lib.hid (decide_eq_false (fun h=>hne (by rw [h])))
  go_enter Tryz.func18,Tryz.ntmps18
  go_wp2
  go_ret
  exact ⟨by rw [hd.out];rfl,Below.refl _ _⟩
theorem likeFormulas_c (fd ft:Int) (s:ByteArray) (A:Option Addr) (c:Nat) (l:List Int) (fd' ft':Int) (s':ByteArray) (A':Option Addr) (c':Nat) (l':List Int) (w:World) (hl:l.length ≤ 1048576) (hl':l'.length ≤ 1048576) (hs:Sl w w.heap.size 1 A (l.map ic)) (hs':Sl w w.heap.size 1 A' (l'.map ic)) :
  Calls Tryz.prog 94 #[.agg #[.int .i64 fd,.int .i64 ft,.string s,.slice A l.length c],.agg #[.int .i64 fd',.int .i64 ft',.string s',.slice A' l'.length c']] w fun e w'=>e=.returned (.bool (sameFB fd ft s l fd' ft' s' l'))∧Below w.heap.size w w':=by
 have hW:Below w.heap.size w ((w.alloc (.cells #[.int .i64 fd,.int .i64 ft,.string s,.slice A l.length c] 29)).alloc (.cells #[.int .i64 fd',.int .i64 ft',.string s',.slice A' l'.length c'] 29)):=(by repeat first | with_reducible (first | exact Below.refl _ _ | apply below_drewN' | apply Below.drew | refine Below.alloc ?_ ?_ _ | refine Below.setCell ?_ ?_ _) | exact Below.refl _ _ | omega | (simp <;> omega) | (have:=(Below.refl _ _).size;first | omega | (simp <;> omega)))
 have hE:=Lib.hid (likeIntsV_c A A' c c' l l' _ hl hl' ((hs.below hW).more hW.size) ((hs'.below hW).more hW.size))
 have hG:Tryz.prog.eqGuardType Tryz.prog.depth 26=false:=by kernel_rfl
 have hF:=eqFig2 fd ft fd' ft'
 have hR:Hid (sameFB fd ft s l fd' ft' s' l'=((decide (fd=fd') && decide (ft=ft')) && (s.toList == s'.toList) && decide (l=l'))):=rfl
 generalize (decide (fd=fd') && decide (ft=ft'))=q1 at *
 generalize hq2:(s.toList == s'.toList)=q2 at *
 generalize decide (l=l')=q3 at *
 clear hs hs'
 cases q1
 all_goals
  cases q2
  all_goals
   go_enter Tryz.func94,Tryz.ntmps94
   go_wp2_with (go_at_call 18;refine Calls.mono hE.out ?_;rintro e w1 ⟨rfl,hb1⟩;have hW1:=hW.trans (hb1.mono hW.size))
   go_ret
   exact ⟨by rw [hR.out];rfl,by first | exact hW1 | exact hW⟩
end Go.Proofs.YtednjmldjbndhaaGreatDoor
