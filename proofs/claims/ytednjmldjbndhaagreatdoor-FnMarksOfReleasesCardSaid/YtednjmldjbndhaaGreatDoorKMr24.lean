/- Equality of slices of numbers and of formulas: the program's and the reference's. Conditions: the lengths. -/
import Derived.Laws.StructEq
import Derived.Test.YtednjmldjbndhaaGreatDoorKMr18
import Derived.Test.YtednjmldjbndhaaGreatDoorKMr2
import Derived.Test.YtednjmldjbndhaaGreatDoorKMr8
set_option linter.unusedSimpArgs false
set_option linter.unusedVariables false
set_option maxRecDepth 100000
set_option maxHeartbeats 8000000
namespace Go.Proofs.YtednjmldjbndhaaGreatDoor
open Go.RowKit
theorem take_ne {l l':List Int} {k:Nat} (h:k < l.length) (h':k < l'.length) (hn:l[k] ≠ l'[k]):¬ l=l':=by
 rintro rfl
 exact hn rfl
theorem take_eq_next {l l':List Int} {k:Nat} (h:k < l.length) (h':k < l'.length) (ht:l.take k=l'.take k) (he:l[k]=l'[k]):l.take (k+1)=l'.take (k+1):=by
 rw [List.take_succ_eq_append_getElem h,List.take_succ_eq_append_getElem h',ht,he]
theorem equalInt_c (A A':Option Addr) (c c':Nat) (l l':List Int) (w:World) (hl:l.length ≤ 1048576) (_:l'.length ≤ 1048576) (hs:Sl w w.heap.size 1 A (l.map ic)) (hs':Sl w w.heap.size 1 A' (l'.map ic)) :
  Calls Tryz.prog 86 #[.slice A l.length c,.slice A' l'.length c'] w fun e w'=>e=.returned (.bool (decide (l=l')))∧Below w.heap.size w w':=by
 by_cases hne:l.length=l'.length
 ·have hne1:((l.length:Int) != (l'.length:Int))=false:=by simp [hne]
  go_enter Tryz.func86,Tryz.ntmps86
  go_wp2_with fail
  go_loopw [13] (fun i wr=>∃ k:Nat,k ≤ l.length∧i=.int .i64 k∧Below w.heap.size w wr∧Hid (l.take k=l'.take k)) (fun i _=>l.length - (intOf i).toNat)
  case atStart=>exact ⟨0,Nat.zero_le _,rfl,Below.refl _ _,(show l.take 0=l'.take 0 from rfl)⟩
  case round =>
   obtain ⟨k,hk,rfl,hb,ht⟩:=hrel
   by_cases hlt:k < l.length
   ·have hlt':k < l'.length:=by omega
    obtain ⟨b,off,rfl,hbB,hc⟩:=hs.int hlt
    obtain ⟨b',off',rfl,hbB',hc'⟩:=hs'.int hlt'
    have c0:wr.cell? ⟨b,off+k,none⟩=some (.int .i64 l[k]):=by rw [hb.cell hbB];exact hc
    have d0:wr.cell? ⟨b',off'+k,none⟩=some (.int .i64 l'[k]):=by rw [hb.cell hbB'];exact hc'
    have hnx:=Lib.hid (take_eq_next hlt hlt' ht.out)
    have hno:=Lib.hid (take_ne hlt hlt')
    clear hc hc'
    generalize l[k]=x at *
    generalize l'[k]=y at *
    by_cases hxy:x=y
    ·have hq:(x != y)=false:=by simp [hxy]
     replace hnx:=Lib.hid (hnx.out hxy)
     clear hxy hno
     go_wp2_with fail
     go_quiet (fail)
     go_wp2
     go_roundw
     case rel=>exact ⟨k+1,by omega,by go_num,(by repeat first | with_reducible (first | exact hb | apply below_drewN' | apply Below.drew | refine Below.alloc ?_ ?_ _ | refine Below.setCell ?_ ?_ _) | exact hb | omega | (simp <;> omega) | (have:=(hb).size;first | omega | (simp <;> omega))),hnx⟩
     case measure=>simp [intOf];omega
    ·have hq:(x != y)=true:=by simp [hxy]
     have hd:Hid (decide (l=l')=false):=Lib.hid (decide_eq_false (hno.out hxy))
     clear hxy hno hnx
     go_wp2_with fail
     go_quiet (fail)
     go_wp2
     go_ret
     exact ⟨by rw [hd.out];rfl,(by repeat first | with_reducible (first | exact hb | apply below_drewN' | apply Below.drew | refine Below.alloc ?_ ?_ _ | refine Below.setCell ?_ ?_ _) | exact hb | omega | (simp <;> omega) | (have:=(hb).size;first | omega | (simp <;> omega)))⟩
   ·have:k=l.length:=by omega
    subst this
    have hd:Hid (decide (l=l')=true):=Lib.hid (decide_eq_true (by have:=ht.out;rwa [List.take_length,hne,List.take_length] at this))
    go_wp2
    go_ret
    exact ⟨by rw [hd.out];rfl,hb⟩
 ·have hne1:((l.length:Int) != (l'.length:Int))=true:=by simp;omega
  have hd:Hid (decide (l=l')=false):=Lib.hid (decide_eq_false (fun h=>hne (by rw [h])))
  go_enter Tryz.func86,Tryz.ntmps86
  go_wp2
  go_ret
  exact ⟨by rw [hd.out];rfl,Below.refl _ _⟩
theorem l01Same_c (A A':Option Addr) (c c':Nat) (l l':List Int) (w:World) (hl:l.length ≤ 1048576) (_:l'.length ≤ 1048576) (hs:Sl w w.heap.size 1 A (l.map ic)) (hs':Sl w w.heap.size 1 A' (l'.map ic)) :
  Calls Tryz.prog 90 #[.slice A l.length c,.slice A' l'.length c'] w fun e w'=>e=.returned (.bool (decide (l=l')))∧Below w.heap.size w w':=by
 by_cases hne:l.length=l'.length
 ·have hne1:((l.length:Int) != (l'.length:Int))=false:=by simp [hne]
  go_enter Tryz.func90,Tryz.ntmps90
  go_wp2_with fail
  go_loopw [5] (fun i wr=>∃ k:Nat,k ≤ l.length∧i=.int .i64 k∧Below w.heap.size w wr∧Hid (l.take k=l'.take k)) (fun i _=>l.length - (intOf i).toNat)
  case atStart=>exact ⟨0,Nat.zero_le _,rfl,Below.refl _ _,(show l.take 0=l'.take 0 from rfl)⟩
  case round =>
   obtain ⟨k,hk,rfl,hb,ht⟩:=hrel
   by_cases hlt:k < l.length
   ·have hlt':k < l'.length:=by omega
    obtain ⟨b,off,rfl,hbB,hc⟩:=hs.int hlt
    obtain ⟨b',off',rfl,hbB',hc'⟩:=hs'.int hlt'
    have c0:wr.cell? ⟨b,off+k,none⟩=some (.int .i64 l[k]):=by rw [hb.cell hbB];exact hc
    have d0:wr.cell? ⟨b',off'+k,none⟩=some (.int .i64 l'[k]):=by rw [hb.cell hbB'];exact hc'
    have hnx:=Lib.hid (take_eq_next hlt hlt' ht.out)
    have hno:=Lib.hid (take_ne hlt hlt')
    clear hc hc'
    generalize l[k]=x at *
    generalize l'[k]=y at *
    by_cases hxy:x=y
    ·have hq:(x != y)=false:=by simp [hxy]
     replace hnx:=Lib.hid (hnx.out hxy)
     clear hxy hno
     go_wp2_with fail
     go_quiet (fail)
     go_wp2
     go_roundw
     case rel=>exact ⟨k+1,by omega,by go_num,(by repeat first | with_reducible (first | exact hb | apply below_drewN' | apply Below.drew | refine Below.alloc ?_ ?_ _ | refine Below.setCell ?_ ?_ _) | exact hb | omega | (simp <;> omega) | (have:=(hb).size;first | omega | (simp <;> omega))),hnx⟩
     case measure=>simp [intOf];omega
    ·have hq:(x != y)=true:=by simp [hxy]
     have hd:Hid (decide (l=l')=false):=Lib.hid (decide_eq_false (hno.out hxy))
     clear hxy hno hnx
     go_wp2_with fail
     go_quiet (fail)
     go_wp2
     go_ret
     exact ⟨by rw [hd.out];rfl,(by repeat first | with_reducible (first | exact hb | apply below_drewN' | apply Below.drew | refine Below.alloc ?_ ?_ _ | refine Below.setCell ?_ ?_ _) | exact hb | omega | (simp <;> omega) | (have:=(hb).size;first | omega | (simp <;> omega)))⟩
   ·have:k=l.length:=by omega
    subst this
    have hd:Hid (decide (l=l')=true):=Lib.hid (decide_eq_true (by have:=ht.out;rwa [List.take_length,hne,List.take_length] at this))
    go_wp2
    go_ret
    exact ⟨by rw [hd.out];rfl,hb⟩
 ·have hne1:((l.length:Int) != (l'.length:Int))=true:=by simp;omega
  have hd:Hid (decide (l=l')=false):=Lib.hid (decide_eq_false (fun h=>hne (by rw [h])))
  go_enter Tryz.func90,Tryz.ntmps90
  go_wp2
  go_ret
  exact ⟨by rw [hd.out];rfl,Below.refl _ _⟩
theorem eqFig2 (a b c d:Int) (w:World):Sem.run Tryz.prog (binOp .eql 26 (.agg #[.int .i64 a,.int .i64 b]) (.agg #[.int .i64 c,.int .i64 d])) w=.ok (.bool (decide (a=c) && decide (b=d))) w:=by
 have hS:Tryz.prog.underlying 26=some (.struct (Tryz.prog.fieldsOf 26)):=by kernel_rfl
 have hp:Tryz.prog.stoodInHeld 26=false:=by kernel_rfl
 have u3:=Tryz.underlying2
 have a3:=Tryz.isAgg2
 have z3:=Tryz.sizeOf2
 by_cases h1:a=c <;> by_cases h2:b=d
 all_goals
  rw [run_eql_struct,show (10000:Nat)=9999+1 from rfl,run_equalIn_agg w 9999 26 _ _ hS hp]
  simp only [Program.fieldsOf,Tryz.underlying26]
  go_simp
def sameFB (fd ft:Int) (s:ByteArray) (l:List Int) (fd' ft':Int) (s':ByteArray) (l':List Int):Bool:=(decide (fd=fd') && decide (ft=ft')) && (s.toList == s'.toList) && decide (l=l')
theorem sameFormula_c (fd ft:Int) (s:ByteArray) (A:Option Addr) (c:Nat) (l:List Int) (fd' ft':Int) (s':ByteArray) (A':Option Addr) (c':Nat) (l':List Int) (w:World) (hl:l.length ≤ 1048576) (hl':l'.length ≤ 1048576) (hs:Sl w w.heap.size 1 A (l.map ic)) (hs':Sl w w.heap.size 1 A' (l'.map ic)) :
  Calls Tryz.prog 56 #[.agg #[.int .i64 fd,.int .i64 ft,.string s,.slice A l.length c],.agg #[.int .i64 fd',.int .i64 ft',.string s',.slice A' l'.length c']] w fun e w'=>e=.returned (.bool (sameFB fd ft s l fd' ft' s' l'))∧Below w.heap.size w w':=by
 have hW:Below w.heap.size w ((w.alloc (.cells #[.int .i64 fd,.int .i64 ft,.string s,.slice A l.length c] 29)).alloc (.cells #[.int .i64 fd',.int .i64 ft',.string s',.slice A' l'.length c'] 29)):=(by repeat first | with_reducible (first | exact Below.refl _ _ | apply below_drewN' | apply Below.drew | refine Below.alloc ?_ ?_ _ | refine Below.setCell ?_ ?_ _) | exact Below.refl _ _ | omega | (simp <;> omega) | (have:=(Below.refl _ _).size;first | omega | (simp <;> omega)))
 have hE:=Lib.hid (equalInt_c A A' c c' l l' _ hl hl' ((hs.below hW).more hW.size) ((hs'.below hW).more hW.size))
 have hG:Tryz.prog.eqGuardType Tryz.prog.depth 26=false:=by kernel_rfl
 have hF:=eqFig2 fd ft fd' ft'
 have hR:Hid (sameFB fd ft s l fd' ft' s' l'=((decide (fd=fd') && decide (ft=ft')) && (s.toList == s'.toList) && decide (l=l'))):=rfl
 generalize (decide (fd=fd') && decide (ft=ft'))=q1 at *
 generalize hq2:(s.toList == s'.toList)=q2 at *
 generalize decide (l=l')=q3 at *
 clear hs hs'
 cases q1
 all_goals
  cases q2
  all_goals
   go_enter Tryz.func56,Tryz.ntmps56
   go_wp2_with (go_at_call 86;refine Calls.mono hE.out ?_;rintro e w1 ⟨rfl,hb1⟩;have hW1:=hW.trans (hb1.mono hW.size))
   go_ret
   exact ⟨by rw [hR.out];rfl,by first | exact hW1 | exact hW⟩
theorem l21Same_c (fd ft:Int) (s:ByteArray) (A:Option Addr) (c:Nat) (l:List Int) (fd' ft':Int) (s':ByteArray) (A':Option Addr) (c':Nat) (l':List Int) (w:World) (hl:l.length ≤ 1048576) (hl':l'.length ≤ 1048576) (hs:Sl w w.heap.size 1 A (l.map ic)) (hs':Sl w w.heap.size 1 A' (l'.map ic)) :
  Calls Tryz.prog 58 #[.agg #[.int .i64 fd,.int .i64 ft,.string s,.slice A l.length c],.agg #[.int .i64 fd',.int .i64 ft',.string s',.slice A' l'.length c']] w fun e w'=>e=.returned (.bool (sameFB fd ft s l fd' ft' s' l'))∧Below w.heap.size w w':=by
 have hW:Below w.heap.size w ((w.alloc (.cells #[.int .i64 fd,.int .i64 ft,.string s,.slice A l.length c] 29)).alloc (.cells #[.int .i64 fd',.int .i64 ft',.string s',.slice A' l'.length c'] 29)):=(by repeat first | with_reducible (first | exact Below.refl _ _ | apply below_drewN' | apply Below.drew | refine Below.alloc ?_ ?_ _ | refine Below.setCell ?_ ?_ _) | exact Below.refl _ _ | omega | (simp <;> omega) | (have:=(Below.refl _ _).size;first | omega | (simp <;> omega)))
 have hE:=Lib.hid (l01Same_c A A' c c' l l' _ hl hl' ((hs.below hW).more hW.size) ((hs'.below hW).more hW.size))
 have hG:Tryz.prog.eqGuardType Tryz.prog.depth 26=false:=by kernel_rfl
 have hF:=eqFig2 fd ft fd' ft'
 have hR:Hid (sameFB fd ft s l fd' ft' s' l'=((decide (fd=fd') && decide (ft=ft')) && (s.toList == s'.toList) && decide (l=l'))):=rfl
 generalize (decide (fd=fd') && decide (ft=ft'))=q1 at *
 generalize hq2:(s.toList == s'.toList)=q2 at *
 generalize decide (l=l')=q3 at *
 clear hs hs'
 cases q1
 all_goals
  cases q2
  all_goals
   go_enter Tryz.func58,Tryz.ntmps58
   go_wp2_with (go_at_call 90;refine Calls.mono hE.out ?_;rintro e w1 ⟨rfl,hb1⟩;have hW1:=hW.trans (hb1.mono hW.size))
   go_ret
   exact ⟨by rw [hR.out];rfl,by first | exact hW1 | exact hW⟩
end Go.Proofs.YtednjmldjbndhaaGreatDoor
