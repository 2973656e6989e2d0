/- Whether a figure is within a plan's span: the program's and the reference's. Conditions: the exercise and the figure are valid. -/
import Derived.Test.YtednjmldjbndhaaGreatKGr19
import Derived.Test.YtednjmldjbndhaaGreatKGr21
import Derived.Test.YtednjmldjbndhaaGreatKGr23
import Derived.Test.YtednjmldjbndhaaGreatKGr32
set_option linter.unusedSimpArgs false
set_option linter.unusedVariables false
set_option maxRecDepth 100000
set_option maxHeartbeats 8000000
namespace Go.Proofs.YtednjmldjbndhaaGreat
open Go.RowKit
def wOK (lo hi:Figure) (d:Int) (j:Nat):Bool:=leF lo ⟨d,(j:Int) - 30⟩ && leF ⟨d,(j:Int) - 30⟩ hi
def withinP (lo hi:Figure) (d:Int):Bool:=(List.range 61).any (wOK lo hi d)
theorem within_hit {lo hi:Figure} {d:Int} {j:Nat} (hj:j < 61) (h:wOK lo hi d j=true):withinP lo hi d=true:=List.any_eq_true.2 ⟨j,List.mem_range.2 hj,h⟩
theorem within_no {lo hi:Figure} {d:Int} (h:∀ j,j < 61→wOK lo hi d j=false):withinP lo hi d=false:=by
 unfold withinP
 rw [List.any_eq_false]
 intro j hj
 rw [h j (List.mem_range.1 hj)]
 simp
theorem wOK_lo {lo hi:Figure} {d:Int} {j:Nat} (h:(j:Int) - 30 < lo.tens):wOK lo hi d j=false:=by
 have:¬ leF lo ⟨d,(j:Int) - 30⟩=true:=by
  rw [leF_iff]
  simp only
  omega
 unfold wOK
 rw [Bool.not_eq_true] at this
 rw [this]
 rfl
theorem wOK_hi {lo hi:Figure} {d:Int} {j:Nat} (h:hi.tens < (j:Int) - 30):wOK lo hi d j=false:=by
 have:¬ leF ⟨d,(j:Int) - 30⟩ hi=true:=by
  rw [leF_iff]
  simp only
  omega
 unfold wOK
 rw [Bool.not_eq_true] at this
 rw [this]
 simp
theorem spanC_ok {a b:Int} (h:spanC a b=0):figOK (spLoF a b)=true∧figOK (spHiF a b)=true:=by
 unfold spLoF spHiF
 rw [if_pos h,if_pos h]
 unfold spanC at h
 split at h
 ·split at h
  ·rename_i h1
   rwa [Bool.and_eq_true] at h1
  ·cases h
 ·cases h
theorem ex_parts {L:Int} {l1 l2:List Int} {l:List Term} {p q r:Int} (h:exB L l1 l2 l p q r=true):boundCode L l1 l2 l p q r=0∧exCode L l1 l2 l p q r=0∧figOK (exLoF L l1 l2 l p q r)=true∧figOK (exHiF L l1 l2 l p q r)=true∧spanC (spanLo L l p q r) (spanHi L l p q r)=0:=by
 unfold exB at h
 have hc:exCode L l1 l2 l p q r=0:=by simpa using h
 by_cases hb:boundCode L l1 l2 l p q r=0
 ·obtain ⟨x1,x2,x3⟩:=ex_ok hb
  have hs:spanC (spanLo L l p q r) (spanHi L l p q r)=0:=by rw [← x3];exact hc
  have:=spanC_ok hs
  rw [x1,x2]
  exact ⟨hb,hc,this.1,this.2,hs⟩
 ·rw [(ex_bad hb).2.2] at hc
  exact absurd hc hb
structure WiS (w0:World) (L:Int) (A1:Option Addr) (n1 c1:Nat) (A2:Option Addr) (n2 c2:Nat) (p q r d t:Int) (v:World):Prop where
 hb:Below w0.heap.size w0 v
 b4:Blk v w0.heap.size 26 #[.int .i64 L,.slice A1 n1 c1,.slice A2 n2 c2]
 b6:Blk v (w0.heap.size+1) 29 #[.int .i64 p,.int .i64 q,.int .i64 r]
 b7:Blk v (w0.heap.size+1+1) 51 #[.int .i64 d,.int .i64 t]
section
variable {w0 v v' : World} {L : Int} {A1 : Option Addr} {n1 c1 : Nat} {A2 : Option Addr} {n2 c2 : Nat} {p q r d t : Int}
theorem WiS.below (h:WiS w0 L A1 n1 c1 A2 n2 c2 p q r d t v) (hb:Below v.heap.size v v'):WiS w0 L A1 n1 c1 A2 n2 c2 p q r d t v' :=
 ⟨h.hb.trans (hb.mono h.hb.size),h.b4.below hb h.b4.lt,h.b6.below hb h.b6.lt,h.b7.below hb h.b7.lt⟩
theorem WiS.init:WiS w0 L A1 n1 c1 A2 n2 c2 p q r d t (((w0.alloc (.cells #[.int .i64 L,.slice A1 n1 c1,.slice A2 n2 c2] 26)).alloc (.cells #[.int .i64 p,.int .i64 q,.int .i64 r] 29)).alloc (.cells #[.int .i64 d,.int .i64 t] 51)) :=
 ⟨(by repeat first | with_reducible (first | exact Below.refl _ _ | apply below_drewN' | apply Below.drew | refine Below.alloc ?_ ?_ _ | refine Below.setCell ?_ ?_ _) | exact Below.refl _ _ | omega | (simp <;> omega) | (have:=(Below.refl _ _).size;first | omega | (simp <;> omega))),((Blk.new _ _ _).alloc _).alloc _,(Blk.new' _ _ _ (by simp)).alloc _,Blk.new' _ _ _ (by simp)⟩
end
theorem implIsWithin_c (L:Int) (A1:Option Addr) (c1:Nat) (l1:List Int) (A2:Option Addr) (c2:Nat) (l2:List Int) (A3:Option Addr) (c3:Nat) (l:List Term) (p q r:Int) (f:Figure) (w:World) (E:ExIn w A1 c1 l1 A2 c2 l2 A3 c3 l) (hx:exB L l1 l2 l p q r=true) (hf:figOK f=true) :
  Calls Tryz.prog 100 #[.agg #[.int .i64 L,.slice A1 l1.length c1,.slice A2 l2.length c2],.slice A3 l.length c3,.agg #[.int .i64 p,.int .i64 q,.int .i64 r],f.agg] w fun e w' =>
   e=.returned (.tuple #[.bool (withinP (exLoF L l1 l2 l p q r) (exHiF L l1 l2 l p q r) f.digits),.int .i64 0])∧Below w.heap.size w w':=by
 obtain ⟨x1,x2,x3,x4,x5⟩:=ex_parts hx
 have hI:=fun W=>implIsFigure_c f W
 rw [hf] at hI
 have hP:=fun (W:World) (hW:Below w.heap.size w W)=>implPlanSpan_c L A1 c1 l1 A2 c2 l2 A3 c3 l p q r W (E.later hW)
 rw [x2] at hP
 clear hx x1 x2 x5 E
 generalize exLoF L l1 l2 l p q r=lo at *
 generalize exHiF L l1 l2 l p q r=hi at *
 have hfo:=figOK_bd hf
 have hlo:=figOK_bd x3
 have hhi:=figOK_bd x4
 have HQ1:=fun (n:Int) W=>compareFigures_c lo ⟨f.digits,n⟩ W
 have HQ2:=fun (n:Int) W=>compareFigures_c ⟨f.digits,n⟩ hi W
 clear x3 x4 hf hfo
 obtain ⟨d,t⟩:=f
 obtain ⟨ld,lt⟩:=lo
 obtain ⟨hd,ht⟩:=hi
 unfold Figure.agg at hI HQ1 HQ2 ⊢
 simp only at hI hP hlo hhi HQ1 HQ2 ⊢
 have HI:=fun W=>Lib.hid (hI W)
 have HP:=fun W hW=>Lib.hid (hP W hW)
 have HQ1:=Lib.hid HQ1
 have HQ2:=Lib.hid HQ2
 clear hI hP
 obtain ⟨_,hlo3,hlo4⟩:=hlo
 obtain ⟨_,hhi3,hhi4⟩:=hhi
 have hS0:WiS w L A1 l1.length c1 A2 l2.length c2 p q r d t _:=WiS.init
 go_enter Tryz.func100,Tryz.ntmps100
 go_wp2_with fail
 generalize (((w.alloc (.cells #[.int .i64 L,.slice A1 l1.length c1,.slice A2 l2.length c2] 26)).alloc (.cells #[.int .i64 p,.int .i64 q,.int .i64 r] 29)).alloc (.cells #[.int .i64 d,.int .i64 t] 51))=W at *
 refine Calls.mono (HI _).out ?_;rintro e w1 ⟨rfl,hb1⟩
 have hS1:=hS0.below hb1
 clear hS0 hb1
 have y0:w1.cell? ⟨w.heap.size,0,none⟩=some (.int .i64 L):=hS1.b4.cell 0
 have y1:w1.cell? ⟨w.heap.size,1,none⟩=some (.slice A1 l1.length c1):=hS1.b4.cell 1
 have y2:w1.cell? ⟨w.heap.size,2,none⟩=some (.slice A2 l2.length c2):=hS1.b4.cell 2
 have y3:w1.cell? ⟨w.heap.size+1,0,none⟩=some (.int .i64 p):=hS1.b6.cell 0
 have y4:w1.cell? ⟨w.heap.size+1,1,none⟩=some (.int .i64 q):=hS1.b6.cell 1
 have y5:w1.cell? ⟨w.heap.size+1,2,none⟩=some (.int .i64 r):=hS1.b6.cell 2
 go_wp2_with fail
 refine Calls.mono (HP _ hS1.hb).out ?_;rintro e w2 ⟨rfl,hb2⟩
 have hS2:=hS1.below hb2
 clear hS1 hb2 HI HP y0 y1 y2 y3 y4 y5
 have hbb:Below w2.heap.size w2 ((w2.alloc (.cells #[.int .i64 ld,.int .i64 lt] 51)).alloc (.cells #[.int .i64 hd,.int .i64 ht] 51)):=(by repeat first | with_reducible (first | exact Below.refl _ _ | apply below_drewN' | apply Below.drew | refine Below.alloc ?_ ?_ _ | refine Below.setCell ?_ ?_ _) | exact Below.refl _ _ | omega | (simp <;> omega) | (have:=(Below.refl _ _).size;first | omega | (simp <;> omega)))
 have hS3:=hS2.below hbb
 have G0:=(Blk.new w2 51 #[.int .i64 ld,.int .i64 lt]).alloc (.cells #[.int .i64 hd,.int .i64 ht] 51)
 have H0:=Blk.new' (w2.alloc (.cells #[.int .i64 ld,.int .i64 lt] 51)) 51 #[.int .i64 hd,.int .i64 ht] (g:=w2.heap.size+1) (by simp)
 have z0:((w2.alloc (.cells #[.int .i64 ld,.int .i64 lt] 51)).alloc (.cells #[.int .i64 hd,.int .i64 ht] 51)).cell? ⟨w2.heap.size,1,none⟩=some (.int .i64 lt):=G0.cell 1
 go_wp2_with fail
 generalize ((w2.alloc (.cells #[.int .i64 ld,.int .i64 lt] 51)).alloc (.cells #[.int .i64 hd,.int .i64 ht] 51))=w3 at *
 generalize w2.heap.size=g at *
 clear hS2 hbb
 clear z0
 go_loopw [13] (fun i wr=>∃ k:Nat,k ≤ 61∧i=.int .i64 ((k:Int) - 30)∧Below w3.heap.size w3 wr∧Hid (∀ j,j < k→wOK ⟨ld,lt⟩ ⟨hd,ht⟩ d j=false)) (fun i _=>(31 - intOf i).toNat)
 case atStart =>
  refine ⟨(lt+30).toNat,by omega,congrArg (Value.int .i64) (by omega),Below.refl _ _,fun j hj=>wOK_lo (by simp only;omega)⟩
 case round =>
  obtain ⟨k,hk,rfl,hb,hno⟩:=hrel
  have hSr:=hS3.below hb
  have Gr:=G0.below hb G0.lt
  have Hr:=H0.below hb H0.lt
  have hbv:=hSr.hb
  have hS3':=hS3
  clear hS3 G0 H0
  have hn0:-30 ≤ (k:Int) - 30:=by omega
  obtain ⟨n,hn⟩:∃ n:Int,n=(k:Int) - 30:=⟨_,rfl⟩
  have hit:=Lib.hid (@within_hit ⟨ld,lt⟩ ⟨hd,ht⟩ d k)
  have hnx:wOK ⟨ld,lt⟩ ⟨hd,ht⟩ d k=false→Hid (∀ j,j < k+1→wOK ⟨ld,lt⟩ ⟨hd,ht⟩ d j=false):=fun h j hj=>by
   by_cases hjk:j < k
   ·exact hno.out j hjk
   ·obtain rfl:j=k:=by omega
    exact h
  have hnx:=Lib.hid hnx
  have hwk:Hid (wOK ⟨ld,lt⟩ ⟨hd,ht⟩ d k=(decide (cmpF ⟨ld,lt⟩ ⟨d,n⟩ ≤ 0) && decide (cmpF ⟨d,n⟩ ⟨hd,ht⟩ ≤ 0))):=by rw [hn];rfl
  have hnk:Hid ((k:Int)=n+30):=by unfold Hid;omega
  rw [← hn] at hn0 ⊢
  have hk1:n ≤ 31:=by omega
  clear hn
  have zt:wr.cell? ⟨g+1,1,none⟩=some (.int .i64 ht):=Hr.cell 1
  by_cases hlt:n ≤ ht
  ·have h61:Hid (k < 61):=by unfold Hid;have:=hnk.out;omega
   have HQ1:=fun W=>Lib.hid (HQ1.out n W)
   have HQ2:=fun W=>Lib.hid (HQ2.out n W)
   generalize cmpF ⟨ld,lt⟩ ⟨d,n⟩=x at *
   generalize cmpF ⟨d,n⟩ ⟨hd,ht⟩=y at *
   have zd:wr.cell? ⟨w.heap.size+1+1,0,none⟩=some (.int .i64 d):=hSr.b7.cell 0
   have hba:Below wr.heap.size wr (wr.alloc (.cells #[.int .i64 d,.int .i64 n] 51)):=(by repeat first | with_reducible (first | exact Below.refl _ _ | apply below_drewN' | apply Below.drew | refine Below.alloc ?_ ?_ _ | refine Below.setCell ?_ ?_ _) | exact Below.refl _ _ | omega | (simp <;> omega) | (have:=(Below.refl _ _).size;first | omega | (simp <;> omega)))
   have hb3:=hb.trans (hba.mono hb.size)
   have Ga:=Gr.alloc (.cells #[.int .i64 d,.int .i64 n] 51)
   have Ha:=Hr.alloc (.cells #[.int .i64 d,.int .i64 n] 51)
   have Fa:=Blk.new wr 51 #[.int .i64 d,.int .i64 n]
   have ga0:(wr.alloc (.cells #[.int .i64 d,.int .i64 n] 51)).cell? ⟨g,0,none⟩=some (.int .i64 ld):=Ga.cell 0
   have ga1:(wr.alloc (.cells #[.int .i64 d,.int .i64 n] 51)).cell? ⟨g,1,none⟩=some (.int .i64 lt):=Ga.cell 1
   have fa0:(wr.alloc (.cells #[.int .i64 d,.int .i64 n] 51)).cell? ⟨wr.heap.size,0,none⟩=some (.int .i64 d):=Fa.cell 0
   have fa1:(wr.alloc (.cells #[.int .i64 d,.int .i64 n] 51)).cell? ⟨wr.heap.size,1,none⟩=some (.int .i64 n):=Fa.cell 1
   clear Gr Hr
   go_wp2_with fail
   generalize wr.alloc (.cells #[.int .i64 d,.int .i64 n] 51)=wa at *
   refine Calls.mono (HQ1 _).out ?_;rintro e w5 ⟨rfl,hb5⟩
   have hb6:=hb3.trans (hb5.mono hb3.size)
   have hbv5:=(hS3'.below hb6).hb
   have H5:=Ha.below hb5 Ha.lt
   have F5:=Fa.below hb5 Fa.lt
   have h50:w5.cell? ⟨g+1,0,none⟩=some (.int .i64 hd):=H5.cell 0
   have h51:w5.cell? ⟨g+1,1,none⟩=some (.int .i64 ht):=H5.cell 1
   have f50:w5.cell? ⟨wr.heap.size,0,none⟩=some (.int .i64 d):=F5.cell 0
   have f51:w5.cell? ⟨wr.heap.size,1,none⟩=some (.int .i64 n):=F5.cell 1
   clear ga0 ga1 fa0 fa1 Ga Ha Fa hb3 hb5 zt zd hba
   by_cases hx:x ≤ 0
   ·by_cases hy:y ≤ 0
    ·have hw:Hid (withinP ⟨ld,lt⟩ ⟨hd,ht⟩ d=true):=hit.out h61.out (by rw [hwk.out,decide_eq_true hx,decide_eq_true hy];rfl)
     go_wp2_with (go_at_call 142;refine Calls.mono (HQ2 _).out ?_;rintro e w7 ⟨rfl,hb7⟩;have hb8:=hbv5.trans (hb7.mono hbv5.size))
     refine bodyPost_ret (v:=.tuple #[.bool true,.int .i64 0]) (by simp [results,Tryz.results100,go_sem]) rfl ⟨by rw [hw.out],(by repeat first | with_reducible (first | exact hb8 | apply below_drewN' | apply Below.drew | refine Below.alloc ?_ ?_ _ | refine Below.setCell ?_ ?_ _) | exact hb8 | omega | (simp <;> omega) | (have:=(hb8).size;first | omega | (simp <;> omega)))⟩
    ·have hw:=hnx.out (by rw [hwk.out,decide_eq_false hy];simp)
     go_wp2_with (go_at_call 142;refine Calls.mono (HQ2 _).out ?_;rintro e w7 ⟨rfl,hb7⟩;have hb8:=hb6.trans (hb7.mono hb6.size))
     go_roundw
     case rel=>exact ⟨k+1,by have:=h61.out;omega,congrArg (Value.int .i64) (by have:=hnk.out;omega),(by repeat first | with_reducible (first | exact hb8 | apply below_drewN' | apply Below.drew | refine Below.alloc ?_ ?_ _ | refine Below.setCell ?_ ?_ _) | exact hb8 | omega | (simp <;> omega) | (have:=(hb8).size;first | omega | (simp <;> omega))),hw⟩
     case measure=>simp [intOf];omega
   ·have hw:=hnx.out (by rw [hwk.out,decide_eq_false hx];rfl)
    go_wp2
    go_roundw
    case rel=>exact ⟨k+1,by have:=h61.out;omega,congrArg (Value.int .i64) (by have:=hnk.out;omega),(by repeat first | with_reducible (first | exact hb6 | apply below_drewN' | apply Below.drew | refine Below.alloc ?_ ?_ _ | refine Below.setCell ?_ ?_ _) | exact hb6 | omega | (simp <;> omega) | (have:=(hb6).size;first | omega | (simp <;> omega))),hw⟩
    case measure=>simp [intOf];omega
  ·have hw:Hid (withinP ⟨ld,lt⟩ ⟨hd,ht⟩ d=false):=within_no fun j hj=>by
    by_cases hjk:j < k
    ·exact hno.out j hjk
    ·have:=hnk.out
     exact wOK_hi (by simp only;omega)
   go_wp2
   refine bodyPost_ret (v:=.tuple #[.bool false,.int .i64 0]) (by simp [results,Tryz.results100,go_sem]) rfl ⟨by rw [hw.out],(by repeat first | with_reducible (first | exact hbv | apply below_drewN' | apply Below.drew | refine Below.alloc ?_ ?_ _ | refine Below.setCell ?_ ?_ _) | exact hbv | omega | (simp <;> omega) | (have:=(hbv).size;first | omega | (simp <;> omega)))⟩
theorem specIsWithin_c (L:Int) (A1:Option Addr) (c1:Nat) (l1:List Int) (A2:Option Addr) (c2:Nat) (l2:List Int) (A3:Option Addr) (c3:Nat) (l:List Term) (p q r:Int) (f:Figure) (w:World) (E:ExIn w A1 c1 l1 A2 c2 l2 A3 c3 l) (hx:exB L l1 l2 l p q r=true) (hf:figOK f=true) :
  Calls Tryz.prog 103 #[.agg #[.int .i64 L,.slice A1 l1.length c1,.slice A2 l2.length c2],.slice A3 l.length c3,.agg #[.int .i64 p,.int .i64 q,.int .i64 r],f.agg] w fun e w' =>
   e=.returned (.tuple #[.bool (withinP (exLoF L l1 l2 l p q r) (exHiF L l1 l2 l p q r) f.digits),.int .i64 0])∧Below w.heap.size w w':=by
 obtain ⟨x1,x2,x3,x4,x5⟩:=ex_parts hx
 have hI:=fun W=>specIsFigure_c f W
 rw [hf] at hI
 have hC:=fun (W:World) (hW:Below w.heap.size w W)=>l15Code_c L A1 c1 l1 A2 c2 l2 A3 c3 l p q r W E.h1 E.h2 E.h3 E.k1 E.k2 (E.later hW).s1 (E.later hW).s2 (E.later hW).s3
 rw [x1] at hC
 have HC:=fun W hW=>Lib.hid (hC W hW)
 clear hC
 obtain ⟨b1,b2,b3,b4,b5⟩:=bound_parts x1
 have hL:=ruleB_len b1
 have hP:=fun (W:World) (hW:Below w.heap.size w W)=>l15Span_c L A1 c1 l1 A2 c2 l2 A3 c3 l p q r W ((E.later hW).rule b3 b4) b2 E.k3 (E.later hW).s3 hL b5
 rw [spanR_form,x5] at hP
 obtain ⟨y1,y2,y3⟩:=ex_ok x1
 rw [← y1,← y2] at hP
 clear b1 b2 b3 b4 b5 hL y1 y2 y3
 clear hx x1 x2 x5 E
 generalize exLoF L l1 l2 l p q r=lo at *
 generalize exHiF L l1 l2 l p q r=hi at *
 have hfo:=figOK_bd hf
 have hlo:=figOK_bd x3
 have hhi:=figOK_bd x4
 have HQ1:=fun (n:Int) (hn:-30 ≤ n∧n ≤ 30) W=>l02Compare_c lo ⟨f.digits,n⟩ W x3 (by unfold figOK;rw [Bool.and_eq_true,inB_true,inB_true];exact ⟨hfo.1,hn⟩)
 have HQ2:=fun (n:Int) (hn:-30 ≤ n∧n ≤ 30) W=>l02Compare_c ⟨f.digits,n⟩ hi W (by unfold figOK;rw [Bool.and_eq_true,inB_true,inB_true];exact ⟨hfo.1,hn⟩) x4
 clear x3 x4 hf hfo
 obtain ⟨d,t⟩:=f
 obtain ⟨ld,lt⟩:=lo
 obtain ⟨hd,ht⟩:=hi
 unfold Figure.agg at hI HQ1 HQ2 ⊢
 simp only at hI hP hlo hhi HQ1 HQ2 ⊢
 have HI:=fun W=>Lib.hid (hI W)
 have HP:=fun W hW=>Lib.hid (hP W hW)
 have HQ1:=Lib.hid HQ1
 have HQ2:=Lib.hid HQ2
 clear hI hP
 obtain ⟨_,hlo3,hlo4⟩:=hlo
 obtain ⟨_,hhi3,hhi4⟩:=hhi
 have hS0:WiS w L A1 l1.length c1 A2 l2.length c2 p q r d t _:=WiS.init
 go_enter Tryz.func103,Tryz.ntmps103
 go_wp2_with fail
 generalize (((w.alloc (.cells #[.int .i64 L,.slice A1 l1.length c1,.slice A2 l2.length c2] 26)).alloc (.cells #[.int .i64 p,.int .i64 q,.int .i64 r] 29)).alloc (.cells #[.int .i64 d,.int .i64 t] 51))=W at *
 refine Calls.mono (HC _ hS0.hb).out ?_;rintro e w0 ⟨rfl,hb0⟩
 have hS0:=hS0.below hb0
 have y6:w0.cell? ⟨w.heap.size+1+1,0,none⟩=some (.int .i64 d):=hS0.b7.cell 0
 have y7:w0.cell? ⟨w.heap.size+1+1,1,none⟩=some (.int .i64 t):=hS0.b7.cell 1
 clear hb0
 go_wp2_with fail
 clear y6 y7
 refine Calls.mono (HI _).out ?_;rintro e w1 ⟨rfl,hb1⟩
 have hS1:=hS0.below hb1
 clear hS0 hb1
 have y0:w1.cell? ⟨w.heap.size,0,none⟩=some (.int .i64 L):=hS1.b4.cell 0
 have y1:w1.cell? ⟨w.heap.size,1,none⟩=some (.slice A1 l1.length c1):=hS1.b4.cell 1
 have y2:w1.cell? ⟨w.heap.size,2,none⟩=some (.slice A2 l2.length c2):=hS1.b4.cell 2
 have y3:w1.cell? ⟨w.heap.size+1,0,none⟩=some (.int .i64 p):=hS1.b6.cell 0
 have y4:w1.cell? ⟨w.heap.size+1,1,none⟩=some (.int .i64 q):=hS1.b6.cell 1
 have y5:w1.cell? ⟨w.heap.size+1,2,none⟩=some (.int .i64 r):=hS1.b6.cell 2
 go_wp2_with fail
 refine Calls.mono (HP _ hS1.hb).out ?_;rintro e w2 ⟨rfl,hb2⟩
 have hS2:=hS1.below hb2
 clear hS1 hb2 HI HP y0 y1 y2 y3 y4 y5
 have hbb:Below w2.heap.size w2 ((w2.alloc (.cells #[.int .i64 ld,.int .i64 lt] 51)).alloc (.cells #[.int .i64 hd,.int .i64 ht] 51)):=(by repeat first | with_reducible (first | exact Below.refl _ _ | apply below_drewN' | apply Below.drew | refine Below.alloc ?_ ?_ _ | refine Below.setCell ?_ ?_ _) | exact Below.refl _ _ | omega | (simp <;> omega) | (have:=(Below.refl _ _).size;first | omega | (simp <;> omega)))
 have hS3:=hS2.below hbb
 have G0:=(Blk.new w2 51 #[.int .i64 ld,.int .i64 lt]).alloc (.cells #[.int .i64 hd,.int .i64 ht] 51)
 have H0:=Blk.new' (w2.alloc (.cells #[.int .i64 ld,.int .i64 lt] 51)) 51 #[.int .i64 hd,.int .i64 ht] (g:=w2.heap.size+1) (by simp)
 go_wp2_with fail
 generalize ((w2.alloc (.cells #[.int .i64 ld,.int .i64 lt] 51)).alloc (.cells #[.int .i64 hd,.int .i64 ht] 51))=w3 at *
 generalize w2.heap.size=g at *
 clear hS2 hbb
 go_loopw [14] (fun i wr=>∃ k:Nat,k ≤ 61∧i=.int .i64 ((k:Int) - 30)∧Below w3.heap.size w3 wr∧Hid (∀ j,j < k→wOK ⟨ld,lt⟩ ⟨hd,ht⟩ d j=false)) (fun i _=>(31 - intOf i).toNat)
 case atStart =>
  refine ⟨0,by omega,rfl,Below.refl _ _,fun j hj=>by omega⟩
 case round =>
  obtain ⟨k,hk,rfl,hb,hno⟩:=hrel
  have hSr:=hS3.below hb
  have Gr:=G0.below hb G0.lt
  have Hr:=H0.below hb H0.lt
  have hbv:=hSr.hb
  have hS3':=hS3
  clear hS3 G0 H0
  have hn0:-30 ≤ (k:Int) - 30:=by omega
  obtain ⟨n,hn⟩:∃ n:Int,n=(k:Int) - 30:=⟨_,rfl⟩
  have hit:=Lib.hid (@within_hit ⟨ld,lt⟩ ⟨hd,ht⟩ d k)
  have hnx:wOK ⟨ld,lt⟩ ⟨hd,ht⟩ d k=false→Hid (∀ j,j < k+1→wOK ⟨ld,lt⟩ ⟨hd,ht⟩ d j=false):=fun h j hj=>by
   by_cases hjk:j < k
   ·exact hno.out j hjk
   ·obtain rfl:j=k:=by omega
    exact h
  have hnx:=Lib.hid hnx
  have hwk:Hid (wOK ⟨ld,lt⟩ ⟨hd,ht⟩ d k=(decide (cmpF ⟨ld,lt⟩ ⟨d,n⟩ ≤ 0) && decide (cmpF ⟨d,n⟩ ⟨hd,ht⟩ ≤ 0))):=by rw [hn];rfl
  have hnk:Hid ((k:Int)=n+30):=by unfold Hid;omega
  rw [← hn] at hn0 ⊢
  have hk1:n ≤ 31:=by omega
  clear hn
  have zt:wr.cell? ⟨g+1,1,none⟩=some (.int .i64 ht):=Hr.cell 1
  by_cases hlt:n ≤ 30
  ·have h61:Hid (k < 61):=by unfold Hid;have:=hnk.out;omega
   have HQ1:=fun W=>Lib.hid (HQ1.out n ⟨hn0,hlt⟩ W)
   have HQ2:=fun W=>Lib.hid (HQ2.out n ⟨hn0,hlt⟩ W)
   generalize cmpF ⟨ld,lt⟩ ⟨d,n⟩=x at *
   generalize cmpF ⟨d,n⟩ ⟨hd,ht⟩=y at *
   have zd:wr.cell? ⟨w.heap.size+1+1,0,none⟩=some (.int .i64 d):=hSr.b7.cell 0
   have hba:Below wr.heap.size wr (wr.alloc (.cells #[.int .i64 d,.int .i64 n] 51)):=(by repeat first | with_reducible (first | exact Below.refl _ _ | apply below_drewN' | apply Below.drew | refine Below.alloc ?_ ?_ _ | refine Below.setCell ?_ ?_ _) | exact Below.refl _ _ | omega | (simp <;> omega) | (have:=(Below.refl _ _).size;first | omega | (simp <;> omega)))
   have hb3:=hb.trans (hba.mono hb.size)
   have Ga:=Gr.alloc (.cells #[.int .i64 d,.int .i64 n] 51)
   have Ha:=Hr.alloc (.cells #[.int .i64 d,.int .i64 n] 51)
   have Fa:=Blk.new wr 51 #[.int .i64 d,.int .i64 n]
   have ga0:(wr.alloc (.cells #[.int .i64 d,.int .i64 n] 51)).cell? ⟨g,0,none⟩=some (.int .i64 ld):=Ga.cell 0
   have ga1:(wr.alloc (.cells #[.int .i64 d,.int .i64 n] 51)).cell? ⟨g,1,none⟩=some (.int .i64 lt):=Ga.cell 1
   have fa0:(wr.alloc (.cells #[.int .i64 d,.int .i64 n] 51)).cell? ⟨wr.heap.size,0,none⟩=some (.int .i64 d):=Fa.cell 0
   have fa1:(wr.alloc (.cells #[.int .i64 d,.int .i64 n] 51)).cell? ⟨wr.heap.size,1,none⟩=some (.int .i64 n):=Fa.cell 1
   clear Gr Hr
   go_wp2_with fail
   generalize wr.alloc (.cells #[.int .i64 d,.int .i64 n] 51)=wa at *
   refine Calls.mono (HQ1 _).out ?_;rintro e w5 ⟨rfl,hb5⟩
   have hb6:=hb3.trans (hb5.mono hb3.size)
   have hbv5:=(hS3'.below hb6).hb
   have H5:=Ha.below hb5 Ha.lt
   have F5:=Fa.below hb5 Fa.lt
   have h50:w5.cell? ⟨g+1,0,none⟩=some (.int .i64 hd):=H5.cell 0
   have h51:w5.cell? ⟨g+1,1,none⟩=some (.int .i64 ht):=H5.cell 1
   have f50:w5.cell? ⟨wr.heap.size,0,none⟩=some (.int .i64 d):=F5.cell 0
   have f51:w5.cell? ⟨wr.heap.size,1,none⟩=some (.int .i64 n):=F5.cell 1
   clear ga0 ga1 fa0 fa1 Ga Ha Fa hb3 hb5 zt zd hba
   by_cases hx:x ≤ 0
   ·by_cases hy:y ≤ 0
    ·have hw:Hid (withinP ⟨ld,lt⟩ ⟨hd,ht⟩ d=true):=hit.out h61.out (by rw [hwk.out,decide_eq_true hx,decide_eq_true hy];rfl)
     go_wp2_with (go_at_call 104;refine Calls.mono (HQ2 _).out ?_;rintro e w7 ⟨rfl,hb7⟩;have hb8:=hbv5.trans (hb7.mono hbv5.size))
     refine bodyPost_ret (v:=.tuple #[.bool true,.int .i64 0]) (by simp [results,Tryz.results103,go_sem]) rfl ⟨by rw [hw.out],(by repeat first | with_reducible (first | exact hb8 | apply below_drewN' | apply Below.drew | refine Below.alloc ?_ ?_ _ | refine Below.setCell ?_ ?_ _) | exact hb8 | omega | (simp <;> omega) | (have:=(hb8).size;first | omega | (simp <;> omega)))⟩
    ·have hw:=hnx.out (by rw [hwk.out,decide_eq_false hy];simp)
     go_wp2_with (go_at_call 104;refine Calls.mono (HQ2 _).out ?_;rintro e w7 ⟨rfl,hb7⟩;have hb8:=hb6.trans (hb7.mono hb6.size))
     go_roundw
     case rel=>exact ⟨k+1,by have:=h61.out;omega,congrArg (Value.int .i64) (by have:=hnk.out;omega),(by repeat first | with_reducible (first | exact hb8 | apply below_drewN' | apply Below.drew | refine Below.alloc ?_ ?_ _ | refine Below.setCell ?_ ?_ _) | exact hb8 | omega | (simp <;> omega) | (have:=(hb8).size;first | omega | (simp <;> omega))),hw⟩
     case measure=>simp [intOf];omega
   ·have hw:=hnx.out (by rw [hwk.out,decide_eq_false hx];rfl)
    go_wp2
    go_roundw
    case rel=>exact ⟨k+1,by have:=h61.out;omega,congrArg (Value.int .i64) (by have:=hnk.out;omega),(by repeat first | with_reducible (first | exact hb6 | apply below_drewN' | apply Below.drew | refine Below.alloc ?_ ?_ _ | refine Below.setCell ?_ ?_ _) | exact hb6 | omega | (simp <;> omega) | (have:=(hb6).size;first | omega | (simp <;> omega))),hw⟩
    case measure=>simp [intOf];omega
  ·have hw:Hid (withinP ⟨ld,lt⟩ ⟨hd,ht⟩ d=false):=within_no fun j hj=>by
    by_cases hjk:j < k
    ·exact hno.out j hjk
    ·have:=hnk.out
     omega
   go_wp2
   refine bodyPost_ret (v:=.tuple #[.bool false,.int .i64 0]) (by simp [results,Tryz.results103,go_sem]) rfl ⟨by rw [hw.out],(by repeat first | with_reducible (first | exact hbv | apply below_drewN' | apply Below.drew | refine Below.alloc ?_ ?_ _ | refine Below.setCell ?_ ?_ _) | exact hbv | omega | (simp <;> omega) | (have:=(hbv).size;first | omega | (simp <;> omega)))⟩
end Go.Proofs.YtednjmldjbndhaaGreat
