/- The grade of an answer: the program's and the reference's. Conditions: the exercise is valid, and the answer's figure. -/
import Derived.Test.YtednjmldjbndhaaGreatKGr33
import Derived.Test.YtednjmldjbndhaaGreatKGr34
set_option linter.unusedSimpArgs false
set_option linter.unusedVariables false
set_option maxRecDepth 100000
set_option maxHeartbeats 8000000
namespace Go.Proofs.YtednjmldjbndhaaGreat
open Go.RowKit
def gradeP (L:Int) (l1 l2:List Int) (l:List Term) (p q r:Int) (f:Figure):Int :=
 if (decide ((chainFig l).2=0) && (decide ((chainFig l).1.digits=f.digits) && decide ((chainFig l).1.tens=f.tens)))=true then 0
 else if (leF (exLoF L l1 l2 l p q r) f && leF f (exHiF L l1 l2 l p q r))=true then 1
 else if withinP (exLoF L l1 l2 l p q r) (exHiF L l1 l2 l p q r) f.digits=true then 2 else 3
theorem gradeP_bd (L:Int) (l1 l2:List Int) (l:List Term) (p q r:Int) (f:Figure):0 ≤ gradeP L l1 l2 l p q r f∧gradeP L l1 l2 l p q r f ≤ 3:=by
 unfold gradeP
 split
 ·omega
 ·split
  ·omega
  ·split <;> omega
structure GrS (w0:World) (L:Int) (A1:Option Addr) (n1 c1:Nat) (A2:Option Addr) (n2 c2:Nat) (A3:Option Addr) (n3 c3:Nat) (p q r:Int) (A:Option Addr) (n c:Nat) (a b:Int) (v:World):Prop where
 hb:Below w0.heap.size w0 v
 bx:Blk v w0.heap.size 31 #[.int .i64 L,.slice A1 n1 c1,.slice A2 n2 c2,.slice A3 n3 c3,.int .i64 p,.int .i64 q,.int .i64 r]
 ba:Blk v (w0.heap.size+1) 53 #[.slice A n c,.int .i64 a,.int .i64 b]
section
variable {w0 v v' : World} {L : Int} {A1 : Option Addr} {n1 c1 : Nat} {A2 : Option Addr} {n2 c2 : Nat} {A3 : Option Addr} {n3 c3 : Nat} {p q r : Int} {A : Option Addr} {n c : Nat} {a b : Int}
theorem GrS.below (h:GrS w0 L A1 n1 c1 A2 n2 c2 A3 n3 c3 p q r A n c a b v) (hb:Below v.heap.size v v'):GrS w0 L A1 n1 c1 A2 n2 c2 A3 n3 c3 p q r A n c a b v' :=
 ⟨h.hb.trans (hb.mono h.hb.size),h.bx.below hb h.bx.lt,h.ba.below hb h.ba.lt⟩
theorem GrS.init:GrS w0 L A1 n1 c1 A2 n2 c2 A3 n3 c3 p q r A n c a b ((w0.alloc (.cells #[.int .i64 L,.slice A1 n1 c1,.slice A2 n2 c2,.slice A3 n3 c3,.int .i64 p,.int .i64 q,.int .i64 r] 31)).alloc (.cells #[.slice A n c,.int .i64 a,.int .i64 b] 53)) :=
 ⟨(by repeat first | with_reducible (first | exact Below.refl _ _ | apply below_drewN' | apply Below.drew | refine Below.alloc ?_ ?_ _ | refine Below.setCell ?_ ?_ _) | exact Below.refl _ _ | omega | (simp <;> omega) | (have:=(Below.refl _ _).size;first | omega | (simp <;> omega))),(Blk.new _ _ _).alloc _,Blk.new' _ _ _ (by simp)⟩
end
theorem gradeOf_c (L:Int) (A1:Option Addr) (c1:Nat) (l1:List Int) (A2:Option Addr) (c2:Nat) (l2:List Int) (A3:Option Addr) (c3:Nat) (l3:List Term) (p q r:Int) (A:Option Addr) (n c:Nat) (a b:Int) (w:World) (E:ExIn w A1 c1 l1 A2 c2 l2 A3 c3 l3) (hx:exB L l1 l2 l3 p q r=true) (hf:figOK ⟨a,b⟩=true) :
  Calls Tryz.prog 44 #[.agg #[.int .i64 L,.slice A1 l1.length c1,.slice A2 l2.length c2,.slice A3 l3.length c3,.int .i64 p,.int .i64 q,.int .i64 r],.agg #[.slice A n c,.int .i64 a,.int .i64 b]] w fun e w'=>e=.returned (.int .i64 (gradeP L l1 l2 l3 p q r ⟨a,b⟩))∧Below w.heap.size w w':=by
 have hGt:Tryz.prog.eqGuardType Tryz.prog.depth 51=false:=by kernel_rfl
 obtain ⟨x1,x2,x3,x4,x5⟩:=ex_parts hx
 obtain ⟨b1,b2,b3,b4,b5⟩:=bound_parts x1
 have hW:=fun (W:World) (hW:Below w.heap.size w W)=>implIsWithin_c L A1 c1 l1 A2 c2 l2 A3 c3 l3 p q r ⟨a,b⟩ W (E.later hW) hx hf
 have hC:=fun (W:World) (hW:Below w.heap.size w W)=>implChainFigure_c A3 c3 l3 W b2 E.k3 (E.later hW).s3
 have hP:=fun (W:World) (hW:Below w.heap.size w W)=>planSpan_c L A1 c1 l1 A2 c2 l2 A3 c3 l3 p q r W ((E.later hW).rule b3 b4) b2 E.k3 (E.later hW).s3 (ruleB_len b1) b5
 rw [spanR_form,x5] at hP
 obtain ⟨y1,y2,y3⟩:=ex_ok x1
 rw [← y1,← y2] at hP
 clear y1 y2 y3
 have hL:=fun (W:World)=>lies_c ⟨a,b⟩ (exLoF L l1 l2 l3 p q r) (exHiF L l1 l2 l3 p q r) W
 have HG:Hid (gradeP L l1 l2 l3 p q r ⟨a,b⟩=_):=rfl
 unfold gradeP at HG
 unfold gradeP
 clear E hx hf x1 x2 x3 x4 x5 b1 b2 b3 b4 b5
 generalize exLoF L l1 l2 l3 p q r=lo at *
 generalize exHiF L l1 l2 l3 p q r=hi at *
 simp only at hW
 generalize withinP lo hi a=u2 at *
 generalize (leF lo ⟨a,b⟩ && leF ⟨a,b⟩ hi)=u1 at *
 generalize chainFig l3=cf at *
 obtain ⟨ld,lt⟩:=lo
 obtain ⟨hd,ht⟩:=hi
 obtain ⟨⟨cd,ct⟩,cc⟩:=cf
 clear HG
 unfold Figure.agg at *
 simp only at *
 have HQ:=fun W=>eqFig cd ct a b W
 have HC:=fun W h=>Lib.hid (hC W h)
 have HP:=fun W h=>Lib.hid (hP W h)
 have HW:=fun W h=>Lib.hid (hW W h)
 have HL:=fun W=>Lib.hid (hL W)
 clear hC hP hW hL
 have hS0:GrS w L A1 l1.length c1 A2 l2.length c2 A3 l3.length c3 p q r A n c a b _:=GrS.init
 generalize hu:(decide (cd=a) && decide (ct=b))=u at *
 clear hu
 by_cases h0:cc=0
 ·have hd0:decide (cc=0)=true:=decide_eq_true h0
  rw [hd0]
  subst h0
  clear hd0
  cases u with
  | true =>
   simp only [Bool.and_self,if_true]
   go_enter Tryz.func44,Tryz.ntmps44
   go_wp2_with fail
   generalize ((w.alloc (.cells #[.int .i64 L,.slice A1 l1.length c1,.slice A2 l2.length c2,.slice A3 l3.length c3,.int .i64 p,.int .i64 q,.int .i64 r] 31)).alloc (.cells #[.slice A n c,.int .i64 a,.int .i64 b] 53))=W at *
   refine Calls.mono (HC W hS0.hb).out ?_;rintro e w1 ⟨rfl,hb1⟩
   have hS1:=(hS0.below hb1).below ((by repeat first | with_reducible (first | exact Below.refl _ _ | apply below_drewN' | apply Below.drew | refine Below.alloc ?_ ?_ _ | refine Below.setCell ?_ ?_ _) | exact Below.refl _ _ | omega | (simp <;> omega) | (have:=(Below.refl _ _).size;first | omega | (simp <;> omega))):Below w1.heap.size w1 (w1.alloc (.cells #[.int .i64 cd,.int .i64 ct] 51)))
   have C1:=Blk.new w1 51 #[.int .i64 cd,.int .i64 ct]
   have y0:(w1.alloc (.cells #[.int .i64 cd,.int .i64 ct] 51)).cell? ⟨w1.heap.size,0,none⟩=some (.int .i64 cd):=C1.cell 0
   have y1:(w1.alloc (.cells #[.int .i64 cd,.int .i64 ct] 51)).cell? ⟨w1.heap.size,1,none⟩=some (.int .i64 ct):=C1.cell 1
   have z0:(w1.alloc (.cells #[.int .i64 cd,.int .i64 ct] 51)).cell? ⟨w.heap.size+1,1,none⟩=some (.int .i64 a):=hS1.ba.cell 1
   have z1:(w1.alloc (.cells #[.int .i64 cd,.int .i64 ct] 51)).cell? ⟨w.heap.size+1,2,none⟩=some (.int .i64 b):=hS1.ba.cell 2
   have hb:=hS1.hb
   go_wp2
   go_ret
   exact ⟨rfl,(by repeat first | with_reducible (first | exact hb | apply below_drewN' | apply Below.drew | refine Below.alloc ?_ ?_ _ | refine Below.setCell ?_ ?_ _) | exact hb | omega | (simp <;> omega) | (have:=(hb).size;first | omega | (simp <;> omega)))⟩
  | false =>
   simp only [Bool.and_false,Bool.false_eq_true,if_false]
   go_enter Tryz.func44,Tryz.ntmps44
   go_wp2_with fail
   generalize ((w.alloc (.cells #[.int .i64 L,.slice A1 l1.length c1,.slice A2 l2.length c2,.slice A3 l3.length c3,.int .i64 p,.int .i64 q,.int .i64 r] 31)).alloc (.cells #[.slice A n c,.int .i64 a,.int .i64 b] 53))=W at *
   refine Calls.mono (HC W hS0.hb).out ?_;rintro e w1 ⟨rfl,hb1⟩
   have hS1:=(hS0.below hb1).below ((by repeat first | with_reducible (first | exact Below.refl _ _ | apply below_drewN' | apply Below.drew | refine Below.alloc ?_ ?_ _ | refine Below.setCell ?_ ?_ _) | exact Below.refl _ _ | omega | (simp <;> omega) | (have:=(Below.refl _ _).size;first | omega | (simp <;> omega))):Below w1.heap.size w1 (w1.alloc (.cells #[.int .i64 cd,.int .i64 ct] 51)))
   have C1:=Blk.new w1 51 #[.int .i64 cd,.int .i64 ct]
   have k0:(w1.alloc (.cells #[.int .i64 cd,.int .i64 ct] 51)).cell? ⟨w1.heap.size,0,none⟩=some (.int .i64 cd):=C1.cell 0
   have k1:(w1.alloc (.cells #[.int .i64 cd,.int .i64 ct] 51)).cell? ⟨w1.heap.size,1,none⟩=some (.int .i64 ct):=C1.cell 1
   have z0:(w1.alloc (.cells #[.int .i64 cd,.int .i64 ct] 51)).cell? ⟨w.heap.size+1,1,none⟩=some (.int .i64 a):=hS1.ba.cell 1
   have z1:(w1.alloc (.cells #[.int .i64 cd,.int .i64 ct] 51)).cell? ⟨w.heap.size+1,2,none⟩=some (.int .i64 b):=hS1.ba.cell 2
   have y0:(w1.alloc (.cells #[.int .i64 cd,.int .i64 ct] 51)).cell? ⟨w.heap.size,0,none⟩=some (.int .i64 L):=hS1.bx.cell 0
   have y1:(w1.alloc (.cells #[.int .i64 cd,.int .i64 ct] 51)).cell? ⟨w.heap.size,1,none⟩=some (.slice A1 l1.length c1):=hS1.bx.cell 1
   have y2:(w1.alloc (.cells #[.int .i64 cd,.int .i64 ct] 51)).cell? ⟨w.heap.size,2,none⟩=some (.slice A2 l2.length c2):=hS1.bx.cell 2
   have y3:(w1.alloc (.cells #[.int .i64 cd,.int .i64 ct] 51)).cell? ⟨w.heap.size,3,none⟩=some (.slice A3 l3.length c3):=hS1.bx.cell 3
   have y4:(w1.alloc (.cells #[.int .i64 cd,.int .i64 ct] 51)).cell? ⟨w.heap.size,4,none⟩=some (.int .i64 p):=hS1.bx.cell 4
   have y5:(w1.alloc (.cells #[.int .i64 cd,.int .i64 ct] 51)).cell? ⟨w.heap.size,5,none⟩=some (.int .i64 q):=hS1.bx.cell 5
   have y6:(w1.alloc (.cells #[.int .i64 cd,.int .i64 ct] 51)).cell? ⟨w.heap.size,6,none⟩=some (.int .i64 r):=hS1.bx.cell 6
   go_wp2_with fail
   generalize (w1.alloc (.cells #[.int .i64 cd,.int .i64 ct] 51))=w2 at *
   refine Calls.mono (HP _ hS1.hb).out ?_;rintro e w3 ⟨rfl,hb3⟩
   have hS3:=(hS1.below hb3).below ((by repeat first | with_reducible (first | exact Below.refl _ _ | apply below_drewN' | apply Below.drew | refine Below.alloc ?_ ?_ _ | refine Below.setCell ?_ ?_ _) | exact Below.refl _ _ | omega | (simp <;> omega) | (have:=(Below.refl _ _).size;first | omega | (simp <;> omega))):Below w3.heap.size w3 ((w3.alloc (.cells #[.int .i64 ld,.int .i64 lt] 51)).alloc (.cells #[.int .i64 hd,.int .i64 ht] 51)))
   clear y0 y1 y2 y3 y4 y5 y6 z0 z1 k0 k1 C1 hS1 hb3
   have M0:=(Blk.new w3 51 #[.int .i64 ld,.int .i64 lt]).alloc (.cells #[.int .i64 hd,.int .i64 ht] 51)
   have M1:=Blk.new' (w3.alloc (.cells #[.int .i64 ld,.int .i64 lt] 51)) 51 #[.int .i64 hd,.int .i64 ht] (g:=w3.heap.size+1) (by simp)
   have m0:((w3.alloc (.cells #[.int .i64 ld,.int .i64 lt] 51)).alloc (.cells #[.int .i64 hd,.int .i64 ht] 51)).cell? ⟨w3.heap.size,0,none⟩=some (.int .i64 ld):=M0.cell 0
   have m1:((w3.alloc (.cells #[.int .i64 ld,.int .i64 lt] 51)).alloc (.cells #[.int .i64 hd,.int .i64 ht] 51)).cell? ⟨w3.heap.size,1,none⟩=some (.int .i64 lt):=M0.cell 1
   have m2:((w3.alloc (.cells #[.int .i64 ld,.int .i64 lt] 51)).alloc (.cells #[.int .i64 hd,.int .i64 ht] 51)).cell? ⟨w3.heap.size+1,0,none⟩=some (.int .i64 hd):=M1.cell 0
   have m3:((w3.alloc (.cells #[.int .i64 ld,.int .i64 lt] 51)).alloc (.cells #[.int .i64 hd,.int .i64 ht] 51)).cell? ⟨w3.heap.size+1,1,none⟩=some (.int .i64 ht):=M1.cell 1
   have z0:((w3.alloc (.cells #[.int .i64 ld,.int .i64 lt] 51)).alloc (.cells #[.int .i64 hd,.int .i64 ht] 51)).cell? ⟨w.heap.size+1,1,none⟩=some (.int .i64 a):=hS3.ba.cell 1
   have z1:((w3.alloc (.cells #[.int .i64 ld,.int .i64 lt] 51)).alloc (.cells #[.int .i64 hd,.int .i64 ht] 51)).cell? ⟨w.heap.size+1,2,none⟩=some (.int .i64 b):=hS3.ba.cell 2
   go_wp2_with fail
   generalize ((w3.alloc (.cells #[.int .i64 ld,.int .i64 lt] 51)).alloc (.cells #[.int .i64 hd,.int .i64 ht] 51))=w4 at *
   refine Calls.mono (HL _).out ?_;rintro e w5 ⟨rfl,hb5⟩
   have hS5:=hS3.below hb5
   clear m0 m1 m2 m3 M0 M1 z0 z1 hS3 hb5
   have z0:w5.cell? ⟨w.heap.size+1,1,none⟩=some (.int .i64 a):=hS5.ba.cell 1
   have z1:w5.cell? ⟨w.heap.size+1,2,none⟩=some (.int .i64 b):=hS5.ba.cell 2
   have y0:w5.cell? ⟨w.heap.size,0,none⟩=some (.int .i64 L):=hS5.bx.cell 0
   have y1:w5.cell? ⟨w.heap.size,1,none⟩=some (.slice A1 l1.length c1):=hS5.bx.cell 1
   have y2:w5.cell? ⟨w.heap.size,2,none⟩=some (.slice A2 l2.length c2):=hS5.bx.cell 2
   have y3:w5.cell? ⟨w.heap.size,3,none⟩=some (.slice A3 l3.length c3):=hS5.bx.cell 3
   have y4:w5.cell? ⟨w.heap.size,4,none⟩=some (.int .i64 p):=hS5.bx.cell 4
   have y5:w5.cell? ⟨w.heap.size,5,none⟩=some (.int .i64 q):=hS5.bx.cell 5
   have y6:w5.cell? ⟨w.heap.size,6,none⟩=some (.int .i64 r):=hS5.bx.cell 6
   have hb:=hS5.hb
   cases u1 with
   | true =>
    go_wp2
    go_ret
    exact ⟨rfl,(by repeat first | with_reducible (first | exact hb | apply below_drewN' | apply Below.drew | refine Below.alloc ?_ ?_ _ | refine Below.setCell ?_ ?_ _) | exact hb | omega | (simp <;> omega) | (have:=(hb).size;first | omega | (simp <;> omega)))⟩
   | false =>
    go_wp2_with fail
    refine Calls.mono (HW _ hb).out ?_;rintro e w6 ⟨rfl,hb6⟩
    have hb7:=hb.trans (hb6.mono hb.size)
    cases u2
    all_goals
     go_wp2
     go_ret
     exact ⟨rfl,(by repeat first | with_reducible (first | exact hb7 | apply below_drewN' | apply Below.drew | refine Below.alloc ?_ ?_ _ | refine Below.setCell ?_ ?_ _) | exact hb7 | omega | (simp <;> omega) | (have:=(hb7).size;first | omega | (simp <;> omega)))⟩
 ·have hd0:decide (cc=0)=false:=decide_eq_false h0
  have hd1:(cc == 0)=false:=by simpa using h0
  rw [hd0]
  clear hd0
  simp only [Bool.false_and,Bool.false_eq_true,if_false]
  go_enter Tryz.func44,Tryz.ntmps44
  go_wp2_with fail
  generalize ((w.alloc (.cells #[.int .i64 L,.slice A1 l1.length c1,.slice A2 l2.length c2,.slice A3 l3.length c3,.int .i64 p,.int .i64 q,.int .i64 r] 31)).alloc (.cells #[.slice A n c,.int .i64 a,.int .i64 b] 53))=W at *
  refine Calls.mono (HC W hS0.hb).out ?_;rintro e w1 ⟨rfl,hb1⟩
  have hS1:=(hS0.below hb1).below ((by repeat first | with_reducible (first | exact Below.refl _ _ | apply below_drewN' | apply Below.drew | refine Below.alloc ?_ ?_ _ | refine Below.setCell ?_ ?_ _) | exact Below.refl _ _ | omega | (simp <;> omega) | (have:=(Below.refl _ _).size;first | omega | (simp <;> omega))):Below w1.heap.size w1 (w1.alloc (.cells #[.int .i64 cd,.int .i64 ct] 51)))
  have C1:=Blk.new w1 51 #[.int .i64 cd,.int .i64 ct]
  have k0:(w1.alloc (.cells #[.int .i64 cd,.int .i64 ct] 51)).cell? ⟨w1.heap.size,0,none⟩=some (.int .i64 cd):=C1.cell 0
  have k1:(w1.alloc (.cells #[.int .i64 cd,.int .i64 ct] 51)).cell? ⟨w1.heap.size,1,none⟩=some (.int .i64 ct):=C1.cell 1
  have z0:(w1.alloc (.cells #[.int .i64 cd,.int .i64 ct] 51)).cell? ⟨w.heap.size+1,1,none⟩=some (.int .i64 a):=hS1.ba.cell 1
  have z1:(w1.alloc (.cells #[.int .i64 cd,.int .i64 ct] 51)).cell? ⟨w.heap.size+1,2,none⟩=some (.int .i64 b):=hS1.ba.cell 2
  have y0:(w1.alloc (.cells #[.int .i64 cd,.int .i64 ct] 51)).cell? ⟨w.heap.size,0,none⟩=some (.int .i64 L):=hS1.bx.cell 0
  have y1:(w1.alloc (.cells #[.int .i64 cd,.int .i64 ct] 51)).cell? ⟨w.heap.size,1,none⟩=some (.slice A1 l1.length c1):=hS1.bx.cell 1
  have y2:(w1.alloc (.cells #[.int .i64 cd,.int .i64 ct] 51)).cell? ⟨w.heap.size,2,none⟩=some (.slice A2 l2.length c2):=hS1.bx.cell 2
  have y3:(w1.alloc (.cells #[.int .i64 cd,.int .i64 ct] 51)).cell? ⟨w.heap.size,3,none⟩=some (.slice A3 l3.length c3):=hS1.bx.cell 3
  have y4:(w1.alloc (.cells #[.int .i64 cd,.int .i64 ct] 51)).cell? ⟨w.heap.size,4,none⟩=some (.int .i64 p):=hS1.bx.cell 4
  have y5:(w1.alloc (.cells #[.int .i64 cd,.int .i64 ct] 51)).cell? ⟨w.heap.size,5,none⟩=some (.int .i64 q):=hS1.bx.cell 5
  have y6:(w1.alloc (.cells #[.int .i64 cd,.int .i64 ct] 51)).cell? ⟨w.heap.size,6,none⟩=some (.int .i64 r):=hS1.bx.cell 6
  go_wp2_with fail
  generalize (w1.alloc (.cells #[.int .i64 cd,.int .i64 ct] 51))=w2 at *
  refine Calls.mono (HP _ hS1.hb).out ?_;rintro e w3 ⟨rfl,hb3⟩
  have hS3:=(hS1.below hb3).below ((by repeat first | with_reducible (first | exact Below.refl _ _ | apply below_drewN' | apply Below.drew | refine Below.alloc ?_ ?_ _ | refine Below.setCell ?_ ?_ _) | exact Below.refl _ _ | omega | (simp <;> omega) | (have:=(Below.refl _ _).size;first | omega | (simp <;> omega))):Below w3.heap.size w3 ((w3.alloc (.cells #[.int .i64 ld,.int .i64 lt] 51)).alloc (.cells #[.int .i64 hd,.int .i64 ht] 51)))
  clear y0 y1 y2 y3 y4 y5 y6 z0 z1 k0 k1 C1 hS1 hb3
  have M0:=(Blk.new w3 51 #[.int .i64 ld,.int .i64 lt]).alloc (.cells #[.int .i64 hd,.int .i64 ht] 51)
  have M1:=Blk.new' (w3.alloc (.cells #[.int .i64 ld,.int .i64 lt] 51)) 51 #[.int .i64 hd,.int .i64 ht] (g:=w3.heap.size+1) (by simp)
  have m0:((w3.alloc (.cells #[.int .i64 ld,.int .i64 lt] 51)).alloc (.cells #[.int .i64 hd,.int .i64 ht] 51)).cell? ⟨w3.heap.size,0,none⟩=some (.int .i64 ld):=M0.cell 0
  have m1:((w3.alloc (.cells #[.int .i64 ld,.int .i64 lt] 51)).alloc (.cells #[.int .i64 hd,.int .i64 ht] 51)).cell? ⟨w3.heap.size,1,none⟩=some (.int .i64 lt):=M0.cell 1
  have m2:((w3.alloc (.cells #[.int .i64 ld,.int .i64 lt] 51)).alloc (.cells #[.int .i64 hd,.int .i64 ht] 51)).cell? ⟨w3.heap.size+1,0,none⟩=some (.int .i64 hd):=M1.cell 0
  have m3:((w3.alloc (.cells #[.int .i64 ld,.int .i64 lt] 51)).alloc (.cells #[.int .i64 hd,.int .i64 ht] 51)).cell? ⟨w3.heap.size+1,1,none⟩=some (.int .i64 ht):=M1.cell 1
  have z0:((w3.alloc (.cells #[.int .i64 ld,.int .i64 lt] 51)).alloc (.cells #[.int .i64 hd,.int .i64 ht] 51)).cell? ⟨w.heap.size+1,1,none⟩=some (.int .i64 a):=hS3.ba.cell 1
  have z1:((w3.alloc (.cells #[.int .i64 ld,.int .i64 lt] 51)).alloc (.cells #[.int .i64 hd,.int .i64 ht] 51)).cell? ⟨w.heap.size+1,2,none⟩=some (.int .i64 b):=hS3.ba.cell 2
  go_wp2_with fail
  generalize ((w3.alloc (.cells #[.int .i64 ld,.int .i64 lt] 51)).alloc (.cells #[.int .i64 hd,.int .i64 ht] 51))=w4 at *
  refine Calls.mono (HL _).out ?_;rintro e w5 ⟨rfl,hb5⟩
  have hS5:=hS3.below hb5
  clear m0 m1 m2 m3 M0 M1 z0 z1 hS3 hb5
  have z0:w5.cell? ⟨w.heap.size+1,1,none⟩=some (.int .i64 a):=hS5.ba.cell 1
  have z1:w5.cell? ⟨w.heap.size+1,2,none⟩=some (.int .i64 b):=hS5.ba.cell 2
  have y0:w5.cell? ⟨w.heap.size,0,none⟩=some (.int .i64 L):=hS5.bx.cell 0
  have y1:w5.cell? ⟨w.heap.size,1,none⟩=some (.slice A1 l1.length c1):=hS5.bx.cell 1
  have y2:w5.cell? ⟨w.heap.size,2,none⟩=some (.slice A2 l2.length c2):=hS5.bx.cell 2
  have y3:w5.cell? ⟨w.heap.size,3,none⟩=some (.slice A3 l3.length c3):=hS5.bx.cell 3
  have y4:w5.cell? ⟨w.heap.size,4,none⟩=some (.int .i64 p):=hS5.bx.cell 4
  have y5:w5.cell? ⟨w.heap.size,5,none⟩=some (.int .i64 q):=hS5.bx.cell 5
  have y6:w5.cell? ⟨w.heap.size,6,none⟩=some (.int .i64 r):=hS5.bx.cell 6
  have hb:=hS5.hb
  cases u1 with
  | true =>
   go_wp2
   go_ret
   exact ⟨rfl,(by repeat first | with_reducible (first | exact hb | apply below_drewN' | apply Below.drew | refine Below.alloc ?_ ?_ _ | refine Below.setCell ?_ ?_ _) | exact hb | omega | (simp <;> omega) | (have:=(hb).size;first | omega | (simp <;> omega)))⟩
  | false =>
   go_wp2_with fail
   refine Calls.mono (HW _ hb).out ?_;rintro e w6 ⟨rfl,hb6⟩
   have hb7:=hb.trans (hb6.mono hb.size)
   cases u2
   all_goals
    go_wp2
    go_ret
    exact ⟨rfl,(by repeat first | with_reducible (first | exact hb7 | apply below_drewN' | apply Below.drew | refine Below.alloc ?_ ?_ _ | refine Below.setCell ?_ ?_ _) | exact hb7 | omega | (simp <;> omega) | (have:=(hb7).size;first | omega | (simp <;> omega)))⟩
theorem l31Grade_c (L:Int) (A1:Option Addr) (c1:Nat) (l1:List Int) (A2:Option Addr) (c2:Nat) (l2:List Int) (A3:Option Addr) (c3:Nat) (l3:List Term) (p q r:Int) (A:Option Addr) (n c:Nat) (a b:Int) (w:World) (E:ExIn w A1 c1 l1 A2 c2 l2 A3 c3 l3) (hx:exB L l1 l2 l3 p q r=true) (hf:figOK ⟨a,b⟩=true) :
  Calls Tryz.prog 46 #[.agg #[.int .i64 L,.slice A1 l1.length c1,.slice A2 l2.length c2,.slice A3 l3.length c3,.int .i64 p,.int .i64 q,.int .i64 r],.agg #[.slice A n c,.int .i64 a,.int .i64 b]] w fun e w'=>e=.returned (.int .i64 (gradeP L l1 l2 l3 p q r ⟨a,b⟩))∧Below w.heap.size w w':=by
 have hGt:Tryz.prog.eqGuardType Tryz.prog.depth 51=false:=by kernel_rfl
 obtain ⟨x1,x2,x3,x4,x5⟩:=ex_parts hx
 obtain ⟨b1,b2,b3,b4,b5⟩:=bound_parts x1
 have hW:=fun (W:World) (hW:Below w.heap.size w W)=>specIsWithin_c L A1 c1 l1 A2 c2 l2 A3 c3 l3 p q r ⟨a,b⟩ W (E.later hW) hx hf
 have hC:=fun (W:World) (hW:Below w.heap.size w W)=>specChainFigure_c A3 c3 l3 W b2 (E.later hW).s3
 have hP:=fun (W:World) (hW:Below w.heap.size w W)=>specPlanSpan_c L A1 c1 l1 A2 c2 l2 A3 c3 l3 p q r W (E.later hW)
 rw [x2] at hP
 have hQ1:=fun (W:World)=>l02Compare_c (exLoF L l1 l2 l3 p q r) ⟨a,b⟩ W x3 hf
 have hQ2:=fun (W:World)=>l02Compare_c ⟨a,b⟩ (exHiF L l1 l2 l3 p q r) W hf x4
 have HG:Hid (gradeP L l1 l2 l3 p q r ⟨a,b⟩=_):=rfl
 unfold gradeP at HG
 unfold gradeP
 clear E hx hf x1 x2 x3 x4 x5 b1 b2 b3 b4 b5
 generalize exLoF L l1 l2 l3 p q r=lo at *
 generalize exHiF L l1 l2 l3 p q r=hi at *
 simp only at hW
 generalize withinP lo hi a=u2 at *
 unfold leF
 generalize cmpF lo ⟨a,b⟩=q1 at *
 generalize cmpF ⟨a,b⟩ hi=q2 at *
 generalize chainFig l3=cf at *
 obtain ⟨ld,lt⟩:=lo
 obtain ⟨hd,ht⟩:=hi
 obtain ⟨⟨cd,ct⟩,cc⟩:=cf
 clear HG
 unfold Figure.agg at *
 simp only at *
 have HQ:=fun W=>eqFig cd ct a b W
 have HC:=fun W h=>Lib.hid (hC W h)
 have HP:=fun W h=>Lib.hid (hP W h)
 have HW:=fun W h=>Lib.hid (hW W h)
 have HQ1:=fun W=>Lib.hid (hQ1 W)
 have HQ2:=fun W=>Lib.hid (hQ2 W)
 clear hC hP hW hQ1 hQ2
 have hS0:GrS w L A1 l1.length c1 A2 l2.length c2 A3 l3.length c3 p q r A n c a b _:=GrS.init
 generalize hu:(decide (cd=a) && decide (ct=b))=u at *
 clear hu
 go_enter Tryz.func46,Tryz.ntmps46
 go_wp2_with fail
 generalize ((w.alloc (.cells #[.int .i64 L,.slice A1 l1.length c1,.slice A2 l2.length c2,.slice A3 l3.length c3,.int .i64 p,.int .i64 q,.int .i64 r] 31)).alloc (.cells #[.slice A n c,.int .i64 a,.int .i64 b] 53))=W at *
 refine Calls.mono (HC W hS0.hb).out ?_;rintro e w1 ⟨rfl,hb1⟩
 have hba:Below w1.heap.size w1 (w1.alloc (.cells #[.int .i64 cd,.int .i64 ct] 51)):=(by repeat first | with_reducible (first | exact Below.refl _ _ | apply below_drewN' | apply Below.drew | refine Below.alloc ?_ ?_ _ | refine Below.setCell ?_ ?_ _) | exact Below.refl _ _ | omega | (simp <;> omega) | (have:=(Below.refl _ _).size;first | omega | (simp <;> omega)))
 have hS1:=(hS0.below hb1).below hba
 have C1:=Blk.new w1 51 #[.int .i64 cd,.int .i64 ct]
 have y0:(w1.alloc (.cells #[.int .i64 cd,.int .i64 ct] 51)).cell? ⟨w.heap.size,0,none⟩=some (.int .i64 L):=hS1.bx.cell 0
 have y1:(w1.alloc (.cells #[.int .i64 cd,.int .i64 ct] 51)).cell? ⟨w.heap.size,1,none⟩=some (.slice A1 l1.length c1):=hS1.bx.cell 1
 have y2:(w1.alloc (.cells #[.int .i64 cd,.int .i64 ct] 51)).cell? ⟨w.heap.size,2,none⟩=some (.slice A2 l2.length c2):=hS1.bx.cell 2
 have y3:(w1.alloc (.cells #[.int .i64 cd,.int .i64 ct] 51)).cell? ⟨w.heap.size,3,none⟩=some (.slice A3 l3.length c3):=hS1.bx.cell 3
 have y4:(w1.alloc (.cells #[.int .i64 cd,.int .i64 ct] 51)).cell? ⟨w.heap.size,4,none⟩=some (.int .i64 p):=hS1.bx.cell 4
 have y5:(w1.alloc (.cells #[.int .i64 cd,.int .i64 ct] 51)).cell? ⟨w.heap.size,5,none⟩=some (.int .i64 q):=hS1.bx.cell 5
 have y6:(w1.alloc (.cells #[.int .i64 cd,.int .i64 ct] 51)).cell? ⟨w.heap.size,6,none⟩=some (.int .i64 r):=hS1.bx.cell 6
 go_wp2_with fail
 generalize (w1.alloc (.cells #[.int .i64 cd,.int .i64 ct] 51))=w2 at *
 generalize w1.heap.size=gc at *
 refine Calls.mono (HP _ hS1.hb).out ?_;rintro e w3 ⟨rfl,hb3⟩
 have hbl:Below w3.heap.size w3 ((w3.alloc (.cells #[.int .i64 ld,.int .i64 lt] 51)).alloc (.cells #[.int .i64 hd,.int .i64 ht] 51)):=(by repeat first | with_reducible (first | exact Below.refl _ _ | apply below_drewN' | apply Below.drew | refine Below.alloc ?_ ?_ _ | refine Below.setCell ?_ ?_ _) | exact Below.refl _ _ | omega | (simp <;> omega) | (have:=(Below.refl _ _).size;first | omega | (simp <;> omega)))
 have hS3:=(hS1.below hb3).below hbl
 have C3:=(C1.below hb3 C1.lt).below hbl (C1.below hb3 C1.lt).lt
 clear y0 y1 y2 y3 y4 y5 y6 C1 hS1 hb3 hba hbl
 have M0:=(Blk.new w3 51 #[.int .i64 ld,.int .i64 lt]).alloc (.cells #[.int .i64 hd,.int .i64 ht] 51)
 have M1:=Blk.new' (w3.alloc (.cells #[.int .i64 ld,.int .i64 lt] 51)) 51 #[.int .i64 hd,.int .i64 ht] (g:=w3.heap.size+1) (by simp)
 have z0:((w3.alloc (.cells #[.int .i64 ld,.int .i64 lt] 51)).alloc (.cells #[.int .i64 hd,.int .i64 ht] 51)).cell? ⟨w.heap.size+1,1,none⟩=some (.int .i64 a):=hS3.ba.cell 1
 have z1:((w3.alloc (.cells #[.int .i64 ld,.int .i64 lt] 51)).alloc (.cells #[.int .i64 hd,.int .i64 ht] 51)).cell? ⟨w.heap.size+1,2,none⟩=some (.int .i64 b):=hS3.ba.cell 2
 have y0:((w3.alloc (.cells #[.int .i64 ld,.int .i64 lt] 51)).alloc (.cells #[.int .i64 hd,.int .i64 ht] 51)).cell? ⟨w.heap.size,0,none⟩=some (.int .i64 L):=hS3.bx.cell 0
 have y1:((w3.alloc (.cells #[.int .i64 ld,.int .i64 lt] 51)).alloc (.cells #[.int .i64 hd,.int .i64 ht] 51)).cell? ⟨w.heap.size,1,none⟩=some (.slice A1 l1.length c1):=hS3.bx.cell 1
 have y2:((w3.alloc (.cells #[.int .i64 ld,.int .i64 lt] 51)).alloc (.cells #[.int .i64 hd,.int .i64 ht] 51)).cell? ⟨w.heap.size,2,none⟩=some (.slice A2 l2.length c2):=hS3.bx.cell 2
 have y3:((w3.alloc (.cells #[.int .i64 ld,.int .i64 lt] 51)).alloc (.cells #[.int .i64 hd,.int .i64 ht] 51)).cell? ⟨w.heap.size,3,none⟩=some (.slice A3 l3.length c3):=hS3.bx.cell 3
 have y4:((w3.alloc (.cells #[.int .i64 ld,.int .i64 lt] 51)).alloc (.cells #[.int .i64 hd,.int .i64 ht] 51)).cell? ⟨w.heap.size,4,none⟩=some (.int .i64 p):=hS3.bx.cell 4
 have y5:((w3.alloc (.cells #[.int .i64 ld,.int .i64 lt] 51)).alloc (.cells #[.int .i64 hd,.int .i64 ht] 51)).cell? ⟨w.heap.size,5,none⟩=some (.int .i64 q):=hS3.bx.cell 5
 have y6:((w3.alloc (.cells #[.int .i64 ld,.int .i64 lt] 51)).alloc (.cells #[.int .i64 hd,.int .i64 ht] 51)).cell? ⟨w.heap.size,6,none⟩=some (.int .i64 r):=hS3.bx.cell 6
 go_wp2_with fail
 generalize ((w3.alloc (.cells #[.int .i64 ld,.int .i64 lt] 51)).alloc (.cells #[.int .i64 hd,.int .i64 ht] 51))=w4 at *
 generalize w3.heap.size=gl at *
 refine Calls.mono (HW _ hS3.hb).out ?_;rintro e w5 ⟨rfl,hb5⟩
 have hS5:=hS3.below hb5
 have C5:=C3.below hb5 C3.lt
 have M5:=M0.below hb5 M0.lt
 have N5:=M1.below hb5 M1.lt
 clear y0 y1 y2 y3 y4 y5 y6 z0 z1 C3 M0 M1 hS3 hb5 hS0
 have hb:=hS5.hb
 have z0:w5.cell? ⟨w.heap.size+1,1,none⟩=some (.int .i64 a):=hS5.ba.cell 1
 have z1:w5.cell? ⟨w.heap.size+1,2,none⟩=some (.int .i64 b):=hS5.ba.cell 2
 have k0:w5.cell? ⟨gc,0,none⟩=some (.int .i64 cd):=C5.cell 0
 have k1:w5.cell? ⟨gc,1,none⟩=some (.int .i64 ct):=C5.cell 1
 have m0:w5.cell? ⟨gl,0,none⟩=some (.int .i64 ld):=M5.cell 0
 have m1:w5.cell? ⟨gl,1,none⟩=some (.int .i64 lt):=M5.cell 1
 have hex:∀ u0:Bool,(decide (cc=0) && u)=u0→Hid ((decide (cc=0) && u)=u0):=fun _ h=>h
 by_cases h0:cc=0
 ·have D0:Hid (decide (cc=0)=true):=decide_eq_true h0
  have hd1:(cc == 0)=true:=by simpa using h0
  clear hex
  cases u with
  | true =>
   go_wp2
   all_goals (go_ret;exact ⟨rfl,(by repeat first | with_reducible (first | exact hb | apply below_drewN' | apply Below.drew | refine Below.alloc ?_ ?_ _ | refine Below.setCell ?_ ?_ _) | exact hb | omega | (simp <;> omega) | (have:=(hb).size;first | omega | (simp <;> omega)))⟩)
  | false =>
   go_wp2_with fail
   refine Calls.mono (HQ1 _).out ?_;rintro e w6 ⟨rfl,hb6⟩
   have hS6:=hS5.below hb6
   have N6:=N5.below hb6 N5.lt
   have x0:w6.cell? ⟨w.heap.size+1,1,none⟩=some (.int .i64 a):=hS6.ba.cell 1
   have x1:w6.cell? ⟨w.heap.size+1,2,none⟩=some (.int .i64 b):=hS6.ba.cell 2
   have n0:w6.cell? ⟨gl+1,0,none⟩=some (.int .i64 hd):=N6.cell 0
   have n1:w6.cell? ⟨gl+1,1,none⟩=some (.int .i64 ht):=N6.cell 1
   have hb7:=hS6.hb
   by_cases h1:q1 ≤ 0
   ·have D1:Hid (decide (q1 ≤ 0)=true):=decide_eq_true h1
    by_cases h2:q2 ≤ 0
    ·have D2:Hid (decide (q2 ≤ 0)=true):=decide_eq_true h2
     go_wp2_with (go_at_call 104;refine Calls.mono (HQ2 _).out ?_;rintro e w8 ⟨rfl,hb8⟩;have hb9:=hb7.trans (hb8.mono hb7.size))
     all_goals (go_ret;exact ⟨rfl,(by repeat first | with_reducible (first | exact hb9 | apply below_drewN' | apply Below.drew | refine Below.alloc ?_ ?_ _ | refine Below.setCell ?_ ?_ _) | exact hb9 | omega | (simp <;> omega) | (have:=(hb9).size;first | omega | (simp <;> omega)))⟩)
    ·have D2:Hid (decide (q2 ≤ 0)=false):=decide_eq_false h2
     cases u2
     all_goals
      go_wp2_with (go_at_call 104;refine Calls.mono (HQ2 _).out ?_;rintro e w8 ⟨rfl,hb8⟩;have hb9:=hb7.trans (hb8.mono hb7.size))
      all_goals (go_ret;exact ⟨rfl,(by repeat first | with_reducible (first | exact hb9 | apply below_drewN' | apply Below.drew | refine Below.alloc ?_ ?_ _ | refine Below.setCell ?_ ?_ _) | exact hb9 | omega | (simp <;> omega) | (have:=(hb9).size;first | omega | (simp <;> omega)))⟩)
   ·have D1:Hid (decide (q1 ≤ 0)=false):=decide_eq_false h1
    cases u2
    all_goals
     go_wp2
     all_goals (go_ret;exact ⟨rfl,(by repeat first | with_reducible (first | exact hb7 | apply below_drewN' | apply Below.drew | refine Below.alloc ?_ ?_ _ | refine Below.setCell ?_ ?_ _) | exact hb7 | omega | (simp <;> omega) | (have:=(hb7).size;first | omega | (simp <;> omega)))⟩)
 ·have D0:Hid (decide (cc=0)=false):=decide_eq_false h0
  have hd1:(cc == 0)=false:=by simpa using h0
  clear hex
  go_wp2_with fail
  refine Calls.mono (HQ1 _).out ?_;rintro e w6 ⟨rfl,hb6⟩
  have hS6:=hS5.below hb6
  have N6:=N5.below hb6 N5.lt
  have x0:w6.cell? ⟨w.heap.size+1,1,none⟩=some (.int .i64 a):=hS6.ba.cell 1
  have x1:w6.cell? ⟨w.heap.size+1,2,none⟩=some (.int .i64 b):=hS6.ba.cell 2
  have n0:w6.cell? ⟨gl+1,0,none⟩=some (.int .i64 hd):=N6.cell 0
  have n1:w6.cell? ⟨gl+1,1,none⟩=some (.int .i64 ht):=N6.cell 1
  have hb7:=hS6.hb
  by_cases h1:q1 ≤ 0
  ·have D1:Hid (decide (q1 ≤ 0)=true):=decide_eq_true h1
   by_cases h2:q2 ≤ 0
   ·have D2:Hid (decide (q2 ≤ 0)=true):=decide_eq_true h2
    go_wp2_with (go_at_call 104;refine Calls.mono (HQ2 _).out ?_;rintro e w8 ⟨rfl,hb8⟩;have hb9:=hb7.trans (hb8.mono hb7.size))
    all_goals (go_ret;exact ⟨rfl,(by repeat first | with_reducible (first | exact hb9 | apply below_drewN' | apply Below.drew | refine Below.alloc ?_ ?_ _ | refine Below.setCell ?_ ?_ _) | exact hb9 | omega | (simp <;> omega) | (have:=(hb9).size;first | omega | (simp <;> omega)))⟩)
   ·have D2:Hid (decide (q2 ≤ 0)=false):=decide_eq_false h2
    cases u2
    all_goals
     go_wp2_with (go_at_call 104;refine Calls.mono (HQ2 _).out ?_;rintro e w8 ⟨rfl,hb8⟩;have hb9:=hb7.trans (hb8.mono hb7.size))
     all_goals (go_ret;exact ⟨rfl,(by repeat first | with_reducible (first | exact hb9 | apply below_drewN' | apply Below.drew | refine Below.alloc ?_ ?_ _ | refine Below.setCell ?_ ?_ _) | exact hb9 | omega | (simp <;> omega) | (have:=(hb9).size;first | omega | (simp <;> omega)))⟩)
  ·have D1:Hid (decide (q1 ≤ 0)=false):=decide_eq_false h1
   cases u2
   all_goals
    go_wp2
    all_goals (go_ret;exact ⟨rfl,(by repeat first | with_reducible (first | exact hb7 | apply below_drewN' | apply Below.drew | refine Below.alloc ?_ ?_ _ | refine Below.setCell ?_ ?_ _) | exact hb7 | omega | (simp <;> omega) | (have:=(hb7).size;first | omega | (simp <;> omega)))⟩)
end Go.Proofs.YtednjmldjbndhaaGreat
