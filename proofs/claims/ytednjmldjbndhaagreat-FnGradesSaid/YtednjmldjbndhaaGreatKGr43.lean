/- ExplainAnswer of the program and of the reference. Conditions: the lists' lengths. -/
import Derived.Test.YtednjmldjbndhaaGreatKGr41
import Derived.Test.YtednjmldjbndhaaGreatKGr42
set_option linter.unusedSimpArgs false
set_option linter.unusedVariables false
set_option maxRecDepth 100000
set_option maxHeartbeats 8000000
namespace Go.Proofs.YtednjmldjbndhaaGreat
open Go.RowKit
def expS (pl:Bool) (g:Int) (all:Bool):ByteArray :=
 if pl=true then (if g ≤ 1 then ⟨#[114,105,103,104,116]⟩ else if g=2 then ⟨#[112,111,105,110,116]⟩ else ⟨#[114,101,97,100,105,110,103]⟩) else if all=true then ⟨#[109,111,118,101,115]⟩ else ⟨#[105,109,112,111,115,115,105,98,108,101]⟩
def expW (ok pl:Bool) (g:Int) (all:Bool):ByteArray:=if ok=true then expS pl g all else ⟨#[]⟩
def expC (ok:Bool):Int:=if ok=true then 0 else 1
def expV (ok pl:Bool) (g:Int) (all:Bool):Value:=.tuple #[.string (expW ok pl g all),.int .i64 (expC ok)]
theorem ex_all {w:World} {L:Int} {A1:Option Addr} {c1:Nat} {l1:List Int} {A2:Option Addr} {c2:Nat} {l2:List Int} {A3:Option Addr} {c3:Nat} {l3:List Term} {p q r:Int} (h:exB L l1 l2 l3 p q r=true) (E:ExIn w A1 c1 l1 A2 c2 l2 A3 c3 l3) :
  RuOK w L A1 c1 l1 A2 c2 l2∧ChOK w A3 c3 l3∧planCode L l1 l2 l3=0:=by
 obtain ⟨_,u1,u2,u3⟩:=ex_usual h E
 unfold exB at h
 have hc:exCode L l1 l2 l3 p q r=0:=by simpa using h
 by_cases hb:boundCode L l1 l2 l3 p q r=0
 ·obtain ⟨b1,b2,b3,b4,b5⟩:=bound_parts hb
  refine ⟨⟨b1,E.h1,E.h2,E.k1,E.k2,E.s1,E.s2⟩,⟨u3,u2,E.k3,E.s3⟩,?_⟩
  unfold planCode
  rw [b1,b2,decide_eq_true b3,decide_eq_true b4]
  rfl
 ·rw [(ex_bad hb).2.2] at hc
  exact absurd hc hb
theorem ans_all {w:World} {A:Option Addr} {c:Nat} {l:List Move} {a b:Int} (h:ansB l a b=true) (F:AnIn w A c l):MvOK w A l:=by
 unfold ansB movesB at h
 simp only [Bool.and_eq_true,decide_eq_true_eq] at h
 exact ⟨h.1.2,h.1.1,F.s⟩
theorem implExplain_c (L:Int) (A1:Option Addr) (c1:Nat) (l1:List Int) (A2:Option Addr) (c2:Nat) (l2:List Int) (A3:Option Addr) (c3:Nat) (l3:List Term) (p q r:Int) (A:Option Addr) (c:Nat) (l:List Move) (a b:Int) (w:World) (E:ExIn w A1 c1 l1 A2 c2 l2 A3 c3 l3) (F:AnIn w A c l) :
  Calls Tryz.prog 26 #[.agg #[.int .i64 L,.slice A1 l1.length c1,.slice A2 l2.length c2,.slice A3 l3.length c3,.int .i64 p,.int .i64 q,.int .i64 r],.agg #[.slice A l.length c,.int .i64 a,.int .i64 b]] w fun e w'=>e=.returned (expV (exB L l1 l2 l3 p q r && ansB l a b) (planB l1 l2 l3 l) (gradeP L l1 l2 l3 p q r ⟨a,b⟩) (decide ((runR l1 l2 (0,0) l).2=l.length)))∧Below w.heap.size w w':=by
 have hW:Below w.heap.size w (((w.alloc (.cells #[.int .i64 L,.slice A1 l1.length c1,.slice A2 l2.length c2,.slice A3 l3.length c3,.int .i64 p,.int .i64 q,.int .i64 r] 31)).alloc (.cells #[.slice A l.length c,.int .i64 a,.int .i64 b] 53)).alloc (.cells #[.slice A l.length c,.int .i64 a,.int .i64 b] 53)):=(by repeat first | with_reducible (first | exact Below.refl _ _ | apply below_drewN' | apply Below.drew | refine Below.alloc ?_ ?_ _ | refine Below.setCell ?_ ?_ _) | exact Below.refl _ _ | omega | (simp <;> omega) | (have:=(Below.refl _ _).size;first | omega | (simp <;> omega)))
 have X0:=((Blk.new w 31 #[.int .i64 L,.slice A1 l1.length c1,.slice A2 l2.length c2,.slice A3 l3.length c3,.int .i64 p,.int .i64 q,.int .i64 r]).alloc (.cells #[.slice A l.length c,.int .i64 a,.int .i64 b] 53)).alloc (.cells #[.slice A l.length c,.int .i64 a,.int .i64 b] 53)
 have B0:=(Blk.new' (w.alloc (.cells #[.int .i64 L,.slice A1 l1.length c1,.slice A2 l2.length c2,.slice A3 l3.length c3,.int .i64 p,.int .i64 q,.int .i64 r] 31)) 53 #[.slice A l.length c,.int .i64 a,.int .i64 b] (g:=w.heap.size+1) (by simp)).alloc (.cells #[.slice A l.length c,.int .i64 a,.int .i64 b] 53)
 have C0:=Blk.new' ((w.alloc (.cells #[.int .i64 L,.slice A1 l1.length c1,.slice A2 l2.length c2,.slice A3 l3.length c3,.int .i64 p,.int .i64 q,.int .i64 r] 31)).alloc (.cells #[.slice A l.length c,.int .i64 a,.int .i64 b] 53)) 53 #[.slice A l.length c,.int .i64 a,.int .i64 b] (g:=w.heap.size+1+1) (by simp)
 have HK:=Lib.hid (check1_c L A1 c1 l1 A2 c2 l2 A3 c3 l3 p q r A c l a b _ (E.later hW) (F.later hW) (w.heap.size+1+1) C0)
 have HG:Hid ((exB L l1 l2 l3 p q r && ansB l a b)=true→∀ W,Below w.heap.size w W→_):=fun h W hW=>gradeOf_c L A1 c1 l1 A2 c2 l2 A3 c3 l3 p q r A l.length c a b W (E.later hW) (Bool.and_eq_true _ _ ▸ h:_∧_).1 (ans_fig (Bool.and_eq_true _ _ ▸ h:_∧_).2)
 have HP:Hid ((exB L l1 l2 l3 p q r && ansB l a b)=true→∀ W,Below w.heap.size w W→_):=fun h W hW=>have Q:=ex_all (Bool.and_eq_true _ _ ▸ h:_∧_).1 (E.later hW);implIsPlanFor_c L A1 c1 l1 A2 c2 l2 A3 c3 l3 A c l W Q.1 Q.2.1 Q.2.2 (ans_all (Bool.and_eq_true _ _ ▸ h:_∧_).2 (F.later hW))
 have HF:Hid ((exB L l1 l2 l3 p q r && ansB l a b)=true→∀ W,Below w.heap.size w W→_):=fun h W hW=>have Q:=ex_all (Bool.and_eq_true _ _ ▸ h:_∧_).1 (E.later hW);firstImp_c L A1 c1 l1 A2 c2 l2 A c l W Q.1 (ans_all (Bool.and_eq_true _ _ ▸ h:_∧_).2 (F.later hW))
 clear C0 E F
 generalize (exB L l1 l2 l3 p q r && ansB l a b)=ok at *
 generalize planB l1 l2 l3 l=pl at *
 generalize gradeP L l1 l2 l3 p q r ⟨a,b⟩=gr at *
 cases ok with
 | false =>
  clear HG HP HF
  simp only [Bool.false_eq_true,if_false] at HK
  have hv:Hid (expV false pl gr (decide ((runR l1 l2 (0,0) l).2=l.length))=.tuple #[.string ⟨#[]⟩,.int .i64 1]):=rfl
  rw [hv.out]
  have HK:=Lib.hid HK.out
  go_enter Tryz.func26,Tryz.ntmps26
  go_wp2_with fail
  refine Calls.mono HK.out ?_;rintro e w1 ⟨rfl,hb1⟩
  have hW1:=hW.trans (hb1.mono hW.size)
  go_wp2
  go_ret2
  exact ⟨rfl,(by repeat first | with_reducible (first | exact hW1 | apply below_drewN' | apply Below.drew | refine Below.alloc ?_ ?_ _ | refine Below.setCell ?_ ?_ _) | exact hW1 | omega | (simp <;> omega) | (have:=(hW1).size;first | omega | (simp <;> omega)))⟩
 | true =>
  simp only [if_true] at HK
  have HG2:=HG.out rfl
  have HP2:=Lib.hid (HP.out rfl)
  have HF2:=HF.out rfl
  clear HG HP HF
  generalize (runR l1 l2 (0,0) l).2=nn at *
  have HG2:=Lib.hid HG2
  obtain ⟨all,hall⟩:∃ al:Bool,decide (nn=l.length)=al:=⟨_,rfl⟩
  rw [hall]
  obtain ⟨f0,f1,hf,hf1⟩:∃ f0 f1:Int,(if nn=l.length then Value.tuple #[.int .i64 0,.int .i64 4] else Value.tuple #[.int .i64 (nn:Int),.int .i64 0])=.tuple #[.int .i64 f0,.int .i64 f1]∧f1=(if all=true then 4 else 0):=by
   by_cases h:nn=l.length
   ·rw [if_pos h];rw [decide_eq_true h] at hall;subst hall;exact ⟨0,4,rfl,rfl⟩
   ·rw [if_neg h];rw [decide_eq_false h] at hall;subst hall;exact ⟨nn,0,rfl,rfl⟩
  rw [hf] at HF2
  have HF2:=Lib.hid HF2
  clear hf hall
  replace hf1:=Lib.hid hf1
  have hv:Hid (expV true pl gr all=.tuple #[.string (expS pl gr all),.int .i64 0]):=rfl
  rw [hv.out]
  have hu:Hid (∀ s,expS pl gr all=s→expS pl gr all=s):=fun _ h=>h
  generalize hes:expS pl gr all=es
  have hes:=Lib.hid hes
  go_enter Tryz.func26,Tryz.ntmps26
  go_wp2_with fail
  generalize (((w.alloc (.cells #[.int .i64 L,.slice A1 l1.length c1,.slice A2 l2.length c2,.slice A3 l3.length c3,.int .i64 p,.int .i64 q,.int .i64 r] 31)).alloc (.cells #[.slice A l.length c,.int .i64 a,.int .i64 b] 53)).alloc (.cells #[.slice A l.length c,.int .i64 a,.int .i64 b] 53))=W at *
  refine Calls.mono HK.out ?_;rintro e w1 ⟨rfl,hb1⟩
  have hW1:=hW.trans (hb1.mono hW.size)
  have X1:=X0.below hb1 X0.lt
  have B1:=B0.below hb1 B0.lt
  have hcall:=Lib.hid (HP2.out w1 hW1)
  have y0:w1.cell? ⟨w.heap.size,0,none⟩=some (.int .i64 L):=X1.cell 0
  have y1:w1.cell? ⟨w.heap.size,1,none⟩=some (.slice A1 l1.length c1):=X1.cell 1
  have y2:w1.cell? ⟨w.heap.size,2,none⟩=some (.slice A2 l2.length c2):=X1.cell 2
  have y3:w1.cell? ⟨w.heap.size,3,none⟩=some (.slice A3 l3.length c3):=X1.cell 3
  have y4:w1.cell? ⟨w.heap.size,4,none⟩=some (.int .i64 p):=X1.cell 4
  have y5:w1.cell? ⟨w.heap.size,5,none⟩=some (.int .i64 q):=X1.cell 5
  have y6:w1.cell? ⟨w.heap.size,6,none⟩=some (.int .i64 r):=X1.cell 6
  have z0:w1.cell? ⟨w.heap.size+1,0,none⟩=some (.slice A l.length c):=B1.cell 0
  have z1:w1.cell? ⟨w.heap.size+1,1,none⟩=some (.int .i64 a):=B1.cell 1
  have z2:w1.cell? ⟨w.heap.size+1,2,none⟩=some (.int .i64 b):=B1.cell 2
  clear HK X0 B0 hb1 hW HP2
  go_wp2_with fail
  refine Calls.mono hcall.out ?_;rintro e w2 ⟨rfl,hb2⟩
  have hW2:=hW1.trans (hb2.mono hW1.size)
  have X2:=X1.below hb2 X1.lt
  have B2:=B1.below hb2 B1.lt
  have hcall:=Lib.hid (HF2.out w2 hW2)
  clear y0 y1 y2 y3 y4 y5 y6 z0 z1 z2 hb2 X1 B1 HF2
  have y0:w2.cell? ⟨w.heap.size,0,none⟩=some (.int .i64 L):=X2.cell 0
  have y1:w2.cell? ⟨w.heap.size,1,none⟩=some (.slice A1 l1.length c1):=X2.cell 1
  have y2:w2.cell? ⟨w.heap.size,2,none⟩=some (.slice A2 l2.length c2):=X2.cell 2
  have y3:w2.cell? ⟨w.heap.size,3,none⟩=some (.slice A3 l3.length c3):=X2.cell 3
  have y4:w2.cell? ⟨w.heap.size,4,none⟩=some (.int .i64 p):=X2.cell 4
  have y5:w2.cell? ⟨w.heap.size,5,none⟩=some (.int .i64 q):=X2.cell 5
  have y6:w2.cell? ⟨w.heap.size,6,none⟩=some (.int .i64 r):=X2.cell 6
  have z0:w2.cell? ⟨w.heap.size+1,0,none⟩=some (.slice A l.length c):=B2.cell 0
  have z1:w2.cell? ⟨w.heap.size+1,1,none⟩=some (.int .i64 a):=B2.cell 1
  have z2:w2.cell? ⟨w.heap.size+1,2,none⟩=some (.int .i64 b):=B2.cell 2
  go_wp2_with fail
  refine Calls.mono hcall.out ?_;rintro e w3 ⟨rfl,hb3⟩
  have hW3:=hW2.trans (hb3.mono hW2.size)
  have X3:=X2.below hb3 X2.lt
  have B3:=B2.below hb3 B2.lt
  have hcall:=Lib.hid (HG2.out w3 hW3)
  clear y0 y1 y2 y3 y4 y5 y6 z0 z1 z2 hb3 X2 B2 HG2
  have y0:w3.cell? ⟨w.heap.size,0,none⟩=some (.int .i64 L):=X3.cell 0
  have y1:w3.cell? ⟨w.heap.size,1,none⟩=some (.slice A1 l1.length c1):=X3.cell 1
  have y2:w3.cell? ⟨w.heap.size,2,none⟩=some (.slice A2 l2.length c2):=X3.cell 2
  have y3:w3.cell? ⟨w.heap.size,3,none⟩=some (.slice A3 l3.length c3):=X3.cell 3
  have y4:w3.cell? ⟨w.heap.size,4,none⟩=some (.int .i64 p):=X3.cell 4
  have y5:w3.cell? ⟨w.heap.size,5,none⟩=some (.int .i64 q):=X3.cell 5
  have y6:w3.cell? ⟨w.heap.size,6,none⟩=some (.int .i64 r):=X3.cell 6
  have z0:w3.cell? ⟨w.heap.size+1,0,none⟩=some (.slice A l.length c):=B3.cell 0
  have z1:w3.cell? ⟨w.heap.size+1,1,none⟩=some (.int .i64 a):=B3.cell 1
  have z2:w3.cell? ⟨w.heap.size+1,2,none⟩=some (.int .i64 b):=B3.cell 2
  go_wp2_with fail
  refine Calls.mono hcall.out ?_;rintro e w4 ⟨rfl,hb4⟩
  have hW4:=hW3.trans (hb4.mono hW3.size)
  clear y0 y1 y2 y3 y4 y5 y6 z0 z1 z2 hb4 X3 B3 hcall
  have hes2:=hes.out
  unfold expS at hes2
  cases pl with
  | true =>
   simp only [if_true] at hes2
   by_cases g1:gr ≤ 1
   ·rw [if_pos g1] at hes2
    have hes2:=Lib.hid hes2
    go_wp2
    go_ret2
    exact ⟨by rw [← hes2.out];rfl,(by repeat first | with_reducible (first | exact hW4 | apply below_drewN' | apply Below.drew | refine Below.alloc ?_ ?_ _ | refine Below.setCell ?_ ?_ _) | exact hW4 | omega | (simp <;> omega) | (have:=(hW4).size;first | omega | (simp <;> omega)))⟩
   ·rw [if_neg g1] at hes2
    by_cases g2:gr=2
    ·rw [if_pos g2] at hes2
     have hes2:=Lib.hid hes2
     have hg2:(gr == 2)=true:=by simpa using g2
     clear g2
     go_wp2
     go_ret2
     exact ⟨by rw [← hes2.out];rfl,(by repeat first | with_reducible (first | exact hW4 | apply below_drewN' | apply Below.drew | refine Below.alloc ?_ ?_ _ | refine Below.setCell ?_ ?_ _) | exact hW4 | omega | (simp <;> omega) | (have:=(hW4).size;first | omega | (simp <;> omega)))⟩
    ·rw [if_neg g2] at hes2
     have hes2:=Lib.hid hes2
     have hg2:(gr == 2)=false:=by simpa using g2
     clear g2
     go_wp2
     go_ret2
     exact ⟨by rw [← hes2.out];rfl,(by repeat first | with_reducible (first | exact hW4 | apply below_drewN' | apply Below.drew | refine Below.alloc ?_ ?_ _ | refine Below.setCell ?_ ?_ _) | exact hW4 | omega | (simp <;> omega) | (have:=(hW4).size;first | omega | (simp <;> omega)))⟩
  | false =>
   simp only [Bool.false_eq_true,if_false] at hes2
   cases all with
   | true =>
    simp only [if_true] at hes2
    have hf2:=hf1.out
    clear hf1
    simp only [if_true] at hf2
    have hes2:=Lib.hid hes2
    subst hf2
    go_wp2
    go_ret2
    exact ⟨by rw [← hes2.out];rfl,(by repeat first | with_reducible (first | exact hW4 | apply below_drewN' | apply Below.drew | refine Below.alloc ?_ ?_ _ | refine Below.setCell ?_ ?_ _) | exact hW4 | omega | (simp <;> omega) | (have:=(hW4).size;first | omega | (simp <;> omega)))⟩
   | false =>
    simp only [Bool.false_eq_true,if_false] at hes2
    have hf2:=hf1.out
    clear hf1
    simp only [Bool.false_eq_true,if_false] at hf2
    have hes2:=Lib.hid hes2
    subst hf2
    go_wp2
    go_ret2
    exact ⟨by rw [← hes2.out];rfl,(by repeat first | with_reducible (first | exact hW4 | apply below_drewN' | apply Below.drew | refine Below.alloc ?_ ?_ _ | refine Below.setCell ?_ ?_ _) | exact hW4 | omega | (simp <;> omega) | (have:=(hW4).size;first | omega | (simp <;> omega)))⟩
theorem specExplain_c (L:Int) (A1:Option Addr) (c1:Nat) (l1:List Int) (A2:Option Addr) (c2:Nat) (l2:List Int) (A3:Option Addr) (c3:Nat) (l3:List Term) (p q r:Int) (A:Option Addr) (c:Nat) (l:List Move) (a b:Int) (w:World) (E:ExIn w A1 c1 l1 A2 c2 l2 A3 c3 l3) (F:AnIn w A c l) :
  Calls Tryz.prog 23 #[.agg #[.int .i64 L,.slice A1 l1.length c1,.slice A2 l2.length c2,.slice A3 l3.length c3,.int .i64 p,.int .i64 q,.int .i64 r],.agg #[.slice A l.length c,.int .i64 a,.int .i64 b]] w fun e w'=>e=.returned (expV (exB L l1 l2 l3 p q r && ansB l a b) (planB l1 l2 l3 l) (gradeP L l1 l2 l3 p q r ⟨a,b⟩) (decide ((runR l1 l2 (0,0) l).2=l.length)))∧Below w.heap.size w w':=by
 have hW:Below w.heap.size w ((w.alloc (.cells #[.int .i64 L,.slice A1 l1.length c1,.slice A2 l2.length c2,.slice A3 l3.length c3,.int .i64 p,.int .i64 q,.int .i64 r] 31)).alloc (.cells #[.slice A l.length c,.int .i64 a,.int .i64 b] 53)):=(by repeat first | with_reducible (first | exact Below.refl _ _ | apply below_drewN' | apply Below.drew | refine Below.alloc ?_ ?_ _ | refine Below.setCell ?_ ?_ _) | exact Below.refl _ _ | omega | (simp <;> omega) | (have:=(Below.refl _ _).size;first | omega | (simp <;> omega)))
 have X0:=(Blk.new w 31 #[.int .i64 L,.slice A1 l1.length c1,.slice A2 l2.length c2,.slice A3 l3.length c3,.int .i64 p,.int .i64 q,.int .i64 r]).alloc (.cells #[.slice A l.length c,.int .i64 a,.int .i64 b] 53)
 have B0:=Blk.new' (w.alloc (.cells #[.int .i64 L,.slice A1 l1.length c1,.slice A2 l2.length c2,.slice A3 l3.length c3,.int .i64 p,.int .i64 q,.int .i64 r] 31)) 53 #[.slice A l.length c,.int .i64 a,.int .i64 b] (g:=w.heap.size+1) (by simp)
 have HX:=Lib.hid (specIsExercise_c L A1 c1 l1 A2 c2 l2 A3 c3 l3 p q r _ (E.later hW))
 have HA:Hid (∀ W,Below w.heap.size w W→_):=fun W hW=>l31Answer_c A c l a b W (F.later hW)
 have HG:Hid (exB L l1 l2 l3 p q r=true→ansB l a b=true→∀ W,Below w.heap.size w W→_):=fun hx ha W hW=>l31Grade_c L A1 c1 l1 A2 c2 l2 A3 c3 l3 p q r A l.length c a b W (E.later hW) hx (ans_fig ha)
 have HP:Hid (exB L l1 l2 l3 p q r=true→ansB l a b=true→∀ W,Below w.heap.size w W→_):=fun hx ha W hW=>have Q:=ex_all hx (E.later hW);specIsPlanFor_c L A1 c1 l1 A2 c2 l2 A3 c3 l3 A c l W Q.1 Q.2.1 Q.2.2 (ans_all ha (F.later hW))
 have HF:Hid (exB L l1 l2 l3 p q r=true→ansB l a b=true→∀ W,Below w.heap.size w W→_):=fun hx ha W hW=>have Q:=ex_all hx (E.later hW);have M:=ans_all ha (F.later hW);l12Run_c L A1 c1 l1 A2 c2 l2 0 0 A c l W (by decide) M.a M.n Q.1.h1 Q.1.h2 Q.1.s1 Q.1.s2 M.s
 clear E F
 generalize planB l1 l2 l3 l=pl at *
 generalize gradeP L l1 l2 l3 p q r ⟨a,b⟩=gr at *
 generalize ansB l a b=ab at *
 generalize exB L l1 l2 l3 p q r=xb at *
 cases xb with
 | false =>
  clear HG HP HF HA
  have hv:Hid (expV (false && ab) pl gr (decide ((runR l1 l2 (0,0) l).2=l.length))=.tuple #[.string ⟨#[]⟩,.int .i64 1]):=rfl
  rw [hv.out]
  go_enter Tryz.func23,Tryz.ntmps23
  go_wp2_with fail
  refine Calls.mono HX.out ?_;rintro e w1 ⟨rfl,hb1⟩
  have hW1:=hW.trans (hb1.mono hW.size)
  go_wp2
  go_ret2
  exact ⟨rfl,(by repeat first | with_reducible (first | exact hW1 | apply below_drewN' | apply Below.drew | refine Below.alloc ?_ ?_ _ | refine Below.setCell ?_ ?_ _) | exact hW1 | omega | (simp <;> omega) | (have:=(hW1).size;first | omega | (simp <;> omega)))⟩
 | true =>
  have HG1:=HG.out rfl
  have HP1:=HP.out rfl
  have HF1:=HF.out rfl
  clear HG HP HF
  have HG1:=Lib.hid HG1
  have HP1:=Lib.hid HP1
  have HF1:=Lib.hid HF1
  cases ab with
  | false =>
   have hv:Hid (expV (true && false) pl gr (decide ((runR l1 l2 (0,0) l).2=l.length))=.tuple #[.string ⟨#[]⟩,.int .i64 1]):=rfl
   rw [hv.out]
   clear HG1 HP1 HF1
   go_enter Tryz.func23,Tryz.ntmps23
   go_wp2_with fail
   generalize ((w.alloc (.cells #[.int .i64 L,.slice A1 l1.length c1,.slice A2 l2.length c2,.slice A3 l3.length c3,.int .i64 p,.int .i64 q,.int .i64 r] 31)).alloc (.cells #[.slice A l.length c,.int .i64 a,.int .i64 b] 53))=W at *
   refine Calls.mono HX.out ?_;rintro e w1 ⟨rfl,hb1⟩
   have hW1:=hW.trans (hb1.mono hW.size)
   have X1:=X0.below hb1 X0.lt
   have B1:=B0.below hb1 B0.lt
   have hcall:=Lib.hid (HA.out w1 hW1)
   have y0:w1.cell? ⟨w.heap.size,0,none⟩=some (.int .i64 L):=X1.cell 0
   have y1:w1.cell? ⟨w.heap.size,1,none⟩=some (.slice A1 l1.length c1):=X1.cell 1
   have y2:w1.cell? ⟨w.heap.size,2,none⟩=some (.slice A2 l2.length c2):=X1.cell 2
   have y3:w1.cell? ⟨w.heap.size,3,none⟩=some (.slice A3 l3.length c3):=X1.cell 3
   have y4:w1.cell? ⟨w.heap.size,4,none⟩=some (.int .i64 p):=X1.cell 4
   have y5:w1.cell? ⟨w.heap.size,5,none⟩=some (.int .i64 q):=X1.cell 5
   have y6:w1.cell? ⟨w.heap.size,6,none⟩=some (.int .i64 r):=X1.cell 6
   have z0:w1.cell? ⟨w.heap.size+1,0,none⟩=some (.slice A l.length c):=B1.cell 0
   have z1:w1.cell? ⟨w.heap.size+1,1,none⟩=some (.int .i64 a):=B1.cell 1
   have z2:w1.cell? ⟨w.heap.size+1,2,none⟩=some (.int .i64 b):=B1.cell 2
   clear HX X0 B0 hb1 hW HA
   go_wp2_with fail
   refine Calls.mono hcall.out ?_;rintro e w2 ⟨rfl,hb2⟩
   have hW2:=hW1.trans (hb2.mono hW1.size)
   go_wp2
   go_ret2
   exact ⟨rfl,(by repeat first | with_reducible (first | exact hW2 | apply below_drewN' | apply Below.drew | refine Below.alloc ?_ ?_ _ | refine Below.setCell ?_ ?_ _) | exact hW2 | omega | (simp <;> omega) | (have:=(hW2).size;first | omega | (simp <;> omega)))⟩
  | true =>
   have HG2:=HG1.out rfl
   have HP2:=Lib.hid (HP1.out rfl)
   have HF2:=HF1.out rfl
   clear HG1 HP1 HF1
   generalize runR l1 l2 (0,0) l=rr at *
   obtain ⟨⟨ra,rb⟩,nn⟩:=rr
   simp only at HF2
   simp only
   have HG2:=Lib.hid HG2
   obtain ⟨all,hall⟩:∃ al:Bool,decide (nn=l.length)=al:=⟨_,rfl⟩
   rw [hall]
   obtain ⟨f1,hf,hf1⟩:∃ f1:Int,(if nn=l.length then (-1:Int) else (nn:Int))=f1∧(if all=true then f1=-1 else 0 ≤ f1):=by
    by_cases h:nn=l.length
    ·rw [if_pos h];rw [decide_eq_true h] at hall;subst hall;exact ⟨-1,rfl,by simp⟩
    ·rw [if_neg h];rw [decide_eq_false h] at hall;subst hall;exact ⟨nn,rfl,by simp⟩
   rw [hf] at HF2
   have HF2:=Lib.hid HF2
   clear hf hall
   replace hf1:=Lib.hid hf1
   have hv:Hid (expV (true && true) pl gr all=.tuple #[.string (expS pl gr all),.int .i64 0]):=rfl
   rw [hv.out]
   generalize hes:expS pl gr all=es
   have hes:=Lib.hid hes
   go_enter Tryz.func23,Tryz.ntmps23
   go_wp2_with fail
   generalize ((w.alloc (.cells #[.int .i64 L,.slice A1 l1.length c1,.slice A2 l2.length c2,.slice A3 l3.length c3,.int .i64 p,.int .i64 q,.int .i64 r] 31)).alloc (.cells #[.slice A l.length c,.int .i64 a,.int .i64 b] 53))=W at *
   refine Calls.mono HX.out ?_;rintro e w1 ⟨rfl,hb1⟩
   have hW1:=hW.trans (hb1.mono hW.size)
   have X1:=X0.below hb1 X0.lt
   have B1:=B0.below hb1 B0.lt
   have hcall:=Lib.hid (HA.out w1 hW1)
   have y0:w1.cell? ⟨w.heap.size,0,none⟩=some (.int .i64 L):=X1.cell 0
   have y1:w1.cell? ⟨w.heap.size,1,none⟩=some (.slice A1 l1.length c1):=X1.cell 1
   have y2:w1.cell? ⟨w.heap.size,2,none⟩=some (.slice A2 l2.length c2):=X1.cell 2
   have y3:w1.cell? ⟨w.heap.size,3,none⟩=some (.slice A3 l3.length c3):=X1.cell 3
   have y4:w1.cell? ⟨w.heap.size,4,none⟩=some (.int .i64 p):=X1.cell 4
   have y5:w1.cell? ⟨w.heap.size,5,none⟩=some (.int .i64 q):=X1.cell 5
   have y6:w1.cell? ⟨w.heap.size,6,none⟩=some (.int .i64 r):=X1.cell 6
   have z0:w1.cell? ⟨w.heap.size+1,0,none⟩=some (.slice A l.length c):=B1.cell 0
   have z1:w1.cell? ⟨w.heap.size+1,1,none⟩=some (.int .i64 a):=B1.cell 1
   have z2:w1.cell? ⟨w.heap.size+1,2,none⟩=some (.int .i64 b):=B1.cell 2
   clear HX X0 B0 hb1 hW HA
   go_wp2_with fail
   refine Calls.mono hcall.out ?_;rintro e w2 ⟨rfl,hb2⟩
   have hW2:=hW1.trans (hb2.mono hW1.size)
   have X2:=X1.below hb2 X1.lt
   have B2:=B1.below hb2 B1.lt
   have hcall:=Lib.hid (HP2.out w2 hW2)
   clear y0 y1 y2 y3 y4 y5 y6 z0 z1 z2 hb2 X1 B1 HP2
   have y0:w2.cell? ⟨w.heap.size,0,none⟩=some (.int .i64 L):=X2.cell 0
   have y1:w2.cell? ⟨w.heap.size,1,none⟩=some (.slice A1 l1.length c1):=X2.cell 1
   have y2:w2.cell? ⟨w.heap.size,2,none⟩=some (.slice A2 l2.length c2):=X2.cell 2
   have y3:w2.cell? ⟨w.heap.size,3,none⟩=some (.slice A3 l3.length c3):=X2.cell 3
   have y4:w2.cell? ⟨w.heap.size,4,none⟩=some (.int .i64 p):=X2.cell 4
   have y5:w2.cell? ⟨w.heap.size,5,none⟩=some (.int .i64 q):=X2.cell 5
   have y6:w2.cell? ⟨w.heap.size,6,none⟩=some (.int .i64 r):=X2.cell 6
   have z0:w2.cell? ⟨w.heap.size+1,0,none⟩=some (.slice A l.length c):=B2.cell 0
   have z1:w2.cell? ⟨w.heap.size+1,1,none⟩=some (.int .i64 a):=B2.cell 1
   have z2:w2.cell? ⟨w.heap.size+1,2,none⟩=some (.int .i64 b):=B2.cell 2
   go_wp2_with fail
   refine Calls.mono hcall.out ?_;rintro e w3 ⟨rfl,hb3⟩
   have hW3:=hW2.trans (hb3.mono hW2.size)
   have X3:=X2.below hb3 X2.lt
   have B3:=B2.below hb3 B2.lt
   have hcall:=Lib.hid (HF2.out w3 hW3)
   clear y0 y1 y2 y3 y4 y5 y6 z0 z1 z2 hb3 X2 B2 HF2
   have y0:w3.cell? ⟨w.heap.size,0,none⟩=some (.int .i64 L):=X3.cell 0
   have y1:w3.cell? ⟨w.heap.size,1,none⟩=some (.slice A1 l1.length c1):=X3.cell 1
   have y2:w3.cell? ⟨w.heap.size,2,none⟩=some (.slice A2 l2.length c2):=X3.cell 2
   have y3:w3.cell? ⟨w.heap.size,3,none⟩=some (.slice A3 l3.length c3):=X3.cell 3
   have y4:w3.cell? ⟨w.heap.size,4,none⟩=some (.int .i64 p):=X3.cell 4
   have y5:w3.cell? ⟨w.heap.size,5,none⟩=some (.int .i64 q):=X3.cell 5
   have y6:w3.cell? ⟨w.heap.size,6,none⟩=some (.int .i64 r):=X3.cell 6
   have z0:w3.cell? ⟨w.heap.size+1,0,none⟩=some (.slice A l.length c):=B3.cell 0
   have z1:w3.cell? ⟨w.heap.size+1,1,none⟩=some (.int .i64 a):=B3.cell 1
   have z2:w3.cell? ⟨w.heap.size+1,2,none⟩=some (.int .i64 b):=B3.cell 2
   go_wp2_with fail
   refine Calls.mono hcall.out ?_;rintro e w4 ⟨rfl,hb4⟩
   have hba:Below w4.heap.size w4 (w4.alloc (.cells #[.int .i64 ra,.int .i64 rb] 104)):=(Below.refl _ _).alloc (Nat.le_refl _) _
   have hW4:=(hW3.trans (hb4.mono hW3.size)).trans (hba.mono (hW3.trans (hb4.mono hW3.size)).size)
   have X4:=(X3.below hb4 X3.lt).alloc (.cells #[.int .i64 ra,.int .i64 rb] 104)
   have B4:=(B3.below hb4 B3.lt).alloc (.cells #[.int .i64 ra,.int .i64 rb] 104)
   have hcall:=Lib.hid (HG2.out _ hW4)
   clear y0 y1 y2 y3 y4 y5 y6 z0 z1 z2 hb4 X3 B3 HG2 hba
   have y0:(w4.alloc (.cells #[.int .i64 ra,.int .i64 rb] 104)).cell? ⟨w.heap.size,0,none⟩=some (.int .i64 L):=X4.cell 0
   have y1:(w4.alloc (.cells #[.int .i64 ra,.int .i64 rb] 104)).cell? ⟨w.heap.size,1,none⟩=some (.slice A1 l1.length c1):=X4.cell 1
   have y2:(w4.alloc (.cells #[.int .i64 ra,.int .i64 rb] 104)).cell? ⟨w.heap.size,2,none⟩=some (.slice A2 l2.length c2):=X4.cell 2
   have y3:(w4.alloc (.cells #[.int .i64 ra,.int .i64 rb] 104)).cell? ⟨w.heap.size,3,none⟩=some (.slice A3 l3.length c3):=X4.cell 3
   have y4:(w4.alloc (.cells #[.int .i64 ra,.int .i64 rb] 104)).cell? ⟨w.heap.size,4,none⟩=some (.int .i64 p):=X4.cell 4
   have y5:(w4.alloc (.cells #[.int .i64 ra,.int .i64 rb] 104)).cell? ⟨w.heap.size,5,none⟩=some (.int .i64 q):=X4.cell 5
   have y6:(w4.alloc (.cells #[.int .i64 ra,.int .i64 rb] 104)).cell? ⟨w.heap.size,6,none⟩=some (.int .i64 r):=X4.cell 6
   have z0:(w4.alloc (.cells #[.int .i64 ra,.int .i64 rb] 104)).cell? ⟨w.heap.size+1,0,none⟩=some (.slice A l.length c):=B4.cell 0
   have z1:(w4.alloc (.cells #[.int .i64 ra,.int .i64 rb] 104)).cell? ⟨w.heap.size+1,1,none⟩=some (.int .i64 a):=B4.cell 1
   have z2:(w4.alloc (.cells #[.int .i64 ra,.int .i64 rb] 104)).cell? ⟨w.heap.size+1,2,none⟩=some (.int .i64 b):=B4.cell 2
   go_wp2_with fail
   refine Calls.mono hcall.out ?_;rintro e w5 ⟨rfl,hb5⟩
   have hW5:=hW4.trans (hb5.mono hW4.size)
   clear y0 y1 y2 y3 y4 y5 y6 z0 z1 z2 hb5 X4 B4 hcall
   have hes2:=hes.out
   unfold expS at hes2
   cases pl with
   | true =>
    simp only [if_true] at hes2
    by_cases g1:gr ≤ 1
    ·rw [if_pos g1] at hes2
     have hes2:=Lib.hid hes2
     go_wp2
     go_ret2
     exact ⟨by rw [← hes2.out];rfl,(by repeat first | with_reducible (first | exact hW5 | apply below_drewN' | apply Below.drew | refine Below.alloc ?_ ?_ _ | refine Below.setCell ?_ ?_ _) | exact hW5 | omega | (simp <;> omega) | (have:=(hW5).size;first | omega | (simp <;> omega)))⟩
    ·rw [if_neg g1] at hes2
     by_cases g2:gr=2
     ·rw [if_pos g2] at hes2
      have hes2:=Lib.hid hes2
      have hg2:(gr == 2)=true:=by simpa using g2
      clear g2
      go_wp2
      go_ret2
      exact ⟨by rw [← hes2.out];rfl,(by repeat first | with_reducible (first | exact hW5 | apply below_drewN' | apply Below.drew | refine Below.alloc ?_ ?_ _ | refine Below.setCell ?_ ?_ _) | exact hW5 | omega | (simp <;> omega) | (have:=(hW5).size;first | omega | (simp <;> omega)))⟩
     ·rw [if_neg g2] at hes2
      have hes2:=Lib.hid hes2
      have hg2:(gr == 2)=false:=by simpa using g2
      clear g2
      go_wp2
      go_ret2
      exact ⟨by rw [← hes2.out];rfl,(by repeat first | with_reducible (first | exact hW5 | apply below_drewN' | apply Below.drew | refine Below.alloc ?_ ?_ _ | refine Below.setCell ?_ ?_ _) | exact hW5 | omega | (simp <;> omega) | (have:=(hW5).size;first | omega | (simp <;> omega)))⟩
   | false =>
    simp only [Bool.false_eq_true,if_false] at hes2
    cases all with
    | true =>
     simp only [if_true] at hes2
     have hf2:=hf1.out
     clear hf1
     simp only [if_true] at hf2
     have hes2:=Lib.hid hes2
     subst hf2
     go_wp2
     go_ret2
     exact ⟨by rw [← hes2.out];rfl,(by repeat first | with_reducible (first | exact hW5 | apply below_drewN' | apply Below.drew | refine Below.alloc ?_ ?_ _ | refine Below.setCell ?_ ?_ _) | exact hW5 | omega | (simp <;> omega) | (have:=(hW5).size;first | omega | (simp <;> omega)))⟩
    | false =>
     simp only [Bool.false_eq_true,if_false] at hes2
     have hf2:=hf1.out
     clear hf1
     simp only [Bool.false_eq_true,if_false] at hf2
     have hes2:=Lib.hid hes2
     go_wp2
     go_ret2
     exact ⟨by rw [← hes2.out];rfl,(by repeat first | with_reducible (first | exact hW5 | apply below_drewN' | apply Below.drew | refine Below.alloc ?_ ?_ _ | refine Below.setCell ?_ ?_ _) | exact hW5 | omega | (simp <;> omega) | (have:=(hW5).size;first | omega | (simp <;> omega)))⟩
end Go.Proofs.YtednjmldjbndhaaGreat
