/- GradeOf of the program and of the reference. Conditions: the lists' lengths. -/
import Derived.Test.YtednjmldjbndhaaGreatKGr35
import Derived.Test.YtednjmldjbndhaaGreatKGr36
set_option linter.unusedSimpArgs false
set_option linter.unusedVariables false
set_option maxRecDepth 100000
set_option maxHeartbeats 8000000
namespace Go.Proofs.YtednjmldjbndhaaGreat
open Go.RowKit
theorem ans_fig {l:List Move} {a b:Int} (h:ansB l a b=true):figOK ⟨a,b⟩=true:=by
 unfold ansB at h
 rw [Bool.and_eq_true] at h
 exact h.2
theorem implGradeOf_c (L:Int) (A1:Option Addr) (c1:Nat) (l1:List Int) (A2:Option Addr) (c2:Nat) (l2:List Int) (A3:Option Addr) (c3:Nat) (l3:List Term) (p q r:Int) (A:Option Addr) (c:Nat) (l:List Move) (a b:Int) (w:World) (E:ExIn w A1 c1 l1 A2 c2 l2 A3 c3 l3) (F:AnIn w A c l) :
  Calls Tryz.prog 20 #[.agg #[.int .i64 L,.slice A1 l1.length c1,.slice A2 l2.length c2,.slice A3 l3.length c3,.int .i64 p,.int .i64 q,.int .i64 r],.agg #[.slice A l.length c,.int .i64 a,.int .i64 b]] w fun e w'=>e=.returned (.tuple #[.int .i64 (if (exB L l1 l2 l3 p q r && ansB l a b)=true then gradeP L l1 l2 l3 p q r ⟨a,b⟩ else 0),.int .i64 (if (exB L l1 l2 l3 p q r && ansB l a b)=true then 0 else 1)])∧Below w.heap.size w w':=by
 have hW:Below w.heap.size w (((w.alloc (.cells #[.int .i64 L,.slice A1 l1.length c1,.slice A2 l2.length c2,.slice A3 l3.length c3,.int .i64 p,.int .i64 q,.int .i64 r] 31)).alloc (.cells #[.slice A l.length c,.int .i64 a,.int .i64 b] 53)).alloc (.cells #[.slice A l.length c,.int .i64 a,.int .i64 b] 53)):=(by repeat first | with_reducible (first | exact Below.refl _ _ | apply below_drewN' | apply Below.drew | refine Below.alloc ?_ ?_ _ | refine Below.setCell ?_ ?_ _) | exact Below.refl _ _ | omega | (simp <;> omega) | (have:=(Below.refl _ _).size;first | omega | (simp <;> omega)))
 have X0:=((Blk.new w 31 #[.int .i64 L,.slice A1 l1.length c1,.slice A2 l2.length c2,.slice A3 l3.length c3,.int .i64 p,.int .i64 q,.int .i64 r]).alloc (.cells #[.slice A l.length c,.int .i64 a,.int .i64 b] 53)).alloc (.cells #[.slice A l.length c,.int .i64 a,.int .i64 b] 53)
 have B0:=(Blk.new' (w.alloc (.cells #[.int .i64 L,.slice A1 l1.length c1,.slice A2 l2.length c2,.slice A3 l3.length c3,.int .i64 p,.int .i64 q,.int .i64 r] 31)) 53 #[.slice A l.length c,.int .i64 a,.int .i64 b] (g:=w.heap.size+1) (by simp)).alloc (.cells #[.slice A l.length c,.int .i64 a,.int .i64 b] 53)
 have C0:=Blk.new' ((w.alloc (.cells #[.int .i64 L,.slice A1 l1.length c1,.slice A2 l2.length c2,.slice A3 l3.length c3,.int .i64 p,.int .i64 q,.int .i64 r] 31)).alloc (.cells #[.slice A l.length c,.int .i64 a,.int .i64 b] 53)) 53 #[.slice A l.length c,.int .i64 a,.int .i64 b] (g:=w.heap.size+1+1) (by simp)
 have HK:=Lib.hid (check1_c L A1 c1 l1 A2 c2 l2 A3 c3 l3 p q r A c l a b _ (E.later hW) (F.later hW) (w.heap.size+1+1) C0)
 have HS:Hid ((exB L l1 l2 l3 p q r && ansB l a b)=true→∀ W,Below w.heap.size w W→_):=fun h W hW=>gradeOf_c L A1 c1 l1 A2 c2 l2 A3 c3 l3 p q r A l.length c a b W (E.later hW) (Bool.and_eq_true _ _ ▸ h:_∧_).1 (ans_fig (Bool.and_eq_true _ _ ▸ h:_∧_).2)
 clear C0 E F
 generalize (exB L l1 l2 l3 p q r && ansB l a b)=ok at *
 generalize exB L l1 l2 l3 p q r=xb at *
 cases ok with
 | false =>
  simp only [Bool.false_eq_true,if_false] at HK ⊢
  have HK:=Lib.hid HK.out
  go_enter Tryz.func20,Tryz.ntmps20
  go_wp2_with fail
  refine Calls.mono HK.out ?_;rintro e w1 ⟨rfl,hb1⟩
  have hW1:=hW.trans (hb1.mono hW.size)
  go_wp2
  refine bodyPost_ret (v:=.tuple #[.int .i64 0,.int .i64 1]) (by simp [results,Tryz.results20,go_sem]) rfl ⟨rfl,(by repeat first | with_reducible (first | exact hW1 | apply below_drewN' | apply Below.drew | refine Below.alloc ?_ ?_ _ | refine Below.setCell ?_ ?_ _) | exact hW1 | omega | (simp <;> omega) | (have:=(hW1).size;first | omega | (simp <;> omega)))⟩
 | true =>
  simp only [if_true] at HK ⊢
  have HS2:=Lib.hid (HS.out rfl)
  clear HS
  generalize gradeP L l1 l2 l3 p q r ⟨a,b⟩=gr at *
  go_enter Tryz.func20,Tryz.ntmps20
  go_wp2_with fail
  generalize (((w.alloc (.cells #[.int .i64 L,.slice A1 l1.length c1,.slice A2 l2.length c2,.slice A3 l3.length c3,.int .i64 p,.int .i64 q,.int .i64 r] 31)).alloc (.cells #[.slice A l.length c,.int .i64 a,.int .i64 b] 53)).alloc (.cells #[.slice A l.length c,.int .i64 a,.int .i64 b] 53))=W at *
  refine Calls.mono HK.out ?_;rintro e w1 ⟨rfl,hb1⟩
  have hW1:=hW.trans (hb1.mono hW.size)
  have X1:=X0.below hb1 X0.lt
  have B1:=B0.below hb1 B0.lt
  have hcall:=Lib.hid (HS2.out w1 hW1)
  have y0:w1.cell? ⟨w.heap.size,0,none⟩=some (.int .i64 L):=X1.cell 0
  have y1:w1.cell? ⟨w.heap.size,1,none⟩=some (.slice A1 l1.length c1):=X1.cell 1
  have y2:w1.cell? ⟨w.heap.size,2,none⟩=some (.slice A2 l2.length c2):=X1.cell 2
  have y3:w1.cell? ⟨w.heap.size,3,none⟩=some (.slice A3 l3.length c3):=X1.cell 3
  have y4:w1.cell? ⟨w.heap.size,4,none⟩=some (.int .i64 p):=X1.cell 4
  have y5:w1.cell? ⟨w.heap.size,5,none⟩=some (.int .i64 q):=X1.cell 5
  have y6:w1.cell? ⟨w.heap.size,6,none⟩=some (.int .i64 r):=X1.cell 6
  have z0:w1.cell? ⟨w.heap.size+1,0,none⟩=some (.slice A l.length c):=B1.cell 0
  have z1:w1.cell? ⟨w.heap.size+1,1,none⟩=some (.int .i64 a):=B1.cell 1
  have z2:w1.cell? ⟨w.heap.size+1,2,none⟩=some (.int .i64 b):=B1.cell 2
  clear HK X0 B0 hb1 hW HS2
  go_wp2_with fail
  refine Calls.mono hcall.out ?_;rintro e w2 ⟨rfl,hb2⟩
  have hW2:=hW1.trans (hb2.mono hW1.size)
  go_wp2
  refine bodyPost_ret (v:=.tuple #[.int .i64 gr,.int .i64 0]) (by simp [results,Tryz.results20,go_sem]) rfl ⟨rfl,(by repeat first | with_reducible (first | exact hW2 | apply below_drewN' | apply Below.drew | refine Below.alloc ?_ ?_ _ | refine Below.setCell ?_ ?_ _) | exact hW2 | omega | (simp <;> omega) | (have:=(hW2).size;first | omega | (simp <;> omega)))⟩
theorem specGradeOf_c (L:Int) (A1:Option Addr) (c1:Nat) (l1:List Int) (A2:Option Addr) (c2:Nat) (l2:List Int) (A3:Option Addr) (c3:Nat) (l3:List Term) (p q r:Int) (A:Option Addr) (c:Nat) (l:List Move) (a b:Int) (w:World) (E:ExIn w A1 c1 l1 A2 c2 l2 A3 c3 l3) (F:AnIn w A c l) :
  Calls Tryz.prog 30 #[.agg #[.int .i64 L,.slice A1 l1.length c1,.slice A2 l2.length c2,.slice A3 l3.length c3,.int .i64 p,.int .i64 q,.int .i64 r],.agg #[.slice A l.length c,.int .i64 a,.int .i64 b]] w fun e w'=>e=.returned (.tuple #[.int .i64 (if (exB L l1 l2 l3 p q r && ansB l a b)=true then gradeP L l1 l2 l3 p q r ⟨a,b⟩ else 0),.int .i64 (if (exB L l1 l2 l3 p q r && ansB l a b)=true then 0 else 1)])∧Below w.heap.size w w':=by
 have hW:Below w.heap.size w ((w.alloc (.cells #[.int .i64 L,.slice A1 l1.length c1,.slice A2 l2.length c2,.slice A3 l3.length c3,.int .i64 p,.int .i64 q,.int .i64 r] 31)).alloc (.cells #[.slice A l.length c,.int .i64 a,.int .i64 b] 53)):=(by repeat first | with_reducible (first | exact Below.refl _ _ | apply below_drewN' | apply Below.drew | refine Below.alloc ?_ ?_ _ | refine Below.setCell ?_ ?_ _) | exact Below.refl _ _ | omega | (simp <;> omega) | (have:=(Below.refl _ _).size;first | omega | (simp <;> omega)))
 have X0:=(Blk.new w 31 #[.int .i64 L,.slice A1 l1.length c1,.slice A2 l2.length c2,.slice A3 l3.length c3,.int .i64 p,.int .i64 q,.int .i64 r]).alloc (.cells #[.slice A l.length c,.int .i64 a,.int .i64 b] 53)
 have B0:=Blk.new' (w.alloc (.cells #[.int .i64 L,.slice A1 l1.length c1,.slice A2 l2.length c2,.slice A3 l3.length c3,.int .i64 p,.int .i64 q,.int .i64 r] 31)) 53 #[.slice A l.length c,.int .i64 a,.int .i64 b] (g:=w.heap.size+1) (by simp)
 have HX:=Lib.hid (specIsExercise_c L A1 c1 l1 A2 c2 l2 A3 c3 l3 p q r _ (E.later hW))
 have HA:Hid (∀ W,Below w.heap.size w W→_):=fun W hW=>l31Answer_c A c l a b W (F.later hW)
 have HS:Hid (exB L l1 l2 l3 p q r=true→ansB l a b=true→∀ W,Below w.heap.size w W→_):=fun hx ha W hW=>l31Grade_c L A1 c1 l1 A2 c2 l2 A3 c3 l3 p q r A l.length c a b W (E.later hW) hx (ans_fig ha)
 clear E F
 generalize ansB l a b=ab at *
 generalize exB L l1 l2 l3 p q r=xb at *
 cases xb with
 | false =>
  clear HS HA
  simp only [Bool.false_and,Bool.false_eq_true,if_false]
  go_enter Tryz.func30,Tryz.ntmps30
  go_wp2_with fail
  refine Calls.mono HX.out ?_;rintro e w1 ⟨rfl,hb1⟩
  have hW1:=hW.trans (hb1.mono hW.size)
  go_wp2
  refine bodyPost_ret (v:=.tuple #[.int .i64 0,.int .i64 1]) (by simp [results,Tryz.results30,go_sem]) rfl ⟨rfl,(by repeat first | with_reducible (first | exact hW1 | apply below_drewN' | apply Below.drew | refine Below.alloc ?_ ?_ _ | refine Below.setCell ?_ ?_ _) | exact hW1 | omega | (simp <;> omega) | (have:=(hW1).size;first | omega | (simp <;> omega)))⟩
 | true =>
  have HT:=Lib.hid (HS.out rfl)
  clear HS
  simp only [Bool.true_and]
  generalize gradeP L l1 l2 l3 p q r ⟨a,b⟩=gr at *
  cases ab with
  | false =>
   simp only [Bool.false_eq_true,if_false]
   go_enter Tryz.func30,Tryz.ntmps30
   go_wp2_with fail
   generalize ((w.alloc (.cells #[.int .i64 L,.slice A1 l1.length c1,.slice A2 l2.length c2,.slice A3 l3.length c3,.int .i64 p,.int .i64 q,.int .i64 r] 31)).alloc (.cells #[.slice A l.length c,.int .i64 a,.int .i64 b] 53))=W at *
   refine Calls.mono HX.out ?_;rintro e w1 ⟨rfl,hb1⟩
   have hW1:=hW.trans (hb1.mono hW.size)
   have X1:=X0.below hb1 X0.lt
   have B1:=B0.below hb1 B0.lt
   have hcall:=Lib.hid (HA.out w1 hW1)
   have y0:w1.cell? ⟨w.heap.size,0,none⟩=some (.int .i64 L):=X1.cell 0
   have y1:w1.cell? ⟨w.heap.size,1,none⟩=some (.slice A1 l1.length c1):=X1.cell 1
   have y2:w1.cell? ⟨w.heap.size,2,none⟩=some (.slice A2 l2.length c2):=X1.cell 2
   have y3:w1.cell? ⟨w.heap.size,3,none⟩=some (.slice A3 l3.length c3):=X1.cell 3
   have y4:w1.cell? ⟨w.heap.size,4,none⟩=some (.int .i64 p):=X1.cell 4
   have y5:w1.cell? ⟨w.heap.size,5,none⟩=some (.int .i64 q):=X1.cell 5
   have y6:w1.cell? ⟨w.heap.size,6,none⟩=some (.int .i64 r):=X1.cell 6
   have z0:w1.cell? ⟨w.heap.size+1,0,none⟩=some (.slice A l.length c):=B1.cell 0
   have z1:w1.cell? ⟨w.heap.size+1,1,none⟩=some (.int .i64 a):=B1.cell 1
   have z2:w1.cell? ⟨w.heap.size+1,2,none⟩=some (.int .i64 b):=B1.cell 2
   clear HX X0 B0 hb1 hW HT HA
   go_wp2_with fail
   refine Calls.mono hcall.out ?_;rintro e w2 ⟨rfl,hb2⟩
   have hW2:=hW1.trans (hb2.mono hW1.size)
   go_wp2
   refine bodyPost_ret (v:=.tuple #[.int .i64 0,.int .i64 1]) (by simp [results,Tryz.results30,go_sem]) rfl ⟨rfl,(by repeat first | with_reducible (first | exact hW2 | apply below_drewN' | apply Below.drew | refine Below.alloc ?_ ?_ _ | refine Below.setCell ?_ ?_ _) | exact hW2 | omega | (simp <;> omega) | (have:=(hW2).size;first | omega | (simp <;> omega)))⟩
  | true =>
   simp only [if_true]
   have HT2:=Lib.hid (HT.out rfl)
   clear HT
   go_enter Tryz.func30,Tryz.ntmps30
   go_wp2_with fail
   generalize ((w.alloc (.cells #[.int .i64 L,.slice A1 l1.length c1,.slice A2 l2.length c2,.slice A3 l3.length c3,.int .i64 p,.int .i64 q,.int .i64 r] 31)).alloc (.cells #[.slice A l.length c,.int .i64 a,.int .i64 b] 53))=W at *
   refine Calls.mono HX.out ?_;rintro e w1 ⟨rfl,hb1⟩
   have hW1:=hW.trans (hb1.mono hW.size)
   have X1:=X0.below hb1 X0.lt
   have B1:=B0.below hb1 B0.lt
   have hcall:=Lib.hid (HA.out w1 hW1)
   have y0:w1.cell? ⟨w.heap.size,0,none⟩=some (.int .i64 L):=X1.cell 0
   have y1:w1.cell? ⟨w.heap.size,1,none⟩=some (.slice A1 l1.length c1):=X1.cell 1
   have y2:w1.cell? ⟨w.heap.size,2,none⟩=some (.slice A2 l2.length c2):=X1.cell 2
   have y3:w1.cell? ⟨w.heap.size,3,none⟩=some (.slice A3 l3.length c3):=X1.cell 3
   have y4:w1.cell? ⟨w.heap.size,4,none⟩=some (.int .i64 p):=X1.cell 4
   have y5:w1.cell? ⟨w.heap.size,5,none⟩=some (.int .i64 q):=X1.cell 5
   have y6:w1.cell? ⟨w.heap.size,6,none⟩=some (.int .i64 r):=X1.cell 6
   have z0:w1.cell? ⟨w.heap.size+1,0,none⟩=some (.slice A l.length c):=B1.cell 0
   have z1:w1.cell? ⟨w.heap.size+1,1,none⟩=some (.int .i64 a):=B1.cell 1
   have z2:w1.cell? ⟨w.heap.size+1,2,none⟩=some (.int .i64 b):=B1.cell 2
   clear HX X0 B0 hb1 hW HA
   go_wp2_with fail
   refine Calls.mono hcall.out ?_;rintro e w2 ⟨rfl,hb2⟩
   have hW2:=hW1.trans (hb2.mono hW1.size)
   have X2:=X1.below hb2 X1.lt
   have B2:=B1.below hb2 B1.lt
   have hcall:=Lib.hid (HT2.out w2 hW2)
   clear y0 y1 y2 y3 y4 y5 y6 z0 z1 z2 hb2 X1 B1 HT2
   have y0:w2.cell? ⟨w.heap.size,0,none⟩=some (.int .i64 L):=X2.cell 0
   have y1:w2.cell? ⟨w.heap.size,1,none⟩=some (.slice A1 l1.length c1):=X2.cell 1
   have y2:w2.cell? ⟨w.heap.size,2,none⟩=some (.slice A2 l2.length c2):=X2.cell 2
   have y3:w2.cell? ⟨w.heap.size,3,none⟩=some (.slice A3 l3.length c3):=X2.cell 3
   have y4:w2.cell? ⟨w.heap.size,4,none⟩=some (.int .i64 p):=X2.cell 4
   have y5:w2.cell? ⟨w.heap.size,5,none⟩=some (.int .i64 q):=X2.cell 5
   have y6:w2.cell? ⟨w.heap.size,6,none⟩=some (.int .i64 r):=X2.cell 6
   have z0:w2.cell? ⟨w.heap.size+1,0,none⟩=some (.slice A l.length c):=B2.cell 0
   have z1:w2.cell? ⟨w.heap.size+1,1,none⟩=some (.int .i64 a):=B2.cell 1
   have z2:w2.cell? ⟨w.heap.size+1,2,none⟩=some (.int .i64 b):=B2.cell 2
   go_wp2_with fail
   refine Calls.mono hcall.out ?_;rintro e w3 ⟨rfl,hb3⟩
   have hW3:=hW2.trans (hb3.mono hW2.size)
   go_wp2
   refine bodyPost_ret (v:=.tuple #[.int .i64 gr,.int .i64 0]) (by simp [results,Tryz.results30,go_sem]) rfl ⟨rfl,(by repeat first | with_reducible (first | exact hW3 | apply below_drewN' | apply Below.drew | refine Below.alloc ?_ ?_ _ | refine Below.setCell ?_ ?_ _) | exact hW3 | omega | (simp <;> omega) | (have:=(hW3).size;first | omega | (simp <;> omega)))⟩
end Go.Proofs.YtednjmldjbndhaaGreat
