/- NextMove of the program and of the reference. Conditions: the lists' lengths. -/
import Derived.Test.YtednjmldjbndhaaGreatKGr36
set_option linter.unusedSimpArgs false
set_option linter.unusedVariables false
set_option maxRecDepth 100000
set_option maxHeartbeats 8000000
namespace Go.Proofs.YtednjmldjbndhaaGreat
open Go.RowKit
def nextP (ms l:List Move):Move × Int:=if stepN ms l < l.length then (⟨0,0,0,0⟩,5) else if stepN ms l=ms.length then (⟨0,0,0,0⟩,4) else (ms[stepN ms l]?.getD ⟨0,0,0,0⟩,0)
def nmRes (ok:Bool) (ms l:List Move):Move × Int:=if ok=true then nextP ms l else (⟨0,0,0,0⟩,1)
def nmV (x:Move × Int):Value:=.tuple #[.agg #[.int .i64 x.1.kind,.int .i64 x.1.scale,.int .i64 x.1.digits,.int .i64 x.1.tens],.int .i64 x.2]
theorem implNextMove_c (L:Int) (A1:Option Addr) (c1:Nat) (l1:List Int) (A2:Option Addr) (c2:Nat) (l2:List Int) (A3:Option Addr) (c3:Nat) (l3:List Term) (p q r:Int) (A:Option Addr) (c:Nat) (l:List Move) (a b:Int) (w:World) (E:ExIn w A1 c1 l1 A2 c2 l2 A3 c3 l3) (F:AnIn w A c l) :
  Calls Tryz.prog 33 #[.agg #[.int .i64 L,.slice A1 l1.length c1,.slice A2 l2.length c2,.slice A3 l3.length c3,.int .i64 p,.int .i64 q,.int .i64 r],.agg #[.slice A l.length c,.int .i64 a,.int .i64 b]] w fun e w'=>e=.returned (nmV (nmRes (exB L l1 l2 l3 p q r && ansB l a b) (usualP l3).ms l))∧Below w.heap.size w w':=by
 have hW:Below w.heap.size w ((((w.alloc (.cells #[.int .i64 L,.slice A1 l1.length c1,.slice A2 l2.length c2,.slice A3 l3.length c3,.int .i64 p,.int .i64 q,.int .i64 r] 31)).alloc (.cells #[.slice A l.length c,.int .i64 a,.int .i64 b] 53)).alloc (.cells #[.int .i64 0,.int .i64 0,.int .i64 0,.int .i64 0] 75)).alloc (.cells #[.slice A l.length c,.int .i64 a,.int .i64 b] 53)):=(by repeat first | with_reducible (first | exact Below.refl _ _ | apply below_drewN' | apply Below.drew | refine Below.alloc ?_ ?_ _ | refine Below.setCell ?_ ?_ _) | exact Below.refl _ _ | omega | (simp <;> omega) | (have:=(Below.refl _ _).size;first | omega | (simp <;> omega)))
 have X0:=(((Blk.new w 31 #[.int .i64 L,.slice A1 l1.length c1,.slice A2 l2.length c2,.slice A3 l3.length c3,.int .i64 p,.int .i64 q,.int .i64 r]).alloc (.cells #[.slice A l.length c,.int .i64 a,.int .i64 b] 53)).alloc (.cells #[.int .i64 0,.int .i64 0,.int .i64 0,.int .i64 0] 75)).alloc (.cells #[.slice A l.length c,.int .i64 a,.int .i64 b] 53)
 have B0:=((Blk.new' (w.alloc (.cells #[.int .i64 L,.slice A1 l1.length c1,.slice A2 l2.length c2,.slice A3 l3.length c3,.int .i64 p,.int .i64 q,.int .i64 r] 31)) 53 #[.slice A l.length c,.int .i64 a,.int .i64 b] (g:=w.heap.size+1) (by simp)).alloc (.cells #[.int .i64 0,.int .i64 0,.int .i64 0,.int .i64 0] 75)).alloc (.cells #[.slice A l.length c,.int .i64 a,.int .i64 b] 53)
 have R0:=(Blk.new' ((w.alloc (.cells #[.int .i64 L,.slice A1 l1.length c1,.slice A2 l2.length c2,.slice A3 l3.length c3,.int .i64 p,.int .i64 q,.int .i64 r] 31)).alloc (.cells #[.slice A l.length c,.int .i64 a,.int .i64 b] 53)) 75 #[.int .i64 0,.int .i64 0,.int .i64 0,.int .i64 0] (g:=w.heap.size+1+1) (by simp)).alloc (.cells #[.slice A l.length c,.int .i64 a,.int .i64 b] 53)
 have C0:=Blk.new' (((w.alloc (.cells #[.int .i64 L,.slice A1 l1.length c1,.slice A2 l2.length c2,.slice A3 l3.length c3,.int .i64 p,.int .i64 q,.int .i64 r] 31)).alloc (.cells #[.slice A l.length c,.int .i64 a,.int .i64 b] 53)).alloc (.cells #[.int .i64 0,.int .i64 0,.int .i64 0,.int .i64 0] 75)) 53 #[.slice A l.length c,.int .i64 a,.int .i64 b] (g:=w.heap.size+1+1+1) (by simp)
 have HK:=Lib.hid (check1_c L A1 c1 l1 A2 c2 l2 A3 c3 l3 p q r A c l a b _ (E.later hW) (F.later hW) (w.heap.size+1+1+1) C0)
 have HS:Hid (exB L l1 l2 l3 p q r=true→∀ W,Below w.heap.size w W→_):=fun hx W hW=>stepOf_c L A1 c1 l1 A2 c2 l2 A3 c3 l3 p q r A c l a b W (E.later hW) hx (F.later hW)
 have hx:Hid ((exB L l1 l2 l3 p q r && ansB l a b)=true→exB L l1 l2 l3 p q r=true∧(usualP l3).ms.length ≤ 19):=fun h=>by
  have h1:=(Bool.and_eq_true _ _ ▸ h:_∧_).1
  obtain ⟨R,r1,r2,r3⟩:=ex_usual h1 E
  exact ⟨h1,(usual_ok r1 r2 r3).2⟩
 have hll:=F.n
 clear C0 E F
 generalize (exB L l1 l2 l3 p q r && ansB l a b)=ok at *
 generalize exB L l1 l2 l3 p q r=xb at *
 generalize (usualP l3).ms=ms at *
 cases ok with
 | false =>
  have hres:Hid (nmRes false ms l=(⟨0,0,0,0⟩,1)):=rfl
  simp only [Bool.false_eq_true,if_false] at HK
  have HK:=Lib.hid HK.out
  go_enter Tryz.func33,Tryz.ntmps33
  go_wp2_with fail
  generalize ((((w.alloc (.cells #[.int .i64 L,.slice A1 l1.length c1,.slice A2 l2.length c2,.slice A3 l3.length c3,.int .i64 p,.int .i64 q,.int .i64 r] 31)).alloc (.cells #[.slice A l.length c,.int .i64 a,.int .i64 b] 53)).alloc (.cells #[.int .i64 0,.int .i64 0,.int .i64 0,.int .i64 0] 75)).alloc (.cells #[.slice A l.length c,.int .i64 a,.int .i64 b] 53))=W at *
  refine Calls.mono HK.out ?_;rintro e w1 ⟨rfl,hb1⟩
  have hW1:=hW.trans (hb1.mono hW.size)
  have R1:=R0.below hb1 R0.lt
  have r0:w1.cell? ⟨w.heap.size+1+1,0,none⟩=some (.int .i64 0):=R1.cell 0
  have f0:w1.frozen? ⟨w.heap.size+1+1,0,none⟩=false:=R1.frozen 0
  have r1:w1.cell? ⟨w.heap.size+1+1,1,none⟩=some (.int .i64 0):=R1.cell 1
  have f1:w1.frozen? ⟨w.heap.size+1+1,1,none⟩=false:=R1.frozen 1
  have r2:w1.cell? ⟨w.heap.size+1+1,2,none⟩=some (.int .i64 0):=R1.cell 2
  have f2:w1.frozen? ⟨w.heap.size+1+1,2,none⟩=false:=R1.frozen 2
  have r3:w1.cell? ⟨w.heap.size+1+1,3,none⟩=some (.int .i64 0):=R1.cell 3
  have f3:w1.frozen? ⟨w.heap.size+1+1,3,none⟩=false:=R1.frozen 3
  clear HK X0 B0 R0 hW hb1 HS hx
  go_wp2
  refine bodyPost_ret (v:=.tuple #[.agg #[.int .i64 0,.int .i64 0,.int .i64 0,.int .i64 0],.int .i64 1]) (by simp [results,Tryz.results33,go_sem,r0,r1,r2,r3]) rfl ⟨by rw [hres.out];rfl,(by repeat first | with_reducible (first | exact hW1 | apply below_drewN' | apply Below.drew | refine Below.alloc ?_ ?_ _ | refine Below.setCell ?_ ?_ _) | exact hW1 | omega | (simp <;> omega) | (have:=(hW1).size;first | omega | (simp <;> omega)))⟩
 | true =>
  simp only [if_true] at HK
  obtain ⟨hx1,hms⟩:=hx.out rfl
  have HT:=Lib.hid (HS.out hx1)
  clear HS hx hx1
  go_enter Tryz.func33,Tryz.ntmps33
  go_wp2_with fail
  generalize ((((w.alloc (.cells #[.int .i64 L,.slice A1 l1.length c1,.slice A2 l2.length c2,.slice A3 l3.length c3,.int .i64 p,.int .i64 q,.int .i64 r] 31)).alloc (.cells #[.slice A l.length c,.int .i64 a,.int .i64 b] 53)).alloc (.cells #[.int .i64 0,.int .i64 0,.int .i64 0,.int .i64 0] 75)).alloc (.cells #[.slice A l.length c,.int .i64 a,.int .i64 b] 53))=W at *
  refine Calls.mono HK.out ?_;rintro e w1 ⟨rfl,hb1⟩
  have hW1:=hW.trans (hb1.mono hW.size)
  have X1:=X0.below hb1 X0.lt
  have B1:=B0.below hb1 B0.lt
  have R1:=R0.below hb1 R0.lt
  have hcall:=Lib.hid (HT.out w1 hW1)
  have y0:w1.cell? ⟨w.heap.size,0,none⟩=some (.int .i64 L):=X1.cell 0
  have y1:w1.cell? ⟨w.heap.size,1,none⟩=some (.slice A1 l1.length c1):=X1.cell 1
  have y2:w1.cell? ⟨w.heap.size,2,none⟩=some (.slice A2 l2.length c2):=X1.cell 2
  have y3:w1.cell? ⟨w.heap.size,3,none⟩=some (.slice A3 l3.length c3):=X1.cell 3
  have y4:w1.cell? ⟨w.heap.size,4,none⟩=some (.int .i64 p):=X1.cell 4
  have y5:w1.cell? ⟨w.heap.size,5,none⟩=some (.int .i64 q):=X1.cell 5
  have y6:w1.cell? ⟨w.heap.size,6,none⟩=some (.int .i64 r):=X1.cell 6
  have z0:w1.cell? ⟨w.heap.size+1,0,none⟩=some (.slice A l.length c):=B1.cell 0
  have z1:w1.cell? ⟨w.heap.size+1,1,none⟩=some (.int .i64 a):=B1.cell 1
  have z2:w1.cell? ⟨w.heap.size+1,2,none⟩=some (.int .i64 b):=B1.cell 2
  clear HK X0 B0 R0 hb1 hW HT
  go_wp2_with fail
  refine Calls.mono hcall.out ?_;rintro e w2 ⟨⟨A',c',rfl,hk',hs'⟩,hb2⟩
  have hW2:=hW1.trans (hb2.mono hW1.size)
  have B2:=B1.below hb2 B1.lt
  have R2:=R1.below hb2 R1.lt
  clear y0 y1 y2 y3 y4 y5 y6 z0 z1 z2 hcall hW1 hb2 X1 B1 R1
  have z0:w2.cell? ⟨w.heap.size+1,0,none⟩=some (.slice A l.length c):=B2.cell 0
  have r0:w2.cell? ⟨w.heap.size+1+1,0,none⟩=some (.int .i64 0):=R2.cell 0
  have f0:w2.frozen? ⟨w.heap.size+1+1,0,none⟩=false:=R2.frozen 0
  have r1:w2.cell? ⟨w.heap.size+1+1,1,none⟩=some (.int .i64 0):=R2.cell 1
  have f1:w2.frozen? ⟨w.heap.size+1+1,1,none⟩=false:=R2.frozen 1
  have r2:w2.cell? ⟨w.heap.size+1+1,2,none⟩=some (.int .i64 0):=R2.cell 2
  have f2:w2.frozen? ⟨w.heap.size+1+1,2,none⟩=false:=R2.frozen 2
  have r3:w2.cell? ⟨w.heap.size+1+1,3,none⟩=some (.int .i64 0):=R2.cell 3
  have f3:w2.frozen? ⟨w.heap.size+1+1,3,none⟩=false:=R2.frozen 3
  clear B2 R2
  have Hn:=Lib.hid (stepN_le (ms:=ms) (l:=l))
  have hP:Hid (nmRes true ms l=nextP ms l):=rfl
  by_cases h1:stepN ms l < l.length
  ·have hres:Hid (nmRes true ms l=(⟨0,0,0,0⟩,5)):=hP.out.trans (if_pos h1)
   have h1I:((stepN ms l:Nat):Int) < (l.length:Int):=by omega
   generalize stepN ms l=n at *
   go_wp2
   refine bodyPost_ret (v:=.tuple #[.agg #[.int .i64 0,.int .i64 0,.int .i64 0,.int .i64 0],.int .i64 5]) (by simp [results,Tryz.results33,go_sem,r0,r1,r2,r3]) rfl ⟨by rw [hres.out];rfl,(by repeat first | with_reducible (first | exact hW2 | apply below_drewN' | apply Below.drew | refine Below.alloc ?_ ?_ _ | refine Below.setCell ?_ ?_ _) | exact hW2 | omega | (simp <;> omega) | (have:=(hW2).size;first | omega | (simp <;> omega)))⟩
  ·have h1I:¬ ((stepN ms l:Nat):Int) < (l.length:Int):=by omega
   by_cases h2:stepN ms l=ms.length
   ·have hres:Hid (nmRes true ms l=(⟨0,0,0,0⟩,4)):=hP.out.trans ((if_neg h1).trans (if_pos h2))
    have h2I:((stepN ms l:Nat):Int)=(ms.length:Int):=by omega
    clear h2
    generalize stepN ms l=n at *
    go_wp2
    refine bodyPost_ret (v:=.tuple #[.agg #[.int .i64 0,.int .i64 0,.int .i64 0,.int .i64 0],.int .i64 4]) (by simp [results,Tryz.results33,go_sem,r0,r1,r2,r3]) rfl ⟨by rw [hres.out];rfl,(by repeat first | with_reducible (first | exact hW2 | apply below_drewN' | apply Below.drew | refine Below.alloc ?_ ?_ _ | refine Below.setCell ?_ ?_ _) | exact hW2 | omega | (simp <;> omega) | (have:=(hW2).size;first | omega | (simp <;> omega)))⟩
   ·have hlt:stepN ms l < ms.length:=by have:=Hn.out;omega
    have hres:Hid (nmRes true ms l=(ms[stepN ms l],0)):=hP.out.trans ((if_neg h1).trans ((if_neg h2).trans (by rw [List.getElem?_eq_getElem hlt];rfl)))
    have h2I:¬ ((stepN ms l:Nat):Int)=(ms.length:Int):=by omega
    have h3I:((stepN ms l:Nat):Int) < (ms.length:Int):=by omega
    obtain ⟨bb,off,rfl,bbB,hc⟩:=hs'.at_ (i:=stepN ms l) (by simpa using hlt)
    simp only [List.getElem_map] at hc
    have m0:w2.cell? ⟨bb,off+stepN ms l * 4,none⟩=some (.int .i64 ms[stepN ms l].kind):=hc 0 _ rfl
    have m1:w2.cell? ⟨bb,off+stepN ms l * 4+1,none⟩=some (.int .i64 ms[stepN ms l].scale):=hc 1 _ rfl
    have m2:w2.cell? ⟨bb,off+stepN ms l * 4+2,none⟩=some (.int .i64 ms[stepN ms l].digits):=hc 2 _ rfl
    have m3:w2.cell? ⟨bb,off+stepN ms l * 4+3,none⟩=some (.int .i64 ms[stepN ms l].tens):=hc 3 _ rfl
    clear hc
    generalize ms[stepN ms l]=x at *
    generalize stepN ms l=n at *
    obtain ⟨x0,x1,x2,x3⟩:=x
    simp only at m0 m1 m2 m3
    go_wp2
    refine bodyPost_ret (v:=.tuple #[.agg #[.int .i64 x0,.int .i64 x1,.int .i64 x2,.int .i64 x3],.int .i64 0]) (by simp [results,Tryz.results33,go_sem,r0,r1,r2,r3]) rfl ⟨by rw [hres.out];rfl,(by repeat first | with_reducible (first | exact hW2 | apply below_drewN' | apply Below.drew | refine Below.alloc ?_ ?_ _ | refine Below.setCell ?_ ?_ _) | exact hW2 | omega | (simp <;> omega) | (have:=(hW2).size;first | omega | (simp <;> omega)))⟩
theorem specNextMove_c (L:Int) (A1:Option Addr) (c1:Nat) (l1:List Int) (A2:Option Addr) (c2:Nat) (l2:List Int) (A3:Option Addr) (c3:Nat) (l3:List Term) (p q r:Int) (A:Option Addr) (c:Nat) (l:List Move) (a b:Int) (w:World) (E:ExIn w A1 c1 l1 A2 c2 l2 A3 c3 l3) (F:AnIn w A c l) :
  Calls Tryz.prog 34 #[.agg #[.int .i64 L,.slice A1 l1.length c1,.slice A2 l2.length c2,.slice A3 l3.length c3,.int .i64 p,.int .i64 q,.int .i64 r],.agg #[.slice A l.length c,.int .i64 a,.int .i64 b]] w fun e w'=>e=.returned (nmV (nmRes (exB L l1 l2 l3 p q r && ansB l a b) (usualP l3).ms l))∧Below w.heap.size w w':=by
 have hW:Below w.heap.size w (((w.alloc (.cells #[.int .i64 L,.slice A1 l1.length c1,.slice A2 l2.length c2,.slice A3 l3.length c3,.int .i64 p,.int .i64 q,.int .i64 r] 31)).alloc (.cells #[.slice A l.length c,.int .i64 a,.int .i64 b] 53)).alloc (.cells #[.int .i64 0,.int .i64 0,.int .i64 0,.int .i64 0] 75)):=(by repeat first | with_reducible (first | exact Below.refl _ _ | apply below_drewN' | apply Below.drew | refine Below.alloc ?_ ?_ _ | refine Below.setCell ?_ ?_ _) | exact Below.refl _ _ | omega | (simp <;> omega) | (have:=(Below.refl _ _).size;first | omega | (simp <;> omega)))
 have X0:=((Blk.new w 31 #[.int .i64 L,.slice A1 l1.length c1,.slice A2 l2.length c2,.slice A3 l3.length c3,.int .i64 p,.int .i64 q,.int .i64 r]).alloc (.cells #[.slice A l.length c,.int .i64 a,.int .i64 b] 53)).alloc (.cells #[.int .i64 0,.int .i64 0,.int .i64 0,.int .i64 0] 75)
 have B0:=(Blk.new' (w.alloc (.cells #[.int .i64 L,.slice A1 l1.length c1,.slice A2 l2.length c2,.slice A3 l3.length c3,.int .i64 p,.int .i64 q,.int .i64 r] 31)) 53 #[.slice A l.length c,.int .i64 a,.int .i64 b] (g:=w.heap.size+1) (by simp)).alloc (.cells #[.int .i64 0,.int .i64 0,.int .i64 0,.int .i64 0] 75)
 have R0:=Blk.new' ((w.alloc (.cells #[.int .i64 L,.slice A1 l1.length c1,.slice A2 l2.length c2,.slice A3 l3.length c3,.int .i64 p,.int .i64 q,.int .i64 r] 31)).alloc (.cells #[.slice A l.length c,.int .i64 a,.int .i64 b] 53)) 75 #[.int .i64 0,.int .i64 0,.int .i64 0,.int .i64 0] (g:=w.heap.size+1+1) (by simp)
 have HX:=Lib.hid (specIsExercise_c L A1 c1 l1 A2 c2 l2 A3 c3 l3 p q r _ (E.later hW))
 have HA:Hid (∀ W,Below w.heap.size w W→_):=fun W hW=>l31Answer_c A c l a b W (F.later hW)
 have HS:Hid (exB L l1 l2 l3 p q r=true→∀ W,Below w.heap.size w W→_):=fun hx W hW=>l31Step_c L A1 c1 l1 A2 c2 l2 A3 c3 l3 p q r A c l a b W (E.later hW) hx (F.later hW)
 have HU:Hid (exB L l1 l2 l3 p q r=true→(usualP l3).ms.length ≤ 19∧∀ W,Below w.heap.size w W→Calls Tryz.prog 61 #[.agg #[.int .i64 L,.slice A1 l1.length c1,.slice A2 l2.length c2],.slice A3 l3.length c3] W (ListPost (usualP l3).ms W)):=fun hx=>by
  obtain ⟨R,r1,r2,r3⟩:=ex_usual hx E
  exact ⟨(usual_ok r1 r2 r3).2,fun W hW=>l14Usual_c L A1 c1 l1 A2 c2 l2 A3 c3 l3 W (R.later hW) r1 r2 r3 (E.later hW).s3⟩
 have hll:=F.n
 clear E F
 generalize ansB l a b=ab at *
 generalize exB L l1 l2 l3 p q r=xb at *
 generalize (usualP l3).ms=ms at *
 cases xb with
 | false =>
  have hres:Hid (nmRes (false && ab) ms l=(⟨0,0,0,0⟩,1)):=rfl
  clear HS HA HU
  go_enter Tryz.func34,Tryz.ntmps34
  go_wp2_with fail
  generalize (((w.alloc (.cells #[.int .i64 L,.slice A1 l1.length c1,.slice A2 l2.length c2,.slice A3 l3.length c3,.int .i64 p,.int .i64 q,.int .i64 r] 31)).alloc (.cells #[.slice A l.length c,.int .i64 a,.int .i64 b] 53)).alloc (.cells #[.int .i64 0,.int .i64 0,.int .i64 0,.int .i64 0] 75))=W at *
  refine Calls.mono HX.out ?_;rintro e w1 ⟨rfl,hb1⟩
  have hW1:=hW.trans (hb1.mono hW.size)
  have R1:=R0.below hb1 R0.lt
  have r0:w1.cell? ⟨w.heap.size+1+1,0,none⟩=some (.int .i64 0):=R1.cell 0
  have f0:w1.frozen? ⟨w.heap.size+1+1,0,none⟩=false:=R1.frozen 0
  have r1:w1.cell? ⟨w.heap.size+1+1,1,none⟩=some (.int .i64 0):=R1.cell 1
  have f1:w1.frozen? ⟨w.heap.size+1+1,1,none⟩=false:=R1.frozen 1
  have r2:w1.cell? ⟨w.heap.size+1+1,2,none⟩=some (.int .i64 0):=R1.cell 2
  have f2:w1.frozen? ⟨w.heap.size+1+1,2,none⟩=false:=R1.frozen 2
  have r3:w1.cell? ⟨w.heap.size+1+1,3,none⟩=some (.int .i64 0):=R1.cell 3
  have f3:w1.frozen? ⟨w.heap.size+1+1,3,none⟩=false:=R1.frozen 3
  clear HX X0 B0 R0 hW hb1
  go_wp2
  refine bodyPost_ret (v:=.tuple #[.agg #[.int .i64 0,.int .i64 0,.int .i64 0,.int .i64 0],.int .i64 1]) (by simp [results,Tryz.results34,go_sem,r0,r1,r2,r3]) rfl ⟨by rw [hres.out];rfl,(by repeat first | with_reducible (first | exact hW1 | apply below_drewN' | apply Below.drew | refine Below.alloc ?_ ?_ _ | refine Below.setCell ?_ ?_ _) | exact hW1 | omega | (simp <;> omega) | (have:=(hW1).size;first | omega | (simp <;> omega)))⟩
 | true =>
  have HT:=Lib.hid (HS.out rfl)
  have HV:=Lib.hid (HU.out rfl)
  clear HS HU
  cases ab with
  | false =>
   have hres:Hid (nmRes (true && false) ms l=(⟨0,0,0,0⟩,1)):=rfl
   go_enter Tryz.func34,Tryz.ntmps34
   go_wp2_with fail
   generalize (((w.alloc (.cells #[.int .i64 L,.slice A1 l1.length c1,.slice A2 l2.length c2,.slice A3 l3.length c3,.int .i64 p,.int .i64 q,.int .i64 r] 31)).alloc (.cells #[.slice A l.length c,.int .i64 a,.int .i64 b] 53)).alloc (.cells #[.int .i64 0,.int .i64 0,.int .i64 0,.int .i64 0] 75))=W at *
   refine Calls.mono HX.out ?_;rintro e w1 ⟨rfl,hb1⟩
   have hW1:=hW.trans (hb1.mono hW.size)
   have X1:=X0.below hb1 X0.lt
   have B1:=B0.below hb1 B0.lt
   have R1:=R0.below hb1 R0.lt
   have hcall:=Lib.hid (HA.out w1 hW1)
   have y0:w1.cell? ⟨w.heap.size,0,none⟩=some (.int .i64 L):=X1.cell 0
   have y1:w1.cell? ⟨w.heap.size,1,none⟩=some (.slice A1 l1.length c1):=X1.cell 1
   have y2:w1.cell? ⟨w.heap.size,2,none⟩=some (.slice A2 l2.length c2):=X1.cell 2
   have y3:w1.cell? ⟨w.heap.size,3,none⟩=some (.slice A3 l3.length c3):=X1.cell 3
   have y4:w1.cell? ⟨w.heap.size,4,none⟩=some (.int .i64 p):=X1.cell 4
   have y5:w1.cell? ⟨w.heap.size,5,none⟩=some (.int .i64 q):=X1.cell 5
   have y6:w1.cell? ⟨w.heap.size,6,none⟩=some (.int .i64 r):=X1.cell 6
   have z0:w1.cell? ⟨w.heap.size+1,0,none⟩=some (.slice A l.length c):=B1.cell 0
   have z1:w1.cell? ⟨w.heap.size+1,1,none⟩=some (.int .i64 a):=B1.cell 1
   have z2:w1.cell? ⟨w.heap.size+1,2,none⟩=some (.int .i64 b):=B1.cell 2
   clear HX X0 B0 R0 hb1 hW HT HV HA
   go_wp2_with fail
   refine Calls.mono hcall.out ?_;rintro e w2 ⟨rfl,hb2⟩
   have hW2:=hW1.trans (hb2.mono hW1.size)
   have R2:=R1.below hb2 R1.lt
   have r0:w2.cell? ⟨w.heap.size+1+1,0,none⟩=some (.int .i64 0):=R2.cell 0
   have f0:w2.frozen? ⟨w.heap.size+1+1,0,none⟩=false:=R2.frozen 0
   have r1:w2.cell? ⟨w.heap.size+1+1,1,none⟩=some (.int .i64 0):=R2.cell 1
   have f1:w2.frozen? ⟨w.heap.size+1+1,1,none⟩=false:=R2.frozen 1
   have r2:w2.cell? ⟨w.heap.size+1+1,2,none⟩=some (.int .i64 0):=R2.cell 2
   have f2:w2.frozen? ⟨w.heap.size+1+1,2,none⟩=false:=R2.frozen 2
   have r3:w2.cell? ⟨w.heap.size+1+1,3,none⟩=some (.int .i64 0):=R2.cell 3
   have f3:w2.frozen? ⟨w.heap.size+1+1,3,none⟩=false:=R2.frozen 3
   clear y0 y1 y2 y3 y4 y5 y6 z0 z1 z2 hcall hW1 hb2 X1 B1 R1 R2
   go_wp2
   refine bodyPost_ret (v:=.tuple #[.agg #[.int .i64 0,.int .i64 0,.int .i64 0,.int .i64 0],.int .i64 1]) (by simp [results,Tryz.results34,go_sem,r0,r1,r2,r3]) rfl ⟨by rw [hres.out];rfl,(by repeat first | with_reducible (first | exact hW2 | apply below_drewN' | apply Below.drew | refine Below.alloc ?_ ?_ _ | refine Below.setCell ?_ ?_ _) | exact hW2 | omega | (simp <;> omega) | (have:=(hW2).size;first | omega | (simp <;> omega)))⟩
  | true =>
   obtain ⟨hms,HV⟩:=HV.out
   have HV:=Lib.hid HV
   go_enter Tryz.func34,Tryz.ntmps34
   go_wp2_with fail
   generalize (((w.alloc (.cells #[.int .i64 L,.slice A1 l1.length c1,.slice A2 l2.length c2,.slice A3 l3.length c3,.int .i64 p,.int .i64 q,.int .i64 r] 31)).alloc (.cells #[.slice A l.length c,.int .i64 a,.int .i64 b] 53)).alloc (.cells #[.int .i64 0,.int .i64 0,.int .i64 0,.int .i64 0] 75))=W at *
   refine Calls.mono HX.out ?_;rintro e w1 ⟨rfl,hb1⟩
   have hW1:=hW.trans (hb1.mono hW.size)
   have X1:=X0.below hb1 X0.lt
   have B1:=B0.below hb1 B0.lt
   have R1:=R0.below hb1 R0.lt
   have hcall:=Lib.hid (HA.out w1 hW1)
   have y0:w1.cell? ⟨w.heap.size,0,none⟩=some (.int .i64 L):=X1.cell 0
   have y1:w1.cell? ⟨w.heap.size,1,none⟩=some (.slice A1 l1.length c1):=X1.cell 1
   have y2:w1.cell? ⟨w.heap.size,2,none⟩=some (.slice A2 l2.length c2):=X1.cell 2
   have y3:w1.cell? ⟨w.heap.size,3,none⟩=some (.slice A3 l3.length c3):=X1.cell 3
   have y4:w1.cell? ⟨w.heap.size,4,none⟩=some (.int .i64 p):=X1.cell 4
   have y5:w1.cell? ⟨w.heap.size,5,none⟩=some (.int .i64 q):=X1.cell 5
   have y6:w1.cell? ⟨w.heap.size,6,none⟩=some (.int .i64 r):=X1.cell 6
   have z0:w1.cell? ⟨w.heap.size+1,0,none⟩=some (.slice A l.length c):=B1.cell 0
   have z1:w1.cell? ⟨w.heap.size+1,1,none⟩=some (.int .i64 a):=B1.cell 1
   have z2:w1.cell? ⟨w.heap.size+1,2,none⟩=some (.int .i64 b):=B1.cell 2
   clear HX X0 B0 R0 hb1 hW HA
   go_wp2_with fail
   refine Calls.mono hcall.out ?_;rintro e w2 ⟨rfl,hb2⟩
   have hW2:=hW1.trans (hb2.mono hW1.size)
   have X2:=X1.below hb2 X1.lt
   have B2:=B1.below hb2 B1.lt
   have R2:=R1.below hb2 R1.lt
   have hcall:=Lib.hid (HT.out w2 hW2)
   clear y0 y1 y2 y3 y4 y5 y6 z0 z1 z2 hW1 hb2 X1 B1 R1 HT
   have y0:w2.cell? ⟨w.heap.size,0,none⟩=some (.int .i64 L):=X2.cell 0
   have y1:w2.cell? ⟨w.heap.size,1,none⟩=some (.slice A1 l1.length c1):=X2.cell 1
   have y2:w2.cell? ⟨w.heap.size,2,none⟩=some (.slice A2 l2.length c2):=X2.cell 2
   have y3:w2.cell? ⟨w.heap.size,3,none⟩=some (.slice A3 l3.length c3):=X2.cell 3
   have y4:w2.cell? ⟨w.heap.size,4,none⟩=some (.int .i64 p):=X2.cell 4
   have y5:w2.cell? ⟨w.heap.size,5,none⟩=some (.int .i64 q):=X2.cell 5
   have y6:w2.cell? ⟨w.heap.size,6,none⟩=some (.int .i64 r):=X2.cell 6
   have z0:w2.cell? ⟨w.heap.size+1,0,none⟩=some (.slice A l.length c):=B2.cell 0
   have z1:w2.cell? ⟨w.heap.size+1,1,none⟩=some (.int .i64 a):=B2.cell 1
   have z2:w2.cell? ⟨w.heap.size+1,2,none⟩=some (.int .i64 b):=B2.cell 2
   go_wp2_with fail
   refine Calls.mono hcall.out ?_;rintro e w3 ⟨rfl,hb3⟩
   have hW3:=hW2.trans (hb3.mono hW2.size)
   have X3:=X2.below hb3 X2.lt
   have B3:=B2.below hb3 B2.lt
   have R3:=R2.below hb3 R2.lt
   have hcall:=Lib.hid (HV.out w3 hW3)
   clear y0 y1 y2 y3 y4 y5 y6 z0 z1 z2 hW2 hb3 X2 B2 R2 HV
   have y0:w3.cell? ⟨w.heap.size,0,none⟩=some (.int .i64 L):=X3.cell 0
   have y1:w3.cell? ⟨w.heap.size,1,none⟩=some (.slice A1 l1.length c1):=X3.cell 1
   have y2:w3.cell? ⟨w.heap.size,2,none⟩=some (.slice A2 l2.length c2):=X3.cell 2
   have y3:w3.cell? ⟨w.heap.size,3,none⟩=some (.slice A3 l3.length c3):=X3.cell 3
   have y4:w3.cell? ⟨w.heap.size,4,none⟩=some (.int .i64 p):=X3.cell 4
   have y5:w3.cell? ⟨w.heap.size,5,none⟩=some (.int .i64 q):=X3.cell 5
   have y6:w3.cell? ⟨w.heap.size,6,none⟩=some (.int .i64 r):=X3.cell 6
   have z0:w3.cell? ⟨w.heap.size+1,0,none⟩=some (.slice A l.length c):=B3.cell 0
   have z1:w3.cell? ⟨w.heap.size+1,1,none⟩=some (.int .i64 a):=B3.cell 1
   have z2:w3.cell? ⟨w.heap.size+1,2,none⟩=some (.int .i64 b):=B3.cell 2
   go_wp2_with fail
   refine Calls.mono hcall.out ?_;rintro e w4 ⟨A',c',rfl,hs',hb4⟩
   have hW4:=hW3.trans (hb4.mono hW3.size)
   have B4:=B3.below hb4 B3.lt
   have R4:=R3.below hb4 R3.lt
   clear y0 y1 y2 y3 y4 y5 y6 z0 z1 z2 hcall hW3 hb4 X3 B3 R3
   have z0:w4.cell? ⟨w.heap.size+1,0,none⟩=some (.slice A l.length c):=B4.cell 0
   have r0:w4.cell? ⟨w.heap.size+1+1,0,none⟩=some (.int .i64 0):=R4.cell 0
   have f0:w4.frozen? ⟨w.heap.size+1+1,0,none⟩=false:=R4.frozen 0
   have r1:w4.cell? ⟨w.heap.size+1+1,1,none⟩=some (.int .i64 0):=R4.cell 1
   have f1:w4.frozen? ⟨w.heap.size+1+1,1,none⟩=false:=R4.frozen 1
   have r2:w4.cell? ⟨w.heap.size+1+1,2,none⟩=some (.int .i64 0):=R4.cell 2
   have f2:w4.frozen? ⟨w.heap.size+1+1,2,none⟩=false:=R4.frozen 2
   have r3:w4.cell? ⟨w.heap.size+1+1,3,none⟩=some (.int .i64 0):=R4.cell 3
   have f3:w4.frozen? ⟨w.heap.size+1+1,3,none⟩=false:=R4.frozen 3
   clear B4 R4
   have Hn:=Lib.hid (stepN_le (ms:=ms) (l:=l))
   have hP:Hid (nmRes (true && true) ms l=nextP ms l):=rfl
   by_cases h1:stepN ms l < l.length
   ·have hres:Hid (nmRes (true && true) ms l=(⟨0,0,0,0⟩,5)):=hP.out.trans (if_pos h1)
    have h1I:((stepN ms l:Nat):Int) < (l.length:Int):=by omega
    generalize stepN ms l=n at *
    go_wp2
    refine bodyPost_ret (v:=.tuple #[.agg #[.int .i64 0,.int .i64 0,.int .i64 0,.int .i64 0],.int .i64 5]) (by simp [results,Tryz.results34,go_sem,r0,r1,r2,r3]) rfl ⟨by rw [hres.out];rfl,(by repeat first | with_reducible (first | exact hW4 | apply below_drewN' | apply Below.drew | refine Below.alloc ?_ ?_ _ | refine Below.setCell ?_ ?_ _) | exact hW4 | omega | (simp <;> omega) | (have:=(hW4).size;first | omega | (simp <;> omega)))⟩
   ·have h1I:¬ ((stepN ms l:Nat):Int) < (l.length:Int):=by omega
    by_cases h2:stepN ms l=ms.length
    ·have hres:Hid (nmRes (true && true) ms l=(⟨0,0,0,0⟩,4)):=hP.out.trans ((if_neg h1).trans (if_pos h2))
     have h2I:((stepN ms l:Nat):Int)=(ms.length:Int):=by omega
     clear h2
     generalize stepN ms l=n at *
     go_wp2
     refine bodyPost_ret (v:=.tuple #[.agg #[.int .i64 0,.int .i64 0,.int .i64 0,.int .i64 0],.int .i64 4]) (by simp [results,Tryz.results34,go_sem,r0,r1,r2,r3]) rfl ⟨by rw [hres.out];rfl,(by repeat first | with_reducible (first | exact hW4 | apply below_drewN' | apply Below.drew | refine Below.alloc ?_ ?_ _ | refine Below.setCell ?_ ?_ _) | exact hW4 | omega | (simp <;> omega) | (have:=(hW4).size;first | omega | (simp <;> omega)))⟩
    ·have hlt:stepN ms l < ms.length:=by have:=Hn.out;omega
     have hres:Hid (nmRes (true && true) ms l=(ms[stepN ms l],0)):=hP.out.trans ((if_neg h1).trans ((if_neg h2).trans (by rw [List.getElem?_eq_getElem hlt];rfl)))
     have h2I:¬ ((stepN ms l:Nat):Int)=(ms.length:Int):=by omega
     have h3I:((stepN ms l:Nat):Int) < (ms.length:Int):=by omega
     obtain ⟨bb,off,rfl,bbB,hc⟩:=hs'.at_ (i:=stepN ms l) (by simpa using hlt)
     simp only [List.getElem_map] at hc
     have m0:w4.cell? ⟨bb,off+stepN ms l * 4,none⟩=some (.int .i64 ms[stepN ms l].kind):=hc 0 _ rfl
     have m1:w4.cell? ⟨bb,off+stepN ms l * 4+1,none⟩=some (.int .i64 ms[stepN ms l].scale):=hc 1 _ rfl
     have m2:w4.cell? ⟨bb,off+stepN ms l * 4+2,none⟩=some (.int .i64 ms[stepN ms l].digits):=hc 2 _ rfl
     have m3:w4.cell? ⟨bb,off+stepN ms l * 4+3,none⟩=some (.int .i64 ms[stepN ms l].tens):=hc 3 _ rfl
     clear hc
     generalize ms[stepN ms l]=x at *
     generalize stepN ms l=n at *
     obtain ⟨x0,x1,x2,x3⟩:=x
     simp only at m0 m1 m2 m3
     go_wp2
     refine bodyPost_ret (v:=.tuple #[.agg #[.int .i64 x0,.int .i64 x1,.int .i64 x2,.int .i64 x3],.int .i64 0]) (by simp [results,Tryz.results34,go_sem,r0,r1,r2,r3]) rfl ⟨by rw [hres.out];rfl,(by repeat first | with_reducible (first | exact hW4 | apply below_drewN' | apply Below.drew | refine Below.alloc ?_ ?_ _ | refine Below.setCell ?_ ?_ _) | exact hW4 | omega | (simp <;> omega) | (have:=(hW4).size;first | omega | (simp <;> omega)))⟩
end Go.Proofs.YtednjmldjbndhaaGreat
