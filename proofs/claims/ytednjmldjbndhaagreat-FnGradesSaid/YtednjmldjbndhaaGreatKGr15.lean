/- The span of an interval: the program's and the reference's. No condition. -/
import Derived.Test.YtednjmldjbndhaaGreatKGr14
import Derived.Test.YtednjmldjbndhaaGreatKGr2
set_option linter.unusedSimpArgs false
set_option linter.unusedVariables false
set_option maxRecDepth 100000
set_option maxHeartbeats 8000000
namespace Go.Proofs.YtednjmldjbndhaaGreat
open Go.RowKit
def belF (u:Int):Figure:=⟨numD (belN u - 1),numT (belN u - 1)⟩
def spanC (a b:Int):Int:=if unitsB a && unitsB b then (if figOK (belF a) && figOK (aboF b) then 0 else 4) else 2
def spanR (a b:Int):Value:=if spanC a b=0 then .tuple #[.agg #[.int .i64 (belF a).digits,.int .i64 (belF a).tens],.agg #[.int .i64 (aboF b).digits,.int .i64 (aboF b).tens],.int .i64 0] else .tuple #[.agg #[.int .i64 0,.int .i64 0],.agg #[.int .i64 0,.int .i64 0],.int .i64 (spanC a b)]
theorem spanR_2 {a b:Int} (h:(unitsB a && unitsB b)=false):spanR a b=.tuple #[.agg #[.int .i64 0,.int .i64 0],.agg #[.int .i64 0,.int .i64 0],.int .i64 2]:=by
 unfold spanR spanC
 rw [h]
 simp
theorem spanR_4 {a b:Int} (h:(unitsB a && unitsB b)=true) (h2:(figOK (belF a) && figOK (aboF b))=false):spanR a b=.tuple #[.agg #[.int .i64 0,.int .i64 0],.agg #[.int .i64 0,.int .i64 0],.int .i64 4]:=by
 unfold spanR spanC
 rw [h,h2]
 simp
theorem spanR_0 {a b:Int} (h:(unitsB a && unitsB b)=true) (h2:(figOK (belF a) && figOK (aboF b))=true):spanR a b=.tuple #[.agg #[.int .i64 (belF a).digits,.int .i64 (belF a).tens],.agg #[.int .i64 (aboF b).digits,.int .i64 (aboF b).tens],.int .i64 0]:=by
 unfold spanR spanC
 rw [h,h2]
 simp
theorem four_set {w:World} {g5 g6:Nat} {d1 t1 d2 t2:Int} (b:Nat) (x y:Value) (h5:b ≠ g5) (h6:b ≠ g6) (h:w.cell? ⟨g5,0,none⟩=some (.int .i64 d1)∧w.cell? ⟨g5,1,none⟩=some (.int .i64 t1)∧w.cell? ⟨g6,0,none⟩=some (.int .i64 d2)∧w.cell? ⟨g6,1,none⟩=some (.int .i64 t2)) :
  ((w.setCell ⟨b,0,none⟩ x).setCell ⟨b,1,none⟩ y).cell? ⟨g5,0,none⟩=some (.int .i64 d1)∧((w.setCell ⟨b,0,none⟩ x).setCell ⟨b,1,none⟩ y).cell? ⟨g5,1,none⟩=some (.int .i64 t1)∧((w.setCell ⟨b,0,none⟩ x).setCell ⟨b,1,none⟩ y).cell? ⟨g6,0,none⟩=some (.int .i64 d2)∧((w.setCell ⟨b,0,none⟩ x).setCell ⟨b,1,none⟩ y).cell? ⟨g6,1,none⟩=some (.int .i64 t2):=by
 obtain ⟨k0,k1,k2,k3⟩:=h
 refine ⟨?_,?_,?_,?_⟩
 ·rw [World.cell?_setCell_far _ _ _ _ h5,World.cell?_setCell_far _ _ _ _ h5];exact k0
 ·rw [World.cell?_setCell_far _ _ _ _ h5,World.cell?_setCell_far _ _ _ _ h5];exact k1
 ·rw [World.cell?_setCell_far _ _ _ _ h6,World.cell?_setCell_far _ _ _ _ h6];exact k2
 ·rw [World.cell?_setCell_far _ _ _ _ h6,World.cell?_setCell_far _ _ _ _ h6];exact k3
theorem four_setD {w:World} {g5 g6:Nat} {d1 t1 d2 t2:Int} (b:Nat) (x y:Value) (h5:b ≠ g5) (h6:b ≠ g6) (h:w.drew.cell? ⟨g5,0,none⟩=some (.int .i64 d1)∧w.drew.cell? ⟨g5,1,none⟩=some (.int .i64 t1)∧w.drew.cell? ⟨g6,0,none⟩=some (.int .i64 d2)∧w.drew.cell? ⟨g6,1,none⟩=some (.int .i64 t2)) :
  ((w.setCell ⟨b,0,none⟩ x).setCell ⟨b,1,none⟩ y).drew.cell? ⟨g5,0,none⟩=some (.int .i64 d1)∧((w.setCell ⟨b,0,none⟩ x).setCell ⟨b,1,none⟩ y).drew.cell? ⟨g5,1,none⟩=some (.int .i64 t1)∧((w.setCell ⟨b,0,none⟩ x).setCell ⟨b,1,none⟩ y).drew.cell? ⟨g6,0,none⟩=some (.int .i64 d2)∧((w.setCell ⟨b,0,none⟩ x).setCell ⟨b,1,none⟩ y).drew.cell? ⟨g6,1,none⟩=some (.int .i64 t2) :=
 four_set (w:=w) b x y h5 h6 h
def ddF (f:Nat→Bool):Prop:=(f 8=true→f 6=true)∧(f 9=true→f 7=true∧f 8=true)
theorem ddF.up {f:Nat→Bool} (h:ddF f) {i:Nat} (hi:i < 8):ddF (upd f i):=by
 refine ⟨fun e=>?_,fun e=>?_⟩
 ·have:f 8=true:=by simpa [upd,show ¬ 8=i by omega] using e
  simp [upd,h.1 this]
 ·have:f 9=true:=by simpa [upd,show ¬ 9=i by omega] using e
  have:=h.2 this
  simp [upd,this]
theorem ddF.up8 {f:Nat→Bool} (h:ddF f) (h6:f 6=true):ddF (upd f 8):=by
 refine ⟨fun _=>by simp [upd,h6],fun e=>?_⟩
 have:f 9=true:=by simpa [upd] using e
 have:=h.2 this
 simp [upd,this]
theorem ddF.up9 {f:Nat→Bool} (h:ddF f) (h7:f 7=true) (h8:f 8=true):ddF (upd f 9):=by
 refine ⟨fun e=>?_,fun _=>by simp [upd,h7,h8]⟩
 have:=h.1 h8
 simp [upd,this]
def ptr0 (g:Nat):Value:=.pointer (some ⟨g,0,none⟩)
structure Jx (w0:World) (a b d1 t1 d2 t2:Int) (f:Nat→Bool) (v19 v20 v21 v22 v23 v24 v5 v6:Value) (w:World):Prop where
 hb:Below w0.heap.size w0 w
 sz:w0.heap.size+3 ≤ w.heap.size
 bx:Blk w w0.heap.size 186 #[.int .i64 a,.int .i64 b]
 b2:Blk w (w0.heap.size+1) 51 #[.int .i64 0,.int .i64 0]
 b3:Blk w (w0.heap.size+2) 51 #[.int .i64 0,.int .i64 0]
 dd:ddF f
 c0:f 0=true→v19=.pointer (some ⟨w0.heap.size,0,none⟩)
 c1:f 1=true→v20=.int .i64 a
 c2:f 2=true→v21=.agg #[.int .i64 d1,.int .i64 t1]
 c3:f 3=true→v22=.pointer (some ⟨w0.heap.size,1,none⟩)
 c4:f 4=true→v23=.int .i64 b
 c5:f 5=true→v24=.agg #[.int .i64 d2,.int .i64 t2]
 c6:f 6=true→∃ g,v5=ptr0 g∧Blk w g 51 (if f 8=true then #[.int .i64 d1,.int .i64 t1] else #[.int .i64 0,.int .i64 0])∧w0.heap.size+3 ≤ g
 c7:f 7=true→∃ g,v6=ptr0 g∧Blk w g 51 (if f 9=true then #[.int .i64 d2,.int .i64 t2] else #[.int .i64 0,.int .i64 0])∧w0.heap.size+3 ≤ g∧(f 6=true→v5 ≠ v6)
section
variable {w0 w w' : World} {a b d1 t1 d2 t2 : Int} {f : Nat → Bool} {v19 v20 v21 v22 v23 v24 v5 v6 : Value}
theorem Jx.below (h:Jx w0 a b d1 t1 d2 t2 f v19 v20 v21 v22 v23 v24 v5 v6 w) (hw:Below w.heap.size w w'):Jx w0 a b d1 t1 d2 t2 f v19 v20 v21 v22 v23 v24 v5 v6 w' where
 hb:=h.hb.trans (hw.mono h.hb.size)
 sz:=Nat.le_trans h.sz hw.size
 bx:=h.bx.below hw h.bx.lt
 b2:=h.b2.below hw h.b2.lt
 b3:=h.b3.below hw h.b3.lt
 dd:=h.dd
 c0:=h.c0
 c1:=h.c1
 c2:=h.c2
 c3:=h.c3
 c4:=h.c4
 c5:=h.c5
 c6:=fun e=>by
  obtain ⟨g,r1,r2,r3⟩:=h.c6 e
  exact ⟨g,r1,r2.below hw r2.lt,r3⟩
 c7:=fun e=>by
  obtain ⟨g,r1,r2,r3,r4⟩:=h.c7 e
  exact ⟨g,r1,r2.below hw r2.lt,r3,r4⟩
theorem Jx.s0 (h:Jx w0 a b d1 t1 d2 t2 f v19 v20 v21 v22 v23 v24 v5 v6 w):Jx w0 a b d1 t1 d2 t2 (upd f 0) (.pointer (some ⟨w0.heap.size,0,none⟩)) v20 v21 v22 v23 v24 v5 v6 w :=
 ⟨h.hb,h.sz,h.bx,h.b2,h.b3,h.dd.up (by omega),fun _=>rfl,h.c1,h.c2,h.c3,h.c4,h.c5,h.c6,h.c7⟩
theorem Jx.s1 (h:Jx w0 a b d1 t1 d2 t2 f v19 v20 v21 v22 v23 v24 v5 v6 w):Jx w0 a b d1 t1 d2 t2 (upd f 1) v19 (.int .i64 a) v21 v22 v23 v24 v5 v6 w :=
 ⟨h.hb,h.sz,h.bx,h.b2,h.b3,h.dd.up (by omega),h.c0,fun _=>rfl,h.c2,h.c3,h.c4,h.c5,h.c6,h.c7⟩
theorem Jx.s2 (h:Jx w0 a b d1 t1 d2 t2 f v19 v20 v21 v22 v23 v24 v5 v6 w) (hw:Below w.heap.size w w'):Jx w0 a b d1 t1 d2 t2 (upd f 2) v19 v20 (.agg #[.int .i64 d1,.int .i64 t1]) v22 v23 v24 v5 v6 w' :=
 have h:=h.below hw
 ⟨h.hb,h.sz,h.bx,h.b2,h.b3,h.dd.up (by omega),h.c0,h.c1,fun _=>rfl,h.c3,h.c4,h.c5,h.c6,h.c7⟩
theorem Jx.s3 (h:Jx w0 a b d1 t1 d2 t2 f v19 v20 v21 v22 v23 v24 v5 v6 w):Jx w0 a b d1 t1 d2 t2 (upd f 3) v19 v20 v21 (.pointer (some ⟨w0.heap.size,1,none⟩)) v23 v24 v5 v6 w :=
 ⟨h.hb,h.sz,h.bx,h.b2,h.b3,h.dd.up (by omega),h.c0,h.c1,h.c2,fun _=>rfl,h.c4,h.c5,h.c6,h.c7⟩
theorem Jx.s4 (h:Jx w0 a b d1 t1 d2 t2 f v19 v20 v21 v22 v23 v24 v5 v6 w):Jx w0 a b d1 t1 d2 t2 (upd f 4) v19 v20 v21 v22 (.int .i64 b) v24 v5 v6 w :=
 ⟨h.hb,h.sz,h.bx,h.b2,h.b3,h.dd.up (by omega),h.c0,h.c1,h.c2,h.c3,fun _=>rfl,h.c5,h.c6,h.c7⟩
theorem Jx.s5 (h:Jx w0 a b d1 t1 d2 t2 f v19 v20 v21 v22 v23 v24 v5 v6 w) (hw:Below w.heap.size w w'):Jx w0 a b d1 t1 d2 t2 (upd f 5) v19 v20 v21 v22 v23 (.agg #[.int .i64 d2,.int .i64 t2]) v5 v6 w' :=
 have h:=h.below hw
 ⟨h.hb,h.sz,h.bx,h.b2,h.b3,h.dd.up (by omega),h.c0,h.c1,h.c2,h.c3,h.c4,fun _=>rfl,h.c6,h.c7⟩
theorem Jx.init (hf:∀ k,f k=false):Jx w0 a b d1 t1 d2 t2 f v19 v20 v21 v22 v23 v24 v5 v6 (((w0.alloc (.cells #[.int .i64 a,.int .i64 b] 186)).alloc (.cells #[.int .i64 0,.int .i64 0] 51)).alloc (.cells #[.int .i64 0,.int .i64 0] 51)).drew where
 hb:=Below.drew ((by repeat first | with_reducible (first | exact Below.refl _ _ | apply below_drewN' | apply Below.drew | refine Below.alloc ?_ ?_ _ | refine Below.setCell ?_ ?_ _) | exact Below.refl _ _ | omega | (simp <;> omega) | (have:=(Below.refl _ _).size;first | omega | (simp <;> omega))))
 sz:=by rw [size_drewed];simp
 bx:=(show Blk (((w0.alloc _).alloc _).alloc _) _ _ _ from ((Blk.new w0 _ _).alloc _).alloc _)
 b2:=(show Blk (((w0.alloc _).alloc _).alloc _) _ _ _ from (Blk.new' _ _ _ (by simp)).alloc _)
 b3:=(show Blk (((w0.alloc _).alloc _).alloc _) _ _ _ from Blk.new' _ _ _ (by simp))
 dd:=⟨fun e=>(by rw [hf] at e;cases e),fun e=>(by rw [hf] at e;cases e)⟩
 c0:=fun e=>by rw [hf] at e;cases e
 c1:=fun e=>by rw [hf] at e;cases e
 c2:=fun e=>by rw [hf] at e;cases e
 c3:=fun e=>by rw [hf] at e;cases e
 c4:=fun e=>by rw [hf] at e;cases e
 c5:=fun e=>by rw [hf] at e;cases e
 c6:=fun e=>by rw [hf] at e;cases e
 c7:=fun e=>by rw [hf] at e;cases e
theorem ptr0_ne {g g':Nat} (h:g ≠ g'):ptr0 g ≠ ptr0 g':=fun e=>by
 simp only [ptr0,Value.pointer.injEq,Option.some.injEq,Addr.mk.injEq,and_true] at e
 exact h e
theorem Jx.s6 (h:Jx w0 a b d1 t1 d2 t2 f v19 v20 v21 v22 v23 v24 v5 v6 w) (h8:f 8=false):Jx w0 a b d1 t1 d2 t2 (upd f 6) v19 v20 v21 v22 v23 v24 (ptr0 w.heap.size) v6 (w.alloc (.cells #[.int .i64 0,.int .i64 0] 51)):=by
 have hh:=h.below (w':=w.alloc (.cells #[.int .i64 0,.int .i64 0] 51)) ((Below.refl _ _).alloc (Nat.le_refl _) _)
 refine ⟨hh.hb,hh.sz,hh.bx,hh.b2,hh.b3,h.dd.up (by omega),hh.c0,hh.c1,hh.c2,hh.c3,hh.c4,hh.c5,fun _=>?_,fun e=>?_⟩
 ·rw [show upd f 6 8=false from h8]
  exact ⟨_,rfl,Blk.new _ _ _,h.sz⟩
 ·obtain ⟨g,r1,r2,r3,_⟩:=hh.c7 e
  obtain ⟨g',q1,q2,q3,_⟩:=h.c7 e
  refine ⟨g,r1,r2,r3,fun _=>?_⟩
  rw [q1]
  exact ptr0_ne (by have:=q2.lt;omega)
theorem Jx.s7 (h:Jx w0 a b d1 t1 d2 t2 f v19 v20 v21 v22 v23 v24 v5 v6 w) (h9:f 9=false):Jx w0 a b d1 t1 d2 t2 (upd f 7) v19 v20 v21 v22 v23 v24 v5 (ptr0 w.heap.size) (w.alloc (.cells #[.int .i64 0,.int .i64 0] 51)):=by
 have hh:=h.below (w':=w.alloc (.cells #[.int .i64 0,.int .i64 0] 51)) ((Below.refl _ _).alloc (Nat.le_refl _) _)
 refine ⟨hh.hb,hh.sz,hh.bx,hh.b2,hh.b3,h.dd.up (by omega),hh.c0,hh.c1,hh.c2,hh.c3,hh.c4,hh.c5,hh.c6,fun _=>?_⟩
 rw [show upd f 7 9=false from h9]
 refine ⟨_,rfl,Blk.new _ _ _,h.sz,fun e=>?_⟩
 obtain ⟨g,q1,q2,q3⟩:=h.c6 e
 rw [q1]
 exact ptr0_ne (by have:=q2.lt;omega)
theorem Jx.s8 {g:Nat} (h:Jx w0 a b d1 t1 d2 t2 f v19 v20 v21 v22 v23 v24 (ptr0 g) v6 w) (h6:f 6=true) (h8:f 8=false) (h9:f 9=false) :
  Jx w0 a b d1 t1 d2 t2 (upd f 8) v19 v20 v21 v22 v23 v24 (ptr0 g) v6 ((w.setCell ⟨g,0,none⟩ (.int .i64 d1)).setCell ⟨g,1,none⟩ (.int .i64 t1)):=by
 obtain ⟨g',r1,r2,r3⟩:=h.c6 h6
 obtain rfl:g=g':=by simpa only [ptr0,Value.pointer.injEq,Option.some.injEq,Addr.mk.injEq,and_true] using r1
 rw [h8] at r2
 have n0:w0.heap.size ≠ g:=by omega
 have n1:w0.heap.size+1 ≠ g:=by omega
 have n2:w0.heap.size+2 ≠ g:=by omega
 refine ⟨(h.hb.setCell (by simp only;omega) _).setCell (by simp only;omega) _,by simpa using h.sz,(h.bx.far n0 _).far n0 _,(h.b2.far n1 _).far n1 _,(h.b3.far n2 _).far n2 _,h.dd.up8 h6,h.c0,h.c1,h.c2,h.c3,h.c4,h.c5,fun _=>?_,fun e=>?_⟩
 ·rw [show upd f 8 8=true from rfl]
  exact ⟨g,rfl,(r2.set_ 0 _).set_ 1 _,r3⟩
 ·obtain ⟨g',q1,q2,q3,q4⟩:=h.c7 e
  have hne:g' ≠ g:=fun e'=>q4 h6 (by rw [q1,e'])
  rw [show upd f 8 9=false from h9]
  rw [h9] at q2
  exact ⟨g',q1,(q2.far hne _).far hne _,q3,fun _=>q4 h6⟩
theorem Jx.s9 {g:Nat} (h:Jx w0 a b d1 t1 d2 t2 f v19 v20 v21 v22 v23 v24 v5 (ptr0 g) w) (h6:f 6=true) (h7:f 7=true) (h8:f 8=true) (h9:f 9=false) :
  Jx w0 a b d1 t1 d2 t2 (upd f 9) v19 v20 v21 v22 v23 v24 v5 (ptr0 g) ((w.setCell ⟨g,0,none⟩ (.int .i64 d2)).setCell ⟨g,1,none⟩ (.int .i64 t2)):=by
 obtain ⟨g',r1,r2,r3,r4⟩:=h.c7 h7
 obtain rfl:g=g':=by simpa only [ptr0,Value.pointer.injEq,Option.some.injEq,Addr.mk.injEq,and_true] using r1
 rw [h9] at r2
 have n0:w0.heap.size ≠ g:=by omega
 have n1:w0.heap.size+1 ≠ g:=by omega
 have n2:w0.heap.size+2 ≠ g:=by omega
 refine ⟨(h.hb.setCell (by simp only;omega) _).setCell (by simp only;omega) _,by simpa using h.sz,(h.bx.far n0 _).far n0 _,(h.b2.far n1 _).far n1 _,(h.b3.far n2 _).far n2 _,h.dd.up9 h7 h8,h.c0,h.c1,h.c2,h.c3,h.c4,h.c5,fun e=>?_,fun _=>?_⟩
 ·obtain ⟨g',q1,q2,q3⟩:=h.c6 h6
  have hne:g' ≠ g:=fun e'=>r4 h6 (by rw [q1,e'])
  exact ⟨g',q1,(q2.far hne _).far hne _,q3⟩
 ·rw [show upd f 9 9=true from rfl]
  exact ⟨g,rfl,(r2.set_ 0 _).set_ 1 _,r3,fun _=>r4 h6⟩
end
theorem l04Span_c (a b:Int) (w:World) :
  Calls Tryz.prog 180 #[.agg #[.int .i64 a,.int .i64 b]] w fun e w'=>e=.returned (spanR a b)∧Below w.heap.size w w':=by
 have HU:=fun n W=>Lib.hid (l04Units_c n W)
 cases ha:unitsB a with
 | false =>
  have HR:=Lib.hid (spanR_2 (a:=a) (b:=b) (by rw [ha];rfl))
  have HUa:=HU a
  rw [ha] at HUa
  clear HU ha
  go_enter Tryz.func180,Tryz.ntmps180
  go_wp2_with (first | (go_at_call 216;refine (HUa _).out.mono ?_;rintro e w1 ⟨rfl,rfl⟩))
  refine bodyPost_ret (v:=.tuple #[.agg #[.int .i64 0,.int .i64 0],.agg #[.int .i64 0,.int .i64 0],.int .i64 2]) (by simp [results,Tryz.results180,go_sem]) rfl ⟨by rw [HR.out],(by repeat first | with_reducible (first | exact Below.refl _ _ | apply below_drewN' | apply Below.drew | refine Below.alloc ?_ ?_ _ | refine Below.setCell ?_ ?_ _) | exact Below.refl _ _ | omega | (simp <;> omega) | (have:=(Below.refl _ _).size;first | omega | (simp <;> omega)))⟩
 | true =>
  have HUa:=HU a
  rw [ha] at HUa
  cases hb:unitsB b with
  | false =>
   have HR:=Lib.hid (spanR_2 (a:=a) (b:=b) (by rw [ha,hb];rfl))
   have HUb:=HU b
   rw [hb] at HUb
   clear HU ha hb
   go_enter Tryz.func180,Tryz.ntmps180
   go_wp2_with (first | (go_at_call 216;refine (HUa _).out.mono ?_;rintro e w1 ⟨rfl,rfl⟩) | (go_at_call 216;refine (HUb _).out.mono ?_;rintro e w1 ⟨rfl,rfl⟩))
   refine bodyPost_ret (v:=.tuple #[.agg #[.int .i64 0,.int .i64 0],.agg #[.int .i64 0,.int .i64 0],.int .i64 2]) (by simp [results,Tryz.results180,go_sem]) rfl ⟨by rw [HR.out],(by repeat first | with_reducible (first | exact Below.refl _ _ | apply below_drewN' | apply Below.drew | refine Below.alloc ?_ ?_ _ | refine Below.setCell ?_ ?_ _) | exact Below.refl _ _ | omega | (simp <;> omega) | (have:=(Below.refl _ _).size;first | omega | (simp <;> omega)))⟩
  | true =>
   have HUb:=HU b
   rw [hb] at HUb
   have H1:=fun W=>Lib.hid (l04Below_c a W ha)
   have H2:=fun W=>Lib.hid (l04Above_c b W hb)
   clear HU
   have hok:∃ ok1 ok2:Bool,(∀ W,Hid (Calls Tryz.prog 102 #[.agg #[.int .i64 (numD (belN a - 1)),.int .i64 (numT (belN a - 1))]] W fun e w'=>e=.returned (.bool ok1)∧Below W.heap.size W w'))∧(∀ W,Hid (Calls Tryz.prog 102 #[.agg #[.int .i64 (numD (aboN b)),.int .i64 (numT (aboN b))]] W fun e w'=>e=.returned (.bool ok2)∧Below W.heap.size W w')) ∧
     Hid (spanR a b=if ok1 && ok2 then .tuple #[.agg #[.int .i64 (numD (belN a - 1)),.int .i64 (numT (belN a - 1))],.agg #[.int .i64 (numD (aboN b)),.int .i64 (numT (aboN b))],.int .i64 0] else .tuple #[.agg #[.int .i64 0,.int .i64 0],.agg #[.int .i64 0,.int .i64 0],.int .i64 4]):=by
    refine ⟨figOK (belF a),figOK (aboF b),fun W=>specIsFigure_c (belF a) W,fun W=>specIsFigure_c (aboF b) W,?_⟩
    unfold Hid
    cases h:(figOK (belF a) && figOK (aboF b)) with
    | false=>rw [spanR_4 (by rw [ha,hb];rfl) h];rfl
    | true=>rw [spanR_0 (by rw [ha,hb];rfl) h];rfl
   have Ha:=Lib.hid ha;clear ha
   have Hb:=Lib.hid hb;clear hb
   go_enter Tryz.func180,Tryz.ntmps180
   go_wp2_with (first | (go_at_call 216;refine (HUa _).out.mono ?_;rintro e w1 ⟨rfl,rfl⟩) | (go_at_call 216;refine (HUb _).out.mono ?_;rintro e w1 ⟨rfl,rfl⟩))
   generalize numD (belN a - 1)=d1 at *
   generalize numT (belN a - 1)=t1 at *
   generalize numD (aboN b)=d2 at *
   generalize numT (aboN b)=t2 at *
   refine wp_region_inv (J:=fun a0 L act v=>∃ v19 v20 v21 v22 v23 v24 v5 v6:Value,act=(((((((a0.put (some 19) v19).put (some 20) v20).put (some 21) v21).put (some 22) v22).put (some 23) v23).put (some 24) v24).put (some 5) v5).put (some 6) v6∧L.size=10∧Jx w a b d1 t1 d2 t2 (fun k=>L.getD k false) v19 v20 v21 v22 v23 v24 v5 v6 v) (by kernel_rfl) ?_ ?_ ?_ ?_ ?_
   ·refine ⟨undef,undef,undef,undef,undef,undef,undef,undef,by simp only [Act.put,List.setIfInBounds_toArray,List.set_cons_zero,List.set_cons_succ],by simp,?_⟩
    exact Jx.init (fun k=>by simp [Array.getD])
   ·rintro L act v ⟨v19,v20,v21,v22,v23,v24,v5,v6,rfl,hL,hJ⟩ i hi o ho hall
    simp only [Act.put,List.setIfInBounds_toArray,List.set_cons_zero,List.set_cons_succ]
    rw [upd_of hi]
    have hlt:i < 10:=(Array.getElem?_eq_some_iff.1 ho).1
    have h10:i=0 ∨ i=1 ∨ i=2 ∨ i=3 ∨ i=4 ∨ i=5 ∨ i=6 ∨ i=7 ∨ i=8 ∨ i=9:=by omega
    have hLs:(L.setIfInBounds i true).size=10:=by rw [Array.size_setIfInBounds];exact hL
    clear hlt
    rcases h10 with rfl | rfl | rfl | rfl | rfl | rfl | rfl | rfl | rfl | rfl
    ·clear ho hall
     refine wpOp_step rfl (fun K hK=>?_)
     go_simp
     exact hK _ _ ⟨_,_,_,_,_,_,_,_,rfl,hLs,hJ.s0⟩
    ·obtain rfl:=Option.some.inj ho
     obtain rfl:=hJ.c0 (hall ⟨0,.data⟩ (by simp) rfl)
     have c0:v.cell? ⟨w.heap.size,0,none⟩=some (.int .i64 a):=hJ.bx.cell 0
     clear hall ho
     refine wpOp_step rfl (fun K hK=>?_)
     go_simp
     exact hK _ _ ⟨_,_,_,_,_,_,_,_,rfl,hLs,hJ.s1⟩
    ·obtain rfl:=Option.some.inj ho
     obtain rfl:=hJ.c1 (hall ⟨1,.data⟩ (by simp) rfl)
     clear hall ho
     refine wpOp_step rfl (fun K hK=>?_)
     go_simp
     refine Calls.mono (H1 _).out ?_;rintro e w1 ⟨rfl,hb1⟩
     go_simp
     exact hK _ _ ⟨_,_,_,_,_,_,_,_,rfl,hLs,hJ.s2 hb1⟩
    ·clear ho hall
     refine wpOp_step rfl (fun K hK=>?_)
     go_simp
     exact hK _ _ ⟨_,_,_,_,_,_,_,_,rfl,hLs,hJ.s3⟩
    ·obtain rfl:=Option.some.inj ho
     obtain rfl:=hJ.c3 (hall ⟨3,.data⟩ (by simp) rfl)
     have c0:v.cell? ⟨w.heap.size,1,none⟩=some (.int .i64 b):=hJ.bx.cell 1
     clear hall ho
     refine wpOp_step rfl (fun K hK=>?_)
     go_simp
     exact hK _ _ ⟨_,_,_,_,_,_,_,_,rfl,hLs,hJ.s4⟩
    ·obtain rfl:=Option.some.inj ho
     obtain rfl:=hJ.c4 (hall ⟨4,.data⟩ (by simp) rfl)
     clear hall ho
     refine wpOp_step rfl (fun K hK=>?_)
     go_simp
     refine Calls.mono (H2 _).out ?_;rintro e w1 ⟨rfl,hb1⟩
     go_simp
     exact hK _ _ ⟨_,_,_,_,_,_,_,_,rfl,hLs,hJ.s5 hb1⟩
    ·have h6f:L.getD 6 false=false:=getD_ff hi
     have h8:L.getD 8 false=false:=by
      cases h:L.getD 8 false with
      | false=>rfl
      | true=>have:=hJ.dd.1 h;simp only at this;rw [h6f] at this;cases this
     clear ho hall
     refine wpOp_step rfl (fun K hK=>?_)
     go_simp
     exact hK _ _ ⟨_,_,_,_,_,_,_,_,rfl,hLs,hJ.s6 h8⟩
    ·have h7f:L.getD 7 false=false:=getD_ff hi
     have h9:L.getD 9 false=false:=by
      cases h:L.getD 9 false with
      | false=>rfl
      | true=>have:=(hJ.dd.2 h).1;simp only at this;rw [h7f] at this;cases this
     clear ho hall
     refine wpOp_step rfl (fun K hK=>?_)
     go_simp
     exact hK _ _ ⟨_,_,_,_,_,_,_,_,rfl,hLs,hJ.s7 h9⟩
    ·obtain rfl:=Option.some.inj ho
     have q6:L.getD 6 false=true:=hall ⟨6,.data⟩ (by simp) rfl
     have q2:L.getD 2 false=true:=hall ⟨2,.data⟩ (by simp) rfl
     have q8:L.getD 8 false=false:=getD_ff hi
     have q9:L.getD 9 false=false:=by
      cases h:L.getD 9 false with
      | false=>rfl
      | true=>have:=(hJ.dd.2 h).2;simp only at this;rw [q8] at this;cases this
     obtain rfl:=hJ.c2 q2
     obtain ⟨g,rfl,hB,hg⟩:=hJ.c6 q6
     simp only [q8,Bool.false_eq_true,if_false] at hB
     have e0:v.cell? ⟨g,0,none⟩=some (.int .i64 0):=hB.cell 0
     have e1:v.cell? ⟨g,1,none⟩=some (.int .i64 0):=hB.cell 1
     have f0:=hB.frozen 0
     have f1:=hB.frozen 1
     have hs:=hJ.s8 q6 q8 q9
     clear hall ho
     unfold ptr0 at hs ⊢
     refine wpOp_step rfl (fun K hK=>?_)
     go_simp
     exact hK _ _ ⟨_,_,_,_,_,_,_,_,rfl,hLs,hs⟩
    ·obtain rfl:=Option.some.inj ho
     have q7:L.getD 7 false=true:=hall ⟨7,.data⟩ (by simp) rfl
     have q5:L.getD 5 false=true:=hall ⟨5,.data⟩ (by simp) rfl
     have q8:L.getD 8 false=true:=hall ⟨8,.chain⟩ (by simp) rfl
     have q9:L.getD 9 false=false:=getD_ff hi
     have q6:L.getD 6 false=true:=hJ.dd.1 q8
     obtain rfl:=hJ.c5 q5
     obtain ⟨g,rfl,hB,hg,_⟩:=hJ.c7 q7
     simp only [q9,Bool.false_eq_true,if_false] at hB
     have e0:v.cell? ⟨g,0,none⟩=some (.int .i64 0):=hB.cell 0
     have e1:v.cell? ⟨g,1,none⟩=some (.int .i64 0):=hB.cell 1
     have f0:=hB.frozen 0
     have f1:=hB.frozen 1
     have hs:=hJ.s9 q6 q7 q8 q9
     clear hall ho
     unfold ptr0 at hs ⊢
     refine wpOp_step rfl (fun K hK=>?_)
     go_simp
     exact hK _ _ ⟨_,_,_,_,_,_,_,_,rfl,hLs,hs⟩
   ·rintro L act v ⟨v19,v20,v21,v22,v23,v24,v5,v6,rfl,hL,hJ⟩ hall0
    simp only [Act.put,List.setIfInBounds_toArray,List.set_cons_zero,List.set_cons_succ]
    have hall:∀ i,i < 10→L.getD i false=true:=fun i hi=>hall0 i (by simpa using hi)
    obtain ⟨g5,rfl,B5,n5⟩:=hJ.c6 (hall 6 (by omega))
    obtain ⟨g6,rfl,B6,n6,h56⟩:=hJ.c7 (hall 7 (by omega))
    have hne:g5 ≠ g6:=fun e=>h56 (hall 6 (by omega)) (by rw [e])
    simp only [hall 8 (by omega),hall 9 (by omega),if_true] at B5 B6
    obtain rfl:=hJ.c0 (hall 0 (by omega))
    obtain rfl:=hJ.c1 (hall 1 (by omega))
    obtain rfl:=hJ.c2 (hall 2 (by omega))
    obtain rfl:=hJ.c3 (hall 3 (by omega))
    obtain rfl:=hJ.c4 (hall 4 (by omega))
    obtain rfl:=hJ.c5 (hall 5 (by omega))
    have hbv:=hJ.hb
    have szv:=hJ.sz
    have B2:=hJ.b2
    have B3:=hJ.b3
    clear h56 hJ hL hall hall0
    unfold ptr0
    rcases hok with ⟨ok1,ok2,HF1,HF2,HR⟩
    have l5:=B5.lt
    have l6:=B6.lt
    have p0:v.cell? ⟨g5,0,none⟩=some (.int .i64 d1):=B5.cell 0
    have p1:v.cell? ⟨g5,1,none⟩=some (.int .i64 t1):=B5.cell 1
    have p2:v.cell? ⟨g6,0,none⟩=some (.int .i64 d2):=B6.cell 0
    have p3:v.cell? ⟨g6,1,none⟩=some (.int .i64 t2):=B6.cell 1
    have k5:w.heap.size ≤ g5:=by omega
    have hvs:=hbv.size
    cases ok1 with
    | false =>
     go_wp2_with fail
     refine Calls.mono (HF1 _).out ?_;rintro e w1 ⟨rfl,hb1⟩
     have C2:=B2.below hb1 B2.lt
     have C3:=B3.below hb1 B3.lt
     have hB1:=hbv.trans (hb1.mono hvs)
     have hs1:=hB1.size
     have z2:=C2.lt
     have z3:=C3.lt
     have r0:w1.cell? ⟨w.heap.size+1,0,none⟩=some (.int .i64 0):=C2.cell 0
     have r1:w1.cell? ⟨w.heap.size+1,1,none⟩=some (.int .i64 0):=C2.cell 1
     have r2:w1.cell? ⟨w.heap.size+1+1,0,none⟩=some (.int .i64 0):=C3.cell 0
     have r3:w1.cell? ⟨w.heap.size+1+1,1,none⟩=some (.int .i64 0):=C3.cell 1
     have f0:=C2.frozen 0
     have f1:=C2.frozen 1
     have f2:w1.frozen? ⟨w.heap.size+1+1,0,none⟩=false:=C3.frozen 0
     have f3:w1.frozen? ⟨w.heap.size+1+1,1,none⟩=false:=C3.frozen 1
     go_wp2
     refine bodyPost_ret (v:=.tuple #[.agg #[.int .i64 0,.int .i64 0],.agg #[.int .i64 0,.int .i64 0],.int .i64 4]) (by simp [results,Tryz.results180,go_sem,r0,r1,r2,r3]) rfl ⟨by rw [HR.out];rfl,(by repeat first | with_reducible (first | exact hB1 | apply below_drewN' | apply Below.drew | refine Below.alloc ?_ ?_ _ | refine Below.setCell ?_ ?_ _) | exact hB1 | omega | (simp <;> omega) | (have:=(hB1).size;first | omega | (simp <;> omega)))⟩
    | true =>
     go_wp2_with fail
     refine Calls.mono (HF1 _).out ?_;rintro e w1 ⟨rfl,hb1⟩
     have hB1:=hbv.trans (hb1.mono hvs)
     have D5:=B5.below hb1 B5.lt
     have D6:=B6.below hb1 B6.lt
     have D2:=B2.below hb1 B2.lt
     have D3:=B3.below hb1 B3.lt
     clear p0 p1 p2 p3 l5 l6 B5 B6 B2 B3
     have p2:w1.cell? ⟨g6,0,none⟩=some (.int .i64 d2):=D6.cell 0
     have p3:w1.cell? ⟨g6,1,none⟩=some (.int .i64 t2):=D6.cell 1
     go_wp2_with fail
     refine Calls.mono (HF2 _).out ?_;rintro e w2 ⟨rfl,hb2⟩
     have hB2:=hB1.trans (hb2.mono hB1.size)
     have E5:=D5.below hb2 D5.lt
     have E6:=D6.below hb2 D6.lt
     have C2:=D2.below hb2 D2.lt
     have C3:=D3.below hb2 D3.lt
     clear p2 p3 D5 D6 D2 D3
     have hs2:=hB2.size
     have z2:=C2.lt
     have z3:=C3.lt
     have r0:w2.cell? ⟨w.heap.size+1,0,none⟩=some (.int .i64 0):=C2.cell 0
     have r1:w2.cell? ⟨w.heap.size+1,1,none⟩=some (.int .i64 0):=C2.cell 1
     have r2:w2.cell? ⟨w.heap.size+1+1,0,none⟩=some (.int .i64 0):=C3.cell 0
     have r3:w2.cell? ⟨w.heap.size+1+1,1,none⟩=some (.int .i64 0):=C3.cell 1
     have f0:=C2.frozen 0
     have f1:=C2.frozen 1
     have f2:w2.frozen? ⟨w.heap.size+1+1,0,none⟩=false:=C3.frozen 0
     have f3:w2.frozen? ⟨w.heap.size+1+1,1,none⟩=false:=C3.frozen 1
     cases ok2 with
     | false =>
      go_wp2
      refine bodyPost_ret (v:=.tuple #[.agg #[.int .i64 0,.int .i64 0],.agg #[.int .i64 0,.int .i64 0],.int .i64 4]) (by simp [results,Tryz.results180,go_sem,r0,r1,r2,r3]) rfl ⟨by rw [HR.out];rfl,(by repeat first | with_reducible (first | exact hB2 | apply below_drewN' | apply Below.drew | refine Below.alloc ?_ ?_ _ | refine Below.setCell ?_ ?_ _) | exact hB2 | omega | (simp <;> omega) | (have:=(hB2).size;first | omega | (simp <;> omega)))⟩
     | true =>
      have hI:w2.drew.cell? ⟨g5,0,none⟩=some (.int .i64 d1)∧w2.drew.cell? ⟨g5,1,none⟩=some (.int .i64 t1)∧w2.drew.cell? ⟨g6,0,none⟩=some (.int .i64 d2)∧w2.drew.cell? ⟨g6,1,none⟩=some (.int .i64 t2):=⟨E5.cell 0,E5.cell 1,E6.cell 0,E6.cell 1⟩
      have q0:w2.drew.cell? ⟨w.heap.size+1,0,none⟩=some (.int .i64 0):=r0
      have q1:w2.drew.cell? ⟨w.heap.size+1,1,none⟩=some (.int .i64 0):=r1
      have q2:w2.drew.cell? ⟨w.heap.size+1+1,0,none⟩=some (.int .i64 0):=r2
      have q3:w2.drew.cell? ⟨w.heap.size+1+1,1,none⟩=some (.int .i64 0):=r3
      have h0:w2.drew.frozen? ⟨w.heap.size+1,0,none⟩=false:=f0
      have h1:w2.drew.frozen? ⟨w.heap.size+1,1,none⟩=false:=f1
      have h2:w2.drew.frozen? ⟨w.heap.size+1+1,0,none⟩=false:=f2
      have h3:w2.drew.frozen? ⟨w.heap.size+1+1,1,none⟩=false:=f3
      have hset:=fun b (h5:b ≠ g5) (h6:b ≠ g6) v x y=>Lib.hid (four_setD (g5:=g5) (g6:=g6) (d1:=d1) (t1:=t1) (d2:=d2) (t2:=t2) (w:=v) b x y h5 h6)
      have ha1:=hset (w.heap.size+1) (by omega) (by omega)
      have ha2:=hset (w.heap.size+1+1) (by omega) (by omega)
      clear hset
      go_wp2_with fail
      go_region_held3 (fun w'=>w'.cell? ⟨g5,0,none⟩=some (.int .i64 d1)∧w'.cell? ⟨g5,1,none⟩=some (.int .i64 t1)∧w'.cell? ⟨g6,0,none⟩=some (.int .i64 d2)∧w'.cell? ⟨g6,1,none⟩=some (.int .i64 t2))
       (first | with_reducible exact hI | with_reducible assumption | with_reducible exact (ha1 _ _ _).out (by assumption) | with_reducible exact (ha2 _ _ _).out (by assumption)) (fail)
      go_wp2
      refine bodyPost_ret (v:=.tuple #[.agg #[.int .i64 d1,.int .i64 t1],.agg #[.int .i64 d2,.int .i64 t2],.int .i64 0]) (by simp [results,Tryz.results180,go_sem,r0,r1,r2,r3]) rfl ⟨by rw [HR.out];rfl,(by repeat first | with_reducible (first | exact hB2 | apply below_drewN' | apply Below.drew | refine Below.alloc ?_ ?_ _ | refine Below.setCell ?_ ?_ _) | exact hB2 | omega | (simp <;> omega) | (have:=(hB2).size;first | omega | (simp <;> omega)))⟩
   ·rintro L act v ⟨v19,v20,v21,v22,v23,v24,v5,v6,_,hL,_⟩
    exact hL
   ·intro L hs hr
    exact ready_all hs (by kernel_rfl) hr
end Go.Proofs.YtednjmldjbndhaaGreat
