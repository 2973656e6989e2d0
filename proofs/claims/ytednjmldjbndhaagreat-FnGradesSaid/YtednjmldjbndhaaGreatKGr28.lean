/- How many moves the usual plan of a chain has: the program's. Conditions: the lengths. The figure whose angle is nearest: plain. No program. Small facts on a region's world. No condition. The position of a mark on a scale (a figure with Tens = 0). No condition beyond bounds. -/
import Derived.Test.YtednjmldjbndhaaGreatKGr1
import Derived.Test.YtednjmldjbndhaaGreatKGr12
import Derived.Test.YtednjmldjbndhaaGreatKGr24
import Derived.Test.YtednjmldjbndhaaGreatKGr3
import Derived.Test.YtednjmldjbndhaaGreatKGr5
set_option linter.unusedSimpArgs false
set_option linter.unusedVariables false
set_option maxRecDepth 100000
set_option maxHeartbeats 8000000
namespace Go.Proofs.YtednjmldjbndhaaGreat
open Go.RowKit
def PlP (ms:List Move) (code:Int) (w:World) (e:Ending) (w':World):Prop:=∃ (A':Option Addr) (c':Nat),e=.returned (.tuple #[.slice A' ms.length c',.int .i64 code])∧Own w' w.heap.size 75 4 (.slice A' ms.length c') (ms.map Move.cells)∧Below w.heap.size w w'
theorem implPlanFor_c (L:Int) (A1:Option Addr) (c1:Nat) (l1:List Int) (A2:Option Addr) (c2:Nat) (l2:List Int) (A3:Option Addr) (c3:Nat) (l3:List Term) (w:World) (E:ExIn w A1 c1 l1 A2 c2 l2 A3 c3 l3) :
  Calls Tryz.prog 36 #[.agg #[.int .i64 L,.slice A1 l1.length c1,.slice A2 l2.length c2],.slice A3 l3.length c3] w (PlP (planL L l1 l2 l3) (planCode L l1 l2 l3) w):=by
 have hW:Below w.heap.size w (w.alloc (.cells #[.int .i64 L,.slice A1 l1.length c1,.slice A2 l2.length c2] 26)):=(by repeat first | with_reducible (first | exact Below.refl _ _ | apply below_drewN' | apply Below.drew | refine Below.alloc ?_ ?_ _ | refine Below.setCell ?_ ?_ _) | exact Below.refl _ _ | omega | (simp <;> omega) | (have:=(Below.refl _ _).size;first | omega | (simp <;> omega)))
 have B0:=Blk.new w 26 #[.int .i64 L,.slice A1 l1.length c1,.slice A2 l2.length c2]
 have HC:=Lib.hid (have Q:=E.later hW;checkPlan_c L A1 c1 l1 A2 c2 l2 A3 c3 l3 _ Q.h1 Q.h2 Q.h3 Q.k1 Q.k2 Q.s1 Q.s2 Q.s3)
 have HU:Hid (planCode L l1 l2 l3=0→∀ W,Below w.heap.size w W→_):=fun h W hW=>have P:=plan_parts h;have K:=chainB_parts P.2.1;usualPlan_c L A1 c1 l1 A2 c2 l2 A3 c3 l3 W ((E.later hW).rule P.2.2.1 P.2.2.2) K.1 K.2.1 E.k3 K.2.2.1 (E.later hW).s3
 have hpl:planCode L l1 l2 l3=0→planL L l1 l2 l3=(usualP l3).ms:=fun h=>by unfold planL;rw [if_pos h]
 have hpn:planCode L l1 l2 l3 ≠ 0→planL L l1 l2 l3=[]:=fun h=>by unfold planL;rw [if_neg h]
 clear E
 generalize planL L l1 l2 l3=pl at *
 generalize planCode L l1 l2 l3=pc at *
 unfold PlP
 by_cases h0:pc=0
 ·have hp:=hpl h0
  subst h0
  have HU2:=HU.out rfl
  rw [← hp] at HU2
  have HU2:=Lib.hid HU2
  clear HU hpl hpn hp
  go_enter Tryz.func36,Tryz.ntmps36
  go_wp2_with fail
  generalize w.alloc (.cells #[.int .i64 L,.slice A1 l1.length c1,.slice A2 l2.length c2] 26)=W at *
  refine Calls.mono HC.out ?_;rintro e w1 ⟨rfl,hb1⟩
  have hW1:=hW.trans (hb1.mono hW.size)
  have C0:=B0.below hb1 B0.lt
  have r0:w1.cell? ⟨w.heap.size,0,none⟩=some (.int .i64 L):=C0.cell 0
  have r1:w1.cell? ⟨w.heap.size,1,none⟩=some (.slice A1 l1.length c1):=C0.cell 1
  have r2:w1.cell? ⟨w.heap.size,2,none⟩=some (.slice A2 l2.length c2):=C0.cell 2
  clear B0 hW hb1 HC
  go_wp2_with fail
  refine Calls.mono (HU2.out w1 hW1) ?_;rintro e w2 ⟨A',c',rfl,hO2,hb2⟩
  have hW2:=hW1.trans (hb2.mono hW1.size)
  have hO3:=hO2.mono hW1.size
  clear hb2
  go_wp2
  go_ret2
  exact ⟨A',c',rfl,hO3.alloc _,(by repeat first | with_reducible (first | exact hW2 | apply below_drewN' | apply Below.drew | refine Below.alloc ?_ ?_ _ | refine Below.setCell ?_ ?_ _) | exact hW2 | omega | (simp <;> omega) | (have:=(hW2).size;first | omega | (simp <;> omega)))⟩
 ·have hp:=hpn h0
  subst hp
  have hne:(pc != 0)=true:=by simpa using h0
  clear HU hpl hpn h0
  go_enter Tryz.func36,Tryz.ntmps36
  go_wp2_with fail
  refine Calls.mono HC.out ?_;rintro e w1 ⟨rfl,hb1⟩
  have hW1:=hW.trans (hb1.mono hW.size)
  go_wp2
  go_ret2
  exact ⟨none,0,rfl,Own.nil_,hW1⟩
end Go.Proofs.YtednjmldjbndhaaGreat
namespace Go.Proofs.YtednjmldjbndhaaGreat
set_option maxRecDepth 100000
end Go.Proofs.YtednjmldjbndhaaGreat
namespace Go.Proofs.YtednjmldjbndhaaGreat
open Go.RowKit
theorem bel_next {B:Nat} {w0 w w1:World} {X:Prop} (hb:Below w.heap.size w w1) (h:Below B w0 w∧X) (hB:B ≤ w0.heap.size:=by omega):Below B w0 w1 :=
 h.1.trans (hb.mono (Nat.le_trans hB h.1.size))
theorem bel_alloc {B:Nat} {w0 w:World} {X:Prop} (h:Below B w0 w∧X) (o:Obj) (hB:B ≤ w0.heap.size:=by omega):Below B w0 (w.alloc o) :=
 h.1.alloc (Nat.le_trans hB h.1.size) o
theorem bel_set2 {B:Nat} {w0 w:World} {X:Prop} {g:Nat} {u v:Value} (h:Below B w0 w∧X) (hg:B ≤ g):Below B w0 ((w.setCell ⟨g,0,none⟩ u).setCell ⟨g,1,none⟩ v) :=
 (h.1.setCell hg u).setCell hg v
theorem size_alloc' (w:World) (o:Obj):(w.alloc o).heap.size=w.heap.size+1:=by simp
theorem size_drew' (w:World):w.drew.heap.size=w.heap.size:=rfl
theorem blk_newDrew (w:World) (t:TypeId) (cs:Array Value):Blk (w.alloc (.cells cs t)).drew w.heap.size t cs:=Blk.new w t cs
theorem pack {B:Nat} {w0 w:World} {g:Nat} {t:TypeId} {cs:Array Value} (h:Below B w0 w) (b:Blk w g t cs):∃ w1,Below B w0 w1∧Blk w1 g t cs∧w1=w:=⟨_,h,b,rfl⟩
def Two (w:World) (g:Nat) (t:TypeId):Prop:=∃ u v,Blk w g t #[u,v]
theorem Two.next {w w':World} {g:Nat} {t:TypeId} (h:Two w g t) (hb:Below w.heap.size w w'):Two w' g t:=by
 obtain ⟨u,v,h⟩:=h
 exact ⟨u,v,h.below hb h.lt⟩
theorem Two.set {w:World} {g:Nat} {t:TypeId} (h:Two w g t) (a b:Value):Two ((w.setCell ⟨g,0,none⟩ a).setCell ⟨g,1,none⟩ b) g t:=by
 obtain ⟨u,v,h⟩:=h
 exact ⟨a,b,h.two0.two1⟩
end Go.Proofs.YtednjmldjbndhaaGreat
namespace Go.Proofs.YtednjmldjbndhaaGreat
open Go.RowKit
end Go.Proofs.YtednjmldjbndhaaGreat
