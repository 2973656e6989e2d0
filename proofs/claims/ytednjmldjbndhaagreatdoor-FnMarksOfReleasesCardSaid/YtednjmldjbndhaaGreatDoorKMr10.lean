/- Rules and errors: whether they are valid, the program's and the reference's. No condition beyond the lists' lengths. Term: the structure, the laws' copies and comparisons of it. No condition beyond the length. slices.ContainsFunc at []impl.Term, at a predicate that only computes. Chains: whether they are valid, the program's and the reference's. No condition beyond the length. Whether a chart and a desk are valid: the program's and the reference's. Conditions: the lengths. Places on a chart's scales: the reference's code. Conditions: the chart and the figure are valid. -/
import Derived.BigQuiet
import Derived.StillTailTactics
import Derived.Shelf.Abstract
import Derived.Test.YtednjmldjbndhaaGreatDoorKMr2
import Derived.Test.YtednjmldjbndhaaGreatDoorKMr8
import Derived.Test.YtednjmldjbndhaaGreatDoorKMr9
set_option linter.unusedSimpArgs false
set_option linter.unusedVariables false
set_option maxRecDepth 100000
set_option maxHeartbeats 8000000
namespace Go.Proofs.YtednjmldjbndhaaGreatDoor
open Go.RowKit
end Go.Proofs.YtednjmldjbndhaaGreatDoor
namespace Go.Proofs.YtednjmldjbndhaaGreatDoor
open Go.RowKit
@[ext] structure Term where
 digits:Int
 tens:Int
 div:Bool
deriving DecidableEq
def Term.cells (s:Term):List Value:=[.int .i64 s.digits,.int .i64 s.tens,.bool s.div]
def Term.agg (s:Term):Value:=.agg #[.int .i64 s.digits,.int .i64 s.tens,.bool s.div]





end Go.Proofs.YtednjmldjbndhaaGreatDoor
namespace Go.Proofs.YtednjmldjbndhaaGreatDoor
open Go.RowKit
end Go.Proofs.YtednjmldjbndhaaGreatDoor
namespace Go.Proofs.YtednjmldjbndhaaGreatDoor
open Go.RowKit
end Go.Proofs.YtednjmldjbndhaaGreatDoor
namespace Go.Proofs.YtednjmldjbndhaaGreatDoor
open Go.RowKit
theorem implIsChart_c (fd ft:Int) (s:ByteArray) (A:Option Addr) (c:Nat) (l:List Int) (wd lf rt:Int) (w:World) (hsz:s.size ≤ 1048576) (hl:l.length ≤ 1048576) (hs:Sl w w.heap.size 1 A (l.map ic)) :
  Calls Tryz.prog 75 #[.agg #[.int .i64 fd,.int .i64 ft,.string s,.slice A l.length c,.int .i64 wd,.int .i64 lf,.int .i64 rt]] w fun e w'=>e=.returned (.bool (chartB fd ft s l wd lf rt))∧Below w.heap.size w w':=by
 have hW:Below w.heap.size w (w.alloc (.cells #[.int .i64 fd,.int .i64 ft,.string s,.slice A l.length c,.int .i64 wd,.int .i64 lf,.int .i64 rt] 31)):=(by repeat first | with_reducible (first | exact Below.refl _ _ | apply below_drewN' | apply Below.drew | refine Below.alloc ?_ ?_ _ | refine Below.setCell ?_ ?_ _) | exact Below.refl _ _ | omega | (simp <;> omega) | (have:=(Below.refl _ _).size;first | omega | (simp <;> omega)))
 have B0:=Blk.new w 31 #[.int .i64 fd,.int .i64 ft,.string s,.slice A l.length c,.int .i64 wd,.int .i64 lf,.int .i64 rt]
 have hF:=implIsFormula_c fd ft s A c l _ hsz hl ((hs.below hW).more hW.size)
 have H1:=fun W=>within_c wd 1000 100000 W
 have H2:=fun W=>within_c lf 100 20000 W
 have H3:=fun W=>within_c rt 100 20000 W
 have hR:Hid (chartB fd ft s l wd lf rt=(formB fd ft s l && decide (s.size=2) && inB wd 1000 100000 && inB lf 100 20000 && inB rt 100 20000)):=rfl
 clear hs
 generalize formB fd ft s l=fb at *
 generalize inB wd 1000 100000=a at *
 generalize inB lf 100 20000=b at *
 generalize inB rt 100 20000=d at *
 have hF:=Lib.hid hF
 have H1:=fun W=>Lib.hid (H1 W)
 have H2:=fun W=>Lib.hid (H2 W)
 have H3:=fun W=>Lib.hid (H3 W)
 by_cases h2:s.size=2
 ·have hq:((s.size:Int) == 2)=true:=by simp [h2]
  have hR:Hid (chartB fd ft s l wd lf rt=(fb && true && a && b && d)):=by unfold Hid;rw [hR.out,decide_eq_true h2]
  clear h2
  go_enter Tryz.func75,Tryz.ntmps75
  go_wp2_with fail
  generalize w.alloc (.cells #[.int .i64 fd,.int .i64 ft,.string s,.slice A l.length c,.int .i64 wd,.int .i64 lf,.int .i64 rt] 31)=W at *
  refine Calls.mono hF.out ?_;rintro e w1 ⟨rfl,hb1⟩
  have hW1:=hW.trans (hb1.mono hW.size)
  have B1:=B0.below hb1 B0.lt
  have y2:w1.cell? ⟨w.heap.size,2,none⟩=some (.string s):=B1.cell 2
  have y4:w1.cell? ⟨w.heap.size,4,none⟩=some (.int .i64 wd):=B1.cell 4
  have y5:w1.cell? ⟨w.heap.size,5,none⟩=some (.int .i64 lf):=B1.cell 5
  have y6:w1.cell? ⟨w.heap.size,6,none⟩=some (.int .i64 rt):=B1.cell 6
  clear hW B0 hb1 hF
  cases fb <;> cases a <;> cases b
  all_goals
   go_wp2_with (first | (go_at_call 66;with_reducible refine Calls.mono (H1 _).out ?_;rintro e w2 ⟨rfl,rfl⟩) | (go_at_call 66;with_reducible refine Calls.mono (H2 _).out ?_;rintro e w2 ⟨rfl,rfl⟩) | (go_at_call 66;with_reducible refine Calls.mono (H3 _).out ?_;rintro e w2 ⟨rfl,rfl⟩))
   go_ret
   exact ⟨by rw [hR.out];rfl,(by repeat first | with_reducible (first | exact hW1 | apply below_drewN' | apply Below.drew | refine Below.alloc ?_ ?_ _ | refine Below.setCell ?_ ?_ _) | exact hW1 | omega | (simp <;> omega) | (have:=(hW1).size;first | omega | (simp <;> omega)))⟩
 ·have hq:((s.size:Int) == 2)=false:=by simp;omega
  have hR:Hid (chartB fd ft s l wd lf rt=false):=by unfold Hid;rw [hR.out,decide_eq_false h2];cases fb <;> rfl
  go_enter Tryz.func75,Tryz.ntmps75
  go_wp2_with fail
  generalize w.alloc (.cells #[.int .i64 fd,.int .i64 ft,.string s,.slice A l.length c,.int .i64 wd,.int .i64 lf,.int .i64 rt] 31)=W at *
  refine Calls.mono hF.out ?_;rintro e w1 ⟨rfl,hb1⟩
  have hW1:=hW.trans (hb1.mono hW.size)
  have B1:=B0.below hb1 B0.lt
  have y2:w1.cell? ⟨w.heap.size,2,none⟩=some (.string s):=B1.cell 2
  clear hW B0 hb1 hF
  cases fb
  all_goals
   go_wp2
   go_ret
   exact ⟨by rw [hR.out];first | rfl | (simp [h2];done),(by repeat first | with_reducible (first | exact hW1 | apply below_drewN' | apply Below.drew | refine Below.alloc ?_ ?_ _ | refine Below.setCell ?_ ?_ _) | exact hW1 | omega | (simp <;> omega) | (have:=(hW1).size;first | omega | (simp <;> omega)))⟩
theorem specIsChart_c (fd ft:Int) (s:ByteArray) (A:Option Addr) (c:Nat) (l:List Int) (wd lf rt:Int) (w:World) (hsz:s.size ≤ 1048576) (hl:l.length ≤ 1048576) (hs:Sl w w.heap.size 1 A (l.map ic)) :
  Calls Tryz.prog 87 #[.agg #[.int .i64 fd,.int .i64 ft,.string s,.slice A l.length c,.int .i64 wd,.int .i64 lf,.int .i64 rt]] w fun e w'=>e=.returned (.bool (chartB fd ft s l wd lf rt))∧Below w.heap.size w w':=by
 have hW:Below w.heap.size w (w.alloc (.cells #[.int .i64 fd,.int .i64 ft,.string s,.slice A l.length c,.int .i64 wd,.int .i64 lf,.int .i64 rt] 31)):=(by repeat first | with_reducible (first | exact Below.refl _ _ | apply below_drewN' | apply Below.drew | refine Below.alloc ?_ ?_ _ | refine Below.setCell ?_ ?_ _) | exact Below.refl _ _ | omega | (simp <;> omega) | (have:=(Below.refl _ _).size;first | omega | (simp <;> omega)))
 have B0:=Blk.new w 31 #[.int .i64 fd,.int .i64 ft,.string s,.slice A l.length c,.int .i64 wd,.int .i64 lf,.int .i64 rt]
 have hF:=specIsFormula_c fd ft s A c l _ hsz hl ((hs.below hW).more hW.size)
 have H1:=fun W=>l01In_c wd 1000 100000 W
 have H2:=fun W=>l01In_c lf 100 20000 W
 have H3:=fun W=>l01In_c rt 100 20000 W
 have hR:Hid (chartB fd ft s l wd lf rt=(formB fd ft s l && decide (s.size=2) && inB wd 1000 100000 && inB lf 100 20000 && inB rt 100 20000)):=rfl
 clear hs
 generalize formB fd ft s l=fb at *
 generalize inB wd 1000 100000=a at *
 generalize inB lf 100 20000=b at *
 generalize inB rt 100 20000=d at *
 have hF:=Lib.hid hF
 have H1:=fun W=>Lib.hid (H1 W)
 have H2:=fun W=>Lib.hid (H2 W)
 have H3:=fun W=>Lib.hid (H3 W)
 by_cases h2:s.size=2
 ·have hq:((s.size:Int) == 2)=true:=by simp [h2]
  have hR:Hid (chartB fd ft s l wd lf rt=(fb && true && a && b && d)):=by unfold Hid;rw [hR.out,decide_eq_true h2]
  clear h2
  go_enter Tryz.func87,Tryz.ntmps87
  go_wp2_with fail
  generalize w.alloc (.cells #[.int .i64 fd,.int .i64 ft,.string s,.slice A l.length c,.int .i64 wd,.int .i64 lf,.int .i64 rt] 31)=W at *
  refine Calls.mono hF.out ?_;rintro e w1 ⟨rfl,hb1⟩
  have hW1:=hW.trans (hb1.mono hW.size)
  have B1:=B0.below hb1 B0.lt
  have y2:w1.cell? ⟨w.heap.size,2,none⟩=some (.string s):=B1.cell 2
  have y4:w1.cell? ⟨w.heap.size,4,none⟩=some (.int .i64 wd):=B1.cell 4
  have y5:w1.cell? ⟨w.heap.size,5,none⟩=some (.int .i64 lf):=B1.cell 5
  have y6:w1.cell? ⟨w.heap.size,6,none⟩=some (.int .i64 rt):=B1.cell 6
  clear hW B0 hb1 hF
  cases fb <;> cases a <;> cases b
  all_goals
   go_wp2_with (first | (go_at_call 71;with_reducible refine Calls.mono (H1 _).out ?_;rintro e w2 ⟨rfl,rfl⟩) | (go_at_call 71;with_reducible refine Calls.mono (H2 _).out ?_;rintro e w2 ⟨rfl,rfl⟩) | (go_at_call 71;with_reducible refine Calls.mono (H3 _).out ?_;rintro e w2 ⟨rfl,rfl⟩))
   go_ret
   exact ⟨by rw [hR.out];rfl,(by repeat first | with_reducible (first | exact hW1 | apply below_drewN' | apply Below.drew | refine Below.alloc ?_ ?_ _ | refine Below.setCell ?_ ?_ _) | exact hW1 | omega | (simp <;> omega) | (have:=(hW1).size;first | omega | (simp <;> omega)))⟩
 ·have hq:((s.size:Int) == 2)=false:=by simp;omega
  have hR:Hid (chartB fd ft s l wd lf rt=false):=by unfold Hid;rw [hR.out,decide_eq_false h2];cases fb <;> rfl
  go_enter Tryz.func87,Tryz.ntmps87
  go_wp2_with fail
  generalize w.alloc (.cells #[.int .i64 fd,.int .i64 ft,.string s,.slice A l.length c,.int .i64 wd,.int .i64 lf,.int .i64 rt] 31)=W at *
  refine Calls.mono hF.out ?_;rintro e w1 ⟨rfl,hb1⟩
  have hW1:=hW.trans (hb1.mono hW.size)
  have B1:=B0.below hb1 B0.lt
  have y2:w1.cell? ⟨w.heap.size,2,none⟩=some (.string s):=B1.cell 2
  clear hW B0 hb1 hF
  cases fb
  all_goals
   go_wp2
   go_ret
   exact ⟨by rw [hR.out];first | rfl | (simp [h2];done),(by repeat first | with_reducible (first | exact hW1 | apply below_drewN' | apply Below.drew | refine Below.alloc ?_ ?_ _ | refine Below.setCell ?_ ?_ _) | exact hW1 | omega | (simp <;> omega) | (have:=(hW1).size;first | omega | (simp <;> omega)))⟩
structure DkIn (w:World) (A1:Option Addr) (c1:Nat) (l1:List Int) (A2:Option Addr) (c2:Nat) (l2:List Int) (A3:Option Addr) (c3:Nat) (l3:List Term) (s:ByteArray) (A4:Option Addr) (c4:Nat) (l4:List Int):Prop where
 h1:l1.length ≤ 1048576
 h2:l2.length ≤ 1048576
 h3:l3.length ≤ 1048576
 h4:l4.length ≤ 1048576
 hn:s.size ≤ 1048576
 k1:l1.length ≤ c1
 k2:l2.length ≤ c2
 s1:Sl w w.heap.size 1 A1 (l1.map ic)
 s2:Sl w w.heap.size 1 A2 (l2.map ic)
 s3:Sl w w.heap.size 3 A3 (l3.map Term.cells)
 s4:Sl w w.heap.size 1 A4 (l4.map ic)
theorem DkIn.later {w W:World} {A1:Option Addr} {c1:Nat} {l1:List Int} {A2:Option Addr} {c2:Nat} {l2:List Int} {A3:Option Addr} {c3:Nat} {l3:List Term} {s:ByteArray} {A4:Option Addr} {c4:Nat} {l4:List Int} (E:DkIn w A1 c1 l1 A2 c2 l2 A3 c3 l3 s A4 c4 l4) (hW:Below w.heap.size w W):DkIn W A1 c1 l1 A2 c2 l2 A3 c3 l3 s A4 c4 l4 :=
 ⟨E.h1,E.h2,E.h3,E.h4,E.hn,E.k1,E.k2,(E.s1.below hW).more hW.size,(E.s2.below hW).more hW.size,(E.s3.below hW).more hW.size,(E.s4.below hW).more hW.size⟩
end Go.Proofs.YtednjmldjbndhaaGreatDoor
namespace Go.Proofs.YtednjmldjbndhaaGreatDoor
open Go.RowKit
theorem l23Code_c (fd ft:Int) (s:ByteArray) (A:Option Addr) (c:Nat) (l:List Int) (wd lf rt k:Int) (f:Figure) (w:World) (hk:k=0 ∨ k=1) (hsz:s.size ≤ 1048576) (hl:l.length ≤ 1048576) (hs:Sl w w.heap.size 1 A (l.map ic))
  (hc:chartB fd ft s l wd lf rt=true) (hf:figOK f=true) :
  Calls Tryz.prog 114 #[.agg #[.int .i64 fd,.int .i64 ft,.string s,.slice A l.length c,.int .i64 wd,.int .i64 lf,.int .i64 rt],.int .i64 k,f.agg] w fun e w'=>e=.returned (.int .i64 0)∧Below w.heap.size w w':=by
 have hW:Below w.heap.size w ((w.alloc (.cells #[.int .i64 fd,.int .i64 ft,.string s,.slice A l.length c,.int .i64 wd,.int .i64 lf,.int .i64 rt] 31)).alloc (.cells #[.int .i64 f.digits,.int .i64 f.tens] 26)):=(by repeat first | with_reducible (first | exact Below.refl _ _ | apply below_drewN' | apply Below.drew | refine Below.alloc ?_ ?_ _ | refine Below.setCell ?_ ?_ _) | exact Below.refl _ _ | omega | (simp <;> omega) | (have:=(Below.refl _ _).size;first | omega | (simp <;> omega)))
 have HC:=specIsChart_c fd ft s A c l wd lf rt _ hsz hl ((hs.below hW).more hW.size)
 have HF:=fun W=>specIsFigure_c f W
 rw [hc] at HC
 simp only [hf] at HF
 have HI:=fun W=>l01In_c k 0 2 W
 have hi:inB k 0 2=true:=inB_true.mpr (by omega)
 simp only [hi] at HI
 unfold Figure.agg at HF ⊢
 replace HC:=Lib.hid HC
 replace HF:=fun W=>Lib.hid (HF W)
 replace HI:=fun W=>Lib.hid (HI W)
 have B1:=Blk.new' (w.alloc (.cells #[.int .i64 fd,.int .i64 ft,.string s,.slice A l.length c,.int .i64 wd,.int .i64 lf,.int .i64 rt] 31)) 26 #[.int .i64 f.digits,.int .i64 f.tens] (g:=w.heap.size+1) (by simp)
 clear hc hf hi hs
 go_enter Tryz.func114,Tryz.ntmps114
 go_wp2_with fail
 refine Calls.mono HC.out ?_;rintro e w1 ⟨rfl,hb1⟩
 have hW1:=hW.trans (hb1.mono hW.size)
 have D1:=B1.below hb1 B1.lt
 have y0:w1.cell? ⟨w.heap.size+1,0,none⟩=some (.int .i64 f.digits):=D1.cell 0
 have y1:w1.cell? ⟨w.heap.size+1,1,none⟩=some (.int .i64 f.tens):=D1.cell 1
 go_wp2_with fail
 refine Calls.mono (HF _).out ?_;rintro e w2 ⟨rfl,hb2⟩
 have hW2:=hW1.trans (hb2.mono hW1.size)
 go_wp2_with (go_at_call 71;refine (HI _).out.mono ?_;rintro e w5 ⟨rfl,rfl⟩)
 go_ret
 exact ⟨rfl,(by repeat first | with_reducible (first | exact hW2 | apply below_drewN' | apply Below.drew | refine Below.alloc ?_ ?_ _ | refine Below.setCell ?_ ?_ _) | exact hW2 | omega | (simp <;> omega) | (have:=(hW2).size;first | omega | (simp <;> omega)))⟩
end Go.Proofs.YtednjmldjbndhaaGreatDoor
