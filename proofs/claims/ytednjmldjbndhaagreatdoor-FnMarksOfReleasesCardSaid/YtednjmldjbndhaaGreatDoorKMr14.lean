/- Two figures: the reference's. No condition. -/
import Derived.Test.YtednjmldjbndhaaGreatDoorKMr13
set_option linter.unusedSimpArgs false
set_option linter.unusedVariables false
set_option maxRecDepth 100000
set_option maxHeartbeats 8000000
namespace Go.Proofs.YtednjmldjbndhaaGreatDoor
open Go.RowKit
theorem l02Two_c (a b:Figure) (w:World):Calls Tryz.prog 88 #[a.agg,b.agg] w fun e w'=>e=.returned (.bool (figOK a && figOK b))∧Below w.heap.size w w':=by
 have HA:=fun W=>specIsFigure_c a W
 have HB:=fun W=>specIsFigure_c b W
 have hW:Below w.heap.size w ((w.alloc (.cells #[.int .i64 a.digits,.int .i64 a.tens] 26)).alloc (.cells #[.int .i64 b.digits,.int .i64 b.tens] 26)):=(by repeat first | with_reducible (first | exact Below.refl _ _ | apply below_drewN' | apply Below.drew | refine Below.alloc ?_ ?_ _ | refine Below.setCell ?_ ?_ _) | exact Below.refl _ _ | omega | (simp <;> omega) | (have:=(Below.refl _ _).size;first | omega | (simp <;> omega)))
 have B1:=Blk.new' (w.alloc (.cells #[.int .i64 a.digits,.int .i64 a.tens] 26)) 26 #[.int .i64 b.digits,.int .i64 b.tens] (g:=w.heap.size+1) (by simp)
 cases ha:figOK a <;> cases hb:figOK b
 all_goals
  simp only [ha] at HA
  simp only [hb] at HB
  clear ha hb
  unfold Figure.agg at HA HB ⊢
  replace HA:=fun W=>Lib.hid (HA W)
  replace HB:=fun W=>Lib.hid (HB W)
  go_enter Tryz.func88,Tryz.ntmps88
  go_wp2_with fail
  refine Calls.mono (HA _).out ?_;rintro e w1 ⟨rfl,hb1⟩
  have hW1:=hW.trans (hb1.mono hW.size)
  have D1:=B1.below hb1 B1.lt
  have y0:w1.cell? ⟨w.heap.size+1,0,none⟩=some (.int .i64 b.digits):=D1.cell 0
  have y1:w1.cell? ⟨w.heap.size+1,1,none⟩=some (.int .i64 b.tens):=D1.cell 1
  clear HA
 ·go_wp2
  go_ret
  exact ⟨rfl,(by repeat first | with_reducible (first | exact hW1 | apply below_drewN' | apply Below.drew | refine Below.alloc ?_ ?_ _ | refine Below.setCell ?_ ?_ _) | exact hW1 | omega | (simp <;> omega) | (have:=(hW1).size;first | omega | (simp <;> omega)))⟩
 ·go_wp2
  go_ret
  exact ⟨rfl,(by repeat first | with_reducible (first | exact hW1 | apply below_drewN' | apply Below.drew | refine Below.alloc ?_ ?_ _ | refine Below.setCell ?_ ?_ _) | exact hW1 | omega | (simp <;> omega) | (have:=(hW1).size;first | omega | (simp <;> omega)))⟩
 ·go_wp2_with fail
  refine Calls.mono (HB _).out ?_;rintro e w2 ⟨rfl,hb2⟩
  have hW2:=hW1.trans (hb2.mono hW1.size)
  go_wp2
  go_ret
  exact ⟨rfl,(by repeat first | with_reducible (first | exact hW2 | apply below_drewN' | apply Below.drew | refine Below.alloc ?_ ?_ _ | refine Below.setCell ?_ ?_ _) | exact hW2 | omega | (simp <;> omega) | (have:=(hW2).size;first | omega | (simp <;> omega)))⟩
 ·go_wp2_with fail
  refine Calls.mono (HB _).out ?_;rintro e w2 ⟨rfl,hb2⟩
  have hW2:=hW1.trans (hb2.mono hW1.size)
  go_wp2
  go_ret
  exact ⟨rfl,(by repeat first | with_reducible (first | exact hW2 | apply below_drewN' | apply Below.drew | refine Below.alloc ?_ ?_ _ | refine Below.setCell ?_ ?_ _) | exact hW2 | omega | (simp <;> omega) | (have:=(hW2).size;first | omega | (simp <;> omega)))⟩
end Go.Proofs.YtednjmldjbndhaaGreatDoor
