/- Columns of a chart: the reference's. No condition beyond the scale. -/
import Derived.Test.YtednjmldjbndhaaGreatDoorKMr11
set_option linter.unusedSimpArgs false
set_option linter.unusedVariables false
set_option maxRecDepth 100000
set_option maxHeartbeats 8000000
namespace Go.Proofs.YtednjmldjbndhaaGreatDoor
open Go.RowKit
theorem l23Column0_c (fd ft:Int) (s:ByteArray) (A:Option Addr) (n c:Nat) (wd lf rt:Int) (w:World) :
  Calls Tryz.prog 138 #[.agg #[.int .i64 fd,.int .i64 ft,.string s,.slice A n c,.int .i64 wd,.int .i64 lf,.int .i64 rt],.int .i64 0] w fun e w'=>e=.returned (.int .i64 0)∧Below w.heap.size w w':=by
 go_enter Tryz.func138,Tryz.ntmps138
 go_wp2
 go_ret
 exact ⟨rfl,(by repeat first | with_reducible (first | exact Below.refl _ _ | apply below_drewN' | apply Below.drew | refine Below.alloc ?_ ?_ _ | refine Below.setCell ?_ ?_ _) | exact Below.refl _ _ | omega | (simp <;> omega) | (have:=(Below.refl _ _).size;first | omega | (simp <;> omega)))⟩
theorem l23Column1_c (fd ft:Int) (s:ByteArray) (A:Option Addr) (n c:Nat) (wd lf rt:Int) (w:World) :
  Calls Tryz.prog 138 #[.agg #[.int .i64 fd,.int .i64 ft,.string s,.slice A n c,.int .i64 wd,.int .i64 lf,.int .i64 rt],.int .i64 1] w fun e w'=>e=.returned (.int .i64 wd)∧Below w.heap.size w w':=by
 go_enter Tryz.func138,Tryz.ntmps138
 go_wp2
 go_ret
 exact ⟨rfl,(by repeat first | with_reducible (first | exact Below.refl _ _ | apply below_drewN' | apply Below.drew | refine Below.alloc ?_ ?_ _ | refine Below.setCell ?_ ?_ _) | exact Below.refl _ _ | omega | (simp <;> omega) | (have:=(Below.refl _ _).size;first | omega | (simp <;> omega)))⟩
theorem l23Column_c (fd ft:Int) (s:ByteArray) (A:Option Addr) (n c:Nat) (wd lf rt k:Int) (w:World) (hk:k=0 ∨ k=1) :
  Calls Tryz.prog 138 #[.agg #[.int .i64 fd,.int .i64 ft,.string s,.slice A n c,.int .i64 wd,.int .i64 lf,.int .i64 rt],.int .i64 k] w fun e w'=>e=.returned (.int .i64 (if k=0 then 0 else wd))∧Below w.heap.size w w':=by
 rcases hk with rfl | rfl
 ·exact l23Column0_c fd ft s A n c wd lf rt w
 ·exact l23Column1_c fd ft s A n c wd lf rt w
end Go.Proofs.YtednjmldjbndhaaGreatDoor
