/- The size test of the laws on drawn arguments. No condition beyond the length. -/
import Derived.Test.YtednjmldjbndhaaGreatDoorKCt2
set_option linter.unusedSimpArgs false
set_option linter.unusedVariables false
set_option maxRecDepth 100000
set_option maxHeartbeats 8000000
namespace Go.Proofs.YtednjmldjbndhaaGreatDoor
open Go.RowKit
theorem big_c (A:Option Addr) (n c:Nat) (w:World) (hn:n ≤ 140737488351232):Calls Tryz.prog 5 #[.slice A n c] w fun e w'=>e=.returned (.bool (decide (4096 < n)))∧w=w':=by
 go_enter Tryz.func5,Tryz.ntmps5
 go_wp2
 go_ret
 exact ⟨ret_bool (by simp;omega),rfl⟩
end Go.Proofs.YtednjmldjbndhaaGreatDoor
