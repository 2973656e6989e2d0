/- OriginOf and DerivedFrom: the program's and the reference's. Conditions: the lengths. KeptEntries: the program's and the reference's. Conditions: the lengths. Plain facts for the law on catalogues. No condition. AddEntry, the program's. Conditions: the lengths. The size test of the laws on drawn arguments. No condition beyond the length. The law on catalogues: walked. Condition: none. -/
import Derived.Deep.RegionHeld3
import Derived.Deep.DeepCutAuto
import Derived.Deep.CutBlock
import Derived.Test.YtednjmldjbndhaaGreatDoorKMr2
import Derived.Test.YtednjmldjbndhaaGreatDoorKMr20
import Derived.Test.YtednjmldjbndhaaGreatDoorKMr23
import Derived.Test.YtednjmldjbndhaaGreatDoorKMr29
import Derived.Test.YtednjmldjbndhaaGreatDoorKMr3
import Derived.Test.YtednjmldjbndhaaGreatDoorKMr35
import Derived.Test.YtednjmldjbndhaaGreatDoorKMr41
set_option linter.unusedSimpArgs false
set_option linter.unusedVariables false
set_option maxRecDepth 100000
set_option maxHeartbeats 8000000
namespace Go.Proofs.YtednjmldjbndhaaGreatDoor
open Go.RowKit
end Go.Proofs.YtednjmldjbndhaaGreatDoor
namespace Go.Proofs.YtednjmldjbndhaaGreatDoor
open Go.RowKit
end Go.Proofs.YtednjmldjbndhaaGreatDoor
namespace Go.Proofs.YtednjmldjbndhaaGreatDoor
open Go.RowKit
end Go.Proofs.YtednjmldjbndhaaGreatDoor
namespace Go.Proofs.YtednjmldjbndhaaGreatDoor
open Go.RowKit
end Go.Proofs.YtednjmldjbndhaaGreatDoor
namespace Go.Proofs.YtednjmldjbndhaaGreatDoor
open Go.RowKit
theorem big_c (A:Option Addr) (n c:Nat) (w:World) (hn:n ≤ 140737488351232):Calls Tryz.prog 5 #[.slice A n c] w fun e w'=>e=.returned (.bool (decide (4096 < n)))∧w=w':=by
 go_enter Tryz.func5,Tryz.ntmps5
 go_wp2
 go_ret
 exact ⟨ret_bool (by simp;omega),rfl⟩
end Go.Proofs.YtednjmldjbndhaaGreatDoor
namespace Go.Proofs.YtednjmldjbndhaaGreatDoor
open Go.RowKit
theorem likeIntsE_c (A A':Option Addr) (c c':Nat) (l:List Int) (w:World) (hl:l.length ≤ 1048576) (hs:Sl w w.heap.size 1 A (l.map ic)) (hs':Sl w w.heap.size 1 A' (l.map ic)) :
  Calls Tryz.prog 18 #[.slice A l.length c,.slice A' l.length c'] w fun e w'=>e=.returned (.bool true)∧Below w.heap.size w w':=by
 have h:=likeIntsV_c A A' c c' l l w hl hl hs hs'
 rw [decide_eq_true (rfl:l=l)] at h
 exact h
end Go.Proofs.YtednjmldjbndhaaGreatDoor
