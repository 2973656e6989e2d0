/- The size test of the laws on drawn arguments. No condition beyond the length. -/
import Derived.Test.YtkjommcmeinkaaaGreatDoorNum
namespace Go.Proofs.YtkjommcmeinkaaaGreatDoor
open Go.RowKit
theorem big_c (A : Option Addr) (n c : Nat) (w : World) (hn : n ≤ 140737488351232) : Calls Tryz.prog 4 #[.slice A n c] w fun e w' => e = .returned (.bool (decide (4096 < n))) ∧ w = w' := by
  go_enter Tryz.func4, Tryz.ntmps4
  go_wp2
  go_ret
  exact ⟨ret_bool (by simp; omega), rfl⟩
end Go.Proofs.YtkjommcmeinkaaaGreatDoor
