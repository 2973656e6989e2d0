/- Loads of whole structs by their range of cells: one step, where the walk's own load takes a step a cell. No condition. -/
import Derived.Test.YtmdliicdlehibaaInv
import Derived.Deep.MidRow
namespace Go.Proofs.Ytmdliicdlehibaa
open Go.RowKit
theorem Blk.range {w : World} {g : Nat} {t : TypeId} {cs : List Value} (h : Blk w g t cs.toArray) : w.rangeAt g 0 cs := fun j v hv => by
  rw [Nat.zero_add, h.cell]
  simpa using hv
/-- a part of a block -/
theorem Blk.part {w : World} {g : Nat} {t : TypeId} {xs cs ys : List Value} (h : Blk w g t (xs ++ cs ++ ys).toArray) {n : Nat} (hn : xs.length = n) : w.rangeAt g n cs := fun j v hv => by
  subst hn
  have hj : j < cs.length := (List.getElem?_eq_some_iff.1 hv).1
  rw [h.cell]
  simp only [List.getElem?_toArray]
  rw [List.append_assoc, List.getElem?_append_right (by omega), Nat.add_sub_cancel_left, List.getElem?_append_left hj]
  exact hv
end Go.Proofs.Ytmdliicdlehibaa
