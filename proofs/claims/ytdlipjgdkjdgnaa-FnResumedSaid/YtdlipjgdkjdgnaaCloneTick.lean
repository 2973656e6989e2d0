/- slices.Clone at []impl.Tick. -/
import Derived.Test.YtdlipjgdkjdgnaaTick
import Derived.Test.YtdlipjgdkjdgnaaApp
import Derived.Lib.SliceRun
namespace Go.Proofs.Ytdlipjgdkjdgnaa
open Go.RowKit
theorem Tick.one {l : List Tick} : ∀ y ∈ l.map Tick.cells, ∀ u ∈ y, u.oneCell' = true := fun y hy u hu => by
  obtain ⟨s, _, rfl⟩ := List.mem_map.1 hy
  simp [Tick.cells] at hu
  repeat (first | (rcases hu with rfl | hu; rfl) | (subst hu; rfl))
end Go.Proofs.Ytdlipjgdkjdgnaa
