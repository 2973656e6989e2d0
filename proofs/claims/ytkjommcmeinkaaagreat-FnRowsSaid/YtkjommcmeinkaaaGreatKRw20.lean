/- Slices of int64: the laws' copies, comparisons and marks of them. No condition beyond the length. -/
import Derived.StillTailTactics
import Derived.Test.YtkjommcmeinkaaaGreatKRw2
import Derived.Test.YtkjommcmeinkaaaGreatKRw3
set_option linter.unusedSimpArgs false
namespace Go.Proofs.YtkjommcmeinkaaaGreat
open Go.RowKit
/-- one int64, as a row of one cell -/
def ic (n : Int) : List Value := [.int .i64 n]
theorem ic_one {x : List Int} : ∀ y ∈ x.map ic, ∀ u ∈ y, u.oneCell' = true := fun y hy u hu => by
  obtain ⟨n, _, rfl⟩ := List.mem_map.1 hy
  simp only [ic, List.mem_singleton] at hu
  subst hu
  rfl
theorem info_Int64 : (Tryz.prog.info? 2).map (fun i => (i.zero, i.size, i.bytes)) = some (some (.int .i64 0), 1, 8) := by kernel_rfl
/-- a cell of a slice of int64 -/
theorem Sl.int {w : World} {B : Nat} {A : Option Addr} {l : List Int} (h : Sl w B 1 A (l.map ic)) {k : Nat} (hk : k < l.length) : ∃ b off, A = some ⟨b, off, none⟩ ∧ b < B ∧ w.cell? ⟨b, off + k, none⟩ = some (.int .i64 l[k]) := by
  obtain ⟨b, off, rfl, hb, hc⟩ := h.at_ (i := k) (by simpa using hk)
  refine ⟨b, off, rfl, hb, ?_⟩
  have := hc 0 (.int .i64 l[k]) (by simp [ic])
  simpa using this
end Go.Proofs.YtkjommcmeinkaaaGreat
