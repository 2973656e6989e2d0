/- Stroke: the structure, the laws' copies and comparisons of it. No condition beyond the length. -/
import Derived.Test.YtkjommcmeinkaaaGreatDoorNum
import Derived.StillTailTactics
namespace Go.Proofs.YtkjommcmeinkaaaGreatDoor
open Go.RowKit
@[ext] structure Stroke where
  tool : Int
  place : Int
  long : Int
deriving DecidableEq
def Stroke.cells (s : Stroke) : List Value := [.int .i64 s.tool, .int .i64 s.place, .int .i64 s.long]
def Stroke.agg (s : Stroke) : Value := .agg #[.int .i64 s.tool, .int .i64 s.place, .int .i64 s.long]

theorem Stroke.of_rows : ∀ rows : List (List Int), (∀ x ∈ rows, x.length = 3) → ∃ l : List Stroke, rows.map (·.map (Value.int .i64)) = l.map Stroke.cells
  | [], _ => ⟨[], rfl⟩
  | x :: r, h => by
    obtain ⟨l, hl⟩ := Stroke.of_rows r fun y hy => h y (by simp [hy])
    match x, h x (by simp) with
    | [a, b, c], _ => exact ⟨⟨a, b, c⟩ :: l, by rw [List.map_cons, hl]; rfl⟩





theorem info_Stroke : (Tryz.prog.info? 35).map (fun i => (i.zero, i.size, i.bytes)) = some (some (.agg #[.int .i64 0, .int .i64 0, .int .i64 0]), 3, 24) := by kernel_rfl



end Go.Proofs.YtkjommcmeinkaaaGreatDoor
