/- Figure: the structure, the laws' copies and comparisons of it. No condition beyond the length. -/
import Derived.Test.YtkjommcmeinkaaaGreatDoorNum
import Derived.StillTailTactics
namespace Go.Proofs.YtkjommcmeinkaaaGreatDoor
open Go.RowKit
@[ext] structure Figure where
  digits : Int
  tens : Int
deriving DecidableEq
def Figure.cells (s : Figure) : List Value := [.int .i64 s.digits, .int .i64 s.tens]
def Figure.agg (s : Figure) : Value := .agg #[.int .i64 s.digits, .int .i64 s.tens]

theorem Figure.of_rows : ∀ rows : List (List Int), (∀ x ∈ rows, x.length = 2) → ∃ l : List Figure, rows.map (·.map (Value.int .i64)) = l.map Figure.cells
  | [], _ => ⟨[], rfl⟩
  | x :: r, h => by
    obtain ⟨l, hl⟩ := Figure.of_rows r fun y hy => h y (by simp [hy])
    match x, h x (by simp) with
    | [a, b], _ => exact ⟨⟨a, b⟩ :: l, by rw [List.map_cons, hl]; rfl⟩








end Go.Proofs.YtkjommcmeinkaaaGreatDoor
