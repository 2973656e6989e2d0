/- Tick: the structure, the laws' copies and comparisons of it. No condition beyond the length. -/
import Derived.Test.YtkjommcmeinkaaaGreatDoorNum
import Derived.StillTailTactics
namespace Go.Proofs.YtkjommcmeinkaaaGreatDoor
open Go.RowKit
@[ext] structure Tick where
  mark : Int
  place : Int
  height : Int
deriving DecidableEq
def Tick.cells (s : Tick) : List Value := [.int .i64 s.mark, .int .i64 s.place, .int .i64 s.height]
def Tick.agg (s : Tick) : Value := .agg #[.int .i64 s.mark, .int .i64 s.place, .int .i64 s.height]

theorem Tick.of_rows : ∀ rows : List (List Int), (∀ x ∈ rows, x.length = 3) → ∃ l : List Tick, rows.map (·.map (Value.int .i64)) = l.map Tick.cells
  | [], _ => ⟨[], rfl⟩
  | x :: r, h => by
    obtain ⟨l, hl⟩ := Tick.of_rows r fun y hy => h y (by simp [hy])
    match x, h x (by simp) with
    | [a, b, c], _ => exact ⟨⟨a, b, c⟩ :: l, by rw [List.map_cons, hl]; rfl⟩








end Go.Proofs.YtkjommcmeinkaaaGreatDoor
