/- Move: the structure, the laws' copies and comparisons of it. No condition beyond the length. -/
import Derived.Test.YtmdliicdlehibaaNum
import Derived.Test.YtmdliicdlehibaaNest
import Derived.StillTailTactics
namespace Go.Proofs.Ytmdliicdlehibaa
open Go.RowKit
@[ext] structure Move where
  kind : Int
  scale : Int
  digits : Int
  tens : Int
deriving DecidableEq
def Move.cells (s : Move) : List Value := [.int .i64 s.kind, .int .i64 s.scale, .int .i64 s.digits, .int .i64 s.tens]
def Move.agg (s : Move) : Value := .agg #[.int .i64 s.kind, .int .i64 s.scale, .int .i64 s.digits, .int .i64 s.tens]

theorem Move.of_rows : ∀ rows : List (List Int), (∀ x ∈ rows, x.length = 4) → ∃ l : List Move, rows.map (·.map (Value.int .i64)) = l.map Move.cells
  | [], _ => ⟨[], rfl⟩
  | x :: r, h => by
    obtain ⟨l, hl⟩ := Move.of_rows r fun y hy => h y (by simp [hy])
    match x, h x (by simp) with
    | [a, b, c, d], _ => exact ⟨⟨a, b, c, d⟩ :: l, by rw [List.map_cons, hl]; rfl⟩






end Go.Proofs.Ytmdliicdlehibaa
