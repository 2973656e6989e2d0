/- Figure: the structure, the laws' copies and comparisons of it. No condition beyond the length. -/
import Derived.Test.YtgkobjpoeajkdaaGreatNum
import Derived.StillTailTactics
namespace Go.Proofs.YtgkobjpoeajkdaaGreat
open Go.RowKit
@[ext] structure Figure where
  digits : Int
  tens : Int
deriving DecidableEq
def Figure.cells (s : Figure) : List Value := [.int .i64 s.digits, .int .i64 s.tens]
def Figure.agg (s : Figure) : Value := .agg #[.int .i64 s.digits, .int .i64 s.tens]

theorem Figure.of_rows : ∀ rows : List (List Int), (∀ x ∈ rows, x.length = 2) → ∃ l : List Figure, rows.map (·.map (Value.int .i64)) = l.map Figure.cells
  | [], _ => ⟨[], rfl⟩
  | x :: r, h => by
    obtain ⟨l, hl⟩ := Figure.of_rows r fun y hy => h y (by simp [hy])
    match x, h x (by simp) with
    | [a, b], _ => exact ⟨⟨a, b⟩ :: l, by rw [List.map_cons, hl]; rfl⟩

theorem toFigure_c (a b : Int) (w : World) : Calls Tryz.prog 89 #[.agg #[.int .i64 a, .int .i64 b]] w fun e w' => e = .returned (.agg #[.int .i64 a, .int .i64 b]) ∧ Below w.heap.size w w' := by
  go_enter Tryz.func89, Tryz.ntmps89
  go_wp2
  refine bodyPost_ret (v := .agg #[.int .i64 a, .int .i64 b]) (by simp [results, Tryz.results89, go_sem]) rfl ⟨rfl, ?_⟩
  exact (((Below.refl _ _).alloc (by simp <;> omega) _).alloc (by simp <;> omega) _).alloc (by simp <;> omega) _


theorem eqFigure_c (a b : Int) (w : World) : Calls Tryz.prog 93 #[.agg #[.int .i64 a, .int .i64 b], .agg #[.int .i64 a, .int .i64 b]] w fun e w' => e = .returned (.bool true) ∧ Below w.heap.size w w' := by
  go_enter Tryz.func93, Tryz.ntmps93
  go_wp2
  go_ret
  exact ⟨rfl, ((Below.refl _ _).alloc (by simp <;> omega) _).alloc (by simp <;> omega) _⟩


theorem info_Figure : (Tryz.prog.info? 65).map (fun i => (i.zero, i.size, i.bytes)) = some (some (.agg #[.int .i64 0, .int .i64 0]), 2, 16) := by kernel_rfl



end Go.Proofs.YtgkobjpoeajkdaaGreat
