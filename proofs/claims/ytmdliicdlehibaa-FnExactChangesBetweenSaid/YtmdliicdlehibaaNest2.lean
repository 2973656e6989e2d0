/- Exercises and answers: the laws' copies and comparisons of them. No condition beyond the slices' lengths. -/
import Derived.Test.YtmdliicdlehibaaTerm
import Derived.Test.YtmdliicdlehibaaMove
namespace Go.Proofs.Ytmdliicdlehibaa
open Go.RowKit
/-- an exercise in new memory -/
def ExPost (L : Int) (l1 l2 : List Int) (l3 : List Term) (p q r : Int) (w : World) (e : Ending) (w' : World) : Prop :=
  ∃ B1 d1 B2 d2 B3 d3, e = .returned (.agg #[.int .i64 L, .slice B1 l1.length d1, .slice B2 l2.length d2, .slice B3 l3.length d3, .int .i64 p, .int .i64 q, .int .i64 r]) ∧ Own w' w.heap.size 2 1 (.slice B1 l1.length d1) (l1.map ic) ∧ Own w' w.heap.size 2 1 (.slice B2 l2.length d2) (l2.map ic) ∧ Own w' w.heap.size 103 3 (.slice B3 l3.length d3) (l3.map Term.cells) ∧ Below w.heap.size w w'



end Go.Proofs.Ytmdliicdlehibaa
