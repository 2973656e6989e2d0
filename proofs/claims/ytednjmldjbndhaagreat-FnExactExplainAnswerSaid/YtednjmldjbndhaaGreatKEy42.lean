/- GradeOf of the program and of the reference. Conditions: the lists' lengths. -/
import Derived.Test.YtednjmldjbndhaaGreatKEy26
import Derived.Test.YtednjmldjbndhaaGreatKEy41
set_option linter.unusedSimpArgs false
set_option linter.unusedVariables false
namespace Go.Proofs.YtednjmldjbndhaaGreat
open Go.RowKit
theorem ans_fig {l : List Move} {a b : Int} (h : ansB l a b = true) : figOK ⟨a, b⟩ = true := by
  unfold ansB at h
  rw [Bool.and_eq_true] at h
  exact h.2
end Go.Proofs.YtednjmldjbndhaaGreat
