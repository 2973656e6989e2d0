/-
  No cell of these rows narrows 'for every input' (looked for: loops, veiled, ifaces, maps, wideKeys, modest, calm, conditions, laid).
  DERIVED. THE GIVEN ROWS OF THIS SEAT. 10 by the template 'for every input the law returns true; each argument reads behind the call as it read before'; 0 by the template 'total and deterministic' (their statements: YtgkobjpoeajkdaaGreatTotals.lean).
  GIVEN WITH THE SEED: the statements are not yours to turn. If you find one false, say at which input.
  Laid BY PROGRAM, IN A SANDBOX (cutbox-rows.mjs): the forced cells as the released guide's own fill.sh prints them over the translation 6eb84943e7b75205… (all of the seat's roots in one cut). By AI agents, Wed Nov 11 2026. No macro, syntax, notation, axiom, sorry.
-/
import Derived.Test.YtgkobjpoeajkdaaGreatChecked
import GoSem.Claim
import GoSem.ClaimJoined
import GoSem.ClaimMapViews
import Derived.JoinedTies
import Derived.KernelRfl
namespace Go.Proofs.YtgkobjpoeajkdaaGreat
/- THE CELL 'sum', in the pinned program and in every row, IS THE sha256 OF THE DUMP (.gsa) THAT YtgkobjpoeajkdaaGreatProg.lean LOADS. Nothing in Lean hashes anything: it is a label: what it is worth is what the hold of that sum in a sandbox is worth. -/
noncomputable def Tryz.pinned : Pinned := { name := "ytgkobjpoeajkdaagreat", sum := "6eb84943e7b75205136a0a6b42e52fd0f564826da3030fb7d69e3eb036ae76d8", checked := Tryz.checked }
namespace Rows
def none {H : Type} : Left H := { results := [], args := [] }

/-- 'laws.FnExactIsExercise': WHATEVER THE INPUT: true; the input reads as it did. -/
def fnExactIsExerciseSpec : ChangeSpec := { name := "fnExactIsExercise", fn := fun _ => fun
  | [d] => { results := [.lit (.bool true)], args := [d] }
  | _ => none }
def fnExactIsExerciseRow : OpenClaim := { program := "ytgkobjpoeajkdaagreat", sum := "6eb84943e7b75205136a0a6b42e52fd0f564826da3030fb7d69e3eb036ae76d8", func := "loop.example/g00951/laws.FnExactIsExercise", spec := "fnExactIsExercise", unfollowed := true, recurses := true, apart := false }
def FnExactIsExerciseSaid : Prop := fnExactIsExerciseRow.holds Tryz.pinned (OpenSpec.ofChange fnExactIsExerciseSpec)

/-- ITS FALSE NEIGHBOUR: 'it returns false'. Refute it at one input. -/
def fnExactIsExerciseWrong : ChangeSpec := { name := "fnExactIsExercise", fn := fun _ => fun
  | [d] => { results := [.lit (.bool false)], args := [d] }
  | _ => none }
def FnExactIsExerciseWrongFalsely : Prop := fnExactIsExerciseRow.holds Tryz.pinned (OpenSpec.ofChange fnExactIsExerciseWrong)

/-- 'laws.FnExactHardestOf': WHATEVER THE INPUT: true; the input reads as it did. -/
def fnExactHardestOfSpec : ChangeSpec := { name := "fnExactHardestOf", fn := fun _ => fun
  | [d] => { results := [.lit (.bool true)], args := [d] }
  | _ => none }
def fnExactHardestOfRow : OpenClaim := { program := "ytgkobjpoeajkdaagreat", sum := "6eb84943e7b75205136a0a6b42e52fd0f564826da3030fb7d69e3eb036ae76d8", func := "loop.example/g00951/laws.FnExactHardestOf", spec := "fnExactHardestOf", unfollowed := true, recurses := true, apart := false }
def FnExactHardestOfSaid : Prop := fnExactHardestOfRow.holds Tryz.pinned (OpenSpec.ofChange fnExactHardestOfSpec)

/-- ITS FALSE NEIGHBOUR: 'it returns false'. Refute it at one input. -/
def fnExactHardestOfWrong : ChangeSpec := { name := "fnExactHardestOf", fn := fun _ => fun
  | [d] => { results := [.lit (.bool false)], args := [d] }
  | _ => none }
def FnExactHardestOfWrongFalsely : Prop := fnExactHardestOfRow.holds Tryz.pinned (OpenSpec.ofChange fnExactHardestOfWrong)

/-- 'laws.FnExactMakeExercise': WHATEVER THE INPUT: true; the input reads as it did. -/
def fnExactMakeExerciseSpec : ChangeSpec := { name := "fnExactMakeExercise", fn := fun _ => fun
  | [d1, d2, d3, d4] => { results := [.lit (.bool true)], args := [d1, d2, d3, d4] }
  | _ => none }
def fnExactMakeExerciseRow : OpenClaim := { program := "ytgkobjpoeajkdaagreat", sum := "6eb84943e7b75205136a0a6b42e52fd0f564826da3030fb7d69e3eb036ae76d8", func := "loop.example/g00951/laws.FnExactMakeExercise", spec := "fnExactMakeExercise", unfollowed := true, recurses := true, apart := false }
def FnExactMakeExerciseSaid : Prop := fnExactMakeExerciseRow.holds Tryz.pinned (OpenSpec.ofChange fnExactMakeExerciseSpec)

/-- ITS FALSE NEIGHBOUR: 'it returns false'. Refute it at one input. -/
def fnExactMakeExerciseWrong : ChangeSpec := { name := "fnExactMakeExercise", fn := fun _ => fun
  | [d1, d2, d3, d4] => { results := [.lit (.bool false)], args := [d1, d2, d3, d4] }
  | _ => none }
def FnExactMakeExerciseWrongFalsely : Prop := fnExactMakeExerciseRow.holds Tryz.pinned (OpenSpec.ofChange fnExactMakeExerciseWrong)

/-- 'laws.FnExactStepOf': WHATEVER THE INPUT: true; the input reads as it did. -/
def fnExactStepOfSpec : ChangeSpec := { name := "fnExactStepOf", fn := fun _ => fun
  | [d1, d2] => { results := [.lit (.bool true)], args := [d1, d2] }
  | _ => none }
def fnExactStepOfRow : OpenClaim := { program := "ytgkobjpoeajkdaagreat", sum := "6eb84943e7b75205136a0a6b42e52fd0f564826da3030fb7d69e3eb036ae76d8", func := "loop.example/g00951/laws.FnExactStepOf", spec := "fnExactStepOf", unfollowed := true, recurses := true, apart := false }
def FnExactStepOfSaid : Prop := fnExactStepOfRow.holds Tryz.pinned (OpenSpec.ofChange fnExactStepOfSpec)

/-- ITS FALSE NEIGHBOUR: 'it returns false'. Refute it at one input. -/
def fnExactStepOfWrong : ChangeSpec := { name := "fnExactStepOf", fn := fun _ => fun
  | [d1, d2] => { results := [.lit (.bool false)], args := [d1, d2] }
  | _ => none }
def FnExactStepOfWrongFalsely : Prop := fnExactStepOfRow.holds Tryz.pinned (OpenSpec.ofChange fnExactStepOfWrong)

/-- 'laws.FnExactNextMove': WHATEVER THE INPUT: true; the input reads as it did. -/
def fnExactNextMoveSpec : ChangeSpec := { name := "fnExactNextMove", fn := fun _ => fun
  | [d1, d2] => { results := [.lit (.bool true)], args := [d1, d2] }
  | _ => none }
def fnExactNextMoveRow : OpenClaim := { program := "ytgkobjpoeajkdaagreat", sum := "6eb84943e7b75205136a0a6b42e52fd0f564826da3030fb7d69e3eb036ae76d8", func := "loop.example/g00951/laws.FnExactNextMove", spec := "fnExactNextMove", unfollowed := true, recurses := true, apart := false }
def FnExactNextMoveSaid : Prop := fnExactNextMoveRow.holds Tryz.pinned (OpenSpec.ofChange fnExactNextMoveSpec)

/-- ITS FALSE NEIGHBOUR: 'it returns false'. Refute it at one input. -/
def fnExactNextMoveWrong : ChangeSpec := { name := "fnExactNextMove", fn := fun _ => fun
  | [d1, d2] => { results := [.lit (.bool false)], args := [d1, d2] }
  | _ => none }
def FnExactNextMoveWrongFalsely : Prop := fnExactNextMoveRow.holds Tryz.pinned (OpenSpec.ofChange fnExactNextMoveWrong)

/-- 'laws.FnExactGradeOf': WHATEVER THE INPUT: true; the input reads as it did. -/
def fnExactGradeOfSpec : ChangeSpec := { name := "fnExactGradeOf", fn := fun _ => fun
  | [d1, d2] => { results := [.lit (.bool true)], args := [d1, d2] }
  | _ => none }
def fnExactGradeOfRow : OpenClaim := { program := "ytgkobjpoeajkdaagreat", sum := "6eb84943e7b75205136a0a6b42e52fd0f564826da3030fb7d69e3eb036ae76d8", func := "loop.example/g00951/laws.FnExactGradeOf", spec := "fnExactGradeOf", unfollowed := true, recurses := true, apart := false }
def FnExactGradeOfSaid : Prop := fnExactGradeOfRow.holds Tryz.pinned (OpenSpec.ofChange fnExactGradeOfSpec)

/-- ITS FALSE NEIGHBOUR: 'it returns false'. Refute it at one input. -/
def fnExactGradeOfWrong : ChangeSpec := { name := "fnExactGradeOf", fn := fun _ => fun
  | [d1, d2] => { results := [.lit (.bool false)], args := [d1, d2] }
  | _ => none }
def FnExactGradeOfWrongFalsely : Prop := fnExactGradeOfRow.holds Tryz.pinned (OpenSpec.ofChange fnExactGradeOfWrong)

/-- 'laws.FnExactScoreOf': WHATEVER THE INPUT: true; the input reads as it did. -/
def fnExactScoreOfSpec : ChangeSpec := { name := "fnExactScoreOf", fn := fun _ => fun
  | [d1, d2] => { results := [.lit (.bool true)], args := [d1, d2] }
  | _ => none }
def fnExactScoreOfRow : OpenClaim := { program := "ytgkobjpoeajkdaagreat", sum := "6eb84943e7b75205136a0a6b42e52fd0f564826da3030fb7d69e3eb036ae76d8", func := "loop.example/g00951/laws.FnExactScoreOf", spec := "fnExactScoreOf", unfollowed := true, recurses := true, apart := false }
def FnExactScoreOfSaid : Prop := fnExactScoreOfRow.holds Tryz.pinned (OpenSpec.ofChange fnExactScoreOfSpec)

/-- ITS FALSE NEIGHBOUR: 'it returns false'. Refute it at one input. -/
def fnExactScoreOfWrong : ChangeSpec := { name := "fnExactScoreOf", fn := fun _ => fun
  | [d1, d2] => { results := [.lit (.bool false)], args := [d1, d2] }
  | _ => none }
def FnExactScoreOfWrongFalsely : Prop := fnExactScoreOfRow.holds Tryz.pinned (OpenSpec.ofChange fnExactScoreOfWrong)

/-- 'laws.FnExactExplainAnswer': WHATEVER THE INPUT: true; the input reads as it did. -/
def fnExactExplainAnswerSpec : ChangeSpec := { name := "fnExactExplainAnswer", fn := fun _ => fun
  | [d1, d2] => { results := [.lit (.bool true)], args := [d1, d2] }
  | _ => none }
def fnExactExplainAnswerRow : OpenClaim := { program := "ytgkobjpoeajkdaagreat", sum := "6eb84943e7b75205136a0a6b42e52fd0f564826da3030fb7d69e3eb036ae76d8", func := "loop.example/g00951/laws.FnExactExplainAnswer", spec := "fnExactExplainAnswer", unfollowed := true, recurses := true, apart := false }
def FnExactExplainAnswerSaid : Prop := fnExactExplainAnswerRow.holds Tryz.pinned (OpenSpec.ofChange fnExactExplainAnswerSpec)

/-- ITS FALSE NEIGHBOUR: 'it returns false'. Refute it at one input. -/
def fnExactExplainAnswerWrong : ChangeSpec := { name := "fnExactExplainAnswer", fn := fun _ => fun
  | [d1, d2] => { results := [.lit (.bool false)], args := [d1, d2] }
  | _ => none }
def FnExactExplainAnswerWrongFalsely : Prop := fnExactExplainAnswerRow.holds Tryz.pinned (OpenSpec.ofChange fnExactExplainAnswerWrong)

/-- 'laws.FnScores': WHATEVER THE INPUT: true; the input reads as it did. -/
def fnScoresSpec : ChangeSpec := { name := "fnScores", fn := fun _ => fun
  | [d] => { results := [.lit (.bool true)], args := [d] }
  | _ => none }
def fnScoresRow : OpenClaim := { program := "ytgkobjpoeajkdaagreat", sum := "6eb84943e7b75205136a0a6b42e52fd0f564826da3030fb7d69e3eb036ae76d8", func := "loop.example/g00951/laws.FnScores", spec := "fnScores", unfollowed := true, recurses := true, apart := false }
def FnScoresSaid : Prop := fnScoresRow.holds Tryz.pinned (OpenSpec.ofChange fnScoresSpec)

/-- ITS FALSE NEIGHBOUR: 'it returns false'. Refute it at one input. -/
def fnScoresWrong : ChangeSpec := { name := "fnScores", fn := fun _ => fun
  | [d] => { results := [.lit (.bool false)], args := [d] }
  | _ => none }
def FnScoresWrongFalsely : Prop := fnScoresRow.holds Tryz.pinned (OpenSpec.ofChange fnScoresWrong)

/-- 'laws.FnGrades': WHATEVER THE INPUT: true; the input reads as it did. -/
def fnGradesSpec : ChangeSpec := { name := "fnGrades", fn := fun _ => fun
  | [d] => { results := [.lit (.bool true)], args := [d] }
  | _ => none }
def fnGradesRow : OpenClaim := { program := "ytgkobjpoeajkdaagreat", sum := "6eb84943e7b75205136a0a6b42e52fd0f564826da3030fb7d69e3eb036ae76d8", func := "loop.example/g00951/laws.FnGrades", spec := "fnGrades", unfollowed := true, recurses := true, apart := false }
def FnGradesSaid : Prop := fnGradesRow.holds Tryz.pinned (OpenSpec.ofChange fnGradesSpec)

/-- ITS FALSE NEIGHBOUR: 'it returns false'. Refute it at one input. -/
def fnGradesWrong : ChangeSpec := { name := "fnGrades", fn := fun _ => fun
  | [d] => { results := [.lit (.bool false)], args := [d] }
  | _ => none }
def FnGradesWrongFalsely : Prop := fnGradesRow.holds Tryz.pinned (OpenSpec.ofChange fnGradesWrong)

/- THE SECOND FORM. 'bulk': how many values and letters a reading holds, each counted each time it is reached (what is shared counts as often as it is met; a slice's spare places count too). A statement '..UptoSaid' is the law's where the arguments, and the package variables that the reading takes, are together of bulk at most 1048576: NARROWER than '..Said'. Prove '..Said' where nothing that the law and all that it calls make is longer than what came in: it says more and counts as full. Else prove '..UptoSaid'. A law counts once. -/
mutual
def uptoBulk {H : Type} : DataW H → Nat
  | .lit (.string bytes) => bytes.length + 1
  | .lit _ => 1
  | .nil => 1
  | .ptr d => uptoBulk d + 1
  | .slice elems spare => uptoBulkAll elems + uptoBulkAll spare + 1
  | .agg parts => uptoBulkAll parts + 1
  | .iface _ d => uptoBulk d + 1
  | .map entries => uptoBulkEntries entries + 1
  | .held _ => 1
def uptoBulkAll {H : Type} : List (DataW H) → Nat
  | [] => 0
  | d :: r => uptoBulk d + uptoBulkAll r
def uptoBulkEntries {H : Type} : List (Lit × DataW H) → Nat
  | [] => 0
  | x :: r => uptoBulkEntry x + uptoBulkEntries r
def uptoBulkEntry {H : Type} : Lit × DataW H → Nat
  | (.string bytes, d) => bytes.length + uptoBulk d + 1
  | (_, d) => uptoBulk d + 1
 end
def uptoSmall : (H : Type) → List (DataW H) → Bool := fun _ ds => decide (uptoBulkAll ds ≤ 1048576)
def OpenSpec.upto (s : _root_.Go.ChangeSpec) : _root_.Go.OpenSpec := { _root_.Go.OpenSpec.ofChange s with cond := some uptoSmall }

/-- 'laws.FnExactIsExercise', WHERE WHAT IT READS IS OF BULK AT MOST 1048576: true; the input reads as it did. -/
def fnExactIsExerciseUptoRow : OpenClaim := { program := "ytgkobjpoeajkdaagreat", sum := "6eb84943e7b75205136a0a6b42e52fd0f564826da3030fb7d69e3eb036ae76d8", func := "loop.example/g00951/laws.FnExactIsExercise", spec := "fnExactIsExercise", unfollowed := true, recurses := true, apart := false, narrowed := true }
def FnExactIsExerciseUptoSaid : Prop := fnExactIsExerciseUptoRow.holds Tryz.pinned (OpenSpec.upto fnExactIsExerciseSpec)

/-- 'laws.FnExactHardestOf', WHERE WHAT IT READS IS OF BULK AT MOST 1048576: true; the input reads as it did. -/
def fnExactHardestOfUptoRow : OpenClaim := { program := "ytgkobjpoeajkdaagreat", sum := "6eb84943e7b75205136a0a6b42e52fd0f564826da3030fb7d69e3eb036ae76d8", func := "loop.example/g00951/laws.FnExactHardestOf", spec := "fnExactHardestOf", unfollowed := true, recurses := true, apart := false, narrowed := true }
def FnExactHardestOfUptoSaid : Prop := fnExactHardestOfUptoRow.holds Tryz.pinned (OpenSpec.upto fnExactHardestOfSpec)

/-- 'laws.FnExactMakeExercise', WHERE WHAT IT READS IS OF BULK AT MOST 1048576: true; the input reads as it did. -/
def fnExactMakeExerciseUptoRow : OpenClaim := { program := "ytgkobjpoeajkdaagreat", sum := "6eb84943e7b75205136a0a6b42e52fd0f564826da3030fb7d69e3eb036ae76d8", func := "loop.example/g00951/laws.FnExactMakeExercise", spec := "fnExactMakeExercise", unfollowed := true, recurses := true, apart := false, narrowed := true }
def FnExactMakeExerciseUptoSaid : Prop := fnExactMakeExerciseUptoRow.holds Tryz.pinned (OpenSpec.upto fnExactMakeExerciseSpec)

/-- 'laws.FnExactStepOf', WHERE WHAT IT READS IS OF BULK AT MOST 1048576: true; the input reads as it did. -/
def fnExactStepOfUptoRow : OpenClaim := { program := "ytgkobjpoeajkdaagreat", sum := "6eb84943e7b75205136a0a6b42e52fd0f564826da3030fb7d69e3eb036ae76d8", func := "loop.example/g00951/laws.FnExactStepOf", spec := "fnExactStepOf", unfollowed := true, recurses := true, apart := false, narrowed := true }
def FnExactStepOfUptoSaid : Prop := fnExactStepOfUptoRow.holds Tryz.pinned (OpenSpec.upto fnExactStepOfSpec)

/-- 'laws.FnExactNextMove', WHERE WHAT IT READS IS OF BULK AT MOST 1048576: true; the input reads as it did. -/
def fnExactNextMoveUptoRow : OpenClaim := { program := "ytgkobjpoeajkdaagreat", sum := "6eb84943e7b75205136a0a6b42e52fd0f564826da3030fb7d69e3eb036ae76d8", func := "loop.example/g00951/laws.FnExactNextMove", spec := "fnExactNextMove", unfollowed := true, recurses := true, apart := false, narrowed := true }
def FnExactNextMoveUptoSaid : Prop := fnExactNextMoveUptoRow.holds Tryz.pinned (OpenSpec.upto fnExactNextMoveSpec)

/-- 'laws.FnExactGradeOf', WHERE WHAT IT READS IS OF BULK AT MOST 1048576: true; the input reads as it did. -/
def fnExactGradeOfUptoRow : OpenClaim := { program := "ytgkobjpoeajkdaagreat", sum := "6eb84943e7b75205136a0a6b42e52fd0f564826da3030fb7d69e3eb036ae76d8", func := "loop.example/g00951/laws.FnExactGradeOf", spec := "fnExactGradeOf", unfollowed := true, recurses := true, apart := false, narrowed := true }
def FnExactGradeOfUptoSaid : Prop := fnExactGradeOfUptoRow.holds Tryz.pinned (OpenSpec.upto fnExactGradeOfSpec)

/-- 'laws.FnExactScoreOf', WHERE WHAT IT READS IS OF BULK AT MOST 1048576: true; the input reads as it did. -/
def fnExactScoreOfUptoRow : OpenClaim := { program := "ytgkobjpoeajkdaagreat", sum := "6eb84943e7b75205136a0a6b42e52fd0f564826da3030fb7d69e3eb036ae76d8", func := "loop.example/g00951/laws.FnExactScoreOf", spec := "fnExactScoreOf", unfollowed := true, recurses := true, apart := false, narrowed := true }
def FnExactScoreOfUptoSaid : Prop := fnExactScoreOfUptoRow.holds Tryz.pinned (OpenSpec.upto fnExactScoreOfSpec)

/-- 'laws.FnExactExplainAnswer', WHERE WHAT IT READS IS OF BULK AT MOST 1048576: true; the input reads as it did. -/
def fnExactExplainAnswerUptoRow : OpenClaim := { program := "ytgkobjpoeajkdaagreat", sum := "6eb84943e7b75205136a0a6b42e52fd0f564826da3030fb7d69e3eb036ae76d8", func := "loop.example/g00951/laws.FnExactExplainAnswer", spec := "fnExactExplainAnswer", unfollowed := true, recurses := true, apart := false, narrowed := true }
def FnExactExplainAnswerUptoSaid : Prop := fnExactExplainAnswerUptoRow.holds Tryz.pinned (OpenSpec.upto fnExactExplainAnswerSpec)

/-- 'laws.FnScores', WHERE WHAT IT READS IS OF BULK AT MOST 1048576: true; the input reads as it did. -/
def fnScoresUptoRow : OpenClaim := { program := "ytgkobjpoeajkdaagreat", sum := "6eb84943e7b75205136a0a6b42e52fd0f564826da3030fb7d69e3eb036ae76d8", func := "loop.example/g00951/laws.FnScores", spec := "fnScores", unfollowed := true, recurses := true, apart := false, narrowed := true }
def FnScoresUptoSaid : Prop := fnScoresUptoRow.holds Tryz.pinned (OpenSpec.upto fnScoresSpec)

/-- 'laws.FnGrades', WHERE WHAT IT READS IS OF BULK AT MOST 1048576: true; the input reads as it did. -/
def fnGradesUptoRow : OpenClaim := { program := "ytgkobjpoeajkdaagreat", sum := "6eb84943e7b75205136a0a6b42e52fd0f564826da3030fb7d69e3eb036ae76d8", func := "loop.example/g00951/laws.FnGrades", spec := "fnGrades", unfollowed := true, recurses := true, apart := false, narrowed := true }
def FnGradesUptoSaid : Prop := fnGradesUptoRow.holds Tryz.pinned (OpenSpec.upto fnGradesSpec)

end Rows
end Go.Proofs.YtgkobjpoeajkdaaGreat
