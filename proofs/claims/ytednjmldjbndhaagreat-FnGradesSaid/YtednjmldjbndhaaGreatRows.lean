/-
  No cell of these rows narrows 'for every input' (looked for: loops, veiled, ifaces, maps, wideKeys, modest, calm, conditions, laid).
  DERIVED. THE GIVEN ROWS OF THIS SEAT. 3 by the template 'for every input the law returns true; each argument reads behind the call as it read before'; 0 by the template 'total and deterministic' (their statements: YtednjmldjbndhaaGreatTotals.lean).
  GIVEN WITH THE SEED: the statements are not yours to turn. If you find one false, say at which input.
  Laid BY PROGRAM, IN A SANDBOX (cutbox-rows.mjs): the forced cells as the released guide's own fill.sh prints them over the translation 79fa9c9a7730d0f4… (all of the seat's roots in one cut). By AI agents, Wed Nov 11 2026. No macro, syntax, notation, axiom, sorry.
-/
import Derived.Test.YtednjmldjbndhaaGreatChecked
import GoSem.Claim
import GoSem.ClaimJoined
import GoSem.ClaimMapViews
import Derived.JoinedTies
import Derived.KernelRfl
namespace Go.Proofs.YtednjmldjbndhaaGreat
/- THE CELL 'sum', in the pinned program and in every row, IS THE sha256 OF THE DUMP (.gsa) THAT YtednjmldjbndhaaGreatProg.lean LOADS. Nothing in Lean hashes anything: it is a label: what it is worth is what the hold of that sum in a sandbox is worth. -/
noncomputable def Tryz.pinned : Pinned := { name := "ytednjmldjbndhaagreat", sum := "79fa9c9a7730d0f434a3f1f7b132d22285082fa2f5f49e348a27aff65d122aea", checked := Tryz.checked }
namespace Rows
def none {H : Type} : Left H := { results := [], args := [] }

/-- 'laws.FnScores': WHATEVER THE INPUT: true; the input reads as it did. -/
def fnScoresSpec : ChangeSpec := { name := "fnScores", fn := fun _ => fun
  | [d] => { results := [.lit (.bool true)], args := [d] }
  | _ => none }
def fnScoresRow : OpenClaim := { program := "ytednjmldjbndhaagreat", sum := "79fa9c9a7730d0f434a3f1f7b132d22285082fa2f5f49e348a27aff65d122aea", func := "loop.example/g00951/laws.FnScores", spec := "fnScores", unfollowed := true, recurses := true, apart := false }
def FnScoresSaid : Prop := fnScoresRow.holds Tryz.pinned (OpenSpec.ofChange fnScoresSpec)

/-- ITS FALSE NEIGHBOUR: 'it returns false'. Refute it at one input. -/
def fnScoresWrong : ChangeSpec := { name := "fnScores", fn := fun _ => fun
  | [d] => { results := [.lit (.bool false)], args := [d] }
  | _ => none }
def FnScoresWrongFalsely : Prop := fnScoresRow.holds Tryz.pinned (OpenSpec.ofChange fnScoresWrong)

/-- 'laws.FnExactExplainAnswer': WHATEVER THE INPUT: true; the input reads as it did. -/
def fnExactExplainAnswerSpec : ChangeSpec := { name := "fnExactExplainAnswer", fn := fun _ => fun
  | [d1, d2] => { results := [.lit (.bool true)], args := [d1, d2] }
  | _ => none }
def fnExactExplainAnswerRow : OpenClaim := { program := "ytednjmldjbndhaagreat", sum := "79fa9c9a7730d0f434a3f1f7b132d22285082fa2f5f49e348a27aff65d122aea", func := "loop.example/g00951/laws.FnExactExplainAnswer", spec := "fnExactExplainAnswer", unfollowed := true, recurses := true, apart := false }
def FnExactExplainAnswerSaid : Prop := fnExactExplainAnswerRow.holds Tryz.pinned (OpenSpec.ofChange fnExactExplainAnswerSpec)

/-- ITS FALSE NEIGHBOUR: 'it returns false'. Refute it at one input. -/
def fnExactExplainAnswerWrong : ChangeSpec := { name := "fnExactExplainAnswer", fn := fun _ => fun
  | [d1, d2] => { results := [.lit (.bool false)], args := [d1, d2] }
  | _ => none }
def FnExactExplainAnswerWrongFalsely : Prop := fnExactExplainAnswerRow.holds Tryz.pinned (OpenSpec.ofChange fnExactExplainAnswerWrong)

/-- 'laws.FnGrades': WHATEVER THE INPUT: true; the input reads as it did. -/
def fnGradesSpec : ChangeSpec := { name := "fnGrades", fn := fun _ => fun
  | [d] => { results := [.lit (.bool true)], args := [d] }
  | _ => none }
def fnGradesRow : OpenClaim := { program := "ytednjmldjbndhaagreat", sum := "79fa9c9a7730d0f434a3f1f7b132d22285082fa2f5f49e348a27aff65d122aea", func := "loop.example/g00951/laws.FnGrades", spec := "fnGrades", unfollowed := true, recurses := true, apart := false }
def FnGradesSaid : Prop := fnGradesRow.holds Tryz.pinned (OpenSpec.ofChange fnGradesSpec)

/-- ITS FALSE NEIGHBOUR: 'it returns false'. Refute it at one input. -/
def fnGradesWrong : ChangeSpec := { name := "fnGrades", fn := fun _ => fun
  | [d] => { results := [.lit (.bool false)], args := [d] }
  | _ => none }
def FnGradesWrongFalsely : Prop := fnGradesRow.holds Tryz.pinned (OpenSpec.ofChange fnGradesWrong)

/- THE SECOND FORM. 'bulk': how many values and letters a reading holds, each counted each time it is reached (what is shared counts as often as it is met; a slice's spare places count too). A statement '..UptoSaid' is the law's where the arguments, and the package variables that the reading takes, are together of bulk at most 1048576: NARROWER than '..Said'. Prove '..Said' where nothing that the law and all that it calls make is longer than what came in: it says more and counts as full. Else prove '..UptoSaid'. A law counts once. -/
mutual
def uptoBulk {H : Type} : DataW H → Nat
  | .lit (.string bytes) => bytes.length + 1
  | .lit _ => 1
  | .nil => 1
  | .ptr d => uptoBulk d + 1
  | .slice elems spare => uptoBulkAll elems + uptoBulkAll spare + 1
  | .agg parts => uptoBulkAll parts + 1
  | .iface _ d => uptoBulk d + 1
  | .map entries => uptoBulkEntries entries + 1
  | .held _ => 1
def uptoBulkAll {H : Type} : List (DataW H) → Nat
  | [] => 0
  | d :: r => uptoBulk d + uptoBulkAll r
def uptoBulkEntries {H : Type} : List (Lit × DataW H) → Nat
  | [] => 0
  | x :: r => uptoBulkEntry x + uptoBulkEntries r
def uptoBulkEntry {H : Type} : Lit × DataW H → Nat
  | (.string bytes, d) => bytes.length + uptoBulk d + 1
  | (_, d) => uptoBulk d + 1
 end
def uptoSmall : (H : Type) → List (DataW H) → Bool := fun _ ds => decide (uptoBulkAll ds ≤ 1048576)
def OpenSpec.upto (s : _root_.Go.ChangeSpec) : _root_.Go.OpenSpec := { _root_.Go.OpenSpec.ofChange s with cond := some uptoSmall }

/-- 'laws.FnScores', WHERE WHAT IT READS IS OF BULK AT MOST 1048576: true; the input reads as it did. -/
def fnScoresUptoRow : OpenClaim := { program := "ytednjmldjbndhaagreat", sum := "79fa9c9a7730d0f434a3f1f7b132d22285082fa2f5f49e348a27aff65d122aea", func := "loop.example/g00951/laws.FnScores", spec := "fnScores", unfollowed := true, recurses := true, apart := false, narrowed := true }
def FnScoresUptoSaid : Prop := fnScoresUptoRow.holds Tryz.pinned (OpenSpec.upto fnScoresSpec)

/-- 'laws.FnExactExplainAnswer', WHERE WHAT IT READS IS OF BULK AT MOST 1048576: true; the input reads as it did. -/
def fnExactExplainAnswerUptoRow : OpenClaim := { program := "ytednjmldjbndhaagreat", sum := "79fa9c9a7730d0f434a3f1f7b132d22285082fa2f5f49e348a27aff65d122aea", func := "loop.example/g00951/laws.FnExactExplainAnswer", spec := "fnExactExplainAnswer", unfollowed := true, recurses := true, apart := false, narrowed := true }
def FnExactExplainAnswerUptoSaid : Prop := fnExactExplainAnswerUptoRow.holds Tryz.pinned (OpenSpec.upto fnExactExplainAnswerSpec)

/-- 'laws.FnGrades', WHERE WHAT IT READS IS OF BULK AT MOST 1048576: true; the input reads as it did. -/
def fnGradesUptoRow : OpenClaim := { program := "ytednjmldjbndhaagreat", sum := "79fa9c9a7730d0f434a3f1f7b132d22285082fa2f5f49e348a27aff65d122aea", func := "loop.example/g00951/laws.FnGrades", spec := "fnGrades", unfollowed := true, recurses := true, apart := false, narrowed := true }
def FnGradesUptoSaid : Prop := fnGradesUptoRow.holds Tryz.pinned (OpenSpec.upto fnGradesSpec)

end Rows
end Go.Proofs.YtednjmldjbndhaaGreat
