/-
  No cell of these rows narrows 'for every input' (looked for: loops, veiled, ifaces, maps, wideKeys, modest, calm, conditions, laid).
  DERIVED. THE GIVEN ROWS OF THIS SEAT. 5 by the template 'for every input the law returns true; each argument reads behind the call as it read before'; 0 by the template 'total and deterministic' (their statements: YtdlipjgdkjdgnaaTotals.lean).
  GIVEN WITH THE SEED: the statements are not yours to turn. If you find one false, say at which input.
  Laid BY PROGRAM, IN A SANDBOX (cutbox-rows.mjs): the forced cells as the released guide's own fill.sh prints them over the translation be2a34709060e03d… (all of the seat's roots in one cut). By AI agents, Wed Nov 11 2026. No macro, syntax, notation, axiom, sorry.
-/
import Derived.Test.YtdlipjgdkjdgnaaChecked
import GoSem.Claim
import GoSem.ClaimJoined
import GoSem.ClaimMapViews
import Derived.JoinedTies
import Derived.KernelRfl
namespace Go.Proofs.Ytdlipjgdkjdgnaa
/- THE CELL 'sum', in the pinned program and in every row, IS THE sha256 OF THE DUMP (.gsa) THAT YtdlipjgdkjdgnaaProg.lean LOADS. Nothing in Lean hashes anything: it is a label: what it is worth is what the hold of that sum in a sandbox is worth. -/
noncomputable def Try.pinned : Pinned := { name := "ytdlipjgdkjdgnaa", sum := "be2a34709060e03da15df01f28e21d0030e8a26130febb28bcb0e929c5c1ec37", checked := Try.checked }
namespace Rows
def none {H : Type} : Left H := { results := [], args := [] }

/-- 'laws.FnExactMissingMarks': WHATEVER THE INPUT: true; the input reads as it did. -/
def fnExactMissingMarksSpec : ChangeSpec := { name := "fnExactMissingMarks", fn := fun _ => fun
  | [d1, d2, d3, d4] => { results := [.lit (.bool true)], args := [d1, d2, d3, d4] }
  | _ => none }
def fnExactMissingMarksRow : OpenClaim := { program := "ytdlipjgdkjdgnaa", sum := "be2a34709060e03da15df01f28e21d0030e8a26130febb28bcb0e929c5c1ec37", func := "loop.example/g00951/laws.FnExactMissingMarks", spec := "fnExactMissingMarks", unfollowed := true, recurses := true, apart := false }
def FnExactMissingMarksSaid : Prop := fnExactMissingMarksRow.holds Try.pinned (OpenSpec.ofChange fnExactMissingMarksSpec)

/-- ITS FALSE NEIGHBOUR: 'it returns false'. Refute it at one input. -/
def fnExactMissingMarksWrong : ChangeSpec := { name := "fnExactMissingMarks", fn := fun _ => fun
  | [d1, d2, d3, d4] => { results := [.lit (.bool false)], args := [d1, d2, d3, d4] }
  | _ => none }
def FnExactMissingMarksWrongFalsely : Prop := fnExactMissingMarksRow.holds Try.pinned (OpenSpec.ofChange fnExactMissingMarksWrong)

/-- 'laws.FnExactDoubleMarks': WHATEVER THE INPUT: true; the input reads as it did. -/
def fnExactDoubleMarksSpec : ChangeSpec := { name := "fnExactDoubleMarks", fn := fun _ => fun
  | [d] => { results := [.lit (.bool true)], args := [d] }
  | _ => none }
def fnExactDoubleMarksRow : OpenClaim := { program := "ytdlipjgdkjdgnaa", sum := "be2a34709060e03da15df01f28e21d0030e8a26130febb28bcb0e929c5c1ec37", func := "loop.example/g00951/laws.FnExactDoubleMarks", spec := "fnExactDoubleMarks", unfollowed := true, recurses := true, apart := false }
def FnExactDoubleMarksSaid : Prop := fnExactDoubleMarksRow.holds Try.pinned (OpenSpec.ofChange fnExactDoubleMarksSpec)

/-- ITS FALSE NEIGHBOUR: 'it returns false'. Refute it at one input. -/
def fnExactDoubleMarksWrong : ChangeSpec := { name := "fnExactDoubleMarks", fn := fun _ => fun
  | [d] => { results := [.lit (.bool false)], args := [d] }
  | _ => none }
def FnExactDoubleMarksWrongFalsely : Prop := fnExactDoubleMarksRow.holds Try.pinned (OpenSpec.ofChange fnExactDoubleMarksWrong)

/-- 'laws.FnExactSortStrokes': WHATEVER THE INPUT: true; the input reads as it did. -/
def fnExactSortStrokesSpec : ChangeSpec := { name := "fnExactSortStrokes", fn := fun _ => fun
  | [d] => { results := [.lit (.bool true)], args := [d] }
  | _ => none }
def fnExactSortStrokesRow : OpenClaim := { program := "ytdlipjgdkjdgnaa", sum := "be2a34709060e03da15df01f28e21d0030e8a26130febb28bcb0e929c5c1ec37", func := "loop.example/g00951/laws.FnExactSortStrokes", spec := "fnExactSortStrokes", unfollowed := true, recurses := true, apart := false }
def FnExactSortStrokesSaid : Prop := fnExactSortStrokesRow.holds Try.pinned (OpenSpec.ofChange fnExactSortStrokesSpec)

/-- ITS FALSE NEIGHBOUR: 'it returns false'. Refute it at one input. -/
def fnExactSortStrokesWrong : ChangeSpec := { name := "fnExactSortStrokes", fn := fun _ => fun
  | [d] => { results := [.lit (.bool false)], args := [d] }
  | _ => none }
def FnExactSortStrokesWrongFalsely : Prop := fnExactSortStrokesRow.holds Try.pinned (OpenSpec.ofChange fnExactSortStrokesWrong)

/-- 'laws.FnExactIsEngraved': WHATEVER THE INPUT: true; the input reads as it did. -/
def fnExactIsEngravedSpec : ChangeSpec := { name := "fnExactIsEngraved", fn := fun _ => fun
  | [d1, d2] => { results := [.lit (.bool true)], args := [d1, d2] }
  | _ => none }
def fnExactIsEngravedRow : OpenClaim := { program := "ytdlipjgdkjdgnaa", sum := "be2a34709060e03da15df01f28e21d0030e8a26130febb28bcb0e929c5c1ec37", func := "loop.example/g00951/laws.FnExactIsEngraved", spec := "fnExactIsEngraved", unfollowed := true, recurses := true, apart := false }
def FnExactIsEngravedSaid : Prop := fnExactIsEngravedRow.holds Try.pinned (OpenSpec.ofChange fnExactIsEngravedSpec)

/-- ITS FALSE NEIGHBOUR: 'it returns false'. Refute it at one input. -/
def fnExactIsEngravedWrong : ChangeSpec := { name := "fnExactIsEngraved", fn := fun _ => fun
  | [d1, d2] => { results := [.lit (.bool false)], args := [d1, d2] }
  | _ => none }
def FnExactIsEngravedWrongFalsely : Prop := fnExactIsEngravedRow.holds Try.pinned (OpenSpec.ofChange fnExactIsEngravedWrong)

/-- 'laws.FnResumed': WHATEVER THE INPUT: true; the input reads as it did. -/
def fnResumedSpec : ChangeSpec := { name := "fnResumed", fn := fun _ => fun
  | [d] => { results := [.lit (.bool true)], args := [d] }
  | _ => none }
def fnResumedRow : OpenClaim := { program := "ytdlipjgdkjdgnaa", sum := "be2a34709060e03da15df01f28e21d0030e8a26130febb28bcb0e929c5c1ec37", func := "loop.example/g00951/laws.FnResumed", spec := "fnResumed", unfollowed := true, recurses := true, apart := false }
def FnResumedSaid : Prop := fnResumedRow.holds Try.pinned (OpenSpec.ofChange fnResumedSpec)

/-- ITS FALSE NEIGHBOUR: 'it returns false'. Refute it at one input. -/
def fnResumedWrong : ChangeSpec := { name := "fnResumed", fn := fun _ => fun
  | [d] => { results := [.lit (.bool false)], args := [d] }
  | _ => none }
def FnResumedWrongFalsely : Prop := fnResumedRow.holds Try.pinned (OpenSpec.ofChange fnResumedWrong)

/- THE SECOND FORM. 'bulk': how many values and letters a reading holds, each counted each time it is reached (what is shared counts as often as it is met; a slice's spare places count too). A statement '..UptoSaid' is the law's where the arguments, and the package variables that the reading takes, are together of bulk at most 1048576: NARROWER than '..Said'. Prove '..Said' where nothing that the law and all that it calls make is longer than what came in: it says more and counts as full. Else prove '..UptoSaid'. A law counts once. -/
mutual
def uptoBulk {H : Type} : DataW H → Nat
  | .lit (.string bytes) => bytes.length + 1
  | .lit _ => 1
  | .nil => 1
  | .ptr d => uptoBulk d + 1
  | .slice elems spare => uptoBulkAll elems + uptoBulkAll spare + 1
  | .agg parts => uptoBulkAll parts + 1
  | .iface _ d => uptoBulk d + 1
  | .map entries => uptoBulkEntries entries + 1
  | .held _ => 1
def uptoBulkAll {H : Type} : List (DataW H) → Nat
  | [] => 0
  | d :: r => uptoBulk d + uptoBulkAll r
def uptoBulkEntries {H : Type} : List (Lit × DataW H) → Nat
  | [] => 0
  | x :: r => uptoBulkEntry x + uptoBulkEntries r
def uptoBulkEntry {H : Type} : Lit × DataW H → Nat
  | (.string bytes, d) => bytes.length + uptoBulk d + 1
  | (_, d) => uptoBulk d + 1
 end
def uptoSmall : (H : Type) → List (DataW H) → Bool := fun _ ds => decide (uptoBulkAll ds ≤ 1048576)
def OpenSpec.upto (s : _root_.Go.ChangeSpec) : _root_.Go.OpenSpec := { _root_.Go.OpenSpec.ofChange s with cond := some uptoSmall }

/-- 'laws.FnExactMissingMarks', WHERE WHAT IT READS IS OF BULK AT MOST 1048576: true; the input reads as it did. -/
def fnExactMissingMarksUptoRow : OpenClaim := { program := "ytdlipjgdkjdgnaa", sum := "be2a34709060e03da15df01f28e21d0030e8a26130febb28bcb0e929c5c1ec37", func := "loop.example/g00951/laws.FnExactMissingMarks", spec := "fnExactMissingMarks", unfollowed := true, recurses := true, apart := false, narrowed := true }
def FnExactMissingMarksUptoSaid : Prop := fnExactMissingMarksUptoRow.holds Try.pinned (OpenSpec.upto fnExactMissingMarksSpec)

/-- 'laws.FnExactDoubleMarks', WHERE WHAT IT READS IS OF BULK AT MOST 1048576: true; the input reads as it did. -/
def fnExactDoubleMarksUptoRow : OpenClaim := { program := "ytdlipjgdkjdgnaa", sum := "be2a34709060e03da15df01f28e21d0030e8a26130febb28bcb0e929c5c1ec37", func := "loop.example/g00951/laws.FnExactDoubleMarks", spec := "fnExactDoubleMarks", unfollowed := true, recurses := true, apart := false, narrowed := true }
def FnExactDoubleMarksUptoSaid : Prop := fnExactDoubleMarksUptoRow.holds Try.pinned (OpenSpec.upto fnExactDoubleMarksSpec)

/-- 'laws.FnExactSortStrokes', WHERE WHAT IT READS IS OF BULK AT MOST 1048576: true; the input reads as it did. -/
def fnExactSortStrokesUptoRow : OpenClaim := { program := "ytdlipjgdkjdgnaa", sum := "be2a34709060e03da15df01f28e21d0030e8a26130febb28bcb0e929c5c1ec37", func := "loop.example/g00951/laws.FnExactSortStrokes", spec := "fnExactSortStrokes", unfollowed := true, recurses := true, apart := false, narrowed := true }
def FnExactSortStrokesUptoSaid : Prop := fnExactSortStrokesUptoRow.holds Try.pinned (OpenSpec.upto fnExactSortStrokesSpec)

/-- 'laws.FnExactIsEngraved', WHERE WHAT IT READS IS OF BULK AT MOST 1048576: true; the input reads as it did. -/
def fnExactIsEngravedUptoRow : OpenClaim := { program := "ytdlipjgdkjdgnaa", sum := "be2a34709060e03da15df01f28e21d0030e8a26130febb28bcb0e929c5c1ec37", func := "loop.example/g00951/laws.FnExactIsEngraved", spec := "fnExactIsEngraved", unfollowed := true, recurses := true, apart := false, narrowed := true }
def FnExactIsEngravedUptoSaid : Prop := fnExactIsEngravedUptoRow.holds Try.pinned (OpenSpec.upto fnExactIsEngravedSpec)

/-- 'laws.FnResumed', WHERE WHAT IT READS IS OF BULK AT MOST 1048576: true; the input reads as it did. -/
def fnResumedUptoRow : OpenClaim := { program := "ytdlipjgdkjdgnaa", sum := "be2a34709060e03da15df01f28e21d0030e8a26130febb28bcb0e929c5c1ec37", func := "loop.example/g00951/laws.FnResumed", spec := "fnResumed", unfollowed := true, recurses := true, apart := false, narrowed := true }
def FnResumedUptoSaid : Prop := fnResumedUptoRow.holds Try.pinned (OpenSpec.upto fnResumedSpec)

end Rows
end Go.Proofs.Ytdlipjgdkjdgnaa
