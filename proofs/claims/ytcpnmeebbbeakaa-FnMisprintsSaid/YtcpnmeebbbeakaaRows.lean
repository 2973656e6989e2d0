/-
  No cell of these rows narrows 'for every input' (looked for: loops, veiled, ifaces, maps, wideKeys, modest, calm, conditions, laid).
  DERIVED. THE GIVEN ROWS OF THIS SEAT. 12 by the template 'for every input the law returns true; each argument reads behind the call as it read before'; 0 by the template 'total and deterministic' (their statements: YtcpnmeebbbeakaaTotals.lean).
  GIVEN WITH THE SEED: the statements are not yours to turn. If you find one false, say at which input.
  Laid BY PROGRAM, IN A SANDBOX (cutbox-rows.mjs): the forced cells as the released guide's own fill.sh prints them over the translation e4c7ac5c106d9588… (all of the seat's roots in one cut). By AI agents, Wed Nov 11 2026. No macro, syntax, notation, axiom, sorry.
-/
import Derived.Test.YtcpnmeebbbeakaaChecked
import GoSem.Claim
import GoSem.ClaimJoined
import GoSem.ClaimMapViews
import Derived.JoinedTies
import Derived.KernelRfl
namespace Go.Proofs.Ytcpnmeebbbeakaa
/- THE CELL 'sum', in the pinned program and in every row, IS THE sha256 OF THE DUMP (.gsa) THAT YtcpnmeebbbeakaaProg.lean LOADS. Nothing in Lean hashes anything: it is a label: what it is worth is what the hold of that sum in a sandbox is worth. -/
noncomputable def Try.pinned : Pinned := { name := "ytcpnmeebbbeakaa", sum := "e4c7ac5c106d9588eab32ac4eb91742e701355fa6a5e725540befe53871e2547", checked := Try.checked }
namespace Rows
def none {H : Type} : Left H := { results := [], args := [] }

/-- 'laws.FnExactStrokesOf': WHATEVER THE INPUT: true; the input reads as it did. -/
def fnExactStrokesOfSpec : ChangeSpec := { name := "fnExactStrokesOf", fn := fun _ => fun
  | [d] => { results := [.lit (.bool true)], args := [d] }
  | _ => none }
def fnExactStrokesOfRow : OpenClaim := { program := "ytcpnmeebbbeakaa", sum := "e4c7ac5c106d9588eab32ac4eb91742e701355fa6a5e725540befe53871e2547", func := "loop.example/g00951/laws.FnExactStrokesOf", spec := "fnExactStrokesOf", unfollowed := true, recurses := true, apart := false }
def FnExactStrokesOfSaid : Prop := fnExactStrokesOfRow.holds Try.pinned (OpenSpec.ofChange fnExactStrokesOfSpec)

/-- ITS FALSE NEIGHBOUR: 'it returns false'. Refute it at one input. -/
def fnExactStrokesOfWrong : ChangeSpec := { name := "fnExactStrokesOf", fn := fun _ => fun
  | [d] => { results := [.lit (.bool false)], args := [d] }
  | _ => none }
def FnExactStrokesOfWrongFalsely : Prop := fnExactStrokesOfRow.holds Try.pinned (OpenSpec.ofChange fnExactStrokesOfWrong)

/-- 'laws.FnExactTurnDivide': WHATEVER THE INPUT: true; the input reads as it did. -/
def fnExactTurnDivideSpec : ChangeSpec := { name := "fnExactTurnDivide", fn := fun _ => fun
  | [d1, d2, d3] => { results := [.lit (.bool true)], args := [d1, d2, d3] }
  | _ => none }
def fnExactTurnDivideRow : OpenClaim := { program := "ytcpnmeebbbeakaa", sum := "e4c7ac5c106d9588eab32ac4eb91742e701355fa6a5e725540befe53871e2547", func := "loop.example/g00951/laws.FnExactTurnDivide", spec := "fnExactTurnDivide", unfollowed := true, recurses := true, apart := false }
def FnExactTurnDivideSaid : Prop := fnExactTurnDivideRow.holds Try.pinned (OpenSpec.ofChange fnExactTurnDivideSpec)

/-- ITS FALSE NEIGHBOUR: 'it returns false'. Refute it at one input. -/
def fnExactTurnDivideWrong : ChangeSpec := { name := "fnExactTurnDivide", fn := fun _ => fun
  | [d1, d2, d3] => { results := [.lit (.bool false)], args := [d1, d2, d3] }
  | _ => none }
def FnExactTurnDivideWrongFalsely : Prop := fnExactTurnDivideRow.holds Try.pinned (OpenSpec.ofChange fnExactTurnDivideWrong)

/-- 'laws.FnExactTurnMultiply': WHATEVER THE INPUT: true; the input reads as it did. -/
def fnExactTurnMultiplySpec : ChangeSpec := { name := "fnExactTurnMultiply", fn := fun _ => fun
  | [d1, d2, d3] => { results := [.lit (.bool true)], args := [d1, d2, d3] }
  | _ => none }
def fnExactTurnMultiplyRow : OpenClaim := { program := "ytcpnmeebbbeakaa", sum := "e4c7ac5c106d9588eab32ac4eb91742e701355fa6a5e725540befe53871e2547", func := "loop.example/g00951/laws.FnExactTurnMultiply", spec := "fnExactTurnMultiply", unfollowed := true, recurses := true, apart := false }
def FnExactTurnMultiplySaid : Prop := fnExactTurnMultiplyRow.holds Try.pinned (OpenSpec.ofChange fnExactTurnMultiplySpec)

/-- ITS FALSE NEIGHBOUR: 'it returns false'. Refute it at one input. -/
def fnExactTurnMultiplyWrong : ChangeSpec := { name := "fnExactTurnMultiply", fn := fun _ => fun
  | [d1, d2, d3] => { results := [.lit (.bool false)], args := [d1, d2, d3] }
  | _ => none }
def FnExactTurnMultiplyWrongFalsely : Prop := fnExactTurnMultiplyRow.holds Try.pinned (OpenSpec.ofChange fnExactTurnMultiplyWrong)

/-- 'laws.FnExactPlaceDifference': WHATEVER THE INPUT: true; the input reads as it did. -/
def fnExactPlaceDifferenceSpec : ChangeSpec := { name := "fnExactPlaceDifference", fn := fun _ => fun
  | [d1, d2, d3] => { results := [.lit (.bool true)], args := [d1, d2, d3] }
  | _ => none }
def fnExactPlaceDifferenceRow : OpenClaim := { program := "ytcpnmeebbbeakaa", sum := "e4c7ac5c106d9588eab32ac4eb91742e701355fa6a5e725540befe53871e2547", func := "loop.example/g00951/laws.FnExactPlaceDifference", spec := "fnExactPlaceDifference", unfollowed := true, recurses := true, apart := false }
def FnExactPlaceDifferenceSaid : Prop := fnExactPlaceDifferenceRow.holds Try.pinned (OpenSpec.ofChange fnExactPlaceDifferenceSpec)

/-- ITS FALSE NEIGHBOUR: 'it returns false'. Refute it at one input. -/
def fnExactPlaceDifferenceWrong : ChangeSpec := { name := "fnExactPlaceDifference", fn := fun _ => fun
  | [d1, d2, d3] => { results := [.lit (.bool false)], args := [d1, d2, d3] }
  | _ => none }
def FnExactPlaceDifferenceWrongFalsely : Prop := fnExactPlaceDifferenceRow.holds Try.pinned (OpenSpec.ofChange fnExactPlaceDifferenceWrong)

/-- 'laws.FnExactIsMisprint': WHATEVER THE INPUT: true; the input reads as it did. -/
def fnExactIsMisprintSpec : ChangeSpec := { name := "fnExactIsMisprint", fn := fun _ => fun
  | [d1, d2, d3, d4] => { results := [.lit (.bool true)], args := [d1, d2, d3, d4] }
  | _ => none }
def fnExactIsMisprintRow : OpenClaim := { program := "ytcpnmeebbbeakaa", sum := "e4c7ac5c106d9588eab32ac4eb91742e701355fa6a5e725540befe53871e2547", func := "loop.example/g00951/laws.FnExactIsMisprint", spec := "fnExactIsMisprint", unfollowed := true, recurses := true, apart := false }
def FnExactIsMisprintSaid : Prop := fnExactIsMisprintRow.holds Try.pinned (OpenSpec.ofChange fnExactIsMisprintSpec)

/-- ITS FALSE NEIGHBOUR: 'it returns false'. Refute it at one input. -/
def fnExactIsMisprintWrong : ChangeSpec := { name := "fnExactIsMisprint", fn := fun _ => fun
  | [d1, d2, d3, d4] => { results := [.lit (.bool false)], args := [d1, d2, d3, d4] }
  | _ => none }
def FnExactIsMisprintWrongFalsely : Prop := fnExactIsMisprintRow.holds Try.pinned (OpenSpec.ofChange fnExactIsMisprintWrong)

/-- 'laws.FnExactMissingMarks': WHATEVER THE INPUT: true; the input reads as it did. -/
def fnExactMissingMarksSpec : ChangeSpec := { name := "fnExactMissingMarks", fn := fun _ => fun
  | [d1, d2, d3, d4] => { results := [.lit (.bool true)], args := [d1, d2, d3, d4] }
  | _ => none }
def fnExactMissingMarksRow : OpenClaim := { program := "ytcpnmeebbbeakaa", sum := "e4c7ac5c106d9588eab32ac4eb91742e701355fa6a5e725540befe53871e2547", func := "loop.example/g00951/laws.FnExactMissingMarks", spec := "fnExactMissingMarks", unfollowed := true, recurses := true, apart := false }
def FnExactMissingMarksSaid : Prop := fnExactMissingMarksRow.holds Try.pinned (OpenSpec.ofChange fnExactMissingMarksSpec)

/-- ITS FALSE NEIGHBOUR: 'it returns false'. Refute it at one input. -/
def fnExactMissingMarksWrong : ChangeSpec := { name := "fnExactMissingMarks", fn := fun _ => fun
  | [d1, d2, d3, d4] => { results := [.lit (.bool false)], args := [d1, d2, d3, d4] }
  | _ => none }
def FnExactMissingMarksWrongFalsely : Prop := fnExactMissingMarksRow.holds Try.pinned (OpenSpec.ofChange fnExactMissingMarksWrong)

/-- 'laws.FnExactMeantMarks': WHATEVER THE INPUT: true; the input reads as it did. -/
def fnExactMeantMarksSpec : ChangeSpec := { name := "fnExactMeantMarks", fn := fun _ => fun
  | [d1, d2, d3, d4, d5] => { results := [.lit (.bool true)], args := [d1, d2, d3, d4, d5] }
  | _ => none }
def fnExactMeantMarksRow : OpenClaim := { program := "ytcpnmeebbbeakaa", sum := "e4c7ac5c106d9588eab32ac4eb91742e701355fa6a5e725540befe53871e2547", func := "loop.example/g00951/laws.FnExactMeantMarks", spec := "fnExactMeantMarks", unfollowed := true, recurses := true, apart := false }
def FnExactMeantMarksSaid : Prop := fnExactMeantMarksRow.holds Try.pinned (OpenSpec.ofChange fnExactMeantMarksSpec)

/-- ITS FALSE NEIGHBOUR: 'it returns false'. Refute it at one input. -/
def fnExactMeantMarksWrong : ChangeSpec := { name := "fnExactMeantMarks", fn := fun _ => fun
  | [d1, d2, d3, d4, d5] => { results := [.lit (.bool false)], args := [d1, d2, d3, d4, d5] }
  | _ => none }
def FnExactMeantMarksWrongFalsely : Prop := fnExactMeantMarksRow.holds Try.pinned (OpenSpec.ofChange fnExactMeantMarksWrong)

/-- 'laws.FnCircles': WHATEVER THE INPUT: true; the input reads as it did. -/
def fnCirclesSpec : ChangeSpec := { name := "fnCircles", fn := fun _ => fun
  | [d] => { results := [.lit (.bool true)], args := [d] }
  | _ => none }
def fnCirclesRow : OpenClaim := { program := "ytcpnmeebbbeakaa", sum := "e4c7ac5c106d9588eab32ac4eb91742e701355fa6a5e725540befe53871e2547", func := "loop.example/g00951/laws.FnCircles", spec := "fnCircles", unfollowed := true, recurses := true, apart := false }
def FnCirclesSaid : Prop := fnCirclesRow.holds Try.pinned (OpenSpec.ofChange fnCirclesSpec)

/-- ITS FALSE NEIGHBOUR: 'it returns false'. Refute it at one input. -/
def fnCirclesWrong : ChangeSpec := { name := "fnCircles", fn := fun _ => fun
  | [d] => { results := [.lit (.bool false)], args := [d] }
  | _ => none }
def FnCirclesWrongFalsely : Prop := fnCirclesRow.holds Try.pinned (OpenSpec.ofChange fnCirclesWrong)

/-- 'laws.FnStrips': WHATEVER THE INPUT: true; the input reads as it did. -/
def fnStripsSpec : ChangeSpec := { name := "fnStrips", fn := fun _ => fun
  | [d] => { results := [.lit (.bool true)], args := [d] }
  | _ => none }
def fnStripsRow : OpenClaim := { program := "ytcpnmeebbbeakaa", sum := "e4c7ac5c106d9588eab32ac4eb91742e701355fa6a5e725540befe53871e2547", func := "loop.example/g00951/laws.FnStrips", spec := "fnStrips", unfollowed := true, recurses := true, apart := false }
def FnStripsSaid : Prop := fnStripsRow.holds Try.pinned (OpenSpec.ofChange fnStripsSpec)

/-- ITS FALSE NEIGHBOUR: 'it returns false'. Refute it at one input. -/
def fnStripsWrong : ChangeSpec := { name := "fnStrips", fn := fun _ => fun
  | [d] => { results := [.lit (.bool false)], args := [d] }
  | _ => none }
def FnStripsWrongFalsely : Prop := fnStripsRow.holds Try.pinned (OpenSpec.ofChange fnStripsWrong)

/-- 'laws.FnExactFindMisprints': WHATEVER THE INPUT: true; the input reads as it did. -/
def fnExactFindMisprintsSpec : ChangeSpec := { name := "fnExactFindMisprints", fn := fun _ => fun
  | [d1, d2, d3, d4] => { results := [.lit (.bool true)], args := [d1, d2, d3, d4] }
  | _ => none }
def fnExactFindMisprintsRow : OpenClaim := { program := "ytcpnmeebbbeakaa", sum := "e4c7ac5c106d9588eab32ac4eb91742e701355fa6a5e725540befe53871e2547", func := "loop.example/g00951/laws.FnExactFindMisprints", spec := "fnExactFindMisprints", unfollowed := true, recurses := true, apart := false }
def FnExactFindMisprintsSaid : Prop := fnExactFindMisprintsRow.holds Try.pinned (OpenSpec.ofChange fnExactFindMisprintsSpec)

/-- ITS FALSE NEIGHBOUR: 'it returns false'. Refute it at one input. -/
def fnExactFindMisprintsWrong : ChangeSpec := { name := "fnExactFindMisprints", fn := fun _ => fun
  | [d1, d2, d3, d4] => { results := [.lit (.bool false)], args := [d1, d2, d3, d4] }
  | _ => none }
def FnExactFindMisprintsWrongFalsely : Prop := fnExactFindMisprintsRow.holds Try.pinned (OpenSpec.ofChange fnExactFindMisprintsWrong)

/-- 'laws.FnExactRepairRow': WHATEVER THE INPUT: true; the input reads as it did. -/
def fnExactRepairRowSpec : ChangeSpec := { name := "fnExactRepairRow", fn := fun _ => fun
  | [d1, d2, d3, d4, d5] => { results := [.lit (.bool true)], args := [d1, d2, d3, d4, d5] }
  | _ => none }
def fnExactRepairRowRow : OpenClaim := { program := "ytcpnmeebbbeakaa", sum := "e4c7ac5c106d9588eab32ac4eb91742e701355fa6a5e725540befe53871e2547", func := "loop.example/g00951/laws.FnExactRepairRow", spec := "fnExactRepairRow", unfollowed := true, recurses := true, apart := false }
def FnExactRepairRowSaid : Prop := fnExactRepairRowRow.holds Try.pinned (OpenSpec.ofChange fnExactRepairRowSpec)

/-- ITS FALSE NEIGHBOUR: 'it returns false'. Refute it at one input. -/
def fnExactRepairRowWrong : ChangeSpec := { name := "fnExactRepairRow", fn := fun _ => fun
  | [d1, d2, d3, d4, d5] => { results := [.lit (.bool false)], args := [d1, d2, d3, d4, d5] }
  | _ => none }
def FnExactRepairRowWrongFalsely : Prop := fnExactRepairRowRow.holds Try.pinned (OpenSpec.ofChange fnExactRepairRowWrong)

/-- 'laws.FnMisprints': WHATEVER THE INPUT: true; the input reads as it did. -/
def fnMisprintsSpec : ChangeSpec := { name := "fnMisprints", fn := fun _ => fun
  | [d] => { results := [.lit (.bool true)], args := [d] }
  | _ => none }
def fnMisprintsRow : OpenClaim := { program := "ytcpnmeebbbeakaa", sum := "e4c7ac5c106d9588eab32ac4eb91742e701355fa6a5e725540befe53871e2547", func := "loop.example/g00951/laws.FnMisprints", spec := "fnMisprints", unfollowed := true, recurses := true, apart := false }
def FnMisprintsSaid : Prop := fnMisprintsRow.holds Try.pinned (OpenSpec.ofChange fnMisprintsSpec)

/-- ITS FALSE NEIGHBOUR: 'it returns false'. Refute it at one input. -/
def fnMisprintsWrong : ChangeSpec := { name := "fnMisprints", fn := fun _ => fun
  | [d] => { results := [.lit (.bool false)], args := [d] }
  | _ => none }
def FnMisprintsWrongFalsely : Prop := fnMisprintsRow.holds Try.pinned (OpenSpec.ofChange fnMisprintsWrong)

/- THE SECOND FORM. 'bulk': how many values and letters a reading holds, each counted each time it is reached (what is shared counts as often as it is met; a slice's spare places count too). A statement '..UptoSaid' is the law's where the arguments, and the package variables that the reading takes, are together of bulk at most 1048576: NARROWER than '..Said'. Prove '..Said' where nothing that the law and all that it calls make is longer than what came in: it says more and counts as full. Else prove '..UptoSaid'. A law counts once. -/
mutual
def uptoBulk {H : Type} : DataW H → Nat
  | .lit (.string bytes) => bytes.length + 1
  | .lit _ => 1
  | .nil => 1
  | .ptr d => uptoBulk d + 1
  | .slice elems spare => uptoBulkAll elems + uptoBulkAll spare + 1
  | .agg parts => uptoBulkAll parts + 1
  | .iface _ d => uptoBulk d + 1
  | .map entries => uptoBulkEntries entries + 1
  | .held _ => 1
def uptoBulkAll {H : Type} : List (DataW H) → Nat
  | [] => 0
  | d :: r => uptoBulk d + uptoBulkAll r
def uptoBulkEntries {H : Type} : List (Lit × DataW H) → Nat
  | [] => 0
  | x :: r => uptoBulkEntry x + uptoBulkEntries r
def uptoBulkEntry {H : Type} : Lit × DataW H → Nat
  | (.string bytes, d) => bytes.length + uptoBulk d + 1
  | (_, d) => uptoBulk d + 1
 end
def uptoSmall : (H : Type) → List (DataW H) → Bool := fun _ ds => decide (uptoBulkAll ds ≤ 1048576)
def OpenSpec.upto (s : _root_.Go.ChangeSpec) : _root_.Go.OpenSpec := { _root_.Go.OpenSpec.ofChange s with cond := some uptoSmall }

/-- 'laws.FnExactStrokesOf', WHERE WHAT IT READS IS OF BULK AT MOST 1048576: true; the input reads as it did. -/
def fnExactStrokesOfUptoRow : OpenClaim := { program := "ytcpnmeebbbeakaa", sum := "e4c7ac5c106d9588eab32ac4eb91742e701355fa6a5e725540befe53871e2547", func := "loop.example/g00951/laws.FnExactStrokesOf", spec := "fnExactStrokesOf", unfollowed := true, recurses := true, apart := false, narrowed := true }
def FnExactStrokesOfUptoSaid : Prop := fnExactStrokesOfUptoRow.holds Try.pinned (OpenSpec.upto fnExactStrokesOfSpec)

/-- 'laws.FnExactTurnDivide', WHERE WHAT IT READS IS OF BULK AT MOST 1048576: true; the input reads as it did. -/
def fnExactTurnDivideUptoRow : OpenClaim := { program := "ytcpnmeebbbeakaa", sum := "e4c7ac5c106d9588eab32ac4eb91742e701355fa6a5e725540befe53871e2547", func := "loop.example/g00951/laws.FnExactTurnDivide", spec := "fnExactTurnDivide", unfollowed := true, recurses := true, apart := false, narrowed := true }
def FnExactTurnDivideUptoSaid : Prop := fnExactTurnDivideUptoRow.holds Try.pinned (OpenSpec.upto fnExactTurnDivideSpec)

/-- 'laws.FnExactTurnMultiply', WHERE WHAT IT READS IS OF BULK AT MOST 1048576: true; the input reads as it did. -/
def fnExactTurnMultiplyUptoRow : OpenClaim := { program := "ytcpnmeebbbeakaa", sum := "e4c7ac5c106d9588eab32ac4eb91742e701355fa6a5e725540befe53871e2547", func := "loop.example/g00951/laws.FnExactTurnMultiply", spec := "fnExactTurnMultiply", unfollowed := true, recurses := true, apart := false, narrowed := true }
def FnExactTurnMultiplyUptoSaid : Prop := fnExactTurnMultiplyUptoRow.holds Try.pinned (OpenSpec.upto fnExactTurnMultiplySpec)

/-- 'laws.FnExactPlaceDifference', WHERE WHAT IT READS IS OF BULK AT MOST 1048576: true; the input reads as it did. -/
def fnExactPlaceDifferenceUptoRow : OpenClaim := { program := "ytcpnmeebbbeakaa", sum := "e4c7ac5c106d9588eab32ac4eb91742e701355fa6a5e725540befe53871e2547", func := "loop.example/g00951/laws.FnExactPlaceDifference", spec := "fnExactPlaceDifference", unfollowed := true, recurses := true, apart := false, narrowed := true }
def FnExactPlaceDifferenceUptoSaid : Prop := fnExactPlaceDifferenceUptoRow.holds Try.pinned (OpenSpec.upto fnExactPlaceDifferenceSpec)

/-- 'laws.FnExactIsMisprint', WHERE WHAT IT READS IS OF BULK AT MOST 1048576: true; the input reads as it did. -/
def fnExactIsMisprintUptoRow : OpenClaim := { program := "ytcpnmeebbbeakaa", sum := "e4c7ac5c106d9588eab32ac4eb91742e701355fa6a5e725540befe53871e2547", func := "loop.example/g00951/laws.FnExactIsMisprint", spec := "fnExactIsMisprint", unfollowed := true, recurses := true, apart := false, narrowed := true }
def FnExactIsMisprintUptoSaid : Prop := fnExactIsMisprintUptoRow.holds Try.pinned (OpenSpec.upto fnExactIsMisprintSpec)

/-- 'laws.FnExactMissingMarks', WHERE WHAT IT READS IS OF BULK AT MOST 1048576: true; the input reads as it did. -/
def fnExactMissingMarksUptoRow : OpenClaim := { program := "ytcpnmeebbbeakaa", sum := "e4c7ac5c106d9588eab32ac4eb91742e701355fa6a5e725540befe53871e2547", func := "loop.example/g00951/laws.FnExactMissingMarks", spec := "fnExactMissingMarks", unfollowed := true, recurses := true, apart := false, narrowed := true }
def FnExactMissingMarksUptoSaid : Prop := fnExactMissingMarksUptoRow.holds Try.pinned (OpenSpec.upto fnExactMissingMarksSpec)

/-- 'laws.FnExactMeantMarks', WHERE WHAT IT READS IS OF BULK AT MOST 1048576: true; the input reads as it did. -/
def fnExactMeantMarksUptoRow : OpenClaim := { program := "ytcpnmeebbbeakaa", sum := "e4c7ac5c106d9588eab32ac4eb91742e701355fa6a5e725540befe53871e2547", func := "loop.example/g00951/laws.FnExactMeantMarks", spec := "fnExactMeantMarks", unfollowed := true, recurses := true, apart := false, narrowed := true }
def FnExactMeantMarksUptoSaid : Prop := fnExactMeantMarksUptoRow.holds Try.pinned (OpenSpec.upto fnExactMeantMarksSpec)

/-- 'laws.FnCircles', WHERE WHAT IT READS IS OF BULK AT MOST 1048576: true; the input reads as it did. -/
def fnCirclesUptoRow : OpenClaim := { program := "ytcpnmeebbbeakaa", sum := "e4c7ac5c106d9588eab32ac4eb91742e701355fa6a5e725540befe53871e2547", func := "loop.example/g00951/laws.FnCircles", spec := "fnCircles", unfollowed := true, recurses := true, apart := false, narrowed := true }
def FnCirclesUptoSaid : Prop := fnCirclesUptoRow.holds Try.pinned (OpenSpec.upto fnCirclesSpec)

/-- 'laws.FnStrips', WHERE WHAT IT READS IS OF BULK AT MOST 1048576: true; the input reads as it did. -/
def fnStripsUptoRow : OpenClaim := { program := "ytcpnmeebbbeakaa", sum := "e4c7ac5c106d9588eab32ac4eb91742e701355fa6a5e725540befe53871e2547", func := "loop.example/g00951/laws.FnStrips", spec := "fnStrips", unfollowed := true, recurses := true, apart := false, narrowed := true }
def FnStripsUptoSaid : Prop := fnStripsUptoRow.holds Try.pinned (OpenSpec.upto fnStripsSpec)

/-- 'laws.FnExactFindMisprints', WHERE WHAT IT READS IS OF BULK AT MOST 1048576: true; the input reads as it did. -/
def fnExactFindMisprintsUptoRow : OpenClaim := { program := "ytcpnmeebbbeakaa", sum := "e4c7ac5c106d9588eab32ac4eb91742e701355fa6a5e725540befe53871e2547", func := "loop.example/g00951/laws.FnExactFindMisprints", spec := "fnExactFindMisprints", unfollowed := true, recurses := true, apart := false, narrowed := true }
def FnExactFindMisprintsUptoSaid : Prop := fnExactFindMisprintsUptoRow.holds Try.pinned (OpenSpec.upto fnExactFindMisprintsSpec)

/-- 'laws.FnExactRepairRow', WHERE WHAT IT READS IS OF BULK AT MOST 1048576: true; the input reads as it did. -/
def fnExactRepairRowUptoRow : OpenClaim := { program := "ytcpnmeebbbeakaa", sum := "e4c7ac5c106d9588eab32ac4eb91742e701355fa6a5e725540befe53871e2547", func := "loop.example/g00951/laws.FnExactRepairRow", spec := "fnExactRepairRow", unfollowed := true, recurses := true, apart := false, narrowed := true }
def FnExactRepairRowUptoSaid : Prop := fnExactRepairRowUptoRow.holds Try.pinned (OpenSpec.upto fnExactRepairRowSpec)

/-- 'laws.FnMisprints', WHERE WHAT IT READS IS OF BULK AT MOST 1048576: true; the input reads as it did. -/
def fnMisprintsUptoRow : OpenClaim := { program := "ytcpnmeebbbeakaa", sum := "e4c7ac5c106d9588eab32ac4eb91742e701355fa6a5e725540befe53871e2547", func := "loop.example/g00951/laws.FnMisprints", spec := "fnMisprints", unfollowed := true, recurses := true, apart := false, narrowed := true }
def FnMisprintsUptoSaid : Prop := fnMisprintsUptoRow.holds Try.pinned (OpenSpec.upto fnMisprintsSpec)

end Rows
end Go.Proofs.Ytcpnmeebbbeakaa
