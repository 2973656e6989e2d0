/-
  No cell of these rows narrows 'for every input' (looked for: loops, veiled, ifaces, maps, wideKeys, modest, calm, conditions, laid).
  DERIVED. THE GIVEN ROWS OF THIS SEAT. 12 by the template 'for every input the law returns true; each argument reads behind the call as it read before'; 0 by the template 'total and deterministic' (their statements: YtpibncahhajlbaaTotals.lean).
  GIVEN WITH THE SEED: the statements are not yours to turn. If you find one false, say at which input.
  Laid BY PROGRAM, IN A SANDBOX (cutbox-rows.mjs): the forced cells as the released guide's own fill.sh prints them over the translation fe1a841fadde62a4… (all of the seat's roots in one cut). By AI agents, Wed Nov 11 2026. No macro, syntax, notation, axiom, sorry.
-/
import Derived.Test.YtpibncahhajlbaaChecked
import GoSem.Claim
import GoSem.ClaimJoined
import GoSem.ClaimMapViews
import Derived.JoinedTies
import Derived.KernelRfl
namespace Go.Proofs.Ytpibncahhajlbaa
/- THE CELL 'sum', in the pinned program and in every row, IS THE sha256 OF THE DUMP (.gsa) THAT YtpibncahhajlbaaProg.lean LOADS. Nothing in Lean hashes anything: it is a label: what it is worth is what the hold of that sum in a sandbox is worth. -/
noncomputable def Try.pinned : Pinned := { name := "ytpibncahhajlbaa", sum := "fe1a841fadde62a485c24a0c72ff46f2d7e6d78d0845da0f2f8bdce38815eeb5", checked := Try.checked }
namespace Rows
def none {H : Type} : Left H := { results := [], args := [] }

/-- 'laws.FnExactSeenAngle': WHATEVER THE INPUT: true; the input reads as it did. -/
def fnExactSeenAngleSpec : ChangeSpec := { name := "fnExactSeenAngle", fn := fun _ => fun
  | [d1, d2] => { results := [.lit (.bool true)], args := [d1, d2] }
  | _ => none }
def fnExactSeenAngleRow : OpenClaim := { program := "ytpibncahhajlbaa", sum := "fe1a841fadde62a485c24a0c72ff46f2d7e6d78d0845da0f2f8bdce38815eeb5", func := "loop.example/g00951/laws.FnExactSeenAngle", spec := "fnExactSeenAngle", apart := false }
def FnExactSeenAngleSaid : Prop := fnExactSeenAngleRow.holds Try.pinned (OpenSpec.ofChange fnExactSeenAngleSpec)

/-- ITS FALSE NEIGHBOUR: 'it returns false'. Refute it at one input. -/
def fnExactSeenAngleWrong : ChangeSpec := { name := "fnExactSeenAngle", fn := fun _ => fun
  | [d1, d2] => { results := [.lit (.bool false)], args := [d1, d2] }
  | _ => none }
def FnExactSeenAngleWrongFalsely : Prop := fnExactSeenAngleRow.holds Try.pinned (OpenSpec.ofChange fnExactSeenAngleWrong)

/-- 'laws.FnExactTurnOf': WHATEVER THE INPUT: true; the input reads as it did. -/
def fnExactTurnOfSpec : ChangeSpec := { name := "fnExactTurnOf", fn := fun _ => fun
  | [d] => { results := [.lit (.bool true)], args := [d] }
  | _ => none }
def fnExactTurnOfRow : OpenClaim := { program := "ytpibncahhajlbaa", sum := "fe1a841fadde62a485c24a0c72ff46f2d7e6d78d0845da0f2f8bdce38815eeb5", func := "loop.example/g00951/laws.FnExactTurnOf", spec := "fnExactTurnOf", apart := false }
def FnExactTurnOfSaid : Prop := fnExactTurnOfRow.holds Try.pinned (OpenSpec.ofChange fnExactTurnOfSpec)

/-- ITS FALSE NEIGHBOUR: 'it returns false'. Refute it at one input. -/
def fnExactTurnOfWrong : ChangeSpec := { name := "fnExactTurnOf", fn := fun _ => fun
  | [d] => { results := [.lit (.bool false)], args := [d] }
  | _ => none }
def FnExactTurnOfWrongFalsely : Prop := fnExactTurnOfRow.holds Try.pinned (OpenSpec.ofChange fnExactTurnOfWrong)

/-- 'laws.FnExactIsProgram': WHATEVER THE INPUT: true; the input reads as it did. -/
def fnExactIsProgramSpec : ChangeSpec := { name := "fnExactIsProgram", fn := fun _ => fun
  | [d] => { results := [.lit (.bool true)], args := [d] }
  | _ => none }
def fnExactIsProgramRow : OpenClaim := { program := "ytpibncahhajlbaa", sum := "fe1a841fadde62a485c24a0c72ff46f2d7e6d78d0845da0f2f8bdce38815eeb5", func := "loop.example/g00951/laws.FnExactIsProgram", spec := "fnExactIsProgram", unfollowed := true, recurses := true, apart := false }
def FnExactIsProgramSaid : Prop := fnExactIsProgramRow.holds Try.pinned (OpenSpec.ofChange fnExactIsProgramSpec)

/-- ITS FALSE NEIGHBOUR: 'it returns false'. Refute it at one input. -/
def fnExactIsProgramWrong : ChangeSpec := { name := "fnExactIsProgram", fn := fun _ => fun
  | [d] => { results := [.lit (.bool false)], args := [d] }
  | _ => none }
def FnExactIsProgramWrongFalsely : Prop := fnExactIsProgramRow.holds Try.pinned (OpenSpec.ofChange fnExactIsProgramWrong)

/-- 'laws.FnExactWearOf': WHATEVER THE INPUT: true; the input reads as it did. -/
def fnExactWearOfSpec : ChangeSpec := { name := "fnExactWearOf", fn := fun _ => fun
  | [d] => { results := [.lit (.bool true)], args := [d] }
  | _ => none }
def fnExactWearOfRow : OpenClaim := { program := "ytpibncahhajlbaa", sum := "fe1a841fadde62a485c24a0c72ff46f2d7e6d78d0845da0f2f8bdce38815eeb5", func := "loop.example/g00951/laws.FnExactWearOf", spec := "fnExactWearOf", unfollowed := true, recurses := true, apart := false }
def FnExactWearOfSaid : Prop := fnExactWearOfRow.holds Try.pinned (OpenSpec.ofChange fnExactWearOfSpec)

/-- ITS FALSE NEIGHBOUR: 'it returns false'. Refute it at one input. -/
def fnExactWearOfWrong : ChangeSpec := { name := "fnExactWearOf", fn := fun _ => fun
  | [d] => { results := [.lit (.bool false)], args := [d] }
  | _ => none }
def FnExactWearOfWrongFalsely : Prop := fnExactWearOfRow.holds Try.pinned (OpenSpec.ofChange fnExactWearOfWrong)

/-- 'laws.FnExactAngleOf': WHATEVER THE INPUT: true; the input reads as it did. -/
def fnExactAngleOfSpec : ChangeSpec := { name := "fnExactAngleOf", fn := fun _ => fun
  | [d1, d2] => { results := [.lit (.bool true)], args := [d1, d2] }
  | _ => none }
def fnExactAngleOfRow : OpenClaim := { program := "ytpibncahhajlbaa", sum := "fe1a841fadde62a485c24a0c72ff46f2d7e6d78d0845da0f2f8bdce38815eeb5", func := "loop.example/g00951/laws.FnExactAngleOf", spec := "fnExactAngleOf", apart := false }
def FnExactAngleOfSaid : Prop := fnExactAngleOfRow.holds Try.pinned (OpenSpec.ofChange fnExactAngleOfSpec)

/-- ITS FALSE NEIGHBOUR: 'it returns false'. Refute it at one input. -/
def fnExactAngleOfWrong : ChangeSpec := { name := "fnExactAngleOf", fn := fun _ => fun
  | [d1, d2] => { results := [.lit (.bool false)], args := [d1, d2] }
  | _ => none }
def FnExactAngleOfWrongFalsely : Prop := fnExactAngleOfRow.holds Try.pinned (OpenSpec.ofChange fnExactAngleOfWrong)

/-- 'laws.FnExactTimeOf': WHATEVER THE INPUT: true; the input reads as it did. -/
def fnExactTimeOfSpec : ChangeSpec := { name := "fnExactTimeOf", fn := fun _ => fun
  | [d] => { results := [.lit (.bool true)], args := [d] }
  | _ => none }
def fnExactTimeOfRow : OpenClaim := { program := "ytpibncahhajlbaa", sum := "fe1a841fadde62a485c24a0c72ff46f2d7e6d78d0845da0f2f8bdce38815eeb5", func := "loop.example/g00951/laws.FnExactTimeOf", spec := "fnExactTimeOf", unfollowed := true, recurses := true, apart := false }
def FnExactTimeOfSaid : Prop := fnExactTimeOfRow.holds Try.pinned (OpenSpec.ofChange fnExactTimeOfSpec)

/-- ITS FALSE NEIGHBOUR: 'it returns false'. Refute it at one input. -/
def fnExactTimeOfWrong : ChangeSpec := { name := "fnExactTimeOf", fn := fun _ => fun
  | [d] => { results := [.lit (.bool false)], args := [d] }
  | _ => none }
def FnExactTimeOfWrongFalsely : Prop := fnExactTimeOfRow.holds Try.pinned (OpenSpec.ofChange fnExactTimeOfWrong)

/-- 'laws.FnExactIsOrdered': WHATEVER THE INPUT: true; the input reads as it did. -/
def fnExactIsOrderedSpec : ChangeSpec := { name := "fnExactIsOrdered", fn := fun _ => fun
  | [d1, d2] => { results := [.lit (.bool true)], args := [d1, d2] }
  | _ => none }
def fnExactIsOrderedRow : OpenClaim := { program := "ytpibncahhajlbaa", sum := "fe1a841fadde62a485c24a0c72ff46f2d7e6d78d0845da0f2f8bdce38815eeb5", func := "loop.example/g00951/laws.FnExactIsOrdered", spec := "fnExactIsOrdered", unfollowed := true, recurses := true, apart := false }
def FnExactIsOrderedSaid : Prop := fnExactIsOrderedRow.holds Try.pinned (OpenSpec.ofChange fnExactIsOrderedSpec)

/-- ITS FALSE NEIGHBOUR: 'it returns false'. Refute it at one input. -/
def fnExactIsOrderedWrong : ChangeSpec := { name := "fnExactIsOrdered", fn := fun _ => fun
  | [d1, d2] => { results := [.lit (.bool false)], args := [d1, d2] }
  | _ => none }
def FnExactIsOrderedWrongFalsely : Prop := fnExactIsOrderedRow.holds Try.pinned (OpenSpec.ofChange fnExactIsOrderedWrong)

/-- 'laws.FnExactStripPlace': WHATEVER THE INPUT: true; the input reads as it did. -/
def fnExactStripPlaceSpec : ChangeSpec := { name := "fnExactStripPlace", fn := fun _ => fun
  | [d1, d2, d3] => { results := [.lit (.bool true)], args := [d1, d2, d3] }
  | _ => none }
def fnExactStripPlaceRow : OpenClaim := { program := "ytpibncahhajlbaa", sum := "fe1a841fadde62a485c24a0c72ff46f2d7e6d78d0845da0f2f8bdce38815eeb5", func := "loop.example/g00951/laws.FnExactStripPlace", spec := "fnExactStripPlace", apart := false }
def FnExactStripPlaceSaid : Prop := fnExactStripPlaceRow.holds Try.pinned (OpenSpec.ofChange fnExactStripPlaceSpec)

/-- ITS FALSE NEIGHBOUR: 'it returns false'. Refute it at one input. -/
def fnExactStripPlaceWrong : ChangeSpec := { name := "fnExactStripPlace", fn := fun _ => fun
  | [d1, d2, d3] => { results := [.lit (.bool false)], args := [d1, d2, d3] }
  | _ => none }
def FnExactStripPlaceWrongFalsely : Prop := fnExactStripPlaceRow.holds Try.pinned (OpenSpec.ofChange fnExactStripPlaceWrong)

/-- 'laws.FnExactRestOf': WHATEVER THE INPUT: true; the input reads as it did. -/
def fnExactRestOfSpec : ChangeSpec := { name := "fnExactRestOf", fn := fun _ => fun
  | [d1, d2] => { results := [.lit (.bool true)], args := [d1, d2] }
  | _ => none }
def fnExactRestOfRow : OpenClaim := { program := "ytpibncahhajlbaa", sum := "fe1a841fadde62a485c24a0c72ff46f2d7e6d78d0845da0f2f8bdce38815eeb5", func := "loop.example/g00951/laws.FnExactRestOf", spec := "fnExactRestOf", unfollowed := true, recurses := true, apart := false }
def FnExactRestOfSaid : Prop := fnExactRestOfRow.holds Try.pinned (OpenSpec.ofChange fnExactRestOfSpec)

/-- ITS FALSE NEIGHBOUR: 'it returns false'. Refute it at one input. -/
def fnExactRestOfWrong : ChangeSpec := { name := "fnExactRestOf", fn := fun _ => fun
  | [d1, d2] => { results := [.lit (.bool false)], args := [d1, d2] }
  | _ => none }
def FnExactRestOfWrongFalsely : Prop := fnExactRestOfRow.holds Try.pinned (OpenSpec.ofChange fnExactRestOfWrong)

/-- 'laws.FnExactResumeTime': WHATEVER THE INPUT: true; the input reads as it did. -/
def fnExactResumeTimeSpec : ChangeSpec := { name := "fnExactResumeTime", fn := fun _ => fun
  | [d1, d2] => { results := [.lit (.bool true)], args := [d1, d2] }
  | _ => none }
def fnExactResumeTimeRow : OpenClaim := { program := "ytpibncahhajlbaa", sum := "fe1a841fadde62a485c24a0c72ff46f2d7e6d78d0845da0f2f8bdce38815eeb5", func := "loop.example/g00951/laws.FnExactResumeTime", spec := "fnExactResumeTime", unfollowed := true, recurses := true, apart := false }
def FnExactResumeTimeSaid : Prop := fnExactResumeTimeRow.holds Try.pinned (OpenSpec.ofChange fnExactResumeTimeSpec)

/-- ITS FALSE NEIGHBOUR: 'it returns false'. Refute it at one input. -/
def fnExactResumeTimeWrong : ChangeSpec := { name := "fnExactResumeTime", fn := fun _ => fun
  | [d1, d2] => { results := [.lit (.bool false)], args := [d1, d2] }
  | _ => none }
def FnExactResumeTimeWrongFalsely : Prop := fnExactResumeTimeRow.holds Try.pinned (OpenSpec.ofChange fnExactResumeTimeWrong)

/-- 'laws.FnExactFigureOnStrip': WHATEVER THE INPUT: true; the input reads as it did. -/
def fnExactFigureOnStripSpec : ChangeSpec := { name := "fnExactFigureOnStrip", fn := fun _ => fun
  | [d1, d2, d3, d4] => { results := [.lit (.bool true)], args := [d1, d2, d3, d4] }
  | _ => none }
def fnExactFigureOnStripRow : OpenClaim := { program := "ytpibncahhajlbaa", sum := "fe1a841fadde62a485c24a0c72ff46f2d7e6d78d0845da0f2f8bdce38815eeb5", func := "loop.example/g00951/laws.FnExactFigureOnStrip", spec := "fnExactFigureOnStrip", unfollowed := true, recurses := true, apart := false }
def FnExactFigureOnStripSaid : Prop := fnExactFigureOnStripRow.holds Try.pinned (OpenSpec.ofChange fnExactFigureOnStripSpec)

/-- ITS FALSE NEIGHBOUR: 'it returns false'. Refute it at one input. -/
def fnExactFigureOnStripWrong : ChangeSpec := { name := "fnExactFigureOnStrip", fn := fun _ => fun
  | [d1, d2, d3, d4] => { results := [.lit (.bool false)], args := [d1, d2, d3, d4] }
  | _ => none }
def FnExactFigureOnStripWrongFalsely : Prop := fnExactFigureOnStripRow.holds Try.pinned (OpenSpec.ofChange fnExactFigureOnStripWrong)

/-- 'laws.FnExactFigureAt': WHATEVER THE INPUT: true; the input reads as it did. -/
def fnExactFigureAtSpec : ChangeSpec := { name := "fnExactFigureAt", fn := fun _ => fun
  | [d1, d2] => { results := [.lit (.bool true)], args := [d1, d2] }
  | _ => none }
def fnExactFigureAtRow : OpenClaim := { program := "ytpibncahhajlbaa", sum := "fe1a841fadde62a485c24a0c72ff46f2d7e6d78d0845da0f2f8bdce38815eeb5", func := "loop.example/g00951/laws.FnExactFigureAt", spec := "fnExactFigureAt", unfollowed := true, recurses := true, apart := false }
def FnExactFigureAtSaid : Prop := fnExactFigureAtRow.holds Try.pinned (OpenSpec.ofChange fnExactFigureAtSpec)

/-- ITS FALSE NEIGHBOUR: 'it returns false'. Refute it at one input. -/
def fnExactFigureAtWrong : ChangeSpec := { name := "fnExactFigureAt", fn := fun _ => fun
  | [d1, d2] => { results := [.lit (.bool false)], args := [d1, d2] }
  | _ => none }
def FnExactFigureAtWrongFalsely : Prop := fnExactFigureAtRow.holds Try.pinned (OpenSpec.ofChange fnExactFigureAtWrong)

/- THE SECOND FORM. 'bulk': how many values and letters a reading holds, each counted each time it is reached (what is shared counts as often as it is met; a slice's spare places count too). A statement '..UptoSaid' is the law's where the arguments, and the package variables that the reading takes, are together of bulk at most 1048576: NARROWER than '..Said'. Prove '..Said' where nothing that the law and all that it calls make is longer than what came in: it says more and counts as full. Else prove '..UptoSaid'. A law counts once. -/
mutual
def uptoBulk {H : Type} : DataW H → Nat
  | .lit (.string bytes) => bytes.length + 1
  | .lit _ => 1
  | .nil => 1
  | .ptr d => uptoBulk d + 1
  | .slice elems spare => uptoBulkAll elems + uptoBulkAll spare + 1
  | .agg parts => uptoBulkAll parts + 1
  | .iface _ d => uptoBulk d + 1
  | .map entries => uptoBulkEntries entries + 1
  | .held _ => 1
def uptoBulkAll {H : Type} : List (DataW H) → Nat
  | [] => 0
  | d :: r => uptoBulk d + uptoBulkAll r
def uptoBulkEntries {H : Type} : List (Lit × DataW H) → Nat
  | [] => 0
  | x :: r => uptoBulkEntry x + uptoBulkEntries r
def uptoBulkEntry {H : Type} : Lit × DataW H → Nat
  | (.string bytes, d) => bytes.length + uptoBulk d + 1
  | (_, d) => uptoBulk d + 1
 end
def uptoSmall : (H : Type) → List (DataW H) → Bool := fun _ ds => decide (uptoBulkAll ds ≤ 1048576)
def OpenSpec.upto (s : _root_.Go.ChangeSpec) : _root_.Go.OpenSpec := { _root_.Go.OpenSpec.ofChange s with cond := some uptoSmall }

/-- 'laws.FnExactSeenAngle', WHERE WHAT IT READS IS OF BULK AT MOST 1048576: true; the input reads as it did. -/
def fnExactSeenAngleUptoRow : OpenClaim := { program := "ytpibncahhajlbaa", sum := "fe1a841fadde62a485c24a0c72ff46f2d7e6d78d0845da0f2f8bdce38815eeb5", func := "loop.example/g00951/laws.FnExactSeenAngle", spec := "fnExactSeenAngle", apart := false, narrowed := true }
def FnExactSeenAngleUptoSaid : Prop := fnExactSeenAngleUptoRow.holds Try.pinned (OpenSpec.upto fnExactSeenAngleSpec)

/-- 'laws.FnExactTurnOf', WHERE WHAT IT READS IS OF BULK AT MOST 1048576: true; the input reads as it did. -/
def fnExactTurnOfUptoRow : OpenClaim := { program := "ytpibncahhajlbaa", sum := "fe1a841fadde62a485c24a0c72ff46f2d7e6d78d0845da0f2f8bdce38815eeb5", func := "loop.example/g00951/laws.FnExactTurnOf", spec := "fnExactTurnOf", apart := false, narrowed := true }
def FnExactTurnOfUptoSaid : Prop := fnExactTurnOfUptoRow.holds Try.pinned (OpenSpec.upto fnExactTurnOfSpec)

/-- 'laws.FnExactIsProgram', WHERE WHAT IT READS IS OF BULK AT MOST 1048576: true; the input reads as it did. -/
def fnExactIsProgramUptoRow : OpenClaim := { program := "ytpibncahhajlbaa", sum := "fe1a841fadde62a485c24a0c72ff46f2d7e6d78d0845da0f2f8bdce38815eeb5", func := "loop.example/g00951/laws.FnExactIsProgram", spec := "fnExactIsProgram", unfollowed := true, recurses := true, apart := false, narrowed := true }
def FnExactIsProgramUptoSaid : Prop := fnExactIsProgramUptoRow.holds Try.pinned (OpenSpec.upto fnExactIsProgramSpec)

/-- 'laws.FnExactWearOf', WHERE WHAT IT READS IS OF BULK AT MOST 1048576: true; the input reads as it did. -/
def fnExactWearOfUptoRow : OpenClaim := { program := "ytpibncahhajlbaa", sum := "fe1a841fadde62a485c24a0c72ff46f2d7e6d78d0845da0f2f8bdce38815eeb5", func := "loop.example/g00951/laws.FnExactWearOf", spec := "fnExactWearOf", unfollowed := true, recurses := true, apart := false, narrowed := true }
def FnExactWearOfUptoSaid : Prop := fnExactWearOfUptoRow.holds Try.pinned (OpenSpec.upto fnExactWearOfSpec)

/-- 'laws.FnExactAngleOf', WHERE WHAT IT READS IS OF BULK AT MOST 1048576: true; the input reads as it did. -/
def fnExactAngleOfUptoRow : OpenClaim := { program := "ytpibncahhajlbaa", sum := "fe1a841fadde62a485c24a0c72ff46f2d7e6d78d0845da0f2f8bdce38815eeb5", func := "loop.example/g00951/laws.FnExactAngleOf", spec := "fnExactAngleOf", apart := false, narrowed := true }
def FnExactAngleOfUptoSaid : Prop := fnExactAngleOfUptoRow.holds Try.pinned (OpenSpec.upto fnExactAngleOfSpec)

/-- 'laws.FnExactTimeOf', WHERE WHAT IT READS IS OF BULK AT MOST 1048576: true; the input reads as it did. -/
def fnExactTimeOfUptoRow : OpenClaim := { program := "ytpibncahhajlbaa", sum := "fe1a841fadde62a485c24a0c72ff46f2d7e6d78d0845da0f2f8bdce38815eeb5", func := "loop.example/g00951/laws.FnExactTimeOf", spec := "fnExactTimeOf", unfollowed := true, recurses := true, apart := false, narrowed := true }
def FnExactTimeOfUptoSaid : Prop := fnExactTimeOfUptoRow.holds Try.pinned (OpenSpec.upto fnExactTimeOfSpec)

/-- 'laws.FnExactIsOrdered', WHERE WHAT IT READS IS OF BULK AT MOST 1048576: true; the input reads as it did. -/
def fnExactIsOrderedUptoRow : OpenClaim := { program := "ytpibncahhajlbaa", sum := "fe1a841fadde62a485c24a0c72ff46f2d7e6d78d0845da0f2f8bdce38815eeb5", func := "loop.example/g00951/laws.FnExactIsOrdered", spec := "fnExactIsOrdered", unfollowed := true, recurses := true, apart := false, narrowed := true }
def FnExactIsOrderedUptoSaid : Prop := fnExactIsOrderedUptoRow.holds Try.pinned (OpenSpec.upto fnExactIsOrderedSpec)

/-- 'laws.FnExactStripPlace', WHERE WHAT IT READS IS OF BULK AT MOST 1048576: true; the input reads as it did. -/
def fnExactStripPlaceUptoRow : OpenClaim := { program := "ytpibncahhajlbaa", sum := "fe1a841fadde62a485c24a0c72ff46f2d7e6d78d0845da0f2f8bdce38815eeb5", func := "loop.example/g00951/laws.FnExactStripPlace", spec := "fnExactStripPlace", apart := false, narrowed := true }
def FnExactStripPlaceUptoSaid : Prop := fnExactStripPlaceUptoRow.holds Try.pinned (OpenSpec.upto fnExactStripPlaceSpec)

/-- 'laws.FnExactRestOf', WHERE WHAT IT READS IS OF BULK AT MOST 1048576: true; the input reads as it did. -/
def fnExactRestOfUptoRow : OpenClaim := { program := "ytpibncahhajlbaa", sum := "fe1a841fadde62a485c24a0c72ff46f2d7e6d78d0845da0f2f8bdce38815eeb5", func := "loop.example/g00951/laws.FnExactRestOf", spec := "fnExactRestOf", unfollowed := true, recurses := true, apart := false, narrowed := true }
def FnExactRestOfUptoSaid : Prop := fnExactRestOfUptoRow.holds Try.pinned (OpenSpec.upto fnExactRestOfSpec)

/-- 'laws.FnExactResumeTime', WHERE WHAT IT READS IS OF BULK AT MOST 1048576: true; the input reads as it did. -/
def fnExactResumeTimeUptoRow : OpenClaim := { program := "ytpibncahhajlbaa", sum := "fe1a841fadde62a485c24a0c72ff46f2d7e6d78d0845da0f2f8bdce38815eeb5", func := "loop.example/g00951/laws.FnExactResumeTime", spec := "fnExactResumeTime", unfollowed := true, recurses := true, apart := false, narrowed := true }
def FnExactResumeTimeUptoSaid : Prop := fnExactResumeTimeUptoRow.holds Try.pinned (OpenSpec.upto fnExactResumeTimeSpec)

/-- 'laws.FnExactFigureOnStrip', WHERE WHAT IT READS IS OF BULK AT MOST 1048576: true; the input reads as it did. -/
def fnExactFigureOnStripUptoRow : OpenClaim := { program := "ytpibncahhajlbaa", sum := "fe1a841fadde62a485c24a0c72ff46f2d7e6d78d0845da0f2f8bdce38815eeb5", func := "loop.example/g00951/laws.FnExactFigureOnStrip", spec := "fnExactFigureOnStrip", unfollowed := true, recurses := true, apart := false, narrowed := true }
def FnExactFigureOnStripUptoSaid : Prop := fnExactFigureOnStripUptoRow.holds Try.pinned (OpenSpec.upto fnExactFigureOnStripSpec)

/-- 'laws.FnExactFigureAt', WHERE WHAT IT READS IS OF BULK AT MOST 1048576: true; the input reads as it did. -/
def fnExactFigureAtUptoRow : OpenClaim := { program := "ytpibncahhajlbaa", sum := "fe1a841fadde62a485c24a0c72ff46f2d7e6d78d0845da0f2f8bdce38815eeb5", func := "loop.example/g00951/laws.FnExactFigureAt", spec := "fnExactFigureAt", unfollowed := true, recurses := true, apart := false, narrowed := true }
def FnExactFigureAtUptoSaid : Prop := fnExactFigureAtUptoRow.holds Try.pinned (OpenSpec.upto fnExactFigureAtSpec)

end Rows
end Go.Proofs.Ytpibncahhajlbaa
