/-
  DERIVED. GIVEN WITH THE SEED: THE CARDS: each row of YtkjommcmeinkaaaGreatDoorRows.lean that lists a variable, with what it lists TIED to the program's text (the seventh form; the later family's looks); each row that meets fmt, with fmt's text TOLD by the authors' own Lean function (tested against real Go, not proved from fmt's source: count such statements apart). THE CARD IS WHAT COUNTS. Prove the row's statement (the work); the ties are given (YtkjommcmeinkaaaGreatDoorTie.lean); close each card by the builder's one call (the guide's Derived/Test/ToyasCard.lean, 'card_holds'). Laid BY PROGRAM, IN A SANDBOX (cutbox-door.mjs). By AI agents, Wed Nov 11 2026. No macro, syntax, notation, axiom, sorry.
-/
import Derived.Test.YtkjommcmeinkaaaGreatDoorRows
import GoSem.ClaimSeven
namespace Go.Proofs.YtkjommcmeinkaaaGreatDoor
namespace Rows

/-- THE TIED CARD OF 'laws.FnEngraved'. -/
def fnEngravedCard : Claim7 := { stood := { row := fnEngravedRow, standIns := [], harness := (true, "315534e03e898a8244746ff66c2ccef9fe0d9fc577f2e0ba2b6ce5440a2b9ece"), looks := true }, kinds := [], alts := [], laidByText := true, laidKinds := [.data, .data, .data, .data, .sentinel, .sentinel, .pinned], laidTests := true, laidLooks := .later }
def FnEngravedCardSaid : Prop := Claim7.holds Tryz.pinned (.plain (OpenSpec.ofChange fnEngravedSpec)) fnEngravedCard

/-- THE SECOND FORM's CARD OF 'laws.FnEngraved'. -/
def fnEngravedUptoCard : Claim7 := { stood := { row := fnEngravedUptoRow, standIns := [], harness := (true, "315534e03e898a8244746ff66c2ccef9fe0d9fc577f2e0ba2b6ce5440a2b9ece"), looks := true }, kinds := [], alts := [], laidByText := true, laidKinds := [.data, .data, .data, .data, .sentinel, .sentinel, .pinned], laidTests := true, laidLooks := .later }
def FnEngravedUptoCardSaid : Prop := Claim7.holds Tryz.pinned (.plain (OpenSpec.upto fnEngravedSpec)) fnEngravedUptoCard
end Rows
end Go.Proofs.YtkjommcmeinkaaaGreatDoor
