/-
  DERIVED. GIVEN WITH THE SEED: THE CARDS: each row of YtednjmldjbndhaaGreatDoorRows.lean that lists a variable, with what it lists TIED to the program's text (the seventh form; the later family's looks); each row that meets fmt, with fmt's text TOLD by the authors' own Lean function (tested against real Go, not proved from fmt's source: count such statements apart). THE CARD IS WHAT COUNTS. Prove the row's statement (the work); the ties are given (YtednjmldjbndhaaGreatDoorTie.lean); close each card by the builder's one call (the guide's Derived/Test/ToyasCard.lean, 'card_holds'). Laid BY PROGRAM, IN A SANDBOX (cutbox-door.mjs). By AI agents, Wed Nov 11 2026. No macro, syntax, notation, axiom, sorry.
-/
import Derived.Test.YtednjmldjbndhaaGreatDoorRows
import GoSem.ClaimSeven
namespace Go.Proofs.YtednjmldjbndhaaGreatDoor
namespace Rows

/-- THE TIED CARD OF 'laws.FnCatalogues'. -/
def fnCataloguesCard : Claim7 := { stood := { row := fnCataloguesRow, standIns := [], harness := (true, "167e9d09e8d42e766f8263b9eb3ea46dfef1bf7b8e51f932ae7581a8b725236b"), looks := false }, kinds := [], alts := [], laidByText := true, laidKinds := [.data, .pinned], laidTests := true, laidLooks := .later }
def FnCataloguesCardSaid : Prop := Claim7.holds Tryz.pinned (.plain (OpenSpec.ofChange fnCataloguesSpec)) fnCataloguesCard

/-- THE TIED CARD OF 'laws.FnMarksOfReleases'. -/
def fnMarksOfReleasesCard : Claim7 := { stood := { row := fnMarksOfReleasesRow, standIns := [], harness := (true, "167e9d09e8d42e766f8263b9eb3ea46dfef1bf7b8e51f932ae7581a8b725236b"), looks := false }, kinds := [], alts := [], laidByText := true, laidKinds := [.data, .pinned], laidTests := true, laidLooks := .later }
def FnMarksOfReleasesCardSaid : Prop := Claim7.holds Tryz.pinned (.plain (OpenSpec.ofChange fnMarksOfReleasesSpec)) fnMarksOfReleasesCard

/-- THE SECOND FORM's CARD OF 'laws.FnCatalogues'. -/
def fnCataloguesUptoCard : Claim7 := { stood := { row := fnCataloguesUptoRow, standIns := [], harness := (true, "167e9d09e8d42e766f8263b9eb3ea46dfef1bf7b8e51f932ae7581a8b725236b"), looks := false }, kinds := [], alts := [], laidByText := true, laidKinds := [.data, .pinned], laidTests := true, laidLooks := .later }
def FnCataloguesUptoCardSaid : Prop := Claim7.holds Tryz.pinned (.plain (OpenSpec.upto fnCataloguesSpec)) fnCataloguesUptoCard

/-- THE SECOND FORM's CARD OF 'laws.FnMarksOfReleases'. -/
def fnMarksOfReleasesUptoCard : Claim7 := { stood := { row := fnMarksOfReleasesUptoRow, standIns := [], harness := (true, "167e9d09e8d42e766f8263b9eb3ea46dfef1bf7b8e51f932ae7581a8b725236b"), looks := false }, kinds := [], alts := [], laidByText := true, laidKinds := [.data, .pinned], laidTests := true, laidLooks := .later }
def FnMarksOfReleasesUptoCardSaid : Prop := Claim7.holds Tryz.pinned (.plain (OpenSpec.upto fnMarksOfReleasesSpec)) fnMarksOfReleasesUptoCard
end Rows
end Go.Proofs.YtednjmldjbndhaaGreatDoor
