/-
  DERIVED. GIVEN WITH THE SEED: THE CARDS: each row of YtkjlakdjgpgekaaGreatDoorRows.lean that lists a variable, with what it lists TIED to the program's text (the seventh form; the later family's looks); each row that meets fmt, with fmt's text TOLD by the authors' own Lean function (tested against real Go, not proved from fmt's source: count such statements apart). THE CARD IS WHAT COUNTS. Prove the row's statement (the work); the ties are given (YtkjlakdjgpgekaaGreatDoorTie.lean); close each card by the builder's one call (the guide's Derived/Test/ToyasCard.lean, 'card_holds'). Laid BY PROGRAM, IN A SANDBOX (cutbox-door.mjs). By AI agents, Wed Nov 11 2026. No macro, syntax, notation, axiom, sorry.
-/
import Derived.Test.YtkjlakdjgpgekaaGreatDoorRows
import GoSem.ClaimSeven
namespace Go.Proofs.YtkjlakdjgpgekaaGreatDoor
namespace Rows

/-- THE TIED CARD OF 'laws.FnExactOriginOf'. -/
def fnExactOriginOfCard : Claim7 := { stood := { row := fnExactOriginOfRow, standIns := [], harness := (true, "d8d1aea78ef532c297dbe66c0cd539a298b6022b09f9992596b44a41cec83ee0"), looks := false }, kinds := [], alts := [], laidByText := true, laidKinds := [.data, .pinned], laidTests := true, laidLooks := .later }
def FnExactOriginOfCardSaid : Prop := Claim7.holds Tryz.pinned (.plain (OpenSpec.ofChange fnExactOriginOfSpec)) fnExactOriginOfCard

/-- THE TIED CARD OF 'laws.FnExactKeptEntries'. -/
def fnExactKeptEntriesCard : Claim7 := { stood := { row := fnExactKeptEntriesRow, standIns := [], harness := (true, "d8d1aea78ef532c297dbe66c0cd539a298b6022b09f9992596b44a41cec83ee0"), looks := false }, kinds := [], alts := [], laidByText := true, laidKinds := [.data, .pinned], laidTests := true, laidLooks := .later }
def FnExactKeptEntriesCardSaid : Prop := Claim7.holds Tryz.pinned (.plain (OpenSpec.ofChange fnExactKeptEntriesSpec)) fnExactKeptEntriesCard

/-- THE TIED CARD OF 'laws.FnExactDerivedFrom'. -/
def fnExactDerivedFromCard : Claim7 := { stood := { row := fnExactDerivedFromRow, standIns := [], harness := (true, "d8d1aea78ef532c297dbe66c0cd539a298b6022b09f9992596b44a41cec83ee0"), looks := false }, kinds := [], alts := [], laidByText := true, laidKinds := [.data, .pinned], laidTests := true, laidLooks := .later }
def FnExactDerivedFromCardSaid : Prop := Claim7.holds Tryz.pinned (.plain (OpenSpec.ofChange fnExactDerivedFromSpec)) fnExactDerivedFromCard

/-- THE TIED CARD OF 'laws.FnExactAddEntry'. -/
def fnExactAddEntryCard : Claim7 := { stood := { row := fnExactAddEntryRow, standIns := [], harness := (true, "d8d1aea78ef532c297dbe66c0cd539a298b6022b09f9992596b44a41cec83ee0"), looks := false }, kinds := [], alts := [], laidByText := true, laidKinds := [.data, .pinned], laidTests := true, laidLooks := .later }
def FnExactAddEntryCardSaid : Prop := Claim7.holds Tryz.pinned (.plain (OpenSpec.ofChange fnExactAddEntrySpec)) fnExactAddEntryCard

/-- THE TIED CARD OF 'laws.FnExactTitles'. -/
def fnExactTitlesCard : Claim7 := { stood := { row := fnExactTitlesRow, standIns := [], harness := (true, "d8d1aea78ef532c297dbe66c0cd539a298b6022b09f9992596b44a41cec83ee0"), looks := false }, kinds := [], alts := [], laidByText := true, laidKinds := [.data, .pinned], laidTests := true, laidLooks := .later }
def FnExactTitlesCardSaid : Prop := Claim7.holds Tryz.pinned (.plain (OpenSpec.ofChange fnExactTitlesSpec)) fnExactTitlesCard

/-- THE TIED CARD OF 'laws.FnCatalogues'. -/
def fnCataloguesCard : Claim7 := { stood := { row := fnCataloguesRow, standIns := [], harness := (true, "d8d1aea78ef532c297dbe66c0cd539a298b6022b09f9992596b44a41cec83ee0"), looks := false }, kinds := [], alts := [], laidByText := true, laidKinds := [.data, .pinned], laidTests := true, laidLooks := .later }
def FnCataloguesCardSaid : Prop := Claim7.holds Tryz.pinned (.plain (OpenSpec.ofChange fnCataloguesSpec)) fnCataloguesCard

/-- THE TIED CARD OF 'laws.FnMarksOfReleases'. -/
def fnMarksOfReleasesCard : Claim7 := { stood := { row := fnMarksOfReleasesRow, standIns := [], harness := (true, "d8d1aea78ef532c297dbe66c0cd539a298b6022b09f9992596b44a41cec83ee0"), looks := false }, kinds := [], alts := [], laidByText := true, laidKinds := [.data, .pinned], laidTests := true, laidLooks := .later }
def FnMarksOfReleasesCardSaid : Prop := Claim7.holds Tryz.pinned (.plain (OpenSpec.ofChange fnMarksOfReleasesSpec)) fnMarksOfReleasesCard

/-- THE SECOND FORM's CARD OF 'laws.FnExactOriginOf'. -/
def fnExactOriginOfUptoCard : Claim7 := { stood := { row := fnExactOriginOfUptoRow, standIns := [], harness := (true, "d8d1aea78ef532c297dbe66c0cd539a298b6022b09f9992596b44a41cec83ee0"), looks := false }, kinds := [], alts := [], laidByText := true, laidKinds := [.data, .pinned], laidTests := true, laidLooks := .later }
def FnExactOriginOfUptoCardSaid : Prop := Claim7.holds Tryz.pinned (.plain (OpenSpec.upto fnExactOriginOfSpec)) fnExactOriginOfUptoCard

/-- THE SECOND FORM's CARD OF 'laws.FnExactKeptEntries'. -/
def fnExactKeptEntriesUptoCard : Claim7 := { stood := { row := fnExactKeptEntriesUptoRow, standIns := [], harness := (true, "d8d1aea78ef532c297dbe66c0cd539a298b6022b09f9992596b44a41cec83ee0"), looks := false }, kinds := [], alts := [], laidByText := true, laidKinds := [.data, .pinned], laidTests := true, laidLooks := .later }
def FnExactKeptEntriesUptoCardSaid : Prop := Claim7.holds Tryz.pinned (.plain (OpenSpec.upto fnExactKeptEntriesSpec)) fnExactKeptEntriesUptoCard

/-- THE SECOND FORM's CARD OF 'laws.FnExactDerivedFrom'. -/
def fnExactDerivedFromUptoCard : Claim7 := { stood := { row := fnExactDerivedFromUptoRow, standIns := [], harness := (true, "d8d1aea78ef532c297dbe66c0cd539a298b6022b09f9992596b44a41cec83ee0"), looks := false }, kinds := [], alts := [], laidByText := true, laidKinds := [.data, .pinned], laidTests := true, laidLooks := .later }
def FnExactDerivedFromUptoCardSaid : Prop := Claim7.holds Tryz.pinned (.plain (OpenSpec.upto fnExactDerivedFromSpec)) fnExactDerivedFromUptoCard

/-- THE SECOND FORM's CARD OF 'laws.FnExactAddEntry'. -/
def fnExactAddEntryUptoCard : Claim7 := { stood := { row := fnExactAddEntryUptoRow, standIns := [], harness := (true, "d8d1aea78ef532c297dbe66c0cd539a298b6022b09f9992596b44a41cec83ee0"), looks := false }, kinds := [], alts := [], laidByText := true, laidKinds := [.data, .pinned], laidTests := true, laidLooks := .later }
def FnExactAddEntryUptoCardSaid : Prop := Claim7.holds Tryz.pinned (.plain (OpenSpec.upto fnExactAddEntrySpec)) fnExactAddEntryUptoCard

/-- THE SECOND FORM's CARD OF 'laws.FnExactTitles'. -/
def fnExactTitlesUptoCard : Claim7 := { stood := { row := fnExactTitlesUptoRow, standIns := [], harness := (true, "d8d1aea78ef532c297dbe66c0cd539a298b6022b09f9992596b44a41cec83ee0"), looks := false }, kinds := [], alts := [], laidByText := true, laidKinds := [.data, .pinned], laidTests := true, laidLooks := .later }
def FnExactTitlesUptoCardSaid : Prop := Claim7.holds Tryz.pinned (.plain (OpenSpec.upto fnExactTitlesSpec)) fnExactTitlesUptoCard

/-- THE SECOND FORM's CARD OF 'laws.FnCatalogues'. -/
def fnCataloguesUptoCard : Claim7 := { stood := { row := fnCataloguesUptoRow, standIns := [], harness := (true, "d8d1aea78ef532c297dbe66c0cd539a298b6022b09f9992596b44a41cec83ee0"), looks := false }, kinds := [], alts := [], laidByText := true, laidKinds := [.data, .pinned], laidTests := true, laidLooks := .later }
def FnCataloguesUptoCardSaid : Prop := Claim7.holds Tryz.pinned (.plain (OpenSpec.upto fnCataloguesSpec)) fnCataloguesUptoCard

/-- THE SECOND FORM's CARD OF 'laws.FnMarksOfReleases'. -/
def fnMarksOfReleasesUptoCard : Claim7 := { stood := { row := fnMarksOfReleasesUptoRow, standIns := [], harness := (true, "d8d1aea78ef532c297dbe66c0cd539a298b6022b09f9992596b44a41cec83ee0"), looks := false }, kinds := [], alts := [], laidByText := true, laidKinds := [.data, .pinned], laidTests := true, laidLooks := .later }
def FnMarksOfReleasesUptoCardSaid : Prop := Claim7.holds Tryz.pinned (.plain (OpenSpec.upto fnMarksOfReleasesSpec)) fnMarksOfReleasesUptoCard
end Rows
end Go.Proofs.YtkjlakdjgpgekaaGreatDoor
