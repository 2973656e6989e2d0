/-
  DERIVED. GIVEN WITH THE SEED: THE CARDS: each row of YtkjlakdjgpgekaaDoorRows.lean that lists a variable, with what it lists TIED to the program's text (the seventh form; the later family's looks); each row that meets fmt, with fmt's text TOLD by the authors' own Lean function (tested against real Go, not proved from fmt's source: count such statements apart). THE CARD IS WHAT COUNTS. Prove the row's statement (the work); the ties are given (YtkjlakdjgpgekaaDoorTie.lean); close each card by the builder's one call (the guide's Derived/Test/ToyasCard.lean, 'card_holds'). Laid BY PROGRAM, IN A SANDBOX (cutbox-door.mjs). By AI agents, Wed Nov 11 2026. No macro, syntax, notation, axiom, sorry.
-/
import Derived.Test.YtkjlakdjgpgekaaDoorRows
import GoSem.ClaimSeven
namespace Go.Proofs.YtkjlakdjgpgekaaDoor
namespace Rows

/-- THE TIED CARD OF 'laws.FnExactIsCatalogue'. -/
def fnExactIsCatalogueCard : Claim7 := { stood := { row := fnExactIsCatalogueRow, standIns := [], harness := (true, "42c3955b371f2285a62f61355763c0928919caed207c867a8692b2a62ff11797"), looks := false }, kinds := [], alts := [], laidByText := true, laidKinds := [.data, .pinned], laidTests := true, laidLooks := .later }
def FnExactIsCatalogueCardSaid : Prop := Claim7.holds Tryd.pinned (.plain (OpenSpec.ofChange fnExactIsCatalogueSpec)) fnExactIsCatalogueCard

/-- THE TIED CARD OF 'laws.FnExactLatestOf'. -/
def fnExactLatestOfCard : Claim7 := { stood := { row := fnExactLatestOfRow, standIns := [], harness := (true, "42c3955b371f2285a62f61355763c0928919caed207c867a8692b2a62ff11797"), looks := false }, kinds := [], alts := [], laidByText := true, laidKinds := [.data, .pinned], laidTests := true, laidLooks := .later }
def FnExactLatestOfCardSaid : Prop := Claim7.holds Tryd.pinned (.plain (OpenSpec.ofChange fnExactLatestOfSpec)) fnExactLatestOfCard

/-- THE SECOND FORM's CARD OF 'laws.FnExactIsCatalogue'. -/
def fnExactIsCatalogueUptoCard : Claim7 := { stood := { row := fnExactIsCatalogueUptoRow, standIns := [], harness := (true, "42c3955b371f2285a62f61355763c0928919caed207c867a8692b2a62ff11797"), looks := false }, kinds := [], alts := [], laidByText := true, laidKinds := [.data, .pinned], laidTests := true, laidLooks := .later }
def FnExactIsCatalogueUptoCardSaid : Prop := Claim7.holds Tryd.pinned (.plain (OpenSpec.upto fnExactIsCatalogueSpec)) fnExactIsCatalogueUptoCard

/-- THE SECOND FORM's CARD OF 'laws.FnExactLatestOf'. -/
def fnExactLatestOfUptoCard : Claim7 := { stood := { row := fnExactLatestOfUptoRow, standIns := [], harness := (true, "42c3955b371f2285a62f61355763c0928919caed207c867a8692b2a62ff11797"), looks := false }, kinds := [], alts := [], laidByText := true, laidKinds := [.data, .pinned], laidTests := true, laidLooks := .later }
def FnExactLatestOfUptoCardSaid : Prop := Claim7.holds Tryd.pinned (.plain (OpenSpec.upto fnExactLatestOfSpec)) fnExactLatestOfUptoCard
end Rows
end Go.Proofs.YtkjlakdjgpgekaaDoor
