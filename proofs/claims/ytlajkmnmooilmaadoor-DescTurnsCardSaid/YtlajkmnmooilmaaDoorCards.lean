/-
  DERIVED. GIVEN WITH THE SEED: THE CARDS: each row of YtlajkmnmooilmaaDoorRows.lean that lists a variable, with what it lists TIED to the program's text (the seventh form; the later family's looks); each row that meets fmt, with fmt's text TOLD by the authors' own Lean function (tested against real Go, not proved from fmt's source: count such statements apart). THE CARD IS WHAT COUNTS. Prove the row's statement (the work); the ties are given (YtlajkmnmooilmaaDoorTie.lean); close each card by the builder's one call (the guide's Derived/Test/ToyasCard.lean, 'card_holds'). Laid BY PROGRAM, IN A SANDBOX (cutbox-door.mjs). By AI agents, Wed Nov 11 2026. No macro, syntax, notation, axiom, sorry.
-/
import Derived.Test.YtlajkmnmooilmaaDoorRows
import GoSem.ClaimSeven
namespace Go.Proofs.YtlajkmnmooilmaaDoor
namespace Rows

/-- THE TIED CARD OF 'keystonelaw2.DescLimits'. -/
def descLimitsCard : Claim7 := { stood := { row := descLimitsRow, standIns := [], harness := (true, "ff1289e9c831638eaa29561eb133615bca9d651fafc04b989f302840e349af8c"), looks := false }, kinds := [], alts := [], laidByText := true, laidKinds := [.data, .pinned], laidTests := true, laidLooks := .later }
def DescLimitsCardSaid : Prop := Claim7.holds Tryd.pinned (.plain (OpenSpec.ofChange descLimitsSpec)) descLimitsCard

/-- THE TIED CARD OF 'keystonelaw2.DescNamed'. -/
def descNamedCard : Claim7 := { stood := { row := descNamedRow, standIns := [], harness := (true, "ff1289e9c831638eaa29561eb133615bca9d651fafc04b989f302840e349af8c"), looks := false }, kinds := [], alts := [], laidByText := true, laidKinds := [.data, .pinned], laidTests := true, laidLooks := .later }
def DescNamedCardSaid : Prop := Claim7.holds Tryd.pinned (.plain (OpenSpec.ofChange descNamedSpec)) descNamedCard

/-- THE TIED CARD OF 'keystonelaw2.DescNames'. -/
def descNamesCard : Claim7 := { stood := { row := descNamesRow, standIns := [], harness := (true, "ff1289e9c831638eaa29561eb133615bca9d651fafc04b989f302840e349af8c"), looks := false }, kinds := [], alts := [], laidByText := true, laidKinds := [.data, .pinned], laidTests := true, laidLooks := .later }
def DescNamesCardSaid : Prop := Claim7.holds Tryd.pinned (.plain (OpenSpec.ofChange descNamesSpec)) descNamesCard

/-- THE TIED CARD OF 'keystonelaw2.DescTypes'. -/
def descTypesCard : Claim7 := { stood := { row := descTypesRow, standIns := [], harness := (true, "ff1289e9c831638eaa29561eb133615bca9d651fafc04b989f302840e349af8c"), looks := false }, kinds := [], alts := [], laidByText := true, laidKinds := [.data, .pinned], laidTests := true, laidLooks := .later }
def DescTypesCardSaid : Prop := Claim7.holds Tryd.pinned (.plain (OpenSpec.ofChange descTypesSpec)) descTypesCard

/-- THE TIED CARD OF 'keystonelaw2.DescElements'. -/
def descElementsCard : Claim7 := { stood := { row := descElementsRow, standIns := [], harness := (true, "ff1289e9c831638eaa29561eb133615bca9d651fafc04b989f302840e349af8c"), looks := false }, kinds := [], alts := [], laidByText := true, laidKinds := [.data, .pinned], laidTests := true, laidLooks := .later }
def DescElementsCardSaid : Prop := Claim7.holds Tryd.pinned (.plain (OpenSpec.ofChange descElementsSpec)) descElementsCard

/-- THE TIED CARD OF 'keystonelaw2.DescParts'. -/
def descPartsCard : Claim7 := { stood := { row := descPartsRow, standIns := [], harness := (true, "ff1289e9c831638eaa29561eb133615bca9d651fafc04b989f302840e349af8c"), looks := false }, kinds := [], alts := [], laidByText := true, laidKinds := [.data, .pinned], laidTests := true, laidLooks := .later }
def DescPartsCardSaid : Prop := Claim7.holds Tryd.pinned (.plain (OpenSpec.ofChange descPartsSpec)) descPartsCard

/-- THE TIED CARD OF 'keystonelaw2.DescSigs'. -/
def descSigsCard : Claim7 := { stood := { row := descSigsRow, standIns := [], harness := (true, "ff1289e9c831638eaa29561eb133615bca9d651fafc04b989f302840e349af8c"), looks := false }, kinds := [], alts := [], laidByText := true, laidKinds := [.data, .pinned], laidTests := true, laidLooks := .later }
def DescSigsCardSaid : Prop := Claim7.holds Tryd.pinned (.plain (OpenSpec.ofChange descSigsSpec)) descSigsCard

/-- THE TIED CARD OF 'keystonelaw2.DescTurns'. -/
def descTurnsCard : Claim7 := { stood := { row := descTurnsRow, standIns := [], harness := (true, "ff1289e9c831638eaa29561eb133615bca9d651fafc04b989f302840e349af8c"), looks := false }, kinds := [], alts := [], laidByText := true, laidKinds := [.data, .pinned], laidTests := true, laidLooks := .later }
def DescTurnsCardSaid : Prop := Claim7.holds Tryd.pinned (.plain (OpenSpec.ofChange descTurnsSpec)) descTurnsCard

/-- THE TIED CARD OF 'keystonelaw2.DescBack'. -/
def descBackCard : Claim7 := { stood := { row := descBackRow, standIns := [], harness := (true, "ff1289e9c831638eaa29561eb133615bca9d651fafc04b989f302840e349af8c"), looks := false }, kinds := [], alts := [], laidByText := true, laidKinds := [.data, .pinned], laidTests := true, laidLooks := .later }
def DescBackCardSaid : Prop := Claim7.holds Tryd.pinned (.plain (OpenSpec.ofChange descBackSpec)) descBackCard

/-- THE TIED CARD OF 'keystonelaw2.DescMakes'. -/
def descMakesCard : Claim7 := { stood := { row := descMakesRow, standIns := [], harness := (true, "ff1289e9c831638eaa29561eb133615bca9d651fafc04b989f302840e349af8c"), looks := false }, kinds := [], alts := [], laidByText := true, laidKinds := [.data, .pinned], laidTests := true, laidLooks := .later }
def DescMakesCardSaid : Prop := Claim7.holds Tryd.pinned (.plain (OpenSpec.ofChange descMakesSpec)) descMakesCard

/-- THE TIED CARD OF 'keystonelaw2.DescSame'. -/
def descSameCard : Claim7 := { stood := { row := descSameRow, standIns := [], harness := (true, "ff1289e9c831638eaa29561eb133615bca9d651fafc04b989f302840e349af8c"), looks := false }, kinds := [], alts := [], laidByText := true, laidKinds := [.data, .pinned], laidTests := true, laidLooks := .later }
def DescSameCardSaid : Prop := Claim7.holds Tryd.pinned (.plain (OpenSpec.ofChange descSameSpec)) descSameCard

/-- THE TIED CARD OF 'keystonelaw2.DescOwn'. -/
def descOwnCard : Claim7 := { stood := { row := descOwnRow, standIns := [], harness := (true, "ff1289e9c831638eaa29561eb133615bca9d651fafc04b989f302840e349af8c"), looks := false }, kinds := [], alts := [], laidByText := true, laidKinds := [.data, .pinned], laidTests := true, laidLooks := .later }
def DescOwnCardSaid : Prop := Claim7.holds Tryd.pinned (.plain (OpenSpec.ofChange descOwnSpec)) descOwnCard

/-- THE SECOND FORM's CARD OF 'keystonelaw2.DescLimits'. -/
def descLimitsUptoCard : Claim7 := { stood := { row := descLimitsUptoRow, standIns := [], harness := (true, "ff1289e9c831638eaa29561eb133615bca9d651fafc04b989f302840e349af8c"), looks := false }, kinds := [], alts := [], laidByText := true, laidKinds := [.data, .pinned], laidTests := true, laidLooks := .later }
def DescLimitsUptoCardSaid : Prop := Claim7.holds Tryd.pinned (.plain (OpenSpec.upto descLimitsSpec)) descLimitsUptoCard

/-- THE SECOND FORM's CARD OF 'keystonelaw2.DescNamed'. -/
def descNamedUptoCard : Claim7 := { stood := { row := descNamedUptoRow, standIns := [], harness := (true, "ff1289e9c831638eaa29561eb133615bca9d651fafc04b989f302840e349af8c"), looks := false }, kinds := [], alts := [], laidByText := true, laidKinds := [.data, .pinned], laidTests := true, laidLooks := .later }
def DescNamedUptoCardSaid : Prop := Claim7.holds Tryd.pinned (.plain (OpenSpec.upto descNamedSpec)) descNamedUptoCard

/-- THE SECOND FORM's CARD OF 'keystonelaw2.DescNames'. -/
def descNamesUptoCard : Claim7 := { stood := { row := descNamesUptoRow, standIns := [], harness := (true, "ff1289e9c831638eaa29561eb133615bca9d651fafc04b989f302840e349af8c"), looks := false }, kinds := [], alts := [], laidByText := true, laidKinds := [.data, .pinned], laidTests := true, laidLooks := .later }
def DescNamesUptoCardSaid : Prop := Claim7.holds Tryd.pinned (.plain (OpenSpec.upto descNamesSpec)) descNamesUptoCard

/-- THE SECOND FORM's CARD OF 'keystonelaw2.DescTypes'. -/
def descTypesUptoCard : Claim7 := { stood := { row := descTypesUptoRow, standIns := [], harness := (true, "ff1289e9c831638eaa29561eb133615bca9d651fafc04b989f302840e349af8c"), looks := false }, kinds := [], alts := [], laidByText := true, laidKinds := [.data, .pinned], laidTests := true, laidLooks := .later }
def DescTypesUptoCardSaid : Prop := Claim7.holds Tryd.pinned (.plain (OpenSpec.upto descTypesSpec)) descTypesUptoCard

/-- THE SECOND FORM's CARD OF 'keystonelaw2.DescElements'. -/
def descElementsUptoCard : Claim7 := { stood := { row := descElementsUptoRow, standIns := [], harness := (true, "ff1289e9c831638eaa29561eb133615bca9d651fafc04b989f302840e349af8c"), looks := false }, kinds := [], alts := [], laidByText := true, laidKinds := [.data, .pinned], laidTests := true, laidLooks := .later }
def DescElementsUptoCardSaid : Prop := Claim7.holds Tryd.pinned (.plain (OpenSpec.upto descElementsSpec)) descElementsUptoCard

/-- THE SECOND FORM's CARD OF 'keystonelaw2.DescParts'. -/
def descPartsUptoCard : Claim7 := { stood := { row := descPartsUptoRow, standIns := [], harness := (true, "ff1289e9c831638eaa29561eb133615bca9d651fafc04b989f302840e349af8c"), looks := false }, kinds := [], alts := [], laidByText := true, laidKinds := [.data, .pinned], laidTests := true, laidLooks := .later }
def DescPartsUptoCardSaid : Prop := Claim7.holds Tryd.pinned (.plain (OpenSpec.upto descPartsSpec)) descPartsUptoCard

/-- THE SECOND FORM's CARD OF 'keystonelaw2.DescSigs'. -/
def descSigsUptoCard : Claim7 := { stood := { row := descSigsUptoRow, standIns := [], harness := (true, "ff1289e9c831638eaa29561eb133615bca9d651fafc04b989f302840e349af8c"), looks := false }, kinds := [], alts := [], laidByText := true, laidKinds := [.data, .pinned], laidTests := true, laidLooks := .later }
def DescSigsUptoCardSaid : Prop := Claim7.holds Tryd.pinned (.plain (OpenSpec.upto descSigsSpec)) descSigsUptoCard

/-- THE SECOND FORM's CARD OF 'keystonelaw2.DescTurns'. -/
def descTurnsUptoCard : Claim7 := { stood := { row := descTurnsUptoRow, standIns := [], harness := (true, "ff1289e9c831638eaa29561eb133615bca9d651fafc04b989f302840e349af8c"), looks := false }, kinds := [], alts := [], laidByText := true, laidKinds := [.data, .pinned], laidTests := true, laidLooks := .later }
def DescTurnsUptoCardSaid : Prop := Claim7.holds Tryd.pinned (.plain (OpenSpec.upto descTurnsSpec)) descTurnsUptoCard

/-- THE SECOND FORM's CARD OF 'keystonelaw2.DescBack'. -/
def descBackUptoCard : Claim7 := { stood := { row := descBackUptoRow, standIns := [], harness := (true, "ff1289e9c831638eaa29561eb133615bca9d651fafc04b989f302840e349af8c"), looks := false }, kinds := [], alts := [], laidByText := true, laidKinds := [.data, .pinned], laidTests := true, laidLooks := .later }
def DescBackUptoCardSaid : Prop := Claim7.holds Tryd.pinned (.plain (OpenSpec.upto descBackSpec)) descBackUptoCard

/-- THE SECOND FORM's CARD OF 'keystonelaw2.DescMakes'. -/
def descMakesUptoCard : Claim7 := { stood := { row := descMakesUptoRow, standIns := [], harness := (true, "ff1289e9c831638eaa29561eb133615bca9d651fafc04b989f302840e349af8c"), looks := false }, kinds := [], alts := [], laidByText := true, laidKinds := [.data, .pinned], laidTests := true, laidLooks := .later }
def DescMakesUptoCardSaid : Prop := Claim7.holds Tryd.pinned (.plain (OpenSpec.upto descMakesSpec)) descMakesUptoCard

/-- THE SECOND FORM's CARD OF 'keystonelaw2.DescSame'. -/
def descSameUptoCard : Claim7 := { stood := { row := descSameUptoRow, standIns := [], harness := (true, "ff1289e9c831638eaa29561eb133615bca9d651fafc04b989f302840e349af8c"), looks := false }, kinds := [], alts := [], laidByText := true, laidKinds := [.data, .pinned], laidTests := true, laidLooks := .later }
def DescSameUptoCardSaid : Prop := Claim7.holds Tryd.pinned (.plain (OpenSpec.upto descSameSpec)) descSameUptoCard

/-- THE SECOND FORM's CARD OF 'keystonelaw2.DescOwn'. -/
def descOwnUptoCard : Claim7 := { stood := { row := descOwnUptoRow, standIns := [], harness := (true, "ff1289e9c831638eaa29561eb133615bca9d651fafc04b989f302840e349af8c"), looks := false }, kinds := [], alts := [], laidByText := true, laidKinds := [.data, .pinned], laidTests := true, laidLooks := .later }
def DescOwnUptoCardSaid : Prop := Claim7.holds Tryd.pinned (.plain (OpenSpec.upto descOwnSpec)) descOwnUptoCard
end Rows
end Go.Proofs.YtlajkmnmooilmaaDoor
