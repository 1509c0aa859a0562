/-
  DERIVED. GIVEN WITH THE SEED: THE CARDS: each row of YtldejfkplnejjaaDoorRows.lean that lists a variable, with what it lists TIED to the program's text (the seventh form; the later family's looks); each row that meets fmt, with fmt's text TOLD by the authors' own Lean function (tested against real Go, not proved from fmt's source: count such statements apart). THE CARD IS WHAT COUNTS. Prove the row's statement (the work); the ties are given (YtldejfkplnejjaaDoorTie.lean); close each card by the builder's one call (the guide's Derived/Test/ToyasCard.lean, 'card_holds'). Laid BY PROGRAM, IN A SANDBOX (cutbox-door.mjs). By AI agents, Wed Nov 11 2026. No macro, syntax, notation, axiom, sorry.
-/
import Derived.Test.YtldejfkplnejjaaDoorRows
import GoSem.ClaimSeven
namespace Go.Proofs.YtldejfkplnejjaaDoor
namespace Rows

/-- THE TIED CARD OF 'keystonelaw3.PoolChecks'. -/
def poolChecksCard : Claim7 := { stood := { row := poolChecksRow, standIns := [], harness := (true, "2abfca1ae1ed4115af71f3b5ca51f53112703f06d9dc094f70816c19f2ce8560"), looks := false }, kinds := [], alts := [], laidByText := true, laidKinds := [.data, .pinned], laidTests := true, laidLooks := .later }
def PoolChecksCardSaid : Prop := Claim7.holds Tryd.pinned (.plain (OpenSpec.ofChange poolChecksSpec)) poolChecksCard

/-- THE TIED CARD OF 'keystonelaw3.PoolBehind'. -/
def poolBehindCard : Claim7 := { stood := { row := poolBehindRow, standIns := [], harness := (true, "2abfca1ae1ed4115af71f3b5ca51f53112703f06d9dc094f70816c19f2ce8560"), looks := false }, kinds := [], alts := [], laidByText := true, laidKinds := [.data, .pinned], laidTests := true, laidLooks := .later }
def PoolBehindCardSaid : Prop := Claim7.holds Tryd.pinned (.plain (OpenSpec.ofChange poolBehindSpec)) poolBehindCard

/-- THE TIED CARD OF 'keystonelaw3.PoolSays'. -/
def poolSaysCard : Claim7 := { stood := { row := poolSaysRow, standIns := [], harness := (true, "2abfca1ae1ed4115af71f3b5ca51f53112703f06d9dc094f70816c19f2ce8560"), looks := false }, kinds := [], alts := [], laidByText := true, laidKinds := [.data, .pinned], laidTests := true, laidLooks := .later }
def PoolSaysCardSaid : Prop := Claim7.holds Tryd.pinned (.plain (OpenSpec.ofChange poolSaysSpec)) poolSaysCard

/-- THE TIED CARD OF 'keystonelaw3.PoolKinds'. -/
def poolKindsCard : Claim7 := { stood := { row := poolKindsRow, standIns := [], harness := (true, "2abfca1ae1ed4115af71f3b5ca51f53112703f06d9dc094f70816c19f2ce8560"), looks := false }, kinds := [], alts := [], laidByText := true, laidKinds := [.data, .pinned], laidTests := true, laidLooks := .later }
def PoolKindsCardSaid : Prop := Claim7.holds Tryd.pinned (.plain (OpenSpec.ofChange poolKindsSpec)) poolKindsCard

/-- THE TIED CARD OF 'keystonelaw3.PoolBuilds'. -/
def poolBuildsCard : Claim7 := { stood := { row := poolBuildsRow, standIns := [], harness := (true, "2abfca1ae1ed4115af71f3b5ca51f53112703f06d9dc094f70816c19f2ce8560"), looks := false }, kinds := [], alts := [], laidByText := true, laidKinds := [.data, .pinned], laidTests := true, laidLooks := .later }
def PoolBuildsCardSaid : Prop := Claim7.holds Tryd.pinned (.plain (OpenSpec.ofChange poolBuildsSpec)) poolBuildsCard

/-- THE TIED CARD OF 'keystonelaw3.PoolFull'. -/
def poolFullCard : Claim7 := { stood := { row := poolFullRow, standIns := [], harness := (true, "2abfca1ae1ed4115af71f3b5ca51f53112703f06d9dc094f70816c19f2ce8560"), looks := false }, kinds := [], alts := [], laidByText := true, laidKinds := [.data, .pinned], laidTests := true, laidLooks := .later }
def PoolFullCardSaid : Prop := Claim7.holds Tryd.pinned (.plain (OpenSpec.ofChange poolFullSpec)) poolFullCard

/-- THE TIED CARD OF 'keystonelaw3.PoolOwn'. -/
def poolOwnCard : Claim7 := { stood := { row := poolOwnRow, standIns := [], harness := (true, "2abfca1ae1ed4115af71f3b5ca51f53112703f06d9dc094f70816c19f2ce8560"), looks := false }, kinds := [], alts := [], laidByText := true, laidKinds := [.data, .pinned], laidTests := true, laidLooks := .later }
def PoolOwnCardSaid : Prop := Claim7.holds Tryd.pinned (.plain (OpenSpec.ofChange poolOwnSpec)) poolOwnCard

/-- THE TIED CARD OF 'keystonelaw3.PoolBack'. -/
def poolBackCard : Claim7 := { stood := { row := poolBackRow, standIns := [], harness := (true, "2abfca1ae1ed4115af71f3b5ca51f53112703f06d9dc094f70816c19f2ce8560"), looks := false }, kinds := [], alts := [], laidByText := true, laidKinds := [.data, .pinned], laidTests := true, laidLooks := .later }
def PoolBackCardSaid : Prop := Claim7.holds Tryd.pinned (.plain (OpenSpec.ofChange poolBackSpec)) poolBackCard

/-- THE TIED CARD OF 'keystonelaw4.InstrChecks'. -/
def instrChecksCard : Claim7 := { stood := { row := instrChecksRow, standIns := [], harness := (true, "2abfca1ae1ed4115af71f3b5ca51f53112703f06d9dc094f70816c19f2ce8560"), looks := false }, kinds := [], alts := [], laidByText := true, laidKinds := [.data, .listed, .data, .pinned], laidTests := true, laidLooks := .later }
def InstrChecksCardSaid : Prop := Claim7.holds Tryd.pinned (.plain (OpenSpec.ofChange instrChecksSpec)) instrChecksCard

/-- THE TIED CARD OF 'keystonelaw4.InstrLocals'. -/
def instrLocalsCard : Claim7 := { stood := { row := instrLocalsRow, standIns := [], harness := (true, "2abfca1ae1ed4115af71f3b5ca51f53112703f06d9dc094f70816c19f2ce8560"), looks := false }, kinds := [], alts := [], laidByText := true, laidKinds := [.data, .listed, .data, .pinned], laidTests := true, laidLooks := .later }
def InstrLocalsCardSaid : Prop := Claim7.holds Tryd.pinned (.plain (OpenSpec.ofChange instrLocalsSpec)) instrLocalsCard

/-- THE TIED CARD OF 'keystonelaw4.InstrFits'. -/
def instrFitsCard : Claim7 := { stood := { row := instrFitsRow, standIns := [], harness := (true, "2abfca1ae1ed4115af71f3b5ca51f53112703f06d9dc094f70816c19f2ce8560"), looks := false }, kinds := [], alts := [], laidByText := true, laidKinds := [.data, .listed, .data, .pinned], laidTests := true, laidLooks := .later }
def InstrFitsCardSaid : Prop := Claim7.holds Tryd.pinned (.plain (OpenSpec.ofChange instrFitsSpec)) instrFitsCard

/-- THE SECOND FORM's CARD OF 'keystonelaw3.PoolChecks'. -/
def poolChecksUptoCard : Claim7 := { stood := { row := poolChecksUptoRow, standIns := [], harness := (true, "2abfca1ae1ed4115af71f3b5ca51f53112703f06d9dc094f70816c19f2ce8560"), looks := false }, kinds := [], alts := [], laidByText := true, laidKinds := [.data, .pinned], laidTests := true, laidLooks := .later }
def PoolChecksUptoCardSaid : Prop := Claim7.holds Tryd.pinned (.plain (OpenSpec.upto poolChecksSpec)) poolChecksUptoCard

/-- THE SECOND FORM's CARD OF 'keystonelaw3.PoolBehind'. -/
def poolBehindUptoCard : Claim7 := { stood := { row := poolBehindUptoRow, standIns := [], harness := (true, "2abfca1ae1ed4115af71f3b5ca51f53112703f06d9dc094f70816c19f2ce8560"), looks := false }, kinds := [], alts := [], laidByText := true, laidKinds := [.data, .pinned], laidTests := true, laidLooks := .later }
def PoolBehindUptoCardSaid : Prop := Claim7.holds Tryd.pinned (.plain (OpenSpec.upto poolBehindSpec)) poolBehindUptoCard

/-- THE SECOND FORM's CARD OF 'keystonelaw3.PoolSays'. -/
def poolSaysUptoCard : Claim7 := { stood := { row := poolSaysUptoRow, standIns := [], harness := (true, "2abfca1ae1ed4115af71f3b5ca51f53112703f06d9dc094f70816c19f2ce8560"), looks := false }, kinds := [], alts := [], laidByText := true, laidKinds := [.data, .pinned], laidTests := true, laidLooks := .later }
def PoolSaysUptoCardSaid : Prop := Claim7.holds Tryd.pinned (.plain (OpenSpec.upto poolSaysSpec)) poolSaysUptoCard

/-- THE SECOND FORM's CARD OF 'keystonelaw3.PoolKinds'. -/
def poolKindsUptoCard : Claim7 := { stood := { row := poolKindsUptoRow, standIns := [], harness := (true, "2abfca1ae1ed4115af71f3b5ca51f53112703f06d9dc094f70816c19f2ce8560"), looks := false }, kinds := [], alts := [], laidByText := true, laidKinds := [.data, .pinned], laidTests := true, laidLooks := .later }
def PoolKindsUptoCardSaid : Prop := Claim7.holds Tryd.pinned (.plain (OpenSpec.upto poolKindsSpec)) poolKindsUptoCard

/-- THE SECOND FORM's CARD OF 'keystonelaw3.PoolBuilds'. -/
def poolBuildsUptoCard : Claim7 := { stood := { row := poolBuildsUptoRow, standIns := [], harness := (true, "2abfca1ae1ed4115af71f3b5ca51f53112703f06d9dc094f70816c19f2ce8560"), looks := false }, kinds := [], alts := [], laidByText := true, laidKinds := [.data, .pinned], laidTests := true, laidLooks := .later }
def PoolBuildsUptoCardSaid : Prop := Claim7.holds Tryd.pinned (.plain (OpenSpec.upto poolBuildsSpec)) poolBuildsUptoCard

/-- THE SECOND FORM's CARD OF 'keystonelaw3.PoolFull'. -/
def poolFullUptoCard : Claim7 := { stood := { row := poolFullUptoRow, standIns := [], harness := (true, "2abfca1ae1ed4115af71f3b5ca51f53112703f06d9dc094f70816c19f2ce8560"), looks := false }, kinds := [], alts := [], laidByText := true, laidKinds := [.data, .pinned], laidTests := true, laidLooks := .later }
def PoolFullUptoCardSaid : Prop := Claim7.holds Tryd.pinned (.plain (OpenSpec.upto poolFullSpec)) poolFullUptoCard

/-- THE SECOND FORM's CARD OF 'keystonelaw3.PoolOwn'. -/
def poolOwnUptoCard : Claim7 := { stood := { row := poolOwnUptoRow, standIns := [], harness := (true, "2abfca1ae1ed4115af71f3b5ca51f53112703f06d9dc094f70816c19f2ce8560"), looks := false }, kinds := [], alts := [], laidByText := true, laidKinds := [.data, .pinned], laidTests := true, laidLooks := .later }
def PoolOwnUptoCardSaid : Prop := Claim7.holds Tryd.pinned (.plain (OpenSpec.upto poolOwnSpec)) poolOwnUptoCard

/-- THE SECOND FORM's CARD OF 'keystonelaw3.PoolBack'. -/
def poolBackUptoCard : Claim7 := { stood := { row := poolBackUptoRow, standIns := [], harness := (true, "2abfca1ae1ed4115af71f3b5ca51f53112703f06d9dc094f70816c19f2ce8560"), looks := false }, kinds := [], alts := [], laidByText := true, laidKinds := [.data, .pinned], laidTests := true, laidLooks := .later }
def PoolBackUptoCardSaid : Prop := Claim7.holds Tryd.pinned (.plain (OpenSpec.upto poolBackSpec)) poolBackUptoCard

/-- THE SECOND FORM's CARD OF 'keystonelaw4.InstrChecks'. -/
def instrChecksUptoCard : Claim7 := { stood := { row := instrChecksUptoRow, standIns := [], harness := (true, "2abfca1ae1ed4115af71f3b5ca51f53112703f06d9dc094f70816c19f2ce8560"), looks := false }, kinds := [], alts := [], laidByText := true, laidKinds := [.data, .listed, .data, .pinned], laidTests := true, laidLooks := .later }
def InstrChecksUptoCardSaid : Prop := Claim7.holds Tryd.pinned (.plain (OpenSpec.upto instrChecksSpec)) instrChecksUptoCard

/-- THE SECOND FORM's CARD OF 'keystonelaw4.InstrLocals'. -/
def instrLocalsUptoCard : Claim7 := { stood := { row := instrLocalsUptoRow, standIns := [], harness := (true, "2abfca1ae1ed4115af71f3b5ca51f53112703f06d9dc094f70816c19f2ce8560"), looks := false }, kinds := [], alts := [], laidByText := true, laidKinds := [.data, .listed, .data, .pinned], laidTests := true, laidLooks := .later }
def InstrLocalsUptoCardSaid : Prop := Claim7.holds Tryd.pinned (.plain (OpenSpec.upto instrLocalsSpec)) instrLocalsUptoCard

/-- THE SECOND FORM's CARD OF 'keystonelaw4.InstrFits'. -/
def instrFitsUptoCard : Claim7 := { stood := { row := instrFitsUptoRow, standIns := [], harness := (true, "2abfca1ae1ed4115af71f3b5ca51f53112703f06d9dc094f70816c19f2ce8560"), looks := false }, kinds := [], alts := [], laidByText := true, laidKinds := [.data, .listed, .data, .pinned], laidTests := true, laidLooks := .later }
def InstrFitsUptoCardSaid : Prop := Claim7.holds Tryd.pinned (.plain (OpenSpec.upto instrFitsSpec)) instrFitsUptoCard
end Rows
end Go.Proofs.YtldejfkplnejjaaDoor
