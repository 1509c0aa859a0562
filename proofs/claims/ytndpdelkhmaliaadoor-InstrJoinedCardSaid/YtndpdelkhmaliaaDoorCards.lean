/-
  DERIVED. GIVEN WITH THE SEED: THE CARDS: each row of YtndpdelkhmaliaaDoorRows.lean that lists a variable, with what it lists TIED to the program's text (the seventh form; the later family's looks); each row that meets fmt, with fmt's text TOLD by the authors' own Lean function (tested against real Go, not proved from fmt's source: count such statements apart). THE CARD IS WHAT COUNTS. Prove the row's statement (the work); the ties are given (YtndpdelkhmaliaaDoorTie.lean); close each card by the builder's one call (the guide's Derived/Test/ToyasCard.lean, 'card_holds'). Laid BY PROGRAM, IN A SANDBOX (cutbox-door.mjs). By AI agents, Wed Nov 11 2026. No macro, syntax, notation, axiom, sorry.
-/
import Derived.Test.YtndpdelkhmaliaaDoorRows
import GoSem.ClaimSeven
namespace Go.Proofs.YtndpdelkhmaliaaDoor
namespace Rows

/-- THE TIED CARD OF 'keystonelaw4.InstrWrites'. -/
def instrWritesCard : Claim7 := { stood := { row := instrWritesRow, standIns := [], harness := (true, "e64cd429ce68a65eb36b03e76d70d0dc6a94718771d01117b81d13cefcfd8549"), looks := false }, kinds := [], alts := [], laidByText := true, laidKinds := [.listed, .data], laidTests := true, laidLooks := .later }
def InstrWritesCardSaid : Prop := Claim7.holds Tryd.pinned (.plain (OpenSpec.ofChange instrWritesSpec)) instrWritesCard

/-- THE TIED CARD OF 'keystonelaw4.InstrWords'. -/
def instrWordsCard : Claim7 := { stood := { row := instrWordsRow, standIns := [], harness := (true, "e64cd429ce68a65eb36b03e76d70d0dc6a94718771d01117b81d13cefcfd8549"), looks := false }, kinds := [], alts := [], laidByText := true, laidKinds := [.listed, .data], laidTests := true, laidLooks := .later }
def InstrWordsCardSaid : Prop := Claim7.holds Tryd.pinned (.plain (OpenSpec.ofChange instrWordsSpec)) instrWordsCard

/-- THE TIED CARD OF 'keystonelaw4.InstrNames'. -/
def instrNamesCard : Claim7 := { stood := { row := instrNamesRow, standIns := [], harness := (true, "e64cd429ce68a65eb36b03e76d70d0dc6a94718771d01117b81d13cefcfd8549"), looks := false }, kinds := [], alts := [], laidByText := true, laidKinds := [.listed, .data], laidTests := true, laidLooks := .later }
def InstrNamesCardSaid : Prop := Claim7.holds Tryd.pinned (.plain (OpenSpec.ofChange instrNamesSpec)) instrNamesCard

/-- THE TIED CARD OF 'keystonelaw4.InstrReads'. -/
def instrReadsCard : Claim7 := { stood := { row := instrReadsRow, standIns := [], harness := (true, "e64cd429ce68a65eb36b03e76d70d0dc6a94718771d01117b81d13cefcfd8549"), looks := false }, kinds := [], alts := [], laidByText := true, laidKinds := [.listed, .data], laidTests := true, laidLooks := .later }
def InstrReadsCardSaid : Prop := Claim7.holds Tryd.pinned (.plain (OpenSpec.ofChange instrReadsSpec)) instrReadsCard

/-- THE TIED CARD OF 'keystonelaw4.InstrJoined'. -/
def instrJoinedCard : Claim7 := { stood := { row := instrJoinedRow, standIns := [], harness := (true, "e64cd429ce68a65eb36b03e76d70d0dc6a94718771d01117b81d13cefcfd8549"), looks := false }, kinds := [], alts := [], laidByText := true, laidKinds := [.listed, .data], laidTests := true, laidLooks := .later }
def InstrJoinedCardSaid : Prop := Claim7.holds Tryd.pinned (.plain (OpenSpec.ofChange instrJoinedSpec)) instrJoinedCard

/-- THE TIED CARD OF 'keystonelaw4.InstrBack'. -/
def instrBackCard : Claim7 := { stood := { row := instrBackRow, standIns := [], harness := (true, "e64cd429ce68a65eb36b03e76d70d0dc6a94718771d01117b81d13cefcfd8549"), looks := false }, kinds := [], alts := [], laidByText := true, laidKinds := [.listed, .data], laidTests := true, laidLooks := .later }
def InstrBackCardSaid : Prop := Claim7.holds Tryd.pinned (.plain (OpenSpec.ofChange instrBackSpec)) instrBackCard

/-- THE TIED CARD OF 'keystonelaw4.InstrOwn'. -/
def instrOwnCard : Claim7 := { stood := { row := instrOwnRow, standIns := [], harness := (true, "e64cd429ce68a65eb36b03e76d70d0dc6a94718771d01117b81d13cefcfd8549"), looks := false }, kinds := [], alts := [], laidByText := true, laidKinds := [.listed, .data], laidTests := true, laidLooks := .later }
def InstrOwnCardSaid : Prop := Claim7.holds Tryd.pinned (.plain (OpenSpec.ofChange instrOwnSpec)) instrOwnCard

/-- THE SECOND FORM's CARD OF 'keystonelaw4.InstrWrites'. -/
def instrWritesUptoCard : Claim7 := { stood := { row := instrWritesUptoRow, standIns := [], harness := (true, "e64cd429ce68a65eb36b03e76d70d0dc6a94718771d01117b81d13cefcfd8549"), looks := false }, kinds := [], alts := [], laidByText := true, laidKinds := [.listed, .data], laidTests := true, laidLooks := .later }
def InstrWritesUptoCardSaid : Prop := Claim7.holds Tryd.pinned (.plain (OpenSpec.upto instrWritesSpec)) instrWritesUptoCard

/-- THE SECOND FORM's CARD OF 'keystonelaw4.InstrWords'. -/
def instrWordsUptoCard : Claim7 := { stood := { row := instrWordsUptoRow, standIns := [], harness := (true, "e64cd429ce68a65eb36b03e76d70d0dc6a94718771d01117b81d13cefcfd8549"), looks := false }, kinds := [], alts := [], laidByText := true, laidKinds := [.listed, .data], laidTests := true, laidLooks := .later }
def InstrWordsUptoCardSaid : Prop := Claim7.holds Tryd.pinned (.plain (OpenSpec.upto instrWordsSpec)) instrWordsUptoCard

/-- THE SECOND FORM's CARD OF 'keystonelaw4.InstrNames'. -/
def instrNamesUptoCard : Claim7 := { stood := { row := instrNamesUptoRow, standIns := [], harness := (true, "e64cd429ce68a65eb36b03e76d70d0dc6a94718771d01117b81d13cefcfd8549"), looks := false }, kinds := [], alts := [], laidByText := true, laidKinds := [.listed, .data], laidTests := true, laidLooks := .later }
def InstrNamesUptoCardSaid : Prop := Claim7.holds Tryd.pinned (.plain (OpenSpec.upto instrNamesSpec)) instrNamesUptoCard

/-- THE SECOND FORM's CARD OF 'keystonelaw4.InstrReads'. -/
def instrReadsUptoCard : Claim7 := { stood := { row := instrReadsUptoRow, standIns := [], harness := (true, "e64cd429ce68a65eb36b03e76d70d0dc6a94718771d01117b81d13cefcfd8549"), looks := false }, kinds := [], alts := [], laidByText := true, laidKinds := [.listed, .data], laidTests := true, laidLooks := .later }
def InstrReadsUptoCardSaid : Prop := Claim7.holds Tryd.pinned (.plain (OpenSpec.upto instrReadsSpec)) instrReadsUptoCard

/-- THE SECOND FORM's CARD OF 'keystonelaw4.InstrJoined'. -/
def instrJoinedUptoCard : Claim7 := { stood := { row := instrJoinedUptoRow, standIns := [], harness := (true, "e64cd429ce68a65eb36b03e76d70d0dc6a94718771d01117b81d13cefcfd8549"), looks := false }, kinds := [], alts := [], laidByText := true, laidKinds := [.listed, .data], laidTests := true, laidLooks := .later }
def InstrJoinedUptoCardSaid : Prop := Claim7.holds Tryd.pinned (.plain (OpenSpec.upto instrJoinedSpec)) instrJoinedUptoCard

/-- THE SECOND FORM's CARD OF 'keystonelaw4.InstrBack'. -/
def instrBackUptoCard : Claim7 := { stood := { row := instrBackUptoRow, standIns := [], harness := (true, "e64cd429ce68a65eb36b03e76d70d0dc6a94718771d01117b81d13cefcfd8549"), looks := false }, kinds := [], alts := [], laidByText := true, laidKinds := [.listed, .data], laidTests := true, laidLooks := .later }
def InstrBackUptoCardSaid : Prop := Claim7.holds Tryd.pinned (.plain (OpenSpec.upto instrBackSpec)) instrBackUptoCard

/-- THE SECOND FORM's CARD OF 'keystonelaw4.InstrOwn'. -/
def instrOwnUptoCard : Claim7 := { stood := { row := instrOwnUptoRow, standIns := [], harness := (true, "e64cd429ce68a65eb36b03e76d70d0dc6a94718771d01117b81d13cefcfd8549"), looks := false }, kinds := [], alts := [], laidByText := true, laidKinds := [.listed, .data], laidTests := true, laidLooks := .later }
def InstrOwnUptoCardSaid : Prop := Claim7.holds Tryd.pinned (.plain (OpenSpec.upto instrOwnSpec)) instrOwnUptoCard
end Rows
end Go.Proofs.YtndpdelkhmaliaaDoor
