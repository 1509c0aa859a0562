/-
  NARROWER THAN 'FOR EVERY INPUT', by the rows' own cells (each row's printed sentence says how): DescLimits: laid · DescNamed: laid · DescNames: laid · DescTypes: laid · DescElements: laid · DescParts: laid · DescSigs: laid · DescTurns: laid · DescBack: laid · DescMakes: laid · DescSame: laid · DescOwn: laid.
  DERIVED. THE GIVEN ROWS OF THIS SEAT. 12 by the template 'for every input the law returns true; each argument reads behind the call as it read before'; 0 by the template 'total and deterministic' (their statements: YtlajkmnmooilmaaDoorTotals.lean).
  GIVEN WITH THE SEED: the statements are not yours to turn. If you find one false, say at which input.
  Laid BY PROGRAM, IN A SANDBOX (cutbox-rows.mjs): the forced cells as the released guide's own fill.sh prints them over the translation 4a49121f0d34d4c2… (all of the seat's roots in one cut). By AI agents, Wed Nov 11 2026. No macro, syntax, notation, axiom, sorry.
-/
import Derived.Test.YtlajkmnmooilmaaDoorChecked
import GoSem.PinnedTables
import GoSem.Claim
import GoSem.ClaimJoined
import GoSem.ClaimMapViews
import Derived.JoinedTies
import Derived.KernelRfl
namespace Go.Proofs.YtlajkmnmooilmaaDoor
/- THE CELL 'sum', in the pinned program and in every row, IS THE sha256 OF THE DUMP (.gsa) THAT YtlajkmnmooilmaaDoorProg.lean LOADS. Nothing in Lean hashes anything: it is a label: what it is worth is what the hold of that sum in a sandbox is worth. -/
noncomputable def Tryd.pinned : Pinned := { name := "ytlajkmnmooilmaadoor", sum := "4a49121f0d34d4c261ef568712722c40b8e33c2b7e5ae3a8d5c136db73f37ec2", checked := Tryd.checked }
namespace Rows
def none {H : Type} : Left H := { results := [], args := [] }

/- WHAT THE LISTED PACKAGE-LEVEL VARIABLES READ AS WHEN THE CALL BEGINS. Each datum BY PROGRAM (the guide's laid-datum.mjs) off the statement by which the dump's own 'gosem.cut.vars' lays the variable. In a bare row this is a premise. The card (YtlajkmnmooilmaaDoorCards.lean) ties it to the program's text. -/
def laid_unicode_utf8_acceptRanges {H : Type} : DataW H := .agg [.agg [.lit (.int .u8 128), .lit (.int .u8 191)], .agg [.lit (.int .u8 160), .lit (.int .u8 191)], .agg [.lit (.int .u8 128), .lit (.int .u8 159)], .agg [.lit (.int .u8 144), .lit (.int .u8 191)], .agg [.lit (.int .u8 128), .lit (.int .u8 143)], .agg [.lit (.int .u8 0), .lit (.int .u8 0)], .agg [.lit (.int .u8 0), .lit (.int .u8 0)], .agg [.lit (.int .u8 0), .lit (.int .u8 0)], .agg [.lit (.int .u8 0), .lit (.int .u8 0)], .agg [.lit (.int .u8 0), .lit (.int .u8 0)], .agg [.lit (.int .u8 0), .lit (.int .u8 0)], .agg [.lit (.int .u8 0), .lit (.int .u8 0)], .agg [.lit (.int .u8 0), .lit (.int .u8 0)], .agg [.lit (.int .u8 0), .lit (.int .u8 0)], .agg [.lit (.int .u8 0), .lit (.int .u8 0)], .agg [.lit (.int .u8 0), .lit (.int .u8 0)]]
/-- One of Go's own tables, pinned by name: the form's constant. -/
def laid_unicode_utf8_first : DataW Unit := Go.Pinned.utf8First

/-- 'keystonelaw2.DescLimits': WHATEVER THE INPUT: true; the input reads as it did. -/
def descLimitsSpec : ChangeSpec := { name := "descLimits", fn := fun _ => fun
  | [d1, d2, d3] => { results := [.lit (.bool true)], args := [d1, d2, d3] }
  | _ => none }
def descLimitsRow : OpenClaim := { program := "ytlajkmnmooilmaadoor", sum := "4a49121f0d34d4c261ef568712722c40b8e33c2b7e5ae3a8d5c136db73f37ec2", func := "keystone/keystonelaw2.DescLimits", spec := "descLimits", inPlace := ["internal/bytealg.IndexByteString", "internal/bytealg.IndexString"], named := ["unicode/utf8.first", "unicode/utf8.acceptRanges", "internal/bytealg.MaxLen"], apart := false, laid := [("unicode/utf8.acceptRanges", laid_unicode_utf8_acceptRanges), ("unicode/utf8.first", laid_unicode_utf8_first)] }
def DescLimitsSaid : Prop := descLimitsRow.holds Tryd.pinned (OpenSpec.ofChange descLimitsSpec)

/-- ITS FALSE NEIGHBOUR: 'it returns false'. Refute it at one input. -/
def descLimitsWrong : ChangeSpec := { name := "descLimits", fn := fun _ => fun
  | [d1, d2, d3] => { results := [.lit (.bool false)], args := [d1, d2, d3] }
  | _ => none }
def DescLimitsWrongFalsely : Prop := descLimitsRow.holds Tryd.pinned (OpenSpec.ofChange descLimitsWrong)

/-- 'keystonelaw2.DescNamed': WHATEVER THE INPUT: true; the input reads as it did. -/
def descNamedSpec : ChangeSpec := { name := "descNamed", fn := fun _ => fun
  | [d] => { results := [.lit (.bool true)], args := [d] }
  | _ => none }
def descNamedRow : OpenClaim := { program := "ytlajkmnmooilmaadoor", sum := "4a49121f0d34d4c261ef568712722c40b8e33c2b7e5ae3a8d5c136db73f37ec2", func := "keystone/keystonelaw2.DescNamed", spec := "descNamed", inPlace := ["internal/bytealg.IndexByteString", "internal/bytealg.IndexString"], named := ["unicode/utf8.first", "unicode/utf8.acceptRanges", "internal/bytealg.MaxLen"], apart := false, laid := [("unicode/utf8.acceptRanges", laid_unicode_utf8_acceptRanges), ("unicode/utf8.first", laid_unicode_utf8_first)] }
def DescNamedSaid : Prop := descNamedRow.holds Tryd.pinned (OpenSpec.ofChange descNamedSpec)

/-- ITS FALSE NEIGHBOUR: 'it returns false'. Refute it at one input. -/
def descNamedWrong : ChangeSpec := { name := "descNamed", fn := fun _ => fun
  | [d] => { results := [.lit (.bool false)], args := [d] }
  | _ => none }
def DescNamedWrongFalsely : Prop := descNamedRow.holds Tryd.pinned (OpenSpec.ofChange descNamedWrong)

/-- 'keystonelaw2.DescNames': WHATEVER THE INPUT: true; the input reads as it did. -/
def descNamesSpec : ChangeSpec := { name := "descNames", fn := fun _ => fun
  | [d1, d2] => { results := [.lit (.bool true)], args := [d1, d2] }
  | _ => none }
def descNamesRow : OpenClaim := { program := "ytlajkmnmooilmaadoor", sum := "4a49121f0d34d4c261ef568712722c40b8e33c2b7e5ae3a8d5c136db73f37ec2", func := "keystone/keystonelaw2.DescNames", spec := "descNames", inPlace := ["internal/bytealg.IndexByteString", "internal/bytealg.IndexString"], named := ["unicode/utf8.first", "unicode/utf8.acceptRanges", "internal/bytealg.MaxLen"], apart := false, laid := [("unicode/utf8.acceptRanges", laid_unicode_utf8_acceptRanges), ("unicode/utf8.first", laid_unicode_utf8_first)] }
def DescNamesSaid : Prop := descNamesRow.holds Tryd.pinned (OpenSpec.ofChange descNamesSpec)

/-- ITS FALSE NEIGHBOUR: 'it returns false'. Refute it at one input. -/
def descNamesWrong : ChangeSpec := { name := "descNames", fn := fun _ => fun
  | [d1, d2] => { results := [.lit (.bool false)], args := [d1, d2] }
  | _ => none }
def DescNamesWrongFalsely : Prop := descNamesRow.holds Tryd.pinned (OpenSpec.ofChange descNamesWrong)

/-- 'keystonelaw2.DescTypes': WHATEVER THE INPUT: true; the input reads as it did. -/
def descTypesSpec : ChangeSpec := { name := "descTypes", fn := fun _ => fun
  | [d1, d2] => { results := [.lit (.bool true)], args := [d1, d2] }
  | _ => none }
def descTypesRow : OpenClaim := { program := "ytlajkmnmooilmaadoor", sum := "4a49121f0d34d4c261ef568712722c40b8e33c2b7e5ae3a8d5c136db73f37ec2", func := "keystone/keystonelaw2.DescTypes", spec := "descTypes", inPlace := ["internal/bytealg.IndexByteString", "internal/bytealg.IndexString", "internal/abi.NoEscape", "internal/bytealg.MakeNoZero"], named := ["unicode/utf8.first", "unicode/utf8.acceptRanges", "internal/bytealg.MaxLen"], apart := false, laid := [("unicode/utf8.acceptRanges", laid_unicode_utf8_acceptRanges), ("unicode/utf8.first", laid_unicode_utf8_first)] }
def DescTypesSaid : Prop := descTypesRow.holds Tryd.pinned (OpenSpec.ofChange descTypesSpec)

/-- ITS FALSE NEIGHBOUR: 'it returns false'. Refute it at one input. -/
def descTypesWrong : ChangeSpec := { name := "descTypes", fn := fun _ => fun
  | [d1, d2] => { results := [.lit (.bool false)], args := [d1, d2] }
  | _ => none }
def DescTypesWrongFalsely : Prop := descTypesRow.holds Tryd.pinned (OpenSpec.ofChange descTypesWrong)

/-- 'keystonelaw2.DescElements': WHATEVER THE INPUT: true; the input reads as it did. -/
def descElementsSpec : ChangeSpec := { name := "descElements", fn := fun _ => fun
  | [d] => { results := [.lit (.bool true)], args := [d] }
  | _ => none }
def descElementsRow : OpenClaim := { program := "ytlajkmnmooilmaadoor", sum := "4a49121f0d34d4c261ef568712722c40b8e33c2b7e5ae3a8d5c136db73f37ec2", func := "keystone/keystonelaw2.DescElements", spec := "descElements", inPlace := ["internal/bytealg.IndexByteString", "internal/bytealg.IndexString", "internal/abi.NoEscape", "internal/bytealg.MakeNoZero"], named := ["unicode/utf8.first", "unicode/utf8.acceptRanges", "internal/bytealg.MaxLen"], apart := false, laid := [("unicode/utf8.acceptRanges", laid_unicode_utf8_acceptRanges), ("unicode/utf8.first", laid_unicode_utf8_first)] }
def DescElementsSaid : Prop := descElementsRow.holds Tryd.pinned (OpenSpec.ofChange descElementsSpec)

/-- ITS FALSE NEIGHBOUR: 'it returns false'. Refute it at one input. -/
def descElementsWrong : ChangeSpec := { name := "descElements", fn := fun _ => fun
  | [d] => { results := [.lit (.bool false)], args := [d] }
  | _ => none }
def DescElementsWrongFalsely : Prop := descElementsRow.holds Tryd.pinned (OpenSpec.ofChange descElementsWrong)

/-- 'keystonelaw2.DescParts': WHATEVER THE INPUT: true; the input reads as it did. -/
def descPartsSpec : ChangeSpec := { name := "descParts", fn := fun _ => fun
  | [d] => { results := [.lit (.bool true)], args := [d] }
  | _ => none }
def descPartsRow : OpenClaim := { program := "ytlajkmnmooilmaadoor", sum := "4a49121f0d34d4c261ef568712722c40b8e33c2b7e5ae3a8d5c136db73f37ec2", func := "keystone/keystonelaw2.DescParts", spec := "descParts", inPlace := ["internal/bytealg.IndexByteString", "internal/bytealg.IndexString", "internal/abi.NoEscape", "internal/bytealg.MakeNoZero"], named := ["unicode/utf8.first", "unicode/utf8.acceptRanges", "internal/bytealg.MaxLen"], apart := false, laid := [("unicode/utf8.acceptRanges", laid_unicode_utf8_acceptRanges), ("unicode/utf8.first", laid_unicode_utf8_first)] }
def DescPartsSaid : Prop := descPartsRow.holds Tryd.pinned (OpenSpec.ofChange descPartsSpec)

/-- ITS FALSE NEIGHBOUR: 'it returns false'. Refute it at one input. -/
def descPartsWrong : ChangeSpec := { name := "descParts", fn := fun _ => fun
  | [d] => { results := [.lit (.bool false)], args := [d] }
  | _ => none }
def DescPartsWrongFalsely : Prop := descPartsRow.holds Tryd.pinned (OpenSpec.ofChange descPartsWrong)

/-- 'keystonelaw2.DescSigs': WHATEVER THE INPUT: true; the input reads as it did. -/
def descSigsSpec : ChangeSpec := { name := "descSigs", fn := fun _ => fun
  | [d1, d2, d3] => { results := [.lit (.bool true)], args := [d1, d2, d3] }
  | _ => none }
def descSigsRow : OpenClaim := { program := "ytlajkmnmooilmaadoor", sum := "4a49121f0d34d4c261ef568712722c40b8e33c2b7e5ae3a8d5c136db73f37ec2", func := "keystone/keystonelaw2.DescSigs", spec := "descSigs", inPlace := ["internal/bytealg.IndexByteString", "internal/bytealg.IndexString", "internal/abi.NoEscape", "internal/bytealg.MakeNoZero"], named := ["unicode/utf8.first", "unicode/utf8.acceptRanges", "internal/bytealg.MaxLen"], apart := false, laid := [("unicode/utf8.acceptRanges", laid_unicode_utf8_acceptRanges), ("unicode/utf8.first", laid_unicode_utf8_first)] }
def DescSigsSaid : Prop := descSigsRow.holds Tryd.pinned (OpenSpec.ofChange descSigsSpec)

/-- ITS FALSE NEIGHBOUR: 'it returns false'. Refute it at one input. -/
def descSigsWrong : ChangeSpec := { name := "descSigs", fn := fun _ => fun
  | [d1, d2, d3] => { results := [.lit (.bool false)], args := [d1, d2, d3] }
  | _ => none }
def DescSigsWrongFalsely : Prop := descSigsRow.holds Tryd.pinned (OpenSpec.ofChange descSigsWrong)

/-- 'keystonelaw2.DescTurns': WHATEVER THE INPUT: true; the input reads as it did. -/
def descTurnsSpec : ChangeSpec := { name := "descTurns", fn := fun _ => fun
  | [d1, d2, d3, d4, d5] => { results := [.lit (.bool true)], args := [d1, d2, d3, d4, d5] }
  | _ => none }
def descTurnsRow : OpenClaim := { program := "ytlajkmnmooilmaadoor", sum := "4a49121f0d34d4c261ef568712722c40b8e33c2b7e5ae3a8d5c136db73f37ec2", func := "keystone/keystonelaw2.DescTurns", spec := "descTurns", inPlace := ["internal/bytealg.IndexByteString", "internal/bytealg.IndexString", "internal/abi.NoEscape", "internal/bytealg.MakeNoZero"], named := ["unicode/utf8.first", "unicode/utf8.acceptRanges", "internal/bytealg.MaxLen"], apart := false, laid := [("unicode/utf8.acceptRanges", laid_unicode_utf8_acceptRanges), ("unicode/utf8.first", laid_unicode_utf8_first)] }
def DescTurnsSaid : Prop := descTurnsRow.holds Tryd.pinned (OpenSpec.ofChange descTurnsSpec)

/-- ITS FALSE NEIGHBOUR: 'it returns false'. Refute it at one input. -/
def descTurnsWrong : ChangeSpec := { name := "descTurns", fn := fun _ => fun
  | [d1, d2, d3, d4, d5] => { results := [.lit (.bool false)], args := [d1, d2, d3, d4, d5] }
  | _ => none }
def DescTurnsWrongFalsely : Prop := descTurnsRow.holds Tryd.pinned (OpenSpec.ofChange descTurnsWrong)

/-- 'keystonelaw2.DescBack': WHATEVER THE INPUT: true; the input reads as it did. -/
def descBackSpec : ChangeSpec := { name := "descBack", fn := fun _ => fun
  | [d1, d2, d3] => { results := [.lit (.bool true)], args := [d1, d2, d3] }
  | _ => none }
def descBackRow : OpenClaim := { program := "ytlajkmnmooilmaadoor", sum := "4a49121f0d34d4c261ef568712722c40b8e33c2b7e5ae3a8d5c136db73f37ec2", func := "keystone/keystonelaw2.DescBack", spec := "descBack", inPlace := ["internal/bytealg.IndexByteString", "internal/bytealg.IndexString", "internal/abi.NoEscape", "internal/bytealg.MakeNoZero"], named := ["unicode/utf8.first", "unicode/utf8.acceptRanges", "internal/bytealg.MaxLen"], apart := false, laid := [("unicode/utf8.acceptRanges", laid_unicode_utf8_acceptRanges), ("unicode/utf8.first", laid_unicode_utf8_first)] }
def DescBackSaid : Prop := descBackRow.holds Tryd.pinned (OpenSpec.ofChange descBackSpec)

/-- ITS FALSE NEIGHBOUR: 'it returns false'. Refute it at one input. -/
def descBackWrong : ChangeSpec := { name := "descBack", fn := fun _ => fun
  | [d1, d2, d3] => { results := [.lit (.bool false)], args := [d1, d2, d3] }
  | _ => none }
def DescBackWrongFalsely : Prop := descBackRow.holds Tryd.pinned (OpenSpec.ofChange descBackWrong)

/-- 'keystonelaw2.DescMakes': WHATEVER THE INPUT: true; the input reads as it did. -/
def descMakesSpec : ChangeSpec := { name := "descMakes", fn := fun _ => fun
  | [d1, d2] => { results := [.lit (.bool true)], args := [d1, d2] }
  | _ => none }
def descMakesRow : OpenClaim := { program := "ytlajkmnmooilmaadoor", sum := "4a49121f0d34d4c261ef568712722c40b8e33c2b7e5ae3a8d5c136db73f37ec2", func := "keystone/keystonelaw2.DescMakes", spec := "descMakes", inPlace := ["internal/bytealg.IndexByteString", "internal/bytealg.IndexString", "internal/abi.NoEscape", "internal/bytealg.MakeNoZero"], named := ["unicode/utf8.first", "unicode/utf8.acceptRanges", "internal/bytealg.MaxLen"], apart := false, laid := [("unicode/utf8.acceptRanges", laid_unicode_utf8_acceptRanges), ("unicode/utf8.first", laid_unicode_utf8_first)] }
def DescMakesSaid : Prop := descMakesRow.holds Tryd.pinned (OpenSpec.ofChange descMakesSpec)

/-- ITS FALSE NEIGHBOUR: 'it returns false'. Refute it at one input. -/
def descMakesWrong : ChangeSpec := { name := "descMakes", fn := fun _ => fun
  | [d1, d2] => { results := [.lit (.bool false)], args := [d1, d2] }
  | _ => none }
def DescMakesWrongFalsely : Prop := descMakesRow.holds Tryd.pinned (OpenSpec.ofChange descMakesWrong)

/-- 'keystonelaw2.DescSame': WHATEVER THE INPUT: true; the input reads as it did. -/
def descSameSpec : ChangeSpec := { name := "descSame", fn := fun _ => fun
  | [d1, d2] => { results := [.lit (.bool true)], args := [d1, d2] }
  | _ => none }
def descSameRow : OpenClaim := { program := "ytlajkmnmooilmaadoor", sum := "4a49121f0d34d4c261ef568712722c40b8e33c2b7e5ae3a8d5c136db73f37ec2", func := "keystone/keystonelaw2.DescSame", spec := "descSame", inPlace := ["internal/bytealg.IndexByteString", "internal/bytealg.IndexString", "internal/abi.NoEscape", "internal/bytealg.MakeNoZero"], named := ["unicode/utf8.first", "unicode/utf8.acceptRanges", "internal/bytealg.MaxLen"], apart := false, laid := [("unicode/utf8.acceptRanges", laid_unicode_utf8_acceptRanges), ("unicode/utf8.first", laid_unicode_utf8_first)] }
def DescSameSaid : Prop := descSameRow.holds Tryd.pinned (OpenSpec.ofChange descSameSpec)

/-- ITS FALSE NEIGHBOUR: 'it returns false'. Refute it at one input. -/
def descSameWrong : ChangeSpec := { name := "descSame", fn := fun _ => fun
  | [d1, d2] => { results := [.lit (.bool false)], args := [d1, d2] }
  | _ => none }
def DescSameWrongFalsely : Prop := descSameRow.holds Tryd.pinned (OpenSpec.ofChange descSameWrong)

/-- 'keystonelaw2.DescOwn': WHATEVER THE INPUT: true; the input reads as it did. -/
def descOwnSpec : ChangeSpec := { name := "descOwn", fn := fun _ => fun
  | [d1, d2] => { results := [.lit (.bool true)], args := [d1, d2] }
  | _ => none }
def descOwnRow : OpenClaim := { program := "ytlajkmnmooilmaadoor", sum := "4a49121f0d34d4c261ef568712722c40b8e33c2b7e5ae3a8d5c136db73f37ec2", func := "keystone/keystonelaw2.DescOwn", spec := "descOwn", inPlace := ["internal/bytealg.IndexByteString", "internal/bytealg.IndexString", "internal/abi.NoEscape", "internal/bytealg.MakeNoZero"], named := ["unicode/utf8.first", "unicode/utf8.acceptRanges", "internal/bytealg.MaxLen"], apart := false, laid := [("unicode/utf8.acceptRanges", laid_unicode_utf8_acceptRanges), ("unicode/utf8.first", laid_unicode_utf8_first)] }
def DescOwnSaid : Prop := descOwnRow.holds Tryd.pinned (OpenSpec.ofChange descOwnSpec)

/-- ITS FALSE NEIGHBOUR: 'it returns false'. Refute it at one input. -/
def descOwnWrong : ChangeSpec := { name := "descOwn", fn := fun _ => fun
  | [d1, d2] => { results := [.lit (.bool false)], args := [d1, d2] }
  | _ => none }
def DescOwnWrongFalsely : Prop := descOwnRow.holds Tryd.pinned (OpenSpec.ofChange descOwnWrong)

/- THE SECOND FORM. 'bulk': how many values and letters a reading holds, each counted each time it is reached (what is shared counts as often as it is met; a slice's spare places count too). A statement '..UptoSaid' is the law's where the arguments, and the package variables that the reading takes, are together of bulk at most 1048576: NARROWER than '..Said'. Prove '..Said' where nothing that the law and all that it calls make is longer than what came in: it says more and counts as full. Else prove '..UptoSaid'. A law counts once. -/
mutual
def uptoBulk {H : Type} : DataW H → Nat
  | .lit (.string bytes) => bytes.length + 1
  | .lit _ => 1
  | .nil => 1
  | .ptr d => uptoBulk d + 1
  | .slice elems spare => uptoBulkAll elems + uptoBulkAll spare + 1
  | .agg parts => uptoBulkAll parts + 1
  | .iface _ d => uptoBulk d + 1
  | .map entries => uptoBulkEntries entries + 1
  | .held _ => 1
def uptoBulkAll {H : Type} : List (DataW H) → Nat
  | [] => 0
  | d :: r => uptoBulk d + uptoBulkAll r
def uptoBulkEntries {H : Type} : List (Lit × DataW H) → Nat
  | [] => 0
  | x :: r => uptoBulkEntry x + uptoBulkEntries r
def uptoBulkEntry {H : Type} : Lit × DataW H → Nat
  | (.string bytes, d) => bytes.length + uptoBulk d + 1
  | (_, d) => uptoBulk d + 1
 end
def uptoSmall : (H : Type) → List (DataW H) → Bool := fun _ ds => decide (uptoBulkAll ds ≤ 1048576)
def OpenSpec.upto (s : _root_.Go.ChangeSpec) : _root_.Go.OpenSpec := { _root_.Go.OpenSpec.ofChange s with cond := some uptoSmall }

/-- 'keystonelaw2.DescLimits', WHERE WHAT IT READS IS OF BULK AT MOST 1048576: true; the input reads as it did. -/
def descLimitsUptoRow : OpenClaim := { program := "ytlajkmnmooilmaadoor", sum := "4a49121f0d34d4c261ef568712722c40b8e33c2b7e5ae3a8d5c136db73f37ec2", func := "keystone/keystonelaw2.DescLimits", spec := "descLimits", inPlace := ["internal/bytealg.IndexByteString", "internal/bytealg.IndexString"], named := ["unicode/utf8.first", "unicode/utf8.acceptRanges", "internal/bytealg.MaxLen"], apart := false, laid := [("unicode/utf8.acceptRanges", laid_unicode_utf8_acceptRanges), ("unicode/utf8.first", laid_unicode_utf8_first)], narrowed := true }
def DescLimitsUptoSaid : Prop := descLimitsUptoRow.holds Tryd.pinned (OpenSpec.upto descLimitsSpec)

/-- 'keystonelaw2.DescNamed', WHERE WHAT IT READS IS OF BULK AT MOST 1048576: true; the input reads as it did. -/
def descNamedUptoRow : OpenClaim := { program := "ytlajkmnmooilmaadoor", sum := "4a49121f0d34d4c261ef568712722c40b8e33c2b7e5ae3a8d5c136db73f37ec2", func := "keystone/keystonelaw2.DescNamed", spec := "descNamed", inPlace := ["internal/bytealg.IndexByteString", "internal/bytealg.IndexString"], named := ["unicode/utf8.first", "unicode/utf8.acceptRanges", "internal/bytealg.MaxLen"], apart := false, laid := [("unicode/utf8.acceptRanges", laid_unicode_utf8_acceptRanges), ("unicode/utf8.first", laid_unicode_utf8_first)], narrowed := true }
def DescNamedUptoSaid : Prop := descNamedUptoRow.holds Tryd.pinned (OpenSpec.upto descNamedSpec)

/-- 'keystonelaw2.DescNames', WHERE WHAT IT READS IS OF BULK AT MOST 1048576: true; the input reads as it did. -/
def descNamesUptoRow : OpenClaim := { program := "ytlajkmnmooilmaadoor", sum := "4a49121f0d34d4c261ef568712722c40b8e33c2b7e5ae3a8d5c136db73f37ec2", func := "keystone/keystonelaw2.DescNames", spec := "descNames", inPlace := ["internal/bytealg.IndexByteString", "internal/bytealg.IndexString"], named := ["unicode/utf8.first", "unicode/utf8.acceptRanges", "internal/bytealg.MaxLen"], apart := false, laid := [("unicode/utf8.acceptRanges", laid_unicode_utf8_acceptRanges), ("unicode/utf8.first", laid_unicode_utf8_first)], narrowed := true }
def DescNamesUptoSaid : Prop := descNamesUptoRow.holds Tryd.pinned (OpenSpec.upto descNamesSpec)

/-- 'keystonelaw2.DescTypes', WHERE WHAT IT READS IS OF BULK AT MOST 1048576: true; the input reads as it did. -/
def descTypesUptoRow : OpenClaim := { program := "ytlajkmnmooilmaadoor", sum := "4a49121f0d34d4c261ef568712722c40b8e33c2b7e5ae3a8d5c136db73f37ec2", func := "keystone/keystonelaw2.DescTypes", spec := "descTypes", inPlace := ["internal/bytealg.IndexByteString", "internal/bytealg.IndexString", "internal/abi.NoEscape", "internal/bytealg.MakeNoZero"], named := ["unicode/utf8.first", "unicode/utf8.acceptRanges", "internal/bytealg.MaxLen"], apart := false, laid := [("unicode/utf8.acceptRanges", laid_unicode_utf8_acceptRanges), ("unicode/utf8.first", laid_unicode_utf8_first)], narrowed := true }
def DescTypesUptoSaid : Prop := descTypesUptoRow.holds Tryd.pinned (OpenSpec.upto descTypesSpec)

/-- 'keystonelaw2.DescElements', WHERE WHAT IT READS IS OF BULK AT MOST 1048576: true; the input reads as it did. -/
def descElementsUptoRow : OpenClaim := { program := "ytlajkmnmooilmaadoor", sum := "4a49121f0d34d4c261ef568712722c40b8e33c2b7e5ae3a8d5c136db73f37ec2", func := "keystone/keystonelaw2.DescElements", spec := "descElements", inPlace := ["internal/bytealg.IndexByteString", "internal/bytealg.IndexString", "internal/abi.NoEscape", "internal/bytealg.MakeNoZero"], named := ["unicode/utf8.first", "unicode/utf8.acceptRanges", "internal/bytealg.MaxLen"], apart := false, laid := [("unicode/utf8.acceptRanges", laid_unicode_utf8_acceptRanges), ("unicode/utf8.first", laid_unicode_utf8_first)], narrowed := true }
def DescElementsUptoSaid : Prop := descElementsUptoRow.holds Tryd.pinned (OpenSpec.upto descElementsSpec)

/-- 'keystonelaw2.DescParts', WHERE WHAT IT READS IS OF BULK AT MOST 1048576: true; the input reads as it did. -/
def descPartsUptoRow : OpenClaim := { program := "ytlajkmnmooilmaadoor", sum := "4a49121f0d34d4c261ef568712722c40b8e33c2b7e5ae3a8d5c136db73f37ec2", func := "keystone/keystonelaw2.DescParts", spec := "descParts", inPlace := ["internal/bytealg.IndexByteString", "internal/bytealg.IndexString", "internal/abi.NoEscape", "internal/bytealg.MakeNoZero"], named := ["unicode/utf8.first", "unicode/utf8.acceptRanges", "internal/bytealg.MaxLen"], apart := false, laid := [("unicode/utf8.acceptRanges", laid_unicode_utf8_acceptRanges), ("unicode/utf8.first", laid_unicode_utf8_first)], narrowed := true }
def DescPartsUptoSaid : Prop := descPartsUptoRow.holds Tryd.pinned (OpenSpec.upto descPartsSpec)

/-- 'keystonelaw2.DescSigs', WHERE WHAT IT READS IS OF BULK AT MOST 1048576: true; the input reads as it did. -/
def descSigsUptoRow : OpenClaim := { program := "ytlajkmnmooilmaadoor", sum := "4a49121f0d34d4c261ef568712722c40b8e33c2b7e5ae3a8d5c136db73f37ec2", func := "keystone/keystonelaw2.DescSigs", spec := "descSigs", inPlace := ["internal/bytealg.IndexByteString", "internal/bytealg.IndexString", "internal/abi.NoEscape", "internal/bytealg.MakeNoZero"], named := ["unicode/utf8.first", "unicode/utf8.acceptRanges", "internal/bytealg.MaxLen"], apart := false, laid := [("unicode/utf8.acceptRanges", laid_unicode_utf8_acceptRanges), ("unicode/utf8.first", laid_unicode_utf8_first)], narrowed := true }
def DescSigsUptoSaid : Prop := descSigsUptoRow.holds Tryd.pinned (OpenSpec.upto descSigsSpec)

/-- 'keystonelaw2.DescTurns', WHERE WHAT IT READS IS OF BULK AT MOST 1048576: true; the input reads as it did. -/
def descTurnsUptoRow : OpenClaim := { program := "ytlajkmnmooilmaadoor", sum := "4a49121f0d34d4c261ef568712722c40b8e33c2b7e5ae3a8d5c136db73f37ec2", func := "keystone/keystonelaw2.DescTurns", spec := "descTurns", inPlace := ["internal/bytealg.IndexByteString", "internal/bytealg.IndexString", "internal/abi.NoEscape", "internal/bytealg.MakeNoZero"], named := ["unicode/utf8.first", "unicode/utf8.acceptRanges", "internal/bytealg.MaxLen"], apart := false, laid := [("unicode/utf8.acceptRanges", laid_unicode_utf8_acceptRanges), ("unicode/utf8.first", laid_unicode_utf8_first)], narrowed := true }
def DescTurnsUptoSaid : Prop := descTurnsUptoRow.holds Tryd.pinned (OpenSpec.upto descTurnsSpec)

/-- 'keystonelaw2.DescBack', WHERE WHAT IT READS IS OF BULK AT MOST 1048576: true; the input reads as it did. -/
def descBackUptoRow : OpenClaim := { program := "ytlajkmnmooilmaadoor", sum := "4a49121f0d34d4c261ef568712722c40b8e33c2b7e5ae3a8d5c136db73f37ec2", func := "keystone/keystonelaw2.DescBack", spec := "descBack", inPlace := ["internal/bytealg.IndexByteString", "internal/bytealg.IndexString", "internal/abi.NoEscape", "internal/bytealg.MakeNoZero"], named := ["unicode/utf8.first", "unicode/utf8.acceptRanges", "internal/bytealg.MaxLen"], apart := false, laid := [("unicode/utf8.acceptRanges", laid_unicode_utf8_acceptRanges), ("unicode/utf8.first", laid_unicode_utf8_first)], narrowed := true }
def DescBackUptoSaid : Prop := descBackUptoRow.holds Tryd.pinned (OpenSpec.upto descBackSpec)

/-- 'keystonelaw2.DescMakes', WHERE WHAT IT READS IS OF BULK AT MOST 1048576: true; the input reads as it did. -/
def descMakesUptoRow : OpenClaim := { program := "ytlajkmnmooilmaadoor", sum := "4a49121f0d34d4c261ef568712722c40b8e33c2b7e5ae3a8d5c136db73f37ec2", func := "keystone/keystonelaw2.DescMakes", spec := "descMakes", inPlace := ["internal/bytealg.IndexByteString", "internal/bytealg.IndexString", "internal/abi.NoEscape", "internal/bytealg.MakeNoZero"], named := ["unicode/utf8.first", "unicode/utf8.acceptRanges", "internal/bytealg.MaxLen"], apart := false, laid := [("unicode/utf8.acceptRanges", laid_unicode_utf8_acceptRanges), ("unicode/utf8.first", laid_unicode_utf8_first)], narrowed := true }
def DescMakesUptoSaid : Prop := descMakesUptoRow.holds Tryd.pinned (OpenSpec.upto descMakesSpec)

/-- 'keystonelaw2.DescSame', WHERE WHAT IT READS IS OF BULK AT MOST 1048576: true; the input reads as it did. -/
def descSameUptoRow : OpenClaim := { program := "ytlajkmnmooilmaadoor", sum := "4a49121f0d34d4c261ef568712722c40b8e33c2b7e5ae3a8d5c136db73f37ec2", func := "keystone/keystonelaw2.DescSame", spec := "descSame", inPlace := ["internal/bytealg.IndexByteString", "internal/bytealg.IndexString", "internal/abi.NoEscape", "internal/bytealg.MakeNoZero"], named := ["unicode/utf8.first", "unicode/utf8.acceptRanges", "internal/bytealg.MaxLen"], apart := false, laid := [("unicode/utf8.acceptRanges", laid_unicode_utf8_acceptRanges), ("unicode/utf8.first", laid_unicode_utf8_first)], narrowed := true }
def DescSameUptoSaid : Prop := descSameUptoRow.holds Tryd.pinned (OpenSpec.upto descSameSpec)

/-- 'keystonelaw2.DescOwn', WHERE WHAT IT READS IS OF BULK AT MOST 1048576: true; the input reads as it did. -/
def descOwnUptoRow : OpenClaim := { program := "ytlajkmnmooilmaadoor", sum := "4a49121f0d34d4c261ef568712722c40b8e33c2b7e5ae3a8d5c136db73f37ec2", func := "keystone/keystonelaw2.DescOwn", spec := "descOwn", inPlace := ["internal/bytealg.IndexByteString", "internal/bytealg.IndexString", "internal/abi.NoEscape", "internal/bytealg.MakeNoZero"], named := ["unicode/utf8.first", "unicode/utf8.acceptRanges", "internal/bytealg.MaxLen"], apart := false, laid := [("unicode/utf8.acceptRanges", laid_unicode_utf8_acceptRanges), ("unicode/utf8.first", laid_unicode_utf8_first)], narrowed := true }
def DescOwnUptoSaid : Prop := descOwnUptoRow.holds Tryd.pinned (OpenSpec.upto descOwnSpec)

end Rows
end Go.Proofs.YtlajkmnmooilmaaDoor
