/-
  NARROWER THAN 'FOR EVERY INPUT', by the rows' own cells (each row's printed sentence says how): AmqprimWidths: loops, laid · AmqprimCodes: laid · AmqvalueParts: loops, laid · AmqprimNames: laid · AmqprimCalls: loops, laid · AmqprimBack: loops, laid · AmqprimShort: loops, laid · AmqvalueNames: laid · AmqvalueReads: laid · AmqvalueDepths: loops, laid · AmqvalueCalls: loops, laid · AmqstreamLong: laid · AmqstreamNames: laid · AmqstreamCuts: laid · AmqcanonNames: laid.
  DERIVED. THE GIVEN ROWS OF THIS SEAT. 15 by the template 'for every input the law returns true; each argument reads behind the call as it read before'; 0 by the template 'total and deterministic' (their statements: YtekpofpgkokoiaaDoorTotals.lean).
  GIVEN WITH THE SEED: the statements are not yours to turn. If you find one false, say at which input.
  Laid BY PROGRAM, IN A SANDBOX (cutbox-rows.mjs): the forced cells as the released guide's own fill.sh prints them over the translation ce5cffe7891201ff… (all of the seat's roots in one cut). By AI agents, Wed Nov 11 2026. No macro, syntax, notation, axiom, sorry.
-/
import Derived.Test.YtekpofpgkokoiaaDoorChecked
import GoSem.PinnedTables
import GoSem.Claim
import GoSem.ClaimJoined
import GoSem.ClaimMapViews
import Derived.JoinedTies
import Derived.KernelRfl
namespace Go.Proofs.YtekpofpgkokoiaaDoor
/- THE CELL 'sum', in the pinned program and in every row, IS THE sha256 OF THE DUMP (.gsa) THAT YtekpofpgkokoiaaDoorProg.lean LOADS. Nothing in Lean hashes anything: it is a label: what it is worth is what the hold of that sum in a sandbox is worth. -/
noncomputable def Tryd.pinned : Pinned := { name := "ytekpofpgkokoiaadoor", sum := "ce5cffe7891201ffcd55263f35d85183d1109b495d6608e4878d970a1d911a3c", checked := Tryd.checked }
namespace Rows
def none {H : Type} : Left H := { results := [], args := [] }

/- WHAT THE LISTED PACKAGE-LEVEL VARIABLES READ AS WHEN THE CALL BEGINS. Each datum BY PROGRAM (the guide's laid-datum.mjs) off the statement by which the dump's own 'gosem.cut.vars' lays the variable. In a bare row this is a premise. The card (YtekpofpgkokoiaaDoorCards.lean) ties it to the program's text. -/
def laid_unicode_utf8_acceptRanges {H : Type} : DataW H := .agg [.agg [.lit (.int .u8 128), .lit (.int .u8 191)], .agg [.lit (.int .u8 160), .lit (.int .u8 191)], .agg [.lit (.int .u8 128), .lit (.int .u8 159)], .agg [.lit (.int .u8 144), .lit (.int .u8 191)], .agg [.lit (.int .u8 128), .lit (.int .u8 143)], .agg [.lit (.int .u8 0), .lit (.int .u8 0)], .agg [.lit (.int .u8 0), .lit (.int .u8 0)], .agg [.lit (.int .u8 0), .lit (.int .u8 0)], .agg [.lit (.int .u8 0), .lit (.int .u8 0)], .agg [.lit (.int .u8 0), .lit (.int .u8 0)], .agg [.lit (.int .u8 0), .lit (.int .u8 0)], .agg [.lit (.int .u8 0), .lit (.int .u8 0)], .agg [.lit (.int .u8 0), .lit (.int .u8 0)], .agg [.lit (.int .u8 0), .lit (.int .u8 0)], .agg [.lit (.int .u8 0), .lit (.int .u8 0)], .agg [.lit (.int .u8 0), .lit (.int .u8 0)]]
/-- One of Go's own tables, pinned by name: the form's constant. -/
def laid_unicode_utf8_first : DataW Unit := Go.Pinned.utf8First

/-- 'polyglotlaw16.AmqprimWidths': WHATEVER THE INPUT: true; the input reads as it did. -/
def amqprimWidthsSpec : ChangeSpec := { name := "amqprimWidths", fn := fun _ => fun
  | [d1, d2, d3, d4] => { results := [.lit (.bool true)], args := [d1, d2, d3, d4] }
  | _ => none }
def amqprimWidthsRow : OpenClaim := { program := "ytekpofpgkokoiaadoor", sum := "ce5cffe7891201ffcd55263f35d85183d1109b495d6608e4878d970a1d911a3c", func := "polyglot/polyglotlaw16.AmqprimWidths", spec := "amqprimWidths", unfollowed := true, recurses := true, named := ["unicode/utf8.first", "unicode/utf8.acceptRanges"], loops := true, apart := false, laid := [("unicode/utf8.acceptRanges", laid_unicode_utf8_acceptRanges), ("unicode/utf8.first", laid_unicode_utf8_first)] }
def AmqprimWidthsSaid : Prop := amqprimWidthsRow.holds Tryd.pinned (OpenSpec.ofChange amqprimWidthsSpec)

/-- ITS FALSE NEIGHBOUR: 'it returns false'. Refute it at one input. -/
def amqprimWidthsWrong : ChangeSpec := { name := "amqprimWidths", fn := fun _ => fun
  | [d1, d2, d3, d4] => { results := [.lit (.bool false)], args := [d1, d2, d3, d4] }
  | _ => none }
def AmqprimWidthsWrongFalsely : Prop := amqprimWidthsRow.holds Tryd.pinned (OpenSpec.ofChange amqprimWidthsWrong)

/-- 'polyglotlaw16.AmqprimCodes': WHATEVER THE INPUT: true; the input reads as it did. -/
def amqprimCodesSpec : ChangeSpec := { name := "amqprimCodes", fn := fun _ => fun
  | [d1, d2] => { results := [.lit (.bool true)], args := [d1, d2] }
  | _ => none }
def amqprimCodesRow : OpenClaim := { program := "ytekpofpgkokoiaadoor", sum := "ce5cffe7891201ffcd55263f35d85183d1109b495d6608e4878d970a1d911a3c", func := "polyglot/polyglotlaw16.AmqprimCodes", spec := "amqprimCodes", unfollowed := true, recurses := true, named := ["unicode/utf8.first", "unicode/utf8.acceptRanges"], apart := false, laid := [("unicode/utf8.acceptRanges", laid_unicode_utf8_acceptRanges), ("unicode/utf8.first", laid_unicode_utf8_first)] }
def AmqprimCodesSaid : Prop := amqprimCodesRow.holds Tryd.pinned (OpenSpec.ofChange amqprimCodesSpec)

/-- ITS FALSE NEIGHBOUR: 'it returns false'. Refute it at one input. -/
def amqprimCodesWrong : ChangeSpec := { name := "amqprimCodes", fn := fun _ => fun
  | [d1, d2] => { results := [.lit (.bool false)], args := [d1, d2] }
  | _ => none }
def AmqprimCodesWrongFalsely : Prop := amqprimCodesRow.holds Tryd.pinned (OpenSpec.ofChange amqprimCodesWrong)

/-- 'polyglotlaw17.AmqvalueParts': WHATEVER THE INPUT: true; the input reads as it did. -/
def amqvaluePartsSpec : ChangeSpec := { name := "amqvalueParts", fn := fun _ => fun
  | [d] => { results := [.lit (.bool true)], args := [d] }
  | _ => none }
def amqvaluePartsRow : OpenClaim := { program := "ytekpofpgkokoiaadoor", sum := "ce5cffe7891201ffcd55263f35d85183d1109b495d6608e4878d970a1d911a3c", func := "polyglot/polyglotlaw17.AmqvalueParts", spec := "amqvalueParts", unfollowed := true, recurses := true, named := ["unicode/utf8.first", "unicode/utf8.acceptRanges"], loops := true, apart := false, laid := [("unicode/utf8.acceptRanges", laid_unicode_utf8_acceptRanges), ("unicode/utf8.first", laid_unicode_utf8_first)] }
def AmqvaluePartsSaid : Prop := amqvaluePartsRow.holds Tryd.pinned (OpenSpec.ofChange amqvaluePartsSpec)

/-- ITS FALSE NEIGHBOUR: 'it returns false'. Refute it at one input. -/
def amqvaluePartsWrong : ChangeSpec := { name := "amqvalueParts", fn := fun _ => fun
  | [d] => { results := [.lit (.bool false)], args := [d] }
  | _ => none }
def AmqvaluePartsWrongFalsely : Prop := amqvaluePartsRow.holds Tryd.pinned (OpenSpec.ofChange amqvaluePartsWrong)

/-- 'polyglotlaw16.AmqprimNames': WHATEVER THE INPUT: true; the input reads as it did. -/
def amqprimNamesSpec : ChangeSpec := { name := "amqprimNames", fn := fun _ => fun
  | [] => { results := [.lit (.bool true)], args := [] }
  | _ => none }
def amqprimNamesRow : OpenClaim := { program := "ytekpofpgkokoiaadoor", sum := "ce5cffe7891201ffcd55263f35d85183d1109b495d6608e4878d970a1d911a3c", func := "polyglot/polyglotlaw16.AmqprimNames", spec := "amqprimNames", unfollowed := true, recurses := true, named := ["unicode/utf8.first", "unicode/utf8.acceptRanges"], apart := false, laid := [("unicode/utf8.acceptRanges", laid_unicode_utf8_acceptRanges), ("unicode/utf8.first", laid_unicode_utf8_first)] }
def AmqprimNamesSaid : Prop := amqprimNamesRow.holds Tryd.pinned (OpenSpec.ofChange amqprimNamesSpec)

/-- ITS FALSE NEIGHBOUR: 'it returns false'. Refute it at one input. -/
def amqprimNamesWrong : ChangeSpec := { name := "amqprimNames", fn := fun _ => fun
  | [] => { results := [.lit (.bool false)], args := [] }
  | _ => none }
def AmqprimNamesWrongFalsely : Prop := amqprimNamesRow.holds Tryd.pinned (OpenSpec.ofChange amqprimNamesWrong)

/-- 'polyglotlaw16.AmqprimCalls': WHATEVER THE INPUT: true; the input reads as it did. -/
def amqprimCallsSpec : ChangeSpec := { name := "amqprimCalls", fn := fun _ => fun
  | [d1, d2, d3, d4] => { results := [.lit (.bool true)], args := [d1, d2, d3, d4] }
  | _ => none }
def amqprimCallsRow : OpenClaim := { program := "ytekpofpgkokoiaadoor", sum := "ce5cffe7891201ffcd55263f35d85183d1109b495d6608e4878d970a1d911a3c", func := "polyglot/polyglotlaw16.AmqprimCalls", spec := "amqprimCalls", unfollowed := true, recurses := true, named := ["unicode/utf8.first", "unicode/utf8.acceptRanges"], loops := true, apart := false, laid := [("unicode/utf8.acceptRanges", laid_unicode_utf8_acceptRanges), ("unicode/utf8.first", laid_unicode_utf8_first)] }
def AmqprimCallsSaid : Prop := amqprimCallsRow.holds Tryd.pinned (OpenSpec.ofChange amqprimCallsSpec)

/-- ITS FALSE NEIGHBOUR: 'it returns false'. Refute it at one input. -/
def amqprimCallsWrong : ChangeSpec := { name := "amqprimCalls", fn := fun _ => fun
  | [d1, d2, d3, d4] => { results := [.lit (.bool false)], args := [d1, d2, d3, d4] }
  | _ => none }
def AmqprimCallsWrongFalsely : Prop := amqprimCallsRow.holds Tryd.pinned (OpenSpec.ofChange amqprimCallsWrong)

/-- 'polyglotlaw16.AmqprimBack': WHATEVER THE INPUT: true; the input reads as it did. -/
def amqprimBackSpec : ChangeSpec := { name := "amqprimBack", fn := fun _ => fun
  | [d1, d2, d3] => { results := [.lit (.bool true)], args := [d1, d2, d3] }
  | _ => none }
def amqprimBackRow : OpenClaim := { program := "ytekpofpgkokoiaadoor", sum := "ce5cffe7891201ffcd55263f35d85183d1109b495d6608e4878d970a1d911a3c", func := "polyglot/polyglotlaw16.AmqprimBack", spec := "amqprimBack", unfollowed := true, recurses := true, named := ["unicode/utf8.first", "unicode/utf8.acceptRanges"], loops := true, apart := false, laid := [("unicode/utf8.acceptRanges", laid_unicode_utf8_acceptRanges), ("unicode/utf8.first", laid_unicode_utf8_first)] }
def AmqprimBackSaid : Prop := amqprimBackRow.holds Tryd.pinned (OpenSpec.ofChange amqprimBackSpec)

/-- ITS FALSE NEIGHBOUR: 'it returns false'. Refute it at one input. -/
def amqprimBackWrong : ChangeSpec := { name := "amqprimBack", fn := fun _ => fun
  | [d1, d2, d3] => { results := [.lit (.bool false)], args := [d1, d2, d3] }
  | _ => none }
def AmqprimBackWrongFalsely : Prop := amqprimBackRow.holds Tryd.pinned (OpenSpec.ofChange amqprimBackWrong)

/-- 'polyglotlaw16.AmqprimShort': WHATEVER THE INPUT: true; the input reads as it did. -/
def amqprimShortSpec : ChangeSpec := { name := "amqprimShort", fn := fun _ => fun
  | [d1, d2] => { results := [.lit (.bool true)], args := [d1, d2] }
  | _ => none }
def amqprimShortRow : OpenClaim := { program := "ytekpofpgkokoiaadoor", sum := "ce5cffe7891201ffcd55263f35d85183d1109b495d6608e4878d970a1d911a3c", func := "polyglot/polyglotlaw16.AmqprimShort", spec := "amqprimShort", unfollowed := true, recurses := true, named := ["unicode/utf8.first", "unicode/utf8.acceptRanges"], loops := true, apart := false, laid := [("unicode/utf8.acceptRanges", laid_unicode_utf8_acceptRanges), ("unicode/utf8.first", laid_unicode_utf8_first)] }
def AmqprimShortSaid : Prop := amqprimShortRow.holds Tryd.pinned (OpenSpec.ofChange amqprimShortSpec)

/-- ITS FALSE NEIGHBOUR: 'it returns false'. Refute it at one input. -/
def amqprimShortWrong : ChangeSpec := { name := "amqprimShort", fn := fun _ => fun
  | [d1, d2] => { results := [.lit (.bool false)], args := [d1, d2] }
  | _ => none }
def AmqprimShortWrongFalsely : Prop := amqprimShortRow.holds Tryd.pinned (OpenSpec.ofChange amqprimShortWrong)

/-- 'polyglotlaw17.AmqvalueNames': WHATEVER THE INPUT: true; the input reads as it did. -/
def amqvalueNamesSpec : ChangeSpec := { name := "amqvalueNames", fn := fun _ => fun
  | [] => { results := [.lit (.bool true)], args := [] }
  | _ => none }
def amqvalueNamesRow : OpenClaim := { program := "ytekpofpgkokoiaadoor", sum := "ce5cffe7891201ffcd55263f35d85183d1109b495d6608e4878d970a1d911a3c", func := "polyglot/polyglotlaw17.AmqvalueNames", spec := "amqvalueNames", unfollowed := true, recurses := true, named := ["unicode/utf8.first", "unicode/utf8.acceptRanges"], apart := false, laid := [("unicode/utf8.acceptRanges", laid_unicode_utf8_acceptRanges), ("unicode/utf8.first", laid_unicode_utf8_first)] }
def AmqvalueNamesSaid : Prop := amqvalueNamesRow.holds Tryd.pinned (OpenSpec.ofChange amqvalueNamesSpec)

/-- ITS FALSE NEIGHBOUR: 'it returns false'. Refute it at one input. -/
def amqvalueNamesWrong : ChangeSpec := { name := "amqvalueNames", fn := fun _ => fun
  | [] => { results := [.lit (.bool false)], args := [] }
  | _ => none }
def AmqvalueNamesWrongFalsely : Prop := amqvalueNamesRow.holds Tryd.pinned (OpenSpec.ofChange amqvalueNamesWrong)

/-- 'polyglotlaw17.AmqvalueReads': WHATEVER THE INPUT: true; the input reads as it did. -/
def amqvalueReadsSpec : ChangeSpec := { name := "amqvalueReads", fn := fun _ => fun
  | [d1, d2, d3, d4] => { results := [.lit (.bool true)], args := [d1, d2, d3, d4] }
  | _ => none }
def amqvalueReadsRow : OpenClaim := { program := "ytekpofpgkokoiaadoor", sum := "ce5cffe7891201ffcd55263f35d85183d1109b495d6608e4878d970a1d911a3c", func := "polyglot/polyglotlaw17.AmqvalueReads", spec := "amqvalueReads", unfollowed := true, recurses := true, named := ["unicode/utf8.first", "unicode/utf8.acceptRanges"], apart := false, laid := [("unicode/utf8.acceptRanges", laid_unicode_utf8_acceptRanges), ("unicode/utf8.first", laid_unicode_utf8_first)] }
def AmqvalueReadsSaid : Prop := amqvalueReadsRow.holds Tryd.pinned (OpenSpec.ofChange amqvalueReadsSpec)

/-- ITS FALSE NEIGHBOUR: 'it returns false'. Refute it at one input. -/
def amqvalueReadsWrong : ChangeSpec := { name := "amqvalueReads", fn := fun _ => fun
  | [d1, d2, d3, d4] => { results := [.lit (.bool false)], args := [d1, d2, d3, d4] }
  | _ => none }
def AmqvalueReadsWrongFalsely : Prop := amqvalueReadsRow.holds Tryd.pinned (OpenSpec.ofChange amqvalueReadsWrong)

/-- 'polyglotlaw17.AmqvalueDepths': WHATEVER THE INPUT: true; the input reads as it did. -/
def amqvalueDepthsSpec : ChangeSpec := { name := "amqvalueDepths", fn := fun _ => fun
  | [d1, d2, d3] => { results := [.lit (.bool true)], args := [d1, d2, d3] }
  | _ => none }
def amqvalueDepthsRow : OpenClaim := { program := "ytekpofpgkokoiaadoor", sum := "ce5cffe7891201ffcd55263f35d85183d1109b495d6608e4878d970a1d911a3c", func := "polyglot/polyglotlaw17.AmqvalueDepths", spec := "amqvalueDepths", unfollowed := true, recurses := true, named := ["unicode/utf8.first", "unicode/utf8.acceptRanges"], loops := true, apart := false, laid := [("unicode/utf8.acceptRanges", laid_unicode_utf8_acceptRanges), ("unicode/utf8.first", laid_unicode_utf8_first)] }
def AmqvalueDepthsSaid : Prop := amqvalueDepthsRow.holds Tryd.pinned (OpenSpec.ofChange amqvalueDepthsSpec)

/-- ITS FALSE NEIGHBOUR: 'it returns false'. Refute it at one input. -/
def amqvalueDepthsWrong : ChangeSpec := { name := "amqvalueDepths", fn := fun _ => fun
  | [d1, d2, d3] => { results := [.lit (.bool false)], args := [d1, d2, d3] }
  | _ => none }
def AmqvalueDepthsWrongFalsely : Prop := amqvalueDepthsRow.holds Tryd.pinned (OpenSpec.ofChange amqvalueDepthsWrong)

/-- 'polyglotlaw17.AmqvalueCalls': WHATEVER THE INPUT: true; the input reads as it did. -/
def amqvalueCallsSpec : ChangeSpec := { name := "amqvalueCalls", fn := fun _ => fun
  | [d1, d2, d3, d4, d5] => { results := [.lit (.bool true)], args := [d1, d2, d3, d4, d5] }
  | _ => none }
def amqvalueCallsRow : OpenClaim := { program := "ytekpofpgkokoiaadoor", sum := "ce5cffe7891201ffcd55263f35d85183d1109b495d6608e4878d970a1d911a3c", func := "polyglot/polyglotlaw17.AmqvalueCalls", spec := "amqvalueCalls", unfollowed := true, recurses := true, named := ["unicode/utf8.first", "unicode/utf8.acceptRanges"], loops := true, apart := false, laid := [("unicode/utf8.acceptRanges", laid_unicode_utf8_acceptRanges), ("unicode/utf8.first", laid_unicode_utf8_first)] }
def AmqvalueCallsSaid : Prop := amqvalueCallsRow.holds Tryd.pinned (OpenSpec.ofChange amqvalueCallsSpec)

/-- ITS FALSE NEIGHBOUR: 'it returns false'. Refute it at one input. -/
def amqvalueCallsWrong : ChangeSpec := { name := "amqvalueCalls", fn := fun _ => fun
  | [d1, d2, d3, d4, d5] => { results := [.lit (.bool false)], args := [d1, d2, d3, d4, d5] }
  | _ => none }
def AmqvalueCallsWrongFalsely : Prop := amqvalueCallsRow.holds Tryd.pinned (OpenSpec.ofChange amqvalueCallsWrong)

/-- 'polyglotlaw20.AmqstreamLong': WHATEVER THE INPUT: true; the input reads as it did. -/
def amqstreamLongSpec : ChangeSpec := { name := "amqstreamLong", fn := fun _ => fun
  | [d1, d2, d3] => { results := [.lit (.bool true)], args := [d1, d2, d3] }
  | _ => none }
def amqstreamLongRow : OpenClaim := { program := "ytekpofpgkokoiaadoor", sum := "ce5cffe7891201ffcd55263f35d85183d1109b495d6608e4878d970a1d911a3c", func := "polyglot/polyglotlaw20.AmqstreamLong", spec := "amqstreamLong", unfollowed := true, recurses := true, named := ["unicode/utf8.first", "unicode/utf8.acceptRanges"], apart := false, laid := [("unicode/utf8.acceptRanges", laid_unicode_utf8_acceptRanges), ("unicode/utf8.first", laid_unicode_utf8_first)] }
def AmqstreamLongSaid : Prop := amqstreamLongRow.holds Tryd.pinned (OpenSpec.ofChange amqstreamLongSpec)

/-- ITS FALSE NEIGHBOUR: 'it returns false'. Refute it at one input. -/
def amqstreamLongWrong : ChangeSpec := { name := "amqstreamLong", fn := fun _ => fun
  | [d1, d2, d3] => { results := [.lit (.bool false)], args := [d1, d2, d3] }
  | _ => none }
def AmqstreamLongWrongFalsely : Prop := amqstreamLongRow.holds Tryd.pinned (OpenSpec.ofChange amqstreamLongWrong)

/-- 'polyglotlaw20.AmqstreamNames': WHATEVER THE INPUT: true; the input reads as it did. -/
def amqstreamNamesSpec : ChangeSpec := { name := "amqstreamNames", fn := fun _ => fun
  | [] => { results := [.lit (.bool true)], args := [] }
  | _ => none }
def amqstreamNamesRow : OpenClaim := { program := "ytekpofpgkokoiaadoor", sum := "ce5cffe7891201ffcd55263f35d85183d1109b495d6608e4878d970a1d911a3c", func := "polyglot/polyglotlaw20.AmqstreamNames", spec := "amqstreamNames", unfollowed := true, recurses := true, named := ["unicode/utf8.first", "unicode/utf8.acceptRanges"], apart := false, laid := [("unicode/utf8.acceptRanges", laid_unicode_utf8_acceptRanges), ("unicode/utf8.first", laid_unicode_utf8_first)] }
def AmqstreamNamesSaid : Prop := amqstreamNamesRow.holds Tryd.pinned (OpenSpec.ofChange amqstreamNamesSpec)

/-- ITS FALSE NEIGHBOUR: 'it returns false'. Refute it at one input. -/
def amqstreamNamesWrong : ChangeSpec := { name := "amqstreamNames", fn := fun _ => fun
  | [] => { results := [.lit (.bool false)], args := [] }
  | _ => none }
def AmqstreamNamesWrongFalsely : Prop := amqstreamNamesRow.holds Tryd.pinned (OpenSpec.ofChange amqstreamNamesWrong)

/-- 'polyglotlaw20.AmqstreamCuts': WHATEVER THE INPUT: true; the input reads as it did. -/
def amqstreamCutsSpec : ChangeSpec := { name := "amqstreamCuts", fn := fun _ => fun
  | [d1, d2, d3] => { results := [.lit (.bool true)], args := [d1, d2, d3] }
  | _ => none }
def amqstreamCutsRow : OpenClaim := { program := "ytekpofpgkokoiaadoor", sum := "ce5cffe7891201ffcd55263f35d85183d1109b495d6608e4878d970a1d911a3c", func := "polyglot/polyglotlaw20.AmqstreamCuts", spec := "amqstreamCuts", unfollowed := true, recurses := true, named := ["unicode/utf8.first", "unicode/utf8.acceptRanges"], apart := false, laid := [("unicode/utf8.acceptRanges", laid_unicode_utf8_acceptRanges), ("unicode/utf8.first", laid_unicode_utf8_first)] }
def AmqstreamCutsSaid : Prop := amqstreamCutsRow.holds Tryd.pinned (OpenSpec.ofChange amqstreamCutsSpec)

/-- ITS FALSE NEIGHBOUR: 'it returns false'. Refute it at one input. -/
def amqstreamCutsWrong : ChangeSpec := { name := "amqstreamCuts", fn := fun _ => fun
  | [d1, d2, d3] => { results := [.lit (.bool false)], args := [d1, d2, d3] }
  | _ => none }
def AmqstreamCutsWrongFalsely : Prop := amqstreamCutsRow.holds Tryd.pinned (OpenSpec.ofChange amqstreamCutsWrong)

/-- 'polyglotlaw18.AmqcanonNames': WHATEVER THE INPUT: true; the input reads as it did. -/
def amqcanonNamesSpec : ChangeSpec := { name := "amqcanonNames", fn := fun _ => fun
  | [] => { results := [.lit (.bool true)], args := [] }
  | _ => none }
def amqcanonNamesRow : OpenClaim := { program := "ytekpofpgkokoiaadoor", sum := "ce5cffe7891201ffcd55263f35d85183d1109b495d6608e4878d970a1d911a3c", func := "polyglot/polyglotlaw18.AmqcanonNames", spec := "amqcanonNames", unfollowed := true, recurses := true, named := ["unicode/utf8.first", "unicode/utf8.acceptRanges"], apart := false, laid := [("unicode/utf8.acceptRanges", laid_unicode_utf8_acceptRanges), ("unicode/utf8.first", laid_unicode_utf8_first)] }
def AmqcanonNamesSaid : Prop := amqcanonNamesRow.holds Tryd.pinned (OpenSpec.ofChange amqcanonNamesSpec)

/-- ITS FALSE NEIGHBOUR: 'it returns false'. Refute it at one input. -/
def amqcanonNamesWrong : ChangeSpec := { name := "amqcanonNames", fn := fun _ => fun
  | [] => { results := [.lit (.bool false)], args := [] }
  | _ => none }
def AmqcanonNamesWrongFalsely : Prop := amqcanonNamesRow.holds Tryd.pinned (OpenSpec.ofChange amqcanonNamesWrong)

/- THE SECOND FORM. 'bulk': how many values and letters a reading holds, each counted each time it is reached (what is shared counts as often as it is met; a slice's spare places count too). A statement '..UptoSaid' is the law's where the arguments, and the package variables that the reading takes, are together of bulk at most 1048576: NARROWER than '..Said'. Prove '..Said' where nothing that the law and all that it calls make is longer than what came in: it says more and counts as full. Else prove '..UptoSaid'. A law counts once. -/
mutual
def uptoBulk {H : Type} : DataW H → Nat
  | .lit (.string bytes) => bytes.length + 1
  | .lit _ => 1
  | .nil => 1
  | .ptr d => uptoBulk d + 1
  | .slice elems spare => uptoBulkAll elems + uptoBulkAll spare + 1
  | .agg parts => uptoBulkAll parts + 1
  | .iface _ d => uptoBulk d + 1
  | .map entries => uptoBulkEntries entries + 1
  | .held _ => 1
def uptoBulkAll {H : Type} : List (DataW H) → Nat
  | [] => 0
  | d :: r => uptoBulk d + uptoBulkAll r
def uptoBulkEntries {H : Type} : List (Lit × DataW H) → Nat
  | [] => 0
  | x :: r => uptoBulkEntry x + uptoBulkEntries r
def uptoBulkEntry {H : Type} : Lit × DataW H → Nat
  | (.string bytes, d) => bytes.length + uptoBulk d + 1
  | (_, d) => uptoBulk d + 1
 end
def uptoSmall : (H : Type) → List (DataW H) → Bool := fun _ ds => decide (uptoBulkAll ds ≤ 1048576)
def OpenSpec.upto (s : _root_.Go.ChangeSpec) : _root_.Go.OpenSpec := { _root_.Go.OpenSpec.ofChange s with cond := some uptoSmall }

/-- 'polyglotlaw16.AmqprimWidths', WHERE WHAT IT READS IS OF BULK AT MOST 1048576: true; the input reads as it did. -/
def amqprimWidthsUptoRow : OpenClaim := { program := "ytekpofpgkokoiaadoor", sum := "ce5cffe7891201ffcd55263f35d85183d1109b495d6608e4878d970a1d911a3c", func := "polyglot/polyglotlaw16.AmqprimWidths", spec := "amqprimWidths", unfollowed := true, recurses := true, named := ["unicode/utf8.first", "unicode/utf8.acceptRanges"], loops := true, apart := false, laid := [("unicode/utf8.acceptRanges", laid_unicode_utf8_acceptRanges), ("unicode/utf8.first", laid_unicode_utf8_first)], narrowed := true }
def AmqprimWidthsUptoSaid : Prop := amqprimWidthsUptoRow.holds Tryd.pinned (OpenSpec.upto amqprimWidthsSpec)

/-- 'polyglotlaw16.AmqprimCodes', WHERE WHAT IT READS IS OF BULK AT MOST 1048576: true; the input reads as it did. -/
def amqprimCodesUptoRow : OpenClaim := { program := "ytekpofpgkokoiaadoor", sum := "ce5cffe7891201ffcd55263f35d85183d1109b495d6608e4878d970a1d911a3c", func := "polyglot/polyglotlaw16.AmqprimCodes", spec := "amqprimCodes", unfollowed := true, recurses := true, named := ["unicode/utf8.first", "unicode/utf8.acceptRanges"], apart := false, laid := [("unicode/utf8.acceptRanges", laid_unicode_utf8_acceptRanges), ("unicode/utf8.first", laid_unicode_utf8_first)], narrowed := true }
def AmqprimCodesUptoSaid : Prop := amqprimCodesUptoRow.holds Tryd.pinned (OpenSpec.upto amqprimCodesSpec)

/-- 'polyglotlaw17.AmqvalueParts', WHERE WHAT IT READS IS OF BULK AT MOST 1048576: true; the input reads as it did. -/
def amqvaluePartsUptoRow : OpenClaim := { program := "ytekpofpgkokoiaadoor", sum := "ce5cffe7891201ffcd55263f35d85183d1109b495d6608e4878d970a1d911a3c", func := "polyglot/polyglotlaw17.AmqvalueParts", spec := "amqvalueParts", unfollowed := true, recurses := true, named := ["unicode/utf8.first", "unicode/utf8.acceptRanges"], loops := true, apart := false, laid := [("unicode/utf8.acceptRanges", laid_unicode_utf8_acceptRanges), ("unicode/utf8.first", laid_unicode_utf8_first)], narrowed := true }
def AmqvaluePartsUptoSaid : Prop := amqvaluePartsUptoRow.holds Tryd.pinned (OpenSpec.upto amqvaluePartsSpec)

/-- 'polyglotlaw16.AmqprimNames', WHERE WHAT IT READS IS OF BULK AT MOST 1048576: true; the input reads as it did. -/
def amqprimNamesUptoRow : OpenClaim := { program := "ytekpofpgkokoiaadoor", sum := "ce5cffe7891201ffcd55263f35d85183d1109b495d6608e4878d970a1d911a3c", func := "polyglot/polyglotlaw16.AmqprimNames", spec := "amqprimNames", unfollowed := true, recurses := true, named := ["unicode/utf8.first", "unicode/utf8.acceptRanges"], apart := false, laid := [("unicode/utf8.acceptRanges", laid_unicode_utf8_acceptRanges), ("unicode/utf8.first", laid_unicode_utf8_first)], narrowed := true }
def AmqprimNamesUptoSaid : Prop := amqprimNamesUptoRow.holds Tryd.pinned (OpenSpec.upto amqprimNamesSpec)

/-- 'polyglotlaw16.AmqprimCalls', WHERE WHAT IT READS IS OF BULK AT MOST 1048576: true; the input reads as it did. -/
def amqprimCallsUptoRow : OpenClaim := { program := "ytekpofpgkokoiaadoor", sum := "ce5cffe7891201ffcd55263f35d85183d1109b495d6608e4878d970a1d911a3c", func := "polyglot/polyglotlaw16.AmqprimCalls", spec := "amqprimCalls", unfollowed := true, recurses := true, named := ["unicode/utf8.first", "unicode/utf8.acceptRanges"], loops := true, apart := false, laid := [("unicode/utf8.acceptRanges", laid_unicode_utf8_acceptRanges), ("unicode/utf8.first", laid_unicode_utf8_first)], narrowed := true }
def AmqprimCallsUptoSaid : Prop := amqprimCallsUptoRow.holds Tryd.pinned (OpenSpec.upto amqprimCallsSpec)

/-- 'polyglotlaw16.AmqprimBack', WHERE WHAT IT READS IS OF BULK AT MOST 1048576: true; the input reads as it did. -/
def amqprimBackUptoRow : OpenClaim := { program := "ytekpofpgkokoiaadoor", sum := "ce5cffe7891201ffcd55263f35d85183d1109b495d6608e4878d970a1d911a3c", func := "polyglot/polyglotlaw16.AmqprimBack", spec := "amqprimBack", unfollowed := true, recurses := true, named := ["unicode/utf8.first", "unicode/utf8.acceptRanges"], loops := true, apart := false, laid := [("unicode/utf8.acceptRanges", laid_unicode_utf8_acceptRanges), ("unicode/utf8.first", laid_unicode_utf8_first)], narrowed := true }
def AmqprimBackUptoSaid : Prop := amqprimBackUptoRow.holds Tryd.pinned (OpenSpec.upto amqprimBackSpec)

/-- 'polyglotlaw16.AmqprimShort', WHERE WHAT IT READS IS OF BULK AT MOST 1048576: true; the input reads as it did. -/
def amqprimShortUptoRow : OpenClaim := { program := "ytekpofpgkokoiaadoor", sum := "ce5cffe7891201ffcd55263f35d85183d1109b495d6608e4878d970a1d911a3c", func := "polyglot/polyglotlaw16.AmqprimShort", spec := "amqprimShort", unfollowed := true, recurses := true, named := ["unicode/utf8.first", "unicode/utf8.acceptRanges"], loops := true, apart := false, laid := [("unicode/utf8.acceptRanges", laid_unicode_utf8_acceptRanges), ("unicode/utf8.first", laid_unicode_utf8_first)], narrowed := true }
def AmqprimShortUptoSaid : Prop := amqprimShortUptoRow.holds Tryd.pinned (OpenSpec.upto amqprimShortSpec)

/-- 'polyglotlaw17.AmqvalueNames', WHERE WHAT IT READS IS OF BULK AT MOST 1048576: true; the input reads as it did. -/
def amqvalueNamesUptoRow : OpenClaim := { program := "ytekpofpgkokoiaadoor", sum := "ce5cffe7891201ffcd55263f35d85183d1109b495d6608e4878d970a1d911a3c", func := "polyglot/polyglotlaw17.AmqvalueNames", spec := "amqvalueNames", unfollowed := true, recurses := true, named := ["unicode/utf8.first", "unicode/utf8.acceptRanges"], apart := false, laid := [("unicode/utf8.acceptRanges", laid_unicode_utf8_acceptRanges), ("unicode/utf8.first", laid_unicode_utf8_first)], narrowed := true }
def AmqvalueNamesUptoSaid : Prop := amqvalueNamesUptoRow.holds Tryd.pinned (OpenSpec.upto amqvalueNamesSpec)

/-- 'polyglotlaw17.AmqvalueReads', WHERE WHAT IT READS IS OF BULK AT MOST 1048576: true; the input reads as it did. -/
def amqvalueReadsUptoRow : OpenClaim := { program := "ytekpofpgkokoiaadoor", sum := "ce5cffe7891201ffcd55263f35d85183d1109b495d6608e4878d970a1d911a3c", func := "polyglot/polyglotlaw17.AmqvalueReads", spec := "amqvalueReads", unfollowed := true, recurses := true, named := ["unicode/utf8.first", "unicode/utf8.acceptRanges"], apart := false, laid := [("unicode/utf8.acceptRanges", laid_unicode_utf8_acceptRanges), ("unicode/utf8.first", laid_unicode_utf8_first)], narrowed := true }
def AmqvalueReadsUptoSaid : Prop := amqvalueReadsUptoRow.holds Tryd.pinned (OpenSpec.upto amqvalueReadsSpec)

/-- 'polyglotlaw17.AmqvalueDepths', WHERE WHAT IT READS IS OF BULK AT MOST 1048576: true; the input reads as it did. -/
def amqvalueDepthsUptoRow : OpenClaim := { program := "ytekpofpgkokoiaadoor", sum := "ce5cffe7891201ffcd55263f35d85183d1109b495d6608e4878d970a1d911a3c", func := "polyglot/polyglotlaw17.AmqvalueDepths", spec := "amqvalueDepths", unfollowed := true, recurses := true, named := ["unicode/utf8.first", "unicode/utf8.acceptRanges"], loops := true, apart := false, laid := [("unicode/utf8.acceptRanges", laid_unicode_utf8_acceptRanges), ("unicode/utf8.first", laid_unicode_utf8_first)], narrowed := true }
def AmqvalueDepthsUptoSaid : Prop := amqvalueDepthsUptoRow.holds Tryd.pinned (OpenSpec.upto amqvalueDepthsSpec)

/-- 'polyglotlaw17.AmqvalueCalls', WHERE WHAT IT READS IS OF BULK AT MOST 1048576: true; the input reads as it did. -/
def amqvalueCallsUptoRow : OpenClaim := { program := "ytekpofpgkokoiaadoor", sum := "ce5cffe7891201ffcd55263f35d85183d1109b495d6608e4878d970a1d911a3c", func := "polyglot/polyglotlaw17.AmqvalueCalls", spec := "amqvalueCalls", unfollowed := true, recurses := true, named := ["unicode/utf8.first", "unicode/utf8.acceptRanges"], loops := true, apart := false, laid := [("unicode/utf8.acceptRanges", laid_unicode_utf8_acceptRanges), ("unicode/utf8.first", laid_unicode_utf8_first)], narrowed := true }
def AmqvalueCallsUptoSaid : Prop := amqvalueCallsUptoRow.holds Tryd.pinned (OpenSpec.upto amqvalueCallsSpec)

/-- 'polyglotlaw20.AmqstreamLong', WHERE WHAT IT READS IS OF BULK AT MOST 1048576: true; the input reads as it did. -/
def amqstreamLongUptoRow : OpenClaim := { program := "ytekpofpgkokoiaadoor", sum := "ce5cffe7891201ffcd55263f35d85183d1109b495d6608e4878d970a1d911a3c", func := "polyglot/polyglotlaw20.AmqstreamLong", spec := "amqstreamLong", unfollowed := true, recurses := true, named := ["unicode/utf8.first", "unicode/utf8.acceptRanges"], apart := false, laid := [("unicode/utf8.acceptRanges", laid_unicode_utf8_acceptRanges), ("unicode/utf8.first", laid_unicode_utf8_first)], narrowed := true }
def AmqstreamLongUptoSaid : Prop := amqstreamLongUptoRow.holds Tryd.pinned (OpenSpec.upto amqstreamLongSpec)

/-- 'polyglotlaw20.AmqstreamNames', WHERE WHAT IT READS IS OF BULK AT MOST 1048576: true; the input reads as it did. -/
def amqstreamNamesUptoRow : OpenClaim := { program := "ytekpofpgkokoiaadoor", sum := "ce5cffe7891201ffcd55263f35d85183d1109b495d6608e4878d970a1d911a3c", func := "polyglot/polyglotlaw20.AmqstreamNames", spec := "amqstreamNames", unfollowed := true, recurses := true, named := ["unicode/utf8.first", "unicode/utf8.acceptRanges"], apart := false, laid := [("unicode/utf8.acceptRanges", laid_unicode_utf8_acceptRanges), ("unicode/utf8.first", laid_unicode_utf8_first)], narrowed := true }
def AmqstreamNamesUptoSaid : Prop := amqstreamNamesUptoRow.holds Tryd.pinned (OpenSpec.upto amqstreamNamesSpec)

/-- 'polyglotlaw20.AmqstreamCuts', WHERE WHAT IT READS IS OF BULK AT MOST 1048576: true; the input reads as it did. -/
def amqstreamCutsUptoRow : OpenClaim := { program := "ytekpofpgkokoiaadoor", sum := "ce5cffe7891201ffcd55263f35d85183d1109b495d6608e4878d970a1d911a3c", func := "polyglot/polyglotlaw20.AmqstreamCuts", spec := "amqstreamCuts", unfollowed := true, recurses := true, named := ["unicode/utf8.first", "unicode/utf8.acceptRanges"], apart := false, laid := [("unicode/utf8.acceptRanges", laid_unicode_utf8_acceptRanges), ("unicode/utf8.first", laid_unicode_utf8_first)], narrowed := true }
def AmqstreamCutsUptoSaid : Prop := amqstreamCutsUptoRow.holds Tryd.pinned (OpenSpec.upto amqstreamCutsSpec)

/-- 'polyglotlaw18.AmqcanonNames', WHERE WHAT IT READS IS OF BULK AT MOST 1048576: true; the input reads as it did. -/
def amqcanonNamesUptoRow : OpenClaim := { program := "ytekpofpgkokoiaadoor", sum := "ce5cffe7891201ffcd55263f35d85183d1109b495d6608e4878d970a1d911a3c", func := "polyglot/polyglotlaw18.AmqcanonNames", spec := "amqcanonNames", unfollowed := true, recurses := true, named := ["unicode/utf8.first", "unicode/utf8.acceptRanges"], apart := false, laid := [("unicode/utf8.acceptRanges", laid_unicode_utf8_acceptRanges), ("unicode/utf8.first", laid_unicode_utf8_first)], narrowed := true }
def AmqcanonNamesUptoSaid : Prop := amqcanonNamesUptoRow.holds Tryd.pinned (OpenSpec.upto amqcanonNamesSpec)

end Rows
end Go.Proofs.YtekpofpgkokoiaaDoor
