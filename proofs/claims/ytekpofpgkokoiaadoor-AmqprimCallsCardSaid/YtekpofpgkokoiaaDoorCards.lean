/-
  DERIVED. GIVEN WITH THE SEED: THE CARDS: each row of YtekpofpgkokoiaaDoorRows.lean that lists a variable, with what it lists TIED to the program's text (the seventh form; the later family's looks); each row that meets fmt, with fmt's text TOLD by the authors' own Lean function (tested against real Go, not proved from fmt's source: count such statements apart). THE CARD IS WHAT COUNTS. Prove the row's statement (the work); the ties are given (YtekpofpgkokoiaaDoorTie.lean); close each card by the builder's one call (the guide's Derived/Test/ToyasCard.lean, 'card_holds'). Laid BY PROGRAM, IN A SANDBOX (cutbox-door.mjs). By AI agents, Wed Nov 11 2026. No macro, syntax, notation, axiom, sorry.
-/
import Derived.Test.YtekpofpgkokoiaaDoorRows
import GoSem.ClaimSeven
namespace Go.Proofs.YtekpofpgkokoiaaDoor
namespace Rows

/-- THE TIED CARD OF 'polyglotlaw16.AmqprimWidths'. -/
def amqprimWidthsCard : Claim7 := { stood := { row := amqprimWidthsRow, standIns := [], harness := (true, "45babe294cfa0e2177c2e261441f01ed0ada23128938a54c2260400651f5081b"), looks := false }, kinds := [], alts := [], laidByText := true, laidKinds := [.data, .pinned], laidTests := true, laidLooks := .later }
def AmqprimWidthsCardSaid : Prop := Claim7.holds Tryd.pinned (.plain (OpenSpec.ofChange amqprimWidthsSpec)) amqprimWidthsCard

/-- THE TIED CARD OF 'polyglotlaw16.AmqprimCodes'. -/
def amqprimCodesCard : Claim7 := { stood := { row := amqprimCodesRow, standIns := [], harness := (true, "45babe294cfa0e2177c2e261441f01ed0ada23128938a54c2260400651f5081b"), looks := false }, kinds := [], alts := [], laidByText := true, laidKinds := [.data, .pinned], laidTests := true, laidLooks := .later }
def AmqprimCodesCardSaid : Prop := Claim7.holds Tryd.pinned (.plain (OpenSpec.ofChange amqprimCodesSpec)) amqprimCodesCard

/-- THE TIED CARD OF 'polyglotlaw17.AmqvalueParts'. -/
def amqvaluePartsCard : Claim7 := { stood := { row := amqvaluePartsRow, standIns := [], harness := (true, "45babe294cfa0e2177c2e261441f01ed0ada23128938a54c2260400651f5081b"), looks := false }, kinds := [], alts := [], laidByText := true, laidKinds := [.data, .pinned], laidTests := true, laidLooks := .later }
def AmqvaluePartsCardSaid : Prop := Claim7.holds Tryd.pinned (.plain (OpenSpec.ofChange amqvaluePartsSpec)) amqvaluePartsCard

/-- THE TIED CARD OF 'polyglotlaw16.AmqprimNames'. -/
def amqprimNamesCard : Claim7 := { stood := { row := amqprimNamesRow, standIns := [], harness := (true, "45babe294cfa0e2177c2e261441f01ed0ada23128938a54c2260400651f5081b"), looks := false }, kinds := [], alts := [], laidByText := true, laidKinds := [.data, .pinned], laidTests := true, laidLooks := .later }
def AmqprimNamesCardSaid : Prop := Claim7.holds Tryd.pinned (.plain (OpenSpec.ofChange amqprimNamesSpec)) amqprimNamesCard

/-- THE TIED CARD OF 'polyglotlaw16.AmqprimCalls'. -/
def amqprimCallsCard : Claim7 := { stood := { row := amqprimCallsRow, standIns := [], harness := (true, "45babe294cfa0e2177c2e261441f01ed0ada23128938a54c2260400651f5081b"), looks := false }, kinds := [], alts := [], laidByText := true, laidKinds := [.data, .pinned], laidTests := true, laidLooks := .later }
def AmqprimCallsCardSaid : Prop := Claim7.holds Tryd.pinned (.plain (OpenSpec.ofChange amqprimCallsSpec)) amqprimCallsCard

/-- THE TIED CARD OF 'polyglotlaw16.AmqprimBack'. -/
def amqprimBackCard : Claim7 := { stood := { row := amqprimBackRow, standIns := [], harness := (true, "45babe294cfa0e2177c2e261441f01ed0ada23128938a54c2260400651f5081b"), looks := false }, kinds := [], alts := [], laidByText := true, laidKinds := [.data, .pinned], laidTests := true, laidLooks := .later }
def AmqprimBackCardSaid : Prop := Claim7.holds Tryd.pinned (.plain (OpenSpec.ofChange amqprimBackSpec)) amqprimBackCard

/-- THE TIED CARD OF 'polyglotlaw16.AmqprimShort'. -/
def amqprimShortCard : Claim7 := { stood := { row := amqprimShortRow, standIns := [], harness := (true, "45babe294cfa0e2177c2e261441f01ed0ada23128938a54c2260400651f5081b"), looks := false }, kinds := [], alts := [], laidByText := true, laidKinds := [.data, .pinned], laidTests := true, laidLooks := .later }
def AmqprimShortCardSaid : Prop := Claim7.holds Tryd.pinned (.plain (OpenSpec.ofChange amqprimShortSpec)) amqprimShortCard

/-- THE TIED CARD OF 'polyglotlaw17.AmqvalueNames'. -/
def amqvalueNamesCard : Claim7 := { stood := { row := amqvalueNamesRow, standIns := [], harness := (true, "45babe294cfa0e2177c2e261441f01ed0ada23128938a54c2260400651f5081b"), looks := false }, kinds := [], alts := [], laidByText := true, laidKinds := [.data, .pinned], laidTests := true, laidLooks := .later }
def AmqvalueNamesCardSaid : Prop := Claim7.holds Tryd.pinned (.plain (OpenSpec.ofChange amqvalueNamesSpec)) amqvalueNamesCard

/-- THE TIED CARD OF 'polyglotlaw17.AmqvalueReads'. -/
def amqvalueReadsCard : Claim7 := { stood := { row := amqvalueReadsRow, standIns := [], harness := (true, "45babe294cfa0e2177c2e261441f01ed0ada23128938a54c2260400651f5081b"), looks := false }, kinds := [], alts := [], laidByText := true, laidKinds := [.data, .pinned], laidTests := true, laidLooks := .later }
def AmqvalueReadsCardSaid : Prop := Claim7.holds Tryd.pinned (.plain (OpenSpec.ofChange amqvalueReadsSpec)) amqvalueReadsCard

/-- THE TIED CARD OF 'polyglotlaw17.AmqvalueDepths'. -/
def amqvalueDepthsCard : Claim7 := { stood := { row := amqvalueDepthsRow, standIns := [], harness := (true, "45babe294cfa0e2177c2e261441f01ed0ada23128938a54c2260400651f5081b"), looks := false }, kinds := [], alts := [], laidByText := true, laidKinds := [.data, .pinned], laidTests := true, laidLooks := .later }
def AmqvalueDepthsCardSaid : Prop := Claim7.holds Tryd.pinned (.plain (OpenSpec.ofChange amqvalueDepthsSpec)) amqvalueDepthsCard

/-- THE TIED CARD OF 'polyglotlaw17.AmqvalueCalls'. -/
def amqvalueCallsCard : Claim7 := { stood := { row := amqvalueCallsRow, standIns := [], harness := (true, "45babe294cfa0e2177c2e261441f01ed0ada23128938a54c2260400651f5081b"), looks := false }, kinds := [], alts := [], laidByText := true, laidKinds := [.data, .pinned], laidTests := true, laidLooks := .later }
def AmqvalueCallsCardSaid : Prop := Claim7.holds Tryd.pinned (.plain (OpenSpec.ofChange amqvalueCallsSpec)) amqvalueCallsCard

/-- THE TIED CARD OF 'polyglotlaw20.AmqstreamLong'. -/
def amqstreamLongCard : Claim7 := { stood := { row := amqstreamLongRow, standIns := [], harness := (true, "45babe294cfa0e2177c2e261441f01ed0ada23128938a54c2260400651f5081b"), looks := false }, kinds := [], alts := [], laidByText := true, laidKinds := [.data, .pinned], laidTests := true, laidLooks := .later }
def AmqstreamLongCardSaid : Prop := Claim7.holds Tryd.pinned (.plain (OpenSpec.ofChange amqstreamLongSpec)) amqstreamLongCard

/-- THE TIED CARD OF 'polyglotlaw20.AmqstreamNames'. -/
def amqstreamNamesCard : Claim7 := { stood := { row := amqstreamNamesRow, standIns := [], harness := (true, "45babe294cfa0e2177c2e261441f01ed0ada23128938a54c2260400651f5081b"), looks := false }, kinds := [], alts := [], laidByText := true, laidKinds := [.data, .pinned], laidTests := true, laidLooks := .later }
def AmqstreamNamesCardSaid : Prop := Claim7.holds Tryd.pinned (.plain (OpenSpec.ofChange amqstreamNamesSpec)) amqstreamNamesCard

/-- THE TIED CARD OF 'polyglotlaw20.AmqstreamCuts'. -/
def amqstreamCutsCard : Claim7 := { stood := { row := amqstreamCutsRow, standIns := [], harness := (true, "45babe294cfa0e2177c2e261441f01ed0ada23128938a54c2260400651f5081b"), looks := false }, kinds := [], alts := [], laidByText := true, laidKinds := [.data, .pinned], laidTests := true, laidLooks := .later }
def AmqstreamCutsCardSaid : Prop := Claim7.holds Tryd.pinned (.plain (OpenSpec.ofChange amqstreamCutsSpec)) amqstreamCutsCard

/-- THE TIED CARD OF 'polyglotlaw18.AmqcanonNames'. -/
def amqcanonNamesCard : Claim7 := { stood := { row := amqcanonNamesRow, standIns := [], harness := (true, "45babe294cfa0e2177c2e261441f01ed0ada23128938a54c2260400651f5081b"), looks := false }, kinds := [], alts := [], laidByText := true, laidKinds := [.data, .pinned], laidTests := true, laidLooks := .later }
def AmqcanonNamesCardSaid : Prop := Claim7.holds Tryd.pinned (.plain (OpenSpec.ofChange amqcanonNamesSpec)) amqcanonNamesCard

/-- THE SECOND FORM's CARD OF 'polyglotlaw16.AmqprimWidths'. -/
def amqprimWidthsUptoCard : Claim7 := { stood := { row := amqprimWidthsUptoRow, standIns := [], harness := (true, "45babe294cfa0e2177c2e261441f01ed0ada23128938a54c2260400651f5081b"), looks := false }, kinds := [], alts := [], laidByText := true, laidKinds := [.data, .pinned], laidTests := true, laidLooks := .later }
def AmqprimWidthsUptoCardSaid : Prop := Claim7.holds Tryd.pinned (.plain (OpenSpec.upto amqprimWidthsSpec)) amqprimWidthsUptoCard

/-- THE SECOND FORM's CARD OF 'polyglotlaw16.AmqprimCodes'. -/
def amqprimCodesUptoCard : Claim7 := { stood := { row := amqprimCodesUptoRow, standIns := [], harness := (true, "45babe294cfa0e2177c2e261441f01ed0ada23128938a54c2260400651f5081b"), looks := false }, kinds := [], alts := [], laidByText := true, laidKinds := [.data, .pinned], laidTests := true, laidLooks := .later }
def AmqprimCodesUptoCardSaid : Prop := Claim7.holds Tryd.pinned (.plain (OpenSpec.upto amqprimCodesSpec)) amqprimCodesUptoCard

/-- THE SECOND FORM's CARD OF 'polyglotlaw17.AmqvalueParts'. -/
def amqvaluePartsUptoCard : Claim7 := { stood := { row := amqvaluePartsUptoRow, standIns := [], harness := (true, "45babe294cfa0e2177c2e261441f01ed0ada23128938a54c2260400651f5081b"), looks := false }, kinds := [], alts := [], laidByText := true, laidKinds := [.data, .pinned], laidTests := true, laidLooks := .later }
def AmqvaluePartsUptoCardSaid : Prop := Claim7.holds Tryd.pinned (.plain (OpenSpec.upto amqvaluePartsSpec)) amqvaluePartsUptoCard

/-- THE SECOND FORM's CARD OF 'polyglotlaw16.AmqprimNames'. -/
def amqprimNamesUptoCard : Claim7 := { stood := { row := amqprimNamesUptoRow, standIns := [], harness := (true, "45babe294cfa0e2177c2e261441f01ed0ada23128938a54c2260400651f5081b"), looks := false }, kinds := [], alts := [], laidByText := true, laidKinds := [.data, .pinned], laidTests := true, laidLooks := .later }
def AmqprimNamesUptoCardSaid : Prop := Claim7.holds Tryd.pinned (.plain (OpenSpec.upto amqprimNamesSpec)) amqprimNamesUptoCard

/-- THE SECOND FORM's CARD OF 'polyglotlaw16.AmqprimCalls'. -/
def amqprimCallsUptoCard : Claim7 := { stood := { row := amqprimCallsUptoRow, standIns := [], harness := (true, "45babe294cfa0e2177c2e261441f01ed0ada23128938a54c2260400651f5081b"), looks := false }, kinds := [], alts := [], laidByText := true, laidKinds := [.data, .pinned], laidTests := true, laidLooks := .later }
def AmqprimCallsUptoCardSaid : Prop := Claim7.holds Tryd.pinned (.plain (OpenSpec.upto amqprimCallsSpec)) amqprimCallsUptoCard

/-- THE SECOND FORM's CARD OF 'polyglotlaw16.AmqprimBack'. -/
def amqprimBackUptoCard : Claim7 := { stood := { row := amqprimBackUptoRow, standIns := [], harness := (true, "45babe294cfa0e2177c2e261441f01ed0ada23128938a54c2260400651f5081b"), looks := false }, kinds := [], alts := [], laidByText := true, laidKinds := [.data, .pinned], laidTests := true, laidLooks := .later }
def AmqprimBackUptoCardSaid : Prop := Claim7.holds Tryd.pinned (.plain (OpenSpec.upto amqprimBackSpec)) amqprimBackUptoCard

/-- THE SECOND FORM's CARD OF 'polyglotlaw16.AmqprimShort'. -/
def amqprimShortUptoCard : Claim7 := { stood := { row := amqprimShortUptoRow, standIns := [], harness := (true, "45babe294cfa0e2177c2e261441f01ed0ada23128938a54c2260400651f5081b"), looks := false }, kinds := [], alts := [], laidByText := true, laidKinds := [.data, .pinned], laidTests := true, laidLooks := .later }
def AmqprimShortUptoCardSaid : Prop := Claim7.holds Tryd.pinned (.plain (OpenSpec.upto amqprimShortSpec)) amqprimShortUptoCard

/-- THE SECOND FORM's CARD OF 'polyglotlaw17.AmqvalueNames'. -/
def amqvalueNamesUptoCard : Claim7 := { stood := { row := amqvalueNamesUptoRow, standIns := [], harness := (true, "45babe294cfa0e2177c2e261441f01ed0ada23128938a54c2260400651f5081b"), looks := false }, kinds := [], alts := [], laidByText := true, laidKinds := [.data, .pinned], laidTests := true, laidLooks := .later }
def AmqvalueNamesUptoCardSaid : Prop := Claim7.holds Tryd.pinned (.plain (OpenSpec.upto amqvalueNamesSpec)) amqvalueNamesUptoCard

/-- THE SECOND FORM's CARD OF 'polyglotlaw17.AmqvalueReads'. -/
def amqvalueReadsUptoCard : Claim7 := { stood := { row := amqvalueReadsUptoRow, standIns := [], harness := (true, "45babe294cfa0e2177c2e261441f01ed0ada23128938a54c2260400651f5081b"), looks := false }, kinds := [], alts := [], laidByText := true, laidKinds := [.data, .pinned], laidTests := true, laidLooks := .later }
def AmqvalueReadsUptoCardSaid : Prop := Claim7.holds Tryd.pinned (.plain (OpenSpec.upto amqvalueReadsSpec)) amqvalueReadsUptoCard

/-- THE SECOND FORM's CARD OF 'polyglotlaw17.AmqvalueDepths'. -/
def amqvalueDepthsUptoCard : Claim7 := { stood := { row := amqvalueDepthsUptoRow, standIns := [], harness := (true, "45babe294cfa0e2177c2e261441f01ed0ada23128938a54c2260400651f5081b"), looks := false }, kinds := [], alts := [], laidByText := true, laidKinds := [.data, .pinned], laidTests := true, laidLooks := .later }
def AmqvalueDepthsUptoCardSaid : Prop := Claim7.holds Tryd.pinned (.plain (OpenSpec.upto amqvalueDepthsSpec)) amqvalueDepthsUptoCard

/-- THE SECOND FORM's CARD OF 'polyglotlaw17.AmqvalueCalls'. -/
def amqvalueCallsUptoCard : Claim7 := { stood := { row := amqvalueCallsUptoRow, standIns := [], harness := (true, "45babe294cfa0e2177c2e261441f01ed0ada23128938a54c2260400651f5081b"), looks := false }, kinds := [], alts := [], laidByText := true, laidKinds := [.data, .pinned], laidTests := true, laidLooks := .later }
def AmqvalueCallsUptoCardSaid : Prop := Claim7.holds Tryd.pinned (.plain (OpenSpec.upto amqvalueCallsSpec)) amqvalueCallsUptoCard

/-- THE SECOND FORM's CARD OF 'polyglotlaw20.AmqstreamLong'. -/
def amqstreamLongUptoCard : Claim7 := { stood := { row := amqstreamLongUptoRow, standIns := [], harness := (true, "45babe294cfa0e2177c2e261441f01ed0ada23128938a54c2260400651f5081b"), looks := false }, kinds := [], alts := [], laidByText := true, laidKinds := [.data, .pinned], laidTests := true, laidLooks := .later }
def AmqstreamLongUptoCardSaid : Prop := Claim7.holds Tryd.pinned (.plain (OpenSpec.upto amqstreamLongSpec)) amqstreamLongUptoCard

/-- THE SECOND FORM's CARD OF 'polyglotlaw20.AmqstreamNames'. -/
def amqstreamNamesUptoCard : Claim7 := { stood := { row := amqstreamNamesUptoRow, standIns := [], harness := (true, "45babe294cfa0e2177c2e261441f01ed0ada23128938a54c2260400651f5081b"), looks := false }, kinds := [], alts := [], laidByText := true, laidKinds := [.data, .pinned], laidTests := true, laidLooks := .later }
def AmqstreamNamesUptoCardSaid : Prop := Claim7.holds Tryd.pinned (.plain (OpenSpec.upto amqstreamNamesSpec)) amqstreamNamesUptoCard

/-- THE SECOND FORM's CARD OF 'polyglotlaw20.AmqstreamCuts'. -/
def amqstreamCutsUptoCard : Claim7 := { stood := { row := amqstreamCutsUptoRow, standIns := [], harness := (true, "45babe294cfa0e2177c2e261441f01ed0ada23128938a54c2260400651f5081b"), looks := false }, kinds := [], alts := [], laidByText := true, laidKinds := [.data, .pinned], laidTests := true, laidLooks := .later }
def AmqstreamCutsUptoCardSaid : Prop := Claim7.holds Tryd.pinned (.plain (OpenSpec.upto amqstreamCutsSpec)) amqstreamCutsUptoCard

/-- THE SECOND FORM's CARD OF 'polyglotlaw18.AmqcanonNames'. -/
def amqcanonNamesUptoCard : Claim7 := { stood := { row := amqcanonNamesUptoRow, standIns := [], harness := (true, "45babe294cfa0e2177c2e261441f01ed0ada23128938a54c2260400651f5081b"), looks := false }, kinds := [], alts := [], laidByText := true, laidKinds := [.data, .pinned], laidTests := true, laidLooks := .later }
def AmqcanonNamesUptoCardSaid : Prop := Claim7.holds Tryd.pinned (.plain (OpenSpec.upto amqcanonNamesSpec)) amqcanonNamesUptoCard
end Rows
end Go.Proofs.YtekpofpgkokoiaaDoor
