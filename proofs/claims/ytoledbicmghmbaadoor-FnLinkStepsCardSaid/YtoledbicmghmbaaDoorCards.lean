/-
  DERIVED. GIVEN WITH THE SEED: THE CARDS: each row of YtoledbicmghmbaaDoorRows.lean that lists a variable, with what it lists TIED to the program's text (the seventh form; the later family's looks); each row that meets fmt, with fmt's text TOLD by the authors' own Lean function (tested against real Go, not proved from fmt's source: count such statements apart). THE CARD IS WHAT COUNTS. Prove the row's statement (the work); the ties are given (YtoledbicmghmbaaDoorTie.lean); close each card by the builder's one call (the guide's Derived/Test/ToyasCard.lean, 'card_holds'). Laid BY PROGRAM, IN A SANDBOX (cutbox-door.mjs). By AI agents, Wed Nov 11 2026. No macro, syntax, notation, axiom, sorry.
-/
import Derived.Test.YtoledbicmghmbaaDoorRows
import GoSem.ClaimSeven
namespace Go.Proofs.YtoledbicmghmbaaDoor
namespace Rows

/-- THE TIED CARD OF 'laws.FnExactRecordLine'. -/
def fnExactRecordLineCard : Claim7 := { stood := { row := fnExactRecordLineRow, standIns := [], harness := (true, "9e5832cd852f40e8a055da48db788592b1c29079ca209a35503851531b02dbe3"), looks := true }, kinds := [], alts := [], laidByText := true, laidKinds := [.data, .data, .data], laidTests := true, laidLooks := .later }
def FnExactRecordLineCardSaid : Prop := Claim7.holds Tryd.pinned (.plain (OpenSpec.ofChange fnExactRecordLineSpec)) fnExactRecordLineCard

/-- THE TIED CARD OF 'laws.FnExactLogText'. -/
def fnExactLogTextCard : Claim7 := { stood := { row := fnExactLogTextRow, standIns := [], harness := (true, "9e5832cd852f40e8a055da48db788592b1c29079ca209a35503851531b02dbe3"), looks := true }, kinds := [], alts := [], laidByText := true, laidKinds := [.data, .data, .data], laidTests := true, laidLooks := .later }
def FnExactLogTextCardSaid : Prop := Claim7.holds Tryd.pinned (.plain (OpenSpec.ofChange fnExactLogTextSpec)) fnExactLogTextCard

/-- THE TIED CARD OF 'laws.FnExactLinkText'. -/
def fnExactLinkTextCard : Claim7 := { stood := { row := fnExactLinkTextRow, standIns := [], harness := (true, "9e5832cd852f40e8a055da48db788592b1c29079ca209a35503851531b02dbe3"), looks := true }, kinds := [], alts := [], laidByText := true, laidKinds := [.data, .data, .data], laidTests := true, laidLooks := .later }
def FnExactLinkTextCardSaid : Prop := Claim7.holds Tryd.pinned (.plain (OpenSpec.ofChange fnExactLinkTextSpec)) fnExactLinkTextCard

/-- THE TIED CARD OF 'laws.FnLinkSteps'. -/
def fnLinkStepsCard : Claim7 := { stood := { row := fnLinkStepsRow, standIns := [], harness := (true, "9e5832cd852f40e8a055da48db788592b1c29079ca209a35503851531b02dbe3"), looks := true }, kinds := [], alts := [], laidByText := true, laidKinds := [.data, .data, .data], laidTests := true, laidLooks := .later }
def FnLinkStepsCardSaid : Prop := Claim7.holds Tryd.pinned (.plain (OpenSpec.ofChange fnLinkStepsSpec)) fnLinkStepsCard

/-- THE TIED CARD OF 'laws.FnExactReadRecordLine'. -/
def fnExactReadRecordLineCard : Claim7 := { stood := { row := fnExactReadRecordLineRow, standIns := [], harness := (true, "9e5832cd852f40e8a055da48db788592b1c29079ca209a35503851531b02dbe3"), looks := true }, kinds := [], alts := [], laidByText := true, laidKinds := [.data, .data, .data, .data, .sentinel, .sentinel, .pinned], laidTests := true, laidLooks := .later }
def FnExactReadRecordLineCardSaid : Prop := Claim7.holds Tryd.pinned (.plain (OpenSpec.ofChange fnExactReadRecordLineSpec)) fnExactReadRecordLineCard

/-- THE TIED CARD OF 'laws.FnRecords'. -/
def fnRecordsCard : Claim7 := { stood := { row := fnRecordsRow, standIns := [], harness := (true, "9e5832cd852f40e8a055da48db788592b1c29079ca209a35503851531b02dbe3"), looks := true }, kinds := [], alts := [], laidByText := true, laidKinds := [.data, .data, .data, .data, .sentinel, .sentinel, .pinned], laidTests := true, laidLooks := .later }
def FnRecordsCardSaid : Prop := Claim7.holds Tryd.pinned (.plain (OpenSpec.ofChange fnRecordsSpec)) fnRecordsCard

/-- THE TIED CARD OF 'laws.FnMosaics'. -/
def fnMosaicsCard : Claim7 := { stood := { row := fnMosaicsRow, standIns := [], harness := (true, "9e5832cd852f40e8a055da48db788592b1c29079ca209a35503851531b02dbe3"), looks := true }, kinds := [], alts := [], laidByText := true, laidKinds := [.data, .data, .data, .data, .sentinel, .sentinel, .pinned], laidTests := true, laidLooks := .later }
def FnMosaicsCardSaid : Prop := Claim7.holds Tryd.pinned (.plain (OpenSpec.ofChange fnMosaicsSpec)) fnMosaicsCard

/-- THE TIED CARD OF 'laws.FnExactRecoverLog'. -/
def fnExactRecoverLogCard : Claim7 := { stood := { row := fnExactRecoverLogRow, standIns := [], harness := (true, "9e5832cd852f40e8a055da48db788592b1c29079ca209a35503851531b02dbe3"), looks := true }, kinds := [], alts := [], laidByText := true, laidKinds := [.data, .data, .data, .data, .sentinel, .sentinel, .pinned], laidTests := true, laidLooks := .later }
def FnExactRecoverLogCardSaid : Prop := Claim7.holds Tryd.pinned (.plain (OpenSpec.ofChange fnExactRecoverLogSpec)) fnExactRecoverLogCard

/-- THE SECOND FORM's CARD OF 'laws.FnExactRecordLine'. -/
def fnExactRecordLineUptoCard : Claim7 := { stood := { row := fnExactRecordLineUptoRow, standIns := [], harness := (true, "9e5832cd852f40e8a055da48db788592b1c29079ca209a35503851531b02dbe3"), looks := true }, kinds := [], alts := [], laidByText := true, laidKinds := [.data, .data, .data], laidTests := true, laidLooks := .later }
def FnExactRecordLineUptoCardSaid : Prop := Claim7.holds Tryd.pinned (.plain (OpenSpec.upto fnExactRecordLineSpec)) fnExactRecordLineUptoCard

/-- THE SECOND FORM's CARD OF 'laws.FnExactLogText'. -/
def fnExactLogTextUptoCard : Claim7 := { stood := { row := fnExactLogTextUptoRow, standIns := [], harness := (true, "9e5832cd852f40e8a055da48db788592b1c29079ca209a35503851531b02dbe3"), looks := true }, kinds := [], alts := [], laidByText := true, laidKinds := [.data, .data, .data], laidTests := true, laidLooks := .later }
def FnExactLogTextUptoCardSaid : Prop := Claim7.holds Tryd.pinned (.plain (OpenSpec.upto fnExactLogTextSpec)) fnExactLogTextUptoCard

/-- THE SECOND FORM's CARD OF 'laws.FnExactLinkText'. -/
def fnExactLinkTextUptoCard : Claim7 := { stood := { row := fnExactLinkTextUptoRow, standIns := [], harness := (true, "9e5832cd852f40e8a055da48db788592b1c29079ca209a35503851531b02dbe3"), looks := true }, kinds := [], alts := [], laidByText := true, laidKinds := [.data, .data, .data], laidTests := true, laidLooks := .later }
def FnExactLinkTextUptoCardSaid : Prop := Claim7.holds Tryd.pinned (.plain (OpenSpec.upto fnExactLinkTextSpec)) fnExactLinkTextUptoCard

/-- THE SECOND FORM's CARD OF 'laws.FnLinkSteps'. -/
def fnLinkStepsUptoCard : Claim7 := { stood := { row := fnLinkStepsUptoRow, standIns := [], harness := (true, "9e5832cd852f40e8a055da48db788592b1c29079ca209a35503851531b02dbe3"), looks := true }, kinds := [], alts := [], laidByText := true, laidKinds := [.data, .data, .data], laidTests := true, laidLooks := .later }
def FnLinkStepsUptoCardSaid : Prop := Claim7.holds Tryd.pinned (.plain (OpenSpec.upto fnLinkStepsSpec)) fnLinkStepsUptoCard

/-- THE SECOND FORM's CARD OF 'laws.FnExactReadRecordLine'. -/
def fnExactReadRecordLineUptoCard : Claim7 := { stood := { row := fnExactReadRecordLineUptoRow, standIns := [], harness := (true, "9e5832cd852f40e8a055da48db788592b1c29079ca209a35503851531b02dbe3"), looks := true }, kinds := [], alts := [], laidByText := true, laidKinds := [.data, .data, .data, .data, .sentinel, .sentinel, .pinned], laidTests := true, laidLooks := .later }
def FnExactReadRecordLineUptoCardSaid : Prop := Claim7.holds Tryd.pinned (.plain (OpenSpec.upto fnExactReadRecordLineSpec)) fnExactReadRecordLineUptoCard

/-- THE SECOND FORM's CARD OF 'laws.FnRecords'. -/
def fnRecordsUptoCard : Claim7 := { stood := { row := fnRecordsUptoRow, standIns := [], harness := (true, "9e5832cd852f40e8a055da48db788592b1c29079ca209a35503851531b02dbe3"), looks := true }, kinds := [], alts := [], laidByText := true, laidKinds := [.data, .data, .data, .data, .sentinel, .sentinel, .pinned], laidTests := true, laidLooks := .later }
def FnRecordsUptoCardSaid : Prop := Claim7.holds Tryd.pinned (.plain (OpenSpec.upto fnRecordsSpec)) fnRecordsUptoCard

/-- THE SECOND FORM's CARD OF 'laws.FnMosaics'. -/
def fnMosaicsUptoCard : Claim7 := { stood := { row := fnMosaicsUptoRow, standIns := [], harness := (true, "9e5832cd852f40e8a055da48db788592b1c29079ca209a35503851531b02dbe3"), looks := true }, kinds := [], alts := [], laidByText := true, laidKinds := [.data, .data, .data, .data, .sentinel, .sentinel, .pinned], laidTests := true, laidLooks := .later }
def FnMosaicsUptoCardSaid : Prop := Claim7.holds Tryd.pinned (.plain (OpenSpec.upto fnMosaicsSpec)) fnMosaicsUptoCard

/-- THE SECOND FORM's CARD OF 'laws.FnExactRecoverLog'. -/
def fnExactRecoverLogUptoCard : Claim7 := { stood := { row := fnExactRecoverLogUptoRow, standIns := [], harness := (true, "9e5832cd852f40e8a055da48db788592b1c29079ca209a35503851531b02dbe3"), looks := true }, kinds := [], alts := [], laidByText := true, laidKinds := [.data, .data, .data, .data, .sentinel, .sentinel, .pinned], laidTests := true, laidLooks := .later }
def FnExactRecoverLogUptoCardSaid : Prop := Claim7.holds Tryd.pinned (.plain (OpenSpec.upto fnExactRecoverLogSpec)) fnExactRecoverLogUptoCard
end Rows
end Go.Proofs.YtoledbicmghmbaaDoor
