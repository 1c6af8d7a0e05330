/-
  DERIVED. GIVEN WITH THE SEED: THE CARDS: each row of YtilieonalmihaaaDoorRows.lean that lists a variable, with what it lists TIED to the program's text (the seventh form; the later family's looks); each row that meets fmt, with fmt's text TOLD by the authors' own Lean function (tested against real Go, not proved from fmt's source: count such statements apart). THE CARD IS WHAT COUNTS. Prove the row's statement (the work); the ties are given (YtilieonalmihaaaDoorTie.lean); close each card by the builder's one call (the guide's Derived/Test/ToyasCard.lean, 'card_holds'). Laid BY PROGRAM, IN A SANDBOX (cutbox-door.mjs). By AI agents, Wed Nov 11 2026. No macro, syntax, notation, axiom, sorry.
-/
import Derived.Test.YtilieonalmihaaaDoorRows
import GoSem.ClaimSeven
namespace Go.Proofs.YtilieonalmihaaaDoor
namespace Rows

/-- THE TIED CARD OF 'laws.FnMosaics'. -/
def fnMosaicsCard : Claim7 := { stood := { row := fnMosaicsRow, standIns := [], harness := (true, "8e6ed97d8189733767d48f92716e7a4e8892da9c33ede3b63d0508b2ba6f5504"), looks := true }, kinds := [], alts := [], laidByText := true, laidKinds := [.data, .data, .data, .data, .sentinel, .sentinel, .pinned], laidTests := true, laidLooks := .later }
def FnMosaicsCardSaid : Prop := Claim7.holds Tryd.pinned (.plain (OpenSpec.ofChange fnMosaicsSpec)) fnMosaicsCard

/-- THE SECOND FORM's CARD OF 'laws.FnMosaics'. -/
def fnMosaicsUptoCard : Claim7 := { stood := { row := fnMosaicsUptoRow, standIns := [], harness := (true, "8e6ed97d8189733767d48f92716e7a4e8892da9c33ede3b63d0508b2ba6f5504"), looks := true }, kinds := [], alts := [], laidByText := true, laidKinds := [.data, .data, .data, .data, .sentinel, .sentinel, .pinned], laidTests := true, laidLooks := .later }
def FnMosaicsUptoCardSaid : Prop := Claim7.holds Tryd.pinned (.plain (OpenSpec.upto fnMosaicsSpec)) fnMosaicsUptoCard
end Rows
end Go.Proofs.YtilieonalmihaaaDoor
