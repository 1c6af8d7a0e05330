/-
  DERIVED. GIVEN WITH THE SEED: THE CARDS: each row of YtkndcebhjcfphaaGreatDoorRows.lean that lists a variable, with what it lists TIED to the program's text (the seventh form; the later family's looks); each row that meets fmt, with fmt's text TOLD by the authors' own Lean function (tested against real Go, not proved from fmt's source: count such statements apart). THE CARD IS WHAT COUNTS. Prove the row's statement (the work); the ties are given (YtkndcebhjcfphaaGreatDoorTie.lean); close each card by the builder's one call (the guide's Derived/Test/ToyasCard.lean, 'card_holds'). Laid BY PROGRAM, IN A SANDBOX (cutbox-door.mjs). By AI agents, Wed Nov 11 2026. No macro, syntax, notation, axiom, sorry.
-/
import Derived.Test.YtkndcebhjcfphaaGreatDoorRows
import GoSem.ClaimSeven
namespace Go.Proofs.YtkndcebhjcfphaaGreatDoor
namespace Rows

/-- THE TIED CARD OF 'laws.FnExactRunBench'. -/
def fnExactRunBenchCard : Claim7 := { stood := { row := fnExactRunBenchRow, standIns := [], harness := (true, "6cc2101c5a70649352208c7b185e6d491eb7533115767da363c8f08ea7627c3a"), looks := true }, kinds := [], alts := [], laidByText := true, laidKinds := [.data, .data, .data, .data, .sentinel, .sentinel, .pinned], laidTests := true, laidLooks := .later }
def FnExactRunBenchCardSaid : Prop := Claim7.holds Tryz.pinned (.plain (OpenSpec.ofChange fnExactRunBenchSpec)) fnExactRunBenchCard

/-- THE TIED CARD OF 'laws.FnExactBenchAfter'. -/
def fnExactBenchAfterCard : Claim7 := { stood := { row := fnExactBenchAfterRow, standIns := [], harness := (true, "6cc2101c5a70649352208c7b185e6d491eb7533115767da363c8f08ea7627c3a"), looks := true }, kinds := [], alts := [], laidByText := true, laidKinds := [.data, .data, .data, .data, .sentinel, .sentinel, .pinned], laidTests := true, laidLooks := .later }
def FnExactBenchAfterCardSaid : Prop := Claim7.holds Tryz.pinned (.plain (OpenSpec.ofChange fnExactBenchAfterSpec)) fnExactBenchAfterCard

/-- THE TIED CARD OF 'laws.FnBenches'. -/
def fnBenchesCard : Claim7 := { stood := { row := fnBenchesRow, standIns := [], harness := (true, "6cc2101c5a70649352208c7b185e6d491eb7533115767da363c8f08ea7627c3a"), looks := true }, kinds := [], alts := [], laidByText := true, laidKinds := [.data, .data, .data, .data, .sentinel, .sentinel, .pinned], laidTests := true, laidLooks := .later }
def FnBenchesCardSaid : Prop := Claim7.holds Tryz.pinned (.plain (OpenSpec.ofChange fnBenchesSpec)) fnBenchesCard

/-- THE TIED CARD OF 'laws.FnBenchOutputs'. -/
def fnBenchOutputsCard : Claim7 := { stood := { row := fnBenchOutputsRow, standIns := [], harness := (true, "6cc2101c5a70649352208c7b185e6d491eb7533115767da363c8f08ea7627c3a"), looks := true }, kinds := [], alts := [], laidByText := true, laidKinds := [.data, .data, .data, .data, .sentinel, .sentinel, .pinned], laidTests := true, laidLooks := .later }
def FnBenchOutputsCardSaid : Prop := Claim7.holds Tryz.pinned (.plain (OpenSpec.ofChange fnBenchOutputsSpec)) fnBenchOutputsCard

/-- THE SECOND FORM's CARD OF 'laws.FnExactRunBench'. -/
def fnExactRunBenchUptoCard : Claim7 := { stood := { row := fnExactRunBenchUptoRow, standIns := [], harness := (true, "6cc2101c5a70649352208c7b185e6d491eb7533115767da363c8f08ea7627c3a"), looks := true }, kinds := [], alts := [], laidByText := true, laidKinds := [.data, .data, .data, .data, .sentinel, .sentinel, .pinned], laidTests := true, laidLooks := .later }
def FnExactRunBenchUptoCardSaid : Prop := Claim7.holds Tryz.pinned (.plain (OpenSpec.upto fnExactRunBenchSpec)) fnExactRunBenchUptoCard

/-- THE SECOND FORM's CARD OF 'laws.FnExactBenchAfter'. -/
def fnExactBenchAfterUptoCard : Claim7 := { stood := { row := fnExactBenchAfterUptoRow, standIns := [], harness := (true, "6cc2101c5a70649352208c7b185e6d491eb7533115767da363c8f08ea7627c3a"), looks := true }, kinds := [], alts := [], laidByText := true, laidKinds := [.data, .data, .data, .data, .sentinel, .sentinel, .pinned], laidTests := true, laidLooks := .later }
def FnExactBenchAfterUptoCardSaid : Prop := Claim7.holds Tryz.pinned (.plain (OpenSpec.upto fnExactBenchAfterSpec)) fnExactBenchAfterUptoCard

/-- THE SECOND FORM's CARD OF 'laws.FnBenches'. -/
def fnBenchesUptoCard : Claim7 := { stood := { row := fnBenchesUptoRow, standIns := [], harness := (true, "6cc2101c5a70649352208c7b185e6d491eb7533115767da363c8f08ea7627c3a"), looks := true }, kinds := [], alts := [], laidByText := true, laidKinds := [.data, .data, .data, .data, .sentinel, .sentinel, .pinned], laidTests := true, laidLooks := .later }
def FnBenchesUptoCardSaid : Prop := Claim7.holds Tryz.pinned (.plain (OpenSpec.upto fnBenchesSpec)) fnBenchesUptoCard

/-- THE SECOND FORM's CARD OF 'laws.FnBenchOutputs'. -/
def fnBenchOutputsUptoCard : Claim7 := { stood := { row := fnBenchOutputsUptoRow, standIns := [], harness := (true, "6cc2101c5a70649352208c7b185e6d491eb7533115767da363c8f08ea7627c3a"), looks := true }, kinds := [], alts := [], laidByText := true, laidKinds := [.data, .data, .data, .data, .sentinel, .sentinel, .pinned], laidTests := true, laidLooks := .later }
def FnBenchOutputsUptoCardSaid : Prop := Claim7.holds Tryz.pinned (.plain (OpenSpec.upto fnBenchOutputsSpec)) fnBenchOutputsUptoCard
end Rows
end Go.Proofs.YtkndcebhjcfphaaGreatDoor
