/-
  DERIVED. GIVEN WITH THE SEED: THE CARDS: each row of YtjdhlopdpdhmnaaDoorRows.lean that lists a variable, with what it lists TIED to the program's text (the seventh form; the later family's looks); each row that meets fmt, with fmt's text TOLD by the authors' own Lean function (tested against real Go, not proved from fmt's source: count such statements apart). THE CARD IS WHAT COUNTS. Prove the row's statement (the work); the ties are given (YtjdhlopdpdhmnaaDoorTie.lean); close each card by the builder's one call (the guide's Derived/Test/ToyasCard.lean, 'card_holds'). Laid BY PROGRAM, IN A SANDBOX (cutbox-door.mjs). By AI agents, Wed Nov 11 2026. No macro, syntax, notation, axiom, sorry.
-/
import Derived.Test.YtjdhlopdpdhmnaaDoorRows
import GoSem.ClaimSeven
namespace Go.Proofs.YtjdhlopdpdhmnaaDoor
namespace Rows

/-- THE TIED CARD OF 'laws.FnExactIsBenchCommand'. -/
def fnExactIsBenchCommandCard : Claim7 := { stood := { row := fnExactIsBenchCommandRow, standIns := [], harness := (true, "30ceebc3f0193a97a73696a5da10ce51f76d48776390ebb0d7a1ef1f8645749e"), looks := true }, kinds := [], alts := [], laidByText := true, laidKinds := [.data, .data, .data, .data, .sentinel, .sentinel, .pinned], laidTests := true, laidLooks := .later }
def FnExactIsBenchCommandCardSaid : Prop := Claim7.holds Tryd.pinned (.plain (OpenSpec.ofChange fnExactIsBenchCommandSpec)) fnExactIsBenchCommandCard

/-- THE SECOND FORM's CARD OF 'laws.FnExactIsBenchCommand'. -/
def fnExactIsBenchCommandUptoCard : Claim7 := { stood := { row := fnExactIsBenchCommandUptoRow, standIns := [], harness := (true, "30ceebc3f0193a97a73696a5da10ce51f76d48776390ebb0d7a1ef1f8645749e"), looks := true }, kinds := [], alts := [], laidByText := true, laidKinds := [.data, .data, .data, .data, .sentinel, .sentinel, .pinned], laidTests := true, laidLooks := .later }
def FnExactIsBenchCommandUptoCardSaid : Prop := Claim7.holds Tryd.pinned (.plain (OpenSpec.upto fnExactIsBenchCommandSpec)) fnExactIsBenchCommandUptoCard
end Rows
end Go.Proofs.YtjdhlopdpdhmnaaDoor
