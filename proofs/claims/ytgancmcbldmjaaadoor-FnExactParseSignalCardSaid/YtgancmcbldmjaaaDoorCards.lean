/-
  DERIVED. GIVEN WITH THE SEED: THE CARDS: each row of YtgancmcbldmjaaaDoorRows.lean that lists a variable, with what it lists TIED to the program's text (the seventh form; the later family's looks); each row that meets fmt, with fmt's text TOLD by the authors' own Lean function (tested against real Go, not proved from fmt's source: count such statements apart). THE CARD IS WHAT COUNTS. Prove the row's statement (the work); the ties are given (YtgancmcbldmjaaaDoorTie.lean); close each card by the builder's one call (the guide's Derived/Test/ToyasCard.lean, 'card_holds'). Laid BY PROGRAM, IN A SANDBOX (cutbox-door.mjs). By AI agents, Wed Nov 11 2026. No macro, syntax, notation, axiom, sorry.
-/
import Derived.Test.YtgancmcbldmjaaaDoorRows
import GoSem.ClaimSeven
namespace Go.Proofs.YtgancmcbldmjaaaDoor
namespace Rows

/-- THE TIED CARD OF 'laws.FnExactParseSignal'. -/
def fnExactParseSignalCard : Claim7 := { stood := { row := fnExactParseSignalRow, standIns := [], harness := (true, "743e0a3d3434dc9e0476b26eb1a7b576f2578b6f9f1e76af071ec40501dea5f1"), looks := true }, kinds := [], alts := [], laidByText := true, laidKinds := [.data, .data, .data, .data, .sentinel, .sentinel, .pinned], laidTests := true, laidLooks := .later }
def FnExactParseSignalCardSaid : Prop := Claim7.holds Tryd.pinned (.plain (OpenSpec.ofChange fnExactParseSignalSpec)) fnExactParseSignalCard

/-- THE SECOND FORM's CARD OF 'laws.FnExactParseSignal'. -/
def fnExactParseSignalUptoCard : Claim7 := { stood := { row := fnExactParseSignalUptoRow, standIns := [], harness := (true, "743e0a3d3434dc9e0476b26eb1a7b576f2578b6f9f1e76af071ec40501dea5f1"), looks := true }, kinds := [], alts := [], laidByText := true, laidKinds := [.data, .data, .data, .data, .sentinel, .sentinel, .pinned], laidTests := true, laidLooks := .later }
def FnExactParseSignalUptoCardSaid : Prop := Claim7.holds Tryd.pinned (.plain (OpenSpec.upto fnExactParseSignalSpec)) fnExactParseSignalUptoCard
end Rows
end Go.Proofs.YtgancmcbldmjaaaDoor
