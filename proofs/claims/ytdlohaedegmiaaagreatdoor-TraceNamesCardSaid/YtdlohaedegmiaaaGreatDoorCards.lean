/-
  DERIVED. GIVEN WITH THE SEED: THE CARDS: each row of YtdlohaedegmiaaaGreatDoorRows.lean that lists a variable, with what it lists TIED to the program's text (the seventh form; the later family's looks); each row that meets fmt, with fmt's text TOLD by the authors' own Lean function (tested against real Go, not proved from fmt's source: count such statements apart). THE CARD IS WHAT COUNTS. Prove the row's statement (the work); the ties are given (YtdlohaedegmiaaaGreatDoorTie.lean); close each card by the builder's one call (the guide's Derived/Test/ToyasCard.lean, 'card_holds'). Laid BY PROGRAM, IN A SANDBOX (cutbox-door.mjs). By AI agents, Wed Nov 11 2026. No macro, syntax, notation, axiom, sorry.
-/
import Derived.Test.YtdlohaedegmiaaaGreatDoorRows
import GoSem.ClaimSeven
namespace Go.Proofs.YtdlohaedegmiaaaGreatDoor
namespace Rows

/-- THE TIED CARD OF 'wreckagelaw45.TraceNames'. -/
def traceNamesCard : Claim7 := { stood := { row := traceNamesRow, standIns := [], harness := (true, "9e0b57fda6a7d87b34b1ed83ff569ec22706681afc66bbbf2c1b2e61e04849fb"), looks := true }, kinds := [], alts := [], laidByText := true, laidKinds := [.data, .data, .data, .data, .sentinel, .sentinel, .listed, .data, .pinned], laidTests := true, laidLooks := .later }
def TraceNamesCardSaid : Prop := Claim7.holds Tryz.pinned (.plain (OpenSpec.ofChange traceNamesSpec)) traceNamesCard

/-- THE SECOND FORM's CARD OF 'wreckagelaw45.TraceNames'. -/
def traceNamesUptoCard : Claim7 := { stood := { row := traceNamesUptoRow, standIns := [], harness := (true, "9e0b57fda6a7d87b34b1ed83ff569ec22706681afc66bbbf2c1b2e61e04849fb"), looks := true }, kinds := [], alts := [], laidByText := true, laidKinds := [.data, .data, .data, .data, .sentinel, .sentinel, .listed, .data, .pinned], laidTests := true, laidLooks := .later }
def TraceNamesUptoCardSaid : Prop := Claim7.holds Tryz.pinned (.plain (OpenSpec.upto traceNamesSpec)) traceNamesUptoCard
end Rows
end Go.Proofs.YtdlohaedegmiaaaGreatDoor
