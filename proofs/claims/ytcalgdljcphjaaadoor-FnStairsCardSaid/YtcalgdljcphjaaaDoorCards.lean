/-
  DERIVED. GIVEN WITH THE SEED: THE CARDS: each row of YtcalgdljcphjaaaDoorRows.lean that lists a variable, with what it lists TIED to the program's text (the seventh form; the later family's looks); each row that meets fmt, with fmt's text TOLD by the authors' own Lean function (tested against real Go, not proved from fmt's source: count such statements apart). THE CARD IS WHAT COUNTS. Prove the row's statement (the work); the ties are given (YtcalgdljcphjaaaDoorTie.lean); close each card by the builder's one call (the guide's Derived/Test/ToyasCard.lean, 'card_holds'). Laid BY PROGRAM, IN A SANDBOX (cutbox-door.mjs). By AI agents, Wed Nov 11 2026. No macro, syntax, notation, axiom, sorry.
-/
import Derived.Test.YtcalgdljcphjaaaDoorRows
import GoSem.ClaimSeven
namespace Go.Proofs.YtcalgdljcphjaaaDoor
namespace Rows

/-- THE TIED CARD OF 'laws.FnStairs'. -/
def fnStairsCard : Claim7 := { stood := { row := fnStairsRow, standIns := [], harness := (true, "bcccc8280d0ca2e9c26c9ee029c4988fd64d58a9c807493d3fced89987bb7096"), looks := false }, kinds := [], alts := [], laidByText := true, laidKinds := [.data, .data], laidTests := true, laidLooks := .later }
def FnStairsCardSaid : Prop := Claim7.holds Tryd.pinned (.plain (OpenSpec.ofChange fnStairsSpec)) fnStairsCard

/-- THE SECOND FORM's CARD OF 'laws.FnStairs'. -/
def fnStairsUptoCard : Claim7 := { stood := { row := fnStairsUptoRow, standIns := [], harness := (true, "bcccc8280d0ca2e9c26c9ee029c4988fd64d58a9c807493d3fced89987bb7096"), looks := false }, kinds := [], alts := [], laidByText := true, laidKinds := [.data, .data], laidTests := true, laidLooks := .later }
def FnStairsUptoCardSaid : Prop := Claim7.holds Tryd.pinned (.plain (OpenSpec.upto fnStairsSpec)) fnStairsUptoCard
end Rows
end Go.Proofs.YtcalgdljcphjaaaDoor
