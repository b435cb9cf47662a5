/-
  DERIVED. GIVEN WITH THE SEED: THE CARDS: each row of YtdmheeenoklijaaDoorRows.lean that lists a variable, with what it lists TIED to the program's text (the seventh form; the later family's looks); each row that meets fmt, with fmt's text TOLD by the authors' own Lean function (tested against real Go, not proved from fmt's source: count such statements apart). THE CARD IS WHAT COUNTS. Prove the row's statement (the work); the ties are given (YtdmheeenoklijaaDoorTie.lean); close each card by the builder's one call (the guide's Derived/Test/ToyasCard.lean, 'card_holds'). Laid BY PROGRAM, IN A SANDBOX (cutbox-door.mjs). By AI agents, Wed Nov 11 2026. No macro, syntax, notation, axiom, sorry.
-/
import Derived.Test.YtdmheeenoklijaaDoorRows
import GoSem.ClaimSeven
namespace Go.Proofs.YtdmheeenoklijaaDoor
namespace Rows

/-- THE TIED CARD OF 'laws.FnMirroredEnds'. -/
def fnMirroredEndsCard : Claim7 := { stood := { row := fnMirroredEndsRow, standIns := [], harness := (true, "4f9d97b904689d2d2ecdcc12a70236c0b651dbf295a7075b5d58f3a374c77e77"), looks := false }, kinds := [], alts := [], laidByText := true, laidKinds := [.data, .data], laidTests := true, laidLooks := .later }
def FnMirroredEndsCardSaid : Prop := Claim7.holds Tryd.pinned (.plain (OpenSpec.ofChange fnMirroredEndsSpec)) fnMirroredEndsCard

/-- THE TIED CARD OF 'laws.FnEndsAreLeast'. -/
def fnEndsAreLeastCard : Claim7 := { stood := { row := fnEndsAreLeastRow, standIns := [], harness := (true, "4f9d97b904689d2d2ecdcc12a70236c0b651dbf295a7075b5d58f3a374c77e77"), looks := false }, kinds := [], alts := [], laidByText := true, laidKinds := [.data, .data], laidTests := true, laidLooks := .later }
def FnEndsAreLeastCardSaid : Prop := Claim7.holds Tryd.pinned (.plain (OpenSpec.ofChange fnEndsAreLeastSpec)) fnEndsAreLeastCard

/-- THE TIED CARD OF 'laws.FnSetsAlong'. -/
def fnSetsAlongCard : Claim7 := { stood := { row := fnSetsAlongRow, standIns := [], harness := (true, "4f9d97b904689d2d2ecdcc12a70236c0b651dbf295a7075b5d58f3a374c77e77"), looks := false }, kinds := [], alts := [], laidByText := true, laidKinds := [.data, .data], laidTests := true, laidLooks := .later }
def FnSetsAlongCardSaid : Prop := Claim7.holds Tryd.pinned (.plain (OpenSpec.ofChange fnSetsAlongSpec)) fnSetsAlongCard

/-- THE SECOND FORM's CARD OF 'laws.FnMirroredEnds'. -/
def fnMirroredEndsUptoCard : Claim7 := { stood := { row := fnMirroredEndsUptoRow, standIns := [], harness := (true, "4f9d97b904689d2d2ecdcc12a70236c0b651dbf295a7075b5d58f3a374c77e77"), looks := false }, kinds := [], alts := [], laidByText := true, laidKinds := [.data, .data], laidTests := true, laidLooks := .later }
def FnMirroredEndsUptoCardSaid : Prop := Claim7.holds Tryd.pinned (.plain (OpenSpec.upto fnMirroredEndsSpec)) fnMirroredEndsUptoCard

/-- THE SECOND FORM's CARD OF 'laws.FnEndsAreLeast'. -/
def fnEndsAreLeastUptoCard : Claim7 := { stood := { row := fnEndsAreLeastUptoRow, standIns := [], harness := (true, "4f9d97b904689d2d2ecdcc12a70236c0b651dbf295a7075b5d58f3a374c77e77"), looks := false }, kinds := [], alts := [], laidByText := true, laidKinds := [.data, .data], laidTests := true, laidLooks := .later }
def FnEndsAreLeastUptoCardSaid : Prop := Claim7.holds Tryd.pinned (.plain (OpenSpec.upto fnEndsAreLeastSpec)) fnEndsAreLeastUptoCard

/-- THE SECOND FORM's CARD OF 'laws.FnSetsAlong'. -/
def fnSetsAlongUptoCard : Claim7 := { stood := { row := fnSetsAlongUptoRow, standIns := [], harness := (true, "4f9d97b904689d2d2ecdcc12a70236c0b651dbf295a7075b5d58f3a374c77e77"), looks := false }, kinds := [], alts := [], laidByText := true, laidKinds := [.data, .data], laidTests := true, laidLooks := .later }
def FnSetsAlongUptoCardSaid : Prop := Claim7.holds Tryd.pinned (.plain (OpenSpec.upto fnSetsAlongSpec)) fnSetsAlongUptoCard
end Rows
end Go.Proofs.YtdmheeenoklijaaDoor
