/-
  DERIVED. GIVEN WITH THE SEED: THE CARDS: each row of YtmoemabbmjdhgaaDoorRows.lean that lists a variable, with what it lists TIED to the program's text (the seventh form; the later family's looks); each row that meets fmt, with fmt's text TOLD by the authors' own Lean function (tested against real Go, not proved from fmt's source: count such statements apart). THE CARD IS WHAT COUNTS. Prove the row's statement (the work); the ties are given (YtmoemabbmjdhgaaDoorTie.lean); close each card by the builder's one call (the guide's Derived/Test/ToyasCard.lean, 'card_holds'). Laid BY PROGRAM, IN A SANDBOX (cutbox-door.mjs). By AI agents, Wed Nov 11 2026. No macro, syntax, notation, axiom, sorry.
-/
import Derived.Test.YtmoemabbmjdhgaaDoorRows
import GoSem.ClaimSeven
namespace Go.Proofs.YtmoemabbmjdhgaaDoor
namespace Rows

/-- THE TIED CARD OF 'laws.FnThresholds'. -/
def fnThresholdsCard : Claim7 := { stood := { row := fnThresholdsRow, standIns := [], harness := (true, "328b3a199cf6ed8e2c970d73033c346a549c161d5083bb7173c7c128b4d69bc5"), looks := false }, kinds := [], alts := [], laidByText := true, laidKinds := [.data, .data], laidTests := true, laidLooks := .later }
def FnThresholdsCardSaid : Prop := Claim7.holds Tryd.pinned (.plain (OpenSpec.ofChange fnThresholdsSpec)) fnThresholdsCard

/-- THE SECOND FORM's CARD OF 'laws.FnThresholds'. -/
def fnThresholdsUptoCard : Claim7 := { stood := { row := fnThresholdsUptoRow, standIns := [], harness := (true, "328b3a199cf6ed8e2c970d73033c346a549c161d5083bb7173c7c128b4d69bc5"), looks := false }, kinds := [], alts := [], laidByText := true, laidKinds := [.data, .data], laidTests := true, laidLooks := .later }
def FnThresholdsUptoCardSaid : Prop := Claim7.holds Tryd.pinned (.plain (OpenSpec.upto fnThresholdsSpec)) fnThresholdsUptoCard
end Rows
end Go.Proofs.YtmoemabbmjdhgaaDoor
