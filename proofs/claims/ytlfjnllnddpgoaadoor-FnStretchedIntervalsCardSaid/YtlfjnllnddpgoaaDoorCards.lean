/-
  DERIVED. GIVEN WITH THE SEED: THE CARDS: each row of YtlfjnllnddpgoaaDoorRows.lean that lists a variable, with what it lists TIED to the program's text (the seventh form; the later family's looks); each row that meets fmt, with fmt's text TOLD by the authors' own Lean function (tested against real Go, not proved from fmt's source: count such statements apart). THE CARD IS WHAT COUNTS. Prove the row's statement (the work); the ties are given (YtlfjnllnddpgoaaDoorTie.lean); close each card by the builder's one call (the guide's Derived/Test/ToyasCard.lean, 'card_holds'). Laid BY PROGRAM, IN A SANDBOX (cutbox-door.mjs). By AI agents, Wed Nov 11 2026. No macro, syntax, notation, axiom, sorry.
-/
import Derived.Test.YtlfjnllnddpgoaaDoorRows
import GoSem.ClaimSeven
namespace Go.Proofs.YtlfjnllnddpgoaaDoor
namespace Rows

/-- THE TIED CARD OF 'laws.FnStretchedIntervals'. -/
def fnStretchedIntervalsCard : Claim7 := { stood := { row := fnStretchedIntervalsRow, standIns := [], harness := (true, "a51964196995b9f8eef4b6d3721b0b35b0303f0de37af2c1bda1effab3ee3661"), looks := false }, kinds := [], alts := [], laidByText := true, laidKinds := [.data, .data], laidTests := true, laidLooks := .later }
def FnStretchedIntervalsCardSaid : Prop := Claim7.holds Tryd.pinned (.plain (OpenSpec.ofChange fnStretchedIntervalsSpec)) fnStretchedIntervalsCard

/-- THE SECOND FORM's CARD OF 'laws.FnStretchedIntervals'. -/
def fnStretchedIntervalsUptoCard : Claim7 := { stood := { row := fnStretchedIntervalsUptoRow, standIns := [], harness := (true, "a51964196995b9f8eef4b6d3721b0b35b0303f0de37af2c1bda1effab3ee3661"), looks := false }, kinds := [], alts := [], laidByText := true, laidKinds := [.data, .data], laidTests := true, laidLooks := .later }
def FnStretchedIntervalsUptoCardSaid : Prop := Claim7.holds Tryd.pinned (.plain (OpenSpec.upto fnStretchedIntervalsSpec)) fnStretchedIntervalsUptoCard
end Rows
end Go.Proofs.YtlfjnllnddpgoaaDoor
