/-
  DERIVED. GIVEN WITH THE SEED: THE CARDS: each row of YtokeomcijelbmaaDoorRows.lean that lists a variable, with what it lists TIED to the program's text (the seventh form; the later family's looks); each row that meets fmt, with fmt's text TOLD by the authors' own Lean function (tested against real Go, not proved from fmt's source: count such statements apart). THE CARD IS WHAT COUNTS. Prove the row's statement (the work); the ties are given (YtokeomcijelbmaaDoorTie.lean); close each card by the builder's one call (the guide's Derived/Test/ToyasCard.lean, 'card_holds'). Laid BY PROGRAM, IN A SANDBOX (cutbox-door.mjs). By AI agents, Wed Nov 11 2026. No macro, syntax, notation, axiom, sorry.
-/
import Derived.Test.YtokeomcijelbmaaDoorRows
import GoSem.ClaimSeven
namespace Go.Proofs.YtokeomcijelbmaaDoor
namespace Rows

/-- THE TIED CARD OF 'laws.FnFourRefuse'. -/
def fnFourRefuseCard : Claim7 := { stood := { row := fnFourRefuseRow, standIns := [], harness := (true, "7b74f45de36b2cc715d54ebffca263215e741f1c06c6b68cad6a65e98408146c"), looks := false }, kinds := [], alts := [], laidByText := true, laidKinds := [.data, .data], laidTests := true, laidLooks := .later }
def FnFourRefuseCardSaid : Prop := Claim7.holds Tryd.pinned (.plain (OpenSpec.ofChange fnFourRefuseSpec)) fnFourRefuseCard

/-- THE SECOND FORM's CARD OF 'laws.FnFourRefuse'. -/
def fnFourRefuseUptoCard : Claim7 := { stood := { row := fnFourRefuseUptoRow, standIns := [], harness := (true, "7b74f45de36b2cc715d54ebffca263215e741f1c06c6b68cad6a65e98408146c"), looks := false }, kinds := [], alts := [], laidByText := true, laidKinds := [.data, .data], laidTests := true, laidLooks := .later }
def FnFourRefuseUptoCardSaid : Prop := Claim7.holds Tryd.pinned (.plain (OpenSpec.upto fnFourRefuseSpec)) fnFourRefuseUptoCard
end Rows
end Go.Proofs.YtokeomcijelbmaaDoor
