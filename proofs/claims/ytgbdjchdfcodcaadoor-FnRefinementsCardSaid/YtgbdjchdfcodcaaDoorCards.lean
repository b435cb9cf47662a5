/-
  DERIVED. GIVEN WITH THE SEED: THE CARDS: each row of YtgbdjchdfcodcaaDoorRows.lean that lists a variable, with what it lists TIED to the program's text (the seventh form; the later family's looks); each row that meets fmt, with fmt's text TOLD by the authors' own Lean function (tested against real Go, not proved from fmt's source: count such statements apart). THE CARD IS WHAT COUNTS. Prove the row's statement (the work); the ties are given (YtgbdjchdfcodcaaDoorTie.lean); close each card by the builder's one call (the guide's Derived/Test/ToyasCard.lean, 'card_holds'). Laid BY PROGRAM, IN A SANDBOX (cutbox-door.mjs). By AI agents, Wed Nov 11 2026. No macro, syntax, notation, axiom, sorry.
-/
import Derived.Test.YtgbdjchdfcodcaaDoorRows
import GoSem.ClaimSeven
namespace Go.Proofs.YtgbdjchdfcodcaaDoor
namespace Rows

/-- THE TIED CARD OF 'laws.FnRefinements'. -/
def fnRefinementsCard : Claim7 := { stood := { row := fnRefinementsRow, standIns := [], harness := (true, "5fe8c71ca6cff731326a4ae1a1470fc2b6f50007ff48f7582d24978ca76f0a14"), looks := false }, kinds := [], alts := [], laidByText := true, laidKinds := [.data, .data], laidTests := true, laidLooks := .later }
def FnRefinementsCardSaid : Prop := Claim7.holds Tryd.pinned (.plain (OpenSpec.ofChange fnRefinementsSpec)) fnRefinementsCard

/-- THE SECOND FORM's CARD OF 'laws.FnRefinements'. -/
def fnRefinementsUptoCard : Claim7 := { stood := { row := fnRefinementsUptoRow, standIns := [], harness := (true, "5fe8c71ca6cff731326a4ae1a1470fc2b6f50007ff48f7582d24978ca76f0a14"), looks := false }, kinds := [], alts := [], laidByText := true, laidKinds := [.data, .data], laidTests := true, laidLooks := .later }
def FnRefinementsUptoCardSaid : Prop := Claim7.holds Tryd.pinned (.plain (OpenSpec.upto fnRefinementsSpec)) fnRefinementsUptoCard
end Rows
end Go.Proofs.YtgbdjchdfcodcaaDoor
