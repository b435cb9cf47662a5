/-
  DERIVED. GIVEN WITH THE SEED: THE CARDS: each row of YtgbdjchdfcodcaaGreatDoorRows.lean that lists a variable, with what it lists TIED to the program's text (the seventh form; the later family's looks); each row that meets fmt, with fmt's text TOLD by the authors' own Lean function (tested against real Go, not proved from fmt's source: count such statements apart). THE CARD IS WHAT COUNTS. Prove the row's statement (the work); the ties are given (YtgbdjchdfcodcaaGreatDoorTie.lean); close each card by the builder's one call (the guide's Derived/Test/ToyasCard.lean, 'card_holds'). Laid BY PROGRAM, IN A SANDBOX (cutbox-door.mjs). By AI agents, Wed Nov 11 2026. No macro, syntax, notation, axiom, sorry.
-/
import Derived.Test.YtgbdjchdfcodcaaGreatDoorRows
import GoSem.ClaimSeven
namespace Go.Proofs.YtgbdjchdfcodcaaGreatDoor
namespace Rows

/-- THE TIED CARD OF 'laws.FnWeakOrders'. -/
def fnWeakOrdersCard : Claim7 := { stood := { row := fnWeakOrdersRow, standIns := [], harness := (true, "6bd1cfa1905094b4bb2911e4c60cbae331975e9dc416fa5376669282b496cf34"), looks := false }, kinds := [], alts := [], laidByText := true, laidKinds := [.data, .data], laidTests := true, laidLooks := .later }
def FnWeakOrdersCardSaid : Prop := Claim7.holds Tryz.pinned (.plain (OpenSpec.ofChange fnWeakOrdersSpec)) fnWeakOrdersCard

/-- THE SECOND FORM's CARD OF 'laws.FnWeakOrders'. -/
def fnWeakOrdersUptoCard : Claim7 := { stood := { row := fnWeakOrdersUptoRow, standIns := [], harness := (true, "6bd1cfa1905094b4bb2911e4c60cbae331975e9dc416fa5376669282b496cf34"), looks := false }, kinds := [], alts := [], laidByText := true, laidKinds := [.data, .data], laidTests := true, laidLooks := .later }
def FnWeakOrdersUptoCardSaid : Prop := Claim7.holds Tryz.pinned (.plain (OpenSpec.upto fnWeakOrdersSpec)) fnWeakOrdersUptoCard
end Rows
end Go.Proofs.YtgbdjchdfcodcaaGreatDoor
