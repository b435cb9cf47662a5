/-
  DERIVED. GIVEN WITH THE SEED: THE CARDS: each row of YtgdnljpallpjiaaDoorRows.lean that lists a variable, with what it lists TIED to the program's text (the seventh form; the later family's looks); each row that meets fmt, with fmt's text TOLD by the authors' own Lean function (tested against real Go, not proved from fmt's source: count such statements apart). THE CARD IS WHAT COUNTS. Prove the row's statement (the work); the ties are given (YtgdnljpallpjiaaDoorTie.lean); close each card by the builder's one call (the guide's Derived/Test/ToyasCard.lean, 'card_holds'). Laid BY PROGRAM, IN A SANDBOX (cutbox-door.mjs). By AI agents, Wed Nov 11 2026. No macro, syntax, notation, axiom, sorry.
-/
import Derived.Test.YtgdnljpallpjiaaDoorRows
import GoSem.ClaimSeven
namespace Go.Proofs.YtgdnljpallpjiaaDoor
namespace Rows

/-- THE TIED CARD OF 'laws.FnExtensions'. -/
def fnExtensionsCard : Claim7 := { stood := { row := fnExtensionsRow, standIns := [], harness := (true, "859304af79ebdeb5abcc2985a8f3af40a27bde6dd7ff40182299b9c024d7b5db"), looks := false }, kinds := [], alts := [], laidByText := true, laidKinds := [.data, .data], laidTests := true, laidLooks := .later }
def FnExtensionsCardSaid : Prop := Claim7.holds Tryd.pinned (.plain (OpenSpec.ofChange fnExtensionsSpec)) fnExtensionsCard

/-- THE SECOND FORM's CARD OF 'laws.FnExtensions'. -/
def fnExtensionsUptoCard : Claim7 := { stood := { row := fnExtensionsUptoRow, standIns := [], harness := (true, "859304af79ebdeb5abcc2985a8f3af40a27bde6dd7ff40182299b9c024d7b5db"), looks := false }, kinds := [], alts := [], laidByText := true, laidKinds := [.data, .data], laidTests := true, laidLooks := .later }
def FnExtensionsUptoCardSaid : Prop := Claim7.holds Tryd.pinned (.plain (OpenSpec.upto fnExtensionsSpec)) fnExtensionsUptoCard
end Rows
end Go.Proofs.YtgdnljpallpjiaaDoor
