/-
  DERIVED. GIVEN WITH THE SEED: THE CARDS: each row of YthdlkadfhbbilaaDoorRows.lean that lists a variable, with what it lists TIED to the program's text (the seventh form; the later family's looks); each row that meets fmt, with fmt's text TOLD by the authors' own Lean function (tested against real Go, not proved from fmt's source: count such statements apart). THE CARD IS WHAT COUNTS. Prove the row's statement (the work); the ties are given (YthdlkadfhbbilaaDoorTie.lean); close each card by the builder's one call (the guide's Derived/Test/ToyasCard.lean, 'card_holds'). Laid BY PROGRAM, IN A SANDBOX (cutbox-door.mjs). By AI agents, Wed Nov 11 2026. No macro, syntax, notation, axiom, sorry.
-/
import Derived.Test.YthdlkadfhbbilaaDoorRows
import GoSem.ClaimSeven
namespace Go.Proofs.YthdlkadfhbbilaaDoor
namespace Rows

/-- THE TIED CARD OF 'laws.FnClosures'. -/
def fnClosuresCard : Claim7 := { stood := { row := fnClosuresRow, standIns := [], harness := (true, "7fd4e61abc07a95c847408186754cf6439fe580114e2d40c0180a3465503582c"), looks := false }, kinds := [], alts := [], laidByText := true, laidKinds := [.data, .data], laidTests := true, laidLooks := .later }
def FnClosuresCardSaid : Prop := Claim7.holds Tryd.pinned (.plain (OpenSpec.ofChange fnClosuresSpec)) fnClosuresCard

/-- THE SECOND FORM's CARD OF 'laws.FnClosures'. -/
def fnClosuresUptoCard : Claim7 := { stood := { row := fnClosuresUptoRow, standIns := [], harness := (true, "7fd4e61abc07a95c847408186754cf6439fe580114e2d40c0180a3465503582c"), looks := false }, kinds := [], alts := [], laidByText := true, laidKinds := [.data, .data], laidTests := true, laidLooks := .later }
def FnClosuresUptoCardSaid : Prop := Claim7.holds Tryd.pinned (.plain (OpenSpec.upto fnClosuresSpec)) fnClosuresUptoCard
end Rows
end Go.Proofs.YthdlkadfhbbilaaDoor
