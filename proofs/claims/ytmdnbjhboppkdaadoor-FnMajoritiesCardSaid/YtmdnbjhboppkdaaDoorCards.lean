/-
  DERIVED. GIVEN WITH THE SEED: THE CARDS: each row of YtmdnbjhboppkdaaDoorRows.lean that lists a variable, with what it lists TIED to the program's text (the seventh form; the later family's looks); each row that meets fmt, with fmt's text TOLD by the authors' own Lean function (tested against real Go, not proved from fmt's source: count such statements apart). THE CARD IS WHAT COUNTS. Prove the row's statement (the work); the ties are given (YtmdnbjhboppkdaaDoorTie.lean); close each card by the builder's one call (the guide's Derived/Test/ToyasCard.lean, 'card_holds'). Laid BY PROGRAM, IN A SANDBOX (cutbox-door.mjs). By AI agents, Wed Nov 11 2026. No macro, syntax, notation, axiom, sorry.
-/
import Derived.Test.YtmdnbjhboppkdaaDoorRows
import GoSem.ClaimSeven
namespace Go.Proofs.YtmdnbjhboppkdaaDoor
namespace Rows

/-- THE TIED CARD OF 'laws.FnMajorities'. -/
def fnMajoritiesCard : Claim7 := { stood := { row := fnMajoritiesRow, standIns := [], harness := (true, "7ed9c83cc247882e4dce7fa7ea22a392e025c37c4353e4178692e23bb0f929b8"), looks := false }, kinds := [], alts := [], laidByText := true, laidKinds := [.data, .data], laidTests := true, laidLooks := .later }
def FnMajoritiesCardSaid : Prop := Claim7.holds Tryd.pinned (.plain (OpenSpec.ofChange fnMajoritiesSpec)) fnMajoritiesCard

/-- THE SECOND FORM's CARD OF 'laws.FnMajorities'. -/
def fnMajoritiesUptoCard : Claim7 := { stood := { row := fnMajoritiesUptoRow, standIns := [], harness := (true, "7ed9c83cc247882e4dce7fa7ea22a392e025c37c4353e4178692e23bb0f929b8"), looks := false }, kinds := [], alts := [], laidByText := true, laidKinds := [.data, .data], laidTests := true, laidLooks := .later }
def FnMajoritiesUptoCardSaid : Prop := Claim7.holds Tryd.pinned (.plain (OpenSpec.upto fnMajoritiesSpec)) fnMajoritiesUptoCard
end Rows
end Go.Proofs.YtmdnbjhboppkdaaDoor
