/-
  DERIVED. GIVEN WITH THE SEED: THE CARDS: each row of YtdpmoehmbjmkpaaDoorRows.lean that lists a variable, with what it lists TIED to the program's text (the seventh form; the later family's looks); each row that meets fmt, with fmt's text TOLD by the authors' own Lean function (tested against real Go, not proved from fmt's source: count such statements apart). THE CARD IS WHAT COUNTS. Prove the row's statement (the work); the ties are given (YtdpmoehmbjmkpaaDoorTie.lean); close each card by the builder's one call (the guide's Derived/Test/ToyasCard.lean, 'card_holds'). Laid BY PROGRAM, IN A SANDBOX (cutbox-door.mjs). By AI agents, Wed Nov 11 2026. No macro, syntax, notation, axiom, sorry.
-/
import Derived.Test.YtdpmoehmbjmkpaaDoorRows
import GoSem.ClaimSeven
namespace Go.Proofs.YtdpmoehmbjmkpaaDoor
namespace Rows

/-- THE TIED CARD OF 'laws.FnPatterns'. -/
def fnPatternsCard : Claim7 := { stood := { row := fnPatternsRow, standIns := [], harness := (true, "117fc04f874f4c8d34fd1b5080c1e5b58d3a2da2ef383b9a0ed29b95cb567dda"), looks := false }, kinds := [], alts := [], laidByText := true, laidKinds := [.data, .data], laidTests := true, laidLooks := .later }
def FnPatternsCardSaid : Prop := Claim7.holds Tryd.pinned (.plain (OpenSpec.ofChange fnPatternsSpec)) fnPatternsCard

/-- THE SECOND FORM's CARD OF 'laws.FnPatterns'. -/
def fnPatternsUptoCard : Claim7 := { stood := { row := fnPatternsUptoRow, standIns := [], harness := (true, "117fc04f874f4c8d34fd1b5080c1e5b58d3a2da2ef383b9a0ed29b95cb567dda"), looks := false }, kinds := [], alts := [], laidByText := true, laidKinds := [.data, .data], laidTests := true, laidLooks := .later }
def FnPatternsUptoCardSaid : Prop := Claim7.holds Tryd.pinned (.plain (OpenSpec.upto fnPatternsSpec)) fnPatternsUptoCard
end Rows
end Go.Proofs.YtdpmoehmbjmkpaaDoor
