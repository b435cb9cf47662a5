/-
  DERIVED. GIVEN WITH THE SEED: THE CARDS: each row of YtfpicdkanmgdoaaDoorRows.lean that lists a variable, with what it lists TIED to the program's text (the seventh form; the later family's looks); each row that meets fmt, with fmt's text TOLD by the authors' own Lean function (tested against real Go, not proved from fmt's source: count such statements apart). THE CARD IS WHAT COUNTS. Prove the row's statement (the work); the ties are given (YtfpicdkanmgdoaaDoorTie.lean); close each card by the builder's one call (the guide's Derived/Test/ToyasCard.lean, 'card_holds'). Laid BY PROGRAM, IN A SANDBOX (cutbox-door.mjs). By AI agents, Wed Nov 11 2026. No macro, syntax, notation, axiom, sorry.
-/
import Derived.Test.YtfpicdkanmgdoaaDoorRows
import GoSem.ClaimSeven
namespace Go.Proofs.YtfpicdkanmgdoaaDoor
namespace Rows

/-- THE TIED CARD OF 'laws.FnLevelRanks'. -/
def fnLevelRanksCard : Claim7 := { stood := { row := fnLevelRanksRow, standIns := [], harness := (true, "1a7d9afe886414d3d4773e8e2160ea6311cc4720864440a006a2ef1205335e67"), looks := false }, kinds := [], alts := [], laidByText := true, laidKinds := [.data, .data], laidTests := true, laidLooks := .later }
def FnLevelRanksCardSaid : Prop := Claim7.holds Tryd.pinned (.plain (OpenSpec.ofChange fnLevelRanksSpec)) fnLevelRanksCard

/-- THE SECOND FORM's CARD OF 'laws.FnLevelRanks'. -/
def fnLevelRanksUptoCard : Claim7 := { stood := { row := fnLevelRanksUptoRow, standIns := [], harness := (true, "1a7d9afe886414d3d4773e8e2160ea6311cc4720864440a006a2ef1205335e67"), looks := false }, kinds := [], alts := [], laidByText := true, laidKinds := [.data, .data], laidTests := true, laidLooks := .later }
def FnLevelRanksUptoCardSaid : Prop := Claim7.holds Tryd.pinned (.plain (OpenSpec.upto fnLevelRanksSpec)) fnLevelRanksUptoCard
end Rows
end Go.Proofs.YtfpicdkanmgdoaaDoor
