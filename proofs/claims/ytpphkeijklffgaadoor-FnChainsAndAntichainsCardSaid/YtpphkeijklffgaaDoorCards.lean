/-
  DERIVED. GIVEN WITH THE SEED: THE CARDS: each row of YtpphkeijklffgaaDoorRows.lean that lists a variable, with what it lists TIED to the program's text (the seventh form; the later family's looks); each row that meets fmt, with fmt's text TOLD by the authors' own Lean function (tested against real Go, not proved from fmt's source: count such statements apart). THE CARD IS WHAT COUNTS. Prove the row's statement (the work); the ties are given (YtpphkeijklffgaaDoorTie.lean); close each card by the builder's one call (the guide's Derived/Test/ToyasCard.lean, 'card_holds'). Laid BY PROGRAM, IN A SANDBOX (cutbox-door.mjs). By AI agents, Wed Nov 11 2026. No macro, syntax, notation, axiom, sorry.
-/
import Derived.Test.YtpphkeijklffgaaDoorRows
import GoSem.ClaimSeven
namespace Go.Proofs.YtpphkeijklffgaaDoor
namespace Rows

/-- THE TIED CARD OF 'laws.FnChainsAndAntichains'. -/
def fnChainsAndAntichainsCard : Claim7 := { stood := { row := fnChainsAndAntichainsRow, standIns := [], harness := (true, "868b7e20e5a1c77005b6b614bc7bd8dbc60380159aeea15f20c837fbf52e8cbd"), looks := false }, kinds := [], alts := [], laidByText := true, laidKinds := [.data, .data], laidTests := true, laidLooks := .later }
def FnChainsAndAntichainsCardSaid : Prop := Claim7.holds Tryd.pinned (.plain (OpenSpec.ofChange fnChainsAndAntichainsSpec)) fnChainsAndAntichainsCard

/-- THE SECOND FORM's CARD OF 'laws.FnChainsAndAntichains'. -/
def fnChainsAndAntichainsUptoCard : Claim7 := { stood := { row := fnChainsAndAntichainsUptoRow, standIns := [], harness := (true, "868b7e20e5a1c77005b6b614bc7bd8dbc60380159aeea15f20c837fbf52e8cbd"), looks := false }, kinds := [], alts := [], laidByText := true, laidKinds := [.data, .data], laidTests := true, laidLooks := .later }
def FnChainsAndAntichainsUptoCardSaid : Prop := Claim7.holds Tryd.pinned (.plain (OpenSpec.upto fnChainsAndAntichainsSpec)) fnChainsAndAntichainsUptoCard
end Rows
end Go.Proofs.YtpphkeijklffgaaDoor
