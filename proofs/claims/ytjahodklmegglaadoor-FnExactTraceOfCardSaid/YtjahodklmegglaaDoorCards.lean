/-
  DERIVED. GIVEN WITH THE SEED: THE CARDS: each row of YtjahodklmegglaaDoorRows.lean that lists a variable, with what it lists TIED to the program's text (the seventh form; the later family's looks); each row that meets fmt, with fmt's text TOLD by the authors' own Lean function (tested against real Go, not proved from fmt's source: count such statements apart). THE CARD IS WHAT COUNTS. Prove the row's statement (the work); the ties are given (YtjahodklmegglaaDoorTie.lean); close each card by the builder's one call (the guide's Derived/Test/ToyasCard.lean, 'card_holds'). Laid BY PROGRAM, IN A SANDBOX (cutbox-door.mjs). By AI agents, Wed Nov 11 2026. No macro, syntax, notation, axiom, sorry.
-/
import Derived.Test.YtjahodklmegglaaDoorRows
import GoSem.ClaimSeven
namespace Go.Proofs.YtjahodklmegglaaDoor
namespace Rows

/-- THE TIED CARD OF 'laws.FnExactWeakLevels'. -/
def fnExactWeakLevelsCard : Claim7 := { stood := { row := fnExactWeakLevelsRow, standIns := [], harness := (true, "317dbf4e2317563f5473f7d2c6f91fb06a2877b34cec74eebb6b8675a182bcf2"), looks := false }, kinds := [], alts := [], laidByText := true, laidKinds := [.data, .data], laidTests := true, laidLooks := .later }
def FnExactWeakLevelsCardSaid : Prop := Claim7.holds Tryd.pinned (.plain (OpenSpec.ofChange fnExactWeakLevelsSpec)) fnExactWeakLevelsCard

/-- THE TIED CARD OF 'laws.FnExactStairOf'. -/
def fnExactStairOfCard : Claim7 := { stood := { row := fnExactStairOfRow, standIns := [], harness := (true, "317dbf4e2317563f5473f7d2c6f91fb06a2877b34cec74eebb6b8675a182bcf2"), looks := false }, kinds := [], alts := [], laidByText := true, laidKinds := [.data, .data], laidTests := true, laidLooks := .later }
def FnExactStairOfCardSaid : Prop := Claim7.holds Tryd.pinned (.plain (OpenSpec.ofChange fnExactStairOfSpec)) fnExactStairOfCard

/-- THE TIED CARD OF 'laws.FnExactTraceOf'. -/
def fnExactTraceOfCard : Claim7 := { stood := { row := fnExactTraceOfRow, standIns := [], harness := (true, "317dbf4e2317563f5473f7d2c6f91fb06a2877b34cec74eebb6b8675a182bcf2"), looks := false }, kinds := [], alts := [], laidByText := true, laidKinds := [.data, .data], laidTests := true, laidLooks := .later }
def FnExactTraceOfCardSaid : Prop := Claim7.holds Tryd.pinned (.plain (OpenSpec.ofChange fnExactTraceOfSpec)) fnExactTraceOfCard

/-- THE SECOND FORM's CARD OF 'laws.FnExactWeakLevels'. -/
def fnExactWeakLevelsUptoCard : Claim7 := { stood := { row := fnExactWeakLevelsUptoRow, standIns := [], harness := (true, "317dbf4e2317563f5473f7d2c6f91fb06a2877b34cec74eebb6b8675a182bcf2"), looks := false }, kinds := [], alts := [], laidByText := true, laidKinds := [.data, .data], laidTests := true, laidLooks := .later }
def FnExactWeakLevelsUptoCardSaid : Prop := Claim7.holds Tryd.pinned (.plain (OpenSpec.upto fnExactWeakLevelsSpec)) fnExactWeakLevelsUptoCard

/-- THE SECOND FORM's CARD OF 'laws.FnExactStairOf'. -/
def fnExactStairOfUptoCard : Claim7 := { stood := { row := fnExactStairOfUptoRow, standIns := [], harness := (true, "317dbf4e2317563f5473f7d2c6f91fb06a2877b34cec74eebb6b8675a182bcf2"), looks := false }, kinds := [], alts := [], laidByText := true, laidKinds := [.data, .data], laidTests := true, laidLooks := .later }
def FnExactStairOfUptoCardSaid : Prop := Claim7.holds Tryd.pinned (.plain (OpenSpec.upto fnExactStairOfSpec)) fnExactStairOfUptoCard

/-- THE SECOND FORM's CARD OF 'laws.FnExactTraceOf'. -/
def fnExactTraceOfUptoCard : Claim7 := { stood := { row := fnExactTraceOfUptoRow, standIns := [], harness := (true, "317dbf4e2317563f5473f7d2c6f91fb06a2877b34cec74eebb6b8675a182bcf2"), looks := false }, kinds := [], alts := [], laidByText := true, laidKinds := [.data, .data], laidTests := true, laidLooks := .later }
def FnExactTraceOfUptoCardSaid : Prop := Claim7.holds Tryd.pinned (.plain (OpenSpec.upto fnExactTraceOfSpec)) fnExactTraceOfUptoCard
end Rows
end Go.Proofs.YtjahodklmegglaaDoor
