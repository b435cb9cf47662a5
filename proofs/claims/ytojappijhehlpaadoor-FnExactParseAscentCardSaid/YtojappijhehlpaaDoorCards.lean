/-
  DERIVED. GIVEN WITH THE SEED: THE CARDS: each row of YtojappijhehlpaaDoorRows.lean that lists a variable, with what it lists TIED to the program's text (the seventh form; the later family's looks); each row that meets fmt, with fmt's text TOLD by the authors' own Lean function (tested against real Go, not proved from fmt's source: count such statements apart). THE CARD IS WHAT COUNTS. Prove the row's statement (the work); the ties are given (YtojappijhehlpaaDoorTie.lean); close each card by the builder's one call (the guide's Derived/Test/ToyasCard.lean, 'card_holds'). Laid BY PROGRAM, IN A SANDBOX (cutbox-door.mjs). By AI agents, Wed Nov 11 2026. No macro, syntax, notation, axiom, sorry.
-/
import Derived.Test.YtojappijhehlpaaDoorRows
import GoSem.ClaimSeven
namespace Go.Proofs.YtojappijhehlpaaDoor
namespace Rows

/-- THE TIED CARD OF 'laws.FnExactAscentText'. -/
def fnExactAscentTextCard : Claim7 := { stood := { row := fnExactAscentTextRow, standIns := [], harness := (true, "0af948eb0fd31e843e354559de99840598b4672b600c364b73843d5d21e9d989"), looks := true }, kinds := [], alts := [], laidByText := true, laidKinds := [.data, .data, .data], laidTests := true, laidLooks := .later }
def FnExactAscentTextCardSaid : Prop := Claim7.holds Tryd.pinned (.plain (OpenSpec.ofChange fnExactAscentTextSpec)) fnExactAscentTextCard

/-- THE TIED CARD OF 'laws.FnExactParseAscent'. -/
def fnExactParseAscentCard : Claim7 := { stood := { row := fnExactParseAscentRow, standIns := [], harness := (true, "0af948eb0fd31e843e354559de99840598b4672b600c364b73843d5d21e9d989"), looks := true }, kinds := [], alts := [], laidByText := true, laidKinds := [.data, .data, .data, .data, .sentinel, .sentinel, .pinned], laidTests := true, laidLooks := .later }
def FnExactParseAscentCardSaid : Prop := Claim7.holds Tryd.pinned (.plain (OpenSpec.ofChange fnExactParseAscentSpec)) fnExactParseAscentCard

/-- THE SECOND FORM's CARD OF 'laws.FnExactAscentText'. -/
def fnExactAscentTextUptoCard : Claim7 := { stood := { row := fnExactAscentTextUptoRow, standIns := [], harness := (true, "0af948eb0fd31e843e354559de99840598b4672b600c364b73843d5d21e9d989"), looks := true }, kinds := [], alts := [], laidByText := true, laidKinds := [.data, .data, .data], laidTests := true, laidLooks := .later }
def FnExactAscentTextUptoCardSaid : Prop := Claim7.holds Tryd.pinned (.plain (OpenSpec.upto fnExactAscentTextSpec)) fnExactAscentTextUptoCard

/-- THE SECOND FORM's CARD OF 'laws.FnExactParseAscent'. -/
def fnExactParseAscentUptoCard : Claim7 := { stood := { row := fnExactParseAscentUptoRow, standIns := [], harness := (true, "0af948eb0fd31e843e354559de99840598b4672b600c364b73843d5d21e9d989"), looks := true }, kinds := [], alts := [], laidByText := true, laidKinds := [.data, .data, .data, .data, .sentinel, .sentinel, .pinned], laidTests := true, laidLooks := .later }
def FnExactParseAscentUptoCardSaid : Prop := Claim7.holds Tryd.pinned (.plain (OpenSpec.upto fnExactParseAscentSpec)) fnExactParseAscentUptoCard
end Rows
end Go.Proofs.YtojappijhehlpaaDoor
