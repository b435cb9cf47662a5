/-
  DERIVED. GIVEN WITH THE SEED: THE CARDS: each row of YteechpappfagpaaDoorRows.lean that lists a variable, with what it lists TIED to the program's text (the seventh form; the later family's looks); each row that meets fmt, with fmt's text TOLD by the authors' own Lean function (tested against real Go, not proved from fmt's source: count such statements apart). THE CARD IS WHAT COUNTS. Prove the row's statement (the work); the ties are given (YteechpappfagpaaDoorTie.lean); close each card by the builder's one call (the guide's Derived/Test/ToyasCard.lean, 'card_holds'). Laid BY PROGRAM, IN A SANDBOX (cutbox-door.mjs). By AI agents, Wed Nov 11 2026. No macro, syntax, notation, axiom, sorry.
-/
import Derived.Test.YteechpappfagpaaDoorRows
import GoSem.ClaimSeven
namespace Go.Proofs.YteechpappfagpaaDoor
namespace Rows

/-- THE TIED CARD OF 'laws.FnExactDoesRefine'. -/
def fnExactDoesRefineCard : Claim7 := { stood := { row := fnExactDoesRefineRow, standIns := [], harness := (true, "5969e179e150e10e907e51e5a990acb97639a77d22560e3d0303fc195e867941"), looks := false }, kinds := [], alts := [], laidByText := true, laidKinds := [.data, .data], laidTests := true, laidLooks := .later }
def FnExactDoesRefineCardSaid : Prop := Claim7.holds Tryd.pinned (.plain (OpenSpec.ofChange fnExactDoesRefineSpec)) fnExactDoesRefineCard

/-- THE TIED CARD OF 'laws.FnExactPairDistance'. -/
def fnExactPairDistanceCard : Claim7 := { stood := { row := fnExactPairDistanceRow, standIns := [], harness := (true, "5969e179e150e10e907e51e5a990acb97639a77d22560e3d0303fc195e867941"), looks := false }, kinds := [], alts := [], laidByText := true, laidKinds := [.data, .data], laidTests := true, laidLooks := .later }
def FnExactPairDistanceCardSaid : Prop := Claim7.holds Tryd.pinned (.plain (OpenSpec.ofChange fnExactPairDistanceSpec)) fnExactPairDistanceCard

/-- THE TIED CARD OF 'laws.FnExactMeetOrders'. -/
def fnExactMeetOrdersCard : Claim7 := { stood := { row := fnExactMeetOrdersRow, standIns := [], harness := (true, "5969e179e150e10e907e51e5a990acb97639a77d22560e3d0303fc195e867941"), looks := false }, kinds := [], alts := [], laidByText := true, laidKinds := [.data, .data], laidTests := true, laidLooks := .later }
def FnExactMeetOrdersCardSaid : Prop := Claim7.holds Tryd.pinned (.plain (OpenSpec.ofChange fnExactMeetOrdersSpec)) fnExactMeetOrdersCard

/-- THE TIED CARD OF 'laws.FnExactIsWeak'. -/
def fnExactIsWeakCard : Claim7 := { stood := { row := fnExactIsWeakRow, standIns := [], harness := (true, "5969e179e150e10e907e51e5a990acb97639a77d22560e3d0303fc195e867941"), looks := false }, kinds := [], alts := [], laidByText := true, laidKinds := [.data, .data], laidTests := true, laidLooks := .later }
def FnExactIsWeakCardSaid : Prop := Claim7.holds Tryd.pinned (.plain (OpenSpec.ofChange fnExactIsWeakSpec)) fnExactIsWeakCard

/-- THE TIED CARD OF 'laws.FnExactTwoOneOf'. -/
def fnExactTwoOneOfCard : Claim7 := { stood := { row := fnExactTwoOneOfRow, standIns := [], harness := (true, "5969e179e150e10e907e51e5a990acb97639a77d22560e3d0303fc195e867941"), looks := false }, kinds := [], alts := [], laidByText := true, laidKinds := [.data, .data], laidTests := true, laidLooks := .later }
def FnExactTwoOneOfCardSaid : Prop := Claim7.holds Tryd.pinned (.plain (OpenSpec.ofChange fnExactTwoOneOfSpec)) fnExactTwoOneOfCard

/-- THE TIED CARD OF 'laws.FnOrdersOfPlaces'. -/
def fnOrdersOfPlacesCard : Claim7 := { stood := { row := fnOrdersOfPlacesRow, standIns := [], harness := (true, "5969e179e150e10e907e51e5a990acb97639a77d22560e3d0303fc195e867941"), looks := false }, kinds := [], alts := [], laidByText := true, laidKinds := [.data, .data], laidTests := true, laidLooks := .later }
def FnOrdersOfPlacesCardSaid : Prop := Claim7.holds Tryd.pinned (.plain (OpenSpec.ofChange fnOrdersOfPlacesSpec)) fnOrdersOfPlacesCard

/-- THE TIED CARD OF 'laws.FnMirrors'. -/
def fnMirrorsCard : Claim7 := { stood := { row := fnMirrorsRow, standIns := [], harness := (true, "5969e179e150e10e907e51e5a990acb97639a77d22560e3d0303fc195e867941"), looks := false }, kinds := [], alts := [], laidByText := true, laidKinds := [.data, .data], laidTests := true, laidLooks := .later }
def FnMirrorsCardSaid : Prop := Claim7.holds Tryd.pinned (.plain (OpenSpec.ofChange fnMirrorsSpec)) fnMirrorsCard

/-- THE TIED CARD OF 'laws.FnClosures'. -/
def fnClosuresCard : Claim7 := { stood := { row := fnClosuresRow, standIns := [], harness := (true, "5969e179e150e10e907e51e5a990acb97639a77d22560e3d0303fc195e867941"), looks := false }, kinds := [], alts := [], laidByText := true, laidKinds := [.data, .data], laidTests := true, laidLooks := .later }
def FnClosuresCardSaid : Prop := Claim7.holds Tryd.pinned (.plain (OpenSpec.ofChange fnClosuresSpec)) fnClosuresCard

/-- THE TIED CARD OF 'laws.FnExtensions'. -/
def fnExtensionsCard : Claim7 := { stood := { row := fnExtensionsRow, standIns := [], harness := (true, "5969e179e150e10e907e51e5a990acb97639a77d22560e3d0303fc195e867941"), looks := false }, kinds := [], alts := [], laidByText := true, laidKinds := [.data, .data], laidTests := true, laidLooks := .later }
def FnExtensionsCardSaid : Prop := Claim7.holds Tryd.pinned (.plain (OpenSpec.ofChange fnExtensionsSpec)) fnExtensionsCard

/-- THE TIED CARD OF 'laws.FnExtensionsAccepted'. -/
def fnExtensionsAcceptedCard : Claim7 := { stood := { row := fnExtensionsAcceptedRow, standIns := [], harness := (true, "5969e179e150e10e907e51e5a990acb97639a77d22560e3d0303fc195e867941"), looks := false }, kinds := [], alts := [], laidByText := true, laidKinds := [.data, .data], laidTests := true, laidLooks := .later }
def FnExtensionsAcceptedCardSaid : Prop := Claim7.holds Tryd.pinned (.plain (OpenSpec.ofChange fnExtensionsAcceptedSpec)) fnExtensionsAcceptedCard

/-- THE TIED CARD OF 'laws.FnPatterns'. -/
def fnPatternsCard : Claim7 := { stood := { row := fnPatternsRow, standIns := [], harness := (true, "5969e179e150e10e907e51e5a990acb97639a77d22560e3d0303fc195e867941"), looks := false }, kinds := [], alts := [], laidByText := true, laidKinds := [.data, .data], laidTests := true, laidLooks := .later }
def FnPatternsCardSaid : Prop := Claim7.holds Tryd.pinned (.plain (OpenSpec.ofChange fnPatternsSpec)) fnPatternsCard

/-- THE TIED CARD OF 'laws.FnChainsAndAntichains'. -/
def fnChainsAndAntichainsCard : Claim7 := { stood := { row := fnChainsAndAntichainsRow, standIns := [], harness := (true, "5969e179e150e10e907e51e5a990acb97639a77d22560e3d0303fc195e867941"), looks := false }, kinds := [], alts := [], laidByText := true, laidKinds := [.data, .data], laidTests := true, laidLooks := .later }
def FnChainsAndAntichainsCardSaid : Prop := Claim7.holds Tryd.pinned (.plain (OpenSpec.ofChange fnChainsAndAntichainsSpec)) fnChainsAndAntichainsCard

/-- THE SECOND FORM's CARD OF 'laws.FnExactDoesRefine'. -/
def fnExactDoesRefineUptoCard : Claim7 := { stood := { row := fnExactDoesRefineUptoRow, standIns := [], harness := (true, "5969e179e150e10e907e51e5a990acb97639a77d22560e3d0303fc195e867941"), looks := false }, kinds := [], alts := [], laidByText := true, laidKinds := [.data, .data], laidTests := true, laidLooks := .later }
def FnExactDoesRefineUptoCardSaid : Prop := Claim7.holds Tryd.pinned (.plain (OpenSpec.upto fnExactDoesRefineSpec)) fnExactDoesRefineUptoCard

/-- THE SECOND FORM's CARD OF 'laws.FnExactPairDistance'. -/
def fnExactPairDistanceUptoCard : Claim7 := { stood := { row := fnExactPairDistanceUptoRow, standIns := [], harness := (true, "5969e179e150e10e907e51e5a990acb97639a77d22560e3d0303fc195e867941"), looks := false }, kinds := [], alts := [], laidByText := true, laidKinds := [.data, .data], laidTests := true, laidLooks := .later }
def FnExactPairDistanceUptoCardSaid : Prop := Claim7.holds Tryd.pinned (.plain (OpenSpec.upto fnExactPairDistanceSpec)) fnExactPairDistanceUptoCard

/-- THE SECOND FORM's CARD OF 'laws.FnExactMeetOrders'. -/
def fnExactMeetOrdersUptoCard : Claim7 := { stood := { row := fnExactMeetOrdersUptoRow, standIns := [], harness := (true, "5969e179e150e10e907e51e5a990acb97639a77d22560e3d0303fc195e867941"), looks := false }, kinds := [], alts := [], laidByText := true, laidKinds := [.data, .data], laidTests := true, laidLooks := .later }
def FnExactMeetOrdersUptoCardSaid : Prop := Claim7.holds Tryd.pinned (.plain (OpenSpec.upto fnExactMeetOrdersSpec)) fnExactMeetOrdersUptoCard

/-- THE SECOND FORM's CARD OF 'laws.FnExactIsWeak'. -/
def fnExactIsWeakUptoCard : Claim7 := { stood := { row := fnExactIsWeakUptoRow, standIns := [], harness := (true, "5969e179e150e10e907e51e5a990acb97639a77d22560e3d0303fc195e867941"), looks := false }, kinds := [], alts := [], laidByText := true, laidKinds := [.data, .data], laidTests := true, laidLooks := .later }
def FnExactIsWeakUptoCardSaid : Prop := Claim7.holds Tryd.pinned (.plain (OpenSpec.upto fnExactIsWeakSpec)) fnExactIsWeakUptoCard

/-- THE SECOND FORM's CARD OF 'laws.FnExactTwoOneOf'. -/
def fnExactTwoOneOfUptoCard : Claim7 := { stood := { row := fnExactTwoOneOfUptoRow, standIns := [], harness := (true, "5969e179e150e10e907e51e5a990acb97639a77d22560e3d0303fc195e867941"), looks := false }, kinds := [], alts := [], laidByText := true, laidKinds := [.data, .data], laidTests := true, laidLooks := .later }
def FnExactTwoOneOfUptoCardSaid : Prop := Claim7.holds Tryd.pinned (.plain (OpenSpec.upto fnExactTwoOneOfSpec)) fnExactTwoOneOfUptoCard

/-- THE SECOND FORM's CARD OF 'laws.FnOrdersOfPlaces'. -/
def fnOrdersOfPlacesUptoCard : Claim7 := { stood := { row := fnOrdersOfPlacesUptoRow, standIns := [], harness := (true, "5969e179e150e10e907e51e5a990acb97639a77d22560e3d0303fc195e867941"), looks := false }, kinds := [], alts := [], laidByText := true, laidKinds := [.data, .data], laidTests := true, laidLooks := .later }
def FnOrdersOfPlacesUptoCardSaid : Prop := Claim7.holds Tryd.pinned (.plain (OpenSpec.upto fnOrdersOfPlacesSpec)) fnOrdersOfPlacesUptoCard

/-- THE SECOND FORM's CARD OF 'laws.FnMirrors'. -/
def fnMirrorsUptoCard : Claim7 := { stood := { row := fnMirrorsUptoRow, standIns := [], harness := (true, "5969e179e150e10e907e51e5a990acb97639a77d22560e3d0303fc195e867941"), looks := false }, kinds := [], alts := [], laidByText := true, laidKinds := [.data, .data], laidTests := true, laidLooks := .later }
def FnMirrorsUptoCardSaid : Prop := Claim7.holds Tryd.pinned (.plain (OpenSpec.upto fnMirrorsSpec)) fnMirrorsUptoCard

/-- THE SECOND FORM's CARD OF 'laws.FnClosures'. -/
def fnClosuresUptoCard : Claim7 := { stood := { row := fnClosuresUptoRow, standIns := [], harness := (true, "5969e179e150e10e907e51e5a990acb97639a77d22560e3d0303fc195e867941"), looks := false }, kinds := [], alts := [], laidByText := true, laidKinds := [.data, .data], laidTests := true, laidLooks := .later }
def FnClosuresUptoCardSaid : Prop := Claim7.holds Tryd.pinned (.plain (OpenSpec.upto fnClosuresSpec)) fnClosuresUptoCard

/-- THE SECOND FORM's CARD OF 'laws.FnExtensions'. -/
def fnExtensionsUptoCard : Claim7 := { stood := { row := fnExtensionsUptoRow, standIns := [], harness := (true, "5969e179e150e10e907e51e5a990acb97639a77d22560e3d0303fc195e867941"), looks := false }, kinds := [], alts := [], laidByText := true, laidKinds := [.data, .data], laidTests := true, laidLooks := .later }
def FnExtensionsUptoCardSaid : Prop := Claim7.holds Tryd.pinned (.plain (OpenSpec.upto fnExtensionsSpec)) fnExtensionsUptoCard

/-- THE SECOND FORM's CARD OF 'laws.FnExtensionsAccepted'. -/
def fnExtensionsAcceptedUptoCard : Claim7 := { stood := { row := fnExtensionsAcceptedUptoRow, standIns := [], harness := (true, "5969e179e150e10e907e51e5a990acb97639a77d22560e3d0303fc195e867941"), looks := false }, kinds := [], alts := [], laidByText := true, laidKinds := [.data, .data], laidTests := true, laidLooks := .later }
def FnExtensionsAcceptedUptoCardSaid : Prop := Claim7.holds Tryd.pinned (.plain (OpenSpec.upto fnExtensionsAcceptedSpec)) fnExtensionsAcceptedUptoCard

/-- THE SECOND FORM's CARD OF 'laws.FnPatterns'. -/
def fnPatternsUptoCard : Claim7 := { stood := { row := fnPatternsUptoRow, standIns := [], harness := (true, "5969e179e150e10e907e51e5a990acb97639a77d22560e3d0303fc195e867941"), looks := false }, kinds := [], alts := [], laidByText := true, laidKinds := [.data, .data], laidTests := true, laidLooks := .later }
def FnPatternsUptoCardSaid : Prop := Claim7.holds Tryd.pinned (.plain (OpenSpec.upto fnPatternsSpec)) fnPatternsUptoCard

/-- THE SECOND FORM's CARD OF 'laws.FnChainsAndAntichains'. -/
def fnChainsAndAntichainsUptoCard : Claim7 := { stood := { row := fnChainsAndAntichainsUptoRow, standIns := [], harness := (true, "5969e179e150e10e907e51e5a990acb97639a77d22560e3d0303fc195e867941"), looks := false }, kinds := [], alts := [], laidByText := true, laidKinds := [.data, .data], laidTests := true, laidLooks := .later }
def FnChainsAndAntichainsUptoCardSaid : Prop := Claim7.holds Tryd.pinned (.plain (OpenSpec.upto fnChainsAndAntichainsSpec)) fnChainsAndAntichainsUptoCard
end Rows
end Go.Proofs.YteechpappfagpaaDoor
