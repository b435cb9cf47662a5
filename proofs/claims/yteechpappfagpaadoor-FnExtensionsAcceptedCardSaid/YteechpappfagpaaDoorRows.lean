/-
  NARROWER THAN 'FOR EVERY INPUT', by the rows' own cells (each row's printed sentence says how): FnExactDoesRefine: laid · FnExactPairDistance: laid · FnExactMeetOrders: laid · FnExactIsWeak: laid · FnExactTwoOneOf: laid · FnOrdersOfPlaces: laid · FnMirrors: laid · FnClosures: laid · FnExtensions: laid · FnExtensionsAccepted: laid · FnPatterns: laid · FnChainsAndAntichains: laid.
  DERIVED. THE GIVEN ROWS OF THIS SEAT. 12 by the template 'for every input the law returns true; each argument reads behind the call as it read before'; 0 by the template 'total and deterministic' (their statements: YteechpappfagpaaDoorTotals.lean).
  GIVEN WITH THE SEED: the statements are not yours to turn. If you find one false, say at which input.
  Laid BY PROGRAM, IN A SANDBOX (cutbox-rows.mjs): the forced cells as the released guide's own fill.sh prints them over the translation 3e34c587361ab98a… (all of the seat's roots in one cut). By AI agents, Wed Nov 11 2026. No macro, syntax, notation, axiom, sorry.
-/
import Derived.Test.YteechpappfagpaaDoorChecked
import GoSem.Claim
import GoSem.ClaimJoined
import GoSem.ClaimMapViews
import Derived.JoinedTies
import Derived.KernelRfl
namespace Go.Proofs.YteechpappfagpaaDoor
/- THE CELL 'sum', in the pinned program and in every row, IS THE sha256 OF THE DUMP (.gsa) THAT YteechpappfagpaaDoorProg.lean LOADS. Nothing in Lean hashes anything: it is a label: what it is worth is what the hold of that sum in a sandbox is worth. -/
noncomputable def Tryd.pinned : Pinned := { name := "yteechpappfagpaadoor", sum := "3e34c587361ab98a0c974e6c1557eaf95e1a0ca447fbc5a9c159af89dd6200d9", checked := Tryd.checked }
namespace Rows
def none {H : Type} : Left H := { results := [], args := [] }

/- WHAT THE LISTED PACKAGE-LEVEL VARIABLES READ AS WHEN THE CALL BEGINS. Each datum BY PROGRAM (the guide's laid-datum.mjs) off the statement by which the dump's own 'gosem.cut.vars' lays the variable. In a bare row this is a premise. The card (YteechpappfagpaaDoorCards.lean) ties it to the program's text. -/
def laid_math_bits_deBruijn32tab {H : Type} : DataW H := .agg [.lit (.int .u8 0), .lit (.int .u8 1), .lit (.int .u8 28), .lit (.int .u8 2), .lit (.int .u8 29), .lit (.int .u8 14), .lit (.int .u8 24), .lit (.int .u8 3), .lit (.int .u8 30), .lit (.int .u8 22), .lit (.int .u8 20), .lit (.int .u8 15), .lit (.int .u8 25), .lit (.int .u8 17), .lit (.int .u8 4), .lit (.int .u8 8), .lit (.int .u8 31), .lit (.int .u8 27), .lit (.int .u8 13), .lit (.int .u8 23), .lit (.int .u8 21), .lit (.int .u8 19), .lit (.int .u8 16), .lit (.int .u8 7), .lit (.int .u8 26), .lit (.int .u8 12), .lit (.int .u8 18), .lit (.int .u8 6), .lit (.int .u8 11), .lit (.int .u8 5), .lit (.int .u8 10), .lit (.int .u8 9)]
def laid_math_bits_deBruijn64tab {H : Type} : DataW H := .agg [.lit (.int .u8 0), .lit (.int .u8 1), .lit (.int .u8 56), .lit (.int .u8 2), .lit (.int .u8 57), .lit (.int .u8 49), .lit (.int .u8 28), .lit (.int .u8 3), .lit (.int .u8 61), .lit (.int .u8 58), .lit (.int .u8 42), .lit (.int .u8 50), .lit (.int .u8 38), .lit (.int .u8 29), .lit (.int .u8 17), .lit (.int .u8 4), .lit (.int .u8 62), .lit (.int .u8 47), .lit (.int .u8 59), .lit (.int .u8 36), .lit (.int .u8 45), .lit (.int .u8 43), .lit (.int .u8 51), .lit (.int .u8 22), .lit (.int .u8 53), .lit (.int .u8 39), .lit (.int .u8 33), .lit (.int .u8 30), .lit (.int .u8 24), .lit (.int .u8 18), .lit (.int .u8 12), .lit (.int .u8 5), .lit (.int .u8 63), .lit (.int .u8 55), .lit (.int .u8 48), .lit (.int .u8 27), .lit (.int .u8 60), .lit (.int .u8 41), .lit (.int .u8 37), .lit (.int .u8 16), .lit (.int .u8 46), .lit (.int .u8 35), .lit (.int .u8 44), .lit (.int .u8 21), .lit (.int .u8 52), .lit (.int .u8 32), .lit (.int .u8 23), .lit (.int .u8 11), .lit (.int .u8 54), .lit (.int .u8 26), .lit (.int .u8 40), .lit (.int .u8 15), .lit (.int .u8 34), .lit (.int .u8 20), .lit (.int .u8 31), .lit (.int .u8 10), .lit (.int .u8 25), .lit (.int .u8 14), .lit (.int .u8 19), .lit (.int .u8 9), .lit (.int .u8 13), .lit (.int .u8 8), .lit (.int .u8 7), .lit (.int .u8 6)]

/-- 'laws.FnExactDoesRefine': WHATEVER THE INPUT: true; the input reads as it did. -/
def fnExactDoesRefineSpec : ChangeSpec := { name := "fnExactDoesRefine", fn := fun _ => fun
  | [d1, d2] => { results := [.lit (.bool true)], args := [d1, d2] }
  | _ => none }
def fnExactDoesRefineRow : OpenClaim := { program := "yteechpappfagpaadoor", sum := "3e34c587361ab98a0c974e6c1557eaf95e1a0ca447fbc5a9c159af89dd6200d9", func := "loop.example/g01106/laws.FnExactDoesRefine", spec := "fnExactDoesRefine", named := ["math/bits.deBruijn32tab", "math/bits.deBruijn64tab"], apart := false, laid := [("math/bits.deBruijn32tab", laid_math_bits_deBruijn32tab), ("math/bits.deBruijn64tab", laid_math_bits_deBruijn64tab)] }
def FnExactDoesRefineSaid : Prop := fnExactDoesRefineRow.holds Tryd.pinned (OpenSpec.ofChange fnExactDoesRefineSpec)

/-- ITS FALSE NEIGHBOUR: 'it returns false'. Refute it at one input. -/
def fnExactDoesRefineWrong : ChangeSpec := { name := "fnExactDoesRefine", fn := fun _ => fun
  | [d1, d2] => { results := [.lit (.bool false)], args := [d1, d2] }
  | _ => none }
def FnExactDoesRefineWrongFalsely : Prop := fnExactDoesRefineRow.holds Tryd.pinned (OpenSpec.ofChange fnExactDoesRefineWrong)

/-- 'laws.FnExactPairDistance': WHATEVER THE INPUT: true; the input reads as it did. -/
def fnExactPairDistanceSpec : ChangeSpec := { name := "fnExactPairDistance", fn := fun _ => fun
  | [d1, d2] => { results := [.lit (.bool true)], args := [d1, d2] }
  | _ => none }
def fnExactPairDistanceRow : OpenClaim := { program := "yteechpappfagpaadoor", sum := "3e34c587361ab98a0c974e6c1557eaf95e1a0ca447fbc5a9c159af89dd6200d9", func := "loop.example/g01106/laws.FnExactPairDistance", spec := "fnExactPairDistance", named := ["math/bits.deBruijn32tab", "math/bits.deBruijn64tab"], apart := false, laid := [("math/bits.deBruijn32tab", laid_math_bits_deBruijn32tab), ("math/bits.deBruijn64tab", laid_math_bits_deBruijn64tab)] }
def FnExactPairDistanceSaid : Prop := fnExactPairDistanceRow.holds Tryd.pinned (OpenSpec.ofChange fnExactPairDistanceSpec)

/-- ITS FALSE NEIGHBOUR: 'it returns false'. Refute it at one input. -/
def fnExactPairDistanceWrong : ChangeSpec := { name := "fnExactPairDistance", fn := fun _ => fun
  | [d1, d2] => { results := [.lit (.bool false)], args := [d1, d2] }
  | _ => none }
def FnExactPairDistanceWrongFalsely : Prop := fnExactPairDistanceRow.holds Tryd.pinned (OpenSpec.ofChange fnExactPairDistanceWrong)

/-- 'laws.FnExactMeetOrders': WHATEVER THE INPUT: true; the input reads as it did. -/
def fnExactMeetOrdersSpec : ChangeSpec := { name := "fnExactMeetOrders", fn := fun _ => fun
  | [d1, d2] => { results := [.lit (.bool true)], args := [d1, d2] }
  | _ => none }
def fnExactMeetOrdersRow : OpenClaim := { program := "yteechpappfagpaadoor", sum := "3e34c587361ab98a0c974e6c1557eaf95e1a0ca447fbc5a9c159af89dd6200d9", func := "loop.example/g01106/laws.FnExactMeetOrders", spec := "fnExactMeetOrders", unfollowed := true, recurses := true, named := ["math/bits.deBruijn32tab", "math/bits.deBruijn64tab"], apart := false, laid := [("math/bits.deBruijn32tab", laid_math_bits_deBruijn32tab), ("math/bits.deBruijn64tab", laid_math_bits_deBruijn64tab)] }
def FnExactMeetOrdersSaid : Prop := fnExactMeetOrdersRow.holds Tryd.pinned (OpenSpec.ofChange fnExactMeetOrdersSpec)

/-- ITS FALSE NEIGHBOUR: 'it returns false'. Refute it at one input. -/
def fnExactMeetOrdersWrong : ChangeSpec := { name := "fnExactMeetOrders", fn := fun _ => fun
  | [d1, d2] => { results := [.lit (.bool false)], args := [d1, d2] }
  | _ => none }
def FnExactMeetOrdersWrongFalsely : Prop := fnExactMeetOrdersRow.holds Tryd.pinned (OpenSpec.ofChange fnExactMeetOrdersWrong)

/-- 'laws.FnExactIsWeak': WHATEVER THE INPUT: true; the input reads as it did. -/
def fnExactIsWeakSpec : ChangeSpec := { name := "fnExactIsWeak", fn := fun _ => fun
  | [d] => { results := [.lit (.bool true)], args := [d] }
  | _ => none }
def fnExactIsWeakRow : OpenClaim := { program := "yteechpappfagpaadoor", sum := "3e34c587361ab98a0c974e6c1557eaf95e1a0ca447fbc5a9c159af89dd6200d9", func := "loop.example/g01106/laws.FnExactIsWeak", spec := "fnExactIsWeak", unfollowed := true, recurses := true, named := ["math/bits.deBruijn32tab", "math/bits.deBruijn64tab"], apart := false, laid := [("math/bits.deBruijn32tab", laid_math_bits_deBruijn32tab), ("math/bits.deBruijn64tab", laid_math_bits_deBruijn64tab)] }
def FnExactIsWeakSaid : Prop := fnExactIsWeakRow.holds Tryd.pinned (OpenSpec.ofChange fnExactIsWeakSpec)

/-- ITS FALSE NEIGHBOUR: 'it returns false'. Refute it at one input. -/
def fnExactIsWeakWrong : ChangeSpec := { name := "fnExactIsWeak", fn := fun _ => fun
  | [d] => { results := [.lit (.bool false)], args := [d] }
  | _ => none }
def FnExactIsWeakWrongFalsely : Prop := fnExactIsWeakRow.holds Tryd.pinned (OpenSpec.ofChange fnExactIsWeakWrong)

/-- 'laws.FnExactTwoOneOf': WHATEVER THE INPUT: true; the input reads as it did. -/
def fnExactTwoOneOfSpec : ChangeSpec := { name := "fnExactTwoOneOf", fn := fun _ => fun
  | [d] => { results := [.lit (.bool true)], args := [d] }
  | _ => none }
def fnExactTwoOneOfRow : OpenClaim := { program := "yteechpappfagpaadoor", sum := "3e34c587361ab98a0c974e6c1557eaf95e1a0ca447fbc5a9c159af89dd6200d9", func := "loop.example/g01106/laws.FnExactTwoOneOf", spec := "fnExactTwoOneOf", unfollowed := true, recurses := true, named := ["math/bits.deBruijn32tab", "math/bits.deBruijn64tab"], apart := false, laid := [("math/bits.deBruijn32tab", laid_math_bits_deBruijn32tab), ("math/bits.deBruijn64tab", laid_math_bits_deBruijn64tab)] }
def FnExactTwoOneOfSaid : Prop := fnExactTwoOneOfRow.holds Tryd.pinned (OpenSpec.ofChange fnExactTwoOneOfSpec)

/-- ITS FALSE NEIGHBOUR: 'it returns false'. Refute it at one input. -/
def fnExactTwoOneOfWrong : ChangeSpec := { name := "fnExactTwoOneOf", fn := fun _ => fun
  | [d] => { results := [.lit (.bool false)], args := [d] }
  | _ => none }
def FnExactTwoOneOfWrongFalsely : Prop := fnExactTwoOneOfRow.holds Tryd.pinned (OpenSpec.ofChange fnExactTwoOneOfWrong)

/-- 'laws.FnOrdersOfPlaces': WHATEVER THE INPUT: true; the input reads as it did. -/
def fnOrdersOfPlacesSpec : ChangeSpec := { name := "fnOrdersOfPlaces", fn := fun _ => fun
  | [d1, d2] => { results := [.lit (.bool true)], args := [d1, d2] }
  | _ => none }
def fnOrdersOfPlacesRow : OpenClaim := { program := "yteechpappfagpaadoor", sum := "3e34c587361ab98a0c974e6c1557eaf95e1a0ca447fbc5a9c159af89dd6200d9", func := "loop.example/g01106/laws.FnOrdersOfPlaces", spec := "fnOrdersOfPlaces", unfollowed := true, recurses := true, named := ["math/bits.deBruijn32tab", "math/bits.deBruijn64tab"], apart := false, laid := [("math/bits.deBruijn32tab", laid_math_bits_deBruijn32tab), ("math/bits.deBruijn64tab", laid_math_bits_deBruijn64tab)] }
def FnOrdersOfPlacesSaid : Prop := fnOrdersOfPlacesRow.holds Tryd.pinned (OpenSpec.ofChange fnOrdersOfPlacesSpec)

/-- ITS FALSE NEIGHBOUR: 'it returns false'. Refute it at one input. -/
def fnOrdersOfPlacesWrong : ChangeSpec := { name := "fnOrdersOfPlaces", fn := fun _ => fun
  | [d1, d2] => { results := [.lit (.bool false)], args := [d1, d2] }
  | _ => none }
def FnOrdersOfPlacesWrongFalsely : Prop := fnOrdersOfPlacesRow.holds Tryd.pinned (OpenSpec.ofChange fnOrdersOfPlacesWrong)

/-- 'laws.FnMirrors': WHATEVER THE INPUT: true; the input reads as it did. -/
def fnMirrorsSpec : ChangeSpec := { name := "fnMirrors", fn := fun _ => fun
  | [d1, d2] => { results := [.lit (.bool true)], args := [d1, d2] }
  | _ => none }
def fnMirrorsRow : OpenClaim := { program := "yteechpappfagpaadoor", sum := "3e34c587361ab98a0c974e6c1557eaf95e1a0ca447fbc5a9c159af89dd6200d9", func := "loop.example/g01106/laws.FnMirrors", spec := "fnMirrors", unfollowed := true, recurses := true, named := ["math/bits.deBruijn32tab", "math/bits.deBruijn64tab"], apart := false, laid := [("math/bits.deBruijn32tab", laid_math_bits_deBruijn32tab), ("math/bits.deBruijn64tab", laid_math_bits_deBruijn64tab)] }
def FnMirrorsSaid : Prop := fnMirrorsRow.holds Tryd.pinned (OpenSpec.ofChange fnMirrorsSpec)

/-- ITS FALSE NEIGHBOUR: 'it returns false'. Refute it at one input. -/
def fnMirrorsWrong : ChangeSpec := { name := "fnMirrors", fn := fun _ => fun
  | [d1, d2] => { results := [.lit (.bool false)], args := [d1, d2] }
  | _ => none }
def FnMirrorsWrongFalsely : Prop := fnMirrorsRow.holds Tryd.pinned (OpenSpec.ofChange fnMirrorsWrong)

/-- 'laws.FnClosures': WHATEVER THE INPUT: true; the input reads as it did. -/
def fnClosuresSpec : ChangeSpec := { name := "fnClosures", fn := fun _ => fun
  | [d1, d2] => { results := [.lit (.bool true)], args := [d1, d2] }
  | _ => none }
def fnClosuresRow : OpenClaim := { program := "yteechpappfagpaadoor", sum := "3e34c587361ab98a0c974e6c1557eaf95e1a0ca447fbc5a9c159af89dd6200d9", func := "loop.example/g01106/laws.FnClosures", spec := "fnClosures", unfollowed := true, recurses := true, named := ["math/bits.deBruijn32tab", "math/bits.deBruijn64tab"], apart := false, laid := [("math/bits.deBruijn32tab", laid_math_bits_deBruijn32tab), ("math/bits.deBruijn64tab", laid_math_bits_deBruijn64tab)] }
def FnClosuresSaid : Prop := fnClosuresRow.holds Tryd.pinned (OpenSpec.ofChange fnClosuresSpec)

/-- ITS FALSE NEIGHBOUR: 'it returns false'. Refute it at one input. -/
def fnClosuresWrong : ChangeSpec := { name := "fnClosures", fn := fun _ => fun
  | [d1, d2] => { results := [.lit (.bool false)], args := [d1, d2] }
  | _ => none }
def FnClosuresWrongFalsely : Prop := fnClosuresRow.holds Tryd.pinned (OpenSpec.ofChange fnClosuresWrong)

/-- 'laws.FnExtensions': WHATEVER THE INPUT: true; the input reads as it did. -/
def fnExtensionsSpec : ChangeSpec := { name := "fnExtensions", fn := fun _ => fun
  | [d1, d2] => { results := [.lit (.bool true)], args := [d1, d2] }
  | _ => none }
def fnExtensionsRow : OpenClaim := { program := "yteechpappfagpaadoor", sum := "3e34c587361ab98a0c974e6c1557eaf95e1a0ca447fbc5a9c159af89dd6200d9", func := "loop.example/g01106/laws.FnExtensions", spec := "fnExtensions", unfollowed := true, recurses := true, named := ["math/bits.deBruijn32tab", "math/bits.deBruijn64tab"], apart := false, laid := [("math/bits.deBruijn32tab", laid_math_bits_deBruijn32tab), ("math/bits.deBruijn64tab", laid_math_bits_deBruijn64tab)] }
def FnExtensionsSaid : Prop := fnExtensionsRow.holds Tryd.pinned (OpenSpec.ofChange fnExtensionsSpec)

/-- ITS FALSE NEIGHBOUR: 'it returns false'. Refute it at one input. -/
def fnExtensionsWrong : ChangeSpec := { name := "fnExtensions", fn := fun _ => fun
  | [d1, d2] => { results := [.lit (.bool false)], args := [d1, d2] }
  | _ => none }
def FnExtensionsWrongFalsely : Prop := fnExtensionsRow.holds Tryd.pinned (OpenSpec.ofChange fnExtensionsWrong)

/-- 'laws.FnExtensionsAccepted': WHATEVER THE INPUT: true; the input reads as it did. -/
def fnExtensionsAcceptedSpec : ChangeSpec := { name := "fnExtensionsAccepted", fn := fun _ => fun
  | [d1, d2] => { results := [.lit (.bool true)], args := [d1, d2] }
  | _ => none }
def fnExtensionsAcceptedRow : OpenClaim := { program := "yteechpappfagpaadoor", sum := "3e34c587361ab98a0c974e6c1557eaf95e1a0ca447fbc5a9c159af89dd6200d9", func := "loop.example/g01106/laws.FnExtensionsAccepted", spec := "fnExtensionsAccepted", unfollowed := true, recurses := true, named := ["math/bits.deBruijn32tab", "math/bits.deBruijn64tab"], apart := false, laid := [("math/bits.deBruijn32tab", laid_math_bits_deBruijn32tab), ("math/bits.deBruijn64tab", laid_math_bits_deBruijn64tab)] }
def FnExtensionsAcceptedSaid : Prop := fnExtensionsAcceptedRow.holds Tryd.pinned (OpenSpec.ofChange fnExtensionsAcceptedSpec)

/-- ITS FALSE NEIGHBOUR: 'it returns false'. Refute it at one input. -/
def fnExtensionsAcceptedWrong : ChangeSpec := { name := "fnExtensionsAccepted", fn := fun _ => fun
  | [d1, d2] => { results := [.lit (.bool false)], args := [d1, d2] }
  | _ => none }
def FnExtensionsAcceptedWrongFalsely : Prop := fnExtensionsAcceptedRow.holds Tryd.pinned (OpenSpec.ofChange fnExtensionsAcceptedWrong)

/-- 'laws.FnPatterns': WHATEVER THE INPUT: true; the input reads as it did. -/
def fnPatternsSpec : ChangeSpec := { name := "fnPatterns", fn := fun _ => fun
  | [d1, d2] => { results := [.lit (.bool true)], args := [d1, d2] }
  | _ => none }
def fnPatternsRow : OpenClaim := { program := "yteechpappfagpaadoor", sum := "3e34c587361ab98a0c974e6c1557eaf95e1a0ca447fbc5a9c159af89dd6200d9", func := "loop.example/g01106/laws.FnPatterns", spec := "fnPatterns", unfollowed := true, recurses := true, named := ["math/bits.deBruijn32tab", "math/bits.deBruijn64tab"], apart := false, laid := [("math/bits.deBruijn32tab", laid_math_bits_deBruijn32tab), ("math/bits.deBruijn64tab", laid_math_bits_deBruijn64tab)] }
def FnPatternsSaid : Prop := fnPatternsRow.holds Tryd.pinned (OpenSpec.ofChange fnPatternsSpec)

/-- ITS FALSE NEIGHBOUR: 'it returns false'. Refute it at one input. -/
def fnPatternsWrong : ChangeSpec := { name := "fnPatterns", fn := fun _ => fun
  | [d1, d2] => { results := [.lit (.bool false)], args := [d1, d2] }
  | _ => none }
def FnPatternsWrongFalsely : Prop := fnPatternsRow.holds Tryd.pinned (OpenSpec.ofChange fnPatternsWrong)

/-- 'laws.FnChainsAndAntichains': WHATEVER THE INPUT: true; the input reads as it did. -/
def fnChainsAndAntichainsSpec : ChangeSpec := { name := "fnChainsAndAntichains", fn := fun _ => fun
  | [d1, d2] => { results := [.lit (.bool true)], args := [d1, d2] }
  | _ => none }
def fnChainsAndAntichainsRow : OpenClaim := { program := "yteechpappfagpaadoor", sum := "3e34c587361ab98a0c974e6c1557eaf95e1a0ca447fbc5a9c159af89dd6200d9", func := "loop.example/g01106/laws.FnChainsAndAntichains", spec := "fnChainsAndAntichains", unfollowed := true, recurses := true, named := ["math/bits.deBruijn32tab", "math/bits.deBruijn64tab"], apart := false, laid := [("math/bits.deBruijn32tab", laid_math_bits_deBruijn32tab), ("math/bits.deBruijn64tab", laid_math_bits_deBruijn64tab)] }
def FnChainsAndAntichainsSaid : Prop := fnChainsAndAntichainsRow.holds Tryd.pinned (OpenSpec.ofChange fnChainsAndAntichainsSpec)

/-- ITS FALSE NEIGHBOUR: 'it returns false'. Refute it at one input. -/
def fnChainsAndAntichainsWrong : ChangeSpec := { name := "fnChainsAndAntichains", fn := fun _ => fun
  | [d1, d2] => { results := [.lit (.bool false)], args := [d1, d2] }
  | _ => none }
def FnChainsAndAntichainsWrongFalsely : Prop := fnChainsAndAntichainsRow.holds Tryd.pinned (OpenSpec.ofChange fnChainsAndAntichainsWrong)

/- THE SECOND FORM. 'bulk': how many values and letters a reading holds, each counted each time it is reached (what is shared counts as often as it is met; a slice's spare places count too). A statement '..UptoSaid' is the law's where the arguments, and the package variables that the reading takes, are together of bulk at most 1048576: NARROWER than '..Said'. Prove '..Said' where nothing that the law and all that it calls make is longer than what came in: it says more and counts as full. Else prove '..UptoSaid'. A law counts once. -/
mutual
def uptoBulk {H : Type} : DataW H → Nat
  | .lit (.string bytes) => bytes.length + 1
  | .lit _ => 1
  | .nil => 1
  | .ptr d => uptoBulk d + 1
  | .slice elems spare => uptoBulkAll elems + uptoBulkAll spare + 1
  | .agg parts => uptoBulkAll parts + 1
  | .iface _ d => uptoBulk d + 1
  | .map entries => uptoBulkEntries entries + 1
  | .held _ => 1
def uptoBulkAll {H : Type} : List (DataW H) → Nat
  | [] => 0
  | d :: r => uptoBulk d + uptoBulkAll r
def uptoBulkEntries {H : Type} : List (Lit × DataW H) → Nat
  | [] => 0
  | x :: r => uptoBulkEntry x + uptoBulkEntries r
def uptoBulkEntry {H : Type} : Lit × DataW H → Nat
  | (.string bytes, d) => bytes.length + uptoBulk d + 1
  | (_, d) => uptoBulk d + 1
 end
def uptoSmall : (H : Type) → List (DataW H) → Bool := fun _ ds => decide (uptoBulkAll ds ≤ 1048576)
def OpenSpec.upto (s : _root_.Go.ChangeSpec) : _root_.Go.OpenSpec := { _root_.Go.OpenSpec.ofChange s with cond := some uptoSmall }

/-- 'laws.FnExactDoesRefine', WHERE WHAT IT READS IS OF BULK AT MOST 1048576: true; the input reads as it did. -/
def fnExactDoesRefineUptoRow : OpenClaim := { program := "yteechpappfagpaadoor", sum := "3e34c587361ab98a0c974e6c1557eaf95e1a0ca447fbc5a9c159af89dd6200d9", func := "loop.example/g01106/laws.FnExactDoesRefine", spec := "fnExactDoesRefine", named := ["math/bits.deBruijn32tab", "math/bits.deBruijn64tab"], apart := false, laid := [("math/bits.deBruijn32tab", laid_math_bits_deBruijn32tab), ("math/bits.deBruijn64tab", laid_math_bits_deBruijn64tab)], narrowed := true }
def FnExactDoesRefineUptoSaid : Prop := fnExactDoesRefineUptoRow.holds Tryd.pinned (OpenSpec.upto fnExactDoesRefineSpec)

/-- 'laws.FnExactPairDistance', WHERE WHAT IT READS IS OF BULK AT MOST 1048576: true; the input reads as it did. -/
def fnExactPairDistanceUptoRow : OpenClaim := { program := "yteechpappfagpaadoor", sum := "3e34c587361ab98a0c974e6c1557eaf95e1a0ca447fbc5a9c159af89dd6200d9", func := "loop.example/g01106/laws.FnExactPairDistance", spec := "fnExactPairDistance", named := ["math/bits.deBruijn32tab", "math/bits.deBruijn64tab"], apart := false, laid := [("math/bits.deBruijn32tab", laid_math_bits_deBruijn32tab), ("math/bits.deBruijn64tab", laid_math_bits_deBruijn64tab)], narrowed := true }
def FnExactPairDistanceUptoSaid : Prop := fnExactPairDistanceUptoRow.holds Tryd.pinned (OpenSpec.upto fnExactPairDistanceSpec)

/-- 'laws.FnExactMeetOrders', WHERE WHAT IT READS IS OF BULK AT MOST 1048576: true; the input reads as it did. -/
def fnExactMeetOrdersUptoRow : OpenClaim := { program := "yteechpappfagpaadoor", sum := "3e34c587361ab98a0c974e6c1557eaf95e1a0ca447fbc5a9c159af89dd6200d9", func := "loop.example/g01106/laws.FnExactMeetOrders", spec := "fnExactMeetOrders", unfollowed := true, recurses := true, named := ["math/bits.deBruijn32tab", "math/bits.deBruijn64tab"], apart := false, laid := [("math/bits.deBruijn32tab", laid_math_bits_deBruijn32tab), ("math/bits.deBruijn64tab", laid_math_bits_deBruijn64tab)], narrowed := true }
def FnExactMeetOrdersUptoSaid : Prop := fnExactMeetOrdersUptoRow.holds Tryd.pinned (OpenSpec.upto fnExactMeetOrdersSpec)

/-- 'laws.FnExactIsWeak', WHERE WHAT IT READS IS OF BULK AT MOST 1048576: true; the input reads as it did. -/
def fnExactIsWeakUptoRow : OpenClaim := { program := "yteechpappfagpaadoor", sum := "3e34c587361ab98a0c974e6c1557eaf95e1a0ca447fbc5a9c159af89dd6200d9", func := "loop.example/g01106/laws.FnExactIsWeak", spec := "fnExactIsWeak", unfollowed := true, recurses := true, named := ["math/bits.deBruijn32tab", "math/bits.deBruijn64tab"], apart := false, laid := [("math/bits.deBruijn32tab", laid_math_bits_deBruijn32tab), ("math/bits.deBruijn64tab", laid_math_bits_deBruijn64tab)], narrowed := true }
def FnExactIsWeakUptoSaid : Prop := fnExactIsWeakUptoRow.holds Tryd.pinned (OpenSpec.upto fnExactIsWeakSpec)

/-- 'laws.FnExactTwoOneOf', WHERE WHAT IT READS IS OF BULK AT MOST 1048576: true; the input reads as it did. -/
def fnExactTwoOneOfUptoRow : OpenClaim := { program := "yteechpappfagpaadoor", sum := "3e34c587361ab98a0c974e6c1557eaf95e1a0ca447fbc5a9c159af89dd6200d9", func := "loop.example/g01106/laws.FnExactTwoOneOf", spec := "fnExactTwoOneOf", unfollowed := true, recurses := true, named := ["math/bits.deBruijn32tab", "math/bits.deBruijn64tab"], apart := false, laid := [("math/bits.deBruijn32tab", laid_math_bits_deBruijn32tab), ("math/bits.deBruijn64tab", laid_math_bits_deBruijn64tab)], narrowed := true }
def FnExactTwoOneOfUptoSaid : Prop := fnExactTwoOneOfUptoRow.holds Tryd.pinned (OpenSpec.upto fnExactTwoOneOfSpec)

/-- 'laws.FnOrdersOfPlaces', WHERE WHAT IT READS IS OF BULK AT MOST 1048576: true; the input reads as it did. -/
def fnOrdersOfPlacesUptoRow : OpenClaim := { program := "yteechpappfagpaadoor", sum := "3e34c587361ab98a0c974e6c1557eaf95e1a0ca447fbc5a9c159af89dd6200d9", func := "loop.example/g01106/laws.FnOrdersOfPlaces", spec := "fnOrdersOfPlaces", unfollowed := true, recurses := true, named := ["math/bits.deBruijn32tab", "math/bits.deBruijn64tab"], apart := false, laid := [("math/bits.deBruijn32tab", laid_math_bits_deBruijn32tab), ("math/bits.deBruijn64tab", laid_math_bits_deBruijn64tab)], narrowed := true }
def FnOrdersOfPlacesUptoSaid : Prop := fnOrdersOfPlacesUptoRow.holds Tryd.pinned (OpenSpec.upto fnOrdersOfPlacesSpec)

/-- 'laws.FnMirrors', WHERE WHAT IT READS IS OF BULK AT MOST 1048576: true; the input reads as it did. -/
def fnMirrorsUptoRow : OpenClaim := { program := "yteechpappfagpaadoor", sum := "3e34c587361ab98a0c974e6c1557eaf95e1a0ca447fbc5a9c159af89dd6200d9", func := "loop.example/g01106/laws.FnMirrors", spec := "fnMirrors", unfollowed := true, recurses := true, named := ["math/bits.deBruijn32tab", "math/bits.deBruijn64tab"], apart := false, laid := [("math/bits.deBruijn32tab", laid_math_bits_deBruijn32tab), ("math/bits.deBruijn64tab", laid_math_bits_deBruijn64tab)], narrowed := true }
def FnMirrorsUptoSaid : Prop := fnMirrorsUptoRow.holds Tryd.pinned (OpenSpec.upto fnMirrorsSpec)

/-- 'laws.FnClosures', WHERE WHAT IT READS IS OF BULK AT MOST 1048576: true; the input reads as it did. -/
def fnClosuresUptoRow : OpenClaim := { program := "yteechpappfagpaadoor", sum := "3e34c587361ab98a0c974e6c1557eaf95e1a0ca447fbc5a9c159af89dd6200d9", func := "loop.example/g01106/laws.FnClosures", spec := "fnClosures", unfollowed := true, recurses := true, named := ["math/bits.deBruijn32tab", "math/bits.deBruijn64tab"], apart := false, laid := [("math/bits.deBruijn32tab", laid_math_bits_deBruijn32tab), ("math/bits.deBruijn64tab", laid_math_bits_deBruijn64tab)], narrowed := true }
def FnClosuresUptoSaid : Prop := fnClosuresUptoRow.holds Tryd.pinned (OpenSpec.upto fnClosuresSpec)

/-- 'laws.FnExtensions', WHERE WHAT IT READS IS OF BULK AT MOST 1048576: true; the input reads as it did. -/
def fnExtensionsUptoRow : OpenClaim := { program := "yteechpappfagpaadoor", sum := "3e34c587361ab98a0c974e6c1557eaf95e1a0ca447fbc5a9c159af89dd6200d9", func := "loop.example/g01106/laws.FnExtensions", spec := "fnExtensions", unfollowed := true, recurses := true, named := ["math/bits.deBruijn32tab", "math/bits.deBruijn64tab"], apart := false, laid := [("math/bits.deBruijn32tab", laid_math_bits_deBruijn32tab), ("math/bits.deBruijn64tab", laid_math_bits_deBruijn64tab)], narrowed := true }
def FnExtensionsUptoSaid : Prop := fnExtensionsUptoRow.holds Tryd.pinned (OpenSpec.upto fnExtensionsSpec)

/-- 'laws.FnExtensionsAccepted', WHERE WHAT IT READS IS OF BULK AT MOST 1048576: true; the input reads as it did. -/
def fnExtensionsAcceptedUptoRow : OpenClaim := { program := "yteechpappfagpaadoor", sum := "3e34c587361ab98a0c974e6c1557eaf95e1a0ca447fbc5a9c159af89dd6200d9", func := "loop.example/g01106/laws.FnExtensionsAccepted", spec := "fnExtensionsAccepted", unfollowed := true, recurses := true, named := ["math/bits.deBruijn32tab", "math/bits.deBruijn64tab"], apart := false, laid := [("math/bits.deBruijn32tab", laid_math_bits_deBruijn32tab), ("math/bits.deBruijn64tab", laid_math_bits_deBruijn64tab)], narrowed := true }
def FnExtensionsAcceptedUptoSaid : Prop := fnExtensionsAcceptedUptoRow.holds Tryd.pinned (OpenSpec.upto fnExtensionsAcceptedSpec)

/-- 'laws.FnPatterns', WHERE WHAT IT READS IS OF BULK AT MOST 1048576: true; the input reads as it did. -/
def fnPatternsUptoRow : OpenClaim := { program := "yteechpappfagpaadoor", sum := "3e34c587361ab98a0c974e6c1557eaf95e1a0ca447fbc5a9c159af89dd6200d9", func := "loop.example/g01106/laws.FnPatterns", spec := "fnPatterns", unfollowed := true, recurses := true, named := ["math/bits.deBruijn32tab", "math/bits.deBruijn64tab"], apart := false, laid := [("math/bits.deBruijn32tab", laid_math_bits_deBruijn32tab), ("math/bits.deBruijn64tab", laid_math_bits_deBruijn64tab)], narrowed := true }
def FnPatternsUptoSaid : Prop := fnPatternsUptoRow.holds Tryd.pinned (OpenSpec.upto fnPatternsSpec)

/-- 'laws.FnChainsAndAntichains', WHERE WHAT IT READS IS OF BULK AT MOST 1048576: true; the input reads as it did. -/
def fnChainsAndAntichainsUptoRow : OpenClaim := { program := "yteechpappfagpaadoor", sum := "3e34c587361ab98a0c974e6c1557eaf95e1a0ca447fbc5a9c159af89dd6200d9", func := "loop.example/g01106/laws.FnChainsAndAntichains", spec := "fnChainsAndAntichains", unfollowed := true, recurses := true, named := ["math/bits.deBruijn32tab", "math/bits.deBruijn64tab"], apart := false, laid := [("math/bits.deBruijn32tab", laid_math_bits_deBruijn32tab), ("math/bits.deBruijn64tab", laid_math_bits_deBruijn64tab)], narrowed := true }
def FnChainsAndAntichainsUptoSaid : Prop := fnChainsAndAntichainsUptoRow.holds Tryd.pinned (OpenSpec.upto fnChainsAndAntichainsSpec)

end Rows
end Go.Proofs.YteechpappfagpaaDoor
