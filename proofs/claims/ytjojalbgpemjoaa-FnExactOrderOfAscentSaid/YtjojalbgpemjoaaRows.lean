/-
  No cell of these rows narrows 'for every input' (looked for: loops, veiled, ifaces, maps, wideKeys, modest, calm, conditions, laid).
  DERIVED. THE GIVEN ROWS OF THIS SEAT. 11 by the template 'for every input the law returns true; each argument reads behind the call as it read before'; 0 by the template 'total and deterministic' (their statements: YtjojalbgpemjoaaTotals.lean).
  GIVEN WITH THE SEED: the statements are not yours to turn. If you find one false, say at which input.
  Laid BY PROGRAM, IN A SANDBOX (cutbox-rows.mjs): the forced cells as the released guide's own fill.sh prints them over the translation 84560db9b832397c… (all of the seat's roots in one cut). By AI agents, Wed Nov 11 2026. No macro, syntax, notation, axiom, sorry.
-/
import Derived.Test.YtjojalbgpemjoaaChecked
import GoSem.Claim
import GoSem.ClaimJoined
import GoSem.ClaimMapViews
import Derived.JoinedTies
import Derived.KernelRfl
namespace Go.Proofs.Ytjojalbgpemjoaa
/- THE CELL 'sum', in the pinned program and in every row, IS THE sha256 OF THE DUMP (.gsa) THAT YtjojalbgpemjoaaProg.lean LOADS. Nothing in Lean hashes anything: it is a label: what it is worth is what the hold of that sum in a sandbox is worth. -/
noncomputable def Try.pinned : Pinned := { name := "ytjojalbgpemjoaa", sum := "84560db9b832397c8894f44b920909cba11128e30c98a57a2e7d6f0cfba5f350", checked := Try.checked }
namespace Rows
def none {H : Type} : Left H := { results := [], args := [] }

/-- 'laws.FnExactAreLevels': WHATEVER THE INPUT: true; the input reads as it did. -/
def fnExactAreLevelsSpec : ChangeSpec := { name := "fnExactAreLevels", fn := fun _ => fun
  | [d] => { results := [.lit (.bool true)], args := [d] }
  | _ => none }
def fnExactAreLevelsRow : OpenClaim := { program := "ytjojalbgpemjoaa", sum := "84560db9b832397c8894f44b920909cba11128e30c98a57a2e7d6f0cfba5f350", func := "loop.example/g01106/laws.FnExactAreLevels", spec := "fnExactAreLevels", unfollowed := true, recurses := true, apart := false }
def FnExactAreLevelsSaid : Prop := fnExactAreLevelsRow.holds Try.pinned (OpenSpec.ofChange fnExactAreLevelsSpec)

/-- ITS FALSE NEIGHBOUR: 'it returns false'. Refute it at one input. -/
def fnExactAreLevelsWrong : ChangeSpec := { name := "fnExactAreLevels", fn := fun _ => fun
  | [d] => { results := [.lit (.bool false)], args := [d] }
  | _ => none }
def FnExactAreLevelsWrongFalsely : Prop := fnExactAreLevelsRow.holds Try.pinned (OpenSpec.ofChange fnExactAreLevelsWrong)

/-- 'laws.FnExactCountLinear': WHATEVER THE INPUT: true; the input reads as it did. -/
def fnExactCountLinearSpec : ChangeSpec := { name := "fnExactCountLinear", fn := fun _ => fun
  | [d] => { results := [.lit (.bool true)], args := [d] }
  | _ => none }
def fnExactCountLinearRow : OpenClaim := { program := "ytjojalbgpemjoaa", sum := "84560db9b832397c8894f44b920909cba11128e30c98a57a2e7d6f0cfba5f350", func := "loop.example/g01106/laws.FnExactCountLinear", spec := "fnExactCountLinear", unfollowed := true, recurses := true, apart := false }
def FnExactCountLinearSaid : Prop := fnExactCountLinearRow.holds Try.pinned (OpenSpec.ofChange fnExactCountLinearSpec)

/-- ITS FALSE NEIGHBOUR: 'it returns false'. Refute it at one input. -/
def fnExactCountLinearWrong : ChangeSpec := { name := "fnExactCountLinear", fn := fun _ => fun
  | [d] => { results := [.lit (.bool false)], args := [d] }
  | _ => none }
def FnExactCountLinearWrongFalsely : Prop := fnExactCountLinearRow.holds Try.pinned (OpenSpec.ofChange fnExactCountLinearWrong)

/-- 'laws.FnExactLevelsWith': WHATEVER THE INPUT: true; the input reads as it did. -/
def fnExactLevelsWithSpec : ChangeSpec := { name := "fnExactLevelsWith", fn := fun _ => fun
  | [d1, d2] => { results := [.lit (.bool true)], args := [d1, d2] }
  | _ => none }
def fnExactLevelsWithRow : OpenClaim := { program := "ytjojalbgpemjoaa", sum := "84560db9b832397c8894f44b920909cba11128e30c98a57a2e7d6f0cfba5f350", func := "loop.example/g01106/laws.FnExactLevelsWith", spec := "fnExactLevelsWith", unfollowed := true, recurses := true, apart := false }
def FnExactLevelsWithSaid : Prop := fnExactLevelsWithRow.holds Try.pinned (OpenSpec.ofChange fnExactLevelsWithSpec)

/-- ITS FALSE NEIGHBOUR: 'it returns false'. Refute it at one input. -/
def fnExactLevelsWithWrong : ChangeSpec := { name := "fnExactLevelsWith", fn := fun _ => fun
  | [d1, d2] => { results := [.lit (.bool false)], args := [d1, d2] }
  | _ => none }
def FnExactLevelsWithWrongFalsely : Prop := fnExactLevelsWithRow.holds Try.pinned (OpenSpec.ofChange fnExactLevelsWithWrong)

/-- 'laws.FnExactMirrorLevels': WHATEVER THE INPUT: true; the input reads as it did. -/
def fnExactMirrorLevelsSpec : ChangeSpec := { name := "fnExactMirrorLevels", fn := fun _ => fun
  | [d] => { results := [.lit (.bool true)], args := [d] }
  | _ => none }
def fnExactMirrorLevelsRow : OpenClaim := { program := "ytjojalbgpemjoaa", sum := "84560db9b832397c8894f44b920909cba11128e30c98a57a2e7d6f0cfba5f350", func := "loop.example/g01106/laws.FnExactMirrorLevels", spec := "fnExactMirrorLevels", unfollowed := true, recurses := true, apart := false }
def FnExactMirrorLevelsSaid : Prop := fnExactMirrorLevelsRow.holds Try.pinned (OpenSpec.ofChange fnExactMirrorLevelsSpec)

/-- ITS FALSE NEIGHBOUR: 'it returns false'. Refute it at one input. -/
def fnExactMirrorLevelsWrong : ChangeSpec := { name := "fnExactMirrorLevels", fn := fun _ => fun
  | [d] => { results := [.lit (.bool false)], args := [d] }
  | _ => none }
def FnExactMirrorLevelsWrongFalsely : Prop := fnExactMirrorLevelsRow.holds Try.pinned (OpenSpec.ofChange fnExactMirrorLevelsWrong)

/-- 'laws.FnExactOrderOfLevels': WHATEVER THE INPUT: true; the input reads as it did. -/
def fnExactOrderOfLevelsSpec : ChangeSpec := { name := "fnExactOrderOfLevels", fn := fun _ => fun
  | [d] => { results := [.lit (.bool true)], args := [d] }
  | _ => none }
def fnExactOrderOfLevelsRow : OpenClaim := { program := "ytjojalbgpemjoaa", sum := "84560db9b832397c8894f44b920909cba11128e30c98a57a2e7d6f0cfba5f350", func := "loop.example/g01106/laws.FnExactOrderOfLevels", spec := "fnExactOrderOfLevels", unfollowed := true, recurses := true, apart := false }
def FnExactOrderOfLevelsSaid : Prop := fnExactOrderOfLevelsRow.holds Try.pinned (OpenSpec.ofChange fnExactOrderOfLevelsSpec)

/-- ITS FALSE NEIGHBOUR: 'it returns false'. Refute it at one input. -/
def fnExactOrderOfLevelsWrong : ChangeSpec := { name := "fnExactOrderOfLevels", fn := fun _ => fun
  | [d] => { results := [.lit (.bool false)], args := [d] }
  | _ => none }
def FnExactOrderOfLevelsWrongFalsely : Prop := fnExactOrderOfLevelsRow.holds Try.pinned (OpenSpec.ofChange fnExactOrderOfLevelsWrong)

/-- 'laws.FnExactRankLevels': WHATEVER THE INPUT: true; the input reads as it did. -/
def fnExactRankLevelsSpec : ChangeSpec := { name := "fnExactRankLevels", fn := fun _ => fun
  | [d] => { results := [.lit (.bool true)], args := [d] }
  | _ => none }
def fnExactRankLevelsRow : OpenClaim := { program := "ytjojalbgpemjoaa", sum := "84560db9b832397c8894f44b920909cba11128e30c98a57a2e7d6f0cfba5f350", func := "loop.example/g01106/laws.FnExactRankLevels", spec := "fnExactRankLevels", unfollowed := true, recurses := true, apart := false }
def FnExactRankLevelsSaid : Prop := fnExactRankLevelsRow.holds Try.pinned (OpenSpec.ofChange fnExactRankLevelsSpec)

/-- ITS FALSE NEIGHBOUR: 'it returns false'. Refute it at one input. -/
def fnExactRankLevelsWrong : ChangeSpec := { name := "fnExactRankLevels", fn := fun _ => fun
  | [d] => { results := [.lit (.bool false)], args := [d] }
  | _ => none }
def FnExactRankLevelsWrongFalsely : Prop := fnExactRankLevelsRow.holds Try.pinned (OpenSpec.ofChange fnExactRankLevelsWrong)

/-- 'laws.FnExactRefineLevels': WHATEVER THE INPUT: true; the input reads as it did. -/
def fnExactRefineLevelsSpec : ChangeSpec := { name := "fnExactRefineLevels", fn := fun _ => fun
  | [d1, d2] => { results := [.lit (.bool true)], args := [d1, d2] }
  | _ => none }
def fnExactRefineLevelsRow : OpenClaim := { program := "ytjojalbgpemjoaa", sum := "84560db9b832397c8894f44b920909cba11128e30c98a57a2e7d6f0cfba5f350", func := "loop.example/g01106/laws.FnExactRefineLevels", spec := "fnExactRefineLevels", unfollowed := true, recurses := true, apart := false }
def FnExactRefineLevelsSaid : Prop := fnExactRefineLevelsRow.holds Try.pinned (OpenSpec.ofChange fnExactRefineLevelsSpec)

/-- ITS FALSE NEIGHBOUR: 'it returns false'. Refute it at one input. -/
def fnExactRefineLevelsWrong : ChangeSpec := { name := "fnExactRefineLevels", fn := fun _ => fun
  | [d1, d2] => { results := [.lit (.bool false)], args := [d1, d2] }
  | _ => none }
def FnExactRefineLevelsWrongFalsely : Prop := fnExactRefineLevelsRow.holds Try.pinned (OpenSpec.ofChange fnExactRefineLevelsWrong)

/-- 'laws.FnExactIntervalsOfAscent': WHATEVER THE INPUT: true; the input reads as it did. -/
def fnExactIntervalsOfAscentSpec : ChangeSpec := { name := "fnExactIntervalsOfAscent", fn := fun _ => fun
  | [d] => { results := [.lit (.bool true)], args := [d] }
  | _ => none }
def fnExactIntervalsOfAscentRow : OpenClaim := { program := "ytjojalbgpemjoaa", sum := "84560db9b832397c8894f44b920909cba11128e30c98a57a2e7d6f0cfba5f350", func := "loop.example/g01106/laws.FnExactIntervalsOfAscent", spec := "fnExactIntervalsOfAscent", unfollowed := true, recurses := true, apart := false }
def FnExactIntervalsOfAscentSaid : Prop := fnExactIntervalsOfAscentRow.holds Try.pinned (OpenSpec.ofChange fnExactIntervalsOfAscentSpec)

/-- ITS FALSE NEIGHBOUR: 'it returns false'. Refute it at one input. -/
def fnExactIntervalsOfAscentWrong : ChangeSpec := { name := "fnExactIntervalsOfAscent", fn := fun _ => fun
  | [d] => { results := [.lit (.bool false)], args := [d] }
  | _ => none }
def FnExactIntervalsOfAscentWrongFalsely : Prop := fnExactIntervalsOfAscentRow.holds Try.pinned (OpenSpec.ofChange fnExactIntervalsOfAscentWrong)

/-- 'laws.FnExactMajorityOf': WHATEVER THE INPUT: true; the input reads as it did. -/
def fnExactMajorityOfSpec : ChangeSpec := { name := "fnExactMajorityOf", fn := fun _ => fun
  | [d] => { results := [.lit (.bool true)], args := [d] }
  | _ => none }
def fnExactMajorityOfRow : OpenClaim := { program := "ytjojalbgpemjoaa", sum := "84560db9b832397c8894f44b920909cba11128e30c98a57a2e7d6f0cfba5f350", func := "loop.example/g01106/laws.FnExactMajorityOf", spec := "fnExactMajorityOf", unfollowed := true, recurses := true, apart := false }
def FnExactMajorityOfSaid : Prop := fnExactMajorityOfRow.holds Try.pinned (OpenSpec.ofChange fnExactMajorityOfSpec)

/-- ITS FALSE NEIGHBOUR: 'it returns false'. Refute it at one input. -/
def fnExactMajorityOfWrong : ChangeSpec := { name := "fnExactMajorityOf", fn := fun _ => fun
  | [d] => { results := [.lit (.bool false)], args := [d] }
  | _ => none }
def FnExactMajorityOfWrongFalsely : Prop := fnExactMajorityOfRow.holds Try.pinned (OpenSpec.ofChange fnExactMajorityOfWrong)

/-- 'laws.FnExactMeanLevels': WHATEVER THE INPUT: true; the input reads as it did. -/
def fnExactMeanLevelsSpec : ChangeSpec := { name := "fnExactMeanLevels", fn := fun _ => fun
  | [d] => { results := [.lit (.bool true)], args := [d] }
  | _ => none }
def fnExactMeanLevelsRow : OpenClaim := { program := "ytjojalbgpemjoaa", sum := "84560db9b832397c8894f44b920909cba11128e30c98a57a2e7d6f0cfba5f350", func := "loop.example/g01106/laws.FnExactMeanLevels", spec := "fnExactMeanLevels", unfollowed := true, recurses := true, apart := false }
def FnExactMeanLevelsSaid : Prop := fnExactMeanLevelsRow.holds Try.pinned (OpenSpec.ofChange fnExactMeanLevelsSpec)

/-- ITS FALSE NEIGHBOUR: 'it returns false'. Refute it at one input. -/
def fnExactMeanLevelsWrong : ChangeSpec := { name := "fnExactMeanLevels", fn := fun _ => fun
  | [d] => { results := [.lit (.bool false)], args := [d] }
  | _ => none }
def FnExactMeanLevelsWrongFalsely : Prop := fnExactMeanLevelsRow.holds Try.pinned (OpenSpec.ofChange fnExactMeanLevelsWrong)

/-- 'laws.FnExactOrderOfAscent': WHATEVER THE INPUT: true; the input reads as it did. -/
def fnExactOrderOfAscentSpec : ChangeSpec := { name := "fnExactOrderOfAscent", fn := fun _ => fun
  | [d] => { results := [.lit (.bool true)], args := [d] }
  | _ => none }
def fnExactOrderOfAscentRow : OpenClaim := { program := "ytjojalbgpemjoaa", sum := "84560db9b832397c8894f44b920909cba11128e30c98a57a2e7d6f0cfba5f350", func := "loop.example/g01106/laws.FnExactOrderOfAscent", spec := "fnExactOrderOfAscent", unfollowed := true, recurses := true, apart := false }
def FnExactOrderOfAscentSaid : Prop := fnExactOrderOfAscentRow.holds Try.pinned (OpenSpec.ofChange fnExactOrderOfAscentSpec)

/-- ITS FALSE NEIGHBOUR: 'it returns false'. Refute it at one input. -/
def fnExactOrderOfAscentWrong : ChangeSpec := { name := "fnExactOrderOfAscent", fn := fun _ => fun
  | [d] => { results := [.lit (.bool false)], args := [d] }
  | _ => none }
def FnExactOrderOfAscentWrongFalsely : Prop := fnExactOrderOfAscentRow.holds Try.pinned (OpenSpec.ofChange fnExactOrderOfAscentWrong)

/- THE SECOND FORM. 'bulk': how many values and letters a reading holds, each counted each time it is reached (what is shared counts as often as it is met; a slice's spare places count too). A statement '..UptoSaid' is the law's where the arguments, and the package variables that the reading takes, are together of bulk at most 1048576: NARROWER than '..Said'. Prove '..Said' where nothing that the law and all that it calls make is longer than what came in: it says more and counts as full. Else prove '..UptoSaid'. A law counts once. -/
mutual
def uptoBulk {H : Type} : DataW H → Nat
  | .lit (.string bytes) => bytes.length + 1
  | .lit _ => 1
  | .nil => 1
  | .ptr d => uptoBulk d + 1
  | .slice elems spare => uptoBulkAll elems + uptoBulkAll spare + 1
  | .agg parts => uptoBulkAll parts + 1
  | .iface _ d => uptoBulk d + 1
  | .map entries => uptoBulkEntries entries + 1
  | .held _ => 1
def uptoBulkAll {H : Type} : List (DataW H) → Nat
  | [] => 0
  | d :: r => uptoBulk d + uptoBulkAll r
def uptoBulkEntries {H : Type} : List (Lit × DataW H) → Nat
  | [] => 0
  | x :: r => uptoBulkEntry x + uptoBulkEntries r
def uptoBulkEntry {H : Type} : Lit × DataW H → Nat
  | (.string bytes, d) => bytes.length + uptoBulk d + 1
  | (_, d) => uptoBulk d + 1
 end
def uptoSmall : (H : Type) → List (DataW H) → Bool := fun _ ds => decide (uptoBulkAll ds ≤ 1048576)
def OpenSpec.upto (s : _root_.Go.ChangeSpec) : _root_.Go.OpenSpec := { _root_.Go.OpenSpec.ofChange s with cond := some uptoSmall }

/-- 'laws.FnExactAreLevels', WHERE WHAT IT READS IS OF BULK AT MOST 1048576: true; the input reads as it did. -/
def fnExactAreLevelsUptoRow : OpenClaim := { program := "ytjojalbgpemjoaa", sum := "84560db9b832397c8894f44b920909cba11128e30c98a57a2e7d6f0cfba5f350", func := "loop.example/g01106/laws.FnExactAreLevels", spec := "fnExactAreLevels", unfollowed := true, recurses := true, apart := false, narrowed := true }
def FnExactAreLevelsUptoSaid : Prop := fnExactAreLevelsUptoRow.holds Try.pinned (OpenSpec.upto fnExactAreLevelsSpec)

/-- 'laws.FnExactCountLinear', WHERE WHAT IT READS IS OF BULK AT MOST 1048576: true; the input reads as it did. -/
def fnExactCountLinearUptoRow : OpenClaim := { program := "ytjojalbgpemjoaa", sum := "84560db9b832397c8894f44b920909cba11128e30c98a57a2e7d6f0cfba5f350", func := "loop.example/g01106/laws.FnExactCountLinear", spec := "fnExactCountLinear", unfollowed := true, recurses := true, apart := false, narrowed := true }
def FnExactCountLinearUptoSaid : Prop := fnExactCountLinearUptoRow.holds Try.pinned (OpenSpec.upto fnExactCountLinearSpec)

/-- 'laws.FnExactLevelsWith', WHERE WHAT IT READS IS OF BULK AT MOST 1048576: true; the input reads as it did. -/
def fnExactLevelsWithUptoRow : OpenClaim := { program := "ytjojalbgpemjoaa", sum := "84560db9b832397c8894f44b920909cba11128e30c98a57a2e7d6f0cfba5f350", func := "loop.example/g01106/laws.FnExactLevelsWith", spec := "fnExactLevelsWith", unfollowed := true, recurses := true, apart := false, narrowed := true }
def FnExactLevelsWithUptoSaid : Prop := fnExactLevelsWithUptoRow.holds Try.pinned (OpenSpec.upto fnExactLevelsWithSpec)

/-- 'laws.FnExactMirrorLevels', WHERE WHAT IT READS IS OF BULK AT MOST 1048576: true; the input reads as it did. -/
def fnExactMirrorLevelsUptoRow : OpenClaim := { program := "ytjojalbgpemjoaa", sum := "84560db9b832397c8894f44b920909cba11128e30c98a57a2e7d6f0cfba5f350", func := "loop.example/g01106/laws.FnExactMirrorLevels", spec := "fnExactMirrorLevels", unfollowed := true, recurses := true, apart := false, narrowed := true }
def FnExactMirrorLevelsUptoSaid : Prop := fnExactMirrorLevelsUptoRow.holds Try.pinned (OpenSpec.upto fnExactMirrorLevelsSpec)

/-- 'laws.FnExactOrderOfLevels', WHERE WHAT IT READS IS OF BULK AT MOST 1048576: true; the input reads as it did. -/
def fnExactOrderOfLevelsUptoRow : OpenClaim := { program := "ytjojalbgpemjoaa", sum := "84560db9b832397c8894f44b920909cba11128e30c98a57a2e7d6f0cfba5f350", func := "loop.example/g01106/laws.FnExactOrderOfLevels", spec := "fnExactOrderOfLevels", unfollowed := true, recurses := true, apart := false, narrowed := true }
def FnExactOrderOfLevelsUptoSaid : Prop := fnExactOrderOfLevelsUptoRow.holds Try.pinned (OpenSpec.upto fnExactOrderOfLevelsSpec)

/-- 'laws.FnExactRankLevels', WHERE WHAT IT READS IS OF BULK AT MOST 1048576: true; the input reads as it did. -/
def fnExactRankLevelsUptoRow : OpenClaim := { program := "ytjojalbgpemjoaa", sum := "84560db9b832397c8894f44b920909cba11128e30c98a57a2e7d6f0cfba5f350", func := "loop.example/g01106/laws.FnExactRankLevels", spec := "fnExactRankLevels", unfollowed := true, recurses := true, apart := false, narrowed := true }
def FnExactRankLevelsUptoSaid : Prop := fnExactRankLevelsUptoRow.holds Try.pinned (OpenSpec.upto fnExactRankLevelsSpec)

/-- 'laws.FnExactRefineLevels', WHERE WHAT IT READS IS OF BULK AT MOST 1048576: true; the input reads as it did. -/
def fnExactRefineLevelsUptoRow : OpenClaim := { program := "ytjojalbgpemjoaa", sum := "84560db9b832397c8894f44b920909cba11128e30c98a57a2e7d6f0cfba5f350", func := "loop.example/g01106/laws.FnExactRefineLevels", spec := "fnExactRefineLevels", unfollowed := true, recurses := true, apart := false, narrowed := true }
def FnExactRefineLevelsUptoSaid : Prop := fnExactRefineLevelsUptoRow.holds Try.pinned (OpenSpec.upto fnExactRefineLevelsSpec)

/-- 'laws.FnExactIntervalsOfAscent', WHERE WHAT IT READS IS OF BULK AT MOST 1048576: true; the input reads as it did. -/
def fnExactIntervalsOfAscentUptoRow : OpenClaim := { program := "ytjojalbgpemjoaa", sum := "84560db9b832397c8894f44b920909cba11128e30c98a57a2e7d6f0cfba5f350", func := "loop.example/g01106/laws.FnExactIntervalsOfAscent", spec := "fnExactIntervalsOfAscent", unfollowed := true, recurses := true, apart := false, narrowed := true }
def FnExactIntervalsOfAscentUptoSaid : Prop := fnExactIntervalsOfAscentUptoRow.holds Try.pinned (OpenSpec.upto fnExactIntervalsOfAscentSpec)

/-- 'laws.FnExactMajorityOf', WHERE WHAT IT READS IS OF BULK AT MOST 1048576: true; the input reads as it did. -/
def fnExactMajorityOfUptoRow : OpenClaim := { program := "ytjojalbgpemjoaa", sum := "84560db9b832397c8894f44b920909cba11128e30c98a57a2e7d6f0cfba5f350", func := "loop.example/g01106/laws.FnExactMajorityOf", spec := "fnExactMajorityOf", unfollowed := true, recurses := true, apart := false, narrowed := true }
def FnExactMajorityOfUptoSaid : Prop := fnExactMajorityOfUptoRow.holds Try.pinned (OpenSpec.upto fnExactMajorityOfSpec)

/-- 'laws.FnExactMeanLevels', WHERE WHAT IT READS IS OF BULK AT MOST 1048576: true; the input reads as it did. -/
def fnExactMeanLevelsUptoRow : OpenClaim := { program := "ytjojalbgpemjoaa", sum := "84560db9b832397c8894f44b920909cba11128e30c98a57a2e7d6f0cfba5f350", func := "loop.example/g01106/laws.FnExactMeanLevels", spec := "fnExactMeanLevels", unfollowed := true, recurses := true, apart := false, narrowed := true }
def FnExactMeanLevelsUptoSaid : Prop := fnExactMeanLevelsUptoRow.holds Try.pinned (OpenSpec.upto fnExactMeanLevelsSpec)

/-- 'laws.FnExactOrderOfAscent', WHERE WHAT IT READS IS OF BULK AT MOST 1048576: true; the input reads as it did. -/
def fnExactOrderOfAscentUptoRow : OpenClaim := { program := "ytjojalbgpemjoaa", sum := "84560db9b832397c8894f44b920909cba11128e30c98a57a2e7d6f0cfba5f350", func := "loop.example/g01106/laws.FnExactOrderOfAscent", spec := "fnExactOrderOfAscent", unfollowed := true, recurses := true, apart := false, narrowed := true }
def FnExactOrderOfAscentUptoSaid : Prop := fnExactOrderOfAscentUptoRow.holds Try.pinned (OpenSpec.upto fnExactOrderOfAscentSpec)

end Rows
end Go.Proofs.Ytjojalbgpemjoaa
