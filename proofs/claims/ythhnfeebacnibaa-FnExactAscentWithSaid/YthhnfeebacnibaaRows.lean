/-
  No cell of these rows narrows 'for every input' (looked for: loops, veiled, ifaces, maps, wideKeys, modest, calm, conditions, laid).
  DERIVED. THE GIVEN ROWS OF THIS SEAT. 12 by the template 'for every input the law returns true; each argument reads behind the call as it read before'; 0 by the template 'total and deterministic' (their statements: YthhnfeebacnibaaTotals.lean).
  GIVEN WITH THE SEED: the statements are not yours to turn. If you find one false, say at which input.
  Laid BY PROGRAM, IN A SANDBOX (cutbox-rows.mjs): the forced cells as the released guide's own fill.sh prints them over the translation 1bd5bdaf748fbf03… (all of the seat's roots in one cut). By AI agents, Wed Nov 11 2026. No macro, syntax, notation, axiom, sorry.
-/
import Derived.Test.YthhnfeebacnibaaChecked
import GoSem.Claim
import GoSem.ClaimJoined
import GoSem.ClaimMapViews
import Derived.JoinedTies
import Derived.KernelRfl
namespace Go.Proofs.Ythhnfeebacnibaa
/- THE CELL 'sum', in the pinned program and in every row, IS THE sha256 OF THE DUMP (.gsa) THAT YthhnfeebacnibaaProg.lean LOADS. Nothing in Lean hashes anything: it is a label: what it is worth is what the hold of that sum in a sandbox is worth. -/
noncomputable def Try.pinned : Pinned := { name := "ythhnfeebacnibaa", sum := "1bd5bdaf748fbf034414a252f570cdaecdf8e47d727d14887ff0af27682165f2", checked := Try.checked }
namespace Rows
def none {H : Type} : Left H := { results := [], args := [] }

/-- 'laws.FnExactCountWeak': WHATEVER THE INPUT: true; the input reads as it did. -/
def fnExactCountWeakSpec : ChangeSpec := { name := "fnExactCountWeak", fn := fun _ => fun
  | [d] => { results := [.lit (.bool true)], args := [d] }
  | _ => none }
def fnExactCountWeakRow : OpenClaim := { program := "ythhnfeebacnibaa", sum := "1bd5bdaf748fbf034414a252f570cdaecdf8e47d727d14887ff0af27682165f2", func := "loop.example/g01106/laws.FnExactCountWeak", spec := "fnExactCountWeak", recurses := true, plainKeys := false, apart := false }
def FnExactCountWeakSaid : Prop := fnExactCountWeakRow.holds Try.pinned (OpenSpec.ofChange fnExactCountWeakSpec)

/-- ITS FALSE NEIGHBOUR: 'it returns false'. Refute it at one input. -/
def fnExactCountWeakWrong : ChangeSpec := { name := "fnExactCountWeak", fn := fun _ => fun
  | [d] => { results := [.lit (.bool false)], args := [d] }
  | _ => none }
def FnExactCountWeakWrongFalsely : Prop := fnExactCountWeakRow.holds Try.pinned (OpenSpec.ofChange fnExactCountWeakWrong)

/-- 'laws.FnExactIsAscent': WHATEVER THE INPUT: true; the input reads as it did. -/
def fnExactIsAscentSpec : ChangeSpec := { name := "fnExactIsAscent", fn := fun _ => fun
  | [d] => { results := [.lit (.bool true)], args := [d] }
  | _ => none }
def fnExactIsAscentRow : OpenClaim := { program := "ythhnfeebacnibaa", sum := "1bd5bdaf748fbf034414a252f570cdaecdf8e47d727d14887ff0af27682165f2", func := "loop.example/g01106/laws.FnExactIsAscent", spec := "fnExactIsAscent", plainKeys := false, apart := false }
def FnExactIsAscentSaid : Prop := fnExactIsAscentRow.holds Try.pinned (OpenSpec.ofChange fnExactIsAscentSpec)

/-- ITS FALSE NEIGHBOUR: 'it returns false'. Refute it at one input. -/
def fnExactIsAscentWrong : ChangeSpec := { name := "fnExactIsAscent", fn := fun _ => fun
  | [d] => { results := [.lit (.bool false)], args := [d] }
  | _ => none }
def FnExactIsAscentWrongFalsely : Prop := fnExactIsAscentRow.holds Try.pinned (OpenSpec.ofChange fnExactIsAscentWrong)

/-- 'laws.FnExactAscentsOf': WHATEVER THE INPUT: true; the input reads as it did. -/
def fnExactAscentsOfSpec : ChangeSpec := { name := "fnExactAscentsOf", fn := fun _ => fun
  | [d] => { results := [.lit (.bool true)], args := [d] }
  | _ => none }
def fnExactAscentsOfRow : OpenClaim := { program := "ythhnfeebacnibaa", sum := "1bd5bdaf748fbf034414a252f570cdaecdf8e47d727d14887ff0af27682165f2", func := "loop.example/g01106/laws.FnExactAscentsOf", spec := "fnExactAscentsOf", plainKeys := false, apart := false }
def FnExactAscentsOfSaid : Prop := fnExactAscentsOfRow.holds Try.pinned (OpenSpec.ofChange fnExactAscentsOfSpec)

/-- ITS FALSE NEIGHBOUR: 'it returns false'. Refute it at one input. -/
def fnExactAscentsOfWrong : ChangeSpec := { name := "fnExactAscentsOf", fn := fun _ => fun
  | [d] => { results := [.lit (.bool false)], args := [d] }
  | _ => none }
def FnExactAscentsOfWrongFalsely : Prop := fnExactAscentsOfRow.holds Try.pinned (OpenSpec.ofChange fnExactAscentsOfWrong)

/-- 'laws.FnExactCountAscents': WHATEVER THE INPUT: true; the input reads as it did. -/
def fnExactCountAscentsSpec : ChangeSpec := { name := "fnExactCountAscents", fn := fun _ => fun
  | [d] => { results := [.lit (.bool true)], args := [d] }
  | _ => none }
def fnExactCountAscentsRow : OpenClaim := { program := "ythhnfeebacnibaa", sum := "1bd5bdaf748fbf034414a252f570cdaecdf8e47d727d14887ff0af27682165f2", func := "loop.example/g01106/laws.FnExactCountAscents", spec := "fnExactCountAscents", recurses := true, plainKeys := false, apart := false }
def FnExactCountAscentsSaid : Prop := fnExactCountAscentsRow.holds Try.pinned (OpenSpec.ofChange fnExactCountAscentsSpec)

/-- ITS FALSE NEIGHBOUR: 'it returns false'. Refute it at one input. -/
def fnExactCountAscentsWrong : ChangeSpec := { name := "fnExactCountAscents", fn := fun _ => fun
  | [d] => { results := [.lit (.bool false)], args := [d] }
  | _ => none }
def FnExactCountAscentsWrongFalsely : Prop := fnExactCountAscentsRow.holds Try.pinned (OpenSpec.ofChange fnExactCountAscentsWrong)

/-- 'laws.FnExactMergeEqual': WHATEVER THE INPUT: true; the input reads as it did. -/
def fnExactMergeEqualSpec : ChangeSpec := { name := "fnExactMergeEqual", fn := fun _ => fun
  | [d] => { results := [.lit (.bool true)], args := [d] }
  | _ => none }
def fnExactMergeEqualRow : OpenClaim := { program := "ythhnfeebacnibaa", sum := "1bd5bdaf748fbf034414a252f570cdaecdf8e47d727d14887ff0af27682165f2", func := "loop.example/g01106/laws.FnExactMergeEqual", spec := "fnExactMergeEqual", plainKeys := false, apart := false }
def FnExactMergeEqualSaid : Prop := fnExactMergeEqualRow.holds Try.pinned (OpenSpec.ofChange fnExactMergeEqualSpec)

/-- ITS FALSE NEIGHBOUR: 'it returns false'. Refute it at one input. -/
def fnExactMergeEqualWrong : ChangeSpec := { name := "fnExactMergeEqual", fn := fun _ => fun
  | [d] => { results := [.lit (.bool false)], args := [d] }
  | _ => none }
def FnExactMergeEqualWrongFalsely : Prop := fnExactMergeEqualRow.holds Try.pinned (OpenSpec.ofChange fnExactMergeEqualWrong)

/-- 'laws.FnExactModifyAscent': WHATEVER THE INPUT: true; the input reads as it did. -/
def fnExactModifyAscentSpec : ChangeSpec := { name := "fnExactModifyAscent", fn := fun _ => fun
  | [d] => { results := [.lit (.bool true)], args := [d] }
  | _ => none }
def fnExactModifyAscentRow : OpenClaim := { program := "ythhnfeebacnibaa", sum := "1bd5bdaf748fbf034414a252f570cdaecdf8e47d727d14887ff0af27682165f2", func := "loop.example/g01106/laws.FnExactModifyAscent", spec := "fnExactModifyAscent", plainKeys := false, apart := false }
def FnExactModifyAscentSaid : Prop := fnExactModifyAscentRow.holds Try.pinned (OpenSpec.ofChange fnExactModifyAscentSpec)

/-- ITS FALSE NEIGHBOUR: 'it returns false'. Refute it at one input. -/
def fnExactModifyAscentWrong : ChangeSpec := { name := "fnExactModifyAscent", fn := fun _ => fun
  | [d] => { results := [.lit (.bool false)], args := [d] }
  | _ => none }
def FnExactModifyAscentWrongFalsely : Prop := fnExactModifyAscentRow.holds Try.pinned (OpenSpec.ofChange fnExactModifyAscentWrong)

/-- 'laws.FnExactIsSteady': WHATEVER THE INPUT: true; the input reads as it did. -/
def fnExactIsSteadySpec : ChangeSpec := { name := "fnExactIsSteady", fn := fun _ => fun
  | [d] => { results := [.lit (.bool true)], args := [d] }
  | _ => none }
def fnExactIsSteadyRow : OpenClaim := { program := "ythhnfeebacnibaa", sum := "1bd5bdaf748fbf034414a252f570cdaecdf8e47d727d14887ff0af27682165f2", func := "loop.example/g01106/laws.FnExactIsSteady", spec := "fnExactIsSteady", plainKeys := false, apart := false }
def FnExactIsSteadySaid : Prop := fnExactIsSteadyRow.holds Try.pinned (OpenSpec.ofChange fnExactIsSteadySpec)

/-- ITS FALSE NEIGHBOUR: 'it returns false'. Refute it at one input. -/
def fnExactIsSteadyWrong : ChangeSpec := { name := "fnExactIsSteady", fn := fun _ => fun
  | [d] => { results := [.lit (.bool false)], args := [d] }
  | _ => none }
def FnExactIsSteadyWrongFalsely : Prop := fnExactIsSteadyRow.holds Try.pinned (OpenSpec.ofChange fnExactIsSteadyWrong)

/-- 'laws.FnExactAscentWith': WHATEVER THE INPUT: true; the input reads as it did. -/
def fnExactAscentWithSpec : ChangeSpec := { name := "fnExactAscentWith", fn := fun _ => fun
  | [d1, d2] => { results := [.lit (.bool true)], args := [d1, d2] }
  | _ => none }
def fnExactAscentWithRow : OpenClaim := { program := "ythhnfeebacnibaa", sum := "1bd5bdaf748fbf034414a252f570cdaecdf8e47d727d14887ff0af27682165f2", func := "loop.example/g01106/laws.FnExactAscentWith", spec := "fnExactAscentWith", recurses := true, plainKeys := false, apart := false }
def FnExactAscentWithSaid : Prop := fnExactAscentWithRow.holds Try.pinned (OpenSpec.ofChange fnExactAscentWithSpec)

/-- ITS FALSE NEIGHBOUR: 'it returns false'. Refute it at one input. -/
def fnExactAscentWithWrong : ChangeSpec := { name := "fnExactAscentWith", fn := fun _ => fun
  | [d1, d2] => { results := [.lit (.bool false)], args := [d1, d2] }
  | _ => none }
def FnExactAscentWithWrongFalsely : Prop := fnExactAscentWithRow.holds Try.pinned (OpenSpec.ofChange fnExactAscentWithWrong)

/-- 'laws.FnExactListAscents': WHATEVER THE INPUT: true; the input reads as it did. -/
def fnExactListAscentsSpec : ChangeSpec := { name := "fnExactListAscents", fn := fun _ => fun
  | [d] => { results := [.lit (.bool true)], args := [d] }
  | _ => none }
def fnExactListAscentsRow : OpenClaim := { program := "ythhnfeebacnibaa", sum := "1bd5bdaf748fbf034414a252f570cdaecdf8e47d727d14887ff0af27682165f2", func := "loop.example/g01106/laws.FnExactListAscents", spec := "fnExactListAscents", recurses := true, plainKeys := false, apart := false }
def FnExactListAscentsSaid : Prop := fnExactListAscentsRow.holds Try.pinned (OpenSpec.ofChange fnExactListAscentsSpec)

/-- ITS FALSE NEIGHBOUR: 'it returns false'. Refute it at one input. -/
def fnExactListAscentsWrong : ChangeSpec := { name := "fnExactListAscents", fn := fun _ => fun
  | [d] => { results := [.lit (.bool false)], args := [d] }
  | _ => none }
def FnExactListAscentsWrongFalsely : Prop := fnExactListAscentsRow.holds Try.pinned (OpenSpec.ofChange fnExactListAscentsWrong)

/-- 'laws.FnExactRankAscent': WHATEVER THE INPUT: true; the input reads as it did. -/
def fnExactRankAscentSpec : ChangeSpec := { name := "fnExactRankAscent", fn := fun _ => fun
  | [d] => { results := [.lit (.bool true)], args := [d] }
  | _ => none }
def fnExactRankAscentRow : OpenClaim := { program := "ythhnfeebacnibaa", sum := "1bd5bdaf748fbf034414a252f570cdaecdf8e47d727d14887ff0af27682165f2", func := "loop.example/g01106/laws.FnExactRankAscent", spec := "fnExactRankAscent", recurses := true, plainKeys := false, apart := false }
def FnExactRankAscentSaid : Prop := fnExactRankAscentRow.holds Try.pinned (OpenSpec.ofChange fnExactRankAscentSpec)

/-- ITS FALSE NEIGHBOUR: 'it returns false'. Refute it at one input. -/
def fnExactRankAscentWrong : ChangeSpec := { name := "fnExactRankAscent", fn := fun _ => fun
  | [d] => { results := [.lit (.bool false)], args := [d] }
  | _ => none }
def FnExactRankAscentWrongFalsely : Prop := fnExactRankAscentRow.holds Try.pinned (OpenSpec.ofChange fnExactRankAscentWrong)

/-- 'laws.FnExactNextAscent': WHATEVER THE INPUT: true; the input reads as it did. -/
def fnExactNextAscentSpec : ChangeSpec := { name := "fnExactNextAscent", fn := fun _ => fun
  | [d] => { results := [.lit (.bool true)], args := [d] }
  | _ => none }
def fnExactNextAscentRow : OpenClaim := { program := "ythhnfeebacnibaa", sum := "1bd5bdaf748fbf034414a252f570cdaecdf8e47d727d14887ff0af27682165f2", func := "loop.example/g01106/laws.FnExactNextAscent", spec := "fnExactNextAscent", recurses := true, plainKeys := false, apart := false }
def FnExactNextAscentSaid : Prop := fnExactNextAscentRow.holds Try.pinned (OpenSpec.ofChange fnExactNextAscentSpec)

/-- ITS FALSE NEIGHBOUR: 'it returns false'. Refute it at one input. -/
def fnExactNextAscentWrong : ChangeSpec := { name := "fnExactNextAscent", fn := fun _ => fun
  | [d] => { results := [.lit (.bool false)], args := [d] }
  | _ => none }
def FnExactNextAscentWrongFalsely : Prop := fnExactNextAscentRow.holds Try.pinned (OpenSpec.ofChange fnExactNextAscentWrong)

/-- 'laws.FnExactUnmodifyAscent': WHATEVER THE INPUT: true; the input reads as it did. -/
def fnExactUnmodifyAscentSpec : ChangeSpec := { name := "fnExactUnmodifyAscent", fn := fun _ => fun
  | [d] => { results := [.lit (.bool true)], args := [d] }
  | _ => none }
def fnExactUnmodifyAscentRow : OpenClaim := { program := "ythhnfeebacnibaa", sum := "1bd5bdaf748fbf034414a252f570cdaecdf8e47d727d14887ff0af27682165f2", func := "loop.example/g01106/laws.FnExactUnmodifyAscent", spec := "fnExactUnmodifyAscent", plainKeys := false, apart := false }
def FnExactUnmodifyAscentSaid : Prop := fnExactUnmodifyAscentRow.holds Try.pinned (OpenSpec.ofChange fnExactUnmodifyAscentSpec)

/-- ITS FALSE NEIGHBOUR: 'it returns false'. Refute it at one input. -/
def fnExactUnmodifyAscentWrong : ChangeSpec := { name := "fnExactUnmodifyAscent", fn := fun _ => fun
  | [d] => { results := [.lit (.bool false)], args := [d] }
  | _ => none }
def FnExactUnmodifyAscentWrongFalsely : Prop := fnExactUnmodifyAscentRow.holds Try.pinned (OpenSpec.ofChange fnExactUnmodifyAscentWrong)

/- THE SECOND FORM. 'bulk': how many values and letters a reading holds, each counted each time it is reached (what is shared counts as often as it is met; a slice's spare places count too). A statement '..UptoSaid' is the law's where the arguments, and the package variables that the reading takes, are together of bulk at most 1048576: NARROWER than '..Said'. Prove '..Said' where nothing that the law and all that it calls make is longer than what came in: it says more and counts as full. Else prove '..UptoSaid'. A law counts once. -/
mutual
def uptoBulk {H : Type} : DataW H → Nat
  | .lit (.string bytes) => bytes.length + 1
  | .lit _ => 1
  | .nil => 1
  | .ptr d => uptoBulk d + 1
  | .slice elems spare => uptoBulkAll elems + uptoBulkAll spare + 1
  | .agg parts => uptoBulkAll parts + 1
  | .iface _ d => uptoBulk d + 1
  | .map entries => uptoBulkEntries entries + 1
  | .held _ => 1
def uptoBulkAll {H : Type} : List (DataW H) → Nat
  | [] => 0
  | d :: r => uptoBulk d + uptoBulkAll r
def uptoBulkEntries {H : Type} : List (Lit × DataW H) → Nat
  | [] => 0
  | x :: r => uptoBulkEntry x + uptoBulkEntries r
def uptoBulkEntry {H : Type} : Lit × DataW H → Nat
  | (.string bytes, d) => bytes.length + uptoBulk d + 1
  | (_, d) => uptoBulk d + 1
 end
def uptoSmall : (H : Type) → List (DataW H) → Bool := fun _ ds => decide (uptoBulkAll ds ≤ 1048576)
def OpenSpec.upto (s : _root_.Go.ChangeSpec) : _root_.Go.OpenSpec := { _root_.Go.OpenSpec.ofChange s with cond := some uptoSmall }

/-- 'laws.FnExactCountWeak', WHERE WHAT IT READS IS OF BULK AT MOST 1048576: true; the input reads as it did. -/
def fnExactCountWeakUptoRow : OpenClaim := { program := "ythhnfeebacnibaa", sum := "1bd5bdaf748fbf034414a252f570cdaecdf8e47d727d14887ff0af27682165f2", func := "loop.example/g01106/laws.FnExactCountWeak", spec := "fnExactCountWeak", recurses := true, plainKeys := false, apart := false, narrowed := true }
def FnExactCountWeakUptoSaid : Prop := fnExactCountWeakUptoRow.holds Try.pinned (OpenSpec.upto fnExactCountWeakSpec)

/-- 'laws.FnExactIsAscent', WHERE WHAT IT READS IS OF BULK AT MOST 1048576: true; the input reads as it did. -/
def fnExactIsAscentUptoRow : OpenClaim := { program := "ythhnfeebacnibaa", sum := "1bd5bdaf748fbf034414a252f570cdaecdf8e47d727d14887ff0af27682165f2", func := "loop.example/g01106/laws.FnExactIsAscent", spec := "fnExactIsAscent", plainKeys := false, apart := false, narrowed := true }
def FnExactIsAscentUptoSaid : Prop := fnExactIsAscentUptoRow.holds Try.pinned (OpenSpec.upto fnExactIsAscentSpec)

/-- 'laws.FnExactAscentsOf', WHERE WHAT IT READS IS OF BULK AT MOST 1048576: true; the input reads as it did. -/
def fnExactAscentsOfUptoRow : OpenClaim := { program := "ythhnfeebacnibaa", sum := "1bd5bdaf748fbf034414a252f570cdaecdf8e47d727d14887ff0af27682165f2", func := "loop.example/g01106/laws.FnExactAscentsOf", spec := "fnExactAscentsOf", plainKeys := false, apart := false, narrowed := true }
def FnExactAscentsOfUptoSaid : Prop := fnExactAscentsOfUptoRow.holds Try.pinned (OpenSpec.upto fnExactAscentsOfSpec)

/-- 'laws.FnExactCountAscents', WHERE WHAT IT READS IS OF BULK AT MOST 1048576: true; the input reads as it did. -/
def fnExactCountAscentsUptoRow : OpenClaim := { program := "ythhnfeebacnibaa", sum := "1bd5bdaf748fbf034414a252f570cdaecdf8e47d727d14887ff0af27682165f2", func := "loop.example/g01106/laws.FnExactCountAscents", spec := "fnExactCountAscents", recurses := true, plainKeys := false, apart := false, narrowed := true }
def FnExactCountAscentsUptoSaid : Prop := fnExactCountAscentsUptoRow.holds Try.pinned (OpenSpec.upto fnExactCountAscentsSpec)

/-- 'laws.FnExactMergeEqual', WHERE WHAT IT READS IS OF BULK AT MOST 1048576: true; the input reads as it did. -/
def fnExactMergeEqualUptoRow : OpenClaim := { program := "ythhnfeebacnibaa", sum := "1bd5bdaf748fbf034414a252f570cdaecdf8e47d727d14887ff0af27682165f2", func := "loop.example/g01106/laws.FnExactMergeEqual", spec := "fnExactMergeEqual", plainKeys := false, apart := false, narrowed := true }
def FnExactMergeEqualUptoSaid : Prop := fnExactMergeEqualUptoRow.holds Try.pinned (OpenSpec.upto fnExactMergeEqualSpec)

/-- 'laws.FnExactModifyAscent', WHERE WHAT IT READS IS OF BULK AT MOST 1048576: true; the input reads as it did. -/
def fnExactModifyAscentUptoRow : OpenClaim := { program := "ythhnfeebacnibaa", sum := "1bd5bdaf748fbf034414a252f570cdaecdf8e47d727d14887ff0af27682165f2", func := "loop.example/g01106/laws.FnExactModifyAscent", spec := "fnExactModifyAscent", plainKeys := false, apart := false, narrowed := true }
def FnExactModifyAscentUptoSaid : Prop := fnExactModifyAscentUptoRow.holds Try.pinned (OpenSpec.upto fnExactModifyAscentSpec)

/-- 'laws.FnExactIsSteady', WHERE WHAT IT READS IS OF BULK AT MOST 1048576: true; the input reads as it did. -/
def fnExactIsSteadyUptoRow : OpenClaim := { program := "ythhnfeebacnibaa", sum := "1bd5bdaf748fbf034414a252f570cdaecdf8e47d727d14887ff0af27682165f2", func := "loop.example/g01106/laws.FnExactIsSteady", spec := "fnExactIsSteady", plainKeys := false, apart := false, narrowed := true }
def FnExactIsSteadyUptoSaid : Prop := fnExactIsSteadyUptoRow.holds Try.pinned (OpenSpec.upto fnExactIsSteadySpec)

/-- 'laws.FnExactAscentWith', WHERE WHAT IT READS IS OF BULK AT MOST 1048576: true; the input reads as it did. -/
def fnExactAscentWithUptoRow : OpenClaim := { program := "ythhnfeebacnibaa", sum := "1bd5bdaf748fbf034414a252f570cdaecdf8e47d727d14887ff0af27682165f2", func := "loop.example/g01106/laws.FnExactAscentWith", spec := "fnExactAscentWith", recurses := true, plainKeys := false, apart := false, narrowed := true }
def FnExactAscentWithUptoSaid : Prop := fnExactAscentWithUptoRow.holds Try.pinned (OpenSpec.upto fnExactAscentWithSpec)

/-- 'laws.FnExactListAscents', WHERE WHAT IT READS IS OF BULK AT MOST 1048576: true; the input reads as it did. -/
def fnExactListAscentsUptoRow : OpenClaim := { program := "ythhnfeebacnibaa", sum := "1bd5bdaf748fbf034414a252f570cdaecdf8e47d727d14887ff0af27682165f2", func := "loop.example/g01106/laws.FnExactListAscents", spec := "fnExactListAscents", recurses := true, plainKeys := false, apart := false, narrowed := true }
def FnExactListAscentsUptoSaid : Prop := fnExactListAscentsUptoRow.holds Try.pinned (OpenSpec.upto fnExactListAscentsSpec)

/-- 'laws.FnExactRankAscent', WHERE WHAT IT READS IS OF BULK AT MOST 1048576: true; the input reads as it did. -/
def fnExactRankAscentUptoRow : OpenClaim := { program := "ythhnfeebacnibaa", sum := "1bd5bdaf748fbf034414a252f570cdaecdf8e47d727d14887ff0af27682165f2", func := "loop.example/g01106/laws.FnExactRankAscent", spec := "fnExactRankAscent", recurses := true, plainKeys := false, apart := false, narrowed := true }
def FnExactRankAscentUptoSaid : Prop := fnExactRankAscentUptoRow.holds Try.pinned (OpenSpec.upto fnExactRankAscentSpec)

/-- 'laws.FnExactNextAscent', WHERE WHAT IT READS IS OF BULK AT MOST 1048576: true; the input reads as it did. -/
def fnExactNextAscentUptoRow : OpenClaim := { program := "ythhnfeebacnibaa", sum := "1bd5bdaf748fbf034414a252f570cdaecdf8e47d727d14887ff0af27682165f2", func := "loop.example/g01106/laws.FnExactNextAscent", spec := "fnExactNextAscent", recurses := true, plainKeys := false, apart := false, narrowed := true }
def FnExactNextAscentUptoSaid : Prop := fnExactNextAscentUptoRow.holds Try.pinned (OpenSpec.upto fnExactNextAscentSpec)

/-- 'laws.FnExactUnmodifyAscent', WHERE WHAT IT READS IS OF BULK AT MOST 1048576: true; the input reads as it did. -/
def fnExactUnmodifyAscentUptoRow : OpenClaim := { program := "ythhnfeebacnibaa", sum := "1bd5bdaf748fbf034414a252f570cdaecdf8e47d727d14887ff0af27682165f2", func := "loop.example/g01106/laws.FnExactUnmodifyAscent", spec := "fnExactUnmodifyAscent", plainKeys := false, apart := false, narrowed := true }
def FnExactUnmodifyAscentUptoSaid : Prop := fnExactUnmodifyAscentUptoRow.holds Try.pinned (OpenSpec.upto fnExactUnmodifyAscentSpec)

end Rows
end Go.Proofs.Ythhnfeebacnibaa
