/- What the listed variables' condition gives: the table of last set bits lies in its variable; and a world that meets the condition. -/
import Derived.Test.YtojappijhehlpaaDoorTie
import Derived.Test.YtojappijhehlpaaDoorQBitsTrailingzeros64
import Derived.WalkKit
import Derived.ProofKit
import Derived.LaidMore
import Derived.LaidOnce
import Derived.OpenShut
import Derived.MakeChecks
namespace Go.Proofs.YtojappijhehlpaaDoor.Tied
open Go Go.ChangeShapes Go.WideShapes Go.ChangeAt Go.RowKit
theorem own : ownKnob Tryd.prog.godebug = none := by kernel_rfl
theorem laidOut : laidOutB Tryd.prog = true := by kernel_rfl
abbrev laid : List (String × DataW Unit) := [("math/bits.deBruijn32tab", Rows.laid_math_bits_deBruijn32tab), ("math/bits.deBruijn64tab", Rows.laid_math_bits_deBruijn64tab), ("internal/strconv.uint64pow10", Rows.laid_internal_strconv_uint64pow10)]
theorem door_met (os : Os) (args : Array Value) : laidMetH Tryd.prog laid ((World.doorLaid Tryd.prog 72 os).forCall (fun _ _ => 0) ⟨#[], args, []⟩).memory :=
  laidMetH_of_parts3 (fuel := 8) (laidMet_of_run' 8 (by kernel_rfl) (by kernel_rfl)) (by kernel_rfl) (by kernel_rfl)
theorem table {H : Type} : (Rows.laid_math_bits_deBruijn64tab : DataW H) = .agg (Q.dbtab.map fun n => .lit (.int .u8 n)) := rfl
theorem tab_of_laid {W : World} (h : laidMetH Tryd.prog laid W) : Q.Tab W := by
  replace h : laidMet Tryd.prog laid W := h
  obtain ⟨ps, ⟨g0, t0, cs0, f0, p0, q0, hg0, ht0, hv0, hd0, ⟨g1, t1, cs1, f1, p1, q1, hg1, ht1, hv1, hd1, hrest, _⟩, _⟩, _, _⟩ := h
  obtain rfl := Option.some.inj ((show Tryd.prog.globalNamed "math/bits.deBruijn64tab" = some 7 by kernel_rfl).symm.trans hg1)
  obtain rfl := Option.some.inj ((show (Tryd.prog.globals[7]?).map (·.type) = some 101 by kernel_rfl).symm.trans ht1)
  rw [table] at hd1
  obtain ⟨xs, m, _, hx, hl, hlen, hf⟩ := DataW.trod_array (n := 64) (e := 5) (by kernel_rfl) hd1
  simp only [Prod.mk.injEq, DataW.agg.injEq] at hx
  have hc : Tryd.prog.cellsOf 5 = 1 := by kernel_rfl
  have key : ∀ i : Nat, i < 64 → W.cell? ⟨7, i, none⟩ = some (.int .u8 (Q.dbtab.getD i 0)) := by
    intro i hi
    have h1 := hf i hi
    rw [hc, Nat.mul_one, List.getElem?_eq_getElem (by omega)] at h1
    obtain ⟨n, e1, e2, _⟩ := DataW.trod_int (k := .u8) Tryd.underlying5 h1
    have h2 := congrArg (fun l : List (DataW Unit) => l[i]?) hx.1
    simp only [List.getElem?_map, List.getElem?_eq_getElem (show i < xs.length by omega), Option.map_some, e2] at h2
    have hb : i < Q.dbtab.length := hi
    rw [List.getElem?_eq_getElem hb] at h2
    simp only [Option.map_some, Option.some.injEq, DataW.lit.injEq, Lit.int.injEq, true_and] at h2
    have h3 := World.var?_cell hg1 hv1 i
    rw [h3, List.getD_eq_getElem?_getD, List.getElem?_eq_getElem hb, Option.getD_some, h2]
    have h4 : (cs1.toList.drop i)[0]? = some (.int .u8 n) := by
      have := congrArg (fun l : List Value => l[0]?) e1
      simpa using this
    simpa using h4
  exact ⟨World.block_lt_of_cell? W _ (key 0 (by omega)), key⟩
end Go.Proofs.YtojappijhehlpaaDoor.Tied
