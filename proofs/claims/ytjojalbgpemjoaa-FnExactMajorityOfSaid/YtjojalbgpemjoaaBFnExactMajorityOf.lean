/- MajorityOf answers what the reference answers and hands back memory of its own, for every list of voters with at most 2^20 rows and numbers in all (greater ones the statement lets pass). Conditions: none. -/
import Derived.Test.YtjojalbgpemjoaaRows
import Derived.WalkKit
import Derived.ProofKit
import Derived.OpenShut
import Derived.ShutString
import Derived.ChangeOld
import Derived.Below
import Derived.SizedLaws
import Derived.Test.YtjojalbgpemjoaaBFnExactMajorityOf15
import Derived.Test.YtjojalbgpemjoaaBFnExactMajorityOf18
-- laid by this project's own program (wip/rowss.py) for this seat; Lean checks it
namespace Go.Proofs.Ytjojalbgpemjoaa.fnExactMajorityOf
open Go.ChangeShapes Go.WideShapes Go.ChangeAt Go.RowKit Go.Proofs.YtjojalbgpemjoaaW.PrintWords Go.Proofs.YtjojalbgpemjoaaW.PrintLast
set_option linter.unusedVariables false
set_option linter.unusedSimpArgs false
theorem own : ownKnob Try.prog.godebug = none := by kernel_rfl
theorem laidOut : laidOutB Try.prog = true := by kernel_rfl
/-- A row of whole numbers, as its reading tells it. -/
theorem openInts {H : Type} {enc : TypeId × Value → H} {W : World} {base : Nat} {held : Bool} {fuel : Nat} {v : Value} {x : DataW H × List MemPlace} (h : DataW.trod enc Try.prog W base (fun _ => true) held fuel 22 [v] = some x) :
    ∃ (a : Option Addr) (c : Nat) (l : List Int), v = .slice a l.length c ∧ l.length ≤ c ∧ Kd.C (Kd.int .i64) W a l.length l ∧ l.length ≤ maxLen ∧ ∀ n ∈ l, (Lit.int .i64 n).wf = true := by
  rcases open_ints Try.underlying22 Try.underlying3 (by kernel_rfl) h with ⟨hcs, _⟩ | ⟨x, l, c, zs, hcs, _, hl, hm, hz, _, hcell, hwz⟩
  · obtain rfl : v = .slice none 0 0 := by simpa using hcs
    obtain ⟨ys, h1, h2, h3, h4, h5⟩ := ReadsInt.ofRowC (k := .i64) (w := W) (a := none) (len := 0) (cap := 0) (zs := []) (.inl ⟨rfl, rfl, rfl, rfl⟩)
    exact ⟨none, 0, ys, by rw [← h1], h5, Kd.C_of_reads (d := (0 : Int)) (h1 := fun _ => rfl) h2, h3, h4⟩
  · obtain rfl : v = .slice (some x) l c := by simpa using hcs
    obtain ⟨ys, h1, h2, h3, h4, h5⟩ := ReadsInt.ofRowC (k := .i64) (w := W) (a := some x) (len := l) (cap := c) (zs := zs) (.inr ⟨_, rfl, hl, hm, by simpa using hz, hcell, hwz⟩)
    subst h1
    exact ⟨some x, c, ys, rfl, h5, Kd.C_of_reads (d := (0 : Int)) (h1 := fun _ => rfl) h2, h3, h4⟩
/-- A row of such rows. -/
theorem openRows {H : Type} {enc : TypeId × Value → H} {W : World} {base : Nat} {held : Bool} {fuel : Nat} {a : Option Addr} {len cap : Nat} {x : DataW H × List MemPlace} (h : DataW.trod enc Try.prog W base (fun _ => true) held fuel 45 [.slice a len cap] = some x) :
    ∃ l : List (List Int), l.length = len ∧ len ≤ cap ∧ Kd.C (Kd.slice 3 (Kd.int .i64)) W a l.length l ∧ l.length ≤ maxLen ∧ ∀ r ∈ l, r.length ≤ maxLen ∧ ∀ n ∈ r, (Lit.int .i64 n).wf = true := by
  rcases DataW.trod_slice Try.underlying45 h with ⟨hcs, hx⟩ | ⟨ad, len2, cap2, elems, rest, n, hfu, hcs, hx, hq1, hl, hq2, hlen, hel, hq3⟩
  · simp at hcs
    obtain ⟨rfl, rfl, rfl⟩ := hcs
    exact ⟨[], rfl, Nat.le_refl _, ⟨rfl, by simp, fun h => by simp at h⟩, by simp, by simp⟩
  · simp at hcs
    obtain ⟨rfl, rfl, rfl⟩ := hcs
    have hc1 : Try.prog.cellsOf 22 = 1 := by kernel_rfl
    have key : ∀ i : Nat, i < len → ∃ (b : Option Addr) (c : Nat) (r : List Int), W.cell? (ad.add i) = some (.slice b r.length c) ∧ r.length ≤ c ∧ Kd.C (Kd.int .i64) W b r.length r ∧ r.length ≤ maxLen ∧ ∀ n ∈ r, (Lit.int .i64 n).wf = true := by
      intro i hi
      have hE := hel i hi
      rw [hc1, Nat.mul_one] at hE
      rw [List.getElem?_eq_getElem (show i < elems.length by omega)] at hE
      simp only [Option.bind_eq_some_iff] at hE
      obtain ⟨c1, hc1', hy1⟩ := hE
      have e0 : (ad.add i).add 0 = ad.add i := by simp [Addr.add]
      have : ∃ c, c1 = [c] ∧ W.cell? (ad.add i) = some c := by
        unfold World.cells? at hc1'
        split at hc1'
        · simp only [List.range_succ, List.range_zero, List.nil_append, List.mapM_cons, List.mapM_nil, e0] at hc1'
          cases hcc : W.cell? (ad.add i) with
          | none => simp [hcc] at hc1'
          | some c => simp [hcc] at hc1'; exact ⟨c, hc1'.symm, rfl⟩
        · cases hc1'
      obtain ⟨v, rfl, hcell⟩ := this
      obtain ⟨b, c, r, rfl, g1, g2, g3, g4⟩ := openInts hy1
      exact ⟨b, c, r, hcell, g1, g2, g3, g4⟩
    have hch : ∀ i : Nat, ∃ r : List Int, i < len → ∃ (b : Option Addr) (c : Nat), W.cell? (ad.add i) = some (.slice b r.length c) ∧ r.length ≤ c ∧ Kd.C (Kd.int .i64) W b r.length r ∧ r.length ≤ maxLen ∧ ∀ n ∈ r, (Lit.int .i64 n).wf = true := by
      intro i
      by_cases hi : i < len
      · obtain ⟨b, c, r, h⟩ := key i hi; exact ⟨r, fun _ => ⟨b, c, h⟩⟩
      · exact ⟨[], fun h => absurd h hi⟩
    have hlm : len ≤ maxLen := Nat.le_trans hl hq2
    refine ⟨(List.range len).map fun i => Classical.choose (hch i), by simp, hl, ⟨by simp, by simpa using (by unfold maxLen at hlm; omega : len ≤ 9223372036854775807), fun hp => ⟨ad, rfl, fun j p hj => ?_⟩⟩, by simpa using hlm, fun r hr => ?_⟩
    · simp only [List.getElem?_map, Option.map_eq_some_iff] at hj
      obtain ⟨q, hq, rfl⟩ := hj
      have hj2 := List.getElem?_eq_some_iff.1 hq
      obtain ⟨hj3, hj4⟩ := hj2
      rw [List.getElem_range] at hj4
      subst hj4
      rw [List.length_range] at hj3
      obtain ⟨b, c, h1, h2, h3, h4, h5⟩ := Classical.choose_spec (hch j) hj3
      refine ⟨[.slice b (Classical.choose (hch j)).length c], rfl, ⟨b, c, rfl, h2, h3⟩, fun i u hu => ?_⟩
      cases i with
      | zero => simp at hu; subst hu; rw [Nat.add_zero, show j * (Kd.slice 3 (Kd.int .i64)).sz = j from Nat.mul_one j]; exact h1
      | succ i => simp at hu
    · obtain ⟨j, hj, rfl⟩ := List.mem_map.1 hr
      rw [List.mem_range] at hj
      obtain ⟨b, c, h1, h2, h3, h4, h5⟩ := Classical.choose_spec (hch j) hj
      exact ⟨h4, h5⟩
set_option maxRecDepth 100000 in
theorem lifted (os : Os) (started : os.Started) (H : Type) (enc : TypeId × Value → H) :
    ReturnsInHanded {} Try.checked os 11 .any (Rows.fnExactMajorityOfSpec.pre6 enc Try.prog Try.f11 Rows.fnExactMajorityOfRow.domain false) (Rows.fnExactMajorityOfSpec.post enc Try.prog Try.f11 false true false false) := by
  refine returnsInHanded_of_change_sized (C := Try.checked) own started (by kernel_rfl) Try.func11
    (ChangeSpec.witness6 (enc := enc) (C := Try.checked) false ⟨#[], #[.slice none 0 0], []⟩ 8 (by kernel_rfl) (by kernel_rfl) (by kernel_rfl) (by kernel_rfl)) ?_
  intro W base args ds gs before hval0 hW hcnd hsz0 _
  have hval : ∀ (j : Nat) t v, Try.f11.params[j]? = some t → args[j]? = some v → Value.okWide Try.prog W .any base t v := hval0
  have hW' := hW
  obtain ⟨p, q, hA0, hV, rfl, hfz, hnd⟩ := hW
  have hA : DataW.TrodAll enc Try.prog W 0 (fun _ => true) true Try.f11.params.toList args.toList ds p := hA0
  rw [Try.params11] at hA hval
  obtain ⟨v0, vs0, d0, ds0, p0, q0, hargs, rfl, rfl, h0, r0⟩ := trodAll_cons hA
  obtain ⟨rfl, rfl, rfl⟩ := trodAll_nil r0
  obtain rfl : args = #[v0] := by cases args; simp_all
  obtain ⟨rfl, rfl⟩ := trodVars_none hV
  obtain ⟨a0, len0, cap0, rfl⟩ := okWide_slice Try.underlying45 (hval 0 45 v0 rfl rfl)
  have k0 := h0
  have lt0 : ∀ x ∈ p0, x.block < W.heap.size := by obtain ⟨m, hm⟩ := k0; exact DataW.trod_lt m _ _ _ hm
  obtain ⟨fuel, hf⟩ := h0
  obtain ⟨l0, rfl, hc0, hr0, hm0, hw0⟩ := openRows hf
  clear hA0 hval0 hsz0
  obtain ⟨k, h⟩ := Pure.FnExactMajorityOf l0 hm0 hw0
  refine (Q.laws_FnExactMajorityOf.calls k _ _ l0 true W hr0 hc0 h).mono fun e W' ⟨he, bel⟩ => ?_
  subst he
  exact ⟨_, rfl, _, _, _, [], _, [], hW', trodAll_mk1 (shut_bool Try.underlying4 _), (trodAll_cons_mk (Below.trod laidOut (by kernel_rfl) (of_decide_eq_true (by kernel_rfl)) k0 bel lt0) trodAll_mk0), rfl, bel.frame _, fun h => by cases h⟩
theorem over : Rows.fnExactMajorityOfRow.holds Try.pinned (OpenSpec.ofChange Rows.fnExactMajorityOfSpec) :=
  OpenClaim.holds_of_wide 11 Try.f11 rfl rfl rfl rfl rfl rfl rfl ⟨rfl, rfl, rfl, rfl, rfl⟩ rfl rfl rfl rfl rfl (by kernel_rfl) Try.func11 (by kernel_rfl)
    (of_decide_eq_true (by kernel_rfl)) (by unfold Func.isWrapper; first | (rw [if_pos (by decide +kernel)]; kernel_rfl) | (rw [if_neg (by decide +kernel)]; exact ⟨rfl, rfl⟩))
    (fun os started H enc _ => lifted os started H enc)
theorem proved : Rows.FnExactMajorityOfSaid := over
#print axioms proved
end Go.Proofs.Ytjojalbgpemjoaa.fnExactMajorityOf
namespace Go.Proofs.Ytjojalbgpemjoaa
/-- The row, under a short name, for the claim. -/
theorem fnExactMajorityOf_holds : Rows.FnExactMajorityOfSaid := fnExactMajorityOf.proved
end Go.Proofs.Ytjojalbgpemjoaa
