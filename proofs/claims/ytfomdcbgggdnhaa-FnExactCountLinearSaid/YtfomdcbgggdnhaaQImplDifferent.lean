-- printed by this project's own program (wip/mp/mp.py) over the kit's print, for this seat; Lean checks it
import Derived.Test.YtfomdcbgggdnhaaQx0
import Derived.Test.YtfomdcbgggdnhaaQShelf
import Derived.RangeFuncBox
import Derived.RangeFuncLeaves
import Derived.RangeFuncNested
import Derived.RangeFuncBound
import Derived.RangeFuncCalls
import Derived.Shelf.Abstract
import Derived.OwnWalkIn
import Derived.TacticsInMore
import Derived.LoopNIn
import Derived.LoopIn
import Derived.Maps.AppendAt
import Derived.Sort.OwnSortedInts
import Derived.Lib.RowBridge
import Derived.WalkSpells
namespace Go.Proofs.Ytfomdcbgggdnhaa.Q
open Go.RowKit Go.Proofs.YtfomdcbgggdnhaaW.PrintWords Go.Proofs.YtfomdcbgggdnhaaW.PrintLast Go.Proofs.YtfomdcbgggdnhaaW.PrintMore
attribute [local go_sem] max2_int min2_int max_two min_two max_three min_three max_four min_four   -- for this text's walks alone
set_option linter.unusedVariables false
set_option maxHeartbeats 8000000
set_option maxRecDepth 100000
set_option linter.unusedSimpArgs false

/-! ### impl_different: function 12 -/
def impl_different.f (l0 : List Int) : Option (List Int) := if l0.length < 1099511627776 then some (Lib.compact (l0.mergeSort fun x y => decide (x ≤ y))) else none
section
open Go.Shelf Go.Sort
attribute [local go_sem] Oper.semAt_some
theorem impl_different.take_succ_ (zs : List Int) {k : Nat} (h : k < zs.length) : zs.take k ++ [zs[k]?.getD 0] = zs.take (k + 1) := by
 rw [List.take_succ_eq_append_getElem h]; simp [h]
set_option maxRecDepth 100000 in
set_option maxHeartbeats 2000000 in
/-- the library's iterator over a slice of ints, for every loop body that keeps what lay below n₀ -/
theorem impl_different.values1 (F : Fence) (n : Nat) (hf : F.fn 19) (hro : F.round = none) (hn : 1 ≤ n) (l Bs n₀ : Nat) (ad : Addr) (cap : Nat) (zs : List Int) (hreach : zs.length * 8 ≤ 140737488351232) (hb : ad.block < n₀) (J Jx : List Int → World → Prop)
  (hY : ∀ pre x W, J pre W → pre.length < zs.length → YieldAt F (n - 1) Try.prog l #[.int .i64 x] W fun e W' =>
   (e = .returned (.bool true) ∧ J (pre ++ [x]) W' ∧ Below n₀ W W') ∨ (e = .returned (.bool false) ∧ Jx (pre ++ [x]) W'))
  (W : World) (hBs : W.cell? ⟨Bs, 0, none⟩ = some (.slice (some ad) zs.length cap)) (hc : ∀ j, j < zs.length → W.cell? (ad.add j) = some (.int .i64 (zs[j]?.getD 0))) (h0 : J [] W) :
  CallsIn F n Try.prog 19 #[.func (.yield l) #[] #[], .pointer (some ⟨Bs, 0, none⟩)] W fun e W' => (∃ v, e = .returned v) ∧
   ((∃ ys, ys = zs ∧ J ys W') ∨ (∃ pre, pre <+: zs ∧ Jx pre W')) := by
 refine callsIn_of_wp Try.func19 rfl hf ?_ hro
 simp only [Try.ntmps19, List.size_toArray, List.length_cons, List.length_nil, Nat.reduceAdd, Nat.reduceSub, Array.replicate_succ, Array.replicate_zero, List.push_toArray, List.append_toArray, List.nil_append, List.cons_append]
 gi_wp2
 gi_loopw [7] (fun i wr => ∃ k : Nat, k ≤ zs.length ∧ i = .int .i64 k ∧ J (zs.take k) wr ∧ Below n₀ W wr)
  (fun i _ => zs.length - (intOf i).toNat)
 case atStart => exact ⟨0, Nat.zero_le _, rfl, by simpa using h0, Below.refl _ _⟩
 case round =>
  obtain ⟨k, hk, rfl, hJs, hnx⟩ := hrel
  have hcx : k < zs.length → wr.cell? (ad.add k) = some (.int .i64 (zs[k]?.getD 0)) := fun h => (hnx.cell (by rw [add_block]; exact hb)).trans (hc k h)
  by_cases hlt : k < zs.length
  ·have hcx' := hcx hlt
   clear hcx
   obtain ⟨x, hx⟩ : ∃ x, zs[k]?.getD 0 = x := ⟨_, rfl⟩
   rw [hx] at hcx'
   have HX := mkA hx
   clear hx
   obtain ⟨fn, tmps, assign, body, hy, hR⟩ := hY _ x wr hJs (by rw [List.length_take]; omega)
   gi_wp2
   refine hR.mono ?_
   rintro e W3 (⟨rfl, hJ3, hk3⟩ | ⟨rfl, hJx3⟩)
   ·gi_wp2
    go_roundw
    case rel => exact ⟨k + 1, by omega, by simp, by rw [← impl_different.take_succ_ zs hlt, HX.out]; exact hJ3, hnx.trans hk3⟩
    case measure => simp [intOf]; omega
   ·gi_wp2
    refine bodyPost_ret (results_none rfl _ _ _) rfl ?_
    exact ⟨⟨_, rfl⟩, .inr ⟨_, by rw [← HX.out, impl_different.take_succ_ zs hlt]; exact List.take_prefix _ _, hJx3⟩⟩
  ·obtain rfl : k = zs.length := by omega
   gi_wp2
   go_end0
   exact ⟨⟨_, rfl⟩, .inl ⟨_, List.take_length, hJs⟩⟩
set_option maxRecDepth 100000 in
set_option maxHeartbeats 1000000 in
theorem impl_different.values1_nil (F : Fence) (n : Nat) (hf : F.fn 19) (hro : F.round = none) (l Bs cap : Nat) (A : Option Addr) (J : List Int → World → Prop) (W : World) (hBs : W.cell? ⟨Bs, 0, none⟩ = some (.slice A 0 cap)) (h0 : J [] W) :
  CallsIn F n Try.prog 19 #[.func (.yield l) #[] #[], .pointer (some ⟨Bs, 0, none⟩)] W fun e W' => (∃ v, e = .returned v) ∧ J [] W' := by
 refine callsIn_of_wp Try.func19 rfl hf ?_ hro
 simp only [Try.ntmps19, List.size_toArray, List.length_cons, List.length_nil, Nat.reduceAdd, Nat.reduceSub, Array.replicate_succ, Array.replicate_zero, List.push_toArray, List.append_toArray, List.nil_append, List.cons_append]
 gi_wp2
 gi_loopw [7] (fun i wr => i = .int .i64 0 ∧ J [] wr) (fun _ _ => 0)
 case atStart => exact ⟨rfl, h0⟩
 case round =>
  obtain ⟨rfl, hJs⟩ := hrel
  gi_wp2
  go_end0
  exact ⟨⟨_, rfl⟩, hJs⟩
set_option maxHeartbeats 1000000 in
theorem impl_different.values (F : Fence) (n : Nat) (hf : F.fn 16) (hro : F.round = none) (a : Option Addr) (len cap : Nat) (w : World) :
  CallsIn F n Try.prog 16 #[.slice a len cap] w fun e w' => e = .returned (.func (.func 19) #[] #[.pointer (some ⟨w.heap.size, 0, none⟩)]) ∧ w' = w.alloc (.cells #[.slice a len cap] 22) := by
 refine callsIn_of_wp Try.func16 rfl hf ?_ hro
 simp only [Try.ntmps16, List.size_toArray, List.length_cons, List.length_nil, Nat.reduceAdd, Nat.reduceSub, Array.replicate_succ, Array.replicate_zero, List.push_toArray, List.append_toArray, List.nil_append, List.cons_append]
 gi_wp2
 go_ret
 exact ⟨rfl, rfl⟩
theorem impl_different.stops (F : Fence) (n : Nat) (hf : F.fn 19) (hro : F.round = none) (hn : 1 ≤ n) (Bs n₀ : Nat) (A : Option Addr) (cap : Nat) (zs : List Int) (hreach : zs.length * 8 ≤ 140737488351232) (w : World) (hBs : Bs < w.heap.size) (hn₀ : n₀ ≤ w.heap.size)
  (hc : w.cell? ⟨Bs, 0, none⟩ = some (.slice A zs.length cap)) (hA : zs = [] ∨ ∃ ad, A = some ad ∧ ad.block < n₀ ∧ ∀ j, j < zs.length → w.cell? (ad.add j) = some (.int .i64 (zs[j]?.getD 0))) :
  SeqStopsK F n Try.prog 19 #[.pointer (some ⟨Bs, 0, none⟩)] (fun x : Int => #[Value.int .i64 x]) (Below n₀) (fun ys => ys = zs) (fun pre => pre <+: zs) zs.length w := fun l J Jx W hW _ _ hY h0 => by
 have hc' := (hW.cell (p := ⟨Bs, 0, none⟩) hBs).trans hc
 rcases hA with rfl | ⟨ad, rfl, hb, hcs⟩
 ·exact (impl_different.values1_nil F n hf hro l Bs cap A J W hc' h0).mono fun e W' ⟨he, hj⟩ => ⟨he, .inl ⟨_, rfl, hj⟩⟩
 ·exact impl_different.values1 F n hf hro hn l Bs n₀ ad cap zs hreach hb J Jx hY W hc' (fun j hj => (hW.cell (by rw [add_block]; omega)).trans (hcs j hj)) h0
set_option maxRecDepth 100000 in
set_option maxHeartbeats 2000000 in
/-- slices.AppendSeq(nil, slices.Values(s)) -/
theorem impl_different.appendSeq (F : Fence) (n : Nat) (hf : F.fn 20) (hg : F.fn 19) (hro : F.round = none) (hn : 3 ≤ n) (Bs n₀ : Nat) (A : Option Addr) (cap : Nat) (zs : List Int) (hlen : zs.length ≤ maxLen) (hreach : zs.length * 8 ≤ 140737488351232) (w : World) (hBs : Bs < w.heap.size) (hn₀ : n₀ ≤ w.heap.size)
  (hc : w.cell? ⟨Bs, 0, none⟩ = some (.slice A zs.length cap)) (hA : zs = [] ∨ ∃ ad, A = some ad ∧ ad.block < n₀ ∧ ∀ j, j < zs.length → w.cell? (ad.add j) = some (.int .i64 (zs[j]?.getD 0))) :
  CallsIn F n Try.prog 20 #[.slice none 0 0, .func (.func 19) #[] #[.pointer (some ⟨Bs, 0, none⟩)]] w fun e W' => ∃ v, e = .returned v ∧ W'.ownsRow w.heap.size 3 1 v zs.length (zs.map (Value.int .i64)) ∧ (v = .slice none 0 0 ↔ zs = []) ∧ Below w.heap.size w W' := by
 have h1 : 1 ≤ n := by omega
 obtain ⟨i0, hi, hz0, hz1, hz2⟩ := info_parts info3
 refine callsIn_of_wp_marks Try.func20 rfl hf ?_ hro
 simp only [Try.ntmps20, List.size_toArray, List.length_cons, List.length_nil, Nat.reduceAdd, Nat.reduceSub, Array.replicate_succ, Array.replicate_zero, List.push_toArray, List.append_toArray, List.nil_append, List.cons_append]
 gi_wp2
 have bO := Boxed.new w 22 (.slice none 0 0)
 have hB0 : Below w.heap.size w (w.alloc (.cells #[.slice none 0 0] 22)) := (Below.refl _ w).alloc (Nat.le_refl _) _
 have hA' : zs = [] ∨ ∃ ad, A = some ad ∧ ad.block < w.heap.size ∧ ∀ j, j < zs.length → (w.alloc (.cells #[.slice none 0 0] 22)).cell? (ad.add j) = some (.int .i64 (zs[j]?.getD 0)) := by
  rcases hA with h | ⟨ad, h, hb, hcs⟩
  ·exact .inl h
  ·exact .inr ⟨ad, h, by omega, fun j hj => (hB0.cell (by rw [add_block]; omega)).trans (hcs j hj)⟩
 refine wpIn_rangeFunc_ownG hro h1 (gf := 19) (lb := #[.pointer (some ⟨Bs, 0, none⟩)]) rfl hg (enters_of Try.func19 (by kernel_rfl) rfl)
  (impl_different.stops F (n - 1) hg hro (by omega) Bs w.heap.size A cap zs hreach _ (by simp; omega) (by simp) ((hB0.cell (p := ⟨Bs, 0, none⟩) hBs).trans hc) hA') belowK_t (belowK_b (by simp)) (Below.refl _ _) (fun _ => rfl)
  (fun pre W => (∃ v, Boxed W w.heap.size 22 v ∧ W.ownsRow w.heap.size 3 1 v pre.length (pre.map (Value.int .i64)) ∧ (v = .slice none 0 0 ↔ pre = [])) ∧ Below w.heap.size w W)
  (fun _ _ _ => False)
  (OwnFrom.and (Own.from (holdsRow_own w.heap.size w.heap.size 22 3 1 (fun pre => pre.length) (fun pre => pre.map (Value.int .i64)) (fun pre v => v = .slice none 0 0 ↔ pre = [])) _) (ownFrom_below (Nat.le_refl _) (by simp)))
  (fun _ _ _ _ _ hs _ _ => hs)
  ⟨⟨_, bO, World.ownsRow_nil _ _ _ _, by simp⟩, hB0⟩
  (fun x => { tmps := #[.slice none 0 0, .func (.func 19) #[] #[.pointer (some ⟨Bs, 0, none⟩)], .pointer (some ⟨w.heap.size, 0, none⟩), undef, .slice none 0 0, .int .i64 x, .func (.func 19) #[] #[.pointer (some ⟨Bs, 0, none⟩)], .int .i64 x, undef, undef, undef, undef, undef], defers := [] }) ?assign ?body ?done ?stop
 case assign =>
  intro l x W K hK
  gi_wp2
  exact hK
 case body =>
  rintro l pre x W ⟨⟨v, hv, hrow, hnil⟩, hB⟩ hlt
  have hc := hv.cell
  gi_wp2_with (gi_at_builtin; refine wpListIn_append_own _ rfl _ _ 22 rfl w.heap.size 3 i0 (.int .i64 0) 1 8 Try.underlying22 hi hz0 hz1 hz2 rfl (by decide) _ _ _ rfl (hrow.alloc _) ⟨W.heap.size, 0, none⟩ 1 1 [.int .i64 x] rfl rfl (cell_one_new _ _ _) (by simp [Value.oneCell']) (by omega) (by omega) (by have := hB.size; simp; omega) ?_; intro v' w1 hown' hgrow _; obtain ⟨g', cap', rfl⟩ := ownsRow_succ hown'; obtain ⟨hv1, hv2, hr2, hk2, hb2⟩ := hv.appended (by decide) hrow hB.size (Nat.le_refl _) hown' hgrow; have hc1 := hv1.cell; have hf1 := hv1.frozen)
  exact ⟨hk2.from _, hb2, ⟨_, hv2, by simpa using hr2, by simp⟩, hB.trans hb2⟩
 case done =>
  rintro D ys W hD rfl ⟨⟨v, hv, hrow, hnil⟩, hB⟩ hK
  have hc := hv.cell
  gi_wp2
  refine ⟨by simp, .inl ⟨_, _, rfl, run_takeDeferred hK, ?_⟩⟩
  exact ⟨_, results_tmp rfl _ _ _, v, rfl, ownsRow_putObj hrow _ hK rfl, hnil, hB.trans (belowK_b (w := w) (Nat.le_refl _) W D _ _ (by simp at hD; omega) hK rfl rfl)⟩
 case stop =>
  rintro D c pre W _ _ h _
  exact h.elim
set_option maxHeartbeats 2000000 in
theorem impl_different.collect (n : Nat) (hn : 4 ≤ n) (Bs n₀ : Nat) (A : Option Addr) (cap : Nat) (zs : List Int) (hlen : zs.length ≤ maxLen) (hreach : zs.length * 8 ≤ 140737488351232) (w : World) (hBs : Bs < w.heap.size) (hn₀ : n₀ ≤ w.heap.size)
  (hc : w.cell? ⟨Bs, 0, none⟩ = some (.slice A zs.length cap)) (hA : zs = [] ∨ ∃ ad, A = some ad ∧ ad.block < n₀ ∧ ∀ j, j < zs.length → w.cell? (ad.add j) = some (.int .i64 (zs[j]?.getD 0))) :
  CallsIn Fence.wide n Try.prog 17 #[.func (.func 19) #[] #[.pointer (some ⟨Bs, 0, none⟩)]] w fun e W' => ∃ v, e = .returned v ∧ W'.ownsRow w.heap.size 3 1 v zs.length (zs.map (Value.int .i64)) ∧ (v = .slice none 0 0 ↔ zs = []) ∧ Below w.heap.size w W' := by
 have h1 : 1 ≤ n := by omega
 refine callsIn_of_wp Try.func17 rfl trivial ?_ rfl
 simp only [Try.ntmps17, List.size_toArray, List.length_cons, List.length_nil, Nat.reduceAdd, Nat.reduceSub, Array.replicate_succ, Array.replicate_zero, List.push_toArray, List.append_toArray, List.nil_append, List.cons_append]
 have hfA : Fence.wide.fn 20 := trivial
 gi_wp2_with (gi_at_call 20; refine (impl_different.appendSeq Fence.wide (n - 1) trivial trivial rfl (by omega) Bs n₀ A cap zs hlen hreach w hBs hn₀ hc hA).mono ?_; rintro e W ⟨v, rfl, hrow, hnil, hb⟩)
 go_ret
 exact ⟨v, rfl, hrow, hnil, hb⟩
set_option maxHeartbeats 2000000 in
theorem impl_different.sorted (n : Nat) (hn : 5 ≤ n) (Bs n₀ : Nat) (A : Option Addr) (cap : Nat) (zs : List Int) (hlen : zs.length ≤ maxLen) (hreach : zs.length * 8 ≤ 140737488351232) (w : World) (hBs : Bs < w.heap.size) (hn₀ : n₀ ≤ w.heap.size)
  (hc : w.cell? ⟨Bs, 0, none⟩ = some (.slice A zs.length cap)) (hA : zs = [] ∨ ∃ ad, A = some ad ∧ ad.block < n₀ ∧ ∀ j, j < zs.length → w.cell? (ad.add j) = some (.int .i64 (zs[j]?.getD 0))) :
  CallsIn Fence.wide n Try.prog 15 #[.func (.func 19) #[] #[.pointer (some ⟨Bs, 0, none⟩)]] w fun e W' => ∃ v, e = .returned v ∧ W'.ownsRow w.heap.size 3 1 v zs.length ((zs.mergeSort fun x y => decide (x ≤ y)).map (Value.int .i64)) ∧ Below w.heap.size w W' := by
 have h1 : 1 ≤ n := by omega
 refine callsIn_of_wp Try.func15 rfl trivial ?_ rfl
 simp only [Try.ntmps15, List.size_toArray, List.length_cons, List.length_nil, Nat.reduceAdd, Nat.reduceSub, Array.replicate_succ, Array.replicate_zero, List.push_toArray, List.append_toArray, List.nil_append, List.cons_append]
 have hfC : Fence.wide.fn 17 := trivial
 have hfS : Fence.wide.fn 18 := trivial
 gi_wp2_with (gi_at_call 17; refine (impl_different.collect (n - 1) (by omega) Bs n₀ A cap zs hlen hreach w hBs hn₀ hc hA).mono ?_; rintro e W ⟨v, rfl, hrow, hnil, hb⟩)
 rcases hrow.2 with ⟨rfl, hz⟩ | ⟨gb, cap2, cur, rfl, hbase, hgb, r1, r2, r3, r4⟩
 ·have hss : zs = [] := List.eq_nil_of_length_eq_zero hz
  subst hss
  gi_wp2_with (gi_at_call 18; refine (callsIn_wide.2 (Try.slices_Sort_int_none none 0 W)).mono ?_; rintro e w' ⟨rfl, rfl⟩)
  go_ret
  exact ⟨.slice none 0 0, rfl, by simpa using hrow, hb⟩
 ·have hH : Holds (Value.int .i64) W gb 0 zs.toArray := by
   intro i hi
   have hi' : i < zs.length := by simpa using hi
   have h4 := congrArg (fun t => t[i]?) r4
   simp only [Nat.mul_one] at h4
   rw [List.getElem?_take_of_lt hi', List.getElem?_map, List.getElem?_eq_getElem hi', Array.getElem?_toList] at h4
   refine ⟨?_, blk_frozen hgb (0 + i)⟩
   rw [blk_cell hgb (0 + i), Nat.zero_add, h4]
   simp [hi']
  have hgl : gb < W.heap.size := (Array.getElem?_eq_some_iff.1 hgb).1
  have hsz : zs.length < 4611686018427387904 := by omega
  have cS := callsIn_wide (n := n - 1) |>.2 (Try.slices_Sort_int gb 0 cap2 zs W hH hgl hsz)
  gi_wp2_with (gi_at_call 18; refine cS.mono ?_; rintro e w' ⟨rfl, nn, os, rfl⟩)
  go_ret
  exact ⟨_, rfl, ownsRow_sortedI (by simp) hbase hgb r1 r2 r3, hb.grown (grownBy_sortedI _) hb.size (fun j hj => by cases hj; exact hbase)⟩
end
set_option maxHeartbeats 2000000 in
open Go.Shelf Go.Sort in
theorem impl_different.calls (A0 : Option Addr) (c0 : Nat) (l0 : List Int) (r : List Int) (w : World) (hr0 : Kd.C (Kd.int .i64) w A0 l0.length l0) (hc0 : l0.length ≤ c0) (h : impl_different.f l0 = some r) :
  Calls Try.prog 12 #[.slice A0 l0.length c0] w fun e w' => ∃ v0_ : Value, e = .returned (v0_) ∧ Kd.R (Kd.int .i64) 3 w' w.heap.size (fun _ => True) v0_ r ∧ Below w.heap.size w w' := by
 unfold impl_different.f at h
 have hlim : l0.length < 1099511627776 := by
  split at h
  ·assumption
  ·cases h
 rw [if_pos hlim] at h
 obtain rfl := Option.some.inj h
 clear h
 have hml : l0.length ≤ maxLen := by unfold maxLen; omega
 have hre : l0.length * 8 ≤ 140737488351232 := by omega
 have hA : l0 = [] ∨ ∃ ad, A0 = some ad ∧ ad.block < w.heap.size ∧ ∀ j, j < l0.length → w.cell? (ad.add j) = some (.int .i64 (l0[j]?.getD 0)) := by
  by_cases h0 : l0 = []
  ·exact .inl h0
  ·have hp : 0 < l0.length := by cases l0 with | nil => exact absurd rfl h0 | cons a t => simp
   obtain ⟨ad, rfl, hcell⟩ := hr0.2.2 hp
   have hcl : ∀ j, j < l0.length → w.cell? (ad.add j) = some (.int .i64 (l0[j]?.getD 0)) := by
    intro j hj
    obtain ⟨c, hcs, hk, hcc⟩ := hcell j _ (List.getElem?_eq_getElem hj)
    obtain rfl : c = [.int .i64 l0[j]] := hk
    have := hcc 0 _ rfl
    rw [show (Kd.int .i64).sz = 1 from rfl, Nat.mul_one, Nat.add_zero] at this
    rw [this, List.getElem?_eq_getElem hj]; rfl
   refine .inr ⟨ad, rfl, ?_, hcl⟩
   have := World.block_lt_of_cell? w _ (hcl 0 hp)
   rwa [add_block] at this
 refine (callsIn_wide (n := 8)).1 ?_
 have h1 : 1 ≤ 8 := by omega
 have hfV : Fence.wide.fn 16 := trivial
 have hfS : Fence.wide.fn 15 := trivial
 have hfK : Fence.wide.fn 14 := trivial
 have bV := Boxed.new w 22 (.slice A0 l0.length c0)
 have hB0 : Below w.heap.size w (w.alloc (.cells #[.slice A0 l0.length c0] 22)) := (Below.refl _ w).alloc (Nat.le_refl _) _
 have hA' : l0 = [] ∨ ∃ ad, A0 = some ad ∧ ad.block < w.heap.size ∧ ∀ j, j < l0.length → (w.alloc (.cells #[.slice A0 l0.length c0] 22)).cell? (ad.add j) = some (.int .i64 (l0[j]?.getD 0)) := by
  rcases hA with h | ⟨ad, h, hb, hcs⟩
  ·exact .inl h
  ·exact .inr ⟨ad, h, hb, fun j hj => (hB0.cell (by rw [add_block]; exact hb)).trans (hcs j hj)⟩
 have cV := impl_different.values Fence.wide 7 trivial rfl A0 l0.length c0 w
 have cS := impl_different.sorted 7 (by omega) w.heap.size w.heap.size A0 c0 l0 hml hre (w.alloc (.cells #[.slice A0 l0.length c0] 22)) (by simp) (by simp) bV.cell hA'
 clear hA hA' bV hr0 hc0
 refine callsIn_of_wp Try.func12 rfl trivial ?_ rfl
 simp only [Try.ntmps12, List.size_toArray, List.length_cons, List.length_nil, Nat.reduceAdd, Nat.reduceSub, Array.replicate_succ, Array.replicate_zero, List.push_toArray, List.append_toArray, List.nil_append, List.cons_append]
 gi_wp2_with (first
  | (gi_at_call 16; refine cV.mono ?_; rintro e w' ⟨rfl, rfl⟩)
  | (gi_at_call 15; refine cS.mono ?_; rintro e W ⟨v, rfl, hrow, hb⟩))
 have hB := hB0.trans (hb.mono (by simp))
 have hrow' := own_weaken hrow (show w.heap.size ≤ _ by simp)
 have hms : (l0.mergeSort fun x y => decide (x ≤ y)).length = l0.length := List.length_mergeSort _
 rcases hrow'.2 with ⟨rfl, hz⟩ | ⟨gb, cap2, cur, rfl, hbase, hgb, r1, r2, r3, r4⟩
 ·have hss : l0 = [] := List.eq_nil_of_length_eq_zero hz
  subst hss
  gi_wp2_with (gi_at_call 14; refine (callsIn_wide.2 (Try.slices_Compact_int_empty none 0 W)).mono ?_; rintro e w' ⟨rfl, rfl⟩)
  go_ret
  exact ⟨_, rfl, by simpa [Lib.compact, Lib.compactUpTo] using Kd.R_nil _ _ _ _ _, hB⟩
 ·generalize hzs : (l0.mergeSort fun x y => decide (x ≤ y)) = zs at hms hrow' r4
  have hH : Holds (Value.int .i64) W gb 0 zs.toArray := by
   intro i hi
   have hi' : i < zs.length := by simpa using hi
   have h4 := congrArg (fun t => t[i]?) r4
   simp only [Nat.mul_one] at h4
   rw [List.getElem?_take_of_lt (by omega), List.getElem?_map, List.getElem?_eq_getElem hi', Array.getElem?_toList] at h4
   refine ⟨?_, blk_frozen hgb (0 + i)⟩
   rw [blk_cell hgb (0 + i), Nat.zero_add, h4]
   simp [hi']
  have hle := Lib.compact_length_le zs
  have cC := callsIn_wide (n := 7) |>.2 (Try.slices_Compact_int gb 0 cap2 zs W hH (by omega) (by omega))
  rw [hms] at cC
  gi_wp2_with (gi_at_call 14; refine cC.mono ?_; rintro e w' ⟨rfl, q, rfl⟩)
  go_ret
  rw [hzs]
  have hh := heap_sortedI (n := q) (os := #[]) (Lib.compact zs ++ List.replicate (l0.length - (Lib.compact zs).length) 0).toArray hgb
  have hg := grownBy_sortedI (w := W) (g := gb) (n := q) (os := #[]) (Lib.compact zs ++ List.replicate (l0.length - (Lib.compact zs).length) 0).toArray
  have e0 : ∀ w : World, grow w #[] = w := fun w => by simp [grow]
  rw [e0] at hh hg
  refine ⟨_, rfl, Kd.R_of_own ⟨by simp [encs], .inr ⟨gb, cap2, _, rfl, hbase, hh, by omega, r2, by simp [putCells, r3], ?_⟩⟩ (fun _ _ => trivial), hB.grown hg hB.size (fun j hj => by cases hj; exact hbase)⟩
  have ht := take_putCellsI cur (Lib.compact zs ++ List.replicate (l0.length - (Lib.compact zs).length) 0) (by simp; omega)
  have h2 := congrArg (List.take (Lib.compact zs).length) ht
  rw [List.take_take, Nat.min_eq_left (by simp)] at h2
  rw [Nat.mul_one, h2]
  simp [encs]


end Go.Proofs.Ytfomdcbgggdnhaa.Q
