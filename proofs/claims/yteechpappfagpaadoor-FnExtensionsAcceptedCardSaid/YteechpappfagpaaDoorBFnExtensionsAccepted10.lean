import Derived.Test.YteechpappfagpaaDoorBFnExtensionsAccepted0
import Derived.Test.YteechpappfagpaaDoorBFnExtensionsAccepted9
-- printed by this project's own program (wip/mp/mp.py) over the kit's print, for this seat; Lean checks it
namespace Go.Proofs.YteechpappfagpaaDoor.Q
open Go.RowKit Go.Proofs.YteechpappfagpaaDoorW.PrintWords Go.Proofs.YteechpappfagpaaDoorW.PrintLast Go.Proofs.YteechpappfagpaaDoorW.PrintMore
attribute [local go_sem] max2_int min2_int max_two min_two max_three min_three max_four min_four   -- for this text's walks alone
set_option linter.unusedVariables false
set_option maxHeartbeats 8000000
set_option maxRecDepth 100000
set_option linter.unusedSimpArgs false

/-! ### spec_l1Cur_relation: function 117 -/
mutual
def spec_l1Cur_relation.l0 : Nat → List Int → Int → Int → Int → List Int → Option (Int × List Int × Int × Int)
 | 0, _, _, _, _, _ => none
 | k + 1, x1000, x1001, x1002, x728000, x728001 => if (x728001.length : Int) < x728000 then (spec_l1Cur_relation.l1 k 0 0 x1000 x1001 x1002 x728000 x728001) else (some (x728000, x728001, x1001, x1002))
def spec_l1Cur_relation.l1 : Nat → Int → Int → List Int → Int → Int → Int → List Int → Option (Int × List Int × Int × Int)
 | 0, _, _, _, _, _, _, _ => none
 | k + 1, x6, x7, x1000, x1001, x1002, x728000, x728001 => if x7 < x728000 then ((spec_l1Cur_one.f x1000 x1001 x1002 4).bind fun bt728 => (if bt728.1 = true then (if 0 ≤ x7 then (spec_l1Cur_relation.l1 k (Go.bits .or .i64 x6 (shl .i64 1 x7)) (wrap64 (x7 + 1)) x1000 bt728.2.1 bt728.2.2 x728000 x728001) else (none)) else (spec_l1Cur_relation.l1 k x6 (wrap64 (x7 + 1)) x1000 bt728.2.1 bt728.2.2 x728000 x728001))) else (if x728001.length < 17592186044416 then (spec_l1Cur_relation.l0 k x1000 x1001 x1002 x728000 (x728001 ++ [x6])) else (none))
end
def spec_l1Cur_relation.f (k : Nat) (s0_0 : List Int) (s0_1 : Int) (s0_2 : Int) (a1 : Int) : Option (Int × List Int × Int × Int) := (spec_l1Cur_pick.f s0_0 s0_1 s0_2 (wrap64 (a1 + 1))).bind fun bt724 => (spec_l1Cur_relation.l0 k s0_0 bt724.2.1 bt724.2.2 bt724.1 ([] : List Int))
theorem spec_l1Cur_relation.mono_l : ∀ k, (∀ y0 y1 y2 y3 y4, LeO (spec_l1Cur_relation.l0 k y0 y1 y2 y3 y4) (spec_l1Cur_relation.l0 (k + 1) y0 y1 y2 y3 y4)) ∧ (∀ y0 y1 y2 y3 y4 y5 y6, LeO (spec_l1Cur_relation.l1 k y0 y1 y2 y3 y4 y5 y6) (spec_l1Cur_relation.l1 (k + 1) y0 y1 y2 y3 y4 y5 y6))
 | 0 => ⟨fun _ _ _ _ _ r h => by simp [spec_l1Cur_relation.l0] at h, fun _ _ _ _ _ _ _ r h => by simp [spec_l1Cur_relation.l1] at h⟩
 | k + 1 => by
  obtain ⟨ih0, ih1⟩ := spec_l1Cur_relation.mono_l k
  refine ⟨?_, ?_⟩
  ·intro y0 y1 y2 y3 y4
   unfold spec_l1Cur_relation.l0
   repeat' (with_reducible first|exact ih0 _ _ _ _ _|exact ih1 _ _ _ _ _ _ _|exact LeO.refl _|exact LeO.none _|refine LeO.ite ?_ ?_|refine LeO.bind ?_ (fun _ => ?_))
  ·intro y0 y1 y2 y3 y4 y5 y6
   unfold spec_l1Cur_relation.l1
   repeat' (with_reducible first|exact ih0 _ _ _ _ _|exact ih1 _ _ _ _ _ _ _|exact LeO.refl _|exact LeO.none _|refine LeO.ite ?_ ?_|refine LeO.bind ?_ (fun _ => ?_))
theorem spec_l1Cur_relation.mono : ∀ a0 a1 a2 a3 k, LeO (spec_l1Cur_relation.f k a0 a1 a2 a3) (spec_l1Cur_relation.f (k + 1) a0 a1 a2 a3) := by
 intro a0 a1 a2 a3 k
 obtain ⟨ih0, ih1⟩ := spec_l1Cur_relation.mono_l k
 unfold spec_l1Cur_relation.f
 repeat' (with_reducible first|exact ih0 _ _ _ _ _|exact ih1 _ _ _ _ _ _ _|exact LeO.refl _|exact LeO.none _|refine LeO.ite ?_ ?_|refine LeO.bind ?_ (fun _ => ?_))
theorem spec_l1Cur_relation.calls (k : Nat) (g : Nat) (s0_0 : List Int) (s0_1 : Int) (s0_2 : Int) (a1 : Int) (r1 : Int) (r2 : List Int) (r3 : Int) (r4 : Int) (w0 w : World) (hI : IsS74 w0 w g s0_0 s0_1 s0_2) (hB : Below w0.heap.size w0 w) (h : spec_l1Cur_relation.f k s0_0 s0_1 s0_2 a1 = some (r1, r2, r3, r4)) :
  Calls Tryd.prog 117 #[.pointer (some ⟨g, 0, none⟩), .int .i64 a1] w fun e w' => ∃ v1_ : Value, e = .returned (.agg #[.int .i64 r1, v1_]) ∧ Kd.R (Kd.int .i64) 3 w' w.heap.size (fun _ => True) v1_ r2 ∧ IsS74 w0 w' g s0_0 r3 r4 ∧ Below w0.heap.size w0 w' ∧ KeepBut w w' g none := by
 have hu28 := Tryd.underlying28
 have HI0 := Aside0.mk hI
 have HK := Aside0.mk (KeepBut.refl w g none)
 have HL := Aside0.mk hB.size
 clear hI
 have HW0 := Aside0.mk hB.size
 have HB := Aside0.mk hB
 clear hB
 have H : ((spec_l1Cur_pick.f s0_0 s0_1 s0_2 (wrap64 (a1 + 1))).bind fun bt724 => (spec_l1Cur_relation.l0 k s0_0 bt724.2.1 bt724.2.2 bt724.1 ([] : List Int))) = some (r1, r2, r3, r4) := h
 clear h
 obtain ⟨⟨t724, t725, t726⟩, A3, H⟩ := obE H
 dsimp only at H
 have H' := Aside0.mk H
 clear H
 go_enter Tryd.func117, Tryd.ntmps117
 go_wp2_with (first | ((with_reducible refine gate_dst (N := 4) rfl ?_); refine boxE (N := 4) (cs := #[.int .i64 0, .slice none 0 0]) (t := 28) ?_; intro gb723 hg w4 hbox hb; have BK723 := Aside0.mk (hbox); have GW723 := Aside0.mk ((by rw [hg]; exact (keep_size (w := w) (g := g) (row := none) (by exact kb74_0 HK.out)) : w.heap.size ≤ gb723)); have GE723 := Aside0.mk ((Nat.le_trans HW0.out (by rw [hg]; exact (keep_size (w := w) (g := g) (row := none) (by exact kb74_0 HK.out)) : w.heap.size ≤ gb723) : w0.heap.size ≤ gb723)); replace HK := Aside0.mk (KeepBut.trans (by exact kb74_0 HK.out) (KeepBut.of_below hb g none) (.inl rfl)); have NB0_723 := Aside0.mk ((by rw [hg]; exact Nat.ne_of_lt (IsS74.lt (show IsS74 w0 _ g s0_0 s0_1 s0_2 from by exact st74_0 HI0.out)) : g ≠ gb723)); have NB723_0 := Aside0.mk ((by rw [hg]; exact Nat.ne_of_gt (IsS74.lt (show IsS74 w0 _ g s0_0 s0_1 s0_2 from by exact st74_0 HI0.out)) : gb723 ≠ g)); replace HB := Aside0.mk (below_step (by exact bl74_0 HB.out HI0.out) hb); replace HI0 := Aside0.mk (IsS74.below (by exact st74_0 HI0.out) hb); clear hb hbox hg) | ((with_reducible refine gate_callee (f := 96) rfl ?_); refine goesQ (some 11) Tryd.func96 #[.pointer (some ⟨g, 0, none⟩), .int .i64 (wrap64 (a1 + 1))] ?_; (with_reducible refine (spec_l1Cur_pick.calls g s0_0 s0_1 s0_2 (wrap64 (a1 + 1)) t724 t725 t726 w0 _ ?side1 ?side2 A3.out).mono ?_); (case side1 => exact st74_1 HI0.out NB0_723.out); (case side2 => exact bl74_1 HB.out HI0.out GE723.out); rintro e w5 ⟨rfl, hi, hb, hk⟩; refine ⟨_, rfl, ?_⟩; replace BK723 := Aside0.mk (KeepBut.blk hk (g' := gb723) (o := .cells #[.int .i64 0, .slice none 0 0] 28 (0, 0)) (blk_g BK723.out) NB723_0.out (by simp)); replace HK := Aside0.mk (KeepBut.trans (by exact kb74_1 HK.out GW723.out) hk (.inl rfl)); replace HI0 := Aside0.mk (hi); replace HB := Aside0.mk (hb); (try clear hb); (try clear hk); (try clear hi)) | ((with_reducible refine gate_dst (N := 5) rfl ?_); refine boxE (N := 5) (cs := #[.int .i64 0, .slice none 0 0]) (t := 28) ?_; intro gb727 hg w6 hbox hb; have BK727 := Aside0.mk (hbox); have GW727 := Aside0.mk ((by rw [hg]; exact (keep_size (w := w) (g := g) (row := none) (by exact kb74_1 HK.out GW723.out)) : w.heap.size ≤ gb727)); have GE727 := Aside0.mk ((Nat.le_trans HW0.out (by rw [hg]; exact (keep_size (w := w) (g := g) (row := none) (by exact kb74_1 HK.out GW723.out)) : w.heap.size ≤ gb727) : w0.heap.size ≤ gb727)); replace HK := Aside0.mk (KeepBut.trans (by exact kb74_1 HK.out GW723.out) (KeepBut.of_below hb g none) (.inl rfl)); have NB723_727 := neL BK723 hg; have NB727_723 := neR BK723 hg; replace BK723 := blkB BK723 hb; have NB0_727 := Aside0.mk ((by rw [hg]; exact Nat.ne_of_lt (IsS74.lt (show IsS74 w0 _ g s0_0 t725 t726 from by exact st74_1 HI0.out NB0_723.out)) : g ≠ gb727)); have NB727_0 := Aside0.mk ((by rw [hg]; exact Nat.ne_of_gt (IsS74.lt (show IsS74 w0 _ g s0_0 t725 t726 from by exact st74_1 HI0.out NB0_723.out)) : gb727 ≠ g)); replace HB := Aside0.mk (below_step (by exact bl74_1 HB.out HI0.out GE723.out) hb); replace HI0 := Aside0.mk (IsS74.below (by exact st74_1 HI0.out NB0_723.out) hb); clear hb hbox hg; have hnb7 := NB727_723.out; have hnc7 := NB723_727.out; have hnb8 := NB727_0.out; have hnc8 := NB0_727.out; obtain ⟨hcz9_0, hcz9_1, hfz9_0, hfz9_1⟩ := blk2 BK727))
 go_loopg [] k (fun kq w' => ∃ (x1001_1 : Int) (x1002_1 : Int) (x728001_1 : List Int) (u728001 : Value), Aside0 (spec_l1Cur_relation.l0 kq s0_0 x1001_1 x1002_1 t724 x728001_1 = some (r1, r2, r3, r4)) ∧ Aside0 (kq ≤ k) ∧ Aside0 (Kd.R (Kd.int .i64) 3 w' w.heap.size (fun _ => True) u728001 x728001_1) ∧ Aside0 (w'.heap[gb723]? = some (.cells #[.int .i64 0, (.slice none 0 0)] 28 (0, 0))) ∧ Aside0 (w'.heap[gb727]? = some (.cells #[.int .i64 t724, u728001] 28 (0, 0))) ∧ Aside0 (IsS74 w0 w' g s0_0 x1001_1 x1002_1) ∧ Aside0 (KeepBut w w' g none) ∧ Aside0 (Below w0.heap.size w0 w'))
 case atStart => exact ⟨(t725), (t726), (([] : List Int)), (.slice none 0 0), H', ⟨Nat.le_refl _⟩, ⟨by first | exact Kd.R_nil _ _ _ _ _ | exact Kd.N_nil _ _ _ _ _ | exact Kd.V_nil _ _ _ _ _ | exact Kd.Q_nil _ _ _ _ _ | exact Kd.S_nil _ _ _ _ _⟩, ⟨by (with_reducible repeat (first | refine blk_drewN ?_ _ | refine blk_drew ?_ | refine blk_alloc ?_ _)); refine blk_far ?_ NB723_727.out _; (with_reducible repeat (first | refine blk_drewN ?_ _ | refine blk_drew ?_ | refine blk_alloc ?_ _)); refine blk_far ?_ NB723_727.out _; (with_reducible repeat (first | refine blk_drewN ?_ _ | refine blk_drew ?_ | refine blk_alloc ?_ _)); exact BK723.out⟩, ⟨by (with_reducible repeat (first | refine blk_drewN ?_ _ | refine blk_drew ?_ | refine blk_alloc ?_ _)); refine blk_put (cs := #[.int .i64 t724, .slice none 0 0]) ?_ 1 _ rfl; (with_reducible repeat (first | refine blk_drewN ?_ _ | refine blk_drew ?_ | refine blk_alloc ?_ _)); refine blk_put (cs := #[.int .i64 0, .slice none 0 0]) ?_ 0 _ rfl; (with_reducible repeat (first | refine blk_drewN ?_ _ | refine blk_drew ?_ | refine blk_alloc ?_ _)); exact BK727.out⟩, ⟨by exact st74_2 HI0.out NB0_723.out NB0_727.out⟩, ⟨by exact kb74_2 HK.out GW723.out GW727.out⟩, ⟨by exact bl74_2 HB.out HI0.out GE723.out GE727.out⟩⟩
 case round =>
  clear H'
  try clear hcz9_0
  try clear hcz9_1
  try clear hfz9_0
  try clear hfz9_1
  obtain ⟨x1001_1, x1002_1, x728001_1, u728001, HA, HK1, HO_728001, BK723, BK727, HI0, HK, HB⟩ := hrel
  cases gk with
  | zero => exact absurd HA.out (by simp [spec_l1Cur_relation.l0])
  | succ k1 =>
   have H := HA.out
   clear HA
   simp only [spec_l1Cur_relation.l0] at H
   rcases iteE H with ⟨c10b0, H⟩ | ⟨c10b0, H⟩
   ·have H' := Aside0.mk H
    clear H
    have hnb11 := NB727_723.out
    have hnc11 := NB723_727.out
    have hnb12 := NB727_0.out
    have hnc12 := NB0_727.out
    obtain ⟨hcz13_0, hcz13_1, hfz13_0, hfz13_1⟩ := blk2 BK727
    obtain ⟨Ao14, co14, eo14⟩ := Kd.R_slice HO_728001.out
    subst eo14
    go_wp2
    go_loopg [6, 7] k1 (fun kq v6 v7 w' => ∃ (x6_2 : Int) (x7_2 : Int) (x1001_2 : Int) (x1002_2 : Int), v6 = .int .i64 x6_2 ∧ v7 = .int .i64 x7_2 ∧ Aside0 (spec_l1Cur_relation.l1 kq x6_2 x7_2 s0_0 x1001_2 x1002_2 t724 x728001_1 = some (r1, r2, r3, r4)) ∧ Aside0 (kq ≤ k1) ∧ Aside0 (Kd.R (Kd.int .i64) 3 w' w.heap.size (fun _ => True) (.slice Ao14 x728001_1.length co14) x728001_1) ∧ Aside0 (w'.heap[gb723]? = some (.cells #[.int .i64 0, (.slice none 0 0)] 28 (0, 0))) ∧ Aside0 (w'.heap[gb727]? = some (.cells #[.int .i64 t724, (.slice Ao14 x728001_1.length co14)] 28 (0, 0))) ∧ Aside0 (IsS74 w0 w' g s0_0 x1001_2 x1002_2) ∧ Aside0 (KeepBut w w' g none) ∧ Aside0 (Below w0.heap.size w0 w'))
    case atStart => exact ⟨(0), (0), (x1001_1), (x1002_1), eqS, eqS, H', ⟨Nat.le_refl _⟩, ⟨Kd.R_g HO_728001.out⟩, ⟨blk_g BK723.out⟩, ⟨blk_g BK727.out⟩, ⟨by exact st74_2 HI0.out NB0_723.out NB0_727.out⟩, ⟨by exact kb74_2 HK.out GW723.out GW727.out⟩, ⟨by exact bl74_2 HB.out HI0.out GE723.out GE727.out⟩⟩
    case round =>
     clear H'
     try clear c10b0
     try clear hcz13_0
     try clear hcz13_1
     try clear hcz9_0
     try clear hcz9_1
     try clear hfz13_0
     try clear hfz13_1
     try clear hfz9_0
     try clear hfz9_1
     obtain ⟨x6_2, x7_2, x1001_2, x1002_2, rfl, rfl, HA, HK2, HO_728001, BK723, BK727, HI0, HK, HB⟩ := hrel
     cases gk with
     | zero => exact absurd HA.out (by simp [spec_l1Cur_relation.l1])
     | succ k2 =>
      have H := HA.out
      clear HA
      simp only [spec_l1Cur_relation.l1] at H
      rcases iteE H with ⟨c15b0, H⟩ | ⟨c15b0, H⟩
      ·obtain ⟨⟨t728, t729, t730⟩, A16, H⟩ := obE H
       dsimp only at H
       by_cases c17 : t728 = true
       ·subst c17
        replace H := ifT H
        rcases iteP H with ⟨c18, H⟩ | ⟨c18, H⟩
        ·have c18b0 := eq_true c18
         have c18b1 : decide (0 ≤ x7_2) = true := decide_eq_true c18
         clear c18
         obtain ⟨ji19, hji19⟩ : ∃ j_ : Int, (shl .i64 1 x7_2) = j_ := ⟨_, rfl⟩
         replace H : (spec_l1Cur_relation.l1 k2 (Go.bits .or .i64 x6_2 (ji19)) (wrap64 (x7_2 + 1)) s0_0 t729 t730 t724 x728001_1) = some (r1, r2, r3, r4) := by first | (rw [hji19] at H; exact H) | (simp only [hji19] at H ⊢; exact H)
         (try rw [hji19] at A16)
         have hji19_ : (IntKind.i64.wrap (1 * 2 ^ min x7_2.toNat 64)) = ji19 := hji19
         have hji19z : x7_2 ≤ 64 → (IntKind.i64.wrap (1 * 2 ^ x7_2.toNat)) = ji19 := shl_small hji19
         have hji19u : (IntKind.i64.wrap (2 ^ min x7_2.toNat 64)) = ji19 := by have h_ := hji19_; rw [Int.one_mul] at h_; exact h_
         have hji19v : x7_2 ≤ 64 → (IntKind.i64.wrap (2 ^ x7_2.toNat)) = ji19 := fun hle_ => by have h_ := hji19z hle_; rw [Int.one_mul] at h_; exact h_
         have hji19y : (wrap64 (1 * 2 ^ min x7_2.toNat 64)) = ji19 := (i64_w _).symm.trans hji19_
         have hji19x : x7_2 ≤ 64 → (wrap64 (1 * 2 ^ x7_2.toNat)) = ji19 := fun h_ => (i64_w _).symm.trans (hji19z h_)
         have H' := Aside0.mk H
         clear H
         have hnb20 := NB727_723.out
         have hnc20 := NB723_727.out
         have hnb21 := NB727_0.out
         have hnc21 := NB0_727.out
         obtain ⟨hcz22_0, hcz22_1, hfz22_0, hfz22_1⟩ := blk2 BK727
         go_wp2_with (first | ((with_reducible refine gate_callee (f := 116) rfl ?_); refine goesQ (some 26) Tryd.func116 #[.pointer (some ⟨g, 0, none⟩), .int .i64 4] ?_; (with_reducible refine (spec_l1Cur_one.calls g s0_0 x1001_2 x1002_2 4 true t729 t730 w0 _ ?side1 ?side2 A16.out).mono ?_); (case side1 => exact st74_2 HI0.out NB0_723.out NB0_727.out); (case side2 => exact bl74_2 HB.out HI0.out GE723.out GE727.out); rintro e w23 ⟨rfl, hi, hb, hk⟩; refine ⟨_, rfl, ?_⟩; replace HO_728001 := Aside0.mk (Kd.R_mono (Kd.R_keep (IsS74.apart (show IsS74 w0 _ g s0_0 x1001_2 x1002_2 from by exact st74_2 HI0.out NB0_723.out NB0_727.out) (Kd.R_g HO_728001.out) (by decide)) hk (fun _ h => h.2)) (fun _ h => h.1)); replace BK723 := Aside0.mk (KeepBut.blk hk (g' := gb723) (o := .cells #[.int .i64 0, .slice none 0 0] 28 (0, 0)) (blk_g BK723.out) NB723_0.out (by simp)); replace BK727 := Aside0.mk (KeepBut.blk hk (g' := gb727) (o := .cells #[.int .i64 t724, .slice Ao14 x728001_1.length co14] 28 (0, 0)) (blk_g BK727.out) NB727_0.out (by simp)); replace HK := Aside0.mk (KeepBut.trans (by exact kb74_2 HK.out GW723.out GW727.out) hk (.inl rfl)); replace HI0 := Aside0.mk (hi); replace HB := Aside0.mk (hb); (try clear hb); (try clear hk); (try clear hi)))
         go_roundg k2
         case measure => have := HK1.out; have := HK2.out; omega
         case rel => exact ⟨(Go.bits .or .i64 x6_2 (ji19)), (wrap64 (x7_2 + 1)), (t729), (t730), (by first | rfl | (simp; done) | (simp only [← hji19] <;> (first | rfl | simp)) | (simp [*]; done)), eqS, H', ⟨by have := HK1.out; have := HK2.out; omega⟩, ⟨Kd.R_g HO_728001.out⟩, ⟨blk_g BK723.out⟩, ⟨blk_g BK727.out⟩, ⟨by exact st74_2 HI0.out NB0_723.out NB0_727.out⟩, ⟨by exact kb74_2 HK.out GW723.out GW727.out⟩, ⟨by exact bl74_2 HB.out HI0.out GE723.out GE727.out⟩⟩
        ·exact absurd H (by simp)
       ·replace c17 := Bool.eq_false_iff.mpr c17
        subst c17
        replace H := ifF H
        have H' := Aside0.mk H
        clear H
        have hnb24 := NB727_723.out
        have hnc24 := NB723_727.out
        have hnb25 := NB727_0.out
        have hnc25 := NB0_727.out
        obtain ⟨hcz26_0, hcz26_1, hfz26_0, hfz26_1⟩ := blk2 BK727
        go_wp2_with (first | ((with_reducible refine gate_callee (f := 116) rfl ?_); refine goesQ (some 26) Tryd.func116 #[.pointer (some ⟨g, 0, none⟩), .int .i64 4] ?_; (with_reducible refine (spec_l1Cur_one.calls g s0_0 x1001_2 x1002_2 4 false t729 t730 w0 _ ?side1 ?side2 A16.out).mono ?_); (case side1 => exact st74_2 HI0.out NB0_723.out NB0_727.out); (case side2 => exact bl74_2 HB.out HI0.out GE723.out GE727.out); rintro e w27 ⟨rfl, hi, hb, hk⟩; refine ⟨_, rfl, ?_⟩; replace HO_728001 := Aside0.mk (Kd.R_mono (Kd.R_keep (IsS74.apart (show IsS74 w0 _ g s0_0 x1001_2 x1002_2 from by exact st74_2 HI0.out NB0_723.out NB0_727.out) (Kd.R_g HO_728001.out) (by decide)) hk (fun _ h => h.2)) (fun _ h => h.1)); replace BK723 := Aside0.mk (KeepBut.blk hk (g' := gb723) (o := .cells #[.int .i64 0, .slice none 0 0] 28 (0, 0)) (blk_g BK723.out) NB723_0.out (by simp)); replace BK727 := Aside0.mk (KeepBut.blk hk (g' := gb727) (o := .cells #[.int .i64 t724, .slice Ao14 x728001_1.length co14] 28 (0, 0)) (blk_g BK727.out) NB727_0.out (by simp)); replace HK := Aside0.mk (KeepBut.trans (by exact kb74_2 HK.out GW723.out GW727.out) hk (.inl rfl)); replace HI0 := Aside0.mk (hi); replace HB := Aside0.mk (hb); (try clear hb); (try clear hk); (try clear hi)))
        go_roundg k2
        case measure => have := HK1.out; have := HK2.out; omega
        case rel => exact ⟨(x6_2), (wrap64 (x7_2 + 1)), (t729), (t730), eqS, eqS, H', ⟨by have := HK1.out; have := HK2.out; omega⟩, ⟨Kd.R_g HO_728001.out⟩, ⟨blk_g BK723.out⟩, ⟨blk_g BK727.out⟩, ⟨by exact st74_2 HI0.out NB0_723.out NB0_727.out⟩, ⟨by exact kb74_2 HK.out GW723.out GW727.out⟩, ⟨by exact bl74_2 HB.out HI0.out GE723.out GE727.out⟩⟩
      ·rcases iteP H with ⟨c28, H⟩ | ⟨c28, H⟩
       ·have LMc28 := Aside0.mk c28
        clear c28
        obtain ⟨y731, hy731⟩ : ∃ y_ : List Int, y_ = (x728001_1 ++ [x6_2]) := ⟨_, rfl⟩
        replace H : (spec_l1Cur_relation.l0 k2 s0_0 x1001_2 x1002_2 t724 y731) = some (r1, r2, r3, r4) := by first | (rw [hy731]; with_reducible exact H) | (have H2_ := (Option.bind_some _ _).symm.trans H; rw [hy731]; with_reducible exact H2_) | (have H2_ := (Option.bind_some _ _).symm.trans H; with_reducible exact H2_) | with_reducible exact H | (rw [hy731]; exact H) | exact H
        have Ny731 := Aside0.mk hy731
        clear hy731
        have H' := Aside0.mk H
        clear H
        have hnb29 := NB727_723.out
        have hnc29 := NB723_727.out
        have hnb30 := NB727_0.out
        have hnc30 := NB0_727.out
        obtain ⟨hcz31_0, hcz31_1, hfz31_0, hfz31_1⟩ := blk2 BK727
        go_wp2_with (first | ((with_reducible refine gate_builtin (b := .append) (xs := #[.tmp 32, .tmp 34]) rfl ?_); at_builtin; refine Kd.R_append (Kd.int .i64) w.heap.size rfl (.tmp 32) (.tmp 34) 22 3 (.int .i64 0) 8 rfl Tryd.underlying22 info3 rfl (by decide) (by omega) (.slice Ao14 x728001_1.length co14) x728001_1 x6_2 [.int .i64 x6_2] (fun _ => True) (fun _ => False) rfl rfl ?aP (fun _ hk => hk.elim) ?aF ?aO (Below.refl _ _) ?aS ?aL ?_; (case aP => exact rfl); (case aF => exact (fun _ _ => trivial)); (case aO => exact (Kd.R_g HO_728001.out)); (case aS => exact (keep_size (w := w) (g := g) (row := none) (by exact kb74_2 HK.out GW723.out GW727.out))); (case aL => have := LMc28.out; omega); intro v732 w32 ho hb hg hat; rw [← Ny731.out] at ho; replace BK723 := Aside0.mk (blk_grown (g := gb723) (o := .cells #[.int .i64 0, .slice none 0 0] 28 (0, 0)) (blk_g BK723.out) hg (Kd.R_ne HO_728001.out BK723.out (by decide))); replace BK727 := Aside0.mk (blk_grown (g := gb727) (o := .cells #[.int .i64 t724, .slice Ao14 x728001_1.length co14] 28 (0, 0)) (blk_g BK727.out) hg (Kd.R_ne HO_728001.out BK727.out (by decide))); replace HK := Aside0.mk (KeepBut.trans (by exact kb74_2 HK.out GW723.out GW727.out) (KeepBut.of_grown hg g) (Kd.R_base2 HO_728001.out)); have HO733 := Aside0.mk (ho); replace HB := Aside0.mk (below_weaken (by exact bl74_2 HB.out HI0.out GE723.out GE727.out) HL.out hb); replace HI0 := Aside0.mk (IsS74.grown (by exact st74_2 HI0.out NB0_723.out NB0_727.out) hg (IsS74.own_ne HI0.out HO_728001.out (by decide))); clear HO_728001; clear ho hb hg hat; obtain ⟨Ao33, co33, eo33⟩ := Kd.R_slice HO733.out; subst eo33; obtain ⟨hcz34_0, hcz34_1, hfz34_0, hfz34_1⟩ := blk2 BK727))
        go_roundg k2
        case measure => have := HK1.out; have := HK2.out; omega
        case rel => exact ⟨(x1001_2), (x1002_2), (y731), (.slice Ao33 y731.length co33), H', ⟨by have := HK1.out; have := HK2.out; omega⟩, ⟨Kd.R_g (Kd.R_mono (Kd.R_far (p := ⟨gb727, 1, none⟩) (Kd.R_types HO733.out BK727.out (by decide)) (fun _ hk => hk.2) (.slice Ao33 y731.length co33)) (fun _ hk => trivial))⟩, ⟨by (with_reducible repeat (first | refine blk_drewN ?_ _ | refine blk_drew ?_ | refine blk_alloc ?_ _)); refine blk_far ?_ NB723_727.out _; (with_reducible repeat (first | refine blk_drewN ?_ _ | refine blk_drew ?_ | refine blk_alloc ?_ _)); exact BK723.out⟩, ⟨by (with_reducible repeat (first | refine blk_drewN ?_ _ | refine blk_drew ?_ | refine blk_alloc ?_ _)); refine blk_put (cs := #[.int .i64 t724, .slice Ao14 x728001_1.length co14]) ?_ 1 _ rfl; (with_reducible repeat (first | refine blk_drewN ?_ _ | refine blk_drew ?_ | refine blk_alloc ?_ _)); exact BK727.out⟩, ⟨by exact st74_2 HI0.out NB0_723.out NB0_727.out⟩, ⟨by exact kb74_2 HK.out GW723.out GW727.out⟩, ⟨by exact bl74_2 HB.out HI0.out GE723.out GE727.out⟩⟩
       ·exact absurd H (by simp)
   ·simp only [Option.some.injEq, Prod.mk.injEq] at H
    obtain ⟨rfl, rfl, rfl, rfl⟩ := H
    have hnb35 := NB727_723.out
    have hnc35 := NB723_727.out
    have hnb36 := NB727_0.out
    have hnc36 := NB0_727.out
    obtain ⟨hcz37_0, hcz37_1, hfz37_0, hfz37_1⟩ := blk2 BK727
    obtain ⟨Ao38, co38, eo38⟩ := Kd.R_slice HO_728001.out
    subst eo38
    have hnb39 := NB723_0.out
    have hnc39 := NB0_723.out
    obtain ⟨hcz40_0, hcz40_1, hfz40_0, hfz40_1⟩ := blk2 BK723
    go_wp2
    refine bodyPost_ret (results_cell_row rfl _ _ gb723 28 #[.int .i64 t724, .slice Ao38 x728001_1.length co38] (0, 0) _ rfl (by (with_reducible repeat (first | refine blk_drewN ?_ _ | refine blk_drew ?_ | refine blk_alloc ?_ _)); refine blk_put (cs := #[.int .i64 t724, .slice none 0 0]) ?_ 1 _ rfl; (with_reducible repeat (first | refine blk_drewN ?_ _ | refine blk_drew ?_ | refine blk_alloc ?_ _)); refine blk_put (cs := #[.int .i64 0, .slice none 0 0]) ?_ 0 _ rfl; (with_reducible repeat (first | refine blk_drewN ?_ _ | refine blk_drew ?_ | refine blk_alloc ?_ _)); exact BK723.out) Tryd.underlying28 rfl (by kernel_rfl)) rfl ?_
    exact ⟨_, eqE, by (with_reducible repeat (first | apply Kd.R_alloc | apply Kd.R_drewN | apply Kd.R_drew)); exact Kd.R_mono (Kd.R_far (p := ⟨gb723, 1, none⟩) (Kd.R_far (p := ⟨gb723, 0, none⟩) (Kd.R_types HO_728001.out BK723.out (by decide)) (fun _ hk => hk.2) (.int .i64 t724)) (fun _ hk => hk.2) (.slice Ao38 x728001_1.length co38)) (fun _ hk => trivial), by exact st74_2 HI0.out NB0_723.out NB0_727.out, by exact bl74_2 HB.out HI0.out GE723.out GE727.out, by exact kb74_2 HK.out GW723.out GW727.out⟩

end Go.Proofs.YteechpappfagpaaDoor.Q

-- printed by this project's own program (wip/mp/mp.py) over the kit's print, for this seat; Lean checks it
namespace Go.Proofs.YteechpappfagpaaDoor.Q
open Go.RowKit Go.Proofs.YteechpappfagpaaDoorW.PrintWords Go.Proofs.YteechpappfagpaaDoorW.PrintLast Go.Proofs.YteechpappfagpaaDoorW.PrintMore
attribute [local go_sem] max2_int min2_int max_two min_two max_three min_three max_four min_four   -- for this text's walks alone
set_option linter.unusedVariables false
set_option maxHeartbeats 8000000
set_option maxRecDepth 100000
set_option linter.unusedSimpArgs false

/-! ### spec_l1Own: function 119 -/
def spec_l1Own.f (l0 : List Int) : Option (List Int) := (some (([] : List Int) : List Int)).bind fun y734 => (if y734.length + l0.length < 17592186044416 then (some (y734 ++ l0)) else (none))
theorem spec_l1Own.calls (A0 : Option Addr) (c0 : Nat) (l0 : List Int) (r : List Int) (w : World) (hr0 : Kd.C (Kd.int .i64) w A0 l0.length l0) (hc0 : l0.length ≤ c0) (h : spec_l1Own.f l0 = some r) :
  Calls Tryd.prog 119 #[.slice A0 l0.length c0] w fun e w' => ∃ v0_ : Value, e = .returned (v0_) ∧ Kd.R (Kd.int .i64) 3 w' w.heap.size (fun _ => True) v0_ r ∧ Below w.heap.size w w' := by
 have HR0 := Aside0.mk hr0
 have HC0 := Aside0.mk hc0
 clear hr0 hc0
 have HB := Aside0.mk (Below.refl w.heap.size w)
 have H : ((some (([] : List Int) : List Int)).bind fun y734 => (if y734.length + l0.length < 17592186044416 then (some (y734 ++ l0)) else (none))) = some r := h
 clear h
 obtain ⟨y734, hy734⟩ : ∃ y_ : List Int, y_ = (([] : List Int)) := ⟨_, rfl⟩
 replace H : (if y734.length + l0.length < 17592186044416 then (some (y734 ++ l0)) else (none)) = some r := by first | (rw [hy734]; with_reducible exact H) | (have H2_ := (Option.bind_some _ _).symm.trans H; rw [hy734]; with_reducible exact H2_) | (have H2_ := (Option.bind_some _ _).symm.trans H; with_reducible exact H2_) | with_reducible exact H | (rw [hy734]; exact H) | exact H
 have Ny734 := Aside0.mk hy734
 clear hy734
 rcases iteP H with ⟨c2, H⟩ | ⟨c2, H⟩
 ·have LMc2 := Aside0.mk c2
  clear c2
  obtain ⟨y737, hy737⟩ : ∃ y_ : List Int, y_ = (y734 ++ l0) := ⟨_, rfl⟩
  replace H : (some y737) = some r := by first | (rw [hy737]; with_reducible exact H) | (have H2_ := (Option.bind_some _ _).symm.trans H; rw [hy737]; with_reducible exact H2_) | (have H2_ := (Option.bind_some _ _).symm.trans H; with_reducible exact H2_) | with_reducible exact H | (rw [hy737]; exact H) | exact H
  have Ny737 := Aside0.mk hy737
  clear hy737
  obtain rfl := Option.some.inj H
  go_enter Tryd.func119, Tryd.ntmps119
  go_wp2_with (first | ((with_reducible refine gate_dst (N := 3) rfl ?_); refine Kd.R_lit (Kd.int .i64) _ 3 ?hg (N := 3) ?hd (xs := ([] : List Int)) (inner := []) (ok := fun _ => True) (okp := fun _ => True) ?hr ?hp (fun _ hk => hk) trivial (Below.refl _ _) (Nat.le_refl _) (by simp) ?_; (case hd => rfl); (case hg => rfl); (case hr => first | (go_simp; done) | (go_simp; rfl)); (case hp => exact (Reps.none _ _)); intro v735 w3 ho4 hb hg_ hnew_; clear hg_ hnew_; (first | rw [← Ny734.out] at ho4 | (simp only [Int.reduceToNat] at ho4; rw [← Ny734.out] at ho4)); have HO736 := Aside0.mk (Kd.R_lower ho4 (below_size (bel_g HB.out))); replace HB := bst HB hb; clear hb ho4) | ((with_reducible refine gate_builtin (b := .append) (xs := #[.tmp 3, .tmp 4]) rfl ?_); at_builtin; refine Kd.R_append_rows (Kd.int .i64) (w0 := w) w.heap.size rfl (.tmp 3) (.tmp 4) 22 3 (.int .i64 0) 8 rfl Tryd.underlying22 info3 rfl (by decide) (by omega) v735 y734 l0 _ _ _ (fun _ => True) (fun _ => False) rfl rfl ?aO ?aR (fun _ _ h => h) (fun _ h => h.elim) ?aF ?aB ?aS ?aL ?_; (case aR => exact C_g HR0 HB); (case aB => exact (bel_g HB.out)); (case aF => exact (fun _ _ => trivial)); (case aO => exact (Kd.R_g HO736.out)); (case aS => exact (below_size (bel_g HB.out))); (case aL => have := LMc2.out; omega); intro v738 w5 ho hb hg hat; rw [← Ny737.out] at ho; have HO739 := Aside0.mk (ho); replace HB := Aside0.mk (hb); clear HO736; clear ho hb hg hat))
  go_ret
  exact ⟨_, eqE, by (with_reducible repeat (first | apply Kd.R_alloc | apply Kd.R_drewN | apply Kd.R_drew)); exact HO739.out, bel_g HB.out⟩
 ·exact absurd H (by simp)

end Go.Proofs.YteechpappfagpaaDoor.Q
