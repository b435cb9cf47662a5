import Derived.Test.YtmdnbjhboppkdaaDoorBFnMajorities14
import Derived.Test.YtmdnbjhboppkdaaDoorBFnMajorities21
namespace Go.Proofs.YtmdnbjhboppkdaaDoor.Q
open Go.RowKit Go.Proofs.YtmdnbjhboppkdaaDoorW.PrintWords Go.Proofs.YtmdnbjhboppkdaaDoorW.PrintLast Go.Proofs.YtmdnbjhboppkdaaDoorW.PrintMore
attribute [local go_sem] max2_int min2_int max_two min_two max_three min_three max_four min_four neB_f
set_option linter.unusedVariables false
set_option maxHeartbeats 8000000
set_option maxRecDepth 100000
set_option linter.unusedSimpArgs false
def spec_DrawDoesRefine.f (k : Nat) (l0 : List Int) : Option (Int × List Int × Int × List Int) := (spec_l1Cur_both.f k l0 0 0).bind fun bt702 => (some (bt702.1, bt702.2.1, bt702.2.2.1, bt702.2.2.2.1))
theorem spec_DrawDoesRefine.mono : ∀ a0 k, LeO (spec_DrawDoesRefine.f k a0) (spec_DrawDoesRefine.f (k + 1) a0) := by
 intro a0 k
 unfold spec_DrawDoesRefine.f
 repeat' (with_reducible first|apply spec_l1Cur_both.mono|apply LeO.refl|apply LeO.none|apply LeO.ite|apply LeO.bind|intro)
theorem spec_DrawDoesRefine.calls (k : Nat) (A0 : Option Addr) (c0 : Nat) (l0 : List Int) (r1 : Int) (r2 : List Int) (r3 : Int) (r4 : List Int) (w : World) (hr0 : Kd.C (Kd.int .u8) w A0 l0.length l0) (hc0 : l0.length ≤ c0) (h : spec_DrawDoesRefine.f k l0 = some (r1, r2, r3, r4)) :
  Calls Tryd.prog 32 #[.slice A0 l0.length c0] w fun e w' => ∃ v1_ v3_ : Value, e = .returned (.tuple #[.agg #[.int .i64 r1, v1_], .agg #[.int .i64 r3, v3_]]) ∧ Kd.R (Kd.int .i64) 3 w' w.heap.size (fun k_ => some k_ ≠ (v3_ : Value).ownBlock) v1_ r2 ∧ Kd.R (Kd.int .i64) 3 w' w.heap.size (fun k_ => some k_ ≠ (v1_ : Value).ownBlock) v3_ r4 ∧ Below w.heap.size w w' := by
 have hu28 := Tryd.underlying28
 have hu46 := Tryd.underlying46
 have HR0 := mkA hr0
 have HC0 := mkA hc0
 clear hr0 hc0
 have HB := mkA (Below.refl w.heap.size w)
 have H := h
 clear h
 unfold spec_DrawDoesRefine.f at H
 obtain ⟨⟨t702, t703, t706, t707, t710, t711⟩, A2, H⟩ := obE H
 dsimp only at H
 simp only [Option.some.injEq, Prod.mk.injEq] at H
 obtain ⟨rfl, rfl, rfl, rfl⟩ := H
 go_enter Tryd.func32, Tryd.ntmps32
 go_wp2_with (first | ((with_reducible refine gate_dst (N := 2) rfl ?_); refine boxG HB #[.int .i64 0, .slice none 0 0] 28 ?_; intro gb699 hg w3 BK699 GE699 hb; replace HB := bst HB hb; clear hb hg) | ((with_reducible refine gate_dst (N := 3) rfl ?_); refine boxG HB #[.int .i64 0, .slice none 0 0] 28 ?_; intro gb700 hg w4 BK700 GE700 hb; have NB699_700 := neL7 BK699 hg; have NB700_699 := neR7 BK699 hg; replace BK699 := blkB BK699 hb; replace HB := bst HB hb; clear hb hg) | ((with_reducible refine gate_dst (N := 7) rfl ?_); refine boxE (N := 7) (cs := #[.slice A0 l0.length c0, .int .i64 0, .int .u64 0]) (t := 46) ?_; intro gb701 hg w5 hbox hb; have HI701 := mkA ((⟨_, _, hbox, (by rw [hg]; exact (below_size (bel_g HB.out))), HR0.out⟩ : IsS46 w w5 gb701 l0 0 0)); have GE701 := geB HB hg; have NB699_701 := neL7 BK699 hg; have NB701_699 := neR7 BK699 hg; replace BK699 := blkB BK699 hb; have NB700_701 := neL7 BK700 hg; have NB701_700 := neR7 BK700 hg; replace BK700 := blkB BK700 hb; replace HB := bst HB hb; clear hb hbox hg) | ((with_reducible refine gate_callee (f := 52) rfl ?_); refine goesQ (some 9) Tryd.func52 #[.pointer (some ⟨gb701, 0, none⟩)] ?_; (with_reducible refine (spec_l1Cur_both.calls k gb701 l0 0 0 t702 t703 t706 t707 t710 t711 w _ ?_ ?_ A2.out).mono ?_); exact st46_2 HI701.out NB701_699.out NB701_700.out; exact bl46_2 HB.out HI701.out GE699.out GE700.out; rintro e w6 ⟨v704, v708, rfl, ho0, ho1, hi, hb, hk⟩; refine ⟨_, rfl, ?_⟩; replace BK699 := kB hk BK699; replace BK700 := kB hk BK700; have HO705 := mkA (Kd.R_lower ho0 (below_size (by exact bl46_2 HB.out HI701.out GE699.out GE700.out))); have HO709 := mkA (Kd.R_lower ho1 (below_size (by exact bl46_2 HB.out HI701.out GE699.out GE700.out))); replace HI701 := mkA (hi); replace HB := mkA (hb); clear hb hk hi ho0 ho1; obtain ⟨_, _, _, _⟩ := blk2 BK699; obtain ⟨Ao10, co10, rfl⟩ := Kd.R_slice HO705.out; obtain ⟨_, _, _, _⟩ := blk2 BK700; obtain ⟨Ao13, co13, rfl⟩ := Kd.R_slice HO709.out))
 refine bodyPost_ret (results_cc rfl _ _ gb699 gb700 28 28 #[.int .i64 t702, .slice Ao10 t703.length co10] #[.int .i64 t706, .slice Ao13 t707.length co13] (0, 0) (0, 0) _ _ rfl (blkT BK699) Tryd.underlying28 rfl (by kernel_rfl) rfl (blkT BK700) Tryd.underlying28 rfl (by kernel_rfl)) rfl ?_
 exact ⟨_, _, eqE, Kd.R_g (Kd.R_mono (Kd.R_far (p := ⟨gb700, 1, none⟩) (Kd.R_far (p := ⟨gb700, 0, none⟩) (Kd.R_far (p := ⟨gb699, 1, none⟩) (Kd.R_far (p := ⟨gb699, 0, none⟩) (Kd.R_types (Kd.R_types HO705.out BK699.out (by decide)) BK700.out (by decide)) (fun _ hk => hk.1.2) (.int .i64 t702)) (fun _ hk => hk.1.2) (.slice Ao10 t703.length co10)) (fun _ hk => hk.2) (.int .i64 t706)) (fun _ hk => hk.2) (.slice Ao13 t707.length co13)) (fun _ hk => hk.1.1)), Kd.R_g (Kd.R_mono (Kd.R_far (p := ⟨gb700, 1, none⟩) (Kd.R_far (p := ⟨gb700, 0, none⟩) (Kd.R_far (p := ⟨gb699, 1, none⟩) (Kd.R_far (p := ⟨gb699, 0, none⟩) (Kd.R_types (Kd.R_types HO709.out BK699.out (by decide)) BK700.out (by decide)) (fun _ hk => hk.1.2) (.int .i64 t702)) (fun _ hk => hk.1.2) (.slice Ao10 t703.length co10)) (fun _ hk => hk.2) (.int .i64 t706)) (fun _ hk => hk.2) (.slice Ao13 t707.length co13)) (fun _ hk => hk.1.1)), by exact bl46_2 HB.out HI701.out GE699.out GE700.out⟩
def spec_DrawPairDistance.f (k : Nat) (l0 : List Int) : Option (Int × List Int × Int × List Int) := (spec_DrawDoesRefine.f k l0).bind fun bt714 => (some (bt714.1, bt714.2.1, bt714.2.2.1, bt714.2.2.2))
theorem spec_DrawPairDistance.mono : ∀ a0 k, LeO (spec_DrawPairDistance.f k a0) (spec_DrawPairDistance.f (k + 1) a0) := by
 intro a0 k
 unfold spec_DrawPairDistance.f
 repeat' (with_reducible first|apply spec_DrawDoesRefine.mono|apply LeO.refl|apply LeO.none|apply LeO.ite|apply LeO.bind|intro)
theorem spec_DrawPairDistance.calls (k : Nat) (A0 : Option Addr) (c0 : Nat) (l0 : List Int) (r1 : Int) (r2 : List Int) (r3 : Int) (r4 : List Int) (w : World) (hr0 : Kd.C (Kd.int .u8) w A0 l0.length l0) (hc0 : l0.length ≤ c0) (h : spec_DrawPairDistance.f k l0 = some (r1, r2, r3, r4)) :
  Calls Tryd.prog 15 #[.slice A0 l0.length c0] w fun e w' => ∃ v1_ v3_ : Value, e = .returned (.tuple #[.agg #[.int .i64 r1, v1_], .agg #[.int .i64 r3, v3_]]) ∧ Kd.R (Kd.int .i64) 3 w' w.heap.size (fun k_ => some k_ ≠ (v3_ : Value).ownBlock) v1_ r2 ∧ Kd.R (Kd.int .i64) 3 w' w.heap.size (fun k_ => some k_ ≠ (v1_ : Value).ownBlock) v3_ r4 ∧ Below w.heap.size w w' := by
 have hu28 := Tryd.underlying28
 have HR0 := mkA hr0
 have HC0 := mkA hc0
 clear hr0 hc0
 have HB := mkA (Below.refl w.heap.size w)
 have H := h
 clear h
 unfold spec_DrawPairDistance.f at H
 obtain ⟨⟨t714, t715, t718, t719⟩, A2, H⟩ := obE H
 dsimp only at H
 simp only [Option.some.injEq, Prod.mk.injEq] at H
 obtain ⟨rfl, rfl, rfl, rfl⟩ := H
 go_enter Tryd.func15, Tryd.ntmps15
 go_wp2_with (first | ((with_reducible refine gate_dst (N := 2) rfl ?_); refine boxG HB #[.int .i64 0, .slice none 0 0] 28 ?_; intro gb712 hg w3 BK712 GE712 hb; replace HB := bst HB hb; clear hb hg) | ((with_reducible refine gate_dst (N := 3) rfl ?_); refine boxG HB #[.int .i64 0, .slice none 0 0] 28 ?_; intro gb713 hg w4 BK713 GE713 hb; have NB712_713 := neL7 BK712 hg; have NB713_712 := neR7 BK712 hg; replace BK712 := blkB BK712 hb; replace HB := bst HB hb; clear hb hg) | ((with_reducible refine gate_callee (f := 32) rfl ?_); refine goesQ (some 5) Tryd.func32 #[.slice A0 l0.length c0] ?_; (with_reducible refine (spec_DrawDoesRefine.calls k _ _ l0 t714 t715 t718 t719 _ ?_ ?_ A2.out).mono ?_); exact C_g HR0 HB; exact HC0.out; rintro e w5 ⟨v716, v720, rfl, ho0, ho1, hb⟩; refine ⟨_, rfl, ?_⟩; have HO717 := rLo ho0 HB; have HO721 := rLo ho1 HB; replace BK712 := blkB BK712 hb; replace BK713 := blkB BK713 hb; replace HB := bst HB hb; clear hb ho0 ho1; obtain ⟨_, _, _, _⟩ := blk2 BK712; obtain ⟨Ao8, co8, rfl⟩ := Kd.R_slice HO717.out; obtain ⟨_, _, _, _⟩ := blk2 BK713; obtain ⟨Ao10, co10, rfl⟩ := Kd.R_slice HO721.out))
 refine bodyPost_ret (results_cc rfl _ _ gb712 gb713 28 28 #[.int .i64 t714, .slice Ao8 t715.length co8] #[.int .i64 t718, .slice Ao10 t719.length co10] (0, 0) (0, 0) _ _ rfl (blkT BK712) Tryd.underlying28 rfl (by kernel_rfl) rfl (blkT BK713) Tryd.underlying28 rfl (by kernel_rfl)) rfl ?_
 exact ⟨_, _, eqE, Kd.R_g (Kd.R_mono (Kd.R_far (p := ⟨gb713, 1, none⟩) (Kd.R_far (p := ⟨gb713, 0, none⟩) (Kd.R_far (p := ⟨gb712, 1, none⟩) (Kd.R_far (p := ⟨gb712, 0, none⟩) (Kd.R_types (Kd.R_types HO717.out BK712.out (by decide)) BK713.out (by decide)) (fun _ hk => hk.1.2) (.int .i64 t714)) (fun _ hk => hk.1.2) (.slice Ao8 t715.length co8)) (fun _ hk => hk.2) (.int .i64 t718)) (fun _ hk => hk.2) (.slice Ao10 t719.length co10)) (fun _ hk => hk.1.1)), Kd.R_g (Kd.R_mono (Kd.R_far (p := ⟨gb713, 1, none⟩) (Kd.R_far (p := ⟨gb713, 0, none⟩) (Kd.R_far (p := ⟨gb712, 1, none⟩) (Kd.R_far (p := ⟨gb712, 0, none⟩) (Kd.R_types (Kd.R_types HO721.out BK712.out (by decide)) BK713.out (by decide)) (fun _ hk => hk.1.2) (.int .i64 t714)) (fun _ hk => hk.1.2) (.slice Ao8 t715.length co8)) (fun _ hk => hk.2) (.int .i64 t718)) (fun _ hk => hk.2) (.slice Ao10 t719.length co10)) (fun _ hk => hk.1.1)), bel_g HB.out⟩
def bits_TrailingZeros.f (a0 : Int) : Option (Int) := (bits_TrailingZeros64.f a0).bind fun t722 => (some t722)
theorem bits_TrailingZeros.calls (a0 : Int) (r : Int) (w : World) (hTAB : Tab w) (h : bits_TrailingZeros.f a0 = some r) :
  Calls Tryd.prog 81 #[.int .u64 a0] w fun e w' => e = .returned (.int .i64 r) ∧ Drawn0 w w' := by
 have HTAB := mkA hTAB
 clear hTAB
 have H := h
 clear h
 unfold bits_TrailingZeros.f at H
 obtain ⟨t722, A2, H⟩ := obE H
 obtain rfl := Option.some.inj H
 go_enter Tryd.func81, Tryd.ntmps81
 go_wp2_with (first | ((with_reducible refine gate_callee (f := 94) rfl ?_); refine goesQ (some 7) Tryd.func94 #[.int .u64 a0] ?_; (with_reducible refine (bits_TrailingZeros64.calls a0 t722 _ ?s1 A2.out).mono ?_); (case s1 => first | exact HTAB.out | exact Tab.drewN HTAB.out _ | exact Tab.below HTAB.out (bel_g HB.out) | exact Tab.below HTAB.out (by repeat (first | exact Below.refl _ _ | apply below_alloc | apply pw_below_drewN | apply below_drew1))); rintro e w' ⟨rfl, ⟨nd, rfl⟩⟩; refine ⟨_, rfl, ?_⟩))
 go_ret
 exact ⟨eqS, drE⟩
def impl_members.l0 : Nat → Int → List Int → Option (List Int)
 | 0, _, _ => none
 | k + 1, x0, x3 => if x0 = 0 then (some x3) else ((bits_TrailingZeros.f (IntKind.u64.wrap (x0))).bind fun t726 => (if x3.length < 17592186044416 then (impl_members.l0 k (Go.bits .and .i64 x0 (wrap64 (x0 - 1))) (x3 ++ [t726])) else (none)))
def impl_members.f (k : Nat) (a0 : Int) : Option (List Int) := impl_members.l0 k a0 (([] : List Int))
theorem impl_members.mono_l : ∀ k, (∀ y0 y1, LeO (impl_members.l0 k y0 y1) (impl_members.l0 (k + 1) y0 y1))
 | 0 => fun _ _ r h => by simp [impl_members.l0] at h
 | k + 1 => by
  have ih0 := impl_members.mono_l k
  ·intro y0 y1
   unfold impl_members.l0
   repeat' (with_reducible first|apply ih0|apply LeO.refl|apply LeO.none|apply LeO.ite|apply LeO.bind|intro)
theorem impl_members.mono : ∀ a0 k, LeO (impl_members.f k a0) (impl_members.f (k + 1) a0) := by
 intro a0 k
 have ih0 := impl_members.mono_l k
 unfold impl_members.f
 repeat' (with_reducible first|apply ih0|apply LeO.refl|apply LeO.none|apply LeO.ite|apply LeO.bind|intro)
theorem impl_members.calls (k : Nat) (a0 : Int) (r : List Int) (w : World) (hTAB : Tab w) (h : impl_members.f k a0 = some r) :
  Calls Tryd.prog 72 #[.int .i64 a0] w fun e w' => ∃ v0_ : Value, e = .returned (v0_) ∧ Kd.R (Kd.int .i64) 3 w' w.heap.size (fun _ => True) v0_ r ∧ Below w.heap.size w w' := by
 have HTAB := mkA hTAB
 clear hTAB
 have HB := mkA (Below.refl w.heap.size w)
 have H := h
 clear h
 unfold impl_members.f at H
 obtain ⟨y723, hy723⟩ : ∃ y_ : List Int, y_ = (([] : List Int)) := ⟨_, rfl⟩
 rw [← hy723] at H
 have Ny723 := mkA hy723
 clear hy723
 have H' := mkA H
 clear H
 go_enter Tryd.func72, Tryd.ntmps72
 go_wp2_with (first | ((with_reducible refine gate_dst (N := 4) rfl ?_); refine litE (Kd.int .i64) 3 ([] : List Int) [] ?hp ?_; (case hp => exact (Reps.none _ _)); intro v724 w2 ho3 hb hg_ hnew_; clear hg_ hnew_; (first | rw [← Ny723.out] at ho3 | (simp only [Int.reduceToNat] at ho3; rw [← Ny723.out] at ho3)); have HO725 := rLo ho3 HB; replace HB := bst HB hb; clear hb ho3))
 go_loopg [0, 3] k (fun kq v0 v3 w' => ∃ (x0_1 : Int) (x3_1 : List Int), v0 = .int .i64 x0_1 ∧ Fc (impl_members.l0 kq x0_1 x3_1 = some r) ∧ Fc (kq ≤ k) ∧ Fc (Kd.R (Kd.int .i64) 3 w' w.heap.size (fun _ => True) v3 x3_1) ∧ Fc (Below w.heap.size w w'))
 case atStart => exact ⟨(a0), (y723), eqS, H', ⟨Nat.le_refl _⟩, rg HO725, hbg HB⟩
 case round =>
  clear H'
  obtain ⟨x0_1, x3_1, rfl, HA, HK1, HO_3, HB⟩ := hrel
  cases gk with
  | zero => exact absurd HA.out (by simp [impl_members.l0])
  | succ k1 =>
   have H := HA.out
   clear HA
   simp only [impl_members.l0] at H
   rcases iteP H with ⟨c4, H⟩ | ⟨c4, H⟩
   ·have c4b0 := beq_iff_eq.mpr c4
    have c4b1 := bne_eq_false_iff_eq.mpr c4
    clear c4
    obtain rfl := Option.some.inj H
    go_wp2
    go_ret
    exact ⟨_, eqE, Kd.R_g HO_3.out, bel_g HB.out⟩
   ·have c4b0 := beq_eq_false_iff_ne.mpr c4
    have c4b1 := bne_iff_ne.mpr c4
    obtain ⟨t726, A5, H⟩ := obE H
    obtain ⟨c6, H⟩ := itNP H
    have LMc6 := mkA c6
    clear c6
    obtain ⟨y727, hy727⟩ : ∃ y_ : List Int, y_ = (x3_1 ++ [t726]) := ⟨_, rfl⟩
    rw [← hy727] at H
    have Ny727 := mkA hy727
    clear hy727
    have H' := mkA H
    clear H
    go_wp2_with (first | ((with_reducible refine gate_callee (f := 81) rfl ?_); refine goesQ (some 14) Tryd.func81 #[.int .u64 (IntKind.u64.wrap (x0_1))] ?_; (with_reducible refine (bits_TrailingZeros.calls (IntKind.u64.wrap (x0_1)) t726 _ ?_ A5.out).mono ?_); exact Tab.below HTAB.out (bel_g HB.out); rintro e w' ⟨rfl, ⟨nd, rfl⟩⟩; refine ⟨_, rfl, ?_⟩) | ((with_reducible refine gate_builtin (b := .append) (xs := #[.tmp 11, .tmp 15]) rfl ?_); at_builtin; refine Kd.R_append (Kd.int .i64) (w0 := w) w.heap.size rfl (.tmp 11) (.tmp 15) 26 3 (.int .i64 0) 8 rfl Tryd.underlying26 info3 rfl (by decide) (by omega) u3 x3_1 t726 [.int .i64 t726] (fun _ => True) (fun _ => False) rfl rfl ?aP (fun _ hk => hk.elim) ?aF ?aO ?aB ?aS ?aL ?_; (case aP => exact rfl); (case aB => exact (bel_g HB.out)); (case aF => exact (fun _ _ => trivial)); (case aO => exact (Kd.R_g HO_3.out)); (case aS => exact (below_size (bel_g HB.out))); (case aL => have := LMc6.out; omega); intro v728 w7 ho hb hg hat; rw [← Ny727.out] at ho; have HO729 := mkA (ho); replace HB := mkA (hb); clear HO_3; clear ho hb hg hat))
    go_roundg k1
    case measure => have := HK1.out; omega
    case rel => exact ⟨(Go.bits .and .i64 x0_1 (wrap64 (x0_1 - 1))), (y727), eqS, H', ⟨by have := HK1.out; omega⟩, rg HO729, hbg HB⟩
mutual
def impl_IsOrder.l0 : Nat → List Int → Int → Int → Int → List Int → Option (Bool)
 | 0, _, _, _, _, _ => none
 | k + 1, x11, x12, x13, x731000, x731001 => if x13 < x12 then (if 0 ≤ x13 then (if x13 < (x11.length : Int) then ((impl_Order_better.f x731000 x731001 x13 x13).bind fun t733 => (if t733 = true then (some false) else ((impl_members.f k (rd x11 x13)).bind fun t734 => (impl_IsOrder.l1 k (rd x11 x13) x11 x12 x13 t734 (t734.length : Int) 0 x731000 x731001)))) else (none)) else (none)) else (some true)
def impl_IsOrder.l1 : Nat → Int → List Int → Int → Int → List Int → Int → Int → Int → List Int → Option (Bool)
 | 0, _, _, _, _, _, _, _, _, _ => none
 | k + 1, x4, x11, x12, x13, x23, x24, x25, x731000, x731001 => if x25 < x24 then (if 0 ≤ x25 then (if x25 < (x23.length : Int) then (if 0 ≤ (rd x23 x25) then (if (rd x23 x25) < (x731001.length : Int) then (if (Go.bits .andNot .i64 (rd x731001 (rd x23 x25)) x4) = 0 then (impl_IsOrder.l1 k x4 x11 x12 x13 x23 x24 (wrap64 (x25 + 1)) x731000 x731001) else (some false)) else (none)) else (none)) else (none)) else (none)) else (impl_IsOrder.l0 k x11 x12 (wrap64 (x13 + 1)) x731000 x731001)
end
def impl_IsOrder.f (k : Nat) (a0_0 : Int) (l0_1 : List Int) : Option (Bool) := (impl_IsRelation.f k a0_0 l0_1).bind fun t731 => (if t731 = true then (impl_IsOrder.l0 k l0_1 (l0_1.length : Int) 0 a0_0 l0_1) else (some false))
theorem impl_IsOrder.mono_l : ∀ k, (∀ y0 y1 y2 y3 y4, LeO (impl_IsOrder.l0 k y0 y1 y2 y3 y4) (impl_IsOrder.l0 (k + 1) y0 y1 y2 y3 y4)) ∧ (∀ y0 y1 y2 y3 y4 y5 y6 y7 y8, LeO (impl_IsOrder.l1 k y0 y1 y2 y3 y4 y5 y6 y7 y8) (impl_IsOrder.l1 (k + 1) y0 y1 y2 y3 y4 y5 y6 y7 y8))
 | 0 => ⟨fun _ _ _ _ _ r h => by simp [impl_IsOrder.l0] at h, fun _ _ _ _ _ _ _ _ _ r h => by simp [impl_IsOrder.l1] at h⟩
 | k + 1 => by
  obtain ⟨ih0, ih1⟩ := impl_IsOrder.mono_l k
  refine ⟨?_, ?_⟩ <;> intros
  unfold impl_IsOrder.l0
  rotate_left
  unfold impl_IsOrder.l1
  rotate_left
  all_goals repeat' (with_reducible first|apply ih0|apply ih1|apply impl_IsRelation.mono|apply impl_members.mono|apply LeO.refl|apply LeO.none|apply LeO.ite|apply LeO.bind|intro)
theorem impl_IsOrder.mono : ∀ a0 a1 k, LeO (impl_IsOrder.f k a0 a1) (impl_IsOrder.f (k + 1) a0 a1) := by
 intro a0 a1 k
 obtain ⟨ih0, ih1⟩ := impl_IsOrder.mono_l k
 unfold impl_IsOrder.f
 repeat' (with_reducible first|apply ih0|apply ih1|apply impl_IsRelation.mono|apply impl_members.mono|apply LeO.refl|apply LeO.none|apply LeO.ite|apply LeO.bind|intro)
theorem impl_IsOrder.calls (k : Nat) (a0_0 : Int) (A0_1 : Option Addr) (c0_1 : Nat) (l0_1 : List Int) (r : Bool) (w : World) (hr0_1 : Kd.C (Kd.int .i64) w A0_1 l0_1.length l0_1) (hc0_1 : l0_1.length ≤ c0_1) (hTAB : Tab w) (h : impl_IsOrder.f k a0_0 l0_1 = some r) :
  Calls Tryd.prog 53 #[.agg #[.int .i64 a0_0, .slice A0_1 l0_1.length c0_1]] w fun e w' => e = .returned (.bool r) ∧ Below w.heap.size w w' := by
 have HTAB := mkA hTAB
 clear hTAB
 have hu28 := Tryd.underlying28
 have HR0_1 := mkA hr0_1
 have HC0_1 := mkA hc0_1
 clear hr0_1 hc0_1
 have HB := mkA (Below.refl w.heap.size w)
 have H := h
 clear h
 unfold impl_IsOrder.f at H
 obtain ⟨t731, A2, H⟩ := obE H
 by_cases c3 : t731 = true
 ·subst c3
  replace H := ifT H
  have H' := mkA H
  clear H
  go_enter Tryd.func53, Tryd.ntmps53
  go_wp2_with (first | ((with_reducible refine gate_dst (N := 1) rfl ?_); refine boxG HB #[.int .i64 a0_0, .slice A0_1 l0_1.length c0_1] 28 ?_; intro gb730 hg w4 BK730 GE730 hb; replace HB := bst HB hb; clear hb hg; obtain ⟨_, _, _, _⟩ := blk2 BK730) | ((with_reducible refine gate_callee (f := 12) rfl ?_); refine goesQ (some 8) Tryd.func12 #[.agg #[.int .i64 a0_0, .slice A0_1 l0_1.length c0_1]] ?_; (with_reducible refine (impl_IsRelation.calls k a0_0 _ _ l0_1 true _ ?_ ?_ A2.out).mono ?_); exact C_g HR0_1 HB; exact HC0_1.out; rintro e w6 ⟨rfl, hb⟩; refine ⟨_, rfl, ?_⟩; replace BK730 := blkB BK730 hb; replace HB := bst HB hb; clear hb; obtain ⟨_, _, _, _⟩ := blk2 BK730))
  go_loopg [13] k (fun kq v13 w' => ∃ (x13_1 : Int), v13 = .int .i64 x13_1 ∧ Fc (impl_IsOrder.l0 kq l0_1 (l0_1.length : Int) x13_1 a0_0 l0_1 = some r) ∧ Fc (kq ≤ k) ∧ Fc (w'.heap[gb730]? = some (.cells #[.int .i64 a0_0, (.slice A0_1 l0_1.length c0_1)] 28 (0, 0))) ∧ Fc (Below w.heap.size w w'))
  case atStart => exact ⟨(0), eqS, H', ⟨Nat.le_refl _⟩, bg BK730, hbg HB⟩
  case round =>
   clear H'
   try clear c3
   obtain ⟨x13_1, rfl, HA, HK1, BK730, HB⟩ := hrel
   cases gk with
   | zero => exact absurd HA.out (by simp [impl_IsOrder.l0])
   | succ k1 =>
    have H := HA.out
    clear HA
    simp only [impl_IsOrder.l0] at H
    rcases iteE H with ⟨c8b0, H⟩ | ⟨c8b0, H⟩
    ·obtain ⟨c9b0, H⟩ := itND H
     obtain ⟨c10b0, H⟩ := itND H
     obtain ⟨t733, A11, H⟩ := obE H
     by_cases c12 : t733 = true
     ·subst c12
      replace H := ifT H
      obtain rfl := Option.some.inj H
      obtain ⟨p732, q732, ad732, e732, hx732_0⟩ := atI HR0_1.out x13_1
      cases e732
      replace hx732_0 := (HB.out.cell (World.block_lt_of_cell? w _ hx732_0)).trans hx732_0
      obtain ⟨_, _, _, _⟩ := blk2 BK730
      go_wp2_with (first | ((with_reducible refine gate_callee (f := 31) rfl ?_); refine goesQ (some 21) Tryd.func31 #[.agg #[.int .i64 a0_0, .slice (some ad732) l0_1.length c0_1], .int .i64 x13_1, .int .i64 x13_1] ?_; (with_reducible refine (impl_Order_better.calls a0_0 _ _ l0_1 x13_1 x13_1 true _ ?_ ?_ A11.out).mono ?_); exact C_g HR0_1 HB; exact HC0_1.out; rintro e w14 ⟨rfl, hb⟩; refine ⟨_, rfl, ?_⟩; replace BK730 := blkB BK730 hb; replace HB := bst HB hb; clear hb))
      go_ret
      exact ⟨eqE, bel_g HB.out⟩
     ·replace c12 := Bool.eq_false_iff.mpr c12
      subst c12
      replace H := ifF H
      obtain ⟨t734, A15, H⟩ := obE H
      have H' := mkA H
      clear H
      obtain ⟨p732, q732, ad732, e732, hx732_0⟩ := atI HR0_1.out x13_1
      cases e732
      replace hx732_0 := (HB.out.cell (World.block_lt_of_cell? w _ hx732_0)).trans hx732_0
      obtain ⟨_, _, _, _⟩ := blk2 BK730
      go_wp2_with (first | ((with_reducible refine gate_callee (f := 31) rfl ?_); refine goesQ (some 21) Tryd.func31 #[.agg #[.int .i64 a0_0, .slice (some ad732) l0_1.length c0_1], .int .i64 x13_1, .int .i64 x13_1] ?_; (with_reducible refine (impl_Order_better.calls a0_0 _ _ l0_1 x13_1 x13_1 false _ ?_ ?_ A11.out).mono ?_); exact C_g HR0_1 HB; exact HC0_1.out; rintro e w17 ⟨rfl, hb⟩; refine ⟨_, rfl, ?_⟩; replace BK730 := blkB BK730 hb; replace HB := bst HB hb; clear hb) | ((with_reducible refine gate_callee (f := 72) rfl ?_); refine goesQ (some 23) Tryd.func72 #[.int .i64 (rd l0_1 x13_1)] ?_; (with_reducible refine (impl_members.calls k1 (rd l0_1 x13_1) t734 _ ?_ A15.out).mono ?_); exact Tab.below HTAB.out (bel_g HB.out); rintro e w18 ⟨v735, rfl, ho0, hb⟩; refine ⟨_, rfl, ?_⟩; have HO736 := rLo ho0 HB; replace BK730 := blkB BK730 hb; replace HB := bst HB hb; clear hb ho0; obtain ⟨Ao19, co19, rfl⟩ := Kd.R_slice HO736.out))
      go_loopg [25] k1 (fun kq v25 w' => ∃ (x25_2 : Int), v25 = .int .i64 x25_2 ∧ Fc (impl_IsOrder.l1 kq (rd l0_1 x13_1) l0_1 (l0_1.length : Int) x13_1 t734 (t734.length : Int) x25_2 a0_0 l0_1 = some r) ∧ Fc (kq ≤ k1) ∧ Fc (Kd.R (Kd.int .i64) 3 w' w.heap.size (fun _ => True) (.slice Ao19 t734.length co19) t734) ∧ Fc (w'.heap[gb730]? = some (.cells #[.int .i64 a0_0, (.slice (some ad732) l0_1.length c0_1)] 28 (0, 0))) ∧ Fc (Below w.heap.size w w'))
      case atStart => exact ⟨(0), eqS, H', ⟨Nat.le_refl _⟩, rg HO736, bg BK730, hbg HB⟩
      case round =>
       clear H'
       try clear c3
       try clear c8b0
       try clear c9
       try clear c9b0
       try clear c10
       try clear c10b0
       try clear c12
       try clear hx732_0
       try clear p732
       try clear q732
       obtain ⟨x25_2, rfl, HA, HK2, HO_23, BK730, HB⟩ := hrel
       cases gk with
       | zero => exact absurd HA.out (by simp [impl_IsOrder.l1])
       | succ k2 =>
        have H := HA.out
        clear HA
        simp only [impl_IsOrder.l1] at H
        rcases iteE H with ⟨c20b0, H⟩ | ⟨c20b0, H⟩
        ·obtain ⟨c21b0, H⟩ := itND H
         obtain ⟨c22b0, H⟩ := itND H
         obtain ⟨c23b0, H⟩ := itND H
         obtain ⟨c24b0, H⟩ := itND H
         rcases iteP H with ⟨c25, H⟩ | ⟨c25, H⟩
         ·have c25b0 := beq_iff_eq.mpr c25
          have c25b1 := bne_eq_false_iff_eq.mpr c25
          clear c25
          have H' := mkA H
          clear H
          obtain ⟨p737, q737, ad737, e737, hx737_0⟩ := atI (Kd.R_reads' HO_23.out).2.2 x25_2
          cases e737
          obtain ⟨_, _, _, _⟩ := blk2 BK730
          obtain ⟨p738, q738, ad738, e738, hx738_0⟩ := atI HR0_1.out (rd t734 x25_2)
          obtain rfl : ad732 = ad738 := (by injection e738)
          replace hx738_0 := (HB.out.cell (World.block_lt_of_cell? w _ hx738_0)).trans hx738_0
          go_wp2
          go_roundg k2
          case measure => have := HK1.out; have := HK2.out; omega
          case rel => exact ⟨(wrap64 (x25_2 + 1)), eqS, H', ⟨by have := HK1.out; have := HK2.out; omega⟩, rg HO_23, bg BK730, hbg HB⟩
         ·have c25b0 := beq_eq_false_iff_ne.mpr c25
          have c25b1 := bne_iff_ne.mpr c25
          obtain rfl := Option.some.inj H
          obtain ⟨p737, q737, ad737, e737, hx737_0⟩ := atI (Kd.R_reads' HO_23.out).2.2 x25_2
          cases e737
          obtain ⟨_, _, _, _⟩ := blk2 BK730
          obtain ⟨p738, q738, ad738, e738, hx738_0⟩ := atI HR0_1.out (rd t734 x25_2)
          obtain rfl : ad732 = ad738 := (by injection e738)
          replace hx738_0 := (HB.out.cell (World.block_lt_of_cell? w _ hx738_0)).trans hx738_0
          go_wp2
          go_ret
          exact ⟨eqE, bel_g HB.out⟩
        ·have H' := mkA H
         clear H
         go_wp2
         go_roundg k2
         case measure => have := HK1.out; have := HK2.out; omega
         case rel => exact ⟨(wrap64 (x13_1 + 1)), eqS, H', ⟨by have := HK1.out; have := HK2.out; omega⟩, bg BK730, hbg HB⟩
    ·obtain rfl := Option.some.inj H
     go_wp2
     go_ret
     exact ⟨eqE, bel_g HB.out⟩
 ·replace c3 := Bool.eq_false_iff.mpr c3
  subst c3
  replace H := ifF H
  obtain rfl := Option.some.inj H
  go_enter Tryd.func53, Tryd.ntmps53
  go_wp2_with (first | ((with_reducible refine gate_dst (N := 1) rfl ?_); refine boxG HB #[.int .i64 a0_0, .slice A0_1 l0_1.length c0_1] 28 ?_; intro gb730 hg w28 BK730 GE730 hb; replace HB := bst HB hb; clear hb hg; obtain ⟨_, _, _, _⟩ := blk2 BK730) | ((with_reducible refine gate_callee (f := 12) rfl ?_); refine goesQ (some 8) Tryd.func12 #[.agg #[.int .i64 a0_0, .slice A0_1 l0_1.length c0_1]] ?_; (with_reducible refine (impl_IsRelation.calls k a0_0 _ _ l0_1 false _ ?_ ?_ A2.out).mono ?_); exact C_g HR0_1 HB; exact HC0_1.out; rintro e w30 ⟨rfl, hb⟩; refine ⟨_, rfl, ?_⟩; replace BK730 := blkB BK730 hb; replace HB := bst HB hb; clear hb))
  go_ret
  exact ⟨eqE, bel_g HB.out⟩
end Go.Proofs.YtmdnbjhboppkdaaDoor.Q
