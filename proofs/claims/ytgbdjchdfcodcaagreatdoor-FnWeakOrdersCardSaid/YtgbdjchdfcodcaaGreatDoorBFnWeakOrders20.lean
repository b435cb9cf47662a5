import Derived.Test.YtgbdjchdfcodcaaGreatDoorBFnWeakOrders19
namespace Go.Proofs.YtgbdjchdfcodcaaGreatDoor.Q
open Go.RowKit Go.Proofs.YtgbdjchdfcodcaaGreatDoorW.PrintWords Go.Proofs.YtgbdjchdfcodcaaGreatDoorW.PrintLast Go.Proofs.YtgbdjchdfcodcaaGreatDoorW.PrintMore
attribute [local go_sem] max2_int min2_int max_two min_two max_three min_three max_four min_four neB_f
set_option linter.unusedVariables false
set_option maxHeartbeats 8000000
set_option maxRecDepth 100000
set_option linter.unusedSimpArgs false
def impl_ofLevels_1.f (a0 : Int) (a1 : Int) (l2_0 : List Int) : Option (Bool) := if 0 ≤ a1 then (if a1 < (l2_0.length : Int) then (if 0 ≤ a0 then (if a0 < (l2_0.length : Int) then (some (decide ((rd l2_0 a1) > (rd l2_0 a0)))) else (none)) else (none)) else (none)) else (none)
theorem impl_ofLevels_1.calls (a0 : Int) (a1 : Int) (gB2 : Nat) (A2_0 : Option Addr) (c2_0 : Nat) (l2_0 : List Int) (r : Bool) (w : World) (hb2 : w.heap[gB2]? = some (.cells #[.slice A2_0 l2_0.length c2_0] 24 (0, 0))) (hr2_0 : Kd.C (Kd.int .i64) w A2_0 l2_0.length l2_0) (hc2_0 : l2_0.length ≤ c2_0) (h : impl_ofLevels_1.f a0 a1 l2_0 = some r) :
  Calls Tryz.prog 55 #[.int .i64 a0, .int .i64 a1, .pointer (some ⟨gB2, 0, none⟩)] w fun e w' => e = .returned (.bool r) ∧ Drawn0 w w' := by
 have BK651 := mkA hb2
 clear hb2
 have HR2_0 := mkA hr2_0
 have HC2_0 := mkA hc2_0
 clear hr2_0 hc2_0
 have H := h
 clear h
 unfold impl_ofLevels_1.f at H
 obtain ⟨c4b0, H⟩ := itND H
 obtain ⟨c5b0, H⟩ := itND H
 obtain ⟨c6b0, H⟩ := itND H
 obtain ⟨c7b0, H⟩ := itND H
 obtain rfl := Option.some.inj H
 obtain ⟨_, _⟩ := blk1 BK651
 obtain ⟨p652, q652, ad652, e652, hx652_0⟩ := atI HR2_0.out a1
 cases e652
 obtain ⟨p653, q653, ad653, e653, hx653_0⟩ := atI HR2_0.out a0
 obtain rfl : ad652 = ad653 := (by injection e653)
 go_enter Tryz.func55, Tryz.ntmps55
 go_wp2
 repeat (go_quiet (fail); try go_wp2)
 go_ret
 exact ⟨eqS, drE⟩
def impl_ofLevels.f (k : Nat) (l0 : List Int) : Option (Int × List Int) := (impl_relation.f k (l0.length : Int) (fun u0_ u1_ => impl_ofLevels_1.f u0_ u1_ l0)).bind fun bt656 => (some (bt656.1, bt656.2))
theorem impl_ofLevels.mono : ∀ a0 k, LeO (impl_ofLevels.f k a0) (impl_ofLevels.f (k + 1) a0) := by
 intro a0 k
 unfold impl_ofLevels.f
 repeat' first
   | (with_reducible exact impl_relation.mono _ _ _)
   | (refine impl_relation.monoF ?_ _ _; intros)
   | (with_reducible exact impl_relation.mono _ _ _)
   | (with_reducible exact LeO.refl _)
   | (with_reducible exact LeO.none _)
   | (with_reducible refine LeO.ite ?_ ?_)
   | (with_reducible refine LeO.bind ?_ (fun _ => ?_))
   | exact impl_relation.mono _ _ _
   | exact LeO.none _
   | refine LeO.ite ?_ ?_
   | refine LeO.bind ?_ (fun _ => ?_)
theorem impl_ofLevels.calls (k : Nat) (A0 : Option Addr) (c0 : Nat) (l0 : List Int) (r1 : Int) (r2 : List Int) (w : World) (hr0 : Kd.C (Kd.int .i64) w A0 l0.length l0) (hc0 : l0.length ≤ c0) (h : impl_ofLevels.f k l0 = some (r1, r2)) :
  Calls Tryz.prog 33 #[.slice A0 l0.length c0] w fun e w' => ∃ v1_ : Value, e = .returned (.agg #[.int .i64 r1, v1_]) ∧ Kd.R (Kd.int .i64) 3 w' w.heap.size (fun _ => True) v1_ r2 ∧ Below w.heap.size w w' := by
 have hu26 := Tryz.underlying26
 have HR0 := mkA hr0
 have HC0 := mkA hc0
 clear hr0 hc0
 have HB := mkA (Below.refl w.heap.size w)
 have H := h
 clear h
 unfold impl_ofLevels.f at H
 obtain ⟨⟨t656, t657⟩, A2, H⟩ := obE H
 dsimp only at H
 simp only [Option.some.injEq, Prod.mk.injEq] at H
 obtain ⟨rfl, rfl⟩ := H
 go_enter Tryz.func33, Tryz.ntmps33
 go_wp2_with (first | ((with_reducible refine gate_dst (N := 1) rfl ?_); refine boxG HB #[.slice A0 l0.length c0] 24 ?_; intro gb654 hg w3 BK654 GE654 hb; replace HB := bst HB hb; clear hb hg) | ((with_reducible refine gate_dst (N := 2) rfl ?_); refine boxG HB #[.int .i64 0, .slice none 0 0] 26 ?_; intro gb655 hg w4 BK655 GE655 hb; have NB654_655 := neL7 BK654 hg; have NB655_654 := neR7 BK654 hg; replace BK654 := blkB BK654 hb; replace HB := bst HB hb; clear hb hg; obtain ⟨_, _⟩ := blk1 BK654) | ((with_reducible refine gate_callee (f := 36) rfl ?_); refine goesQ (some 6) Tryz.func36 #[.int .i64 (l0.length : Int), .func (.func 55) #[] #[.pointer (some ⟨gb654, 0, none⟩)]] ?_; (with_reducible refine (impl_relation.calls k (l0.length : Int) (fun u0_ u1_ => impl_ofLevels_1.f u0_ u1_ l0) 55 #[.pointer (some ⟨gb654, 0, none⟩)] (fun args_ W_ => enters_ Tryz.func55 (by kernel_rfl) rfl args_ W_) t656 t657 _ ?s1 A2.out).mono ?_); (case s1 => exact fun u0_ u1_ q_ W_ hb_ hq_ => (impl_ofLevels_1.calls u0_ u1_ gb654 A0 c0 l0 q_ W_ (blk_below (show _ = some (Obj.cells #[.slice A0 l0.length c0] 24 (0, 0)) from blkT BK654) hb_) (Kd.C_below (show Kd.C (Kd.int .i64) _ A0 l0.length l0 from by exact C_g HR0 HB) hb_) (by exact HC0.out) hq_).mono (fun _ _ h_ => ⟨h_.1, h_.2.below⟩)); rintro e w7 ⟨v658, rfl, ho0, hb⟩; refine ⟨_, rfl, ?_⟩; have HO659 := rLo ho0 HB; replace BK654 := blkB BK654 hb; replace BK655 := blkB BK655 hb; replace HB := bst HB hb; clear hb ho0; obtain ⟨_, _, _, _⟩ := blk2 BK655; obtain ⟨Ao9, co9, rfl⟩ := Kd.R_slice HO659.out))
 refine bodyPost_ret (results_cell_row rfl _ _ gb655 26 #[.int .i64 t656, .slice Ao9 t657.length co9] (0, 0) _ rfl (blkT BK655) Tryz.underlying26 rfl (by kernel_rfl)) rfl ?_
 exact ⟨_, eqE, Kd.R_g (Kd.R_mono (rF HO659 BK655) (fun _ _ => trivial)), bel_g HB.out⟩
def impl_OrderOfLevels.f (k : Nat) (l0 : List Int) : Option (Int × List Int × Bool) := (impl_AreLevels.f k l0).bind fun t661 => (if t661 = true then ((impl_ofLevels.f k l0).bind fun bt662 => (some (bt662.1, bt662.2, true))) else (some (0, ([] : List Int), false)))
theorem impl_OrderOfLevels.mono : ∀ a0 k, LeO (impl_OrderOfLevels.f k a0) (impl_OrderOfLevels.f (k + 1) a0) := by
 intro a0 k
 unfold impl_OrderOfLevels.f
 repeat' (with_reducible first|apply impl_AreLevels.mono|apply impl_ofLevels.mono|apply LeO.refl|apply LeO.none|apply LeO.ite|apply LeO.bind|intro)
theorem impl_OrderOfLevels.calls (k : Nat) (A0 : Option Addr) (c0 : Nat) (l0 : List Int) (r1 : Int) (r2 : List Int) (r3 : Bool) (w : World) (hr0 : Kd.C (Kd.int .i64) w A0 l0.length l0) (hc0 : l0.length ≤ c0) (h : impl_OrderOfLevels.f k l0 = some (r1, r2, r3)) :
  Calls Tryz.prog 13 #[.slice A0 l0.length c0] w fun e w' => ∃ v1_ : Value, e = .returned (.tuple #[.agg #[.int .i64 r1, v1_], .bool r3]) ∧ Kd.R (Kd.int .i64) 3 w' w.heap.size (fun _ => True) v1_ r2 ∧ Below w.heap.size w w' := by
 have hu26 := Tryz.underlying26
 have HR0 := mkA hr0
 have HC0 := mkA hc0
 clear hr0 hc0
 have HB := mkA (Below.refl w.heap.size w)
 have H := h
 clear h
 unfold impl_OrderOfLevels.f at H
 obtain ⟨t661, A2, H⟩ := obE H
 by_cases c3 : t661 = true
 ·subst c3
  replace H := ifT H
  obtain ⟨⟨t662, t663⟩, A4, H⟩ := obE H
  dsimp only at H
  simp only [Option.some.injEq, Prod.mk.injEq] at H
  obtain ⟨rfl, rfl, rfl⟩ := H
  go_enter Tryz.func13, Tryz.ntmps13
  go_wp2_with (first | ((with_reducible refine gate_dst (N := 2) rfl ?_); refine boxG HB #[.int .i64 0, .slice none 0 0] 26 ?_; intro gb660 hg w5 BK660 GE660 hb; replace HB := bst HB hb; clear hb hg) | ((with_reducible refine gate_callee (f := 19) rfl ?_); refine goesQ (some 5) Tryz.func19 #[.slice A0 l0.length c0] ?_; (with_reducible refine (impl_AreLevels.calls k _ _ l0 true _ ?_ ?_ A2.out).mono ?_); exact C_g HR0 HB; exact HC0.out; rintro e w6 ⟨rfl, hb⟩; refine ⟨_, rfl, ?_⟩; replace BK660 := blkB BK660 hb; replace HB := bst HB hb; clear hb) | ((with_reducible refine gate_callee (f := 33) rfl ?_); refine goesQ (some 9) Tryz.func33 #[.slice A0 l0.length c0] ?_; (with_reducible refine (impl_ofLevels.calls k _ _ l0 t662 t663 _ ?_ ?_ A4.out).mono ?_); exact C_g HR0 HB; exact HC0.out; rintro e w7 ⟨v664, rfl, ho0, hb⟩; refine ⟨_, rfl, ?_⟩; have HO665 := rLo ho0 HB; replace BK660 := blkB BK660 hb; replace HB := bst HB hb; clear hb ho0; obtain ⟨_, _, _, _⟩ := blk2 BK660; obtain ⟨Ao9, co9, rfl⟩ := Kd.R_slice HO665.out))
  refine bodyPost_ret (results_ct rfl _ _ gb660 26 #[.int .i64 t662, .slice Ao9 t663.length co9] (0, 0) _ rfl (blkT BK660) Tryz.underlying26 rfl (by kernel_rfl)) rfl ?_
  exact ⟨_, eqE, Kd.R_g (Kd.R_mono (rF HO665 BK660) (fun _ _ => trivial)), bel_g HB.out⟩
 ·replace c3 := Bool.eq_false_iff.mpr c3
  subst c3
  replace H := ifF H
  simp only [Option.some.injEq, Prod.mk.injEq] at H
  obtain ⟨rfl, rfl, rfl⟩ := H
  go_enter Tryz.func13, Tryz.ntmps13
  go_wp2_with (first | ((with_reducible refine gate_dst (N := 2) rfl ?_); refine boxG HB #[.int .i64 0, .slice none 0 0] 26 ?_; intro gb660 hg w10 BK660 GE660 hb; replace HB := bst HB hb; clear hb hg) | ((with_reducible refine gate_callee (f := 19) rfl ?_); refine goesQ (some 5) Tryz.func19 #[.slice A0 l0.length c0] ?_; (with_reducible refine (impl_AreLevels.calls k _ _ l0 false _ ?_ ?_ A2.out).mono ?_); exact C_g HR0 HB; exact HC0.out; rintro e w11 ⟨rfl, hb⟩; refine ⟨_, rfl, ?_⟩; replace BK660 := blkB BK660 hb; replace HB := bst HB hb; clear hb; obtain ⟨_, _, _, _⟩ := blk2 BK660))
  refine bodyPost_ret (results_ct rfl _ _ gb660 26 #[.int .i64 0, .slice none 0 0] (0, 0) _ rfl (blkT BK660) Tryz.underlying26 rfl (by kernel_rfl)) rfl ?_
  exact ⟨_, eqE, nilE, bel_g HB.out⟩
mutual
def impl_Order_twoTwo.l0 : Nat → Int → Int → Int → List Int → Option (List Int)
 | 0, _, _, _, _ => none
 | k + 1, x8, x9, x667000, x667001 => if x9 < x8 then (impl_Order_twoTwo.l1 k x9 x8 x9 x667000 0 x667000 x667001) else (some ([] : List Int))
def impl_Order_twoTwo.l1 : Nat → Int → Int → Int → Int → Int → Int → List Int → Option (List Int)
 | 0, _, _, _, _, _, _, _ => none
 | k + 1, x3, x8, x9, x13, x14, x667000, x667001 => if x14 < x13 then (impl_Order_twoTwo.l2 k x3 x14 x8 x9 x13 x14 x667000 0 x667000 x667001) else (impl_Order_twoTwo.l0 k x8 (wrap64 (x9 + 1)) x667000 x667001)
def impl_Order_twoTwo.l2 : Nat → Int → Int → Int → Int → Int → Int → Int → Int → Int → List Int → Option (List Int)
 | 0, _, _, _, _, _, _, _, _, _, _ => none
 | k + 1, x3, x4, x8, x9, x13, x14, x18, x19, x667000, x667001 => if x19 < x18 then (impl_Order_twoTwo.l3 k x3 x4 x19 x8 x9 x13 x14 x18 x19 x667000 0 x667000 x667001) else (impl_Order_twoTwo.l1 k x3 x8 x9 x13 (wrap64 (x14 + 1)) x667000 x667001)
def impl_Order_twoTwo.l3 : Nat → Int → Int → Int → Int → Int → Int → Int → Int → Int → Int → Int → Int → List Int → Option (List Int)
 | 0, _, _, _, _, _, _, _, _, _, _, _, _, _ => none
 | k + 1, x3, x4, x5, x8, x9, x13, x14, x18, x19, x23, x24, x667000, x667001 => if x24 < x23 then ((impl_Order_better.f x667000 x667001 x3 x4).bind fun t667 => (if t667 = true then ((impl_Order_better.f x667000 x667001 x5 x24).bind fun t668 => (if t668 = true then ((impl_Order_better.f x667000 x667001 x5 x4).bind fun t669 => (if t669 = true then (impl_Order_twoTwo.l3 k x3 x4 x5 x8 x9 x13 x14 x18 x19 x23 (wrap64 (x24 + 1)) x667000 x667001) else ((impl_Order_better.f x667000 x667001 x3 x24).bind fun t670 => (if t670 = true then (impl_Order_twoTwo.l3 k x3 x4 x5 x8 x9 x13 x14 x18 x19 x23 (wrap64 (x24 + 1)) x667000 x667001) else (some (([x3, x4, x5, x24] : List Int))))))) else (impl_Order_twoTwo.l3 k x3 x4 x5 x8 x9 x13 x14 x18 x19 x23 (wrap64 (x24 + 1)) x667000 x667001))) else (impl_Order_twoTwo.l3 k x3 x4 x5 x8 x9 x13 x14 x18 x19 x23 (wrap64 (x24 + 1)) x667000 x667001))) else (impl_Order_twoTwo.l2 k x3 x4 x8 x9 x13 x14 x18 (wrap64 (x19 + 1)) x667000 x667001)
end
def impl_Order_twoTwo.f (k : Nat) (a0_0 : Int) (l0_1 : List Int) : Option (List Int) := impl_Order_twoTwo.l0 k a0_0 0 a0_0 l0_1
theorem impl_Order_twoTwo.mono_l : ∀ k, (∀ y0 y1 y2 y3, LeO (impl_Order_twoTwo.l0 k y0 y1 y2 y3) (impl_Order_twoTwo.l0 (k + 1) y0 y1 y2 y3)) ∧ (∀ y0 y1 y2 y3 y4 y5 y6, LeO (impl_Order_twoTwo.l1 k y0 y1 y2 y3 y4 y5 y6) (impl_Order_twoTwo.l1 (k + 1) y0 y1 y2 y3 y4 y5 y6)) ∧ (∀ y0 y1 y2 y3 y4 y5 y6 y7 y8 y9, LeO (impl_Order_twoTwo.l2 k y0 y1 y2 y3 y4 y5 y6 y7 y8 y9) (impl_Order_twoTwo.l2 (k + 1) y0 y1 y2 y3 y4 y5 y6 y7 y8 y9)) ∧ (∀ y0 y1 y2 y3 y4 y5 y6 y7 y8 y9 y10 y11 y12, LeO (impl_Order_twoTwo.l3 k y0 y1 y2 y3 y4 y5 y6 y7 y8 y9 y10 y11 y12) (impl_Order_twoTwo.l3 (k + 1) y0 y1 y2 y3 y4 y5 y6 y7 y8 y9 y10 y11 y12))
 | 0 => ⟨fun _ _ _ _ r h => by simp [impl_Order_twoTwo.l0] at h, fun _ _ _ _ _ _ _ r h => by simp [impl_Order_twoTwo.l1] at h, fun _ _ _ _ _ _ _ _ _ _ r h => by simp [impl_Order_twoTwo.l2] at h, fun _ _ _ _ _ _ _ _ _ _ _ _ _ r h => by simp [impl_Order_twoTwo.l3] at h⟩
 | k + 1 => by
  obtain ⟨ih0, ih1, ih2, ih3⟩ := impl_Order_twoTwo.mono_l k
  refine ⟨?_, ?_, ?_, ?_⟩ <;> intros
  unfold impl_Order_twoTwo.l0
  rotate_left
  unfold impl_Order_twoTwo.l1
  rotate_left
  unfold impl_Order_twoTwo.l2
  rotate_left
  unfold impl_Order_twoTwo.l3
  rotate_left
  all_goals repeat' (with_reducible first|apply ih0|apply ih1|apply ih2|apply ih3|apply LeO.refl|apply LeO.none|apply LeO.ite|apply LeO.bind|intro)
theorem impl_Order_twoTwo.mono : ∀ a0 a1 k, LeO (impl_Order_twoTwo.f k a0 a1) (impl_Order_twoTwo.f (k + 1) a0 a1) := by
 intro a0 a1 k
 obtain ⟨ih0, ih1, ih2, ih3⟩ := impl_Order_twoTwo.mono_l k
 unfold impl_Order_twoTwo.f
 repeat' (with_reducible first|apply ih0|apply ih1|apply ih2|apply ih3|apply LeO.refl|apply LeO.none|apply LeO.ite|apply LeO.bind|intro)
theorem impl_Order_twoTwo.calls (k : Nat) (a0_0 : Int) (A0_1 : Option Addr) (c0_1 : Nat) (l0_1 : List Int) (r : List Int) (w : World) (hr0_1 : Kd.C (Kd.int .i64) w A0_1 l0_1.length l0_1) (hc0_1 : l0_1.length ≤ c0_1) (h : impl_Order_twoTwo.f k a0_0 l0_1 = some r) :
  Calls Tryz.prog 75 #[.agg #[.int .i64 a0_0, .slice A0_1 l0_1.length c0_1]] w fun e w' => ∃ v0_ : Value, e = .returned (v0_) ∧ Kd.R (Kd.int .i64) 3 w' w.heap.size (fun _ => True) v0_ r ∧ Below w.heap.size w w' ∧ (r = [] → v0_ = .slice none 0 0) := by
 have hu26 := Tryz.underlying26
 have HR0_1 := mkA hr0_1
 have HC0_1 := mkA hc0_1
 clear hr0_1 hc0_1
 have HB := mkA (Below.refl w.heap.size w)
 have H := h
 clear h
 unfold impl_Order_twoTwo.f at H
 have H' := mkA H
 clear H
 go_enter Tryz.func75, Tryz.ntmps75
 go_wp2_with (first | ((with_reducible refine gate_dst (N := 1) rfl ?_); refine boxG HB #[.int .i64 a0_0, .slice A0_1 l0_1.length c0_1] 26 ?_; intro gb666 hg w2 BK666 GE666 hb; replace HB := bst HB hb; clear hb hg; obtain ⟨_, _, _, _⟩ := blk2 BK666))
 go_loopg [9] k (fun kq v9 w' => ∃ (x9_1 : Int), v9 = .int .i64 x9_1 ∧ Fc (impl_Order_twoTwo.l0 kq a0_0 x9_1 a0_0 l0_1 = some r) ∧ Fc (kq ≤ k) ∧ Fc (w'.heap[gb666]? = some (.cells #[.int .i64 a0_0, (.slice A0_1 l0_1.length c0_1)] 26 (0, 0))) ∧ Fc (Below w.heap.size w w'))
 case atStart => exact ⟨(0), eqS, H', ⟨Nat.le_refl _⟩, bg BK666, hbg HB⟩
 case round =>
  clear H'
  obtain ⟨x9_1, rfl, HA, HK1, BK666, HB⟩ := hrel
  cases gk with
  | zero => exact absurd HA.out (by simp [impl_Order_twoTwo.l0])
  | succ k1 =>
   have H := HA.out
   clear HA
   simp only [impl_Order_twoTwo.l0] at H
   rcases iteE H with ⟨c4b0, H⟩ | ⟨c4b0, H⟩
   ·have H' := mkA H
    clear H
    obtain ⟨_, _, _, _⟩ := blk2 BK666
    go_wp2
    go_loopg [14] k1 (fun kq v14 w' => ∃ (x14_2 : Int), v14 = .int .i64 x14_2 ∧ Fc (impl_Order_twoTwo.l1 kq x9_1 a0_0 x9_1 a0_0 x14_2 a0_0 l0_1 = some r) ∧ Fc (kq ≤ k1) ∧ Fc (w'.heap[gb666]? = some (.cells #[.int .i64 a0_0, (.slice A0_1 l0_1.length c0_1)] 26 (0, 0))) ∧ Fc (Below w.heap.size w w'))
    case atStart => exact ⟨(0), eqS, H', ⟨Nat.le_refl _⟩, bg BK666, hbg HB⟩
    case round =>
     clear H'
     try clear c4b0
     obtain ⟨x14_2, rfl, HA, HK2, BK666, HB⟩ := hrel
     cases gk with
     | zero => exact absurd HA.out (by simp [impl_Order_twoTwo.l1])
     | succ k2 =>
      have H := HA.out
      clear HA
      simp only [impl_Order_twoTwo.l1] at H
      rcases iteE H with ⟨c6b0, H⟩ | ⟨c6b0, H⟩
      ·have H' := mkA H
       clear H
       obtain ⟨_, _, _, _⟩ := blk2 BK666
       go_wp2
       go_loopg [19] k2 (fun kq v19 w' => ∃ (x19_3 : Int), v19 = .int .i64 x19_3 ∧ Fc (impl_Order_twoTwo.l2 kq x9_1 x14_2 a0_0 x9_1 a0_0 x14_2 a0_0 x19_3 a0_0 l0_1 = some r) ∧ Fc (kq ≤ k2) ∧ Fc (w'.heap[gb666]? = some (.cells #[.int .i64 a0_0, (.slice A0_1 l0_1.length c0_1)] 26 (0, 0))) ∧ Fc (Below w.heap.size w w'))
       case atStart => exact ⟨(0), eqS, H', ⟨Nat.le_refl _⟩, bg BK666, hbg HB⟩
       case round =>
        clear H'
        try clear c4b0
        try clear c6b0
        obtain ⟨x19_3, rfl, HA, HK3, BK666, HB⟩ := hrel
        cases gk with
        | zero => exact absurd HA.out (by simp [impl_Order_twoTwo.l2])
        | succ k3 =>
         have H := HA.out
         clear HA
         simp only [impl_Order_twoTwo.l2] at H
         rcases iteE H with ⟨c8b0, H⟩ | ⟨c8b0, H⟩
         ·have H' := mkA H
          clear H
          obtain ⟨_, _, _, _⟩ := blk2 BK666
          go_wp2
          go_loopg [24] k3 (fun kq v24 w' => ∃ (x24_4 : Int), v24 = .int .i64 x24_4 ∧ Fc (impl_Order_twoTwo.l3 kq x9_1 x14_2 x19_3 a0_0 x9_1 a0_0 x14_2 a0_0 x19_3 a0_0 x24_4 a0_0 l0_1 = some r) ∧ Fc (kq ≤ k3) ∧ Fc (w'.heap[gb666]? = some (.cells #[.int .i64 a0_0, (.slice A0_1 l0_1.length c0_1)] 26 (0, 0))) ∧ Fc (Below w.heap.size w w'))
          case atStart => exact ⟨(0), eqS, H', ⟨Nat.le_refl _⟩, bg BK666, hbg HB⟩
          case round =>
           clear H'
           try clear c4b0
           try clear c6b0
           try clear c8b0
           obtain ⟨x24_4, rfl, HA, HK4, BK666, HB⟩ := hrel
           cases gk with
           | zero => exact absurd HA.out (by simp [impl_Order_twoTwo.l3])
           | succ k4 =>
            have H := HA.out
            clear HA
            simp only [impl_Order_twoTwo.l3] at H
            rcases iteE H with ⟨c10b0, H⟩ | ⟨c10b0, H⟩
            ·obtain ⟨t667, A11, H⟩ := obE H
             by_cases c12 : t667 = true
             ·subst c12
              replace H := ifT H
              obtain ⟨t668, A13, H⟩ := obE H
              by_cases c14 : t668 = true
              ·subst c14
               replace H := ifT H
               obtain ⟨t669, A15, H⟩ := obE H
               by_cases c16 : t669 = true
               ·subst c16
                replace H := ifT H
                have H' := mkA H
                clear H
                obtain ⟨_, _, _, _⟩ := blk2 BK666
                go_wp2_with (first | ((with_reducible refine gate_callee (f := 31) rfl ?_); refine goesQ (some 30) Tryz.func31 #[.agg #[.int .i64 a0_0, .slice A0_1 l0_1.length c0_1], .int .i64 x9_1, .int .i64 x14_2] ?_; (with_reducible refine (impl_Order_better.calls a0_0 _ _ l0_1 x9_1 x14_2 true _ ?_ ?_ A11.out).mono ?_); exact C_g HR0_1 HB; exact HC0_1.out; rintro e w18 ⟨rfl, hb⟩; refine ⟨_, rfl, ?_⟩; replace BK666 := blkB BK666 hb; replace HB := bst HB hb; clear hb; obtain ⟨_, _, _, _⟩ := blk2 BK666) | (go_at_call 31; (with_reducible refine (impl_Order_better.calls a0_0 _ _ l0_1 x19_3 x24_4 true _ ?_ ?_ A13.out).mono ?_); exact C_g HR0_1 HB; exact HC0_1.out; rintro e w20 ⟨rfl, hb⟩; replace BK666 := blkB BK666 hb; replace HB := bst HB hb; clear hb; obtain ⟨_, _, _, _⟩ := blk2 BK666) | (go_at_call 31; (with_reducible refine (impl_Order_better.calls a0_0 _ _ l0_1 x19_3 x14_2 true _ ?_ ?_ A15.out).mono ?_); exact C_g HR0_1 HB; exact HC0_1.out; rintro e w22 ⟨rfl, hb⟩; replace BK666 := blkB BK666 hb; replace HB := bst HB hb; clear hb))
                go_roundg k4
                case measure => have := HK1.out; have := HK2.out; have := HK3.out; have := HK4.out; omega
                case rel => exact ⟨(wrap64 (x24_4 + 1)), eqS, H', ⟨by have := HK1.out; have := HK2.out; have := HK3.out; have := HK4.out; omega⟩, bg BK666, hbg HB⟩
               ·replace c16 := Bool.eq_false_iff.mpr c16
                subst c16
                replace H := ifF H
                obtain ⟨t670, A23, H⟩ := obE H
                by_cases c24 : t670 = true
                ·subst c24
                 replace H := ifT H
                 have H' := mkA H
                 clear H
                 obtain ⟨_, _, _, _⟩ := blk2 BK666
                 go_wp2_with (first | ((with_reducible refine gate_callee (f := 31) rfl ?_); refine goesQ (some 30) Tryz.func31 #[.agg #[.int .i64 a0_0, .slice A0_1 l0_1.length c0_1], .int .i64 x9_1, .int .i64 x14_2] ?_; (with_reducible refine (impl_Order_better.calls a0_0 _ _ l0_1 x9_1 x14_2 true _ ?_ ?_ A11.out).mono ?_); exact C_g HR0_1 HB; exact HC0_1.out; rintro e w26 ⟨rfl, hb⟩; refine ⟨_, rfl, ?_⟩; replace BK666 := blkB BK666 hb; replace HB := bst HB hb; clear hb; obtain ⟨_, _, _, _⟩ := blk2 BK666) | (go_at_call 31; (with_reducible refine (impl_Order_better.calls a0_0 _ _ l0_1 x19_3 x24_4 true _ ?_ ?_ A13.out).mono ?_); exact C_g HR0_1 HB; exact HC0_1.out; rintro e w28 ⟨rfl, hb⟩; replace BK666 := blkB BK666 hb; replace HB := bst HB hb; clear hb; obtain ⟨_, _, _, _⟩ := blk2 BK666) | (go_at_call 31; (with_reducible refine (impl_Order_better.calls a0_0 _ _ l0_1 x19_3 x14_2 false _ ?_ ?_ A15.out).mono ?_); exact C_g HR0_1 HB; exact HC0_1.out; rintro e w30 ⟨rfl, hb⟩; replace BK666 := blkB BK666 hb; replace HB := bst HB hb; clear hb; obtain ⟨_, _, _, _⟩ := blk2 BK666) | (go_at_call 31; (with_reducible refine (impl_Order_better.calls a0_0 _ _ l0_1 x9_1 x24_4 true _ ?_ ?_ A23.out).mono ?_); exact C_g HR0_1 HB; exact HC0_1.out; rintro e w32 ⟨rfl, hb⟩; replace BK666 := blkB BK666 hb; replace HB := bst HB hb; clear hb))
                 go_roundg k4
                 case measure => have := HK1.out; have := HK2.out; have := HK3.out; have := HK4.out; omega
                 case rel => exact ⟨(wrap64 (x24_4 + 1)), eqS, H', ⟨by have := HK1.out; have := HK2.out; have := HK3.out; have := HK4.out; omega⟩, bg BK666, hbg HB⟩
                ·replace c24 := Bool.eq_false_iff.mpr c24
                 subst c24
                 replace H := ifF H
                 obtain ⟨y671, hy671⟩ : ∃ y_ : List Int, y_ = (([x9_1, x14_2, x19_3, x24_4] : List Int)) := ⟨_, rfl⟩
                 rw [← hy671] at H
                 have Ny671 := mkA hy671
                 clear hy671
                 obtain rfl := Option.some.inj H
                 obtain ⟨_, _, _, _⟩ := blk2 BK666
                 go_wp2_with (first | ((with_reducible refine gate_callee (f := 31) rfl ?_); refine goesQ (some 30) Tryz.func31 #[.agg #[.int .i64 a0_0, .slice A0_1 l0_1.length c0_1], .int .i64 x9_1, .int .i64 x14_2] ?_; (with_reducible refine (impl_Order_better.calls a0_0 _ _ l0_1 x9_1 x14_2 true _ ?_ ?_ A11.out).mono ?_); exact C_g HR0_1 HB; exact HC0_1.out; rintro e w34 ⟨rfl, hb⟩; refine ⟨_, rfl, ?_⟩; replace BK666 := blkB BK666 hb; replace HB := bst HB hb; clear hb; obtain ⟨_, _, _, _⟩ := blk2 BK666) | (go_at_call 31; (with_reducible refine (impl_Order_better.calls a0_0 _ _ l0_1 x19_3 x24_4 true _ ?_ ?_ A13.out).mono ?_); exact C_g HR0_1 HB; exact HC0_1.out; rintro e w36 ⟨rfl, hb⟩; replace BK666 := blkB BK666 hb; replace HB := bst HB hb; clear hb; obtain ⟨_, _, _, _⟩ := blk2 BK666) | (go_at_call 31; (with_reducible refine (impl_Order_better.calls a0_0 _ _ l0_1 x19_3 x14_2 false _ ?_ ?_ A15.out).mono ?_); exact C_g HR0_1 HB; exact HC0_1.out; rintro e w38 ⟨rfl, hb⟩; replace BK666 := blkB BK666 hb; replace HB := bst HB hb; clear hb; obtain ⟨_, _, _, _⟩ := blk2 BK666) | (go_at_call 31; (with_reducible refine (impl_Order_better.calls a0_0 _ _ l0_1 x9_1 x24_4 false _ ?_ ?_ A23.out).mono ?_); exact C_g HR0_1 HB; exact HC0_1.out; rintro e w40 ⟨rfl, hb⟩; replace BK666 := blkB BK666 hb; replace HB := bst HB hb; clear hb) | ((with_reducible refine gate_dst (N := 55) rfl ?_); refine litE (Kd.int .i64) 3 ([x9_1, x14_2, x19_3, x24_4] : List Int) [.int .i64 x9_1, .int .i64 x14_2, .int .i64 x19_3, .int .i64 x24_4] ?hp ?_; (case hp => exact (Reps.one (show Kd.M (Kd.int .i64) _ _ _ x9_1 [.int .i64 x9_1] from rfl) (Reps.one (show Kd.M (Kd.int .i64) _ _ _ x14_2 [.int .i64 x14_2] from rfl) (Reps.one (show Kd.M (Kd.int .i64) _ _ _ x19_3 [.int .i64 x19_3] from rfl) (Reps.one (show Kd.M (Kd.int .i64) _ _ _ x24_4 [.int .i64 x24_4] from rfl) (Reps.none _ _)))))); intro v672 w41 ho42 hb hg_ hnew_; clear hg_ hnew_; (first | rw [← Ny671.out] at ho42 | (simp only [Int.reduceToNat] at ho42; rw [← Ny671.out] at ho42)); have HO673 := rLo ho42 HB; replace BK666 := blkB BK666 hb; replace HB := bst HB hb; clear hb ho42))
                 go_ret
                 exact ⟨_, eqE, Kd.R_g HO673.out, bel_g HB.out, by first | rfl | (intro _; rfl) | (intro h_; simp at h_; done) | (intro h_; rw [Ny671.out] at h_; simp at h_; done)⟩
              ·replace c14 := Bool.eq_false_iff.mpr c14
               subst c14
               replace H := ifF H
               have H' := mkA H
               clear H
               obtain ⟨_, _, _, _⟩ := blk2 BK666
               go_wp2_with (first | ((with_reducible refine gate_callee (f := 31) rfl ?_); refine goesQ (some 30) Tryz.func31 #[.agg #[.int .i64 a0_0, .slice A0_1 l0_1.length c0_1], .int .i64 x9_1, .int .i64 x14_2] ?_; (with_reducible refine (impl_Order_better.calls a0_0 _ _ l0_1 x9_1 x14_2 true _ ?_ ?_ A11.out).mono ?_); exact C_g HR0_1 HB; exact HC0_1.out; rintro e w44 ⟨rfl, hb⟩; refine ⟨_, rfl, ?_⟩; replace BK666 := blkB BK666 hb; replace HB := bst HB hb; clear hb; obtain ⟨_, _, _, _⟩ := blk2 BK666) | (go_at_call 31; (with_reducible refine (impl_Order_better.calls a0_0 _ _ l0_1 x19_3 x24_4 false _ ?_ ?_ A13.out).mono ?_); exact C_g HR0_1 HB; exact HC0_1.out; rintro e w46 ⟨rfl, hb⟩; replace BK666 := blkB BK666 hb; replace HB := bst HB hb; clear hb))
               go_roundg k4
               case measure => have := HK1.out; have := HK2.out; have := HK3.out; have := HK4.out; omega
               case rel => exact ⟨(wrap64 (x24_4 + 1)), eqS, H', ⟨by have := HK1.out; have := HK2.out; have := HK3.out; have := HK4.out; omega⟩, bg BK666, hbg HB⟩
             ·replace c12 := Bool.eq_false_iff.mpr c12
              subst c12
              replace H := ifF H
              have H' := mkA H
              clear H
              obtain ⟨_, _, _, _⟩ := blk2 BK666
              go_wp2_with (first | ((with_reducible refine gate_callee (f := 31) rfl ?_); refine goesQ (some 30) Tryz.func31 #[.agg #[.int .i64 a0_0, .slice A0_1 l0_1.length c0_1], .int .i64 x9_1, .int .i64 x14_2] ?_; (with_reducible refine (impl_Order_better.calls a0_0 _ _ l0_1 x9_1 x14_2 false _ ?_ ?_ A11.out).mono ?_); exact C_g HR0_1 HB; exact HC0_1.out; rintro e w48 ⟨rfl, hb⟩; refine ⟨_, rfl, ?_⟩; replace BK666 := blkB BK666 hb; replace HB := bst HB hb; clear hb))
              go_roundg k4
              case measure => have := HK1.out; have := HK2.out; have := HK3.out; have := HK4.out; omega
              case rel => exact ⟨(wrap64 (x24_4 + 1)), eqS, H', ⟨by have := HK1.out; have := HK2.out; have := HK3.out; have := HK4.out; omega⟩, bg BK666, hbg HB⟩
            ·have H' := mkA H
             clear H
             go_wp2
             go_roundg k4
             case measure => have := HK1.out; have := HK2.out; have := HK3.out; have := HK4.out; omega
             case rel => exact ⟨(wrap64 (x19_3 + 1)), eqS, H', ⟨by have := HK1.out; have := HK2.out; have := HK3.out; have := HK4.out; omega⟩, bg BK666, hbg HB⟩
         ·have H' := mkA H
          clear H
          go_wp2
          go_roundg k3
          case measure => have := HK1.out; have := HK2.out; have := HK3.out; omega
          case rel => exact ⟨(wrap64 (x14_2 + 1)), eqS, H', ⟨by have := HK1.out; have := HK2.out; have := HK3.out; omega⟩, bg BK666, hbg HB⟩
      ·have H' := mkA H
       clear H
       go_wp2
       go_roundg k2
       case measure => have := HK1.out; have := HK2.out; omega
       case rel => exact ⟨(wrap64 (x9_1 + 1)), eqS, H', ⟨by have := HK1.out; have := HK2.out; omega⟩, bg BK666, hbg HB⟩
   ·obtain rfl := Option.some.inj H
    go_wp2
    go_ret
    exact ⟨_, eqE, nilE, bel_g HB.out, by first | rfl | (intro _; rfl) | (intro h_; simp at h_; done)⟩
end Go.Proofs.YtgbdjchdfcodcaaGreatDoor.Q
