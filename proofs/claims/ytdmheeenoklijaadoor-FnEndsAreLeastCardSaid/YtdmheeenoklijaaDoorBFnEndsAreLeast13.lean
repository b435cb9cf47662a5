import Derived.Test.YtdmheeenoklijaaDoorBFnEndsAreLeast4
namespace Go.Proofs.YtdmheeenoklijaaDoor.Q
open Go.RowKit Go.Proofs.YtdmheeenoklijaaDoorW.PrintWords Go.Proofs.YtdmheeenoklijaaDoorW.PrintLast Go.Proofs.YtdmheeenoklijaaDoorW.PrintMore
attribute [local go_sem] max2_int min2_int max_two min_two max_three min_three max_four min_four neB_f
set_option linter.unusedVariables false
set_option maxHeartbeats 8000000
set_option maxRecDepth 100000
set_option linter.unusedSimpArgs false
def impl_AreIntervals.l0 : Nat → List (S39) → List (S39) → Int → Int → Option (Bool)
 | 0, _, _, _, _ => none
 | k + 1, x0, x5, x6, x7 => if x7 < x6 then (if 0 ≤ x7 then (if x7 < (x5.length : Int) then ((impl_within.f ((rd_T39 x5 x7).f0) (-1000) 1000).bind fun t671 => (if t671 = true then ((impl_within.f ((rd_T39 x5 x7).f1) ((rd_T39 x5 x7).f0) 1000).bind fun t672 => (if t672 = true then (impl_AreIntervals.l0 k x0 x5 x6 (wrap64 (x7 + 1))) else (some false))) else (some false))) else (none)) else (none)) else (some (decide ((x0.length : Int) ≤ 10)))
def impl_AreIntervals.f (k : Nat) (l0 : List (S39)) : Option (Bool) := impl_AreIntervals.l0 k l0 l0 (l0.length : Int) 0
theorem impl_AreIntervals.mono_l : ∀ k, (∀ y0 y1 y2 y3, LeO (impl_AreIntervals.l0 k y0 y1 y2 y3) (impl_AreIntervals.l0 (k + 1) y0 y1 y2 y3))
 | 0 => fun _ _ _ _ r h => by simp [impl_AreIntervals.l0] at h
 | k + 1 => by
  have ih0 := impl_AreIntervals.mono_l k
  ·intro y0 y1 y2 y3
   unfold impl_AreIntervals.l0
   repeat' (with_reducible first|apply ih0|apply LeO.refl|apply LeO.none|apply LeO.ite|apply LeO.bind|intro)
theorem impl_AreIntervals.mono : ∀ a0 k, LeO (impl_AreIntervals.f k a0) (impl_AreIntervals.f (k + 1) a0) := by
 intro a0 k
 have ih0 := impl_AreIntervals.mono_l k
 unfold impl_AreIntervals.f
 repeat' (with_reducible first|apply ih0|apply LeO.refl|apply LeO.none|apply LeO.ite|apply LeO.bind|intro)
theorem impl_AreIntervals.calls (k : Nat) (A0 : Option Addr) (c0 : Nat) (l0 : List (S39)) (r : Bool) (w : World) (hr0 : Kd.C k39 w A0 l0.length l0) (hc0 : l0.length ≤ c0) (h : impl_AreIntervals.f k l0 = some r) :
  Calls Tryd.prog 20 #[.slice A0 l0.length c0] w fun e w' => e = .returned (.bool r) ∧ Below w.heap.size w w' := by
 have hu39 := Tryd.underlying39
 have HR0 := mkA hr0
 have HC0 := mkA hc0
 clear hr0 hc0
 have HB := mkA (Below.refl w.heap.size w)
 have H := h
 clear h
 unfold impl_AreIntervals.f at H
 have H' := mkA H
 clear H
 go_enter Tryd.func20, Tryd.ntmps20
 go_wp2
 go_loopg [7] k (fun kq v7 w' => ∃ (x7_1 : Int), v7 = .int .i64 x7_1 ∧ Fc (impl_AreIntervals.l0 kq l0 l0 (l0.length : Int) x7_1 = some r) ∧ Fc (kq ≤ k) ∧ Fc (Below w.heap.size w w'))
 case atStart => exact ⟨(0), eqS, H', ⟨Nat.le_refl _⟩, hbg HB⟩
 case round =>
  clear H'
  obtain ⟨x7_1, rfl, HA, HK1, HB⟩ := hrel
  cases gk with
  | zero => exact absurd HA.out (by simp [impl_AreIntervals.l0])
  | succ k1 =>
   have H := HA.out
   clear HA
   simp only [impl_AreIntervals.l0] at H
   rcases iteE H with ⟨c2b0, H⟩ | ⟨c2b0, H⟩
   ·obtain ⟨c3b0, H⟩ := itND H
    obtain ⟨c4b0, H⟩ := itND H
    obtain ⟨t671, A5, H⟩ := obE H
    by_cases c6 : t671 = true
    ·subst c6
     replace H := ifT H
     obtain ⟨t672, A7, H⟩ := obE H
     by_cases c8 : t672 = true
     ·subst c8
      replace H := ifT H
      have H' := mkA H
      clear H
      have p669 : 0 ≤ (x7_1 : Int) := ofd
      have q669 : x7_1 < (l0.length : Int) := ofd
      obtain ⟨ad669, e669, hx669_0, hx669_1⟩ := at_T39 HR0.out x7_1 p669 q669
      cases e669
      replace hx669_0 := (HB.out.cell (World.block_lt_of_cell? w _ hx669_0)).trans hx669_0
      replace hx669_1 := (HB.out.cell (World.block_lt_of_cell? w _ hx669_1)).trans hx669_1
      replace p669 := eq_true p669
      replace q669 := eq_true q669
      go_wp2_with (first | ((with_reducible refine gate_dst (N := 4) rfl ?_); refine boxG HB #[.int .i64 0, .int .i64 0] 39 ?_; intro gb670 hg w9 BK670 GE670 hb; replace HB := bst HB hb; clear hb hg; obtain ⟨_, _, _, _⟩ := blk2 BK670) | ((with_reducible refine gate_callee (f := 45) rfl ?_); refine goesQ (some 13) Tryd.func45 #[.int .i64 ((rd_T39 l0 x7_1).f0), .int .i64 (-1000), .int .i64 1000] ?_; (with_reducible refine (impl_within.calls ((rd_T39 l0 x7_1).f0) (-1000) 1000 true _ A5.out).mono ?_); rintro e w' ⟨rfl, ⟨nd, rfl⟩⟩; refine ⟨_, rfl, ?_⟩) | (go_at_call 45; (with_reducible refine (impl_within.calls ((rd_T39 l0 x7_1).f1) ((rd_T39 l0 x7_1).f0) 1000 true _ A7.out).mono ?_); rintro e w' ⟨rfl, ⟨nd, rfl⟩⟩))
      go_roundg k1
      case measure => have := HK1.out; omega
      case rel => exact ⟨(wrap64 (x7_1 + 1)), eqS, H', ⟨by have := HK1.out; omega⟩, hbg HB⟩
     ·replace c8 := Bool.eq_false_iff.mpr c8
      subst c8
      replace H := ifF H
      obtain rfl := Option.some.inj H
      have p669 : 0 ≤ (x7_1 : Int) := ofd
      have q669 : x7_1 < (l0.length : Int) := ofd
      obtain ⟨ad669, e669, hx669_0, hx669_1⟩ := at_T39 HR0.out x7_1 p669 q669
      cases e669
      replace hx669_0 := (HB.out.cell (World.block_lt_of_cell? w _ hx669_0)).trans hx669_0
      replace hx669_1 := (HB.out.cell (World.block_lt_of_cell? w _ hx669_1)).trans hx669_1
      replace p669 := eq_true p669
      replace q669 := eq_true q669
      go_wp2_with (first | ((with_reducible refine gate_dst (N := 4) rfl ?_); refine boxG HB #[.int .i64 0, .int .i64 0] 39 ?_; intro gb670 hg w11 BK670 GE670 hb; replace HB := bst HB hb; clear hb hg; obtain ⟨_, _, _, _⟩ := blk2 BK670) | ((with_reducible refine gate_callee (f := 45) rfl ?_); refine goesQ (some 13) Tryd.func45 #[.int .i64 ((rd_T39 l0 x7_1).f0), .int .i64 (-1000), .int .i64 1000] ?_; (with_reducible refine (impl_within.calls ((rd_T39 l0 x7_1).f0) (-1000) 1000 true _ A5.out).mono ?_); rintro e w' ⟨rfl, ⟨nd, rfl⟩⟩; refine ⟨_, rfl, ?_⟩) | (go_at_call 45; (with_reducible refine (impl_within.calls ((rd_T39 l0 x7_1).f1) ((rd_T39 l0 x7_1).f0) 1000 false _ A7.out).mono ?_); rintro e w' ⟨rfl, ⟨nd, rfl⟩⟩))
      go_ret
      exact ⟨eqE, bel_g HB.out⟩
    ·replace c6 := Bool.eq_false_iff.mpr c6
     subst c6
     replace H := ifF H
     obtain rfl := Option.some.inj H
     have p669 : 0 ≤ (x7_1 : Int) := ofd
     have q669 : x7_1 < (l0.length : Int) := ofd
     obtain ⟨ad669, e669, hx669_0, hx669_1⟩ := at_T39 HR0.out x7_1 p669 q669
     cases e669
     replace hx669_0 := (HB.out.cell (World.block_lt_of_cell? w _ hx669_0)).trans hx669_0
     replace hx669_1 := (HB.out.cell (World.block_lt_of_cell? w _ hx669_1)).trans hx669_1
     replace p669 := eq_true p669
     replace q669 := eq_true q669
     go_wp2_with (first | ((with_reducible refine gate_dst (N := 4) rfl ?_); refine boxG HB #[.int .i64 0, .int .i64 0] 39 ?_; intro gb670 hg w13 BK670 GE670 hb; replace HB := bst HB hb; clear hb hg; obtain ⟨_, _, _, _⟩ := blk2 BK670) | ((with_reducible refine gate_callee (f := 45) rfl ?_); refine goesQ (some 13) Tryd.func45 #[.int .i64 ((rd_T39 l0 x7_1).f0), .int .i64 (-1000), .int .i64 1000] ?_; (with_reducible refine (impl_within.calls ((rd_T39 l0 x7_1).f0) (-1000) 1000 false _ A5.out).mono ?_); rintro e w' ⟨rfl, ⟨nd, rfl⟩⟩; refine ⟨_, rfl, ?_⟩))
     go_ret
     exact ⟨eqE, bel_g HB.out⟩
   ·obtain rfl := Option.some.inj H
    go_wp2
    go_ret
    exact ⟨eqE, bel_g HB.out⟩
def impl_orderOf_1.f (a0 : Int) (a1 : Int) (l2_0 : List (S39)) : Option (Bool) := if 0 ≤ a0 then (if a0 < (l2_0.length : Int) then (if 0 ≤ a1 then (if a1 < (l2_0.length : Int) then (some (decide (((rd_T39 l2_0 a0).f1) < ((rd_T39 l2_0 a1).f0)))) else (none)) else (none)) else (none)) else (none)
theorem impl_orderOf_1.calls (a0 : Int) (a1 : Int) (gB2 : Nat) (A2_0 : Option Addr) (c2_0 : Nat) (l2_0 : List (S39)) (r : Bool) (w : World) (hb2 : w.heap[gB2]? = some (.cells #[.slice A2_0 l2_0.length c2_0] 28 (0, 0))) (hr2_0 : Kd.C k39 w A2_0 l2_0.length l2_0) (hc2_0 : l2_0.length ≤ c2_0) (h : impl_orderOf_1.f a0 a1 l2_0 = some r) :
  Calls Tryd.prog 67 #[.int .i64 a0, .int .i64 a1, .pointer (some ⟨gB2, 0, none⟩)] w fun e w' => e = .returned (.bool r) ∧ Drawn0 w w' := by
 have BK682 := mkA hb2
 clear hb2
 have HR2_0 := mkA hr2_0
 have HC2_0 := mkA hc2_0
 clear hr2_0 hc2_0
 have H := h
 clear h
 unfold impl_orderOf_1.f at H
 obtain ⟨c4b0, H⟩ := itND H
 obtain ⟨c5b0, H⟩ := itND H
 obtain ⟨c6b0, H⟩ := itND H
 obtain ⟨c7b0, H⟩ := itND H
 obtain rfl := Option.some.inj H
 obtain ⟨_, _⟩ := blk1 BK682
 have p683 : 0 ≤ (a0 : Int) := ofd
 have q683 : a0 < (l2_0.length : Int) := ofd
 obtain ⟨ad683, e683, hx683_0, hx683_1⟩ := at_T39 HR2_0.out a0 p683 q683
 cases e683
 replace p683 := eq_true p683
 replace q683 := eq_true q683
 have p684 : 0 ≤ (a1 : Int) := ofd
 have q684 : a1 < (l2_0.length : Int) := ofd
 obtain ⟨ad684, e684, hx684_0, hx684_1⟩ := at_T39 HR2_0.out a1 p684 q684
 obtain rfl : ad683 = ad684 := (by injection e684)
 replace p684 := eq_true p684
 replace q684 := eq_true q684
 go_enter Tryd.func67, Tryd.ntmps67
 go_wp2
 repeat (go_quiet (fail); try go_wp2)
 go_ret
 exact ⟨eqS, drE⟩
def impl_orderOf.f (k : Nat) (l0 : List (S39)) : Option (Int × List Int) := (impl_relation.f k (l0.length : Int) (fun u0_ u1_ => impl_orderOf_1.f u0_ u1_ l0)).bind fun bt687 => (some (bt687.1, bt687.2))
theorem impl_orderOf.mono : ∀ a0 k, LeO (impl_orderOf.f k a0) (impl_orderOf.f (k + 1) a0) := by
 intro a0 k
 unfold impl_orderOf.f
 repeat' first
   | (with_reducible exact impl_relation.mono _ _ _)
   | (refine impl_relation.monoF ?_ _ _; intros)
   | (with_reducible exact impl_relation.mono _ _ _)
   | (with_reducible exact LeO.refl _)
   | (with_reducible exact LeO.none _)
   | (with_reducible refine LeO.ite ?_ ?_)
   | (with_reducible refine LeO.bind ?_ (fun _ => ?_))
   | exact impl_relation.mono _ _ _
   | exact LeO.none _
   | refine LeO.ite ?_ ?_
   | refine LeO.bind ?_ (fun _ => ?_)
theorem impl_orderOf.calls (k : Nat) (A0 : Option Addr) (c0 : Nat) (l0 : List (S39)) (r1 : Int) (r2 : List Int) (w : World) (hr0 : Kd.C k39 w A0 l0.length l0) (hc0 : l0.length ≤ c0) (h : impl_orderOf.f k l0 = some (r1, r2)) :
  Calls Tryd.prog 40 #[.slice A0 l0.length c0] w fun e w' => ∃ v1_ : Value, e = .returned (.agg #[.int .i64 r1, v1_]) ∧ Kd.R (Kd.int .i64) 3 w' w.heap.size (fun _ => True) v1_ r2 ∧ Below w.heap.size w w' := by
 have hu26 := Tryd.underlying26
 have HR0 := mkA hr0
 have HC0 := mkA hc0
 clear hr0 hc0
 have HB := mkA (Below.refl w.heap.size w)
 have H := h
 clear h
 unfold impl_orderOf.f at H
 obtain ⟨⟨t687, t688⟩, A2, H⟩ := obE H
 dsimp only at H
 simp only [Option.some.injEq, Prod.mk.injEq] at H
 obtain ⟨rfl, rfl⟩ := H
 go_enter Tryd.func40, Tryd.ntmps40
 go_wp2_with (first | ((with_reducible refine gate_dst (N := 1) rfl ?_); refine boxG HB #[.slice A0 l0.length c0] 28 ?_; intro gb685 hg w3 BK685 GE685 hb; replace HB := bst HB hb; clear hb hg) | ((with_reducible refine gate_dst (N := 2) rfl ?_); refine boxG HB #[.int .i64 0, .slice none 0 0] 26 ?_; intro gb686 hg w4 BK686 GE686 hb; have NB685_686 := neL7 BK685 hg; have NB686_685 := neR7 BK685 hg; replace BK685 := blkB BK685 hb; replace HB := bst HB hb; clear hb hg; obtain ⟨_, _⟩ := blk1 BK685) | ((with_reducible refine gate_callee (f := 63) rfl ?_); refine goesQ (some 6) Tryd.func63 #[.int .i64 (l0.length : Int), .func (.func 67) #[] #[.pointer (some ⟨gb685, 0, none⟩)]] ?_; (with_reducible refine (impl_relation.calls k (l0.length : Int) (fun u0_ u1_ => impl_orderOf_1.f u0_ u1_ l0) 67 #[.pointer (some ⟨gb685, 0, none⟩)] (fun args_ W_ => enters_ Tryd.func67 (by kernel_rfl) rfl args_ W_) t687 t688 _ ?s1 A2.out).mono ?_); (case s1 => exact fun u0_ u1_ q_ W_ hb_ hq_ => (impl_orderOf_1.calls u0_ u1_ gb685 A0 c0 l0 q_ W_ (blk_below (show _ = some (Obj.cells #[.slice A0 l0.length c0] 28 (0, 0)) from blkT BK685) hb_) (Kd.C_below (show Kd.C k39 _ A0 l0.length l0 from by exact C_g HR0 HB) hb_) (by exact HC0.out) hq_).mono (fun _ _ h_ => ⟨h_.1, h_.2.below⟩)); rintro e w7 ⟨v689, rfl, ho0, hb⟩; refine ⟨_, rfl, ?_⟩; have HO690 := rLo ho0 HB; replace BK685 := blkB BK685 hb; replace BK686 := blkB BK686 hb; replace HB := bst HB hb; clear hb ho0; obtain ⟨_, _, _, _⟩ := blk2 BK686; obtain ⟨Ao9, co9, rfl⟩ := Kd.R_slice HO690.out))
 refine bodyPost_ret (results_cell_row rfl _ _ gb686 26 #[.int .i64 t687, .slice Ao9 t688.length co9] (0, 0) _ rfl (blkT BK686) Tryd.underlying26 rfl (by kernel_rfl)) rfl ?_
 exact ⟨_, eqE, Kd.R_g (Kd.R_mono (rF HO690 BK686) (fun _ _ => trivial)), bel_g HB.out⟩
def slices_Equal_int_int.l0 : Nat → List Int → List Int → Int → Int → Option (Bool)
 | 0, _, _, _, _ => none
 | k + 1, x0, x1, x12, x13 => if x13 < x12 then (if 0 ≤ x13 then (if x13 < (x0.length : Int) then (if x13 < (x1.length : Int) then (if (rd x0 x13) = (rd x1 x13) then (slices_Equal_int_int.l0 k x0 x1 x12 (wrap64 (x13 + 1))) else (some false)) else (none)) else (none)) else (none)) else (some true)
def slices_Equal_int_int.f (k : Nat) (l0 : List Int) (l1 : List Int) : Option (Bool) := if (l0.length : Int) = (l1.length : Int) then (slices_Equal_int_int.l0 k l0 l1 (l0.length : Int) 0) else (some false)
theorem slices_Equal_int_int.mono_l : ∀ k, (∀ y0 y1 y2 y3, LeO (slices_Equal_int_int.l0 k y0 y1 y2 y3) (slices_Equal_int_int.l0 (k + 1) y0 y1 y2 y3))
 | 0 => fun _ _ _ _ r h => by simp [slices_Equal_int_int.l0] at h
 | k + 1 => by
  have ih0 := slices_Equal_int_int.mono_l k
  ·intro y0 y1 y2 y3
   unfold slices_Equal_int_int.l0
   repeat' (with_reducible first|apply ih0|apply LeO.refl|apply LeO.none|apply LeO.ite|apply LeO.bind|intro)
theorem slices_Equal_int_int.mono : ∀ a0 a1 k, LeO (slices_Equal_int_int.f k a0 a1) (slices_Equal_int_int.f (k + 1) a0 a1) := by
 intro a0 a1 k
 have ih0 := slices_Equal_int_int.mono_l k
 unfold slices_Equal_int_int.f
 repeat' (with_reducible first|apply ih0|apply LeO.refl|apply LeO.none|apply LeO.ite|apply LeO.bind|intro)
theorem slices_Equal_int_int.calls (k : Nat) (A0 : Option Addr) (c0 : Nat) (l0 : List Int) (A1 : Option Addr) (c1 : Nat) (l1 : List Int) (r : Bool) (w : World) (hr0 : Kd.C (Kd.int .i64) w A0 l0.length l0) (hc0 : l0.length ≤ c0) (hr1 : Kd.C (Kd.int .i64) w A1 l1.length l1) (hc1 : l1.length ≤ c1) (h : slices_Equal_int_int.f k l0 l1 = some r) :
  Calls Tryd.prog 68 #[.slice A0 l0.length c0, .slice A1 l1.length c1] w fun e w' => e = .returned (.bool r) ∧ Drawn0 w w' := by
 have HR0 := mkA hr0
 have HC0 := mkA hc0
 clear hr0 hc0
 have HR1 := mkA hr1
 have HC1 := mkA hc1
 clear hr1 hc1
 have H := h
 clear h
 unfold slices_Equal_int_int.f at H
 rcases iteP H with ⟨c3, H⟩ | ⟨c3, H⟩
 ·have c3b0 := beq_iff_eq.mpr c3
  have c3b1 := bne_eq_false_iff_eq.mpr c3
  have c3b2 : (l0.length == l1.length) = true := by first | simpa using c3 | (simp at c3 ⊢; omega)
  clear c3
  have H' := mkA H
  clear H
  go_enter Tryd.func68, Tryd.ntmps68
  go_wp2
  repeat (go_quiet (fail); try go_wp2)
  go_loopg [13] k (fun kq v13 w' => ∃ (x13_1 : Int), v13 = .int .i64 x13_1 ∧ Fc (slices_Equal_int_int.l0 kq l0 l1 (l0.length : Int) x13_1 = some r) ∧ Fc (kq ≤ k) ∧ Drawn0 w w')
  case atStart => exact ⟨(0), eqS, H', ⟨Nat.le_refl _⟩, by repeat (first | exact Drawn0.refl _ | apply Drawn0.step)⟩
  case round =>
   clear H'
   try clear c1
   try clear c3
   try clear c3b0
   try clear c3b1
   try clear c3b2
   obtain ⟨x13_1, rfl, HA, HK1, ⟨m1, rfl⟩⟩ := hrel
   cases gk with
   | zero => exact absurd HA.out (by simp [slices_Equal_int_int.l0])
   | succ k1 =>
    have H := HA.out
    clear HA
    simp only [slices_Equal_int_int.l0] at H
    rcases iteE H with ⟨c4b0, H⟩ | ⟨c4b0, H⟩
    ·obtain ⟨c5b0, H⟩ := itND H
     obtain ⟨c6b0, H⟩ := itND H
     obtain ⟨c7b0, H⟩ := itND H
     rcases iteP H with ⟨c8, H⟩ | ⟨c8, H⟩
     ·have c8b0 := beq_iff_eq.mpr c8
      have c8b1 := bne_eq_false_iff_eq.mpr c8
      clear c8
      have H' := mkA H
      clear H
      obtain ⟨p691, q691, ad691, e691, hx691_0⟩ := atI HR0.out x13_1
      cases e691
      obtain ⟨p692, q692, ad692, e692, hx692_0⟩ := atI HR1.out x13_1
      cases e692
      go_wp2
      repeat (go_quiet (fail); try go_wp2)
      go_roundg k1
      case measure => have := HK1.out; omega
      case rel => exact ⟨(wrap64 (x13_1 + 1)), eqS, H', ⟨by have := HK1.out; omega⟩, by repeat (first | exact Drawn0.refl _ | apply Drawn0.step)⟩
     ·have c8b0 := beq_eq_false_iff_ne.mpr c8
      have c8b1 := bne_iff_ne.mpr c8
      obtain rfl := Option.some.inj H
      obtain ⟨p691, q691, ad691, e691, hx691_0⟩ := atI HR0.out x13_1
      cases e691
      obtain ⟨p692, q692, ad692, e692, hx692_0⟩ := atI HR1.out x13_1
      cases e692
      go_wp2
      repeat (go_quiet (fail); try go_wp2)
      go_ret
      exact ⟨eqS, drE⟩
    ·obtain rfl := Option.some.inj H
     go_wp2
     repeat (go_quiet (fail); try go_wp2)
     go_ret
     exact ⟨eqS, drE⟩
 ·have c3b0 := beq_eq_false_iff_ne.mpr c3
  have c3b1 := bne_iff_ne.mpr c3
  have c3b2 : (l0.length == l1.length) = false := by first | simpa using c3 | (simp at c3 ⊢; omega)
  obtain rfl := Option.some.inj H
  go_enter Tryd.func68, Tryd.ntmps68
  go_wp2
  repeat (go_quiet (fail); try go_wp2)
  go_ret
  exact ⟨eqS, drE⟩
def impl_Order_same.f (k : Nat) (a0_0 : Int) (l0_1 : List Int) (a1_0 : Int) (l1_1 : List Int) : Option (Bool) := if a0_0 = a1_0 then ((slices_Equal_int_int.f k l0_1 l1_1).bind fun t695 => (some t695)) else (some false)
theorem impl_Order_same.mono : ∀ a0 a1 a2 a3 k, LeO (impl_Order_same.f k a0 a1 a2 a3) (impl_Order_same.f (k + 1) a0 a1 a2 a3) := by
 intro a0 a1 a2 a3 k
 unfold impl_Order_same.f
 repeat' (with_reducible first|apply slices_Equal_int_int.mono|apply LeO.refl|apply LeO.none|apply LeO.ite|apply LeO.bind|intro)
theorem impl_Order_same.calls (k : Nat) (a0_0 : Int) (A0_1 : Option Addr) (c0_1 : Nat) (l0_1 : List Int) (a1_0 : Int) (A1_1 : Option Addr) (c1_1 : Nat) (l1_1 : List Int) (r : Bool) (w : World) (hr0_1 : Kd.C (Kd.int .i64) w A0_1 l0_1.length l0_1) (hc0_1 : l0_1.length ≤ c0_1) (hr1_1 : Kd.C (Kd.int .i64) w A1_1 l1_1.length l1_1) (hc1_1 : l1_1.length ≤ c1_1) (h : impl_Order_same.f k a0_0 l0_1 a1_0 l1_1 = some r) :
  Calls Tryd.prog 41 #[.agg #[.int .i64 a0_0, .slice A0_1 l0_1.length c0_1], .agg #[.int .i64 a1_0, .slice A1_1 l1_1.length c1_1]] w fun e w' => e = .returned (.bool r) ∧ Below w.heap.size w w' := by
 have hu26 := Tryd.underlying26
 have HR0_1 := mkA hr0_1
 have HC0_1 := mkA hc0_1
 clear hr0_1 hc0_1
 have HR1_1 := mkA hr1_1
 have HC1_1 := mkA hc1_1
 clear hr1_1 hc1_1
 have HB := mkA (Below.refl w.heap.size w)
 have H := h
 clear h
 unfold impl_Order_same.f at H
 rcases iteP H with ⟨c3, H⟩ | ⟨c3, H⟩
 ·have c3b0 := beq_iff_eq.mpr c3
  have c3b1 := bne_eq_false_iff_eq.mpr c3
  clear c3
  obtain ⟨t695, A4, H⟩ := obE H
  obtain rfl := Option.some.inj H
  go_enter Tryd.func41, Tryd.ntmps41
  go_wp2_with (first | ((with_reducible refine gate_dst (N := 2) rfl ?_); refine boxG HB #[.int .i64 a0_0, .slice A0_1 l0_1.length c0_1] 26 ?_; intro gb693 hg w5 BK693 GE693 hb; replace HB := bst HB hb; clear hb hg) | ((with_reducible refine gate_dst (N := 3) rfl ?_); refine boxG HB #[.int .i64 a1_0, .slice A1_1 l1_1.length c1_1] 26 ?_; intro gb694 hg w6 BK694 GE694 hb; have NB693_694 := neL7 BK693 hg; have NB694_693 := neR7 BK693 hg; replace BK693 := blkB BK693 hb; replace HB := bst HB hb; clear hb hg; obtain ⟨_, _, _, _⟩ := blk2 BK693; obtain ⟨_, _, _, _⟩ := blk2 BK694) | (go_at_call 68; (with_reducible refine (slices_Equal_int_int.calls k _ _ l0_1 _ _ l1_1 t695 _ ?_ ?_ ?_ ?_ A4.out).mono ?_); exact C_g HR0_1 HB; exact HC0_1.out; exact C_g HR1_1 HB; exact HC1_1.out; rintro e w' ⟨rfl, ⟨nd, rfl⟩⟩))
  go_ret
  exact ⟨eqE, bel_g HB.out⟩
 ·have c3b0 := beq_eq_false_iff_ne.mpr c3
  have c3b1 := bne_iff_ne.mpr c3
  obtain rfl := Option.some.inj H
  go_enter Tryd.func41, Tryd.ntmps41
  go_wp2_with (first | ((with_reducible refine gate_dst (N := 2) rfl ?_); refine boxG HB #[.int .i64 a0_0, .slice A0_1 l0_1.length c0_1] 26 ?_; intro gb693 hg w10 BK693 GE693 hb; replace HB := bst HB hb; clear hb hg) | ((with_reducible refine gate_dst (N := 3) rfl ?_); refine boxG HB #[.int .i64 a1_0, .slice A1_1 l1_1.length c1_1] 26 ?_; intro gb694 hg w11 BK694 GE694 hb; have NB693_694 := neL7 BK693 hg; have NB694_693 := neR7 BK693 hg; replace BK693 := blkB BK693 hb; replace HB := bst HB hb; clear hb hg; obtain ⟨_, _, _, _⟩ := blk2 BK693; obtain ⟨_, _, _, _⟩ := blk2 BK694))
  go_ret
  exact ⟨eqE, bel_g HB.out⟩
end Go.Proofs.YtdmheeenoklijaaDoor.Q
