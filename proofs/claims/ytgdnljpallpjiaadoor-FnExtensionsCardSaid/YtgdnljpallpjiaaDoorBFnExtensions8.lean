import Derived.Test.YtgdnljpallpjiaaDoorBFnExtensions7
namespace Go.Proofs.YtgdnljpallpjiaaDoor.Q
open Go.RowKit Go.Proofs.YtgdnljpallpjiaaDoorW.PrintWords Go.Proofs.YtgdnljpallpjiaaDoorW.PrintLast Go.Proofs.YtgdnljpallpjiaaDoorW.PrintMore
attribute [local go_sem] max2_int min2_int max_two min_two max_three min_three max_four min_four neB_f
set_option linter.unusedVariables false
set_option maxHeartbeats 8000000
set_option maxRecDepth 100000
set_option linter.unusedSimpArgs false
def bits_TrailingZeros.f (a0 : Int) : Option (Int) := (bits_TrailingZeros64.f a0).bind fun t256 => (some t256)
theorem bits_TrailingZeros.calls (a0 : Int) (r : Int) (w : World) (hTAB : Tab w) (h : bits_TrailingZeros.f a0 = some r) :
  Calls Tryd.prog 47 #[.int .u64 a0] w fun e w' => e = .returned (.int .i64 r) ∧ Drawn0 w w' := by
 have HTAB := mkA hTAB
 clear hTAB
 have H := h
 clear h
 unfold bits_TrailingZeros.f at H
 obtain ⟨t256, A2, H⟩ := obE H
 obtain rfl := Option.some.inj H
 go_enter Tryd.func47, Tryd.ntmps47
 go_wp2_with (first | ((with_reducible refine gate_callee (f := 50) rfl ?_); refine goesQ (some 7) Tryd.func50 #[.int .u64 a0] ?_; (with_reducible refine (bits_TrailingZeros64.calls a0 t256 _ ?s1 A2.out).mono ?_); (case s1 => first | exact HTAB.out | exact Tab.drewN HTAB.out _ | exact Tab.below HTAB.out (bel_g HB.out) | exact Tab.below HTAB.out (by repeat (first | exact Below.refl _ _ | apply below_alloc | apply pw_below_drewN | apply below_drew1))); rintro e w' ⟨rfl, ⟨nd, rfl⟩⟩; refine ⟨_, rfl, ?_⟩))
 go_ret
 exact ⟨by first | rfl | (simp; done) | (simp [*]; done), by repeat (first | exact Drawn0.refl _ | apply Drawn0.step)⟩
def impl_members.l0 : Nat → Int → List Int → Option (List Int)
 | 0, _, _ => none
 | k + 1, x0, x3 => if x0 = 0 then (some x3) else ((bits_TrailingZeros.f (IntKind.u64.wrap (x0))).bind fun t260 => (if x3.length < 17592186044416 then (impl_members.l0 k (Go.bits .and .i64 x0 (wrap64 (x0 - 1))) (x3 ++ [t260])) else (none)))
def impl_members.f (k : Nat) (a0 : Int) : Option (List Int) := impl_members.l0 k a0 (([] : List Int))
theorem impl_members.mono_l : ∀ k, (∀ y0 y1, LeO (impl_members.l0 k y0 y1) (impl_members.l0 (k + 1) y0 y1))
 | 0 => fun _ _ r h => by simp [impl_members.l0] at h
 | k + 1 => by
  have ih0 := impl_members.mono_l k
  ·intro y0 y1
   unfold impl_members.l0
   repeat' (with_reducible first|exact ih0 _ _|exact LeO.refl _|exact LeO.none _|refine LeO.ite ?_ ?_|refine LeO.bind ?_ (fun _ => ?_))
theorem impl_members.mono : ∀ a0 k, LeO (impl_members.f k a0) (impl_members.f (k + 1) a0) := by
 intro a0 k
 have ih0 := impl_members.mono_l k
 unfold impl_members.f
 repeat' (with_reducible first|exact ih0 _ _|exact LeO.refl _|exact LeO.none _|refine LeO.ite ?_ ?_|refine LeO.bind ?_ (fun _ => ?_))
theorem impl_members.calls (k : Nat) (a0 : Int) (r : List Int) (w : World) (hTAB : Tab w) (h : impl_members.f k a0 = some r) :
  Calls Tryd.prog 36 #[.int .i64 a0] w fun e w' => ∃ v0_ : Value, e = .returned (v0_) ∧ Kd.R (Kd.int .i64) 3 w' w.heap.size (fun _ => True) v0_ r ∧ Below w.heap.size w w' := by
 have HTAB := mkA hTAB
 clear hTAB
 have HB := mkA (Below.refl w.heap.size w)
 have H := h
 clear h
 unfold impl_members.f at H
 obtain ⟨y257, hy257⟩ : ∃ y_ : List Int, y_ = (([] : List Int)) := ⟨_, rfl⟩
 replace H : (impl_members.l0 k a0 y257) = some r := by first | (rw [hy257]; with_reducible exact H) | (have H2_ := (Option.bind_some _ _).symm.trans H; rw [hy257]; with_reducible exact H2_) | (have H2_ := (Option.bind_some _ _).symm.trans H; with_reducible exact H2_) | with_reducible exact H | (rw [hy257]; exact H) | exact H
 have Ny257 := mkA hy257
 clear hy257
 have H' := mkA H
 clear H
 go_enter Tryd.func36, Tryd.ntmps36
 go_wp2_with (first | ((with_reducible refine gate_dst (N := 4) rfl ?_); refine Kd.R_lit (Kd.int .i64) _ 3 ?hg (N := 4) ?hd (xs := ([] : List Int)) (inner := []) (ok := fun _ => True) (okp := fun _ => True) ?hr ?hp (fun _ hk => hk) trivial (Below.refl _ _) (Nat.le_refl _) (by simp) ?_; (case hd => rfl); (case hg => rfl); (case hr => first | (go_simp; done) | (go_simp; rfl)); (case hp => exact (Reps.none _ _)); intro v258 w2 ho3 hb hg_ hnew_; clear hg_ hnew_; (first | rw [← Ny257.out] at ho3 | (simp only [Int.reduceToNat] at ho3; rw [← Ny257.out] at ho3)); have HO259 := mkA (Kd.R_lower ho3 (below_size (bel_g HB.out))); replace HB := bst HB hb; clear hb ho3))
 go_loopg [0, 3] k (fun kq v0 v3 w' => ∃ (x0_1 : Int) (x3_1 : List Int), v0 = .int .i64 x0_1 ∧ Fc (impl_members.l0 kq x0_1 x3_1 = some r) ∧ Fc (kq ≤ k) ∧ Fc (Kd.R (Kd.int .i64) 3 w' w.heap.size (fun _ => True) v3 x3_1) ∧ Fc (Below w.heap.size w w'))
 case atStart => exact ⟨(a0), (y257), eqS, H', ⟨Nat.le_refl _⟩, ⟨Kd.R_g HO259.out⟩, ⟨bel_g HB.out⟩⟩
 case round =>
  clear H'
  obtain ⟨x0_1, x3_1, rfl, HA, HK1, HO_3, HB⟩ := hrel
  cases gk with
  | zero => exact absurd HA.out (by simp [impl_members.l0])
  | succ k1 =>
   have H := HA.out
   clear HA
   simp only [impl_members.l0] at H
   rcases iteP H with ⟨c4, H⟩ | ⟨c4, H⟩
   ·have c4b0 : (x0_1 == 0) = true := beq_iff_eq.mpr c4
    have c4b1 : (x0_1 != 0) = false := bne_eq_false_iff_eq.mpr c4
    clear c4
    obtain rfl := Option.some.inj H
    go_wp2
    go_ret
    exact ⟨_, eqE, by (with_reducible repeat (first | apply Kd.R_alloc | apply Kd.R_drewN | apply Kd.R_drew)); exact HO_3.out, bel_g HB.out⟩
   ·have c4b0 : (x0_1 == 0) = false := beq_eq_false_iff_ne.mpr c4
    have c4b1 : (x0_1 != 0) = true := bne_iff_ne.mpr c4
    obtain ⟨t260, A5, H⟩ := obE H
    obtain ⟨c6, H⟩ := itNP H
    have LMc6 := mkA c6
    clear c6
    obtain ⟨y261, hy261⟩ : ∃ y_ : List Int, y_ = (x3_1 ++ [t260]) := ⟨_, rfl⟩
    replace H : (impl_members.l0 k1 (Go.bits .and .i64 x0_1 (wrap64 (x0_1 - 1))) y261) = some r := by first | (rw [hy261]; with_reducible exact H) | (have H2_ := (Option.bind_some _ _).symm.trans H; rw [hy261]; with_reducible exact H2_) | (have H2_ := (Option.bind_some _ _).symm.trans H; with_reducible exact H2_) | with_reducible exact H | (rw [hy261]; exact H) | exact H
    have Ny261 := mkA hy261
    clear hy261
    have H' := mkA H
    clear H
    go_wp2_with (first | ((with_reducible refine gate_callee (f := 47) rfl ?_); refine goesQ (some 14) Tryd.func47 #[.int .u64 (IntKind.u64.wrap (x0_1))] ?_; (with_reducible refine (bits_TrailingZeros.calls (IntKind.u64.wrap (x0_1)) t260 _ ?s1 A5.out).mono ?_); (case s1 => exact Tab.below HTAB.out (bel_g HB.out)); rintro e w' ⟨rfl, ⟨nd, rfl⟩⟩; refine ⟨_, rfl, ?_⟩) | ((with_reducible refine gate_builtin (b := .append) (xs := #[.tmp 11, .tmp 15]) rfl ?_); at_builtin; refine Kd.R_append (Kd.int .i64) (w0 := w) w.heap.size rfl (.tmp 11) (.tmp 15) 24 3 (.int .i64 0) 8 rfl Tryd.underlying24 info3 rfl (by decide) (by omega) u3 x3_1 t260 [.int .i64 t260] (fun _ => True) (fun _ => False) rfl rfl ?aP (fun _ hk => hk.elim) ?aF ?aO ?aB ?aS ?aL ?_; (case aP => exact rfl); (case aB => exact (bel_g HB.out)); (case aF => exact (fun _ _ => trivial)); (case aO => exact (Kd.R_g HO_3.out)); (case aS => exact (below_size (bel_g HB.out))); (case aL => have := LMc6.out; omega); intro v262 w7 ho hb hg hat; rw [← Ny261.out] at ho; have HO263 := mkA (ho); replace HB := mkA (hb); clear HO_3; clear ho hb hg hat))
    go_roundg k1
    case measure => have := HK1.out; omega
    case rel => exact ⟨(Go.bits .and .i64 x0_1 (wrap64 (x0_1 - 1))), (y261), eqS, H', ⟨by have := HK1.out; omega⟩, ⟨Kd.R_g HO263.out⟩, ⟨bel_g HB.out⟩⟩
mutual
def impl_IsOrder.l0 : Nat → List Int → Int → Int → Int → List Int → Option (Bool)
 | 0, _, _, _, _, _ => none
 | k + 1, x11, x12, x13, x265000, x265001 => if x13 < x12 then (if 0 ≤ x13 then (if x13 < (x11.length : Int) then ((impl_Order_better.f x265000 x265001 x13 x13).bind fun t267 => (if t267 = true then (some false) else ((impl_members.f k (rd x11 x13)).bind fun t268 => (impl_IsOrder.l1 k (rd x11 x13) x11 x12 x13 t268 (t268.length : Int) 0 x265000 x265001)))) else (none)) else (none)) else (some true)
def impl_IsOrder.l1 : Nat → Int → List Int → Int → Int → List Int → Int → Int → Int → List Int → Option (Bool)
 | 0, _, _, _, _, _, _, _, _, _ => none
 | k + 1, x4, x11, x12, x13, x23, x24, x25, x265000, x265001 => if x25 < x24 then (if 0 ≤ x25 then (if x25 < (x23.length : Int) then (if 0 ≤ (rd x23 x25) then (if (rd x23 x25) < (x265001.length : Int) then (if (Go.bits .andNot .i64 (rd x265001 (rd x23 x25)) x4) = 0 then (impl_IsOrder.l1 k x4 x11 x12 x13 x23 x24 (wrap64 (x25 + 1)) x265000 x265001) else (some false)) else (none)) else (none)) else (none)) else (none)) else (impl_IsOrder.l0 k x11 x12 (wrap64 (x13 + 1)) x265000 x265001)
end
def impl_IsOrder.f (k : Nat) (a0_0 : Int) (l0_1 : List Int) : Option (Bool) := (impl_IsRelation.f k a0_0 l0_1).bind fun t265 => (if t265 = true then (impl_IsOrder.l0 k l0_1 (l0_1.length : Int) 0 a0_0 l0_1) else (some false))
theorem impl_IsOrder.mono_l : ∀ k, (∀ y0 y1 y2 y3 y4, LeO (impl_IsOrder.l0 k y0 y1 y2 y3 y4) (impl_IsOrder.l0 (k + 1) y0 y1 y2 y3 y4)) ∧ (∀ y0 y1 y2 y3 y4 y5 y6 y7 y8, LeO (impl_IsOrder.l1 k y0 y1 y2 y3 y4 y5 y6 y7 y8) (impl_IsOrder.l1 (k + 1) y0 y1 y2 y3 y4 y5 y6 y7 y8))
 | 0 => ⟨fun _ _ _ _ _ r h => by simp [impl_IsOrder.l0] at h, fun _ _ _ _ _ _ _ _ _ r h => by simp [impl_IsOrder.l1] at h⟩
 | k + 1 => by
  obtain ⟨ih0, ih1⟩ := impl_IsOrder.mono_l k
  refine ⟨?_, ?_⟩ <;> intros
  unfold impl_IsOrder.l0
  rotate_left
  unfold impl_IsOrder.l1
  rotate_left
  all_goals repeat' (with_reducible first|exact ih0 _ _ _ _ _|exact ih1 _ _ _ _ _ _ _ _ _|exact impl_IsRelation.mono _ _ _|exact impl_members.mono _ _|exact LeO.refl _|exact LeO.none _|refine LeO.ite ?_ ?_|refine LeO.bind ?_ (fun _ => ?_))
theorem impl_IsOrder.mono : ∀ a0 a1 k, LeO (impl_IsOrder.f k a0 a1) (impl_IsOrder.f (k + 1) a0 a1) := by
 intro a0 a1 k
 obtain ⟨ih0, ih1⟩ := impl_IsOrder.mono_l k
 unfold impl_IsOrder.f
 repeat' (with_reducible first|exact ih0 _ _ _ _ _|exact ih1 _ _ _ _ _ _ _ _ _|exact impl_IsRelation.mono _ _ _|exact impl_members.mono _ _|exact LeO.refl _|exact LeO.none _|refine LeO.ite ?_ ?_|refine LeO.bind ?_ (fun _ => ?_))
theorem impl_IsOrder.calls (k : Nat) (a0_0 : Int) (A0_1 : Option Addr) (c0_1 : Nat) (l0_1 : List Int) (r : Bool) (w : World) (hr0_1 : Kd.C (Kd.int .i64) w A0_1 l0_1.length l0_1) (hc0_1 : l0_1.length ≤ c0_1) (hTAB : Tab w) (h : impl_IsOrder.f k a0_0 l0_1 = some r) :
  Calls Tryd.prog 20 #[.agg #[.int .i64 a0_0, .slice A0_1 l0_1.length c0_1]] w fun e w' => e = .returned (.bool r) ∧ Below w.heap.size w w' := by
 have HTAB := mkA hTAB
 clear hTAB
 have hu26 := Tryd.underlying26
 have HR0_1 := mkA hr0_1
 have HC0_1 := mkA hc0_1
 clear hr0_1 hc0_1
 have HB := mkA (Below.refl w.heap.size w)
 have H := h
 clear h
 unfold impl_IsOrder.f at H
 obtain ⟨t265, A2, H⟩ := obE H
 by_cases c3 : t265 = true
 ·subst c3
  replace H := ifT H
  have H' := mkA H
  clear H
  go_enter Tryd.func20, Tryd.ntmps20
  go_wp2_with (first | ((with_reducible refine gate_dst (N := 1) rfl ?_); refine boxE (N := 1) (cs := #[.int .i64 a0_0, .slice A0_1 l0_1.length c0_1]) (t := 26) ?_; intro gb264 hg w4 hbox hb; have BK264 := mkA (hbox); have GE264 := geB HB hg; replace HB := bst HB hb; clear hb hbox hg; obtain ⟨hcz5_0, hcz5_1, hfz5_0, hfz5_1⟩ := blk2 BK264) | ((with_reducible refine gate_callee (f := 35) rfl ?_); refine goesQ (some 8) Tryd.func35 #[.agg #[.int .i64 a0_0, .slice A0_1 l0_1.length c0_1]] ?_; (with_reducible refine (impl_IsRelation.calls k a0_0 _ _ l0_1 true _ ?s1 ?s2 A2.out).mono ?_); (case s1 => exact C_g HR0_1 HB); (case s2 => exact HC0_1.out); rintro e w6 ⟨rfl, hb⟩; refine ⟨_, rfl, ?_⟩; replace BK264 := blkB BK264 hb; replace HB := bst HB hb; (try clear hb); obtain ⟨hcz7_0, hcz7_1, hfz7_0, hfz7_1⟩ := blk2 BK264))
  go_loopg [13] k (fun kq v13 w' => ∃ (x13_1 : Int), v13 = .int .i64 x13_1 ∧ Fc (impl_IsOrder.l0 kq l0_1 (l0_1.length : Int) x13_1 a0_0 l0_1 = some r) ∧ Fc (kq ≤ k) ∧ Fc (w'.heap[gb264]? = some (.cells #[.int .i64 a0_0, (.slice A0_1 l0_1.length c0_1)] 26 (0, 0))) ∧ Fc (Below w.heap.size w w'))
  case atStart => exact ⟨(0), eqS, H', ⟨Nat.le_refl _⟩, ⟨blk_g BK264.out⟩, ⟨bel_g HB.out⟩⟩
  case round =>
   clear H'
   try clear c3
   obtain ⟨x13_1, rfl, HA, HK1, BK264, HB⟩ := hrel
   cases gk with
   | zero => exact absurd HA.out (by simp [impl_IsOrder.l0])
   | succ k1 =>
    have H := HA.out
    clear HA
    simp only [impl_IsOrder.l0] at H
    rcases iteE H with ⟨c8b0, H⟩ | ⟨c8b0, H⟩
    ·obtain ⟨c9, H⟩ := itNP H
     have c9b0 : decide (0 ≤ x13_1) = true := decide_eq_true c9
     clear c9
     obtain ⟨c10, H⟩ := itNP H
     have c10b0 : decide (x13_1 < (l0_1.length : Int)) = true := decide_eq_true c10
     clear c10
     obtain ⟨t267, A11, H⟩ := obE H
     by_cases c12 : t267 = true
     ·subst c12
      replace H := ifT H
      obtain rfl := Option.some.inj H
      have p266 : 0 ≤ (x13_1 : Int) := ofd
      have q266 : x13_1 < (l0_1.length : Int) := ofd
      obtain ⟨ad266, e266, hx266_0⟩ := Kd.at_int HR0_1.out x13_1 p266 q266
      cases e266
      replace hx266_0 := (HB.out.cell (World.block_lt_of_cell? w _ hx266_0)).trans hx266_0
      replace p266 := eq_true p266
      replace q266 := eq_true q266
      obtain ⟨hcz13_0, hcz13_1, hfz13_0, hfz13_1⟩ := blk2 BK264
      go_wp2_with (first | ((with_reducible refine gate_callee (f := 31) rfl ?_); refine goesQ (some 21) Tryd.func31 #[.agg #[.int .i64 a0_0, .slice (some ad266) l0_1.length c0_1], .int .i64 x13_1, .int .i64 x13_1] ?_; (with_reducible refine (impl_Order_better.calls a0_0 _ _ l0_1 x13_1 x13_1 true _ ?s1 ?s2 A11.out).mono ?_); (case s1 => exact C_g HR0_1 HB); (case s2 => exact HC0_1.out); rintro e w14 ⟨rfl, hb⟩; refine ⟨_, rfl, ?_⟩; replace BK264 := blkB BK264 hb; replace HB := bst HB hb; (try clear hb)))
      go_ret
      exact ⟨eqE, bel_g HB.out⟩
     ·replace c12 := Bool.eq_false_iff.mpr c12
      subst c12
      replace H := ifF H
      obtain ⟨t268, A15, H⟩ := obE H
      have H' := mkA H
      clear H
      have p266 : 0 ≤ (x13_1 : Int) := ofd
      have q266 : x13_1 < (l0_1.length : Int) := ofd
      obtain ⟨ad266, e266, hx266_0⟩ := Kd.at_int HR0_1.out x13_1 p266 q266
      cases e266
      replace hx266_0 := (HB.out.cell (World.block_lt_of_cell? w _ hx266_0)).trans hx266_0
      replace p266 := eq_true p266
      replace q266 := eq_true q266
      obtain ⟨hcz16_0, hcz16_1, hfz16_0, hfz16_1⟩ := blk2 BK264
      go_wp2_with (first | ((with_reducible refine gate_callee (f := 31) rfl ?_); refine goesQ (some 21) Tryd.func31 #[.agg #[.int .i64 a0_0, .slice (some ad266) l0_1.length c0_1], .int .i64 x13_1, .int .i64 x13_1] ?_; (with_reducible refine (impl_Order_better.calls a0_0 _ _ l0_1 x13_1 x13_1 false _ ?s1 ?s2 A11.out).mono ?_); (case s1 => exact C_g HR0_1 HB); (case s2 => exact HC0_1.out); rintro e w17 ⟨rfl, hb⟩; refine ⟨_, rfl, ?_⟩; replace BK264 := blkB BK264 hb; replace HB := bst HB hb; (try clear hb)) | ((with_reducible refine gate_callee (f := 36) rfl ?_); refine goesQ (some 23) Tryd.func36 #[.int .i64 (rd l0_1 x13_1)] ?_; (with_reducible refine (impl_members.calls k1 (rd l0_1 x13_1) t268 _ ?s1 A15.out).mono ?_); (case s1 => exact Tab.below HTAB.out (bel_g HB.out)); rintro e w18 ⟨v269, rfl, ho0, hb⟩; refine ⟨_, rfl, ?_⟩; have HO270 := mkA (Kd.R_lower ho0 (below_size (bel_g HB.out))); replace BK264 := blkB BK264 hb; replace HB := bst HB hb; (try clear hb); (try clear ho0); obtain ⟨Ao19, co19, eo19⟩ := Kd.R_slice HO270.out; subst eo19))
      go_loopg [25] k1 (fun kq v25 w' => ∃ (x25_2 : Int), v25 = .int .i64 x25_2 ∧ Fc (impl_IsOrder.l1 kq (rd l0_1 x13_1) l0_1 (l0_1.length : Int) x13_1 t268 (t268.length : Int) x25_2 a0_0 l0_1 = some r) ∧ Fc (kq ≤ k1) ∧ Fc (Kd.R (Kd.int .i64) 3 w' w.heap.size (fun _ => True) (.slice Ao19 t268.length co19) t268) ∧ Fc (w'.heap[gb264]? = some (.cells #[.int .i64 a0_0, (.slice (some ad266) l0_1.length c0_1)] 26 (0, 0))) ∧ Fc (Below w.heap.size w w'))
      case atStart => exact ⟨(0), eqS, H', ⟨Nat.le_refl _⟩, ⟨Kd.R_g HO270.out⟩, ⟨blk_g BK264.out⟩, ⟨bel_g HB.out⟩⟩
      case round =>
       clear H'
       try clear c3
       try clear c8b0
       try clear c9
       try clear c9b0
       try clear c10
       try clear c10b0
       try clear c12
       try clear hx266_0
       try clear p266
       try clear q266
       obtain ⟨x25_2, rfl, HA, HK2, HO_23, BK264, HB⟩ := hrel
       cases gk with
       | zero => exact absurd HA.out (by simp [impl_IsOrder.l1])
       | succ k2 =>
        have H := HA.out
        clear HA
        simp only [impl_IsOrder.l1] at H
        rcases iteE H with ⟨c20b0, H⟩ | ⟨c20b0, H⟩
        ·obtain ⟨c21, H⟩ := itNP H
         have c21b0 : decide (0 ≤ x25_2) = true := decide_eq_true c21
         clear c21
         obtain ⟨c22, H⟩ := itNP H
         have c22b0 : decide (x25_2 < (t268.length : Int)) = true := decide_eq_true c22
         clear c22
         obtain ⟨c23, H⟩ := itNP H
         have c23b0 : decide (0 ≤ (rd t268 x25_2)) = true := decide_eq_true c23
         clear c23
         obtain ⟨c24, H⟩ := itNP H
         have c24b0 : decide ((rd t268 x25_2) < (l0_1.length : Int)) = true := decide_eq_true c24
         clear c24
         rcases iteP H with ⟨c25, H⟩ | ⟨c25, H⟩
         ·have c25b0 : ((Go.bits .andNot .i64 (rd l0_1 (rd t268 x25_2)) (rd l0_1 x13_1)) == 0) = true := beq_iff_eq.mpr c25
          have c25b1 : ((Go.bits .andNot .i64 (rd l0_1 (rd t268 x25_2)) (rd l0_1 x13_1)) != 0) = false := bne_eq_false_iff_eq.mpr c25
          clear c25
          have H' := mkA H
          clear H
          have p271 : 0 ≤ (x25_2 : Int) := ofd
          have q271 : x25_2 < (t268.length : Int) := ofd
          obtain ⟨ad271, e271, hx271_0⟩ := Kd.at_int (Kd.R_reads' HO_23.out).2.2 x25_2 p271 q271
          cases e271
          replace p271 := eq_true p271
          replace q271 := eq_true q271
          obtain ⟨hcz26_0, hcz26_1, hfz26_0, hfz26_1⟩ := blk2 BK264
          have p272 : 0 ≤ ((rd t268 x25_2) : Int) := ofd
          have q272 : (rd t268 x25_2) < (l0_1.length : Int) := ofd
          obtain ⟨ad272, e272, hx272_0⟩ := Kd.at_int HR0_1.out (rd t268 x25_2) p272 q272
          obtain rfl : ad266 = ad272 := (by injection e272)
          replace hx272_0 := (HB.out.cell (World.block_lt_of_cell? w _ hx272_0)).trans hx272_0
          replace p272 := eq_true p272
          replace q272 := eq_true q272
          go_wp2
          go_roundg k2
          case measure => have := HK1.out; have := HK2.out; omega
          case rel => exact ⟨(wrap64 (x25_2 + 1)), eqS, H', ⟨by have := HK1.out; have := HK2.out; omega⟩, ⟨Kd.R_g HO_23.out⟩, ⟨blk_g BK264.out⟩, ⟨bel_g HB.out⟩⟩
         ·have c25b0 : ((Go.bits .andNot .i64 (rd l0_1 (rd t268 x25_2)) (rd l0_1 x13_1)) == 0) = false := beq_eq_false_iff_ne.mpr c25
          have c25b1 : ((Go.bits .andNot .i64 (rd l0_1 (rd t268 x25_2)) (rd l0_1 x13_1)) != 0) = true := bne_iff_ne.mpr c25
          obtain rfl := Option.some.inj H
          have p271 : 0 ≤ (x25_2 : Int) := ofd
          have q271 : x25_2 < (t268.length : Int) := ofd
          obtain ⟨ad271, e271, hx271_0⟩ := Kd.at_int (Kd.R_reads' HO_23.out).2.2 x25_2 p271 q271
          cases e271
          replace p271 := eq_true p271
          replace q271 := eq_true q271
          obtain ⟨hcz27_0, hcz27_1, hfz27_0, hfz27_1⟩ := blk2 BK264
          have p272 : 0 ≤ ((rd t268 x25_2) : Int) := ofd
          have q272 : (rd t268 x25_2) < (l0_1.length : Int) := ofd
          obtain ⟨ad272, e272, hx272_0⟩ := Kd.at_int HR0_1.out (rd t268 x25_2) p272 q272
          obtain rfl : ad266 = ad272 := (by injection e272)
          replace hx272_0 := (HB.out.cell (World.block_lt_of_cell? w _ hx272_0)).trans hx272_0
          replace p272 := eq_true p272
          replace q272 := eq_true q272
          go_wp2
          go_ret
          exact ⟨eqE, bel_g HB.out⟩
        ·have H' := mkA H
         clear H
         go_wp2
         go_roundg k2
         case measure => have := HK1.out; have := HK2.out; omega
         case rel => exact ⟨(wrap64 (x13_1 + 1)), eqS, H', ⟨by have := HK1.out; have := HK2.out; omega⟩, ⟨blk_g BK264.out⟩, ⟨bel_g HB.out⟩⟩
    ·obtain rfl := Option.some.inj H
     go_wp2
     go_ret
     exact ⟨eqE, bel_g HB.out⟩
 ·replace c3 := Bool.eq_false_iff.mpr c3
  subst c3
  replace H := ifF H
  obtain rfl := Option.some.inj H
  go_enter Tryd.func20, Tryd.ntmps20
  go_wp2_with (first | ((with_reducible refine gate_dst (N := 1) rfl ?_); refine boxE (N := 1) (cs := #[.int .i64 a0_0, .slice A0_1 l0_1.length c0_1]) (t := 26) ?_; intro gb264 hg w28 hbox hb; have BK264 := mkA (hbox); have GE264 := geB HB hg; replace HB := bst HB hb; clear hb hbox hg; obtain ⟨hcz29_0, hcz29_1, hfz29_0, hfz29_1⟩ := blk2 BK264) | ((with_reducible refine gate_callee (f := 35) rfl ?_); refine goesQ (some 8) Tryd.func35 #[.agg #[.int .i64 a0_0, .slice A0_1 l0_1.length c0_1]] ?_; (with_reducible refine (impl_IsRelation.calls k a0_0 _ _ l0_1 false _ ?s1 ?s2 A2.out).mono ?_); (case s1 => exact C_g HR0_1 HB); (case s2 => exact HC0_1.out); rintro e w30 ⟨rfl, hb⟩; refine ⟨_, rfl, ?_⟩; replace BK264 := blkB BK264 hb; replace HB := bst HB hb; (try clear hb)))
  go_ret
  exact ⟨eqE, bel_g HB.out⟩
end Go.Proofs.YtgdnljpallpjiaaDoor.Q
