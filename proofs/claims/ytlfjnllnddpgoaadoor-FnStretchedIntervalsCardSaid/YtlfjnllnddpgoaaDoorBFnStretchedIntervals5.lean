import Derived.Test.YtlfjnllnddpgoaaDoorBFnStretchedIntervals4
namespace Go.Proofs.YtlfjnllnddpgoaaDoor.Q
open Go.RowKit Go.Proofs.YtlfjnllnddpgoaaDoorW.PrintWords Go.Proofs.YtlfjnllnddpgoaaDoorW.PrintLast Go.Proofs.YtlfjnllnddpgoaaDoorW.PrintMore
attribute [local go_sem] max2_int min2_int max_two min_two max_three min_three max_four min_four neB_f
set_option linter.unusedVariables false
set_option maxHeartbeats 8000000
set_option maxRecDepth 100000
set_option linter.unusedSimpArgs false
def spec_ivStretched.f (a0 : Int) (a1 : Int) (a2 : Int) : Option (Int) := if a0 > a1 then (some (wrap64 (a0 + a2))) else (some a0)
theorem spec_ivStretched.calls (a0 : Int) (a1 : Int) (a2 : Int) (r : Int) (w : World) (h : spec_ivStretched.f a0 a1 a2 = some r) :
  Calls Tryd.prog 26 #[.int .i64 a0, .int .i64 a1, .int .i64 a2] w fun e w' => e = .returned (.int .i64 r) ∧ Drawn0 w w' := by
 have H := h
 clear h
 unfold spec_ivStretched.f at H
 rcases iteP H with ⟨c4, H⟩ | ⟨c4, H⟩
 ·have c4b0 := decide_eq_true c4
  clear c4
  obtain rfl := Option.some.inj H
  go_enter Tryd.func26, Tryd.ntmps26
  go_wp2
  go_ret
  exact ⟨eqS, drE⟩
 ·have c4b0 := decide_eq_false c4
  clear c4
  obtain rfl := Option.some.inj H
  go_enter Tryd.func26, Tryd.ntmps26
  go_wp2
  go_ret
  exact ⟨eqS, drE⟩
mutual
def spec_StretchIntervals.j0 : Nat → List (S37) → Int → Int → Bool → Option ((List (S37)) × Bool)
 | 0, _, _, _, _ => none
 | k + 1, x0, x1, x2, x23 => if x23 = true then (some (([] : List (S37)), false)) else (spec_StretchIntervals.l0 k x1 x2 ([] : List (S37)) x0 (x0.length : Int) 0)
def spec_StretchIntervals.l0 : Nat → Int → Int → List (S37) → List (S37) → Int → Int → Option ((List (S37)) × Bool)
 | 0, _, _, _, _, _, _ => none
 | k + 1, x1, x2, x8, x24, x25, x26 => if x26 < x25 then (if 0 ≤ x26 then (if x26 < (x24.length : Int) then ((spec_ivStretched.f ((rd_T37 x24 x26).f0) x1 x2).bind fun t215 => ((spec_ivStretched.f ((rd_T37 x24 x26).f1) x1 x2).bind fun t216 => (if x8.length < 8796093022208 then (spec_StretchIntervals.l0 k x1 x2 (x8 ++ [(⟨t215, t216⟩ : S37)]) x24 x25 (wrap64 (x26 + 1))) else (none)))) else (none)) else (none)) else ((spec_ivGood.f k x8).bind fun t220 => (if t220 = true then (some (x8, true)) else (some (([] : List (S37)), false))))
end
def spec_StretchIntervals.f (k : Nat) (l0 : List (S37)) (a1 : Int) (a2 : Int) : Option ((List (S37)) × Bool) := (spec_ivGood.f k l0).bind fun t210 => (if t210 = true then ((spec_l1In.f a1 (-1000) 1000).bind fun t211 => (if t211 = true then ((spec_l1In.f a2 0 1000).bind fun t212 => (spec_StretchIntervals.j0 k l0 a1 a2 (!t212))) else (spec_StretchIntervals.j0 k l0 a1 a2 true))) else (spec_StretchIntervals.j0 k l0 a1 a2 true))
theorem spec_StretchIntervals.mono_l : ∀ k, (∀ y0 y1 y2 y3, LeO (spec_StretchIntervals.j0 k y0 y1 y2 y3) (spec_StretchIntervals.j0 (k + 1) y0 y1 y2 y3)) ∧ (∀ y0 y1 y2 y3 y4 y5, LeO (spec_StretchIntervals.l0 k y0 y1 y2 y3 y4 y5) (spec_StretchIntervals.l0 (k + 1) y0 y1 y2 y3 y4 y5))
 | 0 => ⟨fun _ _ _ _ r h => by simp [spec_StretchIntervals.j0] at h, fun _ _ _ _ _ _ r h => by simp [spec_StretchIntervals.l0] at h⟩
 | k + 1 => by
  obtain ⟨ih0, ih1⟩ := spec_StretchIntervals.mono_l k
  refine ⟨?_, ?_⟩ <;> intros
  unfold spec_StretchIntervals.j0
  rotate_left
  unfold spec_StretchIntervals.l0
  rotate_left
  all_goals repeat' (with_reducible first|apply ih0|apply ih1|apply spec_ivGood.mono|apply LeO.refl|apply LeO.none|apply LeO.ite|apply LeO.bind|intro)
theorem spec_StretchIntervals.mono : ∀ a0 a1 a2 k, LeO (spec_StretchIntervals.f k a0 a1 a2) (spec_StretchIntervals.f (k + 1) a0 a1 a2) := by
 intro a0 a1 a2 k
 obtain ⟨ih0, ih1⟩ := spec_StretchIntervals.mono_l k
 unfold spec_StretchIntervals.f
 repeat' (with_reducible first|apply ih0|apply ih1|apply spec_ivGood.mono|apply LeO.refl|apply LeO.none|apply LeO.ite|apply LeO.bind|intro)
def spec_StretchIntervals.T7 : Bool × List (List Nat × List Nat) := (true, [([], []), ([], []), ([1], [1]), ([], []), ([], []), ([2, 3, 4], [2, 3, 4]), ([], []), ([6], [6]), ([], []), ([], []), ([7, 8, 9, 5], [7, 8, 9]), ([5, 10], [5, 10]), ([11], [11]), ([0, 12, 10], [0, 12]), ([13, 13, 0, 1, 2, 3, 4, 5, 6, 7, 8, 9, 10, 11, 12, 13], [0, 13])])
def spec_StretchIntervals.B7 : List Nat := [0, 0, 2, 0, 0, 30, 0, 64, 0, 0, 1022, 2046, 4094, 8191, 16383]
theorem spec_StretchIntervals.tab7 : rtab .any (opsOf Tryd.f7 7) = spec_StretchIntervals.T7 := by kernel_rfl
theorem spec_StretchIntervals.bits7 : waitsOk spec_StretchIntervals.T7.2 spec_StretchIntervals.B7 = true := by kernel_rfl
theorem spec_StretchIntervals.calls (k : Nat) (A0 : Option Addr) (c0 : Nat) (l0 : List (S37)) (a1 : Int) (a2 : Int) (r1 : List (S37)) (r2 : Bool) (w : World) (hr0 : Kd.C k37 w A0 l0.length l0) (hc0 : l0.length ≤ c0) (h : spec_StretchIntervals.f k l0 a1 a2 = some (r1, r2)) :
  Calls Tryd.prog 7 #[.slice A0 l0.length c0, .int .i64 a1, .int .i64 a2] w fun e w' => ∃ v0_ : Value, e = .returned (.tuple #[v0_, .bool r2]) ∧ Kd.R k37 37 w' w.heap.size (fun _ => True) v0_ r1 ∧ Below w.heap.size w w' := by
 have hu37 := Tryd.underlying37
 have HR0 := mkA hr0
 have HC0 := mkA hc0
 clear hr0 hc0
 have HB := mkA (Below.refl w.heap.size w)
 have H := h
 clear h
 unfold spec_StretchIntervals.f at H
 have HC4 := mkA H
 clear H
 go_enter Tryd.func7, Tryd.ntmps7
 go_upto_region 1 with (fail)
 go_cut [23] (fun v23 wc => ∃ (kq : Nat) (x23_3 : Bool), v23 = .bool x23_3 ∧ Fc (spec_StretchIntervals.j0 kq l0 a1 a2 x23_3 = some (r1, r2)) ∧ Fc (kq ≤ k) ∧ Fc (Below w.heap.size w wc))
 case first =>
  have H := HC4.out
  clear HC4
  obtain ⟨t210, A5, H⟩ := obE H
  by_cases c6 : t210 = true
  ·subst c6
   replace H := ifT H
   obtain ⟨t211, A7, H⟩ := obE H
   by_cases c8 : t211 = true
   ·subst c8
    replace H := ifT H
    obtain ⟨t212, A9, H⟩ := obE H
    have H' := mkA H
    clear H
    go_wp2_with (first | ((with_reducible refine gate_callee (f := 24) rfl ?_); refine goesQ (some 12) Tryd.func24 #[.slice A0 l0.length c0] ?_; (with_reducible refine (spec_ivGood.calls k _ _ l0 true _ ?_ ?_ A5.out).mono ?_); exact C_g HR0 HB; exact HC0.out; rintro e w10 ⟨rfl, hb⟩; refine ⟨_, rfl, ?_⟩; replace HB := bst HB hb; clear hb) | (go_at_call 25; (with_reducible refine (spec_l1In.calls a1 (-1000) 1000 true _ A7.out).mono ?_); rintro e w' ⟨rfl, ⟨nd, rfl⟩⟩) | (go_at_call 25; (with_reducible refine (spec_l1In.calls a2 0 1000 t212 _ A9.out).mono ?_); rintro e w' ⟨rfl, ⟨nd, rfl⟩⟩))
    go_meet
    case rel => exact ⟨_, (!t212), eqS, H', ⟨by first | omega | exact Nat.le_refl _⟩, hbg HB⟩
   ·replace c8 := Bool.eq_false_iff.mpr c8
    subst c8
    replace H := ifF H
    have H' := mkA H
    clear H
    go_wp2_with (first | ((with_reducible refine gate_callee (f := 24) rfl ?_); refine goesQ (some 12) Tryd.func24 #[.slice A0 l0.length c0] ?_; (with_reducible refine (spec_ivGood.calls k _ _ l0 true _ ?_ ?_ A5.out).mono ?_); exact C_g HR0 HB; exact HC0.out; rintro e w11 ⟨rfl, hb⟩; refine ⟨_, rfl, ?_⟩; replace HB := bst HB hb; clear hb) | (go_at_call 25; (with_reducible refine (spec_l1In.calls a1 (-1000) 1000 false _ A7.out).mono ?_); rintro e w' ⟨rfl, ⟨nd, rfl⟩⟩))
    go_meet
    case rel => exact ⟨_, (true), eqS, H', ⟨by first | omega | exact Nat.le_refl _⟩, hbg HB⟩
  ·replace c6 := Bool.eq_false_iff.mpr c6
   subst c6
   replace H := ifF H
   have H' := mkA H
   clear H
   go_wp2_with (first | ((with_reducible refine gate_callee (f := 24) rfl ?_); refine goesQ (some 12) Tryd.func24 #[.slice A0 l0.length c0] ?_; (with_reducible refine (spec_ivGood.calls k _ _ l0 false _ ?_ ?_ A5.out).mono ?_); exact C_g HR0 HB; exact HC0.out; rintro e w12 ⟨rfl, hb⟩; refine ⟨_, rfl, ?_⟩; replace HB := bst HB hb; clear hb))
   go_meet
   case rel => exact ⟨_, (true), eqS, H', ⟨by first | omega | exact Nat.le_refl _⟩, hbg HB⟩
 case rest =>
  clear HC4
  try clear c6
  try clear c8
  obtain ⟨kq, x23_3, rfl, HA, HJ3, HB⟩ := hcut
  cases kq with
  | zero => exact absurd HA.out (by simp [spec_StretchIntervals.j0])
  | succ kj3 =>
   have H := HA.out
   clear HA
   simp only [spec_StretchIntervals.j0] at H
   by_cases c13 : x23_3 = true
   ·subst c13
    replace H := ifT H
    simp only [Option.some.injEq, Prod.mk.injEq] at H
    obtain ⟨rfl, rfl⟩ := H
    go_wp2
    go_ret2
    exact ⟨_, eqE, nilE, bel_g HB.out⟩
   ·replace c13 := Bool.eq_false_iff.mpr c13
    subst c13
    replace H := ifF H
    have H' := mkA H
    clear H
    go_wp2
    go_loopg [8, 26] kj3 (fun kq v8 v26 w' => ∃ (x8_2 : List (S37)) (x26_2 : Int), v26 = .int .i64 x26_2 ∧ Fc (spec_StretchIntervals.l0 kq a1 a2 x8_2 l0 (l0.length : Int) x26_2 = some (r1, r2)) ∧ Fc (kq ≤ kj3) ∧ Fc (Kd.R k37 37 w' w.heap.size (fun _ => True) v8 x8_2) ∧ Fc (Below w.heap.size w w'))
    case atStart => exact ⟨(([] : List (S37))), (0), eqS, H', ⟨Nat.le_refl _⟩, ⟨nilE⟩, hbg HB⟩
    case round =>
     clear H'
     try clear c6
     try clear c8
     try clear c13
     obtain ⟨x8_2, x26_2, rfl, HA, HK2, HO_8, HB⟩ := hrel
     cases gk with
     | zero => exact absurd HA.out (by simp [spec_StretchIntervals.l0])
     | succ k2 =>
      have H := HA.out
      clear HA
      simp only [spec_StretchIntervals.l0] at H
      rcases iteE H with ⟨c14b0, H⟩ | ⟨c14b0, H⟩
      ·obtain ⟨c15b0, H⟩ := itND H
       obtain ⟨c16b0, H⟩ := itND H
       obtain ⟨t215, A17, H⟩ := obE H
       obtain ⟨t216, A18, H⟩ := obE H
       obtain ⟨c19, H⟩ := itNP H
       have LMc19 := mkA c19
       clear c19
       obtain ⟨y217, hy217⟩ : ∃ y_ : List (S37), y_ = (x8_2 ++ [(⟨t215, t216⟩ : S37)]) := ⟨_, rfl⟩
       rw [← hy217] at H
       have Ny217 := mkA hy217
       clear hy217
       have H' := mkA H
       clear H
       have p213 : 0 ≤ (x26_2 : Int) := ofd
       have q213 : x26_2 < (l0.length : Int) := ofd
       obtain ⟨ad213, e213, hx213_0, hx213_1⟩ := at_T37 HR0.out x26_2 p213 q213
       cases e213
       replace hx213_0 := (HB.out.cell (World.block_lt_of_cell? w _ hx213_0)).trans hx213_0
       replace hx213_1 := (HB.out.cell (World.block_lt_of_cell? w _ hx213_1)).trans hx213_1
       replace p213 := eq_true p213
       replace q213 := eq_true q213
       try go_wp2_with (first | ((with_reducible refine gate_dst (N := 10) rfl ?_); refine boxE (N := 10) (cs := #[.int .i64 0, .int .i64 0]) (t := 37) ?_; intro gb214 hg w20 hbox hb; replace HO_8 := mkA (Kd.R_below (Kd.R_elderB (Kd.R_g HO_8.out) gb214 (Nat.le_of_eq hg.symm)) hb); have BK214 := mkA (hbox); have GE214 := geB HB hg; replace HB := bst HB hb; clear hb hbox hg; obtain ⟨_, _, _, _⟩ := blk2 BK214))
       have n0_ : Fc (Kd.R k37 37 ((w20.setCell ⟨gb214, 0, none⟩ (.int .i64 ((rd_T37 l0 x26_2).f0))).setCell ⟨gb214, 1, none⟩ (.int .i64 ((rd_T37 l0 x26_2).f1))) w.heap.size (fun k_ => k_ ≠ gb214) u8 x8_2) := ⟨Kd.R_g (Kd.R_mono (Kd.R_far (p := ⟨gb214, 1, none⟩) (Kd.R_far (p := ⟨gb214, 0, none⟩) (Kd.R_mono HO_8.out (fun k_ hk => (⟨hk, hk.2⟩ : _ ∧ k_ ≠ gb214))) (fun _ hk => hk.2) (.int .i64 ((rd_T37 l0 x26_2).f0))) (fun _ hk => hk.2) (.int .i64 ((rd_T37 l0 x26_2).f1))) (fun _ hk => hk.1.2))⟩
       have n1_ : Fc (((w20.setCell ⟨gb214, 0, none⟩ (.int .i64 ((rd_T37 l0 x26_2).f0))).setCell ⟨gb214, 1, none⟩ (.int .i64 ((rd_T37 l0 x26_2).f1))).heap[gb214]? = some (.cells #[.int .i64 ((rd_T37 l0 x26_2).f0), .int .i64 ((rd_T37 l0 x26_2).f1)] 37 (0, 0))) := ⟨blkT BK214⟩
       have n2_ : Fc (Below w.heap.size w ((w20.setCell ⟨gb214, 0, none⟩ (.int .i64 ((rd_T37 l0 x26_2).f0))).setCell ⟨gb214, 1, none⟩ (.int .i64 ((rd_T37 l0 x26_2).f1)))) := ⟨bel_g HB.out⟩
       (try clear HO_8)
       (try clear BK214)
       (try clear HB)
       generalize ((w20.setCell ⟨gb214, 0, none⟩ (.int .i64 ((rd_T37 l0 x26_2).f0))).setCell ⟨gb214, 1, none⟩ (.int .i64 ((rd_T37 l0 x26_2).f1))) = w22 at n0_ n1_ n2_ ⊢
       have HO_8 := n0_
       have BK214 := n1_
       have HB := n2_
       clear n0_ n1_ n2_
       replace HO_8 := mkA (Kd.R_drew HO_8.out)
       replace BK214 := mkA (blk_drew BK214.out)
       replace HB := mkA (below_drew1 HB.out)
       refine start_ (n := 15) (S := fun w' => w'.cell? ⟨gb214, 0, none⟩ = some (.int .i64 ((rd_T37 l0 x26_2).f0)) ∧ w'.cell? ⟨gb214, 1, none⟩ = some (.int .i64 ((rd_T37 l0 x26_2).f1))) (ds := []) (bm 15 0) (by kernel_rfl) rfl (by kernel_rfl) ⟨(blk_cell BK214.out 0).trans rfl, (blk_cell BK214.out 1).trans rfl⟩ (fun hHeld => ?_); refine with_tabW spec_StretchIntervals.tab7 spec_StretchIntervals.bits7 (fun HT_ HW_ => ?_)
       generalize w22.drew = w23 at HO_8 BK214 HB hHeld ⊢
       refine purW 0 30 15 1 HT_ ?_
       refine purW 1 31 15 3 HT_ ?_
       refine purW 3 33 15 11 HT_ ?_
       refine purW 4 34 15 27 HT_ ?_
       refine purW 6 36 15 91 HT_ ?_
       refine purW 8 38 15 347 HT_ ?_
       refine purW 9 39 15 859 HT_ ?_
       refine takeW 2 (some 32) (bm 15 863) HT_ HW_ hHeld ?_
       refine takeW 7 (some 37) (bm 15 991) HT_ HW_ hHeld ?_
       refine oneW 5 (some 35) (bm 15 1023) HT_ (fun K hK => ?_)
       refine goesR Tryd.func26 #[.int .i64 ((rd_T37 l0 x26_2).f0), .int .i64 a1, .int .i64 a2] ?_
       with_reducible refine (spec_ivStretched.calls ((rd_T37 l0 x26_2).f0) a1 a2 t215 _ A17.out).mono ?_
       rintro e w' ⟨rfl, ⟨nd, rfl⟩⟩
       refine ⟨_, rfl, ?_⟩
       refine hK.out _ _ ⟨(blk_cell BK214.out 0).trans rfl, (blk_cell BK214.out 1).trans rfl⟩ (fun hHeld => ?_)
       clear hK K
       refine normW 35 ?_
       refine oneW 10 (some 40) (bm 15 2047) HT_ (fun K hK => ?_)
       refine goesR Tryd.func26 #[.int .i64 ((rd_T37 l0 x26_2).f1), .int .i64 a1, .int .i64 a2] ?_
       with_reducible refine (spec_ivStretched.calls ((rd_T37 l0 x26_2).f1) a1 a2 t216 _ A18.out).mono ?_
       rintro e w' ⟨rfl, ⟨nd, rfl⟩⟩
       refine ⟨_, rfl, ?_⟩
       refine hK.out _ _ ⟨(blk_cell BK214.out 0).trans rfl, (blk_cell BK214.out 1).trans rfl⟩ (fun hHeld => ?_)
       clear hK K
       refine normW 40 ?_
       refine purW 11 41 15 4095 HT_ ?_
       refine oneW 12 (some 42) (bm 15 8191) HT_ (fun K hK => ?_)
       refine value_ (w1 := ?_) (v := ?_) (by rfl) rfl ?_ ?_
       rotate_left 2
       ·go_simp
        constructor
        ·rfl
        ·rfl
       refine hK.out _ _ ⟨(blk_cell (blk_alloc BK214.out _) 0).trans rfl, (blk_cell (blk_alloc BK214.out _) 1).trans rfl⟩ (fun hHeld => ?_)
       clear hK K
       refine normW 42 ?_
       refine oneW 13 (some 43) (bm 15 16383) HT_ (fun K hK => ?_)
       refine Kd.R_append_step k37 (w0 := w) w.heap.size (by rfl) (.tmp 30) (.tmp 42) 24 37 (.agg #[(.int .i64 0), (.int .i64 0)]) 16 rfl Tryd.underlying24 info37 rfl (by decide) (by omega) u8 x8_2 (⟨t215, t216⟩ : S37) [.int .i64 t215, .int .i64 t216] (fun k_ => k_ ≠ gb214) (fun _ => False) rfl rfl ?aP (fun _ hk => hk.elim) ?aF ?aO ?aB ?aS ?aL ?_
       (case aP => exact k37_mkM _ _ _ (⟨t215, t216⟩ : S37))
       (case aB => exact (bel_g HB.out))
       (case aF => exact (fun k_ hk => Kd.freshB (g := gb214) (o := .cells #[.int .i64 ((rd_T37 l0 x26_2).f0), .int .i64 ((rd_T37 l0 x26_2).f1)] 37 (0, 0)) (blk_g BK214.out) k_ hk))
       (case aO => exact (Kd.R_g HO_8.out))
       (case aS => exact (below_size (bel_g HB.out)))
       (case aL => have := LMc19.out; omega)
       intro v218 w24 ho hb hg hat
       rw [← Ny217.out] at ho
       replace BK214 := mkA (blk_grown (g := gb214) (o := .cells #[.int .i64 ((rd_T37 l0 x26_2).f0), .int .i64 ((rd_T37 l0 x26_2).f1)] 37 (0, 0)) (blk_g BK214.out) hg (Kd.R_away HO_8.out (fun _ hk => hk)))
       have HO219 := mkA (ho)
       replace HB := mkA (hb)
       clear HO_8
       clear ho hb hg hat
       refine hK.out _ _ ⟨(blk_cell BK214.out 0).trans rfl, (blk_cell BK214.out 1).trans rfl⟩ (fun hHeld => ?_)
       clear hK K
       refine normW 43 ?_
       refine purW 14 8 15 32767 HT_ ?_
       refine doneW HT_ ?_
       try go_wp2
       go_roundg k2
       case measure => have := HJ3.out; have := HK2.out; omega
       case rel => exact ⟨(y217), (wrap64 (x26_2 + 1)), eqS, H', ⟨by have := HJ3.out; have := HK2.out; omega⟩, ⟨Kd.R_g (Kd.R_mono HO219.out (fun _ hk => trivial))⟩, hbg HB⟩
      ·obtain ⟨t220, A25, H⟩ := obE H
       by_cases c26 : t220 = true
       ·subst c26
        replace H := ifT H
        simp only [Option.some.injEq, Prod.mk.injEq] at H
        obtain ⟨rfl, rfl⟩ := H
        obtain ⟨Ao27, co27, rfl⟩ := Kd.R_slice HO_8.out
        go_wp2_with (first | ((with_reducible refine gate_callee (f := 24) rfl ?_); refine goesQ (some 46) Tryd.func24 #[.slice Ao27 x8_2.length co27] ?_; (with_reducible refine (spec_ivGood.calls k2 _ _ x8_2 true _ ?_ ?_ A25.out).mono ?_); exact rC HO_8; exact rL HO_8; rintro e w28 ⟨rfl, hb⟩; refine ⟨_, rfl, ?_⟩; replace HO_8 := rB HO_8 hb; replace HB := bst HB hb; clear hb))
        go_ret2
        exact ⟨_, eqE, Kd.R_g HO_8.out, bel_g HB.out⟩
       ·replace c26 := Bool.eq_false_iff.mpr c26
        subst c26
        replace H := ifF H
        simp only [Option.some.injEq, Prod.mk.injEq] at H
        obtain ⟨rfl, rfl⟩ := H
        obtain ⟨Ao29, co29, rfl⟩ := Kd.R_slice HO_8.out
        go_wp2_with (first | ((with_reducible refine gate_callee (f := 24) rfl ?_); refine goesQ (some 46) Tryd.func24 #[.slice Ao29 x8_2.length co29] ?_; (with_reducible refine (spec_ivGood.calls k2 _ _ x8_2 false _ ?_ ?_ A25.out).mono ?_); exact rC HO_8; exact rL HO_8; rintro e w30 ⟨rfl, hb⟩; refine ⟨_, rfl, ?_⟩; replace HO_8 := rB HO_8 hb; replace HB := bst HB hb; clear hb))
        go_ret2
        exact ⟨_, eqE, nilE, bel_g HB.out⟩
theorem eqA37 (d : Nat) (w : World) (x0 y0 : Int) (x1 y1 : Int) :
  (Op.equalIn (d + 2) 37 (.agg #[.int .i64 x0, .int .i64 x1]) (.agg #[.int .i64 y0, .int .i64 y1])).run Tryd.prog w = .ok (x0 == y0 && (x1 == y1)) w := by
 refine eqA_of Tryd.underlying37 (by kernel_rfl) ?_
 refine eqf_cons (by rfl) (by go_simp; rfl) (by go_simp; rfl) (by go_simp) ?_
 exact eqf_last (by rfl) (by go_simp; rfl) (by go_simp; rfl) (by go_simp)
end Go.Proofs.YtlfjnllnddpgoaaDoor.Q
namespace Go.Proofs.YtlfjnllnddpgoaaDoor.Q
open Go.RowKit Go.Proofs.YtlfjnllnddpgoaaDoorW.PrintWords Go.Proofs.YtlfjnllnddpgoaaDoorW.PrintLast Go.Proofs.YtlfjnllnddpgoaaDoorW.PrintMore
attribute [local go_sem] max2_int min2_int max_two min_two max_three min_three max_four min_four neB_f
set_option linter.unusedVariables false
set_option maxHeartbeats 8000000
set_option maxRecDepth 100000
set_option linter.unusedSimpArgs false
attribute [local go_sem high] eqA37
def laws_pSameIntervals.l0 : Nat → List (S37) → List (S37) → Int → Int → Option (Bool)
 | 0, _, _, _, _ => none
 | k + 1, x0, x1, x12, x13 => if x13 < x12 then (if 0 ≤ x13 then (if x13 < (x0.length : Int) then (if x13 < (x1.length : Int) then (if (!(((rd_T37 x0 x13).f0) == ((rd_T37 x1 x13).f0)) || (!(((rd_T37 x0 x13).f1) == ((rd_T37 x1 x13).f1)))) = true then (some false) else (laws_pSameIntervals.l0 k x0 x1 x12 (wrap64 (x13 + 1)))) else (none)) else (none)) else (none)) else (some true)
def laws_pSameIntervals.f (k : Nat) (l0 : List (S37)) (l1 : List (S37)) : Option (Bool) := if (l0.length : Int) = (l1.length : Int) then (laws_pSameIntervals.l0 k l0 l1 (l0.length : Int) 0) else (some false)
theorem laws_pSameIntervals.mono_l : ∀ k, (∀ y0 y1 y2 y3, LeO (laws_pSameIntervals.l0 k y0 y1 y2 y3) (laws_pSameIntervals.l0 (k + 1) y0 y1 y2 y3))
 | 0 => fun _ _ _ _ r h => by simp [laws_pSameIntervals.l0] at h
 | k + 1 => by
  have ih0 := laws_pSameIntervals.mono_l k
  ·intro y0 y1 y2 y3
   unfold laws_pSameIntervals.l0
   repeat' (with_reducible first|apply ih0|apply LeO.refl|apply LeO.none|apply LeO.ite|apply LeO.bind|intro)
theorem laws_pSameIntervals.mono : ∀ a0 a1 k, LeO (laws_pSameIntervals.f k a0 a1) (laws_pSameIntervals.f (k + 1) a0 a1) := by
 intro a0 a1 k
 have ih0 := laws_pSameIntervals.mono_l k
 unfold laws_pSameIntervals.f
 repeat' (with_reducible first|apply ih0|apply LeO.refl|apply LeO.none|apply LeO.ite|apply LeO.bind|intro)
theorem laws_pSameIntervals.calls (k : Nat) (A0 : Option Addr) (c0 : Nat) (l0 : List (S37)) (A1 : Option Addr) (c1 : Nat) (l1 : List (S37)) (r : Bool) (w : World) (hr0 : Kd.C k37 w A0 l0.length l0) (hc0 : l0.length ≤ c0) (hr1 : Kd.C k37 w A1 l1.length l1) (hc1 : l1.length ≤ c1) (h : laws_pSameIntervals.f k l0 l1 = some r) :
  Calls Tryd.prog 8 #[.slice A0 l0.length c0, .slice A1 l1.length c1] w fun e w' => e = .returned (.bool r) ∧ Drawn0 w w' := by
 have hu37 := Tryd.underlying37
 have HR0 := mkA hr0
 have HC0 := mkA hc0
 clear hr0 hc0
 have HR1 := mkA hr1
 have HC1 := mkA hc1
 clear hr1 hc1
 have H := h
 clear h
 unfold laws_pSameIntervals.f at H
 rcases iteP H with ⟨c3, H⟩ | ⟨c3, H⟩
 ·have c3b0 := beq_iff_eq.mpr c3
  have c3b1 := bne_eq_false_iff_eq.mpr c3
  have c3b2 : (l0.length == l1.length) = true := by first | simpa using c3 | (simp at c3 ⊢; omega)
  clear c3
  have H' := mkA H
  clear H
  go_enter Tryd.func8, Tryd.ntmps8
  go_wp2
  repeat (go_quiet (fail); try go_wp2)
  go_loopg [13] k (fun kq v13 w' => ∃ (x13_1 : Int), v13 = .int .i64 x13_1 ∧ Fc (laws_pSameIntervals.l0 kq l0 l1 (l0.length : Int) x13_1 = some r) ∧ Fc (kq ≤ k) ∧ Drawn0 w w')
  case atStart => exact ⟨(0), eqS, H', ⟨Nat.le_refl _⟩, by repeat (first | exact Drawn0.refl _ | apply Drawn0.step)⟩
  case round =>
   clear H'
   try clear c1
   try clear c3
   try clear c3b0
   try clear c3b1
   try clear c3b2
   obtain ⟨x13_1, rfl, HA, HK1, ⟨m1, rfl⟩⟩ := hrel
   cases gk with
   | zero => exact absurd HA.out (by simp [laws_pSameIntervals.l0])
   | succ k1 =>
    have H := HA.out
    clear HA
    simp only [laws_pSameIntervals.l0] at H
    rcases iteE H with ⟨c4b0, H⟩ | ⟨c4b0, H⟩
    ·obtain ⟨c5b0, H⟩ := itND H
     obtain ⟨c6b0, H⟩ := itND H
     obtain ⟨c7b0, H⟩ := itND H
     rcases iteP H with ⟨c8, H⟩ | ⟨c8, H⟩
     ·have c8b0 : (!(((rd_T37 l0 x13_1).f0) == ((rd_T37 l1 x13_1).f0)) || (!(((rd_T37 l0 x13_1).f1) == ((rd_T37 l1 x13_1).f1)))) = true := c8
      clear c8
      obtain rfl := Option.some.inj H
      have p221 : 0 ≤ (x13_1 : Int) := ofd
      have q221 : x13_1 < (l0.length : Int) := ofd
      obtain ⟨ad221, e221, hx221_0, hx221_1⟩ := at_T37 HR0.out x13_1 p221 q221
      cases e221
      replace p221 := eq_true p221
      replace q221 := eq_true q221
      have p222 : 0 ≤ (x13_1 : Int) := ofd
      have q222 : x13_1 < (l1.length : Int) := ofd
      obtain ⟨ad222, e222, hx222_0, hx222_1⟩ := at_T37 HR1.out x13_1 p222 q222
      cases e222
      replace p222 := eq_true p222
      replace q222 := eq_true q222
      go_wp2
      repeat (go_quiet (fail); try go_wp2)
      go_ret
      exact ⟨eqS, drE⟩
     ·have c8b0 : (!(((rd_T37 l0 x13_1).f0) == ((rd_T37 l1 x13_1).f0)) || (!(((rd_T37 l0 x13_1).f1) == ((rd_T37 l1 x13_1).f1)))) = false := by simpa using c8
      clear c8
      have H' := mkA H
      clear H
      have p221 : 0 ≤ (x13_1 : Int) := ofd
      have q221 : x13_1 < (l0.length : Int) := ofd
      obtain ⟨ad221, e221, hx221_0, hx221_1⟩ := at_T37 HR0.out x13_1 p221 q221
      cases e221
      replace p221 := eq_true p221
      replace q221 := eq_true q221
      have p222 : 0 ≤ (x13_1 : Int) := ofd
      have q222 : x13_1 < (l1.length : Int) := ofd
      obtain ⟨ad222, e222, hx222_0, hx222_1⟩ := at_T37 HR1.out x13_1 p222 q222
      cases e222
      replace p222 := eq_true p222
      replace q222 := eq_true q222
      go_wp2
      repeat (go_quiet (fail); try go_wp2)
      go_roundg k1
      case measure => have := HK1.out; omega
      case rel => exact ⟨(wrap64 (x13_1 + 1)), eqS, H', ⟨by have := HK1.out; omega⟩, by repeat (first | exact Drawn0.refl _ | apply Drawn0.step)⟩
    ·obtain rfl := Option.some.inj H
     go_wp2
     repeat (go_quiet (fail); try go_wp2)
     go_ret
     exact ⟨eqS, drE⟩
 ·have c3b0 := beq_eq_false_iff_ne.mpr c3
  have c3b1 := bne_iff_ne.mpr c3
  have c3b2 : (l0.length == l1.length) = false := by first | simpa using c3 | (simp at c3 ⊢; omega)
  obtain rfl := Option.some.inj H
  go_enter Tryd.func8, Tryd.ntmps8
  go_wp2
  repeat (go_quiet (fail); try go_wp2)
  go_ret
  exact ⟨eqS, drE⟩
end Go.Proofs.YtlfjnllnddpgoaaDoor.Q
