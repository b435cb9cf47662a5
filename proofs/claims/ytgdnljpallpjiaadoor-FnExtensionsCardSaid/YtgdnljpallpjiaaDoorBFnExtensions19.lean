import Derived.Test.YtgdnljpallpjiaaDoorBFnExtensions11
import Derived.Test.YtgdnljpallpjiaaDoorBFnExtensions18
namespace Go.Proofs.YtgdnljpallpjiaaDoor.Q
open Go.RowKit Go.Proofs.YtgdnljpallpjiaaDoorW.PrintWords Go.Proofs.YtgdnljpallpjiaaDoorW.PrintLast Go.Proofs.YtgdnljpallpjiaaDoorW.PrintMore
attribute [local go_sem] max2_int min2_int max_two min_two max_three min_three max_four min_four neB_f
set_option linter.unusedVariables false
set_option maxHeartbeats 8000000
set_option maxRecDepth 100000
set_option linter.unusedSimpArgs false
/-- What is held in a region may be more from here on. -/
theorem spec_CountExtensions.more_ {P : Program} {md : Region.Mode} {ops : Array Oper} {Q : Exit → Act → World → Prop} {S S' : World → Prop} (hss : ∀ w, S' w → S w) : ∀ (fuel : Nat) (l : Array Bool) (a : Act) (w : World), S' w → wpAnyLast P md ops Q S' [] fuel l a w → wpAnyLast P md ops Q S [] fuel l a w
 | 0, _, _, _, _, h => h
 | fuel + 1, l, a, w, hS, h => ⟨h.1, fun i hi => wpOp_mono (fun a' w' h' => ⟨fun _ _ => hss w' (h'.1 (by simp) hS), spec_CountExtensions.more_ hss fuel _ a' w' (h'.1 (by simp) hS) h'.2⟩) (h.2 i hi)⟩
theorem spec_CountExtensions.more1_ {P : Program} {md : Region.Mode} {ops : Array Oper} {Q : Exit → Act → World → Prop} {S S' : World → Prop} (hss : ∀ w, S' w → S w) {fuel : Nat} {l : Array Bool} {a : Act} {w : World} (hS : S' w) (h : S' w → wpAnyLast P md ops Q S' [] fuel l a w) : wpAnyLast P md ops Q S [] fuel l a w := spec_CountExtensions.more_ hss fuel l a w hS (h hS)
def spec_CountExtensions.f (k : Nat) (a0_0 : Int) (l0_1 : List Int) : Option (Int × Bool) := (spec_orGood.f k a0_0 l0_1).bind fun t400 => (if t400 = true then ((spec_orCount.f k a0_0 l0_1).bind fun t401 => (if 0 ≤ a0_0 then (if 0 ≤ (wrap64 ((shl .i64 1 a0_0) - 1)) then (if (wrap64 ((shl .i64 1 a0_0) - 1)) < (t401.length : Int) then (some (rd t401 (wrap64 ((shl .i64 1 a0_0) - 1)), true)) else (none)) else (none)) else (none))) else (some (0, false)))
theorem spec_CountExtensions.mono : ∀ a0 a1 k, LeO (spec_CountExtensions.f k a0 a1) (spec_CountExtensions.f (k + 1) a0 a1) := by
 intro a0 a1 k
 unfold spec_CountExtensions.f
 repeat' (with_reducible first|exact spec_orCount.mono _ _ _|exact spec_orGood.mono _ _ _|exact LeO.refl _|exact LeO.none _|refine LeO.ite ?_ ?_|refine LeO.bind ?_ (fun _ => ?_))
def spec_CountExtensions.T3 : Bool × List (List Nat × List Nat) := (true, [([], []), ([0], [0]), ([], []), ([2], [2]), ([3], [3]), ([4], [4]), ([1, 5], [1, 5]), ([6], [6]), ([7, 1, 0, 1, 2, 3, 4, 5, 6, 7], [7]), ([8, 0, 1, 2, 3, 4, 5, 6, 7, 8], [])])
def spec_CountExtensions.B3 : List Nat := [0, 1, 0, 4, 12, 28, 63, 127, 255, 511]
theorem spec_CountExtensions.tab3 : rtab .any (opsOf Tryd.f12 3) = spec_CountExtensions.T3 := by kernel_rfl
theorem spec_CountExtensions.bits3 : waitsOk spec_CountExtensions.T3.2 spec_CountExtensions.B3 = true := by kernel_rfl
theorem spec_CountExtensions.calls (k : Nat) (a0_0 : Int) (A0_1 : Option Addr) (c0_1 : Nat) (l0_1 : List Int) (r1 : Int) (r2 : Bool) (w : World) (hr0_1 : Kd.C (Kd.int .i64) w A0_1 l0_1.length l0_1) (hc0_1 : l0_1.length ≤ c0_1) (h : spec_CountExtensions.f k a0_0 l0_1 = some (r1, r2)) :
  Calls Tryd.prog 12 #[.agg #[.int .i64 a0_0, .slice A0_1 l0_1.length c0_1]] w fun e w' => e = .returned (.tuple #[.int .i64 r1, .bool r2]) ∧ Below w.heap.size w w' := by
 have hu26 := Tryd.underlying26
 have HR0_1 := mkA hr0_1
 have HC0_1 := mkA hc0_1
 clear hr0_1 hc0_1
 have HB := mkA (Below.refl w.heap.size w)
 have H := h
 clear h
 unfold spec_CountExtensions.f at H
 obtain ⟨t400, A2, H⟩ := obE H
 by_cases c3 : t400 = true
 ·subst c3
  replace H := ifT H
  obtain ⟨t401, A4, H⟩ := obE H
  obtain ⟨c5, H⟩ := itNP H
  have c5b0 := eq_true c5
  have c5b1 : decide (0 ≤ a0_0) = true := decide_eq_true c5
  clear c5
  obtain ⟨ji6, hji6⟩ : ∃ j_ : Int, (shl .i64 1 a0_0) = j_ := ⟨_, rfl⟩
  replace H : (if 0 ≤ (wrap64 ((ji6) - 1)) then (if (wrap64 ((ji6) - 1)) < (t401.length : Int) then (some (rd t401 (wrap64 ((ji6) - 1)), true)) else (none)) else (none)) = some (r1, r2) := by first | (rw [hji6] at H; exact H) | (simp only [hji6] at H ⊢; exact H)
  (try rw [hji6] at A2)
  (try rw [hji6] at A4)
  have hji6_ : (IntKind.i64.wrap (1 * 2 ^ min a0_0.toNat 64)) = ji6 := hji6
  have hji6z : a0_0 ≤ 64 → (IntKind.i64.wrap (1 * 2 ^ a0_0.toNat)) = ji6 := shl_small hji6
  have hji6u : (IntKind.i64.wrap (2 ^ min a0_0.toNat 64)) = ji6 := by have h_ := hji6_; rw [Int.one_mul] at h_; exact h_
  have hji6v : a0_0 ≤ 64 → (IntKind.i64.wrap (2 ^ a0_0.toNat)) = ji6 := fun hle_ => by have h_ := hji6z hle_; rw [Int.one_mul] at h_; exact h_
  have hji6y : (wrap64 (1 * 2 ^ min a0_0.toNat 64)) = ji6 := (i64_w _).symm.trans hji6_
  have hji6x : a0_0 ≤ 64 → (wrap64 (1 * 2 ^ a0_0.toNat)) = ji6 := fun h_ => (i64_w _).symm.trans (hji6z h_)
  obtain ⟨ji7, hji7⟩ : ∃ j_ : Int, (wrap64 ((ji6) - 1)) = j_ := ⟨_, rfl⟩
  replace H : (if 0 ≤ (ji7) then (if (ji7) < (t401.length : Int) then (some (rd t401 (ji7), true)) else (none)) else (none)) = some (r1, r2) := by first | (rw [hji7] at H; exact H) | (simp only [hji7] at H ⊢; exact H)
  (try rw [hji7] at A2)
  (try rw [hji7] at A4)
  have hji7w : (IntKind.i64.wrap ((ji6) - 1)) = ji7 := (i64_w _).trans hji7
  obtain ⟨c8, H⟩ := itNP H
  have c8b0 : decide (0 ≤ (ji7)) = true := decide_eq_true c8
  clear c8
  obtain ⟨c9, H⟩ := itNP H
  have c9b0 : decide ((ji7) < (t401.length : Int)) = true := decide_eq_true c9
  clear c9
  simp only [Option.some.injEq, Prod.mk.injEq] at H
  obtain ⟨rfl, rfl⟩ := H
  go_enter Tryd.func12, Tryd.ntmps12
  try go_wp2_with (first | ((with_reducible refine gate_dst (N := 1) rfl ?_); refine boxE (N := 1) (cs := #[.int .i64 a0_0, .slice A0_1 l0_1.length c0_1]) (t := 26) ?_; intro gb399 hg w10 hbox hb; have BK399 := mkA (hbox); have GE399 := geB HB hg; replace HB := bst HB hb; clear hb hbox hg; obtain ⟨hcz11_0, hcz11_1, hfz11_0, hfz11_1⟩ := blk2 BK399) | ((with_reducible refine gate_callee (f := 17) rfl ?_); refine goesQ (some 5) Tryd.func17 #[.agg #[.int .i64 a0_0, .slice A0_1 l0_1.length c0_1]] ?_; (with_reducible refine (spec_orGood.calls k a0_0 _ _ l0_1 true _ ?s1 ?s2 A2.out).mono ?_); (case s1 => exact C_g HR0_1 HB); (case s2 => exact HC0_1.out); rintro e w12 ⟨rfl, hb⟩; refine ⟨_, rfl, ?_⟩; replace BK399 := blkB BK399 hb; replace HB := bst HB hb; (try clear hb); (try clear hi)))
  replace BK399 := mkA (blk_drew BK399.out)
  replace HB := mkA (below_drew1 HB.out)
  refine start_ (n := 10) (S := fun w' => w'.cell? ⟨gb399, 0, none⟩ = some (.int .i64 a0_0) ∧ w'.cell? ⟨gb399, 1, none⟩ = some (.slice A0_1 l0_1.length c0_1)) (ds := []) (bm 10 0) (by kernel_rfl) rfl (by kernel_rfl) ⟨(blk_cell BK399.out 0).trans rfl, (blk_cell BK399.out 1).trans rfl⟩ (fun hHeld => ?_); refine with_tabW spec_CountExtensions.tab3 spec_CountExtensions.bits3 (fun HT_ HW_ => ?_)
  generalize w12.drew = w13 at BK399 HB hHeld ⊢
  refine pureW 2 (some 9) (bm 10 4) HT_ ?_
  refine takeW 0 (some 7) (bm 10 5) HT_ HW_ hHeld ?_
  refine takeW 3 (some 10) (bm 10 13) HT_ HW_ hHeld ?_
  refine pureW 4 (some 11) (bm 10 29) HT_ ?_
  refine pureW 5 (some 12) (bm 10 61) HT_ ?_
  refine oneW 1 (some 8) (bm 10 63) HT_ (fun K hK => ?_)
  refine goesR Tryd.func23 #[.agg #[.int .i64 a0_0, .slice A0_1 l0_1.length c0_1]] ?_
  with_reducible refine (spec_orCount.calls k a0_0 _ _ l0_1 t401 _ ?s1 ?s2 A4.out).mono ?_
  (case s1 => exact C_g HR0_1 HB)
  (case s2 => exact HC0_1.out)
  rintro e w14 ⟨v402, rfl, ho0, hb⟩
  skip
  refine ⟨_, rfl, ?_⟩
  have HO403 := mkA (Kd.R_lower ho0 (below_size (bel_g HB.out)))
  replace BK399 := blkB BK399 hb
  replace HB := bst HB hb
  (try clear hb)
  (try clear hb2)
  (try clear hk)
  (try clear hi)
  (try clear ho0)
  obtain ⟨Ao15, co15, eo15⟩ := Kd.R_slice HO403.out
  (first | subst eo15 | (injection eo15 with f1_ f2_ f3_; have f4_ := f1_.symm; have f5_ := f3_.symm; clear f1_ f2_ f3_; subst f4_; subst f5_))
  have p404 : 0 ≤ ((ji7) : Int) := ofd
  have q404 : (ji7) < (t401.length : Int) := ofd
  obtain ⟨ad404, e404, hx404_0⟩ := Kd.at_int (Kd.R_reads' HO403.out).2.2 (ji7) p404 q404
  cases e404
  replace p404 := eq_true p404
  replace q404 := eq_true q404
  refine hK.out _ _ ⟨(blk_cell BK399.out 0).trans rfl, (blk_cell BK399.out 1).trans rfl⟩ (fun hHeld => ?_)
  clear hK K
  refine spec_CountExtensions.more1_ (S' := fun w' => w'.cell? ⟨gb399, 0, none⟩ = some (.int .i64 a0_0) ∧ w'.cell? ⟨gb399, 1, none⟩ = some (.slice A0_1 l0_1.length c0_1) ∧ w'.cell? (ad404.add ((ji7)).toNat) = some (.int .i64 (rd t401 (ji7)))) (fun _ h_ => ⟨h_.1, h_.2.1⟩) ⟨hHeld.1, hHeld.2, hx404_0⟩ (fun hHeld => ?_)
  refine normW 8 ?_
  refine pureW 6 (some 13) (bm 10 127) HT_ ?_
  refine takeW 7 (some 14) (bm 10 255) HT_ HW_ hHeld ?_
  refine pureW 8 (some 2) (bm 10 511) HT_ ?_
  refine pureW 9 (some 3) (bm 10 1023) HT_ ?_
  refine doneW HT_ ?_
  try go_wp2
  go_ret2
  exact ⟨by first | rfl | (simp [errW_none, errW_some] <;> rfl) | (simp only [← hji6, ← hji7]; first | rfl | (simp [errW_none, errW_some] <;> rfl)) | (simp [*, errW_none, errW_some] <;> rfl), bel_g HB.out⟩
 ·replace c3 := Bool.eq_false_iff.mpr c3
  subst c3
  replace H := ifF H
  simp only [Option.some.injEq, Prod.mk.injEq] at H
  obtain ⟨rfl, rfl⟩ := H
  go_enter Tryd.func12, Tryd.ntmps12
  go_wp2_with (first | ((with_reducible refine gate_dst (N := 1) rfl ?_); refine boxE (N := 1) (cs := #[.int .i64 a0_0, .slice A0_1 l0_1.length c0_1]) (t := 26) ?_; intro gb399 hg w16 hbox hb; have BK399 := mkA (hbox); have GE399 := geB HB hg; replace HB := bst HB hb; clear hb hbox hg; obtain ⟨hcz17_0, hcz17_1, hfz17_0, hfz17_1⟩ := blk2 BK399) | ((with_reducible refine gate_callee (f := 17) rfl ?_); refine goesQ (some 5) Tryd.func17 #[.agg #[.int .i64 a0_0, .slice A0_1 l0_1.length c0_1]] ?_; (with_reducible refine (spec_orGood.calls k a0_0 _ _ l0_1 false _ ?s1 ?s2 A2.out).mono ?_); (case s1 => exact C_g HR0_1 HB); (case s2 => exact HC0_1.out); rintro e w18 ⟨rfl, hb⟩; refine ⟨_, rfl, ?_⟩; replace BK399 := blkB BK399 hb; replace HB := bst HB hb; (try clear hb); (try clear hi)))
  go_ret2
  exact ⟨eqE, bel_g HB.out⟩
end Go.Proofs.YtgdnljpallpjiaaDoor.Q
