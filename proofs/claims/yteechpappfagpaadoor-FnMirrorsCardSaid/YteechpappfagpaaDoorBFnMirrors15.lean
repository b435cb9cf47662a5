import Derived.Test.YteechpappfagpaaDoorBFnMirrors0
import Derived.Test.YteechpappfagpaaDoorBFnMirrors1
import Derived.Test.YteechpappfagpaaDoorBFnMirrors13
import Derived.Test.YteechpappfagpaaDoorBFnMirrors14
-- printed by this project's own program (wip/mp/mp.py) over the kit's print, for this seat; Lean checks it
namespace Go.Proofs.YteechpappfagpaaDoor.Q
open Go.RowKit Go.Proofs.YteechpappfagpaaDoorW.PrintWords Go.Proofs.YteechpappfagpaaDoorW.PrintLast Go.Proofs.YteechpappfagpaaDoorW.PrintMore
attribute [local go_sem] max2_int min2_int max_two min_two max_three min_three max_four min_four   -- for this text's walks alone
set_option linter.unusedVariables false
set_option maxHeartbeats 8000000
set_option maxRecDepth 100000
set_option linter.unusedSimpArgs false

/-! ### impl_IndifferentTo: function 47 -/
def impl_IndifferentTo.f (k : Nat) (a0_0 : Int) (l0_1 : List Int) (a1 : Int) : Option (Int × Bool) := (impl_IsRelation.f k a0_0 l0_1).bind fun t885 => (if t885 = true then ((impl_Order_has.f k a0_0 l0_1 (([a1] : List Int))).bind fun t889 => (if t889 = true then ((impl_Order_indifferent.f k a0_0 l0_1).bind fun t890 => (if 0 ≤ a1 then (if a1 < (t890.length : Int) then (some (rd t890 a1, true)) else (none)) else (none))) else (some (0, false)))) else (some (0, false)))
theorem impl_IndifferentTo.mono : ∀ a0 a1 a2 k, LeO (impl_IndifferentTo.f k a0 a1 a2) (impl_IndifferentTo.f (k + 1) a0 a1 a2) := by
 intro a0 a1 a2 k
 unfold impl_IndifferentTo.f
 repeat' (with_reducible first|exact impl_IsRelation.mono _ _ _|exact impl_Order_has.mono _ _ _ _|exact impl_Order_indifferent.mono _ _ _|exact LeO.refl _|exact LeO.none _|refine LeO.ite ?_ ?_|refine LeO.bind ?_ (fun _ => ?_))
theorem impl_IndifferentTo.calls (k : Nat) (a0_0 : Int) (A0_1 : Option Addr) (c0_1 : Nat) (l0_1 : List Int) (a1 : Int) (r1 : Int) (r2 : Bool) (w : World) (hr0_1 : Kd.C (Kd.int .i64) w A0_1 l0_1.length l0_1) (hc0_1 : l0_1.length ≤ c0_1) (h : impl_IndifferentTo.f k a0_0 l0_1 a1 = some (r1, r2)) :
  Calls Tryd.prog 47 #[.agg #[.int .i64 a0_0, .slice A0_1 l0_1.length c0_1], .int .i64 a1] w fun e w' => e = .returned (.tuple #[.int .i64 r1, .bool r2]) ∧ Below w.heap.size w w' := by
 have hu28 := Tryd.underlying28
 have HR0_1 := Aside0.mk hr0_1
 have HC0_1 := Aside0.mk hc0_1
 clear hr0_1 hc0_1
 have HB := Aside0.mk (Below.refl w.heap.size w)
 have H : ((impl_IsRelation.f k a0_0 l0_1).bind fun t885 => (if t885 = true then ((impl_Order_has.f k a0_0 l0_1 (([a1] : List Int))).bind fun t889 => (if t889 = true then ((impl_Order_indifferent.f k a0_0 l0_1).bind fun t890 => (if 0 ≤ a1 then (if a1 < (t890.length : Int) then (some (rd t890 a1, true)) else (none)) else (none))) else (some (0, false)))) else (some (0, false)))) = some (r1, r2) := h
 clear h
 obtain ⟨t885, A3, H⟩ := obE H
 by_cases c4 : t885 = true
 ·subst c4
  replace H := ifT H
  obtain ⟨y886, hy886⟩ : ∃ y_ : List Int, y_ = (([a1] : List Int)) := ⟨_, rfl⟩
  replace H : ((impl_Order_has.f k a0_0 l0_1 y886).bind fun t889 => (if t889 = true then ((impl_Order_indifferent.f k a0_0 l0_1).bind fun t890 => (if 0 ≤ a1 then (if a1 < (t890.length : Int) then (some (rd t890 a1, true)) else (none)) else (none))) else (some (0, false)))) = some (r1, r2) := by first | (rw [hy886]; with_reducible exact H) | (have H2_ := (Option.bind_some _ _).symm.trans H; rw [hy886]; with_reducible exact H2_) | (have H2_ := (Option.bind_some _ _).symm.trans H; with_reducible exact H2_) | with_reducible exact H | (rw [hy886]; exact H) | exact H
  have Ny886 := Aside0.mk hy886
  clear hy886
  obtain ⟨t889, A5, H⟩ := obE H
  by_cases c6 : t889 = true
  ·subst c6
   replace H := ifT H
   obtain ⟨t890, A7, H⟩ := obE H
   rcases iteP H with ⟨c8, H⟩ | ⟨c8, H⟩
   ·have c8b0 : decide (0 ≤ a1) = true := decide_eq_true c8
    clear c8
    rcases iteP H with ⟨c9, H⟩ | ⟨c9, H⟩
    ·have c9b0 : decide (a1 < (t890.length : Int)) = true := decide_eq_true c9
     clear c9
     simp only [Option.some.injEq, Prod.mk.injEq] at H
     obtain ⟨rfl, rfl⟩ := H
     go_enter Tryd.func47, Tryd.ntmps47
     go_wp2_with (first | ((with_reducible refine gate_dst (N := 2) rfl ?_); (try (refine gate_guard (by rfl) ?_; dsimp only)); refine boxE (N := 2) (cs := #[.int .i64 a0_0, .slice A0_1 l0_1.length c0_1]) (t := 28) ?_; intro gb884 hg w10 hbox hb; have BK884 := Aside0.mk (hbox); have GE884 := geB HB hg; replace HB := bst HB hb; clear hb hbox hg; obtain ⟨hcz11_0, hcz11_1, hfz11_0, hfz11_1⟩ := blk2 BK884) | ((with_reducible refine gate_callee (f := 109) rfl ?_); refine goesQ (some 7) Tryd.func109 #[.agg #[.int .i64 a0_0, .slice A0_1 l0_1.length c0_1]] ?_; (with_reducible refine (impl_IsRelation.calls k a0_0 _ _ l0_1 true _ ?side1 ?side2 A3.out).mono ?_); (case side1 => exact C_g HR0_1 HB); (case side2 => exact HC0_1.out); rintro e w12 ⟨rfl, hb⟩; refine ⟨_, rfl, ?_⟩; replace BK884 := blkB BK884 hb; replace HB := bst HB hb; (try clear hb); (try clear hk); obtain ⟨hcz13_0, hcz13_1, hfz13_0, hfz13_1⟩ := blk2 BK884) | ((with_reducible refine gate_dst (N := 12) rfl ?_); (try (refine gate_guard (by rfl) ?_; dsimp only)); refine Kd.R_lit (Kd.int .i64) _ 3 ?hg (N := 12) ?hd (xs := ([a1] : List Int)) (inner := [.int .i64 a1]) (ok := fun _ => True) (okp := fun _ => True) ?hr ?hp (fun _ hk => hk) trivial (Below.refl _ _) (Nat.le_refl _) (by simp) ?_; (case hd => rfl); (case hg => rfl); (case hr => first | (go_simp; done) | (go_simp; rfl)); (case hp => exact (Reps.one (show Kd.M (Kd.int .i64) _ _ _ a1 [.int .i64 a1] from rfl) (Reps.none _ _))); intro v887 w14 ho15 hb hg_ hnew_; clear hg_ hnew_; (first | rw [← Ny886.out] at ho15 | (simp only [Int.reduceToNat] at ho15; rw [← Ny886.out] at ho15)); have HO888 := Aside0.mk (Kd.R_lower ho15 (below_size (bel_g HB.out))); replace BK884 := blkB BK884 hb; replace HB := bst HB hb; clear hb ho15; obtain ⟨Ao16, co16, eo16⟩ := Kd.R_slice HO888.out; subst eo16) | (go_at_call 114; (with_reducible refine (impl_Order_has.calls k a0_0 _ _ l0_1 _ _ y886 true _ ?side1 ?side2 ?side3 ?side4 A5.out).mono ?_); (case side1 => exact C_g HR0_1 HB); (case side2 => exact HC0_1.out); (case side3 => repeat (first | exact (Kd.R_reads' HO888.out).2.2 | (with_reducible refine Kd.C_alloc ?_ _) | (with_reducible refine Kd.C_drewN ?_ _) | (with_reducible refine Kd.C_drew ?_))); (case side4 => exact (Kd.R_reads' HO888.out).2.1); rintro e w17 ⟨rfl, hb⟩; replace HO888 := Aside0.mk (Kd.R_below (Kd.R_g HO888.out) hb); replace BK884 := blkB BK884 hb; replace HB := bst HB hb; (try clear hb); (try clear hk); obtain ⟨hcz18_0, hcz18_1, hfz18_0, hfz18_1⟩ := blk2 BK884) | ((with_reducible refine gate_callee (f := 115) rfl ?_); refine goesQ (some 17) Tryd.func115 #[.agg #[.int .i64 a0_0, .slice A0_1 l0_1.length c0_1]] ?_; (with_reducible refine (impl_Order_indifferent.calls k a0_0 _ _ l0_1 t890 _ ?side1 ?side2 A7.out).mono ?_); (case side1 => exact C_g HR0_1 HB); (case side2 => exact HC0_1.out); rintro e w19 ⟨v891, rfl, ho0, hb⟩; refine ⟨_, rfl, ?_⟩; have HO892 := Aside0.mk (Kd.R_lower (Kd.R_new' ho0 (Kd.R_lt (Kd.R_g HO888.out))) (below_size (bel_g HB.out))); replace HO888 := Aside0.mk (Kd.R_elder' (Kd.R_g HO888.out) (Kd.R_base ho0) hb); replace BK884 := blkB BK884 hb; replace HB := bst HB hb; (try clear hb); (try clear hk); (try clear ho0); obtain ⟨Ao20, co20, eo20⟩ := Kd.R_slice HO892.out; subst eo20; have p893 : 0 ≤ (a1 : Int) := ofd; have q893 : a1 < (t890.length : Int) := ofd; obtain ⟨ad893, e893, hx893_0⟩ := Kd.at_int (Kd.R_reads' HO892.out).2.2 a1 p893 q893; cases e893; replace p893 := eq_true p893; replace q893 := eq_true q893))
     go_ret2
     exact ⟨eqE, bel_g HB.out⟩
    ·exact absurd H (by simp)
   ·exact absurd H (by simp)
  ·replace c6 := Bool.eq_false_iff.mpr c6
   subst c6
   replace H := ifF H
   simp only [Option.some.injEq, Prod.mk.injEq] at H
   obtain ⟨rfl, rfl⟩ := H
   go_enter Tryd.func47, Tryd.ntmps47
   go_wp2_with (first | ((with_reducible refine gate_dst (N := 2) rfl ?_); (try (refine gate_guard (by rfl) ?_; dsimp only)); refine boxE (N := 2) (cs := #[.int .i64 a0_0, .slice A0_1 l0_1.length c0_1]) (t := 28) ?_; intro gb884 hg w21 hbox hb; have BK884 := Aside0.mk (hbox); have GE884 := geB HB hg; replace HB := bst HB hb; clear hb hbox hg; obtain ⟨hcz22_0, hcz22_1, hfz22_0, hfz22_1⟩ := blk2 BK884) | ((with_reducible refine gate_callee (f := 109) rfl ?_); refine goesQ (some 7) Tryd.func109 #[.agg #[.int .i64 a0_0, .slice A0_1 l0_1.length c0_1]] ?_; (with_reducible refine (impl_IsRelation.calls k a0_0 _ _ l0_1 true _ ?side1 ?side2 A3.out).mono ?_); (case side1 => exact C_g HR0_1 HB); (case side2 => exact HC0_1.out); rintro e w23 ⟨rfl, hb⟩; refine ⟨_, rfl, ?_⟩; replace BK884 := blkB BK884 hb; replace HB := bst HB hb; (try clear hb); (try clear hk); obtain ⟨hcz24_0, hcz24_1, hfz24_0, hfz24_1⟩ := blk2 BK884) | ((with_reducible refine gate_dst (N := 12) rfl ?_); (try (refine gate_guard (by rfl) ?_; dsimp only)); refine Kd.R_lit (Kd.int .i64) _ 3 ?hg (N := 12) ?hd (xs := ([a1] : List Int)) (inner := [.int .i64 a1]) (ok := fun _ => True) (okp := fun _ => True) ?hr ?hp (fun _ hk => hk) trivial (Below.refl _ _) (Nat.le_refl _) (by simp) ?_; (case hd => rfl); (case hg => rfl); (case hr => first | (go_simp; done) | (go_simp; rfl)); (case hp => exact (Reps.one (show Kd.M (Kd.int .i64) _ _ _ a1 [.int .i64 a1] from rfl) (Reps.none _ _))); intro v887 w25 ho26 hb hg_ hnew_; clear hg_ hnew_; (first | rw [← Ny886.out] at ho26 | (simp only [Int.reduceToNat] at ho26; rw [← Ny886.out] at ho26)); have HO888 := Aside0.mk (Kd.R_lower ho26 (below_size (bel_g HB.out))); replace BK884 := blkB BK884 hb; replace HB := bst HB hb; clear hb ho26; obtain ⟨Ao27, co27, eo27⟩ := Kd.R_slice HO888.out; subst eo27) | (go_at_call 114; (with_reducible refine (impl_Order_has.calls k a0_0 _ _ l0_1 _ _ y886 false _ ?side1 ?side2 ?side3 ?side4 A5.out).mono ?_); (case side1 => exact C_g HR0_1 HB); (case side2 => exact HC0_1.out); (case side3 => repeat (first | exact (Kd.R_reads' HO888.out).2.2 | (with_reducible refine Kd.C_alloc ?_ _) | (with_reducible refine Kd.C_drewN ?_ _) | (with_reducible refine Kd.C_drew ?_))); (case side4 => exact (Kd.R_reads' HO888.out).2.1); rintro e w28 ⟨rfl, hb⟩; replace HO888 := Aside0.mk (Kd.R_below (Kd.R_g HO888.out) hb); replace BK884 := blkB BK884 hb; replace HB := bst HB hb; (try clear hb); (try clear hk)))
   go_ret2
   exact ⟨eqE, bel_g HB.out⟩
 ·replace c4 := Bool.eq_false_iff.mpr c4
  subst c4
  replace H := ifF H
  simp only [Option.some.injEq, Prod.mk.injEq] at H
  obtain ⟨rfl, rfl⟩ := H
  go_enter Tryd.func47, Tryd.ntmps47
  go_wp2_with (first | ((with_reducible refine gate_dst (N := 2) rfl ?_); (try (refine gate_guard (by rfl) ?_; dsimp only)); refine boxE (N := 2) (cs := #[.int .i64 a0_0, .slice A0_1 l0_1.length c0_1]) (t := 28) ?_; intro gb884 hg w29 hbox hb; have BK884 := Aside0.mk (hbox); have GE884 := geB HB hg; replace HB := bst HB hb; clear hb hbox hg; obtain ⟨hcz30_0, hcz30_1, hfz30_0, hfz30_1⟩ := blk2 BK884) | ((with_reducible refine gate_callee (f := 109) rfl ?_); refine goesQ (some 7) Tryd.func109 #[.agg #[.int .i64 a0_0, .slice A0_1 l0_1.length c0_1]] ?_; (with_reducible refine (impl_IsRelation.calls k a0_0 _ _ l0_1 false _ ?side1 ?side2 A3.out).mono ?_); (case side1 => exact C_g HR0_1 HB); (case side2 => exact HC0_1.out); rintro e w31 ⟨rfl, hb⟩; refine ⟨_, rfl, ?_⟩; replace BK884 := blkB BK884 hb; replace HB := bst HB hb; (try clear hb); (try clear hk)))
  go_ret2
  exact ⟨eqE, bel_g HB.out⟩

end Go.Proofs.YteechpappfagpaaDoor.Q

-- printed by this project's own program (wip/mp/mp.py) over the kit's print, for this seat; Lean checks it
namespace Go.Proofs.YteechpappfagpaaDoor.Q
open Go.RowKit Go.Proofs.YteechpappfagpaaDoorW.PrintWords Go.Proofs.YteechpappfagpaaDoorW.PrintLast Go.Proofs.YteechpappfagpaaDoorW.PrintMore
attribute [local go_sem] max2_int min2_int max_two min_two max_three min_three max_four min_four   -- for this text's walks alone
set_option linter.unusedVariables false
set_option maxHeartbeats 8000000
set_option maxRecDepth 100000
set_option linter.unusedSimpArgs false

/-! ### laws_pIn: function 48 -/
def laws_pIn.f (a0 : Int) (a1 : Int) : Option (Bool) := if 0 ≤ a1 then (some ((Int.tmod (shr .i64 a0 a1) 2) == 1)) else (none)
theorem laws_pIn.calls (a0 : Int) (a1 : Int) (r : Bool) (w : World) (h : laws_pIn.f a0 a1 = some r) :
  Calls Tryd.prog 48 #[.int .i64 a0, .int .i64 a1] w fun e w' => e = .returned (.bool r) ∧ Drawn0 w w' := by
 have H : (if 0 ≤ a1 then (some ((Int.tmod (shr .i64 a0 a1) 2) == 1)) else (none)) = some r := h
 clear h
 rcases iteP H with ⟨c3, H⟩ | ⟨c3, H⟩
 ·have c3b0 := eq_true c3
  have c3b1 : decide (0 ≤ a1) = true := decide_eq_true c3
  clear c3
  obtain ⟨ji4, hji4⟩ : ∃ j_ : Int, (shr .i64 a0 a1) = j_ := ⟨_, rfl⟩
  replace H : (some ((Int.tmod (ji4) 2) == 1)) = some r := by first | (rw [hji4] at H; exact H) | (simp only [hji4] at H ⊢; exact H)
  have hji4_ : (a0 / 2 ^ min a1.toNat 64) = ji4 := hji4
  have hji4z : a1 ≤ 64 → (a0 / 2 ^ a1.toNat) = ji4 := shr_small hji4
  obtain rfl := Option.some.inj H
  go_enter Tryd.func48, Tryd.ntmps48
  go_wp2
  go_ret
  exact ⟨by first | rfl | (simp; done) | (simp only [← hji4] <;> (first | rfl | simp)) | (simp [*]; done), by repeat (first | exact Drawn0.refl _ | apply Drawn0.step)⟩
 ·exact absurd H (by simp)

end Go.Proofs.YteechpappfagpaaDoor.Q

-- printed by this project's own program (wip/mp/mp.py) over the kit's print, for this seat; Lean checks it
namespace Go.Proofs.YteechpappfagpaaDoor.Q
open Go.RowKit Go.Proofs.YteechpappfagpaaDoorW.PrintWords Go.Proofs.YteechpappfagpaaDoorW.PrintLast Go.Proofs.YteechpappfagpaaDoorW.PrintMore
attribute [local go_sem] max2_int min2_int max_two min_two max_three min_three max_four min_four   -- for this text's walks alone
set_option linter.unusedVariables false
set_option maxHeartbeats 8000000
set_option maxRecDepth 100000
set_option linter.unusedSimpArgs false

/-! ### impl_IsBetter: function 49 -/
def impl_IsBetter.f (k : Nat) (a0_0 : Int) (l0_1 : List Int) (a1 : Int) (a2 : Int) : Option (Bool × Bool) := (impl_IsRelation.f k a0_0 l0_1).bind fun t895 => (if t895 = true then ((impl_Order_has.f k a0_0 l0_1 (([a1, a2] : List Int))).bind fun t899 => (if t899 = true then ((impl_Order_better.f a0_0 l0_1 a1 a2).bind fun t900 => (some (t900, true))) else (some (false, false)))) else (some (false, false)))
theorem impl_IsBetter.mono : ∀ a0 a1 a2 a3 k, LeO (impl_IsBetter.f k a0 a1 a2 a3) (impl_IsBetter.f (k + 1) a0 a1 a2 a3) := by
 intro a0 a1 a2 a3 k
 unfold impl_IsBetter.f
 repeat' (with_reducible first|exact impl_IsRelation.mono _ _ _|exact impl_Order_has.mono _ _ _ _|exact LeO.refl _|exact LeO.none _|refine LeO.ite ?_ ?_|refine LeO.bind ?_ (fun _ => ?_))
theorem impl_IsBetter.calls (k : Nat) (a0_0 : Int) (A0_1 : Option Addr) (c0_1 : Nat) (l0_1 : List Int) (a1 : Int) (a2 : Int) (r1 : Bool) (r2 : Bool) (w : World) (hr0_1 : Kd.C (Kd.int .i64) w A0_1 l0_1.length l0_1) (hc0_1 : l0_1.length ≤ c0_1) (h : impl_IsBetter.f k a0_0 l0_1 a1 a2 = some (r1, r2)) :
  Calls Tryd.prog 49 #[.agg #[.int .i64 a0_0, .slice A0_1 l0_1.length c0_1], .int .i64 a1, .int .i64 a2] w fun e w' => e = .returned (.tuple #[.bool r1, .bool r2]) ∧ Below w.heap.size w w' := by
 have hu28 := Tryd.underlying28
 have HR0_1 := Aside0.mk hr0_1
 have HC0_1 := Aside0.mk hc0_1
 clear hr0_1 hc0_1
 have HB := Aside0.mk (Below.refl w.heap.size w)
 have H : ((impl_IsRelation.f k a0_0 l0_1).bind fun t895 => (if t895 = true then ((impl_Order_has.f k a0_0 l0_1 (([a1, a2] : List Int))).bind fun t899 => (if t899 = true then ((impl_Order_better.f a0_0 l0_1 a1 a2).bind fun t900 => (some (t900, true))) else (some (false, false)))) else (some (false, false)))) = some (r1, r2) := h
 clear h
 obtain ⟨t895, A4, H⟩ := obE H
 by_cases c5 : t895 = true
 ·subst c5
  replace H := ifT H
  obtain ⟨y896, hy896⟩ : ∃ y_ : List Int, y_ = (([a1, a2] : List Int)) := ⟨_, rfl⟩
  replace H : ((impl_Order_has.f k a0_0 l0_1 y896).bind fun t899 => (if t899 = true then ((impl_Order_better.f a0_0 l0_1 a1 a2).bind fun t900 => (some (t900, true))) else (some (false, false)))) = some (r1, r2) := by first | (rw [hy896]; with_reducible exact H) | (have H2_ := (Option.bind_some _ _).symm.trans H; rw [hy896]; with_reducible exact H2_) | (have H2_ := (Option.bind_some _ _).symm.trans H; with_reducible exact H2_) | with_reducible exact H | (rw [hy896]; exact H) | exact H
  have Ny896 := Aside0.mk hy896
  clear hy896
  obtain ⟨t899, A6, H⟩ := obE H
  by_cases c7 : t899 = true
  ·subst c7
   replace H := ifT H
   obtain ⟨t900, A8, H⟩ := obE H
   simp only [Option.some.injEq, Prod.mk.injEq] at H
   obtain ⟨rfl, rfl⟩ := H
   go_enter Tryd.func49, Tryd.ntmps49
   go_wp2_with (first | ((with_reducible refine gate_dst (N := 3) rfl ?_); (try (refine gate_guard (by rfl) ?_; dsimp only)); refine boxE (N := 3) (cs := #[.int .i64 a0_0, .slice A0_1 l0_1.length c0_1]) (t := 28) ?_; intro gb894 hg w9 hbox hb; have BK894 := Aside0.mk (hbox); have GE894 := geB HB hg; replace HB := bst HB hb; clear hb hbox hg; obtain ⟨hcz10_0, hcz10_1, hfz10_0, hfz10_1⟩ := blk2 BK894) | ((with_reducible refine gate_callee (f := 109) rfl ?_); refine goesQ (some 9) Tryd.func109 #[.agg #[.int .i64 a0_0, .slice A0_1 l0_1.length c0_1]] ?_; (with_reducible refine (impl_IsRelation.calls k a0_0 _ _ l0_1 true _ ?side1 ?side2 A4.out).mono ?_); (case side1 => exact C_g HR0_1 HB); (case side2 => exact HC0_1.out); rintro e w11 ⟨rfl, hb⟩; refine ⟨_, rfl, ?_⟩; replace BK894 := blkB BK894 hb; replace HB := bst HB hb; (try clear hb); (try clear hk); obtain ⟨hcz12_0, hcz12_1, hfz12_0, hfz12_1⟩ := blk2 BK894) | ((with_reducible refine gate_dst (N := 15) rfl ?_); (try (refine gate_guard (by rfl) ?_; dsimp only)); refine Kd.R_lit (Kd.int .i64) _ 3 ?hg (N := 15) ?hd (xs := ([a1, a2] : List Int)) (inner := [.int .i64 a1, .int .i64 a2]) (ok := fun _ => True) (okp := fun _ => True) ?hr ?hp (fun _ hk => hk) trivial (Below.refl _ _) (Nat.le_refl _) (by simp) ?_; (case hd => rfl); (case hg => rfl); (case hr => first | (go_simp; done) | (go_simp; rfl)); (case hp => exact (Reps.one (show Kd.M (Kd.int .i64) _ _ _ a1 [.int .i64 a1] from rfl) (Reps.one (show Kd.M (Kd.int .i64) _ _ _ a2 [.int .i64 a2] from rfl) (Reps.none _ _)))); intro v897 w13 ho14 hb hg_ hnew_; clear hg_ hnew_; (first | rw [← Ny896.out] at ho14 | (simp only [Int.reduceToNat] at ho14; rw [← Ny896.out] at ho14)); have HO898 := Aside0.mk (Kd.R_lower ho14 (below_size (bel_g HB.out))); replace BK894 := blkB BK894 hb; replace HB := bst HB hb; clear hb ho14; obtain ⟨Ao15, co15, eo15⟩ := Kd.R_slice HO898.out; subst eo15) | (go_at_call 114; (with_reducible refine (impl_Order_has.calls k a0_0 _ _ l0_1 _ _ y896 true _ ?side1 ?side2 ?side3 ?side4 A6.out).mono ?_); (case side1 => exact C_g HR0_1 HB); (case side2 => exact HC0_1.out); (case side3 => repeat (first | exact (Kd.R_reads' HO898.out).2.2 | (with_reducible refine Kd.C_alloc ?_ _) | (with_reducible refine Kd.C_drewN ?_ _) | (with_reducible refine Kd.C_drew ?_))); (case side4 => exact (Kd.R_reads' HO898.out).2.1); rintro e w16 ⟨rfl, hb⟩; replace HO898 := Aside0.mk (Kd.R_below (Kd.R_g HO898.out) hb); replace BK894 := blkB BK894 hb; replace HB := bst HB hb; (try clear hb); (try clear hk); obtain ⟨hcz17_0, hcz17_1, hfz17_0, hfz17_1⟩ := blk2 BK894) | ((with_reducible refine gate_callee (f := 91) rfl ?_); refine goesQ (some 22) Tryd.func91 #[.agg #[.int .i64 a0_0, .slice A0_1 l0_1.length c0_1], .int .i64 a1, .int .i64 a2] ?_; (with_reducible refine (impl_Order_better.calls a0_0 _ _ l0_1 a1 a2 t900 _ ?side1 ?side2 A8.out).mono ?_); (case side1 => exact C_g HR0_1 HB); (case side2 => exact HC0_1.out); rintro e w18 ⟨rfl, hb⟩; refine ⟨_, rfl, ?_⟩; replace HO898 := Aside0.mk (Kd.R_below (Kd.R_g HO898.out) hb); replace BK894 := blkB BK894 hb; replace HB := bst HB hb; (try clear hb); (try clear hk)))
   go_ret2
   exact ⟨eqE, bel_g HB.out⟩
  ·replace c7 := Bool.eq_false_iff.mpr c7
   subst c7
   replace H := ifF H
   simp only [Option.some.injEq, Prod.mk.injEq] at H
   obtain ⟨rfl, rfl⟩ := H
   go_enter Tryd.func49, Tryd.ntmps49
   go_wp2_with (first | ((with_reducible refine gate_dst (N := 3) rfl ?_); (try (refine gate_guard (by rfl) ?_; dsimp only)); refine boxE (N := 3) (cs := #[.int .i64 a0_0, .slice A0_1 l0_1.length c0_1]) (t := 28) ?_; intro gb894 hg w19 hbox hb; have BK894 := Aside0.mk (hbox); have GE894 := geB HB hg; replace HB := bst HB hb; clear hb hbox hg; obtain ⟨hcz20_0, hcz20_1, hfz20_0, hfz20_1⟩ := blk2 BK894) | ((with_reducible refine gate_callee (f := 109) rfl ?_); refine goesQ (some 9) Tryd.func109 #[.agg #[.int .i64 a0_0, .slice A0_1 l0_1.length c0_1]] ?_; (with_reducible refine (impl_IsRelation.calls k a0_0 _ _ l0_1 true _ ?side1 ?side2 A4.out).mono ?_); (case side1 => exact C_g HR0_1 HB); (case side2 => exact HC0_1.out); rintro e w21 ⟨rfl, hb⟩; refine ⟨_, rfl, ?_⟩; replace BK894 := blkB BK894 hb; replace HB := bst HB hb; (try clear hb); (try clear hk); obtain ⟨hcz22_0, hcz22_1, hfz22_0, hfz22_1⟩ := blk2 BK894) | ((with_reducible refine gate_dst (N := 15) rfl ?_); (try (refine gate_guard (by rfl) ?_; dsimp only)); refine Kd.R_lit (Kd.int .i64) _ 3 ?hg (N := 15) ?hd (xs := ([a1, a2] : List Int)) (inner := [.int .i64 a1, .int .i64 a2]) (ok := fun _ => True) (okp := fun _ => True) ?hr ?hp (fun _ hk => hk) trivial (Below.refl _ _) (Nat.le_refl _) (by simp) ?_; (case hd => rfl); (case hg => rfl); (case hr => first | (go_simp; done) | (go_simp; rfl)); (case hp => exact (Reps.one (show Kd.M (Kd.int .i64) _ _ _ a1 [.int .i64 a1] from rfl) (Reps.one (show Kd.M (Kd.int .i64) _ _ _ a2 [.int .i64 a2] from rfl) (Reps.none _ _)))); intro v897 w23 ho24 hb hg_ hnew_; clear hg_ hnew_; (first | rw [← Ny896.out] at ho24 | (simp only [Int.reduceToNat] at ho24; rw [← Ny896.out] at ho24)); have HO898 := Aside0.mk (Kd.R_lower ho24 (below_size (bel_g HB.out))); replace BK894 := blkB BK894 hb; replace HB := bst HB hb; clear hb ho24; obtain ⟨Ao25, co25, eo25⟩ := Kd.R_slice HO898.out; subst eo25) | (go_at_call 114; (with_reducible refine (impl_Order_has.calls k a0_0 _ _ l0_1 _ _ y896 false _ ?side1 ?side2 ?side3 ?side4 A6.out).mono ?_); (case side1 => exact C_g HR0_1 HB); (case side2 => exact HC0_1.out); (case side3 => repeat (first | exact (Kd.R_reads' HO898.out).2.2 | (with_reducible refine Kd.C_alloc ?_ _) | (with_reducible refine Kd.C_drewN ?_ _) | (with_reducible refine Kd.C_drew ?_))); (case side4 => exact (Kd.R_reads' HO898.out).2.1); rintro e w26 ⟨rfl, hb⟩; replace HO898 := Aside0.mk (Kd.R_below (Kd.R_g HO898.out) hb); replace BK894 := blkB BK894 hb; replace HB := bst HB hb; (try clear hb); (try clear hk)))
   go_ret2
   exact ⟨eqE, bel_g HB.out⟩
 ·replace c5 := Bool.eq_false_iff.mpr c5
  subst c5
  replace H := ifF H
  simp only [Option.some.injEq, Prod.mk.injEq] at H
  obtain ⟨rfl, rfl⟩ := H
  go_enter Tryd.func49, Tryd.ntmps49
  go_wp2_with (first | ((with_reducible refine gate_dst (N := 3) rfl ?_); (try (refine gate_guard (by rfl) ?_; dsimp only)); refine boxE (N := 3) (cs := #[.int .i64 a0_0, .slice A0_1 l0_1.length c0_1]) (t := 28) ?_; intro gb894 hg w27 hbox hb; have BK894 := Aside0.mk (hbox); have GE894 := geB HB hg; replace HB := bst HB hb; clear hb hbox hg; obtain ⟨hcz28_0, hcz28_1, hfz28_0, hfz28_1⟩ := blk2 BK894) | ((with_reducible refine gate_callee (f := 109) rfl ?_); refine goesQ (some 9) Tryd.func109 #[.agg #[.int .i64 a0_0, .slice A0_1 l0_1.length c0_1]] ?_; (with_reducible refine (impl_IsRelation.calls k a0_0 _ _ l0_1 false _ ?side1 ?side2 A4.out).mono ?_); (case side1 => exact C_g HR0_1 HB); (case side2 => exact HC0_1.out); rintro e w29 ⟨rfl, hb⟩; refine ⟨_, rfl, ?_⟩; replace BK894 := blkB BK894 hb; replace HB := bst HB hb; (try clear hb); (try clear hk)))
  go_ret2
  exact ⟨eqE, bel_g HB.out⟩

end Go.Proofs.YteechpappfagpaaDoor.Q
