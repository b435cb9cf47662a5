import Derived.Test.YtokeomcijelbmaaDoorBFnFourRefuse15
namespace Go.Proofs.YtokeomcijelbmaaDoor.Q
open Go.RowKit Go.Proofs.YtokeomcijelbmaaDoorW.PrintWords Go.Proofs.YtokeomcijelbmaaDoorW.PrintLast Go.Proofs.YtokeomcijelbmaaDoorW.PrintMore
attribute [local go_sem] max2_int min2_int max_two min_two max_three min_three max_four min_four neB_f
set_option linter.unusedVariables false
set_option maxHeartbeats 8000000
set_option maxRecDepth 100000
set_option linter.unusedSimpArgs false
mutual
def impl_Order_setsAlong.l0 : Nat → List Int → List (S57) → Int → Int → Option (List Int)
 | 0, _, _, _, _ => none
 | k + 1, x3, x4, x13, x14 => if x14 < x13 then (impl_Order_setsAlong.l1 k x3 x4 x14 0 x13 x14 x4 (x4.length : Int) 0) else (some x3)
def impl_Order_setsAlong.l1 : Nat → List Int → List (S57) → Int → Int → Int → Int → List (S57) → Int → Int → Option (List Int)
 | 0, _, _, _, _, _, _, _, _, _ => none
 | k + 1, x3, x4, x5, x6, x13, x14, x17, x18, x19 => if x19 < x18 then (if 0 ≤ x19 then (if x19 < (x17.length : Int) then ((impl_within.f x5 ((rd_T57 x17 x19).f0) ((rd_T57 x17 x19).f1)).bind fun t536 => (if t536 = true then (impl_Order_setsAlong.l1 k x3 x4 x5 (Go.bits .or .i64 x6 (shl .i64 1 x19)) x13 x14 x17 x18 (wrap64 (x19 + 1))) else (impl_Order_setsAlong.l1 k x3 x4 x5 x6 x13 x14 x17 x18 (wrap64 (x19 + 1))))) else (none)) else (none)) else (if x3.length < 17592186044416 then (impl_Order_setsAlong.l0 k (x3 ++ [x6]) x4 x13 (wrap64 (x14 + 1))) else (none))
end
def impl_Order_setsAlong.f (k : Nat) (a0_0 : Int) (l0_1 : List Int) : Option (List Int) := (impl_Order_ends.f k a0_0 l0_1).bind fun t530 => ((impl_Order_magnitude.f k a0_0 l0_1).bind fun t533 => (impl_Order_setsAlong.l0 k (([] : List Int)) t530 t533 0))
theorem impl_Order_setsAlong.mono_l : ∀ k, (∀ y0 y1 y2 y3, LeO (impl_Order_setsAlong.l0 k y0 y1 y2 y3) (impl_Order_setsAlong.l0 (k + 1) y0 y1 y2 y3)) ∧ (∀ y0 y1 y2 y3 y4 y5 y6 y7 y8, LeO (impl_Order_setsAlong.l1 k y0 y1 y2 y3 y4 y5 y6 y7 y8) (impl_Order_setsAlong.l1 (k + 1) y0 y1 y2 y3 y4 y5 y6 y7 y8))
 | 0 => ⟨fun _ _ _ _ r h => by simp [impl_Order_setsAlong.l0] at h, fun _ _ _ _ _ _ _ _ _ r h => by simp [impl_Order_setsAlong.l1] at h⟩
 | k + 1 => by
  obtain ⟨ih0, ih1⟩ := impl_Order_setsAlong.mono_l k
  refine ⟨?_, ?_⟩ <;> intros
  unfold impl_Order_setsAlong.l0
  rotate_left
  unfold impl_Order_setsAlong.l1
  rotate_left
  all_goals repeat' (with_reducible first|apply ih0|apply ih1|apply impl_Order_ends.mono|apply impl_Order_magnitude.mono|apply LeO.refl|apply LeO.none|apply LeO.ite|apply LeO.bind|intro)
theorem impl_Order_setsAlong.mono : ∀ a0 a1 k, LeO (impl_Order_setsAlong.f k a0 a1) (impl_Order_setsAlong.f (k + 1) a0 a1) := by
 intro a0 a1 k
 obtain ⟨ih0, ih1⟩ := impl_Order_setsAlong.mono_l k
 unfold impl_Order_setsAlong.f
 repeat' (with_reducible first|apply ih0|apply ih1|apply impl_Order_ends.mono|apply impl_Order_magnitude.mono|apply LeO.refl|apply LeO.none|apply LeO.ite|apply LeO.bind|intro)
theorem impl_Order_setsAlong.calls (k : Nat) (a0_0 : Int) (A0_1 : Option Addr) (c0_1 : Nat) (l0_1 : List Int) (r : List Int) (w : World) (hr0_1 : Kd.C (Kd.int .i64) w A0_1 l0_1.length l0_1) (hc0_1 : l0_1.length ≤ c0_1) (h : impl_Order_setsAlong.f k a0_0 l0_1 = some r) :
  Calls Tryd.prog 25 #[.agg #[.int .i64 a0_0, .slice A0_1 l0_1.length c0_1]] w fun e w' => ∃ v0_ : Value, e = .returned (v0_) ∧ Kd.R (Kd.int .i64) 3 w' w.heap.size (fun _ => True) v0_ r ∧ Below w.heap.size w w' := by
 have hu26 := Tryd.underlying26
 have hu57 := Tryd.underlying57
 have HR0_1 := mkA hr0_1
 have HC0_1 := mkA hc0_1
 clear hr0_1 hc0_1
 have HB := mkA (Below.refl w.heap.size w)
 have H := h
 clear h
 unfold impl_Order_setsAlong.f at H
 obtain ⟨y527, hy527⟩ : ∃ y_ : List Int, y_ = (([] : List Int)) := ⟨_, rfl⟩
 rw [← hy527] at H
 have Ny527 := mkA hy527
 clear hy527
 obtain ⟨t530, A2, H⟩ := obE H
 obtain ⟨t533, A3, H⟩ := obE H
 have H' := mkA H
 clear H
 go_enter Tryd.func25, Tryd.ntmps25
 go_wp2_with (first | ((with_reducible refine gate_dst (N := 1) rfl ?_); refine boxG HB #[.int .i64 a0_0, .slice A0_1 l0_1.length c0_1] 26 ?_; intro gb526 hg w4 BK526 GE526 hb; replace HB := bst HB hb; clear hb hg) | ((with_reducible refine gate_dst (N := 9) rfl ?_); refine litE (Kd.int .i64) 3 ([] : List Int) [] ?hp ?_; (case hp => exact (Reps.none _ _)); intro v528 w5 ho6 hb hg_ hnew_; clear hg_ hnew_; (first | rw [← Ny527.out] at ho6 | (simp only [Int.reduceToNat] at ho6; rw [← Ny527.out] at ho6)); have HO529 := rLo ho6 HB; replace BK526 := blkB BK526 hb; replace HB := bst HB hb; clear hb ho6; obtain ⟨_, _, _, _⟩ := blk2 BK526) | ((with_reducible refine gate_callee (f := 23) rfl ?_); refine goesQ (some 11) Tryd.func23 #[.agg #[.int .i64 a0_0, .slice A0_1 l0_1.length c0_1]] ?_; (with_reducible refine (impl_Order_ends.calls k a0_0 _ _ l0_1 t530 _ ?_ ?_ A2.out).mono ?_); exact C_g HR0_1 HB; exact HC0_1.out; rintro e w8 ⟨v531, rfl, ho0, hb⟩; refine ⟨_, rfl, ?_⟩; replace HO529 := rB HO529 hb; have HO532 := rLo ho0 HB; replace BK526 := blkB BK526 hb; replace HB := bst HB hb; clear hb ho0; obtain ⟨_, _, _, _⟩ := blk2 BK526) | ((with_reducible refine gate_callee (f := 24) rfl ?_); refine goesQ (some 13) Tryd.func24 #[.agg #[.int .i64 a0_0, .slice A0_1 l0_1.length c0_1]] ?_; (with_reducible refine (impl_Order_magnitude.calls k a0_0 _ _ l0_1 t533 _ ?_ ?_ A3.out).mono ?_); exact C_g HR0_1 HB; exact HC0_1.out; rintro e w10 ⟨rfl, hb⟩; refine ⟨_, rfl, ?_⟩; replace HO529 := rB HO529 hb; replace HO532 := rB HO532 hb; replace BK526 := blkB BK526 hb; replace HB := bst HB hb; clear hb))
 go_loopg [3, 14] k (fun kq v3 v14 w' => ∃ (x3_1 : List Int) (x14_1 : Int), v14 = .int .i64 x14_1 ∧ Fc (impl_Order_setsAlong.l0 kq x3_1 t530 t533 x14_1 = some r) ∧ Fc (kq ≤ k) ∧ Fc (Kd.R (Kd.int .i64) 3 w' w.heap.size (fun _ => True) v3 x3_1) ∧ Fc (Kd.R k57 57 w' w.heap.size (fun _ => True) v531 t530) ∧ Fc (w'.heap[gb526]? = some (.cells #[.int .i64 a0_0, (.slice A0_1 l0_1.length c0_1)] 26 (0, 0))) ∧ Fc (Below w.heap.size w w'))
 case atStart => exact ⟨(y527), (0), eqS, H', ⟨Nat.le_refl _⟩, rg HO529, rg HO532, bg BK526, hbg HB⟩
 case round =>
  clear H'
  obtain ⟨x3_1, x14_1, rfl, HA, HK1, HO_3, HO_4, BK526, HB⟩ := hrel
  cases gk with
  | zero => exact absurd HA.out (by simp [impl_Order_setsAlong.l0])
  | succ k1 =>
   have H := HA.out
   clear HA
   simp only [impl_Order_setsAlong.l0] at H
   rcases iteE H with ⟨c11b0, H⟩ | ⟨c11b0, H⟩
   ·have H' := mkA H
    clear H
    obtain ⟨Ao12, co12, rfl⟩ := Kd.R_slice HO_4.out
    go_wp2
    go_loopg [6, 19] k1 (fun kq v6 v19 w' => ∃ (x6_2 : Int) (x19_2 : Int), v6 = .int .i64 x6_2 ∧ v19 = .int .i64 x19_2 ∧ Fc (impl_Order_setsAlong.l1 kq x3_1 t530 x14_1 x6_2 t533 x14_1 t530 (t530.length : Int) x19_2 = some r) ∧ Fc (kq ≤ k1) ∧ Fc (Kd.R (Kd.int .i64) 3 w' w.heap.size (fun _ => True) u3 x3_1) ∧ Fc (Kd.R k57 57 w' w.heap.size (fun _ => True) (.slice Ao12 t530.length co12) t530) ∧ Fc (Kd.R k57 57 w' w.heap.size (fun _ => True) (.slice Ao12 t530.length co12) t530) ∧ Fc (w'.heap[gb526]? = some (.cells #[.int .i64 a0_0, (.slice A0_1 l0_1.length c0_1)] 26 (0, 0))) ∧ Fc (Below w.heap.size w w'))
    case atStart => exact ⟨(0), (0), eqS, eqS, H', ⟨Nat.le_refl _⟩, rg HO_3, rg HO_4, rg HO_4, bg BK526, hbg HB⟩
    case round =>
     clear H'
     try clear c11b0
     obtain ⟨x6_2, x19_2, rfl, rfl, HA, HK2, HO_3, HO_4, HO_17, BK526, HB⟩ := hrel
     cases gk with
     | zero => exact absurd HA.out (by simp [impl_Order_setsAlong.l1])
     | succ k2 =>
      have H := HA.out
      clear HA
      simp only [impl_Order_setsAlong.l1] at H
      rcases iteE H with ⟨c13b0, H⟩ | ⟨c13b0, H⟩
      ·obtain ⟨c14b0, H⟩ := itND H
       obtain ⟨c15b0, H⟩ := itND H
       obtain ⟨t536, A16, H⟩ := obE H
       by_cases c17 : t536 = true
       ·subst c17
        replace H := ifT H
        have c18b0 := eq_true (ofd : 0 ≤ x19_2)
        obtain ⟨ji19, hji19⟩ : ∃ j_ : Int, (shl .i64 1 x19_2) = j_ := ⟨_, rfl⟩
        first | rw [hji19] at H | simp only [hji19] at H
        (try rw [hji19] at A16)
        have hji19_ : (IntKind.i64.wrap (1 * 2 ^ min x19_2.toNat 64)) = ji19 := hji19
        have hji19z : x19_2 ≤ 64 → (IntKind.i64.wrap (1 * 2 ^ x19_2.toNat)) = ji19 := shl_small hji19
        have hji19u : (IntKind.i64.wrap (2 ^ min x19_2.toNat 64)) = ji19 := by have h_ := hji19_; rw [Int.one_mul] at h_; exact h_
        have hji19v : x19_2 ≤ 64 → (IntKind.i64.wrap (2 ^ x19_2.toNat)) = ji19 := fun hle_ => by have h_ := hji19z hle_; rw [Int.one_mul] at h_; exact h_
        have hji19y : (wrap64 (1 * 2 ^ min x19_2.toNat 64)) = ji19 := (i64_w _).symm.trans hji19_
        have hji19x : x19_2 ≤ 64 → (wrap64 (1 * 2 ^ x19_2.toNat)) = ji19 := fun h_ => (i64_w _).symm.trans (hji19z h_)
        have H' := mkA H
        clear H
        have p534 : 0 ≤ (x19_2 : Int) := ofd
        have q534 : x19_2 < (t530.length : Int) := ofd
        obtain ⟨ad534, e534, hx534_0, hx534_1⟩ := at_T57 (Kd.R_reads' HO_17.out).2.2 x19_2 p534 q534
        cases e534
        replace p534 := eq_true p534
        replace q534 := eq_true q534
        go_wp2_with (first | ((with_reducible refine gate_dst (N := 8) rfl ?_); refine boxE (N := 8) (cs := #[.int .i64 0, .int .i64 0]) (t := 57) ?_; intro gb535 hg w20 hbox hb; replace HO_3 := rB HO_3 hb; replace HO_4 := mkA (Kd.R_below (Kd.R_elderB (Kd.R_g HO_4.out) gb535 (Nat.le_of_eq hg.symm)) hb); replace HO_17 := mkA (Kd.R_below (Kd.R_elderB (Kd.R_g HO_17.out) gb535 (Nat.le_of_eq hg.symm)) hb); have BK535 := mkA (hbox); have GE535 := geB HB hg; have NB526_535 := neL7 BK526 hg; have NB535_526 := neR7 BK526 hg; replace BK526 := blkB BK526 hb; replace HB := bst HB hb; clear hb hbox hg; obtain ⟨_, _, _, _⟩ := blk2 BK535) | ((with_reducible refine gate_callee (f := 40) rfl ?_); refine goesQ (some 29) Tryd.func40 #[.int .i64 x14_1, .int .i64 ((rd_T57 t530 x19_2).f0), .int .i64 ((rd_T57 t530 x19_2).f1)] ?_; (with_reducible refine (impl_within.calls x14_1 ((rd_T57 t530 x19_2).f0) ((rd_T57 t530 x19_2).f1) true _ A16.out).mono ?_); rintro e w' ⟨rfl, ⟨nd, rfl⟩⟩; refine ⟨_, rfl, ?_⟩))
        go_roundg k2
        case measure => have := HK1.out; have := HK2.out; omega
        case rel => exact ⟨(Go.bits .or .i64 x6_2 (ji19)), (wrap64 (x19_2 + 1)), (by first | rfl | (simp; done) | (simp only [← hji19] <;> (first | rfl | simp)) | (simp [*]; done)), eqS, H', ⟨by have := HK1.out; have := HK2.out; omega⟩, ⟨Kd.R_g (Kd.R_mono (Kd.R_far (p := ⟨gb535, 1, none⟩) (Kd.R_far (p := ⟨gb535, 0, none⟩) (Kd.R_types HO_3.out BK535.out (by decide)) (fun _ hk => hk.2) (.int .i64 ((rd_T57 t530 x19_2).f0))) (fun _ hk => hk.2) (.int .i64 ((rd_T57 t530 x19_2).f1))) (fun _ hk => trivial))⟩, ⟨Kd.R_g (Kd.R_mono (Kd.R_far (p := ⟨gb535, 1, none⟩) (Kd.R_far (p := ⟨gb535, 0, none⟩) (Kd.R_mono HO_4.out (fun k_ hk => (⟨hk, hk.2⟩ : _ ∧ k_ ≠ gb535))) (fun _ hk => hk.2) (.int .i64 ((rd_T57 t530 x19_2).f0))) (fun _ hk => hk.2) (.int .i64 ((rd_T57 t530 x19_2).f1))) (fun _ hk => trivial))⟩, ⟨Kd.R_g (Kd.R_mono (Kd.R_far (p := ⟨gb535, 1, none⟩) (Kd.R_far (p := ⟨gb535, 0, none⟩) (Kd.R_mono HO_17.out (fun k_ hk => (⟨hk, hk.2⟩ : _ ∧ k_ ≠ gb535))) (fun _ hk => hk.2) (.int .i64 ((rd_T57 t530 x19_2).f0))) (fun _ hk => hk.2) (.int .i64 ((rd_T57 t530 x19_2).f1))) (fun _ hk => trivial))⟩, ⟨blkT BK526⟩, hbg HB⟩
       ·replace c17 := Bool.eq_false_iff.mpr c17
        subst c17
        replace H := ifF H
        have H' := mkA H
        clear H
        have p534 : 0 ≤ (x19_2 : Int) := ofd
        have q534 : x19_2 < (t530.length : Int) := ofd
        obtain ⟨ad534, e534, hx534_0, hx534_1⟩ := at_T57 (Kd.R_reads' HO_17.out).2.2 x19_2 p534 q534
        cases e534
        replace p534 := eq_true p534
        replace q534 := eq_true q534
        go_wp2_with (first | ((with_reducible refine gate_dst (N := 8) rfl ?_); refine boxE (N := 8) (cs := #[.int .i64 0, .int .i64 0]) (t := 57) ?_; intro gb535 hg w23 hbox hb; replace HO_3 := rB HO_3 hb; replace HO_4 := mkA (Kd.R_below (Kd.R_elderB (Kd.R_g HO_4.out) gb535 (Nat.le_of_eq hg.symm)) hb); replace HO_17 := mkA (Kd.R_below (Kd.R_elderB (Kd.R_g HO_17.out) gb535 (Nat.le_of_eq hg.symm)) hb); have BK535 := mkA (hbox); have GE535 := geB HB hg; have NB526_535 := neL7 BK526 hg; have NB535_526 := neR7 BK526 hg; replace BK526 := blkB BK526 hb; replace HB := bst HB hb; clear hb hbox hg; obtain ⟨_, _, _, _⟩ := blk2 BK535) | ((with_reducible refine gate_callee (f := 40) rfl ?_); refine goesQ (some 29) Tryd.func40 #[.int .i64 x14_1, .int .i64 ((rd_T57 t530 x19_2).f0), .int .i64 ((rd_T57 t530 x19_2).f1)] ?_; (with_reducible refine (impl_within.calls x14_1 ((rd_T57 t530 x19_2).f0) ((rd_T57 t530 x19_2).f1) false _ A16.out).mono ?_); rintro e w' ⟨rfl, ⟨nd, rfl⟩⟩; refine ⟨_, rfl, ?_⟩))
        go_roundg k2
        case measure => have := HK1.out; have := HK2.out; omega
        case rel => exact ⟨(x6_2), (wrap64 (x19_2 + 1)), eqS, eqS, H', ⟨by have := HK1.out; have := HK2.out; omega⟩, ⟨Kd.R_g (Kd.R_mono (Kd.R_far (p := ⟨gb535, 1, none⟩) (Kd.R_far (p := ⟨gb535, 0, none⟩) (Kd.R_types HO_3.out BK535.out (by decide)) (fun _ hk => hk.2) (.int .i64 ((rd_T57 t530 x19_2).f0))) (fun _ hk => hk.2) (.int .i64 ((rd_T57 t530 x19_2).f1))) (fun _ hk => trivial))⟩, ⟨Kd.R_g (Kd.R_mono (Kd.R_far (p := ⟨gb535, 1, none⟩) (Kd.R_far (p := ⟨gb535, 0, none⟩) (Kd.R_mono HO_4.out (fun k_ hk => (⟨hk, hk.2⟩ : _ ∧ k_ ≠ gb535))) (fun _ hk => hk.2) (.int .i64 ((rd_T57 t530 x19_2).f0))) (fun _ hk => hk.2) (.int .i64 ((rd_T57 t530 x19_2).f1))) (fun _ hk => trivial))⟩, ⟨Kd.R_g (Kd.R_mono (Kd.R_far (p := ⟨gb535, 1, none⟩) (Kd.R_far (p := ⟨gb535, 0, none⟩) (Kd.R_mono HO_17.out (fun k_ hk => (⟨hk, hk.2⟩ : _ ∧ k_ ≠ gb535))) (fun _ hk => hk.2) (.int .i64 ((rd_T57 t530 x19_2).f0))) (fun _ hk => hk.2) (.int .i64 ((rd_T57 t530 x19_2).f1))) (fun _ hk => trivial))⟩, ⟨blkT BK526⟩, hbg HB⟩
      ·obtain ⟨c26, H⟩ := itNP H
       have LMc26 := mkA c26
       clear c26
       obtain ⟨y537, hy537⟩ : ∃ y_ : List Int, y_ = (x3_1 ++ [x6_2]) := ⟨_, rfl⟩
       rw [← hy537] at H
       have Ny537 := mkA hy537
       clear hy537
       have H' := mkA H
       clear H
       go_wp2_with (first | ((with_reducible refine gate_builtin (b := .append) (xs := #[.tmp 35, .tmp 37]) rfl ?_); at_builtin; refine Kd.R_append (Kd.int .i64) (w0 := w) w.heap.size rfl (.tmp 35) (.tmp 37) 24 3 (.int .i64 0) 8 rfl Tryd.underlying24 info3 rfl (by decide) (by omega) u3 x3_1 x6_2 [.int .i64 x6_2] (fun _ => True) (fun _ => False) rfl rfl ?aP (fun _ hk => hk.elim) ?aF ?aO ?aB ?aS ?aL ?_; (case aP => exact rfl); (case aB => exact (bel_g HB.out)); (case aF => exact (fun _ _ => trivial)); (case aO => exact (Kd.R_g HO_3.out)); (case aS => exact (below_size (bel_g HB.out))); (case aL => have := LMc26.out; omega); intro v538 w27 ho hb hg hat; rw [← Ny537.out] at ho; replace HO_4 := mkA (Kd.R_over' (Kd.R_g HO_4.out) (Kd.R_typed (Kd.R_g HO_3.out)) (by decide) hg); replace HO_17 := mkA (Kd.R_over' (Kd.R_g HO_17.out) (Kd.R_typed (Kd.R_g HO_3.out)) (by decide) hg); replace BK526 := mkA (blk_grown (g := gb526) (o := .cells #[.int .i64 a0_0, .slice A0_1 l0_1.length c0_1] 26 (0, 0)) (blk_g BK526.out) hg (Kd.R_ne HO_3.out BK526.out (by decide))); have HO539 := mkA (ho); replace HB := mkA (hb); clear HO_3; clear ho hb hg hat))
       go_roundg k2
       case measure => have := HK1.out; have := HK2.out; omega
       case rel => exact ⟨(y537), (wrap64 (x14_1 + 1)), eqS, H', ⟨by have := HK1.out; have := HK2.out; omega⟩, rg HO539, rg HO_4, bg BK526, hbg HB⟩
   ·obtain rfl := Option.some.inj H
    go_wp2
    go_ret
    exact ⟨_, eqE, Kd.R_g HO_3.out, bel_g HB.out⟩
def impl_SetsAlong.f (k : Nat) (a0_0 : Int) (l0_1 : List Int) : Option (List Int × Bool) := (impl_isInterval.f k a0_0 l0_1).bind fun t541 => (if t541 = true then ((impl_Order_setsAlong.f k a0_0 l0_1).bind fun t542 => (some (t542, true))) else (some (([] : List Int), false)))
theorem impl_SetsAlong.mono : ∀ a0 a1 k, LeO (impl_SetsAlong.f k a0 a1) (impl_SetsAlong.f (k + 1) a0 a1) := by
 intro a0 a1 k
 unfold impl_SetsAlong.f
 repeat' (with_reducible first|apply impl_Order_setsAlong.mono|apply impl_isInterval.mono|apply LeO.refl|apply LeO.none|apply LeO.ite|apply LeO.bind|intro)
theorem impl_SetsAlong.calls (k : Nat) (a0_0 : Int) (A0_1 : Option Addr) (c0_1 : Nat) (l0_1 : List Int) (r1 : List Int) (r2 : Bool) (w : World) (hr0_1 : Kd.C (Kd.int .i64) w A0_1 l0_1.length l0_1) (hc0_1 : l0_1.length ≤ c0_1) (hTAB : Tab w) (h : impl_SetsAlong.f k a0_0 l0_1 = some (r1, r2)) :
  Calls Tryd.prog 13 #[.agg #[.int .i64 a0_0, .slice A0_1 l0_1.length c0_1]] w fun e w' => ∃ v0_ : Value, e = .returned (.tuple #[v0_, .bool r2]) ∧ Kd.R (Kd.int .i64) 3 w' w.heap.size (fun _ => True) v0_ r1 ∧ Below w.heap.size w w' := by
 have HTAB := mkA hTAB
 clear hTAB
 have hu26 := Tryd.underlying26
 have HR0_1 := mkA hr0_1
 have HC0_1 := mkA hc0_1
 clear hr0_1 hc0_1
 have HB := mkA (Below.refl w.heap.size w)
 have H := h
 clear h
 unfold impl_SetsAlong.f at H
 obtain ⟨t541, A2, H⟩ := obE H
 by_cases c3 : t541 = true
 ·subst c3
  replace H := ifT H
  obtain ⟨t542, A4, H⟩ := obE H
  simp only [Option.some.injEq, Prod.mk.injEq] at H
  obtain ⟨rfl, rfl⟩ := H
  go_enter Tryd.func13, Tryd.ntmps13
  go_wp2_with (first | ((with_reducible refine gate_dst (N := 1) rfl ?_); refine boxG HB #[.int .i64 a0_0, .slice A0_1 l0_1.length c0_1] 26 ?_; intro gb540 hg w5 BK540 GE540 hb; replace HB := bst HB hb; clear hb hg; obtain ⟨_, _, _, _⟩ := blk2 BK540) | ((with_reducible refine gate_callee (f := 21) rfl ?_); refine goesQ (some 5) Tryd.func21 #[.agg #[.int .i64 a0_0, .slice A0_1 l0_1.length c0_1]] ?_; (with_reducible refine (impl_isInterval.calls k a0_0 _ _ l0_1 true _ ?_ ?_ ?_ A2.out).mono ?_); exact C_g HR0_1 HB; exact HC0_1.out; exact Tab.below HTAB.out (bel_g HB.out); rintro e w7 ⟨rfl, hb⟩; refine ⟨_, rfl, ?_⟩; replace BK540 := blkB BK540 hb; replace HB := bst HB hb; clear hb; obtain ⟨_, _, _, _⟩ := blk2 BK540) | ((with_reducible refine gate_callee (f := 25) rfl ?_); refine goesQ (some 8) Tryd.func25 #[.agg #[.int .i64 a0_0, .slice A0_1 l0_1.length c0_1]] ?_; (with_reducible refine (impl_Order_setsAlong.calls k a0_0 _ _ l0_1 t542 _ ?_ ?_ A4.out).mono ?_); exact C_g HR0_1 HB; exact HC0_1.out; rintro e w9 ⟨v543, rfl, ho0, hb⟩; refine ⟨_, rfl, ?_⟩; have HO544 := rLo ho0 HB; replace BK540 := blkB BK540 hb; replace HB := bst HB hb; clear hb ho0))
  go_ret2
  exact ⟨_, eqE, Kd.R_g HO544.out, bel_g HB.out⟩
 ·replace c3 := Bool.eq_false_iff.mpr c3
  subst c3
  replace H := ifF H
  simp only [Option.some.injEq, Prod.mk.injEq] at H
  obtain ⟨rfl, rfl⟩ := H
  go_enter Tryd.func13, Tryd.ntmps13
  go_wp2_with (first | ((with_reducible refine gate_dst (N := 1) rfl ?_); refine boxG HB #[.int .i64 a0_0, .slice A0_1 l0_1.length c0_1] 26 ?_; intro gb540 hg w10 BK540 GE540 hb; replace HB := bst HB hb; clear hb hg; obtain ⟨_, _, _, _⟩ := blk2 BK540) | ((with_reducible refine gate_callee (f := 21) rfl ?_); refine goesQ (some 5) Tryd.func21 #[.agg #[.int .i64 a0_0, .slice A0_1 l0_1.length c0_1]] ?_; (with_reducible refine (impl_isInterval.calls k a0_0 _ _ l0_1 false _ ?_ ?_ ?_ A2.out).mono ?_); exact C_g HR0_1 HB; exact HC0_1.out; exact Tab.below HTAB.out (bel_g HB.out); rintro e w12 ⟨rfl, hb⟩; refine ⟨_, rfl, ?_⟩; replace BK540 := blkB BK540 hb; replace HB := bst HB hb; clear hb))
  go_ret2
  exact ⟨_, eqE, nilE, bel_g HB.out⟩
def laws_pIn.f (a0 : Int) (a1 : Int) : Option (Bool) := if 0 ≤ a1 then (some ((Int.tmod (shr .i64 a0 a1) 2) == 1)) else (none)
theorem laws_pIn.calls (a0 : Int) (a1 : Int) (r : Bool) (w : World) (h : laws_pIn.f a0 a1 = some r) :
  Calls Tryd.prog 15 #[.int .i64 a0, .int .i64 a1] w fun e w' => e = .returned (.bool r) ∧ Drawn0 w w' := by
 have H := h
 clear h
 unfold laws_pIn.f at H
 obtain ⟨c3b0, c3b1, H⟩ := itNQ H
 obtain ⟨ji4, hji4⟩ : ∃ j_ : Int, (shr .i64 a0 a1) = j_ := ⟨_, rfl⟩
 first | rw [hji4] at H | simp only [hji4] at H
 have hji4_ : (a0 / 2 ^ min a1.toNat 64) = ji4 := hji4
 have hji4z : a1 ≤ 64 → (a0 / 2 ^ a1.toNat) = ji4 := shr_small hji4
 obtain rfl := Option.some.inj H
 go_enter Tryd.func15, Tryd.ntmps15
 go_wp2
 go_ret
 exact ⟨by first | rfl | (simp; done) | (simp only [← hji4] <;> (first | rfl | simp)) | (simp [*]; done), by repeat (first | exact Drawn0.refl _ | apply Drawn0.step)⟩
def slices_Index_int_int.l0 : Nat → List Int → Int → Int → Int → Option (Int)
 | 0, _, _, _, _ => none
 | k + 1, x0, x1, x7, x8 => if x8 < x7 then (if 0 ≤ x8 then (if x8 < (x0.length : Int) then (if x1 = (rd x0 x8) then (some x8) else (slices_Index_int_int.l0 k x0 x1 x7 (wrap64 (x8 + 1)))) else (none)) else (none)) else (some (-1))
def slices_Index_int_int.f (k : Nat) (l0 : List Int) (a1 : Int) : Option (Int) := slices_Index_int_int.l0 k l0 a1 (l0.length : Int) 0
theorem slices_Index_int_int.mono_l : ∀ k, (∀ y0 y1 y2 y3, LeO (slices_Index_int_int.l0 k y0 y1 y2 y3) (slices_Index_int_int.l0 (k + 1) y0 y1 y2 y3))
 | 0 => fun _ _ _ _ r h => by simp [slices_Index_int_int.l0] at h
 | k + 1 => by
  have ih0 := slices_Index_int_int.mono_l k
  ·intro y0 y1 y2 y3
   unfold slices_Index_int_int.l0
   repeat' (with_reducible first|apply ih0|apply LeO.refl|apply LeO.none|apply LeO.ite|apply LeO.bind|intro)
theorem slices_Index_int_int.mono : ∀ a0 a1 k, LeO (slices_Index_int_int.f k a0 a1) (slices_Index_int_int.f (k + 1) a0 a1) := by
 intro a0 a1 k
 have ih0 := slices_Index_int_int.mono_l k
 unfold slices_Index_int_int.f
 repeat' (with_reducible first|apply ih0|apply LeO.refl|apply LeO.none|apply LeO.ite|apply LeO.bind|intro)
theorem slices_Index_int_int.calls (k : Nat) (A0 : Option Addr) (c0 : Nat) (l0 : List Int) (a1 : Int) (r : Int) (w : World) (hr0 : Kd.C (Kd.int .i64) w A0 l0.length l0) (hc0 : l0.length ≤ c0) (h : slices_Index_int_int.f k l0 a1 = some r) :
  Calls Tryd.prog 58 #[.slice A0 l0.length c0, .int .i64 a1] w fun e w' => e = .returned (.int .i64 r) ∧ Drawn0 w w' := by
 have HR0 := mkA hr0
 have HC0 := mkA hc0
 clear hr0 hc0
 have H := h
 clear h
 unfold slices_Index_int_int.f at H
 have H' := mkA H
 clear H
 go_enter Tryd.func58, Tryd.ntmps58
 go_wp2
 go_loopg [8] k (fun kq v8 w' => ∃ (x8_1 : Int), v8 = .int .i64 x8_1 ∧ Fc (slices_Index_int_int.l0 kq l0 a1 (l0.length : Int) x8_1 = some r) ∧ Fc (kq ≤ k) ∧ Drawn0 w w')
 case atStart => exact ⟨(0), eqS, H', ⟨Nat.le_refl _⟩, by repeat (first | exact Drawn0.refl _ | apply Drawn0.step)⟩
 case round =>
  clear H'
  obtain ⟨x8_1, rfl, HA, HK1, ⟨m1, rfl⟩⟩ := hrel
  cases gk with
  | zero => exact absurd HA.out (by simp [slices_Index_int_int.l0])
  | succ k1 =>
   have H := HA.out
   clear HA
   simp only [slices_Index_int_int.l0] at H
   rcases iteE H with ⟨c3b0, H⟩ | ⟨c3b0, H⟩
   ·obtain ⟨c4b0, H⟩ := itND H
    obtain ⟨c5b0, H⟩ := itND H
    rcases iteP H with ⟨c6, H⟩ | ⟨c6, H⟩
    ·have c6b0 := beq_iff_eq.mpr c6
     have c6b1 := bne_eq_false_iff_eq.mpr c6
     clear c6
     obtain rfl := Option.some.inj H
     obtain ⟨p545, q545, ad545, e545, hx545_0⟩ := atI HR0.out x8_1
     cases e545
     go_wp2
     go_ret
     exact ⟨eqS, drE⟩
    ·have c6b0 := beq_eq_false_iff_ne.mpr c6
     have c6b1 := bne_iff_ne.mpr c6
     have H' := mkA H
     clear H
     obtain ⟨p545, q545, ad545, e545, hx545_0⟩ := atI HR0.out x8_1
     cases e545
     go_wp2
     go_roundg k1
     case measure => have := HK1.out; omega
     case rel => exact ⟨(wrap64 (x8_1 + 1)), eqS, H', ⟨by have := HK1.out; omega⟩, by repeat (first | exact Drawn0.refl _ | apply Drawn0.step)⟩
   ·obtain rfl := Option.some.inj H
    go_wp2
    go_ret
    exact ⟨eqS, drE⟩
def slices_Contains_int_int.f (k : Nat) (l0 : List Int) (a1 : Int) : Option (Bool) := (slices_Index_int_int.f k l0 a1).bind fun t546 => (some (decide (t546 ≥ 0)))
theorem slices_Contains_int_int.mono : ∀ a0 a1 k, LeO (slices_Contains_int_int.f k a0 a1) (slices_Contains_int_int.f (k + 1) a0 a1) := by
 intro a0 a1 k
 unfold slices_Contains_int_int.f
 repeat' (with_reducible first|apply slices_Index_int_int.mono|apply LeO.refl|apply LeO.none|apply LeO.ite|apply LeO.bind|intro)
theorem slices_Contains_int_int.calls (k : Nat) (A0 : Option Addr) (c0 : Nat) (l0 : List Int) (a1 : Int) (r : Bool) (w : World) (hr0 : Kd.C (Kd.int .i64) w A0 l0.length l0) (hc0 : l0.length ≤ c0) (h : slices_Contains_int_int.f k l0 a1 = some r) :
  Calls Tryd.prog 44 #[.slice A0 l0.length c0, .int .i64 a1] w fun e w' => e = .returned (.bool r) ∧ Drawn0 w w' := by
 have HR0 := mkA hr0
 have HC0 := mkA hc0
 clear hr0 hc0
 have H := h
 clear h
 unfold slices_Contains_int_int.f at H
 obtain ⟨t546, A3, H⟩ := obE H
 obtain rfl := Option.some.inj H
 go_enter Tryd.func44, Tryd.ntmps44
 go_wp2_with (first | ((with_reducible refine gate_callee (f := 58) rfl ?_); refine goesQ (some 7) Tryd.func58 #[.slice A0 l0.length c0, .int .i64 a1] ?_; (with_reducible refine (slices_Index_int_int.calls k _ _ l0 a1 t546 _ ?s1 ?s2 A3.out).mono ?_); (case s1 => repeat (first | exact HR0.out | (with_reducible refine Kd.C_alloc ?_ _) | (with_reducible refine Kd.C_drewN ?_ _) | (with_reducible refine Kd.C_drew ?_))); (case s2 => exact HC0.out); rintro e w' ⟨rfl, ⟨nd, rfl⟩⟩; refine ⟨_, rfl, ?_⟩))
 go_ret
 exact ⟨eqS, drE⟩
end Go.Proofs.YtokeomcijelbmaaDoor.Q
