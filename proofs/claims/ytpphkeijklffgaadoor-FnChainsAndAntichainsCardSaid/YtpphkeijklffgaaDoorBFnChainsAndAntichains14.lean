import Derived.WalkSpells
import Derived.Test.YtpphkeijklffgaaDoorBFnChainsAndAntichains13
namespace Go.Proofs.YtpphkeijklffgaaDoor.Q
open Go.RowKit Go.Proofs.YtpphkeijklffgaaDoorW.PrintWords Go.Proofs.YtpphkeijklffgaaDoorW.PrintLast Go.Proofs.YtpphkeijklffgaaDoorW.PrintMore
attribute [local go_sem] max2_int min2_int max_two min_two max_three min_three max_four min_four neB_f
set_option linter.unusedVariables false
set_option maxHeartbeats 8000000
set_option maxRecDepth 100000
set_option linter.unusedSimpArgs false
mutual
def impl_Order_antichain.l0 : Nat → List Int → List Int → Int → Int → Option (List Int)
 | 0, _, _, _, _ => none
 | k + 1, x3, x4, x15, x16 => if x16 < x15 then ((impl_members.f k x16).bind fun t371 => (impl_Order_antichain.l1 k x3 x4 x16 t371 true x15 x16 t371 (t371.length : Int) 0)) else (some x3)
def impl_Order_antichain.l1 : Nat → List Int → List Int → Int → List Int → Bool → Int → Int → List Int → Int → Int → Option (List Int)
 | 0, _, _, _, _, _, _, _, _, _, _ => none
 | k + 1, x3, x4, x5, x6, x7, x15, x16, x21, x22, x23 => if x23 < x22 then (if 0 ≤ x23 then (if x23 < (x21.length : Int) then (if x7 = true then (if 0 ≤ (rd x21 x23) then (if (rd x21 x23) < (x4.length : Int) then (impl_Order_antichain.l1 k x3 x4 x5 x6 ((Go.bits .andNot .i64 (Go.bits .andNot .i64 x5 (rd x4 (rd x21 x23))) (shl .i64 1 (rd x21 x23))) == 0) x15 x16 x21 x22 (wrap64 (x23 + 1))) else (none)) else (none)) else (impl_Order_antichain.l1 k x3 x4 x5 x6 false x15 x16 x21 x22 (wrap64 (x23 + 1)))) else (none)) else (none)) else (if x7 = true then (if (x6.length : Int) > (x3.length : Int) then (impl_Order_antichain.l0 k x6 x4 x15 (wrap64 (x16 + 1))) else (if (x6.length : Int) = (x3.length : Int) then ((slices_Compare_int_int.f k x6 x3).bind fun t376 => (if t376 < 0 then (impl_Order_antichain.l0 k x6 x4 x15 (wrap64 (x16 + 1))) else (impl_Order_antichain.l0 k x3 x4 x15 (wrap64 (x16 + 1))))) else (impl_Order_antichain.l0 k x3 x4 x15 (wrap64 (x16 + 1))))) else (impl_Order_antichain.l0 k x3 x4 x15 (wrap64 (x16 + 1))))
end
def impl_Order_antichain.f (k : Nat) (a0_0 : Int) (l0_1 : List Int) : Option (List Int) := (impl_Order_indifferent.f k a0_0 l0_1).bind fun t368 => (if 0 ≤ a0_0 then (impl_Order_antichain.l0 k (([] : List Int)) t368 (shl .i64 1 a0_0) 0) else (none))
theorem impl_Order_antichain.mono_l : ∀ k, (∀ y0 y1 y2 y3, LeO (impl_Order_antichain.l0 k y0 y1 y2 y3) (impl_Order_antichain.l0 (k + 1) y0 y1 y2 y3)) ∧ (∀ y0 y1 y2 y3 y4 y5 y6 y7 y8 y9, LeO (impl_Order_antichain.l1 k y0 y1 y2 y3 y4 y5 y6 y7 y8 y9) (impl_Order_antichain.l1 (k + 1) y0 y1 y2 y3 y4 y5 y6 y7 y8 y9))
 | 0 => ⟨fun _ _ _ _ r h => by simp [impl_Order_antichain.l0] at h, fun _ _ _ _ _ _ _ _ _ _ r h => by simp [impl_Order_antichain.l1] at h⟩
 | k + 1 => by
  obtain ⟨ih0, ih1⟩ := impl_Order_antichain.mono_l k
  refine ⟨?_, ?_⟩ <;> intros
  unfold impl_Order_antichain.l0
  rotate_left
  unfold impl_Order_antichain.l1
  rotate_left
  all_goals repeat' (with_reducible first|apply ih0|apply ih1|apply impl_Order_indifferent.mono|apply impl_members.mono|apply slices_Compare_int_int.mono|apply LeO.refl|apply LeO.none|apply LeO.ite|apply LeO.bind|intro)
theorem impl_Order_antichain.mono : ∀ a0 a1 k, LeO (impl_Order_antichain.f k a0 a1) (impl_Order_antichain.f (k + 1) a0 a1) := by
 intro a0 a1 k
 obtain ⟨ih0, ih1⟩ := impl_Order_antichain.mono_l k
 unfold impl_Order_antichain.f
 repeat' (with_reducible first|apply ih0|apply ih1|apply impl_Order_indifferent.mono|apply impl_members.mono|apply slices_Compare_int_int.mono|apply LeO.refl|apply LeO.none|apply LeO.ite|apply LeO.bind|intro)
theorem impl_Order_antichain.calls (k : Nat) (a0_0 : Int) (A0_1 : Option Addr) (c0_1 : Nat) (l0_1 : List Int) (r : List Int) (w : World) (hr0_1 : Kd.C (Kd.int .i64) w A0_1 l0_1.length l0_1) (hc0_1 : l0_1.length ≤ c0_1) (hTAB : Tab w) (h : impl_Order_antichain.f k a0_0 l0_1 = some r) :
  Calls Tryd.prog 21 #[.agg #[.int .i64 a0_0, .slice A0_1 l0_1.length c0_1]] w fun e w' => ∃ v0_ : Value, e = .returned (v0_) ∧ Kd.R (Kd.int .i64) 3 w' w.heap.size (fun _ => True) v0_ r ∧ Below w.heap.size w w' := by
 have HTAB := mkA hTAB
 clear hTAB
 have hu26 := Tryd.underlying26
 have HR0_1 := mkA hr0_1
 have HC0_1 := mkA hc0_1
 clear hr0_1 hc0_1
 have HB := mkA (Below.refl w.heap.size w)
 have H := h
 clear h
 unfold impl_Order_antichain.f at H
 obtain ⟨y365, hy365⟩ : ∃ y_ : List Int, y_ = (([] : List Int)) := ⟨_, rfl⟩
 rw [← hy365] at H
 have Ny365 := mkA hy365
 clear hy365
 obtain ⟨t368, A2, H⟩ := obE H
 obtain ⟨c3b0, c3b1, H⟩ := itNQ H
 obtain ⟨ji4, hji4⟩ : ∃ j_ : Int, (shl .i64 1 a0_0) = j_ := ⟨_, rfl⟩
 first | rw [hji4] at H | simp only [hji4] at H
 (try rw [hji4] at A2)
 have hji4_ : (IntKind.i64.wrap (1 * 2 ^ min a0_0.toNat 64)) = ji4 := hji4
 have hji4z : a0_0 ≤ 64 → (IntKind.i64.wrap (1 * 2 ^ a0_0.toNat)) = ji4 := shl_small hji4
 have hji4u : (IntKind.i64.wrap (2 ^ min a0_0.toNat 64)) = ji4 := by have h_ := hji4_; rw [Int.one_mul] at h_; exact h_
 have hji4v : a0_0 ≤ 64 → (IntKind.i64.wrap (2 ^ a0_0.toNat)) = ji4 := fun hle_ => by have h_ := hji4z hle_; rw [Int.one_mul] at h_; exact h_
 have hji4y : (wrap64 (1 * 2 ^ min a0_0.toNat 64)) = ji4 := (i64_w _).symm.trans hji4_
 have hji4x : a0_0 ≤ 64 → (wrap64 (1 * 2 ^ a0_0.toNat)) = ji4 := fun h_ => (i64_w _).symm.trans (hji4z h_)
 have H' := mkA H
 clear H
 go_enter Tryd.func21, Tryd.ntmps21
 go_wp2_with (first | ((with_reducible refine gate_dst (N := 1) rfl ?_); (try (refine gate_guard (by rfl) ?_; dsimp only)); refine boxG HB #[.int .i64 a0_0, .slice A0_1 l0_1.length c0_1] 26 ?_; intro gb364 hg w5 BK364 GE364 hb; replace HB := bst HB hb; clear hb hg) | ((with_reducible refine gate_dst (N := 10) rfl ?_); (try (refine gate_guard (by rfl) ?_; dsimp only)); refine litE (Kd.int .i64) 3 ([] : List Int) [] ?hp ?_; (case hp => exact (Reps.none _ _)); intro v366 w6 ho7 hb hg_ hnew_; clear hg_ hnew_; (first | rw [← Ny365.out] at ho7 | (simp only [Int.reduceToNat] at ho7; rw [← Ny365.out] at ho7)); have HO367 := rLo ho7 HB; replace BK364 := blkB BK364 hb; replace HB := bst HB hb; clear hb ho7; obtain ⟨hcz8_0, hcz8_1, hfz8_0, hfz8_1⟩ := blk2 BK364) | (go_at_call 22; (with_reducible refine (impl_Order_indifferent.calls k a0_0 _ _ l0_1 t368 _ ?_ ?_ A2.out).mono ?_); exact C_g HR0_1 HB; exact HC0_1.out; rintro e w9 ⟨v369, rfl, ho0, hb⟩; have HO370 := rLo (rN ho0 HO367) HB; replace HO367 := rE HO367 ho0 hb; replace BK364 := blkB BK364 hb; replace HB := bst HB hb; clear hb ho0; obtain ⟨hcz10_0, hcz10_1, hfz10_0, hfz10_1⟩ := blk2 BK364))
 repeat (go_quiet (first | ((with_reducible refine gate_dst (N := 1) rfl ?_); (try (refine gate_guard (by rfl) ?_; dsimp only)); refine boxG HB #[.int .i64 a0_0, .slice A0_1 l0_1.length c0_1] 26 ?_; intro gb364 hg w5 BK364 GE364 hb; replace HB := bst HB hb; clear hb hg) | ((with_reducible refine gate_dst (N := 10) rfl ?_); (try (refine gate_guard (by rfl) ?_; dsimp only)); refine litE (Kd.int .i64) 3 ([] : List Int) [] ?hp ?_; (case hp => exact (Reps.none _ _)); intro v366 w6 ho7 hb hg_ hnew_; clear hg_ hnew_; (first | rw [← Ny365.out] at ho7 | (simp only [Int.reduceToNat] at ho7; rw [← Ny365.out] at ho7)); have HO367 := rLo ho7 HB; replace BK364 := blkB BK364 hb; replace HB := bst HB hb; clear hb ho7; obtain ⟨hcz8_0, hcz8_1, hfz8_0, hfz8_1⟩ := blk2 BK364) | (go_at_call 22; (with_reducible refine (impl_Order_indifferent.calls k a0_0 _ _ l0_1 t368 _ ?_ ?_ A2.out).mono ?_); exact C_g HR0_1 HB; exact HC0_1.out; rintro e w9 ⟨v369, rfl, ho0, hb⟩; have HO370 := rLo (rN ho0 HO367) HB; replace HO367 := rE HO367 ho0 hb; replace BK364 := blkB BK364 hb; replace HB := bst HB hb; clear hb ho0; obtain ⟨hcz10_0, hcz10_1, hfz10_0, hfz10_1⟩ := blk2 BK364)); try go_wp2_with (first | ((with_reducible refine gate_dst (N := 1) rfl ?_); (try (refine gate_guard (by rfl) ?_; dsimp only)); refine boxG HB #[.int .i64 a0_0, .slice A0_1 l0_1.length c0_1] 26 ?_; intro gb364 hg w5 BK364 GE364 hb; replace HB := bst HB hb; clear hb hg) | ((with_reducible refine gate_dst (N := 10) rfl ?_); (try (refine gate_guard (by rfl) ?_; dsimp only)); refine litE (Kd.int .i64) 3 ([] : List Int) [] ?hp ?_; (case hp => exact (Reps.none _ _)); intro v366 w6 ho7 hb hg_ hnew_; clear hg_ hnew_; (first | rw [← Ny365.out] at ho7 | (simp only [Int.reduceToNat] at ho7; rw [← Ny365.out] at ho7)); have HO367 := rLo ho7 HB; replace BK364 := blkB BK364 hb; replace HB := bst HB hb; clear hb ho7; obtain ⟨hcz8_0, hcz8_1, hfz8_0, hfz8_1⟩ := blk2 BK364) | (go_at_call 22; (with_reducible refine (impl_Order_indifferent.calls k a0_0 _ _ l0_1 t368 _ ?_ ?_ A2.out).mono ?_); exact C_g HR0_1 HB; exact HC0_1.out; rintro e w9 ⟨v369, rfl, ho0, hb⟩; have HO370 := rLo (rN ho0 HO367) HB; replace HO367 := rE HO367 ho0 hb; replace BK364 := blkB BK364 hb; replace HB := bst HB hb; clear hb ho0; obtain ⟨hcz10_0, hcz10_1, hfz10_0, hfz10_1⟩ := blk2 BK364)))
 go_loopg [3, 16] k (fun kq v3 v16 w' => ∃ (x3_1 : List Int) (x16_1 : Int), v16 = .int .i64 x16_1 ∧ Fc (impl_Order_antichain.l0 kq x3_1 t368 ji4 x16_1 = some r) ∧ Fc (kq ≤ k) ∧ Fc (Kd.R (Kd.int .i64) 3 w' w.heap.size (fun k_ => some k_ ≠ (v369 : Value).ownBlock) v3 x3_1) ∧ Fc (Kd.R (Kd.int .i64) 3 w' w.heap.size (fun k_ => some k_ ≠ (v3 : Value).ownBlock) v369 t368) ∧ Fc (w'.heap[gb364]? = some (.cells #[.int .i64 a0_0, (.slice A0_1 l0_1.length c0_1)] 26 (0, 0))) ∧ Fc (Below w.heap.size w w'))
 case atStart => exact ⟨(y365), (0), eqS, H', ⟨Nat.le_refl _⟩, ⟨Kd.R_g (Kd.R_mono HO367.out (fun _ hk => hk.2))⟩, ⟨Kd.R_g (Kd.R_mono HO370.out (fun _ hk => hk.2))⟩, bg BK364, hbg HB⟩
 case round =>
  clear H'
  try clear c3
  try clear c3b0
  try clear c3b1
  obtain ⟨x3_1, x16_1, rfl, HA, HK1, HO_3, HO_4, BK364, HB⟩ := hrel
  cases gk with
  | zero => exact absurd HA.out (by simp [impl_Order_antichain.l0])
  | succ k1 =>
   have H := HA.out
   clear HA
   simp only [impl_Order_antichain.l0] at H
   rcases iteE H with ⟨c11b0, H⟩ | ⟨c11b0, H⟩
   ·obtain ⟨t371, A12, H⟩ := obE H
    have H' := mkA H
    clear H
    go_wp2_with (first | (go_at_call 28; (with_reducible refine (impl_members.calls k1 x16_1 t371 _ ?_ A12.out).mono ?_); exact Tab.below HTAB.out (bel_g HB.out); rintro e w13 ⟨v372, rfl, ho0, hb⟩; have HO373 := rLo (rN (rN ho0 HO_3) HO_4) HB; replace HO_3 := rE HO_3 ho0 hb; replace HO_4 := rE HO_4 ho0 hb; replace BK364 := blkB BK364 hb; replace HB := bst HB hb; clear hb ho0; obtain ⟨Ao14, co14, rfl⟩ := Kd.R_slice HO373.out))
    repeat (go_quiet (first | (go_at_call 28; (with_reducible refine (impl_members.calls k1 x16_1 t371 _ ?_ A12.out).mono ?_); exact Tab.below HTAB.out (bel_g HB.out); rintro e w13 ⟨v372, rfl, ho0, hb⟩; have HO373 := rLo (rN (rN ho0 HO_3) HO_4) HB; replace HO_3 := rE HO_3 ho0 hb; replace HO_4 := rE HO_4 ho0 hb; replace BK364 := blkB BK364 hb; replace HB := bst HB hb; clear hb ho0; obtain ⟨Ao14, co14, rfl⟩ := Kd.R_slice HO373.out)); try go_wp2_with (first | (go_at_call 28; (with_reducible refine (impl_members.calls k1 x16_1 t371 _ ?_ A12.out).mono ?_); exact Tab.below HTAB.out (bel_g HB.out); rintro e w13 ⟨v372, rfl, ho0, hb⟩; have HO373 := rLo (rN (rN ho0 HO_3) HO_4) HB; replace HO_3 := rE HO_3 ho0 hb; replace HO_4 := rE HO_4 ho0 hb; replace BK364 := blkB BK364 hb; replace HB := bst HB hb; clear hb ho0; obtain ⟨Ao14, co14, rfl⟩ := Kd.R_slice HO373.out)))
    go_loopg [7, 23] k1 (fun kq v7 v23 w' => ∃ (x7_2 : Bool) (x23_2 : Int), v7 = .bool x7_2 ∧ v23 = .int .i64 x23_2 ∧ Fc (impl_Order_antichain.l1 kq x3_1 t368 x16_1 t371 x7_2 ji4 x16_1 t371 (t371.length : Int) x23_2 = some r) ∧ Fc (kq ≤ k1) ∧ Fc (Kd.R (Kd.int .i64) 3 w' w.heap.size (fun k_ => some k_ ≠ (v369 : Value).ownBlock ∧ some k_ ≠ ((.slice Ao14 t371.length co14) : Value).ownBlock ∧ some k_ ≠ ((.slice Ao14 t371.length co14) : Value).ownBlock) u3 x3_1) ∧ Fc (Kd.R (Kd.int .i64) 3 w' w.heap.size (fun k_ => some k_ ≠ (u3 : Value).ownBlock ∧ some k_ ≠ ((.slice Ao14 t371.length co14) : Value).ownBlock ∧ some k_ ≠ ((.slice Ao14 t371.length co14) : Value).ownBlock) v369 t368) ∧ Fc (Kd.R (Kd.int .i64) 3 w' w.heap.size (fun k_ => some k_ ≠ (u3 : Value).ownBlock ∧ some k_ ≠ (v369 : Value).ownBlock) (.slice Ao14 t371.length co14) t371) ∧ Fc (Kd.R (Kd.int .i64) 3 w' w.heap.size (fun k_ => some k_ ≠ (u3 : Value).ownBlock ∧ some k_ ≠ (v369 : Value).ownBlock) (.slice Ao14 t371.length co14) t371) ∧ Fc (w'.heap[gb364]? = some (.cells #[.int .i64 a0_0, (.slice A0_1 l0_1.length c0_1)] 26 (0, 0))) ∧ Fc (Below w.heap.size w w'))
    case atStart => exact ⟨(true), (0), eqS, eqS, H', ⟨Nat.le_refl _⟩, ⟨Kd.R_g (Kd.R_mono HO_3.out (fun _ hk => ⟨hk.1, ⟨hk.2, hk.2⟩⟩))⟩, ⟨Kd.R_g (Kd.R_mono HO_4.out (fun _ hk => ⟨hk.1, ⟨hk.2, hk.2⟩⟩))⟩, ⟨Kd.R_g (Kd.R_mono HO373.out (fun _ hk => ⟨hk.1.2, hk.2⟩))⟩, ⟨Kd.R_g (Kd.R_mono HO373.out (fun _ hk => ⟨hk.1.2, hk.2⟩))⟩, bg BK364, hbg HB⟩
    case round =>
     clear H'
     try clear c3
     try clear c3b0
     try clear c3b1
     try clear c11b0
     obtain ⟨x7_2, x23_2, rfl, rfl, HA, HK2, HO_3, HO_4, HO_6, HO_21, BK364, HB⟩ := hrel
     cases gk with
     | zero => exact absurd HA.out (by simp [impl_Order_antichain.l1])
     | succ k2 =>
      have H := HA.out
      clear HA
      simp only [impl_Order_antichain.l1] at H
      rcases iteE H with ⟨c15b0, H⟩ | ⟨c15b0, H⟩
      ·obtain ⟨c16b0, H⟩ := itND H
       obtain ⟨c17b0, H⟩ := itND H
       by_cases c18 : x7_2 = true
       ·subst c18
        replace H := ifT H
        obtain ⟨c19b0, H⟩ := itND H
        obtain ⟨c20b0, H⟩ := itND H
        have c21b0 := eq_true (ofd : 0 ≤ (rd t371 x23_2))
        obtain ⟨ji22, hji22⟩ : ∃ j_ : Int, (shl .i64 1 (rd t371 x23_2)) = j_ := ⟨_, rfl⟩
        first | rw [hji22] at H | simp only [hji22] at H
        have hji22_ : (IntKind.i64.wrap (1 * 2 ^ min (rd t371 x23_2).toNat 64)) = ji22 := hji22
        have hji22z : (rd t371 x23_2) ≤ 64 → (IntKind.i64.wrap (1 * 2 ^ (rd t371 x23_2).toNat)) = ji22 := shl_small hji22
        have hji22u : (IntKind.i64.wrap (2 ^ min (rd t371 x23_2).toNat 64)) = ji22 := by have h_ := hji22_; rw [Int.one_mul] at h_; exact h_
        have hji22v : (rd t371 x23_2) ≤ 64 → (IntKind.i64.wrap (2 ^ (rd t371 x23_2).toNat)) = ji22 := fun hle_ => by have h_ := hji22z hle_; rw [Int.one_mul] at h_; exact h_
        have hji22y : (wrap64 (1 * 2 ^ min (rd t371 x23_2).toNat 64)) = ji22 := (i64_w _).symm.trans hji22_
        have hji22x : (rd t371 x23_2) ≤ 64 → (wrap64 (1 * 2 ^ (rd t371 x23_2).toNat)) = ji22 := fun h_ => (i64_w _).symm.trans (hji22z h_)
        have H' := mkA H
        clear H
        obtain ⟨p374, q374, ad374, e374, hx374_0⟩ := atI (Kd.R_reads' HO_21.out).2.2 x23_2
        cases e374
        obtain ⟨Ao23, co23, rfl⟩ := Kd.R_slice HO_4.out
        obtain ⟨p375, q375, ad375, e375, hx375_0⟩ := atI (Kd.R_reads' HO_4.out).2.2 (rd t371 x23_2)
        cases e375
        go_wp2
        repeat (go_quiet (fail); try go_wp2)
        go_roundg k2
        case measure => have := HK1.out; have := HK2.out; omega
        case rel => exact ⟨(((Go.bits .andNot .i64 (Go.bits .andNot .i64 x16_1 (rd t368 (rd t371 x23_2))) (ji22)) == 0)), (wrap64 (x23_2 + 1)), (by first | rfl | (simp; done) | (simp only [← hji22] <;> (first | rfl | simp)) | (simp [*]; done)), eqS, H', ⟨by have := HK1.out; have := HK2.out; omega⟩, rg HO_3, rg HO_4, rg HO_6, rg HO_21, bg BK364, hbg HB⟩
       ·replace c18 := Bool.eq_false_iff.mpr c18
        subst c18
        replace H := ifF H
        have H' := mkA H
        clear H
        obtain ⟨p374, q374, ad374, e374, hx374_0⟩ := atI (Kd.R_reads' HO_21.out).2.2 x23_2
        cases e374
        go_wp2
        repeat (go_quiet (fail); try go_wp2)
        go_roundg k2
        case measure => have := HK1.out; have := HK2.out; omega
        case rel => exact ⟨(false), (wrap64 (x23_2 + 1)), eqS, eqS, H', ⟨by have := HK1.out; have := HK2.out; omega⟩, rg HO_3, rg HO_4, rg HO_6, rg HO_21, bg BK364, hbg HB⟩
      ·by_cases c24 : x7_2 = true
       ·subst c24
        replace H := ifT H
        rcases iteP H with ⟨c25, H⟩ | ⟨c25, H⟩
        ·have c25b0 := decide_eq_true c25
         have c25b1 : decide (x3_1.length < t371.length) = true := decide_eq_true (Int.ofNat_lt.mp c25)
         clear c25
         have H' := mkA H
         clear H
         obtain ⟨Ao26, co26, rfl⟩ := Kd.R_slice HO_3.out
         go_wp2
         repeat (go_quiet (fail); try go_wp2)
         go_roundg k2
         case measure => have := HK1.out; have := HK2.out; omega
         case rel => exact ⟨(t371), (wrap64 (x16_1 + 1)), eqS, H', ⟨by have := HK1.out; have := HK2.out; omega⟩, ⟨Kd.R_g (Kd.R_mono HO_6.out (fun _ hk => hk.2))⟩, ⟨Kd.R_g (Kd.R_mono HO_4.out (fun _ hk => hk.2.1))⟩, bg BK364, hbg HB⟩
        ·have c25b0 := decide_eq_false c25
         have c25b1 : decide (x3_1.length < t371.length) = false := decide_eq_false (fun h => c25 (Int.ofNat_lt.mpr h))
         clear c25
         rcases iteP H with ⟨c27, H⟩ | ⟨c27, H⟩
         ·have c27b0 := beq_iff_eq.mpr c27
          have c27b1 := bne_eq_false_iff_eq.mpr c27
          have c27b2 : (t371.length == x3_1.length) = true := by first | simpa using c27 | (simp at c27 ⊢; omega)
          clear c27
          obtain ⟨t376, A28, H⟩ := obE H
          rcases iteE H with ⟨c29b0, H⟩ | ⟨c29b0, H⟩
          ·have H' := mkA H
           clear H
           obtain ⟨Ao30, co30, rfl⟩ := Kd.R_slice HO_3.out
           go_wp2_with (first | (go_at_call 44; (with_reducible refine (slices_Compare_int_int.calls k2 _ _ t371 _ _ x3_1 t376 _ ?_ ?_ ?_ ?_ A28.out).mono ?_); exact rC HO_6; exact rL HO_6; exact rC HO_3; exact rL HO_3; rintro e w' ⟨rfl, ⟨nd, rfl⟩⟩; (try first | exact ⟨rfl, _, World.drewN_drewN _ _ _⟩ | exact ⟨rfl, _, Eq.trans (World.drewN_drewN _ _ _) (congrArg (World.drewN _) (Nat.add_assoc _ _ _))⟩)))
           repeat (go_quiet (first | (go_at_call 44; (with_reducible refine (slices_Compare_int_int.calls k2 _ _ t371 _ _ x3_1 t376 _ ?_ ?_ ?_ ?_ A28.out).mono ?_); exact rC HO_6; exact rL HO_6; exact rC HO_3; exact rL HO_3; rintro e w' ⟨rfl, ⟨nd, rfl⟩⟩; (try first | exact ⟨rfl, _, World.drewN_drewN _ _ _⟩ | exact ⟨rfl, _, Eq.trans (World.drewN_drewN _ _ _) (congrArg (World.drewN _) (Nat.add_assoc _ _ _))⟩))); try go_wp2_with (first | (go_at_call 44; (with_reducible refine (slices_Compare_int_int.calls k2 _ _ t371 _ _ x3_1 t376 _ ?_ ?_ ?_ ?_ A28.out).mono ?_); exact rC HO_6; exact rL HO_6; exact rC HO_3; exact rL HO_3; rintro e w' ⟨rfl, ⟨nd, rfl⟩⟩; (try first | exact ⟨rfl, _, World.drewN_drewN _ _ _⟩ | exact ⟨rfl, _, Eq.trans (World.drewN_drewN _ _ _) (congrArg (World.drewN _) (Nat.add_assoc _ _ _))⟩))))
           go_roundg k2
           case measure => have := HK1.out; have := HK2.out; omega
           case rel => exact ⟨(t371), (wrap64 (x16_1 + 1)), eqS, H', ⟨by have := HK1.out; have := HK2.out; omega⟩, ⟨Kd.R_g (Kd.R_mono HO_6.out (fun _ hk => hk.2))⟩, ⟨Kd.R_g (Kd.R_mono HO_4.out (fun _ hk => hk.2.1))⟩, bg BK364, hbg HB⟩
          ·have H' := mkA H
           clear H
           obtain ⟨Ao31, co31, rfl⟩ := Kd.R_slice HO_3.out
           go_wp2_with (first | (go_at_call 44; (with_reducible refine (slices_Compare_int_int.calls k2 _ _ t371 _ _ x3_1 t376 _ ?_ ?_ ?_ ?_ A28.out).mono ?_); exact rC HO_6; exact rL HO_6; exact rC HO_3; exact rL HO_3; rintro e w' ⟨rfl, ⟨nd, rfl⟩⟩; (try first | exact ⟨rfl, _, World.drewN_drewN _ _ _⟩ | exact ⟨rfl, _, Eq.trans (World.drewN_drewN _ _ _) (congrArg (World.drewN _) (Nat.add_assoc _ _ _))⟩)))
           repeat (go_quiet (first | (go_at_call 44; (with_reducible refine (slices_Compare_int_int.calls k2 _ _ t371 _ _ x3_1 t376 _ ?_ ?_ ?_ ?_ A28.out).mono ?_); exact rC HO_6; exact rL HO_6; exact rC HO_3; exact rL HO_3; rintro e w' ⟨rfl, ⟨nd, rfl⟩⟩; (try first | exact ⟨rfl, _, World.drewN_drewN _ _ _⟩ | exact ⟨rfl, _, Eq.trans (World.drewN_drewN _ _ _) (congrArg (World.drewN _) (Nat.add_assoc _ _ _))⟩))); try go_wp2_with (first | (go_at_call 44; (with_reducible refine (slices_Compare_int_int.calls k2 _ _ t371 _ _ x3_1 t376 _ ?_ ?_ ?_ ?_ A28.out).mono ?_); exact rC HO_6; exact rL HO_6; exact rC HO_3; exact rL HO_3; rintro e w' ⟨rfl, ⟨nd, rfl⟩⟩; (try first | exact ⟨rfl, _, World.drewN_drewN _ _ _⟩ | exact ⟨rfl, _, Eq.trans (World.drewN_drewN _ _ _) (congrArg (World.drewN _) (Nat.add_assoc _ _ _))⟩))))
           go_roundg k2
           case measure => have := HK1.out; have := HK2.out; omega
           case rel => exact ⟨(x3_1), (wrap64 (x16_1 + 1)), eqS, H', ⟨by have := HK1.out; have := HK2.out; omega⟩, ⟨Kd.R_g (Kd.R_mono HO_3.out (fun _ hk => hk.1))⟩, ⟨Kd.R_g (Kd.R_mono HO_4.out (fun _ hk => hk.1))⟩, bg BK364, hbg HB⟩
         ·have c27b0 := beq_eq_false_iff_ne.mpr c27
          have c27b1 := bne_iff_ne.mpr c27
          have c27b2 : (t371.length == x3_1.length) = false := by first | simpa using c27 | (simp at c27 ⊢; omega)
          have H' := mkA H
          clear H
          obtain ⟨Ao32, co32, rfl⟩ := Kd.R_slice HO_3.out
          go_wp2
          repeat (go_quiet (fail); try go_wp2)
          go_roundg k2
          case measure => have := HK1.out; have := HK2.out; omega
          case rel => exact ⟨(x3_1), (wrap64 (x16_1 + 1)), eqS, H', ⟨by have := HK1.out; have := HK2.out; omega⟩, ⟨Kd.R_g (Kd.R_mono HO_3.out (fun _ hk => hk.1))⟩, ⟨Kd.R_g (Kd.R_mono HO_4.out (fun _ hk => hk.1))⟩, bg BK364, hbg HB⟩
       ·replace c24 := Bool.eq_false_iff.mpr c24
        subst c24
        replace H := ifF H
        have H' := mkA H
        clear H
        go_wp2
        repeat (go_quiet (fail); try go_wp2)
        go_roundg k2
        case measure => have := HK1.out; have := HK2.out; omega
        case rel => exact ⟨(x3_1), (wrap64 (x16_1 + 1)), eqS, H', ⟨by have := HK1.out; have := HK2.out; omega⟩, ⟨Kd.R_g (Kd.R_mono HO_3.out (fun _ hk => hk.1))⟩, ⟨Kd.R_g (Kd.R_mono HO_4.out (fun _ hk => hk.1))⟩, bg BK364, hbg HB⟩
   ·obtain rfl := Option.some.inj H
    go_wp2
    repeat (go_quiet (fail); try go_wp2)
    go_ret
    exact ⟨_, by first | rfl | (simp [errW_none, errW_some] <;> rfl) | (simp only [← hji4]; first | rfl | (simp [errW_none, errW_some] <;> rfl)) | (simp [*, errW_none, errW_some] <;> rfl), Kd.R_g (Kd.R_mono HO_3.out (fun _ hk => trivial)), bel_g HB.out⟩
def slices_Clone_int_int.f (l0 : List Int) : Option (List Int) := if l0.length < 17592186044416 then (some l0) else none
theorem slices_Clone_int_int.calls (A0 : Option Addr) (c0 : Nat) (l0 : List Int) (r : List Int) (w : World) (hr0 : Kd.C (Kd.int .i64) w A0 l0.length l0) (hc0 : l0.length ≤ c0) (h : slices_Clone_int_int.f l0 = some r) :
  Calls Tryd.prog 24 #[.slice A0 l0.length c0] w fun e w' => ∃ v0_ : Value, e = .returned (v0_) ∧ Kd.R (Kd.int .i64) 3 w' w.heap.size (fun _ => True) v0_ r ∧ Below w.heap.size w w' := by
 have hlen : l0.length < 17592186044416 := by
  unfold slices_Clone_int_int.f at h
  split at h
  ·assumption
  ·cases h
 obtain rfl : l0 = r := by
  unfold slices_Clone_int_int.f at h
  rw [if_pos hlen] at h
  exact Option.some.inj h
 clear h
 by_cases hA : A0 = none
 ·subst hA
  obtain rfl : l0 = [] := by
   cases l0 with
   | nil => rfl
   | cons a t =>
    obtain ⟨ad, h, _⟩ := hr0.2.2 (by simp)
    cases h
  clear hr0 hlen
  have hq := fun (w : World) => Lib.run_eql_slice_nil (P := Tryd.prog) w 24 3 none 0 c0 0 0 Tryd.underlying24
  go_enter Tryd.func24, Tryd.ntmps24
  go_wp2
  go_ret
  exact ⟨_, rfl, Kd.R_nil _ _ _ _ _, Below.refl _ _⟩
 ·obtain ⟨ad, rfl⟩ : ∃ ad, A0 = some ad := by
   cases A0 with
   | none => exact absurd rfl hA
   | some ad => exact ⟨ad, rfl⟩
  clear hA
  have HR0 := mkA hr0
  have HC0 := mkA hc0
  have LMc2 := mkA hlen
  clear hr0 hc0 hlen
  have HB := mkA (Below.refl w.heap.size w)
  obtain ⟨y307, hy307⟩ : ∃ y_ : List Int, y_ = (([] : List Int) ++ l0) := ⟨_, rfl⟩
  have Ny307 := mkA hy307
  clear hy307
  have hq := fun (w : World) => Lib.run_eql_slice_nil (P := Tryd.prog) w 24 3 (some ad) l0.length c0 0 0 Tryd.underlying24
  go_enter Tryd.func24, Tryd.ntmps24
  go_wp2_with (first | ((with_reducible refine gate_dst (N := 5) rfl ?_); refine litE (Kd.int .i64) 3 ([] : List Int) [] ?hp ?_; (case hp => exact (Reps.none _ _)); intro v305 w3 ho4 hb hg_ hnew_; clear hg_ hnew_; have HO306 := rLo ho4 HB; replace HB := bst HB hb; clear hb ho4) | ((with_reducible refine gate_builtin (b := .append) (xs := #[.tmp 5, .tmp 6]) rfl ?_); at_builtin; refine Kd.R_append_rows (Kd.int .i64) (w0 := w) w.heap.size rfl (.tmp 5) (.tmp 6) 24 3 (.int .i64 0) 8 rfl Tryd.underlying24 info3 rfl (by decide) (by omega) v305 ([] : List Int) l0 _ _ _ (fun _ => True) (fun _ => False) rfl rfl ?aO ?aR (fun _ _ h => h) (fun _ h => h.elim) ?aF ?aB ?aS ?aL ?_; (case aR => exact C_g HR0 HB); (case aB => exact (bel_g HB.out)); (case aF => exact (fun _ _ => trivial)); (case aO => exact (Kd.R_g HO306.out)); (case aS => exact (below_size (bel_g HB.out))); (case aL => have := LMc2.out; simp only [List.length_nil]; omega); intro v308 w5 ho hb hg hat; rw [← Ny307.out] at ho; have HO309 := mkA (ho); replace HB := mkA (hb); clear HO306; clear ho hb hg hat))
  go_ret
  obtain rfl : y307 = l0 := Ny307.out
  exact ⟨_, rfl, Kd.R_g HO309.out, bel_g HB.out⟩
end Go.Proofs.YtpphkeijklffgaaDoor.Q
