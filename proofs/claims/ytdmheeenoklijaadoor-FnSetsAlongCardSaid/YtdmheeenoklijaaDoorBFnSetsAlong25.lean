import Derived.Test.YtdmheeenoklijaaDoorBFnSetsAlong24
namespace Go.Proofs.YtdmheeenoklijaaDoor.Q
open Go.RowKit Go.Proofs.YtdmheeenoklijaaDoorW.PrintWords Go.Proofs.YtdmheeenoklijaaDoorW.PrintLast Go.Proofs.YtdmheeenoklijaaDoorW.PrintMore
attribute [local go_sem] max2_int min2_int max_two min_two max_three min_three max_four min_four neB_f
set_option linter.unusedVariables false
set_option maxHeartbeats 8000000
set_option maxRecDepth 100000
set_option linter.unusedSimpArgs false
mutual
def impl_Order_antichain.l0 : Nat → List Int → List Int → Int → Int → Option (List Int)
 | 0, _, _, _, _ => none
 | k + 1, x3, x4, x15, x16 => if x16 < x15 then ((impl_members.f k x16).bind fun t894 => (impl_Order_antichain.l1 k x3 x4 x16 t894 true x15 x16 t894 (t894.length : Int) 0)) else (some x3)
def impl_Order_antichain.l1 : Nat → List Int → List Int → Int → List Int → Bool → Int → Int → List Int → Int → Int → Option (List Int)
 | 0, _, _, _, _, _, _, _, _, _, _ => none
 | k + 1, x3, x4, x5, x6, x7, x15, x16, x21, x22, x23 => if x23 < x22 then (if 0 ≤ x23 then (if x23 < (x21.length : Int) then (if x7 = true then (if 0 ≤ (rd x21 x23) then (if (rd x21 x23) < (x4.length : Int) then (impl_Order_antichain.l1 k x3 x4 x5 x6 ((Go.bits .andNot .i64 (Go.bits .andNot .i64 x5 (rd x4 (rd x21 x23))) (shl .i64 1 (rd x21 x23))) == 0) x15 x16 x21 x22 (wrap64 (x23 + 1))) else (none)) else (none)) else (impl_Order_antichain.l1 k x3 x4 x5 x6 false x15 x16 x21 x22 (wrap64 (x23 + 1)))) else (none)) else (none)) else (if x7 = true then (if (x6.length : Int) > (x3.length : Int) then (impl_Order_antichain.l0 k x6 x4 x15 (wrap64 (x16 + 1))) else (if (x6.length : Int) = (x3.length : Int) then ((slices_Compare_int_int.f k x6 x3).bind fun t899 => (if t899 < 0 then (impl_Order_antichain.l0 k x6 x4 x15 (wrap64 (x16 + 1))) else (impl_Order_antichain.l0 k x3 x4 x15 (wrap64 (x16 + 1))))) else (impl_Order_antichain.l0 k x3 x4 x15 (wrap64 (x16 + 1))))) else (impl_Order_antichain.l0 k x3 x4 x15 (wrap64 (x16 + 1))))
end
def impl_Order_antichain.f (k : Nat) (a0_0 : Int) (l0_1 : List Int) : Option (List Int) := (impl_Order_indifferent.f k a0_0 l0_1).bind fun t891 => (if 0 ≤ a0_0 then (impl_Order_antichain.l0 k (([] : List Int)) t891 (shl .i64 1 a0_0) 0) else (none))
theorem impl_Order_antichain.mono_l : ∀ k, (∀ y0 y1 y2 y3, LeO (impl_Order_antichain.l0 k y0 y1 y2 y3) (impl_Order_antichain.l0 (k + 1) y0 y1 y2 y3)) ∧ (∀ y0 y1 y2 y3 y4 y5 y6 y7 y8 y9, LeO (impl_Order_antichain.l1 k y0 y1 y2 y3 y4 y5 y6 y7 y8 y9) (impl_Order_antichain.l1 (k + 1) y0 y1 y2 y3 y4 y5 y6 y7 y8 y9))
 | 0 => ⟨fun _ _ _ _ r h => by simp [impl_Order_antichain.l0] at h, fun _ _ _ _ _ _ _ _ _ _ r h => by simp [impl_Order_antichain.l1] at h⟩
 | k + 1 => by
  obtain ⟨ih0, ih1⟩ := impl_Order_antichain.mono_l k
  refine ⟨?_, ?_⟩ <;> intros
  unfold impl_Order_antichain.l0
  rotate_left
  unfold impl_Order_antichain.l1
  rotate_left
  all_goals repeat' (with_reducible first|apply ih0|apply ih1|apply impl_Order_indifferent.mono|apply impl_members.mono|apply slices_Compare_int_int.mono|apply LeO.refl|apply LeO.none|apply LeO.ite|apply LeO.bind|intro)
theorem impl_Order_antichain.mono : ∀ a0 a1 k, LeO (impl_Order_antichain.f k a0 a1) (impl_Order_antichain.f (k + 1) a0 a1) := by
 intro a0 a1 k
 obtain ⟨ih0, ih1⟩ := impl_Order_antichain.mono_l k
 unfold impl_Order_antichain.f
 repeat' (with_reducible first|apply ih0|apply ih1|apply impl_Order_indifferent.mono|apply impl_members.mono|apply slices_Compare_int_int.mono|apply LeO.refl|apply LeO.none|apply LeO.ite|apply LeO.bind|intro)
theorem impl_Order_antichain.calls (k : Nat) (a0_0 : Int) (A0_1 : Option Addr) (c0_1 : Nat) (l0_1 : List Int) (r : List Int) (w : World) (hr0_1 : Kd.C (Kd.int .i64) w A0_1 l0_1.length l0_1) (hc0_1 : l0_1.length ≤ c0_1) (hTAB : Tab w) (h : impl_Order_antichain.f k a0_0 l0_1 = some r) :
  Calls Tryd.prog 51 #[.agg #[.int .i64 a0_0, .slice A0_1 l0_1.length c0_1]] w fun e w' => ∃ v0_ : Value, e = .returned (v0_) ∧ Kd.R (Kd.int .i64) 3 w' w.heap.size (fun _ => True) v0_ r ∧ Below w.heap.size w w' := by
 have HTAB := mkA hTAB
 clear hTAB
 have hu26 := Tryd.underlying26
 have HR0_1 := mkA hr0_1
 have HC0_1 := mkA hc0_1
 clear hr0_1 hc0_1
 have HB := mkA (Below.refl w.heap.size w)
 have H := h
 clear h
 unfold impl_Order_antichain.f at H
 obtain ⟨y888, hy888⟩ : ∃ y_ : List Int, y_ = (([] : List Int)) := ⟨_, rfl⟩
 rw [← hy888] at H
 have Ny888 := mkA hy888
 clear hy888
 obtain ⟨t891, A2, H⟩ := obE H
 obtain ⟨c3b0, c3b1, H⟩ := itNQ H
 obtain ⟨ji4, hji4⟩ : ∃ j_ : Int, (shl .i64 1 a0_0) = j_ := ⟨_, rfl⟩
 first | rw [hji4] at H | simp only [hji4] at H
 (try rw [hji4] at A2)
 have hji4_ : (IntKind.i64.wrap (1 * 2 ^ min a0_0.toNat 64)) = ji4 := hji4
 have hji4z : a0_0 ≤ 64 → (IntKind.i64.wrap (1 * 2 ^ a0_0.toNat)) = ji4 := shl_small hji4
 have hji4u : (IntKind.i64.wrap (2 ^ min a0_0.toNat 64)) = ji4 := by have h_ := hji4_; rw [Int.one_mul] at h_; exact h_
 have hji4v : a0_0 ≤ 64 → (IntKind.i64.wrap (2 ^ a0_0.toNat)) = ji4 := fun hle_ => by have h_ := hji4z hle_; rw [Int.one_mul] at h_; exact h_
 have hji4y : (wrap64 (1 * 2 ^ min a0_0.toNat 64)) = ji4 := (i64_w _).symm.trans hji4_
 have hji4x : a0_0 ≤ 64 → (wrap64 (1 * 2 ^ a0_0.toNat)) = ji4 := fun h_ => (i64_w _).symm.trans (hji4z h_)
 have H' := mkA H
 clear H
 go_enter Tryd.func51, Tryd.ntmps51
 go_wp2_with (first | ((with_reducible refine gate_dst (N := 1) rfl ?_); (try (refine gate_guard (by rfl) ?_; dsimp only)); refine boxG HB #[.int .i64 a0_0, .slice A0_1 l0_1.length c0_1] 26 ?_; intro gb887 hg w5 BK887 GE887 hb; replace HB := bst HB hb; clear hb hg) | ((with_reducible refine gate_dst (N := 10) rfl ?_); (try (refine gate_guard (by rfl) ?_; dsimp only)); refine litE (Kd.int .i64) 3 ([] : List Int) [] ?hp ?_; (case hp => exact (Reps.none _ _)); intro v889 w6 ho7 hb hg_ hnew_; clear hg_ hnew_; (first | rw [← Ny888.out] at ho7 | (simp only [Int.reduceToNat] at ho7; rw [← Ny888.out] at ho7)); have HO890 := rLo ho7 HB; replace BK887 := blkB BK887 hb; replace HB := bst HB hb; clear hb ho7; obtain ⟨hcz8_0, hcz8_1, hfz8_0, hfz8_1⟩ := blk2 BK887) | (go_at_call 53; (with_reducible refine (impl_Order_indifferent.calls k a0_0 _ _ l0_1 t891 _ ?_ ?_ A2.out).mono ?_); exact C_g HR0_1 HB; exact HC0_1.out; rintro e w9 ⟨v892, rfl, ho0, hb⟩; have HO893 := rLo (rN ho0 HO890) HB; replace HO890 := rE HO890 ho0 hb; replace BK887 := blkB BK887 hb; replace HB := bst HB hb; clear hb ho0; obtain ⟨hcz10_0, hcz10_1, hfz10_0, hfz10_1⟩ := blk2 BK887))
 repeat (go_quiet (first | ((with_reducible refine gate_dst (N := 1) rfl ?_); (try (refine gate_guard (by rfl) ?_; dsimp only)); refine boxG HB #[.int .i64 a0_0, .slice A0_1 l0_1.length c0_1] 26 ?_; intro gb887 hg w5 BK887 GE887 hb; replace HB := bst HB hb; clear hb hg) | ((with_reducible refine gate_dst (N := 10) rfl ?_); (try (refine gate_guard (by rfl) ?_; dsimp only)); refine litE (Kd.int .i64) 3 ([] : List Int) [] ?hp ?_; (case hp => exact (Reps.none _ _)); intro v889 w6 ho7 hb hg_ hnew_; clear hg_ hnew_; (first | rw [← Ny888.out] at ho7 | (simp only [Int.reduceToNat] at ho7; rw [← Ny888.out] at ho7)); have HO890 := rLo ho7 HB; replace BK887 := blkB BK887 hb; replace HB := bst HB hb; clear hb ho7; obtain ⟨hcz8_0, hcz8_1, hfz8_0, hfz8_1⟩ := blk2 BK887) | (go_at_call 53; (with_reducible refine (impl_Order_indifferent.calls k a0_0 _ _ l0_1 t891 _ ?_ ?_ A2.out).mono ?_); exact C_g HR0_1 HB; exact HC0_1.out; rintro e w9 ⟨v892, rfl, ho0, hb⟩; have HO893 := rLo (rN ho0 HO890) HB; replace HO890 := rE HO890 ho0 hb; replace BK887 := blkB BK887 hb; replace HB := bst HB hb; clear hb ho0; obtain ⟨hcz10_0, hcz10_1, hfz10_0, hfz10_1⟩ := blk2 BK887)); try go_wp2_with (first | ((with_reducible refine gate_dst (N := 1) rfl ?_); (try (refine gate_guard (by rfl) ?_; dsimp only)); refine boxG HB #[.int .i64 a0_0, .slice A0_1 l0_1.length c0_1] 26 ?_; intro gb887 hg w5 BK887 GE887 hb; replace HB := bst HB hb; clear hb hg) | ((with_reducible refine gate_dst (N := 10) rfl ?_); (try (refine gate_guard (by rfl) ?_; dsimp only)); refine litE (Kd.int .i64) 3 ([] : List Int) [] ?hp ?_; (case hp => exact (Reps.none _ _)); intro v889 w6 ho7 hb hg_ hnew_; clear hg_ hnew_; (first | rw [← Ny888.out] at ho7 | (simp only [Int.reduceToNat] at ho7; rw [← Ny888.out] at ho7)); have HO890 := rLo ho7 HB; replace BK887 := blkB BK887 hb; replace HB := bst HB hb; clear hb ho7; obtain ⟨hcz8_0, hcz8_1, hfz8_0, hfz8_1⟩ := blk2 BK887) | (go_at_call 53; (with_reducible refine (impl_Order_indifferent.calls k a0_0 _ _ l0_1 t891 _ ?_ ?_ A2.out).mono ?_); exact C_g HR0_1 HB; exact HC0_1.out; rintro e w9 ⟨v892, rfl, ho0, hb⟩; have HO893 := rLo (rN ho0 HO890) HB; replace HO890 := rE HO890 ho0 hb; replace BK887 := blkB BK887 hb; replace HB := bst HB hb; clear hb ho0; obtain ⟨hcz10_0, hcz10_1, hfz10_0, hfz10_1⟩ := blk2 BK887)))
 go_loopg [3, 16] k (fun kq v3 v16 w' => ∃ (x3_1 : List Int) (x16_1 : Int), v16 = .int .i64 x16_1 ∧ Fc (impl_Order_antichain.l0 kq x3_1 t891 ji4 x16_1 = some r) ∧ Fc (kq ≤ k) ∧ Fc (Kd.R (Kd.int .i64) 3 w' w.heap.size (fun k_ => some k_ ≠ (v892 : Value).ownBlock) v3 x3_1) ∧ Fc (Kd.R (Kd.int .i64) 3 w' w.heap.size (fun k_ => some k_ ≠ (v3 : Value).ownBlock) v892 t891) ∧ Fc (w'.heap[gb887]? = some (.cells #[.int .i64 a0_0, (.slice A0_1 l0_1.length c0_1)] 26 (0, 0))) ∧ Fc (Below w.heap.size w w'))
 case atStart => exact ⟨(y888), (0), eqS, H', ⟨Nat.le_refl _⟩, ⟨Kd.R_g (Kd.R_mono HO890.out (fun _ hk => hk.2))⟩, ⟨Kd.R_g (Kd.R_mono HO893.out (fun _ hk => hk.2))⟩, bg BK887, hbg HB⟩
 case round =>
  clear H'
  try clear c3
  try clear c3b0
  try clear c3b1
  obtain ⟨x3_1, x16_1, rfl, HA, HK1, HO_3, HO_4, BK887, HB⟩ := hrel
  cases gk with
  | zero => exact absurd HA.out (by simp [impl_Order_antichain.l0])
  | succ k1 =>
   have H := HA.out
   clear HA
   simp only [impl_Order_antichain.l0] at H
   rcases iteE H with ⟨c11b0, H⟩ | ⟨c11b0, H⟩
   ·obtain ⟨t894, A12, H⟩ := obE H
    have H' := mkA H
    clear H
    go_wp2_with (first | (go_at_call 66; (with_reducible refine (impl_members.calls k1 x16_1 t894 _ ?_ A12.out).mono ?_); exact Tab.below HTAB.out (bel_g HB.out); rintro e w13 ⟨v895, rfl, ho0, hb⟩; have HO896 := rLo (rN (rN ho0 HO_3) HO_4) HB; replace HO_3 := rE HO_3 ho0 hb; replace HO_4 := rE HO_4 ho0 hb; replace BK887 := blkB BK887 hb; replace HB := bst HB hb; clear hb ho0; obtain ⟨Ao14, co14, rfl⟩ := Kd.R_slice HO896.out))
    repeat (go_quiet (first | (go_at_call 66; (with_reducible refine (impl_members.calls k1 x16_1 t894 _ ?_ A12.out).mono ?_); exact Tab.below HTAB.out (bel_g HB.out); rintro e w13 ⟨v895, rfl, ho0, hb⟩; have HO896 := rLo (rN (rN ho0 HO_3) HO_4) HB; replace HO_3 := rE HO_3 ho0 hb; replace HO_4 := rE HO_4 ho0 hb; replace BK887 := blkB BK887 hb; replace HB := bst HB hb; clear hb ho0; obtain ⟨Ao14, co14, rfl⟩ := Kd.R_slice HO896.out)); try go_wp2_with (first | (go_at_call 66; (with_reducible refine (impl_members.calls k1 x16_1 t894 _ ?_ A12.out).mono ?_); exact Tab.below HTAB.out (bel_g HB.out); rintro e w13 ⟨v895, rfl, ho0, hb⟩; have HO896 := rLo (rN (rN ho0 HO_3) HO_4) HB; replace HO_3 := rE HO_3 ho0 hb; replace HO_4 := rE HO_4 ho0 hb; replace BK887 := blkB BK887 hb; replace HB := bst HB hb; clear hb ho0; obtain ⟨Ao14, co14, rfl⟩ := Kd.R_slice HO896.out)))
    go_loopg [7, 23] k1 (fun kq v7 v23 w' => ∃ (x7_2 : Bool) (x23_2 : Int), v7 = .bool x7_2 ∧ v23 = .int .i64 x23_2 ∧ Fc (impl_Order_antichain.l1 kq x3_1 t891 x16_1 t894 x7_2 ji4 x16_1 t894 (t894.length : Int) x23_2 = some r) ∧ Fc (kq ≤ k1) ∧ Fc (Kd.R (Kd.int .i64) 3 w' w.heap.size (fun k_ => some k_ ≠ (v892 : Value).ownBlock ∧ some k_ ≠ ((.slice Ao14 t894.length co14) : Value).ownBlock ∧ some k_ ≠ ((.slice Ao14 t894.length co14) : Value).ownBlock) u3 x3_1) ∧ Fc (Kd.R (Kd.int .i64) 3 w' w.heap.size (fun k_ => some k_ ≠ (u3 : Value).ownBlock ∧ some k_ ≠ ((.slice Ao14 t894.length co14) : Value).ownBlock ∧ some k_ ≠ ((.slice Ao14 t894.length co14) : Value).ownBlock) v892 t891) ∧ Fc (Kd.R (Kd.int .i64) 3 w' w.heap.size (fun k_ => some k_ ≠ (u3 : Value).ownBlock ∧ some k_ ≠ (v892 : Value).ownBlock) (.slice Ao14 t894.length co14) t894) ∧ Fc (Kd.R (Kd.int .i64) 3 w' w.heap.size (fun k_ => some k_ ≠ (u3 : Value).ownBlock ∧ some k_ ≠ (v892 : Value).ownBlock) (.slice Ao14 t894.length co14) t894) ∧ Fc (w'.heap[gb887]? = some (.cells #[.int .i64 a0_0, (.slice A0_1 l0_1.length c0_1)] 26 (0, 0))) ∧ Fc (Below w.heap.size w w'))
    case atStart => exact ⟨(true), (0), eqS, eqS, H', ⟨Nat.le_refl _⟩, ⟨Kd.R_g (Kd.R_mono HO_3.out (fun _ hk => ⟨hk.1, ⟨hk.2, hk.2⟩⟩))⟩, ⟨Kd.R_g (Kd.R_mono HO_4.out (fun _ hk => ⟨hk.1, ⟨hk.2, hk.2⟩⟩))⟩, ⟨Kd.R_g (Kd.R_mono HO896.out (fun _ hk => ⟨hk.1.2, hk.2⟩))⟩, ⟨Kd.R_g (Kd.R_mono HO896.out (fun _ hk => ⟨hk.1.2, hk.2⟩))⟩, bg BK887, hbg HB⟩
    case round =>
     clear H'
     try clear c3
     try clear c3b0
     try clear c3b1
     try clear c11b0
     obtain ⟨x7_2, x23_2, rfl, rfl, HA, HK2, HO_3, HO_4, HO_6, HO_21, BK887, HB⟩ := hrel
     cases gk with
     | zero => exact absurd HA.out (by simp [impl_Order_antichain.l1])
     | succ k2 =>
      have H := HA.out
      clear HA
      simp only [impl_Order_antichain.l1] at H
      rcases iteE H with ⟨c15b0, H⟩ | ⟨c15b0, H⟩
      ·obtain ⟨c16b0, H⟩ := itND H
       obtain ⟨c17b0, H⟩ := itND H
       by_cases c18 : x7_2 = true
       ·subst c18
        replace H := ifT H
        obtain ⟨c19b0, H⟩ := itND H
        obtain ⟨c20b0, H⟩ := itND H
        have c21b0 := eq_true (ofd : 0 ≤ (rd t894 x23_2))
        obtain ⟨ji22, hji22⟩ : ∃ j_ : Int, (shl .i64 1 (rd t894 x23_2)) = j_ := ⟨_, rfl⟩
        first | rw [hji22] at H | simp only [hji22] at H
        have hji22_ : (IntKind.i64.wrap (1 * 2 ^ min (rd t894 x23_2).toNat 64)) = ji22 := hji22
        have hji22z : (rd t894 x23_2) ≤ 64 → (IntKind.i64.wrap (1 * 2 ^ (rd t894 x23_2).toNat)) = ji22 := shl_small hji22
        have hji22u : (IntKind.i64.wrap (2 ^ min (rd t894 x23_2).toNat 64)) = ji22 := by have h_ := hji22_; rw [Int.one_mul] at h_; exact h_
        have hji22v : (rd t894 x23_2) ≤ 64 → (IntKind.i64.wrap (2 ^ (rd t894 x23_2).toNat)) = ji22 := fun hle_ => by have h_ := hji22z hle_; rw [Int.one_mul] at h_; exact h_
        have hji22y : (wrap64 (1 * 2 ^ min (rd t894 x23_2).toNat 64)) = ji22 := (i64_w _).symm.trans hji22_
        have hji22x : (rd t894 x23_2) ≤ 64 → (wrap64 (1 * 2 ^ (rd t894 x23_2).toNat)) = ji22 := fun h_ => (i64_w _).symm.trans (hji22z h_)
        have H' := mkA H
        clear H
        obtain ⟨p897, q897, ad897, e897, hx897_0⟩ := atI (Kd.R_reads' HO_21.out).2.2 x23_2
        cases e897
        obtain ⟨Ao23, co23, rfl⟩ := Kd.R_slice HO_4.out
        obtain ⟨p898, q898, ad898, e898, hx898_0⟩ := atI (Kd.R_reads' HO_4.out).2.2 (rd t894 x23_2)
        cases e898
        go_wp2
        repeat (go_quiet (fail); try go_wp2)
        go_roundg k2
        case measure => have := HK1.out; have := HK2.out; omega
        case rel => exact ⟨(((Go.bits .andNot .i64 (Go.bits .andNot .i64 x16_1 (rd t891 (rd t894 x23_2))) (ji22)) == 0)), (wrap64 (x23_2 + 1)), (by first | rfl | (simp; done) | (simp only [← hji22] <;> (first | rfl | simp)) | (simp [*]; done)), eqS, H', ⟨by have := HK1.out; have := HK2.out; omega⟩, rg HO_3, rg HO_4, rg HO_6, rg HO_21, bg BK887, hbg HB⟩
       ·replace c18 := Bool.eq_false_iff.mpr c18
        subst c18
        replace H := ifF H
        have H' := mkA H
        clear H
        obtain ⟨p897, q897, ad897, e897, hx897_0⟩ := atI (Kd.R_reads' HO_21.out).2.2 x23_2
        cases e897
        go_wp2
        repeat (go_quiet (fail); try go_wp2)
        go_roundg k2
        case measure => have := HK1.out; have := HK2.out; omega
        case rel => exact ⟨(false), (wrap64 (x23_2 + 1)), eqS, eqS, H', ⟨by have := HK1.out; have := HK2.out; omega⟩, rg HO_3, rg HO_4, rg HO_6, rg HO_21, bg BK887, hbg HB⟩
      ·by_cases c24 : x7_2 = true
       ·subst c24
        replace H := ifT H
        rcases iteP H with ⟨c25, H⟩ | ⟨c25, H⟩
        ·have c25b0 := decide_eq_true c25
         have c25b1 : decide (x3_1.length < t894.length) = true := decide_eq_true (Int.ofNat_lt.mp c25)
         clear c25
         have H' := mkA H
         clear H
         obtain ⟨Ao26, co26, rfl⟩ := Kd.R_slice HO_3.out
         go_wp2
         repeat (go_quiet (fail); try go_wp2)
         go_roundg k2
         case measure => have := HK1.out; have := HK2.out; omega
         case rel => exact ⟨(t894), (wrap64 (x16_1 + 1)), eqS, H', ⟨by have := HK1.out; have := HK2.out; omega⟩, ⟨Kd.R_g (Kd.R_mono HO_6.out (fun _ hk => hk.2))⟩, ⟨Kd.R_g (Kd.R_mono HO_4.out (fun _ hk => hk.2.1))⟩, bg BK887, hbg HB⟩
        ·have c25b0 := decide_eq_false c25
         have c25b1 : decide (x3_1.length < t894.length) = false := decide_eq_false (fun h => c25 (Int.ofNat_lt.mpr h))
         clear c25
         rcases iteP H with ⟨c27, H⟩ | ⟨c27, H⟩
         ·have c27b0 := beq_iff_eq.mpr c27
          have c27b1 := bne_eq_false_iff_eq.mpr c27
          have c27b2 : (t894.length == x3_1.length) = true := by first | simpa using c27 | (simp at c27 ⊢; omega)
          clear c27
          obtain ⟨t899, A28, H⟩ := obE H
          rcases iteE H with ⟨c29b0, H⟩ | ⟨c29b0, H⟩
          ·have H' := mkA H
           clear H
           obtain ⟨Ao30, co30, rfl⟩ := Kd.R_slice HO_3.out
           go_wp2_with (first | (go_at_call 73; (with_reducible refine (slices_Compare_int_int.calls k2 _ _ t894 _ _ x3_1 t899 _ ?_ ?_ ?_ ?_ A28.out).mono ?_); exact rC HO_6; exact rL HO_6; exact rC HO_3; exact rL HO_3; rintro e w' ⟨rfl, ⟨nd, rfl⟩⟩; (try first | exact ⟨rfl, _, World.drewN_drewN _ _ _⟩ | exact ⟨rfl, _, Eq.trans (World.drewN_drewN _ _ _) (congrArg (World.drewN _) (Nat.add_assoc _ _ _))⟩)))
           repeat (go_quiet (first | (go_at_call 73; (with_reducible refine (slices_Compare_int_int.calls k2 _ _ t894 _ _ x3_1 t899 _ ?_ ?_ ?_ ?_ A28.out).mono ?_); exact rC HO_6; exact rL HO_6; exact rC HO_3; exact rL HO_3; rintro e w' ⟨rfl, ⟨nd, rfl⟩⟩; (try first | exact ⟨rfl, _, World.drewN_drewN _ _ _⟩ | exact ⟨rfl, _, Eq.trans (World.drewN_drewN _ _ _) (congrArg (World.drewN _) (Nat.add_assoc _ _ _))⟩))); try go_wp2_with (first | (go_at_call 73; (with_reducible refine (slices_Compare_int_int.calls k2 _ _ t894 _ _ x3_1 t899 _ ?_ ?_ ?_ ?_ A28.out).mono ?_); exact rC HO_6; exact rL HO_6; exact rC HO_3; exact rL HO_3; rintro e w' ⟨rfl, ⟨nd, rfl⟩⟩; (try first | exact ⟨rfl, _, World.drewN_drewN _ _ _⟩ | exact ⟨rfl, _, Eq.trans (World.drewN_drewN _ _ _) (congrArg (World.drewN _) (Nat.add_assoc _ _ _))⟩))))
           go_roundg k2
           case measure => have := HK1.out; have := HK2.out; omega
           case rel => exact ⟨(t894), (wrap64 (x16_1 + 1)), eqS, H', ⟨by have := HK1.out; have := HK2.out; omega⟩, ⟨Kd.R_g (Kd.R_mono HO_6.out (fun _ hk => hk.2))⟩, ⟨Kd.R_g (Kd.R_mono HO_4.out (fun _ hk => hk.2.1))⟩, bg BK887, hbg HB⟩
          ·have H' := mkA H
           clear H
           obtain ⟨Ao31, co31, rfl⟩ := Kd.R_slice HO_3.out
           go_wp2_with (first | (go_at_call 73; (with_reducible refine (slices_Compare_int_int.calls k2 _ _ t894 _ _ x3_1 t899 _ ?_ ?_ ?_ ?_ A28.out).mono ?_); exact rC HO_6; exact rL HO_6; exact rC HO_3; exact rL HO_3; rintro e w' ⟨rfl, ⟨nd, rfl⟩⟩; (try first | exact ⟨rfl, _, World.drewN_drewN _ _ _⟩ | exact ⟨rfl, _, Eq.trans (World.drewN_drewN _ _ _) (congrArg (World.drewN _) (Nat.add_assoc _ _ _))⟩)))
           repeat (go_quiet (first | (go_at_call 73; (with_reducible refine (slices_Compare_int_int.calls k2 _ _ t894 _ _ x3_1 t899 _ ?_ ?_ ?_ ?_ A28.out).mono ?_); exact rC HO_6; exact rL HO_6; exact rC HO_3; exact rL HO_3; rintro e w' ⟨rfl, ⟨nd, rfl⟩⟩; (try first | exact ⟨rfl, _, World.drewN_drewN _ _ _⟩ | exact ⟨rfl, _, Eq.trans (World.drewN_drewN _ _ _) (congrArg (World.drewN _) (Nat.add_assoc _ _ _))⟩))); try go_wp2_with (first | (go_at_call 73; (with_reducible refine (slices_Compare_int_int.calls k2 _ _ t894 _ _ x3_1 t899 _ ?_ ?_ ?_ ?_ A28.out).mono ?_); exact rC HO_6; exact rL HO_6; exact rC HO_3; exact rL HO_3; rintro e w' ⟨rfl, ⟨nd, rfl⟩⟩; (try first | exact ⟨rfl, _, World.drewN_drewN _ _ _⟩ | exact ⟨rfl, _, Eq.trans (World.drewN_drewN _ _ _) (congrArg (World.drewN _) (Nat.add_assoc _ _ _))⟩))))
           go_roundg k2
           case measure => have := HK1.out; have := HK2.out; omega
           case rel => exact ⟨(x3_1), (wrap64 (x16_1 + 1)), eqS, H', ⟨by have := HK1.out; have := HK2.out; omega⟩, ⟨Kd.R_g (Kd.R_mono HO_3.out (fun _ hk => hk.1))⟩, ⟨Kd.R_g (Kd.R_mono HO_4.out (fun _ hk => hk.1))⟩, bg BK887, hbg HB⟩
         ·have c27b0 := beq_eq_false_iff_ne.mpr c27
          have c27b1 := bne_iff_ne.mpr c27
          have c27b2 : (t894.length == x3_1.length) = false := by first | simpa using c27 | (simp at c27 ⊢; omega)
          have H' := mkA H
          clear H
          obtain ⟨Ao32, co32, rfl⟩ := Kd.R_slice HO_3.out
          go_wp2
          repeat (go_quiet (fail); try go_wp2)
          go_roundg k2
          case measure => have := HK1.out; have := HK2.out; omega
          case rel => exact ⟨(x3_1), (wrap64 (x16_1 + 1)), eqS, H', ⟨by have := HK1.out; have := HK2.out; omega⟩, ⟨Kd.R_g (Kd.R_mono HO_3.out (fun _ hk => hk.1))⟩, ⟨Kd.R_g (Kd.R_mono HO_4.out (fun _ hk => hk.1))⟩, bg BK887, hbg HB⟩
       ·replace c24 := Bool.eq_false_iff.mpr c24
        subst c24
        replace H := ifF H
        have H' := mkA H
        clear H
        go_wp2
        repeat (go_quiet (fail); try go_wp2)
        go_roundg k2
        case measure => have := HK1.out; have := HK2.out; omega
        case rel => exact ⟨(x3_1), (wrap64 (x16_1 + 1)), eqS, H', ⟨by have := HK1.out; have := HK2.out; omega⟩, ⟨Kd.R_g (Kd.R_mono HO_3.out (fun _ hk => hk.1))⟩, ⟨Kd.R_g (Kd.R_mono HO_4.out (fun _ hk => hk.1))⟩, bg BK887, hbg HB⟩
   ·obtain rfl := Option.some.inj H
    go_wp2
    repeat (go_quiet (fail); try go_wp2)
    go_ret
    exact ⟨_, by first | rfl | (simp [errW_none, errW_some] <;> rfl) | (simp only [← hji4]; first | rfl | (simp [errW_none, errW_some] <;> rfl)) | (simp [*, errW_none, errW_some] <;> rfl), Kd.R_g (Kd.R_mono HO_3.out (fun _ hk => trivial)), bel_g HB.out⟩
def impl_LargestAntichain.f (k : Nat) (a0_0 : Int) (l0_1 : List Int) : Option (List Int × Bool) := (impl_IsOrder.f k a0_0 l0_1).bind fun t901 => (if t901 = true then ((impl_Order_antichain.f k a0_0 l0_1).bind fun t902 => (some (t902, true))) else (some (([] : List Int), false)))
theorem impl_LargestAntichain.mono : ∀ a0 a1 k, LeO (impl_LargestAntichain.f k a0 a1) (impl_LargestAntichain.f (k + 1) a0 a1) := by
 intro a0 a1 k
 unfold impl_LargestAntichain.f
 repeat' (with_reducible first|apply impl_IsOrder.mono|apply impl_Order_antichain.mono|apply LeO.refl|apply LeO.none|apply LeO.ite|apply LeO.bind|intro)
theorem impl_LargestAntichain.calls (k : Nat) (a0_0 : Int) (A0_1 : Option Addr) (c0_1 : Nat) (l0_1 : List Int) (r1 : List Int) (r2 : Bool) (w : World) (hr0_1 : Kd.C (Kd.int .i64) w A0_1 l0_1.length l0_1) (hc0_1 : l0_1.length ≤ c0_1) (hTAB : Tab w) (h : impl_LargestAntichain.f k a0_0 l0_1 = some (r1, r2)) :
  Calls Tryd.prog 26 #[.agg #[.int .i64 a0_0, .slice A0_1 l0_1.length c0_1]] w fun e w' => ∃ v0_ : Value, e = .returned (.tuple #[v0_, .bool r2]) ∧ Kd.R (Kd.int .i64) 3 w' w.heap.size (fun _ => True) v0_ r1 ∧ Below w.heap.size w w' := by
 have HTAB := mkA hTAB
 clear hTAB
 have hu26 := Tryd.underlying26
 have HR0_1 := mkA hr0_1
 have HC0_1 := mkA hc0_1
 clear hr0_1 hc0_1
 have HB := mkA (Below.refl w.heap.size w)
 have H := h
 clear h
 unfold impl_LargestAntichain.f at H
 obtain ⟨t901, A2, H⟩ := obE H
 by_cases c3 : t901 = true
 ·subst c3
  replace H := ifT H
  obtain ⟨t902, A4, H⟩ := obE H
  simp only [Option.some.injEq, Prod.mk.injEq] at H
  obtain ⟨rfl, rfl⟩ := H
  go_enter Tryd.func26, Tryd.ntmps26
  go_wp2_with (first | ((with_reducible refine gate_dst (N := 1) rfl ?_); refine boxG HB #[.int .i64 a0_0, .slice A0_1 l0_1.length c0_1] 26 ?_; intro gb900 hg w5 BK900 GE900 hb; replace HB := bst HB hb; clear hb hg; obtain ⟨_, _, _, _⟩ := blk2 BK900) | ((with_reducible refine gate_callee (f := 39) rfl ?_); refine goesQ (some 5) Tryd.func39 #[.agg #[.int .i64 a0_0, .slice A0_1 l0_1.length c0_1]] ?_; (with_reducible refine (impl_IsOrder.calls k a0_0 _ _ l0_1 true _ ?_ ?_ ?_ A2.out).mono ?_); exact C_g HR0_1 HB; exact HC0_1.out; exact Tab.below HTAB.out (bel_g HB.out); rintro e w7 ⟨rfl, hb⟩; refine ⟨_, rfl, ?_⟩; replace BK900 := blkB BK900 hb; replace HB := bst HB hb; clear hb; obtain ⟨_, _, _, _⟩ := blk2 BK900) | ((with_reducible refine gate_callee (f := 51) rfl ?_); refine goesQ (some 8) Tryd.func51 #[.agg #[.int .i64 a0_0, .slice A0_1 l0_1.length c0_1]] ?_; (with_reducible refine (impl_Order_antichain.calls k a0_0 _ _ l0_1 t902 _ ?_ ?_ ?_ A4.out).mono ?_); exact C_g HR0_1 HB; exact HC0_1.out; exact Tab.below HTAB.out (bel_g HB.out); rintro e w9 ⟨v903, rfl, ho0, hb⟩; refine ⟨_, rfl, ?_⟩; have HO904 := rLo ho0 HB; replace BK900 := blkB BK900 hb; replace HB := bst HB hb; clear hb ho0))
  go_ret2
  exact ⟨_, eqE, Kd.R_g HO904.out, bel_g HB.out⟩
 ·replace c3 := Bool.eq_false_iff.mpr c3
  subst c3
  replace H := ifF H
  simp only [Option.some.injEq, Prod.mk.injEq] at H
  obtain ⟨rfl, rfl⟩ := H
  go_enter Tryd.func26, Tryd.ntmps26
  go_wp2_with (first | ((with_reducible refine gate_dst (N := 1) rfl ?_); refine boxG HB #[.int .i64 a0_0, .slice A0_1 l0_1.length c0_1] 26 ?_; intro gb900 hg w10 BK900 GE900 hb; replace HB := bst HB hb; clear hb hg; obtain ⟨_, _, _, _⟩ := blk2 BK900) | ((with_reducible refine gate_callee (f := 39) rfl ?_); refine goesQ (some 5) Tryd.func39 #[.agg #[.int .i64 a0_0, .slice A0_1 l0_1.length c0_1]] ?_; (with_reducible refine (impl_IsOrder.calls k a0_0 _ _ l0_1 false _ ?_ ?_ ?_ A2.out).mono ?_); exact C_g HR0_1 HB; exact HC0_1.out; exact Tab.below HTAB.out (bel_g HB.out); rintro e w12 ⟨rfl, hb⟩; refine ⟨_, rfl, ?_⟩; replace BK900 := blkB BK900 hb; replace HB := bst HB hb; clear hb))
  go_ret2
  exact ⟨_, eqE, nilE, bel_g HB.out⟩
def laws_pMany.l0 : Nat → Int → Int → Option (Int)
 | 0, _, _ => none
 | k + 1, x0, x3 => if x0 > 0 then (laws_pMany.l0 k (wrap64 (Int.tdiv x0 2)) (wrap64 (x3 + (Int.tmod x0 2)))) else (some x3)
def laws_pMany.f (k : Nat) (a0 : Int) : Option (Int) := laws_pMany.l0 k a0 0
theorem laws_pMany.mono_l : ∀ k, (∀ y0 y1, LeO (laws_pMany.l0 k y0 y1) (laws_pMany.l0 (k + 1) y0 y1))
 | 0 => fun _ _ r h => by simp [laws_pMany.l0] at h
 | k + 1 => by
  have ih0 := laws_pMany.mono_l k
  ·intro y0 y1
   unfold laws_pMany.l0
   repeat' (with_reducible first|apply ih0|apply LeO.refl|apply LeO.none|apply LeO.ite|apply LeO.bind|intro)
theorem laws_pMany.mono : ∀ a0 k, LeO (laws_pMany.f k a0) (laws_pMany.f (k + 1) a0) := by
 intro a0 k
 have ih0 := laws_pMany.mono_l k
 unfold laws_pMany.f
 repeat' (with_reducible first|apply ih0|apply LeO.refl|apply LeO.none|apply LeO.ite|apply LeO.bind|intro)
theorem laws_pMany.calls (k : Nat) (a0 : Int) (r : Int) (w : World) (h : laws_pMany.f k a0 = some r) :
  Calls Tryd.prog 27 #[.int .i64 a0] w fun e w' => e = .returned (.int .i64 r) ∧ Drawn0 w w' := by
 have H := h
 clear h
 unfold laws_pMany.f at H
 have H' := mkA H
 clear H
 go_enter Tryd.func27, Tryd.ntmps27
 go_wp2
 go_loopg [0, 3] k (fun kq v0 v3 w' => ∃ (x0_1 : Int) (x3_1 : Int), v0 = .int .i64 x0_1 ∧ v3 = .int .i64 x3_1 ∧ Fc (laws_pMany.l0 kq x0_1 x3_1 = some r) ∧ Fc (kq ≤ k) ∧ Drawn0 w w')
 case atStart => exact ⟨(a0), (0), eqS, eqS, H', ⟨Nat.le_refl _⟩, by repeat (first | exact Drawn0.refl _ | apply Drawn0.step)⟩
 case round =>
  clear H'
  obtain ⟨x0_1, x3_1, rfl, rfl, HA, HK1, ⟨m1, rfl⟩⟩ := hrel
  cases gk with
  | zero => exact absurd HA.out (by simp [laws_pMany.l0])
  | succ k1 =>
   have H := HA.out
   clear HA
   simp only [laws_pMany.l0] at H
   rcases iteP H with ⟨c2, H⟩ | ⟨c2, H⟩
   ·have c2b0 := decide_eq_true c2
    clear c2
    have H' := mkA H
    clear H
    go_wp2
    go_roundg k1
    case measure => have := HK1.out; omega
    case rel => exact ⟨(wrap64 (Int.tdiv x0_1 2)), (wrap64 (x3_1 + (Int.tmod x0_1 2))), eqS, eqS, H', ⟨by have := HK1.out; omega⟩, by repeat (first | exact Drawn0.refl _ | apply Drawn0.step)⟩
   ·have c2b0 := decide_eq_false c2
    clear c2
    obtain rfl := Option.some.inj H
    go_wp2
    go_ret
    exact ⟨eqS, drE⟩
end Go.Proofs.YtdmheeenoklijaaDoor.Q
