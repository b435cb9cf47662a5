import Derived.Test.YtdmheeenoklijaaDoorBFnSetsAlong0
namespace Go.Proofs.YtdmheeenoklijaaDoor.Q
open Go.RowKit Go.Proofs.YtdmheeenoklijaaDoorW.PrintWords Go.Proofs.YtdmheeenoklijaaDoorW.PrintLast Go.Proofs.YtdmheeenoklijaaDoorW.PrintMore
attribute [local go_sem] max2_int min2_int max_two min_two max_three min_three max_four min_four neB_f
set_option linter.unusedVariables false
set_option maxHeartbeats 8000000
set_option maxRecDepth 100000
set_option linter.unusedSimpArgs false
def spec_l1Put.l0 : Nat → List Int → Int → Int → Option (List Int)
 | 0, _, _, _ => none
 | k + 1, x0, x1, x5 => if x5 < (x0.length : Int) then (if 0 ≤ x5 then (if (rd x0 x5) < x1 then (spec_l1Put.l0 k x0 x1 (wrap64 (x5 + 1))) else (if (rd x0 x5) = x1 then (some x0) else ((some (([] : List Int) : List Int)).bind fun y573 => (if x5 ≤ (x0.length : Int) then ((some (x0.take (x5 : Int).toNat : List Int)).bind fun y576 => (if y573.length + y576.length < 17592186044416 then ((some (y573 ++ y576 : List Int)).bind fun y580 => (if y580.length < 17592186044416 then ((some (y580 ++ [x1] : List Int)).bind fun y583 => ((some (x0.drop (x5 : Int).toNat : List Int)).bind fun y586 => (if y583.length + y586.length < 17592186044416 then (some (y583 ++ y586)) else (none)))) else (none))) else (none))) else (none))))) else (none)) else ((some (([] : List Int) : List Int)).bind fun y593 => (if 0 ≤ x5 then (if x5 ≤ (x0.length : Int) then ((some (x0.take (x5 : Int).toNat : List Int)).bind fun y596 => (if y593.length + y596.length < 17592186044416 then ((some (y593 ++ y596 : List Int)).bind fun y600 => (if y600.length < 17592186044416 then ((some (y600 ++ [x1] : List Int)).bind fun y603 => ((some (x0.drop (x5 : Int).toNat : List Int)).bind fun y606 => (if y603.length + y606.length < 17592186044416 then (some (y603 ++ y606)) else (none)))) else (none))) else (none))) else (none)) else (none)))
def spec_l1Put.f (k : Nat) (l0 : List Int) (a1 : Int) : Option (List Int) := spec_l1Put.l0 k l0 a1 0
theorem spec_l1Put.mono_l : ∀ k, (∀ y0 y1 y2, LeO (spec_l1Put.l0 k y0 y1 y2) (spec_l1Put.l0 (k + 1) y0 y1 y2))
 | 0 => fun _ _ _ r h => by simp [spec_l1Put.l0] at h
 | k + 1 => by
  have ih0 := spec_l1Put.mono_l k
  ·intro y0 y1 y2
   unfold spec_l1Put.l0
   repeat' (with_reducible first|apply ih0|apply LeO.refl|apply LeO.none|apply LeO.ite|apply LeO.bind|intro)
theorem spec_l1Put.mono : ∀ a0 a1 k, LeO (spec_l1Put.f k a0 a1) (spec_l1Put.f (k + 1) a0 a1) := by
 intro a0 a1 k
 have ih0 := spec_l1Put.mono_l k
 unfold spec_l1Put.f
 repeat' (with_reducible first|apply ih0|apply LeO.refl|apply LeO.none|apply LeO.ite|apply LeO.bind|intro)
theorem spec_l1Put.calls (k : Nat) (P0_ : Nat → Prop) (u9000_ : Value) (l0 : List Int) (a1 : Int) (r : List Int) (w0 w : World) (hB : Below w0.heap.size w0 w) (ho0 : Kd.R (Kd.int .i64) 3 w w0.heap.size P0_ u9000_ l0) (h : spec_l1Put.f k l0 a1 = some r) :
  Calls Tryd.prog 71 #[u9000_, .int .i64 a1] w fun e w' => ∃ v0_ : Value, e = .returned (v0_) ∧ Kd.R (Kd.int .i64) 3 w' w0.heap.size (fun k_ => (P0_ k_ ∨ w.heap.size ≤ k_)) v0_ r ∧ Below w0.heap.size w0 w' ∧ Kept w w' (fun k_ => P0_ k_) := by
 have HO0 := mkA (show Kd.R (Kd.int .i64) 3 w w0.heap.size (fun k_ => (P0_ k_ ∨ w.heap.size ≤ k_)) u9000_ l0 from Kd.R_mono ho0 (fun k_ hk => (.inl hk)))
 have HK := mkA (Kept.refl w (fun k_ => P0_ k_))
 have HW0 := mkA hB.size
 have HB := mkA hB
 clear hB
 have H := h
 clear h
 unfold spec_l1Put.f at H
 have H' := mkA H
 clear H
 go_enter Tryd.func71, Tryd.ntmps71
 go_wp2
 go_loopg [5] k (fun kq v5 w' => ∃ (x5_1 : Int), v5 = .int .i64 x5_1 ∧ Fc (spec_l1Put.l0 kq l0 a1 x5_1 = some r) ∧ Fc (kq ≤ k) ∧ Fc (Kd.R (Kd.int .i64) 3 w' w0.heap.size (fun k_ => (P0_ k_ ∨ w.heap.size ≤ k_)) u9000_ l0) ∧ Fc (Kept w w' (fun k_ => P0_ k_)) ∧ Fc (Below w0.heap.size w0 w'))
 case atStart => exact ⟨(0), eqS, H', ⟨Nat.le_refl _⟩, rg HO0, ⟨by repeat (first | (with_reducible first | exact HK.out | apply Kept.alloc | apply Kept.drewN | apply Kept.drew) | exact HK.out)⟩, hbg HB⟩
 case round =>
  clear H'
  obtain ⟨x5_1, rfl, HA, HK1, HO_0, HK, HB⟩ := hrel
  cases gk with
  | zero => exact absurd HA.out (by simp [spec_l1Put.l0])
  | succ k1 =>
   have H := HA.out
   clear HA
   simp only [spec_l1Put.l0] at H
   rcases iteE H with ⟨c3b0, H⟩ | ⟨c3b0, H⟩
   ·obtain ⟨c4b0, H⟩ := itND H
    rcases iteE H with ⟨c5b0, H⟩ | ⟨c5b0, H⟩
    ·have H' := mkA H
     clear H
     obtain ⟨Ao6, co6, rfl⟩ := Kd.R_slice HO_0.out
     obtain ⟨p571, q571, ad571, e571, hx571_0⟩ := atI (Kd.R_reads' HO_0.out).2.2 x5_1
     cases e571
     go_wp2
     go_roundg k1
     case measure => have := HK1.out; omega
     case rel => exact ⟨(wrap64 (x5_1 + 1)), eqS, H', ⟨by have := HK1.out; omega⟩, rg HO_0, ⟨by repeat (first | (with_reducible first | exact HK.out | apply Kept.alloc | apply Kept.drewN | apply Kept.drew) | exact HK.out)⟩, hbg HB⟩
    ·rcases iteP H with ⟨c7, H⟩ | ⟨c7, H⟩
     ·have c7b0 := beq_iff_eq.mpr c7
      have c7b1 := bne_eq_false_iff_eq.mpr c7
      clear c7
      obtain rfl := Option.some.inj H
      obtain ⟨Ao8, co8, rfl⟩ := Kd.R_slice HO_0.out
      obtain ⟨p571, q571, ad571, e571, hx571_0⟩ := atI (Kd.R_reads' HO_0.out).2.2 x5_1
      cases e571
      obtain ⟨p572, q572, ad572, e572, hx572_0⟩ := atI (Kd.R_reads' HO_0.out).2.2 x5_1
      obtain rfl : ad571 = ad572 := (by injection e572)
      go_wp2
      go_ret
      exact ⟨_, eqE, Kd.R_g HO_0.out, bel_g HB.out, by repeat (first | (with_reducible first | exact HK.out | apply Kept.alloc | apply Kept.drewN | apply Kept.drew) | exact HK.out)⟩
     ·have c7b0 := beq_eq_false_iff_ne.mpr c7
      have c7b1 := bne_iff_ne.mpr c7
      obtain ⟨y573, Ny573, H⟩ := nmE H
      have c9b0 := eq_true (ofd : 0 ≤ x5_1)
      obtain ⟨c10b0, c10b1, H⟩ := itNQ H
      obtain ⟨y576, Ny576, H⟩ := nmE H
      obtain ⟨c11, H⟩ := itNP H
      have LMc11 := mkA c11
      clear c11
      obtain ⟨y580, Ny580, H⟩ := nmE H
      obtain ⟨c12, H⟩ := itNP H
      have LMc12 := mkA c12
      clear c12
      obtain ⟨y583, Ny583, H⟩ := nmE H
      have c13b0 := eq_true (ofd : 0 ≤ x5_1)
      have c14b0 := eq_true (ofd : x5_1 ≤ (l0.length : Int))
      obtain ⟨y586, Ny586, H⟩ := nmE H
      obtain ⟨c15, H⟩ := itNP H
      have LMc15 := mkA c15
      clear c15
      obtain ⟨y590, hy590⟩ : ∃ y_ : List Int, y_ = (y583 ++ y586) := ⟨_, rfl⟩
      rw [← hy590] at H
      have Ny590 := mkA hy590
      clear hy590
      obtain rfl := Option.some.inj H
      obtain ⟨Ao16, co16, rfl⟩ := Kd.R_slice HO_0.out
      obtain ⟨p571, q571, ad571, e571, hx571_0⟩ := atI (Kd.R_reads' HO_0.out).2.2 x5_1
      cases e571
      obtain ⟨p572, q572, ad572, e572, hx572_0⟩ := atI (Kd.R_reads' HO_0.out).2.2 x5_1
      obtain rfl : ad571 = ad572 := (by injection e572)
      go_wp2_with (first | ((with_reducible refine gate_dst (N := 34) rfl ?_); refine litE (Kd.int .i64) 3 ([] : List Int) [] ?hp ?_; (case hp => exact (Reps.none _ _)); intro v574 w17 ho18 hb hg_ hnew_; clear hg_ hnew_; (first | rw [← Ny573.out] at ho18 | (simp only [Int.reduceToNat] at ho18; rw [← Ny573.out] at ho18)); have HO575 := rLo (rN (Kd.R_newM (M := fun k_ => (P0_ k_ ∨ w.heap.size ≤ k_)) ho18 (by first | exact HK.out.1 | exact (show Kept w _ (fun k_ => P0_ k_) from by repeat (first | (with_reducible first | exact HK.out | apply Kept.alloc | apply Kept.drewN | apply Kept.drew) | exact HK.out)).1) (fun k_ h_ => .inr h_)) HO_0) HB; replace HO_0 := rE HO_0 ho18 hb; replace HK := mkA (Kept.below (S := (fun k_ => P0_ k_)) (by repeat (first | (with_reducible first | exact HK.out | apply Kept.alloc | apply Kept.drewN | apply Kept.drew) | exact HK.out)) hb); replace HB := bst HB hb; clear hb ho18; have q19 : (x5_1 : Int) ≤ ((l0.length : Int) : Int) := ofd; obtain ⟨i019, hi019, _, hsz19, _⟩ := info_parts info3; have hroom19 : l0.length ≤ co16 := (Kd.R_reads' HO_0.out).2.1; have hC19 : Kd.C (Kd.int .i64) _ (some ad571) l0.length l0 := (Kd.R_reads' HO_0.out).2.2; have hcut19 := cut_to (P := Tryd.prog) 24 3 .i64 Tryd.underlying24 hi019 (some ad571) l0.length co16 x5_1 (ofd) q19 hroom19; have hr19 := Kd.C_take (m := (x5_1 : Int).toNat) hC19 (by omega); have hy19 : y576.length = (x5_1 : Int).toNat := (by rw [Ny576.out, List.length_take]; omega); rw [← Ny576.out] at hr19; rw [← hy19] at hcut19; have HR579 := mkA hr19; have HC579 := mkA (show y576.length ≤ co16 from by omega); clear hr19 hC19 hroom19 hi019 hsz19; have KY19 := mkA hy19; clear hy19; have KL19 := mkA (show (x5_1 : Int).toNat ≤ l0.length from by omega); replace q19 := eq_true q19) | ((with_reducible refine gate_builtin (b := .append) (xs := #[.tmp 34, .tmp 37]) rfl ?_); at_builtin; refine Kd.R_append_rows (Kd.int .i64) (w0 := w0) w0.heap.size rfl (.tmp 34) (.tmp 37) 24 3 (.int .i64 0) 8 rfl Tryd.underlying24 info3 rfl (by decide) (by omega) v574 y573 y576 _ _ _ (fun k_ => (P0_ k_ ∨ w.heap.size ≤ k_) ∧ some k_ ≠ (.slice (some ad571) l0.length co16 : Value).ownBlock) (fun _ => False) rfl rfl ?aO ?aR (fun _ _ h => h) (fun _ h => h.elim) ?aF ?aB ?aS ?aL ?_; (case aR => exact C_h HR579); (case aB => exact (bel_g HB.out)); (case aF => exact (fun k_ hk => ⟨(.inr (Nat.le_trans (by first | exact HK.out.1 | exact (show Kept w _ (fun k_ => P0_ k_) from by repeat (first | (with_reducible first | exact HK.out | apply Kept.alloc | apply Kept.drewN | apply Kept.drew) | exact HK.out)).1) hk)), Kd.fresh' (Kd.R_lt (Kd.R_g HO_0.out)) k_ hk⟩)); (case aO => exact (Kd.R_g (Kd.R_mono HO575.out (fun _ hk => ⟨hk.1.1, hk.2⟩)))); (case aS => exact (below_size (bel_g HB.out))); (case aL => have := LMc11.out; omega); intro v581 w20 ho hb hg hat; rw [← Ny580.out] at ho; replace HK := mkA (Kept.of_grown (S := (fun k_ => P0_ k_)) hg (by repeat (first | (with_reducible first | exact HK.out | apply Kept.alloc | apply Kept.drewN | apply Kept.drew) | exact HK.out)) (fun k_ e_ => (HO575.out.1 k_ e_).1.1)); replace HR579 := mkA ((show Kd.C (Kd.int .i64) w20 (some ad571) y576.length y576 from by rw [Ny576.out]; exact Kd.C_take (m := (x5_1 : Int).toNat) ((Kd.R_reads' (Kd.R_after (ok := (fun k_ => (P0_ k_ ∨ w.heap.size ≤ k_))) (Kd.R_g HO_0.out) hg hat)).2.2) KL19.out)); replace HO_0 := mkA (Kd.R_after (ok := (fun k_ => (P0_ k_ ∨ w.heap.size ≤ k_))) (Kd.R_g HO_0.out) hg hat); have HO582 := mkA (ho); replace HB := mkA (hb); clear HO575; clear ho hb hg hat) | ((with_reducible refine gate_builtin (b := .append) (xs := #[.tmp 39, .tmp 41]) rfl ?_); at_builtin; refine Kd.R_append (Kd.int .i64) (w0 := w0) w0.heap.size rfl (.tmp 39) (.tmp 41) 24 3 (.int .i64 0) 8 rfl Tryd.underlying24 info3 rfl (by decide) (by omega) v581 y580 a1 [.int .i64 a1] (fun k_ => (P0_ k_ ∨ w.heap.size ≤ k_) ∧ some k_ ≠ (.slice (some ad571) l0.length co16 : Value).ownBlock) (fun _ => False) rfl rfl ?aP (fun _ hk => hk.elim) ?aF ?aO ?aB ?aS ?aL ?_; (case aP => exact rfl); (case aB => exact (bel_g HB.out)); (case aF => exact (fun k_ hk => ⟨(.inr (Nat.le_trans (by first | exact HK.out.1 | exact (show Kept w _ (fun k_ => P0_ k_) from by repeat (first | (with_reducible first | exact HK.out | apply Kept.alloc | apply Kept.drewN | apply Kept.drew) | exact HK.out)).1) hk)), Kd.fresh' (Kd.R_lt (Kd.R_g HO_0.out)) k_ hk⟩)); (case aO => exact (Kd.R_g HO582.out)); (case aS => exact (below_size (bel_g HB.out))); (case aL => have := LMc12.out; omega); intro v584 w21 ho hb hg hat; rw [← Ny583.out] at ho; replace HK := mkA (Kept.of_grown (S := (fun k_ => P0_ k_)) hg (by repeat (first | (with_reducible first | exact HK.out | apply Kept.alloc | apply Kept.drewN | apply Kept.drew) | exact HK.out)) (fun k_ e_ => (HO582.out.1 k_ e_).1)); replace HR579 := mkA ((show Kd.C (Kd.int .i64) w21 (some ad571) y576.length y576 from by rw [Ny576.out]; exact Kd.C_take (m := (x5_1 : Int).toNat) ((Kd.R_reads' (Kd.R_after (ok := (fun k_ => (P0_ k_ ∨ w.heap.size ≤ k_))) (Kd.R_g HO_0.out) hg hat)).2.2) KL19.out)); replace HO_0 := mkA (Kd.R_after (ok := (fun k_ => (P0_ k_ ∨ w.heap.size ≤ k_))) (Kd.R_g HO_0.out) hg hat); have HO585 := mkA (ho); replace HB := mkA (hb); clear HO582; clear ho hb hg hat; have q22 : (x5_1 : Int) ≤ ((l0.length : Int) : Int) := ofd; obtain ⟨i022, hi022, _, hsz22, _⟩ := info_parts info3; have hroom22 : l0.length ≤ co16 := (Kd.R_reads' HO_0.out).2.1; have hC22 : Kd.C (Kd.int .i64) _ (some ad571) l0.length l0 := (Kd.R_reads' HO_0.out).2.2; have q022 : (0 : Int) ≤ (x5_1 : Int) := ofd; have hcut22 := cut_from (P := Tryd.prog) 24 3 .i64 Tryd.underlying24 hi022 1 hsz22 (some ad571) l0.length co16 x5_1 q022 q22; have hr22 := Kd.C_drop (m := (x5_1 : Int).toNat) (c := co16) hC22 (by omega) hroom22; obtain ⟨A22, hA22⟩ : ∃ A1, A1 = (if co16 = (x5_1 : Int).toNat then (some ad571) else ((some ad571) : Option Addr).map (·.add ((x5_1 : Int).toNat * 1))) := ⟨_, rfl⟩; obtain ⟨c22, hc22⟩ : ∃ c1, c1 = co16 - (x5_1 : Int).toNat := ⟨_, rfl⟩; have hy22 : y586.length = l0.length - (x5_1 : Int).toNat := (by rw [Ny586.out, List.length_drop] <;> omega); rw [show (l0).drop (x5_1 : Int).toNat = y586 from Ny586.out.symm] at hr22; replace hr22 : Kd.C (Kd.int .i64) _ A22 y586.length y586 := (by rw [hA22]; exact hr22); rw [← hy22, ← hA22, ← hc22] at hcut22; have HR589 := mkA hr22; have HC589 := mkA (show y586.length ≤ c22 from by rw [hy22, hc22]; exact Nat.sub_le_sub_right hroom22 _); clear hr22 hC22 hroom22 hi022 hsz22 hc22; have KY22 := mkA hy22; have KA22 := mkA hA22; clear hy22 hA22; have KL22 := mkA (show (x5_1 : Int).toNat ≤ l0.length from by omega); replace q22 := eq_true q22) | ((with_reducible refine gate_builtin (b := .append) (xs := #[.tmp 43, .tmp 46]) rfl ?_); at_builtin; refine Kd.R_append_rows (Kd.int .i64) (w0 := w0) w0.heap.size rfl (.tmp 43) (.tmp 46) 24 3 (.int .i64 0) 8 rfl Tryd.underlying24 info3 rfl (by decide) (by omega) v584 y583 y586 _ _ _ (fun k_ => (P0_ k_ ∨ w.heap.size ≤ k_) ∧ some k_ ≠ (.slice (some ad571) l0.length co16 : Value).ownBlock) (fun _ => False) rfl rfl ?aO ?aR (fun _ _ h => h) (fun _ h => h.elim) ?aF ?aB ?aS ?aL ?_; (case aR => exact C_h HR589); (case aB => exact (bel_g HB.out)); (case aF => exact (fun k_ hk => ⟨(.inr (Nat.le_trans (by first | exact HK.out.1 | exact (show Kept w _ (fun k_ => P0_ k_) from by repeat (first | (with_reducible first | exact HK.out | apply Kept.alloc | apply Kept.drewN | apply Kept.drew) | exact HK.out)).1) hk)), Kd.fresh' (Kd.R_lt (Kd.R_g HO_0.out)) k_ hk⟩)); (case aO => exact (Kd.R_g HO585.out)); (case aS => exact (below_size (bel_g HB.out))); (case aL => have := LMc15.out; omega); intro v591 w23 ho hb hg hat; rw [← Ny590.out] at ho; replace HK := mkA (Kept.of_grown (S := (fun k_ => P0_ k_)) hg (by repeat (first | (with_reducible first | exact HK.out | apply Kept.alloc | apply Kept.drewN | apply Kept.drew) | exact HK.out)) (fun k_ e_ => (HO585.out.1 k_ e_).1)); replace HR579 := mkA ((show Kd.C (Kd.int .i64) w23 (some ad571) y576.length y576 from by rw [Ny576.out]; exact Kd.C_take (m := (x5_1 : Int).toNat) ((Kd.R_reads' (Kd.R_after (ok := (fun k_ => (P0_ k_ ∨ w.heap.size ≤ k_))) (Kd.R_g HO_0.out) hg hat)).2.2) KL19.out)); replace HR589 := mkA ((show Kd.C (Kd.int .i64) w23 A22 y586.length y586 from by rw [Ny586.out, KA22.out]; exact Kd.C_drop (m := (x5_1 : Int).toNat) (c := co16) ((Kd.R_reads' (Kd.R_after (ok := (fun k_ => (P0_ k_ ∨ w.heap.size ≤ k_))) (Kd.R_g HO_0.out) hg hat)).2.2) KL22.out ((Kd.R_reads' (Kd.R_after (ok := (fun k_ => (P0_ k_ ∨ w.heap.size ≤ k_))) (Kd.R_g HO_0.out) hg hat)).2.1))); replace HO_0 := mkA (Kd.R_after (ok := (fun k_ => (P0_ k_ ∨ w.heap.size ≤ k_))) (Kd.R_g HO_0.out) hg hat); have HO592 := mkA (ho); replace HB := mkA (hb); clear HO585; clear ho hb hg hat))
      go_ret
      exact ⟨_, eqE, Kd.R_g (Kd.R_mono HO592.out (fun _ hk => hk.1)), bel_g HB.out, by repeat (first | (with_reducible first | exact HK.out | apply Kept.alloc | apply Kept.drewN | apply Kept.drew) | exact HK.out)⟩
   ·obtain ⟨y593, Ny593, H⟩ := nmE H
    obtain ⟨c24b0, c24b1, H⟩ := itNQ H
    obtain ⟨c25b0, c25b1, H⟩ := itNQ H
    obtain ⟨y596, Ny596, H⟩ := nmE H
    obtain ⟨c26, H⟩ := itNP H
    have LMc26 := mkA c26
    clear c26
    obtain ⟨y600, Ny600, H⟩ := nmE H
    obtain ⟨c27, H⟩ := itNP H
    have LMc27 := mkA c27
    clear c27
    obtain ⟨y603, Ny603, H⟩ := nmE H
    have c28b0 := eq_true (ofd : 0 ≤ x5_1)
    have c29b0 := eq_true (ofd : x5_1 ≤ (l0.length : Int))
    obtain ⟨y606, Ny606, H⟩ := nmE H
    obtain ⟨c30, H⟩ := itNP H
    have LMc30 := mkA c30
    clear c30
    obtain ⟨y610, hy610⟩ : ∃ y_ : List Int, y_ = (y603 ++ y606) := ⟨_, rfl⟩
    rw [← hy610] at H
    have Ny610 := mkA hy610
    clear hy610
    obtain rfl := Option.some.inj H
    obtain ⟨Ao31, co31, rfl⟩ := Kd.R_slice HO_0.out
    go_wp2_with (first | ((with_reducible refine gate_dst (N := 34) rfl ?_); refine litE (Kd.int .i64) 3 ([] : List Int) [] ?hp ?_; (case hp => exact (Reps.none _ _)); intro v594 w32 ho33 hb hg_ hnew_; clear hg_ hnew_; (first | rw [← Ny593.out] at ho33 | (simp only [Int.reduceToNat] at ho33; rw [← Ny593.out] at ho33)); have HO595 := rLo (rN (Kd.R_newM (M := fun k_ => (P0_ k_ ∨ w.heap.size ≤ k_)) ho33 (by first | exact HK.out.1 | exact (show Kept w _ (fun k_ => P0_ k_) from by repeat (first | (with_reducible first | exact HK.out | apply Kept.alloc | apply Kept.drewN | apply Kept.drew) | exact HK.out)).1) (fun k_ h_ => .inr h_)) HO_0) HB; replace HO_0 := rE HO_0 ho33 hb; replace HK := mkA (Kept.below (S := (fun k_ => P0_ k_)) (by repeat (first | (with_reducible first | exact HK.out | apply Kept.alloc | apply Kept.drewN | apply Kept.drew) | exact HK.out)) hb); replace HB := bst HB hb; clear hb ho33; have q34 : (x5_1 : Int) ≤ ((l0.length : Int) : Int) := ofd; obtain ⟨i034, hi034, _, hsz34, _⟩ := info_parts info3; have hroom34 : l0.length ≤ co31 := (Kd.R_reads' HO_0.out).2.1; have hC34 : Kd.C (Kd.int .i64) _ Ao31 l0.length l0 := (Kd.R_reads' HO_0.out).2.2; have hcut34 := cut_to (P := Tryd.prog) 24 3 .i64 Tryd.underlying24 hi034 Ao31 l0.length co31 x5_1 (ofd) q34 hroom34; have hr34 := Kd.C_take (m := (x5_1 : Int).toNat) hC34 (by omega); have hy34 : y596.length = (x5_1 : Int).toNat := (by rw [Ny596.out, List.length_take]; omega); rw [← Ny596.out] at hr34; rw [← hy34] at hcut34; have HR599 := mkA hr34; have HC599 := mkA (show y596.length ≤ co31 from by omega); clear hr34 hC34 hroom34 hi034 hsz34; have KY34 := mkA hy34; clear hy34; have KL34 := mkA (show (x5_1 : Int).toNat ≤ l0.length from by omega); replace q34 := eq_true q34) | ((with_reducible refine gate_builtin (b := .append) (xs := #[.tmp 34, .tmp 37]) rfl ?_); at_builtin; refine Kd.R_append_rows (Kd.int .i64) (w0 := w0) w0.heap.size rfl (.tmp 34) (.tmp 37) 24 3 (.int .i64 0) 8 rfl Tryd.underlying24 info3 rfl (by decide) (by omega) v594 y593 y596 _ _ _ (fun k_ => (P0_ k_ ∨ w.heap.size ≤ k_) ∧ some k_ ≠ (.slice Ao31 l0.length co31 : Value).ownBlock) (fun _ => False) rfl rfl ?aO ?aR (fun _ _ h => h) (fun _ h => h.elim) ?aF ?aB ?aS ?aL ?_; (case aR => exact C_h HR599); (case aB => exact (bel_g HB.out)); (case aF => exact (fun k_ hk => ⟨(.inr (Nat.le_trans (by first | exact HK.out.1 | exact (show Kept w _ (fun k_ => P0_ k_) from by repeat (first | (with_reducible first | exact HK.out | apply Kept.alloc | apply Kept.drewN | apply Kept.drew) | exact HK.out)).1) hk)), Kd.fresh' (Kd.R_lt (Kd.R_g HO_0.out)) k_ hk⟩)); (case aO => exact (Kd.R_g (Kd.R_mono HO595.out (fun _ hk => ⟨hk.1.1, hk.2⟩)))); (case aS => exact (below_size (bel_g HB.out))); (case aL => have := LMc26.out; omega); intro v601 w35 ho hb hg hat; rw [← Ny600.out] at ho; replace HK := mkA (Kept.of_grown (S := (fun k_ => P0_ k_)) hg (by repeat (first | (with_reducible first | exact HK.out | apply Kept.alloc | apply Kept.drewN | apply Kept.drew) | exact HK.out)) (fun k_ e_ => (HO595.out.1 k_ e_).1.1)); replace HR599 := mkA ((show Kd.C (Kd.int .i64) w35 Ao31 y596.length y596 from by rw [Ny596.out]; exact Kd.C_take (m := (x5_1 : Int).toNat) ((Kd.R_reads' (Kd.R_after (ok := (fun k_ => (P0_ k_ ∨ w.heap.size ≤ k_))) (Kd.R_g HO_0.out) hg hat)).2.2) KL34.out)); replace HO_0 := mkA (Kd.R_after (ok := (fun k_ => (P0_ k_ ∨ w.heap.size ≤ k_))) (Kd.R_g HO_0.out) hg hat); have HO602 := mkA (ho); replace HB := mkA (hb); clear HO595; clear ho hb hg hat) | ((with_reducible refine gate_builtin (b := .append) (xs := #[.tmp 39, .tmp 41]) rfl ?_); at_builtin; refine Kd.R_append (Kd.int .i64) (w0 := w0) w0.heap.size rfl (.tmp 39) (.tmp 41) 24 3 (.int .i64 0) 8 rfl Tryd.underlying24 info3 rfl (by decide) (by omega) v601 y600 a1 [.int .i64 a1] (fun k_ => (P0_ k_ ∨ w.heap.size ≤ k_) ∧ some k_ ≠ (.slice Ao31 l0.length co31 : Value).ownBlock) (fun _ => False) rfl rfl ?aP (fun _ hk => hk.elim) ?aF ?aO ?aB ?aS ?aL ?_; (case aP => exact rfl); (case aB => exact (bel_g HB.out)); (case aF => exact (fun k_ hk => ⟨(.inr (Nat.le_trans (by first | exact HK.out.1 | exact (show Kept w _ (fun k_ => P0_ k_) from by repeat (first | (with_reducible first | exact HK.out | apply Kept.alloc | apply Kept.drewN | apply Kept.drew) | exact HK.out)).1) hk)), Kd.fresh' (Kd.R_lt (Kd.R_g HO_0.out)) k_ hk⟩)); (case aO => exact (Kd.R_g HO602.out)); (case aS => exact (below_size (bel_g HB.out))); (case aL => have := LMc27.out; omega); intro v604 w36 ho hb hg hat; rw [← Ny603.out] at ho; replace HK := mkA (Kept.of_grown (S := (fun k_ => P0_ k_)) hg (by repeat (first | (with_reducible first | exact HK.out | apply Kept.alloc | apply Kept.drewN | apply Kept.drew) | exact HK.out)) (fun k_ e_ => (HO602.out.1 k_ e_).1)); replace HR599 := mkA ((show Kd.C (Kd.int .i64) w36 Ao31 y596.length y596 from by rw [Ny596.out]; exact Kd.C_take (m := (x5_1 : Int).toNat) ((Kd.R_reads' (Kd.R_after (ok := (fun k_ => (P0_ k_ ∨ w.heap.size ≤ k_))) (Kd.R_g HO_0.out) hg hat)).2.2) KL34.out)); replace HO_0 := mkA (Kd.R_after (ok := (fun k_ => (P0_ k_ ∨ w.heap.size ≤ k_))) (Kd.R_g HO_0.out) hg hat); have HO605 := mkA (ho); replace HB := mkA (hb); clear HO602; clear ho hb hg hat; have q37 : (x5_1 : Int) ≤ ((l0.length : Int) : Int) := ofd; obtain ⟨i037, hi037, _, hsz37, _⟩ := info_parts info3; have hroom37 : l0.length ≤ co31 := (Kd.R_reads' HO_0.out).2.1; have hC37 : Kd.C (Kd.int .i64) _ Ao31 l0.length l0 := (Kd.R_reads' HO_0.out).2.2; have q037 : (0 : Int) ≤ (x5_1 : Int) := ofd; have hcut37 := cut_from (P := Tryd.prog) 24 3 .i64 Tryd.underlying24 hi037 1 hsz37 Ao31 l0.length co31 x5_1 q037 q37; have hr37 := Kd.C_drop (m := (x5_1 : Int).toNat) (c := co31) hC37 (by omega) hroom37; obtain ⟨A37, hA37⟩ : ∃ A1, A1 = (if co31 = (x5_1 : Int).toNat then Ao31 else (Ao31 : Option Addr).map (·.add ((x5_1 : Int).toNat * 1))) := ⟨_, rfl⟩; obtain ⟨c37, hc37⟩ : ∃ c1, c1 = co31 - (x5_1 : Int).toNat := ⟨_, rfl⟩; have hy37 : y606.length = l0.length - (x5_1 : Int).toNat := (by rw [Ny606.out, List.length_drop] <;> omega); rw [show (l0).drop (x5_1 : Int).toNat = y606 from Ny606.out.symm] at hr37; replace hr37 : Kd.C (Kd.int .i64) _ A37 y606.length y606 := (by rw [hA37]; exact hr37); rw [← hy37, ← hA37, ← hc37] at hcut37; have HR609 := mkA hr37; have HC609 := mkA (show y606.length ≤ c37 from by rw [hy37, hc37]; exact Nat.sub_le_sub_right hroom37 _); clear hr37 hC37 hroom37 hi037 hsz37 hc37; have KY37 := mkA hy37; have KA37 := mkA hA37; clear hy37 hA37; have KL37 := mkA (show (x5_1 : Int).toNat ≤ l0.length from by omega); replace q37 := eq_true q37) | ((with_reducible refine gate_builtin (b := .append) (xs := #[.tmp 43, .tmp 46]) rfl ?_); at_builtin; refine Kd.R_append_rows (Kd.int .i64) (w0 := w0) w0.heap.size rfl (.tmp 43) (.tmp 46) 24 3 (.int .i64 0) 8 rfl Tryd.underlying24 info3 rfl (by decide) (by omega) v604 y603 y606 _ _ _ (fun k_ => (P0_ k_ ∨ w.heap.size ≤ k_) ∧ some k_ ≠ (.slice Ao31 l0.length co31 : Value).ownBlock) (fun _ => False) rfl rfl ?aO ?aR (fun _ _ h => h) (fun _ h => h.elim) ?aF ?aB ?aS ?aL ?_; (case aR => exact C_h HR609); (case aB => exact (bel_g HB.out)); (case aF => exact (fun k_ hk => ⟨(.inr (Nat.le_trans (by first | exact HK.out.1 | exact (show Kept w _ (fun k_ => P0_ k_) from by repeat (first | (with_reducible first | exact HK.out | apply Kept.alloc | apply Kept.drewN | apply Kept.drew) | exact HK.out)).1) hk)), Kd.fresh' (Kd.R_lt (Kd.R_g HO_0.out)) k_ hk⟩)); (case aO => exact (Kd.R_g HO605.out)); (case aS => exact (below_size (bel_g HB.out))); (case aL => have := LMc30.out; omega); intro v611 w38 ho hb hg hat; rw [← Ny610.out] at ho; replace HK := mkA (Kept.of_grown (S := (fun k_ => P0_ k_)) hg (by repeat (first | (with_reducible first | exact HK.out | apply Kept.alloc | apply Kept.drewN | apply Kept.drew) | exact HK.out)) (fun k_ e_ => (HO605.out.1 k_ e_).1)); replace HR599 := mkA ((show Kd.C (Kd.int .i64) w38 Ao31 y596.length y596 from by rw [Ny596.out]; exact Kd.C_take (m := (x5_1 : Int).toNat) ((Kd.R_reads' (Kd.R_after (ok := (fun k_ => (P0_ k_ ∨ w.heap.size ≤ k_))) (Kd.R_g HO_0.out) hg hat)).2.2) KL34.out)); replace HR609 := mkA ((show Kd.C (Kd.int .i64) w38 A37 y606.length y606 from by rw [Ny606.out, KA37.out]; exact Kd.C_drop (m := (x5_1 : Int).toNat) (c := co31) ((Kd.R_reads' (Kd.R_after (ok := (fun k_ => (P0_ k_ ∨ w.heap.size ≤ k_))) (Kd.R_g HO_0.out) hg hat)).2.2) KL37.out ((Kd.R_reads' (Kd.R_after (ok := (fun k_ => (P0_ k_ ∨ w.heap.size ≤ k_))) (Kd.R_g HO_0.out) hg hat)).2.1))); replace HO_0 := mkA (Kd.R_after (ok := (fun k_ => (P0_ k_ ∨ w.heap.size ≤ k_))) (Kd.R_g HO_0.out) hg hat); have HO612 := mkA (ho); replace HB := mkA (hb); clear HO605; clear ho hb hg hat))
    go_ret
    exact ⟨_, eqE, Kd.R_g (Kd.R_mono HO612.out (fun _ hk => hk.1)), bel_g HB.out, by repeat (first | (with_reducible first | exact HK.out | apply Kept.alloc | apply Kept.drewN | apply Kept.drew) | exact HK.out)⟩
end Go.Proofs.YtdmheeenoklijaaDoor.Q
