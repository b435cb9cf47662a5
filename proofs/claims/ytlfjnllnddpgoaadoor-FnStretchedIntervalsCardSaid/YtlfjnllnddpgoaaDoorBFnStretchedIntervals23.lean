import Derived.Test.YtlfjnllnddpgoaaDoorBFnStretchedIntervals0
namespace Go.Proofs.YtlfjnllnddpgoaaDoor.Q
open Go.RowKit Go.Proofs.YtlfjnllnddpgoaaDoorW.PrintWords Go.Proofs.YtlfjnllnddpgoaaDoorW.PrintLast Go.Proofs.YtlfjnllnddpgoaaDoorW.PrintMore
attribute [local go_sem] max2_int min2_int max_two min_two max_three min_three max_four min_four neB_f
set_option linter.unusedVariables false
set_option maxHeartbeats 8000000
set_option maxRecDepth 100000
set_option linter.unusedSimpArgs false
def spec_l1Put.l0 : Nat → List Int → Int → Int → Option (List Int)
 | 0, _, _, _ => none
 | k + 1, x0, x1, x5 => if x5 < (x0.length : Int) then (if 0 ≤ x5 then (if (rd x0 x5) < x1 then (spec_l1Put.l0 k x0 x1 (wrap64 (x5 + 1))) else (if (rd x0 x5) = x1 then (some x0) else ((some (([] : List Int) : List Int)).bind fun y705 => (if x5 ≤ (x0.length : Int) then ((some (x0.take (x5 : Int).toNat : List Int)).bind fun y708 => (if y705.length + y708.length < 17592186044416 then ((some (y705 ++ y708 : List Int)).bind fun y712 => (if y712.length < 17592186044416 then ((some (y712 ++ [x1] : List Int)).bind fun y715 => ((some (x0.drop (x5 : Int).toNat : List Int)).bind fun y718 => (if y715.length + y718.length < 17592186044416 then (some (y715 ++ y718)) else (none)))) else (none))) else (none))) else (none))))) else (none)) else ((some (([] : List Int) : List Int)).bind fun y725 => (if 0 ≤ x5 then (if x5 ≤ (x0.length : Int) then ((some (x0.take (x5 : Int).toNat : List Int)).bind fun y728 => (if y725.length + y728.length < 17592186044416 then ((some (y725 ++ y728 : List Int)).bind fun y732 => (if y732.length < 17592186044416 then ((some (y732 ++ [x1] : List Int)).bind fun y735 => ((some (x0.drop (x5 : Int).toNat : List Int)).bind fun y738 => (if y735.length + y738.length < 17592186044416 then (some (y735 ++ y738)) else (none)))) else (none))) else (none))) else (none)) else (none)))
def spec_l1Put.f (k : Nat) (l0 : List Int) (a1 : Int) : Option (List Int) := spec_l1Put.l0 k l0 a1 0
theorem spec_l1Put.mono_l : ∀ k, (∀ y0 y1 y2, LeO (spec_l1Put.l0 k y0 y1 y2) (spec_l1Put.l0 (k + 1) y0 y1 y2))
 | 0 => fun _ _ _ r h => by simp [spec_l1Put.l0] at h
 | k + 1 => by
  have ih0 := spec_l1Put.mono_l k
  ·intro y0 y1 y2
   unfold spec_l1Put.l0
   repeat' (with_reducible first|apply ih0|apply LeO.refl|apply LeO.none|apply LeO.ite|apply LeO.bind|intro)
theorem spec_l1Put.mono : ∀ a0 a1 k, LeO (spec_l1Put.f k a0 a1) (spec_l1Put.f (k + 1) a0 a1) := by
 intro a0 a1 k
 have ih0 := spec_l1Put.mono_l k
 unfold spec_l1Put.f
 repeat' (with_reducible first|apply ih0|apply LeO.refl|apply LeO.none|apply LeO.ite|apply LeO.bind|intro)
theorem spec_l1Put.calls (k : Nat) (P0_ : Nat → Prop) (u9000_ : Value) (l0 : List Int) (a1 : Int) (r : List Int) (w0 w : World) (hB : Below w0.heap.size w0 w) (ho0 : Kd.R (Kd.int .i64) 3 w w0.heap.size P0_ u9000_ l0) (h : spec_l1Put.f k l0 a1 = some r) :
  Calls Tryd.prog 63 #[u9000_, .int .i64 a1] w fun e w' => ∃ v0_ : Value, e = .returned (v0_) ∧ Kd.R (Kd.int .i64) 3 w' w0.heap.size (fun k_ => (P0_ k_ ∨ w.heap.size ≤ k_)) v0_ r ∧ Below w0.heap.size w0 w' ∧ Kept w w' (fun k_ => P0_ k_) := by
 have HO0 := mkA (show Kd.R (Kd.int .i64) 3 w w0.heap.size (fun k_ => (P0_ k_ ∨ w.heap.size ≤ k_)) u9000_ l0 from Kd.R_mono ho0 (fun k_ hk => (.inl hk)))
 have HK := mkA (Kept.refl w (fun k_ => P0_ k_))
 have HW0 := mkA hB.size
 have HB := mkA hB
 clear hB
 have H := h
 clear h
 unfold spec_l1Put.f at H
 have H' := mkA H
 clear H
 go_enter Tryd.func63, Tryd.ntmps63
 go_wp2
 go_loopg [5] k (fun kq v5 w' => ∃ (x5_1 : Int), v5 = .int .i64 x5_1 ∧ Fc (spec_l1Put.l0 kq l0 a1 x5_1 = some r) ∧ Fc (kq ≤ k) ∧ Fc (Kd.R (Kd.int .i64) 3 w' w0.heap.size (fun k_ => (P0_ k_ ∨ w.heap.size ≤ k_)) u9000_ l0) ∧ Fc (Kept w w' (fun k_ => P0_ k_)) ∧ Fc (Below w0.heap.size w0 w'))
 case atStart => exact ⟨(0), eqS, H', ⟨Nat.le_refl _⟩, rg HO0, ⟨by repeat (first | (with_reducible first | exact HK.out | apply Kept.alloc | apply Kept.drewN | apply Kept.drew) | exact HK.out)⟩, hbg HB⟩
 case round =>
  clear H'
  obtain ⟨x5_1, rfl, HA, HK1, HO_0, HK, HB⟩ := hrel
  cases gk with
  | zero => exact absurd HA.out (by simp [spec_l1Put.l0])
  | succ k1 =>
   have H := HA.out
   clear HA
   simp only [spec_l1Put.l0] at H
   rcases iteE H with ⟨c3b0, H⟩ | ⟨c3b0, H⟩
   ·obtain ⟨c4b0, H⟩ := itND H
    rcases iteE H with ⟨c5b0, H⟩ | ⟨c5b0, H⟩
    ·have H' := mkA H
     clear H
     obtain ⟨Ao6, co6, rfl⟩ := Kd.R_slice HO_0.out
     obtain ⟨p703, q703, ad703, e703, hx703_0⟩ := atI (Kd.R_reads' HO_0.out).2.2 x5_1
     cases e703
     go_wp2
     go_roundg k1
     case measure => have := HK1.out; omega
     case rel => exact ⟨(wrap64 (x5_1 + 1)), eqS, H', ⟨by have := HK1.out; omega⟩, rg HO_0, ⟨by repeat (first | (with_reducible first | exact HK.out | apply Kept.alloc | apply Kept.drewN | apply Kept.drew) | exact HK.out)⟩, hbg HB⟩
    ·rcases iteP H with ⟨c7, H⟩ | ⟨c7, H⟩
     ·have c7b0 := beq_iff_eq.mpr c7
      have c7b1 := bne_eq_false_iff_eq.mpr c7
      clear c7
      obtain rfl := Option.some.inj H
      obtain ⟨Ao8, co8, rfl⟩ := Kd.R_slice HO_0.out
      obtain ⟨p703, q703, ad703, e703, hx703_0⟩ := atI (Kd.R_reads' HO_0.out).2.2 x5_1
      cases e703
      obtain ⟨p704, q704, ad704, e704, hx704_0⟩ := atI (Kd.R_reads' HO_0.out).2.2 x5_1
      obtain rfl : ad703 = ad704 := (by injection e704)
      go_wp2
      go_ret
      exact ⟨_, eqE, Kd.R_g HO_0.out, bel_g HB.out, by repeat (first | (with_reducible first | exact HK.out | apply Kept.alloc | apply Kept.drewN | apply Kept.drew) | exact HK.out)⟩
     ·have c7b0 := beq_eq_false_iff_ne.mpr c7
      have c7b1 := bne_iff_ne.mpr c7
      obtain ⟨y705, Ny705, H⟩ := nmE H
      have c9b0 := eq_true (ofd : 0 ≤ x5_1)
      obtain ⟨c10b0, c10b1, H⟩ := itNQ H
      obtain ⟨y708, Ny708, H⟩ := nmE H
      obtain ⟨c11, H⟩ := itNP H
      have LMc11 := mkA c11
      clear c11
      obtain ⟨y712, Ny712, H⟩ := nmE H
      obtain ⟨c12, H⟩ := itNP H
      have LMc12 := mkA c12
      clear c12
      obtain ⟨y715, Ny715, H⟩ := nmE H
      have c13b0 := eq_true (ofd : 0 ≤ x5_1)
      have c14b0 := eq_true (ofd : x5_1 ≤ (l0.length : Int))
      obtain ⟨y718, Ny718, H⟩ := nmE H
      obtain ⟨c15, H⟩ := itNP H
      have LMc15 := mkA c15
      clear c15
      obtain ⟨y722, hy722⟩ : ∃ y_ : List Int, y_ = (y715 ++ y718) := ⟨_, rfl⟩
      rw [← hy722] at H
      have Ny722 := mkA hy722
      clear hy722
      obtain rfl := Option.some.inj H
      obtain ⟨Ao16, co16, rfl⟩ := Kd.R_slice HO_0.out
      obtain ⟨p703, q703, ad703, e703, hx703_0⟩ := atI (Kd.R_reads' HO_0.out).2.2 x5_1
      cases e703
      obtain ⟨p704, q704, ad704, e704, hx704_0⟩ := atI (Kd.R_reads' HO_0.out).2.2 x5_1
      obtain rfl : ad703 = ad704 := (by injection e704)
      go_wp2_with (first | ((with_reducible refine gate_dst (N := 34) rfl ?_); refine litE (Kd.int .i64) 3 ([] : List Int) [] ?hp ?_; (case hp => exact (Reps.none _ _)); intro v706 w17 ho18 hb hg_ hnew_; clear hg_ hnew_; (first | rw [← Ny705.out] at ho18 | (simp only [Int.reduceToNat] at ho18; rw [← Ny705.out] at ho18)); have HO707 := rLo (rN (Kd.R_newM (M := fun k_ => (P0_ k_ ∨ w.heap.size ≤ k_)) ho18 (by first | exact HK.out.1 | exact (show Kept w _ (fun k_ => P0_ k_) from by repeat (first | (with_reducible first | exact HK.out | apply Kept.alloc | apply Kept.drewN | apply Kept.drew) | exact HK.out)).1) (fun k_ h_ => .inr h_)) HO_0) HB; replace HO_0 := rE HO_0 ho18 hb; replace HK := mkA (Kept.below (S := (fun k_ => P0_ k_)) (by repeat (first | (with_reducible first | exact HK.out | apply Kept.alloc | apply Kept.drewN | apply Kept.drew) | exact HK.out)) hb); replace HB := bst HB hb; clear hb ho18; have q19 : (x5_1 : Int) ≤ ((l0.length : Int) : Int) := ofd; obtain ⟨i019, hi019, _, hsz19, _⟩ := info_parts info3; have hroom19 : l0.length ≤ co16 := (Kd.R_reads' HO_0.out).2.1; have hC19 : Kd.C (Kd.int .i64) _ (some ad703) l0.length l0 := (Kd.R_reads' HO_0.out).2.2; have hcut19 := cut_to (P := Tryd.prog) 30 3 .i64 Tryd.underlying30 hi019 (some ad703) l0.length co16 x5_1 (ofd) q19 hroom19; have hr19 := Kd.C_take (m := (x5_1 : Int).toNat) hC19 (by omega); have hy19 : y708.length = (x5_1 : Int).toNat := (by rw [Ny708.out, List.length_take]; omega); rw [← Ny708.out] at hr19; rw [← hy19] at hcut19; have HR711 := mkA hr19; have HC711 := mkA (show y708.length ≤ co16 from by omega); clear hr19 hC19 hroom19 hi019 hsz19; have KY19 := mkA hy19; clear hy19; have KL19 := mkA (show (x5_1 : Int).toNat ≤ l0.length from by omega); replace q19 := eq_true q19) | ((with_reducible refine gate_builtin (b := .append) (xs := #[.tmp 34, .tmp 37]) rfl ?_); at_builtin; refine Kd.R_append_rows (Kd.int .i64) (w0 := w0) w0.heap.size rfl (.tmp 34) (.tmp 37) 30 3 (.int .i64 0) 8 rfl Tryd.underlying30 info3 rfl (by decide) (by omega) v706 y705 y708 _ _ _ (fun k_ => (P0_ k_ ∨ w.heap.size ≤ k_) ∧ some k_ ≠ (.slice (some ad703) l0.length co16 : Value).ownBlock) (fun _ => False) rfl rfl ?aO ?aR (fun _ _ h => h) (fun _ h => h.elim) ?aF ?aB ?aS ?aL ?_; (case aR => exact C_h HR711); (case aB => exact (bel_g HB.out)); (case aF => exact (fun k_ hk => ⟨(.inr (Nat.le_trans (by first | exact HK.out.1 | exact (show Kept w _ (fun k_ => P0_ k_) from by repeat (first | (with_reducible first | exact HK.out | apply Kept.alloc | apply Kept.drewN | apply Kept.drew) | exact HK.out)).1) hk)), Kd.fresh' (Kd.R_lt (Kd.R_g HO_0.out)) k_ hk⟩)); (case aO => exact (Kd.R_g (Kd.R_mono HO707.out (fun _ hk => ⟨hk.1.1, hk.2⟩)))); (case aS => exact (below_size (bel_g HB.out))); (case aL => have := LMc11.out; omega); intro v713 w20 ho hb hg hat; rw [← Ny712.out] at ho; replace HK := mkA (Kept.of_grown (S := (fun k_ => P0_ k_)) hg (by repeat (first | (with_reducible first | exact HK.out | apply Kept.alloc | apply Kept.drewN | apply Kept.drew) | exact HK.out)) (fun k_ e_ => (HO707.out.1 k_ e_).1.1)); replace HR711 := mkA ((show Kd.C (Kd.int .i64) w20 (some ad703) y708.length y708 from by rw [Ny708.out]; exact Kd.C_take (m := (x5_1 : Int).toNat) ((Kd.R_reads' (Kd.R_after (ok := (fun k_ => (P0_ k_ ∨ w.heap.size ≤ k_))) (Kd.R_g HO_0.out) hg hat)).2.2) KL19.out)); replace HO_0 := mkA (Kd.R_after (ok := (fun k_ => (P0_ k_ ∨ w.heap.size ≤ k_))) (Kd.R_g HO_0.out) hg hat); have HO714 := mkA (ho); replace HB := mkA (hb); clear HO707; clear ho hb hg hat) | ((with_reducible refine gate_builtin (b := .append) (xs := #[.tmp 39, .tmp 41]) rfl ?_); at_builtin; refine Kd.R_append (Kd.int .i64) (w0 := w0) w0.heap.size rfl (.tmp 39) (.tmp 41) 30 3 (.int .i64 0) 8 rfl Tryd.underlying30 info3 rfl (by decide) (by omega) v713 y712 a1 [.int .i64 a1] (fun k_ => (P0_ k_ ∨ w.heap.size ≤ k_) ∧ some k_ ≠ (.slice (some ad703) l0.length co16 : Value).ownBlock) (fun _ => False) rfl rfl ?aP (fun _ hk => hk.elim) ?aF ?aO ?aB ?aS ?aL ?_; (case aP => exact rfl); (case aB => exact (bel_g HB.out)); (case aF => exact (fun k_ hk => ⟨(.inr (Nat.le_trans (by first | exact HK.out.1 | exact (show Kept w _ (fun k_ => P0_ k_) from by repeat (first | (with_reducible first | exact HK.out | apply Kept.alloc | apply Kept.drewN | apply Kept.drew) | exact HK.out)).1) hk)), Kd.fresh' (Kd.R_lt (Kd.R_g HO_0.out)) k_ hk⟩)); (case aO => exact (Kd.R_g HO714.out)); (case aS => exact (below_size (bel_g HB.out))); (case aL => have := LMc12.out; omega); intro v716 w21 ho hb hg hat; rw [← Ny715.out] at ho; replace HK := mkA (Kept.of_grown (S := (fun k_ => P0_ k_)) hg (by repeat (first | (with_reducible first | exact HK.out | apply Kept.alloc | apply Kept.drewN | apply Kept.drew) | exact HK.out)) (fun k_ e_ => (HO714.out.1 k_ e_).1)); replace HR711 := mkA ((show Kd.C (Kd.int .i64) w21 (some ad703) y708.length y708 from by rw [Ny708.out]; exact Kd.C_take (m := (x5_1 : Int).toNat) ((Kd.R_reads' (Kd.R_after (ok := (fun k_ => (P0_ k_ ∨ w.heap.size ≤ k_))) (Kd.R_g HO_0.out) hg hat)).2.2) KL19.out)); replace HO_0 := mkA (Kd.R_after (ok := (fun k_ => (P0_ k_ ∨ w.heap.size ≤ k_))) (Kd.R_g HO_0.out) hg hat); have HO717 := mkA (ho); replace HB := mkA (hb); clear HO714; clear ho hb hg hat; have q22 : (x5_1 : Int) ≤ ((l0.length : Int) : Int) := ofd; obtain ⟨i022, hi022, _, hsz22, _⟩ := info_parts info3; have hroom22 : l0.length ≤ co16 := (Kd.R_reads' HO_0.out).2.1; have hC22 : Kd.C (Kd.int .i64) _ (some ad703) l0.length l0 := (Kd.R_reads' HO_0.out).2.2; have q022 : (0 : Int) ≤ (x5_1 : Int) := ofd; have hcut22 := cut_from (P := Tryd.prog) 30 3 .i64 Tryd.underlying30 hi022 1 hsz22 (some ad703) l0.length co16 x5_1 q022 q22; have hr22 := Kd.C_drop (m := (x5_1 : Int).toNat) (c := co16) hC22 (by omega) hroom22; obtain ⟨A22, hA22⟩ : ∃ A1, A1 = (if co16 = (x5_1 : Int).toNat then (some ad703) else ((some ad703) : Option Addr).map (·.add ((x5_1 : Int).toNat * 1))) := ⟨_, rfl⟩; obtain ⟨c22, hc22⟩ : ∃ c1, c1 = co16 - (x5_1 : Int).toNat := ⟨_, rfl⟩; have hy22 : y718.length = l0.length - (x5_1 : Int).toNat := (by rw [Ny718.out, List.length_drop] <;> omega); rw [show (l0).drop (x5_1 : Int).toNat = y718 from Ny718.out.symm] at hr22; replace hr22 : Kd.C (Kd.int .i64) _ A22 y718.length y718 := (by rw [hA22]; exact hr22); rw [← hy22, ← hA22, ← hc22] at hcut22; have HR721 := mkA hr22; have HC721 := mkA (show y718.length ≤ c22 from by rw [hy22, hc22]; exact Nat.sub_le_sub_right hroom22 _); clear hr22 hC22 hroom22 hi022 hsz22 hc22; have KY22 := mkA hy22; have KA22 := mkA hA22; clear hy22 hA22; have KL22 := mkA (show (x5_1 : Int).toNat ≤ l0.length from by omega); replace q22 := eq_true q22) | ((with_reducible refine gate_builtin (b := .append) (xs := #[.tmp 43, .tmp 46]) rfl ?_); at_builtin; refine Kd.R_append_rows (Kd.int .i64) (w0 := w0) w0.heap.size rfl (.tmp 43) (.tmp 46) 30 3 (.int .i64 0) 8 rfl Tryd.underlying30 info3 rfl (by decide) (by omega) v716 y715 y718 _ _ _ (fun k_ => (P0_ k_ ∨ w.heap.size ≤ k_) ∧ some k_ ≠ (.slice (some ad703) l0.length co16 : Value).ownBlock) (fun _ => False) rfl rfl ?aO ?aR (fun _ _ h => h) (fun _ h => h.elim) ?aF ?aB ?aS ?aL ?_; (case aR => exact C_h HR721); (case aB => exact (bel_g HB.out)); (case aF => exact (fun k_ hk => ⟨(.inr (Nat.le_trans (by first | exact HK.out.1 | exact (show Kept w _ (fun k_ => P0_ k_) from by repeat (first | (with_reducible first | exact HK.out | apply Kept.alloc | apply Kept.drewN | apply Kept.drew) | exact HK.out)).1) hk)), Kd.fresh' (Kd.R_lt (Kd.R_g HO_0.out)) k_ hk⟩)); (case aO => exact (Kd.R_g HO717.out)); (case aS => exact (below_size (bel_g HB.out))); (case aL => have := LMc15.out; omega); intro v723 w23 ho hb hg hat; rw [← Ny722.out] at ho; replace HK := mkA (Kept.of_grown (S := (fun k_ => P0_ k_)) hg (by repeat (first | (with_reducible first | exact HK.out | apply Kept.alloc | apply Kept.drewN | apply Kept.drew) | exact HK.out)) (fun k_ e_ => (HO717.out.1 k_ e_).1)); replace HR711 := mkA ((show Kd.C (Kd.int .i64) w23 (some ad703) y708.length y708 from by rw [Ny708.out]; exact Kd.C_take (m := (x5_1 : Int).toNat) ((Kd.R_reads' (Kd.R_after (ok := (fun k_ => (P0_ k_ ∨ w.heap.size ≤ k_))) (Kd.R_g HO_0.out) hg hat)).2.2) KL19.out)); replace HR721 := mkA ((show Kd.C (Kd.int .i64) w23 A22 y718.length y718 from by rw [Ny718.out, KA22.out]; exact Kd.C_drop (m := (x5_1 : Int).toNat) (c := co16) ((Kd.R_reads' (Kd.R_after (ok := (fun k_ => (P0_ k_ ∨ w.heap.size ≤ k_))) (Kd.R_g HO_0.out) hg hat)).2.2) KL22.out ((Kd.R_reads' (Kd.R_after (ok := (fun k_ => (P0_ k_ ∨ w.heap.size ≤ k_))) (Kd.R_g HO_0.out) hg hat)).2.1))); replace HO_0 := mkA (Kd.R_after (ok := (fun k_ => (P0_ k_ ∨ w.heap.size ≤ k_))) (Kd.R_g HO_0.out) hg hat); have HO724 := mkA (ho); replace HB := mkA (hb); clear HO717; clear ho hb hg hat))
      go_ret
      exact ⟨_, eqE, Kd.R_g (Kd.R_mono HO724.out (fun _ hk => hk.1)), bel_g HB.out, by repeat (first | (with_reducible first | exact HK.out | apply Kept.alloc | apply Kept.drewN | apply Kept.drew) | exact HK.out)⟩
   ·obtain ⟨y725, Ny725, H⟩ := nmE H
    obtain ⟨c24b0, c24b1, H⟩ := itNQ H
    obtain ⟨c25b0, c25b1, H⟩ := itNQ H
    obtain ⟨y728, Ny728, H⟩ := nmE H
    obtain ⟨c26, H⟩ := itNP H
    have LMc26 := mkA c26
    clear c26
    obtain ⟨y732, Ny732, H⟩ := nmE H
    obtain ⟨c27, H⟩ := itNP H
    have LMc27 := mkA c27
    clear c27
    obtain ⟨y735, Ny735, H⟩ := nmE H
    have c28b0 := eq_true (ofd : 0 ≤ x5_1)
    have c29b0 := eq_true (ofd : x5_1 ≤ (l0.length : Int))
    obtain ⟨y738, Ny738, H⟩ := nmE H
    obtain ⟨c30, H⟩ := itNP H
    have LMc30 := mkA c30
    clear c30
    obtain ⟨y742, hy742⟩ : ∃ y_ : List Int, y_ = (y735 ++ y738) := ⟨_, rfl⟩
    rw [← hy742] at H
    have Ny742 := mkA hy742
    clear hy742
    obtain rfl := Option.some.inj H
    obtain ⟨Ao31, co31, rfl⟩ := Kd.R_slice HO_0.out
    go_wp2_with (first | ((with_reducible refine gate_dst (N := 34) rfl ?_); refine litE (Kd.int .i64) 3 ([] : List Int) [] ?hp ?_; (case hp => exact (Reps.none _ _)); intro v726 w32 ho33 hb hg_ hnew_; clear hg_ hnew_; (first | rw [← Ny725.out] at ho33 | (simp only [Int.reduceToNat] at ho33; rw [← Ny725.out] at ho33)); have HO727 := rLo (rN (Kd.R_newM (M := fun k_ => (P0_ k_ ∨ w.heap.size ≤ k_)) ho33 (by first | exact HK.out.1 | exact (show Kept w _ (fun k_ => P0_ k_) from by repeat (first | (with_reducible first | exact HK.out | apply Kept.alloc | apply Kept.drewN | apply Kept.drew) | exact HK.out)).1) (fun k_ h_ => .inr h_)) HO_0) HB; replace HO_0 := rE HO_0 ho33 hb; replace HK := mkA (Kept.below (S := (fun k_ => P0_ k_)) (by repeat (first | (with_reducible first | exact HK.out | apply Kept.alloc | apply Kept.drewN | apply Kept.drew) | exact HK.out)) hb); replace HB := bst HB hb; clear hb ho33; have q34 : (x5_1 : Int) ≤ ((l0.length : Int) : Int) := ofd; obtain ⟨i034, hi034, _, hsz34, _⟩ := info_parts info3; have hroom34 : l0.length ≤ co31 := (Kd.R_reads' HO_0.out).2.1; have hC34 : Kd.C (Kd.int .i64) _ Ao31 l0.length l0 := (Kd.R_reads' HO_0.out).2.2; have hcut34 := cut_to (P := Tryd.prog) 30 3 .i64 Tryd.underlying30 hi034 Ao31 l0.length co31 x5_1 (ofd) q34 hroom34; have hr34 := Kd.C_take (m := (x5_1 : Int).toNat) hC34 (by omega); have hy34 : y728.length = (x5_1 : Int).toNat := (by rw [Ny728.out, List.length_take]; omega); rw [← Ny728.out] at hr34; rw [← hy34] at hcut34; have HR731 := mkA hr34; have HC731 := mkA (show y728.length ≤ co31 from by omega); clear hr34 hC34 hroom34 hi034 hsz34; have KY34 := mkA hy34; clear hy34; have KL34 := mkA (show (x5_1 : Int).toNat ≤ l0.length from by omega); replace q34 := eq_true q34) | ((with_reducible refine gate_builtin (b := .append) (xs := #[.tmp 34, .tmp 37]) rfl ?_); at_builtin; refine Kd.R_append_rows (Kd.int .i64) (w0 := w0) w0.heap.size rfl (.tmp 34) (.tmp 37) 30 3 (.int .i64 0) 8 rfl Tryd.underlying30 info3 rfl (by decide) (by omega) v726 y725 y728 _ _ _ (fun k_ => (P0_ k_ ∨ w.heap.size ≤ k_) ∧ some k_ ≠ (.slice Ao31 l0.length co31 : Value).ownBlock) (fun _ => False) rfl rfl ?aO ?aR (fun _ _ h => h) (fun _ h => h.elim) ?aF ?aB ?aS ?aL ?_; (case aR => exact C_h HR731); (case aB => exact (bel_g HB.out)); (case aF => exact (fun k_ hk => ⟨(.inr (Nat.le_trans (by first | exact HK.out.1 | exact (show Kept w _ (fun k_ => P0_ k_) from by repeat (first | (with_reducible first | exact HK.out | apply Kept.alloc | apply Kept.drewN | apply Kept.drew) | exact HK.out)).1) hk)), Kd.fresh' (Kd.R_lt (Kd.R_g HO_0.out)) k_ hk⟩)); (case aO => exact (Kd.R_g (Kd.R_mono HO727.out (fun _ hk => ⟨hk.1.1, hk.2⟩)))); (case aS => exact (below_size (bel_g HB.out))); (case aL => have := LMc26.out; omega); intro v733 w35 ho hb hg hat; rw [← Ny732.out] at ho; replace HK := mkA (Kept.of_grown (S := (fun k_ => P0_ k_)) hg (by repeat (first | (with_reducible first | exact HK.out | apply Kept.alloc | apply Kept.drewN | apply Kept.drew) | exact HK.out)) (fun k_ e_ => (HO727.out.1 k_ e_).1.1)); replace HR731 := mkA ((show Kd.C (Kd.int .i64) w35 Ao31 y728.length y728 from by rw [Ny728.out]; exact Kd.C_take (m := (x5_1 : Int).toNat) ((Kd.R_reads' (Kd.R_after (ok := (fun k_ => (P0_ k_ ∨ w.heap.size ≤ k_))) (Kd.R_g HO_0.out) hg hat)).2.2) KL34.out)); replace HO_0 := mkA (Kd.R_after (ok := (fun k_ => (P0_ k_ ∨ w.heap.size ≤ k_))) (Kd.R_g HO_0.out) hg hat); have HO734 := mkA (ho); replace HB := mkA (hb); clear HO727; clear ho hb hg hat) | ((with_reducible refine gate_builtin (b := .append) (xs := #[.tmp 39, .tmp 41]) rfl ?_); at_builtin; refine Kd.R_append (Kd.int .i64) (w0 := w0) w0.heap.size rfl (.tmp 39) (.tmp 41) 30 3 (.int .i64 0) 8 rfl Tryd.underlying30 info3 rfl (by decide) (by omega) v733 y732 a1 [.int .i64 a1] (fun k_ => (P0_ k_ ∨ w.heap.size ≤ k_) ∧ some k_ ≠ (.slice Ao31 l0.length co31 : Value).ownBlock) (fun _ => False) rfl rfl ?aP (fun _ hk => hk.elim) ?aF ?aO ?aB ?aS ?aL ?_; (case aP => exact rfl); (case aB => exact (bel_g HB.out)); (case aF => exact (fun k_ hk => ⟨(.inr (Nat.le_trans (by first | exact HK.out.1 | exact (show Kept w _ (fun k_ => P0_ k_) from by repeat (first | (with_reducible first | exact HK.out | apply Kept.alloc | apply Kept.drewN | apply Kept.drew) | exact HK.out)).1) hk)), Kd.fresh' (Kd.R_lt (Kd.R_g HO_0.out)) k_ hk⟩)); (case aO => exact (Kd.R_g HO734.out)); (case aS => exact (below_size (bel_g HB.out))); (case aL => have := LMc27.out; omega); intro v736 w36 ho hb hg hat; rw [← Ny735.out] at ho; replace HK := mkA (Kept.of_grown (S := (fun k_ => P0_ k_)) hg (by repeat (first | (with_reducible first | exact HK.out | apply Kept.alloc | apply Kept.drewN | apply Kept.drew) | exact HK.out)) (fun k_ e_ => (HO734.out.1 k_ e_).1)); replace HR731 := mkA ((show Kd.C (Kd.int .i64) w36 Ao31 y728.length y728 from by rw [Ny728.out]; exact Kd.C_take (m := (x5_1 : Int).toNat) ((Kd.R_reads' (Kd.R_after (ok := (fun k_ => (P0_ k_ ∨ w.heap.size ≤ k_))) (Kd.R_g HO_0.out) hg hat)).2.2) KL34.out)); replace HO_0 := mkA (Kd.R_after (ok := (fun k_ => (P0_ k_ ∨ w.heap.size ≤ k_))) (Kd.R_g HO_0.out) hg hat); have HO737 := mkA (ho); replace HB := mkA (hb); clear HO734; clear ho hb hg hat; have q37 : (x5_1 : Int) ≤ ((l0.length : Int) : Int) := ofd; obtain ⟨i037, hi037, _, hsz37, _⟩ := info_parts info3; have hroom37 : l0.length ≤ co31 := (Kd.R_reads' HO_0.out).2.1; have hC37 : Kd.C (Kd.int .i64) _ Ao31 l0.length l0 := (Kd.R_reads' HO_0.out).2.2; have q037 : (0 : Int) ≤ (x5_1 : Int) := ofd; have hcut37 := cut_from (P := Tryd.prog) 30 3 .i64 Tryd.underlying30 hi037 1 hsz37 Ao31 l0.length co31 x5_1 q037 q37; have hr37 := Kd.C_drop (m := (x5_1 : Int).toNat) (c := co31) hC37 (by omega) hroom37; obtain ⟨A37, hA37⟩ : ∃ A1, A1 = (if co31 = (x5_1 : Int).toNat then Ao31 else (Ao31 : Option Addr).map (·.add ((x5_1 : Int).toNat * 1))) := ⟨_, rfl⟩; obtain ⟨c37, hc37⟩ : ∃ c1, c1 = co31 - (x5_1 : Int).toNat := ⟨_, rfl⟩; have hy37 : y738.length = l0.length - (x5_1 : Int).toNat := (by rw [Ny738.out, List.length_drop] <;> omega); rw [show (l0).drop (x5_1 : Int).toNat = y738 from Ny738.out.symm] at hr37; replace hr37 : Kd.C (Kd.int .i64) _ A37 y738.length y738 := (by rw [hA37]; exact hr37); rw [← hy37, ← hA37, ← hc37] at hcut37; have HR741 := mkA hr37; have HC741 := mkA (show y738.length ≤ c37 from by rw [hy37, hc37]; exact Nat.sub_le_sub_right hroom37 _); clear hr37 hC37 hroom37 hi037 hsz37 hc37; have KY37 := mkA hy37; have KA37 := mkA hA37; clear hy37 hA37; have KL37 := mkA (show (x5_1 : Int).toNat ≤ l0.length from by omega); replace q37 := eq_true q37) | ((with_reducible refine gate_builtin (b := .append) (xs := #[.tmp 43, .tmp 46]) rfl ?_); at_builtin; refine Kd.R_append_rows (Kd.int .i64) (w0 := w0) w0.heap.size rfl (.tmp 43) (.tmp 46) 30 3 (.int .i64 0) 8 rfl Tryd.underlying30 info3 rfl (by decide) (by omega) v736 y735 y738 _ _ _ (fun k_ => (P0_ k_ ∨ w.heap.size ≤ k_) ∧ some k_ ≠ (.slice Ao31 l0.length co31 : Value).ownBlock) (fun _ => False) rfl rfl ?aO ?aR (fun _ _ h => h) (fun _ h => h.elim) ?aF ?aB ?aS ?aL ?_; (case aR => exact C_h HR741); (case aB => exact (bel_g HB.out)); (case aF => exact (fun k_ hk => ⟨(.inr (Nat.le_trans (by first | exact HK.out.1 | exact (show Kept w _ (fun k_ => P0_ k_) from by repeat (first | (with_reducible first | exact HK.out | apply Kept.alloc | apply Kept.drewN | apply Kept.drew) | exact HK.out)).1) hk)), Kd.fresh' (Kd.R_lt (Kd.R_g HO_0.out)) k_ hk⟩)); (case aO => exact (Kd.R_g HO737.out)); (case aS => exact (below_size (bel_g HB.out))); (case aL => have := LMc30.out; omega); intro v743 w38 ho hb hg hat; rw [← Ny742.out] at ho; replace HK := mkA (Kept.of_grown (S := (fun k_ => P0_ k_)) hg (by repeat (first | (with_reducible first | exact HK.out | apply Kept.alloc | apply Kept.drewN | apply Kept.drew) | exact HK.out)) (fun k_ e_ => (HO737.out.1 k_ e_).1)); replace HR731 := mkA ((show Kd.C (Kd.int .i64) w38 Ao31 y728.length y728 from by rw [Ny728.out]; exact Kd.C_take (m := (x5_1 : Int).toNat) ((Kd.R_reads' (Kd.R_after (ok := (fun k_ => (P0_ k_ ∨ w.heap.size ≤ k_))) (Kd.R_g HO_0.out) hg hat)).2.2) KL34.out)); replace HR741 := mkA ((show Kd.C (Kd.int .i64) w38 A37 y738.length y738 from by rw [Ny738.out, KA37.out]; exact Kd.C_drop (m := (x5_1 : Int).toNat) (c := co31) ((Kd.R_reads' (Kd.R_after (ok := (fun k_ => (P0_ k_ ∨ w.heap.size ≤ k_))) (Kd.R_g HO_0.out) hg hat)).2.2) KL37.out ((Kd.R_reads' (Kd.R_after (ok := (fun k_ => (P0_ k_ ∨ w.heap.size ≤ k_))) (Kd.R_g HO_0.out) hg hat)).2.1))); replace HO_0 := mkA (Kd.R_after (ok := (fun k_ => (P0_ k_ ∨ w.heap.size ≤ k_))) (Kd.R_g HO_0.out) hg hat); have HO744 := mkA (ho); replace HB := mkA (hb); clear HO737; clear ho hb hg hat))
    go_ret
    exact ⟨_, eqE, Kd.R_g (Kd.R_mono HO744.out (fun _ hk => hk.1)), bel_g HB.out, by repeat (first | (with_reducible first | exact HK.out | apply Kept.alloc | apply Kept.drewN | apply Kept.drew) | exact HK.out)⟩
end Go.Proofs.YtlfjnllnddpgoaaDoor.Q
