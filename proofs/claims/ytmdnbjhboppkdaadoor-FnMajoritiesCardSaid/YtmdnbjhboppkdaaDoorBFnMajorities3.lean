import Derived.Test.YtmdnbjhboppkdaaDoorBFnMajorities0
namespace Go.Proofs.YtmdnbjhboppkdaaDoor.Q
open Go.RowKit Go.Proofs.YtmdnbjhboppkdaaDoorW.PrintWords Go.Proofs.YtmdnbjhboppkdaaDoorW.PrintLast Go.Proofs.YtmdnbjhboppkdaaDoorW.PrintMore
attribute [local go_sem] max2_int min2_int max_two min_two max_three min_three max_four min_four neB_f
set_option linter.unusedVariables false
set_option maxHeartbeats 8000000
set_option maxRecDepth 100000
set_option linter.unusedSimpArgs false
def spec_l1Put.l0 : Nat → List Int → Int → Int → Option (List Int)
 | 0, _, _, _ => none
 | k + 1, x0, x1, x5 => if x5 < (x0.length : Int) then (if 0 ≤ x5 then (if (rd x0 x5) < x1 then (spec_l1Put.l0 k x0 x1 (wrap64 (x5 + 1))) else (if (rd x0 x5) = x1 then (some x0) else ((some (([] : List Int) : List Int)).bind fun y129 => (if x5 ≤ (x0.length : Int) then ((some (x0.take (x5 : Int).toNat : List Int)).bind fun y132 => (if y129.length + y132.length < 17592186044416 then ((some (y129 ++ y132 : List Int)).bind fun y136 => (if y136.length < 17592186044416 then ((some (y136 ++ [x1] : List Int)).bind fun y139 => ((some (x0.drop (x5 : Int).toNat : List Int)).bind fun y142 => (if y139.length + y142.length < 17592186044416 then (some (y139 ++ y142)) else (none)))) else (none))) else (none))) else (none))))) else (none)) else ((some (([] : List Int) : List Int)).bind fun y149 => (if 0 ≤ x5 then (if x5 ≤ (x0.length : Int) then ((some (x0.take (x5 : Int).toNat : List Int)).bind fun y152 => (if y149.length + y152.length < 17592186044416 then ((some (y149 ++ y152 : List Int)).bind fun y156 => (if y156.length < 17592186044416 then ((some (y156 ++ [x1] : List Int)).bind fun y159 => ((some (x0.drop (x5 : Int).toNat : List Int)).bind fun y162 => (if y159.length + y162.length < 17592186044416 then (some (y159 ++ y162)) else (none)))) else (none))) else (none))) else (none)) else (none)))
def spec_l1Put.f (k : Nat) (l0 : List Int) (a1 : Int) : Option (List Int) := spec_l1Put.l0 k l0 a1 0
theorem spec_l1Put.mono_l : ∀ k, (∀ y0 y1 y2, LeO (spec_l1Put.l0 k y0 y1 y2) (spec_l1Put.l0 (k + 1) y0 y1 y2))
 | 0 => fun _ _ _ r h => by simp [spec_l1Put.l0] at h
 | k + 1 => by
  have ih0 := spec_l1Put.mono_l k
  ·intro y0 y1 y2
   unfold spec_l1Put.l0
   repeat' (with_reducible first|apply ih0|apply LeO.refl|apply LeO.none|apply LeO.ite|apply LeO.bind|intro)
theorem spec_l1Put.mono : ∀ a0 a1 k, LeO (spec_l1Put.f k a0 a1) (spec_l1Put.f (k + 1) a0 a1) := by
 intro a0 a1 k
 have ih0 := spec_l1Put.mono_l k
 unfold spec_l1Put.f
 repeat' (with_reducible first|apply ih0|apply LeO.refl|apply LeO.none|apply LeO.ite|apply LeO.bind|intro)
theorem spec_l1Put.calls (k : Nat) (P0_ : Nat → Prop) (u9000_ : Value) (l0 : List Int) (a1 : Int) (r : List Int) (w0 w : World) (hB : Below w0.heap.size w0 w) (ho0 : Kd.R (Kd.int .i64) 3 w w0.heap.size P0_ u9000_ l0) (h : spec_l1Put.f k l0 a1 = some r) :
  Calls Tryd.prog 47 #[u9000_, .int .i64 a1] w fun e w' => ∃ v0_ : Value, e = .returned (v0_) ∧ Kd.R (Kd.int .i64) 3 w' w0.heap.size (fun k_ => (P0_ k_ ∨ w.heap.size ≤ k_)) v0_ r ∧ Below w0.heap.size w0 w' ∧ Kept w w' (fun k_ => P0_ k_) := by
 have HO0 := mkA (show Kd.R (Kd.int .i64) 3 w w0.heap.size (fun k_ => (P0_ k_ ∨ w.heap.size ≤ k_)) u9000_ l0 from Kd.R_mono ho0 (fun k_ hk => (.inl hk)))
 have HK := mkA (Kept.refl w (fun k_ => P0_ k_))
 have HW0 := mkA hB.size
 have HB := mkA hB
 clear hB
 have H := h
 clear h
 unfold spec_l1Put.f at H
 have H' := mkA H
 clear H
 go_enter Tryd.func47, Tryd.ntmps47
 go_wp2
 go_loopg [5] k (fun kq v5 w' => ∃ (x5_1 : Int), v5 = .int .i64 x5_1 ∧ Fc (spec_l1Put.l0 kq l0 a1 x5_1 = some r) ∧ Fc (kq ≤ k) ∧ Fc (Kd.R (Kd.int .i64) 3 w' w0.heap.size (fun k_ => (P0_ k_ ∨ w.heap.size ≤ k_)) u9000_ l0) ∧ Fc (Kept w w' (fun k_ => P0_ k_)) ∧ Fc (Below w0.heap.size w0 w'))
 case atStart => exact ⟨(0), eqS, H', ⟨Nat.le_refl _⟩, rg HO0, ⟨by repeat (first | (with_reducible first | exact HK.out | apply Kept.alloc | apply Kept.drewN | apply Kept.drew) | exact HK.out)⟩, hbg HB⟩
 case round =>
  clear H'
  obtain ⟨x5_1, rfl, HA, HK1, HO_0, HK, HB⟩ := hrel
  cases gk with
  | zero => exact absurd HA.out (by simp [spec_l1Put.l0])
  | succ k1 =>
   have H := HA.out
   clear HA
   simp only [spec_l1Put.l0] at H
   rcases iteE H with ⟨c3b0, H⟩ | ⟨c3b0, H⟩
   ·obtain ⟨c4b0, H⟩ := itND H
    rcases iteE H with ⟨c5b0, H⟩ | ⟨c5b0, H⟩
    ·have H' := mkA H
     clear H
     obtain ⟨Ao6, co6, rfl⟩ := Kd.R_slice HO_0.out
     obtain ⟨p127, q127, ad127, e127, hx127_0⟩ := atI (Kd.R_reads' HO_0.out).2.2 x5_1
     cases e127
     go_wp2
     go_roundg k1
     case measure => have := HK1.out; omega
     case rel => exact ⟨(wrap64 (x5_1 + 1)), eqS, H', ⟨by have := HK1.out; omega⟩, rg HO_0, ⟨by repeat (first | (with_reducible first | exact HK.out | apply Kept.alloc | apply Kept.drewN | apply Kept.drew) | exact HK.out)⟩, hbg HB⟩
    ·rcases iteP H with ⟨c7, H⟩ | ⟨c7, H⟩
     ·have c7b0 := beq_iff_eq.mpr c7
      have c7b1 := bne_eq_false_iff_eq.mpr c7
      clear c7
      obtain rfl := Option.some.inj H
      obtain ⟨Ao8, co8, rfl⟩ := Kd.R_slice HO_0.out
      obtain ⟨p127, q127, ad127, e127, hx127_0⟩ := atI (Kd.R_reads' HO_0.out).2.2 x5_1
      cases e127
      obtain ⟨p128, q128, ad128, e128, hx128_0⟩ := atI (Kd.R_reads' HO_0.out).2.2 x5_1
      obtain rfl : ad127 = ad128 := (by injection e128)
      go_wp2
      go_ret
      exact ⟨_, eqE, Kd.R_g HO_0.out, bel_g HB.out, by repeat (first | (with_reducible first | exact HK.out | apply Kept.alloc | apply Kept.drewN | apply Kept.drew) | exact HK.out)⟩
     ·have c7b0 := beq_eq_false_iff_ne.mpr c7
      have c7b1 := bne_iff_ne.mpr c7
      obtain ⟨y129, Ny129, H⟩ := nmE H
      have c9b0 := eq_true (ofd : 0 ≤ x5_1)
      obtain ⟨c10b0, c10b1, H⟩ := itNQ H
      obtain ⟨y132, Ny132, H⟩ := nmE H
      obtain ⟨c11, H⟩ := itNP H
      have LMc11 := mkA c11
      clear c11
      obtain ⟨y136, Ny136, H⟩ := nmE H
      obtain ⟨c12, H⟩ := itNP H
      have LMc12 := mkA c12
      clear c12
      obtain ⟨y139, Ny139, H⟩ := nmE H
      have c13b0 := eq_true (ofd : 0 ≤ x5_1)
      have c14b0 := eq_true (ofd : x5_1 ≤ (l0.length : Int))
      obtain ⟨y142, Ny142, H⟩ := nmE H
      obtain ⟨c15, H⟩ := itNP H
      have LMc15 := mkA c15
      clear c15
      obtain ⟨y146, hy146⟩ : ∃ y_ : List Int, y_ = (y139 ++ y142) := ⟨_, rfl⟩
      rw [← hy146] at H
      have Ny146 := mkA hy146
      clear hy146
      obtain rfl := Option.some.inj H
      obtain ⟨Ao16, co16, rfl⟩ := Kd.R_slice HO_0.out
      obtain ⟨p127, q127, ad127, e127, hx127_0⟩ := atI (Kd.R_reads' HO_0.out).2.2 x5_1
      cases e127
      obtain ⟨p128, q128, ad128, e128, hx128_0⟩ := atI (Kd.R_reads' HO_0.out).2.2 x5_1
      obtain rfl : ad127 = ad128 := (by injection e128)
      go_wp2_with (first | ((with_reducible refine gate_dst (N := 34) rfl ?_); refine litE (Kd.int .i64) 3 ([] : List Int) [] ?hp ?_; (case hp => exact (Reps.none _ _)); intro v130 w17 ho18 hb hg_ hnew_; clear hg_ hnew_; (first | rw [← Ny129.out] at ho18 | (simp only [Int.reduceToNat] at ho18; rw [← Ny129.out] at ho18)); have HO131 := rLo (rN (Kd.R_newM (M := fun k_ => (P0_ k_ ∨ w.heap.size ≤ k_)) ho18 (by first | exact HK.out.1 | exact (show Kept w _ (fun k_ => P0_ k_) from by repeat (first | (with_reducible first | exact HK.out | apply Kept.alloc | apply Kept.drewN | apply Kept.drew) | exact HK.out)).1) (fun k_ h_ => .inr h_)) HO_0) HB; replace HO_0 := rE HO_0 ho18 hb; replace HK := mkA (Kept.below (S := (fun k_ => P0_ k_)) (by repeat (first | (with_reducible first | exact HK.out | apply Kept.alloc | apply Kept.drewN | apply Kept.drew) | exact HK.out)) hb); replace HB := bst HB hb; clear hb ho18; have q19 : (x5_1 : Int) ≤ ((l0.length : Int) : Int) := ofd; obtain ⟨i019, hi019, _, hsz19, _⟩ := info_parts info3; have hroom19 : l0.length ≤ co16 := (Kd.R_reads' HO_0.out).2.1; have hC19 : Kd.C (Kd.int .i64) _ (some ad127) l0.length l0 := (Kd.R_reads' HO_0.out).2.2; have hcut19 := cut_to (P := Tryd.prog) 26 3 .i64 Tryd.underlying26 hi019 (some ad127) l0.length co16 x5_1 (ofd) q19 hroom19; have hr19 := Kd.C_take (m := (x5_1 : Int).toNat) hC19 (by omega); have hy19 : y132.length = (x5_1 : Int).toNat := (by rw [Ny132.out, List.length_take]; omega); rw [← Ny132.out] at hr19; rw [← hy19] at hcut19; have HR135 := mkA hr19; have HC135 := mkA (show y132.length ≤ co16 from by omega); clear hr19 hC19 hroom19 hi019 hsz19; have KY19 := mkA hy19; clear hy19; have KL19 := mkA (show (x5_1 : Int).toNat ≤ l0.length from by omega); replace q19 := eq_true q19) | ((with_reducible refine gate_builtin (b := .append) (xs := #[.tmp 34, .tmp 37]) rfl ?_); at_builtin; refine Kd.R_append_rows (Kd.int .i64) (w0 := w0) w0.heap.size rfl (.tmp 34) (.tmp 37) 26 3 (.int .i64 0) 8 rfl Tryd.underlying26 info3 rfl (by decide) (by omega) v130 y129 y132 _ _ _ (fun k_ => (P0_ k_ ∨ w.heap.size ≤ k_) ∧ some k_ ≠ (.slice (some ad127) l0.length co16 : Value).ownBlock) (fun _ => False) rfl rfl ?aO ?aR (fun _ _ h => h) (fun _ h => h.elim) ?aF ?aB ?aS ?aL ?_; (case aR => exact C_h HR135); (case aB => exact (bel_g HB.out)); (case aF => exact (fun k_ hk => ⟨(.inr (Nat.le_trans (by first | exact HK.out.1 | exact (show Kept w _ (fun k_ => P0_ k_) from by repeat (first | (with_reducible first | exact HK.out | apply Kept.alloc | apply Kept.drewN | apply Kept.drew) | exact HK.out)).1) hk)), Kd.fresh' (Kd.R_lt (Kd.R_g HO_0.out)) k_ hk⟩)); (case aO => exact (Kd.R_g (Kd.R_mono HO131.out (fun _ hk => ⟨hk.1.1, hk.2⟩)))); (case aS => exact (below_size (bel_g HB.out))); (case aL => have := LMc11.out; omega); intro v137 w20 ho hb hg hat; rw [← Ny136.out] at ho; replace HK := mkA (Kept.of_grown (S := (fun k_ => P0_ k_)) hg (by repeat (first | (with_reducible first | exact HK.out | apply Kept.alloc | apply Kept.drewN | apply Kept.drew) | exact HK.out)) (fun k_ e_ => (HO131.out.1 k_ e_).1.1)); replace HR135 := mkA ((show Kd.C (Kd.int .i64) w20 (some ad127) y132.length y132 from by rw [Ny132.out]; exact Kd.C_take (m := (x5_1 : Int).toNat) ((Kd.R_reads' (Kd.R_after (ok := (fun k_ => (P0_ k_ ∨ w.heap.size ≤ k_))) (Kd.R_g HO_0.out) hg hat)).2.2) KL19.out)); replace HO_0 := mkA (Kd.R_after (ok := (fun k_ => (P0_ k_ ∨ w.heap.size ≤ k_))) (Kd.R_g HO_0.out) hg hat); have HO138 := mkA (ho); replace HB := mkA (hb); clear HO131; clear ho hb hg hat) | ((with_reducible refine gate_builtin (b := .append) (xs := #[.tmp 39, .tmp 41]) rfl ?_); at_builtin; refine Kd.R_append (Kd.int .i64) (w0 := w0) w0.heap.size rfl (.tmp 39) (.tmp 41) 26 3 (.int .i64 0) 8 rfl Tryd.underlying26 info3 rfl (by decide) (by omega) v137 y136 a1 [.int .i64 a1] (fun k_ => (P0_ k_ ∨ w.heap.size ≤ k_) ∧ some k_ ≠ (.slice (some ad127) l0.length co16 : Value).ownBlock) (fun _ => False) rfl rfl ?aP (fun _ hk => hk.elim) ?aF ?aO ?aB ?aS ?aL ?_; (case aP => exact rfl); (case aB => exact (bel_g HB.out)); (case aF => exact (fun k_ hk => ⟨(.inr (Nat.le_trans (by first | exact HK.out.1 | exact (show Kept w _ (fun k_ => P0_ k_) from by repeat (first | (with_reducible first | exact HK.out | apply Kept.alloc | apply Kept.drewN | apply Kept.drew) | exact HK.out)).1) hk)), Kd.fresh' (Kd.R_lt (Kd.R_g HO_0.out)) k_ hk⟩)); (case aO => exact (Kd.R_g HO138.out)); (case aS => exact (below_size (bel_g HB.out))); (case aL => have := LMc12.out; omega); intro v140 w21 ho hb hg hat; rw [← Ny139.out] at ho; replace HK := mkA (Kept.of_grown (S := (fun k_ => P0_ k_)) hg (by repeat (first | (with_reducible first | exact HK.out | apply Kept.alloc | apply Kept.drewN | apply Kept.drew) | exact HK.out)) (fun k_ e_ => (HO138.out.1 k_ e_).1)); replace HR135 := mkA ((show Kd.C (Kd.int .i64) w21 (some ad127) y132.length y132 from by rw [Ny132.out]; exact Kd.C_take (m := (x5_1 : Int).toNat) ((Kd.R_reads' (Kd.R_after (ok := (fun k_ => (P0_ k_ ∨ w.heap.size ≤ k_))) (Kd.R_g HO_0.out) hg hat)).2.2) KL19.out)); replace HO_0 := mkA (Kd.R_after (ok := (fun k_ => (P0_ k_ ∨ w.heap.size ≤ k_))) (Kd.R_g HO_0.out) hg hat); have HO141 := mkA (ho); replace HB := mkA (hb); clear HO138; clear ho hb hg hat; have q22 : (x5_1 : Int) ≤ ((l0.length : Int) : Int) := ofd; obtain ⟨i022, hi022, _, hsz22, _⟩ := info_parts info3; have hroom22 : l0.length ≤ co16 := (Kd.R_reads' HO_0.out).2.1; have hC22 : Kd.C (Kd.int .i64) _ (some ad127) l0.length l0 := (Kd.R_reads' HO_0.out).2.2; have q022 : (0 : Int) ≤ (x5_1 : Int) := ofd; have hcut22 := cut_from (P := Tryd.prog) 26 3 .i64 Tryd.underlying26 hi022 1 hsz22 (some ad127) l0.length co16 x5_1 q022 q22; have hr22 := Kd.C_drop (m := (x5_1 : Int).toNat) (c := co16) hC22 (by omega) hroom22; obtain ⟨A22, hA22⟩ : ∃ A1, A1 = (if co16 = (x5_1 : Int).toNat then (some ad127) else ((some ad127) : Option Addr).map (·.add ((x5_1 : Int).toNat * 1))) := ⟨_, rfl⟩; obtain ⟨c22, hc22⟩ : ∃ c1, c1 = co16 - (x5_1 : Int).toNat := ⟨_, rfl⟩; have hy22 : y142.length = l0.length - (x5_1 : Int).toNat := (by rw [Ny142.out, List.length_drop] <;> omega); rw [show (l0).drop (x5_1 : Int).toNat = y142 from Ny142.out.symm] at hr22; replace hr22 : Kd.C (Kd.int .i64) _ A22 y142.length y142 := (by rw [hA22]; exact hr22); rw [← hy22, ← hA22, ← hc22] at hcut22; have HR145 := mkA hr22; have HC145 := mkA (show y142.length ≤ c22 from by rw [hy22, hc22]; exact Nat.sub_le_sub_right hroom22 _); clear hr22 hC22 hroom22 hi022 hsz22 hc22; have KY22 := mkA hy22; have KA22 := mkA hA22; clear hy22 hA22; have KL22 := mkA (show (x5_1 : Int).toNat ≤ l0.length from by omega); replace q22 := eq_true q22) | ((with_reducible refine gate_builtin (b := .append) (xs := #[.tmp 43, .tmp 46]) rfl ?_); at_builtin; refine Kd.R_append_rows (Kd.int .i64) (w0 := w0) w0.heap.size rfl (.tmp 43) (.tmp 46) 26 3 (.int .i64 0) 8 rfl Tryd.underlying26 info3 rfl (by decide) (by omega) v140 y139 y142 _ _ _ (fun k_ => (P0_ k_ ∨ w.heap.size ≤ k_) ∧ some k_ ≠ (.slice (some ad127) l0.length co16 : Value).ownBlock) (fun _ => False) rfl rfl ?aO ?aR (fun _ _ h => h) (fun _ h => h.elim) ?aF ?aB ?aS ?aL ?_; (case aR => exact C_h HR145); (case aB => exact (bel_g HB.out)); (case aF => exact (fun k_ hk => ⟨(.inr (Nat.le_trans (by first | exact HK.out.1 | exact (show Kept w _ (fun k_ => P0_ k_) from by repeat (first | (with_reducible first | exact HK.out | apply Kept.alloc | apply Kept.drewN | apply Kept.drew) | exact HK.out)).1) hk)), Kd.fresh' (Kd.R_lt (Kd.R_g HO_0.out)) k_ hk⟩)); (case aO => exact (Kd.R_g HO141.out)); (case aS => exact (below_size (bel_g HB.out))); (case aL => have := LMc15.out; omega); intro v147 w23 ho hb hg hat; rw [← Ny146.out] at ho; replace HK := mkA (Kept.of_grown (S := (fun k_ => P0_ k_)) hg (by repeat (first | (with_reducible first | exact HK.out | apply Kept.alloc | apply Kept.drewN | apply Kept.drew) | exact HK.out)) (fun k_ e_ => (HO141.out.1 k_ e_).1)); replace HR135 := mkA ((show Kd.C (Kd.int .i64) w23 (some ad127) y132.length y132 from by rw [Ny132.out]; exact Kd.C_take (m := (x5_1 : Int).toNat) ((Kd.R_reads' (Kd.R_after (ok := (fun k_ => (P0_ k_ ∨ w.heap.size ≤ k_))) (Kd.R_g HO_0.out) hg hat)).2.2) KL19.out)); replace HR145 := mkA ((show Kd.C (Kd.int .i64) w23 A22 y142.length y142 from by rw [Ny142.out, KA22.out]; exact Kd.C_drop (m := (x5_1 : Int).toNat) (c := co16) ((Kd.R_reads' (Kd.R_after (ok := (fun k_ => (P0_ k_ ∨ w.heap.size ≤ k_))) (Kd.R_g HO_0.out) hg hat)).2.2) KL22.out ((Kd.R_reads' (Kd.R_after (ok := (fun k_ => (P0_ k_ ∨ w.heap.size ≤ k_))) (Kd.R_g HO_0.out) hg hat)).2.1))); replace HO_0 := mkA (Kd.R_after (ok := (fun k_ => (P0_ k_ ∨ w.heap.size ≤ k_))) (Kd.R_g HO_0.out) hg hat); have HO148 := mkA (ho); replace HB := mkA (hb); clear HO141; clear ho hb hg hat))
      go_ret
      exact ⟨_, eqE, Kd.R_g (Kd.R_mono HO148.out (fun _ hk => hk.1)), bel_g HB.out, by repeat (first | (with_reducible first | exact HK.out | apply Kept.alloc | apply Kept.drewN | apply Kept.drew) | exact HK.out)⟩
   ·obtain ⟨y149, Ny149, H⟩ := nmE H
    obtain ⟨c24b0, c24b1, H⟩ := itNQ H
    obtain ⟨c25b0, c25b1, H⟩ := itNQ H
    obtain ⟨y152, Ny152, H⟩ := nmE H
    obtain ⟨c26, H⟩ := itNP H
    have LMc26 := mkA c26
    clear c26
    obtain ⟨y156, Ny156, H⟩ := nmE H
    obtain ⟨c27, H⟩ := itNP H
    have LMc27 := mkA c27
    clear c27
    obtain ⟨y159, Ny159, H⟩ := nmE H
    have c28b0 := eq_true (ofd : 0 ≤ x5_1)
    have c29b0 := eq_true (ofd : x5_1 ≤ (l0.length : Int))
    obtain ⟨y162, Ny162, H⟩ := nmE H
    obtain ⟨c30, H⟩ := itNP H
    have LMc30 := mkA c30
    clear c30
    obtain ⟨y166, hy166⟩ : ∃ y_ : List Int, y_ = (y159 ++ y162) := ⟨_, rfl⟩
    rw [← hy166] at H
    have Ny166 := mkA hy166
    clear hy166
    obtain rfl := Option.some.inj H
    obtain ⟨Ao31, co31, rfl⟩ := Kd.R_slice HO_0.out
    go_wp2_with (first | ((with_reducible refine gate_dst (N := 34) rfl ?_); refine litE (Kd.int .i64) 3 ([] : List Int) [] ?hp ?_; (case hp => exact (Reps.none _ _)); intro v150 w32 ho33 hb hg_ hnew_; clear hg_ hnew_; (first | rw [← Ny149.out] at ho33 | (simp only [Int.reduceToNat] at ho33; rw [← Ny149.out] at ho33)); have HO151 := rLo (rN (Kd.R_newM (M := fun k_ => (P0_ k_ ∨ w.heap.size ≤ k_)) ho33 (by first | exact HK.out.1 | exact (show Kept w _ (fun k_ => P0_ k_) from by repeat (first | (with_reducible first | exact HK.out | apply Kept.alloc | apply Kept.drewN | apply Kept.drew) | exact HK.out)).1) (fun k_ h_ => .inr h_)) HO_0) HB; replace HO_0 := rE HO_0 ho33 hb; replace HK := mkA (Kept.below (S := (fun k_ => P0_ k_)) (by repeat (first | (with_reducible first | exact HK.out | apply Kept.alloc | apply Kept.drewN | apply Kept.drew) | exact HK.out)) hb); replace HB := bst HB hb; clear hb ho33; have q34 : (x5_1 : Int) ≤ ((l0.length : Int) : Int) := ofd; obtain ⟨i034, hi034, _, hsz34, _⟩ := info_parts info3; have hroom34 : l0.length ≤ co31 := (Kd.R_reads' HO_0.out).2.1; have hC34 : Kd.C (Kd.int .i64) _ Ao31 l0.length l0 := (Kd.R_reads' HO_0.out).2.2; have hcut34 := cut_to (P := Tryd.prog) 26 3 .i64 Tryd.underlying26 hi034 Ao31 l0.length co31 x5_1 (ofd) q34 hroom34; have hr34 := Kd.C_take (m := (x5_1 : Int).toNat) hC34 (by omega); have hy34 : y152.length = (x5_1 : Int).toNat := (by rw [Ny152.out, List.length_take]; omega); rw [← Ny152.out] at hr34; rw [← hy34] at hcut34; have HR155 := mkA hr34; have HC155 := mkA (show y152.length ≤ co31 from by omega); clear hr34 hC34 hroom34 hi034 hsz34; have KY34 := mkA hy34; clear hy34; have KL34 := mkA (show (x5_1 : Int).toNat ≤ l0.length from by omega); replace q34 := eq_true q34) | ((with_reducible refine gate_builtin (b := .append) (xs := #[.tmp 34, .tmp 37]) rfl ?_); at_builtin; refine Kd.R_append_rows (Kd.int .i64) (w0 := w0) w0.heap.size rfl (.tmp 34) (.tmp 37) 26 3 (.int .i64 0) 8 rfl Tryd.underlying26 info3 rfl (by decide) (by omega) v150 y149 y152 _ _ _ (fun k_ => (P0_ k_ ∨ w.heap.size ≤ k_) ∧ some k_ ≠ (.slice Ao31 l0.length co31 : Value).ownBlock) (fun _ => False) rfl rfl ?aO ?aR (fun _ _ h => h) (fun _ h => h.elim) ?aF ?aB ?aS ?aL ?_; (case aR => exact C_h HR155); (case aB => exact (bel_g HB.out)); (case aF => exact (fun k_ hk => ⟨(.inr (Nat.le_trans (by first | exact HK.out.1 | exact (show Kept w _ (fun k_ => P0_ k_) from by repeat (first | (with_reducible first | exact HK.out | apply Kept.alloc | apply Kept.drewN | apply Kept.drew) | exact HK.out)).1) hk)), Kd.fresh' (Kd.R_lt (Kd.R_g HO_0.out)) k_ hk⟩)); (case aO => exact (Kd.R_g (Kd.R_mono HO151.out (fun _ hk => ⟨hk.1.1, hk.2⟩)))); (case aS => exact (below_size (bel_g HB.out))); (case aL => have := LMc26.out; omega); intro v157 w35 ho hb hg hat; rw [← Ny156.out] at ho; replace HK := mkA (Kept.of_grown (S := (fun k_ => P0_ k_)) hg (by repeat (first | (with_reducible first | exact HK.out | apply Kept.alloc | apply Kept.drewN | apply Kept.drew) | exact HK.out)) (fun k_ e_ => (HO151.out.1 k_ e_).1.1)); replace HR155 := mkA ((show Kd.C (Kd.int .i64) w35 Ao31 y152.length y152 from by rw [Ny152.out]; exact Kd.C_take (m := (x5_1 : Int).toNat) ((Kd.R_reads' (Kd.R_after (ok := (fun k_ => (P0_ k_ ∨ w.heap.size ≤ k_))) (Kd.R_g HO_0.out) hg hat)).2.2) KL34.out)); replace HO_0 := mkA (Kd.R_after (ok := (fun k_ => (P0_ k_ ∨ w.heap.size ≤ k_))) (Kd.R_g HO_0.out) hg hat); have HO158 := mkA (ho); replace HB := mkA (hb); clear HO151; clear ho hb hg hat) | ((with_reducible refine gate_builtin (b := .append) (xs := #[.tmp 39, .tmp 41]) rfl ?_); at_builtin; refine Kd.R_append (Kd.int .i64) (w0 := w0) w0.heap.size rfl (.tmp 39) (.tmp 41) 26 3 (.int .i64 0) 8 rfl Tryd.underlying26 info3 rfl (by decide) (by omega) v157 y156 a1 [.int .i64 a1] (fun k_ => (P0_ k_ ∨ w.heap.size ≤ k_) ∧ some k_ ≠ (.slice Ao31 l0.length co31 : Value).ownBlock) (fun _ => False) rfl rfl ?aP (fun _ hk => hk.elim) ?aF ?aO ?aB ?aS ?aL ?_; (case aP => exact rfl); (case aB => exact (bel_g HB.out)); (case aF => exact (fun k_ hk => ⟨(.inr (Nat.le_trans (by first | exact HK.out.1 | exact (show Kept w _ (fun k_ => P0_ k_) from by repeat (first | (with_reducible first | exact HK.out | apply Kept.alloc | apply Kept.drewN | apply Kept.drew) | exact HK.out)).1) hk)), Kd.fresh' (Kd.R_lt (Kd.R_g HO_0.out)) k_ hk⟩)); (case aO => exact (Kd.R_g HO158.out)); (case aS => exact (below_size (bel_g HB.out))); (case aL => have := LMc27.out; omega); intro v160 w36 ho hb hg hat; rw [← Ny159.out] at ho; replace HK := mkA (Kept.of_grown (S := (fun k_ => P0_ k_)) hg (by repeat (first | (with_reducible first | exact HK.out | apply Kept.alloc | apply Kept.drewN | apply Kept.drew) | exact HK.out)) (fun k_ e_ => (HO158.out.1 k_ e_).1)); replace HR155 := mkA ((show Kd.C (Kd.int .i64) w36 Ao31 y152.length y152 from by rw [Ny152.out]; exact Kd.C_take (m := (x5_1 : Int).toNat) ((Kd.R_reads' (Kd.R_after (ok := (fun k_ => (P0_ k_ ∨ w.heap.size ≤ k_))) (Kd.R_g HO_0.out) hg hat)).2.2) KL34.out)); replace HO_0 := mkA (Kd.R_after (ok := (fun k_ => (P0_ k_ ∨ w.heap.size ≤ k_))) (Kd.R_g HO_0.out) hg hat); have HO161 := mkA (ho); replace HB := mkA (hb); clear HO158; clear ho hb hg hat; have q37 : (x5_1 : Int) ≤ ((l0.length : Int) : Int) := ofd; obtain ⟨i037, hi037, _, hsz37, _⟩ := info_parts info3; have hroom37 : l0.length ≤ co31 := (Kd.R_reads' HO_0.out).2.1; have hC37 : Kd.C (Kd.int .i64) _ Ao31 l0.length l0 := (Kd.R_reads' HO_0.out).2.2; have q037 : (0 : Int) ≤ (x5_1 : Int) := ofd; have hcut37 := cut_from (P := Tryd.prog) 26 3 .i64 Tryd.underlying26 hi037 1 hsz37 Ao31 l0.length co31 x5_1 q037 q37; have hr37 := Kd.C_drop (m := (x5_1 : Int).toNat) (c := co31) hC37 (by omega) hroom37; obtain ⟨A37, hA37⟩ : ∃ A1, A1 = (if co31 = (x5_1 : Int).toNat then Ao31 else (Ao31 : Option Addr).map (·.add ((x5_1 : Int).toNat * 1))) := ⟨_, rfl⟩; obtain ⟨c37, hc37⟩ : ∃ c1, c1 = co31 - (x5_1 : Int).toNat := ⟨_, rfl⟩; have hy37 : y162.length = l0.length - (x5_1 : Int).toNat := (by rw [Ny162.out, List.length_drop] <;> omega); rw [show (l0).drop (x5_1 : Int).toNat = y162 from Ny162.out.symm] at hr37; replace hr37 : Kd.C (Kd.int .i64) _ A37 y162.length y162 := (by rw [hA37]; exact hr37); rw [← hy37, ← hA37, ← hc37] at hcut37; have HR165 := mkA hr37; have HC165 := mkA (show y162.length ≤ c37 from by rw [hy37, hc37]; exact Nat.sub_le_sub_right hroom37 _); clear hr37 hC37 hroom37 hi037 hsz37 hc37; have KY37 := mkA hy37; have KA37 := mkA hA37; clear hy37 hA37; have KL37 := mkA (show (x5_1 : Int).toNat ≤ l0.length from by omega); replace q37 := eq_true q37) | ((with_reducible refine gate_builtin (b := .append) (xs := #[.tmp 43, .tmp 46]) rfl ?_); at_builtin; refine Kd.R_append_rows (Kd.int .i64) (w0 := w0) w0.heap.size rfl (.tmp 43) (.tmp 46) 26 3 (.int .i64 0) 8 rfl Tryd.underlying26 info3 rfl (by decide) (by omega) v160 y159 y162 _ _ _ (fun k_ => (P0_ k_ ∨ w.heap.size ≤ k_) ∧ some k_ ≠ (.slice Ao31 l0.length co31 : Value).ownBlock) (fun _ => False) rfl rfl ?aO ?aR (fun _ _ h => h) (fun _ h => h.elim) ?aF ?aB ?aS ?aL ?_; (case aR => exact C_h HR165); (case aB => exact (bel_g HB.out)); (case aF => exact (fun k_ hk => ⟨(.inr (Nat.le_trans (by first | exact HK.out.1 | exact (show Kept w _ (fun k_ => P0_ k_) from by repeat (first | (with_reducible first | exact HK.out | apply Kept.alloc | apply Kept.drewN | apply Kept.drew) | exact HK.out)).1) hk)), Kd.fresh' (Kd.R_lt (Kd.R_g HO_0.out)) k_ hk⟩)); (case aO => exact (Kd.R_g HO161.out)); (case aS => exact (below_size (bel_g HB.out))); (case aL => have := LMc30.out; omega); intro v167 w38 ho hb hg hat; rw [← Ny166.out] at ho; replace HK := mkA (Kept.of_grown (S := (fun k_ => P0_ k_)) hg (by repeat (first | (with_reducible first | exact HK.out | apply Kept.alloc | apply Kept.drewN | apply Kept.drew) | exact HK.out)) (fun k_ e_ => (HO161.out.1 k_ e_).1)); replace HR155 := mkA ((show Kd.C (Kd.int .i64) w38 Ao31 y152.length y152 from by rw [Ny152.out]; exact Kd.C_take (m := (x5_1 : Int).toNat) ((Kd.R_reads' (Kd.R_after (ok := (fun k_ => (P0_ k_ ∨ w.heap.size ≤ k_))) (Kd.R_g HO_0.out) hg hat)).2.2) KL34.out)); replace HR165 := mkA ((show Kd.C (Kd.int .i64) w38 A37 y162.length y162 from by rw [Ny162.out, KA37.out]; exact Kd.C_drop (m := (x5_1 : Int).toNat) (c := co31) ((Kd.R_reads' (Kd.R_after (ok := (fun k_ => (P0_ k_ ∨ w.heap.size ≤ k_))) (Kd.R_g HO_0.out) hg hat)).2.2) KL37.out ((Kd.R_reads' (Kd.R_after (ok := (fun k_ => (P0_ k_ ∨ w.heap.size ≤ k_))) (Kd.R_g HO_0.out) hg hat)).2.1))); replace HO_0 := mkA (Kd.R_after (ok := (fun k_ => (P0_ k_ ∨ w.heap.size ≤ k_))) (Kd.R_g HO_0.out) hg hat); have HO168 := mkA (ho); replace HB := mkA (hb); clear HO161; clear ho hb hg hat))
    go_ret
    exact ⟨_, eqE, Kd.R_g (Kd.R_mono HO168.out (fun _ hk => hk.1)), bel_g HB.out, by repeat (first | (with_reducible first | exact HK.out | apply Kept.alloc | apply Kept.drewN | apply Kept.drew) | exact HK.out)⟩
def spec_orPlace.l0 : Nat → Int → List Int → Int → Int → Option (Int)
 | 0, _, _, _, _ => none
 | k + 1, x1, x7, x8, x9 => if x9 < x8 then (if 0 ≤ x9 then (if x9 < (x7.length : Int) then (if (rd x7 x9) = x1 then (some x9) else (spec_orPlace.l0 k x1 x7 x8 (wrap64 (x9 + 1)))) else (none)) else (none)) else (some (-1))
def spec_orPlace.f (k : Nat) (l0 : List Int) (a1 : Int) : Option (Int) := spec_orPlace.l0 k a1 l0 (l0.length : Int) 0
theorem spec_orPlace.mono_l : ∀ k, (∀ y0 y1 y2 y3, LeO (spec_orPlace.l0 k y0 y1 y2 y3) (spec_orPlace.l0 (k + 1) y0 y1 y2 y3))
 | 0 => fun _ _ _ _ r h => by simp [spec_orPlace.l0] at h
 | k + 1 => by
  have ih0 := spec_orPlace.mono_l k
  ·intro y0 y1 y2 y3
   unfold spec_orPlace.l0
   repeat' (with_reducible first|apply ih0|apply LeO.refl|apply LeO.none|apply LeO.ite|apply LeO.bind|intro)
theorem spec_orPlace.mono : ∀ a0 a1 k, LeO (spec_orPlace.f k a0 a1) (spec_orPlace.f (k + 1) a0 a1) := by
 intro a0 a1 k
 have ih0 := spec_orPlace.mono_l k
 unfold spec_orPlace.f
 repeat' (with_reducible first|apply ih0|apply LeO.refl|apply LeO.none|apply LeO.ite|apply LeO.bind|intro)
theorem spec_orPlace.calls (k : Nat) (A0 : Option Addr) (c0 : Nat) (l0 : List Int) (a1 : Int) (r : Int) (w : World) (hr0 : Kd.C (Kd.int .i64) w A0 l0.length l0) (hc0 : l0.length ≤ c0) (h : spec_orPlace.f k l0 a1 = some r) :
  Calls Tryd.prog 48 #[.slice A0 l0.length c0, .int .i64 a1] w fun e w' => e = .returned (.int .i64 r) ∧ Drawn0 w w' := by
 have HR0 := mkA hr0
 have HC0 := mkA hc0
 clear hr0 hc0
 have H := h
 clear h
 unfold spec_orPlace.f at H
 have H' := mkA H
 clear H
 go_enter Tryd.func48, Tryd.ntmps48
 go_wp2
 go_loopg [9] k (fun kq v9 w' => ∃ (x9_1 : Int), v9 = .int .i64 x9_1 ∧ Fc (spec_orPlace.l0 kq a1 l0 (l0.length : Int) x9_1 = some r) ∧ Fc (kq ≤ k) ∧ Drawn0 w w')
 case atStart => exact ⟨(0), eqS, H', ⟨Nat.le_refl _⟩, by repeat (first | exact Drawn0.refl _ | apply Drawn0.step)⟩
 case round =>
  clear H'
  obtain ⟨x9_1, rfl, HA, HK1, ⟨m1, rfl⟩⟩ := hrel
  cases gk with
  | zero => exact absurd HA.out (by simp [spec_orPlace.l0])
  | succ k1 =>
   have H := HA.out
   clear HA
   simp only [spec_orPlace.l0] at H
   rcases iteE H with ⟨c3b0, H⟩ | ⟨c3b0, H⟩
   ·obtain ⟨c4b0, H⟩ := itND H
    obtain ⟨c5b0, H⟩ := itND H
    rcases iteP H with ⟨c6, H⟩ | ⟨c6, H⟩
    ·have c6b0 := beq_iff_eq.mpr c6
     have c6b1 := bne_eq_false_iff_eq.mpr c6
     clear c6
     obtain rfl := Option.some.inj H
     obtain ⟨p169, q169, ad169, e169, hx169_0⟩ := atI HR0.out x9_1
     cases e169
     go_wp2
     go_ret
     exact ⟨eqS, drE⟩
    ·have c6b0 := beq_eq_false_iff_ne.mpr c6
     have c6b1 := bne_iff_ne.mpr c6
     have H' := mkA H
     clear H
     obtain ⟨p169, q169, ad169, e169, hx169_0⟩ := atI HR0.out x9_1
     cases e169
     go_wp2
     go_roundg k1
     case measure => have := HK1.out; omega
     case rel => exact ⟨(wrap64 (x9_1 + 1)), eqS, H', ⟨by have := HK1.out; omega⟩, by repeat (first | exact Drawn0.refl _ | apply Drawn0.step)⟩
   ·obtain rfl := Option.some.inj H
    go_wp2
    go_ret
    exact ⟨eqS, drE⟩
end Go.Proofs.YtmdnbjhboppkdaaDoor.Q
