import Derived.Test.YtgdnljpallpjiaaDoorBFnExtensions8
import Derived.Test.YtgdnljpallpjiaaDoorBFnExtensions15
namespace Go.Proofs.YtgdnljpallpjiaaDoor.Q
open Go.RowKit Go.Proofs.YtgdnljpallpjiaaDoorW.PrintWords Go.Proofs.YtgdnljpallpjiaaDoorW.PrintLast Go.Proofs.YtgdnljpallpjiaaDoorW.PrintMore
attribute [local go_sem] max2_int min2_int max_two min_two max_three min_three max_four min_four neB_f
set_option linter.unusedVariables false
set_option maxHeartbeats 8000000
set_option maxRecDepth 100000
set_option linter.unusedSimpArgs false
mutual
def impl_CountExtensions.l0 : Nat → List Int → Int → Int → Int → List Int → Int → List Int → Option (Int × Bool)
 | 0, _, _, _, _, _, _, _ => none
 | k + 1, x5, x20, x21, x370000, x370001, x376000, x376001 => if x21 < x20 then (impl_CountExtensions.l1 k x5 x21 x20 x21 x370000 0 x370000 x370001 x376000 x376001) else ((impl_Order_all.f x370000 x370001).bind fun t380 => (if 0 ≤ t380 then (if t380 < (x5.length : Int) then (some (rd x5 t380, true)) else (none)) else (none)))
def impl_CountExtensions.l1 : Nat → List Int → Int → Int → Int → Int → Int → Int → List Int → Int → List Int → Option (Int × Bool)
 | 0, _, _, _, _, _, _, _, _, _, _ => none
 | k + 1, x5, x6, x20, x21, x25, x26, x370000, x370001, x376000, x376001 => if x26 < x25 then (if 0 ≤ x26 then (if (Go.bits .and .i64 (shr .i64 x6 x26) 1) = 0 then (if x26 < (x376001.length : Int) then (if (Go.bits .andNot .i64 (rd x376001 x26) x6) = 0 then (if 0 ≤ (Go.bits .or .i64 x6 (shl .i64 1 x26)) then (if (Go.bits .or .i64 x6 (shl .i64 1 x26)) < (x5.length : Int) then (if 0 ≤ x6 then (if x6 < (x5.length : Int) then (impl_CountExtensions.l1 k (x5.set ((Go.bits .or .i64 x6 (shl .i64 1 x26)) : Int).toNat (wrap64 ((rd x5 (Go.bits .or .i64 x6 (shl .i64 1 x26))) + (rd x5 x6)))) x6 x20 x21 x25 (wrap64 (x26 + 1)) x370000 x370001 x376000 x376001) else (none)) else (none)) else (none)) else (none)) else (impl_CountExtensions.l1 k x5 x6 x20 x21 x25 (wrap64 (x26 + 1)) x370000 x370001 x376000 x376001)) else (none)) else (impl_CountExtensions.l1 k x5 x6 x20 x21 x25 (wrap64 (x26 + 1)) x370000 x370001 x376000 x376001)) else (none)) else (impl_CountExtensions.l0 k x5 x20 (wrap64 (x21 + 1)) x370000 x370001 x376000 x376001)
end
def impl_CountExtensions.f (k : Nat) (a0_0 : Int) (l0_1 : List Int) : Option (Int × Bool) := (impl_IsOrder.f k a0_0 l0_1).bind fun t370 => (if t370 = true then ((impl_Order_mirror.f k a0_0 l0_1).bind fun bt371 => (if 0 ≤ a0_0 then (if 0 ≤ (shl .i64 1 a0_0) then (if (shl .i64 1 a0_0 : Int).toNat ≤ 35184372088832 then ((some (List.replicate (shl .i64 1 a0_0 : Int).toNat 0 : List Int)).bind fun y376 => (if 0 < (y376.length : Int) then (impl_CountExtensions.l0 k (y376.set (0 : Int).toNat 1) (y376.length : Int) 0 a0_0 l0_1 bt371.1 bt371.2) else (none))) else (none)) else (none)) else (none))) else (some (0, false)))
theorem impl_CountExtensions.mono_l : ∀ k, (∀ y0 y1 y2 y3 y4 y5 y6, LeO (impl_CountExtensions.l0 k y0 y1 y2 y3 y4 y5 y6) (impl_CountExtensions.l0 (k + 1) y0 y1 y2 y3 y4 y5 y6)) ∧ (∀ y0 y1 y2 y3 y4 y5 y6 y7 y8 y9, LeO (impl_CountExtensions.l1 k y0 y1 y2 y3 y4 y5 y6 y7 y8 y9) (impl_CountExtensions.l1 (k + 1) y0 y1 y2 y3 y4 y5 y6 y7 y8 y9))
 | 0 => ⟨fun _ _ _ _ _ _ _ r h => by simp [impl_CountExtensions.l0] at h, fun _ _ _ _ _ _ _ _ _ _ r h => by simp [impl_CountExtensions.l1] at h⟩
 | k + 1 => by
  obtain ⟨ih0, ih1⟩ := impl_CountExtensions.mono_l k
  refine ⟨?_, ?_⟩ <;> intros
  unfold impl_CountExtensions.l0
  rotate_left
  unfold impl_CountExtensions.l1
  rotate_left
  all_goals repeat' (with_reducible first|exact ih0 _ _ _ _ _ _ _|exact ih1 _ _ _ _ _ _ _ _ _ _|exact impl_IsOrder.mono _ _ _|exact impl_Order_mirror.mono _ _ _|exact LeO.refl _|exact LeO.none _|refine LeO.ite ?_ ?_|refine LeO.bind ?_ (fun _ => ?_))
theorem impl_CountExtensions.mono : ∀ a0 a1 k, LeO (impl_CountExtensions.f k a0 a1) (impl_CountExtensions.f (k + 1) a0 a1) := by
 intro a0 a1 k
 obtain ⟨ih0, ih1⟩ := impl_CountExtensions.mono_l k
 unfold impl_CountExtensions.f
 repeat' (with_reducible first|exact ih0 _ _ _ _ _ _ _|exact ih1 _ _ _ _ _ _ _ _ _ _|exact impl_IsOrder.mono _ _ _|exact impl_Order_mirror.mono _ _ _|exact LeO.refl _|exact LeO.none _|refine LeO.ite ?_ ?_|refine LeO.bind ?_ (fun _ => ?_))
def impl_CountExtensions.T13 : Bool × List (List Nat × List Nat) := (true, [([], []), ([], []), ([], []), ([2], [2]), ([1, 3], [1, 3]), ([0, 4], [0, 4]), ([5], [5]), ([], []), ([], []), ([7, 8], [7, 8]), ([9], [9]), ([6, 10], [6, 10]), ([0, 4, 0, 1, 2, 3, 4, 5, 6, 7, 8, 9, 10, 11], [0, 4]), ([12, 11, 0, 1, 2, 3, 4, 5, 6, 7, 8, 9, 10, 11], [11, 12])])
def impl_CountExtensions.B13 : List Nat := [0, 0, 0, 4, 14, 31, 63, 0, 0, 384, 896, 2047, 4095, 8191]
theorem impl_CountExtensions.tab13 : rtab .any (opsOf Tryd.f11 13) = impl_CountExtensions.T13 := by kernel_rfl
theorem impl_CountExtensions.bits13 : waitsOk impl_CountExtensions.T13.2 impl_CountExtensions.B13 = true := by kernel_rfl
theorem impl_CountExtensions.calls (k : Nat) (a0_0 : Int) (A0_1 : Option Addr) (c0_1 : Nat) (l0_1 : List Int) (r1 : Int) (r2 : Bool) (w : World) (hr0_1 : Kd.C (Kd.int .i64) w A0_1 l0_1.length l0_1) (hc0_1 : l0_1.length ≤ c0_1) (hTAB : Tab w) (h : impl_CountExtensions.f k a0_0 l0_1 = some (r1, r2)) :
  Calls Tryd.prog 11 #[.agg #[.int .i64 a0_0, .slice A0_1 l0_1.length c0_1]] w fun e w' => e = .returned (.tuple #[.int .i64 r1, .bool r2]) ∧ Below w.heap.size w w' := by
 have HTAB := mkA hTAB
 clear hTAB
 have hu26 := Tryd.underlying26
 have HR0_1 := mkA hr0_1
 have HC0_1 := mkA hc0_1
 clear hr0_1 hc0_1
 have HB := mkA (Below.refl w.heap.size w)
 have H := h
 clear h
 unfold impl_CountExtensions.f at H
 obtain ⟨t370, A2, H⟩ := obE H
 by_cases c3 : t370 = true
 ·subst c3
  replace H := ifT H
  obtain ⟨⟨t371, t372⟩, A4, H⟩ := obE H
  dsimp only at H
  obtain ⟨c5, H⟩ := itNP H
  have c5b0 := eq_true c5
  have c5b1 : decide (0 ≤ a0_0) = true := decide_eq_true c5
  clear c5
  obtain ⟨ji6, hji6⟩ : ∃ j_ : Int, (shl .i64 1 a0_0) = j_ := ⟨_, rfl⟩
  replace H : (if 0 ≤ (ji6) then (if (ji6 : Int).toNat ≤ 35184372088832 then ((some (List.replicate (ji6 : Int).toNat 0 : List Int)).bind fun y376 => (if 0 < (y376.length : Int) then (impl_CountExtensions.l0 k (y376.set (0 : Int).toNat 1) (y376.length : Int) 0 a0_0 l0_1 t371 t372) else (none))) else (none)) else (none)) = some (r1, r2) := by first | (rw [hji6] at H; exact H) | (simp only [hji6] at H ⊢; exact H)
  (try rw [hji6] at A2)
  (try rw [hji6] at A4)
  have hji6_ : (IntKind.i64.wrap (1 * 2 ^ min a0_0.toNat 64)) = ji6 := hji6
  have hji6z : a0_0 ≤ 64 → (IntKind.i64.wrap (1 * 2 ^ a0_0.toNat)) = ji6 := shl_small hji6
  have hji6u : (IntKind.i64.wrap (2 ^ min a0_0.toNat 64)) = ji6 := by have h_ := hji6_; rw [Int.one_mul] at h_; exact h_
  have hji6v : a0_0 ≤ 64 → (IntKind.i64.wrap (2 ^ a0_0.toNat)) = ji6 := fun hle_ => by have h_ := hji6z hle_; rw [Int.one_mul] at h_; exact h_
  have hji6y : (wrap64 (1 * 2 ^ min a0_0.toNat 64)) = ji6 := (i64_w _).symm.trans hji6_
  have hji6x : a0_0 ≤ 64 → (wrap64 (1 * 2 ^ a0_0.toNat)) = ji6 := fun h_ => (i64_w _).symm.trans (hji6z h_)
  obtain ⟨c7, H⟩ := itNP H
  have c7b0 := eq_true c7
  have c7b1 : decide (0 ≤ (ji6)) = true := decide_eq_true c7
  clear c7
  obtain ⟨c8, H⟩ := itNP H
  have c8b0 := eq_true c8
  have c8b1 : decide ((ji6 : Int).toNat ≤ 35184372088832) = true := decide_eq_true c8
  clear c8
  obtain ⟨y376, hy376⟩ : ∃ y_ : List Int, y_ = (List.replicate (ji6 : Int).toNat 0) := ⟨_, rfl⟩
  replace H : (if 0 < (y376.length : Int) then (impl_CountExtensions.l0 k (y376.set (0 : Int).toNat 1) (y376.length : Int) 0 a0_0 l0_1 t371 t372) else (none)) = some (r1, r2) := by first | (rw [hy376]; with_reducible exact H) | (have H2_ := (Option.bind_some _ _).symm.trans H; rw [hy376]; with_reducible exact H2_) | (have H2_ := (Option.bind_some _ _).symm.trans H; with_reducible exact H2_) | with_reducible exact H | (rw [hy376]; exact H) | exact H
  have Ny376 := mkA hy376
  clear hy376
  obtain ⟨c9, H⟩ := itNP H
  have c9b0 : decide (0 < (y376.length : Int)) = true := decide_eq_true c9
  have c9b1 : decide (0 < y376.length) = true := decide_eq_true (by omega)
  clear c9
  obtain ⟨y379, hy379⟩ : ∃ y_ : List Int, y_ = (y376.set (0 : Int).toNat 1) := ⟨_, rfl⟩
  replace H : (impl_CountExtensions.l0 k y379 (y376.length : Int) 0 a0_0 l0_1 t371 t372) = some (r1, r2) := by first | (rw [hy379]; with_reducible exact H) | (have H2_ := (Option.bind_some _ _).symm.trans H; rw [hy379]; with_reducible exact H2_) | (have H2_ := (Option.bind_some _ _).symm.trans H; with_reducible exact H2_) | with_reducible exact H | (rw [hy379]; exact H) | exact H
  have Ny379 := mkA hy379
  clear hy379
  have H' := mkA H
  clear H
  go_enter Tryd.func11, Tryd.ntmps11
  go_wp2_with (first | ((with_reducible refine gate_dst (N := 1) rfl ?_); refine boxE (N := 1) (cs := #[.int .i64 a0_0, .slice A0_1 l0_1.length c0_1]) (t := 26) ?_; intro gb369 hg w11 hbox hb; have BK369 := mkA (hbox); have GE369 := geB HB hg; replace HB := bst HB hb; clear hb hbox hg; obtain ⟨hcz12_0, hcz12_1, hfz12_0, hfz12_1⟩ := blk2 BK369) | ((with_reducible refine gate_callee (f := 20) rfl ?_); refine goesQ (some 9) Tryd.func20 #[.agg #[.int .i64 a0_0, .slice A0_1 l0_1.length c0_1]] ?_; (with_reducible refine (impl_IsOrder.calls k a0_0 _ _ l0_1 true _ ?s1 ?s2 ?s3 A2.out).mono ?_); (case s1 => exact C_g HR0_1 HB); (case s2 => exact HC0_1.out); (case s3 => exact Tab.below HTAB.out (bel_g HB.out)); rintro e w13 ⟨rfl, hb⟩; refine ⟨_, rfl, ?_⟩; replace BK369 := blkB BK369 hb; replace HB := bst HB hb; (try clear hb); (try clear hk); obtain ⟨hcz14_0, hcz14_1, hfz14_0, hfz14_1⟩ := blk2 BK369) | ((with_reducible refine gate_callee (f := 21) rfl ?_); refine goesQ (some 12) Tryd.func21 #[.agg #[.int .i64 a0_0, .slice A0_1 l0_1.length c0_1]] ?_; (with_reducible refine (impl_Order_mirror.calls k a0_0 _ _ l0_1 t371 t372 _ ?s1 ?s2 A4.out).mono ?_); (case s1 => exact C_g HR0_1 HB); (case s2 => exact HC0_1.out); rintro e w15 ⟨v373, rfl, ho0, hb⟩; refine ⟨_, rfl, ?_⟩; have HO374 := mkA (Kd.R_lower ho0 (below_size (bel_g HB.out))); replace BK369 := blkB BK369 hb; replace HB := bst HB hb; (try clear hb); (try clear hk); (try clear ho0)) | ((with_reducible refine gate_dst (N := 4) rfl ?_); refine boxE (N := 4) (cs := #[.int .i64 0, .slice none 0 0]) (t := 26) ?_; intro gb375 hg w16 hbox hb; replace HO374 := rB HO374 hb; have BK375 := mkA (hbox); have GE375 := geB HB hg; have NB369_375 := neL7 BK369 hg; have NB375_369 := neR7 BK369 hg; replace BK369 := blkB BK369 hb; replace HB := bst HB hb; clear hb hbox hg; obtain ⟨hcz18_0, hcz18_1, hfz18_0, hfz18_1⟩ := blk2 BK375; obtain ⟨Ao19, co19, eo19⟩ := Kd.R_slice HO374.out; subst eo19; obtain ⟨hcz20_0, hcz20_1, hfz20_0, hfz20_1⟩ := blk2 BK369) | ((with_reducible refine gate_dst (N := 16) rfl ?_); refine Kd.R_make (Kd.int .i64) _ 3 rfl (N := 16) rfl 24 _ _ rfl ji6 rfl rfl Tryd.underlying24 (.int .i64 0) 8 info3 rfl (by decide) (by omega) 0 (ok := fun _ => True) (okp := fun _ => True) rfl (fun _ hk => hk) trivial (ofd) (Nat.le_trans (Nat.mul_le_mul_right _ (ofd : ji6.toNat ≤ 35184372088832)) (by omega)) (Below.refl _ _) (Nat.le_refl _) ?_; intro v377 w21 ho22 hb hg_ hnew_; clear hg_ hnew_; (first | rw [← Ny376.out] at ho22 | (simp only [Int.reduceToNat] at ho22; rw [← Ny376.out] at ho22)); have HO378 := mkA (Kd.R_lower (Kd.R_new' ho22 (Kd.R_lt (Kd.R_g ((Kd.R_mono (Kd.R_far (p := ⟨gb375, 1, none⟩) (Kd.R_far (p := ⟨gb375, 0, none⟩) (Kd.R_types HO374.out BK375.out (by decide)) (fun _ hk => hk.2) (.int .i64 t371)) (fun _ hk => hk.2) (.slice Ao19 t372.length co19)) (fun _ h_ => h_.1)))))) (below_size (bel_g HB.out))); replace HO374 := mkA (Kd.R_elder' (Kd.R_g ((Kd.R_mono (Kd.R_far (p := ⟨gb375, 1, none⟩) (Kd.R_far (p := ⟨gb375, 0, none⟩) (Kd.R_types HO374.out BK375.out (by decide)) (fun _ hk => hk.2) (.int .i64 t371)) (fun _ hk => hk.2) (.slice Ao19 t372.length co19)) (fun _ h_ => h_.1)))) (Kd.R_base ho22) hb); replace BK369 := blkS BK369 hb; replace BK375 := blkS BK375 hb; replace HB := bst HB hb; clear hb ho22; have p10 : 0 ≤ (0 : Int) := (by omega); have q10 : (0 : Int) < ((y376.length : Int) : Int) := ofd; have qi10 : (0 < y376.length) = True := eq_true (by omega); obtain ⟨go10, co10, eo10, gb10, gl10, cl10, HG10⟩ := Kd.R_form HO378.out (by omega); (first | cases eo10 | (injection eo10 with ea_ en_ ec_; (first | subst ea_ | (injection ea_ with ea_; subst ea_)); subst ec_; clear en_)); have GB10 : Ge _ _ := ⟨gb10⟩; have GG10 := mkA HG10; clear gb10 gl10 HG10; obtain ⟨hx10_0, hf10_0⟩ := Kd.R_celln 0 HO378.out (0 : Int) p10 q10; (try rw [show ((0 : Int)).toNat = 0 from rfl] at hx10_0); (try simp only [Nat.reduceMul, Nat.zero_mul, Nat.zero_add, Nat.reduceAdd] at hx10_0); (try rw [show ((0 : Int)).toNat = 0 from rfl] at hf10_0); (try simp only [Nat.reduceMul, Nat.zero_mul, Nat.zero_add, Nat.reduceAdd] at hf10_0); replace p10 := eq_true p10; replace q10 := eq_true q10; have n_ := mkA (Kd.R_mono (ok' := (fun k_ => some k_ ≠ (.slice Ao19 t372.length co19 : Value).ownBlock)) HO378.out (fun k_ hk => hk.2)); clear HO378; have HO378 := n_; clear n_; obtain ⟨hy23_, hz23_⟩ := Kd.R_celln 0 HO378.out (0 : Int) (by omega) (ofd); (try simp only [Int.reduceToNat, Int.toNat_zero, Int.toNat_ofNat, Nat.reduceMul, Nat.zero_mul, Nat.zero_add] at hy23_ hz23_); (try rw [show ((0 : Int)).toNat = 0 from rfl] at hy23_); (try rw [show ((0 : Int)).toNat = 0 from rfl] at hz23_); have HP23 := Kd.R_putg HO378.out (0 : Int) 1) | ((with_reducible refine gate_store (t := 3) (p := 18) rfl ?_); refine store_event (t := 3) (p := 18) (v := ?vo_w24) (w1 := (w21.setCell ⟨go10, (0 : Int).toNat, none⟩ (.int .i64 1))) ?hg ?ho ?hn ?hr ?_; (case ho => rfl); (case hg => rfl); (case hn => rfl); (case hr => first | (go_simp; done) | (go_simp; rfl)); intro w24 hw; have hg : w21.grownBy w24 (some go10) := (by rw [hw]; exact HP23.2); have hp_ : Kd.R (Kd.int .i64) 3 w24 w.heap.size (fun k_ => some k_ ≠ (.slice Ao19 t372.length co19 : Value).ownBlock) (.slice (some ⟨go10, 0, none⟩) y376.length co10) y379 := (by rw [hw, Ny379.out]; exact HP23.1); clear HP23; replace BK369 := mkA (blk_grown (g := gb369) (o := .cells #[.int .i64 a0_0, .slice A0_1 l0_1.length c0_1] 26 (0, 0)) (blk_g BK369.out) hg (Kd.R_ne HO378.out BK369.out (by decide))); replace HO374 := mkA (Kd.R_after (v := (.slice (some ⟨go10, 0, none⟩) y376.length co10)) (v1 := (.slice (some ⟨go10, 0, none⟩) y376.length co10)) (ok := (fun _ => True)) (Kd.R_g HO374.out) hg (.inl rfl)); replace BK375 := mkA (blk_grown (g := gb375) (o := .cells #[.int .i64 t371, .slice Ao19 t372.length co19] 26 (0, 0)) (blk_g BK375.out) hg (Kd.R_ne HO378.out BK375.out (by decide))); replace HO378 := mkA (hp_); replace HB := mkA ((by rw [hw]; exact below_set (HB.out) GB10.out : Below w.heap.size w w24)); clear hg hw hp_))
  go_loopg [21] k (fun kq v21 w' => ∃ (x5_1 : List Int) (x21_1 : Int), v21 = .int .i64 x21_1 ∧ Fc (impl_CountExtensions.l0 kq x5_1 (y376.length : Int) x21_1 a0_0 l0_1 t371 t372 = some (r1, r2)) ∧ Fc (kq ≤ k) ∧ Fc (Kd.R (Kd.int .i64) 3 w' w.heap.size (fun k_ => some k_ ≠ ((.slice Ao19 t372.length co19) : Value).ownBlock) (.slice (some ⟨go10, 0, none⟩) y376.length co10) x5_1) ∧ Fc (Kd.R (Kd.int .i64) 3 w' w.heap.size (fun k_ => some k_ ≠ ((.slice (some ⟨go10, 0, none⟩) y376.length co10) : Value).ownBlock) (.slice Ao19 t372.length co19) t372) ∧ Fc (w'.heap[gb369]? = some (.cells #[.int .i64 a0_0, (.slice A0_1 l0_1.length c0_1)] 26 (0, 0))) ∧ Fc (w'.heap[gb375]? = some (.cells #[.int .i64 t371, (.slice Ao19 t372.length co19)] 26 (0, 0))) ∧ Fc (Below w.heap.size w w'))
  case atStart => exact ⟨(y379), (0), eqS, H', ⟨Nat.le_refl _⟩, ⟨Kd.R_g HO378.out⟩, ⟨Kd.R_g (Kd.R_mono HO374.out (fun _ hk => hk.2))⟩, ⟨blk_g BK369.out⟩, ⟨blk_g BK375.out⟩, ⟨bel_g HB.out⟩⟩
  case round =>
   clear H'
   try clear c3
   try clear c5
   try clear c5b0
   try clear c5b1
   try clear c7
   try clear c7b0
   try clear c7b1
   try clear c8
   try clear c8b0
   try clear c8b1
   try clear c9
   try clear c9b0
   try clear c9b1
   try clear p10
   try clear q10
   try clear qi10
   try clear hx10_0
   try clear p10
   try clear q10
   obtain ⟨x5_1, x21_1, rfl, HA, HK1, HO_5, HO_376001, BK369, BK375, HB⟩ := hrel
   have hl5_1 := (Kd.R_reads' HO_5.out).1
   rw [hl5_1] at HO_5
   (try simp only [hl5_1])
   (try simp only [hl5_1] at BK369)
   (try simp only [hl5_1] at BK375)
   (try simp only [hl5_1] at HO_376001)
   cases gk with
   | zero => exact absurd HA.out (by simp [impl_CountExtensions.l0])
   | succ k1 =>
    have H := HA.out
    clear HA
    simp only [impl_CountExtensions.l0] at H
    rcases iteE H with ⟨c25b0, H⟩ | ⟨c25b0, H⟩ <;> try rw [hl5_1] at c25b0
    ·have H' := mkA H
     clear H
     obtain ⟨hcz27_0, hcz27_1, hfz27_0, hfz27_1⟩ := blk2 BK369
     go_wp2
     go_loopg [26] k1 (fun kq v26 w' => ∃ (x5_2 : List Int) (x26_2 : Int), v26 = .int .i64 x26_2 ∧ Fc (impl_CountExtensions.l1 kq x5_2 x21_1 (y376.length : Int) x21_1 a0_0 x26_2 a0_0 l0_1 t371 t372 = some (r1, r2)) ∧ Fc (kq ≤ k1) ∧ Fc (Kd.R (Kd.int .i64) 3 w' w.heap.size (fun k_ => some k_ ≠ ((.slice Ao19 t372.length co19) : Value).ownBlock) (.slice (some ⟨go10, 0, none⟩) x5_1.length co10) x5_2) ∧ Fc (Kd.R (Kd.int .i64) 3 w' w.heap.size (fun k_ => some k_ ≠ ((.slice (some ⟨go10, 0, none⟩) x5_1.length co10) : Value).ownBlock) (.slice Ao19 t372.length co19) t372) ∧ Fc (w'.heap[gb369]? = some (.cells #[.int .i64 a0_0, (.slice A0_1 l0_1.length c0_1)] 26 (0, 0))) ∧ Fc (w'.heap[gb375]? = some (.cells #[.int .i64 t371, (.slice Ao19 t372.length co19)] 26 (0, 0))) ∧ Fc (Below w.heap.size w w'))
     case atStart => exact ⟨(x5_1), (0), eqS, H', ⟨Nat.le_refl _⟩, ⟨by (try simp only [hl5_1]); (with_reducible repeat (first | apply Kd.R_alloc | apply Kd.R_drewN | apply Kd.R_drew)); exact HO_5.out⟩, ⟨by (try simp only [hl5_1]); (with_reducible repeat (first | apply Kd.R_alloc | apply Kd.R_drewN | apply Kd.R_drew)); exact HO_376001.out⟩, ⟨by (try simp only [hl5_1]); (with_reducible repeat (first | refine blk_drewN ?_ _ | refine blk_drew ?_ | refine blk_alloc ?_ _)); exact BK369.out⟩, ⟨by (try simp only [hl5_1]); (with_reducible repeat (first | refine blk_drewN ?_ _ | refine blk_drew ?_ | refine blk_alloc ?_ _)); exact BK375.out⟩, ⟨bel_g HB.out⟩⟩
     case round =>
      clear H'
      try clear c3
      try clear c5
      try clear c5b0
      try clear c5b1
      try clear c7
      try clear c7b0
      try clear c7b1
      try clear c8
      try clear c8b0
      try clear c8b1
      try clear c9
      try clear c9b0
      try clear c9b1
      try clear p10
      try clear q10
      try clear qi10
      try clear c25b0
      try clear hx10_0
      try clear p10
      try clear q10
      obtain ⟨x5_2, x26_2, rfl, HA, HK2, HO_5, HO_376001, BK369, BK375, HB⟩ := hrel
      have hl5_2 := (Kd.R_reads' HO_5.out).1
      rw [hl5_2] at HO_5
      (try simp only [hl5_2])
      (try simp only [hl5_2] at BK369)
      (try simp only [hl5_2] at BK375)
      (try simp only [hl5_2] at HO_376001)
      cases gk with
      | zero => exact absurd HA.out (by simp [impl_CountExtensions.l1])
      | succ k2 =>
       have H := HA.out
       clear HA
       simp only [impl_CountExtensions.l1] at H
       rcases iteE H with ⟨c28b0, H⟩ | ⟨c28b0, H⟩ <;> try rw [hl5_2] at c28b0
       ·obtain ⟨c29, H⟩ := itNP H
        have c29b0 := eq_true c29
        have c29b1 : decide (0 ≤ x26_2) = true := decide_eq_true c29
        clear c29
        obtain ⟨ji30, hji30⟩ : ∃ j_ : Int, (shr .i64 x21_1 x26_2) = j_ := ⟨_, rfl⟩
        replace H : (if (Go.bits .and .i64 (ji30) 1) = 0 then (if x26_2 < (t372.length : Int) then (if (Go.bits .andNot .i64 (rd t372 x26_2) x21_1) = 0 then (if 0 ≤ (Go.bits .or .i64 x21_1 (shl .i64 1 x26_2)) then (if (Go.bits .or .i64 x21_1 (shl .i64 1 x26_2)) < (x5_2.length : Int) then (if 0 ≤ x21_1 then (if x21_1 < (x5_2.length : Int) then (impl_CountExtensions.l1 k2 (x5_2.set ((Go.bits .or .i64 x21_1 (shl .i64 1 x26_2)) : Int).toNat (wrap64 ((rd x5_2 (Go.bits .or .i64 x21_1 (shl .i64 1 x26_2))) + (rd x5_2 x21_1)))) x21_1 (y376.length : Int) x21_1 a0_0 (wrap64 (x26_2 + 1)) a0_0 l0_1 t371 t372) else (none)) else (none)) else (none)) else (none)) else (impl_CountExtensions.l1 k2 x5_2 x21_1 (y376.length : Int) x21_1 a0_0 (wrap64 (x26_2 + 1)) a0_0 l0_1 t371 t372)) else (none)) else (impl_CountExtensions.l1 k2 x5_2 x21_1 (y376.length : Int) x21_1 a0_0 (wrap64 (x26_2 + 1)) a0_0 l0_1 t371 t372)) = some (r1, r2) := by first | (rw [hji30] at H; exact H) | (simp only [hji30] at H ⊢; exact H)
        have hji30_ : (x21_1 / 2 ^ min x26_2.toNat 64) = ji30 := hji30
        have hji30z : x26_2 ≤ 64 → (x21_1 / 2 ^ x26_2.toNat) = ji30 := shr_small hji30
        rcases iteP H with ⟨c31, H⟩ | ⟨c31, H⟩
        ·have c31b0 : ((Go.bits .and .i64 (ji30) 1) == 0) = true := beq_iff_eq.mpr c31
         have c31b1 : ((Go.bits .and .i64 (ji30) 1) != 0) = false := bne_eq_false_iff_eq.mpr c31
         clear c31
         obtain ⟨c32, H⟩ := itNP H
         have c32b0 : decide (x26_2 < (t372.length : Int)) = true := decide_eq_true c32
         clear c32
         rcases iteP H with ⟨c33, H⟩ | ⟨c33, H⟩
         ·have c33b0 : ((Go.bits .andNot .i64 (rd t372 x26_2) x21_1) == 0) = true := beq_iff_eq.mpr c33
          have c33b1 : ((Go.bits .andNot .i64 (rd t372 x26_2) x21_1) != 0) = false := bne_eq_false_iff_eq.mpr c33
          clear c33
          have c34b0 := eq_true (ofd : 0 ≤ x26_2)
          obtain ⟨ji35, hji35⟩ : ∃ j_ : Int, (shl .i64 1 x26_2) = j_ := ⟨_, rfl⟩
          replace H : (if 0 ≤ (Go.bits .or .i64 x21_1 (ji35)) then (if (Go.bits .or .i64 x21_1 (ji35)) < (x5_2.length : Int) then (if 0 ≤ x21_1 then (if x21_1 < (x5_2.length : Int) then (impl_CountExtensions.l1 k2 (x5_2.set ((Go.bits .or .i64 x21_1 (ji35)) : Int).toNat (wrap64 ((rd x5_2 (Go.bits .or .i64 x21_1 (ji35))) + (rd x5_2 x21_1)))) x21_1 (y376.length : Int) x21_1 a0_0 (wrap64 (x26_2 + 1)) a0_0 l0_1 t371 t372) else (none)) else (none)) else (none)) else (none)) = some (r1, r2) := by first | (rw [hji35] at H; exact H) | (simp only [hji35] at H ⊢; exact H)
          have hji35_ : (IntKind.i64.wrap (1 * 2 ^ min x26_2.toNat 64)) = ji35 := hji35
          have hji35z : x26_2 ≤ 64 → (IntKind.i64.wrap (1 * 2 ^ x26_2.toNat)) = ji35 := shl_small hji35
          have hji35u : (IntKind.i64.wrap (2 ^ min x26_2.toNat 64)) = ji35 := by have h_ := hji35_; rw [Int.one_mul] at h_; exact h_
          have hji35v : x26_2 ≤ 64 → (IntKind.i64.wrap (2 ^ x26_2.toNat)) = ji35 := fun hle_ => by have h_ := hji35z hle_; rw [Int.one_mul] at h_; exact h_
          have hji35y : (wrap64 (1 * 2 ^ min x26_2.toNat 64)) = ji35 := (i64_w _).symm.trans hji35_
          have hji35x : x26_2 ≤ 64 → (wrap64 (1 * 2 ^ x26_2.toNat)) = ji35 := fun h_ => (i64_w _).symm.trans (hji35z h_)
          obtain ⟨c36, H⟩ := itNP H
          have c36b0 : decide (0 ≤ (Go.bits .or .i64 x21_1 (ji35))) = true := decide_eq_true c36
          clear c36
          obtain ⟨c37, H⟩ := itNP H
          have c37b0 : decide ((Go.bits .or .i64 x21_1 (ji35)) < (x5_2.length : Int)) = true := decide_eq_true c37
          clear c37
          obtain ⟨c38, H⟩ := itNP H
          have c38b0 : decide (0 ≤ x21_1) = true := decide_eq_true c38
          clear c38
          obtain ⟨c39, H⟩ := itNP H
          have c39b0 : decide (x21_1 < (x5_2.length : Int)) = true := decide_eq_true c39
          clear c39
          obtain ⟨y385, hy385⟩ : ∃ y_ : List Int, y_ = (x5_2.set ((Go.bits .or .i64 x21_1 (ji35)) : Int).toNat (wrap64 ((rd x5_2 (Go.bits .or .i64 x21_1 (ji35))) + (rd x5_2 x21_1)))) := ⟨_, rfl⟩
          replace H : (impl_CountExtensions.l1 k2 y385 x21_1 (y376.length : Int) x21_1 a0_0 (wrap64 (x26_2 + 1)) a0_0 l0_1 t371 t372) = some (r1, r2) := by first | (rw [hy385]; with_reducible exact H) | (have H2_ := (Option.bind_some _ _).symm.trans H; rw [hy385]; with_reducible exact H2_) | (have H2_ := (Option.bind_some _ _).symm.trans H; with_reducible exact H2_) | with_reducible exact H | (rw [hy385]; exact H) | exact H
          have Ny385 := mkA hy385
          clear hy385
          have H' := mkA H
          clear H
          obtain ⟨hcz42_0, hcz42_1, hfz42_0, hfz42_1⟩ := blk2 BK375
          have p382 : 0 ≤ (x26_2 : Int) := ofd
          have q382 : x26_2 < (t372.length : Int) := ofd
          obtain ⟨ad382, e382, hx382_0⟩ := Kd.at_int (Kd.R_reads' HO_376001.out).2.2 x26_2 p382 q382
          cases e382
          replace p382 := eq_true p382
          replace q382 := eq_true q382
          try go_wp2
          replace HO_5 := mkA (Kd.R_drew HO_5.out)
          replace HO_376001 := mkA (Kd.R_drew HO_376001.out)
          replace BK369 := mkA (blk_drew BK369.out)
          replace BK375 := mkA (blk_drew BK375.out)
          replace HB := mkA (below_drew1 HB.out)
          have p383 : 0 ≤ ((Go.bits .or .i64 x21_1 (ji35)) : Int) := ofd
          have q383 : (Go.bits .or .i64 x21_1 (ji35)) < (x5_2.length : Int) := ofd
          obtain ⟨ad383, e383, hx383_0⟩ := Kd.at_int (Kd.R_reads' HO_5.out).2.2 (Go.bits .or .i64 x21_1 (ji35)) p383 q383
          obtain rfl : (⟨go10, 0, none⟩ : Addr) = ad383 := (by injection e383)
          (first | simp only [add_plain] at hx383_0 | simp only [add_at] at hx383_0 | simp only [Addr.add, Nat.zero_add] at hx383_0 | skip)
          replace p383 := eq_true p383
          replace q383 := eq_true q383
          have p384 : 0 ≤ (x21_1 : Int) := ofd
          have q384 : x21_1 < (x5_2.length : Int) := ofd
          obtain ⟨ad384, e384, hx384_0⟩ := Kd.at_int (Kd.R_reads' HO_5.out).2.2 x21_1 p384 q384
          obtain rfl : (⟨go10, 0, none⟩ : Addr) = ad384 := (by injection e384)
          (first | simp only [add_plain] at hx384_0 | simp only [add_at] at hx384_0 | simp only [Addr.add, Nat.zero_add] at hx384_0 | skip)
          replace p384 := eq_true p384
          replace q384 := eq_true q384
          have p40 : 0 ≤ ((Go.bits .or .i64 x21_1 (ji35)) : Int) := ofd
          have q40 : ((Go.bits .or .i64 x21_1 (ji35)) : Int) < ((x5_2.length : Int) : Int) := ofd
          obtain ⟨hx40_0, hf40_0⟩ := Kd.R_celln 0 HO_5.out ((Go.bits .or .i64 x21_1 (ji35)) : Int) p40 q40
          replace p40 := eq_true p40
          replace q40 := eq_true q40
          have HP44 := Kd.R_putn HO_5.out ((Go.bits .or .i64 x21_1 (ji35)) : Int) (wrap64 ((rd x5_2 (Go.bits .or .i64 x21_1 (ji35))) + (rd x5_2 x21_1)))
          rw [← Ny385.out] at HP44
          have HQ44 := mkA HP44
          clear HP44
          refine start_ (n := 14) (S := fun w' => w'.cell? ⟨go10, ((Go.bits .or .i64 x21_1 (ji35))).toNat, none⟩ = some (.int .i64 (rd x5_2 (Go.bits .or .i64 x21_1 (ji35)))) ∧ w'.cell? ⟨go10, (x21_1).toNat, none⟩ = some (.int .i64 (rd x5_2 x21_1))) (ds := [13]) (bm 14 0) (by kernel_rfl) rfl rfl ⟨hx383_0, hx384_0⟩ (fun hHeld => ?_); refine with_tabW impl_CountExtensions.tab13 impl_CountExtensions.bits13 (fun HT_ HW_ => ?_)
          generalize wr.drew = w43 at HO_5 HO_376001 BK369 BK375 HB HQ44 hf40_0 hx383_0 hx384_0 hx40_0 hHeld ⊢
          refine pureW 0 (some 44) (bm 14 1) HT_ ?_
          refine pureW 1 (some 45) (bm 14 3) HT_ ?_
          refine pureW 2 (some 46) (bm 14 7) HT_ ?_
          refine pureW 3 (some 47) (bm 14 15) HT_ ?_
          refine pureW 4 (some 48) (bm 14 31) HT_ ?_
          refine pureW 5 (some 49) (bm 14 63) HT_ ?_
          refine pureW 7 (some 51) (bm 14 191) HT_ ?_
          refine pureW 8 (some 52) (bm 14 447) HT_ ?_
          refine pureW 9 (some 53) (bm 14 959) HT_ ?_
          refine takeW 6 (some 50) (bm 14 1023) HT_ HW_ hHeld ?_
          refine takeW 10 (some 54) (bm 14 2047) HT_ HW_ hHeld ?_
          refine pureW 11 (some 55) (bm 14 4095) HT_ ?_
          refine pureW 12 (some 56) (bm 14 8191) HT_ ?_
          refine last_ (i := 13) (N := none) (bm 14 16383) rfl rfl (one_of HT_.out (by kernel_rfl)) (by decide) (fun K hK => ?_)
          refine skip_ (w1 := ?_) (by rfl) rfl ?_ ?_
          rotate_left
          ·go_simp
           rfl
          refine hK.out _ _ ?_
          clear hK K
          refine doneW HT_ ?_
          try go_wp2
          (try simp only [← hl5_2])
          go_roundg k2
          case measure => have := HK1.out; have := HK2.out; omega
          case rel => exact ⟨(y385), (wrap64 (x26_2 + 1)), eqS, H', ⟨by have := HK1.out; have := HK2.out; omega⟩, ⟨by (try simp only [hl5_1]); (try simp only [hl5_2]); (with_reducible repeat (first | apply Kd.R_alloc | apply Kd.R_drewN | apply Kd.R_drew)); exact HQ44.out⟩, ⟨by (try simp only [hl5_1]); (try simp only [hl5_2]); (with_reducible repeat (first | apply Kd.R_alloc | apply Kd.R_drewN | apply Kd.R_drew)); exact Kd.R_mono (Kd.R_far (p := ⟨go10, ((Go.bits .or .i64 x21_1 (ji35)) : Int).toNat, none⟩) (Kd.R_mono HO_376001.out (fun k_ hk => (⟨hk, fun e_ => hk (by rw [e_]; rfl)⟩ : _ ∧ k_ ≠ go10))) (fun _ hk => hk.2) (.int .i64 (wrap64 ((rd x5_2 (Go.bits .or .i64 x21_1 (ji35))) + (rd x5_2 x21_1))))) (fun _ hk => hk.1)⟩, ⟨by (try simp only [hl5_1]); (try simp only [hl5_2]); (with_reducible repeat (first | refine blk_drewN ?_ _ | refine blk_drew ?_ | refine blk_alloc ?_ _)); refine blk_far ?_ (by have h_ := Kd.R_ne HO_5.out BK369.out (by decide); intro e_; exact h_ (by rw [e_]; rfl)) _; (with_reducible repeat (first | refine blk_drewN ?_ _ | refine blk_drew ?_ | refine blk_alloc ?_ _)); exact BK369.out⟩, ⟨by (try simp only [hl5_1]); (try simp only [hl5_2]); (with_reducible repeat (first | refine blk_drewN ?_ _ | refine blk_drew ?_ | refine blk_alloc ?_ _)); refine blk_far ?_ (by have h_ := Kd.R_ne HO_5.out BK375.out (by decide); intro e_; exact h_ (by rw [e_]; rfl)) _; (with_reducible repeat (first | refine blk_drewN ?_ _ | refine blk_drew ?_ | refine blk_alloc ?_ _)); exact BK375.out⟩, ⟨bel_g HB.out⟩⟩
         ·have c33b0 : ((Go.bits .andNot .i64 (rd t372 x26_2) x21_1) == 0) = false := beq_eq_false_iff_ne.mpr c33
          have c33b1 : ((Go.bits .andNot .i64 (rd t372 x26_2) x21_1) != 0) = true := bne_iff_ne.mpr c33
          have H' := mkA H
          clear H
          obtain ⟨hcz46_0, hcz46_1, hfz46_0, hfz46_1⟩ := blk2 BK375
          have p382 : 0 ≤ (x26_2 : Int) := ofd
          have q382 : x26_2 < (t372.length : Int) := ofd
          obtain ⟨ad382, e382, hx382_0⟩ := Kd.at_int (Kd.R_reads' HO_376001.out).2.2 x26_2 p382 q382
          cases e382
          replace p382 := eq_true p382
          replace q382 := eq_true q382
          go_wp2
          (try simp only [← hl5_2])
          go_roundg k2
          case measure => have := HK1.out; have := HK2.out; omega
          case rel => exact ⟨(x5_2), (wrap64 (x26_2 + 1)), eqS, H', ⟨by have := HK1.out; have := HK2.out; omega⟩, ⟨by (try simp only [hl5_1]); (try simp only [hl5_2]); (with_reducible repeat (first | apply Kd.R_alloc | apply Kd.R_drewN | apply Kd.R_drew)); exact HO_5.out⟩, ⟨by (try simp only [hl5_1]); (try simp only [hl5_2]); (with_reducible repeat (first | apply Kd.R_alloc | apply Kd.R_drewN | apply Kd.R_drew)); exact HO_376001.out⟩, ⟨by (try simp only [hl5_1]); (try simp only [hl5_2]); (with_reducible repeat (first | refine blk_drewN ?_ _ | refine blk_drew ?_ | refine blk_alloc ?_ _)); exact BK369.out⟩, ⟨by (try simp only [hl5_1]); (try simp only [hl5_2]); (with_reducible repeat (first | refine blk_drewN ?_ _ | refine blk_drew ?_ | refine blk_alloc ?_ _)); exact BK375.out⟩, ⟨bel_g HB.out⟩⟩
        ·have c31b0 : ((Go.bits .and .i64 (ji30) 1) == 0) = false := beq_eq_false_iff_ne.mpr c31
         have c31b1 : ((Go.bits .and .i64 (ji30) 1) != 0) = true := bne_iff_ne.mpr c31
         have H' := mkA H
         clear H
         go_wp2
         (try simp only [← hl5_2])
         go_roundg k2
         case measure => have := HK1.out; have := HK2.out; omega
         case rel => exact ⟨(x5_2), (wrap64 (x26_2 + 1)), eqS, H', ⟨by have := HK1.out; have := HK2.out; omega⟩, ⟨by (try simp only [hl5_1]); (try simp only [hl5_2]); (with_reducible repeat (first | apply Kd.R_alloc | apply Kd.R_drewN | apply Kd.R_drew)); exact HO_5.out⟩, ⟨by (try simp only [hl5_1]); (try simp only [hl5_2]); (with_reducible repeat (first | apply Kd.R_alloc | apply Kd.R_drewN | apply Kd.R_drew)); exact HO_376001.out⟩, ⟨by (try simp only [hl5_1]); (try simp only [hl5_2]); (with_reducible repeat (first | refine blk_drewN ?_ _ | refine blk_drew ?_ | refine blk_alloc ?_ _)); exact BK369.out⟩, ⟨by (try simp only [hl5_1]); (try simp only [hl5_2]); (with_reducible repeat (first | refine blk_drewN ?_ _ | refine blk_drew ?_ | refine blk_alloc ?_ _)); exact BK375.out⟩, ⟨bel_g HB.out⟩⟩
       ·have H' := mkA H
        clear H
        go_wp2
        (try simp only [← hl5_1, ← hl5_2])
        go_roundg k2
        case measure => have := HK1.out; have := HK2.out; omega
        case rel => exact ⟨(x5_2), (wrap64 (x21_1 + 1)), eqS, H', ⟨by have := HK1.out; have := HK2.out; omega⟩, ⟨by (try simp only [hl5_1]); (try simp only [hl5_2]); (with_reducible repeat (first | apply Kd.R_alloc | apply Kd.R_drewN | apply Kd.R_drew)); exact HO_5.out⟩, ⟨by (try simp only [hl5_1]); (try simp only [hl5_2]); (with_reducible repeat (first | apply Kd.R_alloc | apply Kd.R_drewN | apply Kd.R_drew)); exact HO_376001.out⟩, ⟨by (try simp only [hl5_1]); (try simp only [hl5_2]); (with_reducible repeat (first | refine blk_drewN ?_ _ | refine blk_drew ?_ | refine blk_alloc ?_ _)); exact BK369.out⟩, ⟨by (try simp only [hl5_1]); (try simp only [hl5_2]); (with_reducible repeat (first | refine blk_drewN ?_ _ | refine blk_drew ?_ | refine blk_alloc ?_ _)); exact BK375.out⟩, ⟨bel_g HB.out⟩⟩
    ·obtain ⟨t380, A47, H⟩ := obE H
     obtain ⟨c48, H⟩ := itNP H
     have c48b0 : decide (0 ≤ t380) = true := decide_eq_true c48
     clear c48
     obtain ⟨c49, H⟩ := itNP H
     have c49b0 : decide (t380 < (x5_1.length : Int)) = true := decide_eq_true c49
     clear c49
     simp only [Option.some.injEq, Prod.mk.injEq] at H
     obtain ⟨rfl, rfl⟩ := H
     obtain ⟨hcz51_0, hcz51_1, hfz51_0, hfz51_1⟩ := blk2 BK369
     go_wp2_with (first | ((with_reducible refine gate_callee (f := 22) rfl ?_); refine goesQ (some 61) Tryd.func22 #[.agg #[.int .i64 a0_0, .slice A0_1 l0_1.length c0_1]] ?_; (with_reducible refine (impl_Order_all.calls a0_0 _ _ l0_1 t380 _ ?s1 ?s2 A47.out).mono ?_); (case s1 => exact C_g HR0_1 HB); (case s2 => exact HC0_1.out); rintro e w52 ⟨rfl, hb⟩; refine ⟨_, rfl, ?_⟩; replace HO_5 := rB HO_5 hb; replace HO_376001 := rB HO_376001 hb; replace BK369 := blkB BK369 hb; replace BK375 := blkB BK375 hb; replace HB := bst HB hb; (try clear hb); (try clear hk); have p381 : 0 ≤ (t380 : Int) := ofd; have q381 : t380 < (x5_1.length : Int) := ofd; obtain ⟨ad381, e381, hx381_0⟩ := Kd.at_int (Kd.R_reads' HO_5.out).2.2 t380 p381 q381; obtain rfl : (⟨go10, 0, none⟩ : Addr) = ad381 := (by injection e381); (first | simp only [add_plain] at hx381_0 | simp only [add_at] at hx381_0 | simp only [Addr.add, Nat.zero_add] at hx381_0 | skip); replace p381 := eq_true p381; replace q381 := eq_true q381))
     go_ret2
     exact ⟨by first | rfl | (simp [errW_none, errW_some] <;> rfl) | (simp only [← hji6]; first | rfl | (simp [errW_none, errW_some] <;> rfl)) | (simp [*, errW_none, errW_some] <;> rfl), bel_g HB.out⟩
 ·replace c3 := Bool.eq_false_iff.mpr c3
  subst c3
  replace H := ifF H
  simp only [Option.some.injEq, Prod.mk.injEq] at H
  obtain ⟨rfl, rfl⟩ := H
  go_enter Tryd.func11, Tryd.ntmps11
  go_wp2_with (first | ((with_reducible refine gate_dst (N := 1) rfl ?_); refine boxE (N := 1) (cs := #[.int .i64 a0_0, .slice A0_1 l0_1.length c0_1]) (t := 26) ?_; intro gb369 hg w53 hbox hb; have BK369 := mkA (hbox); have GE369 := geB HB hg; replace HB := bst HB hb; clear hb hbox hg; obtain ⟨hcz54_0, hcz54_1, hfz54_0, hfz54_1⟩ := blk2 BK369) | ((with_reducible refine gate_callee (f := 20) rfl ?_); refine goesQ (some 9) Tryd.func20 #[.agg #[.int .i64 a0_0, .slice A0_1 l0_1.length c0_1]] ?_; (with_reducible refine (impl_IsOrder.calls k a0_0 _ _ l0_1 false _ ?s1 ?s2 ?s3 A2.out).mono ?_); (case s1 => exact C_g HR0_1 HB); (case s2 => exact HC0_1.out); (case s3 => exact Tab.below HTAB.out (bel_g HB.out)); rintro e w55 ⟨rfl, hb⟩; refine ⟨_, rfl, ?_⟩; replace BK369 := blkB BK369 hb; replace HB := bst HB hb; (try clear hb); (try clear hk)))
  go_ret2
  exact ⟨eqE, bel_g HB.out⟩
end Go.Proofs.YtgdnljpallpjiaaDoor.Q
