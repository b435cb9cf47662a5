import Derived.Test.YtgdnljpallpjiaaDoorBFnExtensions17
namespace Go.Proofs.YtgdnljpallpjiaaDoor.Q
open Go.RowKit Go.Proofs.YtgdnljpallpjiaaDoorW.PrintWords Go.Proofs.YtgdnljpallpjiaaDoorW.PrintLast Go.Proofs.YtgdnljpallpjiaaDoorW.PrintMore
attribute [local go_sem] max2_int min2_int max_two min_two max_three min_three max_four min_four neB_f
set_option linter.unusedVariables false
set_option maxHeartbeats 8000000
set_option maxRecDepth 100000
set_option linter.unusedSimpArgs false
mutual
def spec_orCount.l0 : Nat → List Int → Int → Int → Int → List Int → Option (List Int)
 | 0, _, _, _, _, _ => none
 | k + 1, x3, x13, x14, x390000, x390001 => if x14 < x13 then (spec_orCount.l1 k x3 x14 0 x13 x14 x390000 x390001) else (some x3)
def spec_orCount.l1 : Nat → List Int → Int → Int → Int → Int → Int → List Int → Option (List Int)
 | 0, _, _, _, _, _, _, _ => none
 | k + 1, x3, x4, x5, x13, x14, x390000, x390001 => if x5 < x390000 then ((spec_orHas.f x4 x5).bind fun t394 => (if t394 = true then (spec_orCount.l1 k x3 x4 (wrap64 (x5 + 1)) x13 x14 x390000 x390001) else ((spec_orBelow.f k x390000 x390001 x5).bind fun t395 => (if (Go.bits .andNot .i64 t395 x4) = 0 then (if 0 ≤ x5 then (if 0 ≤ (Go.bits .or .i64 x4 (shl .i64 1 x5)) then (if (Go.bits .or .i64 x4 (shl .i64 1 x5)) < (x3.length : Int) then (if 0 ≤ x4 then (if x4 < (x3.length : Int) then (spec_orCount.l1 k (x3.set ((Go.bits .or .i64 x4 (shl .i64 1 x5)) : Int).toNat (wrap64 ((rd x3 (Go.bits .or .i64 x4 (shl .i64 1 x5))) + (rd x3 x4)))) x4 (wrap64 (x5 + 1)) x13 x14 x390000 x390001) else (none)) else (none)) else (none)) else (none)) else (none)) else (spec_orCount.l1 k x3 x4 (wrap64 (x5 + 1)) x13 x14 x390000 x390001))))) else (spec_orCount.l0 k x3 x13 (wrap64 (x14 + 1)) x390000 x390001)
end
def spec_orCount.f (k : Nat) (a0_0 : Int) (l0_1 : List Int) : Option (List Int) := if 0 ≤ a0_0 then (if 0 ≤ (shl .i64 1 a0_0) then (if (shl .i64 1 a0_0 : Int).toNat ≤ 35184372088832 then ((some (List.replicate (shl .i64 1 a0_0 : Int).toNat 0 : List Int)).bind fun y390 => (if 0 < (y390.length : Int) then (spec_orCount.l0 k (y390.set (0 : Int).toNat 1) (y390.length : Int) 0 a0_0 l0_1) else (none))) else (none)) else (none)) else (none)
theorem spec_orCount.mono_l : ∀ k, (∀ y0 y1 y2 y3 y4, LeO (spec_orCount.l0 k y0 y1 y2 y3 y4) (spec_orCount.l0 (k + 1) y0 y1 y2 y3 y4)) ∧ (∀ y0 y1 y2 y3 y4 y5 y6, LeO (spec_orCount.l1 k y0 y1 y2 y3 y4 y5 y6) (spec_orCount.l1 (k + 1) y0 y1 y2 y3 y4 y5 y6))
 | 0 => ⟨fun _ _ _ _ _ r h => by simp [spec_orCount.l0] at h, fun _ _ _ _ _ _ _ r h => by simp [spec_orCount.l1] at h⟩
 | k + 1 => by
  obtain ⟨ih0, ih1⟩ := spec_orCount.mono_l k
  refine ⟨?_, ?_⟩ <;> intros
  unfold spec_orCount.l0
  rotate_left
  unfold spec_orCount.l1
  rotate_left
  all_goals repeat' (with_reducible first|exact ih0 _ _ _ _ _|exact ih1 _ _ _ _ _ _ _|exact spec_orBelow.mono _ _ _ _|exact LeO.refl _|exact LeO.none _|refine LeO.ite ?_ ?_|refine LeO.bind ?_ (fun _ => ?_))
theorem spec_orCount.mono : ∀ a0 a1 k, LeO (spec_orCount.f k a0 a1) (spec_orCount.f (k + 1) a0 a1) := by
 intro a0 a1 k
 obtain ⟨ih0, ih1⟩ := spec_orCount.mono_l k
 unfold spec_orCount.f
 repeat' (with_reducible first|exact ih0 _ _ _ _ _|exact ih1 _ _ _ _ _ _ _|exact spec_orBelow.mono _ _ _ _|exact LeO.refl _|exact LeO.none _|refine LeO.ite ?_ ?_|refine LeO.bind ?_ (fun _ => ?_))
def spec_orCount.T10 : Bool × List (List Nat × List Nat) := (true, [([], []), ([], []), ([], []), ([2], [2]), ([1, 3], [1, 3]), ([0, 4], [0, 4]), ([5], [5]), ([], []), ([], []), ([7, 8], [7, 8]), ([9], [9]), ([6, 10], [6, 10]), ([0, 4, 0, 1, 2, 3, 4, 5, 6, 7, 8, 9, 10, 11], [0, 4]), ([12, 11, 0, 1, 2, 3, 4, 5, 6, 7, 8, 9, 10, 11], [11, 12])])
def spec_orCount.B10 : List Nat := [0, 0, 0, 4, 14, 31, 63, 0, 0, 384, 896, 2047, 4095, 8191]
theorem spec_orCount.tab10 : rtab .any (opsOf Tryd.f23 10) = spec_orCount.T10 := by kernel_rfl
theorem spec_orCount.bits10 : waitsOk spec_orCount.T10.2 spec_orCount.B10 = true := by kernel_rfl
theorem spec_orCount.calls (k : Nat) (a0_0 : Int) (A0_1 : Option Addr) (c0_1 : Nat) (l0_1 : List Int) (r : List Int) (w : World) (hr0_1 : Kd.C (Kd.int .i64) w A0_1 l0_1.length l0_1) (hc0_1 : l0_1.length ≤ c0_1) (h : spec_orCount.f k a0_0 l0_1 = some r) :
  Calls Tryd.prog 23 #[.agg #[.int .i64 a0_0, .slice A0_1 l0_1.length c0_1]] w fun e w' => ∃ v0_ : Value, e = .returned (v0_) ∧ Kd.R (Kd.int .i64) 3 w' w.heap.size (fun _ => True) v0_ r ∧ Below w.heap.size w w' := by
 have hu26 := Tryd.underlying26
 have HR0_1 := mkA hr0_1
 have HC0_1 := mkA hc0_1
 clear hr0_1 hc0_1
 have HB := mkA (Below.refl w.heap.size w)
 have H := h
 clear h
 unfold spec_orCount.f at H
 obtain ⟨c2, H⟩ := itNP H
 have c2b0 := eq_true c2
 have c2b1 : decide (0 ≤ a0_0) = true := decide_eq_true c2
 clear c2
 obtain ⟨ji3, hji3⟩ : ∃ j_ : Int, (shl .i64 1 a0_0) = j_ := ⟨_, rfl⟩
 replace H : (if 0 ≤ (ji3) then (if (ji3 : Int).toNat ≤ 35184372088832 then ((some (List.replicate (ji3 : Int).toNat 0 : List Int)).bind fun y390 => (if 0 < (y390.length : Int) then (spec_orCount.l0 k (y390.set (0 : Int).toNat 1) (y390.length : Int) 0 a0_0 l0_1) else (none))) else (none)) else (none)) = some r := by first | (rw [hji3] at H; exact H) | (simp only [hji3] at H ⊢; exact H)
 have hji3_ : (IntKind.i64.wrap (1 * 2 ^ min a0_0.toNat 64)) = ji3 := hji3
 have hji3z : a0_0 ≤ 64 → (IntKind.i64.wrap (1 * 2 ^ a0_0.toNat)) = ji3 := shl_small hji3
 have hji3u : (IntKind.i64.wrap (2 ^ min a0_0.toNat 64)) = ji3 := by have h_ := hji3_; rw [Int.one_mul] at h_; exact h_
 have hji3v : a0_0 ≤ 64 → (IntKind.i64.wrap (2 ^ a0_0.toNat)) = ji3 := fun hle_ => by have h_ := hji3z hle_; rw [Int.one_mul] at h_; exact h_
 have hji3y : (wrap64 (1 * 2 ^ min a0_0.toNat 64)) = ji3 := (i64_w _).symm.trans hji3_
 have hji3x : a0_0 ≤ 64 → (wrap64 (1 * 2 ^ a0_0.toNat)) = ji3 := fun h_ => (i64_w _).symm.trans (hji3z h_)
 obtain ⟨c4, H⟩ := itNP H
 have c4b0 := eq_true c4
 have c4b1 : decide (0 ≤ (ji3)) = true := decide_eq_true c4
 clear c4
 obtain ⟨c5, H⟩ := itNP H
 have c5b0 := eq_true c5
 have c5b1 : decide ((ji3 : Int).toNat ≤ 35184372088832) = true := decide_eq_true c5
 clear c5
 obtain ⟨y390, hy390⟩ : ∃ y_ : List Int, y_ = (List.replicate (ji3 : Int).toNat 0) := ⟨_, rfl⟩
 replace H : (if 0 < (y390.length : Int) then (spec_orCount.l0 k (y390.set (0 : Int).toNat 1) (y390.length : Int) 0 a0_0 l0_1) else (none)) = some r := by first | (rw [hy390]; with_reducible exact H) | (have H2_ := (Option.bind_some _ _).symm.trans H; rw [hy390]; with_reducible exact H2_) | (have H2_ := (Option.bind_some _ _).symm.trans H; with_reducible exact H2_) | with_reducible exact H | (rw [hy390]; exact H) | exact H
 have Ny390 := mkA hy390
 clear hy390
 obtain ⟨c6, H⟩ := itNP H
 have c6b0 : decide (0 < (y390.length : Int)) = true := decide_eq_true c6
 have c6b1 : decide (0 < y390.length) = true := decide_eq_true (by omega)
 clear c6
 obtain ⟨y393, hy393⟩ : ∃ y_ : List Int, y_ = (y390.set (0 : Int).toNat 1) := ⟨_, rfl⟩
 replace H : (spec_orCount.l0 k y393 (y390.length : Int) 0 a0_0 l0_1) = some r := by first | (rw [hy393]; with_reducible exact H) | (have H2_ := (Option.bind_some _ _).symm.trans H; rw [hy393]; with_reducible exact H2_) | (have H2_ := (Option.bind_some _ _).symm.trans H; with_reducible exact H2_) | with_reducible exact H | (rw [hy393]; exact H) | exact H
 have Ny393 := mkA hy393
 clear hy393
 have H' := mkA H
 clear H
 go_enter Tryd.func23, Tryd.ntmps23
 go_wp2_with (first | ((with_reducible refine gate_dst (N := 1) rfl ?_); refine boxE (N := 1) (cs := #[.int .i64 a0_0, .slice A0_1 l0_1.length c0_1]) (t := 26) ?_; intro gb389 hg w8 hbox hb; have BK389 := mkA (hbox); have GE389 := geB HB hg; replace HB := bst HB hb; clear hb hbox hg; obtain ⟨hcz9_0, hcz9_1, hfz9_0, hfz9_1⟩ := blk2 BK389) | ((with_reducible refine gate_dst (N := 9) rfl ?_); refine Kd.R_make (Kd.int .i64) _ 3 rfl (N := 9) rfl 24 _ _ rfl ji3 rfl rfl Tryd.underlying24 (.int .i64 0) 8 info3 rfl (by decide) (by omega) 0 (ok := fun _ => True) (okp := fun _ => True) rfl (fun _ hk => hk) trivial (ofd) (Nat.le_trans (Nat.mul_le_mul_right _ (ofd : ji3.toNat ≤ 35184372088832)) (by omega)) (Below.refl _ _) (Nat.le_refl _) ?_; intro v391 w10 ho11 hb hg_ hnew_; clear hg_ hnew_; (first | rw [← Ny390.out] at ho11 | (simp only [Int.reduceToNat] at ho11; rw [← Ny390.out] at ho11)); have HO392 := mkA (Kd.R_lower ho11 (below_size (bel_g HB.out))); replace BK389 := blkB BK389 hb; replace HB := bst HB hb; clear hb ho11; have p7 : 0 ≤ (0 : Int) := (by omega); have q7 : (0 : Int) < ((y390.length : Int) : Int) := ofd; have qi7 : (0 < y390.length) = True := eq_true (by omega); obtain ⟨go7, co7, eo7, gb7, gl7, cl7, HG7⟩ := Kd.R_form HO392.out (by omega); (first | cases eo7 | (injection eo7 with ea_ en_ ec_; (first | subst ea_ | (injection ea_ with ea_; subst ea_)); subst ec_; clear en_)); have GB7 : Ge _ _ := ⟨gb7⟩; have GG7 := mkA HG7; clear gb7 gl7 HG7; obtain ⟨hx7_0, hf7_0⟩ := Kd.R_celln 0 HO392.out (0 : Int) p7 q7; (try rw [show ((0 : Int)).toNat = 0 from rfl] at hx7_0); (try simp only [Nat.reduceMul, Nat.zero_mul, Nat.zero_add, Nat.reduceAdd] at hx7_0); (try rw [show ((0 : Int)).toNat = 0 from rfl] at hf7_0); (try simp only [Nat.reduceMul, Nat.zero_mul, Nat.zero_add, Nat.reduceAdd] at hf7_0); replace p7 := eq_true p7; replace q7 := eq_true q7; obtain ⟨hy12_, hz12_⟩ := Kd.R_celln 0 HO392.out (0 : Int) (by omega) (ofd); (try simp only [Int.reduceToNat, Int.toNat_zero, Int.toNat_ofNat, Nat.reduceMul, Nat.zero_mul, Nat.zero_add] at hy12_ hz12_); (try rw [show ((0 : Int)).toNat = 0 from rfl] at hy12_); (try rw [show ((0 : Int)).toNat = 0 from rfl] at hz12_); have HP12 := Kd.R_putg HO392.out (0 : Int) 1) | ((with_reducible refine gate_store (t := 3) (p := 11) rfl ?_); refine store_event (t := 3) (p := 11) (v := ?vo_w13) (w1 := (w10.setCell ⟨go7, (0 : Int).toNat, none⟩ (.int .i64 1))) ?hg ?ho ?hn ?hr ?_; (case ho => rfl); (case hg => rfl); (case hn => rfl); (case hr => first | (go_simp; done) | (go_simp; rfl)); intro w13 hw; have hg : w10.grownBy w13 (some go7) := (by rw [hw]; exact HP12.2); have hp_ : Kd.R (Kd.int .i64) 3 w13 w.heap.size (fun _ => True) (.slice (some ⟨go7, 0, none⟩) y390.length co7) y393 := (by rw [hw, Ny393.out]; exact HP12.1); clear HP12; replace BK389 := mkA (blk_grown (g := gb389) (o := .cells #[.int .i64 a0_0, .slice A0_1 l0_1.length c0_1] 26 (0, 0)) (blk_g BK389.out) hg (Kd.R_ne HO392.out BK389.out (by decide))); replace HO392 := mkA (hp_); replace HB := mkA ((by rw [hw]; exact below_set (HB.out) GB7.out : Below w.heap.size w w13)); clear hg hw hp_))
 go_loopg [14] k (fun kq v14 w' => ∃ (x3_1 : List Int) (x14_1 : Int), v14 = .int .i64 x14_1 ∧ Fc (spec_orCount.l0 kq x3_1 (y390.length : Int) x14_1 a0_0 l0_1 = some r) ∧ Fc (kq ≤ k) ∧ Fc (Kd.R (Kd.int .i64) 3 w' w.heap.size (fun _ => True) (.slice (some ⟨go7, 0, none⟩) y390.length co7) x3_1) ∧ Fc (w'.heap[gb389]? = some (.cells #[.int .i64 a0_0, (.slice A0_1 l0_1.length c0_1)] 26 (0, 0))) ∧ Fc (Below w.heap.size w w'))
 case atStart => exact ⟨(y393), (0), eqS, H', ⟨Nat.le_refl _⟩, ⟨Kd.R_g HO392.out⟩, ⟨blk_g BK389.out⟩, ⟨bel_g HB.out⟩⟩
 case round =>
  clear H'
  try clear c2
  try clear c2b0
  try clear c2b1
  try clear c4
  try clear c4b0
  try clear c4b1
  try clear c5
  try clear c5b0
  try clear c5b1
  try clear c6
  try clear c6b0
  try clear c6b1
  try clear p7
  try clear q7
  try clear qi7
  try clear hx7_0
  try clear p7
  try clear q7
  obtain ⟨x3_1, x14_1, rfl, HA, HK1, HO_3, BK389, HB⟩ := hrel
  have hl3_1 := (Kd.R_reads' HO_3.out).1
  rw [hl3_1] at HO_3
  (try simp only [hl3_1])
  (try simp only [hl3_1] at BK389)
  cases gk with
  | zero => exact absurd HA.out (by simp [spec_orCount.l0])
  | succ k1 =>
   have H := HA.out
   clear HA
   simp only [spec_orCount.l0] at H
   rcases iteE H with ⟨c14b0, H⟩ | ⟨c14b0, H⟩ <;> try rw [hl3_1] at c14b0
   ·have H' := mkA H
    clear H
    go_wp2
    go_loopg [5] k1 (fun kq v5 w' => ∃ (x3_2 : List Int) (x5_2 : Int), v5 = .int .i64 x5_2 ∧ Fc (spec_orCount.l1 kq x3_2 x14_1 x5_2 (y390.length : Int) x14_1 a0_0 l0_1 = some r) ∧ Fc (kq ≤ k1) ∧ Fc (Kd.R (Kd.int .i64) 3 w' w.heap.size (fun _ => True) (.slice (some ⟨go7, 0, none⟩) x3_1.length co7) x3_2) ∧ Fc (w'.heap[gb389]? = some (.cells #[.int .i64 a0_0, (.slice A0_1 l0_1.length c0_1)] 26 (0, 0))) ∧ Fc (Below w.heap.size w w'))
    case atStart => exact ⟨(x3_1), (0), eqS, H', ⟨Nat.le_refl _⟩, ⟨by (try simp only [hl3_1]); (with_reducible repeat (first | apply Kd.R_alloc | apply Kd.R_drewN | apply Kd.R_drew)); exact HO_3.out⟩, ⟨by (try simp only [hl3_1]); (with_reducible repeat (first | refine blk_drewN ?_ _ | refine blk_drew ?_ | refine blk_alloc ?_ _)); exact BK389.out⟩, ⟨bel_g HB.out⟩⟩
    case round =>
     clear H'
     try clear c2
     try clear c2b0
     try clear c2b1
     try clear c4
     try clear c4b0
     try clear c4b1
     try clear c5
     try clear c5b0
     try clear c5b1
     try clear c6
     try clear c6b0
     try clear c6b1
     try clear p7
     try clear q7
     try clear qi7
     try clear c14b0
     try clear hx7_0
     try clear p7
     try clear q7
     obtain ⟨x3_2, x5_2, rfl, HA, HK2, HO_3, BK389, HB⟩ := hrel
     have hl3_2 := (Kd.R_reads' HO_3.out).1
     rw [hl3_2] at HO_3
     (try simp only [hl3_2])
     (try simp only [hl3_2] at BK389)
     cases gk with
     | zero => exact absurd HA.out (by simp [spec_orCount.l1])
     | succ k2 =>
      have H := HA.out
      clear HA
      simp only [spec_orCount.l1] at H
      rcases iteE H with ⟨c15b0, H⟩ | ⟨c15b0, H⟩ <;> try rw [hl3_2] at c15b0
      ·obtain ⟨t394, A16, H⟩ := obE H
       by_cases c17 : t394 = true
       ·subst c17
        replace H := ifT H
        have H' := mkA H
        clear H
        obtain ⟨hcz18_0, hcz18_1, hfz18_0, hfz18_1⟩ := blk2 BK389
        go_wp2_with (first | ((with_reducible refine gate_callee (f := 33) rfl ?_); refine goesQ (some 25) Tryd.func33 #[.int .i64 x14_1, .int .i64 x5_2] ?_; (with_reducible refine (spec_orHas.calls x14_1 x5_2 true _ A16.out).mono ?_); rintro e w' ⟨rfl, ⟨nd, rfl⟩⟩; refine ⟨_, rfl, ?_⟩))
        (try simp only [← hl3_2])
        go_roundg k2
        case measure => have := HK1.out; have := HK2.out; omega
        case rel => exact ⟨(x3_2), (wrap64 (x5_2 + 1)), eqS, H', ⟨by have := HK1.out; have := HK2.out; omega⟩, ⟨by (try simp only [hl3_1]); (try simp only [hl3_2]); (with_reducible repeat (first | apply Kd.R_alloc | apply Kd.R_drewN | apply Kd.R_drew)); exact HO_3.out⟩, ⟨by (try simp only [hl3_1]); (try simp only [hl3_2]); (with_reducible repeat (first | refine blk_drewN ?_ _ | refine blk_drew ?_ | refine blk_alloc ?_ _)); exact BK389.out⟩, ⟨bel_g HB.out⟩⟩
       ·replace c17 := Bool.eq_false_iff.mpr c17
        subst c17
        replace H := ifF H
        obtain ⟨t395, A19, H⟩ := obE H
        rcases iteP H with ⟨c20, H⟩ | ⟨c20, H⟩
        ·have c20b0 : ((Go.bits .andNot .i64 t395 x14_1) == 0) = true := beq_iff_eq.mpr c20
         have c20b1 : ((Go.bits .andNot .i64 t395 x14_1) != 0) = false := bne_eq_false_iff_eq.mpr c20
         clear c20
         obtain ⟨c21, H⟩ := itNP H
         have c21b0 := eq_true c21
         have c21b1 : decide (0 ≤ x5_2) = true := decide_eq_true c21
         clear c21
         obtain ⟨ji22, hji22⟩ : ∃ j_ : Int, (shl .i64 1 x5_2) = j_ := ⟨_, rfl⟩
         replace H : (if 0 ≤ (Go.bits .or .i64 x14_1 (ji22)) then (if (Go.bits .or .i64 x14_1 (ji22)) < (x3_2.length : Int) then (if 0 ≤ x14_1 then (if x14_1 < (x3_2.length : Int) then (spec_orCount.l1 k2 (x3_2.set ((Go.bits .or .i64 x14_1 (ji22)) : Int).toNat (wrap64 ((rd x3_2 (Go.bits .or .i64 x14_1 (ji22))) + (rd x3_2 x14_1)))) x14_1 (wrap64 (x5_2 + 1)) (y390.length : Int) x14_1 a0_0 l0_1) else (none)) else (none)) else (none)) else (none)) = some r := by first | (rw [hji22] at H; exact H) | (simp only [hji22] at H ⊢; exact H)
         (try rw [hji22] at A16)
         (try rw [hji22] at A19)
         have hji22_ : (IntKind.i64.wrap (1 * 2 ^ min x5_2.toNat 64)) = ji22 := hji22
         have hji22z : x5_2 ≤ 64 → (IntKind.i64.wrap (1 * 2 ^ x5_2.toNat)) = ji22 := shl_small hji22
         have hji22u : (IntKind.i64.wrap (2 ^ min x5_2.toNat 64)) = ji22 := by have h_ := hji22_; rw [Int.one_mul] at h_; exact h_
         have hji22v : x5_2 ≤ 64 → (IntKind.i64.wrap (2 ^ x5_2.toNat)) = ji22 := fun hle_ => by have h_ := hji22z hle_; rw [Int.one_mul] at h_; exact h_
         have hji22y : (wrap64 (1 * 2 ^ min x5_2.toNat 64)) = ji22 := (i64_w _).symm.trans hji22_
         have hji22x : x5_2 ≤ 64 → (wrap64 (1 * 2 ^ x5_2.toNat)) = ji22 := fun h_ => (i64_w _).symm.trans (hji22z h_)
         obtain ⟨c23, H⟩ := itNP H
         have c23b0 : decide (0 ≤ (Go.bits .or .i64 x14_1 (ji22))) = true := decide_eq_true c23
         clear c23
         obtain ⟨c24, H⟩ := itNP H
         have c24b0 : decide ((Go.bits .or .i64 x14_1 (ji22)) < (x3_2.length : Int)) = true := decide_eq_true c24
         clear c24
         obtain ⟨c25, H⟩ := itNP H
         have c25b0 : decide (0 ≤ x14_1) = true := decide_eq_true c25
         clear c25
         obtain ⟨c26, H⟩ := itNP H
         have c26b0 : decide (x14_1 < (x3_2.length : Int)) = true := decide_eq_true c26
         clear c26
         obtain ⟨y398, hy398⟩ : ∃ y_ : List Int, y_ = (x3_2.set ((Go.bits .or .i64 x14_1 (ji22)) : Int).toNat (wrap64 ((rd x3_2 (Go.bits .or .i64 x14_1 (ji22))) + (rd x3_2 x14_1)))) := ⟨_, rfl⟩
         replace H : (spec_orCount.l1 k2 y398 x14_1 (wrap64 (x5_2 + 1)) (y390.length : Int) x14_1 a0_0 l0_1) = some r := by first | (rw [hy398]; with_reducible exact H) | (have H2_ := (Option.bind_some _ _).symm.trans H; rw [hy398]; with_reducible exact H2_) | (have H2_ := (Option.bind_some _ _).symm.trans H; with_reducible exact H2_) | with_reducible exact H | (rw [hy398]; exact H) | exact H
         have Ny398 := mkA hy398
         clear hy398
         have H' := mkA H
         clear H
         obtain ⟨hcz28_0, hcz28_1, hfz28_0, hfz28_1⟩ := blk2 BK389
         try go_wp2_with (first | ((with_reducible refine gate_callee (f := 33) rfl ?_); refine goesQ (some 25) Tryd.func33 #[.int .i64 x14_1, .int .i64 x5_2] ?_; (with_reducible refine (spec_orHas.calls x14_1 x5_2 false _ A16.out).mono ?_); rintro e w' ⟨rfl, ⟨nd, rfl⟩⟩; refine ⟨_, rfl, ?_⟩; (try (rw [drewN_self wr]; generalize hq_ : World.drewN wr _ = wr; have n0_ : Fc (Kd.R (Kd.int .i64) 3 wr w.heap.size (fun _ => True) (.slice (some ⟨go7, 0, none⟩) x3_2.length co7) x3_2) := ⟨by rw [← hq_]; exact (Kd.R_g HO_3.out)⟩; have n1_ : Fc (wr.heap[gb389]? = some (.cells #[.int .i64 a0_0, .slice A0_1 l0_1.length c0_1] 26 (0, 0))) := ⟨by rw [← hq_]; exact (blk_g BK389.out)⟩; have n2_ : Fc (Below w.heap.size w wr) := ⟨by rw [← hq_]; exact (bel_g HB.out)⟩; clear HO_3 BK389 HB hq_; have HO_3 := n0_; have BK389 := n1_; have HB := n2_; clear n0_ n1_ n2_)); (try obtain ⟨_, _, _, _⟩ := blk2 BK389)) | (go_at_call 38; (with_reducible refine (spec_orBelow.calls k2 a0_0 _ _ l0_1 x5_2 t395 _ ?s1 ?s2 A19.out).mono ?_); (case s1 => exact C_g HR0_1 HB); (case s2 => exact HC0_1.out); rintro e w29 ⟨rfl, hb⟩; replace HO_3 := rB HO_3 hb; replace BK389 := blkB BK389 hb; replace HB := bst HB hb; (try clear hb); (try clear hk)))
         replace HO_3 := mkA (Kd.R_drew HO_3.out)
         replace BK389 := mkA (blk_drew BK389.out)
         replace HB := mkA (below_drew1 HB.out)
         have p396 : 0 ≤ ((Go.bits .or .i64 x14_1 (ji22)) : Int) := ofd
         have q396 : (Go.bits .or .i64 x14_1 (ji22)) < (x3_2.length : Int) := ofd
         obtain ⟨ad396, e396, hx396_0⟩ := Kd.at_int (Kd.R_reads' HO_3.out).2.2 (Go.bits .or .i64 x14_1 (ji22)) p396 q396
         obtain rfl : (⟨go7, 0, none⟩ : Addr) = ad396 := (by injection e396)
         (first | simp only [add_plain] at hx396_0 | simp only [add_at] at hx396_0 | simp only [Addr.add, Nat.zero_add] at hx396_0 | skip)
         replace p396 := eq_true p396
         replace q396 := eq_true q396
         have p397 : 0 ≤ (x14_1 : Int) := ofd
         have q397 : x14_1 < (x3_2.length : Int) := ofd
         obtain ⟨ad397, e397, hx397_0⟩ := Kd.at_int (Kd.R_reads' HO_3.out).2.2 x14_1 p397 q397
         obtain rfl : (⟨go7, 0, none⟩ : Addr) = ad397 := (by injection e397)
         (first | simp only [add_plain] at hx397_0 | simp only [add_at] at hx397_0 | simp only [Addr.add, Nat.zero_add] at hx397_0 | skip)
         replace p397 := eq_true p397
         replace q397 := eq_true q397
         have p27 : 0 ≤ ((Go.bits .or .i64 x14_1 (ji22)) : Int) := ofd
         have q27 : ((Go.bits .or .i64 x14_1 (ji22)) : Int) < ((x3_2.length : Int) : Int) := ofd
         obtain ⟨hx27_0, hf27_0⟩ := Kd.R_celln 0 HO_3.out ((Go.bits .or .i64 x14_1 (ji22)) : Int) p27 q27
         replace p27 := eq_true p27
         replace q27 := eq_true q27
         have HP31 := Kd.R_putn HO_3.out ((Go.bits .or .i64 x14_1 (ji22)) : Int) (wrap64 ((rd x3_2 (Go.bits .or .i64 x14_1 (ji22))) + (rd x3_2 x14_1)))
         rw [← Ny398.out] at HP31
         have HQ31 := mkA HP31
         clear HP31
         refine start_ (n := 14) (S := fun w' => w'.cell? ⟨go7, ((Go.bits .or .i64 x14_1 (ji22))).toNat, none⟩ = some (.int .i64 (rd x3_2 (Go.bits .or .i64 x14_1 (ji22)))) ∧ w'.cell? ⟨go7, (x14_1).toNat, none⟩ = some (.int .i64 (rd x3_2 x14_1))) (ds := [13]) (bm 14 0) (by kernel_rfl) rfl rfl ⟨hx396_0, hx397_0⟩ (fun hHeld => ?_); refine with_tabW spec_orCount.tab10 spec_orCount.bits10 (fun HT_ HW_ => ?_)
         generalize w29.drew = w30 at HO_3 BK389 HB HQ31 hf27_0 hx27_0 hx396_0 hx397_0 hHeld ⊢
         refine pureW 0 (some 35) (bm 14 1) HT_ ?_
         refine pureW 1 (some 36) (bm 14 3) HT_ ?_
         refine pureW 2 (some 37) (bm 14 7) HT_ ?_
         refine pureW 3 (some 38) (bm 14 15) HT_ ?_
         refine pureW 4 (some 39) (bm 14 31) HT_ ?_
         refine pureW 5 (some 40) (bm 14 63) HT_ ?_
         refine pureW 7 (some 42) (bm 14 191) HT_ ?_
         refine pureW 8 (some 43) (bm 14 447) HT_ ?_
         refine pureW 9 (some 44) (bm 14 959) HT_ ?_
         refine takeW 6 (some 41) (bm 14 1023) HT_ HW_ hHeld ?_
         refine takeW 10 (some 45) (bm 14 2047) HT_ HW_ hHeld ?_
         refine pureW 11 (some 46) (bm 14 4095) HT_ ?_
         refine pureW 12 (some 47) (bm 14 8191) HT_ ?_
         refine last_ (i := 13) (N := none) (bm 14 16383) rfl rfl (one_of HT_.out (by kernel_rfl)) (by decide) (fun K hK => ?_)
         refine skip_ (w1 := ?_) (by rfl) rfl ?_ ?_
         rotate_left
         ·go_simp
          rfl
         refine hK.out _ _ ?_
         clear hK K
         refine doneW HT_ ?_
         try go_wp2
         (try simp only [← hl3_2])
         go_roundg k2
         case measure => have := HK1.out; have := HK2.out; omega
         case rel => exact ⟨(y398), (wrap64 (x5_2 + 1)), eqS, H', ⟨by have := HK1.out; have := HK2.out; omega⟩, ⟨by (try simp only [hl3_1]); (try simp only [hl3_2]); (with_reducible repeat (first | apply Kd.R_alloc | apply Kd.R_drewN | apply Kd.R_drew)); exact HQ31.out⟩, ⟨by (try simp only [hl3_1]); (try simp only [hl3_2]); (with_reducible repeat (first | refine blk_drewN ?_ _ | refine blk_drew ?_ | refine blk_alloc ?_ _)); refine blk_far ?_ (by have h_ := Kd.R_ne HO_3.out BK389.out (by decide); intro e_; exact h_ (by rw [e_]; rfl)) _; (with_reducible repeat (first | refine blk_drewN ?_ _ | refine blk_drew ?_ | refine blk_alloc ?_ _)); exact BK389.out⟩, ⟨bel_g HB.out⟩⟩
        ·have c20b0 : ((Go.bits .andNot .i64 t395 x14_1) == 0) = false := beq_eq_false_iff_ne.mpr c20
         have c20b1 : ((Go.bits .andNot .i64 t395 x14_1) != 0) = true := bne_iff_ne.mpr c20
         have H' := mkA H
         clear H
         obtain ⟨hcz32_0, hcz32_1, hfz32_0, hfz32_1⟩ := blk2 BK389
         go_wp2_with (first | ((with_reducible refine gate_callee (f := 33) rfl ?_); refine goesQ (some 25) Tryd.func33 #[.int .i64 x14_1, .int .i64 x5_2] ?_; (with_reducible refine (spec_orHas.calls x14_1 x5_2 false _ A16.out).mono ?_); rintro e w' ⟨rfl, ⟨nd, rfl⟩⟩; refine ⟨_, rfl, ?_⟩) | (go_at_call 38; (with_reducible refine (spec_orBelow.calls k2 a0_0 _ _ l0_1 x5_2 t395 _ ?s1 ?s2 A19.out).mono ?_); (case s1 => repeat (first | exact (Kd.C_below HR0_1.out (bel_g HB.out)) | (with_reducible refine Kd.C_alloc ?_ _) | (with_reducible refine Kd.C_drewN ?_ _) | (with_reducible refine Kd.C_drew ?_))); (case s2 => exact HC0_1.out); rintro e w33 ⟨rfl, hb⟩; replace HO_3 := rB HO_3 hb; replace BK389 := blkB BK389 hb; replace HB := bst HB hb; (try clear hb); (try clear hk)))
         (try simp only [← hl3_2])
         go_roundg k2
         case measure => have := HK1.out; have := HK2.out; omega
         case rel => exact ⟨(x3_2), (wrap64 (x5_2 + 1)), eqS, H', ⟨by have := HK1.out; have := HK2.out; omega⟩, ⟨by (try simp only [hl3_1]); (try simp only [hl3_2]); (with_reducible repeat (first | apply Kd.R_alloc | apply Kd.R_drewN | apply Kd.R_drew)); exact HO_3.out⟩, ⟨by (try simp only [hl3_1]); (try simp only [hl3_2]); (with_reducible repeat (first | refine blk_drewN ?_ _ | refine blk_drew ?_ | refine blk_alloc ?_ _)); exact BK389.out⟩, ⟨bel_g HB.out⟩⟩
      ·have H' := mkA H
       clear H
       obtain ⟨hcz34_0, hcz34_1, hfz34_0, hfz34_1⟩ := blk2 BK389
       go_wp2
       (try simp only [← hl3_1, ← hl3_2])
       go_roundg k2
       case measure => have := HK1.out; have := HK2.out; omega
       case rel => exact ⟨(x3_2), (wrap64 (x14_1 + 1)), eqS, H', ⟨by have := HK1.out; have := HK2.out; omega⟩, ⟨by (try simp only [hl3_1]); (try simp only [hl3_2]); (with_reducible repeat (first | apply Kd.R_alloc | apply Kd.R_drewN | apply Kd.R_drew)); exact HO_3.out⟩, ⟨by (try simp only [hl3_1]); (try simp only [hl3_2]); (with_reducible repeat (first | refine blk_drewN ?_ _ | refine blk_drew ?_ | refine blk_alloc ?_ _)); exact BK389.out⟩, ⟨bel_g HB.out⟩⟩
   ·obtain rfl := Option.some.inj H
    go_wp2
    go_ret
    exact ⟨_, by first | rfl | (simp [errW_none, errW_some] <;> rfl) | (simp only [← hji3]; first | rfl | (simp [errW_none, errW_some] <;> rfl)) | (simp [*, errW_none, errW_some] <;> rfl), by (with_reducible repeat (first | apply Kd.R_alloc | apply Kd.R_drewN | apply Kd.R_drew)); exact HO_3.out, bel_g HB.out⟩
end Go.Proofs.YtgdnljpallpjiaaDoor.Q
