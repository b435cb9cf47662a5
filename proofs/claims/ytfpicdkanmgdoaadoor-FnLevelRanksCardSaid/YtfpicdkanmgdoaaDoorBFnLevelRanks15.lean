import Derived.Test.YtfpicdkanmgdoaaDoorBFnLevelRanks14
namespace Go.Proofs.YtfpicdkanmgdoaaDoor.Q
open Go.RowKit Go.Proofs.YtfpicdkanmgdoaaDoorW.PrintWords Go.Proofs.YtfpicdkanmgdoaaDoorW.PrintLast Go.Proofs.YtfpicdkanmgdoaaDoorW.PrintMore
attribute [local go_sem] max2_int min2_int max_two min_two max_three min_three max_four min_four neB_f
set_option linter.unusedVariables false
set_option maxHeartbeats 8000000
set_option maxRecDepth 100000
set_option linter.unusedSimpArgs false
mutual
def impl_CountExtensions.l0 : Nat → List Int → Int → Int → Int → List Int → Int → List Int → Option (Int × Bool)
 | 0, _, _, _, _, _, _, _ => none
 | k + 1, x5, x20, x21, x527000, x527001, x533000, x533001 => if x21 < x20 then (impl_CountExtensions.l1 k x5 x21 x20 x21 x527000 0 x527000 x527001 x533000 x533001) else ((impl_Order_all.f x527000 x527001).bind fun t537 => (if 0 ≤ t537 then (if t537 < (x5.length : Int) then (some (rd x5 t537, true)) else (none)) else (none)))
def impl_CountExtensions.l1 : Nat → List Int → Int → Int → Int → Int → Int → Int → List Int → Int → List Int → Option (Int × Bool)
 | 0, _, _, _, _, _, _, _, _, _, _ => none
 | k + 1, x5, x6, x20, x21, x25, x26, x527000, x527001, x533000, x533001 => if x26 < x25 then (if 0 ≤ x26 then (if (Go.bits .and .i64 (shr .i64 x6 x26) 1) = 0 then (if x26 < (x533001.length : Int) then (if (Go.bits .andNot .i64 (rd x533001 x26) x6) = 0 then (if 0 ≤ (Go.bits .or .i64 x6 (shl .i64 1 x26)) then (if (Go.bits .or .i64 x6 (shl .i64 1 x26)) < (x5.length : Int) then (if 0 ≤ x6 then (if x6 < (x5.length : Int) then (impl_CountExtensions.l1 k (x5.set ((Go.bits .or .i64 x6 (shl .i64 1 x26)) : Int).toNat (wrap64 ((rd x5 (Go.bits .or .i64 x6 (shl .i64 1 x26))) + (rd x5 x6)))) x6 x20 x21 x25 (wrap64 (x26 + 1)) x527000 x527001 x533000 x533001) else (none)) else (none)) else (none)) else (none)) else (impl_CountExtensions.l1 k x5 x6 x20 x21 x25 (wrap64 (x26 + 1)) x527000 x527001 x533000 x533001)) else (none)) else (impl_CountExtensions.l1 k x5 x6 x20 x21 x25 (wrap64 (x26 + 1)) x527000 x527001 x533000 x533001)) else (none)) else (impl_CountExtensions.l0 k x5 x20 (wrap64 (x21 + 1)) x527000 x527001 x533000 x533001)
end
def impl_CountExtensions.f (k : Nat) (a0_0 : Int) (l0_1 : List Int) : Option (Int × Bool) := (impl_IsOrder.f k a0_0 l0_1).bind fun t527 => (if t527 = true then ((impl_Order_mirror.f k a0_0 l0_1).bind fun bt528 => (if 0 ≤ a0_0 then (if 0 ≤ (shl .i64 1 a0_0) then (if (shl .i64 1 a0_0 : Int).toNat ≤ 35184372088832 then ((some (List.replicate (shl .i64 1 a0_0 : Int).toNat 0 : List Int)).bind fun y533 => (if 0 < (y533.length : Int) then (impl_CountExtensions.l0 k (y533.set (0 : Int).toNat 1) (y533.length : Int) 0 a0_0 l0_1 bt528.1 bt528.2) else (none))) else (none)) else (none)) else (none))) else (some (0, false)))
theorem impl_CountExtensions.mono_l : ∀ k, (∀ y0 y1 y2 y3 y4 y5 y6, LeO (impl_CountExtensions.l0 k y0 y1 y2 y3 y4 y5 y6) (impl_CountExtensions.l0 (k + 1) y0 y1 y2 y3 y4 y5 y6)) ∧ (∀ y0 y1 y2 y3 y4 y5 y6 y7 y8 y9, LeO (impl_CountExtensions.l1 k y0 y1 y2 y3 y4 y5 y6 y7 y8 y9) (impl_CountExtensions.l1 (k + 1) y0 y1 y2 y3 y4 y5 y6 y7 y8 y9))
 | 0 => ⟨fun _ _ _ _ _ _ _ r h => by simp [impl_CountExtensions.l0] at h, fun _ _ _ _ _ _ _ _ _ _ r h => by simp [impl_CountExtensions.l1] at h⟩
 | k + 1 => by
  obtain ⟨ih0, ih1⟩ := impl_CountExtensions.mono_l k
  refine ⟨?_, ?_⟩ <;> intros
  unfold impl_CountExtensions.l0
  rotate_left
  unfold impl_CountExtensions.l1
  rotate_left
  all_goals repeat' (with_reducible first|apply ih0|apply ih1|apply impl_IsOrder.mono|apply impl_Order_mirror.mono|apply LeO.refl|apply LeO.none|apply LeO.ite|apply LeO.bind|intro)
theorem impl_CountExtensions.mono : ∀ a0 a1 k, LeO (impl_CountExtensions.f k a0 a1) (impl_CountExtensions.f (k + 1) a0 a1) := by
 intro a0 a1 k
 obtain ⟨ih0, ih1⟩ := impl_CountExtensions.mono_l k
 unfold impl_CountExtensions.f
 repeat' (with_reducible first|apply ih0|apply ih1|apply impl_IsOrder.mono|apply impl_Order_mirror.mono|apply LeO.refl|apply LeO.none|apply LeO.ite|apply LeO.bind|intro)
def impl_CountExtensions.T13 : Bool × List (List Nat × List Nat) := (true, [([], []), ([], []), ([], []), ([2], [2]), ([1, 3], [1, 3]), ([0, 4], [0, 4]), ([5], [5]), ([], []), ([], []), ([7, 8], [7, 8]), ([9], [9]), ([6, 10], [6, 10]), ([0, 4, 0, 1, 2, 3, 4, 5, 6, 7, 8, 9, 10, 11], [0, 4]), ([12, 11, 0, 1, 2, 3, 4, 5, 6, 7, 8, 9, 10, 11], [11, 12])])
def impl_CountExtensions.B13 : List Nat := [0, 0, 0, 4, 14, 31, 63, 0, 0, 384, 896, 2047, 4095, 8191]
theorem impl_CountExtensions.tab13 : rtab .any (opsOf Tryd.f16 13) = impl_CountExtensions.T13 := by kernel_rfl
theorem impl_CountExtensions.bits13 : waitsOk impl_CountExtensions.T13.2 impl_CountExtensions.B13 = true := by kernel_rfl
theorem impl_CountExtensions.calls (k : Nat) (a0_0 : Int) (A0_1 : Option Addr) (c0_1 : Nat) (l0_1 : List Int) (r1 : Int) (r2 : Bool) (w : World) (hr0_1 : Kd.C (Kd.int .i64) w A0_1 l0_1.length l0_1) (hc0_1 : l0_1.length ≤ c0_1) (hTAB : Tab w) (h : impl_CountExtensions.f k a0_0 l0_1 = some (r1, r2)) :
  Calls Tryd.prog 16 #[.agg #[.int .i64 a0_0, .slice A0_1 l0_1.length c0_1]] w fun e w' => e = .returned (.tuple #[.int .i64 r1, .bool r2]) ∧ Below w.heap.size w w' := by
 have HTAB := mkA hTAB
 clear hTAB
 have hu35 := Tryd.underlying35
 have HR0_1 := mkA hr0_1
 have HC0_1 := mkA hc0_1
 clear hr0_1 hc0_1
 have HB := mkA (Below.refl w.heap.size w)
 have H := h
 clear h
 unfold impl_CountExtensions.f at H
 obtain ⟨t527, A2, H⟩ := obE H
 by_cases c3 : t527 = true
 ·subst c3
  replace H := ifT H
  obtain ⟨⟨t528, t529⟩, A4, H⟩ := obE H
  dsimp only at H
  obtain ⟨c5b0, c5b1, H⟩ := itNQ H
  obtain ⟨ji6, hji6⟩ : ∃ j_ : Int, (shl .i64 1 a0_0) = j_ := ⟨_, rfl⟩
  first | rw [hji6] at H | simp only [hji6] at H
  (try rw [hji6] at A2)
  (try rw [hji6] at A4)
  have hji6_ : (IntKind.i64.wrap (1 * 2 ^ min a0_0.toNat 64)) = ji6 := hji6
  have hji6z : a0_0 ≤ 64 → (IntKind.i64.wrap (1 * 2 ^ a0_0.toNat)) = ji6 := shl_small hji6
  have hji6u : (IntKind.i64.wrap (2 ^ min a0_0.toNat 64)) = ji6 := by have h_ := hji6_; rw [Int.one_mul] at h_; exact h_
  have hji6v : a0_0 ≤ 64 → (IntKind.i64.wrap (2 ^ a0_0.toNat)) = ji6 := fun hle_ => by have h_ := hji6z hle_; rw [Int.one_mul] at h_; exact h_
  have hji6y : (wrap64 (1 * 2 ^ min a0_0.toNat 64)) = ji6 := (i64_w _).symm.trans hji6_
  have hji6x : a0_0 ≤ 64 → (wrap64 (1 * 2 ^ a0_0.toNat)) = ji6 := fun h_ => (i64_w _).symm.trans (hji6z h_)
  obtain ⟨c7b0, c7b1, H⟩ := itNQ H
  obtain ⟨c8b0, c8b1, H⟩ := itNQ H
  obtain ⟨y533, Ny533, H⟩ := nmE H
  obtain ⟨c9, H⟩ := itNP H
  have c9b0 := decide_eq_true c9
  have c9b1 : decide (0 < y533.length) = true := decide_eq_true (by omega)
  clear c9
  obtain ⟨y536, hy536⟩ : ∃ y_ : List Int, y_ = (y533.set (0 : Int).toNat 1) := ⟨_, rfl⟩
  rw [← hy536] at H
  have Ny536 := mkA hy536
  clear hy536
  have H' := mkA H
  clear H
  go_enter Tryd.func16, Tryd.ntmps16
  go_wp2_with (first | ((with_reducible refine gate_dst (N := 1) rfl ?_); refine boxG HB #[.int .i64 a0_0, .slice A0_1 l0_1.length c0_1] 35 ?_; intro gb526 hg w11 BK526 GE526 hb; replace HB := bst HB hb; clear hb hg; obtain ⟨_, _, _, _⟩ := blk2 BK526) | ((with_reducible refine gate_callee (f := 36) rfl ?_); refine goesQ (some 9) Tryd.func36 #[.agg #[.int .i64 a0_0, .slice A0_1 l0_1.length c0_1]] ?_; (with_reducible refine (impl_IsOrder.calls k a0_0 _ _ l0_1 true _ ?_ ?_ ?_ A2.out).mono ?_); exact C_g HR0_1 HB; exact HC0_1.out; exact Tab.below HTAB.out (bel_g HB.out); rintro e w13 ⟨rfl, hb⟩; refine ⟨_, rfl, ?_⟩; replace BK526 := blkB BK526 hb; replace HB := bst HB hb; clear hb; obtain ⟨_, _, _, _⟩ := blk2 BK526) | ((with_reducible refine gate_callee (f := 37) rfl ?_); refine goesQ (some 12) Tryd.func37 #[.agg #[.int .i64 a0_0, .slice A0_1 l0_1.length c0_1]] ?_; (with_reducible refine (impl_Order_mirror.calls k a0_0 _ _ l0_1 t528 t529 _ ?_ ?_ A4.out).mono ?_); exact C_g HR0_1 HB; exact HC0_1.out; rintro e w15 ⟨v530, rfl, ho0, hb⟩; refine ⟨_, rfl, ?_⟩; have HO531 := rLo ho0 HB; replace BK526 := blkB BK526 hb; replace HB := bst HB hb; clear hb ho0) | ((with_reducible refine gate_dst (N := 4) rfl ?_); refine boxG HB #[.int .i64 0, .slice none 0 0] 35 ?_; intro gb532 hg w16 BK532 GE532 hb; replace HO531 := rB HO531 hb; have NB526_532 := neL7 BK526 hg; have NB532_526 := neR7 BK526 hg; replace BK526 := blkB BK526 hb; replace HB := bst HB hb; clear hb hg; obtain ⟨_, _, _, _⟩ := blk2 BK532; obtain ⟨Ao19, co19, rfl⟩ := Kd.R_slice HO531.out; obtain ⟨_, _, _, _⟩ := blk2 BK526) | ((with_reducible refine gate_dst (N := 16) rfl ?_); refine Kd.R_make (Kd.int .i64) _ 3 rfl (N := 16) rfl 26 _ _ rfl ji6 rfl rfl Tryd.underlying26 (.int .i64 0) 8 info3 rfl (by decide) (by omega) 0 (ok := fun _ => True) (okp := fun _ => True) rfl (fun _ hk => hk) trivial (ofd) (Nat.le_trans (Nat.mul_le_mul_right _ (ofd : ji6.toNat ≤ 35184372088832)) (by omega)) (Below.refl _ _) (Nat.le_refl _) ?_; intro v534 w21 ho22 hb hg_ hnew_; clear hg_ hnew_; (first | rw [← Ny533.out] at ho22 | (simp only [Int.reduceToNat] at ho22; rw [← Ny533.out] at ho22)); have HO535 := rLo (rNF ho22 HO531 BK532) HB; replace HO531 := rEF HO531 BK532 ho22 hb; replace BK526 := blkS BK526 hb; replace BK532 := blkS BK532 hb; replace HB := bst HB hb; clear hb ho22; have p10 : 0 ≤ (0 : Int) := (by omega); have q10 : (0 : Int) < ((y533.length : Int) : Int) := ofd; have qi10 : (0 < y533.length) = True := eq_true (by omega); obtain ⟨go10, co10, eo10, gb10, gl10, cl10, HG10⟩ := Kd.R_form HO535.out (by omega); (first | cases eo10 | (injection eo10 with ea_ en_ ec_; (first | subst ea_ | (injection ea_ with ea_; subst ea_)); subst ec_; clear en_)); have GB10 : Ge _ _ := ⟨gb10⟩; have GG10 := mkA HG10; clear gb10 gl10 HG10; obtain ⟨hx10_0, hf10_0⟩ := Kd.R_celln 0 HO535.out (0 : Int) p10 q10; (try rw [show ((0 : Int)).toNat = 0 from rfl] at hx10_0); (try simp only [Nat.reduceMul, Nat.zero_mul, Nat.zero_add, Nat.reduceAdd] at hx10_0); (try rw [show ((0 : Int)).toNat = 0 from rfl] at hf10_0); (try simp only [Nat.reduceMul, Nat.zero_mul, Nat.zero_add, Nat.reduceAdd] at hf10_0); replace p10 := eq_true p10; replace q10 := eq_true q10; have n_ := mkA (Kd.R_mono (ok' := (fun k_ => some k_ ≠ (.slice Ao19 t529.length co19 : Value).ownBlock)) HO535.out (fun k_ hk => hk.2)); clear HO535; have HO535 := n_; clear n_; obtain ⟨hy23_, hz23_⟩ := Kd.R_celln 0 HO535.out (0 : Int) (by omega) (ofd); (try simp only [Int.reduceToNat, Int.toNat_zero, Int.toNat_ofNat, Nat.reduceMul, Nat.zero_mul, Nat.zero_add] at hy23_ hz23_); (try rw [show ((0 : Int)).toNat = 0 from rfl] at hy23_); (try rw [show ((0 : Int)).toNat = 0 from rfl] at hz23_); have HP23 := Kd.R_putg HO535.out (0 : Int) 1) | ((with_reducible refine gate_store (t := 3) (p := 18) rfl ?_); refine store_event (t := 3) (p := 18) (v := ?vo_w24) (w1 := (w21.setCell ⟨go10, (0 : Int).toNat, none⟩ (.int .i64 1))) ?hg ?ho ?hn ?hr ?_; (case ho => rfl); (case hg => rfl); (case hn => rfl); (case hr => first | (go_simp; done) | (go_simp; rfl)); intro w24 hw; have hg : w21.grownBy w24 (some go10) := (by rw [hw]; exact HP23.2); have hp_ : Kd.R (Kd.int .i64) 3 w24 w.heap.size (fun k_ => some k_ ≠ (.slice Ao19 t529.length co19 : Value).ownBlock) (.slice (some ⟨go10, 0, none⟩) y533.length co10) y536 := (by rw [hw, Ny536.out]; exact HP23.1); clear HP23; replace BK526 := mkA (blk_grown (g := gb526) (o := .cells #[.int .i64 a0_0, .slice A0_1 l0_1.length c0_1] 35 (0, 0)) (blk_g BK526.out) hg (Kd.R_ne HO535.out BK526.out (by decide))); replace HO531 := mkA (Kd.R_after (v := (.slice (some ⟨go10, 0, none⟩) y533.length co10)) (v1 := (.slice (some ⟨go10, 0, none⟩) y533.length co10)) (ok := (fun _ => True)) (Kd.R_g HO531.out) hg (.inl rfl)); replace BK532 := mkA (blk_grown (g := gb532) (o := .cells #[.int .i64 t528, .slice Ao19 t529.length co19] 35 (0, 0)) (blk_g BK532.out) hg (Kd.R_ne HO535.out BK532.out (by decide))); replace HO535 := mkA (hp_); replace HB := mkA ((by rw [hw]; exact below_set (HB.out) GB10.out : Below w.heap.size w w24)); clear hg hw hp_))
  go_loopg [21] k (fun kq v21 w' => ∃ (x5_1 : List Int) (x21_1 : Int), v21 = .int .i64 x21_1 ∧ Fc (impl_CountExtensions.l0 kq x5_1 (y533.length : Int) x21_1 a0_0 l0_1 t528 t529 = some (r1, r2)) ∧ Fc (kq ≤ k) ∧ Fc (Kd.R (Kd.int .i64) 3 w' w.heap.size (fun k_ => some k_ ≠ ((.slice Ao19 t529.length co19) : Value).ownBlock) (.slice (some ⟨go10, 0, none⟩) y533.length co10) x5_1) ∧ Fc (Kd.R (Kd.int .i64) 3 w' w.heap.size (fun k_ => some k_ ≠ ((.slice (some ⟨go10, 0, none⟩) y533.length co10) : Value).ownBlock) (.slice Ao19 t529.length co19) t529) ∧ Fc (w'.heap[gb526]? = some (.cells #[.int .i64 a0_0, (.slice A0_1 l0_1.length c0_1)] 35 (0, 0))) ∧ Fc (w'.heap[gb532]? = some (.cells #[.int .i64 t528, (.slice Ao19 t529.length co19)] 35 (0, 0))) ∧ Fc (Below w.heap.size w w'))
  case atStart => exact ⟨(y536), (0), eqS, H', ⟨Nat.le_refl _⟩, rg HO535, ⟨Kd.R_g (Kd.R_mono HO531.out (fun _ hk => hk.2))⟩, bg BK526, bg BK532, hbg HB⟩
  case round =>
   clear H'
   try clear c3
   try clear c5
   try clear c5b0
   try clear c5b1
   try clear c7
   try clear c7b0
   try clear c7b1
   try clear c8
   try clear c8b0
   try clear c8b1
   try clear c9
   try clear c9b0
   try clear c9b1
   try clear p10
   try clear q10
   try clear qi10
   try clear hx10_0
   try clear p10
   try clear q10
   obtain ⟨x5_1, x21_1, rfl, HA, HK1, HO_5, HO_533001, BK526, BK532, HB⟩ := hrel
   have hl5_1 := (Kd.R_reads' HO_5.out).1
   rw [hl5_1] at HO_5
   (try simp only [hl5_1])
   (try simp only [hl5_1] at BK526)
   (try simp only [hl5_1] at BK532)
   (try simp only [hl5_1] at HO_533001)
   cases gk with
   | zero => exact absurd HA.out (by simp [impl_CountExtensions.l0])
   | succ k1 =>
    have H := HA.out
    clear HA
    simp only [impl_CountExtensions.l0] at H
    rcases iteE H with ⟨c25b0, H⟩ | ⟨c25b0, H⟩ <;> try rw [hl5_1] at c25b0
    ·have H' := mkA H
     clear H
     obtain ⟨_, _, _, _⟩ := blk2 BK526
     go_wp2
     go_loopg [26] k1 (fun kq v26 w' => ∃ (x5_2 : List Int) (x26_2 : Int), v26 = .int .i64 x26_2 ∧ Fc (impl_CountExtensions.l1 kq x5_2 x21_1 (y533.length : Int) x21_1 a0_0 x26_2 a0_0 l0_1 t528 t529 = some (r1, r2)) ∧ Fc (kq ≤ k1) ∧ Fc (Kd.R (Kd.int .i64) 3 w' w.heap.size (fun k_ => some k_ ≠ ((.slice Ao19 t529.length co19) : Value).ownBlock) (.slice (some ⟨go10, 0, none⟩) x5_1.length co10) x5_2) ∧ Fc (Kd.R (Kd.int .i64) 3 w' w.heap.size (fun k_ => some k_ ≠ ((.slice (some ⟨go10, 0, none⟩) x5_1.length co10) : Value).ownBlock) (.slice Ao19 t529.length co19) t529) ∧ Fc (w'.heap[gb526]? = some (.cells #[.int .i64 a0_0, (.slice A0_1 l0_1.length c0_1)] 35 (0, 0))) ∧ Fc (w'.heap[gb532]? = some (.cells #[.int .i64 t528, (.slice Ao19 t529.length co19)] 35 (0, 0))) ∧ Fc (Below w.heap.size w w'))
     case atStart => exact ⟨(x5_1), (0), eqS, H', ⟨Nat.le_refl _⟩, ⟨by (try simp only [hl5_1]); (with_reducible repeat (first | apply Kd.R_alloc | apply Kd.R_drewN | apply Kd.R_drew)); exact HO_5.out⟩, ⟨by (try simp only [hl5_1]); (with_reducible repeat (first | apply Kd.R_alloc | apply Kd.R_drewN | apply Kd.R_drew)); exact HO_533001.out⟩, ⟨by (try simp only [hl5_1]); (with_reducible repeat (first | refine blk_drewN ?_ _ | refine blk_drew ?_ | refine blk_alloc ?_ _)); exact BK526.out⟩, ⟨by (try simp only [hl5_1]); (with_reducible repeat (first | refine blk_drewN ?_ _ | refine blk_drew ?_ | refine blk_alloc ?_ _)); exact BK532.out⟩, hbg HB⟩
     case round =>
      clear H'
      try clear c3
      try clear c5
      try clear c5b0
      try clear c5b1
      try clear c7
      try clear c7b0
      try clear c7b1
      try clear c8
      try clear c8b0
      try clear c8b1
      try clear c9
      try clear c9b0
      try clear c9b1
      try clear p10
      try clear q10
      try clear qi10
      try clear c25b0
      try clear hx10_0
      try clear p10
      try clear q10
      obtain ⟨x5_2, x26_2, rfl, HA, HK2, HO_5, HO_533001, BK526, BK532, HB⟩ := hrel
      have hl5_2 := (Kd.R_reads' HO_5.out).1
      rw [hl5_2] at HO_5
      (try simp only [hl5_2])
      (try simp only [hl5_2] at BK526)
      (try simp only [hl5_2] at BK532)
      (try simp only [hl5_2] at HO_533001)
      cases gk with
      | zero => exact absurd HA.out (by simp [impl_CountExtensions.l1])
      | succ k2 =>
       have H := HA.out
       clear HA
       simp only [impl_CountExtensions.l1] at H
       rcases iteE H with ⟨c28b0, H⟩ | ⟨c28b0, H⟩ <;> try rw [hl5_2] at c28b0
       ·obtain ⟨c29b0, c29b1, H⟩ := itNQ H
        obtain ⟨ji30, hji30⟩ : ∃ j_ : Int, (shr .i64 x21_1 x26_2) = j_ := ⟨_, rfl⟩
        first | rw [hji30] at H | simp only [hji30] at H
        have hji30_ : (x21_1 / 2 ^ min x26_2.toNat 64) = ji30 := hji30
        have hji30z : x26_2 ≤ 64 → (x21_1 / 2 ^ x26_2.toNat) = ji30 := shr_small hji30
        rcases iteP H with ⟨c31, H⟩ | ⟨c31, H⟩
        ·have c31b0 := beq_iff_eq.mpr c31
         have c31b1 := bne_eq_false_iff_eq.mpr c31
         clear c31
         obtain ⟨c32b0, H⟩ := itND H
         rcases iteP H with ⟨c33, H⟩ | ⟨c33, H⟩
         ·have c33b0 := beq_iff_eq.mpr c33
          have c33b1 := bne_eq_false_iff_eq.mpr c33
          clear c33
          have c34b0 := eq_true (ofd : 0 ≤ x26_2)
          obtain ⟨ji35, hji35⟩ : ∃ j_ : Int, (shl .i64 1 x26_2) = j_ := ⟨_, rfl⟩
          first | rw [hji35] at H | simp only [hji35] at H
          have hji35_ : (IntKind.i64.wrap (1 * 2 ^ min x26_2.toNat 64)) = ji35 := hji35
          have hji35z : x26_2 ≤ 64 → (IntKind.i64.wrap (1 * 2 ^ x26_2.toNat)) = ji35 := shl_small hji35
          have hji35u : (IntKind.i64.wrap (2 ^ min x26_2.toNat 64)) = ji35 := by have h_ := hji35_; rw [Int.one_mul] at h_; exact h_
          have hji35v : x26_2 ≤ 64 → (IntKind.i64.wrap (2 ^ x26_2.toNat)) = ji35 := fun hle_ => by have h_ := hji35z hle_; rw [Int.one_mul] at h_; exact h_
          have hji35y : (wrap64 (1 * 2 ^ min x26_2.toNat 64)) = ji35 := (i64_w _).symm.trans hji35_
          have hji35x : x26_2 ≤ 64 → (wrap64 (1 * 2 ^ x26_2.toNat)) = ji35 := fun h_ => (i64_w _).symm.trans (hji35z h_)
          obtain ⟨c36b0, H⟩ := itND H
          obtain ⟨c37b0, H⟩ := itND H
          obtain ⟨c38b0, H⟩ := itND H
          obtain ⟨c39, H⟩ := itNP H
          have c39b0 := decide_eq_true c39
          (try (have c39l0 := c39b0; simp only [hl5_1, hl5_2] at c39l0))
          clear c39
          obtain ⟨y542, hy542⟩ : ∃ y_ : List Int, y_ = (x5_2.set ((Go.bits .or .i64 x21_1 (ji35)) : Int).toNat (wrap64 ((rd x5_2 (Go.bits .or .i64 x21_1 (ji35))) + (rd x5_2 x21_1)))) := ⟨_, rfl⟩
          rw [← hy542] at H
          have Ny542 := mkA hy542
          clear hy542
          have H' := mkA H
          clear H
          obtain ⟨_, _, _, _⟩ := blk2 BK532
          obtain ⟨p539, q539, ad539, e539, hx539_0⟩ := atI (Kd.R_reads' HO_533001.out).2.2 x26_2
          cases e539
          try go_wp2
          replace HO_5 := mkA (Kd.R_drew HO_5.out)
          replace HO_533001 := mkA (Kd.R_drew HO_533001.out)
          replace BK526 := mkA (blk_drew BK526.out)
          replace BK532 := mkA (blk_drew BK532.out)
          replace HB := mkA (below_drew1 HB.out)
          obtain ⟨p540, q540, ad540, e540, hx540_0⟩ := atI (Kd.R_reads' HO_5.out).2.2 (Go.bits .or .i64 x21_1 (ji35))
          obtain rfl : (⟨go10, 0, none⟩ : Addr) = ad540 := (by injection e540)
          (first | simp only [add_plain] at hx540_0 | simp only [add_at] at hx540_0 | simp only [Addr.add, Nat.zero_add] at hx540_0 | skip)
          obtain ⟨p541, q541, ad541, e541, hx541_0⟩ := atI (Kd.R_reads' HO_5.out).2.2 x21_1
          obtain rfl : (⟨go10, 0, none⟩ : Addr) = ad541 := (by injection e541)
          (first | simp only [add_plain] at hx541_0 | simp only [add_at] at hx541_0 | simp only [Addr.add, Nat.zero_add] at hx541_0 | skip)
          have p40 : 0 ≤ ((Go.bits .or .i64 x21_1 (ji35)) : Int) := ofd
          have q40 : ((Go.bits .or .i64 x21_1 (ji35)) : Int) < ((x5_2.length : Int) : Int) := ofd
          obtain ⟨hx40_0, hf40_0⟩ := Kd.R_celln 0 HO_5.out ((Go.bits .or .i64 x21_1 (ji35)) : Int) p40 q40
          replace p40 := eq_true p40
          replace q40 := eq_true q40
          have HP44 := Kd.R_putn HO_5.out ((Go.bits .or .i64 x21_1 (ji35)) : Int) (wrap64 ((rd x5_2 (Go.bits .or .i64 x21_1 (ji35))) + (rd x5_2 x21_1)))
          rw [← Ny542.out] at HP44
          have HQ44 := mkA HP44
          clear HP44
          refine start_ (n := 14) (S := fun w' => w'.cell? ⟨go10, ((Go.bits .or .i64 x21_1 (ji35))).toNat, none⟩ = some (.int .i64 (rd x5_2 (Go.bits .or .i64 x21_1 (ji35)))) ∧ w'.cell? ⟨go10, (x21_1).toNat, none⟩ = some (.int .i64 (rd x5_2 x21_1))) (ds := [13]) (bm 14 0) (by kernel_rfl) rfl rfl ⟨hx540_0, hx541_0⟩ (fun hHeld => ?_); refine with_tabW impl_CountExtensions.tab13 impl_CountExtensions.bits13 (fun HT_ HW_ => ?_)
          generalize wr.drew = w43 at HO_5 HO_533001 BK526 BK532 HB HQ44 hf40_0 hx40_0 hx540_0 hx541_0 hHeld ⊢
          refine purW 0 44 14 1 HT_ ?_
          refine purW 1 45 14 3 HT_ ?_
          refine purW 2 46 14 7 HT_ ?_
          refine purW 3 47 14 15 HT_ ?_
          refine purW 4 48 14 31 HT_ ?_
          refine purW 5 49 14 63 HT_ ?_
          refine purW 7 51 14 191 HT_ ?_
          refine purW 8 52 14 447 HT_ ?_
          refine purW 9 53 14 959 HT_ ?_
          refine takeW 6 (some 50) (bm 14 1023) HT_ HW_ hHeld ?_
          refine takeW 10 (some 54) (bm 14 2047) HT_ HW_ hHeld ?_
          refine purW 11 55 14 4095 HT_ ?_
          refine purW 12 56 14 8191 HT_ ?_
          refine last_ (i := 13) (N := none) (bm 14 16383) rfl rfl (one_of HT_.out (by kernel_rfl)) (by decide) (fun K hK => ?_)
          refine skip_ (w1 := ?_) (by rfl) rfl ?_ ?_
          rotate_left
          ·go_simp
           rfl
          refine hK.out _ _ ?_
          clear hK K
          refine doneW HT_ ?_
          try go_wp2
          (try simp only [← hl5_2])
          go_roundg k2
          case measure => have := HK1.out; have := HK2.out; omega
          case rel => exact ⟨(y542), (wrap64 (x26_2 + 1)), eqS, H', ⟨by have := HK1.out; have := HK2.out; omega⟩, ⟨by (try simp only [hl5_1]); (try simp only [hl5_2]); (with_reducible repeat (first | apply Kd.R_alloc | apply Kd.R_drewN | apply Kd.R_drew)); exact HQ44.out⟩, ⟨by (try simp only [hl5_1]); (try simp only [hl5_2]); (with_reducible repeat (first | apply Kd.R_alloc | apply Kd.R_drewN | apply Kd.R_drew)); exact Kd.R_mono (Kd.R_far (p := ⟨go10, ((Go.bits .or .i64 x21_1 (ji35)) : Int).toNat, none⟩) (Kd.R_mono HO_533001.out (fun k_ hk => (⟨hk, fun e_ => hk (by rw [e_]; rfl)⟩ : _ ∧ k_ ≠ go10))) (fun _ hk => hk.2) (.int .i64 (wrap64 ((rd x5_2 (Go.bits .or .i64 x21_1 (ji35))) + (rd x5_2 x21_1))))) (fun _ hk => hk.1)⟩, ⟨by (try simp only [hl5_1]); (try simp only [hl5_2]); (with_reducible repeat (first | refine blk_drewN ?_ _ | refine blk_drew ?_ | refine blk_alloc ?_ _)); refine blk_far ?_ (by have h_ := Kd.R_ne HO_5.out BK526.out (by decide); intro e_; exact h_ (by rw [e_]; rfl)) _; (with_reducible repeat (first | refine blk_drewN ?_ _ | refine blk_drew ?_ | refine blk_alloc ?_ _)); exact BK526.out⟩, ⟨by (try simp only [hl5_1]); (try simp only [hl5_2]); (with_reducible repeat (first | refine blk_drewN ?_ _ | refine blk_drew ?_ | refine blk_alloc ?_ _)); refine blk_far ?_ (by have h_ := Kd.R_ne HO_5.out BK532.out (by decide); intro e_; exact h_ (by rw [e_]; rfl)) _; (with_reducible repeat (first | refine blk_drewN ?_ _ | refine blk_drew ?_ | refine blk_alloc ?_ _)); exact BK532.out⟩, hbg HB⟩
         ·have c33b0 := beq_eq_false_iff_ne.mpr c33
          have c33b1 := bne_iff_ne.mpr c33
          have H' := mkA H
          clear H
          obtain ⟨_, _, _, _⟩ := blk2 BK532
          obtain ⟨p539, q539, ad539, e539, hx539_0⟩ := atI (Kd.R_reads' HO_533001.out).2.2 x26_2
          cases e539
          go_wp2
          (try simp only [← hl5_2])
          go_roundg k2
          case measure => have := HK1.out; have := HK2.out; omega
          case rel => exact ⟨(x5_2), (wrap64 (x26_2 + 1)), eqS, H', ⟨by have := HK1.out; have := HK2.out; omega⟩, ⟨by (try simp only [hl5_1]); (try simp only [hl5_2]); (with_reducible repeat (first | apply Kd.R_alloc | apply Kd.R_drewN | apply Kd.R_drew)); exact HO_5.out⟩, ⟨by (try simp only [hl5_1]); (try simp only [hl5_2]); (with_reducible repeat (first | apply Kd.R_alloc | apply Kd.R_drewN | apply Kd.R_drew)); exact HO_533001.out⟩, ⟨by (try simp only [hl5_1]); (try simp only [hl5_2]); (with_reducible repeat (first | refine blk_drewN ?_ _ | refine blk_drew ?_ | refine blk_alloc ?_ _)); exact BK526.out⟩, ⟨by (try simp only [hl5_1]); (try simp only [hl5_2]); (with_reducible repeat (first | refine blk_drewN ?_ _ | refine blk_drew ?_ | refine blk_alloc ?_ _)); exact BK532.out⟩, hbg HB⟩
        ·have c31b0 := beq_eq_false_iff_ne.mpr c31
         have c31b1 := bne_iff_ne.mpr c31
         have H' := mkA H
         clear H
         go_wp2
         (try simp only [← hl5_2])
         go_roundg k2
         case measure => have := HK1.out; have := HK2.out; omega
         case rel => exact ⟨(x5_2), (wrap64 (x26_2 + 1)), eqS, H', ⟨by have := HK1.out; have := HK2.out; omega⟩, ⟨by (try simp only [hl5_1]); (try simp only [hl5_2]); (with_reducible repeat (first | apply Kd.R_alloc | apply Kd.R_drewN | apply Kd.R_drew)); exact HO_5.out⟩, ⟨by (try simp only [hl5_1]); (try simp only [hl5_2]); (with_reducible repeat (first | apply Kd.R_alloc | apply Kd.R_drewN | apply Kd.R_drew)); exact HO_533001.out⟩, ⟨by (try simp only [hl5_1]); (try simp only [hl5_2]); (with_reducible repeat (first | refine blk_drewN ?_ _ | refine blk_drew ?_ | refine blk_alloc ?_ _)); exact BK526.out⟩, ⟨by (try simp only [hl5_1]); (try simp only [hl5_2]); (with_reducible repeat (first | refine blk_drewN ?_ _ | refine blk_drew ?_ | refine blk_alloc ?_ _)); exact BK532.out⟩, hbg HB⟩
       ·have H' := mkA H
        clear H
        go_wp2
        (try simp only [← hl5_1, ← hl5_2])
        go_roundg k2
        case measure => have := HK1.out; have := HK2.out; omega
        case rel => exact ⟨(x5_2), (wrap64 (x21_1 + 1)), eqS, H', ⟨by have := HK1.out; have := HK2.out; omega⟩, ⟨by (try simp only [hl5_1]); (try simp only [hl5_2]); (with_reducible repeat (first | apply Kd.R_alloc | apply Kd.R_drewN | apply Kd.R_drew)); exact HO_5.out⟩, ⟨by (try simp only [hl5_1]); (try simp only [hl5_2]); (with_reducible repeat (first | apply Kd.R_alloc | apply Kd.R_drewN | apply Kd.R_drew)); exact HO_533001.out⟩, ⟨by (try simp only [hl5_1]); (try simp only [hl5_2]); (with_reducible repeat (first | refine blk_drewN ?_ _ | refine blk_drew ?_ | refine blk_alloc ?_ _)); exact BK526.out⟩, ⟨by (try simp only [hl5_1]); (try simp only [hl5_2]); (with_reducible repeat (first | refine blk_drewN ?_ _ | refine blk_drew ?_ | refine blk_alloc ?_ _)); exact BK532.out⟩, hbg HB⟩
    ·obtain ⟨t537, A47, H⟩ := obE H
     obtain ⟨c48b0, H⟩ := itND H
     obtain ⟨c49, H⟩ := itNP H
     have c49b0 := decide_eq_true c49
     (try (have c49l0 := c49b0; simp only [hl5_1, hl5_2] at c49l0))
     clear c49
     simp only [Option.some.injEq, Prod.mk.injEq] at H
     obtain ⟨rfl, rfl⟩ := H
     obtain ⟨_, _, _, _⟩ := blk2 BK526
     go_wp2_with (first | ((with_reducible refine gate_callee (f := 38) rfl ?_); refine goesQ (some 61) Tryd.func38 #[.agg #[.int .i64 a0_0, .slice A0_1 l0_1.length c0_1]] ?_; (with_reducible refine (impl_Order_all.calls a0_0 _ _ l0_1 t537 _ ?_ ?_ A47.out).mono ?_); exact C_g HR0_1 HB; exact HC0_1.out; rintro e w52 ⟨rfl, hb⟩; refine ⟨_, rfl, ?_⟩; replace HO_5 := rB HO_5 hb; replace HO_533001 := rB HO_533001 hb; replace BK526 := blkB BK526 hb; replace BK532 := blkB BK532 hb; replace HB := bst HB hb; clear hb; have p538 : 0 ≤ (t537 : Int) := ofd; have q538 : t537 < (x5_1.length : Int) := ofd; obtain ⟨ad538, e538, hx538_0⟩ := Kd.at_int (Kd.R_reads' HO_5.out).2.2 t537 p538 q538; obtain rfl : (⟨go10, 0, none⟩ : Addr) = ad538 := (by injection e538); (first | simp only [add_plain] at hx538_0 | simp only [add_at] at hx538_0 | simp only [Addr.add, Nat.zero_add] at hx538_0 | skip); replace p538 := eq_true p538; replace q538 := eq_true q538))
     go_ret2
     exact ⟨by first | rfl | (simp [errW_none, errW_some] <;> rfl) | (simp only [← hji6]; first | rfl | (simp [errW_none, errW_some] <;> rfl)) | (simp [*, errW_none, errW_some] <;> rfl), bel_g HB.out⟩
 ·replace c3 := Bool.eq_false_iff.mpr c3
  subst c3
  replace H := ifF H
  simp only [Option.some.injEq, Prod.mk.injEq] at H
  obtain ⟨rfl, rfl⟩ := H
  go_enter Tryd.func16, Tryd.ntmps16
  go_wp2_with (first | ((with_reducible refine gate_dst (N := 1) rfl ?_); refine boxG HB #[.int .i64 a0_0, .slice A0_1 l0_1.length c0_1] 35 ?_; intro gb526 hg w53 BK526 GE526 hb; replace HB := bst HB hb; clear hb hg; obtain ⟨_, _, _, _⟩ := blk2 BK526) | ((with_reducible refine gate_callee (f := 36) rfl ?_); refine goesQ (some 9) Tryd.func36 #[.agg #[.int .i64 a0_0, .slice A0_1 l0_1.length c0_1]] ?_; (with_reducible refine (impl_IsOrder.calls k a0_0 _ _ l0_1 false _ ?_ ?_ ?_ A2.out).mono ?_); exact C_g HR0_1 HB; exact HC0_1.out; exact Tab.below HTAB.out (bel_g HB.out); rintro e w55 ⟨rfl, hb⟩; refine ⟨_, rfl, ?_⟩; replace BK526 := blkB BK526 hb; replace HB := bst HB hb; clear hb))
  go_ret2
  exact ⟨eqE, bel_g HB.out⟩
end Go.Proofs.YtfpicdkanmgdoaaDoor.Q
