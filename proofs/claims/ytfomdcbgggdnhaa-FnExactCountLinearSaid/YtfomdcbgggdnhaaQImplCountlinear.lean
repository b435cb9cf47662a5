-- printed by this project's own program (wip/mp/mp.py) over the kit's print, for this seat; Lean checks it
import Derived.Test.YtfomdcbgggdnhaaQx0
import Derived.Test.YtfomdcbgggdnhaaQImplArelevels
namespace Go.Proofs.Ytfomdcbgggdnhaa.Q
open Go.RowKit Go.Proofs.YtfomdcbgggdnhaaW.PrintWords Go.Proofs.YtfomdcbgggdnhaaW.PrintLast Go.Proofs.YtfomdcbgggdnhaaW.PrintMore
attribute [local go_sem] max2_int min2_int max_two min_two max_three min_three max_four min_four   -- for this text's walks alone
set_option linter.unusedVariables false
set_option maxHeartbeats 8000000
set_option maxRecDepth 100000
set_option linter.unusedSimpArgs false

/-! ### impl_CountLinear: function 6 -/
def impl_CountLinear.l0 : Nat → Int → List Int → List Int → Int → Int → Option (Int × Bool)
 | 0, _, _, _, _, _ => none
 | k + 1, x4, x5, x12, x13, x14 => if x14 < x13 then (if 0 ≤ x14 then (if x14 < (x12.length : Int) then (if 0 ≤ (rd x12 x14) then (if (rd x12 x14) < (x5.length : Int) then ((some (x5.set ((rd x12 x14) : Int).toNat (wrap64 ((rd x5 (rd x12 x14)) + 1)) : List Int)).bind fun y265 => (impl_CountLinear.l0 k (wrap64 (x4 * (rd y265 (rd x12 x14)))) y265 x12 x13 (wrap64 (x14 + 1)))) else (none)) else (none)) else (none)) else (none)) else (some (x4, true))
def impl_CountLinear.f (k : Nat) (l0 : List Int) : Option (Int × Bool) := (impl_AreLevels.f k l0).bind fun t259 => (if t259 = true then (if 10 ≤ 35184372088832 then (impl_CountLinear.l0 k 1 (List.replicate 10 0) l0 (l0.length : Int) 0) else (none)) else (some (0, false)))
theorem impl_CountLinear.mono_l : ∀ k, (∀ y0 y1 y2 y3 y4, LeO (impl_CountLinear.l0 k y0 y1 y2 y3 y4) (impl_CountLinear.l0 (k + 1) y0 y1 y2 y3 y4))
 | 0 => fun _ _ _ _ _ r h => by simp [impl_CountLinear.l0] at h
 | k + 1 => by
  have ih0 := impl_CountLinear.mono_l k
  ·intro y0 y1 y2 y3 y4
   unfold impl_CountLinear.l0
   repeat' (with_reducible first|apply ih0|apply impl_AreLevels.mono|apply LeO.refl|apply LeO.none|apply LeO.ite|apply LeO.bind|intro)
theorem impl_CountLinear.mono : ∀ a0 k, LeO (impl_CountLinear.f k a0) (impl_CountLinear.f (k + 1) a0) := by
 intro a0 k
 have ih0 := impl_CountLinear.mono_l k
 unfold impl_CountLinear.f
 repeat' (with_reducible first|apply ih0|apply impl_AreLevels.mono|apply LeO.refl|apply LeO.none|apply LeO.ite|apply LeO.bind|intro)
theorem impl_CountLinear.calls (k : Nat) (A0 : Option Addr) (c0 : Nat) (l0 : List Int) (r1 : Int) (r2 : Bool) (w : World) (hr0 : Kd.C (Kd.int .i64) w A0 l0.length l0) (hc0 : l0.length ≤ c0) (h : impl_CountLinear.f k l0 = some (r1, r2)) :
  Calls Try.prog 6 #[.slice A0 l0.length c0] w fun e w' => e = .returned (.tuple #[.int .i64 r1, .bool r2]) ∧ Below w.heap.size w w' := by
 have HR0 := mkA hr0
 have HC0 := mkA hc0
 clear hr0 hc0
 have HB := mkA (Below.refl w.heap.size w)
 have H := h
 clear h
 unfold impl_CountLinear.f at H
 obtain ⟨t259, A2, H⟩ := obE H
 by_cases c3 : t259 = true
 ·subst c3
  replace H := ifT H
  obtain ⟨c4b0, c4b1, H⟩ := itNQ H
  obtain ⟨y260, hy260⟩ : ∃ y_ : List Int, y_ = (List.replicate 10 0) := ⟨_, rfl⟩
  rw [← hy260] at H
  have Ny260 := mkA hy260
  clear hy260
  have H' := mkA H
  clear H
  go_enter Try.func6, Try.ntmps6
  try go_wp2_with (first | ((with_reducible refine gate_callee (f := 9) rfl ?_); refine goesQ (some 9) Try.func9 #[.slice A0 l0.length c0] ?_; (with_reducible refine (impl_AreLevels.calls k _ _ l0 true _ ?s1 ?s2 A2.out).mono ?_); (case s1 => repeat (first | exact HR0.out | (with_reducible refine Kd.C_alloc ?_ _) | (with_reducible refine Kd.C_drewN ?_ _) | (with_reducible refine Kd.C_drew ?_))); (case s2 => exact HC0.out); rintro e w5 ⟨rfl, hb⟩; refine ⟨_, rfl, ?_⟩; replace HB := bst HB hb; clear hb))
  replace HB := mkA (below_drew1 HB.out)
  refine start_ (n := 3) (S := fun w' => True) (ds := []) (bm 3 0) (by kernel_rfl) rfl (by kernel_rfl) trivial (fun hHeld => ?_)
  generalize w5.drew = w6 at HB hHeld ⊢
  refine pure_ (i := 1) (N := some 4) (v := ?_) (a' := ?_) (bm 3 2) rfl rfl (by kernel_rfl) (fun _ _ _ h => h) (Or.inl ⟨by rfl, ?_⟩) ?_ ?_
  rotate_left
  ·intro w'
   go_simp
   with_reducible rfl
  rotate_left
  ·simp only [Act.put, List.setIfInBounds_toArray, List.set_cons_zero, List.set_cons_succ, i64_w, i32_w]
   rfl
  refine one_ (i := 0) (N := some 11) (bm 3 3) rfl rfl (by kernel_rfl) (by decide) (fun K hK => ?_)
  refine Kd.R_make_step (Kd.int .i64) _ 3 (by rfl) (N := 11) rfl 22 _ _ rfl 10 rfl rfl Try.underlying22 (.int .i64 0) 8 info3 rfl (by decide) (by omega) 0 (ok := fun _ => True) (okp := fun _ => True) rfl (fun _ hk => hk) trivial (by omega) (by omega) (Below.refl _ _) (Nat.le_refl _) ?_
  intro v261 w7 ho8 hb hg_ hnew_
  clear hg_ hnew_
  (first | rw [← Ny260.out] at ho8 | (simp only [Int.reduceToNat] at ho8; rw [← Ny260.out] at ho8))
  have HO262 := rLo ho8 HB
  replace HB := bst HB hb
  clear hb ho8
  refine hK.out _ _ trivial (fun hHeld => ?_)
  clear hK K
  refine normW 11 ?_
  refine pure_ (i := 2) (N := some 5) (v := ?_) (a' := ?_) (bm 3 7) rfl rfl (by kernel_rfl) (fun _ _ _ h => h) (Or.inl ⟨by rfl, ?_⟩) ?_ ?_
  rotate_left
  ·intro w'
   go_simp
   with_reducible rfl
  rotate_left
  ·simp only [Act.put, List.setIfInBounds_toArray, List.set_cons_zero, List.set_cons_succ, i64_w, i32_w]
   rfl
  refine done_ (by kernel_rfl) ?_
  try go_wp2
  go_loopg [4, 14] k (fun kq v4 v14 w' => ∃ (x4_1 : Int) (x5_1 : List Int) (x14_1 : Int), v4 = .int .i64 x4_1 ∧ v14 = .int .i64 x14_1 ∧ Fc (impl_CountLinear.l0 kq x4_1 x5_1 l0 (l0.length : Int) x14_1 = some (r1, r2)) ∧ Fc (kq ≤ k) ∧ Fc (Kd.R (Kd.int .i64) 3 w' w.heap.size (fun _ => True) v261 x5_1) ∧ Fc (Below w.heap.size w w'))
  case atStart => exact ⟨(1), (y260), (0), eqS, eqS, H', ⟨Nat.le_refl _⟩, rg HO262, hbg HB⟩
  case round =>
   clear H'
   try clear c3
   try clear c4
   try clear c4b0
   try clear c4b1
   obtain ⟨x4_1, x5_1, x14_1, rfl, rfl, HA, HK1, HO_5, HB⟩ := hrel
   cases gk with
   | zero => exact absurd HA.out (by simp [impl_CountLinear.l0])
   | succ k1 =>
    have H := HA.out
    clear HA
    simp only [impl_CountLinear.l0] at H
    rcases iteE H with ⟨c9b0, H⟩ | ⟨c9b0, H⟩
    ·obtain ⟨c10b0, H⟩ := itND H
     obtain ⟨c11b0, H⟩ := itND H
     obtain ⟨c12b0, H⟩ := itND H
     obtain ⟨c13b0, H⟩ := itND H
     obtain ⟨y265, Ny265, H⟩ := nmE H
     have H' := mkA H
     clear H
     obtain ⟨p263, q263, ad263, e263, hx263_0⟩ := atI HR0.out x14_1
     cases e263
     replace hx263_0 := (HB.out.cell (World.block_lt_of_cell? w _ hx263_0)).trans hx263_0
     obtain ⟨Ao15, co15, rfl⟩ := Kd.R_slice HO_5.out
     obtain ⟨p264, q264, ad264, e264, hx264_0⟩ := atI (Kd.R_reads' HO_5.out).2.2 (rd l0 x14_1)
     cases e264
     have p14 : 0 ≤ ((rd l0 x14_1) : Int) := ofd
     have q14 : ((rd l0 x14_1) : Int) < ((x5_1.length : Int) : Int) := ofd
     obtain ⟨go14, co14, eo14, gb14, gl14, cl14, HG14⟩ := Kd.R_form HO_5.out (by omega)
     (first | cases eo14 | (injection eo14 with ea_ en_ ec_; (first | subst ea_ | (injection ea_ with ea_; subst ea_)); subst ec_; clear en_))
     have GB14 : Ge _ _ := ⟨gb14⟩
     have GG14 := mkA HG14
     clear gb14 gl14 HG14
     (first | simp only [add_plain] at hx264_0 | skip)
     obtain ⟨hx14_0, hf14_0⟩ := Kd.R_celln 0 HO_5.out ((rd l0 x14_1) : Int) p14 q14
     replace p14 := eq_true p14
     replace q14 := eq_true q14
     have HP16 := Kd.R_putg HO_5.out ((rd l0 x14_1) : Int) (wrap64 ((rd x5_1 (rd l0 x14_1)) + 1))
     go_wp2_with (first | ((with_reducible refine gate_store (t := 3) (p := 23) rfl ?_); refine store_event (t := 3) (p := 23) (v := ?vo_w17) (w1 := (wr.setCell ⟨go14, ((rd l0 x14_1) : Int).toNat, none⟩ (.int .i64 (wrap64 ((rd x5_1 (rd l0 x14_1)) + 1))))) ?hg ?ho ?hn ?hr ?_; (case ho => rfl); (case hg => rfl); (case hn => rfl); (case hr => first | (go_simp; done) | (go_simp; rfl)); intro w17 hw; have hg : wr.grownBy w17 (some go14) := (by rw [hw]; exact HP16.2); have hp_ : Kd.R (Kd.int .i64) 3 w17 w.heap.size (fun _ => True) (.slice (some ⟨go14, 0, none⟩) x5_1.length co15) y265 := (by rw [hw, Ny265.out]; exact HP16.1); clear HP16; replace HO_5 := mkA (hp_); replace HB := mkA ((by rw [hw]; exact below_set (HB.out) GB14.out : Below w.heap.size w w17)); clear hg hw hp_; have p266 : 0 ≤ ((rd l0 x14_1) : Int) := ofd; have q266 : (rd l0 x14_1) < (y265.length : Int) := (by have h_ : ((rd l0 x14_1) : Int) < ((x5_1.length : Int) : Int) := ofd; first | (have e_ := (Kd.R_reads' HO_5.out).1; omega) | simpa only [Ny265.out, List.length_set] using h_); have ql266 : (((rd l0 x14_1) : Int) < ((x5_1.length : Int) : Int)) = True := eq_true (ofd); obtain ⟨ad266, e266, hx266_0⟩ := Kd.at_int (Kd.R_reads' HO_5.out).2.2 (rd l0 x14_1) p266 q266; obtain rfl : (⟨go14, 0, none⟩ : Addr) = ad266 := (by injection e266); (first | simp only [add_plain] at hx266_0 | simp only [add_at] at hx266_0 | simp only [Addr.add, Nat.zero_add] at hx266_0 | skip); replace p266 := eq_true p266; replace q266 := eq_true q266))
     go_roundg k1
     case measure => have := HK1.out; omega
     case rel => exact ⟨(wrap64 (x4_1 * (rd y265 (rd l0 x14_1)))), (y265), (wrap64 (x14_1 + 1)), eqS, eqS, H', ⟨by have := HK1.out; omega⟩, rg HO_5, hbg HB⟩
    ·simp only [Option.some.injEq, Prod.mk.injEq] at H
     obtain ⟨rfl, rfl⟩ := H
     go_wp2
     go_ret2
     exact ⟨eqE, bel_g HB.out⟩
 ·replace c3 := Bool.eq_false_iff.mpr c3
  subst c3
  replace H := ifF H
  simp only [Option.some.injEq, Prod.mk.injEq] at H
  obtain ⟨rfl, rfl⟩ := H
  go_enter Try.func6, Try.ntmps6
  go_wp2_with (first | ((with_reducible refine gate_callee (f := 9) rfl ?_); refine goesQ (some 9) Try.func9 #[.slice A0 l0.length c0] ?_; (with_reducible refine (impl_AreLevels.calls k _ _ l0 false _ ?s1 ?s2 A2.out).mono ?_); (case s1 => repeat (first | exact HR0.out | (with_reducible refine Kd.C_alloc ?_ _) | (with_reducible refine Kd.C_drewN ?_ _) | (with_reducible refine Kd.C_drew ?_))); (case s2 => exact HC0.out); rintro e w18 ⟨rfl, hb⟩; refine ⟨_, rfl, ?_⟩; replace HB := bst HB hb; clear hb))
  go_ret2
  exact ⟨eqE, bel_g HB.out⟩

end Go.Proofs.Ytfomdcbgggdnhaa.Q
