import Derived.Test.YtmoemabbmjdhgaaDoorBFnThresholds1
namespace Go.Proofs.YtmoemabbmjdhgaaDoor.Q
open Go.RowKit Go.Proofs.YtmoemabbmjdhgaaDoorW.PrintWords Go.Proofs.YtmoemabbmjdhgaaDoorW.PrintLast Go.Proofs.YtmoemabbmjdhgaaDoorW.PrintMore
attribute [local go_sem] max2_int min2_int max_two min_two max_three min_three max_four min_four neB_f
set_option linter.unusedVariables false
set_option maxHeartbeats 8000000
set_option maxRecDepth 100000
set_option linter.unusedSimpArgs false
def spec_seThreshold.f (a0 : Int) : Option (Bool) := (spec_l1In.f a0 1 10).bind fun t234 => (some t234)
theorem spec_seThreshold.calls (a0 : Int) (r : Bool) (w : World) (h : spec_seThreshold.f a0 = some r) :
  Calls Tryd.prog 67 #[.int .i64 a0] w fun e w' => e = .returned (.bool r) ∧ Drawn0 w w' := by
 have H := h
 clear h
 unfold spec_seThreshold.f at H
 obtain ⟨t234, A2, H⟩ := obE H
 obtain rfl := Option.some.inj H
 go_enter Tryd.func67, Tryd.ntmps67
 go_wp2_with (first | ((with_reducible refine gate_callee (f := 53) rfl ?_); refine goesQ (some 4) Tryd.func53 #[.int .i64 a0, .int .i64 1, .int .i64 10] ?_; (with_reducible refine (spec_l1In.calls a0 1 10 t234 _ A2.out).mono ?_); rintro e w' ⟨rfl, ⟨nd, rfl⟩⟩; refine ⟨_, rfl, ?_⟩))
 go_ret
 exact ⟨eqS, drE⟩
mutual
def spec_OrderOfPlaces.j0 : Nat → Int → List Int → Bool → Option (Int × List Int × Bool)
 | 0, _, _, _ => none
 | k + 1, x0, x1, x24 => if x24 = true then (some (0, ([] : List Int), false)) else (spec_OrderOfPlaces.l0 k x0 x1 x1 (x1.length : Int) 0 (x1.length : Int) ([] : List Int))
def spec_OrderOfPlaces.l0 : Nat → Int → List Int → List Int → Int → Int → Int → List Int → Option (Int × List Int × Bool)
 | 0, _, _, _, _, _, _, _ => none
 | k + 1, x0, x1, x29, x30, x31, x239000, x239001 => if x31 < x30 then (if 0 ≤ x31 then (if x31 < (x29.length : Int) then (spec_OrderOfPlaces.l1 k x0 x1 (rd x29 x31) 0 x29 x30 x31 x1 (x1.length : Int) 0 x239000 x239001) else (none)) else (none)) else (some (x239000, x239001, true))
def spec_OrderOfPlaces.l1 : Nat → Int → List Int → Int → Int → List Int → Int → Int → List Int → Int → Int → Int → List Int → Option (Int × List Int × Bool)
 | 0, _, _, _, _, _, _, _, _, _, _, _, _ => none
 | k + 1, x0, x1, x8, x9, x29, x30, x31, x35, x36, x37, x239000, x239001 => if x37 < x36 then (if 0 ≤ x37 then (if x37 < (x35.length : Int) then (if (rd x35 x37) ≥ (wrap64 (x8 + x0)) then (spec_OrderOfPlaces.l1 k x0 x1 x8 (Go.bits .or .i64 x9 (shl .i64 1 x37)) x29 x30 x31 x35 x36 (wrap64 (x37 + 1)) x239000 x239001) else (spec_OrderOfPlaces.l1 k x0 x1 x8 x9 x29 x30 x31 x35 x36 (wrap64 (x37 + 1)) x239000 x239001)) else (none)) else (none)) else (if x239001.length < 17592186044416 then (spec_OrderOfPlaces.l0 k x0 x1 x29 x30 (wrap64 (x31 + 1)) x239000 (x239001 ++ [x9])) else (none))
end
def spec_OrderOfPlaces.f (k : Nat) (a0 : Int) (l1 : List Int) : Option (Int × List Int × Bool) := (spec_seThreshold.f a0).bind fun t236 => (if t236 = true then (if (l1.length : Int) > 10 then (spec_OrderOfPlaces.j0 k a0 l1 true) else ((spec_l1All.f k l1 0 1000).bind fun t237 => (spec_OrderOfPlaces.j0 k a0 l1 (!t237)))) else (spec_OrderOfPlaces.j0 k a0 l1 true))
theorem spec_OrderOfPlaces.mono_l : ∀ k, (∀ y0 y1 y2, LeO (spec_OrderOfPlaces.j0 k y0 y1 y2) (spec_OrderOfPlaces.j0 (k + 1) y0 y1 y2)) ∧ (∀ y0 y1 y2 y3 y4 y5 y6, LeO (spec_OrderOfPlaces.l0 k y0 y1 y2 y3 y4 y5 y6) (spec_OrderOfPlaces.l0 (k + 1) y0 y1 y2 y3 y4 y5 y6)) ∧ (∀ y0 y1 y2 y3 y4 y5 y6 y7 y8 y9 y10 y11, LeO (spec_OrderOfPlaces.l1 k y0 y1 y2 y3 y4 y5 y6 y7 y8 y9 y10 y11) (spec_OrderOfPlaces.l1 (k + 1) y0 y1 y2 y3 y4 y5 y6 y7 y8 y9 y10 y11))
 | 0 => ⟨fun _ _ _ r h => by simp [spec_OrderOfPlaces.j0] at h, fun _ _ _ _ _ _ _ r h => by simp [spec_OrderOfPlaces.l0] at h, fun _ _ _ _ _ _ _ _ _ _ _ _ r h => by simp [spec_OrderOfPlaces.l1] at h⟩
 | k + 1 => by
  obtain ⟨ih0, ih1, ih2⟩ := spec_OrderOfPlaces.mono_l k
  refine ⟨?_, ?_, ?_⟩ <;> intros
  unfold spec_OrderOfPlaces.j0
  rotate_left
  unfold spec_OrderOfPlaces.l0
  rotate_left
  unfold spec_OrderOfPlaces.l1
  rotate_left
  all_goals repeat' (with_reducible first|apply ih0|apply ih1|apply ih2|apply spec_l1All.mono|apply LeO.refl|apply LeO.none|apply LeO.ite|apply LeO.bind|intro)
theorem spec_OrderOfPlaces.mono : ∀ a0 a1 k, LeO (spec_OrderOfPlaces.f k a0 a1) (spec_OrderOfPlaces.f (k + 1) a0 a1) := by
 intro a0 a1 k
 obtain ⟨ih0, ih1, ih2⟩ := spec_OrderOfPlaces.mono_l k
 unfold spec_OrderOfPlaces.f
 repeat' (with_reducible first|apply ih0|apply ih1|apply ih2|apply spec_l1All.mono|apply LeO.refl|apply LeO.none|apply LeO.ite|apply LeO.bind|intro)
theorem spec_OrderOfPlaces.calls (k : Nat) (a0 : Int) (A1 : Option Addr) (c1 : Nat) (l1 : List Int) (r1 : Int) (r2 : List Int) (r3 : Bool) (w : World) (hr1 : Kd.C (Kd.int .i64) w A1 l1.length l1) (hc1 : l1.length ≤ c1) (h : spec_OrderOfPlaces.f k a0 l1 = some (r1, r2, r3)) :
  Calls Tryd.prog 52 #[.int .i64 a0, .slice A1 l1.length c1] w fun e w' => ∃ v1_ : Value, e = .returned (.tuple #[.agg #[.int .i64 r1, v1_], .bool r3]) ∧ Kd.R (Kd.int .i64) 3 w' w.heap.size (fun _ => True) v1_ r2 ∧ Below w.heap.size w w' := by
 have hu26 := Tryd.underlying26
 have HR1 := mkA hr1
 have HC1 := mkA hc1
 clear hr1 hc1
 have HB := mkA (Below.refl w.heap.size w)
 have H := h
 clear h
 unfold spec_OrderOfPlaces.f at H
 have HC3 := mkA H
 clear H
 go_enter Tryd.func52, Tryd.ntmps52
 go_upto_region 1 with (first | ((with_reducible refine gate_dst (N := 4) rfl ?_); (try (refine gate_guard (by rfl) ?_; dsimp only)); refine boxG HB #[.int .i64 0, .slice none 0 0] 26 ?_; intro gb235 hg w4 BK235 GE235 hb; replace HB := bst HB hb; clear hb hg))
 (try simp only [Act.put, List.setIfInBounds_toArray, List.set_cons_zero, List.set_cons_succ])
 go_cut [24] (fun v24 wc => ∃ (kq : Nat) (x24_2 : Bool), v24 = .bool x24_2 ∧ Fc (spec_OrderOfPlaces.j0 kq a0 l1 x24_2 = some (r1, r2, r3)) ∧ Fc (kq ≤ k) ∧ Fc (wc.heap[gb235]? = some (.cells #[.int .i64 0, (.slice none 0 0)] 26 (0, 0))) ∧ Fc (Below w.heap.size w wc))
 case first =>
  have H := HC3.out
  clear HC3
  obtain ⟨t236, A5, H⟩ := obE H
  by_cases c6 : t236 = true
  ·subst c6
   replace H := ifT H
   rcases iteP H with ⟨c7, H⟩ | ⟨c7, H⟩
   ·have c7b0 := decide_eq_true c7
    have c7b1 : decide (10 < l1.length) = true := decide_eq_true (by omega)
    clear c7
    (first | rw [c7b0] | (simp only [i64_w, i32_w]; rw [c7b0]) | skip)
    have H' := mkA H
    clear H
    go_wp2_with (first | ((with_reducible refine gate_callee (f := 67) rfl ?_); refine goesQ (some 13) Tryd.func67 #[.int .i64 a0] ?_; (with_reducible refine (spec_seThreshold.calls a0 true _ A5.out).mono ?_); rintro e w' ⟨rfl, ⟨nd, rfl⟩⟩; refine ⟨_, rfl, ?_⟩))
    go_meet
    case rel => exact ⟨_, (true), eqS, H', ⟨by first | omega | exact Nat.le_refl _⟩, bg BK235, hbg HB⟩
   ·have c7b0 := decide_eq_false c7
    have c7b1 : decide (10 < l1.length) = false := decide_eq_false (by omega)
    clear c7
    (first | rw [c7b0] | (simp only [i64_w, i32_w]; rw [c7b0]) | skip)
    obtain ⟨t237, A8, H⟩ := obE H
    have H' := mkA H
    clear H
    go_wp2_with (first | ((with_reducible refine gate_callee (f := 67) rfl ?_); refine goesQ (some 13) Tryd.func67 #[.int .i64 a0] ?_; (with_reducible refine (spec_seThreshold.calls a0 true _ A5.out).mono ?_); rintro e w' ⟨rfl, ⟨nd, rfl⟩⟩; refine ⟨_, rfl, ?_⟩) | (go_at_call 54; (with_reducible refine (spec_l1All.calls k _ _ l1 0 1000 t237 _ ?s1 ?s2 A8.out).mono ?_); (case s1 => repeat (first | exact (Kd.C_below HR1.out (bel_g HB.out)) | (with_reducible refine Kd.C_alloc ?_ _) | (with_reducible refine Kd.C_drewN ?_ _) | (with_reducible refine Kd.C_drew ?_))); (case s2 => exact HC1.out); rintro e w' ⟨rfl, ⟨nd, rfl⟩⟩))
    go_meet
    case rel => exact ⟨_, (!t237), eqS, H', ⟨by first | omega | exact Nat.le_refl _⟩, bg BK235, hbg HB⟩
  ·replace c6 := Bool.eq_false_iff.mpr c6
   subst c6
   replace H := ifF H
   have H' := mkA H
   clear H
   go_wp2_with (first | ((with_reducible refine gate_callee (f := 67) rfl ?_); refine goesQ (some 13) Tryd.func67 #[.int .i64 a0] ?_; (with_reducible refine (spec_seThreshold.calls a0 false _ A5.out).mono ?_); rintro e w' ⟨rfl, ⟨nd, rfl⟩⟩; refine ⟨_, rfl, ?_⟩))
   go_meet
   case rel => exact ⟨_, (true), eqS, H', ⟨by first | omega | exact Nat.le_refl _⟩, bg BK235, hbg HB⟩
 case rest =>
  clear HC3
  try clear c1
  try clear c6
  try clear c7
  try clear c7b0
  try clear c7b1
  obtain ⟨kq, x24_2, rfl, HA, HJ2, BK235, HB⟩ := hcut
  cases kq with
  | zero => exact absurd HA.out (by simp [spec_OrderOfPlaces.j0])
  | succ kj2 =>
   have H := HA.out
   clear HA
   simp only [spec_OrderOfPlaces.j0] at H
   by_cases c9 : x24_2 = true
   ·subst c9
    replace H := ifT H
    simp only [Option.some.injEq, Prod.mk.injEq] at H
    obtain ⟨rfl, rfl, rfl⟩ := H
    obtain ⟨_, _, _, _⟩ := blk2 BK235
    go_wp2
    refine bodyPost_ret (results_ct rfl _ _ gb235 26 #[.int .i64 0, .slice none 0 0] (0, 0) _ rfl (blkT BK235) Tryd.underlying26 rfl (by kernel_rfl)) rfl ?_
    exact ⟨_, eqE, nilE, bel_g HB.out⟩
   ·replace c9 := Bool.eq_false_iff.mpr c9
    subst c9
    replace H := ifF H
    have H' := mkA H
    clear H
    go_wp2_with (first | ((with_reducible refine gate_dst (N := 6) rfl ?_); (try (refine gate_guard (by rfl) ?_; dsimp only)); refine boxG HB #[.int .i64 0, .slice none 0 0] 26 ?_; intro gb238 hg w11 BK238 GE238 hb; have NB235_238 := neL7 BK235 hg; have NB238_235 := neR7 BK235 hg; replace BK235 := blkB BK235 hb; replace HB := bst HB hb; clear hb hg; obtain ⟨_, _, _, _⟩ := blk2 BK238))
    go_loopg [31] kj2 (fun kq v31 w' => ∃ (x31_2 : Int) (x239001_2 : List Int) (u239001 : Value), v31 = .int .i64 x31_2 ∧ Fc (spec_OrderOfPlaces.l0 kq a0 l1 l1 (l1.length : Int) x31_2 (l1.length : Int) x239001_2 = some (r1, r2, r3)) ∧ Fc (kq ≤ kj2) ∧ Fc (Kd.R (Kd.int .i64) 3 w' w.heap.size (fun _ => True) u239001 x239001_2) ∧ Fc (w'.heap[gb235]? = some (.cells #[.int .i64 0, (.slice none 0 0)] 26 (0, 0))) ∧ Fc (w'.heap[gb238]? = some (.cells #[.int .i64 (l1.length : Int), u239001] 26 (0, 0))) ∧ Fc (Below w.heap.size w w'))
    case atStart => exact ⟨(0), (([] : List Int)), (.slice none 0 0), eqS, H', ⟨Nat.le_refl _⟩, ⟨nilE⟩, ⟨blkT BK235⟩, ⟨blkT BK238⟩, hbg HB⟩
    case round =>
     clear H'
     try clear c1
     try clear c6
     try clear c7
     try clear c7b0
     try clear c7b1
     try clear c9
     obtain ⟨x31_2, x239001_2, u239001, rfl, HA, HK2, HO_239001, BK235, BK238, HB⟩ := hrel
     cases gk with
     | zero => exact absurd HA.out (by simp [spec_OrderOfPlaces.l0])
     | succ k2 =>
      have H := HA.out
      clear HA
      simp only [spec_OrderOfPlaces.l0] at H
      rcases iteE H with ⟨c14b0, H⟩ | ⟨c14b0, H⟩
      ·obtain ⟨c15b0, H⟩ := itND H
       obtain ⟨c16b0, H⟩ := itND H
       have H' := mkA H
       clear H
       obtain ⟨p239, q239, ad239, e239, hx239_0⟩ := atI HR1.out x31_2
       cases e239
       replace hx239_0 := (HB.out.cell (World.block_lt_of_cell? w _ hx239_0)).trans hx239_0
       go_wp2
       go_loopg [9, 37] k2 (fun kq v9 v37 w' => ∃ (x9_3 : Int) (x37_3 : Int), v9 = .int .i64 x9_3 ∧ v37 = .int .i64 x37_3 ∧ Fc (spec_OrderOfPlaces.l1 kq a0 l1 (rd l1 x31_2) x9_3 l1 (l1.length : Int) x31_2 l1 (l1.length : Int) x37_3 (l1.length : Int) x239001_2 = some (r1, r2, r3)) ∧ Fc (kq ≤ k2) ∧ Fc (Kd.R (Kd.int .i64) 3 w' w.heap.size (fun _ => True) u239001 x239001_2) ∧ Fc (w'.heap[gb235]? = some (.cells #[.int .i64 0, (.slice none 0 0)] 26 (0, 0))) ∧ Fc (w'.heap[gb238]? = some (.cells #[.int .i64 (l1.length : Int), u239001] 26 (0, 0))) ∧ Fc (Below w.heap.size w w'))
       case atStart => exact ⟨(0), (0), eqS, eqS, H', ⟨Nat.le_refl _⟩, rg HO_239001, bg BK235, bg BK238, hbg HB⟩
       case round =>
        clear H'
        try clear c1
        try clear c6
        try clear c7
        try clear c7b0
        try clear c7b1
        try clear c9
        try clear c14b0
        try clear c15
        try clear c15b0
        try clear c16
        try clear c16b0
        try clear hx239_0
        try clear p239
        try clear q239
        obtain ⟨x9_3, x37_3, rfl, rfl, HA, HK3, HO_239001, BK235, BK238, HB⟩ := hrel
        cases gk with
        | zero => exact absurd HA.out (by simp [spec_OrderOfPlaces.l1])
        | succ k3 =>
         have H := HA.out
         clear HA
         simp only [spec_OrderOfPlaces.l1] at H
         rcases iteE H with ⟨c17b0, H⟩ | ⟨c17b0, H⟩
         ·obtain ⟨c18b0, H⟩ := itND H
          obtain ⟨c19b0, H⟩ := itND H
          rcases iteP H with ⟨c20, H⟩ | ⟨c20, H⟩
          ·have c20b0 := decide_eq_true c20
           clear c20
           have c21b0 := eq_true (ofd : 0 ≤ x37_3)
           obtain ⟨ji22, hji22⟩ : ∃ j_ : Int, (shl .i64 1 x37_3) = j_ := ⟨_, rfl⟩
           first | rw [hji22] at H | simp only [hji22] at H
           have hji22_ : (IntKind.i64.wrap (1 * 2 ^ min x37_3.toNat 64)) = ji22 := hji22
           have hji22z : x37_3 ≤ 64 → (IntKind.i64.wrap (1 * 2 ^ x37_3.toNat)) = ji22 := shl_small hji22
           have hji22u : (IntKind.i64.wrap (2 ^ min x37_3.toNat 64)) = ji22 := by have h_ := hji22_; rw [Int.one_mul] at h_; exact h_
           have hji22v : x37_3 ≤ 64 → (IntKind.i64.wrap (2 ^ x37_3.toNat)) = ji22 := fun hle_ => by have h_ := hji22z hle_; rw [Int.one_mul] at h_; exact h_
           have hji22y : (wrap64 (1 * 2 ^ min x37_3.toNat 64)) = ji22 := (i64_w _).symm.trans hji22_
           have hji22x : x37_3 ≤ 64 → (wrap64 (1 * 2 ^ x37_3.toNat)) = ji22 := fun h_ => (i64_w _).symm.trans (hji22z h_)
           have H' := mkA H
           clear H
           obtain ⟨p240, q240, ad240, e240, hx240_0⟩ := atI HR1.out x37_3
           obtain rfl : ad239 = ad240 := (by injection e240)
           replace hx240_0 := (HB.out.cell (World.block_lt_of_cell? w _ hx240_0)).trans hx240_0
           go_wp2
           go_roundg k3
           case measure => have := HJ2.out; have := HK2.out; have := HK3.out; omega
           case rel => exact ⟨(Go.bits .or .i64 x9_3 (ji22)), (wrap64 (x37_3 + 1)), (by first | rfl | (simp; done) | (simp only [← hji22] <;> (first | rfl | simp)) | (simp [*]; done)), eqS, H', ⟨by have := HJ2.out; have := HK2.out; have := HK3.out; omega⟩, rg HO_239001, bg BK235, bg BK238, hbg HB⟩
          ·have c20b0 := decide_eq_false c20
           clear c20
           have H' := mkA H
           clear H
           obtain ⟨p240, q240, ad240, e240, hx240_0⟩ := atI HR1.out x37_3
           obtain rfl : ad239 = ad240 := (by injection e240)
           replace hx240_0 := (HB.out.cell (World.block_lt_of_cell? w _ hx240_0)).trans hx240_0
           go_wp2
           go_roundg k3
           case measure => have := HJ2.out; have := HK2.out; have := HK3.out; omega
           case rel => exact ⟨(x9_3), (wrap64 (x37_3 + 1)), eqS, eqS, H', ⟨by have := HJ2.out; have := HK2.out; have := HK3.out; omega⟩, rg HO_239001, bg BK235, bg BK238, hbg HB⟩
         ·obtain ⟨c23, H⟩ := itNP H
          have LMc23 := mkA c23
          clear c23
          obtain ⟨y241, hy241⟩ : ∃ y_ : List Int, y_ = (x239001_2 ++ [x9_3]) := ⟨_, rfl⟩
          rw [← hy241] at H
          have Ny241 := mkA hy241
          clear hy241
          have H' := mkA H
          clear H
          obtain ⟨_, _, _, _⟩ := blk2 BK238
          go_wp2_with (first | ((with_reducible refine gate_builtin (b := .append) (xs := #[.tmp 53, .tmp 55]) rfl ?_); (try (refine gate_guard (by rfl) ?_; dsimp only)); at_builtin; refine Kd.R_append (Kd.int .i64) (w0 := w) w.heap.size rfl (.tmp 53) (.tmp 55) 24 3 (.int .i64 0) 8 rfl Tryd.underlying24 info3 rfl (by decide) (by omega) u239001 x239001_2 x9_3 [.int .i64 x9_3] (fun _ => True) (fun _ => False) rfl rfl ?aP (fun _ hk => hk.elim) ?aF ?aO ?aB ?aS ?aL ?_; (case aP => exact rfl); (case aB => exact (bel_g HB.out)); (case aF => exact (fun _ _ => trivial)); (case aO => exact (Kd.R_g HO_239001.out)); (case aS => exact (below_size (bel_g HB.out))); (case aL => have := LMc23.out; omega); intro v242 w26 ho hb hg hat; rw [← Ny241.out] at ho; replace BK235 := mkA (blk_grown (g := gb235) (o := .cells #[.int .i64 0, .slice none 0 0] 26 (0, 0)) (blk_g BK235.out) hg (Kd.R_ne HO_239001.out BK235.out (by decide))); replace BK238 := mkA (blk_grown (g := gb238) (o := .cells #[.int .i64 (l1.length : Int), u239001] 26 (0, 0)) (blk_g BK238.out) hg (Kd.R_ne HO_239001.out BK238.out (by decide))); have HO243 := mkA (ho); replace HB := mkA (hb); clear HO_239001; clear ho hb hg hat; obtain ⟨Ao27, co27, rfl⟩ := Kd.R_slice HO243.out; obtain ⟨_, _, _, _⟩ := blk2 BK238))
          go_roundg k3
          case measure => have := HJ2.out; have := HK2.out; have := HK3.out; omega
          case rel => exact ⟨(wrap64 (x31_2 + 1)), (y241), (.slice Ao27 y241.length co27), eqS, H', ⟨by have := HJ2.out; have := HK2.out; have := HK3.out; omega⟩, ⟨Kd.R_g (Kd.R_mono (Kd.R_far (p := ⟨gb238, 1, none⟩) (Kd.R_types HO243.out BK238.out (by decide)) (fun _ hk => hk.2) (.slice Ao27 y241.length co27)) (fun _ hk => trivial))⟩, ⟨blkT BK235⟩, ⟨blkT BK238⟩, hbg HB⟩
      ·simp only [Option.some.injEq, Prod.mk.injEq] at H
       obtain ⟨rfl, rfl, rfl⟩ := H
       obtain ⟨_, _, _, _⟩ := blk2 BK238
       obtain ⟨_, _, _, _⟩ := blk2 BK235
       obtain ⟨Ao32, co32, rfl⟩ := Kd.R_slice HO_239001.out
       go_wp2
       refine bodyPost_ret (results_ct rfl _ _ gb235 26 #[.int .i64 (l1.length : Int), .slice Ao32 x239001_2.length co32] (0, 0) _ rfl (blkT BK235) Tryd.underlying26 rfl (by kernel_rfl)) rfl ?_
       exact ⟨_, eqE, Kd.R_g (Kd.R_mono (rF HO_239001 BK235) (fun _ _ => trivial)), bel_g HB.out⟩
end Go.Proofs.YtmoemabbmjdhgaaDoor.Q
