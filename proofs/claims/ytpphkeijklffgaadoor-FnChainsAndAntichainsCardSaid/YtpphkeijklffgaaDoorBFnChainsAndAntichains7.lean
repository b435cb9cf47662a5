import Derived.Test.YtpphkeijklffgaaDoorBFnChainsAndAntichains2
namespace Go.Proofs.YtpphkeijklffgaaDoor.Q
open Go.RowKit Go.Proofs.YtpphkeijklffgaaDoorW.PrintWords Go.Proofs.YtpphkeijklffgaaDoorW.PrintLast Go.Proofs.YtpphkeijklffgaaDoorW.PrintMore
attribute [local go_sem] max2_int min2_int max_two min_two max_three min_three max_four min_four neB_f
set_option linter.unusedVariables false
set_option maxHeartbeats 8000000
set_option maxRecDepth 100000
set_option linter.unusedSimpArgs false
def spec_orList.l0 : Nat → Int → List Int → Int → Option (List Int)
 | 0, _, _, _ => none
 | k + 1, x0, x3, x4 => if 0 ≤ x4 then (if (shr .i64 x0 x4) > 0 then ((spec_orHas.f x0 x4).bind fun t234 => (if t234 = true then (if x3.length < 17592186044416 then (spec_orList.l0 k x0 (x3 ++ [x4]) (wrap64 (x4 + 1))) else (none)) else (spec_orList.l0 k x0 x3 (wrap64 (x4 + 1))))) else (some x3)) else (none)
def spec_orList.f (k : Nat) (a0 : Int) : Option (List Int) := spec_orList.l0 k a0 ([] : List Int) 0
theorem spec_orList.mono_l : ∀ k, (∀ y0 y1 y2, LeO (spec_orList.l0 k y0 y1 y2) (spec_orList.l0 (k + 1) y0 y1 y2))
 | 0 => fun _ _ _ r h => by simp [spec_orList.l0] at h
 | k + 1 => by
  have ih0 := spec_orList.mono_l k
  ·intro y0 y1 y2
   unfold spec_orList.l0
   repeat' (with_reducible first|apply ih0|apply LeO.refl|apply LeO.none|apply LeO.ite|apply LeO.bind|intro)
theorem spec_orList.mono : ∀ a0 k, LeO (spec_orList.f k a0) (spec_orList.f (k + 1) a0) := by
 intro a0 k
 have ih0 := spec_orList.mono_l k
 unfold spec_orList.f
 repeat' (with_reducible first|apply ih0|apply LeO.refl|apply LeO.none|apply LeO.ite|apply LeO.bind|intro)
theorem spec_orList.calls (k : Nat) (a0 : Int) (r : List Int) (w : World) (h : spec_orList.f k a0 = some r) :
  Calls Tryd.prog 36 #[.int .i64 a0] w fun e w' => ∃ v0_ : Value, e = .returned (v0_) ∧ Kd.R (Kd.int .i64) 3 w' w.heap.size (fun _ => True) v0_ r ∧ Below w.heap.size w w' := by
 have HB := mkA (Below.refl w.heap.size w)
 have H := h
 clear h
 unfold spec_orList.f at H
 have H' := mkA H
 clear H
 go_enter Tryd.func36, Tryd.ntmps36
 go_wp2
 go_loopg [3, 4] k (fun kq v3 v4 w' => ∃ (x3_1 : List Int) (x4_1 : Int), v4 = .int .i64 x4_1 ∧ Fc (spec_orList.l0 kq a0 x3_1 x4_1 = some r) ∧ Fc (kq ≤ k) ∧ Fc (Kd.R (Kd.int .i64) 3 w' w.heap.size (fun _ => True) v3 x3_1) ∧ Fc (Below w.heap.size w w'))
 case atStart => exact ⟨(([] : List Int)), (0), eqS, H', ⟨Nat.le_refl _⟩, ⟨nilE⟩, hbg HB⟩
 case round =>
  clear H'
  obtain ⟨x3_1, x4_1, rfl, HA, HK1, HO_3, HB⟩ := hrel
  cases gk with
  | zero => exact absurd HA.out (by simp [spec_orList.l0])
  | succ k1 =>
   have H := HA.out
   clear HA
   simp only [spec_orList.l0] at H
   obtain ⟨c2b0, c2b1, H⟩ := itNQ H
   obtain ⟨ji3, hji3⟩ : ∃ j_ : Int, (shr .i64 a0 x4_1) = j_ := ⟨_, rfl⟩
   first | rw [hji3] at H | simp only [hji3] at H
   have hji3_ : (a0 / 2 ^ min x4_1.toNat 64) = ji3 := hji3
   have hji3z : x4_1 ≤ 64 → (a0 / 2 ^ x4_1.toNat) = ji3 := shr_small hji3
   rcases iteP H with ⟨c4, H⟩ | ⟨c4, H⟩
   ·have c4b0 := decide_eq_true c4
    clear c4
    obtain ⟨t234, A5, H⟩ := obE H
    by_cases c6 : t234 = true
    ·subst c6
     replace H := ifT H
     obtain ⟨c7, H⟩ := itNP H
     have LMc7 := mkA c7
     clear c7
     obtain ⟨y235, hy235⟩ : ∃ y_ : List Int, y_ = (x3_1 ++ [x4_1]) := ⟨_, rfl⟩
     rw [← hy235] at H
     have Ny235 := mkA hy235
     clear hy235
     have H' := mkA H
     clear H
     go_wp2_with (first | ((with_reducible refine gate_callee (f := 35) rfl ?_); refine goesQ (some 13) Tryd.func35 #[.int .i64 a0, .int .i64 x4_1] ?_; (with_reducible refine (spec_orHas.calls a0 x4_1 true _ A5.out).mono ?_); rintro e w' ⟨rfl, ⟨nd, rfl⟩⟩; refine ⟨_, rfl, ?_⟩) | ((with_reducible refine gate_builtin (b := .append) (xs := #[.tmp 14, .tmp 16]) rfl ?_); at_builtin; refine Kd.R_append (Kd.int .i64) (w0 := w) w.heap.size rfl (.tmp 14) (.tmp 16) 24 3 (.int .i64 0) 8 rfl Tryd.underlying24 info3 rfl (by decide) (by omega) u3 x3_1 x4_1 [.int .i64 x4_1] (fun _ => True) (fun _ => False) rfl rfl ?aP (fun _ hk => hk.elim) ?aF ?aO ?aB ?aS ?aL ?_; (case aP => exact rfl); (case aB => exact (bel_g HB.out)); (case aF => exact (fun _ _ => trivial)); (case aO => exact (Kd.R_g HO_3.out)); (case aS => exact (below_size (bel_g HB.out))); (case aL => have := LMc7.out; omega); intro v236 w8 ho hb hg hat; rw [← Ny235.out] at ho; have HO237 := mkA (ho); replace HB := mkA (hb); clear HO_3; clear ho hb hg hat))
     go_roundg k1
     case measure => have := HK1.out; omega
     case rel => exact ⟨(y235), (wrap64 (x4_1 + 1)), eqS, H', ⟨by have := HK1.out; omega⟩, rg HO237, hbg HB⟩
    ·replace c6 := Bool.eq_false_iff.mpr c6
     subst c6
     replace H := ifF H
     have H' := mkA H
     clear H
     go_wp2_with (first | ((with_reducible refine gate_callee (f := 35) rfl ?_); refine goesQ (some 13) Tryd.func35 #[.int .i64 a0, .int .i64 x4_1] ?_; (with_reducible refine (spec_orHas.calls a0 x4_1 false _ A5.out).mono ?_); rintro e w' ⟨rfl, ⟨nd, rfl⟩⟩; refine ⟨_, rfl, ?_⟩))
     go_roundg k1
     case measure => have := HK1.out; omega
     case rel => exact ⟨(x3_1), (wrap64 (x4_1 + 1)), eqS, H', ⟨by have := HK1.out; omega⟩, rg HO_3, hbg HB⟩
   ·have c4b0 := decide_eq_false c4
    clear c4
    obtain rfl := Option.some.inj H
    go_wp2
    go_ret
    exact ⟨_, by first | rfl | (simp [errW_none, errW_some] <;> rfl) | (simp only [← hji3]; first | rfl | (simp [errW_none, errW_some] <;> rfl)) | (simp [*, errW_none, errW_some] <;> rfl), Kd.R_g HO_3.out, bel_g HB.out⟩
mutual
def spec_orGood.l0 : Nat → List Int → Int → Int → Int → List Int → Option (Bool)
 | 0, _, _, _, _, _ => none
 | k + 1, x11, x12, x13, x239000, x239001 => if x13 < x12 then (if 0 ≤ x13 then (if x13 < (x11.length : Int) then ((spec_orHas.f (rd x11 x13) x13).bind fun t241 => (if t241 = true then (some false) else ((spec_orList.f k (rd x11 x13)).bind fun t242 => (spec_orGood.l1 k (rd x11 x13) x11 x12 x13 t242 (t242.length : Int) 0 x239000 x239001)))) else (none)) else (none)) else (some true)
def spec_orGood.l1 : Nat → Int → List Int → Int → Int → List Int → Int → Int → Int → List Int → Option (Bool)
 | 0, _, _, _, _, _, _, _, _, _ => none
 | k + 1, x4, x11, x12, x13, x22, x23, x24, x239000, x239001 => if x24 < x23 then (if 0 ≤ x24 then (if x24 < (x22.length : Int) then (if 0 ≤ (rd x22 x24) then (if (rd x22 x24) < (x239001.length : Int) then (if (Go.bits .andNot .i64 (rd x239001 (rd x22 x24)) x4) = 0 then (spec_orGood.l1 k x4 x11 x12 x13 x22 x23 (wrap64 (x24 + 1)) x239000 x239001) else (some false)) else (none)) else (none)) else (none)) else (none)) else (spec_orGood.l0 k x11 x12 (wrap64 (x13 + 1)) x239000 x239001)
end
def spec_orGood.f (k : Nat) (a0_0 : Int) (l0_1 : List Int) : Option (Bool) := (spec_orRelation.f k a0_0 l0_1).bind fun t239 => (if t239 = true then (spec_orGood.l0 k l0_1 (l0_1.length : Int) 0 a0_0 l0_1) else (some false))
theorem spec_orGood.mono_l : ∀ k, (∀ y0 y1 y2 y3 y4, LeO (spec_orGood.l0 k y0 y1 y2 y3 y4) (spec_orGood.l0 (k + 1) y0 y1 y2 y3 y4)) ∧ (∀ y0 y1 y2 y3 y4 y5 y6 y7 y8, LeO (spec_orGood.l1 k y0 y1 y2 y3 y4 y5 y6 y7 y8) (spec_orGood.l1 (k + 1) y0 y1 y2 y3 y4 y5 y6 y7 y8))
 | 0 => ⟨fun _ _ _ _ _ r h => by simp [spec_orGood.l0] at h, fun _ _ _ _ _ _ _ _ _ r h => by simp [spec_orGood.l1] at h⟩
 | k + 1 => by
  obtain ⟨ih0, ih1⟩ := spec_orGood.mono_l k
  refine ⟨?_, ?_⟩ <;> intros
  unfold spec_orGood.l0
  rotate_left
  unfold spec_orGood.l1
  rotate_left
  all_goals repeat' (with_reducible first|apply ih0|apply ih1|apply spec_orList.mono|apply spec_orRelation.mono|apply LeO.refl|apply LeO.none|apply LeO.ite|apply LeO.bind|intro)
theorem spec_orGood.mono : ∀ a0 a1 k, LeO (spec_orGood.f k a0 a1) (spec_orGood.f (k + 1) a0 a1) := by
 intro a0 a1 k
 obtain ⟨ih0, ih1⟩ := spec_orGood.mono_l k
 unfold spec_orGood.f
 repeat' (with_reducible first|apply ih0|apply ih1|apply spec_orList.mono|apply spec_orRelation.mono|apply LeO.refl|apply LeO.none|apply LeO.ite|apply LeO.bind|intro)
theorem spec_orGood.calls (k : Nat) (a0_0 : Int) (A0_1 : Option Addr) (c0_1 : Nat) (l0_1 : List Int) (r : Bool) (w : World) (hr0_1 : Kd.C (Kd.int .i64) w A0_1 l0_1.length l0_1) (hc0_1 : l0_1.length ≤ c0_1) (h : spec_orGood.f k a0_0 l0_1 = some r) :
  Calls Tryd.prog 16 #[.agg #[.int .i64 a0_0, .slice A0_1 l0_1.length c0_1]] w fun e w' => e = .returned (.bool r) ∧ Below w.heap.size w w' := by
 have hu26 := Tryd.underlying26
 have HR0_1 := mkA hr0_1
 have HC0_1 := mkA hc0_1
 clear hr0_1 hc0_1
 have HB := mkA (Below.refl w.heap.size w)
 have H := h
 clear h
 unfold spec_orGood.f at H
 obtain ⟨t239, A2, H⟩ := obE H
 by_cases c3 : t239 = true
 ·subst c3
  replace H := ifT H
  have H' := mkA H
  clear H
  go_enter Tryd.func16, Tryd.ntmps16
  go_wp2_with (first | ((with_reducible refine gate_dst (N := 1) rfl ?_); refine boxG HB #[.int .i64 a0_0, .slice A0_1 l0_1.length c0_1] 26 ?_; intro gb238 hg w4 BK238 GE238 hb; replace HB := bst HB hb; clear hb hg; obtain ⟨_, _, _, _⟩ := blk2 BK238) | ((with_reducible refine gate_callee (f := 34) rfl ?_); refine goesQ (some 8) Tryd.func34 #[.agg #[.int .i64 a0_0, .slice A0_1 l0_1.length c0_1]] ?_; (with_reducible refine (spec_orRelation.calls k a0_0 _ _ l0_1 true _ ?_ ?_ A2.out).mono ?_); exact C_g HR0_1 HB; exact HC0_1.out; rintro e w6 ⟨rfl, hb⟩; refine ⟨_, rfl, ?_⟩; replace BK238 := blkB BK238 hb; replace HB := bst HB hb; clear hb; obtain ⟨_, _, _, _⟩ := blk2 BK238))
  go_loopg [13] k (fun kq v13 w' => ∃ (x13_1 : Int), v13 = .int .i64 x13_1 ∧ Fc (spec_orGood.l0 kq l0_1 (l0_1.length : Int) x13_1 a0_0 l0_1 = some r) ∧ Fc (kq ≤ k) ∧ Fc (w'.heap[gb238]? = some (.cells #[.int .i64 a0_0, (.slice A0_1 l0_1.length c0_1)] 26 (0, 0))) ∧ Fc (Below w.heap.size w w'))
  case atStart => exact ⟨(0), eqS, H', ⟨Nat.le_refl _⟩, bg BK238, hbg HB⟩
  case round =>
   clear H'
   try clear c3
   obtain ⟨x13_1, rfl, HA, HK1, BK238, HB⟩ := hrel
   cases gk with
   | zero => exact absurd HA.out (by simp [spec_orGood.l0])
   | succ k1 =>
    have H := HA.out
    clear HA
    simp only [spec_orGood.l0] at H
    rcases iteE H with ⟨c8b0, H⟩ | ⟨c8b0, H⟩
    ·obtain ⟨c9b0, H⟩ := itND H
     obtain ⟨c10b0, H⟩ := itND H
     obtain ⟨t241, A11, H⟩ := obE H
     by_cases c12 : t241 = true
     ·subst c12
      replace H := ifT H
      obtain rfl := Option.some.inj H
      obtain ⟨p240, q240, ad240, e240, hx240_0⟩ := atI HR0_1.out x13_1
      cases e240
      replace hx240_0 := (HB.out.cell (World.block_lt_of_cell? w _ hx240_0)).trans hx240_0
      go_wp2_with (first | ((with_reducible refine gate_callee (f := 35) rfl ?_); refine goesQ (some 20) Tryd.func35 #[.int .i64 (rd l0_1 x13_1), .int .i64 x13_1] ?_; (with_reducible refine (spec_orHas.calls (rd l0_1 x13_1) x13_1 true _ A11.out).mono ?_); rintro e w' ⟨rfl, ⟨nd, rfl⟩⟩; refine ⟨_, rfl, ?_⟩))
      go_ret
      exact ⟨eqE, bel_g HB.out⟩
     ·replace c12 := Bool.eq_false_iff.mpr c12
      subst c12
      replace H := ifF H
      obtain ⟨t242, A13, H⟩ := obE H
      have H' := mkA H
      clear H
      obtain ⟨p240, q240, ad240, e240, hx240_0⟩ := atI HR0_1.out x13_1
      cases e240
      replace hx240_0 := (HB.out.cell (World.block_lt_of_cell? w _ hx240_0)).trans hx240_0
      go_wp2_with (first | ((with_reducible refine gate_callee (f := 35) rfl ?_); refine goesQ (some 20) Tryd.func35 #[.int .i64 (rd l0_1 x13_1), .int .i64 x13_1] ?_; (with_reducible refine (spec_orHas.calls (rd l0_1 x13_1) x13_1 false _ A11.out).mono ?_); rintro e w' ⟨rfl, ⟨nd, rfl⟩⟩; refine ⟨_, rfl, ?_⟩) | ((with_reducible refine gate_callee (f := 36) rfl ?_); refine goesQ (some 22) Tryd.func36 #[.int .i64 (rd l0_1 x13_1)] ?_; (with_reducible refine (spec_orList.calls k1 (rd l0_1 x13_1) t242 _ A13.out).mono ?_); rintro e w14 ⟨v243, rfl, ho0, hb⟩; refine ⟨_, rfl, ?_⟩; have HO244 := rLo ho0 HB; replace BK238 := blkB BK238 hb; replace HB := bst HB hb; clear hb ho0; obtain ⟨Ao15, co15, rfl⟩ := Kd.R_slice HO244.out))
      go_loopg [24] k1 (fun kq v24 w' => ∃ (x24_2 : Int), v24 = .int .i64 x24_2 ∧ Fc (spec_orGood.l1 kq (rd l0_1 x13_1) l0_1 (l0_1.length : Int) x13_1 t242 (t242.length : Int) x24_2 a0_0 l0_1 = some r) ∧ Fc (kq ≤ k1) ∧ Fc (Kd.R (Kd.int .i64) 3 w' w.heap.size (fun _ => True) (.slice Ao15 t242.length co15) t242) ∧ Fc (w'.heap[gb238]? = some (.cells #[.int .i64 a0_0, (.slice (some ad240) l0_1.length c0_1)] 26 (0, 0))) ∧ Fc (Below w.heap.size w w'))
      case atStart => exact ⟨(0), eqS, H', ⟨Nat.le_refl _⟩, rg HO244, bg BK238, hbg HB⟩
      case round =>
       clear H'
       try clear c3
       try clear c8b0
       try clear c9
       try clear c9b0
       try clear c10
       try clear c10b0
       try clear c12
       try clear hx240_0
       try clear p240
       try clear q240
       obtain ⟨x24_2, rfl, HA, HK2, HO_22, BK238, HB⟩ := hrel
       cases gk with
       | zero => exact absurd HA.out (by simp [spec_orGood.l1])
       | succ k2 =>
        have H := HA.out
        clear HA
        simp only [spec_orGood.l1] at H
        rcases iteE H with ⟨c16b0, H⟩ | ⟨c16b0, H⟩
        ·obtain ⟨c17b0, H⟩ := itND H
         obtain ⟨c18b0, H⟩ := itND H
         obtain ⟨c19b0, H⟩ := itND H
         obtain ⟨c20b0, H⟩ := itND H
         rcases iteP H with ⟨c21, H⟩ | ⟨c21, H⟩
         ·have c21b0 := beq_iff_eq.mpr c21
          have c21b1 := bne_eq_false_iff_eq.mpr c21
          clear c21
          have H' := mkA H
          clear H
          obtain ⟨p245, q245, ad245, e245, hx245_0⟩ := atI (Kd.R_reads' HO_22.out).2.2 x24_2
          cases e245
          obtain ⟨_, _, _, _⟩ := blk2 BK238
          obtain ⟨p246, q246, ad246, e246, hx246_0⟩ := atI HR0_1.out (rd t242 x24_2)
          obtain rfl : ad240 = ad246 := (by injection e246)
          replace hx246_0 := (HB.out.cell (World.block_lt_of_cell? w _ hx246_0)).trans hx246_0
          go_wp2
          go_roundg k2
          case measure => have := HK1.out; have := HK2.out; omega
          case rel => exact ⟨(wrap64 (x24_2 + 1)), eqS, H', ⟨by have := HK1.out; have := HK2.out; omega⟩, rg HO_22, bg BK238, hbg HB⟩
         ·have c21b0 := beq_eq_false_iff_ne.mpr c21
          have c21b1 := bne_iff_ne.mpr c21
          obtain rfl := Option.some.inj H
          obtain ⟨p245, q245, ad245, e245, hx245_0⟩ := atI (Kd.R_reads' HO_22.out).2.2 x24_2
          cases e245
          obtain ⟨_, _, _, _⟩ := blk2 BK238
          obtain ⟨p246, q246, ad246, e246, hx246_0⟩ := atI HR0_1.out (rd t242 x24_2)
          obtain rfl : ad240 = ad246 := (by injection e246)
          replace hx246_0 := (HB.out.cell (World.block_lt_of_cell? w _ hx246_0)).trans hx246_0
          go_wp2
          go_ret
          exact ⟨eqE, bel_g HB.out⟩
        ·have H' := mkA H
         clear H
         go_wp2
         go_roundg k2
         case measure => have := HK1.out; have := HK2.out; omega
         case rel => exact ⟨(wrap64 (x13_1 + 1)), eqS, H', ⟨by have := HK1.out; have := HK2.out; omega⟩, bg BK238, hbg HB⟩
    ·obtain rfl := Option.some.inj H
     go_wp2
     go_ret
     exact ⟨eqE, bel_g HB.out⟩
 ·replace c3 := Bool.eq_false_iff.mpr c3
  subst c3
  replace H := ifF H
  obtain rfl := Option.some.inj H
  go_enter Tryd.func16, Tryd.ntmps16
  go_wp2_with (first | ((with_reducible refine gate_dst (N := 1) rfl ?_); refine boxG HB #[.int .i64 a0_0, .slice A0_1 l0_1.length c0_1] 26 ?_; intro gb238 hg w24 BK238 GE238 hb; replace HB := bst HB hb; clear hb hg; obtain ⟨_, _, _, _⟩ := blk2 BK238) | ((with_reducible refine gate_callee (f := 34) rfl ?_); refine goesQ (some 8) Tryd.func34 #[.agg #[.int .i64 a0_0, .slice A0_1 l0_1.length c0_1]] ?_; (with_reducible refine (spec_orRelation.calls k a0_0 _ _ l0_1 false _ ?_ ?_ A2.out).mono ?_); exact C_g HR0_1 HB; exact HC0_1.out; rintro e w26 ⟨rfl, hb⟩; refine ⟨_, rfl, ?_⟩; replace BK238 := blkB BK238 hb; replace HB := bst HB hb; clear hb))
  go_ret
  exact ⟨eqE, bel_g HB.out⟩
def spec_orUpTo.l0 : Nat → Int → List Int → Int → Option (List Int)
 | 0, _, _, _ => none
 | k + 1, x0, x3, x4 => if x4 < x0 then (if x3.length < 17592186044416 then (spec_orUpTo.l0 k x0 (x3 ++ [x4]) (wrap64 (x4 + 1))) else (none)) else (some x3)
def spec_orUpTo.f (k : Nat) (a0 : Int) : Option (List Int) := spec_orUpTo.l0 k a0 ([] : List Int) 0
theorem spec_orUpTo.mono_l : ∀ k, (∀ y0 y1 y2, LeO (spec_orUpTo.l0 k y0 y1 y2) (spec_orUpTo.l0 (k + 1) y0 y1 y2))
 | 0 => fun _ _ _ r h => by simp [spec_orUpTo.l0] at h
 | k + 1 => by
  have ih0 := spec_orUpTo.mono_l k
  ·intro y0 y1 y2
   unfold spec_orUpTo.l0
   repeat' (with_reducible first|apply ih0|apply LeO.refl|apply LeO.none|apply LeO.ite|apply LeO.bind|intro)
theorem spec_orUpTo.mono : ∀ a0 k, LeO (spec_orUpTo.f k a0) (spec_orUpTo.f (k + 1) a0) := by
 intro a0 k
 have ih0 := spec_orUpTo.mono_l k
 unfold spec_orUpTo.f
 repeat' (with_reducible first|apply ih0|apply LeO.refl|apply LeO.none|apply LeO.ite|apply LeO.bind|intro)
theorem spec_orUpTo.calls (k : Nat) (a0 : Int) (r : List Int) (w : World) (h : spec_orUpTo.f k a0 = some r) :
  Calls Tryd.prog 37 #[.int .i64 a0] w fun e w' => ∃ v0_ : Value, e = .returned (v0_) ∧ Kd.R (Kd.int .i64) 3 w' w.heap.size (fun _ => True) v0_ r ∧ Below w.heap.size w w' := by
 have HB := mkA (Below.refl w.heap.size w)
 have H := h
 clear h
 unfold spec_orUpTo.f at H
 have H' := mkA H
 clear H
 go_enter Tryd.func37, Tryd.ntmps37
 go_wp2
 go_loopg [3, 4] k (fun kq v3 v4 w' => ∃ (x3_1 : List Int) (x4_1 : Int), v4 = .int .i64 x4_1 ∧ Fc (spec_orUpTo.l0 kq a0 x3_1 x4_1 = some r) ∧ Fc (kq ≤ k) ∧ Fc (Kd.R (Kd.int .i64) 3 w' w.heap.size (fun _ => True) v3 x3_1) ∧ Fc (Below w.heap.size w w'))
 case atStart => exact ⟨(([] : List Int)), (0), eqS, H', ⟨Nat.le_refl _⟩, ⟨nilE⟩, hbg HB⟩
 case round =>
  clear H'
  obtain ⟨x3_1, x4_1, rfl, HA, HK1, HO_3, HB⟩ := hrel
  cases gk with
  | zero => exact absurd HA.out (by simp [spec_orUpTo.l0])
  | succ k1 =>
   have H := HA.out
   clear HA
   simp only [spec_orUpTo.l0] at H
   rcases iteE H with ⟨c2b0, H⟩ | ⟨c2b0, H⟩
   ·obtain ⟨c3, H⟩ := itNP H
    have LMc3 := mkA c3
    clear c3
    obtain ⟨y247, hy247⟩ : ∃ y_ : List Int, y_ = (x3_1 ++ [x4_1]) := ⟨_, rfl⟩
    rw [← hy247] at H
    have Ny247 := mkA hy247
    clear hy247
    have H' := mkA H
    clear H
    go_wp2_with (first | ((with_reducible refine gate_builtin (b := .append) (xs := #[.tmp 10, .tmp 12]) rfl ?_); at_builtin; refine Kd.R_append (Kd.int .i64) (w0 := w) w.heap.size rfl (.tmp 10) (.tmp 12) 24 3 (.int .i64 0) 8 rfl Tryd.underlying24 info3 rfl (by decide) (by omega) u3 x3_1 x4_1 [.int .i64 x4_1] (fun _ => True) (fun _ => False) rfl rfl ?aP (fun _ hk => hk.elim) ?aF ?aO ?aB ?aS ?aL ?_; (case aP => exact rfl); (case aB => exact (bel_g HB.out)); (case aF => exact (fun _ _ => trivial)); (case aO => exact (Kd.R_g HO_3.out)); (case aS => exact (below_size (bel_g HB.out))); (case aL => have := LMc3.out; omega); intro v248 w4 ho hb hg hat; rw [← Ny247.out] at ho; have HO249 := mkA (ho); replace HB := mkA (hb); clear HO_3; clear ho hb hg hat))
    go_roundg k1
    case measure => have := HK1.out; omega
    case rel => exact ⟨(y247), (wrap64 (x4_1 + 1)), eqS, H', ⟨by have := HK1.out; omega⟩, rg HO249, hbg HB⟩
   ·obtain rfl := Option.some.inj H
    go_wp2
    go_ret
    exact ⟨_, eqE, Kd.R_g HO_3.out, bel_g HB.out⟩
def spec_l1Least.f (a0 : Int) (a1 : Int) : Option (Int) := if a0 < a1 then (some a0) else (some a1)
theorem spec_l1Least.calls (a0 : Int) (a1 : Int) (r : Int) (w : World) (h : spec_l1Least.f a0 a1 = some r) :
  Calls Tryd.prog 38 #[.int .i64 a0, .int .i64 a1] w fun e w' => e = .returned (.int .i64 r) ∧ Drawn0 w w' := by
 have H := h
 clear h
 unfold spec_l1Least.f at H
 rcases iteE H with ⟨c3b0, H⟩ | ⟨c3b0, H⟩
 ·obtain rfl := Option.some.inj H
  go_enter Tryd.func38, Tryd.ntmps38
  go_wp2
  go_ret
  exact ⟨eqS, drE⟩
 ·obtain rfl := Option.some.inj H
  go_enter Tryd.func38, Tryd.ntmps38
  go_wp2
  go_ret
  exact ⟨eqS, drE⟩
end Go.Proofs.YtpphkeijklffgaaDoor.Q
