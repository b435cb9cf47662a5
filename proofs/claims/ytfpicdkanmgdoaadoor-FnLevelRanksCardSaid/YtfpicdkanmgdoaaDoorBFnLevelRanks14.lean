import Derived.Test.YtfpicdkanmgdoaaDoorBFnLevelRanks13
namespace Go.Proofs.YtfpicdkanmgdoaaDoor.Q
open Go.RowKit Go.Proofs.YtfpicdkanmgdoaaDoorW.PrintWords Go.Proofs.YtfpicdkanmgdoaaDoorW.PrintLast Go.Proofs.YtfpicdkanmgdoaaDoorW.PrintMore
attribute [local go_sem] max2_int min2_int max_two min_two max_three min_three max_four min_four neB_f
set_option linter.unusedVariables false
set_option maxHeartbeats 8000000
set_option maxRecDepth 100000
set_option linter.unusedSimpArgs false
def impl_members.l0 : Nat → Int → List Int → Option (List Int)
 | 0, _, _ => none
 | k + 1, x0, x3 => if x0 = 0 then (some x3) else ((bits_TrailingZeros.f (IntKind.u64.wrap (x0))).bind fun t504 => (if x3.length < 17592186044416 then (impl_members.l0 k (Go.bits .and .i64 x0 (wrap64 (x0 - 1))) (x3 ++ [t504])) else (none)))
def impl_members.f (k : Nat) (a0 : Int) : Option (List Int) := impl_members.l0 k a0 (([] : List Int))
theorem impl_members.mono_l : ∀ k, (∀ y0 y1, LeO (impl_members.l0 k y0 y1) (impl_members.l0 (k + 1) y0 y1))
 | 0 => fun _ _ r h => by simp [impl_members.l0] at h
 | k + 1 => by
  have ih0 := impl_members.mono_l k
  ·intro y0 y1
   unfold impl_members.l0
   repeat' (with_reducible first|apply ih0|apply LeO.refl|apply LeO.none|apply LeO.ite|apply LeO.bind|intro)
theorem impl_members.mono : ∀ a0 k, LeO (impl_members.f k a0) (impl_members.f (k + 1) a0) := by
 intro a0 k
 have ih0 := impl_members.mono_l k
 unfold impl_members.f
 repeat' (with_reducible first|apply ih0|apply LeO.refl|apply LeO.none|apply LeO.ite|apply LeO.bind|intro)
theorem impl_members.calls (k : Nat) (a0 : Int) (r : List Int) (w : World) (hTAB : Tab w) (h : impl_members.f k a0 = some r) :
  Calls Tryd.prog 54 #[.int .i64 a0] w fun e w' => ∃ v0_ : Value, e = .returned (v0_) ∧ Kd.R (Kd.int .i64) 3 w' w.heap.size (fun _ => True) v0_ r ∧ Below w.heap.size w w' := by
 have HTAB := mkA hTAB
 clear hTAB
 have HB := mkA (Below.refl w.heap.size w)
 have H := h
 clear h
 unfold impl_members.f at H
 obtain ⟨y501, hy501⟩ : ∃ y_ : List Int, y_ = (([] : List Int)) := ⟨_, rfl⟩
 rw [← hy501] at H
 have Ny501 := mkA hy501
 clear hy501
 have H' := mkA H
 clear H
 go_enter Tryd.func54, Tryd.ntmps54
 go_wp2_with (first | ((with_reducible refine gate_dst (N := 4) rfl ?_); refine litE (Kd.int .i64) 3 ([] : List Int) [] ?hp ?_; (case hp => exact (Reps.none _ _)); intro v502 w2 ho3 hb hg_ hnew_; clear hg_ hnew_; (first | rw [← Ny501.out] at ho3 | (simp only [Int.reduceToNat] at ho3; rw [← Ny501.out] at ho3)); have HO503 := rLo ho3 HB; replace HB := bst HB hb; clear hb ho3))
 go_loopg [0, 3] k (fun kq v0 v3 w' => ∃ (x0_1 : Int) (x3_1 : List Int), v0 = .int .i64 x0_1 ∧ Fc (impl_members.l0 kq x0_1 x3_1 = some r) ∧ Fc (kq ≤ k) ∧ Fc (Kd.R (Kd.int .i64) 3 w' w.heap.size (fun _ => True) v3 x3_1) ∧ Fc (Below w.heap.size w w'))
 case atStart => exact ⟨(a0), (y501), eqS, H', ⟨Nat.le_refl _⟩, rg HO503, hbg HB⟩
 case round =>
  clear H'
  obtain ⟨x0_1, x3_1, rfl, HA, HK1, HO_3, HB⟩ := hrel
  cases gk with
  | zero => exact absurd HA.out (by simp [impl_members.l0])
  | succ k1 =>
   have H := HA.out
   clear HA
   simp only [impl_members.l0] at H
   rcases iteP H with ⟨c4, H⟩ | ⟨c4, H⟩
   ·have c4b0 := beq_iff_eq.mpr c4
    have c4b1 := bne_eq_false_iff_eq.mpr c4
    clear c4
    obtain rfl := Option.some.inj H
    go_wp2
    go_ret
    exact ⟨_, eqE, Kd.R_g HO_3.out, bel_g HB.out⟩
   ·have c4b0 := beq_eq_false_iff_ne.mpr c4
    have c4b1 := bne_iff_ne.mpr c4
    obtain ⟨t504, A5, H⟩ := obE H
    obtain ⟨c6, H⟩ := itNP H
    have LMc6 := mkA c6
    clear c6
    obtain ⟨y505, hy505⟩ : ∃ y_ : List Int, y_ = (x3_1 ++ [t504]) := ⟨_, rfl⟩
    rw [← hy505] at H
    have Ny505 := mkA hy505
    clear hy505
    have H' := mkA H
    clear H
    go_wp2_with (first | ((with_reducible refine gate_callee (f := 62) rfl ?_); refine goesQ (some 14) Tryd.func62 #[.int .u64 (IntKind.u64.wrap (x0_1))] ?_; (with_reducible refine (bits_TrailingZeros.calls (IntKind.u64.wrap (x0_1)) t504 _ ?_ A5.out).mono ?_); exact Tab.below HTAB.out (bel_g HB.out); rintro e w' ⟨rfl, ⟨nd, rfl⟩⟩; refine ⟨_, rfl, ?_⟩) | ((with_reducible refine gate_builtin (b := .append) (xs := #[.tmp 11, .tmp 15]) rfl ?_); at_builtin; refine Kd.R_append (Kd.int .i64) (w0 := w) w.heap.size rfl (.tmp 11) (.tmp 15) 26 3 (.int .i64 0) 8 rfl Tryd.underlying26 info3 rfl (by decide) (by omega) u3 x3_1 t504 [.int .i64 t504] (fun _ => True) (fun _ => False) rfl rfl ?aP (fun _ hk => hk.elim) ?aF ?aO ?aB ?aS ?aL ?_; (case aP => exact rfl); (case aB => exact (bel_g HB.out)); (case aF => exact (fun _ _ => trivial)); (case aO => exact (Kd.R_g HO_3.out)); (case aS => exact (below_size (bel_g HB.out))); (case aL => have := LMc6.out; omega); intro v506 w7 ho hb hg hat; rw [← Ny505.out] at ho; have HO507 := mkA (ho); replace HB := mkA (hb); clear HO_3; clear ho hb hg hat))
    go_roundg k1
    case measure => have := HK1.out; omega
    case rel => exact ⟨(Go.bits .and .i64 x0_1 (wrap64 (x0_1 - 1))), (y505), eqS, H', ⟨by have := HK1.out; omega⟩, rg HO507, hbg HB⟩
mutual
def impl_IsOrder.l0 : Nat → List Int → Int → Int → Int → List Int → Option (Bool)
 | 0, _, _, _, _, _ => none
 | k + 1, x11, x12, x13, x509000, x509001 => if x13 < x12 then (if 0 ≤ x13 then (if x13 < (x11.length : Int) then ((impl_Order_better.f x509000 x509001 x13 x13).bind fun t511 => (if t511 = true then (some false) else ((impl_members.f k (rd x11 x13)).bind fun t512 => (impl_IsOrder.l1 k (rd x11 x13) x11 x12 x13 t512 (t512.length : Int) 0 x509000 x509001)))) else (none)) else (none)) else (some true)
def impl_IsOrder.l1 : Nat → Int → List Int → Int → Int → List Int → Int → Int → Int → List Int → Option (Bool)
 | 0, _, _, _, _, _, _, _, _, _ => none
 | k + 1, x4, x11, x12, x13, x23, x24, x25, x509000, x509001 => if x25 < x24 then (if 0 ≤ x25 then (if x25 < (x23.length : Int) then (if 0 ≤ (rd x23 x25) then (if (rd x23 x25) < (x509001.length : Int) then (if (Go.bits .andNot .i64 (rd x509001 (rd x23 x25)) x4) = 0 then (impl_IsOrder.l1 k x4 x11 x12 x13 x23 x24 (wrap64 (x25 + 1)) x509000 x509001) else (some false)) else (none)) else (none)) else (none)) else (none)) else (impl_IsOrder.l0 k x11 x12 (wrap64 (x13 + 1)) x509000 x509001)
end
def impl_IsOrder.f (k : Nat) (a0_0 : Int) (l0_1 : List Int) : Option (Bool) := (impl_IsRelation.f k a0_0 l0_1).bind fun t509 => (if t509 = true then (impl_IsOrder.l0 k l0_1 (l0_1.length : Int) 0 a0_0 l0_1) else (some false))
theorem impl_IsOrder.mono_l : ∀ k, (∀ y0 y1 y2 y3 y4, LeO (impl_IsOrder.l0 k y0 y1 y2 y3 y4) (impl_IsOrder.l0 (k + 1) y0 y1 y2 y3 y4)) ∧ (∀ y0 y1 y2 y3 y4 y5 y6 y7 y8, LeO (impl_IsOrder.l1 k y0 y1 y2 y3 y4 y5 y6 y7 y8) (impl_IsOrder.l1 (k + 1) y0 y1 y2 y3 y4 y5 y6 y7 y8))
 | 0 => ⟨fun _ _ _ _ _ r h => by simp [impl_IsOrder.l0] at h, fun _ _ _ _ _ _ _ _ _ r h => by simp [impl_IsOrder.l1] at h⟩
 | k + 1 => by
  obtain ⟨ih0, ih1⟩ := impl_IsOrder.mono_l k
  refine ⟨?_, ?_⟩ <;> intros
  unfold impl_IsOrder.l0
  rotate_left
  unfold impl_IsOrder.l1
  rotate_left
  all_goals repeat' (with_reducible first|apply ih0|apply ih1|apply impl_IsRelation.mono|apply impl_members.mono|apply LeO.refl|apply LeO.none|apply LeO.ite|apply LeO.bind|intro)
theorem impl_IsOrder.mono : ∀ a0 a1 k, LeO (impl_IsOrder.f k a0 a1) (impl_IsOrder.f (k + 1) a0 a1) := by
 intro a0 a1 k
 obtain ⟨ih0, ih1⟩ := impl_IsOrder.mono_l k
 unfold impl_IsOrder.f
 repeat' (with_reducible first|apply ih0|apply ih1|apply impl_IsRelation.mono|apply impl_members.mono|apply LeO.refl|apply LeO.none|apply LeO.ite|apply LeO.bind|intro)
theorem impl_IsOrder.calls (k : Nat) (a0_0 : Int) (A0_1 : Option Addr) (c0_1 : Nat) (l0_1 : List Int) (r : Bool) (w : World) (hr0_1 : Kd.C (Kd.int .i64) w A0_1 l0_1.length l0_1) (hc0_1 : l0_1.length ≤ c0_1) (hTAB : Tab w) (h : impl_IsOrder.f k a0_0 l0_1 = some r) :
  Calls Tryd.prog 36 #[.agg #[.int .i64 a0_0, .slice A0_1 l0_1.length c0_1]] w fun e w' => e = .returned (.bool r) ∧ Below w.heap.size w w' := by
 have HTAB := mkA hTAB
 clear hTAB
 have hu35 := Tryd.underlying35
 have HR0_1 := mkA hr0_1
 have HC0_1 := mkA hc0_1
 clear hr0_1 hc0_1
 have HB := mkA (Below.refl w.heap.size w)
 have H := h
 clear h
 unfold impl_IsOrder.f at H
 obtain ⟨t509, A2, H⟩ := obE H
 by_cases c3 : t509 = true
 ·subst c3
  replace H := ifT H
  have H' := mkA H
  clear H
  go_enter Tryd.func36, Tryd.ntmps36
  go_wp2_with (first | ((with_reducible refine gate_dst (N := 1) rfl ?_); refine boxG HB #[.int .i64 a0_0, .slice A0_1 l0_1.length c0_1] 35 ?_; intro gb508 hg w4 BK508 GE508 hb; replace HB := bst HB hb; clear hb hg; obtain ⟨_, _, _, _⟩ := blk2 BK508) | ((with_reducible refine gate_callee (f := 52) rfl ?_); refine goesQ (some 8) Tryd.func52 #[.agg #[.int .i64 a0_0, .slice A0_1 l0_1.length c0_1]] ?_; (with_reducible refine (impl_IsRelation.calls k a0_0 _ _ l0_1 true _ ?_ ?_ A2.out).mono ?_); exact C_g HR0_1 HB; exact HC0_1.out; rintro e w6 ⟨rfl, hb⟩; refine ⟨_, rfl, ?_⟩; replace BK508 := blkB BK508 hb; replace HB := bst HB hb; clear hb; obtain ⟨_, _, _, _⟩ := blk2 BK508))
  go_loopg [13] k (fun kq v13 w' => ∃ (x13_1 : Int), v13 = .int .i64 x13_1 ∧ Fc (impl_IsOrder.l0 kq l0_1 (l0_1.length : Int) x13_1 a0_0 l0_1 = some r) ∧ Fc (kq ≤ k) ∧ Fc (w'.heap[gb508]? = some (.cells #[.int .i64 a0_0, (.slice A0_1 l0_1.length c0_1)] 35 (0, 0))) ∧ Fc (Below w.heap.size w w'))
  case atStart => exact ⟨(0), eqS, H', ⟨Nat.le_refl _⟩, bg BK508, hbg HB⟩
  case round =>
   clear H'
   try clear c3
   obtain ⟨x13_1, rfl, HA, HK1, BK508, HB⟩ := hrel
   cases gk with
   | zero => exact absurd HA.out (by simp [impl_IsOrder.l0])
   | succ k1 =>
    have H := HA.out
    clear HA
    simp only [impl_IsOrder.l0] at H
    rcases iteE H with ⟨c8b0, H⟩ | ⟨c8b0, H⟩
    ·obtain ⟨c9b0, H⟩ := itND H
     obtain ⟨c10b0, H⟩ := itND H
     obtain ⟨t511, A11, H⟩ := obE H
     by_cases c12 : t511 = true
     ·subst c12
      replace H := ifT H
      obtain rfl := Option.some.inj H
      obtain ⟨p510, q510, ad510, e510, hx510_0⟩ := atI HR0_1.out x13_1
      cases e510
      replace hx510_0 := (HB.out.cell (World.block_lt_of_cell? w _ hx510_0)).trans hx510_0
      obtain ⟨_, _, _, _⟩ := blk2 BK508
      go_wp2_with (first | ((with_reducible refine gate_callee (f := 53) rfl ?_); refine goesQ (some 21) Tryd.func53 #[.agg #[.int .i64 a0_0, .slice (some ad510) l0_1.length c0_1], .int .i64 x13_1, .int .i64 x13_1] ?_; (with_reducible refine (impl_Order_better.calls a0_0 _ _ l0_1 x13_1 x13_1 true _ ?_ ?_ A11.out).mono ?_); exact C_g HR0_1 HB; exact HC0_1.out; rintro e w14 ⟨rfl, hb⟩; refine ⟨_, rfl, ?_⟩; replace BK508 := blkB BK508 hb; replace HB := bst HB hb; clear hb))
      go_ret
      exact ⟨eqE, bel_g HB.out⟩
     ·replace c12 := Bool.eq_false_iff.mpr c12
      subst c12
      replace H := ifF H
      obtain ⟨t512, A15, H⟩ := obE H
      have H' := mkA H
      clear H
      obtain ⟨p510, q510, ad510, e510, hx510_0⟩ := atI HR0_1.out x13_1
      cases e510
      replace hx510_0 := (HB.out.cell (World.block_lt_of_cell? w _ hx510_0)).trans hx510_0
      obtain ⟨_, _, _, _⟩ := blk2 BK508
      go_wp2_with (first | ((with_reducible refine gate_callee (f := 53) rfl ?_); refine goesQ (some 21) Tryd.func53 #[.agg #[.int .i64 a0_0, .slice (some ad510) l0_1.length c0_1], .int .i64 x13_1, .int .i64 x13_1] ?_; (with_reducible refine (impl_Order_better.calls a0_0 _ _ l0_1 x13_1 x13_1 false _ ?_ ?_ A11.out).mono ?_); exact C_g HR0_1 HB; exact HC0_1.out; rintro e w17 ⟨rfl, hb⟩; refine ⟨_, rfl, ?_⟩; replace BK508 := blkB BK508 hb; replace HB := bst HB hb; clear hb) | ((with_reducible refine gate_callee (f := 54) rfl ?_); refine goesQ (some 23) Tryd.func54 #[.int .i64 (rd l0_1 x13_1)] ?_; (with_reducible refine (impl_members.calls k1 (rd l0_1 x13_1) t512 _ ?_ A15.out).mono ?_); exact Tab.below HTAB.out (bel_g HB.out); rintro e w18 ⟨v513, rfl, ho0, hb⟩; refine ⟨_, rfl, ?_⟩; have HO514 := rLo ho0 HB; replace BK508 := blkB BK508 hb; replace HB := bst HB hb; clear hb ho0; obtain ⟨Ao19, co19, rfl⟩ := Kd.R_slice HO514.out))
      go_loopg [25] k1 (fun kq v25 w' => ∃ (x25_2 : Int), v25 = .int .i64 x25_2 ∧ Fc (impl_IsOrder.l1 kq (rd l0_1 x13_1) l0_1 (l0_1.length : Int) x13_1 t512 (t512.length : Int) x25_2 a0_0 l0_1 = some r) ∧ Fc (kq ≤ k1) ∧ Fc (Kd.R (Kd.int .i64) 3 w' w.heap.size (fun _ => True) (.slice Ao19 t512.length co19) t512) ∧ Fc (w'.heap[gb508]? = some (.cells #[.int .i64 a0_0, (.slice (some ad510) l0_1.length c0_1)] 35 (0, 0))) ∧ Fc (Below w.heap.size w w'))
      case atStart => exact ⟨(0), eqS, H', ⟨Nat.le_refl _⟩, rg HO514, bg BK508, hbg HB⟩
      case round =>
       clear H'
       try clear c3
       try clear c8b0
       try clear c9
       try clear c9b0
       try clear c10
       try clear c10b0
       try clear c12
       try clear hx510_0
       try clear p510
       try clear q510
       obtain ⟨x25_2, rfl, HA, HK2, HO_23, BK508, HB⟩ := hrel
       cases gk with
       | zero => exact absurd HA.out (by simp [impl_IsOrder.l1])
       | succ k2 =>
        have H := HA.out
        clear HA
        simp only [impl_IsOrder.l1] at H
        rcases iteE H with ⟨c20b0, H⟩ | ⟨c20b0, H⟩
        ·obtain ⟨c21b0, H⟩ := itND H
         obtain ⟨c22b0, H⟩ := itND H
         obtain ⟨c23b0, H⟩ := itND H
         obtain ⟨c24b0, H⟩ := itND H
         rcases iteP H with ⟨c25, H⟩ | ⟨c25, H⟩
         ·have c25b0 := beq_iff_eq.mpr c25
          have c25b1 := bne_eq_false_iff_eq.mpr c25
          clear c25
          have H' := mkA H
          clear H
          obtain ⟨p515, q515, ad515, e515, hx515_0⟩ := atI (Kd.R_reads' HO_23.out).2.2 x25_2
          cases e515
          obtain ⟨_, _, _, _⟩ := blk2 BK508
          obtain ⟨p516, q516, ad516, e516, hx516_0⟩ := atI HR0_1.out (rd t512 x25_2)
          obtain rfl : ad510 = ad516 := (by injection e516)
          replace hx516_0 := (HB.out.cell (World.block_lt_of_cell? w _ hx516_0)).trans hx516_0
          go_wp2
          go_roundg k2
          case measure => have := HK1.out; have := HK2.out; omega
          case rel => exact ⟨(wrap64 (x25_2 + 1)), eqS, H', ⟨by have := HK1.out; have := HK2.out; omega⟩, rg HO_23, bg BK508, hbg HB⟩
         ·have c25b0 := beq_eq_false_iff_ne.mpr c25
          have c25b1 := bne_iff_ne.mpr c25
          obtain rfl := Option.some.inj H
          obtain ⟨p515, q515, ad515, e515, hx515_0⟩ := atI (Kd.R_reads' HO_23.out).2.2 x25_2
          cases e515
          obtain ⟨_, _, _, _⟩ := blk2 BK508
          obtain ⟨p516, q516, ad516, e516, hx516_0⟩ := atI HR0_1.out (rd t512 x25_2)
          obtain rfl : ad510 = ad516 := (by injection e516)
          replace hx516_0 := (HB.out.cell (World.block_lt_of_cell? w _ hx516_0)).trans hx516_0
          go_wp2
          go_ret
          exact ⟨eqE, bel_g HB.out⟩
        ·have H' := mkA H
         clear H
         go_wp2
         go_roundg k2
         case measure => have := HK1.out; have := HK2.out; omega
         case rel => exact ⟨(wrap64 (x13_1 + 1)), eqS, H', ⟨by have := HK1.out; have := HK2.out; omega⟩, bg BK508, hbg HB⟩
    ·obtain rfl := Option.some.inj H
     go_wp2
     go_ret
     exact ⟨eqE, bel_g HB.out⟩
 ·replace c3 := Bool.eq_false_iff.mpr c3
  subst c3
  replace H := ifF H
  obtain rfl := Option.some.inj H
  go_enter Tryd.func36, Tryd.ntmps36
  go_wp2_with (first | ((with_reducible refine gate_dst (N := 1) rfl ?_); refine boxG HB #[.int .i64 a0_0, .slice A0_1 l0_1.length c0_1] 35 ?_; intro gb508 hg w28 BK508 GE508 hb; replace HB := bst HB hb; clear hb hg; obtain ⟨_, _, _, _⟩ := blk2 BK508) | ((with_reducible refine gate_callee (f := 52) rfl ?_); refine goesQ (some 8) Tryd.func52 #[.agg #[.int .i64 a0_0, .slice A0_1 l0_1.length c0_1]] ?_; (with_reducible refine (impl_IsRelation.calls k a0_0 _ _ l0_1 false _ ?_ ?_ A2.out).mono ?_); exact C_g HR0_1 HB; exact HC0_1.out; rintro e w30 ⟨rfl, hb⟩; refine ⟨_, rfl, ?_⟩; replace BK508 := blkB BK508 hb; replace HB := bst HB hb; clear hb))
  go_ret
  exact ⟨eqE, bel_g HB.out⟩
def impl_Order_mirror_1.f (a0 : Int) (a1 : Int) (a2_0 : Int) (l2_1 : List Int) : Option (Bool) := (impl_Order_better.f a2_0 l2_1 a1 a0).bind fun t518 => (some t518)
theorem impl_Order_mirror_1.calls (a0 : Int) (a1 : Int) (gB2 : Nat) (a2_0 : Int) (A2_1 : Option Addr) (c2_1 : Nat) (l2_1 : List Int) (r : Bool) (w : World) (hb2 : w.heap[gB2]? = some (.cells #[.int .i64 a2_0, .slice A2_1 l2_1.length c2_1] 35 (0, 0))) (hr2_1 : Kd.C (Kd.int .i64) w A2_1 l2_1.length l2_1) (hc2_1 : l2_1.length ≤ c2_1) (h : impl_Order_mirror_1.f a0 a1 a2_0 l2_1 = some r) :
  Calls Tryd.prog 55 #[.int .i64 a0, .int .i64 a1, .pointer (some ⟨gB2, 0, none⟩)] w fun e w' => e = .returned (.bool r) ∧ Below w.heap.size w w' := by
 have hu35 := Tryd.underlying35
 have BK517 := mkA hb2
 clear hb2
 have HR2_1 := mkA hr2_1
 have HC2_1 := mkA hc2_1
 clear hr2_1 hc2_1
 have HB := mkA (Below.refl w.heap.size w)
 have H := h
 clear h
 unfold impl_Order_mirror_1.f at H
 obtain ⟨t518, A4, H⟩ := obE H
 obtain rfl := Option.some.inj H
 obtain ⟨_, _, _, _⟩ := blk2 BK517
 go_enter Tryd.func55, Tryd.ntmps55
 go_wp2_with (first | ((with_reducible refine gate_callee (f := 53) rfl ?_); refine goesQ (some 9) Tryd.func53 #[.agg #[.int .i64 a2_0, .slice A2_1 l2_1.length c2_1], .int .i64 a1, .int .i64 a0] ?_; (with_reducible refine (impl_Order_better.calls a2_0 _ _ l2_1 a1 a0 t518 _ ?s1 ?s2 A4.out).mono ?_); (case s1 => repeat (first | exact HR2_1.out | (with_reducible refine Kd.C_alloc ?_ _) | (with_reducible refine Kd.C_drewN ?_ _) | (with_reducible refine Kd.C_drew ?_))); (case s2 => exact HC2_1.out); rintro e w6 ⟨rfl, hb⟩; refine ⟨_, rfl, ?_⟩; replace BK517 := blkB BK517 hb; replace HB := bst HB hb; clear hb))
 go_ret
 exact ⟨eqE, bel_g HB.out⟩
def impl_Order_mirror.f (k : Nat) (a0_0 : Int) (l0_1 : List Int) : Option (Int × List Int) := (impl_relation.f k a0_0 (fun u0_ u1_ => impl_Order_mirror_1.f u0_ u1_ a0_0 l0_1)).bind fun bt521 => (some (bt521.1, bt521.2))
theorem impl_Order_mirror.mono : ∀ a0 a1 k, LeO (impl_Order_mirror.f k a0 a1) (impl_Order_mirror.f (k + 1) a0 a1) := by
 intro a0 a1 k
 unfold impl_Order_mirror.f
 repeat' first
   | (with_reducible exact impl_relation.mono _ _ _)
   | (refine impl_relation.monoF ?_ _ _; intros)
   | (with_reducible exact impl_relation.mono _ _ _)
   | (with_reducible exact LeO.refl _)
   | (with_reducible exact LeO.none _)
   | (with_reducible refine LeO.ite ?_ ?_)
   | (with_reducible refine LeO.bind ?_ (fun _ => ?_))
   | exact impl_relation.mono _ _ _
   | exact LeO.none _
   | refine LeO.ite ?_ ?_
   | refine LeO.bind ?_ (fun _ => ?_)
theorem impl_Order_mirror.calls (k : Nat) (a0_0 : Int) (A0_1 : Option Addr) (c0_1 : Nat) (l0_1 : List Int) (r1 : Int) (r2 : List Int) (w : World) (hr0_1 : Kd.C (Kd.int .i64) w A0_1 l0_1.length l0_1) (hc0_1 : l0_1.length ≤ c0_1) (h : impl_Order_mirror.f k a0_0 l0_1 = some (r1, r2)) :
  Calls Tryd.prog 37 #[.agg #[.int .i64 a0_0, .slice A0_1 l0_1.length c0_1]] w fun e w' => ∃ v1_ : Value, e = .returned (.agg #[.int .i64 r1, v1_]) ∧ Kd.R (Kd.int .i64) 3 w' w.heap.size (fun _ => True) v1_ r2 ∧ Below w.heap.size w w' := by
 have hu35 := Tryd.underlying35
 have HR0_1 := mkA hr0_1
 have HC0_1 := mkA hc0_1
 clear hr0_1 hc0_1
 have HB := mkA (Below.refl w.heap.size w)
 have H := h
 clear h
 unfold impl_Order_mirror.f at H
 obtain ⟨⟨t521, t522⟩, A2, H⟩ := obE H
 dsimp only at H
 simp only [Option.some.injEq, Prod.mk.injEq] at H
 obtain ⟨rfl, rfl⟩ := H
 go_enter Tryd.func37, Tryd.ntmps37
 go_wp2_with (first | ((with_reducible refine gate_dst (N := 1) rfl ?_); refine boxG HB #[.int .i64 a0_0, .slice A0_1 l0_1.length c0_1] 35 ?_; intro gb519 hg w3 BK519 GE519 hb; replace HB := bst HB hb; clear hb hg) | ((with_reducible refine gate_dst (N := 2) rfl ?_); refine boxG HB #[.int .i64 0, .slice none 0 0] 35 ?_; intro gb520 hg w4 BK520 GE520 hb; have NB519_520 := neL7 BK519 hg; have NB520_519 := neR7 BK519 hg; replace BK519 := blkB BK519 hb; replace HB := bst HB hb; clear hb hg; obtain ⟨_, _, _, _⟩ := blk2 BK519) | ((with_reducible refine gate_callee (f := 50) rfl ?_); refine goesQ (some 6) Tryd.func50 #[.int .i64 a0_0, .func (.func 55) #[] #[.pointer (some ⟨gb519, 0, none⟩)]] ?_; (with_reducible refine (impl_relation.calls k a0_0 (fun u0_ u1_ => impl_Order_mirror_1.f u0_ u1_ a0_0 l0_1) 55 #[.pointer (some ⟨gb519, 0, none⟩)] (fun args_ W_ => enters_ Tryd.func55 (by kernel_rfl) rfl args_ W_) t521 t522 _ ?s1 A2.out).mono ?_); (case s1 => exact fun u0_ u1_ q_ W_ hb_ hq_ => (impl_Order_mirror_1.calls u0_ u1_ gb519 a0_0 A0_1 c0_1 l0_1 q_ W_ (blk_below (show _ = some (Obj.cells #[.int .i64 a0_0, .slice A0_1 l0_1.length c0_1] 35 (0, 0)) from blkT BK519) hb_) (Kd.C_below (show Kd.C (Kd.int .i64) _ A0_1 l0_1.length l0_1 from by exact C_g HR0_1 HB) hb_) (by exact HC0_1.out) hq_).mono (fun _ _ h_ => ⟨h_.1, h_.2⟩)); rintro e w7 ⟨v523, rfl, ho0, hb⟩; refine ⟨_, rfl, ?_⟩; have HO524 := rLo ho0 HB; replace BK519 := blkB BK519 hb; replace BK520 := blkB BK520 hb; replace HB := bst HB hb; clear hb ho0; obtain ⟨_, _, _, _⟩ := blk2 BK520; obtain ⟨Ao9, co9, rfl⟩ := Kd.R_slice HO524.out))
 refine bodyPost_ret (results_cell_row rfl _ _ gb520 35 #[.int .i64 t521, .slice Ao9 t522.length co9] (0, 0) _ rfl (blkT BK520) Tryd.underlying35 rfl (by kernel_rfl)) rfl ?_
 exact ⟨_, eqE, Kd.R_g (Kd.R_mono (rF HO524 BK520) (fun _ _ => trivial)), bel_g HB.out⟩
def impl_Order_all.f (a0_0 : Int) (l0_1 : List Int) : Option (Int) := if 0 ≤ a0_0 then (some (wrap64 ((shl .i64 1 a0_0) - 1))) else (none)
theorem impl_Order_all.calls (a0_0 : Int) (A0_1 : Option Addr) (c0_1 : Nat) (l0_1 : List Int) (r : Int) (w : World) (hr0_1 : Kd.C (Kd.int .i64) w A0_1 l0_1.length l0_1) (hc0_1 : l0_1.length ≤ c0_1) (h : impl_Order_all.f a0_0 l0_1 = some r) :
  Calls Tryd.prog 38 #[.agg #[.int .i64 a0_0, .slice A0_1 l0_1.length c0_1]] w fun e w' => e = .returned (.int .i64 r) ∧ Below w.heap.size w w' := by
 have hu35 := Tryd.underlying35
 have HR0_1 := mkA hr0_1
 have HC0_1 := mkA hc0_1
 clear hr0_1 hc0_1
 have HB := mkA (Below.refl w.heap.size w)
 have H := h
 clear h
 unfold impl_Order_all.f at H
 obtain ⟨c2b0, c2b1, H⟩ := itNQ H
 obtain ⟨ji3, hji3⟩ : ∃ j_ : Int, (shl .i64 1 a0_0) = j_ := ⟨_, rfl⟩
 first | rw [hji3] at H | simp only [hji3] at H
 have hji3_ : (IntKind.i64.wrap (1 * 2 ^ min a0_0.toNat 64)) = ji3 := hji3
 have hji3z : a0_0 ≤ 64 → (IntKind.i64.wrap (1 * 2 ^ a0_0.toNat)) = ji3 := shl_small hji3
 have hji3u : (IntKind.i64.wrap (2 ^ min a0_0.toNat 64)) = ji3 := by have h_ := hji3_; rw [Int.one_mul] at h_; exact h_
 have hji3v : a0_0 ≤ 64 → (IntKind.i64.wrap (2 ^ a0_0.toNat)) = ji3 := fun hle_ => by have h_ := hji3z hle_; rw [Int.one_mul] at h_; exact h_
 have hji3y : (wrap64 (1 * 2 ^ min a0_0.toNat 64)) = ji3 := (i64_w _).symm.trans hji3_
 have hji3x : a0_0 ≤ 64 → (wrap64 (1 * 2 ^ a0_0.toNat)) = ji3 := fun h_ => (i64_w _).symm.trans (hji3z h_)
 obtain rfl := Option.some.inj H
 go_enter Tryd.func38, Tryd.ntmps38
 go_wp2_with (first | ((with_reducible refine gate_dst (N := 1) rfl ?_); refine boxG HB #[.int .i64 a0_0, .slice A0_1 l0_1.length c0_1] 35 ?_; intro gb525 hg w4 BK525 GE525 hb; replace HB := bst HB hb; clear hb hg; obtain ⟨_, _, _, _⟩ := blk2 BK525))
 go_ret
 exact ⟨by first | rfl | (simp [errW_none, errW_some] <;> rfl) | (simp only [← hji3]; first | rfl | (simp [errW_none, errW_some] <;> rfl)) | (simp [*, errW_none, errW_some] <;> rfl), bel_g HB.out⟩
end Go.Proofs.YtfpicdkanmgdoaaDoor.Q
