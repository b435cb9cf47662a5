import Derived.Test.YtdmheeenoklijaaDoorBFnSetsAlong4
import Derived.Test.YtdmheeenoklijaaDoorBFnSetsAlong5
namespace Go.Proofs.YtdmheeenoklijaaDoor.Q
open Go.RowKit Go.Proofs.YtdmheeenoklijaaDoorW.PrintWords Go.Proofs.YtdmheeenoklijaaDoorW.PrintLast Go.Proofs.YtdmheeenoklijaaDoorW.PrintMore
attribute [local go_sem] max2_int min2_int max_two min_two max_three min_three max_four min_four neB_f
set_option linter.unusedVariables false
set_option maxHeartbeats 8000000
set_option maxRecDepth 100000
set_option linter.unusedSimpArgs false
mutual
def impl_Order_levels.l0 : Nat → List Int → List Int → List Int → Int → Int → Option (List Int)
 | 0, _, _, _, _, _ => none
 | k + 1, x3, x5, x17, x18, x19 => if x19 < x18 then (if 0 ≤ x19 then (if x19 < (x17.length : Int) then (impl_Order_levels.l1 k x3 x5 (rd x17 x19) 0 x17 x18 x19 x5 (x5.length : Int) 0) else (none)) else (none)) else (some x3)
def impl_Order_levels.l1 : Nat → List Int → List Int → Int → Int → List Int → Int → Int → List Int → Int → Int → Option (List Int)
 | 0, _, _, _, _, _, _, _, _, _, _ => none
 | k + 1, x3, x5, x7, x8, x17, x18, x19, x23, x24, x25 => if x25 < x24 then (if 0 ≤ x25 then (if x25 < (x23.length : Int) then (if (rd x23 x25) = x7 then (impl_Order_levels.l1 k x3 x5 x7 x8 x17 x18 x19 x23 x24 (wrap64 (x25 + 1))) else (if (Go.bits .andNot .i64 (rd x23 x25) x7) = 0 then (impl_Order_levels.l1 k x3 x5 x7 (wrap64 (x8 + 1)) x17 x18 x19 x23 x24 (wrap64 (x25 + 1))) else (impl_Order_levels.l1 k x3 x5 x7 x8 x17 x18 x19 x23 x24 (wrap64 (x25 + 1))))) else (none)) else (none)) else (if x3.length < 17592186044416 then (impl_Order_levels.l0 k (x3 ++ [x8]) x5 x17 x18 (wrap64 (x19 + 1))) else (none))
end
def impl_Order_levels.f (k : Nat) (a0_0 : Int) (l0_1 : List Int) : Option (List Int) := (impl_Order_mirror.f k a0_0 l0_1).bind fun bt506 => ((impl_different.f bt506.2).bind fun t510 => (impl_Order_levels.l0 k (([] : List Int)) t510 bt506.2 (bt506.2.length : Int) 0))
theorem impl_Order_levels.mono_l : ∀ k, (∀ y0 y1 y2 y3 y4, LeO (impl_Order_levels.l0 k y0 y1 y2 y3 y4) (impl_Order_levels.l0 (k + 1) y0 y1 y2 y3 y4)) ∧ (∀ y0 y1 y2 y3 y4 y5 y6 y7 y8 y9, LeO (impl_Order_levels.l1 k y0 y1 y2 y3 y4 y5 y6 y7 y8 y9) (impl_Order_levels.l1 (k + 1) y0 y1 y2 y3 y4 y5 y6 y7 y8 y9))
 | 0 => ⟨fun _ _ _ _ _ r h => by simp [impl_Order_levels.l0] at h, fun _ _ _ _ _ _ _ _ _ _ r h => by simp [impl_Order_levels.l1] at h⟩
 | k + 1 => by
  obtain ⟨ih0, ih1⟩ := impl_Order_levels.mono_l k
  refine ⟨?_, ?_⟩ <;> intros
  unfold impl_Order_levels.l0
  rotate_left
  unfold impl_Order_levels.l1
  rotate_left
  all_goals repeat' (with_reducible first|apply ih0|apply ih1|apply impl_Order_mirror.mono|apply LeO.refl|apply LeO.none|apply LeO.ite|apply LeO.bind|intro)
theorem impl_Order_levels.mono : ∀ a0 a1 k, LeO (impl_Order_levels.f k a0 a1) (impl_Order_levels.f (k + 1) a0 a1) := by
 intro a0 a1 k
 obtain ⟨ih0, ih1⟩ := impl_Order_levels.mono_l k
 unfold impl_Order_levels.f
 repeat' (with_reducible first|apply ih0|apply ih1|apply impl_Order_mirror.mono|apply LeO.refl|apply LeO.none|apply LeO.ite|apply LeO.bind|intro)
theorem impl_Order_levels.calls (k : Nat) (a0_0 : Int) (A0_1 : Option Addr) (c0_1 : Nat) (l0_1 : List Int) (r : List Int) (w : World) (hr0_1 : Kd.C (Kd.int .i64) w A0_1 l0_1.length l0_1) (hc0_1 : l0_1.length ≤ c0_1) (h : impl_Order_levels.f k a0_0 l0_1 = some r) :
  Calls Tryd.prog 38 #[.agg #[.int .i64 a0_0, .slice A0_1 l0_1.length c0_1]] w fun e w' => ∃ v0_ : Value, e = .returned (v0_) ∧ Kd.R (Kd.int .i64) 3 w' w.heap.size (fun _ => True) v0_ r ∧ Below w.heap.size w w' := by
 have hfd26_1 := fun (W_ : World) (v0_ v1_ : Value) => (show Sem.run Tryd.prog (Instr.field 26 (.agg #[v0_, v1_]) 1) W_ = .ok v1_ W_ from by simp [go_sem, Instr.field, asAgg])
 have hu26 := Tryd.underlying26
 have HR0_1 := mkA hr0_1
 have HC0_1 := mkA hc0_1
 clear hr0_1 hc0_1
 have HB := mkA (Below.refl w.heap.size w)
 have H := h
 clear h
 unfold impl_Order_levels.f at H
 obtain ⟨y503, hy503⟩ : ∃ y_ : List Int, y_ = (([] : List Int)) := ⟨_, rfl⟩
 rw [← hy503] at H
 have Ny503 := mkA hy503
 clear hy503
 obtain ⟨⟨t506, t507⟩, A2, H⟩ := obE H
 dsimp only at H
 obtain ⟨t510, A3, H⟩ := obE H
 have H' := mkA H
 clear H
 go_enter Tryd.func38, Tryd.ntmps38
 go_wp2_with (first | ((with_reducible refine gate_dst (N := 1) rfl ?_); refine boxG HB #[.int .i64 a0_0, .slice A0_1 l0_1.length c0_1] 26 ?_; intro gb502 hg w4 BK502 GE502 hb; replace HB := bst HB hb; clear hb hg) | ((with_reducible refine gate_dst (N := 11) rfl ?_); refine litE (Kd.int .i64) 3 ([] : List Int) [] ?hp ?_; (case hp => exact (Reps.none _ _)); intro v504 w5 ho6 hb hg_ hnew_; clear hg_ hnew_; (first | rw [← Ny503.out] at ho6 | (simp only [Int.reduceToNat] at ho6; rw [← Ny503.out] at ho6)); have HO505 := rLo ho6 HB; replace BK502 := blkB BK502 hb; replace HB := bst HB hb; clear hb ho6; obtain ⟨_, _, _, _⟩ := blk2 BK502) | ((with_reducible refine gate_callee (f := 36) rfl ?_); refine goesQ (some 13) Tryd.func36 #[.agg #[.int .i64 a0_0, .slice A0_1 l0_1.length c0_1]] ?_; (with_reducible refine (impl_Order_mirror.calls k a0_0 _ _ l0_1 t506 t507 _ ?_ ?_ A2.out).mono ?_); exact C_g HR0_1 HB; exact HC0_1.out; rintro e w8 ⟨v508, rfl, ho0, hb⟩; refine ⟨_, rfl, ?_⟩; have HO509 := rLo (rN ho0 HO505) HB; replace HO505 := rE HO505 ho0 hb; replace BK502 := blkB BK502 hb; replace HB := bst HB hb; clear hb ho0; obtain ⟨Ao9, co9, rfl⟩ := Kd.R_slice HO509.out) | ((with_reducible refine gate_callee (f := 65) rfl ?_); refine goesQ (some 16) Tryd.func65 #[.slice Ao9 t507.length co9] ?_; (with_reducible refine (impl_different.calls _ _ t507 t510 _ ?_ ?_ A3.out).mono ?_); exact rC HO509; exact rL HO509; rintro e w10 ⟨v511, rfl, ho0, hb⟩; refine ⟨_, rfl, ?_⟩; have HO512 := rLo (rN (rN ho0 HO505) HO509) HB; replace HO505 := rE HO505 ho0 hb; replace HO509 := rE HO509 ho0 hb; replace BK502 := blkB BK502 hb; replace HB := bst HB hb; clear hb ho0))
 go_loopg [3, 19] k (fun kq v3 v19 w' => ∃ (x3_1 : List Int) (x19_1 : Int), v19 = .int .i64 x19_1 ∧ Fc (impl_Order_levels.l0 kq x3_1 t510 t507 (t507.length : Int) x19_1 = some r) ∧ Fc (kq ≤ k) ∧ Fc (Kd.R (Kd.int .i64) 3 w' w.heap.size (fun k_ => some k_ ≠ (v511 : Value).ownBlock ∧ some k_ ≠ ((.slice Ao9 t507.length co9) : Value).ownBlock) v3 x3_1) ∧ Fc (Kd.R (Kd.int .i64) 3 w' w.heap.size (fun k_ => some k_ ≠ (v3 : Value).ownBlock ∧ some k_ ≠ ((.slice Ao9 t507.length co9) : Value).ownBlock) v511 t510) ∧ Fc (Kd.R (Kd.int .i64) 3 w' w.heap.size (fun k_ => some k_ ≠ (v3 : Value).ownBlock ∧ some k_ ≠ (v511 : Value).ownBlock) (.slice Ao9 t507.length co9) t507) ∧ Fc (w'.heap[gb502]? = some (.cells #[.int .i64 a0_0, (.slice A0_1 l0_1.length c0_1)] 26 (0, 0))) ∧ Fc (Below w.heap.size w w'))
 case atStart => exact ⟨(y503), (0), eqS, H', ⟨Nat.le_refl _⟩, ⟨Kd.R_g (Kd.R_mono HO505.out (fun _ hk => ⟨hk.2, hk.1.2⟩))⟩, ⟨Kd.R_g (Kd.R_mono HO512.out (fun _ hk => ⟨hk.1.2, hk.2⟩))⟩, ⟨Kd.R_g (Kd.R_mono HO509.out (fun _ hk => ⟨hk.1.2, hk.2⟩))⟩, bg BK502, hbg HB⟩
 case round =>
  clear H'
  obtain ⟨x3_1, x19_1, rfl, HA, HK1, HO_3, HO_5, HO_17, BK502, HB⟩ := hrel
  cases gk with
  | zero => exact absurd HA.out (by simp [impl_Order_levels.l0])
  | succ k1 =>
   have H := HA.out
   clear HA
   simp only [impl_Order_levels.l0] at H
   rcases iteE H with ⟨c11b0, H⟩ | ⟨c11b0, H⟩
   ·obtain ⟨c12b0, H⟩ := itND H
    obtain ⟨c13b0, H⟩ := itND H
    have H' := mkA H
    clear H
    obtain ⟨p513, q513, ad513, e513, hx513_0⟩ := atI (Kd.R_reads' HO_17.out).2.2 x19_1
    cases e513
    obtain ⟨Ao14, co14, rfl⟩ := Kd.R_slice HO_5.out
    go_wp2
    go_loopg [8, 25] k1 (fun kq v8 v25 w' => ∃ (x8_2 : Int) (x25_2 : Int), v8 = .int .i64 x8_2 ∧ v25 = .int .i64 x25_2 ∧ Fc (impl_Order_levels.l1 kq x3_1 t510 (rd t507 x19_1) x8_2 t507 (t507.length : Int) x19_1 t510 (t510.length : Int) x25_2 = some r) ∧ Fc (kq ≤ k1) ∧ Fc (Kd.R (Kd.int .i64) 3 w' w.heap.size (fun k_ => some k_ ≠ ((.slice Ao14 t510.length co14) : Value).ownBlock ∧ some k_ ≠ ((.slice (some ad513) t507.length co9) : Value).ownBlock ∧ some k_ ≠ ((.slice Ao14 t510.length co14) : Value).ownBlock) u3 x3_1) ∧ Fc (Kd.R (Kd.int .i64) 3 w' w.heap.size (fun k_ => some k_ ≠ (u3 : Value).ownBlock ∧ some k_ ≠ ((.slice (some ad513) t507.length co9) : Value).ownBlock) (.slice Ao14 t510.length co14) t510) ∧ Fc (Kd.R (Kd.int .i64) 3 w' w.heap.size (fun k_ => some k_ ≠ (u3 : Value).ownBlock ∧ some k_ ≠ ((.slice Ao14 t510.length co14) : Value).ownBlock ∧ some k_ ≠ ((.slice Ao14 t510.length co14) : Value).ownBlock) (.slice (some ad513) t507.length co9) t507) ∧ Fc (Kd.R (Kd.int .i64) 3 w' w.heap.size (fun k_ => some k_ ≠ (u3 : Value).ownBlock ∧ some k_ ≠ ((.slice (some ad513) t507.length co9) : Value).ownBlock) (.slice Ao14 t510.length co14) t510) ∧ Fc (w'.heap[gb502]? = some (.cells #[.int .i64 a0_0, (.slice A0_1 l0_1.length c0_1)] 26 (0, 0))) ∧ Fc (Below w.heap.size w w'))
    case atStart => exact ⟨(0), (0), eqS, eqS, H', ⟨Nat.le_refl _⟩, ⟨Kd.R_g (Kd.R_mono HO_3.out (fun _ hk => ⟨hk.1, ⟨hk.2, hk.1⟩⟩))⟩, rg HO_5, ⟨Kd.R_g (Kd.R_mono HO_17.out (fun _ hk => ⟨hk.1, ⟨hk.2, hk.2⟩⟩))⟩, rg HO_5, bg BK502, hbg HB⟩
    case round =>
     clear H'
     try clear c11b0
     try clear c12
     try clear c12b0
     try clear c13
     try clear c13b0
     try clear hx513_0
     try clear p513
     try clear q513
     obtain ⟨x8_2, x25_2, rfl, rfl, HA, HK2, HO_3, HO_5, HO_17, HO_23, BK502, HB⟩ := hrel
     cases gk with
     | zero => exact absurd HA.out (by simp [impl_Order_levels.l1])
     | succ k2 =>
      have H := HA.out
      clear HA
      simp only [impl_Order_levels.l1] at H
      rcases iteE H with ⟨c15b0, H⟩ | ⟨c15b0, H⟩
      ·obtain ⟨c16b0, H⟩ := itND H
       obtain ⟨c17b0, H⟩ := itND H
       rcases iteP H with ⟨c18, H⟩ | ⟨c18, H⟩
       ·have c18b0 := beq_iff_eq.mpr c18
        have c18b1 := bne_eq_false_iff_eq.mpr c18
        clear c18
        have H' := mkA H
        clear H
        obtain ⟨p514, q514, ad514, e514, hx514_0⟩ := atI (Kd.R_reads' HO_23.out).2.2 x25_2
        cases e514
        go_wp2
        go_roundg k2
        case measure => have := HK1.out; have := HK2.out; omega
        case rel => exact ⟨(x8_2), (wrap64 (x25_2 + 1)), eqS, eqS, H', ⟨by have := HK1.out; have := HK2.out; omega⟩, rg HO_3, rg HO_5, rg HO_17, rg HO_23, bg BK502, hbg HB⟩
       ·have c18b0 := beq_eq_false_iff_ne.mpr c18
        have c18b1 := bne_iff_ne.mpr c18
        rcases iteP H with ⟨c19, H⟩ | ⟨c19, H⟩
        ·have c19b0 := beq_iff_eq.mpr c19
         have c19b1 := bne_eq_false_iff_eq.mpr c19
         clear c19
         have H' := mkA H
         clear H
         obtain ⟨p514, q514, ad514, e514, hx514_0⟩ := atI (Kd.R_reads' HO_23.out).2.2 x25_2
         cases e514
         go_wp2
         go_roundg k2
         case measure => have := HK1.out; have := HK2.out; omega
         case rel => exact ⟨(wrap64 (x8_2 + 1)), (wrap64 (x25_2 + 1)), eqS, eqS, H', ⟨by have := HK1.out; have := HK2.out; omega⟩, rg HO_3, rg HO_5, rg HO_17, rg HO_23, bg BK502, hbg HB⟩
        ·have c19b0 := beq_eq_false_iff_ne.mpr c19
         have c19b1 := bne_iff_ne.mpr c19
         have H' := mkA H
         clear H
         obtain ⟨p514, q514, ad514, e514, hx514_0⟩ := atI (Kd.R_reads' HO_23.out).2.2 x25_2
         cases e514
         go_wp2
         go_roundg k2
         case measure => have := HK1.out; have := HK2.out; omega
         case rel => exact ⟨(x8_2), (wrap64 (x25_2 + 1)), eqS, eqS, H', ⟨by have := HK1.out; have := HK2.out; omega⟩, rg HO_3, rg HO_5, rg HO_17, rg HO_23, bg BK502, hbg HB⟩
      ·obtain ⟨c20, H⟩ := itNP H
       have LMc20 := mkA c20
       clear c20
       obtain ⟨y515, hy515⟩ : ∃ y_ : List Int, y_ = (x3_1 ++ [x8_2]) := ⟨_, rfl⟩
       rw [← hy515] at H
       have Ny515 := mkA hy515
       clear hy515
       have H' := mkA H
       clear H
       go_wp2_with (first | ((with_reducible refine gate_builtin (b := .append) (xs := #[.tmp 41, .tmp 43]) rfl ?_); at_builtin; refine Kd.R_append (Kd.int .i64) (w0 := w) w.heap.size rfl (.tmp 41) (.tmp 43) 24 3 (.int .i64 0) 8 rfl Tryd.underlying24 info3 rfl (by decide) (by omega) u3 x3_1 x8_2 [.int .i64 x8_2] (fun k_ => some k_ ≠ (.slice Ao14 t510.length co14 : Value).ownBlock ∧ some k_ ≠ (.slice (some ad513) t507.length co9 : Value).ownBlock ∧ some k_ ≠ (.slice Ao14 t510.length co14 : Value).ownBlock) (fun _ => False) rfl rfl ?aP (fun _ hk => hk.elim) ?aF ?aO ?aB ?aS ?aL ?_; (case aP => exact rfl); (case aB => exact (bel_g HB.out)); (case aF => exact (fun k_ hk => ⟨Kd.fresh' (Kd.R_lt (Kd.R_g HO_5.out)) k_ hk, Kd.fresh' (Kd.R_lt (Kd.R_g HO_17.out)) k_ hk, Kd.fresh' (Kd.R_lt (Kd.R_g HO_23.out)) k_ hk⟩)); (case aO => exact (Kd.R_g HO_3.out)); (case aS => exact (below_size (bel_g HB.out))); (case aL => have := LMc20.out; omega); intro v516 w21 ho hb hg hat; rw [← Ny515.out] at ho; replace HO_5 := mkA (Kd.R_after (ok := (fun k_ => some k_ ≠ (.slice (some ad513) t507.length co9 : Value).ownBlock)) (Kd.R_g (Kd.R_mono HO_5.out (fun _ hk => ⟨hk.2, hk.1⟩))) hg hat); replace HO_17 := mkA (Kd.R_after (ok := (fun k_ => some k_ ≠ (.slice Ao14 t510.length co14 : Value).ownBlock ∧ some k_ ≠ (.slice Ao14 t510.length co14 : Value).ownBlock)) (Kd.R_g (Kd.R_mono HO_17.out (fun _ hk => ⟨⟨hk.2.1, hk.2.2⟩, hk.1⟩))) hg hat); replace HO_23 := mkA (Kd.R_after (ok := (fun k_ => some k_ ≠ (.slice (some ad513) t507.length co9 : Value).ownBlock)) (Kd.R_g (Kd.R_mono HO_23.out (fun _ hk => ⟨hk.2, hk.1⟩))) hg hat); replace BK502 := mkA (blk_grown (g := gb502) (o := .cells #[.int .i64 a0_0, .slice A0_1 l0_1.length c0_1] 26 (0, 0)) (blk_g BK502.out) hg (Kd.R_ne HO_3.out BK502.out (by decide))); have HO517 := mkA (ho); replace HB := mkA (hb); clear HO_3; clear ho hb hg hat))
       go_roundg k2
       case measure => have := HK1.out; have := HK2.out; omega
       case rel => exact ⟨(y515), (wrap64 (x19_1 + 1)), eqS, H', ⟨by have := HK1.out; have := HK2.out; omega⟩, ⟨Kd.R_g (Kd.R_mono HO517.out (fun _ hk => ⟨hk.1, hk.2.1⟩))⟩, ⟨Kd.R_g (Kd.R_mono HO_5.out (fun _ hk => ⟨hk.2, hk.1⟩))⟩, ⟨Kd.R_g (Kd.R_mono HO_17.out (fun _ hk => ⟨hk.2, hk.1.1⟩))⟩, bg BK502, hbg HB⟩
   ·obtain rfl := Option.some.inj H
    go_wp2
    go_ret
    exact ⟨_, eqE, Kd.R_g (Kd.R_mono HO_3.out (fun _ hk => trivial)), bel_g HB.out⟩
mutual
def impl_Order_ends.l0 : Nat → List (S39) → List Int → List Int → Int → Int → Int → List Int → Option ((List (S39)))
 | 0, _, _, _, _, _, _, _ => none
 | k + 1, x3, x4, x13, x14, x15, x519000, x519001 => if x15 < x14 then (if 0 ≤ x15 then (if x15 < (x13.length : Int) then (impl_Order_ends.l1 k x3 x4 x15 (rd x13 x15) (rd x13 x15) x13 x14 x15 x4 (x4.length : Int) 0 x519000 x519001) else (none)) else (none)) else (some x3)
def impl_Order_ends.l1 : Nat → List (S39) → List Int → Int → Int → Int → List Int → Int → Int → List Int → Int → Int → Int → List Int → Option ((List (S39)))
 | 0, _, _, _, _, _, _, _, _, _, _, _, _, _ => none
 | k + 1, x3, x4, x5, x6, x7, x13, x14, x15, x21, x22, x23, x519000, x519001 => if x23 < x22 then (if 0 ≤ x23 then (if x23 < (x21.length : Int) then ((impl_Order_better.f x519000 x519001 x5 x23).bind fun t527 => (if t527 = true then (impl_Order_ends.l1 k x3 x4 x5 x6 x7 x13 x14 x15 x21 x22 (wrap64 (x23 + 1)) x519000 x519001) else (impl_Order_ends.l1 k x3 x4 x5 x6 (mx x7 (rd x21 x23)) x13 x14 x15 x21 x22 (wrap64 (x23 + 1)) x519000 x519001))) else (none)) else (none)) else (if x3.length < 8796093022208 then (impl_Order_ends.l0 k (x3 ++ [(⟨x6, x7⟩ : S39)]) x4 x13 x14 (wrap64 (x15 + 1)) x519000 x519001) else (none))
end
def impl_Order_ends.f (k : Nat) (a0_0 : Int) (l0_1 : List Int) : Option ((List (S39))) := (impl_Order_levels.f k a0_0 l0_1).bind fun t522 => (impl_Order_ends.l0 k (([] : List (S39))) t522 t522 (t522.length : Int) 0 a0_0 l0_1)
theorem impl_Order_ends.mono_l : ∀ k, (∀ y0 y1 y2 y3 y4 y5 y6, LeO (impl_Order_ends.l0 k y0 y1 y2 y3 y4 y5 y6) (impl_Order_ends.l0 (k + 1) y0 y1 y2 y3 y4 y5 y6)) ∧ (∀ y0 y1 y2 y3 y4 y5 y6 y7 y8 y9 y10 y11 y12, LeO (impl_Order_ends.l1 k y0 y1 y2 y3 y4 y5 y6 y7 y8 y9 y10 y11 y12) (impl_Order_ends.l1 (k + 1) y0 y1 y2 y3 y4 y5 y6 y7 y8 y9 y10 y11 y12))
 | 0 => ⟨fun _ _ _ _ _ _ _ r h => by simp [impl_Order_ends.l0] at h, fun _ _ _ _ _ _ _ _ _ _ _ _ _ r h => by simp [impl_Order_ends.l1] at h⟩
 | k + 1 => by
  obtain ⟨ih0, ih1⟩ := impl_Order_ends.mono_l k
  refine ⟨?_, ?_⟩ <;> intros
  unfold impl_Order_ends.l0
  rotate_left
  unfold impl_Order_ends.l1
  rotate_left
  all_goals repeat' (with_reducible first|apply ih0|apply ih1|apply impl_Order_levels.mono|apply LeO.refl|apply LeO.none|apply LeO.ite|apply LeO.bind|intro)
theorem impl_Order_ends.mono : ∀ a0 a1 k, LeO (impl_Order_ends.f k a0 a1) (impl_Order_ends.f (k + 1) a0 a1) := by
 intro a0 a1 k
 obtain ⟨ih0, ih1⟩ := impl_Order_ends.mono_l k
 unfold impl_Order_ends.f
 repeat' (with_reducible first|apply ih0|apply ih1|apply impl_Order_levels.mono|apply LeO.refl|apply LeO.none|apply LeO.ite|apply LeO.bind|intro)
theorem impl_Order_ends.calls (k : Nat) (a0_0 : Int) (A0_1 : Option Addr) (c0_1 : Nat) (l0_1 : List Int) (r : List (S39)) (w : World) (hr0_1 : Kd.C (Kd.int .i64) w A0_1 l0_1.length l0_1) (hc0_1 : l0_1.length ≤ c0_1) (h : impl_Order_ends.f k a0_0 l0_1 = some r) :
  Calls Tryd.prog 32 #[.agg #[.int .i64 a0_0, .slice A0_1 l0_1.length c0_1]] w fun e w' => ∃ v0_ : Value, e = .returned (v0_) ∧ Kd.R k39 39 w' w.heap.size (fun _ => True) v0_ r ∧ Below w.heap.size w w' := by
 have hu26 := Tryd.underlying26
 have hu39 := Tryd.underlying39
 have HR0_1 := mkA hr0_1
 have HC0_1 := mkA hc0_1
 clear hr0_1 hc0_1
 have HB := mkA (Below.refl w.heap.size w)
 have H := h
 clear h
 unfold impl_Order_ends.f at H
 obtain ⟨y519, hy519⟩ : ∃ y_ : List (S39), y_ = (([] : List (S39))) := ⟨_, rfl⟩
 rw [← hy519] at H
 have Ny519 := mkA hy519
 clear hy519
 obtain ⟨t522, A2, H⟩ := obE H
 have H' := mkA H
 clear H
 go_enter Tryd.func32, Tryd.ntmps32
 go_wp2_with (first | ((with_reducible refine gate_dst (N := 1) rfl ?_); refine boxG HB #[.int .i64 a0_0, .slice A0_1 l0_1.length c0_1] 26 ?_; intro gb518 hg w3 BK518 GE518 hb; replace HB := bst HB hb; clear hb hg) | ((with_reducible refine gate_dst (N := 10) rfl ?_); refine Kd.R_lit k39 _ 39 ?hg (N := 10) ?hd (xs := ([] : List (S39))) (inner := []) (ok := fun _ => True) (okp := fun _ => True) ?hr ?hp (fun _ hk => hk) trivial (Below.refl _ _) (Nat.le_refl _) (by simp) ?_; (case hd => rfl); (case hg => rfl); (case hr => first | (go_simp; done) | (go_simp; rfl)); (case hp => exact (Reps.none _ _)); intro v520 w4 ho5 hb hg_ hnew_; clear hg_ hnew_; (first | rw [← Ny519.out] at ho5 | (simp only [Int.reduceToNat] at ho5; rw [← Ny519.out] at ho5)); have HO521 := rLo ho5 HB; replace BK518 := blkB BK518 hb; replace HB := bst HB hb; clear hb ho5; obtain ⟨_, _, _, _⟩ := blk2 BK518) | ((with_reducible refine gate_callee (f := 38) rfl ?_); refine goesQ (some 12) Tryd.func38 #[.agg #[.int .i64 a0_0, .slice A0_1 l0_1.length c0_1]] ?_; (with_reducible refine (impl_Order_levels.calls k a0_0 _ _ l0_1 t522 _ ?_ ?_ A2.out).mono ?_); exact C_g HR0_1 HB; exact HC0_1.out; rintro e w7 ⟨v523, rfl, ho0, hb⟩; refine ⟨_, rfl, ?_⟩; replace HO521 := rB HO521 hb; have HO524 := rLo ho0 HB; replace BK518 := blkB BK518 hb; replace HB := bst HB hb; clear hb ho0; obtain ⟨Ao8, co8, rfl⟩ := Kd.R_slice HO524.out))
 go_loopg [3, 15] k (fun kq v3 v15 w' => ∃ (x3_1 : List (S39)) (x15_1 : Int), v15 = .int .i64 x15_1 ∧ Fc (impl_Order_ends.l0 kq x3_1 t522 t522 (t522.length : Int) x15_1 a0_0 l0_1 = some r) ∧ Fc (kq ≤ k) ∧ Fc (Kd.R k39 39 w' w.heap.size (fun _ => True) v3 x3_1) ∧ Fc (Kd.R (Kd.int .i64) 3 w' w.heap.size (fun _ => True) (.slice Ao8 t522.length co8) t522) ∧ Fc (Kd.R (Kd.int .i64) 3 w' w.heap.size (fun _ => True) (.slice Ao8 t522.length co8) t522) ∧ Fc (w'.heap[gb518]? = some (.cells #[.int .i64 a0_0, (.slice A0_1 l0_1.length c0_1)] 26 (0, 0))) ∧ Fc (Below w.heap.size w w'))
 case atStart => exact ⟨(y519), (0), eqS, H', ⟨Nat.le_refl _⟩, rg HO521, rg HO524, rg HO524, bg BK518, hbg HB⟩
 case round =>
  clear H'
  obtain ⟨x3_1, x15_1, rfl, HA, HK1, HO_3, HO_4, HO_13, BK518, HB⟩ := hrel
  cases gk with
  | zero => exact absurd HA.out (by simp [impl_Order_ends.l0])
  | succ k1 =>
   have H := HA.out
   clear HA
   simp only [impl_Order_ends.l0] at H
   rcases iteE H with ⟨c9b0, H⟩ | ⟨c9b0, H⟩
   ·obtain ⟨c10b0, H⟩ := itND H
    obtain ⟨c11b0, H⟩ := itND H
    have H' := mkA H
    clear H
    obtain ⟨p525, q525, ad525, e525, hx525_0⟩ := atI (Kd.R_reads' HO_13.out).2.2 x15_1
    cases e525
    go_wp2
    go_loopg [7, 23] k1 (fun kq v7 v23 w' => ∃ (x7_2 : Int) (x23_2 : Int), v7 = .int .i64 x7_2 ∧ v23 = .int .i64 x23_2 ∧ Fc (impl_Order_ends.l1 kq x3_1 t522 x15_1 (rd t522 x15_1) x7_2 t522 (t522.length : Int) x15_1 t522 (t522.length : Int) x23_2 a0_0 l0_1 = some r) ∧ Fc (kq ≤ k1) ∧ Fc (Kd.R k39 39 w' w.heap.size (fun _ => True) u3 x3_1) ∧ Fc (Kd.R (Kd.int .i64) 3 w' w.heap.size (fun _ => True) (.slice (some ad525) t522.length co8) t522) ∧ Fc (Kd.R (Kd.int .i64) 3 w' w.heap.size (fun _ => True) (.slice (some ad525) t522.length co8) t522) ∧ Fc (Kd.R (Kd.int .i64) 3 w' w.heap.size (fun _ => True) (.slice (some ad525) t522.length co8) t522) ∧ Fc (w'.heap[gb518]? = some (.cells #[.int .i64 a0_0, (.slice A0_1 l0_1.length c0_1)] 26 (0, 0))) ∧ Fc (Below w.heap.size w w'))
    case atStart => exact ⟨(rd t522 x15_1), (0), eqS, eqS, H', ⟨Nat.le_refl _⟩, rg HO_3, rg HO_4, rg HO_13, rg HO_4, bg BK518, hbg HB⟩
    case round =>
     clear H'
     try clear c9b0
     try clear c10
     try clear c10b0
     try clear c11
     try clear c11b0
     try clear hx525_0
     try clear p525
     try clear q525
     obtain ⟨x7_2, x23_2, rfl, rfl, HA, HK2, HO_3, HO_4, HO_13, HO_21, BK518, HB⟩ := hrel
     cases gk with
     | zero => exact absurd HA.out (by simp [impl_Order_ends.l1])
     | succ k2 =>
      have H := HA.out
      clear HA
      simp only [impl_Order_ends.l1] at H
      rcases iteE H with ⟨c12b0, H⟩ | ⟨c12b0, H⟩
      ·obtain ⟨c13b0, H⟩ := itND H
       obtain ⟨c14b0, H⟩ := itND H
       obtain ⟨t527, A15, H⟩ := obE H
       by_cases c16 : t527 = true
       ·subst c16
        replace H := ifT H
        have H' := mkA H
        clear H
        obtain ⟨p526, q526, ad526, e526, hx526_0⟩ := atI (Kd.R_reads' HO_21.out).2.2 x23_2
        obtain rfl : ad525 = ad526 := (by injection e526)
        obtain ⟨_, _, _, _⟩ := blk2 BK518
        go_wp2_with (first | ((with_reducible refine gate_callee (f := 57) rfl ?_); refine goesQ (some 31) Tryd.func57 #[.agg #[.int .i64 a0_0, .slice A0_1 l0_1.length c0_1], .int .i64 x15_1, .int .i64 x23_2] ?_; (with_reducible refine (impl_Order_better.calls a0_0 _ _ l0_1 x15_1 x23_2 true _ ?_ ?_ A15.out).mono ?_); exact C_g HR0_1 HB; exact HC0_1.out; rintro e w18 ⟨rfl, hb⟩; refine ⟨_, rfl, ?_⟩; replace HO_3 := rB HO_3 hb; replace HO_4 := rB HO_4 hb; replace HO_13 := rB HO_13 hb; replace HO_21 := rB HO_21 hb; replace BK518 := blkB BK518 hb; replace HB := bst HB hb; clear hb))
        go_roundg k2
        case measure => have := HK1.out; have := HK2.out; omega
        case rel => exact ⟨(x7_2), (wrap64 (x23_2 + 1)), eqS, eqS, H', ⟨by have := HK1.out; have := HK2.out; omega⟩, rg HO_3, rg HO_4, rg HO_13, rg HO_21, bg BK518, hbg HB⟩
       ·replace c16 := Bool.eq_false_iff.mpr c16
        subst c16
        replace H := ifF H
        obtain ⟨ji19, hji19⟩ : ∃ j_ : Int, (mx x7_2 (rd t522 x23_2)) = j_ := ⟨_, rfl⟩
        first | rw [hji19] at H | simp only [hji19] at H
        (try rw [hji19] at A15)
        have hji19_ : (if x7_2 < (rd t522 x23_2) then (rd t522 x23_2) else x7_2) = ji19 := hji19
        have H' := mkA H
        clear H
        obtain ⟨p526, q526, ad526, e526, hx526_0⟩ := atI (Kd.R_reads' HO_21.out).2.2 x23_2
        obtain rfl : ad525 = ad526 := (by injection e526)
        obtain ⟨_, _, _, _⟩ := blk2 BK518
        go_wp2_with (first | ((with_reducible refine gate_callee (f := 57) rfl ?_); refine goesQ (some 31) Tryd.func57 #[.agg #[.int .i64 a0_0, .slice A0_1 l0_1.length c0_1], .int .i64 x15_1, .int .i64 x23_2] ?_; (with_reducible refine (impl_Order_better.calls a0_0 _ _ l0_1 x15_1 x23_2 false _ ?_ ?_ A15.out).mono ?_); exact C_g HR0_1 HB; exact HC0_1.out; rintro e w21 ⟨rfl, hb⟩; refine ⟨_, rfl, ?_⟩; replace HO_3 := rB HO_3 hb; replace HO_4 := rB HO_4 hb; replace HO_13 := rB HO_13 hb; replace HO_21 := rB HO_21 hb; replace BK518 := blkB BK518 hb; replace HB := bst HB hb; clear hb))
        go_roundg k2
        case measure => have := HK1.out; have := HK2.out; omega
        case rel => exact ⟨(ji19), (wrap64 (x23_2 + 1)), (by first | rfl | (simp; done) | (simp only [← hji19] <;> (first | rfl | simp)) | (simp [*]; done)), eqS, H', ⟨by have := HK1.out; have := HK2.out; omega⟩, rg HO_3, rg HO_4, rg HO_13, rg HO_21, bg BK518, hbg HB⟩
      ·obtain ⟨c22, H⟩ := itNP H
       have LMc22 := mkA c22
       clear c22
       obtain ⟨y528, hy528⟩ : ∃ y_ : List (S39), y_ = (x3_1 ++ [(⟨(rd t522 x15_1), x7_2⟩ : S39)]) := ⟨_, rfl⟩
       rw [← hy528] at H
       have Ny528 := mkA hy528
       clear hy528
       have H' := mkA H
       clear H
       go_wp2_with (first | ((with_reducible refine gate_builtin (b := .append) (xs := #[.tmp 37, .tmp 41]) rfl ?_); at_builtin; refine Kd.R_append k39 (w0 := w) w.heap.size rfl (.tmp 37) (.tmp 41) 28 39 (.agg #[(.int .i64 0), (.int .i64 0)]) 16 rfl Tryd.underlying28 info39 rfl (by decide) (by omega) u3 x3_1 (⟨(rd t522 x15_1), x7_2⟩ : S39) [.int .i64 (rd t522 x15_1), .int .i64 x7_2] (fun _ => True) (fun _ => False) rfl rfl ?aP (fun _ hk => hk.elim) ?aF ?aO ?aB ?aS ?aL ?_; (case aP => exact k39_mkM _ _ _ (⟨(rd t522 x15_1), x7_2⟩ : S39)); (case aB => exact (bel_g HB.out)); (case aF => exact (fun _ _ => trivial)); (case aO => exact (Kd.R_g HO_3.out)); (case aS => exact (below_size (bel_g HB.out))); (case aL => have := LMc22.out; omega); intro v529 w23 ho hb hg hat; rw [← Ny528.out] at ho; replace HO_4 := mkA (Kd.R_over' (Kd.R_g HO_4.out) (Kd.R_typed (Kd.R_g HO_3.out)) (by decide) hg); replace HO_13 := mkA (Kd.R_over' (Kd.R_g HO_13.out) (Kd.R_typed (Kd.R_g HO_3.out)) (by decide) hg); replace HO_21 := mkA (Kd.R_over' (Kd.R_g HO_21.out) (Kd.R_typed (Kd.R_g HO_3.out)) (by decide) hg); replace BK518 := mkA (blk_grown (g := gb518) (o := .cells #[.int .i64 a0_0, .slice A0_1 l0_1.length c0_1] 26 (0, 0)) (blk_g BK518.out) hg (Kd.R_ne HO_3.out BK518.out (by decide))); have HO530 := mkA (ho); replace HB := mkA (hb); clear HO_3; clear ho hb hg hat))
       go_roundg k2
       case measure => have := HK1.out; have := HK2.out; omega
       case rel => exact ⟨(y528), (wrap64 (x15_1 + 1)), eqS, H', ⟨by have := HK1.out; have := HK2.out; omega⟩, rg HO530, rg HO_4, rg HO_13, bg BK518, hbg HB⟩
   ·obtain rfl := Option.some.inj H
    go_wp2
    go_ret
    exact ⟨_, eqE, Kd.R_g HO_3.out, bel_g HB.out⟩
end Go.Proofs.YtdmheeenoklijaaDoor.Q
