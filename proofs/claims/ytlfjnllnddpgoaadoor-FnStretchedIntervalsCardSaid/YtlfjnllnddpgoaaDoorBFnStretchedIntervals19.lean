import Derived.Test.YtlfjnllnddpgoaaDoorBFnStretchedIntervals18
namespace Go.Proofs.YtlfjnllnddpgoaaDoor.Q
open Go.RowKit Go.Proofs.YtlfjnllnddpgoaaDoorW.PrintWords Go.Proofs.YtlfjnllnddpgoaaDoorW.PrintLast Go.Proofs.YtlfjnllnddpgoaaDoorW.PrintMore
attribute [local go_sem] max2_int min2_int max_two min_two max_three min_three max_four min_four neB_f
set_option linter.unusedVariables false
set_option maxHeartbeats 8000000
set_option maxRecDepth 100000
set_option linter.unusedSimpArgs false
mutual
def impl_Order_levels.l0 : Nat → List Int → List Int → List Int → Int → Int → Option (List Int)
 | 0, _, _, _, _, _ => none
 | k + 1, x3, x5, x17, x18, x19 => if x19 < x18 then (if 0 ≤ x19 then (if x19 < (x17.length : Int) then (impl_Order_levels.l1 k x3 x5 (rd x17 x19) 0 x17 x18 x19 x5 (x5.length : Int) 0) else (none)) else (none)) else (some x3)
def impl_Order_levels.l1 : Nat → List Int → List Int → Int → Int → List Int → Int → Int → List Int → Int → Int → Option (List Int)
 | 0, _, _, _, _, _, _, _, _, _, _ => none
 | k + 1, x3, x5, x7, x8, x17, x18, x19, x23, x24, x25 => if x25 < x24 then (if 0 ≤ x25 then (if x25 < (x23.length : Int) then (if (rd x23 x25) = x7 then (impl_Order_levels.l1 k x3 x5 x7 x8 x17 x18 x19 x23 x24 (wrap64 (x25 + 1))) else (if (Go.bits .andNot .i64 (rd x23 x25) x7) = 0 then (impl_Order_levels.l1 k x3 x5 x7 (wrap64 (x8 + 1)) x17 x18 x19 x23 x24 (wrap64 (x25 + 1))) else (impl_Order_levels.l1 k x3 x5 x7 x8 x17 x18 x19 x23 x24 (wrap64 (x25 + 1))))) else (none)) else (none)) else (if x3.length < 17592186044416 then (impl_Order_levels.l0 k (x3 ++ [x8]) x5 x17 x18 (wrap64 (x19 + 1))) else (none))
end
def impl_Order_levels.f (k : Nat) (a0_0 : Int) (l0_1 : List Int) : Option (List Int) := (impl_Order_mirror.f k a0_0 l0_1).bind fun bt622 => ((impl_different.f bt622.2).bind fun t626 => (impl_Order_levels.l0 k (([] : List Int)) t626 bt622.2 (bt622.2.length : Int) 0))
theorem impl_Order_levels.mono_l : ∀ k, (∀ y0 y1 y2 y3 y4, LeO (impl_Order_levels.l0 k y0 y1 y2 y3 y4) (impl_Order_levels.l0 (k + 1) y0 y1 y2 y3 y4)) ∧ (∀ y0 y1 y2 y3 y4 y5 y6 y7 y8 y9, LeO (impl_Order_levels.l1 k y0 y1 y2 y3 y4 y5 y6 y7 y8 y9) (impl_Order_levels.l1 (k + 1) y0 y1 y2 y3 y4 y5 y6 y7 y8 y9))
 | 0 => ⟨fun _ _ _ _ _ r h => by simp [impl_Order_levels.l0] at h, fun _ _ _ _ _ _ _ _ _ _ r h => by simp [impl_Order_levels.l1] at h⟩
 | k + 1 => by
  obtain ⟨ih0, ih1⟩ := impl_Order_levels.mono_l k
  refine ⟨?_, ?_⟩ <;> intros
  unfold impl_Order_levels.l0
  rotate_left
  unfold impl_Order_levels.l1
  rotate_left
  all_goals repeat' (with_reducible first|apply ih0|apply ih1|apply impl_Order_mirror.mono|apply LeO.refl|apply LeO.none|apply LeO.ite|apply LeO.bind|intro)
theorem impl_Order_levels.mono : ∀ a0 a1 k, LeO (impl_Order_levels.f k a0 a1) (impl_Order_levels.f (k + 1) a0 a1) := by
 intro a0 a1 k
 obtain ⟨ih0, ih1⟩ := impl_Order_levels.mono_l k
 unfold impl_Order_levels.f
 repeat' (with_reducible first|apply ih0|apply ih1|apply impl_Order_mirror.mono|apply LeO.refl|apply LeO.none|apply LeO.ite|apply LeO.bind|intro)
theorem impl_Order_levels.calls (k : Nat) (a0_0 : Int) (A0_1 : Option Addr) (c0_1 : Nat) (l0_1 : List Int) (r : List Int) (w : World) (hr0_1 : Kd.C (Kd.int .i64) w A0_1 l0_1.length l0_1) (hc0_1 : l0_1.length ≤ c0_1) (h : impl_Order_levels.f k a0_0 l0_1 = some r) :
  Calls Tryd.prog 46 #[.agg #[.int .i64 a0_0, .slice A0_1 l0_1.length c0_1]] w fun e w' => ∃ v0_ : Value, e = .returned (v0_) ∧ Kd.R (Kd.int .i64) 3 w' w.heap.size (fun _ => True) v0_ r ∧ Below w.heap.size w w' := by
 have hfd32_1 := fun (W_ : World) (v0_ v1_ : Value) => (show Sem.run Tryd.prog (Instr.field 32 (.agg #[v0_, v1_]) 1) W_ = .ok v1_ W_ from by simp [go_sem, Instr.field, asAgg])
 have hu32 := Tryd.underlying32
 have HR0_1 := mkA hr0_1
 have HC0_1 := mkA hc0_1
 clear hr0_1 hc0_1
 have HB := mkA (Below.refl w.heap.size w)
 have H := h
 clear h
 unfold impl_Order_levels.f at H
 obtain ⟨y619, hy619⟩ : ∃ y_ : List Int, y_ = (([] : List Int)) := ⟨_, rfl⟩
 rw [← hy619] at H
 have Ny619 := mkA hy619
 clear hy619
 obtain ⟨⟨t622, t623⟩, A2, H⟩ := obE H
 dsimp only at H
 obtain ⟨t626, A3, H⟩ := obE H
 have H' := mkA H
 clear H
 go_enter Tryd.func46, Tryd.ntmps46
 go_wp2_with (first | ((with_reducible refine gate_dst (N := 1) rfl ?_); refine boxG HB #[.int .i64 a0_0, .slice A0_1 l0_1.length c0_1] 32 ?_; intro gb618 hg w4 BK618 GE618 hb; replace HB := bst HB hb; clear hb hg) | ((with_reducible refine gate_dst (N := 11) rfl ?_); refine litE (Kd.int .i64) 3 ([] : List Int) [] ?hp ?_; (case hp => exact (Reps.none _ _)); intro v620 w5 ho6 hb hg_ hnew_; clear hg_ hnew_; (first | rw [← Ny619.out] at ho6 | (simp only [Int.reduceToNat] at ho6; rw [← Ny619.out] at ho6)); have HO621 := rLo ho6 HB; replace BK618 := blkB BK618 hb; replace HB := bst HB hb; clear hb ho6; obtain ⟨_, _, _, _⟩ := blk2 BK618) | ((with_reducible refine gate_callee (f := 58) rfl ?_); refine goesQ (some 13) Tryd.func58 #[.agg #[.int .i64 a0_0, .slice A0_1 l0_1.length c0_1]] ?_; (with_reducible refine (impl_Order_mirror.calls k a0_0 _ _ l0_1 t622 t623 _ ?_ ?_ A2.out).mono ?_); exact C_g HR0_1 HB; exact HC0_1.out; rintro e w8 ⟨v624, rfl, ho0, hb⟩; refine ⟨_, rfl, ?_⟩; have HO625 := rLo (rN ho0 HO621) HB; replace HO621 := rE HO621 ho0 hb; replace BK618 := blkB BK618 hb; replace HB := bst HB hb; clear hb ho0; obtain ⟨Ao9, co9, rfl⟩ := Kd.R_slice HO625.out) | ((with_reducible refine gate_callee (f := 59) rfl ?_); refine goesQ (some 16) Tryd.func59 #[.slice Ao9 t623.length co9] ?_; (with_reducible refine (impl_different.calls _ _ t623 t626 _ ?_ ?_ A3.out).mono ?_); exact rC HO625; exact rL HO625; rintro e w10 ⟨v627, rfl, ho0, hb⟩; refine ⟨_, rfl, ?_⟩; have HO628 := rLo (rN (rN ho0 HO621) HO625) HB; replace HO621 := rE HO621 ho0 hb; replace HO625 := rE HO625 ho0 hb; replace BK618 := blkB BK618 hb; replace HB := bst HB hb; clear hb ho0))
 go_loopg [3, 19] k (fun kq v3 v19 w' => ∃ (x3_1 : List Int) (x19_1 : Int), v19 = .int .i64 x19_1 ∧ Fc (impl_Order_levels.l0 kq x3_1 t626 t623 (t623.length : Int) x19_1 = some r) ∧ Fc (kq ≤ k) ∧ Fc (Kd.R (Kd.int .i64) 3 w' w.heap.size (fun k_ => some k_ ≠ (v627 : Value).ownBlock ∧ some k_ ≠ ((.slice Ao9 t623.length co9) : Value).ownBlock) v3 x3_1) ∧ Fc (Kd.R (Kd.int .i64) 3 w' w.heap.size (fun k_ => some k_ ≠ (v3 : Value).ownBlock ∧ some k_ ≠ ((.slice Ao9 t623.length co9) : Value).ownBlock) v627 t626) ∧ Fc (Kd.R (Kd.int .i64) 3 w' w.heap.size (fun k_ => some k_ ≠ (v3 : Value).ownBlock ∧ some k_ ≠ (v627 : Value).ownBlock) (.slice Ao9 t623.length co9) t623) ∧ Fc (w'.heap[gb618]? = some (.cells #[.int .i64 a0_0, (.slice A0_1 l0_1.length c0_1)] 32 (0, 0))) ∧ Fc (Below w.heap.size w w'))
 case atStart => exact ⟨(y619), (0), eqS, H', ⟨Nat.le_refl _⟩, ⟨Kd.R_g (Kd.R_mono HO621.out (fun _ hk => ⟨hk.2, hk.1.2⟩))⟩, ⟨Kd.R_g (Kd.R_mono HO628.out (fun _ hk => ⟨hk.1.2, hk.2⟩))⟩, ⟨Kd.R_g (Kd.R_mono HO625.out (fun _ hk => ⟨hk.1.2, hk.2⟩))⟩, bg BK618, hbg HB⟩
 case round =>
  clear H'
  obtain ⟨x3_1, x19_1, rfl, HA, HK1, HO_3, HO_5, HO_17, BK618, HB⟩ := hrel
  cases gk with
  | zero => exact absurd HA.out (by simp [impl_Order_levels.l0])
  | succ k1 =>
   have H := HA.out
   clear HA
   simp only [impl_Order_levels.l0] at H
   rcases iteE H with ⟨c11b0, H⟩ | ⟨c11b0, H⟩
   ·obtain ⟨c12b0, H⟩ := itND H
    obtain ⟨c13b0, H⟩ := itND H
    have H' := mkA H
    clear H
    obtain ⟨p629, q629, ad629, e629, hx629_0⟩ := atI (Kd.R_reads' HO_17.out).2.2 x19_1
    cases e629
    obtain ⟨Ao14, co14, rfl⟩ := Kd.R_slice HO_5.out
    go_wp2
    go_loopg [8, 25] k1 (fun kq v8 v25 w' => ∃ (x8_2 : Int) (x25_2 : Int), v8 = .int .i64 x8_2 ∧ v25 = .int .i64 x25_2 ∧ Fc (impl_Order_levels.l1 kq x3_1 t626 (rd t623 x19_1) x8_2 t623 (t623.length : Int) x19_1 t626 (t626.length : Int) x25_2 = some r) ∧ Fc (kq ≤ k1) ∧ Fc (Kd.R (Kd.int .i64) 3 w' w.heap.size (fun k_ => some k_ ≠ ((.slice Ao14 t626.length co14) : Value).ownBlock ∧ some k_ ≠ ((.slice (some ad629) t623.length co9) : Value).ownBlock ∧ some k_ ≠ ((.slice Ao14 t626.length co14) : Value).ownBlock) u3 x3_1) ∧ Fc (Kd.R (Kd.int .i64) 3 w' w.heap.size (fun k_ => some k_ ≠ (u3 : Value).ownBlock ∧ some k_ ≠ ((.slice (some ad629) t623.length co9) : Value).ownBlock) (.slice Ao14 t626.length co14) t626) ∧ Fc (Kd.R (Kd.int .i64) 3 w' w.heap.size (fun k_ => some k_ ≠ (u3 : Value).ownBlock ∧ some k_ ≠ ((.slice Ao14 t626.length co14) : Value).ownBlock ∧ some k_ ≠ ((.slice Ao14 t626.length co14) : Value).ownBlock) (.slice (some ad629) t623.length co9) t623) ∧ Fc (Kd.R (Kd.int .i64) 3 w' w.heap.size (fun k_ => some k_ ≠ (u3 : Value).ownBlock ∧ some k_ ≠ ((.slice (some ad629) t623.length co9) : Value).ownBlock) (.slice Ao14 t626.length co14) t626) ∧ Fc (w'.heap[gb618]? = some (.cells #[.int .i64 a0_0, (.slice A0_1 l0_1.length c0_1)] 32 (0, 0))) ∧ Fc (Below w.heap.size w w'))
    case atStart => exact ⟨(0), (0), eqS, eqS, H', ⟨Nat.le_refl _⟩, ⟨Kd.R_g (Kd.R_mono HO_3.out (fun _ hk => ⟨hk.1, ⟨hk.2, hk.1⟩⟩))⟩, rg HO_5, ⟨Kd.R_g (Kd.R_mono HO_17.out (fun _ hk => ⟨hk.1, ⟨hk.2, hk.2⟩⟩))⟩, rg HO_5, bg BK618, hbg HB⟩
    case round =>
     clear H'
     try clear c11b0
     try clear c12
     try clear c12b0
     try clear c13
     try clear c13b0
     try clear hx629_0
     try clear p629
     try clear q629
     obtain ⟨x8_2, x25_2, rfl, rfl, HA, HK2, HO_3, HO_5, HO_17, HO_23, BK618, HB⟩ := hrel
     cases gk with
     | zero => exact absurd HA.out (by simp [impl_Order_levels.l1])
     | succ k2 =>
      have H := HA.out
      clear HA
      simp only [impl_Order_levels.l1] at H
      rcases iteE H with ⟨c15b0, H⟩ | ⟨c15b0, H⟩
      ·obtain ⟨c16b0, H⟩ := itND H
       obtain ⟨c17b0, H⟩ := itND H
       rcases iteP H with ⟨c18, H⟩ | ⟨c18, H⟩
       ·have c18b0 := beq_iff_eq.mpr c18
        have c18b1 := bne_eq_false_iff_eq.mpr c18
        clear c18
        have H' := mkA H
        clear H
        obtain ⟨p630, q630, ad630, e630, hx630_0⟩ := atI (Kd.R_reads' HO_23.out).2.2 x25_2
        cases e630
        go_wp2
        go_roundg k2
        case measure => have := HK1.out; have := HK2.out; omega
        case rel => exact ⟨(x8_2), (wrap64 (x25_2 + 1)), eqS, eqS, H', ⟨by have := HK1.out; have := HK2.out; omega⟩, rg HO_3, rg HO_5, rg HO_17, rg HO_23, bg BK618, hbg HB⟩
       ·have c18b0 := beq_eq_false_iff_ne.mpr c18
        have c18b1 := bne_iff_ne.mpr c18
        rcases iteP H with ⟨c19, H⟩ | ⟨c19, H⟩
        ·have c19b0 := beq_iff_eq.mpr c19
         have c19b1 := bne_eq_false_iff_eq.mpr c19
         clear c19
         have H' := mkA H
         clear H
         obtain ⟨p630, q630, ad630, e630, hx630_0⟩ := atI (Kd.R_reads' HO_23.out).2.2 x25_2
         cases e630
         go_wp2
         go_roundg k2
         case measure => have := HK1.out; have := HK2.out; omega
         case rel => exact ⟨(wrap64 (x8_2 + 1)), (wrap64 (x25_2 + 1)), eqS, eqS, H', ⟨by have := HK1.out; have := HK2.out; omega⟩, rg HO_3, rg HO_5, rg HO_17, rg HO_23, bg BK618, hbg HB⟩
        ·have c19b0 := beq_eq_false_iff_ne.mpr c19
         have c19b1 := bne_iff_ne.mpr c19
         have H' := mkA H
         clear H
         obtain ⟨p630, q630, ad630, e630, hx630_0⟩ := atI (Kd.R_reads' HO_23.out).2.2 x25_2
         cases e630
         go_wp2
         go_roundg k2
         case measure => have := HK1.out; have := HK2.out; omega
         case rel => exact ⟨(x8_2), (wrap64 (x25_2 + 1)), eqS, eqS, H', ⟨by have := HK1.out; have := HK2.out; omega⟩, rg HO_3, rg HO_5, rg HO_17, rg HO_23, bg BK618, hbg HB⟩
      ·obtain ⟨c20, H⟩ := itNP H
       have LMc20 := mkA c20
       clear c20
       obtain ⟨y631, hy631⟩ : ∃ y_ : List Int, y_ = (x3_1 ++ [x8_2]) := ⟨_, rfl⟩
       rw [← hy631] at H
       have Ny631 := mkA hy631
       clear hy631
       have H' := mkA H
       clear H
       go_wp2_with (first | ((with_reducible refine gate_builtin (b := .append) (xs := #[.tmp 41, .tmp 43]) rfl ?_); at_builtin; refine Kd.R_append (Kd.int .i64) (w0 := w) w.heap.size rfl (.tmp 41) (.tmp 43) 30 3 (.int .i64 0) 8 rfl Tryd.underlying30 info3 rfl (by decide) (by omega) u3 x3_1 x8_2 [.int .i64 x8_2] (fun k_ => some k_ ≠ (.slice Ao14 t626.length co14 : Value).ownBlock ∧ some k_ ≠ (.slice (some ad629) t623.length co9 : Value).ownBlock ∧ some k_ ≠ (.slice Ao14 t626.length co14 : Value).ownBlock) (fun _ => False) rfl rfl ?aP (fun _ hk => hk.elim) ?aF ?aO ?aB ?aS ?aL ?_; (case aP => exact rfl); (case aB => exact (bel_g HB.out)); (case aF => exact (fun k_ hk => ⟨Kd.fresh' (Kd.R_lt (Kd.R_g HO_5.out)) k_ hk, Kd.fresh' (Kd.R_lt (Kd.R_g HO_17.out)) k_ hk, Kd.fresh' (Kd.R_lt (Kd.R_g HO_23.out)) k_ hk⟩)); (case aO => exact (Kd.R_g HO_3.out)); (case aS => exact (below_size (bel_g HB.out))); (case aL => have := LMc20.out; omega); intro v632 w21 ho hb hg hat; rw [← Ny631.out] at ho; replace HO_5 := mkA (Kd.R_after (ok := (fun k_ => some k_ ≠ (.slice (some ad629) t623.length co9 : Value).ownBlock)) (Kd.R_g (Kd.R_mono HO_5.out (fun _ hk => ⟨hk.2, hk.1⟩))) hg hat); replace HO_17 := mkA (Kd.R_after (ok := (fun k_ => some k_ ≠ (.slice Ao14 t626.length co14 : Value).ownBlock ∧ some k_ ≠ (.slice Ao14 t626.length co14 : Value).ownBlock)) (Kd.R_g (Kd.R_mono HO_17.out (fun _ hk => ⟨⟨hk.2.1, hk.2.2⟩, hk.1⟩))) hg hat); replace HO_23 := mkA (Kd.R_after (ok := (fun k_ => some k_ ≠ (.slice (some ad629) t623.length co9 : Value).ownBlock)) (Kd.R_g (Kd.R_mono HO_23.out (fun _ hk => ⟨hk.2, hk.1⟩))) hg hat); replace BK618 := mkA (blk_grown (g := gb618) (o := .cells #[.int .i64 a0_0, .slice A0_1 l0_1.length c0_1] 32 (0, 0)) (blk_g BK618.out) hg (Kd.R_ne HO_3.out BK618.out (by decide))); have HO633 := mkA (ho); replace HB := mkA (hb); clear HO_3; clear ho hb hg hat))
       go_roundg k2
       case measure => have := HK1.out; have := HK2.out; omega
       case rel => exact ⟨(y631), (wrap64 (x19_1 + 1)), eqS, H', ⟨by have := HK1.out; have := HK2.out; omega⟩, ⟨Kd.R_g (Kd.R_mono HO633.out (fun _ hk => ⟨hk.1, hk.2.1⟩))⟩, ⟨Kd.R_g (Kd.R_mono HO_5.out (fun _ hk => ⟨hk.2, hk.1⟩))⟩, ⟨Kd.R_g (Kd.R_mono HO_17.out (fun _ hk => ⟨hk.2, hk.1.1⟩))⟩, bg BK618, hbg HB⟩
   ·obtain rfl := Option.some.inj H
    go_wp2
    go_ret
    exact ⟨_, eqE, Kd.R_g (Kd.R_mono HO_3.out (fun _ hk => trivial)), bel_g HB.out⟩
mutual
def impl_Order_ends.l0 : Nat → List (S37) → List Int → List Int → Int → Int → Int → List Int → Option ((List (S37)))
 | 0, _, _, _, _, _, _, _ => none
 | k + 1, x3, x4, x13, x14, x15, x635000, x635001 => if x15 < x14 then (if 0 ≤ x15 then (if x15 < (x13.length : Int) then (impl_Order_ends.l1 k x3 x4 x15 (rd x13 x15) (rd x13 x15) x13 x14 x15 x4 (x4.length : Int) 0 x635000 x635001) else (none)) else (none)) else (some x3)
def impl_Order_ends.l1 : Nat → List (S37) → List Int → Int → Int → Int → List Int → Int → Int → List Int → Int → Int → Int → List Int → Option ((List (S37)))
 | 0, _, _, _, _, _, _, _, _, _, _, _, _, _ => none
 | k + 1, x3, x4, x5, x6, x7, x13, x14, x15, x21, x22, x23, x635000, x635001 => if x23 < x22 then (if 0 ≤ x23 then (if x23 < (x21.length : Int) then ((impl_Order_better.f x635000 x635001 x5 x23).bind fun t643 => (if t643 = true then (impl_Order_ends.l1 k x3 x4 x5 x6 x7 x13 x14 x15 x21 x22 (wrap64 (x23 + 1)) x635000 x635001) else (impl_Order_ends.l1 k x3 x4 x5 x6 (mx x7 (rd x21 x23)) x13 x14 x15 x21 x22 (wrap64 (x23 + 1)) x635000 x635001))) else (none)) else (none)) else (if x3.length < 8796093022208 then (impl_Order_ends.l0 k (x3 ++ [(⟨x6, x7⟩ : S37)]) x4 x13 x14 (wrap64 (x15 + 1)) x635000 x635001) else (none))
end
def impl_Order_ends.f (k : Nat) (a0_0 : Int) (l0_1 : List Int) : Option ((List (S37))) := (impl_Order_levels.f k a0_0 l0_1).bind fun t638 => (impl_Order_ends.l0 k (([] : List (S37))) t638 t638 (t638.length : Int) 0 a0_0 l0_1)
theorem impl_Order_ends.mono_l : ∀ k, (∀ y0 y1 y2 y3 y4 y5 y6, LeO (impl_Order_ends.l0 k y0 y1 y2 y3 y4 y5 y6) (impl_Order_ends.l0 (k + 1) y0 y1 y2 y3 y4 y5 y6)) ∧ (∀ y0 y1 y2 y3 y4 y5 y6 y7 y8 y9 y10 y11 y12, LeO (impl_Order_ends.l1 k y0 y1 y2 y3 y4 y5 y6 y7 y8 y9 y10 y11 y12) (impl_Order_ends.l1 (k + 1) y0 y1 y2 y3 y4 y5 y6 y7 y8 y9 y10 y11 y12))
 | 0 => ⟨fun _ _ _ _ _ _ _ r h => by simp [impl_Order_ends.l0] at h, fun _ _ _ _ _ _ _ _ _ _ _ _ _ r h => by simp [impl_Order_ends.l1] at h⟩
 | k + 1 => by
  obtain ⟨ih0, ih1⟩ := impl_Order_ends.mono_l k
  refine ⟨?_, ?_⟩ <;> intros
  unfold impl_Order_ends.l0
  rotate_left
  unfold impl_Order_ends.l1
  rotate_left
  all_goals repeat' (with_reducible first|apply ih0|apply ih1|apply impl_Order_levels.mono|apply LeO.refl|apply LeO.none|apply LeO.ite|apply LeO.bind|intro)
theorem impl_Order_ends.mono : ∀ a0 a1 k, LeO (impl_Order_ends.f k a0 a1) (impl_Order_ends.f (k + 1) a0 a1) := by
 intro a0 a1 k
 obtain ⟨ih0, ih1⟩ := impl_Order_ends.mono_l k
 unfold impl_Order_ends.f
 repeat' (with_reducible first|apply ih0|apply ih1|apply impl_Order_levels.mono|apply LeO.refl|apply LeO.none|apply LeO.ite|apply LeO.bind|intro)
theorem impl_Order_ends.calls (k : Nat) (a0_0 : Int) (A0_1 : Option Addr) (c0_1 : Nat) (l0_1 : List Int) (r : List (S37)) (w : World) (hr0_1 : Kd.C (Kd.int .i64) w A0_1 l0_1.length l0_1) (hc0_1 : l0_1.length ≤ c0_1) (h : impl_Order_ends.f k a0_0 l0_1 = some r) :
  Calls Tryd.prog 32 #[.agg #[.int .i64 a0_0, .slice A0_1 l0_1.length c0_1]] w fun e w' => ∃ v0_ : Value, e = .returned (v0_) ∧ Kd.R k37 37 w' w.heap.size (fun _ => True) v0_ r ∧ Below w.heap.size w w' := by
 have hu32 := Tryd.underlying32
 have hu37 := Tryd.underlying37
 have HR0_1 := mkA hr0_1
 have HC0_1 := mkA hc0_1
 clear hr0_1 hc0_1
 have HB := mkA (Below.refl w.heap.size w)
 have H := h
 clear h
 unfold impl_Order_ends.f at H
 obtain ⟨y635, hy635⟩ : ∃ y_ : List (S37), y_ = (([] : List (S37))) := ⟨_, rfl⟩
 rw [← hy635] at H
 have Ny635 := mkA hy635
 clear hy635
 obtain ⟨t638, A2, H⟩ := obE H
 have H' := mkA H
 clear H
 go_enter Tryd.func32, Tryd.ntmps32
 go_wp2_with (first | ((with_reducible refine gate_dst (N := 1) rfl ?_); refine boxG HB #[.int .i64 a0_0, .slice A0_1 l0_1.length c0_1] 32 ?_; intro gb634 hg w3 BK634 GE634 hb; replace HB := bst HB hb; clear hb hg) | ((with_reducible refine gate_dst (N := 10) rfl ?_); refine Kd.R_lit k37 _ 37 ?hg (N := 10) ?hd (xs := ([] : List (S37))) (inner := []) (ok := fun _ => True) (okp := fun _ => True) ?hr ?hp (fun _ hk => hk) trivial (Below.refl _ _) (Nat.le_refl _) (by simp) ?_; (case hd => rfl); (case hg => rfl); (case hr => first | (go_simp; done) | (go_simp; rfl)); (case hp => exact (Reps.none _ _)); intro v636 w4 ho5 hb hg_ hnew_; clear hg_ hnew_; (first | rw [← Ny635.out] at ho5 | (simp only [Int.reduceToNat] at ho5; rw [← Ny635.out] at ho5)); have HO637 := rLo ho5 HB; replace BK634 := blkB BK634 hb; replace HB := bst HB hb; clear hb ho5; obtain ⟨_, _, _, _⟩ := blk2 BK634) | ((with_reducible refine gate_callee (f := 46) rfl ?_); refine goesQ (some 12) Tryd.func46 #[.agg #[.int .i64 a0_0, .slice A0_1 l0_1.length c0_1]] ?_; (with_reducible refine (impl_Order_levels.calls k a0_0 _ _ l0_1 t638 _ ?_ ?_ A2.out).mono ?_); exact C_g HR0_1 HB; exact HC0_1.out; rintro e w7 ⟨v639, rfl, ho0, hb⟩; refine ⟨_, rfl, ?_⟩; replace HO637 := rB HO637 hb; have HO640 := rLo ho0 HB; replace BK634 := blkB BK634 hb; replace HB := bst HB hb; clear hb ho0; obtain ⟨Ao8, co8, rfl⟩ := Kd.R_slice HO640.out))
 go_loopg [3, 15] k (fun kq v3 v15 w' => ∃ (x3_1 : List (S37)) (x15_1 : Int), v15 = .int .i64 x15_1 ∧ Fc (impl_Order_ends.l0 kq x3_1 t638 t638 (t638.length : Int) x15_1 a0_0 l0_1 = some r) ∧ Fc (kq ≤ k) ∧ Fc (Kd.R k37 37 w' w.heap.size (fun _ => True) v3 x3_1) ∧ Fc (Kd.R (Kd.int .i64) 3 w' w.heap.size (fun _ => True) (.slice Ao8 t638.length co8) t638) ∧ Fc (Kd.R (Kd.int .i64) 3 w' w.heap.size (fun _ => True) (.slice Ao8 t638.length co8) t638) ∧ Fc (w'.heap[gb634]? = some (.cells #[.int .i64 a0_0, (.slice A0_1 l0_1.length c0_1)] 32 (0, 0))) ∧ Fc (Below w.heap.size w w'))
 case atStart => exact ⟨(y635), (0), eqS, H', ⟨Nat.le_refl _⟩, rg HO637, rg HO640, rg HO640, bg BK634, hbg HB⟩
 case round =>
  clear H'
  obtain ⟨x3_1, x15_1, rfl, HA, HK1, HO_3, HO_4, HO_13, BK634, HB⟩ := hrel
  cases gk with
  | zero => exact absurd HA.out (by simp [impl_Order_ends.l0])
  | succ k1 =>
   have H := HA.out
   clear HA
   simp only [impl_Order_ends.l0] at H
   rcases iteE H with ⟨c9b0, H⟩ | ⟨c9b0, H⟩
   ·obtain ⟨c10b0, H⟩ := itND H
    obtain ⟨c11b0, H⟩ := itND H
    have H' := mkA H
    clear H
    obtain ⟨p641, q641, ad641, e641, hx641_0⟩ := atI (Kd.R_reads' HO_13.out).2.2 x15_1
    cases e641
    go_wp2
    go_loopg [7, 23] k1 (fun kq v7 v23 w' => ∃ (x7_2 : Int) (x23_2 : Int), v7 = .int .i64 x7_2 ∧ v23 = .int .i64 x23_2 ∧ Fc (impl_Order_ends.l1 kq x3_1 t638 x15_1 (rd t638 x15_1) x7_2 t638 (t638.length : Int) x15_1 t638 (t638.length : Int) x23_2 a0_0 l0_1 = some r) ∧ Fc (kq ≤ k1) ∧ Fc (Kd.R k37 37 w' w.heap.size (fun _ => True) u3 x3_1) ∧ Fc (Kd.R (Kd.int .i64) 3 w' w.heap.size (fun _ => True) (.slice (some ad641) t638.length co8) t638) ∧ Fc (Kd.R (Kd.int .i64) 3 w' w.heap.size (fun _ => True) (.slice (some ad641) t638.length co8) t638) ∧ Fc (Kd.R (Kd.int .i64) 3 w' w.heap.size (fun _ => True) (.slice (some ad641) t638.length co8) t638) ∧ Fc (w'.heap[gb634]? = some (.cells #[.int .i64 a0_0, (.slice A0_1 l0_1.length c0_1)] 32 (0, 0))) ∧ Fc (Below w.heap.size w w'))
    case atStart => exact ⟨(rd t638 x15_1), (0), eqS, eqS, H', ⟨Nat.le_refl _⟩, rg HO_3, rg HO_4, rg HO_13, rg HO_4, bg BK634, hbg HB⟩
    case round =>
     clear H'
     try clear c9b0
     try clear c10
     try clear c10b0
     try clear c11
     try clear c11b0
     try clear hx641_0
     try clear p641
     try clear q641
     obtain ⟨x7_2, x23_2, rfl, rfl, HA, HK2, HO_3, HO_4, HO_13, HO_21, BK634, HB⟩ := hrel
     cases gk with
     | zero => exact absurd HA.out (by simp [impl_Order_ends.l1])
     | succ k2 =>
      have H := HA.out
      clear HA
      simp only [impl_Order_ends.l1] at H
      rcases iteE H with ⟨c12b0, H⟩ | ⟨c12b0, H⟩
      ·obtain ⟨c13b0, H⟩ := itND H
       obtain ⟨c14b0, H⟩ := itND H
       obtain ⟨t643, A15, H⟩ := obE H
       by_cases c16 : t643 = true
       ·subst c16
        replace H := ifT H
        have H' := mkA H
        clear H
        obtain ⟨p642, q642, ad642, e642, hx642_0⟩ := atI (Kd.R_reads' HO_21.out).2.2 x23_2
        obtain rfl : ad641 = ad642 := (by injection e642)
        obtain ⟨_, _, _, _⟩ := blk2 BK634
        go_wp2_with (first | ((with_reducible refine gate_callee (f := 47) rfl ?_); refine goesQ (some 31) Tryd.func47 #[.agg #[.int .i64 a0_0, .slice A0_1 l0_1.length c0_1], .int .i64 x15_1, .int .i64 x23_2] ?_; (with_reducible refine (impl_Order_better.calls a0_0 _ _ l0_1 x15_1 x23_2 true _ ?_ ?_ A15.out).mono ?_); exact C_g HR0_1 HB; exact HC0_1.out; rintro e w18 ⟨rfl, hb⟩; refine ⟨_, rfl, ?_⟩; replace HO_3 := rB HO_3 hb; replace HO_4 := rB HO_4 hb; replace HO_13 := rB HO_13 hb; replace HO_21 := rB HO_21 hb; replace BK634 := blkB BK634 hb; replace HB := bst HB hb; clear hb))
        go_roundg k2
        case measure => have := HK1.out; have := HK2.out; omega
        case rel => exact ⟨(x7_2), (wrap64 (x23_2 + 1)), eqS, eqS, H', ⟨by have := HK1.out; have := HK2.out; omega⟩, rg HO_3, rg HO_4, rg HO_13, rg HO_21, bg BK634, hbg HB⟩
       ·replace c16 := Bool.eq_false_iff.mpr c16
        subst c16
        replace H := ifF H
        obtain ⟨ji19, hji19⟩ : ∃ j_ : Int, (mx x7_2 (rd t638 x23_2)) = j_ := ⟨_, rfl⟩
        first | rw [hji19] at H | simp only [hji19] at H
        (try rw [hji19] at A15)
        have hji19_ : (if x7_2 < (rd t638 x23_2) then (rd t638 x23_2) else x7_2) = ji19 := hji19
        have H' := mkA H
        clear H
        obtain ⟨p642, q642, ad642, e642, hx642_0⟩ := atI (Kd.R_reads' HO_21.out).2.2 x23_2
        obtain rfl : ad641 = ad642 := (by injection e642)
        obtain ⟨_, _, _, _⟩ := blk2 BK634
        go_wp2_with (first | ((with_reducible refine gate_callee (f := 47) rfl ?_); refine goesQ (some 31) Tryd.func47 #[.agg #[.int .i64 a0_0, .slice A0_1 l0_1.length c0_1], .int .i64 x15_1, .int .i64 x23_2] ?_; (with_reducible refine (impl_Order_better.calls a0_0 _ _ l0_1 x15_1 x23_2 false _ ?_ ?_ A15.out).mono ?_); exact C_g HR0_1 HB; exact HC0_1.out; rintro e w21 ⟨rfl, hb⟩; refine ⟨_, rfl, ?_⟩; replace HO_3 := rB HO_3 hb; replace HO_4 := rB HO_4 hb; replace HO_13 := rB HO_13 hb; replace HO_21 := rB HO_21 hb; replace BK634 := blkB BK634 hb; replace HB := bst HB hb; clear hb))
        go_roundg k2
        case measure => have := HK1.out; have := HK2.out; omega
        case rel => exact ⟨(ji19), (wrap64 (x23_2 + 1)), (by first | rfl | (simp; done) | (simp only [← hji19] <;> (first | rfl | simp)) | (simp [*]; done)), eqS, H', ⟨by have := HK1.out; have := HK2.out; omega⟩, rg HO_3, rg HO_4, rg HO_13, rg HO_21, bg BK634, hbg HB⟩
      ·obtain ⟨c22, H⟩ := itNP H
       have LMc22 := mkA c22
       clear c22
       obtain ⟨y644, hy644⟩ : ∃ y_ : List (S37), y_ = (x3_1 ++ [(⟨(rd t638 x15_1), x7_2⟩ : S37)]) := ⟨_, rfl⟩
       rw [← hy644] at H
       have Ny644 := mkA hy644
       clear hy644
       have H' := mkA H
       clear H
       go_wp2_with (first | ((with_reducible refine gate_builtin (b := .append) (xs := #[.tmp 37, .tmp 41]) rfl ?_); at_builtin; refine Kd.R_append k37 (w0 := w) w.heap.size rfl (.tmp 37) (.tmp 41) 24 37 (.agg #[(.int .i64 0), (.int .i64 0)]) 16 rfl Tryd.underlying24 info37 rfl (by decide) (by omega) u3 x3_1 (⟨(rd t638 x15_1), x7_2⟩ : S37) [.int .i64 (rd t638 x15_1), .int .i64 x7_2] (fun _ => True) (fun _ => False) rfl rfl ?aP (fun _ hk => hk.elim) ?aF ?aO ?aB ?aS ?aL ?_; (case aP => exact k37_mkM _ _ _ (⟨(rd t638 x15_1), x7_2⟩ : S37)); (case aB => exact (bel_g HB.out)); (case aF => exact (fun _ _ => trivial)); (case aO => exact (Kd.R_g HO_3.out)); (case aS => exact (below_size (bel_g HB.out))); (case aL => have := LMc22.out; omega); intro v645 w23 ho hb hg hat; rw [← Ny644.out] at ho; replace HO_4 := mkA (Kd.R_over' (Kd.R_g HO_4.out) (Kd.R_typed (Kd.R_g HO_3.out)) (by decide) hg); replace HO_13 := mkA (Kd.R_over' (Kd.R_g HO_13.out) (Kd.R_typed (Kd.R_g HO_3.out)) (by decide) hg); replace HO_21 := mkA (Kd.R_over' (Kd.R_g HO_21.out) (Kd.R_typed (Kd.R_g HO_3.out)) (by decide) hg); replace BK634 := mkA (blk_grown (g := gb634) (o := .cells #[.int .i64 a0_0, .slice A0_1 l0_1.length c0_1] 32 (0, 0)) (blk_g BK634.out) hg (Kd.R_ne HO_3.out BK634.out (by decide))); have HO646 := mkA (ho); replace HB := mkA (hb); clear HO_3; clear ho hb hg hat))
       go_roundg k2
       case measure => have := HK1.out; have := HK2.out; omega
       case rel => exact ⟨(y644), (wrap64 (x15_1 + 1)), eqS, H', ⟨by have := HK1.out; have := HK2.out; omega⟩, rg HO646, rg HO_4, rg HO_13, bg BK634, hbg HB⟩
   ·obtain rfl := Option.some.inj H
    go_wp2
    go_ret
    exact ⟨_, eqE, Kd.R_g HO_3.out, bel_g HB.out⟩
end Go.Proofs.YtlfjnllnddpgoaaDoor.Q
