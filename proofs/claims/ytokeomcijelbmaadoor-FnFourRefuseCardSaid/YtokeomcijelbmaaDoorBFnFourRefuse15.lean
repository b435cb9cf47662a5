import Derived.Test.YtokeomcijelbmaaDoorBFnFourRefuse14
namespace Go.Proofs.YtokeomcijelbmaaDoor.Q
open Go.RowKit Go.Proofs.YtokeomcijelbmaaDoorW.PrintWords Go.Proofs.YtokeomcijelbmaaDoorW.PrintLast Go.Proofs.YtokeomcijelbmaaDoorW.PrintMore
attribute [local go_sem] max2_int min2_int max_two min_two max_three min_three max_four min_four neB_f
set_option linter.unusedVariables false
set_option maxHeartbeats 8000000
set_option maxRecDepth 100000
set_option linter.unusedSimpArgs false
mutual
def impl_Order_ends.l0 : Nat → List (S57) → List Int → List Int → Int → Int → Int → List Int → Option ((List (S57)))
 | 0, _, _, _, _, _, _, _ => none
 | k + 1, x3, x4, x13, x14, x15, x499000, x499001 => if x15 < x14 then (if 0 ≤ x15 then (if x15 < (x13.length : Int) then (impl_Order_ends.l1 k x3 x4 x15 (rd x13 x15) (rd x13 x15) x13 x14 x15 x4 (x4.length : Int) 0 x499000 x499001) else (none)) else (none)) else (some x3)
def impl_Order_ends.l1 : Nat → List (S57) → List Int → Int → Int → Int → List Int → Int → Int → List Int → Int → Int → Int → List Int → Option ((List (S57)))
 | 0, _, _, _, _, _, _, _, _, _, _, _, _, _ => none
 | k + 1, x3, x4, x5, x6, x7, x13, x14, x15, x21, x22, x23, x499000, x499001 => if x23 < x22 then (if 0 ≤ x23 then (if x23 < (x21.length : Int) then ((impl_Order_better.f x499000 x499001 x5 x23).bind fun t507 => (if t507 = true then (impl_Order_ends.l1 k x3 x4 x5 x6 x7 x13 x14 x15 x21 x22 (wrap64 (x23 + 1)) x499000 x499001) else (impl_Order_ends.l1 k x3 x4 x5 x6 (mx x7 (rd x21 x23)) x13 x14 x15 x21 x22 (wrap64 (x23 + 1)) x499000 x499001))) else (none)) else (none)) else (if x3.length < 8796093022208 then (impl_Order_ends.l0 k (x3 ++ [(⟨x6, x7⟩ : S57)]) x4 x13 x14 (wrap64 (x15 + 1)) x499000 x499001) else (none))
end
def impl_Order_ends.f (k : Nat) (a0_0 : Int) (l0_1 : List Int) : Option ((List (S57))) := (impl_Order_levels.f k a0_0 l0_1).bind fun t502 => (impl_Order_ends.l0 k (([] : List (S57))) t502 t502 (t502.length : Int) 0 a0_0 l0_1)
theorem impl_Order_ends.mono_l : ∀ k, (∀ y0 y1 y2 y3 y4 y5 y6, LeO (impl_Order_ends.l0 k y0 y1 y2 y3 y4 y5 y6) (impl_Order_ends.l0 (k + 1) y0 y1 y2 y3 y4 y5 y6)) ∧ (∀ y0 y1 y2 y3 y4 y5 y6 y7 y8 y9 y10 y11 y12, LeO (impl_Order_ends.l1 k y0 y1 y2 y3 y4 y5 y6 y7 y8 y9 y10 y11 y12) (impl_Order_ends.l1 (k + 1) y0 y1 y2 y3 y4 y5 y6 y7 y8 y9 y10 y11 y12))
 | 0 => ⟨fun _ _ _ _ _ _ _ r h => by simp [impl_Order_ends.l0] at h, fun _ _ _ _ _ _ _ _ _ _ _ _ _ r h => by simp [impl_Order_ends.l1] at h⟩
 | k + 1 => by
  obtain ⟨ih0, ih1⟩ := impl_Order_ends.mono_l k
  refine ⟨?_, ?_⟩ <;> intros
  unfold impl_Order_ends.l0
  rotate_left
  unfold impl_Order_ends.l1
  rotate_left
  all_goals repeat' (with_reducible first|apply ih0|apply ih1|apply impl_Order_levels.mono|apply LeO.refl|apply LeO.none|apply LeO.ite|apply LeO.bind|intro)
theorem impl_Order_ends.mono : ∀ a0 a1 k, LeO (impl_Order_ends.f k a0 a1) (impl_Order_ends.f (k + 1) a0 a1) := by
 intro a0 a1 k
 obtain ⟨ih0, ih1⟩ := impl_Order_ends.mono_l k
 unfold impl_Order_ends.f
 repeat' (with_reducible first|apply ih0|apply ih1|apply impl_Order_levels.mono|apply LeO.refl|apply LeO.none|apply LeO.ite|apply LeO.bind|intro)
theorem impl_Order_ends.calls (k : Nat) (a0_0 : Int) (A0_1 : Option Addr) (c0_1 : Nat) (l0_1 : List Int) (r : List (S57)) (w : World) (hr0_1 : Kd.C (Kd.int .i64) w A0_1 l0_1.length l0_1) (hc0_1 : l0_1.length ≤ c0_1) (h : impl_Order_ends.f k a0_0 l0_1 = some r) :
  Calls Tryd.prog 23 #[.agg #[.int .i64 a0_0, .slice A0_1 l0_1.length c0_1]] w fun e w' => ∃ v0_ : Value, e = .returned (v0_) ∧ Kd.R k57 57 w' w.heap.size (fun _ => True) v0_ r ∧ Below w.heap.size w w' := by
 have hu26 := Tryd.underlying26
 have hu57 := Tryd.underlying57
 have HR0_1 := mkA hr0_1
 have HC0_1 := mkA hc0_1
 clear hr0_1 hc0_1
 have HB := mkA (Below.refl w.heap.size w)
 have H := h
 clear h
 unfold impl_Order_ends.f at H
 obtain ⟨y499, hy499⟩ : ∃ y_ : List (S57), y_ = (([] : List (S57))) := ⟨_, rfl⟩
 rw [← hy499] at H
 have Ny499 := mkA hy499
 clear hy499
 obtain ⟨t502, A2, H⟩ := obE H
 have H' := mkA H
 clear H
 go_enter Tryd.func23, Tryd.ntmps23
 go_wp2_with (first | ((with_reducible refine gate_dst (N := 1) rfl ?_); refine boxG HB #[.int .i64 a0_0, .slice A0_1 l0_1.length c0_1] 26 ?_; intro gb498 hg w3 BK498 GE498 hb; replace HB := bst HB hb; clear hb hg) | ((with_reducible refine gate_dst (N := 10) rfl ?_); refine Kd.R_lit k57 _ 57 ?hg (N := 10) ?hd (xs := ([] : List (S57))) (inner := []) (ok := fun _ => True) (okp := fun _ => True) ?hr ?hp (fun _ hk => hk) trivial (Below.refl _ _) (Nat.le_refl _) (by simp) ?_; (case hd => rfl); (case hg => rfl); (case hr => first | (go_simp; done) | (go_simp; rfl)); (case hp => exact (Reps.none _ _)); intro v500 w4 ho5 hb hg_ hnew_; clear hg_ hnew_; (first | rw [← Ny499.out] at ho5 | (simp only [Int.reduceToNat] at ho5; rw [← Ny499.out] at ho5)); have HO501 := rLo ho5 HB; replace BK498 := blkB BK498 hb; replace HB := bst HB hb; clear hb ho5; obtain ⟨_, _, _, _⟩ := blk2 BK498) | ((with_reducible refine gate_callee (f := 22) rfl ?_); refine goesQ (some 12) Tryd.func22 #[.agg #[.int .i64 a0_0, .slice A0_1 l0_1.length c0_1]] ?_; (with_reducible refine (impl_Order_levels.calls k a0_0 _ _ l0_1 t502 _ ?_ ?_ A2.out).mono ?_); exact C_g HR0_1 HB; exact HC0_1.out; rintro e w7 ⟨v503, rfl, ho0, hb⟩; refine ⟨_, rfl, ?_⟩; replace HO501 := rB HO501 hb; have HO504 := rLo ho0 HB; replace BK498 := blkB BK498 hb; replace HB := bst HB hb; clear hb ho0; obtain ⟨Ao8, co8, rfl⟩ := Kd.R_slice HO504.out))
 go_loopg [3, 15] k (fun kq v3 v15 w' => ∃ (x3_1 : List (S57)) (x15_1 : Int), v15 = .int .i64 x15_1 ∧ Fc (impl_Order_ends.l0 kq x3_1 t502 t502 (t502.length : Int) x15_1 a0_0 l0_1 = some r) ∧ Fc (kq ≤ k) ∧ Fc (Kd.R k57 57 w' w.heap.size (fun _ => True) v3 x3_1) ∧ Fc (Kd.R (Kd.int .i64) 3 w' w.heap.size (fun _ => True) (.slice Ao8 t502.length co8) t502) ∧ Fc (Kd.R (Kd.int .i64) 3 w' w.heap.size (fun _ => True) (.slice Ao8 t502.length co8) t502) ∧ Fc (w'.heap[gb498]? = some (.cells #[.int .i64 a0_0, (.slice A0_1 l0_1.length c0_1)] 26 (0, 0))) ∧ Fc (Below w.heap.size w w'))
 case atStart => exact ⟨(y499), (0), eqS, H', ⟨Nat.le_refl _⟩, rg HO501, rg HO504, rg HO504, bg BK498, hbg HB⟩
 case round =>
  clear H'
  obtain ⟨x3_1, x15_1, rfl, HA, HK1, HO_3, HO_4, HO_13, BK498, HB⟩ := hrel
  cases gk with
  | zero => exact absurd HA.out (by simp [impl_Order_ends.l0])
  | succ k1 =>
   have H := HA.out
   clear HA
   simp only [impl_Order_ends.l0] at H
   rcases iteE H with ⟨c9b0, H⟩ | ⟨c9b0, H⟩
   ·obtain ⟨c10b0, H⟩ := itND H
    obtain ⟨c11b0, H⟩ := itND H
    have H' := mkA H
    clear H
    obtain ⟨p505, q505, ad505, e505, hx505_0⟩ := atI (Kd.R_reads' HO_13.out).2.2 x15_1
    cases e505
    go_wp2
    go_loopg [7, 23] k1 (fun kq v7 v23 w' => ∃ (x7_2 : Int) (x23_2 : Int), v7 = .int .i64 x7_2 ∧ v23 = .int .i64 x23_2 ∧ Fc (impl_Order_ends.l1 kq x3_1 t502 x15_1 (rd t502 x15_1) x7_2 t502 (t502.length : Int) x15_1 t502 (t502.length : Int) x23_2 a0_0 l0_1 = some r) ∧ Fc (kq ≤ k1) ∧ Fc (Kd.R k57 57 w' w.heap.size (fun _ => True) u3 x3_1) ∧ Fc (Kd.R (Kd.int .i64) 3 w' w.heap.size (fun _ => True) (.slice (some ad505) t502.length co8) t502) ∧ Fc (Kd.R (Kd.int .i64) 3 w' w.heap.size (fun _ => True) (.slice (some ad505) t502.length co8) t502) ∧ Fc (Kd.R (Kd.int .i64) 3 w' w.heap.size (fun _ => True) (.slice (some ad505) t502.length co8) t502) ∧ Fc (w'.heap[gb498]? = some (.cells #[.int .i64 a0_0, (.slice A0_1 l0_1.length c0_1)] 26 (0, 0))) ∧ Fc (Below w.heap.size w w'))
    case atStart => exact ⟨(rd t502 x15_1), (0), eqS, eqS, H', ⟨Nat.le_refl _⟩, rg HO_3, rg HO_4, rg HO_13, rg HO_4, bg BK498, hbg HB⟩
    case round =>
     clear H'
     try clear c9b0
     try clear c10
     try clear c10b0
     try clear c11
     try clear c11b0
     try clear hx505_0
     try clear p505
     try clear q505
     obtain ⟨x7_2, x23_2, rfl, rfl, HA, HK2, HO_3, HO_4, HO_13, HO_21, BK498, HB⟩ := hrel
     cases gk with
     | zero => exact absurd HA.out (by simp [impl_Order_ends.l1])
     | succ k2 =>
      have H := HA.out
      clear HA
      simp only [impl_Order_ends.l1] at H
      rcases iteE H with ⟨c12b0, H⟩ | ⟨c12b0, H⟩
      ·obtain ⟨c13b0, H⟩ := itND H
       obtain ⟨c14b0, H⟩ := itND H
       obtain ⟨t507, A15, H⟩ := obE H
       by_cases c16 : t507 = true
       ·subst c16
        replace H := ifT H
        have H' := mkA H
        clear H
        obtain ⟨p506, q506, ad506, e506, hx506_0⟩ := atI (Kd.R_reads' HO_21.out).2.2 x23_2
        obtain rfl : ad505 = ad506 := (by injection e506)
        obtain ⟨_, _, _, _⟩ := blk2 BK498
        go_wp2_with (first | ((with_reducible refine gate_callee (f := 27) rfl ?_); refine goesQ (some 31) Tryd.func27 #[.agg #[.int .i64 a0_0, .slice A0_1 l0_1.length c0_1], .int .i64 x15_1, .int .i64 x23_2] ?_; (with_reducible refine (impl_Order_better.calls a0_0 _ _ l0_1 x15_1 x23_2 true _ ?_ ?_ A15.out).mono ?_); exact C_g HR0_1 HB; exact HC0_1.out; rintro e w18 ⟨rfl, hb⟩; refine ⟨_, rfl, ?_⟩; replace HO_3 := rB HO_3 hb; replace HO_4 := rB HO_4 hb; replace HO_13 := rB HO_13 hb; replace HO_21 := rB HO_21 hb; replace BK498 := blkB BK498 hb; replace HB := bst HB hb; clear hb))
        go_roundg k2
        case measure => have := HK1.out; have := HK2.out; omega
        case rel => exact ⟨(x7_2), (wrap64 (x23_2 + 1)), eqS, eqS, H', ⟨by have := HK1.out; have := HK2.out; omega⟩, rg HO_3, rg HO_4, rg HO_13, rg HO_21, bg BK498, hbg HB⟩
       ·replace c16 := Bool.eq_false_iff.mpr c16
        subst c16
        replace H := ifF H
        obtain ⟨ji19, hji19⟩ : ∃ j_ : Int, (mx x7_2 (rd t502 x23_2)) = j_ := ⟨_, rfl⟩
        first | rw [hji19] at H | simp only [hji19] at H
        (try rw [hji19] at A15)
        have hji19_ : (if x7_2 < (rd t502 x23_2) then (rd t502 x23_2) else x7_2) = ji19 := hji19
        have H' := mkA H
        clear H
        obtain ⟨p506, q506, ad506, e506, hx506_0⟩ := atI (Kd.R_reads' HO_21.out).2.2 x23_2
        obtain rfl : ad505 = ad506 := (by injection e506)
        obtain ⟨_, _, _, _⟩ := blk2 BK498
        go_wp2_with (first | ((with_reducible refine gate_callee (f := 27) rfl ?_); refine goesQ (some 31) Tryd.func27 #[.agg #[.int .i64 a0_0, .slice A0_1 l0_1.length c0_1], .int .i64 x15_1, .int .i64 x23_2] ?_; (with_reducible refine (impl_Order_better.calls a0_0 _ _ l0_1 x15_1 x23_2 false _ ?_ ?_ A15.out).mono ?_); exact C_g HR0_1 HB; exact HC0_1.out; rintro e w21 ⟨rfl, hb⟩; refine ⟨_, rfl, ?_⟩; replace HO_3 := rB HO_3 hb; replace HO_4 := rB HO_4 hb; replace HO_13 := rB HO_13 hb; replace HO_21 := rB HO_21 hb; replace BK498 := blkB BK498 hb; replace HB := bst HB hb; clear hb))
        go_roundg k2
        case measure => have := HK1.out; have := HK2.out; omega
        case rel => exact ⟨(ji19), (wrap64 (x23_2 + 1)), (by first | rfl | (simp; done) | (simp only [← hji19] <;> (first | rfl | simp)) | (simp [*]; done)), eqS, H', ⟨by have := HK1.out; have := HK2.out; omega⟩, rg HO_3, rg HO_4, rg HO_13, rg HO_21, bg BK498, hbg HB⟩
      ·obtain ⟨c22, H⟩ := itNP H
       have LMc22 := mkA c22
       clear c22
       obtain ⟨y508, hy508⟩ : ∃ y_ : List (S57), y_ = (x3_1 ++ [(⟨(rd t502 x15_1), x7_2⟩ : S57)]) := ⟨_, rfl⟩
       rw [← hy508] at H
       have Ny508 := mkA hy508
       clear hy508
       have H' := mkA H
       clear H
       go_wp2_with (first | ((with_reducible refine gate_builtin (b := .append) (xs := #[.tmp 37, .tmp 41]) rfl ?_); at_builtin; refine Kd.R_append k57 (w0 := w) w.heap.size rfl (.tmp 37) (.tmp 41) 33 57 (.agg #[(.int .i64 0), (.int .i64 0)]) 16 rfl Tryd.underlying33 info57 rfl (by decide) (by omega) u3 x3_1 (⟨(rd t502 x15_1), x7_2⟩ : S57) [.int .i64 (rd t502 x15_1), .int .i64 x7_2] (fun _ => True) (fun _ => False) rfl rfl ?aP (fun _ hk => hk.elim) ?aF ?aO ?aB ?aS ?aL ?_; (case aP => exact k57_mkM _ _ _ (⟨(rd t502 x15_1), x7_2⟩ : S57)); (case aB => exact (bel_g HB.out)); (case aF => exact (fun _ _ => trivial)); (case aO => exact (Kd.R_g HO_3.out)); (case aS => exact (below_size (bel_g HB.out))); (case aL => have := LMc22.out; omega); intro v509 w23 ho hb hg hat; rw [← Ny508.out] at ho; replace HO_4 := mkA (Kd.R_over' (Kd.R_g HO_4.out) (Kd.R_typed (Kd.R_g HO_3.out)) (by decide) hg); replace HO_13 := mkA (Kd.R_over' (Kd.R_g HO_13.out) (Kd.R_typed (Kd.R_g HO_3.out)) (by decide) hg); replace HO_21 := mkA (Kd.R_over' (Kd.R_g HO_21.out) (Kd.R_typed (Kd.R_g HO_3.out)) (by decide) hg); replace BK498 := mkA (blk_grown (g := gb498) (o := .cells #[.int .i64 a0_0, .slice A0_1 l0_1.length c0_1] 26 (0, 0)) (blk_g BK498.out) hg (Kd.R_ne HO_3.out BK498.out (by decide))); have HO510 := mkA (ho); replace HB := mkA (hb); clear HO_3; clear ho hb hg hat))
       go_roundg k2
       case measure => have := HK1.out; have := HK2.out; omega
       case rel => exact ⟨(y508), (wrap64 (x15_1 + 1)), eqS, H', ⟨by have := HK1.out; have := HK2.out; omega⟩, rg HO510, rg HO_4, rg HO_13, bg BK498, hbg HB⟩
   ·obtain rfl := Option.some.inj H
    go_wp2
    go_ret
    exact ⟨_, eqE, Kd.R_g HO_3.out, bel_g HB.out⟩
def impl_EndsOf.f (k : Nat) (a0_0 : Int) (l0_1 : List Int) : Option ((List (S57)) × Bool) := (impl_isInterval.f k a0_0 l0_1).bind fun t512 => (if t512 = true then ((impl_Order_ends.f k a0_0 l0_1).bind fun t513 => (some (t513, true))) else (some (([] : List (S57)), false)))
theorem impl_EndsOf.mono : ∀ a0 a1 k, LeO (impl_EndsOf.f k a0 a1) (impl_EndsOf.f (k + 1) a0 a1) := by
 intro a0 a1 k
 unfold impl_EndsOf.f
 repeat' (with_reducible first|apply impl_Order_ends.mono|apply impl_isInterval.mono|apply LeO.refl|apply LeO.none|apply LeO.ite|apply LeO.bind|intro)
theorem impl_EndsOf.calls (k : Nat) (a0_0 : Int) (A0_1 : Option Addr) (c0_1 : Nat) (l0_1 : List Int) (r1 : List (S57)) (r2 : Bool) (w : World) (hr0_1 : Kd.C (Kd.int .i64) w A0_1 l0_1.length l0_1) (hc0_1 : l0_1.length ≤ c0_1) (hTAB : Tab w) (h : impl_EndsOf.f k a0_0 l0_1 = some (r1, r2)) :
  Calls Tryd.prog 11 #[.agg #[.int .i64 a0_0, .slice A0_1 l0_1.length c0_1]] w fun e w' => ∃ v0_ : Value, e = .returned (.tuple #[v0_, .bool r2]) ∧ Kd.R k57 57 w' w.heap.size (fun _ => True) v0_ r1 ∧ Below w.heap.size w w' := by
 have HTAB := mkA hTAB
 clear hTAB
 have hu26 := Tryd.underlying26
 have HR0_1 := mkA hr0_1
 have HC0_1 := mkA hc0_1
 clear hr0_1 hc0_1
 have HB := mkA (Below.refl w.heap.size w)
 have H := h
 clear h
 unfold impl_EndsOf.f at H
 obtain ⟨t512, A2, H⟩ := obE H
 by_cases c3 : t512 = true
 ·subst c3
  replace H := ifT H
  obtain ⟨t513, A4, H⟩ := obE H
  simp only [Option.some.injEq, Prod.mk.injEq] at H
  obtain ⟨rfl, rfl⟩ := H
  go_enter Tryd.func11, Tryd.ntmps11
  go_wp2_with (first | ((with_reducible refine gate_dst (N := 1) rfl ?_); refine boxG HB #[.int .i64 a0_0, .slice A0_1 l0_1.length c0_1] 26 ?_; intro gb511 hg w5 BK511 GE511 hb; replace HB := bst HB hb; clear hb hg; obtain ⟨_, _, _, _⟩ := blk2 BK511) | ((with_reducible refine gate_callee (f := 21) rfl ?_); refine goesQ (some 5) Tryd.func21 #[.agg #[.int .i64 a0_0, .slice A0_1 l0_1.length c0_1]] ?_; (with_reducible refine (impl_isInterval.calls k a0_0 _ _ l0_1 true _ ?_ ?_ ?_ A2.out).mono ?_); exact C_g HR0_1 HB; exact HC0_1.out; exact Tab.below HTAB.out (bel_g HB.out); rintro e w7 ⟨rfl, hb⟩; refine ⟨_, rfl, ?_⟩; replace BK511 := blkB BK511 hb; replace HB := bst HB hb; clear hb; obtain ⟨_, _, _, _⟩ := blk2 BK511) | ((with_reducible refine gate_callee (f := 23) rfl ?_); refine goesQ (some 8) Tryd.func23 #[.agg #[.int .i64 a0_0, .slice A0_1 l0_1.length c0_1]] ?_; (with_reducible refine (impl_Order_ends.calls k a0_0 _ _ l0_1 t513 _ ?_ ?_ A4.out).mono ?_); exact C_g HR0_1 HB; exact HC0_1.out; rintro e w9 ⟨v514, rfl, ho0, hb⟩; refine ⟨_, rfl, ?_⟩; have HO515 := rLo ho0 HB; replace BK511 := blkB BK511 hb; replace HB := bst HB hb; clear hb ho0))
  go_ret2
  exact ⟨_, eqE, Kd.R_g HO515.out, bel_g HB.out⟩
 ·replace c3 := Bool.eq_false_iff.mpr c3
  subst c3
  replace H := ifF H
  simp only [Option.some.injEq, Prod.mk.injEq] at H
  obtain ⟨rfl, rfl⟩ := H
  go_enter Tryd.func11, Tryd.ntmps11
  go_wp2_with (first | ((with_reducible refine gate_dst (N := 1) rfl ?_); refine boxG HB #[.int .i64 a0_0, .slice A0_1 l0_1.length c0_1] 26 ?_; intro gb511 hg w10 BK511 GE511 hb; replace HB := bst HB hb; clear hb hg; obtain ⟨_, _, _, _⟩ := blk2 BK511) | ((with_reducible refine gate_callee (f := 21) rfl ?_); refine goesQ (some 5) Tryd.func21 #[.agg #[.int .i64 a0_0, .slice A0_1 l0_1.length c0_1]] ?_; (with_reducible refine (impl_isInterval.calls k a0_0 _ _ l0_1 false _ ?_ ?_ ?_ A2.out).mono ?_); exact C_g HR0_1 HB; exact HC0_1.out; exact Tab.below HTAB.out (bel_g HB.out); rintro e w12 ⟨rfl, hb⟩; refine ⟨_, rfl, ?_⟩; replace BK511 := blkB BK511 hb; replace HB := bst HB hb; clear hb))
  go_ret2
  exact ⟨_, eqE, nilE, bel_g HB.out⟩
def impl_Order_magnitude.f (k : Nat) (a0_0 : Int) (l0_1 : List Int) : Option (Int) := (impl_Order_levels.f k a0_0 l0_1).bind fun t517 => ((impl_different.f t517).bind fun t520 => (some (t520.length : Int)))
theorem impl_Order_magnitude.mono : ∀ a0 a1 k, LeO (impl_Order_magnitude.f k a0 a1) (impl_Order_magnitude.f (k + 1) a0 a1) := by
 intro a0 a1 k
 unfold impl_Order_magnitude.f
 repeat' (with_reducible first|apply impl_Order_levels.mono|apply LeO.refl|apply LeO.none|apply LeO.ite|apply LeO.bind|intro)
theorem impl_Order_magnitude.calls (k : Nat) (a0_0 : Int) (A0_1 : Option Addr) (c0_1 : Nat) (l0_1 : List Int) (r : Int) (w : World) (hr0_1 : Kd.C (Kd.int .i64) w A0_1 l0_1.length l0_1) (hc0_1 : l0_1.length ≤ c0_1) (h : impl_Order_magnitude.f k a0_0 l0_1 = some r) :
  Calls Tryd.prog 24 #[.agg #[.int .i64 a0_0, .slice A0_1 l0_1.length c0_1]] w fun e w' => e = .returned (.int .i64 r) ∧ Below w.heap.size w w' := by
 have hu26 := Tryd.underlying26
 have HR0_1 := mkA hr0_1
 have HC0_1 := mkA hc0_1
 clear hr0_1 hc0_1
 have HB := mkA (Below.refl w.heap.size w)
 have H := h
 clear h
 unfold impl_Order_magnitude.f at H
 obtain ⟨t517, A2, H⟩ := obE H
 obtain ⟨t520, A3, H⟩ := obE H
 obtain rfl := Option.some.inj H
 go_enter Tryd.func24, Tryd.ntmps24
 go_wp2_with (first | ((with_reducible refine gate_dst (N := 1) rfl ?_); refine boxG HB #[.int .i64 a0_0, .slice A0_1 l0_1.length c0_1] 26 ?_; intro gb516 hg w4 BK516 GE516 hb; replace HB := bst HB hb; clear hb hg; obtain ⟨_, _, _, _⟩ := blk2 BK516) | ((with_reducible refine gate_callee (f := 22) rfl ?_); refine goesQ (some 4) Tryd.func22 #[.agg #[.int .i64 a0_0, .slice A0_1 l0_1.length c0_1]] ?_; (with_reducible refine (impl_Order_levels.calls k a0_0 _ _ l0_1 t517 _ ?_ ?_ A2.out).mono ?_); exact C_g HR0_1 HB; exact HC0_1.out; rintro e w6 ⟨v518, rfl, ho0, hb⟩; refine ⟨_, rfl, ?_⟩; have HO519 := rLo ho0 HB; replace BK516 := blkB BK516 hb; replace HB := bst HB hb; clear hb ho0; obtain ⟨Ao7, co7, rfl⟩ := Kd.R_slice HO519.out) | ((with_reducible refine gate_callee (f := 39) rfl ?_); refine goesQ (some 5) Tryd.func39 #[.slice Ao7 t517.length co7] ?_; (with_reducible refine (impl_different.calls _ _ t517 t520 _ ?_ ?_ A3.out).mono ?_); exact rC HO519; exact rL HO519; rintro e w8 ⟨v521, rfl, ho0, hb⟩; refine ⟨_, rfl, ?_⟩; have HO522 := rLo (rN ho0 HO519) HB; replace HO519 := rE HO519 ho0 hb; replace BK516 := blkB BK516 hb; replace HB := bst HB hb; clear hb ho0; obtain ⟨Ao9, co9, rfl⟩ := Kd.R_slice HO522.out))
 go_ret
 exact ⟨eqE, bel_g HB.out⟩
def impl_MagnitudeOf.f (k : Nat) (a0_0 : Int) (l0_1 : List Int) : Option (Int × Bool) := (impl_isInterval.f k a0_0 l0_1).bind fun t524 => (if t524 = true then ((impl_Order_magnitude.f k a0_0 l0_1).bind fun t525 => (some (t525, true))) else (some (0, false)))
theorem impl_MagnitudeOf.mono : ∀ a0 a1 k, LeO (impl_MagnitudeOf.f k a0 a1) (impl_MagnitudeOf.f (k + 1) a0 a1) := by
 intro a0 a1 k
 unfold impl_MagnitudeOf.f
 repeat' (with_reducible first|apply impl_Order_magnitude.mono|apply impl_isInterval.mono|apply LeO.refl|apply LeO.none|apply LeO.ite|apply LeO.bind|intro)
theorem impl_MagnitudeOf.calls (k : Nat) (a0_0 : Int) (A0_1 : Option Addr) (c0_1 : Nat) (l0_1 : List Int) (r1 : Int) (r2 : Bool) (w : World) (hr0_1 : Kd.C (Kd.int .i64) w A0_1 l0_1.length l0_1) (hc0_1 : l0_1.length ≤ c0_1) (hTAB : Tab w) (h : impl_MagnitudeOf.f k a0_0 l0_1 = some (r1, r2)) :
  Calls Tryd.prog 12 #[.agg #[.int .i64 a0_0, .slice A0_1 l0_1.length c0_1]] w fun e w' => e = .returned (.tuple #[.int .i64 r1, .bool r2]) ∧ Below w.heap.size w w' := by
 have HTAB := mkA hTAB
 clear hTAB
 have hu26 := Tryd.underlying26
 have HR0_1 := mkA hr0_1
 have HC0_1 := mkA hc0_1
 clear hr0_1 hc0_1
 have HB := mkA (Below.refl w.heap.size w)
 have H := h
 clear h
 unfold impl_MagnitudeOf.f at H
 obtain ⟨t524, A2, H⟩ := obE H
 by_cases c3 : t524 = true
 ·subst c3
  replace H := ifT H
  obtain ⟨t525, A4, H⟩ := obE H
  simp only [Option.some.injEq, Prod.mk.injEq] at H
  obtain ⟨rfl, rfl⟩ := H
  go_enter Tryd.func12, Tryd.ntmps12
  go_wp2_with (first | ((with_reducible refine gate_dst (N := 1) rfl ?_); refine boxG HB #[.int .i64 a0_0, .slice A0_1 l0_1.length c0_1] 26 ?_; intro gb523 hg w5 BK523 GE523 hb; replace HB := bst HB hb; clear hb hg; obtain ⟨_, _, _, _⟩ := blk2 BK523) | ((with_reducible refine gate_callee (f := 21) rfl ?_); refine goesQ (some 5) Tryd.func21 #[.agg #[.int .i64 a0_0, .slice A0_1 l0_1.length c0_1]] ?_; (with_reducible refine (impl_isInterval.calls k a0_0 _ _ l0_1 true _ ?_ ?_ ?_ A2.out).mono ?_); exact C_g HR0_1 HB; exact HC0_1.out; exact Tab.below HTAB.out (bel_g HB.out); rintro e w7 ⟨rfl, hb⟩; refine ⟨_, rfl, ?_⟩; replace BK523 := blkB BK523 hb; replace HB := bst HB hb; clear hb; obtain ⟨_, _, _, _⟩ := blk2 BK523) | ((with_reducible refine gate_callee (f := 24) rfl ?_); refine goesQ (some 8) Tryd.func24 #[.agg #[.int .i64 a0_0, .slice A0_1 l0_1.length c0_1]] ?_; (with_reducible refine (impl_Order_magnitude.calls k a0_0 _ _ l0_1 t525 _ ?_ ?_ A4.out).mono ?_); exact C_g HR0_1 HB; exact HC0_1.out; rintro e w9 ⟨rfl, hb⟩; refine ⟨_, rfl, ?_⟩; replace BK523 := blkB BK523 hb; replace HB := bst HB hb; clear hb))
  go_ret2
  exact ⟨eqE, bel_g HB.out⟩
 ·replace c3 := Bool.eq_false_iff.mpr c3
  subst c3
  replace H := ifF H
  simp only [Option.some.injEq, Prod.mk.injEq] at H
  obtain ⟨rfl, rfl⟩ := H
  go_enter Tryd.func12, Tryd.ntmps12
  go_wp2_with (first | ((with_reducible refine gate_dst (N := 1) rfl ?_); refine boxG HB #[.int .i64 a0_0, .slice A0_1 l0_1.length c0_1] 26 ?_; intro gb523 hg w10 BK523 GE523 hb; replace HB := bst HB hb; clear hb hg; obtain ⟨_, _, _, _⟩ := blk2 BK523) | ((with_reducible refine gate_callee (f := 21) rfl ?_); refine goesQ (some 5) Tryd.func21 #[.agg #[.int .i64 a0_0, .slice A0_1 l0_1.length c0_1]] ?_; (with_reducible refine (impl_isInterval.calls k a0_0 _ _ l0_1 false _ ?_ ?_ ?_ A2.out).mono ?_); exact C_g HR0_1 HB; exact HC0_1.out; exact Tab.below HTAB.out (bel_g HB.out); rintro e w12 ⟨rfl, hb⟩; refine ⟨_, rfl, ?_⟩; replace BK523 := blkB BK523 hb; replace HB := bst HB hb; clear hb))
  go_ret2
  exact ⟨eqE, bel_g HB.out⟩
end Go.Proofs.YtokeomcijelbmaaDoor.Q
