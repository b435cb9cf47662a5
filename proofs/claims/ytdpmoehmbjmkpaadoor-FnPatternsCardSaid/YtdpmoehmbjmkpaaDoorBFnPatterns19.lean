import Derived.Test.YtdpmoehmbjmkpaaDoorBFnPatterns9
import Derived.Test.YtdpmoehmbjmkpaaDoorBFnPatterns16
namespace Go.Proofs.YtdpmoehmbjmkpaaDoor.Q
open Go.RowKit Go.Proofs.YtdpmoehmbjmkpaaDoorW.PrintWords Go.Proofs.YtdpmoehmbjmkpaaDoorW.PrintLast Go.Proofs.YtdpmoehmbjmkpaaDoorW.PrintMore
attribute [local go_sem] max2_int min2_int max_two min_two max_three min_three max_four min_four neB_f
set_option linter.unusedVariables false
set_option maxHeartbeats 8000000
set_option maxRecDepth 100000
set_option linter.unusedSimpArgs false
def spec_orPlace.l0 : Nat → Int → List Int → Int → Int → Option (Int)
 | 0, _, _, _, _ => none
 | k + 1, x1, x7, x8, x9 => if x9 < x8 then (if 0 ≤ x9 then (if x9 < (x7.length : Int) then (if (rd x7 x9) = x1 then (some x9) else (spec_orPlace.l0 k x1 x7 x8 (wrap64 (x9 + 1)))) else (none)) else (none)) else (some (-1))
def spec_orPlace.f (k : Nat) (l0 : List Int) (a1 : Int) : Option (Int) := spec_orPlace.l0 k a1 l0 (l0.length : Int) 0
theorem spec_orPlace.mono_l : ∀ k, (∀ y0 y1 y2 y3, LeO (spec_orPlace.l0 k y0 y1 y2 y3) (spec_orPlace.l0 (k + 1) y0 y1 y2 y3))
 | 0 => fun _ _ _ _ r h => by simp [spec_orPlace.l0] at h
 | k + 1 => by
  have ih0 := spec_orPlace.mono_l k
  ·intro y0 y1 y2 y3
   unfold spec_orPlace.l0
   repeat' (with_reducible first|apply ih0|apply LeO.refl|apply LeO.none|apply LeO.ite|apply LeO.bind|intro)
theorem spec_orPlace.mono : ∀ a0 a1 k, LeO (spec_orPlace.f k a0 a1) (spec_orPlace.f (k + 1) a0 a1) := by
 intro a0 a1 k
 have ih0 := spec_orPlace.mono_l k
 unfold spec_orPlace.f
 repeat' (with_reducible first|apply ih0|apply LeO.refl|apply LeO.none|apply LeO.ite|apply LeO.bind|intro)
theorem spec_orPlace.calls (k : Nat) (A0 : Option Addr) (c0 : Nat) (l0 : List Int) (a1 : Int) (r : Int) (w : World) (hr0 : Kd.C (Kd.int .i64) w A0 l0.length l0) (hc0 : l0.length ≤ c0) (h : spec_orPlace.f k l0 a1 = some r) :
  Calls Tryd.prog 29 #[.slice A0 l0.length c0, .int .i64 a1] w fun e w' => e = .returned (.int .i64 r) ∧ Drawn0 w w' := by
 have HR0 := mkA hr0
 have HC0 := mkA hc0
 clear hr0 hc0
 have H := h
 clear h
 unfold spec_orPlace.f at H
 have H' := mkA H
 clear H
 go_enter Tryd.func29, Tryd.ntmps29
 go_wp2
 go_loopg [9] k (fun kq v9 w' => ∃ (x9_1 : Int), v9 = .int .i64 x9_1 ∧ Fc (spec_orPlace.l0 kq a1 l0 (l0.length : Int) x9_1 = some r) ∧ Fc (kq ≤ k) ∧ Drawn0 w w')
 case atStart => exact ⟨(0), eqS, H', ⟨Nat.le_refl _⟩, by repeat (first | exact Drawn0.refl _ | apply Drawn0.step)⟩
 case round =>
  clear H'
  obtain ⟨x9_1, rfl, HA, HK1, ⟨m1, rfl⟩⟩ := hrel
  cases gk with
  | zero => exact absurd HA.out (by simp [spec_orPlace.l0])
  | succ k1 =>
   have H := HA.out
   clear HA
   simp only [spec_orPlace.l0] at H
   rcases iteE H with ⟨c3b0, H⟩ | ⟨c3b0, H⟩
   ·obtain ⟨c4b0, H⟩ := itND H
    obtain ⟨c5b0, H⟩ := itND H
    rcases iteP H with ⟨c6, H⟩ | ⟨c6, H⟩
    ·have c6b0 := beq_iff_eq.mpr c6
     have c6b1 := bne_eq_false_iff_eq.mpr c6
     clear c6
     obtain rfl := Option.some.inj H
     obtain ⟨p445, q445, ad445, e445, hx445_0⟩ := atI HR0.out x9_1
     cases e445
     go_wp2
     go_ret
     exact ⟨eqS, drE⟩
    ·have c6b0 := beq_eq_false_iff_ne.mpr c6
     have c6b1 := bne_iff_ne.mpr c6
     have H' := mkA H
     clear H
     obtain ⟨p445, q445, ad445, e445, hx445_0⟩ := atI HR0.out x9_1
     cases e445
     go_wp2
     go_roundg k1
     case measure => have := HK1.out; omega
     case rel => exact ⟨(wrap64 (x9_1 + 1)), eqS, H', ⟨by have := HK1.out; omega⟩, by repeat (first | exact Drawn0.refl _ | apply Drawn0.step)⟩
   ·obtain rfl := Option.some.inj H
    go_wp2
    go_ret
    exact ⟨eqS, drE⟩
mutual
def spec_RenameOf.j0 : Nat → List Int → Bool → Int → List Int → Option (Int × List Int × Bool)
 | 0, _, _, _, _ => none
 | k + 1, x1, x17, x447000, x447001 => if x17 = true then (some (0, ([] : List Int), false)) else (spec_RenameOf.l0 k x1 ([] : List Int) (x1.length : Int) 0 x447000 x447001)
def spec_RenameOf.l0 : Nat → List Int → List Int → Int → Int → Int → List Int → Option (Int × List Int × Bool)
 | 0, _, _, _, _, _, _ => none
 | k + 1, x1, x6, x20, x21, x447000, x447001 => if x21 < x20 then ((spec_orPlace.f k x1 x21).bind fun t450 => (if x6.length < 17592186044416 then (spec_RenameOf.l0 k x1 (x6 ++ [t450]) x20 (wrap64 (x21 + 1)) x447000 x447001) else (none))) else ((spec_orPart.f k x447000 x447001 x6).bind fun bt454 => (some (bt454.1, bt454.2, true)))
end
def spec_RenameOf.f (k : Nat) (a0_0 : Int) (l0_1 : List Int) (l1 : List Int) : Option (Int × List Int × Bool) := (spec_orRelation.f k a0_0 l0_1).bind fun t448 => (if t448 = true then ((spec_orNames.f k a0_0 l1).bind fun t449 => (spec_RenameOf.j0 k l1 (!t449) a0_0 l0_1)) else (spec_RenameOf.j0 k l1 true a0_0 l0_1))
theorem spec_RenameOf.mono_l : ∀ k, (∀ y0 y1 y2 y3, LeO (spec_RenameOf.j0 k y0 y1 y2 y3) (spec_RenameOf.j0 (k + 1) y0 y1 y2 y3)) ∧ (∀ y0 y1 y2 y3 y4 y5, LeO (spec_RenameOf.l0 k y0 y1 y2 y3 y4 y5) (spec_RenameOf.l0 (k + 1) y0 y1 y2 y3 y4 y5))
 | 0 => ⟨fun _ _ _ _ r h => by simp [spec_RenameOf.j0] at h, fun _ _ _ _ _ _ r h => by simp [spec_RenameOf.l0] at h⟩
 | k + 1 => by
  obtain ⟨ih0, ih1⟩ := spec_RenameOf.mono_l k
  refine ⟨?_, ?_⟩ <;> intros
  unfold spec_RenameOf.j0
  rotate_left
  unfold spec_RenameOf.l0
  rotate_left
  all_goals repeat' (with_reducible first|apply ih0|apply ih1|apply spec_orNames.mono|apply spec_orPart.mono|apply spec_orPlace.mono|apply spec_orRelation.mono|apply LeO.refl|apply LeO.none|apply LeO.ite|apply LeO.bind|intro)
theorem spec_RenameOf.mono : ∀ a0 a1 a2 k, LeO (spec_RenameOf.f k a0 a1 a2) (spec_RenameOf.f (k + 1) a0 a1 a2) := by
 intro a0 a1 a2 k
 obtain ⟨ih0, ih1⟩ := spec_RenameOf.mono_l k
 unfold spec_RenameOf.f
 repeat' (with_reducible first|apply ih0|apply ih1|apply spec_orNames.mono|apply spec_orPart.mono|apply spec_orPlace.mono|apply spec_orRelation.mono|apply LeO.refl|apply LeO.none|apply LeO.ite|apply LeO.bind|intro)
theorem spec_RenameOf.calls (k : Nat) (a0_0 : Int) (A0_1 : Option Addr) (c0_1 : Nat) (l0_1 : List Int) (A1 : Option Addr) (c1 : Nat) (l1 : List Int) (r1 : Int) (r2 : List Int) (r3 : Bool) (w : World) (hr0_1 : Kd.C (Kd.int .i64) w A0_1 l0_1.length l0_1) (hc0_1 : l0_1.length ≤ c0_1) (hr1 : Kd.C (Kd.int .i64) w A1 l1.length l1) (hc1 : l1.length ≤ c1) (h : spec_RenameOf.f k a0_0 l0_1 l1 = some (r1, r2, r3)) :
  Calls Tryd.prog 12 #[.agg #[.int .i64 a0_0, .slice A0_1 l0_1.length c0_1], .slice A1 l1.length c1] w fun e w' => ∃ v1_ : Value, e = .returned (.tuple #[.agg #[.int .i64 r1, v1_], .bool r3]) ∧ Kd.R (Kd.int .i64) 3 w' w.heap.size (fun _ => True) v1_ r2 ∧ Below w.heap.size w w' := by
 have hu26 := Tryd.underlying26
 have HR0_1 := mkA hr0_1
 have HC0_1 := mkA hc0_1
 clear hr0_1 hc0_1
 have HR1 := mkA hr1
 have HC1 := mkA hc1
 clear hr1 hc1
 have HB := mkA (Below.refl w.heap.size w)
 have H := h
 clear h
 unfold spec_RenameOf.f at H
 have HC3 := mkA H
 clear H
 go_enter Tryd.func12, Tryd.ntmps12
 go_upto_region 1 with (first | ((with_reducible refine gate_dst (N := 2) rfl ?_); refine boxG HB #[.int .i64 a0_0, .slice A0_1 l0_1.length c0_1] 26 ?_; intro gb446 hg w4 BK446 GE446 hb; replace HB := bst HB hb; clear hb hg) | ((with_reducible refine gate_dst (N := 4) rfl ?_); refine boxG HB #[.int .i64 0, .slice none 0 0] 26 ?_; intro gb447 hg w5 BK447 GE447 hb; have NB446_447 := neL7 BK446 hg; have NB447_446 := neR7 BK446 hg; replace BK446 := blkB BK446 hb; replace HB := bst HB hb; clear hb hg))
 (try simp only [Act.put, List.setIfInBounds_toArray, List.set_cons_zero, List.set_cons_succ])
 go_cut [17] (fun v17 wc => ∃ (kq : Nat) (x17_2 : Bool), v17 = .bool x17_2 ∧ Fc (spec_RenameOf.j0 kq l1 x17_2 a0_0 l0_1 = some (r1, r2, r3)) ∧ Fc (kq ≤ k) ∧ Fc (wc.heap[gb446]? = some (.cells #[.int .i64 a0_0, (.slice A0_1 l0_1.length c0_1)] 26 (0, 0))) ∧ Fc (wc.heap[gb447]? = some (.cells #[.int .i64 0, (.slice none 0 0)] 26 (0, 0))) ∧ Fc (Below w.heap.size w wc))
 case first =>
  have H := HC3.out
  clear HC3
  obtain ⟨t448, A6, H⟩ := obE H
  by_cases c7 : t448 = true
  ·subst c7
   replace H := ifT H
   obtain ⟨t449, A8, H⟩ := obE H
   have H' := mkA H
   clear H
   obtain ⟨_, _, _, _⟩ := blk2 BK446
   go_wp2_with (first | ((with_reducible refine gate_callee (f := 16) rfl ?_); refine goesQ (some 9) Tryd.func16 #[.agg #[.int .i64 a0_0, .slice A0_1 l0_1.length c0_1]] ?_; (with_reducible refine (spec_orRelation.calls k a0_0 _ _ l0_1 true _ ?_ ?_ A6.out).mono ?_); exact C_g HR0_1 HB; exact HC0_1.out; rintro e w11 ⟨rfl, hb⟩; refine ⟨_, rfl, ?_⟩; replace BK446 := blkB BK446 hb; replace BK447 := blkB BK447 hb; replace HB := bst HB hb; clear hb; obtain ⟨_, _, _, _⟩ := blk2 BK446) | (go_at_call 19; (with_reducible refine (spec_orNames.calls k a0_0 _ _ l1 t449 _ ?_ ?_ A8.out).mono ?_); exact C_g HR1 HB; exact HC1.out; rintro e w' ⟨rfl, ⟨nd, rfl⟩⟩))
   go_meet
   case rel => exact ⟨_, (!t449), eqS, H', ⟨by first | omega | exact Nat.le_refl _⟩, bg BK446, bg BK447, hbg HB⟩
  ·replace c7 := Bool.eq_false_iff.mpr c7
   subst c7
   replace H := ifF H
   have H' := mkA H
   clear H
   obtain ⟨_, _, _, _⟩ := blk2 BK446
   go_wp2_with (first | ((with_reducible refine gate_callee (f := 16) rfl ?_); refine goesQ (some 9) Tryd.func16 #[.agg #[.int .i64 a0_0, .slice A0_1 l0_1.length c0_1]] ?_; (with_reducible refine (spec_orRelation.calls k a0_0 _ _ l0_1 false _ ?_ ?_ A6.out).mono ?_); exact C_g HR0_1 HB; exact HC0_1.out; rintro e w15 ⟨rfl, hb⟩; refine ⟨_, rfl, ?_⟩; replace BK446 := blkB BK446 hb; replace BK447 := blkB BK447 hb; replace HB := bst HB hb; clear hb))
   go_meet
   case rel => exact ⟨_, (true), eqS, H', ⟨by first | omega | exact Nat.le_refl _⟩, bg BK446, bg BK447, hbg HB⟩
 case rest =>
  clear HC3
  try clear c1
  try clear c7
  obtain ⟨kq, x17_2, rfl, HA, HJ2, BK446, BK447, HB⟩ := hcut
  cases kq with
  | zero => exact absurd HA.out (by simp [spec_RenameOf.j0])
  | succ kj2 =>
   have H := HA.out
   clear HA
   simp only [spec_RenameOf.j0] at H
   by_cases c16 : x17_2 = true
   ·subst c16
    replace H := ifT H
    simp only [Option.some.injEq, Prod.mk.injEq] at H
    obtain ⟨rfl, rfl, rfl⟩ := H
    obtain ⟨_, _, _, _⟩ := blk2 BK447
    go_wp2
    refine bodyPost_ret (results_ct rfl _ _ gb447 26 #[.int .i64 0, .slice none 0 0] (0, 0) _ rfl (blkT BK447) Tryd.underlying26 rfl (by kernel_rfl)) rfl ?_
    exact ⟨_, eqE, nilE, bel_g HB.out⟩
   ·replace c16 := Bool.eq_false_iff.mpr c16
    subst c16
    replace H := ifF H
    have H' := mkA H
    clear H
    go_wp2
    go_loopg [6, 21] kj2 (fun kq v6 v21 w' => ∃ (x6_2 : List Int) (x21_2 : Int), v21 = .int .i64 x21_2 ∧ Fc (spec_RenameOf.l0 kq l1 x6_2 (l1.length : Int) x21_2 a0_0 l0_1 = some (r1, r2, r3)) ∧ Fc (kq ≤ kj2) ∧ Fc (Kd.R (Kd.int .i64) 3 w' w.heap.size (fun _ => True) v6 x6_2) ∧ Fc (w'.heap[gb446]? = some (.cells #[.int .i64 a0_0, (.slice A0_1 l0_1.length c0_1)] 26 (0, 0))) ∧ Fc (w'.heap[gb447]? = some (.cells #[.int .i64 0, (.slice none 0 0)] 26 (0, 0))) ∧ Fc (Below w.heap.size w w'))
    case atStart => exact ⟨(([] : List Int)), (0), eqS, H', ⟨Nat.le_refl _⟩, ⟨nilE⟩, bg BK446, bg BK447, hbg HB⟩
    case round =>
     clear H'
     try clear c1
     try clear c7
     try clear c16
     obtain ⟨x6_2, x21_2, rfl, HA, HK2, HO_6, BK446, BK447, HB⟩ := hrel
     cases gk with
     | zero => exact absurd HA.out (by simp [spec_RenameOf.l0])
     | succ k2 =>
      have H := HA.out
      clear HA
      simp only [spec_RenameOf.l0] at H
      rcases iteE H with ⟨c19b0, H⟩ | ⟨c19b0, H⟩
      ·obtain ⟨t450, A20, H⟩ := obE H
       obtain ⟨c21, H⟩ := itNP H
       have LMc21 := mkA c21
       clear c21
       obtain ⟨y451, hy451⟩ : ∃ y_ : List Int, y_ = (x6_2 ++ [t450]) := ⟨_, rfl⟩
       rw [← hy451] at H
       have Ny451 := mkA hy451
       clear hy451
       have H' := mkA H
       clear H
       go_wp2_with (first | ((with_reducible refine gate_callee (f := 29) rfl ?_); refine goesQ (some 27) Tryd.func29 #[.slice A1 l1.length c1, .int .i64 x21_2] ?_; (with_reducible refine (spec_orPlace.calls k2 _ _ l1 x21_2 t450 _ ?_ ?_ A20.out).mono ?_); exact C_g HR1 HB; exact HC1.out; rintro e w' ⟨rfl, ⟨nd, rfl⟩⟩; refine ⟨_, rfl, ?_⟩) | ((with_reducible refine gate_builtin (b := .append) (xs := #[.tmp 24, .tmp 28]) rfl ?_); at_builtin; refine Kd.R_append (Kd.int .i64) (w0 := w) w.heap.size rfl (.tmp 24) (.tmp 28) 24 3 (.int .i64 0) 8 rfl Tryd.underlying24 info3 rfl (by decide) (by omega) u6 x6_2 t450 [.int .i64 t450] (fun _ => True) (fun _ => False) rfl rfl ?aP (fun _ hk => hk.elim) ?aF ?aO ?aB ?aS ?aL ?_; (case aP => exact rfl); (case aB => exact (bel_g HB.out)); (case aF => exact (fun _ _ => trivial)); (case aO => exact (Kd.R_g HO_6.out)); (case aS => exact (below_size (bel_g HB.out))); (case aL => have := LMc21.out; omega); intro v452 w22 ho hb hg hat; rw [← Ny451.out] at ho; replace BK446 := mkA (blk_grown (g := gb446) (o := .cells #[.int .i64 a0_0, .slice A0_1 l0_1.length c0_1] 26 (0, 0)) (blk_g BK446.out) hg (Kd.R_ne HO_6.out BK446.out (by decide))); replace BK447 := mkA (blk_grown (g := gb447) (o := .cells #[.int .i64 0, .slice none 0 0] 26 (0, 0)) (blk_g BK447.out) hg (Kd.R_ne HO_6.out BK447.out (by decide))); have HO453 := mkA (ho); replace HB := mkA (hb); clear HO_6; clear ho hb hg hat))
       go_roundg k2
       case measure => have := HJ2.out; have := HK2.out; omega
       case rel => exact ⟨(y451), (wrap64 (x21_2 + 1)), eqS, H', ⟨by have := HJ2.out; have := HK2.out; omega⟩, rg HO453, bg BK446, bg BK447, hbg HB⟩
      ·obtain ⟨⟨t454, t455⟩, A23, H⟩ := obE H
       dsimp only at H
       simp only [Option.some.injEq, Prod.mk.injEq] at H
       obtain ⟨rfl, rfl, rfl⟩ := H
       obtain ⟨_, _, _, _⟩ := blk2 BK446
       obtain ⟨Ao26, co26, rfl⟩ := Kd.R_slice HO_6.out
       go_wp2_with (first | ((with_reducible refine gate_callee (f := 20) rfl ?_); refine goesQ (some 33) Tryd.func20 #[.agg #[.int .i64 a0_0, .slice A0_1 l0_1.length c0_1], .slice Ao26 x6_2.length co26] ?_; (with_reducible refine (spec_orPart.calls k2 a0_0 _ _ l0_1 _ _ x6_2 t454 t455 _ ?_ ?_ ?_ ?_ A23.out).mono ?_); exact C_g HR0_1 HB; exact HC0_1.out; exact rC HO_6; exact rL HO_6; rintro e w27 ⟨v456, rfl, ho0, hb⟩; refine ⟨_, rfl, ?_⟩; have HO457 := rLo (rN ho0 HO_6) HB; replace HO_6 := rE HO_6 ho0 hb; replace BK446 := blkB BK446 hb; replace BK447 := blkB BK447 hb; replace HB := bst HB hb; clear hb ho0; obtain ⟨_, _, _, _⟩ := blk2 BK447; obtain ⟨Ao29, co29, rfl⟩ := Kd.R_slice HO457.out))
       refine bodyPost_ret (results_ct rfl _ _ gb447 26 #[.int .i64 t454, .slice Ao29 t455.length co29] (0, 0) _ rfl (blkT BK447) Tryd.underlying26 rfl (by kernel_rfl)) rfl ?_
       exact ⟨_, eqE, Kd.R_g (Kd.R_mono (rF HO457 BK447) (fun _ _ => trivial)), bel_g HB.out⟩
def laws_pSameOrder.f (k : Nat) (a0_0 : Int) (l0_1 : List Int) (a1_0 : Int) (l1_1 : List Int) : Option (Bool) := if a0_0 = a1_0 then ((laws_pSame.f k l0_1 l1_1).bind fun t460 => (some t460)) else (some false)
theorem laws_pSameOrder.mono : ∀ a0 a1 a2 a3 k, LeO (laws_pSameOrder.f k a0 a1 a2 a3) (laws_pSameOrder.f (k + 1) a0 a1 a2 a3) := by
 intro a0 a1 a2 a3 k
 unfold laws_pSameOrder.f
 repeat' (with_reducible first|apply laws_pSame.mono|apply LeO.refl|apply LeO.none|apply LeO.ite|apply LeO.bind|intro)
theorem laws_pSameOrder.calls (k : Nat) (a0_0 : Int) (A0_1 : Option Addr) (c0_1 : Nat) (l0_1 : List Int) (a1_0 : Int) (A1_1 : Option Addr) (c1_1 : Nat) (l1_1 : List Int) (r : Bool) (w : World) (hr0_1 : Kd.C (Kd.int .i64) w A0_1 l0_1.length l0_1) (hc0_1 : l0_1.length ≤ c0_1) (hr1_1 : Kd.C (Kd.int .i64) w A1_1 l1_1.length l1_1) (hc1_1 : l1_1.length ≤ c1_1) (h : laws_pSameOrder.f k a0_0 l0_1 a1_0 l1_1 = some r) :
  Calls Tryd.prog 13 #[.agg #[.int .i64 a0_0, .slice A0_1 l0_1.length c0_1], .agg #[.int .i64 a1_0, .slice A1_1 l1_1.length c1_1]] w fun e w' => e = .returned (.bool r) ∧ Below w.heap.size w w' := by
 have hu26 := Tryd.underlying26
 have HR0_1 := mkA hr0_1
 have HC0_1 := mkA hc0_1
 clear hr0_1 hc0_1
 have HR1_1 := mkA hr1_1
 have HC1_1 := mkA hc1_1
 clear hr1_1 hc1_1
 have HB := mkA (Below.refl w.heap.size w)
 have H := h
 clear h
 unfold laws_pSameOrder.f at H
 rcases iteP H with ⟨c3, H⟩ | ⟨c3, H⟩
 ·have c3b0 := beq_iff_eq.mpr c3
  have c3b1 := bne_eq_false_iff_eq.mpr c3
  clear c3
  obtain ⟨t460, A4, H⟩ := obE H
  obtain rfl := Option.some.inj H
  go_enter Tryd.func13, Tryd.ntmps13
  go_wp2_with (first | ((with_reducible refine gate_dst (N := 2) rfl ?_); refine boxG HB #[.int .i64 a0_0, .slice A0_1 l0_1.length c0_1] 26 ?_; intro gb458 hg w5 BK458 GE458 hb; replace HB := bst HB hb; clear hb hg) | ((with_reducible refine gate_dst (N := 3) rfl ?_); refine boxG HB #[.int .i64 a1_0, .slice A1_1 l1_1.length c1_1] 26 ?_; intro gb459 hg w6 BK459 GE459 hb; have NB458_459 := neL7 BK458 hg; have NB459_458 := neR7 BK458 hg; replace BK458 := blkB BK458 hb; replace HB := bst HB hb; clear hb hg; obtain ⟨_, _, _, _⟩ := blk2 BK458; obtain ⟨_, _, _, _⟩ := blk2 BK459) | (go_at_call 8; (with_reducible refine (laws_pSame.calls k _ _ l0_1 _ _ l1_1 t460 _ ?_ ?_ ?_ ?_ A4.out).mono ?_); exact C_g HR0_1 HB; exact HC0_1.out; exact C_g HR1_1 HB; exact HC1_1.out; rintro e w' ⟨rfl, ⟨nd, rfl⟩⟩))
  go_ret
  exact ⟨eqE, bel_g HB.out⟩
 ·have c3b0 := beq_eq_false_iff_ne.mpr c3
  have c3b1 := bne_iff_ne.mpr c3
  obtain rfl := Option.some.inj H
  go_enter Tryd.func13, Tryd.ntmps13
  go_wp2_with (first | ((with_reducible refine gate_dst (N := 2) rfl ?_); refine boxG HB #[.int .i64 a0_0, .slice A0_1 l0_1.length c0_1] 26 ?_; intro gb458 hg w10 BK458 GE458 hb; replace HB := bst HB hb; clear hb hg) | ((with_reducible refine gate_dst (N := 3) rfl ?_); refine boxG HB #[.int .i64 a1_0, .slice A1_1 l1_1.length c1_1] 26 ?_; intro gb459 hg w11 BK459 GE459 hb; have NB458_459 := neL7 BK458 hg; have NB459_458 := neR7 BK458 hg; replace BK458 := blkB BK458 hb; replace HB := bst HB hb; clear hb hg; obtain ⟨_, _, _, _⟩ := blk2 BK458; obtain ⟨_, _, _, _⟩ := blk2 BK459))
  go_ret
  exact ⟨eqE, bel_g HB.out⟩
end Go.Proofs.YtdpmoehmbjmkpaaDoor.Q
