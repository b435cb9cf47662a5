import Derived.Test.YtjahodklmegglaaDoorBFnExactTraceOf0
import Derived.Test.YtjahodklmegglaaDoorBFnExactTraceOf12
import Derived.Test.YtjahodklmegglaaDoorBFnExactTraceOf13
-- printed by this project's own program (wip/mp/mp.py) over the kit's print, for this seat; Lean checks it
namespace Go.Proofs.YtjahodklmegglaaDoor.Q
open Go.RowKit Go.Proofs.YtjahodklmegglaaDoorW.PrintWords Go.Proofs.YtjahodklmegglaaDoorW.PrintLast Go.Proofs.YtjahodklmegglaaDoorW.PrintMore
attribute [local go_sem] max2_int min2_int max_two min_two max_three min_three max_four min_four   -- for this text's walks alone
set_option linter.unusedVariables false
set_option maxHeartbeats 8000000
set_option maxRecDepth 100000
set_option linter.unusedSimpArgs false

/-! ### impl_Order_levels: function 25 -/
mutual
def impl_Order_levels.l0 : Nat → List Int → List Int → List Int → Int → Int → Option (List Int)
 | 0, _, _, _, _, _ => none
 | k + 1, x3, x5, x17, x18, x19 => if x19 < x18 then (if 0 ≤ x19 then (if x19 < (x17.length : Int) then (impl_Order_levels.l1 k x3 x5 (rd x17 x19) 0 x17 x18 x19 x5 (x5.length : Int) 0) else (none)) else (none)) else (some x3)
def impl_Order_levels.l1 : Nat → List Int → List Int → Int → Int → List Int → Int → Int → List Int → Int → Int → Option (List Int)
 | 0, _, _, _, _, _, _, _, _, _, _ => none
 | k + 1, x3, x5, x7, x8, x17, x18, x19, x23, x24, x25 => if x25 < x24 then (if 0 ≤ x25 then (if x25 < (x23.length : Int) then (if (rd x23 x25) = x7 then (impl_Order_levels.l1 k x3 x5 x7 x8 x17 x18 x19 x23 x24 (wrap64 (x25 + 1))) else (if (Go.bits .andNot .i64 (rd x23 x25) x7) = 0 then (impl_Order_levels.l1 k x3 x5 x7 (wrap64 (x8 + 1)) x17 x18 x19 x23 x24 (wrap64 (x25 + 1))) else (impl_Order_levels.l1 k x3 x5 x7 x8 x17 x18 x19 x23 x24 (wrap64 (x25 + 1))))) else (none)) else (none)) else (if x3.length < 17592186044416 then (impl_Order_levels.l0 k (x3 ++ [x8]) x5 x17 x18 (wrap64 (x19 + 1))) else (none))
end
def impl_Order_levels.f (k : Nat) (a0_0 : Int) (l0_1 : List Int) : Option (List Int) := (impl_Order_mirror.f k a0_0 l0_1).bind fun bt391 => ((impl_different.f bt391.2).bind fun t395 => (impl_Order_levels.l0 k (([] : List Int)) t395 bt391.2 (bt391.2.length : Int) 0))
theorem impl_Order_levels.mono_l : ∀ k, (∀ y0 y1 y2 y3 y4, LeO (impl_Order_levels.l0 k y0 y1 y2 y3 y4) (impl_Order_levels.l0 (k + 1) y0 y1 y2 y3 y4)) ∧ (∀ y0 y1 y2 y3 y4 y5 y6 y7 y8 y9, LeO (impl_Order_levels.l1 k y0 y1 y2 y3 y4 y5 y6 y7 y8 y9) (impl_Order_levels.l1 (k + 1) y0 y1 y2 y3 y4 y5 y6 y7 y8 y9))
 | 0 => ⟨fun _ _ _ _ _ r h => by simp [impl_Order_levels.l0] at h, fun _ _ _ _ _ _ _ _ _ _ r h => by simp [impl_Order_levels.l1] at h⟩
 | k + 1 => by
  obtain ⟨ih0, ih1⟩ := impl_Order_levels.mono_l k
  refine ⟨?_, ?_⟩
  ·intro y0 y1 y2 y3 y4
   unfold impl_Order_levels.l0
   repeat' (with_reducible first|exact ih0 _ _ _ _ _|exact ih1 _ _ _ _ _ _ _ _ _ _|exact impl_Order_mirror.mono _ _ _|exact LeO.refl _|exact LeO.none _|refine LeO.ite ?_ ?_|refine LeO.bind ?_ (fun _ => ?_))
  ·intro y0 y1 y2 y3 y4 y5 y6 y7 y8 y9
   unfold impl_Order_levels.l1
   repeat' (with_reducible first|exact ih0 _ _ _ _ _|exact ih1 _ _ _ _ _ _ _ _ _ _|exact impl_Order_mirror.mono _ _ _|exact LeO.refl _|exact LeO.none _|refine LeO.ite ?_ ?_|refine LeO.bind ?_ (fun _ => ?_))
theorem impl_Order_levels.mono : ∀ a0 a1 k, LeO (impl_Order_levels.f k a0 a1) (impl_Order_levels.f (k + 1) a0 a1) := by
 intro a0 a1 k
 obtain ⟨ih0, ih1⟩ := impl_Order_levels.mono_l k
 unfold impl_Order_levels.f
 repeat' (with_reducible first|exact ih0 _ _ _ _ _|exact ih1 _ _ _ _ _ _ _ _ _ _|exact impl_Order_mirror.mono _ _ _|exact LeO.refl _|exact LeO.none _|refine LeO.ite ?_ ?_|refine LeO.bind ?_ (fun _ => ?_))
theorem impl_Order_levels.calls (k : Nat) (a0_0 : Int) (A0_1 : Option Addr) (c0_1 : Nat) (l0_1 : List Int) (r : List Int) (w : World) (hr0_1 : Kd.C (Kd.int .i64) w A0_1 l0_1.length l0_1) (hc0_1 : l0_1.length ≤ c0_1) (h : impl_Order_levels.f k a0_0 l0_1 = some r) :
  Calls Tryd.prog 25 #[.agg #[.int .i64 a0_0, .slice A0_1 l0_1.length c0_1]] w fun e w' => ∃ v0_ : Value, e = .returned (v0_) ∧ Kd.R (Kd.int .i64) 3 w' w.heap.size (fun _ => True) v0_ r ∧ Below w.heap.size w w' := by
 have hfd28_1 := fun (W_ : World) (v0_ v1_ : Value) => (show Sem.run Tryd.prog (Instr.field 28 (.agg #[v0_, v1_]) 1) W_ = .ok v1_ W_ from by simp [go_sem, Instr.field, asAgg])
 have hu28 := Tryd.underlying28
 have HR0_1 := Aside0.mk hr0_1
 have HC0_1 := Aside0.mk hc0_1
 clear hr0_1 hc0_1
 have HB := Aside0.mk (Below.refl w.heap.size w)
 have H : ((impl_Order_mirror.f k a0_0 l0_1).bind fun bt391 => ((impl_different.f bt391.2).bind fun t395 => (impl_Order_levels.l0 k (([] : List Int)) t395 bt391.2 (bt391.2.length : Int) 0))) = some r := h
 clear h
 obtain ⟨y388, hy388⟩ : ∃ y_ : List Int, y_ = (([] : List Int)) := ⟨_, rfl⟩
 replace H : ((impl_Order_mirror.f k a0_0 l0_1).bind fun bt391 => ((impl_different.f bt391.2).bind fun t395 => (impl_Order_levels.l0 k y388 t395 bt391.2 (bt391.2.length : Int) 0))) = some r := by first | (rw [hy388]; with_reducible exact H) | (have H2_ := (Option.bind_some _ _).symm.trans H; rw [hy388]; with_reducible exact H2_) | (have H2_ := (Option.bind_some _ _).symm.trans H; with_reducible exact H2_) | with_reducible exact H | (rw [hy388]; exact H) | exact H
 have Ny388 := Aside0.mk hy388
 clear hy388
 obtain ⟨⟨t391, t392⟩, A2, H⟩ := obE H
 dsimp only at H
 obtain ⟨t395, A3, H⟩ := obE H
 have H' := Aside0.mk H
 clear H
 go_enter Tryd.func25, Tryd.ntmps25
 go_wp2_with (first | ((with_reducible refine gate_dst (N := 1) rfl ?_); refine boxE (N := 1) (cs := #[.int .i64 a0_0, .slice A0_1 l0_1.length c0_1]) (t := 28) ?_; intro gb387 hg w4 hbox hb; have BK387 := Aside0.mk (hbox); have GE387 := geB HB hg; replace HB := bst HB hb; clear hb hbox hg) | ((with_reducible refine gate_dst (N := 11) rfl ?_); refine Kd.R_lit (Kd.int .i64) _ 3 ?hg (N := 11) ?hd (xs := ([] : List Int)) (inner := []) (ok := fun _ => True) (okp := fun _ => True) ?hr ?hp (fun _ hk => hk) trivial (Below.refl _ _) (Nat.le_refl _) (by simp) ?_; (case hd => rfl); (case hg => rfl); (case hr => first | (go_simp; done) | (go_simp; rfl)); (case hp => exact (Reps.none _ _)); intro v389 w5 ho6 hb hg_ hnew_; clear hg_ hnew_; (first | rw [← Ny388.out] at ho6 | (simp only [Int.reduceToNat] at ho6; rw [← Ny388.out] at ho6)); have HO390 := Aside0.mk (Kd.R_lower ho6 (below_size (bel_g HB.out))); replace BK387 := blkB BK387 hb; replace HB := bst HB hb; clear hb ho6; obtain ⟨hcz7_0, hcz7_1, hfz7_0, hfz7_1⟩ := blk2 BK387) | ((with_reducible refine gate_callee (f := 33) rfl ?_); refine goesQ (some 13) Tryd.func33 #[.agg #[.int .i64 a0_0, .slice A0_1 l0_1.length c0_1]] ?_; (with_reducible refine (impl_Order_mirror.calls k a0_0 _ _ l0_1 t391 t392 _ ?side1 ?side2 A2.out).mono ?_); (case side1 => exact C_g HR0_1 HB); (case side2 => exact HC0_1.out); rintro e w8 ⟨v393, rfl, ho0, hb⟩; refine ⟨_, rfl, ?_⟩; have HO394 := Aside0.mk (Kd.R_lower (Kd.R_new' ho0 (Kd.R_lt (Kd.R_g HO390.out))) (below_size (bel_g HB.out))); replace HO390 := Aside0.mk (Kd.R_elder' (Kd.R_g HO390.out) (Kd.R_base ho0) hb); replace BK387 := blkB BK387 hb; replace HB := bst HB hb; (try clear hb); (try clear hk); (try clear ho0); obtain ⟨Ao9, co9, eo9⟩ := Kd.R_slice HO394.out; subst eo9) | ((with_reducible refine gate_callee (f := 44) rfl ?_); refine goesQ (some 16) Tryd.func44 #[.slice Ao9 t392.length co9] ?_; (with_reducible refine (impl_different.calls _ _ t392 t395 _ ?side1 ?side2 A3.out).mono ?_); (case side1 => repeat (first | exact (Kd.R_reads' HO394.out).2.2 | (with_reducible refine Kd.C_alloc ?_ _) | (with_reducible refine Kd.C_drewN ?_ _) | (with_reducible refine Kd.C_drew ?_))); (case side2 => exact (Kd.R_reads' HO394.out).2.1); rintro e w10 ⟨v396, rfl, ho0, hb⟩; refine ⟨_, rfl, ?_⟩; have HO397 := Aside0.mk (Kd.R_lower (Kd.R_new' (Kd.R_new' ho0 (Kd.R_lt (Kd.R_g HO390.out))) (Kd.R_lt (Kd.R_g HO394.out))) (below_size (bel_g HB.out))); replace HO390 := Aside0.mk (Kd.R_elder' (Kd.R_g HO390.out) (Kd.R_base ho0) hb); replace HO394 := Aside0.mk (Kd.R_elder' (Kd.R_g HO394.out) (Kd.R_base ho0) hb); replace BK387 := blkB BK387 hb; replace HB := bst HB hb; (try clear hb); (try clear hk); (try clear ho0)))
 go_loopg [3, 19] k (fun kq v3 v19 w' => ∃ (x3_1 : List Int) (x19_1 : Int), v19 = .int .i64 x19_1 ∧ Aside0 (impl_Order_levels.l0 kq x3_1 t395 t392 (t392.length : Int) x19_1 = some r) ∧ Aside0 (kq ≤ k) ∧ Aside0 (Kd.R (Kd.int .i64) 3 w' w.heap.size (fun k_ => some k_ ≠ (v396 : Value).ownBlock ∧ some k_ ≠ ((.slice Ao9 t392.length co9) : Value).ownBlock) v3 x3_1) ∧ Aside0 (Kd.R (Kd.int .i64) 3 w' w.heap.size (fun k_ => some k_ ≠ (v3 : Value).ownBlock ∧ some k_ ≠ ((.slice Ao9 t392.length co9) : Value).ownBlock) v396 t395) ∧ Aside0 (Kd.R (Kd.int .i64) 3 w' w.heap.size (fun k_ => some k_ ≠ (v3 : Value).ownBlock ∧ some k_ ≠ (v396 : Value).ownBlock) (.slice Ao9 t392.length co9) t392) ∧ Aside0 (w'.heap[gb387]? = some (.cells #[.int .i64 a0_0, (.slice A0_1 l0_1.length c0_1)] 28 (0, 0))) ∧ Aside0 (Below w.heap.size w w'))
 case atStart => exact ⟨(y388), (0), eqS, H', ⟨Nat.le_refl _⟩, ⟨Kd.R_g (Kd.R_mono HO390.out (fun _ hk => ⟨hk.2, hk.1.2⟩))⟩, ⟨Kd.R_g (Kd.R_mono HO397.out (fun _ hk => ⟨hk.1.2, hk.2⟩))⟩, ⟨Kd.R_g (Kd.R_mono HO394.out (fun _ hk => ⟨hk.1.2, hk.2⟩))⟩, ⟨blk_g BK387.out⟩, ⟨bel_g HB.out⟩⟩
 case round =>
  clear H'
  try clear hcz7_0
  try clear hcz7_1
  try clear hfz7_0
  try clear hfz7_1
  obtain ⟨x3_1, x19_1, rfl, HA, HK1, HO_3, HO_5, HO_17, BK387, HB⟩ := hrel
  cases gk with
  | zero => exact absurd HA.out (by simp [impl_Order_levels.l0])
  | succ k1 =>
   have H := HA.out
   clear HA
   simp only [impl_Order_levels.l0] at H
   rcases iteE H with ⟨c11b0, H⟩ | ⟨c11b0, H⟩
   ·rcases iteP H with ⟨c12, H⟩ | ⟨c12, H⟩
    ·have c12b0 : decide (0 ≤ x19_1) = true := decide_eq_true c12
     clear c12
     rcases iteP H with ⟨c13, H⟩ | ⟨c13, H⟩
     ·have c13b0 : decide (x19_1 < (t392.length : Int)) = true := decide_eq_true c13
      clear c13
      have H' := Aside0.mk H
      clear H
      have p398 : 0 ≤ (x19_1 : Int) := ofd
      have q398 : x19_1 < (t392.length : Int) := ofd
      obtain ⟨ad398, e398, hx398_0⟩ := Kd.at_int (Kd.R_reads' HO_17.out).2.2 x19_1 p398 q398
      cases e398
      replace p398 := eq_true p398
      replace q398 := eq_true q398
      obtain ⟨Ao14, co14, eo14⟩ := Kd.R_slice HO_5.out
      subst eo14
      go_wp2
      go_loopg [8, 25] k1 (fun kq v8 v25 w' => ∃ (x8_2 : Int) (x25_2 : Int), v8 = .int .i64 x8_2 ∧ v25 = .int .i64 x25_2 ∧ Aside0 (impl_Order_levels.l1 kq x3_1 t395 (rd t392 x19_1) x8_2 t392 (t392.length : Int) x19_1 t395 (t395.length : Int) x25_2 = some r) ∧ Aside0 (kq ≤ k1) ∧ Aside0 (Kd.R (Kd.int .i64) 3 w' w.heap.size (fun k_ => some k_ ≠ ((.slice Ao14 t395.length co14) : Value).ownBlock ∧ some k_ ≠ ((.slice (some ad398) t392.length co9) : Value).ownBlock ∧ some k_ ≠ ((.slice Ao14 t395.length co14) : Value).ownBlock) u3 x3_1) ∧ Aside0 (Kd.R (Kd.int .i64) 3 w' w.heap.size (fun k_ => some k_ ≠ (u3 : Value).ownBlock ∧ some k_ ≠ ((.slice (some ad398) t392.length co9) : Value).ownBlock) (.slice Ao14 t395.length co14) t395) ∧ Aside0 (Kd.R (Kd.int .i64) 3 w' w.heap.size (fun k_ => some k_ ≠ (u3 : Value).ownBlock ∧ some k_ ≠ ((.slice Ao14 t395.length co14) : Value).ownBlock ∧ some k_ ≠ ((.slice Ao14 t395.length co14) : Value).ownBlock) (.slice (some ad398) t392.length co9) t392) ∧ Aside0 (Kd.R (Kd.int .i64) 3 w' w.heap.size (fun k_ => some k_ ≠ (u3 : Value).ownBlock ∧ some k_ ≠ ((.slice (some ad398) t392.length co9) : Value).ownBlock) (.slice Ao14 t395.length co14) t395) ∧ Aside0 (w'.heap[gb387]? = some (.cells #[.int .i64 a0_0, (.slice A0_1 l0_1.length c0_1)] 28 (0, 0))) ∧ Aside0 (Below w.heap.size w w'))
      case atStart => exact ⟨(0), (0), eqS, eqS, H', ⟨Nat.le_refl _⟩, ⟨Kd.R_g (Kd.R_mono HO_3.out (fun _ hk => ⟨hk.1, ⟨hk.2, hk.1⟩⟩))⟩, ⟨Kd.R_g HO_5.out⟩, ⟨Kd.R_g (Kd.R_mono HO_17.out (fun _ hk => ⟨hk.1, ⟨hk.2, hk.2⟩⟩))⟩, ⟨Kd.R_g HO_5.out⟩, ⟨blk_g BK387.out⟩, ⟨bel_g HB.out⟩⟩
      case round =>
       clear H'
       try clear c11b0
       try clear c12
       try clear c12b0
       try clear c13
       try clear c13b0
       try clear hcz7_0
       try clear hcz7_1
       try clear hfz7_0
       try clear hfz7_1
       try clear hx398_0
       try clear p398
       try clear q398
       obtain ⟨x8_2, x25_2, rfl, rfl, HA, HK2, HO_3, HO_5, HO_17, HO_23, BK387, HB⟩ := hrel
       cases gk with
       | zero => exact absurd HA.out (by simp [impl_Order_levels.l1])
       | succ k2 =>
        have H := HA.out
        clear HA
        simp only [impl_Order_levels.l1] at H
        rcases iteE H with ⟨c15b0, H⟩ | ⟨c15b0, H⟩
        ·rcases iteP H with ⟨c16, H⟩ | ⟨c16, H⟩
         ·have c16b0 : decide (0 ≤ x25_2) = true := decide_eq_true c16
          clear c16
          rcases iteP H with ⟨c17, H⟩ | ⟨c17, H⟩
          ·have c17b0 : decide (x25_2 < (t395.length : Int)) = true := decide_eq_true c17
           clear c17
           rcases iteP H with ⟨c18, H⟩ | ⟨c18, H⟩
           ·have c18b0 : ((rd t395 x25_2) == (rd t392 x19_1)) = true := beq_iff_eq.mpr c18
            have c18b1 : ((rd t395 x25_2) != (rd t392 x19_1)) = false := bne_eq_false_iff_eq.mpr c18
            clear c18
            have H' := Aside0.mk H
            clear H
            have p399 : 0 ≤ (x25_2 : Int) := ofd
            have q399 : x25_2 < (t395.length : Int) := ofd
            obtain ⟨ad399, e399, hx399_0⟩ := Kd.at_int (Kd.R_reads' HO_23.out).2.2 x25_2 p399 q399
            cases e399
            replace p399 := eq_true p399
            replace q399 := eq_true q399
            go_wp2
            go_roundg k2
            case measure => have := HK1.out; have := HK2.out; omega
            case rel => exact ⟨(x8_2), (wrap64 (x25_2 + 1)), eqS, eqS, H', ⟨by have := HK1.out; have := HK2.out; omega⟩, ⟨Kd.R_g HO_3.out⟩, ⟨Kd.R_g HO_5.out⟩, ⟨Kd.R_g HO_17.out⟩, ⟨Kd.R_g HO_23.out⟩, ⟨blk_g BK387.out⟩, ⟨bel_g HB.out⟩⟩
           ·have c18b0 : ((rd t395 x25_2) == (rd t392 x19_1)) = false := beq_eq_false_iff_ne.mpr c18
            have c18b1 : ((rd t395 x25_2) != (rd t392 x19_1)) = true := bne_iff_ne.mpr c18
            rcases iteP H with ⟨c19, H⟩ | ⟨c19, H⟩
            ·have c19b0 : ((Go.bits .andNot .i64 (rd t395 x25_2) (rd t392 x19_1)) == 0) = true := beq_iff_eq.mpr c19
             have c19b1 : ((Go.bits .andNot .i64 (rd t395 x25_2) (rd t392 x19_1)) != 0) = false := bne_eq_false_iff_eq.mpr c19
             clear c19
             have H' := Aside0.mk H
             clear H
             have p399 : 0 ≤ (x25_2 : Int) := ofd
             have q399 : x25_2 < (t395.length : Int) := ofd
             obtain ⟨ad399, e399, hx399_0⟩ := Kd.at_int (Kd.R_reads' HO_23.out).2.2 x25_2 p399 q399
             cases e399
             replace p399 := eq_true p399
             replace q399 := eq_true q399
             go_wp2
             go_roundg k2
             case measure => have := HK1.out; have := HK2.out; omega
             case rel => exact ⟨(wrap64 (x8_2 + 1)), (wrap64 (x25_2 + 1)), eqS, eqS, H', ⟨by have := HK1.out; have := HK2.out; omega⟩, ⟨Kd.R_g HO_3.out⟩, ⟨Kd.R_g HO_5.out⟩, ⟨Kd.R_g HO_17.out⟩, ⟨Kd.R_g HO_23.out⟩, ⟨blk_g BK387.out⟩, ⟨bel_g HB.out⟩⟩
            ·have c19b0 : ((Go.bits .andNot .i64 (rd t395 x25_2) (rd t392 x19_1)) == 0) = false := beq_eq_false_iff_ne.mpr c19
             have c19b1 : ((Go.bits .andNot .i64 (rd t395 x25_2) (rd t392 x19_1)) != 0) = true := bne_iff_ne.mpr c19
             have H' := Aside0.mk H
             clear H
             have p399 : 0 ≤ (x25_2 : Int) := ofd
             have q399 : x25_2 < (t395.length : Int) := ofd
             obtain ⟨ad399, e399, hx399_0⟩ := Kd.at_int (Kd.R_reads' HO_23.out).2.2 x25_2 p399 q399
             cases e399
             replace p399 := eq_true p399
             replace q399 := eq_true q399
             go_wp2
             go_roundg k2
             case measure => have := HK1.out; have := HK2.out; omega
             case rel => exact ⟨(x8_2), (wrap64 (x25_2 + 1)), eqS, eqS, H', ⟨by have := HK1.out; have := HK2.out; omega⟩, ⟨Kd.R_g HO_3.out⟩, ⟨Kd.R_g HO_5.out⟩, ⟨Kd.R_g HO_17.out⟩, ⟨Kd.R_g HO_23.out⟩, ⟨blk_g BK387.out⟩, ⟨bel_g HB.out⟩⟩
          ·exact absurd H (by simp)
         ·exact absurd H (by simp)
        ·rcases iteP H with ⟨c20, H⟩ | ⟨c20, H⟩
         ·have LMc20 := Aside0.mk c20
          clear c20
          obtain ⟨y400, hy400⟩ : ∃ y_ : List Int, y_ = (x3_1 ++ [x8_2]) := ⟨_, rfl⟩
          replace H : (impl_Order_levels.l0 k2 y400 t395 t392 (t392.length : Int) (wrap64 (x19_1 + 1))) = some r := by first | (rw [hy400]; with_reducible exact H) | (have H2_ := (Option.bind_some _ _).symm.trans H; rw [hy400]; with_reducible exact H2_) | (have H2_ := (Option.bind_some _ _).symm.trans H; with_reducible exact H2_) | with_reducible exact H | (rw [hy400]; exact H) | exact H
          have Ny400 := Aside0.mk hy400
          clear hy400
          have H' := Aside0.mk H
          clear H
          go_wp2_with (first | ((with_reducible refine gate_builtin (b := .append) (xs := #[.tmp 41, .tmp 43]) rfl ?_); at_builtin; refine Kd.R_append (Kd.int .i64) (w0 := w) w.heap.size rfl (.tmp 41) (.tmp 43) 22 3 (.int .i64 0) 8 rfl Tryd.underlying22 info3 rfl (by decide) (by omega) u3 x3_1 x8_2 [.int .i64 x8_2] (fun k_ => some k_ ≠ (.slice Ao14 t395.length co14 : Value).ownBlock ∧ some k_ ≠ (.slice (some ad398) t392.length co9 : Value).ownBlock ∧ some k_ ≠ (.slice Ao14 t395.length co14 : Value).ownBlock) (fun _ => False) rfl rfl ?aP (fun _ hk => hk.elim) ?aF ?aO ?aB ?aS ?aL ?_; (case aP => exact rfl); (case aB => exact (bel_g HB.out)); (case aF => exact (fun k_ hk => ⟨Kd.fresh' (Kd.R_lt (Kd.R_g HO_5.out)) k_ hk, Kd.fresh' (Kd.R_lt (Kd.R_g HO_17.out)) k_ hk, Kd.fresh' (Kd.R_lt (Kd.R_g HO_23.out)) k_ hk⟩)); (case aO => exact (Kd.R_g HO_3.out)); (case aS => exact (below_size (bel_g HB.out))); (case aL => have := LMc20.out; omega); intro v401 w21 ho hb hg hat; rw [← Ny400.out] at ho; replace HO_5 := Aside0.mk (Kd.R_after (ok := (fun k_ => some k_ ≠ (.slice (some ad398) t392.length co9 : Value).ownBlock)) (Kd.R_g (Kd.R_mono HO_5.out (fun _ hk => ⟨hk.2, hk.1⟩))) hg hat); replace HO_17 := Aside0.mk (Kd.R_after (ok := (fun k_ => some k_ ≠ (.slice Ao14 t395.length co14 : Value).ownBlock ∧ some k_ ≠ (.slice Ao14 t395.length co14 : Value).ownBlock)) (Kd.R_g (Kd.R_mono HO_17.out (fun _ hk => ⟨⟨hk.2.1, hk.2.2⟩, hk.1⟩))) hg hat); replace HO_23 := Aside0.mk (Kd.R_after (ok := (fun k_ => some k_ ≠ (.slice (some ad398) t392.length co9 : Value).ownBlock)) (Kd.R_g (Kd.R_mono HO_23.out (fun _ hk => ⟨hk.2, hk.1⟩))) hg hat); replace BK387 := Aside0.mk (blk_grown (g := gb387) (o := .cells #[.int .i64 a0_0, .slice A0_1 l0_1.length c0_1] 28 (0, 0)) (blk_g BK387.out) hg (Kd.R_ne HO_3.out BK387.out (by decide))); have HO402 := Aside0.mk (ho); replace HB := Aside0.mk (hb); clear HO_3; clear ho hb hg hat))
          go_roundg k2
          case measure => have := HK1.out; have := HK2.out; omega
          case rel => exact ⟨(y400), (wrap64 (x19_1 + 1)), eqS, H', ⟨by have := HK1.out; have := HK2.out; omega⟩, ⟨Kd.R_g (Kd.R_mono HO402.out (fun _ hk => ⟨hk.1, hk.2.1⟩))⟩, ⟨Kd.R_g (Kd.R_mono HO_5.out (fun _ hk => ⟨hk.2, hk.1⟩))⟩, ⟨Kd.R_g (Kd.R_mono HO_17.out (fun _ hk => ⟨hk.2, hk.1.1⟩))⟩, ⟨blk_g BK387.out⟩, ⟨bel_g HB.out⟩⟩
         ·exact absurd H (by simp)
     ·exact absurd H (by simp)
    ·exact absurd H (by simp)
   ·obtain rfl := Option.some.inj H
    go_wp2
    go_ret
    exact ⟨_, eqE, by (with_reducible repeat (first | apply Kd.R_alloc | apply Kd.R_drewN | apply Kd.R_drew)); exact Kd.R_mono HO_3.out (fun _ hk => trivial), bel_g HB.out⟩

end Go.Proofs.YtjahodklmegglaaDoor.Q

-- printed by this project's own program (wip/mp/mp.py) over the kit's print, for this seat; Lean checks it
namespace Go.Proofs.YtjahodklmegglaaDoor.Q
open Go.RowKit Go.Proofs.YtjahodklmegglaaDoorW.PrintWords Go.Proofs.YtjahodklmegglaaDoorW.PrintLast Go.Proofs.YtjahodklmegglaaDoorW.PrintMore
attribute [local go_sem] max2_int min2_int max_two min_two max_three min_three max_four min_four   -- for this text's walks alone
set_option linter.unusedVariables false
set_option maxHeartbeats 8000000
set_option maxRecDepth 100000
set_option linter.unusedSimpArgs false

/-! ### impl_within: function 58 -/
def impl_within.f (a0 : Int) (a1 : Int) (a2 : Int) : Option (Bool) := if a0 ≥ a1 then (some (decide (a0 ≤ a2))) else (some false)
theorem impl_within.calls (a0 : Int) (a1 : Int) (a2 : Int) (r : Bool) (w : World) (h : impl_within.f a0 a1 a2 = some r) :
  Calls Tryd.prog 58 #[.int .i64 a0, .int .i64 a1, .int .i64 a2] w fun e w' => e = .returned (.bool r) ∧ Drawn0 w w' := by
 have H : (if a0 ≥ a1 then (some (decide (a0 ≤ a2))) else (some false)) = some r := h
 clear h
 rcases iteP H with ⟨c4, H⟩ | ⟨c4, H⟩
 ·have c4b0 : decide (a1 ≤ a0) = true := decide_eq_true c4
  clear c4
  obtain rfl := Option.some.inj H
  go_enter Tryd.func58, Tryd.ntmps58
  go_wp2
  go_ret
  exact ⟨by first | rfl | (simp; done) | (simp [*]; done), by repeat (first | exact Drawn0.refl _ | apply Drawn0.step)⟩
 ·have c4b0 : decide (a1 ≤ a0) = false := decide_eq_false c4
  clear c4
  obtain rfl := Option.some.inj H
  go_enter Tryd.func58, Tryd.ntmps58
  go_wp2
  go_ret
  exact ⟨by first | rfl | (simp; done) | (simp [*]; done), by repeat (first | exact Drawn0.refl _ | apply Drawn0.step)⟩

end Go.Proofs.YtjahodklmegglaaDoor.Q

-- printed by this project's own program (wip/mp/mp.py) over the kit's print, for this seat; Lean checks it
namespace Go.Proofs.YtjahodklmegglaaDoor.Q
open Go.RowKit Go.Proofs.YtjahodklmegglaaDoorW.PrintWords Go.Proofs.YtjahodklmegglaaDoorW.PrintLast Go.Proofs.YtjahodklmegglaaDoorW.PrintMore
attribute [local go_sem] max2_int min2_int max_two min_two max_three min_three max_four min_four   -- for this text's walks alone
set_option linter.unusedVariables false
set_option maxHeartbeats 8000000
set_option maxRecDepth 100000
set_option linter.unusedSimpArgs false

/-! ### impl_allWithin: function 59 -/
def impl_allWithin.l0 : Nat → Int → Int → List Int → Int → Int → Option (Bool)
 | 0, _, _, _, _, _ => none
 | k + 1, x1, x2, x9, x10, x11 => if x11 < x10 then (if 0 ≤ x11 then (if x11 < (x9.length : Int) then ((impl_within.f (rd x9 x11) x1 x2).bind fun t175 => (if t175 = true then (impl_allWithin.l0 k x1 x2 x9 x10 (wrap64 (x11 + 1))) else (some false))) else (none)) else (none)) else (some true)
def impl_allWithin.f (k : Nat) (l0 : List Int) (a1 : Int) (a2 : Int) : Option (Bool) := impl_allWithin.l0 k a1 a2 l0 (l0.length : Int) 0
theorem impl_allWithin.mono_l : ∀ k, (∀ y0 y1 y2 y3 y4, LeO (impl_allWithin.l0 k y0 y1 y2 y3 y4) (impl_allWithin.l0 (k + 1) y0 y1 y2 y3 y4))
 | 0 => fun _ _ _ _ _ r h => by simp [impl_allWithin.l0] at h
 | k + 1 => by
  have ih0 := impl_allWithin.mono_l k
  ·intro y0 y1 y2 y3 y4
   unfold impl_allWithin.l0
   repeat' (with_reducible first|exact ih0 _ _ _ _ _|exact LeO.refl _|exact LeO.none _|refine LeO.ite ?_ ?_|refine LeO.bind ?_ (fun _ => ?_))
theorem impl_allWithin.mono : ∀ a0 a1 a2 k, LeO (impl_allWithin.f k a0 a1 a2) (impl_allWithin.f (k + 1) a0 a1 a2) := by
 intro a0 a1 a2 k
 have ih0 := impl_allWithin.mono_l k
 unfold impl_allWithin.f
 repeat' (with_reducible first|exact ih0 _ _ _ _ _|exact LeO.refl _|exact LeO.none _|refine LeO.ite ?_ ?_|refine LeO.bind ?_ (fun _ => ?_))
theorem impl_allWithin.calls (k : Nat) (A0 : Option Addr) (c0 : Nat) (l0 : List Int) (a1 : Int) (a2 : Int) (r : Bool) (w : World) (hr0 : Kd.C (Kd.int .i64) w A0 l0.length l0) (hc0 : l0.length ≤ c0) (h : impl_allWithin.f k l0 a1 a2 = some r) :
  Calls Tryd.prog 59 #[.slice A0 l0.length c0, .int .i64 a1, .int .i64 a2] w fun e w' => e = .returned (.bool r) ∧ Drawn0 w w' := by
 have HR0 := Aside0.mk hr0
 have HC0 := Aside0.mk hc0
 clear hr0 hc0
 have H : (impl_allWithin.l0 k a1 a2 l0 (l0.length : Int) 0) = some r := h
 clear h
 have H' := Aside0.mk H
 clear H
 go_enter Tryd.func59, Tryd.ntmps59
 go_wp2
 go_loopg [11] k (fun kq v11 w' => ∃ (x11_1 : Int), v11 = .int .i64 x11_1 ∧ Aside0 (impl_allWithin.l0 kq a1 a2 l0 (l0.length : Int) x11_1 = some r) ∧ Aside0 (kq ≤ k) ∧ Drawn0 w w')
 case atStart => exact ⟨(0), eqS, H', ⟨Nat.le_refl _⟩, by repeat (first | exact Drawn0.refl _ | apply Drawn0.step)⟩
 case round =>
  clear H'
  obtain ⟨x11_1, rfl, HA, HK1, ⟨m1, rfl⟩⟩ := hrel
  cases gk with
  | zero => exact absurd HA.out (by simp [impl_allWithin.l0])
  | succ k1 =>
   have H := HA.out
   clear HA
   simp only [impl_allWithin.l0] at H
   rcases iteE H with ⟨c4b0, H⟩ | ⟨c4b0, H⟩
   ·rcases iteP H with ⟨c5, H⟩ | ⟨c5, H⟩
    ·have c5b0 : decide (0 ≤ x11_1) = true := decide_eq_true c5
     clear c5
     rcases iteP H with ⟨c6, H⟩ | ⟨c6, H⟩
     ·have c6b0 : decide (x11_1 < (l0.length : Int)) = true := decide_eq_true c6
      clear c6
      obtain ⟨t175, A7, H⟩ := obE H
      by_cases c8 : t175 = true
      ·subst c8
       replace H := ifT H
       have H' := Aside0.mk H
       clear H
       have p174 : 0 ≤ (x11_1 : Int) := ofd
       have q174 : x11_1 < (l0.length : Int) := ofd
       obtain ⟨ad174, e174, hx174_0⟩ := Kd.at_int HR0.out x11_1 p174 q174
       cases e174
       replace p174 := eq_true p174
       replace q174 := eq_true q174
       go_wp2_with (first | ((with_reducible refine gate_callee (f := 58) rfl ?_); refine goesQ (some 18) Tryd.func58 #[.int .i64 (rd l0 x11_1), .int .i64 a1, .int .i64 a2] ?_; (with_reducible refine (impl_within.calls (rd l0 x11_1) a1 a2 true _ A7.out).mono ?_); rintro e w' ⟨rfl, ⟨nd, rfl⟩⟩; refine ⟨_, rfl, ?_⟩))
       go_roundg k1
       case measure => have := HK1.out; omega
       case rel => exact ⟨(wrap64 (x11_1 + 1)), eqS, H', ⟨by have := HK1.out; omega⟩, by repeat (first | exact Drawn0.refl _ | apply Drawn0.step)⟩
      ·replace c8 := Bool.eq_false_iff.mpr c8
       subst c8
       replace H := ifF H
       obtain rfl := Option.some.inj H
       have p174 : 0 ≤ (x11_1 : Int) := ofd
       have q174 : x11_1 < (l0.length : Int) := ofd
       obtain ⟨ad174, e174, hx174_0⟩ := Kd.at_int HR0.out x11_1 p174 q174
       cases e174
       replace p174 := eq_true p174
       replace q174 := eq_true q174
       go_wp2_with (first | ((with_reducible refine gate_callee (f := 58) rfl ?_); refine goesQ (some 18) Tryd.func58 #[.int .i64 (rd l0 x11_1), .int .i64 a1, .int .i64 a2] ?_; (with_reducible refine (impl_within.calls (rd l0 x11_1) a1 a2 false _ A7.out).mono ?_); rintro e w' ⟨rfl, ⟨nd, rfl⟩⟩; refine ⟨_, rfl, ?_⟩))
       go_ret
       exact ⟨by first | rfl | (simp; done) | (simp [*]; done), by repeat (first | exact Drawn0.refl _ | apply Drawn0.step)⟩
     ·exact absurd H (by simp)
    ·exact absurd H (by simp)
   ·obtain rfl := Option.some.inj H
    go_wp2
    go_ret
    exact ⟨by first | rfl | (simp; done) | (simp [*]; done), by repeat (first | exact Drawn0.refl _ | apply Drawn0.step)⟩

end Go.Proofs.YtjahodklmegglaaDoor.Q
