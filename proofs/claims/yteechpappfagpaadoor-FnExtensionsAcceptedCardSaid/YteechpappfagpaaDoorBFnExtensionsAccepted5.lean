import Derived.Test.YteechpappfagpaaDoorBFnExtensionsAccepted0
import Derived.Test.YteechpappfagpaaDoorBFnExtensionsAccepted2
import Derived.Test.YteechpappfagpaaDoorBFnExtensionsAccepted4
-- printed by this project's own program (wip/mp/mp.py) over the kit's print, for this seat; Lean checks it
namespace Go.Proofs.YteechpappfagpaaDoor.Q
open Go.RowKit Go.Proofs.YteechpappfagpaaDoorW.PrintWords Go.Proofs.YteechpappfagpaaDoorW.PrintLast Go.Proofs.YteechpappfagpaaDoorW.PrintMore
attribute [local go_sem] max2_int min2_int max_two min_two max_three min_three max_four min_four   -- for this text's walks alone
set_option linter.unusedVariables false
set_option maxHeartbeats 8000000
set_option maxRecDepth 100000
set_option linter.unusedSimpArgs false

/-! ### impl_FirstExtension: function 62 -/
mutual
def impl_FirstExtension.l0 : Nat → List Int → Int → Int → List Int → Int → List Int → Option (List Int × Bool)
 | 0, _, _, _, _, _, _ => none
 | k + 1, x4, x5, x1187000, x1187001, x1196000, x1196001 => if (x4.length : Int) < x1187000 then (impl_FirstExtension.l1 k x4 x5 x1187000 0 x1187000 x1187001 x1196000 x1196001) else (some (x4, true))
def impl_FirstExtension.l1 : Nat → List Int → Int → Int → Int → Int → List Int → Int → List Int → Option (List Int × Bool)
 | 0, _, _, _, _, _, _, _, _ => none
 | k + 1, x4, x5, x20, x21, x1187000, x1187001, x1196000, x1196001 => if x21 < x20 then (if 0 ≤ x21 then (if (Go.bits .and .i64 (shr .i64 x5 x21) 1) = 0 then (if x21 < (x1196001.length : Int) then (if (Go.bits .andNot .i64 (rd x1196001 x21) x5) = 0 then (if x4.length < 17592186044416 then (impl_FirstExtension.l0 k (x4 ++ [x21]) (Go.bits .or .i64 x5 (shl .i64 1 x21)) x1187000 x1187001 x1196000 x1196001) else (none)) else (impl_FirstExtension.l1 k x4 x5 x20 (wrap64 (x21 + 1)) x1187000 x1187001 x1196000 x1196001)) else (none)) else (impl_FirstExtension.l1 k x4 x5 x20 (wrap64 (x21 + 1)) x1187000 x1187001 x1196000 x1196001)) else (none)) else (impl_FirstExtension.l0 k x4 x5 x1187000 x1187001 x1196000 x1196001)
end
def impl_FirstExtension.f (k : Nat) (a0_0 : Int) (l0_1 : List Int) : Option (List Int × Bool) := (impl_IsOrder.f k a0_0 l0_1).bind fun t1187 => (if t1187 = true then ((impl_Order_mirror.f k a0_0 l0_1).bind fun bt1191 => (impl_FirstExtension.l0 k (([] : List Int)) 0 a0_0 l0_1 bt1191.1 bt1191.2)) else (some (([] : List Int), false)))
theorem impl_FirstExtension.mono_l : ∀ k, (∀ y0 y1 y2 y3 y4 y5, LeO (impl_FirstExtension.l0 k y0 y1 y2 y3 y4 y5) (impl_FirstExtension.l0 (k + 1) y0 y1 y2 y3 y4 y5)) ∧ (∀ y0 y1 y2 y3 y4 y5 y6 y7, LeO (impl_FirstExtension.l1 k y0 y1 y2 y3 y4 y5 y6 y7) (impl_FirstExtension.l1 (k + 1) y0 y1 y2 y3 y4 y5 y6 y7))
 | 0 => ⟨fun _ _ _ _ _ _ r h => by simp [impl_FirstExtension.l0] at h, fun _ _ _ _ _ _ _ _ r h => by simp [impl_FirstExtension.l1] at h⟩
 | k + 1 => by
  obtain ⟨ih0, ih1⟩ := impl_FirstExtension.mono_l k
  refine ⟨?_, ?_⟩
  ·intro y0 y1 y2 y3 y4 y5
   unfold impl_FirstExtension.l0
   repeat' (with_reducible first|exact ih0 _ _ _ _ _ _|exact ih1 _ _ _ _ _ _ _ _|exact impl_IsOrder.mono _ _ _|exact impl_Order_mirror.mono _ _ _|exact LeO.refl _|exact LeO.none _|refine LeO.ite ?_ ?_|refine LeO.bind ?_ (fun _ => ?_))
  ·intro y0 y1 y2 y3 y4 y5 y6 y7
   unfold impl_FirstExtension.l1
   repeat' (with_reducible first|exact ih0 _ _ _ _ _ _|exact ih1 _ _ _ _ _ _ _ _|exact impl_IsOrder.mono _ _ _|exact impl_Order_mirror.mono _ _ _|exact LeO.refl _|exact LeO.none _|refine LeO.ite ?_ ?_|refine LeO.bind ?_ (fun _ => ?_))
theorem impl_FirstExtension.mono : ∀ a0 a1 k, LeO (impl_FirstExtension.f k a0 a1) (impl_FirstExtension.f (k + 1) a0 a1) := by
 intro a0 a1 k
 obtain ⟨ih0, ih1⟩ := impl_FirstExtension.mono_l k
 unfold impl_FirstExtension.f
 repeat' (with_reducible first|exact ih0 _ _ _ _ _ _|exact ih1 _ _ _ _ _ _ _ _|exact impl_IsOrder.mono _ _ _|exact impl_Order_mirror.mono _ _ _|exact LeO.refl _|exact LeO.none _|refine LeO.ite ?_ ?_|refine LeO.bind ?_ (fun _ => ?_))
def impl_FirstExtension.T9 : Bool × List (List Nat × List Nat) := (true, [([], []), ([], []), ([1], [1]), ([0, 2], [0, 2]), ([], []), ([], []), ([5], [5]), ([4, 6], [4, 6]), ([3, 3, 0, 1, 2, 3], [0, 3]), ([7, 8, 0, 1, 2, 3, 4, 5, 6, 7, 8], [4, 7])])
def impl_FirstExtension.B9 : List Nat := [0, 0, 2, 7, 0, 0, 32, 112, 15, 511]
theorem impl_FirstExtension.tab9 : rtab .any (opsOf Tryd.f62 9) = impl_FirstExtension.T9 := by kernel_rfl
theorem impl_FirstExtension.bits9 : waitsOk impl_FirstExtension.T9.2 impl_FirstExtension.B9 = true := by kernel_rfl
theorem impl_FirstExtension.calls (k : Nat) (a0_0 : Int) (A0_1 : Option Addr) (c0_1 : Nat) (l0_1 : List Int) (r1 : List Int) (r2 : Bool) (w : World) (hr0_1 : Kd.C (Kd.int .i64) w A0_1 l0_1.length l0_1) (hc0_1 : l0_1.length ≤ c0_1) (hTAB : Tab w) (h : impl_FirstExtension.f k a0_0 l0_1 = some (r1, r2)) :
  Calls Tryd.prog 62 #[.agg #[.int .i64 a0_0, .slice A0_1 l0_1.length c0_1]] w fun e w' => ∃ v0_ : Value, e = .returned (.tuple #[v0_, .bool r2]) ∧ Kd.R (Kd.int .i64) 3 w' w.heap.size (fun _ => True) v0_ r1 ∧ Below w.heap.size w w' := by
 have HTAB := Aside0.mk hTAB
 clear hTAB
 have hu28 := Tryd.underlying28
 have HR0_1 := Aside0.mk hr0_1
 have HC0_1 := Aside0.mk hc0_1
 clear hr0_1 hc0_1
 have HB := Aside0.mk (Below.refl w.heap.size w)
 have H : ((impl_IsOrder.f k a0_0 l0_1).bind fun t1187 => (if t1187 = true then ((impl_Order_mirror.f k a0_0 l0_1).bind fun bt1191 => (impl_FirstExtension.l0 k (([] : List Int)) 0 a0_0 l0_1 bt1191.1 bt1191.2)) else (some (([] : List Int), false)))) = some (r1, r2) := h
 clear h
 obtain ⟨t1187, A2, H⟩ := obE H
 by_cases c3 : t1187 = true
 ·subst c3
  replace H := ifT H
  obtain ⟨y1188, hy1188⟩ : ∃ y_ : List Int, y_ = (([] : List Int)) := ⟨_, rfl⟩
  replace H : ((impl_Order_mirror.f k a0_0 l0_1).bind fun bt1191 => (impl_FirstExtension.l0 k y1188 0 a0_0 l0_1 bt1191.1 bt1191.2)) = some (r1, r2) := by first | (rw [hy1188]; with_reducible exact H) | (have H2_ := (Option.bind_some _ _).symm.trans H; rw [hy1188]; with_reducible exact H2_) | (have H2_ := (Option.bind_some _ _).symm.trans H; with_reducible exact H2_) | with_reducible exact H | (rw [hy1188]; exact H) | exact H
  have Ny1188 := Aside0.mk hy1188
  clear hy1188
  obtain ⟨⟨t1191, t1192⟩, A4, H⟩ := obE H
  dsimp only at H
  have H' := Aside0.mk H
  clear H
  go_enter Tryd.func62, Tryd.ntmps62
  go_wp2_with (first | ((with_reducible refine gate_dst (N := 1) rfl ?_); refine boxE (N := 1) (cs := #[.int .i64 a0_0, .slice A0_1 l0_1.length c0_1]) (t := 28) ?_; intro gb1186 hg w5 hbox hb; have BK1186 := Aside0.mk (hbox); have GE1186 := geB HB hg; replace HB := bst HB hb; clear hb hbox hg; obtain ⟨hcz6_0, hcz6_1, hfz6_0, hfz6_1⟩ := blk2 BK1186) | ((with_reducible refine gate_callee (f := 45) rfl ?_); refine goesQ (some 9) Tryd.func45 #[.agg #[.int .i64 a0_0, .slice A0_1 l0_1.length c0_1]] ?_; (with_reducible refine (impl_IsOrder.calls k a0_0 _ _ l0_1 true _ ?side1 ?side2 ?side3 A2.out).mono ?_); (case side1 => exact C_g HR0_1 HB); (case side2 => exact HC0_1.out); (case side3 => first | exact HTAB.out | exact Tab.drewN HTAB.out _ | exact Tab.below HTAB.out (bel_g HB.out) | exact Tab.below HTAB.out (by repeat (first | exact Below.refl _ _ | apply below_alloc | apply pw_below_drewN | apply below_drew1))); rintro e w7 ⟨rfl, hb⟩; refine ⟨_, rfl, ?_⟩; replace BK1186 := blkB BK1186 hb; replace HB := bst HB hb; (try clear hb); (try clear hk)) | ((with_reducible refine gate_dst (N := 11) rfl ?_); refine Kd.R_lit (Kd.int .i64) _ 3 ?hg (N := 11) ?hd (xs := ([] : List Int)) (inner := []) (ok := fun _ => True) (okp := fun _ => True) ?hr ?hp (fun _ hk => hk) trivial (Below.refl _ _) (Nat.le_refl _) (by simp) ?_; (case hd => rfl); (case hg => rfl); (case hr => first | (go_simp; done) | (go_simp; rfl)); (case hp => exact (Reps.none _ _)); intro v1189 w8 ho9 hb hg_ hnew_; clear hg_ hnew_; (first | rw [← Ny1188.out] at ho9 | (simp only [Int.reduceToNat] at ho9; rw [← Ny1188.out] at ho9)); have HO1190 := Aside0.mk (Kd.R_lower ho9 (below_size (bel_g HB.out))); replace BK1186 := blkB BK1186 hb; replace HB := bst HB hb; clear hb ho9; obtain ⟨hcz10_0, hcz10_1, hfz10_0, hfz10_1⟩ := blk2 BK1186) | ((with_reducible refine gate_callee (f := 110) rfl ?_); refine goesQ (some 13) Tryd.func110 #[.agg #[.int .i64 a0_0, .slice A0_1 l0_1.length c0_1]] ?_; (with_reducible refine (impl_Order_mirror.calls k a0_0 _ _ l0_1 t1191 t1192 _ ?side1 ?side2 A4.out).mono ?_); (case side1 => exact C_g HR0_1 HB); (case side2 => exact HC0_1.out); rintro e w11 ⟨v1193, rfl, ho0, hb⟩; refine ⟨_, rfl, ?_⟩; have HO1194 := Aside0.mk (Kd.R_lower (Kd.R_new' ho0 (Kd.R_lt (Kd.R_g HO1190.out))) (below_size (bel_g HB.out))); replace HO1190 := Aside0.mk (Kd.R_elder' (Kd.R_g HO1190.out) (Kd.R_base ho0) hb); replace BK1186 := blkB BK1186 hb; replace HB := bst HB hb; (try clear hb); (try clear hk); (try clear ho0)) | ((with_reducible refine gate_dst (N := 6) rfl ?_); refine boxE (N := 6) (cs := #[.int .i64 0, .slice none 0 0]) (t := 28) ?_; intro gb1195 hg w12 hbox hb; replace HO1190 := Aside0.mk (Kd.R_below (Kd.R_g HO1190.out) hb); replace HO1194 := Aside0.mk (Kd.R_below (Kd.R_g HO1194.out) hb); have BK1195 := Aside0.mk (hbox); have GE1195 := geB HB hg; have NB1186_1195 := neL BK1186 hg; have NB1195_1186 := neR BK1186 hg; replace BK1186 := blkB BK1186 hb; replace HB := bst HB hb; clear hb hbox hg; have hnb13 := NB1195_1186.out; have hnc13 := NB1186_1195.out; obtain ⟨hcz14_0, hcz14_1, hfz14_0, hfz14_1⟩ := blk2 BK1195; obtain ⟨Ao15, co15, eo15⟩ := Kd.R_slice HO1194.out; subst eo15))
  go_loopg [4, 5] k (fun kq v4 v5 w' => ∃ (x4_1 : List Int) (x5_1 : Int), v5 = .int .i64 x5_1 ∧ Aside0 (impl_FirstExtension.l0 kq x4_1 x5_1 a0_0 l0_1 t1191 t1192 = some (r1, r2)) ∧ Aside0 (kq ≤ k) ∧ Aside0 (Kd.R (Kd.int .i64) 3 w' w.heap.size (fun k_ => some k_ ≠ ((.slice Ao15 t1192.length co15) : Value).ownBlock) v4 x4_1) ∧ Aside0 (Kd.R (Kd.int .i64) 3 w' w.heap.size (fun k_ => some k_ ≠ (v4 : Value).ownBlock) (.slice Ao15 t1192.length co15) t1192) ∧ Aside0 (w'.heap[gb1186]? = some (.cells #[.int .i64 a0_0, (.slice A0_1 l0_1.length c0_1)] 28 (0, 0))) ∧ Aside0 (w'.heap[gb1195]? = some (.cells #[.int .i64 t1191, (.slice Ao15 t1192.length co15)] 28 (0, 0))) ∧ Aside0 (Below w.heap.size w w'))
  case atStart => exact ⟨(y1188), (0), eqS, H', ⟨Nat.le_refl _⟩, ⟨Kd.R_g (Kd.R_mono (Kd.R_far (p := ⟨gb1195, 1, none⟩) (Kd.R_far (p := ⟨gb1195, 0, none⟩) (Kd.R_types HO1190.out BK1195.out (by decide)) (fun _ hk => hk.2) (.int .i64 t1191)) (fun _ hk => hk.2) (.slice Ao15 t1192.length co15)) (fun _ hk => hk.1.2))⟩, ⟨Kd.R_g (Kd.R_mono (Kd.R_far (p := ⟨gb1195, 1, none⟩) (Kd.R_far (p := ⟨gb1195, 0, none⟩) (Kd.R_types HO1194.out BK1195.out (by decide)) (fun _ hk => hk.2) (.int .i64 t1191)) (fun _ hk => hk.2) (.slice Ao15 t1192.length co15)) (fun _ hk => hk.1.2))⟩, ⟨by (with_reducible repeat (first | refine blk_drewN ?_ _ | refine blk_drew ?_ | refine blk_alloc ?_ _)); refine blk_far ?_ NB1186_1195.out _; (with_reducible repeat (first | refine blk_drewN ?_ _ | refine blk_drew ?_ | refine blk_alloc ?_ _)); refine blk_far ?_ NB1186_1195.out _; (with_reducible repeat (first | refine blk_drewN ?_ _ | refine blk_drew ?_ | refine blk_alloc ?_ _)); exact BK1186.out⟩, ⟨by (with_reducible repeat (first | refine blk_drewN ?_ _ | refine blk_drew ?_ | refine blk_alloc ?_ _)); refine blk_put (cs := #[.int .i64 t1191, .slice none 0 0]) ?_ 1 _ rfl; (with_reducible repeat (first | refine blk_drewN ?_ _ | refine blk_drew ?_ | refine blk_alloc ?_ _)); refine blk_put (cs := #[.int .i64 0, .slice none 0 0]) ?_ 0 _ rfl; (with_reducible repeat (first | refine blk_drewN ?_ _ | refine blk_drew ?_ | refine blk_alloc ?_ _)); exact BK1195.out⟩, ⟨bel_g HB.out⟩⟩
  case round =>
   clear H'
   try clear c3
   try clear hcz10_0
   try clear hcz10_1
   try clear hcz14_0
   try clear hcz14_1
   try clear hcz6_0
   try clear hcz6_1
   try clear hfz10_0
   try clear hfz10_1
   try clear hfz14_0
   try clear hfz14_1
   try clear hfz6_0
   try clear hfz6_1
   obtain ⟨x4_1, x5_1, rfl, HA, HK1, HO_4, HO_1196001, BK1186, BK1195, HB⟩ := hrel
   cases gk with
   | zero => exact absurd HA.out (by simp [impl_FirstExtension.l0])
   | succ k1 =>
    have H := HA.out
    clear HA
    simp only [impl_FirstExtension.l0] at H
    rcases iteE H with ⟨c16b0, H⟩ | ⟨c16b0, H⟩
    ·have H' := Aside0.mk H
     clear H
     obtain ⟨Ao17, co17, eo17⟩ := Kd.R_slice HO_4.out
     subst eo17
     have hnb18 := NB1186_1195.out
     have hnc18 := NB1195_1186.out
     obtain ⟨hcz19_0, hcz19_1, hfz19_0, hfz19_1⟩ := blk2 BK1186
     go_wp2
     go_loopg [4, 5, 21] k1 (fun kq v4 v5 v21 w' => ∃ (x4_2 : List Int) (x5_2 : Int) (x21_2 : Int), v5 = .int .i64 x5_2 ∧ v21 = .int .i64 x21_2 ∧ Aside0 (impl_FirstExtension.l1 kq x4_2 x5_2 a0_0 x21_2 a0_0 l0_1 t1191 t1192 = some (r1, r2)) ∧ Aside0 (kq ≤ k1) ∧ Aside0 (Kd.R (Kd.int .i64) 3 w' w.heap.size (fun k_ => some k_ ≠ ((.slice Ao15 t1192.length co15) : Value).ownBlock) v4 x4_2) ∧ Aside0 (Kd.R (Kd.int .i64) 3 w' w.heap.size (fun k_ => some k_ ≠ (v4 : Value).ownBlock) (.slice Ao15 t1192.length co15) t1192) ∧ Aside0 (w'.heap[gb1186]? = some (.cells #[.int .i64 a0_0, (.slice A0_1 l0_1.length c0_1)] 28 (0, 0))) ∧ Aside0 (w'.heap[gb1195]? = some (.cells #[.int .i64 t1191, (.slice Ao15 t1192.length co15)] 28 (0, 0))) ∧ Aside0 (Below w.heap.size w w'))
     case atStart => exact ⟨(x4_1), (x5_1), (0), eqS, eqS, H', ⟨Nat.le_refl _⟩, ⟨Kd.R_g HO_4.out⟩, ⟨Kd.R_g HO_1196001.out⟩, ⟨blk_g BK1186.out⟩, ⟨blk_g BK1195.out⟩, ⟨bel_g HB.out⟩⟩
     case round =>
      clear H'
      try clear c3
      try clear c16b0
      try clear hcz10_0
      try clear hcz10_1
      try clear hcz14_0
      try clear hcz14_1
      try clear hcz19_0
      try clear hcz19_1
      try clear hcz6_0
      try clear hcz6_1
      try clear hfz10_0
      try clear hfz10_1
      try clear hfz14_0
      try clear hfz14_1
      try clear hfz19_0
      try clear hfz19_1
      try clear hfz6_0
      try clear hfz6_1
      obtain ⟨x4_2, x5_2, x21_2, rfl, rfl, HA, HK2, HO_4, HO_1196001, BK1186, BK1195, HB⟩ := hrel
      cases gk with
      | zero => exact absurd HA.out (by simp [impl_FirstExtension.l1])
      | succ k2 =>
       have H := HA.out
       clear HA
       simp only [impl_FirstExtension.l1] at H
       rcases iteE H with ⟨c20b0, H⟩ | ⟨c20b0, H⟩
       ·rcases iteP H with ⟨c21, H⟩ | ⟨c21, H⟩
        ·have c21b0 := eq_true c21
         have c21b1 : decide (0 ≤ x21_2) = true := decide_eq_true c21
         clear c21
         obtain ⟨ji22, hji22⟩ : ∃ j_ : Int, (shr .i64 x5_2 x21_2) = j_ := ⟨_, rfl⟩
         replace H : (if (Go.bits .and .i64 (ji22) 1) = 0 then (if x21_2 < (t1192.length : Int) then (if (Go.bits .andNot .i64 (rd t1192 x21_2) x5_2) = 0 then (if x4_2.length < 17592186044416 then (impl_FirstExtension.l0 k2 (x4_2 ++ [x21_2]) (Go.bits .or .i64 x5_2 (shl .i64 1 x21_2)) a0_0 l0_1 t1191 t1192) else (none)) else (impl_FirstExtension.l1 k2 x4_2 x5_2 a0_0 (wrap64 (x21_2 + 1)) a0_0 l0_1 t1191 t1192)) else (none)) else (impl_FirstExtension.l1 k2 x4_2 x5_2 a0_0 (wrap64 (x21_2 + 1)) a0_0 l0_1 t1191 t1192)) = some (r1, r2) := by first | (rw [hji22] at H; exact H) | (simp only [hji22] at H ⊢; exact H)
         have hji22_ : (x5_2 / 2 ^ min x21_2.toNat 64) = ji22 := hji22
         have hji22z : x21_2 ≤ 64 → (x5_2 / 2 ^ x21_2.toNat) = ji22 := shr_small hji22
         rcases iteP H with ⟨c23, H⟩ | ⟨c23, H⟩
         ·have c23b0 : ((Go.bits .and .i64 (ji22) 1) == 0) = true := beq_iff_eq.mpr c23
          have c23b1 : ((Go.bits .and .i64 (ji22) 1) != 0) = false := bne_eq_false_iff_eq.mpr c23
          clear c23
          rcases iteP H with ⟨c24, H⟩ | ⟨c24, H⟩
          ·have c24b0 : decide (x21_2 < (t1192.length : Int)) = true := decide_eq_true c24
           clear c24
           rcases iteP H with ⟨c25, H⟩ | ⟨c25, H⟩
           ·have c25b0 : ((Go.bits .andNot .i64 (rd t1192 x21_2) x5_2) == 0) = true := beq_iff_eq.mpr c25
            have c25b1 : ((Go.bits .andNot .i64 (rd t1192 x21_2) x5_2) != 0) = false := bne_eq_false_iff_eq.mpr c25
            clear c25
            rcases iteP H with ⟨c26, H⟩ | ⟨c26, H⟩
            ·have LMc26 := Aside0.mk c26
             clear c26
             obtain ⟨y1197, hy1197⟩ : ∃ y_ : List Int, y_ = (x4_2 ++ [x21_2]) := ⟨_, rfl⟩
             replace H : (impl_FirstExtension.l0 k2 y1197 (Go.bits .or .i64 x5_2 (shl .i64 1 x21_2)) a0_0 l0_1 t1191 t1192) = some (r1, r2) := by first | (rw [hy1197]; with_reducible exact H) | (have H2_ := (Option.bind_some _ _).symm.trans H; rw [hy1197]; with_reducible exact H2_) | (have H2_ := (Option.bind_some _ _).symm.trans H; with_reducible exact H2_) | with_reducible exact H | (rw [hy1197]; exact H) | exact H
             have Ny1197 := Aside0.mk hy1197
             clear hy1197
             have c27b0 := eq_true (ofd : 0 ≤ x21_2)
             obtain ⟨ji28, hji28⟩ : ∃ j_ : Int, (shl .i64 1 x21_2) = j_ := ⟨_, rfl⟩
             replace H : (impl_FirstExtension.l0 k2 y1197 (Go.bits .or .i64 x5_2 (ji28)) a0_0 l0_1 t1191 t1192) = some (r1, r2) := by first | (rw [hji28] at H; exact H) | (simp only [hji28] at H ⊢; exact H)
             have hji28_ : (IntKind.i64.wrap (1 * 2 ^ min x21_2.toNat 64)) = ji28 := hji28
             have hji28z : x21_2 ≤ 64 → (IntKind.i64.wrap (1 * 2 ^ x21_2.toNat)) = ji28 := shl_small hji28
             have hji28u : (IntKind.i64.wrap (2 ^ min x21_2.toNat 64)) = ji28 := by have h_ := hji28_; rw [Int.one_mul] at h_; exact h_
             have hji28v : x21_2 ≤ 64 → (IntKind.i64.wrap (2 ^ x21_2.toNat)) = ji28 := fun hle_ => by have h_ := hji28z hle_; rw [Int.one_mul] at h_; exact h_
             have hji28y : (wrap64 (1 * 2 ^ min x21_2.toNat 64)) = ji28 := (i64_w _).symm.trans hji28_
             have hji28x : x21_2 ≤ 64 → (wrap64 (1 * 2 ^ x21_2.toNat)) = ji28 := fun h_ => (i64_w _).symm.trans (hji28z h_)
             have H' := Aside0.mk H
             clear H
             have hnb29 := NB1195_1186.out
             have hnc29 := NB1186_1195.out
             obtain ⟨hcz30_0, hcz30_1, hfz30_0, hfz30_1⟩ := blk2 BK1195
             have p1196 : 0 ≤ (x21_2 : Int) := ofd
             have q1196 : x21_2 < (t1192.length : Int) := ofd
             obtain ⟨ad1196, e1196, hx1196_0⟩ := Kd.at_int (Kd.R_reads' HO_1196001.out).2.2 x21_2 p1196 q1196
             cases e1196
             replace p1196 := eq_true p1196
             replace q1196 := eq_true q1196
             try go_wp2
             replace HO_4 := Aside0.mk (Kd.R_drew HO_4.out)
             replace HO_1196001 := Aside0.mk (Kd.R_drew HO_1196001.out)
             replace BK1186 := Aside0.mk (blk_drew BK1186.out)
             replace BK1195 := Aside0.mk (blk_drew BK1195.out)
             replace HB := Aside0.mk (below_drew1 HB.out)
             refine start_ (n := 10) (S := fun w' => True) (ds := []) (bm 10 0) (by kernel_rfl) rfl (by kernel_rfl) trivial (fun hHeld => ?_); refine with_tabW impl_FirstExtension.tab9 impl_FirstExtension.bits9 (fun HT_ HW_ => ?_)
             generalize wr.drew = w31 at HO_4 HO_1196001 BK1186 BK1195 HB hHeld ⊢
             refine pureW 0 (some 39) (bm 10 1) HT_ ?_
             refine pureW 1 (some 40) (bm 10 3) HT_ ?_
             refine pureW 4 (some 43) (bm 10 19) HT_ ?_
             refine pureW 5 (some 44) (bm 10 51) HT_ ?_
             refine pureW 6 (some 45) (bm 10 115) HT_ ?_
             refine pureW 7 (some 46) (bm 10 243) HT_ ?_
             refine oneW 2 (some 41) (bm 10 247) HT_ (fun K hK => ?_)
             refine value_ (w1 := ?_) (v := ?_) (by rfl) rfl ?_ ?_
             rotate_left 2
             ·go_simp
              constructor
              ·rfl
              ·rfl
             refine hK.out _ _ trivial (fun hHeld => ?_)
             clear hK K
             refine normW 41 ?_
             refine oneW 3 (some 42) (bm 10 255) HT_ (fun K hK => ?_)
             refine Kd.R_append_step (Kd.int .i64) (w0 := w) w.heap.size (by rfl) (.tmp 39) (.tmp 41) 22 3 (.int .i64 0) 8 rfl Tryd.underlying22 info3 rfl (by decide) (by omega) u4 x4_2 x21_2 [.int .i64 x21_2] (fun k_ => some k_ ≠ (.slice (some ad1196) t1192.length co15 : Value).ownBlock) (fun _ => False) rfl rfl ?aP (fun _ hk => hk.elim) ?aF ?aO ?aB ?aS ?aL ?_
             (case aP => exact rfl)
             (case aB => exact (bel_g HB.out))
             (case aF => exact (fun k_ hk => Kd.fresh' (Kd.R_lt (Kd.R_g HO_1196001.out)) k_ hk))
             (case aO => exact (Kd.R_g HO_4.out))
             (case aS => exact (below_size (bel_g HB.out)))
             (case aL => have := LMc26.out; omega)
             intro v1198 w32 ho hb hg hat
             rw [← Ny1197.out] at ho
             replace HO_1196001 := Aside0.mk (Kd.R_after (ok := (fun _ => True)) (Kd.R_g (Kd.R_mono HO_1196001.out (fun _ hk => ⟨trivial, hk⟩))) hg hat)
             replace BK1186 := Aside0.mk (blk_grown (g := gb1186) (o := .cells #[.int .i64 a0_0, .slice A0_1 l0_1.length c0_1] 28 (0, 0)) (blk_g BK1186.out) hg (Kd.R_ne HO_4.out BK1186.out (by decide)))
             replace BK1195 := Aside0.mk (blk_grown (g := gb1195) (o := .cells #[.int .i64 t1191, .slice (some ad1196) t1192.length co15] 28 (0, 0)) (blk_g BK1195.out) hg (Kd.R_ne HO_4.out BK1195.out (by decide)))
             have HO1199 := Aside0.mk (ho)
             replace HB := Aside0.mk (hb)
             clear HO_4
             clear ho hb hg hat
             refine hK.out _ _ trivial (fun hHeld => ?_)
             clear hK K
             refine normW 42 ?_
             refine pureW 8 (some 4) (bm 10 511) HT_ ?_
             refine pureW 9 (some 5) (bm 10 1023) HT_ ?_
             refine doneW HT_ ?_
             try go_wp2
             go_roundg k2
             case measure => have := HK1.out; have := HK2.out; omega
             case rel => exact ⟨(y1197), (Go.bits .or .i64 x5_2 (ji28)), (by first | rfl | (simp; done) | (simp only [← hji28] <;> (first | rfl | simp)) | (simp [*]; done)), H', ⟨by have := HK1.out; have := HK2.out; omega⟩, ⟨Kd.R_g HO1199.out⟩, ⟨Kd.R_g (Kd.R_mono HO_1196001.out (fun _ hk => hk.2))⟩, ⟨blk_g BK1186.out⟩, ⟨blk_g BK1195.out⟩, ⟨bel_g HB.out⟩⟩
            ·exact absurd H (by simp)
           ·have c25b0 : ((Go.bits .andNot .i64 (rd t1192 x21_2) x5_2) == 0) = false := beq_eq_false_iff_ne.mpr c25
            have c25b1 : ((Go.bits .andNot .i64 (rd t1192 x21_2) x5_2) != 0) = true := bne_iff_ne.mpr c25
            have H' := Aside0.mk H
            clear H
            have hnb33 := NB1195_1186.out
            have hnc33 := NB1186_1195.out
            obtain ⟨hcz34_0, hcz34_1, hfz34_0, hfz34_1⟩ := blk2 BK1195
            have p1196 : 0 ≤ (x21_2 : Int) := ofd
            have q1196 : x21_2 < (t1192.length : Int) := ofd
            obtain ⟨ad1196, e1196, hx1196_0⟩ := Kd.at_int (Kd.R_reads' HO_1196001.out).2.2 x21_2 p1196 q1196
            cases e1196
            replace p1196 := eq_true p1196
            replace q1196 := eq_true q1196
            go_wp2
            go_roundg k2
            case measure => have := HK1.out; have := HK2.out; omega
            case rel => exact ⟨(x4_2), (x5_2), (wrap64 (x21_2 + 1)), eqS, eqS, H', ⟨by have := HK1.out; have := HK2.out; omega⟩, ⟨Kd.R_g HO_4.out⟩, ⟨Kd.R_g HO_1196001.out⟩, ⟨blk_g BK1186.out⟩, ⟨blk_g BK1195.out⟩, ⟨bel_g HB.out⟩⟩
          ·exact absurd H (by simp)
         ·have c23b0 : ((Go.bits .and .i64 (ji22) 1) == 0) = false := beq_eq_false_iff_ne.mpr c23
          have c23b1 : ((Go.bits .and .i64 (ji22) 1) != 0) = true := bne_iff_ne.mpr c23
          have H' := Aside0.mk H
          clear H
          go_wp2
          go_roundg k2
          case measure => have := HK1.out; have := HK2.out; omega
          case rel => exact ⟨(x4_2), (x5_2), (wrap64 (x21_2 + 1)), eqS, eqS, H', ⟨by have := HK1.out; have := HK2.out; omega⟩, ⟨Kd.R_g HO_4.out⟩, ⟨Kd.R_g HO_1196001.out⟩, ⟨blk_g BK1186.out⟩, ⟨blk_g BK1195.out⟩, ⟨bel_g HB.out⟩⟩
        ·exact absurd H (by simp)
       ·have H' := Aside0.mk H
        clear H
        go_wp2
        go_roundg k2
        case measure => have := HK1.out; have := HK2.out; omega
        case rel => exact ⟨(x4_2), (x5_2), eqS, H', ⟨by have := HK1.out; have := HK2.out; omega⟩, ⟨Kd.R_g HO_4.out⟩, ⟨Kd.R_g HO_1196001.out⟩, ⟨blk_g BK1186.out⟩, ⟨blk_g BK1195.out⟩, ⟨bel_g HB.out⟩⟩
    ·simp only [Option.some.injEq, Prod.mk.injEq] at H
     obtain ⟨rfl, rfl⟩ := H
     obtain ⟨Ao35, co35, eo35⟩ := Kd.R_slice HO_4.out
     subst eo35
     have hnb36 := NB1186_1195.out
     have hnc36 := NB1195_1186.out
     obtain ⟨hcz37_0, hcz37_1, hfz37_0, hfz37_1⟩ := blk2 BK1186
     go_wp2
     go_ret2
     exact ⟨_, eqE, by (with_reducible repeat (first | apply Kd.R_alloc | apply Kd.R_drewN | apply Kd.R_drew)); exact Kd.R_mono HO_4.out (fun _ hk => trivial), bel_g HB.out⟩
 ·replace c3 := Bool.eq_false_iff.mpr c3
  subst c3
  replace H := ifF H
  simp only [Option.some.injEq, Prod.mk.injEq] at H
  obtain ⟨rfl, rfl⟩ := H
  go_enter Tryd.func62, Tryd.ntmps62
  go_wp2_with (first | ((with_reducible refine gate_dst (N := 1) rfl ?_); refine boxE (N := 1) (cs := #[.int .i64 a0_0, .slice A0_1 l0_1.length c0_1]) (t := 28) ?_; intro gb1186 hg w38 hbox hb; have BK1186 := Aside0.mk (hbox); have GE1186 := geB HB hg; replace HB := bst HB hb; clear hb hbox hg; obtain ⟨hcz39_0, hcz39_1, hfz39_0, hfz39_1⟩ := blk2 BK1186) | ((with_reducible refine gate_callee (f := 45) rfl ?_); refine goesQ (some 9) Tryd.func45 #[.agg #[.int .i64 a0_0, .slice A0_1 l0_1.length c0_1]] ?_; (with_reducible refine (impl_IsOrder.calls k a0_0 _ _ l0_1 false _ ?side1 ?side2 ?side3 A2.out).mono ?_); (case side1 => exact C_g HR0_1 HB); (case side2 => exact HC0_1.out); (case side3 => first | exact HTAB.out | exact Tab.drewN HTAB.out _ | exact Tab.below HTAB.out (bel_g HB.out) | exact Tab.below HTAB.out (by repeat (first | exact Below.refl _ _ | apply below_alloc | apply pw_below_drewN | apply below_drew1))); rintro e w40 ⟨rfl, hb⟩; refine ⟨_, rfl, ?_⟩; replace BK1186 := blkB BK1186 hb; replace HB := bst HB hb; (try clear hb); (try clear hk)))
  go_ret2
  exact ⟨_, eqE, by first | exact Kd.R_nil _ _ _ _ _ | exact Kd.N_nil _ _ _ _ _ | exact Kd.V_nil _ _ _ _ _ | exact Kd.Q_nil _ _ _ _ _ | exact Kd.S_nil _ _ _ _ _, bel_g HB.out⟩

end Go.Proofs.YteechpappfagpaaDoor.Q
