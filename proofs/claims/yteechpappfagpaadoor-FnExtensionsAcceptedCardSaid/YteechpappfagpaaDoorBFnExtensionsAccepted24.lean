import Derived.Test.YteechpappfagpaaDoorBFnExtensionsAccepted0
import Derived.Test.YteechpappfagpaaDoorBFnExtensionsAccepted4
import Derived.Test.YteechpappfagpaaDoorBFnExtensionsAccepted6
import Derived.Test.YteechpappfagpaaDoorBFnExtensionsAccepted14
import Derived.Test.YteechpappfagpaaDoorBFnExtensionsAccepted18
import Derived.Test.YteechpappfagpaaDoorBFnExtensionsAccepted23
namespace Go.Proofs.YteechpappfagpaaDoor.Pure
open Go.RowKit Go.Proofs.YteechpappfagpaaDoor.Q Go.Proofs.YteechpappfagpaaDoorW.PrintWords Go.Proofs.YteechpappfagpaaDoorW.PrintLast
set_option linter.unusedVariables false
set_option linter.unusedSimpArgs false

theorem isNaming_l {N : Nat} (hN : N ≤ 10) (l : List Int) (hl : l.length ≤ 1000) (h : ∀ x ∈ l, 0 ≤ x ∧ x ≤ (N : Int) - 1) (d : Nat) : ∀ i : Nat, i + d = l.length → Ev (fun k => impl_isNaming.l0 k l (N : Int) (setL (l.take i)) l (l.length : Int) (i : Int)) (decide (namP (N : Int) l)) := by
  induction d with
  | zero =>
    intro i hi
    rw [List.take_of_length_le (by omega)]
    refine Ev.shift ?_
    simp only [impl_isNaming.l0]
    refine Ev.neg (by omega) ?_
    by_cases h2 : (l.length : Int) = N
    · refine Ev.pos h2 (Ev.pos (by omega) (Ev.ret ?_))
      rw [Bool.eq_iff_iff, beq_iff_eq, decide_eq_true_iff]
      exact ⟨fun h3 => ⟨h2, h, h3⟩, fun h3 => h3.2.2⟩
    · refine Ev.neg h2 (Ev.ret ?_)
      symm; rw [decide_eq_false_iff_not]; exact fun h3 => h2 h3.1
  | succ d ih =>
    intro i hi
    have e := ih (i + 1) (by omega)
    rw [take_snoc l i (by omega), setL_snoc] at e
    obtain ⟨m, hm, hm2⟩ := rd_in h (k := i) (by omega)
    have f0 : 0 ≤ rd l (i : Int) := by omega
    refine Ev.shift ?_
    simp only [impl_isNaming.l0]
    refine Ev.pos (by omega) (Ev.pos (by omega) (Ev.pos (by omega) (Ev.pos f0 ?_)))
    rw [wrap64_id (by omega) (by omega), cast1]; exact e
theorem isNaming_ev {N : Nat} (hN : N ≤ 10) (l : List Int) (hl : l.length ≤ 1000) : Ev (fun k => impl_isNaming.f k l (N : Int)) (decide (namP (N : Int) l)) := by
  unfold impl_isNaming.f
  rw [wrap64_id (by omega) (by omega)]
  refine Ev.bind (allWithin_ev 0 ((N : Int) - 1) l (by omega)) ?_
  by_cases h : ∀ x ∈ l, 0 ≤ x ∧ x ≤ (N : Int) - 1
  · exact Ev.pos (by simpa using h) (isNaming_l hN l hl h l.length 0 (by omega))
  · refine Ev.neg (by simpa using h) (Ev.ret ?_)
    symm; rw [decide_eq_false_iff_not]; exact fun h3 => h h3.2.1

end Go.Proofs.YteechpappfagpaaDoor.Pure

namespace Go.Proofs.YteechpappfagpaaDoor.Pure
open Go.RowKit Go.Proofs.YteechpappfagpaaDoor.Q Go.Proofs.YteechpappfagpaaDoorW.PrintWords Go.Proofs.YteechpappfagpaaDoorW.PrintLast
set_option linter.unusedVariables false
set_option linter.unusedSimpArgs false

theorem orSet_l (l : List Int) (hl : l.length ≤ 1000) (h : ∀ x ∈ l, 0 ≤ x ∧ x < 10) (d : Nat) : ∀ i : Nat, i + d = l.length → Ev (fun k => spec_orSet.l0 k (setL (l.take i)) l (l.length : Int) (i : Int)) (setL l) := by
  induction d with
  | zero =>
    intro i hi
    rw [List.take_of_length_le (by omega)]
    refine Ev.shift ?_
    simp only [spec_orSet.l0]
    exact Ev.neg (by omega) (Ev.ret rfl)
  | succ d ih =>
    intro i hi
    have e := ih (i + 1) (by omega)
    rw [take_snoc l i (by omega), setL_snoc] at e
    have hr := h (rd l (i : Int)) (by rw [rd_lt l i (by omega)]; exact List.getElem_mem _)
    refine Ev.shift ?_
    simp only [spec_orSet.l0]
    refine Ev.pos (by omega) (Ev.pos (by omega) (Ev.pos (by omega) (Ev.pos hr.1 ?_)))
    rw [wrap64_id (by omega) (by omega), cast1]; exact e
theorem orSet_ev (l : List Int) (hl : l.length ≤ 1000) (h : ∀ x ∈ l, 0 ≤ x ∧ x < 10) : Ev (fun k => spec_orSet.f k l) (setL l) := by
  unfold spec_orSet.f
  exact orSet_l l hl h l.length 0 (by omega)
theorem orNames_ev {N : Nat} (hN : N ≤ 10) (l : List Int) (hl : l.length ≤ 1000) : Ev (fun k => spec_orNames.f k (N : Int) l) (decide (namP (N : Int) l)) := by
  unfold spec_orNames.f
  rw [wrap64_id (by omega) (by omega)]
  by_cases h2 : (l.length : Int) = N
  · refine Ev.pos h2 (Ev.bind (l1All_ev 0 ((N : Int) - 1) l (by omega)) ?_)
    by_cases h : ∀ x ∈ l, 0 ≤ x ∧ x ≤ (N : Int) - 1
    · refine Ev.pos (by simpa using h) (Ev.bind (orSet_ev l hl (fun x hx => by have := h x hx; omega)) (Ev.pos (by omega) (Ev.ret ?_)))
      rw [Bool.eq_iff_iff, beq_iff_eq, decide_eq_true_iff]
      exact ⟨fun h3 => ⟨h2, h, h3⟩, fun h3 => h3.2.2⟩
    · refine Ev.neg (by simpa using h) (Ev.ret ?_)
      symm; rw [decide_eq_false_iff_not]; exact fun h3 => h h3.2.1
  · refine Ev.neg h2 (Ev.ret ?_)
    symm; rw [decide_eq_false_iff_not]; exact fun h3 => h2 h3.1

end Go.Proofs.YteechpappfagpaaDoor.Pure

-- printed by this project's own program (wip/mp/mp.py) over the kit's print, for this seat; Lean checks it
namespace Go.Proofs.YteechpappfagpaaDoor.Q
open Go.RowKit Go.Proofs.YteechpappfagpaaDoorW.PrintWords Go.Proofs.YteechpappfagpaaDoorW.PrintLast Go.Proofs.YteechpappfagpaaDoorW.PrintMore
attribute [local go_sem] max2_int min2_int max_two min_two max_three min_three max_four min_four   -- for this text's walks alone
set_option linter.unusedVariables false
set_option maxHeartbeats 8000000
set_option maxRecDepth 100000
set_option linter.unusedSimpArgs false

/-! ### impl_Order_all: function 124 -/
def impl_Order_all.f (a0_0 : Int) (l0_1 : List Int) : Option (Int) := if 0 ≤ a0_0 then (some (wrap64 ((shl .i64 1 a0_0) - 1))) else (none)
theorem impl_Order_all.calls (a0_0 : Int) (A0_1 : Option Addr) (c0_1 : Nat) (l0_1 : List Int) (r : Int) (w : World) (hr0_1 : Kd.C (Kd.int .i64) w A0_1 l0_1.length l0_1) (hc0_1 : l0_1.length ≤ c0_1) (h : impl_Order_all.f a0_0 l0_1 = some r) :
  Calls Tryd.prog 124 #[.agg #[.int .i64 a0_0, .slice A0_1 l0_1.length c0_1]] w fun e w' => e = .returned (.int .i64 r) ∧ Below w.heap.size w w' := by
 have hu28 := Tryd.underlying28
 have HR0_1 := Aside0.mk hr0_1
 have HC0_1 := Aside0.mk hc0_1
 clear hr0_1 hc0_1
 have HB := Aside0.mk (Below.refl w.heap.size w)
 have H : (if 0 ≤ a0_0 then (some (wrap64 ((shl .i64 1 a0_0) - 1))) else (none)) = some r := h
 clear h
 rcases iteP H with ⟨c2, H⟩ | ⟨c2, H⟩
 ·have c2b0 := eq_true c2
  have c2b1 : decide (0 ≤ a0_0) = true := decide_eq_true c2
  clear c2
  obtain ⟨ji3, hji3⟩ : ∃ j_ : Int, (shl .i64 1 a0_0) = j_ := ⟨_, rfl⟩
  replace H : (some (wrap64 ((ji3) - 1))) = some r := by first | (rw [hji3] at H; exact H) | (simp only [hji3] at H ⊢; exact H)
  have hji3_ : (IntKind.i64.wrap (1 * 2 ^ min a0_0.toNat 64)) = ji3 := hji3
  have hji3z : a0_0 ≤ 64 → (IntKind.i64.wrap (1 * 2 ^ a0_0.toNat)) = ji3 := shl_small hji3
  have hji3u : (IntKind.i64.wrap (2 ^ min a0_0.toNat 64)) = ji3 := by have h_ := hji3_; rw [Int.one_mul] at h_; exact h_
  have hji3v : a0_0 ≤ 64 → (IntKind.i64.wrap (2 ^ a0_0.toNat)) = ji3 := fun hle_ => by have h_ := hji3z hle_; rw [Int.one_mul] at h_; exact h_
  have hji3y : (wrap64 (1 * 2 ^ min a0_0.toNat 64)) = ji3 := (i64_w _).symm.trans hji3_
  have hji3x : a0_0 ≤ 64 → (wrap64 (1 * 2 ^ a0_0.toNat)) = ji3 := fun h_ => (i64_w _).symm.trans (hji3z h_)
  obtain rfl := Option.some.inj H
  go_enter Tryd.func124, Tryd.ntmps124
  go_wp2_with (first | ((with_reducible refine gate_dst (N := 1) rfl ?_); refine boxE (N := 1) (cs := #[.int .i64 a0_0, .slice A0_1 l0_1.length c0_1]) (t := 28) ?_; intro gb418 hg w4 hbox hb; have BK418 := Aside0.mk (hbox); have GE418 := geB HB hg; replace HB := bst HB hb; clear hb hbox hg; obtain ⟨hcz5_0, hcz5_1, hfz5_0, hfz5_1⟩ := blk2 BK418))
  go_ret
  exact ⟨by first | rfl | (simp [errW_none, errW_some] <;> rfl) | (simp only [← hji3]; first | rfl | (simp [errW_none, errW_some] <;> rfl)) | (simp [*, errW_none, errW_some] <;> rfl), bel_g HB.out⟩
 ·exact absurd H (by simp)

end Go.Proofs.YteechpappfagpaaDoor.Q

-- printed by this project's own program (wip/mp/mp.py) over the kit's print, for this seat; Lean checks it
namespace Go.Proofs.YteechpappfagpaaDoor.Q
open Go.RowKit Go.Proofs.YteechpappfagpaaDoorW.PrintWords Go.Proofs.YteechpappfagpaaDoorW.PrintLast Go.Proofs.YteechpappfagpaaDoorW.PrintMore
attribute [local go_sem] max2_int min2_int max_two min_two max_three min_three max_four min_four   -- for this text's walks alone
set_option linter.unusedVariables false
set_option maxHeartbeats 8000000
set_option maxRecDepth 100000
set_option linter.unusedSimpArgs false

/-! ### impl_Order_indifferent: function 115 -/
def impl_Order_indifferent.l0 : Nat → List Int → Int → Int → Int → List Int → Int → List Int → Option (List Int)
 | 0, _, _, _, _, _, _, _ => none
 | k + 1, x3, x10, x11, x420000, x420001, x428000, x428001 => if x11 < x10 then ((impl_Order_all.f x420000 x420001).bind fun t428 => (if 0 ≤ x11 then (if x11 < (x420001.length : Int) then (if x11 < (x428001.length : Int) then (if x3.length < 17592186044416 then (impl_Order_indifferent.l0 k (x3 ++ [Go.bits .andNot .i64 (Go.bits .andNot .i64 (Go.bits .andNot .i64 t428 (rd x420001 x11)) (rd x428001 x11)) (shl .i64 1 x11)]) x10 (wrap64 (x11 + 1)) x420000 x420001 x428000 x428001) else (none)) else (none)) else (none)) else (none))) else (some x3)
def impl_Order_indifferent.f (k : Nat) (a0_0 : Int) (l0_1 : List Int) : Option (List Int) := (impl_Order_mirror.f k a0_0 l0_1).bind fun bt423 => (impl_Order_indifferent.l0 k (([] : List Int)) a0_0 0 a0_0 l0_1 bt423.1 bt423.2)
theorem impl_Order_indifferent.mono_l : ∀ k, (∀ y0 y1 y2 y3 y4 y5 y6, LeO (impl_Order_indifferent.l0 k y0 y1 y2 y3 y4 y5 y6) (impl_Order_indifferent.l0 (k + 1) y0 y1 y2 y3 y4 y5 y6))
 | 0 => fun _ _ _ _ _ _ _ r h => by simp [impl_Order_indifferent.l0] at h
 | k + 1 => by
  have ih0 := impl_Order_indifferent.mono_l k
  ·intro y0 y1 y2 y3 y4 y5 y6
   unfold impl_Order_indifferent.l0
   repeat' (with_reducible first|exact ih0 _ _ _ _ _ _ _|exact impl_Order_mirror.mono _ _ _|exact LeO.refl _|exact LeO.none _|refine LeO.ite ?_ ?_|refine LeO.bind ?_ (fun _ => ?_))
theorem impl_Order_indifferent.mono : ∀ a0 a1 k, LeO (impl_Order_indifferent.f k a0 a1) (impl_Order_indifferent.f (k + 1) a0 a1) := by
 intro a0 a1 k
 have ih0 := impl_Order_indifferent.mono_l k
 unfold impl_Order_indifferent.f
 repeat' (with_reducible first|exact ih0 _ _ _ _ _ _ _|exact impl_Order_mirror.mono _ _ _|exact LeO.refl _|exact LeO.none _|refine LeO.ite ?_ ?_|refine LeO.bind ?_ (fun _ => ?_))
def impl_Order_indifferent.T5 : Bool × List (List Nat × List Nat) := (true, [([], []), ([], []), ([1], [1]), ([], []), ([3], [3]), ([], []), ([4, 5], [4, 5]), ([6], [6]), ([2, 7], [2, 7]), ([], []), ([9], [9]), ([], []), ([10, 11], [10, 11]), ([12], [12]), ([8, 13], [8, 13]), ([], []), ([15], [15]), ([14, 16], [14, 16]), ([17], [17]), ([0, 18, 2], [0, 18]), ([19, 19, 0, 1, 2, 3, 4, 5, 6, 7, 8, 9, 10, 11, 12, 13, 14, 15, 16, 17, 18, 19], [0, 19])])
def impl_Order_indifferent.B5 : List Nat := [0, 0, 2, 0, 8, 0, 56, 120, 254, 0, 512, 0, 3584, 7680, 16382, 0, 32768, 131070, 262142, 524287, 1048575]
theorem impl_Order_indifferent.tab5 : rtab .any (opsOf Tryd.f115 5) = impl_Order_indifferent.T5 := by kernel_rfl
theorem impl_Order_indifferent.bits5 : waitsOk impl_Order_indifferent.T5.2 impl_Order_indifferent.B5 = true := by kernel_rfl
theorem impl_Order_indifferent.calls (k : Nat) (a0_0 : Int) (A0_1 : Option Addr) (c0_1 : Nat) (l0_1 : List Int) (r : List Int) (w : World) (hr0_1 : Kd.C (Kd.int .i64) w A0_1 l0_1.length l0_1) (hc0_1 : l0_1.length ≤ c0_1) (h : impl_Order_indifferent.f k a0_0 l0_1 = some r) :
  Calls Tryd.prog 115 #[.agg #[.int .i64 a0_0, .slice A0_1 l0_1.length c0_1]] w fun e w' => ∃ v0_ : Value, e = .returned (v0_) ∧ Kd.R (Kd.int .i64) 3 w' w.heap.size (fun _ => True) v0_ r ∧ Below w.heap.size w w' := by
 have hu28 := Tryd.underlying28
 have HR0_1 := Aside0.mk hr0_1
 have HC0_1 := Aside0.mk hc0_1
 clear hr0_1 hc0_1
 have HB := Aside0.mk (Below.refl w.heap.size w)
 have H : ((impl_Order_mirror.f k a0_0 l0_1).bind fun bt423 => (impl_Order_indifferent.l0 k (([] : List Int)) a0_0 0 a0_0 l0_1 bt423.1 bt423.2)) = some r := h
 clear h
 obtain ⟨y420, hy420⟩ : ∃ y_ : List Int, y_ = (([] : List Int)) := ⟨_, rfl⟩
 replace H : ((impl_Order_mirror.f k a0_0 l0_1).bind fun bt423 => (impl_Order_indifferent.l0 k y420 a0_0 0 a0_0 l0_1 bt423.1 bt423.2)) = some r := by first | (rw [hy420]; with_reducible exact H) | (have H2_ := (Option.bind_some _ _).symm.trans H; rw [hy420]; with_reducible exact H2_) | (have H2_ := (Option.bind_some _ _).symm.trans H; with_reducible exact H2_) | with_reducible exact H | (rw [hy420]; exact H) | exact H
 have Ny420 := Aside0.mk hy420
 clear hy420
 obtain ⟨⟨t423, t424⟩, A2, H⟩ := obE H
 dsimp only at H
 have H' := Aside0.mk H
 clear H
 go_enter Tryd.func115, Tryd.ntmps115
 go_wp2_with (first | ((with_reducible refine gate_dst (N := 1) rfl ?_); refine boxE (N := 1) (cs := #[.int .i64 a0_0, .slice A0_1 l0_1.length c0_1]) (t := 28) ?_; intro gb419 hg w3 hbox hb; have BK419 := Aside0.mk (hbox); have GE419 := geB HB hg; replace HB := bst HB hb; clear hb hbox hg) | ((with_reducible refine gate_dst (N := 6) rfl ?_); refine Kd.R_lit (Kd.int .i64) _ 3 ?hg (N := 6) ?hd (xs := ([] : List Int)) (inner := []) (ok := fun _ => True) (okp := fun _ => True) ?hr ?hp (fun _ hk => hk) trivial (Below.refl _ _) (Nat.le_refl _) (by simp) ?_; (case hd => rfl); (case hg => rfl); (case hr => first | (go_simp; done) | (go_simp; rfl)); (case hp => exact (Reps.none _ _)); intro v421 w4 ho5 hb hg_ hnew_; clear hg_ hnew_; (first | rw [← Ny420.out] at ho5 | (simp only [Int.reduceToNat] at ho5; rw [← Ny420.out] at ho5)); have HO422 := Aside0.mk (Kd.R_lower ho5 (below_size (bel_g HB.out))); replace BK419 := blkB BK419 hb; replace HB := bst HB hb; clear hb ho5; obtain ⟨hcz6_0, hcz6_1, hfz6_0, hfz6_1⟩ := blk2 BK419) | ((with_reducible refine gate_callee (f := 110) rfl ?_); refine goesQ (some 8) Tryd.func110 #[.agg #[.int .i64 a0_0, .slice A0_1 l0_1.length c0_1]] ?_; (with_reducible refine (impl_Order_mirror.calls k a0_0 _ _ l0_1 t423 t424 _ ?side1 ?side2 A2.out).mono ?_); (case side1 => exact C_g HR0_1 HB); (case side2 => exact HC0_1.out); rintro e w7 ⟨v425, rfl, ho0, hb⟩; refine ⟨_, rfl, ?_⟩; have HO426 := Aside0.mk (Kd.R_lower (Kd.R_new' ho0 (Kd.R_lt (Kd.R_g HO422.out))) (below_size (bel_g HB.out))); replace HO422 := Aside0.mk (Kd.R_elder' (Kd.R_g HO422.out) (Kd.R_base ho0) hb); replace BK419 := blkB BK419 hb; replace HB := bst HB hb; (try clear hb); (try clear hk); (try clear ho0)) | ((with_reducible refine gate_dst (N := 4) rfl ?_); refine boxE (N := 4) (cs := #[.int .i64 0, .slice none 0 0]) (t := 28) ?_; intro gb427 hg w8 hbox hb; replace HO422 := Aside0.mk (Kd.R_below (Kd.R_g HO422.out) hb); replace HO426 := Aside0.mk (Kd.R_below (Kd.R_g HO426.out) hb); have BK427 := Aside0.mk (hbox); have GE427 := geB HB hg; have NB419_427 := neL BK419 hg; have NB427_419 := neR BK419 hg; replace BK419 := blkB BK419 hb; replace HB := bst HB hb; clear hb hbox hg; have hnb9 := NB427_419.out; have hnc9 := NB419_427.out; obtain ⟨hcz10_0, hcz10_1, hfz10_0, hfz10_1⟩ := blk2 BK427; obtain ⟨Ao11, co11, eo11⟩ := Kd.R_slice HO426.out; subst eo11; obtain ⟨hcz12_0, hcz12_1, hfz12_0, hfz12_1⟩ := blk2 BK419))
 go_loopg [3, 11] k (fun kq v3 v11 w' => ∃ (x3_1 : List Int) (x11_1 : Int), v11 = .int .i64 x11_1 ∧ Aside0 (impl_Order_indifferent.l0 kq x3_1 a0_0 x11_1 a0_0 l0_1 t423 t424 = some r) ∧ Aside0 (kq ≤ k) ∧ Aside0 (Kd.R (Kd.int .i64) 3 w' w.heap.size (fun k_ => some k_ ≠ ((.slice Ao11 t424.length co11) : Value).ownBlock) v3 x3_1) ∧ Aside0 (Kd.R (Kd.int .i64) 3 w' w.heap.size (fun k_ => some k_ ≠ (v3 : Value).ownBlock) (.slice Ao11 t424.length co11) t424) ∧ Aside0 (w'.heap[gb419]? = some (.cells #[.int .i64 a0_0, (.slice A0_1 l0_1.length c0_1)] 28 (0, 0))) ∧ Aside0 (w'.heap[gb427]? = some (.cells #[.int .i64 t423, (.slice Ao11 t424.length co11)] 28 (0, 0))) ∧ Aside0 (Below w.heap.size w w'))
 case atStart => exact ⟨(y420), (0), eqS, H', ⟨Nat.le_refl _⟩, ⟨Kd.R_g (Kd.R_mono (Kd.R_far (p := ⟨gb427, 1, none⟩) (Kd.R_far (p := ⟨gb427, 0, none⟩) (Kd.R_types HO422.out BK427.out (by decide)) (fun _ hk => hk.2) (.int .i64 t423)) (fun _ hk => hk.2) (.slice Ao11 t424.length co11)) (fun _ hk => hk.1.2))⟩, ⟨Kd.R_g (Kd.R_mono (Kd.R_far (p := ⟨gb427, 1, none⟩) (Kd.R_far (p := ⟨gb427, 0, none⟩) (Kd.R_types HO426.out BK427.out (by decide)) (fun _ hk => hk.2) (.int .i64 t423)) (fun _ hk => hk.2) (.slice Ao11 t424.length co11)) (fun _ hk => hk.1.2))⟩, ⟨by (with_reducible repeat (first | refine blk_drewN ?_ _ | refine blk_drew ?_ | refine blk_alloc ?_ _)); refine blk_far ?_ NB419_427.out _; (with_reducible repeat (first | refine blk_drewN ?_ _ | refine blk_drew ?_ | refine blk_alloc ?_ _)); refine blk_far ?_ NB419_427.out _; (with_reducible repeat (first | refine blk_drewN ?_ _ | refine blk_drew ?_ | refine blk_alloc ?_ _)); exact BK419.out⟩, ⟨by (with_reducible repeat (first | refine blk_drewN ?_ _ | refine blk_drew ?_ | refine blk_alloc ?_ _)); refine blk_put (cs := #[.int .i64 t423, .slice none 0 0]) ?_ 1 _ rfl; (with_reducible repeat (first | refine blk_drewN ?_ _ | refine blk_drew ?_ | refine blk_alloc ?_ _)); refine blk_put (cs := #[.int .i64 0, .slice none 0 0]) ?_ 0 _ rfl; (with_reducible repeat (first | refine blk_drewN ?_ _ | refine blk_drew ?_ | refine blk_alloc ?_ _)); exact BK427.out⟩, ⟨bel_g HB.out⟩⟩
 case round =>
  clear H'
  try clear hcz10_0
  try clear hcz10_1
  try clear hcz12_0
  try clear hcz12_1
  try clear hcz6_0
  try clear hcz6_1
  try clear hfz10_0
  try clear hfz10_1
  try clear hfz12_0
  try clear hfz12_1
  try clear hfz6_0
  try clear hfz6_1
  obtain ⟨x3_1, x11_1, rfl, HA, HK1, HO_3, HO_428001, BK419, BK427, HB⟩ := hrel
  cases gk with
  | zero => exact absurd HA.out (by simp [impl_Order_indifferent.l0])
  | succ k1 =>
   have H := HA.out
   clear HA
   simp only [impl_Order_indifferent.l0] at H
   rcases iteE H with ⟨c13b0, H⟩ | ⟨c13b0, H⟩
   ·obtain ⟨t428, A14, H⟩ := obE H
    rcases iteP H with ⟨c15, H⟩ | ⟨c15, H⟩
    ·have c15b0 : decide (0 ≤ x11_1) = true := decide_eq_true c15
     clear c15
     rcases iteP H with ⟨c16, H⟩ | ⟨c16, H⟩
     ·have c16b0 : decide (x11_1 < (l0_1.length : Int)) = true := decide_eq_true c16
      clear c16
      rcases iteP H with ⟨c17, H⟩ | ⟨c17, H⟩
      ·have c17b0 : decide (x11_1 < (t424.length : Int)) = true := decide_eq_true c17
       clear c17
       have c18b0 := eq_true (ofd : 0 ≤ x11_1)
       obtain ⟨ji19, hji19⟩ : ∃ j_ : Int, (shl .i64 1 x11_1) = j_ := ⟨_, rfl⟩
       replace H : (if x3_1.length < 17592186044416 then (impl_Order_indifferent.l0 k1 (x3_1 ++ [Go.bits .andNot .i64 (Go.bits .andNot .i64 (Go.bits .andNot .i64 t428 (rd l0_1 x11_1)) (rd t424 x11_1)) (ji19)]) a0_0 (wrap64 (x11_1 + 1)) a0_0 l0_1 t423 t424) else (none)) = some r := by first | (rw [hji19] at H; exact H) | (simp only [hji19] at H ⊢; exact H)
       (try rw [hji19] at A14)
       have hji19_ : (IntKind.i64.wrap (1 * 2 ^ min x11_1.toNat 64)) = ji19 := hji19
       have hji19z : x11_1 ≤ 64 → (IntKind.i64.wrap (1 * 2 ^ x11_1.toNat)) = ji19 := shl_small hji19
       have hji19u : (IntKind.i64.wrap (2 ^ min x11_1.toNat 64)) = ji19 := by have h_ := hji19_; rw [Int.one_mul] at h_; exact h_
       have hji19v : x11_1 ≤ 64 → (IntKind.i64.wrap (2 ^ x11_1.toNat)) = ji19 := fun hle_ => by have h_ := hji19z hle_; rw [Int.one_mul] at h_; exact h_
       have hji19y : (wrap64 (1 * 2 ^ min x11_1.toNat 64)) = ji19 := (i64_w _).symm.trans hji19_
       have hji19x : x11_1 ≤ 64 → (wrap64 (1 * 2 ^ x11_1.toNat)) = ji19 := fun h_ => (i64_w _).symm.trans (hji19z h_)
       rcases iteP H with ⟨c20, H⟩ | ⟨c20, H⟩
       ·have LMc20 := Aside0.mk c20
        clear c20
        obtain ⟨y431, hy431⟩ : ∃ y_ : List Int, y_ = (x3_1 ++ [Go.bits .andNot .i64 (Go.bits .andNot .i64 (Go.bits .andNot .i64 t428 (rd l0_1 x11_1)) (rd t424 x11_1)) (ji19)]) := ⟨_, rfl⟩
        replace H : (impl_Order_indifferent.l0 k1 y431 a0_0 (wrap64 (x11_1 + 1)) a0_0 l0_1 t423 t424) = some r := by first | (rw [hy431]; with_reducible exact H) | (have H2_ := (Option.bind_some _ _).symm.trans H; rw [hy431]; with_reducible exact H2_) | (have H2_ := (Option.bind_some _ _).symm.trans H; with_reducible exact H2_) | with_reducible exact H | (rw [hy431]; exact H) | exact H
        have Ny431 := Aside0.mk hy431
        clear hy431
        have H' := Aside0.mk H
        clear H
        try go_wp2
        replace HO_3 := Aside0.mk (Kd.R_drew HO_3.out)
        replace HO_428001 := Aside0.mk (Kd.R_drew HO_428001.out)
        replace BK419 := Aside0.mk (blk_drew BK419.out)
        replace BK427 := Aside0.mk (blk_drew BK427.out)
        replace HB := Aside0.mk (below_drew1 HB.out)
        have p429 : 0 ≤ (x11_1 : Int) := ofd
        have q429 : x11_1 < (l0_1.length : Int) := ofd
        obtain ⟨ad429, e429, hx429_0⟩ := Kd.at_int HR0_1.out x11_1 p429 q429
        have hw429_0 := hx429_0
        cases e429
        replace hx429_0 := (HB.out.cell (World.block_lt_of_cell? w _ hx429_0)).trans hx429_0
        replace p429 := eq_true p429
        replace q429 := eq_true q429
        have p430 : 0 ≤ (x11_1 : Int) := ofd
        have q430 : x11_1 < (t424.length : Int) := ofd
        obtain ⟨ad430, e430, hx430_0⟩ := Kd.at_int (Kd.R_reads' HO_428001.out).2.2 x11_1 p430 q430
        cases e430
        replace p430 := eq_true p430
        replace q430 := eq_true q430
        refine start_ (n := 21) (S := fun w' => w'.cell? ⟨gb419, 0, none⟩ = some (.int .i64 a0_0) ∧ w'.cell? ⟨gb419, 1, none⟩ = some (.slice (some ad429) l0_1.length c0_1) ∧ w'.cell? ⟨gb427, 0, none⟩ = some (.int .i64 t423) ∧ w'.cell? ⟨gb427, 1, none⟩ = some (.slice (some ad430) t424.length co11) ∧ w'.cell? (ad429.add (x11_1).toNat) = some (.int .i64 (rd l0_1 x11_1)) ∧ w'.cell? (ad430.add (x11_1).toNat) = some (.int .i64 (rd t424 x11_1))) (ds := [18, 19]) (bm 21 0) (by kernel_rfl) rfl rfl ⟨(blk_cell BK419.out 0).trans rfl, (blk_cell BK419.out 1).trans rfl, (blk_cell BK427.out 0).trans rfl, (blk_cell BK427.out 1).trans rfl, ((HB.out.cell (World.block_lt_of_cell? w _ hw429_0)).trans hw429_0), hx430_0⟩ (fun hHeld => ?_); refine with_tabW impl_Order_indifferent.tab5 impl_Order_indifferent.bits5 (fun HT_ HW_ => ?_)
        generalize wr.drew = w21 at HO_3 HO_428001 BK419 BK427 HB hx429_0 hx430_0 hHeld ⊢
        refine pureW 0 (some 14) (bm 21 1) HT_ ?_
        refine pureW 3 (some 17) (bm 21 9) HT_ ?_
        refine pureW 5 (some 19) (bm 21 41) HT_ ?_
        refine pureW 9 (some 23) (bm 21 553) HT_ ?_
        refine pureW 11 (some 25) (bm 21 2601) HT_ ?_
        refine pureW 15 (some 29) (bm 21 35369) HT_ ?_
        refine pureW 16 (some 30) (bm 21 100905) HT_ ?_
        refine takeW 1 (some 15) (bm 21 100907) HT_ HW_ hHeld ?_
        refine takeW 4 (some 18) (bm 21 100923) HT_ HW_ hHeld ?_
        refine pureW 6 (some 20) (bm 21 100987) HT_ ?_
        refine takeW 7 (some 21) (bm 21 101115) HT_ HW_ hHeld ?_
        refine takeW 10 (some 24) (bm 21 102139) HT_ HW_ hHeld ?_
        refine pureW 12 (some 26) (bm 21 106235) HT_ ?_
        refine takeW 13 (some 27) (bm 21 114427) HT_ HW_ hHeld ?_
        refine oneW 2 (some 16) (bm 21 114431) HT_ (fun K hK => ?_)
        refine goesR Tryd.func124 #[.agg #[.int .i64 a0_0, .slice (some ad429) l0_1.length c0_1]] ?_
        with_reducible refine (impl_Order_all.calls a0_0 _ _ l0_1 t428 _ ?side1 ?side2 A14.out).mono ?_
        (case side1 => exact C_g HR0_1 HB)
        (case side2 => exact HC0_1.out)
        rintro e w22 ⟨rfl, hb⟩
        have HS5_ := (hb.cell (World.block_lt_of_cell? _ _ (hHeld.2.2.2.2.2))).trans (hHeld.2.2.2.2.2)
        refine ⟨_, rfl, ?_⟩
        replace HO_3 := Aside0.mk (Kd.R_below (Kd.R_g HO_3.out) hb)
        replace HO_428001 := Aside0.mk (Kd.R_below (Kd.R_g HO_428001.out) hb)
        replace BK419 := blkB BK419 hb
        replace BK427 := blkB BK427 hb
        replace HB := bst HB hb
        (try clear hb)
        (try clear hb2)
        (try clear hk)
        (try clear hi)
        refine hK.out _ _ ⟨(blk_cell BK419.out 0).trans rfl, (blk_cell BK419.out 1).trans rfl, (blk_cell BK427.out 0).trans rfl, (blk_cell BK427.out 1).trans rfl, ((HB.out.cell (World.block_lt_of_cell? w _ hw429_0)).trans hw429_0), HS5_⟩ (fun hHeld => ?_)
        clear hK K
        refine normW 16 ?_
        refine pureW 8 (some 22) (bm 21 114687) HT_ ?_
        refine pureW 14 (some 28) (bm 21 131071) HT_ ?_
        refine pureW 17 (some 31) (bm 21 262143) HT_ ?_
        refine last_ (i := 18) (N := some 32) (bm 21 524287) rfl rfl (one_of HT_.out (by kernel_rfl)) (by decide) (fun K hK => ?_)
        refine value_ (w1 := ?_) (v := ?_) (by rfl) rfl ?_ ?_
        rotate_left 2
        ·go_simp
         constructor
         ·rfl
         ·rfl
        refine hK.out _ _ ?_
        clear hK K
        refine normW 32 ?_
        refine last_ (i := 19) (N := some 33) (bm 21 1048575) rfl rfl (one_of HT_.out (by kernel_rfl)) (by decide) (fun K hK => ?_)
        refine Kd.R_append_step (Kd.int .i64) (w0 := w) w.heap.size (by rfl) (.tmp 14) (.tmp 32) 22 3 (.int .i64 0) 8 rfl Tryd.underlying22 info3 rfl (by decide) (by omega) u3 x3_1 (Go.bits .andNot .i64 (Go.bits .andNot .i64 (Go.bits .andNot .i64 t428 (rd l0_1 x11_1)) (rd t424 x11_1)) (ji19)) [.int .i64 (Go.bits .andNot .i64 (Go.bits .andNot .i64 (Go.bits .andNot .i64 t428 (rd l0_1 x11_1)) (rd t424 x11_1)) (ji19))] (fun k_ => some k_ ≠ (.slice (some ad430) t424.length co11 : Value).ownBlock) (fun _ => False) rfl rfl ?aP (fun _ hk => hk.elim) ?aF ?aO ?aB ?aS ?aL ?_
        (case aP => exact rfl)
        (case aB => exact (bel_g HB.out))
        (case aF => exact (fun k_ hk => Kd.fresh' (Kd.R_lt (Kd.R_g HO_428001.out)) k_ hk))
        (case aO => exact (Kd.R_g HO_3.out))
        (case aS => exact (below_size (bel_g HB.out)))
        (case aL => have := LMc20.out; omega)
        intro v432 w23 ho hb hg hat
        rw [← Ny431.out] at ho
        replace HO_428001 := Aside0.mk (Kd.R_after (ok := (fun _ => True)) (Kd.R_g (Kd.R_mono HO_428001.out (fun _ hk => ⟨trivial, hk⟩))) hg hat)
        replace BK419 := Aside0.mk (blk_grown (g := gb419) (o := .cells #[.int .i64 a0_0, .slice (some ad429) l0_1.length c0_1] 28 (0, 0)) (blk_g BK419.out) hg (Kd.R_ne HO_3.out BK419.out (by decide)))
        replace BK427 := Aside0.mk (blk_grown (g := gb427) (o := .cells #[.int .i64 t423, .slice (some ad430) t424.length co11] 28 (0, 0)) (blk_g BK427.out) hg (Kd.R_ne HO_3.out BK427.out (by decide)))
        have HO433 := Aside0.mk (ho)
        replace HB := Aside0.mk (hb)
        clear HO_3
        clear ho hb hg hat
        refine hK.out _ _ ?_
        clear hK K
        refine normW 33 ?_
        refine pureW 20 (some 3) (bm 21 2097151) HT_ ?_
        refine doneW HT_ ?_
        try go_wp2
        go_roundg k1
        case measure => have := HK1.out; omega
        case rel => exact ⟨(y431), (wrap64 (x11_1 + 1)), eqS, H', ⟨by have := HK1.out; omega⟩, ⟨Kd.R_g HO433.out⟩, ⟨Kd.R_g (Kd.R_mono HO_428001.out (fun _ hk => hk.2))⟩, ⟨blk_g BK419.out⟩, ⟨blk_g BK427.out⟩, ⟨bel_g HB.out⟩⟩
       ·exact absurd H (by simp)
      ·exact absurd H (by simp)
     ·exact absurd H (by simp)
    ·exact absurd H (by simp)
   ·obtain rfl := Option.some.inj H
    go_wp2
    go_ret
    exact ⟨_, eqE, by (with_reducible repeat (first | apply Kd.R_alloc | apply Kd.R_drewN | apply Kd.R_drew)); exact Kd.R_mono HO_3.out (fun _ hk => trivial), bel_g HB.out⟩

end Go.Proofs.YteechpappfagpaaDoor.Q
