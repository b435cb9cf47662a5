import Derived.Test.YthdlkadfhbbilaaDoorBFnClosures8
namespace Go.Proofs.YthdlkadfhbbilaaDoor.Q
open Go.RowKit Go.Proofs.YthdlkadfhbbilaaDoorW.PrintWords Go.Proofs.YthdlkadfhbbilaaDoorW.PrintLast Go.Proofs.YthdlkadfhbbilaaDoorW.PrintMore
attribute [local go_sem] max2_int min2_int max_two min_two max_three min_three max_four min_four neB_f
set_option linter.unusedVariables false
set_option maxHeartbeats 8000000
set_option maxRecDepth 100000
set_option linter.unusedSimpArgs false
def laws_pSame.l0 : Nat → List Int → List Int → Int → Int → Option (Bool)
 | 0, _, _, _, _ => none
 | k + 1, x0, x1, x12, x13 => if x13 < x12 then (if 0 ≤ x13 then (if x13 < (x0.length : Int) then (if x13 < (x1.length : Int) then (if (rd x0 x13) = (rd x1 x13) then (laws_pSame.l0 k x0 x1 x12 (wrap64 (x13 + 1))) else (some false)) else (none)) else (none)) else (none)) else (some true)
def laws_pSame.f (k : Nat) (l0 : List Int) (l1 : List Int) : Option (Bool) := if (l0.length : Int) = (l1.length : Int) then (laws_pSame.l0 k l0 l1 (l0.length : Int) 0) else (some false)
theorem laws_pSame.mono_l : ∀ k, (∀ y0 y1 y2 y3, LeO (laws_pSame.l0 k y0 y1 y2 y3) (laws_pSame.l0 (k + 1) y0 y1 y2 y3))
 | 0 => fun _ _ _ _ r h => by simp [laws_pSame.l0] at h
 | k + 1 => by
  have ih0 := laws_pSame.mono_l k
  ·intro y0 y1 y2 y3
   unfold laws_pSame.l0
   repeat' (with_reducible first|apply ih0|apply LeO.refl|apply LeO.none|apply LeO.ite|apply LeO.bind|intro)
theorem laws_pSame.mono : ∀ a0 a1 k, LeO (laws_pSame.f k a0 a1) (laws_pSame.f (k + 1) a0 a1) := by
 intro a0 a1 k
 have ih0 := laws_pSame.mono_l k
 unfold laws_pSame.f
 repeat' (with_reducible first|apply ih0|apply LeO.refl|apply LeO.none|apply LeO.ite|apply LeO.bind|intro)
theorem laws_pSame.calls (k : Nat) (A0 : Option Addr) (c0 : Nat) (l0 : List Int) (A1 : Option Addr) (c1 : Nat) (l1 : List Int) (r : Bool) (w : World) (hr0 : Kd.C (Kd.int .i64) w A0 l0.length l0) (hc0 : l0.length ≤ c0) (hr1 : Kd.C (Kd.int .i64) w A1 l1.length l1) (hc1 : l1.length ≤ c1) (h : laws_pSame.f k l0 l1 = some r) :
  Calls Tryd.prog 21 #[.slice A0 l0.length c0, .slice A1 l1.length c1] w fun e w' => e = .returned (.bool r) ∧ Drawn0 w w' := by
 have HR0 := mkA hr0
 have HC0 := mkA hc0
 clear hr0 hc0
 have HR1 := mkA hr1
 have HC1 := mkA hc1
 clear hr1 hc1
 have H := h
 clear h
 unfold laws_pSame.f at H
 rcases iteP H with ⟨c3, H⟩ | ⟨c3, H⟩
 ·have c3b0 := beq_iff_eq.mpr c3
  have c3b1 := bne_eq_false_iff_eq.mpr c3
  have c3b2 : (l0.length == l1.length) = true := by first | simpa using c3 | (simp at c3 ⊢; omega)
  clear c3
  have H' := mkA H
  clear H
  go_enter Tryd.func21, Tryd.ntmps21
  go_wp2
  repeat (go_quiet (fail); try go_wp2)
  go_loopg [13] k (fun kq v13 w' => ∃ (x13_1 : Int), v13 = .int .i64 x13_1 ∧ Fc (laws_pSame.l0 kq l0 l1 (l0.length : Int) x13_1 = some r) ∧ Fc (kq ≤ k) ∧ Drawn0 w w')
  case atStart => exact ⟨(0), eqS, H', ⟨Nat.le_refl _⟩, by repeat (first | exact Drawn0.refl _ | apply Drawn0.step)⟩
  case round =>
   clear H'
   try clear c1
   try clear c3
   try clear c3b0
   try clear c3b1
   try clear c3b2
   obtain ⟨x13_1, rfl, HA, HK1, ⟨m1, rfl⟩⟩ := hrel
   cases gk with
   | zero => exact absurd HA.out (by simp [laws_pSame.l0])
   | succ k1 =>
    have H := HA.out
    clear HA
    simp only [laws_pSame.l0] at H
    rcases iteE H with ⟨c4b0, H⟩ | ⟨c4b0, H⟩
    ·obtain ⟨c5b0, H⟩ := itND H
     obtain ⟨c6b0, H⟩ := itND H
     obtain ⟨c7b0, H⟩ := itND H
     rcases iteP H with ⟨c8, H⟩ | ⟨c8, H⟩
     ·have c8b0 := beq_iff_eq.mpr c8
      have c8b1 := bne_eq_false_iff_eq.mpr c8
      clear c8
      have H' := mkA H
      clear H
      obtain ⟨p275, q275, ad275, e275, hx275_0⟩ := atI HR0.out x13_1
      cases e275
      obtain ⟨p276, q276, ad276, e276, hx276_0⟩ := atI HR1.out x13_1
      cases e276
      go_wp2
      repeat (go_quiet (fail); try go_wp2)
      go_roundg k1
      case measure => have := HK1.out; omega
      case rel => exact ⟨(wrap64 (x13_1 + 1)), eqS, H', ⟨by have := HK1.out; omega⟩, by repeat (first | exact Drawn0.refl _ | apply Drawn0.step)⟩
     ·have c8b0 := beq_eq_false_iff_ne.mpr c8
      have c8b1 := bne_iff_ne.mpr c8
      obtain rfl := Option.some.inj H
      obtain ⟨p275, q275, ad275, e275, hx275_0⟩ := atI HR0.out x13_1
      cases e275
      obtain ⟨p276, q276, ad276, e276, hx276_0⟩ := atI HR1.out x13_1
      cases e276
      go_wp2
      repeat (go_quiet (fail); try go_wp2)
      go_ret
      exact ⟨eqS, drE⟩
    ·obtain rfl := Option.some.inj H
     go_wp2
     repeat (go_quiet (fail); try go_wp2)
     go_ret
     exact ⟨eqS, drE⟩
 ·have c3b0 := beq_eq_false_iff_ne.mpr c3
  have c3b1 := bne_iff_ne.mpr c3
  have c3b2 : (l0.length == l1.length) = false := by first | simpa using c3 | (simp at c3 ⊢; omega)
  obtain rfl := Option.some.inj H
  go_enter Tryd.func21, Tryd.ntmps21
  go_wp2
  repeat (go_quiet (fail); try go_wp2)
  go_ret
  exact ⟨eqS, drE⟩
def laws_pSameOrder.f (k : Nat) (a0_0 : Int) (l0_1 : List Int) (a1_0 : Int) (l1_1 : List Int) : Option (Bool) := if a0_0 = a1_0 then ((laws_pSame.f k l0_1 l1_1).bind fun t279 => (some t279)) else (some false)
theorem laws_pSameOrder.mono : ∀ a0 a1 a2 a3 k, LeO (laws_pSameOrder.f k a0 a1 a2 a3) (laws_pSameOrder.f (k + 1) a0 a1 a2 a3) := by
 intro a0 a1 a2 a3 k
 unfold laws_pSameOrder.f
 repeat' (with_reducible first|apply laws_pSame.mono|apply LeO.refl|apply LeO.none|apply LeO.ite|apply LeO.bind|intro)
theorem laws_pSameOrder.calls (k : Nat) (a0_0 : Int) (A0_1 : Option Addr) (c0_1 : Nat) (l0_1 : List Int) (a1_0 : Int) (A1_1 : Option Addr) (c1_1 : Nat) (l1_1 : List Int) (r : Bool) (w : World) (hr0_1 : Kd.C (Kd.int .i64) w A0_1 l0_1.length l0_1) (hc0_1 : l0_1.length ≤ c0_1) (hr1_1 : Kd.C (Kd.int .i64) w A1_1 l1_1.length l1_1) (hc1_1 : l1_1.length ≤ c1_1) (h : laws_pSameOrder.f k a0_0 l0_1 a1_0 l1_1 = some r) :
  Calls Tryd.prog 8 #[.agg #[.int .i64 a0_0, .slice A0_1 l0_1.length c0_1], .agg #[.int .i64 a1_0, .slice A1_1 l1_1.length c1_1]] w fun e w' => e = .returned (.bool r) ∧ Below w.heap.size w w' := by
 have hu26 := Tryd.underlying26
 have HR0_1 := mkA hr0_1
 have HC0_1 := mkA hc0_1
 clear hr0_1 hc0_1
 have HR1_1 := mkA hr1_1
 have HC1_1 := mkA hc1_1
 clear hr1_1 hc1_1
 have HB := mkA (Below.refl w.heap.size w)
 have H := h
 clear h
 unfold laws_pSameOrder.f at H
 rcases iteP H with ⟨c3, H⟩ | ⟨c3, H⟩
 ·have c3b0 := beq_iff_eq.mpr c3
  have c3b1 := bne_eq_false_iff_eq.mpr c3
  clear c3
  obtain ⟨t279, A4, H⟩ := obE H
  obtain rfl := Option.some.inj H
  go_enter Tryd.func8, Tryd.ntmps8
  go_wp2_with (first | ((with_reducible refine gate_dst (N := 2) rfl ?_); refine boxG HB #[.int .i64 a0_0, .slice A0_1 l0_1.length c0_1] 26 ?_; intro gb277 hg w5 BK277 GE277 hb; replace HB := bst HB hb; clear hb hg) | ((with_reducible refine gate_dst (N := 3) rfl ?_); refine boxG HB #[.int .i64 a1_0, .slice A1_1 l1_1.length c1_1] 26 ?_; intro gb278 hg w6 BK278 GE278 hb; have NB277_278 := neL7 BK277 hg; have NB278_277 := neR7 BK277 hg; replace BK277 := blkB BK277 hb; replace HB := bst HB hb; clear hb hg; obtain ⟨_, _, _, _⟩ := blk2 BK277; obtain ⟨_, _, _, _⟩ := blk2 BK278) | (go_at_call 21; (with_reducible refine (laws_pSame.calls k _ _ l0_1 _ _ l1_1 t279 _ ?_ ?_ ?_ ?_ A4.out).mono ?_); exact C_g HR0_1 HB; exact HC0_1.out; exact C_g HR1_1 HB; exact HC1_1.out; rintro e w' ⟨rfl, ⟨nd, rfl⟩⟩))
  go_ret
  exact ⟨eqE, bel_g HB.out⟩
 ·have c3b0 := beq_eq_false_iff_ne.mpr c3
  have c3b1 := bne_iff_ne.mpr c3
  obtain rfl := Option.some.inj H
  go_enter Tryd.func8, Tryd.ntmps8
  go_wp2_with (first | ((with_reducible refine gate_dst (N := 2) rfl ?_); refine boxG HB #[.int .i64 a0_0, .slice A0_1 l0_1.length c0_1] 26 ?_; intro gb277 hg w10 BK277 GE277 hb; replace HB := bst HB hb; clear hb hg) | ((with_reducible refine gate_dst (N := 3) rfl ?_); refine boxG HB #[.int .i64 a1_0, .slice A1_1 l1_1.length c1_1] 26 ?_; intro gb278 hg w11 BK278 GE278 hb; have NB277_278 := neL7 BK277 hg; have NB278_277 := neR7 BK277 hg; replace BK277 := blkB BK277 hb; replace HB := bst HB hb; clear hb hg; obtain ⟨_, _, _, _⟩ := blk2 BK277; obtain ⟨_, _, _, _⟩ := blk2 BK278))
  go_ret
  exact ⟨eqE, bel_g HB.out⟩
def bits_TrailingZeros.f (a0 : Int) : Option (Int) := (bits_TrailingZeros64.f a0).bind fun t280 => (some t280)
theorem bits_TrailingZeros.calls (a0 : Int) (r : Int) (w : World) (hTAB : Tab w) (h : bits_TrailingZeros.f a0 = some r) :
  Calls Tryd.prog 38 #[.int .u64 a0] w fun e w' => e = .returned (.int .i64 r) ∧ Drawn0 w w' := by
 have HTAB := mkA hTAB
 clear hTAB
 have H := h
 clear h
 unfold bits_TrailingZeros.f at H
 obtain ⟨t280, A2, H⟩ := obE H
 obtain rfl := Option.some.inj H
 go_enter Tryd.func38, Tryd.ntmps38
 go_wp2_with (first | ((with_reducible refine gate_callee (f := 41) rfl ?_); refine goesQ (some 7) Tryd.func41 #[.int .u64 a0] ?_; (with_reducible refine (bits_TrailingZeros64.calls a0 t280 _ ?s1 A2.out).mono ?_); (case s1 => first | exact HTAB.out | exact Tab.drewN HTAB.out _ | exact Tab.below HTAB.out (bel_g HB.out) | exact Tab.below HTAB.out (by repeat (first | exact Below.refl _ _ | apply below_alloc | apply pw_below_drewN | apply below_drew1))); rintro e w' ⟨rfl, ⟨nd, rfl⟩⟩; refine ⟨_, rfl, ?_⟩))
 go_ret
 exact ⟨eqS, drE⟩
def impl_members.l0 : Nat → Int → List Int → Option (List Int)
 | 0, _, _ => none
 | k + 1, x0, x3 => if x0 = 0 then (some x3) else ((bits_TrailingZeros.f (IntKind.u64.wrap (x0))).bind fun t284 => (if x3.length < 17592186044416 then (impl_members.l0 k (Go.bits .and .i64 x0 (wrap64 (x0 - 1))) (x3 ++ [t284])) else (none)))
def impl_members.f (k : Nat) (a0 : Int) : Option (List Int) := impl_members.l0 k a0 (([] : List Int))
theorem impl_members.mono_l : ∀ k, (∀ y0 y1, LeO (impl_members.l0 k y0 y1) (impl_members.l0 (k + 1) y0 y1))
 | 0 => fun _ _ r h => by simp [impl_members.l0] at h
 | k + 1 => by
  have ih0 := impl_members.mono_l k
  ·intro y0 y1
   unfold impl_members.l0
   repeat' (with_reducible first|apply ih0|apply LeO.refl|apply LeO.none|apply LeO.ite|apply LeO.bind|intro)
theorem impl_members.mono : ∀ a0 k, LeO (impl_members.f k a0) (impl_members.f (k + 1) a0) := by
 intro a0 k
 have ih0 := impl_members.mono_l k
 unfold impl_members.f
 repeat' (with_reducible first|apply ih0|apply LeO.refl|apply LeO.none|apply LeO.ite|apply LeO.bind|intro)
theorem impl_members.calls (k : Nat) (a0 : Int) (r : List Int) (w : World) (hTAB : Tab w) (h : impl_members.f k a0 = some r) :
  Calls Tryd.prog 28 #[.int .i64 a0] w fun e w' => ∃ v0_ : Value, e = .returned (v0_) ∧ Kd.R (Kd.int .i64) 3 w' w.heap.size (fun _ => True) v0_ r ∧ Below w.heap.size w w' := by
 have HTAB := mkA hTAB
 clear hTAB
 have HB := mkA (Below.refl w.heap.size w)
 have H := h
 clear h
 unfold impl_members.f at H
 obtain ⟨y281, hy281⟩ : ∃ y_ : List Int, y_ = (([] : List Int)) := ⟨_, rfl⟩
 rw [← hy281] at H
 have Ny281 := mkA hy281
 clear hy281
 have H' := mkA H
 clear H
 go_enter Tryd.func28, Tryd.ntmps28
 go_wp2_with (first | ((with_reducible refine gate_dst (N := 4) rfl ?_); refine litE (Kd.int .i64) 3 ([] : List Int) [] ?hp ?_; (case hp => exact (Reps.none _ _)); intro v282 w2 ho3 hb hg_ hnew_; clear hg_ hnew_; (first | rw [← Ny281.out] at ho3 | (simp only [Int.reduceToNat] at ho3; rw [← Ny281.out] at ho3)); have HO283 := rLo ho3 HB; replace HB := bst HB hb; clear hb ho3))
 go_loopg [0, 3] k (fun kq v0 v3 w' => ∃ (x0_1 : Int) (x3_1 : List Int), v0 = .int .i64 x0_1 ∧ Fc (impl_members.l0 kq x0_1 x3_1 = some r) ∧ Fc (kq ≤ k) ∧ Fc (Kd.R (Kd.int .i64) 3 w' w.heap.size (fun _ => True) v3 x3_1) ∧ Fc (Below w.heap.size w w'))
 case atStart => exact ⟨(a0), (y281), eqS, H', ⟨Nat.le_refl _⟩, rg HO283, hbg HB⟩
 case round =>
  clear H'
  obtain ⟨x0_1, x3_1, rfl, HA, HK1, HO_3, HB⟩ := hrel
  cases gk with
  | zero => exact absurd HA.out (by simp [impl_members.l0])
  | succ k1 =>
   have H := HA.out
   clear HA
   simp only [impl_members.l0] at H
   rcases iteP H with ⟨c4, H⟩ | ⟨c4, H⟩
   ·have c4b0 := beq_iff_eq.mpr c4
    have c4b1 := bne_eq_false_iff_eq.mpr c4
    clear c4
    obtain rfl := Option.some.inj H
    go_wp2
    go_ret
    exact ⟨_, eqE, Kd.R_g HO_3.out, bel_g HB.out⟩
   ·have c4b0 := beq_eq_false_iff_ne.mpr c4
    have c4b1 := bne_iff_ne.mpr c4
    obtain ⟨t284, A5, H⟩ := obE H
    obtain ⟨c6, H⟩ := itNP H
    have LMc6 := mkA c6
    clear c6
    obtain ⟨y285, hy285⟩ : ∃ y_ : List Int, y_ = (x3_1 ++ [t284]) := ⟨_, rfl⟩
    rw [← hy285] at H
    have Ny285 := mkA hy285
    clear hy285
    have H' := mkA H
    clear H
    go_wp2_with (first | ((with_reducible refine gate_callee (f := 38) rfl ?_); refine goesQ (some 14) Tryd.func38 #[.int .u64 (IntKind.u64.wrap (x0_1))] ?_; (with_reducible refine (bits_TrailingZeros.calls (IntKind.u64.wrap (x0_1)) t284 _ ?_ A5.out).mono ?_); exact Tab.below HTAB.out (bel_g HB.out); rintro e w' ⟨rfl, ⟨nd, rfl⟩⟩; refine ⟨_, rfl, ?_⟩) | ((with_reducible refine gate_builtin (b := .append) (xs := #[.tmp 11, .tmp 15]) rfl ?_); at_builtin; refine Kd.R_append (Kd.int .i64) (w0 := w) w.heap.size rfl (.tmp 11) (.tmp 15) 24 3 (.int .i64 0) 8 rfl Tryd.underlying24 info3 rfl (by decide) (by omega) u3 x3_1 t284 [.int .i64 t284] (fun _ => True) (fun _ => False) rfl rfl ?aP (fun _ hk => hk.elim) ?aF ?aO ?aB ?aS ?aL ?_; (case aP => exact rfl); (case aB => exact (bel_g HB.out)); (case aF => exact (fun _ _ => trivial)); (case aO => exact (Kd.R_g HO_3.out)); (case aS => exact (below_size (bel_g HB.out))); (case aL => have := LMc6.out; omega); intro v286 w7 ho hb hg hat; rw [← Ny285.out] at ho; have HO287 := mkA (ho); replace HB := mkA (hb); clear HO_3; clear ho hb hg hat))
    go_roundg k1
    case measure => have := HK1.out; omega
    case rel => exact ⟨(Go.bits .and .i64 x0_1 (wrap64 (x0_1 - 1))), (y285), eqS, H', ⟨by have := HK1.out; omega⟩, rg HO287, hbg HB⟩
mutual
def impl_IsOrder.l0 : Nat → List Int → Int → Int → Int → List Int → Option (Bool)
 | 0, _, _, _, _, _ => none
 | k + 1, x11, x12, x13, x289000, x289001 => if x13 < x12 then (if 0 ≤ x13 then (if x13 < (x11.length : Int) then ((impl_Order_better.f x289000 x289001 x13 x13).bind fun t291 => (if t291 = true then (some false) else ((impl_members.f k (rd x11 x13)).bind fun t292 => (impl_IsOrder.l1 k (rd x11 x13) x11 x12 x13 t292 (t292.length : Int) 0 x289000 x289001)))) else (none)) else (none)) else (some true)
def impl_IsOrder.l1 : Nat → Int → List Int → Int → Int → List Int → Int → Int → Int → List Int → Option (Bool)
 | 0, _, _, _, _, _, _, _, _, _ => none
 | k + 1, x4, x11, x12, x13, x23, x24, x25, x289000, x289001 => if x25 < x24 then (if 0 ≤ x25 then (if x25 < (x23.length : Int) then (if 0 ≤ (rd x23 x25) then (if (rd x23 x25) < (x289001.length : Int) then (if (Go.bits .andNot .i64 (rd x289001 (rd x23 x25)) x4) = 0 then (impl_IsOrder.l1 k x4 x11 x12 x13 x23 x24 (wrap64 (x25 + 1)) x289000 x289001) else (some false)) else (none)) else (none)) else (none)) else (none)) else (impl_IsOrder.l0 k x11 x12 (wrap64 (x13 + 1)) x289000 x289001)
end
def impl_IsOrder.f (k : Nat) (a0_0 : Int) (l0_1 : List Int) : Option (Bool) := (impl_IsRelation.f k a0_0 l0_1).bind fun t289 => (if t289 = true then (impl_IsOrder.l0 k l0_1 (l0_1.length : Int) 0 a0_0 l0_1) else (some false))
theorem impl_IsOrder.mono_l : ∀ k, (∀ y0 y1 y2 y3 y4, LeO (impl_IsOrder.l0 k y0 y1 y2 y3 y4) (impl_IsOrder.l0 (k + 1) y0 y1 y2 y3 y4)) ∧ (∀ y0 y1 y2 y3 y4 y5 y6 y7 y8, LeO (impl_IsOrder.l1 k y0 y1 y2 y3 y4 y5 y6 y7 y8) (impl_IsOrder.l1 (k + 1) y0 y1 y2 y3 y4 y5 y6 y7 y8))
 | 0 => ⟨fun _ _ _ _ _ r h => by simp [impl_IsOrder.l0] at h, fun _ _ _ _ _ _ _ _ _ r h => by simp [impl_IsOrder.l1] at h⟩
 | k + 1 => by
  obtain ⟨ih0, ih1⟩ := impl_IsOrder.mono_l k
  refine ⟨?_, ?_⟩ <;> intros
  unfold impl_IsOrder.l0
  rotate_left
  unfold impl_IsOrder.l1
  rotate_left
  all_goals repeat' (with_reducible first|apply ih0|apply ih1|apply impl_IsRelation.mono|apply impl_members.mono|apply LeO.refl|apply LeO.none|apply LeO.ite|apply LeO.bind|intro)
theorem impl_IsOrder.mono : ∀ a0 a1 k, LeO (impl_IsOrder.f k a0 a1) (impl_IsOrder.f (k + 1) a0 a1) := by
 intro a0 a1 k
 obtain ⟨ih0, ih1⟩ := impl_IsOrder.mono_l k
 unfold impl_IsOrder.f
 repeat' (with_reducible first|apply ih0|apply ih1|apply impl_IsRelation.mono|apply impl_members.mono|apply LeO.refl|apply LeO.none|apply LeO.ite|apply LeO.bind|intro)
theorem impl_IsOrder.calls (k : Nat) (a0_0 : Int) (A0_1 : Option Addr) (c0_1 : Nat) (l0_1 : List Int) (r : Bool) (w : World) (hr0_1 : Kd.C (Kd.int .i64) w A0_1 l0_1.length l0_1) (hc0_1 : l0_1.length ≤ c0_1) (hTAB : Tab w) (h : impl_IsOrder.f k a0_0 l0_1 = some r) :
  Calls Tryd.prog 11 #[.agg #[.int .i64 a0_0, .slice A0_1 l0_1.length c0_1]] w fun e w' => e = .returned (.bool r) ∧ Below w.heap.size w w' := by
 have HTAB := mkA hTAB
 clear hTAB
 have hu26 := Tryd.underlying26
 have HR0_1 := mkA hr0_1
 have HC0_1 := mkA hc0_1
 clear hr0_1 hc0_1
 have HB := mkA (Below.refl w.heap.size w)
 have H := h
 clear h
 unfold impl_IsOrder.f at H
 obtain ⟨t289, A2, H⟩ := obE H
 by_cases c3 : t289 = true
 ·subst c3
  replace H := ifT H
  have H' := mkA H
  clear H
  go_enter Tryd.func11, Tryd.ntmps11
  go_wp2_with (first | ((with_reducible refine gate_dst (N := 1) rfl ?_); refine boxG HB #[.int .i64 a0_0, .slice A0_1 l0_1.length c0_1] 26 ?_; intro gb288 hg w4 BK288 GE288 hb; replace HB := bst HB hb; clear hb hg; obtain ⟨_, _, _, _⟩ := blk2 BK288) | ((with_reducible refine gate_callee (f := 16) rfl ?_); refine goesQ (some 8) Tryd.func16 #[.agg #[.int .i64 a0_0, .slice A0_1 l0_1.length c0_1]] ?_; (with_reducible refine (impl_IsRelation.calls k a0_0 _ _ l0_1 true _ ?_ ?_ A2.out).mono ?_); exact C_g HR0_1 HB; exact HC0_1.out; rintro e w6 ⟨rfl, hb⟩; refine ⟨_, rfl, ?_⟩; replace BK288 := blkB BK288 hb; replace HB := bst HB hb; clear hb; obtain ⟨_, _, _, _⟩ := blk2 BK288))
  go_loopg [13] k (fun kq v13 w' => ∃ (x13_1 : Int), v13 = .int .i64 x13_1 ∧ Fc (impl_IsOrder.l0 kq l0_1 (l0_1.length : Int) x13_1 a0_0 l0_1 = some r) ∧ Fc (kq ≤ k) ∧ Fc (w'.heap[gb288]? = some (.cells #[.int .i64 a0_0, (.slice A0_1 l0_1.length c0_1)] 26 (0, 0))) ∧ Fc (Below w.heap.size w w'))
  case atStart => exact ⟨(0), eqS, H', ⟨Nat.le_refl _⟩, bg BK288, hbg HB⟩
  case round =>
   clear H'
   try clear c3
   obtain ⟨x13_1, rfl, HA, HK1, BK288, HB⟩ := hrel
   cases gk with
   | zero => exact absurd HA.out (by simp [impl_IsOrder.l0])
   | succ k1 =>
    have H := HA.out
    clear HA
    simp only [impl_IsOrder.l0] at H
    rcases iteE H with ⟨c8b0, H⟩ | ⟨c8b0, H⟩
    ·obtain ⟨c9b0, H⟩ := itND H
     obtain ⟨c10b0, H⟩ := itND H
     obtain ⟨t291, A11, H⟩ := obE H
     by_cases c12 : t291 = true
     ·subst c12
      replace H := ifT H
      obtain rfl := Option.some.inj H
      obtain ⟨p290, q290, ad290, e290, hx290_0⟩ := atI HR0_1.out x13_1
      cases e290
      replace hx290_0 := (HB.out.cell (World.block_lt_of_cell? w _ hx290_0)).trans hx290_0
      obtain ⟨_, _, _, _⟩ := blk2 BK288
      go_wp2_with (first | ((with_reducible refine gate_callee (f := 25) rfl ?_); refine goesQ (some 21) Tryd.func25 #[.agg #[.int .i64 a0_0, .slice (some ad290) l0_1.length c0_1], .int .i64 x13_1, .int .i64 x13_1] ?_; (with_reducible refine (impl_Order_better.calls a0_0 _ _ l0_1 x13_1 x13_1 true _ ?_ ?_ A11.out).mono ?_); exact C_g HR0_1 HB; exact HC0_1.out; rintro e w14 ⟨rfl, hb⟩; refine ⟨_, rfl, ?_⟩; replace BK288 := blkB BK288 hb; replace HB := bst HB hb; clear hb))
      go_ret
      exact ⟨eqE, bel_g HB.out⟩
     ·replace c12 := Bool.eq_false_iff.mpr c12
      subst c12
      replace H := ifF H
      obtain ⟨t292, A15, H⟩ := obE H
      have H' := mkA H
      clear H
      obtain ⟨p290, q290, ad290, e290, hx290_0⟩ := atI HR0_1.out x13_1
      cases e290
      replace hx290_0 := (HB.out.cell (World.block_lt_of_cell? w _ hx290_0)).trans hx290_0
      obtain ⟨_, _, _, _⟩ := blk2 BK288
      go_wp2_with (first | ((with_reducible refine gate_callee (f := 25) rfl ?_); refine goesQ (some 21) Tryd.func25 #[.agg #[.int .i64 a0_0, .slice (some ad290) l0_1.length c0_1], .int .i64 x13_1, .int .i64 x13_1] ?_; (with_reducible refine (impl_Order_better.calls a0_0 _ _ l0_1 x13_1 x13_1 false _ ?_ ?_ A11.out).mono ?_); exact C_g HR0_1 HB; exact HC0_1.out; rintro e w17 ⟨rfl, hb⟩; refine ⟨_, rfl, ?_⟩; replace BK288 := blkB BK288 hb; replace HB := bst HB hb; clear hb) | ((with_reducible refine gate_callee (f := 28) rfl ?_); refine goesQ (some 23) Tryd.func28 #[.int .i64 (rd l0_1 x13_1)] ?_; (with_reducible refine (impl_members.calls k1 (rd l0_1 x13_1) t292 _ ?_ A15.out).mono ?_); exact Tab.below HTAB.out (bel_g HB.out); rintro e w18 ⟨v293, rfl, ho0, hb⟩; refine ⟨_, rfl, ?_⟩; have HO294 := rLo ho0 HB; replace BK288 := blkB BK288 hb; replace HB := bst HB hb; clear hb ho0; obtain ⟨Ao19, co19, rfl⟩ := Kd.R_slice HO294.out))
      go_loopg [25] k1 (fun kq v25 w' => ∃ (x25_2 : Int), v25 = .int .i64 x25_2 ∧ Fc (impl_IsOrder.l1 kq (rd l0_1 x13_1) l0_1 (l0_1.length : Int) x13_1 t292 (t292.length : Int) x25_2 a0_0 l0_1 = some r) ∧ Fc (kq ≤ k1) ∧ Fc (Kd.R (Kd.int .i64) 3 w' w.heap.size (fun _ => True) (.slice Ao19 t292.length co19) t292) ∧ Fc (w'.heap[gb288]? = some (.cells #[.int .i64 a0_0, (.slice (some ad290) l0_1.length c0_1)] 26 (0, 0))) ∧ Fc (Below w.heap.size w w'))
      case atStart => exact ⟨(0), eqS, H', ⟨Nat.le_refl _⟩, rg HO294, bg BK288, hbg HB⟩
      case round =>
       clear H'
       try clear c3
       try clear c8b0
       try clear c9
       try clear c9b0
       try clear c10
       try clear c10b0
       try clear c12
       try clear hx290_0
       try clear p290
       try clear q290
       obtain ⟨x25_2, rfl, HA, HK2, HO_23, BK288, HB⟩ := hrel
       cases gk with
       | zero => exact absurd HA.out (by simp [impl_IsOrder.l1])
       | succ k2 =>
        have H := HA.out
        clear HA
        simp only [impl_IsOrder.l1] at H
        rcases iteE H with ⟨c20b0, H⟩ | ⟨c20b0, H⟩
        ·obtain ⟨c21b0, H⟩ := itND H
         obtain ⟨c22b0, H⟩ := itND H
         obtain ⟨c23b0, H⟩ := itND H
         obtain ⟨c24b0, H⟩ := itND H
         rcases iteP H with ⟨c25, H⟩ | ⟨c25, H⟩
         ·have c25b0 := beq_iff_eq.mpr c25
          have c25b1 := bne_eq_false_iff_eq.mpr c25
          clear c25
          have H' := mkA H
          clear H
          obtain ⟨p295, q295, ad295, e295, hx295_0⟩ := atI (Kd.R_reads' HO_23.out).2.2 x25_2
          cases e295
          obtain ⟨_, _, _, _⟩ := blk2 BK288
          obtain ⟨p296, q296, ad296, e296, hx296_0⟩ := atI HR0_1.out (rd t292 x25_2)
          obtain rfl : ad290 = ad296 := (by injection e296)
          replace hx296_0 := (HB.out.cell (World.block_lt_of_cell? w _ hx296_0)).trans hx296_0
          go_wp2
          go_roundg k2
          case measure => have := HK1.out; have := HK2.out; omega
          case rel => exact ⟨(wrap64 (x25_2 + 1)), eqS, H', ⟨by have := HK1.out; have := HK2.out; omega⟩, rg HO_23, bg BK288, hbg HB⟩
         ·have c25b0 := beq_eq_false_iff_ne.mpr c25
          have c25b1 := bne_iff_ne.mpr c25
          obtain rfl := Option.some.inj H
          obtain ⟨p295, q295, ad295, e295, hx295_0⟩ := atI (Kd.R_reads' HO_23.out).2.2 x25_2
          cases e295
          obtain ⟨_, _, _, _⟩ := blk2 BK288
          obtain ⟨p296, q296, ad296, e296, hx296_0⟩ := atI HR0_1.out (rd t292 x25_2)
          obtain rfl : ad290 = ad296 := (by injection e296)
          replace hx296_0 := (HB.out.cell (World.block_lt_of_cell? w _ hx296_0)).trans hx296_0
          go_wp2
          go_ret
          exact ⟨eqE, bel_g HB.out⟩
        ·have H' := mkA H
         clear H
         go_wp2
         go_roundg k2
         case measure => have := HK1.out; have := HK2.out; omega
         case rel => exact ⟨(wrap64 (x13_1 + 1)), eqS, H', ⟨by have := HK1.out; have := HK2.out; omega⟩, bg BK288, hbg HB⟩
    ·obtain rfl := Option.some.inj H
     go_wp2
     go_ret
     exact ⟨eqE, bel_g HB.out⟩
 ·replace c3 := Bool.eq_false_iff.mpr c3
  subst c3
  replace H := ifF H
  obtain rfl := Option.some.inj H
  go_enter Tryd.func11, Tryd.ntmps11
  go_wp2_with (first | ((with_reducible refine gate_dst (N := 1) rfl ?_); refine boxG HB #[.int .i64 a0_0, .slice A0_1 l0_1.length c0_1] 26 ?_; intro gb288 hg w28 BK288 GE288 hb; replace HB := bst HB hb; clear hb hg; obtain ⟨_, _, _, _⟩ := blk2 BK288) | ((with_reducible refine gate_callee (f := 16) rfl ?_); refine goesQ (some 8) Tryd.func16 #[.agg #[.int .i64 a0_0, .slice A0_1 l0_1.length c0_1]] ?_; (with_reducible refine (impl_IsRelation.calls k a0_0 _ _ l0_1 false _ ?_ ?_ A2.out).mono ?_); exact C_g HR0_1 HB; exact HC0_1.out; rintro e w30 ⟨rfl, hb⟩; refine ⟨_, rfl, ?_⟩; replace BK288 := blkB BK288 hb; replace HB := bst HB hb; clear hb))
  go_ret
  exact ⟨eqE, bel_g HB.out⟩
end Go.Proofs.YthdlkadfhbbilaaDoor.Q
