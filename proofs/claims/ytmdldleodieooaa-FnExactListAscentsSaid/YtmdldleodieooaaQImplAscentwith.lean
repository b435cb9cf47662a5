-- printed by this project's own program (wip/mp/mp.py) over the kit's print, for this seat; Lean checks it
import Derived.Test.YtmdldleodieooaaQx0
import Derived.Test.YtmdldleodieooaaQImplWithin
import Derived.Test.YtmdldleodieooaaQImplCounterMost
import Derived.Test.YtmdldleodieooaaQImplNext
import Derived.Test.YtmdldleodieooaaQImplCounterWays
namespace Go.Proofs.Ytmdldleodieooaa.Q
open Go.RowKit Go.Proofs.YtmdldleodieooaaW.PrintWords Go.Proofs.YtmdldleodieooaaW.PrintLast Go.Proofs.YtmdldleodieooaaW.PrintMore
attribute [local go_sem] max2_int min2_int max_two min_two max_three min_three max_four min_four   -- for this text's walks alone
set_option linter.unusedVariables false
set_option maxHeartbeats 8000000
set_option maxRecDepth 100000
set_option linter.unusedSimpArgs false

/-! ### impl_AscentWith: function 13 -/
mutual
def impl_AscentWith.j0 : Nat → Int → Int → Bool → Option (List Int × Bool)
 | 0, _, _, _ => none
 | k + 1, x0, x1, x24 => if x24 = true then (some (([] : List Int), false)) else (impl_AscentWith.l0 k x0 x1 (([] : List Int)) (-1) 0)
def impl_AscentWith.l0 : Nat → Int → Int → List Int → Int → Int → Option (List Int × Bool)
 | 0, _, _, _, _, _ => none
 | k + 1, x0, x1, x7, x8, x9 => if (x7.length : Int) < x0 then (impl_AscentWith.l1 k x0 x1 x7 x8 x9 0) else (some (x7, true))
def impl_AscentWith.l1 : Nat → Int → Int → List Int → Int → Int → Int → Option (List Int × Bool)
 | 0, _, _, _, _, _, _ => none
 | k + 1, x0, x1, x7, x8, x9, x10 => (impl_next.f x8 x9 x10).bind fun t155 => ((impl_counter_ways.f (wrap64 ((wrap64 (x0 - (x7.length : Int))) - 1)) x10 t155).bind fun t156 => (if x1 < t156 then ((impl_next.f x8 x9 x10).bind fun t157 => (if x7.length < 17592186044416 then (impl_AscentWith.l0 k x0 x1 (x7 ++ [x10]) x10 t157) else (none))) else (impl_AscentWith.l1 k x0 (wrap64 (x1 - t156)) x7 x8 x9 (wrap64 (x10 + 1)))))
end
def impl_AscentWith.f (k : Nat) (a0 : Int) (a1 : Int) : Option (List Int × Bool) := (impl_within.f a0 0 12).bind fun t149 => (if t149 = true then ((impl_counter_ways.f a0 (-1) 0).bind fun t150 => ((impl_within.f a1 0 (wrap64 (t150 - 1))).bind fun t151 => (impl_AscentWith.j0 k a0 a1 (!t151)))) else (impl_AscentWith.j0 k a0 a1 true))
theorem impl_AscentWith.mono_l : ∀ k, (∀ y0 y1 y2, LeO (impl_AscentWith.j0 k y0 y1 y2) (impl_AscentWith.j0 (k + 1) y0 y1 y2)) ∧ (∀ y0 y1 y2 y3 y4, LeO (impl_AscentWith.l0 k y0 y1 y2 y3 y4) (impl_AscentWith.l0 (k + 1) y0 y1 y2 y3 y4)) ∧ (∀ y0 y1 y2 y3 y4 y5, LeO (impl_AscentWith.l1 k y0 y1 y2 y3 y4 y5) (impl_AscentWith.l1 (k + 1) y0 y1 y2 y3 y4 y5))
 | 0 => ⟨fun _ _ _ r h => by simp [impl_AscentWith.j0] at h, fun _ _ _ _ _ r h => by simp [impl_AscentWith.l0] at h, fun _ _ _ _ _ _ r h => by simp [impl_AscentWith.l1] at h⟩
 | k + 1 => by
  obtain ⟨ih0, ih1, ih2⟩ := impl_AscentWith.mono_l k
  refine ⟨?_, ?_, ?_⟩ <;> intros
  unfold impl_AscentWith.j0
  rotate_left
  unfold impl_AscentWith.l0
  rotate_left
  unfold impl_AscentWith.l1
  rotate_left
  all_goals repeat' (with_reducible first|apply ih0|apply ih1|apply ih2|apply LeO.refl|apply LeO.none|apply LeO.ite|apply LeO.bind|intro)
theorem impl_AscentWith.mono : ∀ a0 a1 k, LeO (impl_AscentWith.f k a0 a1) (impl_AscentWith.f (k + 1) a0 a1) := by
 intro a0 a1 k
 obtain ⟨ih0, ih1, ih2⟩ := impl_AscentWith.mono_l k
 unfold impl_AscentWith.f
 repeat' (with_reducible first|apply ih0|apply ih1|apply ih2|apply LeO.refl|apply LeO.none|apply LeO.ite|apply LeO.bind|intro)
theorem impl_AscentWith.calls (k : Nat) (a0 : Int) (a1 : Int) (r1 : List Int) (r2 : Bool) (w : World) (h : impl_AscentWith.f k a0 a1 = some (r1, r2)) :
  Calls Try.prog 13 #[.int .i64 a0, .int .i64 a1] w fun e w' => ∃ v0_ : Value, e = .returned (.tuple #[v0_, .bool r2]) ∧ Kd.R (Kd.int .i64) 3 w' w.heap.size (fun _ => True) v0_ r1 ∧ Below w.heap.size w w' := by
 have HB := mkA (Below.refl w.heap.size w)
 have H := h
 clear h
 unfold impl_AscentWith.f at H
 have HC3 := mkA H
 clear H
 go_enter Try.func13, Try.ntmps13
 go_upto_region 2 with (first | ((with_reducible refine gate_dst (N := 12) rfl ?_); refine map_event ?hg (N := 12) ?hd ?hr ?_; (case hd => rfl); (case hg => rfl); (case hr => first | (go_simp; done) | (go_simp; rfl)); intro gb148 hg w4 hbox hb; have HI148 := mkA ((⟨_, _, hbox, MapOk.none, (by rw [hg]; exact (below_size (bel_g HB.out)))⟩ : IsS33 w w4 gb148)); have GE148 := geB HB hg; replace HB := bst HB hb; clear hb hbox hg))
 (try simp only [Act.put, List.setIfInBounds_toArray, List.set_cons_zero, List.set_cons_succ])
 go_cut [24] (fun v24 wc => ∃ (kq : Nat) (x24_2 : Bool), v24 = .bool x24_2 ∧ Fc (impl_AscentWith.j0 kq a0 a1 x24_2 = some (r1, r2)) ∧ Fc (kq ≤ k) ∧ Fc (IsS33 w wc gb148 ) ∧ Fc (Below w.heap.size w wc))
 case first =>
  have H := HC3.out
  clear HC3
  obtain ⟨t149, A5, H⟩ := obE H
  by_cases c6 : t149 = true
  ·subst c6
   replace H := ifT H
   obtain ⟨t150, A7, H⟩ := obE H
   obtain ⟨t151, A8, H⟩ := obE H
   have H' := mkA H
   clear H
   go_wp2_with (first | ((with_reducible refine gate_callee (f := 11) rfl ?_); refine goesQ (some 14) Try.func11 #[.int .i64 a0, .int .i64 0, .int .i64 12] ?_; (with_reducible refine (impl_within.calls a0 0 12 true _ A5.out).mono ?_); rintro e w' ⟨rfl, ⟨nd, rfl⟩⟩; refine ⟨_, rfl, ?_⟩) | (go_at_call 12; (with_reducible refine (impl_counter_ways.calls gb148  a0 (-1) 0 t150 w _ ?_ ?_ A7.out).mono ?_); exact st33_0 HI148.out; exact bl33_0 HB.out HI148.out; rintro e w9 ⟨rfl, hi, hb, hk⟩; replace HI148 := mkA (hi); replace HB := mkA (hb); clear hb hk hi) | (go_at_call 11; (with_reducible refine (impl_within.calls a1 0 (wrap64 (t150 - 1)) t151 _ A8.out).mono ?_); rintro e w' ⟨rfl, ⟨nd, rfl⟩⟩))
   go_meet
   case rel => exact ⟨_, (!t151), eqS, H', ⟨by first | omega | exact Nat.le_refl _⟩, ⟨by exact st33_0 HI148.out⟩, ⟨by exact bl33_0 HB.out HI148.out⟩⟩
  ·replace c6 := Bool.eq_false_iff.mpr c6
   subst c6
   replace H := ifF H
   have H' := mkA H
   clear H
   go_wp2_with (first | ((with_reducible refine gate_callee (f := 11) rfl ?_); refine goesQ (some 14) Try.func11 #[.int .i64 a0, .int .i64 0, .int .i64 12] ?_; (with_reducible refine (impl_within.calls a0 0 12 false _ A5.out).mono ?_); rintro e w' ⟨rfl, ⟨nd, rfl⟩⟩; refine ⟨_, rfl, ?_⟩))
   go_meet
   case rel => exact ⟨_, (true), eqS, H', ⟨by first | omega | exact Nat.le_refl _⟩, ⟨by exact st33_0 HI148.out⟩, ⟨by exact bl33_0 HB.out HI148.out⟩⟩
 case rest =>
  clear HC3
  try clear c6
  obtain ⟨kq, x24_2, rfl, HA, HJ2, HI148, HB⟩ := hcut
  cases kq with
  | zero => exact absurd HA.out (by simp [impl_AscentWith.j0])
  | succ kj2 =>
   have H := HA.out
   clear HA
   simp only [impl_AscentWith.j0] at H
   by_cases c10 : x24_2 = true
   ·subst c10
    replace H := ifT H
    simp only [Option.some.injEq, Prod.mk.injEq] at H
    obtain ⟨rfl, rfl⟩ := H
    go_wp2
    go_ret2
    exact ⟨_, eqE, nilE, by exact bl33_0 HB.out HI148.out⟩
   ·replace c10 := Bool.eq_false_iff.mpr c10
    subst c10
    replace H := ifF H
    obtain ⟨y152, hy152⟩ : ∃ y_ : List Int, y_ = (([] : List Int)) := ⟨_, rfl⟩
    rw [← hy152] at H
    have Ny152 := mkA hy152
    clear hy152
    have H' := mkA H
    clear H
    go_wp2_with (first | ((with_reducible refine gate_dst (N := 25) rfl ?_); refine litE (Kd.int .i64) 3 ([] : List Int) [] ?hp ?_; (case hp => exact (Reps.none _ _)); intro v153 w11 ho12 hb hg_ hnew_; clear hg_ hnew_; (first | rw [← Ny152.out] at ho12 | (simp only [Int.reduceToNat] at ho12; rw [← Ny152.out] at ho12)); have HO154 := mkA (Kd.R_lower ho12 (below_size (by exact bl33_0 HB.out HI148.out))); replace HB := mkA (below_step (by exact bl33_0 HB.out HI148.out) hb); replace HI148 := mkA (IsS33.below (by exact st33_0 HI148.out) hb); clear hb ho12))
    go_loopg [1, 7, 8, 9] kj2 (fun kq v1 v7 v8 v9 w' => ∃ (x1_2 : Int) (x7_2 : List Int) (x8_2 : Int) (x9_2 : Int), v1 = .int .i64 x1_2 ∧ v8 = .int .i64 x8_2 ∧ v9 = .int .i64 x9_2 ∧ Fc (impl_AscentWith.l0 kq a0 x1_2 x7_2 x8_2 x9_2 = some (r1, r2)) ∧ Fc (kq ≤ kj2) ∧ Fc (Kd.R (Kd.int .i64) 3 w' w.heap.size (fun _ => True) v7 x7_2) ∧ Fc (IsS33 w w' gb148 ) ∧ Fc (Below w.heap.size w w'))
    case atStart => exact ⟨(a1), (y152), ((-1)), (0), eqS, eqS, eqS, H', ⟨Nat.le_refl _⟩, rg HO154, ⟨by exact st33_0 HI148.out⟩, ⟨by exact bl33_0 HB.out HI148.out⟩⟩
    case round =>
     clear H'
     try clear c6
     try clear c10
     obtain ⟨x1_2, x7_2, x8_2, x9_2, rfl, rfl, rfl, HA, HK2, HO_7, HI148, HB⟩ := hrel
     cases gk with
     | zero => exact absurd HA.out (by simp [impl_AscentWith.l0])
     | succ k2 =>
      have H := HA.out
      clear HA
      simp only [impl_AscentWith.l0] at H
      rcases iteE H with ⟨c13b0, H⟩ | ⟨c13b0, H⟩
      ·have H' := mkA H
       clear H
       obtain ⟨Ao14, co14, rfl⟩ := Kd.R_slice HO_7.out
       go_wp2
       go_loopg [1, 10] k2 (fun kq v1 v10 w' => ∃ (x1_3 : Int) (x10_3 : Int), v1 = .int .i64 x1_3 ∧ v10 = .int .i64 x10_3 ∧ Fc (impl_AscentWith.l1 kq a0 x1_3 x7_2 x8_2 x9_2 x10_3 = some (r1, r2)) ∧ Fc (kq ≤ k2) ∧ Fc (Kd.R (Kd.int .i64) 3 w' w.heap.size (fun _ => True) (.slice Ao14 x7_2.length co14) x7_2) ∧ Fc (IsS33 w w' gb148 ) ∧ Fc (Below w.heap.size w w'))
       case atStart => exact ⟨(x1_2), (0), eqS, eqS, H', ⟨Nat.le_refl _⟩, rg HO_7, ⟨by exact st33_0 HI148.out⟩, ⟨by exact bl33_0 HB.out HI148.out⟩⟩
       case round =>
        clear H'
        try clear c6
        try clear c10
        try clear c13b0
        obtain ⟨x1_3, x10_3, rfl, rfl, HA, HK3, HO_7, HI148, HB⟩ := hrel
        cases gk with
        | zero => exact absurd HA.out (by simp [impl_AscentWith.l1])
        | succ k3 =>
         have H := HA.out
         clear HA
         simp only [impl_AscentWith.l1] at H
         obtain ⟨t155, A15, H⟩ := obE H
         obtain ⟨t156, A16, H⟩ := obE H
         rcases iteE H with ⟨c17b0, H⟩ | ⟨c17b0, H⟩
         ·obtain ⟨t157, A18, H⟩ := obE H
          obtain ⟨c19, H⟩ := itNP H
          have LMc19 := mkA c19
          clear c19
          obtain ⟨y158, hy158⟩ : ∃ y_ : List Int, y_ = (x7_2 ++ [x10_3]) := ⟨_, rfl⟩
          rw [← hy158] at H
          have Ny158 := mkA hy158
          clear hy158
          have H' := mkA H
          clear H
          go_wp2_with (first | ((with_reducible refine gate_callee (f := 20) rfl ?_); refine goesQ (some 42) Try.func20 #[.int .i64 x8_2, .int .i64 x9_2, .int .i64 x10_3] ?_; (with_reducible refine (impl_next.calls x8_2 x9_2 x10_3 t155 _ A15.out).mono ?_); rintro e w' ⟨rfl, ⟨nd, rfl⟩⟩; refine ⟨_, rfl, ?_⟩) | ((with_reducible refine gate_callee (f := 12) rfl ?_); refine goesQ (some 43) Try.func12 #[.map (some gb148), .int .i64 (wrap64 ((wrap64 (a0 - (x7_2.length : Int))) - 1)), .int .i64 x10_3, .int .i64 t155] ?_; (with_reducible refine (impl_counter_ways.calls gb148  (wrap64 ((wrap64 (a0 - (x7_2.length : Int))) - 1)) x10_3 t155 t156 w _ ?_ ?_ A16.out).mono ?_); exact st33_0 HI148.out; exact bl33_0 HB.out HI148.out; rintro e w20 ⟨rfl, hi, hb, hk⟩; refine ⟨_, rfl, ?_⟩; replace HO_7 := rK (IsS33.apart (show IsS33 w _ gb148  from by exact st33_0 HI148.out) (Kd.R_g HO_7.out) (by decide)) hk; replace HI148 := mkA (hi); replace HB := mkA (hb); clear hb hk hi) | ((with_reducible refine gate_callee (f := 20) rfl ?_); refine goesQ (some 53) Try.func20 #[.int .i64 x8_2, .int .i64 x9_2, .int .i64 x10_3] ?_; (with_reducible refine (impl_next.calls x8_2 x9_2 x10_3 t157 _ A18.out).mono ?_); rintro e w' ⟨rfl, ⟨nd, rfl⟩⟩; refine ⟨_, rfl, ?_⟩) | ((with_reducible refine gate_builtin (b := .append) (xs := #[.tmp 54, .tmp 56]) rfl ?_); at_builtin; refine Kd.R_append (Kd.int .i64) (w0 := w) w.heap.size rfl (.tmp 54) (.tmp 56) 29 3 (.int .i64 0) 8 rfl Try.underlying29 info3 rfl (by decide) (by omega) (.slice Ao14 x7_2.length co14) x7_2 x10_3 [.int .i64 x10_3] (fun _ => True) (fun _ => False) rfl rfl ?aP (fun _ hk => hk.elim) ?aF ?aO ?aB ?aS ?aL ?_; (case aP => exact rfl); (case aB => exact (by exact bl33_0 HB.out HI148.out)); (case aF => exact (fun _ _ => trivial)); (case aO => exact (Kd.R_g HO_7.out)); (case aS => exact (below_size (by exact bl33_0 HB.out HI148.out))); (case aL => have := LMc19.out; omega); intro v159 w21 ho hb hg hat; rw [← Ny158.out] at ho; replace HI148 := mkA (IsS33.grown (by exact st33_0 HI148.out) hg (IsS33.own_ne HI148.out HO_7.out (by decide))); have HO160 := mkA (ho); replace HB := mkA (hb); clear HO_7; clear ho hb hg hat))
          go_roundg k3
          case measure => have := HJ2.out; have := HK2.out; have := HK3.out; omega
          case rel => exact ⟨(x1_3), (y158), (x10_3), (t157), eqS, eqS, eqS, H', ⟨by have := HJ2.out; have := HK2.out; have := HK3.out; omega⟩, rg HO160, ⟨by exact st33_0 HI148.out⟩, ⟨by exact bl33_0 HB.out HI148.out⟩⟩
         ·have H' := mkA H
          clear H
          go_wp2_with (first | ((with_reducible refine gate_callee (f := 20) rfl ?_); refine goesQ (some 42) Try.func20 #[.int .i64 x8_2, .int .i64 x9_2, .int .i64 x10_3] ?_; (with_reducible refine (impl_next.calls x8_2 x9_2 x10_3 t155 _ A15.out).mono ?_); rintro e w' ⟨rfl, ⟨nd, rfl⟩⟩; refine ⟨_, rfl, ?_⟩) | ((with_reducible refine gate_callee (f := 12) rfl ?_); refine goesQ (some 43) Try.func12 #[.map (some gb148), .int .i64 (wrap64 ((wrap64 (a0 - (x7_2.length : Int))) - 1)), .int .i64 x10_3, .int .i64 t155] ?_; (with_reducible refine (impl_counter_ways.calls gb148  (wrap64 ((wrap64 (a0 - (x7_2.length : Int))) - 1)) x10_3 t155 t156 w _ ?_ ?_ A16.out).mono ?_); exact st33_0 HI148.out; exact bl33_0 HB.out HI148.out; rintro e w22 ⟨rfl, hi, hb, hk⟩; refine ⟨_, rfl, ?_⟩; replace HO_7 := rK (IsS33.apart (show IsS33 w _ gb148  from by exact st33_0 HI148.out) (Kd.R_g HO_7.out) (by decide)) hk; replace HI148 := mkA (hi); replace HB := mkA (hb); clear hb hk hi))
          go_roundg k3
          case measure => have := HJ2.out; have := HK2.out; have := HK3.out; omega
          case rel => exact ⟨(wrap64 (x1_3 - t156)), (wrap64 (x10_3 + 1)), eqS, eqS, H', ⟨by have := HJ2.out; have := HK2.out; have := HK3.out; omega⟩, rg HO_7, ⟨by exact st33_0 HI148.out⟩, ⟨by exact bl33_0 HB.out HI148.out⟩⟩
      ·simp only [Option.some.injEq, Prod.mk.injEq] at H
       obtain ⟨rfl, rfl⟩ := H
       obtain ⟨Ao23, co23, rfl⟩ := Kd.R_slice HO_7.out
       go_wp2
       go_ret2
       exact ⟨_, eqE, Kd.R_g HO_7.out, by exact bl33_0 HB.out HI148.out⟩

end Go.Proofs.Ytmdldleodieooaa.Q
