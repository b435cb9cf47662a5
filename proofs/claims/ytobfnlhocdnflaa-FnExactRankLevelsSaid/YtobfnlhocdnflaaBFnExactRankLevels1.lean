import Derived.Test.YtobfnlhocdnflaaBFnExactRankLevels0
namespace Go.Proofs.Ytobfnlhocdnflaa.Q
open Go.RowKit Go.Proofs.YtobfnlhocdnflaaW.PrintWords Go.Proofs.YtobfnlhocdnflaaW.PrintLast Go.Proofs.YtobfnlhocdnflaaW.PrintMore
attribute [local go_sem] max2_int min2_int max_two min_two max_three min_three max_four min_four
set_option linter.unusedVariables false
set_option maxHeartbeats 8000000
set_option maxRecDepth 100000
set_option linter.unusedSimpArgs false
def spec_l1Has.l0 : Nat → Int → List Int → Int → Int → Option (Bool)
 | 0, _, _, _, _ => none
 | k + 1, x1, x7, x8, x9 => if x9 < x8 then (if 0 ≤ x9 then (if x9 < (x7.length : Int) then (if (rd x7 x9) = x1 then (some true) else (spec_l1Has.l0 k x1 x7 x8 (wrap64 (x9 + 1)))) else (none)) else (none)) else (some false)
def spec_l1Has.f (k : Nat) (l0 : List Int) (a1 : Int) : Option (Bool) := spec_l1Has.l0 k a1 l0 (l0.length : Int) 0
theorem spec_l1Has.mono_l : ∀ k, (∀ y0 y1 y2 y3, LeO (spec_l1Has.l0 k y0 y1 y2 y3) (spec_l1Has.l0 (k + 1) y0 y1 y2 y3))
 | 0 => fun _ _ _ _ r h => by simp [spec_l1Has.l0] at h
 | k + 1 => by
  have ih0 := spec_l1Has.mono_l k
  ·intro y0 y1 y2 y3
   unfold spec_l1Has.l0
   repeat' (with_reducible first|apply ih0|apply LeO.refl|apply LeO.none|apply LeO.ite|apply LeO.bind|intro)
theorem spec_l1Has.mono : ∀ a0 a1 k, LeO (spec_l1Has.f k a0 a1) (spec_l1Has.f (k + 1) a0 a1) := by
 intro a0 a1 k
 have ih0 := spec_l1Has.mono_l k
 unfold spec_l1Has.f
 repeat' (with_reducible first|apply ih0|apply LeO.refl|apply LeO.none|apply LeO.ite|apply LeO.bind|intro)
theorem spec_l1Has.calls (k : Nat) (A0 : Option Addr) (c0 : Nat) (l0 : List Int) (a1 : Int) (r : Bool) (w : World) (hr0 : Kd.C (Kd.int .i64) w A0 l0.length l0) (hc0 : l0.length ≤ c0) (h : spec_l1Has.f k l0 a1 = some r) :
  Calls Try.prog 27 #[.slice A0 l0.length c0, .int .i64 a1] w fun e w' => e = .returned (.bool r) ∧ Drawn0 w w' := by
 have HR0 := mkA hr0
 have HC0 := mkA hc0
 clear hr0 hc0
 have H := h
 clear h
 unfold spec_l1Has.f at H
 have H' := mkA H
 clear H
 go_enter Try.func27, Try.ntmps27
 go_wp2
 go_loopg [9] k (fun kq v9 w' => ∃ (x9_1 : Int), v9 = .int .i64 x9_1 ∧ Fc (spec_l1Has.l0 kq a1 l0 (l0.length : Int) x9_1 = some r) ∧ Fc (kq ≤ k) ∧ Drawn0 w w')
 case atStart => exact ⟨(0), eqS, H', ⟨Nat.le_refl _⟩, by repeat (first | exact Drawn0.refl _ | apply Drawn0.step)⟩
 case round =>
  clear H'
  obtain ⟨x9_1, rfl, HA, HK1, ⟨m1, rfl⟩⟩ := hrel
  cases gk with
  | zero => exact absurd HA.out (by simp [spec_l1Has.l0])
  | succ k1 =>
   have H := HA.out
   clear HA
   simp only [spec_l1Has.l0] at H
   rcases iteE H with ⟨c3b0, H⟩ | ⟨c3b0, H⟩
   ·obtain ⟨c4b0, H⟩ := itND H
    obtain ⟨c5b0, H⟩ := itND H
    rcases iteP H with ⟨c6, H⟩ | ⟨c6, H⟩
    ·have c6b0 := beq_iff_eq.mpr c6
     have c6b1 := bne_eq_false_iff_eq.mpr c6
     clear c6
     obtain rfl := Option.some.inj H
     obtain ⟨p103, q103, ad103, e103, hx103_0⟩ := atI HR0.out x9_1
     cases e103
     go_wp2
     go_ret
     exact ⟨eqS, drE⟩
    ·have c6b0 := beq_eq_false_iff_ne.mpr c6
     have c6b1 := bne_iff_ne.mpr c6
     have H' := mkA H
     clear H
     obtain ⟨p103, q103, ad103, e103, hx103_0⟩ := atI HR0.out x9_1
     cases e103
     go_wp2
     go_roundg k1
     case measure => have := HK1.out; omega
     case rel => exact ⟨(wrap64 (x9_1 + 1)), eqS, H', ⟨by have := HK1.out; omega⟩, by repeat (first | exact Drawn0.refl _ | apply Drawn0.step)⟩
   ·obtain rfl := Option.some.inj H
    go_wp2
    go_ret
    exact ⟨eqS, drE⟩
mutual
def spec_weLevels.j0 : Nat → List Int → Bool → Option (Bool)
 | 0, _, _ => none
 | k + 1, x0, x12 => if x12 = true then (some false) else (spec_weLevels.l0 k x0 x0 (x0.length : Int) 0)
def spec_weLevels.l0 : Nat → List Int → List Int → Int → Int → Option (Bool)
 | 0, _, _, _, _ => none
 | k + 1, x0, x13, x14, x15 => if x15 < x14 then (if 0 ≤ x15 then (if x15 < (x13.length : Int) then (if (rd x13 x15) > 0 then ((spec_l1Has.f k x0 (wrap64 ((rd x13 x15) - 1))).bind fun t106 => (if t106 = true then (spec_weLevels.l0 k x0 x13 x14 (wrap64 (x15 + 1))) else (some false))) else (spec_weLevels.l0 k x0 x13 x14 (wrap64 (x15 + 1)))) else (none)) else (none)) else (some true)
end
def spec_weLevels.f (k : Nat) (l0 : List Int) : Option (Bool) := if (l0.length : Int) > 10 then (spec_weLevels.j0 k l0 true) else ((spec_l1All.f k l0 0 10).bind fun t104 => (spec_weLevels.j0 k l0 (!t104)))
theorem spec_weLevels.mono_l : ∀ k, (∀ y0 y1, LeO (spec_weLevels.j0 k y0 y1) (spec_weLevels.j0 (k + 1) y0 y1)) ∧ (∀ y0 y1 y2 y3, LeO (spec_weLevels.l0 k y0 y1 y2 y3) (spec_weLevels.l0 (k + 1) y0 y1 y2 y3))
 | 0 => ⟨fun _ _ r h => by simp [spec_weLevels.j0] at h, fun _ _ _ _ r h => by simp [spec_weLevels.l0] at h⟩
 | k + 1 => by
  obtain ⟨ih0, ih1⟩ := spec_weLevels.mono_l k
  refine ⟨?_, ?_⟩ <;> intros
  unfold spec_weLevels.j0
  rotate_left
  unfold spec_weLevels.l0
  rotate_left
  all_goals repeat' (with_reducible first|apply ih0|apply ih1|apply spec_l1All.mono|apply spec_l1Has.mono|apply LeO.refl|apply LeO.none|apply LeO.ite|apply LeO.bind|intro)
theorem spec_weLevels.mono : ∀ a0 k, LeO (spec_weLevels.f k a0) (spec_weLevels.f (k + 1) a0) := by
 intro a0 k
 obtain ⟨ih0, ih1⟩ := spec_weLevels.mono_l k
 unfold spec_weLevels.f
 repeat' (with_reducible first|apply ih0|apply ih1|apply spec_l1All.mono|apply spec_l1Has.mono|apply LeO.refl|apply LeO.none|apply LeO.ite|apply LeO.bind|intro)
theorem spec_weLevels.calls (k : Nat) (A0 : Option Addr) (c0 : Nat) (l0 : List Int) (r : Bool) (w : World) (hr0 : Kd.C (Kd.int .i64) w A0 l0.length l0) (hc0 : l0.length ≤ c0) (h : spec_weLevels.f k l0 = some r) :
  Calls Try.prog 17 #[.slice A0 l0.length c0] w fun e w' => e = .returned (.bool r) ∧ Drawn0 w w' := by
 have HR0 := mkA hr0
 have HC0 := mkA hc0
 clear hr0 hc0
 have H := h
 clear h
 unfold spec_weLevels.f at H
 have HC2 := mkA H
 clear H
 go_enter Try.func17, Try.ntmps17
 go_upto_region 1 with (fail)
 go_cut [12] (fun v12 wc => ∃ (kq : Nat) (x12_1 : Bool), v12 = .bool x12_1 ∧ Fc (spec_weLevels.j0 kq l0 x12_1 = some r) ∧ Fc (kq ≤ k) ∧ Drawn0 w wc)
 case first =>
  have H := HC2.out
  clear HC2
  rcases iteP H with ⟨c3, H⟩ | ⟨c3, H⟩
  ·have c3b0 := decide_eq_true c3
   have c3b1 : decide (10 < l0.length) = true := decide_eq_true (by omega)
   clear c3
   (first | rw [c3b0] | (simp only [i64_w, i32_w]; rw [c3b0]) | skip)
   have H' := mkA H
   clear H
   go_wp2
   go_meet
   case rel => exact ⟨_, (true), eqS, H', ⟨by first | omega | exact Nat.le_refl _⟩, by repeat (first | exact Drawn0.refl _ | apply Drawn0.step)⟩
  ·have c3b0 := decide_eq_false c3
   have c3b1 : decide (10 < l0.length) = false := decide_eq_false (by omega)
   clear c3
   (first | rw [c3b0] | (simp only [i64_w, i32_w]; rw [c3b0]) | skip)
   obtain ⟨t104, A4, H⟩ := obE H
   have H' := mkA H
   clear H
   go_wp2_with (first | (go_at_call 26; (with_reducible refine (spec_l1All.calls k _ _ l0 0 10 t104 _ ?s1 ?s2 A4.out).mono ?_); (case s1 => repeat (first | exact HR0.out | (with_reducible refine Kd.C_alloc ?_ _) | (with_reducible refine Kd.C_drewN ?_ _) | (with_reducible refine Kd.C_drew ?_))); (case s2 => exact HC0.out); rintro e w' ⟨rfl, ⟨nd, rfl⟩⟩))
   go_meet
   case rel => exact ⟨_, (!t104), eqS, H', ⟨by first | omega | exact Nat.le_refl _⟩, by repeat (first | exact Drawn0.refl _ | apply Drawn0.step)⟩
 case rest =>
  clear HC2
  try clear c3
  try clear c3b0
  try clear c3b1
  obtain ⟨kq, x12_1, rfl, HA, HJ1, ⟨mc1, rfl⟩⟩ := hcut
  cases kq with
  | zero => exact absurd HA.out (by simp [spec_weLevels.j0])
  | succ kj1 =>
   have H := HA.out
   clear HA
   simp only [spec_weLevels.j0] at H
   by_cases c5 : x12_1 = true
   ·subst c5
    replace H := ifT H
    obtain rfl := Option.some.inj H
    go_wp2
    go_ret
    exact ⟨eqS, drE⟩
   ·replace c5 := Bool.eq_false_iff.mpr c5
    subst c5
    replace H := ifF H
    have H' := mkA H
    clear H
    go_wp2
    go_loopg [15] kj1 (fun kq v15 w' => ∃ (x15_2 : Int), v15 = .int .i64 x15_2 ∧ Fc (spec_weLevels.l0 kq l0 l0 (l0.length : Int) x15_2 = some r) ∧ Fc (kq ≤ kj1) ∧ Drawn0 w w')
    case atStart => exact ⟨(0), eqS, H', ⟨Nat.le_refl _⟩, by repeat (first | exact Drawn0.refl _ | apply Drawn0.step)⟩
    case round =>
     clear H'
     try clear c3
     try clear c3b0
     try clear c3b1
     try clear c5
     obtain ⟨x15_2, rfl, HA, HK2, ⟨m2, rfl⟩⟩ := hrel
     cases gk with
     | zero => exact absurd HA.out (by simp [spec_weLevels.l0])
     | succ k2 =>
      have H := HA.out
      clear HA
      simp only [spec_weLevels.l0] at H
      rcases iteE H with ⟨c6b0, H⟩ | ⟨c6b0, H⟩
      ·obtain ⟨c7b0, H⟩ := itND H
       obtain ⟨c8b0, H⟩ := itND H
       rcases iteP H with ⟨c9, H⟩ | ⟨c9, H⟩
       ·have c9b0 := decide_eq_true c9
        clear c9
        obtain ⟨t106, A10, H⟩ := obE H
        by_cases c11 : t106 = true
        ·subst c11
         replace H := ifT H
         have H' := mkA H
         clear H
         obtain ⟨p105, q105, ad105, e105, hx105_0⟩ := atI HR0.out x15_2
         cases e105
         go_wp2_with (first | (go_at_call 27; (with_reducible refine (spec_l1Has.calls k2 _ _ l0 (wrap64 ((rd l0 x15_2) - 1)) true _ ?s1 ?s2 A10.out).mono ?_); (case s1 => repeat (first | exact HR0.out | (with_reducible refine Kd.C_alloc ?_ _) | (with_reducible refine Kd.C_drewN ?_ _) | (with_reducible refine Kd.C_drew ?_))); (case s2 => exact HC0.out); rintro e w' ⟨rfl, ⟨nd, rfl⟩⟩))
         go_roundg k2
         case measure => have := HJ1.out; have := HK2.out; omega
         case rel => exact ⟨(wrap64 (x15_2 + 1)), eqS, H', ⟨by have := HJ1.out; have := HK2.out; omega⟩, by repeat (first | exact Drawn0.refl _ | apply Drawn0.step)⟩
        ·replace c11 := Bool.eq_false_iff.mpr c11
         subst c11
         replace H := ifF H
         obtain rfl := Option.some.inj H
         obtain ⟨p105, q105, ad105, e105, hx105_0⟩ := atI HR0.out x15_2
         cases e105
         go_wp2_with (first | (go_at_call 27; (with_reducible refine (spec_l1Has.calls k2 _ _ l0 (wrap64 ((rd l0 x15_2) - 1)) false _ ?s1 ?s2 A10.out).mono ?_); (case s1 => repeat (first | exact HR0.out | (with_reducible refine Kd.C_alloc ?_ _) | (with_reducible refine Kd.C_drewN ?_ _) | (with_reducible refine Kd.C_drew ?_))); (case s2 => exact HC0.out); rintro e w' ⟨rfl, ⟨nd, rfl⟩⟩))
         go_ret
         exact ⟨eqS, drE⟩
       ·have c9b0 := decide_eq_false c9
        clear c9
        have H' := mkA H
        clear H
        obtain ⟨p105, q105, ad105, e105, hx105_0⟩ := atI HR0.out x15_2
        cases e105
        go_wp2
        go_roundg k2
        case measure => have := HJ1.out; have := HK2.out; omega
        case rel => exact ⟨(wrap64 (x15_2 + 1)), eqS, H', ⟨by have := HJ1.out; have := HK2.out; omega⟩, by repeat (first | exact Drawn0.refl _ | apply Drawn0.step)⟩
      ·obtain rfl := Option.some.inj H
       go_wp2
       go_ret
       exact ⟨eqS, drE⟩
def spec_l1Own.f (l0 : List Int) : Option (List Int) := (some (([] : List Int) : List Int)).bind fun y107 => (if y107.length + l0.length < 17592186044416 then (some (y107 ++ l0)) else (none))
theorem spec_l1Own.calls (A0 : Option Addr) (c0 : Nat) (l0 : List Int) (r : List Int) (w : World) (hr0 : Kd.C (Kd.int .i64) w A0 l0.length l0) (hc0 : l0.length ≤ c0) (h : spec_l1Own.f l0 = some r) :
  Calls Try.prog 23 #[.slice A0 l0.length c0] w fun e w' => ∃ v0_ : Value, e = .returned (v0_) ∧ Kd.R (Kd.int .i64) 3 w' w.heap.size (fun _ => True) v0_ r ∧ Below w.heap.size w w' := by
 have HR0 := mkA hr0
 have HC0 := mkA hc0
 clear hr0 hc0
 have HB := mkA (Below.refl w.heap.size w)
 have H := h
 clear h
 unfold spec_l1Own.f at H
 obtain ⟨y107, Ny107, H⟩ := nmE H
 obtain ⟨c2, H⟩ := itNP H
 have LMc2 := mkA c2
 clear c2
 obtain ⟨y110, hy110⟩ : ∃ y_ : List Int, y_ = (y107 ++ l0) := ⟨_, rfl⟩
 rw [← hy110] at H
 have Ny110 := mkA hy110
 clear hy110
 obtain rfl := Option.some.inj H
 go_enter Try.func23, Try.ntmps23
 go_wp2_with (first | ((with_reducible refine gate_dst (N := 3) rfl ?_); refine litE (Kd.int .i64) 3 ([] : List Int) [] ?hp ?_; (case hp => exact (Reps.none _ _)); intro v108 w3 ho4 hb hg_ hnew_; clear hg_ hnew_; (first | rw [← Ny107.out] at ho4 | (simp only [Int.reduceToNat] at ho4; rw [← Ny107.out] at ho4)); have HO109 := rLo ho4 HB; replace HB := bst HB hb; clear hb ho4) | ((with_reducible refine gate_builtin (b := .append) (xs := #[.tmp 3, .tmp 4]) rfl ?_); at_builtin; refine Kd.R_append_rows (Kd.int .i64) (w0 := w) w.heap.size rfl (.tmp 3) (.tmp 4) 22 3 (.int .i64 0) 8 rfl Try.underlying22 info3 rfl (by decide) (by omega) v108 y107 l0 _ _ _ (fun _ => True) (fun _ => False) rfl rfl ?aO ?aR (fun _ _ h => h) (fun _ h => h.elim) ?aF ?aB ?aS ?aL ?_; (case aR => exact C_g HR0 HB); (case aB => exact (bel_g HB.out)); (case aF => exact (fun _ _ => trivial)); (case aO => exact (Kd.R_g HO109.out)); (case aS => exact (below_size (bel_g HB.out))); (case aL => have := LMc2.out; omega); intro v111 w5 ho hb hg hat; rw [← Ny110.out] at ho; have HO112 := mkA (ho); replace HB := mkA (hb); clear HO109; clear ho hb hg hat))
 go_ret
 exact ⟨_, eqE, Kd.R_g HO112.out, bel_g HB.out⟩
mutual
def spec_weAll.l0 : Nat → List Int → Int → List (List Int) → Int → Option ((List (List Int)))
 | 0, _, _, _, _ => none
 | k + 1, x0, x1, x5, x6 => if x6 < x1 then ((spec_l1Own.f x0).bind fun t120 => (if t120.length < 17592186044416 then ((spec_weAll.f k (t120 ++ [x6]) x1).bind fun t126 => (if x5.length + t126.length < 5864062014805 then (spec_weAll.l0 k x0 x1 (x5 ++ t126) (wrap64 (x6 + 1))) else (none))) else (none))) else (some x5)
def spec_weAll.f : Nat → List Int → Int → Option ((List (List Int)))
 | 0, _, _ => none
 | k + 1, l0, a1 => if (l0.length : Int) = a1 then ((spec_weLevels.f k l0).bind fun t113 => (if t113 = true then ((spec_l1Own.f l0).bind fun t114 => (some (([t114] : List (List Int))))) else (some ([] : List (List Int))))) else (spec_weAll.l0 k l0 a1 ([] : List (List Int)) 0)
end
theorem spec_weAll.mono_l : ∀ k, (∀ y0 y1, LeO (spec_weAll.f k y0 y1) (spec_weAll.f (k + 1) y0 y1)) ∧ (∀ y0 y1 y2 y3, LeO (spec_weAll.l0 k y0 y1 y2 y3) (spec_weAll.l0 (k + 1) y0 y1 y2 y3))
 | 0 => ⟨fun _ _ r h => by simp [spec_weAll.f] at h, fun _ _ _ _ r h => by simp [spec_weAll.l0] at h⟩
 | k + 1 => by
  obtain ⟨ih0, ih1⟩ := spec_weAll.mono_l k
  refine ⟨?_, ?_⟩ <;> intros
  unfold spec_weAll.f
  rotate_left
  unfold spec_weAll.l0
  rotate_left
  all_goals repeat' (with_reducible first|apply ih0|apply ih1|apply spec_weLevels.mono|apply LeO.refl|apply LeO.none|apply LeO.ite|apply LeO.bind|intro)
theorem spec_weAll.mono : ∀ a0 a1 k, LeO (spec_weAll.f k a0 a1) (spec_weAll.f (k + 1) a0 a1) := by
 intro a0 a1 k
 obtain ⟨ih0, ih1⟩ := spec_weAll.mono_l k
 exact ih0 a0 a1
theorem spec_weAll.calls (k : Nat) : ∀ (A0 : Option Addr) (c0 : Nat) (l0 : List Int) (a1 : Int) (r : List (List Int)) (w : World) (hr0 : Kd.C (Kd.int .i64) w A0 l0.length l0) (hc0 : l0.length ≤ c0) (h : spec_weAll.f k l0 a1 = some r),
  Calls Try.prog 14 #[.slice A0 l0.length c0, .int .i64 a1] w fun e w' => ∃ v0_ : Value, e = .returned (v0_) ∧ Kd.N (Kd.slice 3 (Kd.int .i64)) 22 w' w.heap.size (fun k_ => (w.heap.size ≤ k_)) v0_ r ∧ Below w.heap.size w w' := by
 induction k using Nat.strongRecOn with
 | _ k ih =>
 intro A0 c0 l0 a1 r w hr0 hc0 h
 cases k with
 | zero => exact absurd h (by simp [spec_weAll.f])
 | succ k =>
 simp only [spec_weAll.f] at h
 have HR0 := mkA hr0
 have HC0 := mkA hc0
 clear hr0 hc0
 have HB := mkA (Below.refl w.heap.size w)
 have H := h
 clear h
 unfold spec_weAll.f at H
 rcases iteP H with ⟨c3, H⟩ | ⟨c3, H⟩
 ·have c3b0 := beq_iff_eq.mpr c3
  have c3b1 := bne_eq_false_iff_eq.mpr c3
  clear c3
  obtain ⟨t113, A4, H⟩ := obE H
  by_cases c5 : t113 = true
  ·subst c5
   replace H := ifT H
   obtain ⟨t114, A6, H⟩ := obE H
   obtain ⟨y117, hy117⟩ : ∃ y_ : List (List Int), y_ = (([t114] : List (List Int))) := ⟨_, rfl⟩
   rw [← hy117] at H
   have Ny117 := mkA hy117
   clear hy117
   obtain rfl := Option.some.inj H
   go_enter Try.func14, Try.ntmps14
   go_wp2_with (first | ((with_reducible refine gate_callee (f := 17) rfl ?_); refine goesQ (some 12) Try.func17 #[.slice A0 l0.length c0] ?_; (with_reducible refine (spec_weLevels.calls k _ _ l0 true _ ?s1 ?s2 A4.out).mono ?_); (case s1 => repeat (first | exact HR0.out | (with_reducible refine Kd.C_alloc ?_ _) | (with_reducible refine Kd.C_drewN ?_ _) | (with_reducible refine Kd.C_drew ?_))); (case s2 => exact HC0.out); rintro e w' ⟨rfl, ⟨nd, rfl⟩⟩; refine ⟨_, rfl, ?_⟩) | ((with_reducible refine gate_callee (f := 23) rfl ?_); refine goesQ (some 14) Try.func23 #[.slice A0 l0.length c0] ?_; (with_reducible refine (spec_l1Own.calls _ _ l0 t114 _ ?s1 ?s2 A6.out).mono ?_); (case s1 => repeat (first | exact HR0.out | (with_reducible refine Kd.C_alloc ?_ _) | (with_reducible refine Kd.C_drewN ?_ _) | (with_reducible refine Kd.C_drew ?_))); (case s2 => exact HC0.out); rintro e w7 ⟨v115, rfl, ho0, hb⟩; refine ⟨_, rfl, ?_⟩; have HO116 := rLo (Kd.R_newM (M := fun k_ => (w.heap.size ≤ k_)) ho0 (below_size (bel_g HB.out)) (fun k_ h_ => h_)) HB; replace HB := bst HB hb; clear hb ho0; obtain ⟨Ao8, co8, rfl⟩ := Kd.R_slice HO116.out) | ((with_reducible refine gate_dst (N := 15) rfl ?_); refine Kd.N_lit (Kd.slice 3 (Kd.int .i64)) _ 22 ?hg (N' := 15) ?hd (xs := ([t114] : List (List Int))) (inner := [.slice Ao8 t114.length co8]) (ok := (fun k_ => (w.heap.size ≤ k_))) (okp := (fun k_ => (w.heap.size ≤ k_))) ?hr ?hp (fun _ hk => hk) ((show ∀ k_, w7.heap.size ≤ k_ → (fun k_ => (w.heap.size ≤ k_)) k_ from fun k_ hk => (Nat.le_trans (below_size (bel_g HB.out)) hk)) _ (Nat.le_refl _)) (Below.refl _ _) (Nat.le_refl _) (by simp) ?_; (case hd => rfl); (case hg => rfl); (case hr => first | (go_simp; done) | (go_simp; rfl)); (case hp => exact (Reps.one (show Kd.FK (Kd.slice 3 (Kd.int .i64)) _ _ t114 [.slice Ao8 t114.length co8] from (Kd.FK_slice_mk (Kd.R_reads' (Kd.R_mono (ok' := (fun k_ => (w.heap.size ≤ k_))) (HO116.out) (fun k_ hk => hk.1))).2.1 (Kd.R_F (Kd.R_mono (ok' := (fun k_ => (w.heap.size ≤ k_))) (HO116.out) (fun k_ hk => hk.1))))) (Reps.none _ _))); intro v118 w9 ho10 hb hg_ hnew_; clear hg_ hnew_; (first | rw [← Ny117.out] at ho10 | (simp only [Int.reduceToNat] at ho10; rw [← Ny117.out] at ho10)); have HO119 := mkA (Kd.N_lower ho10 (below_size (bel_g HB.out))); replace HB := bst HB hb; clear HO116; clear hb ho10))
   go_ret
   exact ⟨_, eqE, by (with_reducible repeat (first | apply Kd.N_alloc | apply Kd.N_drewN | apply Kd.N_drew)); exact HO119.out, bel_g HB.out⟩
  ·replace c5 := Bool.eq_false_iff.mpr c5
   subst c5
   replace H := ifF H
   obtain rfl := Option.some.inj H
   go_enter Try.func14, Try.ntmps14
   go_wp2_with (first | ((with_reducible refine gate_callee (f := 17) rfl ?_); refine goesQ (some 12) Try.func17 #[.slice A0 l0.length c0] ?_; (with_reducible refine (spec_weLevels.calls k _ _ l0 false _ ?s1 ?s2 A4.out).mono ?_); (case s1 => repeat (first | exact HR0.out | (with_reducible refine Kd.C_alloc ?_ _) | (with_reducible refine Kd.C_drewN ?_ _) | (with_reducible refine Kd.C_drew ?_))); (case s2 => exact HC0.out); rintro e w' ⟨rfl, ⟨nd, rfl⟩⟩; refine ⟨_, rfl, ?_⟩))
   go_ret
   exact ⟨_, eqE, by first | exact Kd.S_nil _ _ _ _ _ | exact Kd.N_nil _ _ _ _ _ | exact Kd.V_nil _ _ _ _ _ | exact Kd.Q_nil _ _ _ _ _ | exact Kd.R_nil _ _ _ _ _, bel_g HB.out⟩
 ·have c3b0 := beq_eq_false_iff_ne.mpr c3
  have c3b1 := bne_iff_ne.mpr c3
  have H' := mkA H
  clear H
  go_enter Try.func14, Try.ntmps14
  go_wp2
  go_loopg [5, 6] k (fun kq v5 v6 w' => ∃ (x5_1 : List (List Int)) (x6_1 : Int), v6 = .int .i64 x6_1 ∧ Fc (spec_weAll.l0 kq l0 a1 x5_1 x6_1 = some r) ∧ Fc (kq ≤ k) ∧ Fc (Kd.N (Kd.slice 3 (Kd.int .i64)) 22 w' w.heap.size (fun k_ => (w.heap.size ≤ k_)) v5 x5_1) ∧ Fc (Below w.heap.size w w'))
  case atStart => exact ⟨(([] : List (List Int))), (0), eqS, H', ⟨Nat.le_refl _⟩, ⟨by first | exact Kd.S_nil _ _ _ _ _ | exact Kd.N_nil _ _ _ _ _ | exact Kd.V_nil _ _ _ _ _ | exact Kd.Q_nil _ _ _ _ _ | exact Kd.R_nil _ _ _ _ _⟩, hbg HB⟩
  case round =>
   clear H'
   try clear c3
   try clear c3b0
   try clear c3b1
   try clear c5
   obtain ⟨x5_1, x6_1, rfl, HA, HK1, HO_5, HB⟩ := hrel
   cases gk with
   | zero => exact absurd HA.out (by simp [spec_weAll.l0])
   | succ k1 =>
    have H := HA.out
    clear HA
    simp only [spec_weAll.l0] at H
    rcases iteE H with ⟨c11b0, H⟩ | ⟨c11b0, H⟩
    ·obtain ⟨t120, A12, H⟩ := obE H
     obtain ⟨c13, H⟩ := itNP H
     have LMc13 := mkA c13
     clear c13
     obtain ⟨y123, hy123⟩ : ∃ y_ : List Int, y_ = (t120 ++ [x6_1]) := ⟨_, rfl⟩
     rw [← hy123] at H
     have Ny123 := mkA hy123
     clear hy123
     obtain ⟨t126, A14, H⟩ := obE H
     obtain ⟨c15, H⟩ := itNP H
     have LMc15 := mkA c15
     clear c15
     obtain ⟨y129, hy129⟩ : ∃ y_ : List (List Int), y_ = (x5_1 ++ t126) := ⟨_, rfl⟩
     rw [← hy129] at H
     have Ny129 := mkA hy129
     clear hy129
     have H' := mkA H
     clear H
     go_wp2_with (first | ((with_reducible refine gate_callee (f := 23) rfl ?_); refine goesQ (some 23) Try.func23 #[.slice A0 l0.length c0] ?_; (with_reducible refine (spec_l1Own.calls _ _ l0 t120 _ ?_ ?_ A12.out).mono ?_); exact C_g HR0 HB; exact HC0.out; rintro e w16 ⟨v121, rfl, ho0, hb⟩; refine ⟨_, rfl, ?_⟩; replace HO_5 := mkA (Kd.N_elder' (by (with_reducible repeat (first | apply Kd.N_alloc | apply Kd.N_drewN | apply Kd.N_drew)); exact HO_5.out) (Kd.R_base ho0) hb); have HO122 := rLo (Kd.R_newM (M := fun k_ => (w.heap.size ≤ k_)) ho0 (below_size (bel_g HB.out)) (fun k_ h_ => h_)) HB; replace HB := bst HB hb; (try clear hb); (try clear hk); (try clear ho0)) | ((with_reducible refine gate_builtin (b := .append) (xs := #[.tmp 23, .tmp 25]) rfl ?_); at_builtin; refine Kd.R_append (Kd.int .i64) (w0 := w) w.heap.size rfl (.tmp 23) (.tmp 25) 22 3 (.int .i64 0) 8 rfl Try.underlying22 info3 rfl (by decide) (by omega) v121 t120 x6_1 [.int .i64 x6_1] (fun k_ => (w.heap.size ≤ k_)) (fun _ => False) rfl rfl ?aP (fun _ hk => hk.elim) ?aF ?aO ?aB ?aS ?aL ?_; (case aP => exact rfl); (case aB => exact (bel_g HB.out)); (case aF => exact (fun k_ hk => (Nat.le_trans (below_size (bel_g HB.out)) hk))); (case aO => exact (Kd.R_g (Kd.R_mono HO122.out (fun _ hk => hk.1)))); (case aS => exact (below_size (bel_g HB.out))); (case aL => have := LMc13.out; omega); intro v124 w17 ho hb hg hat; rw [← Ny123.out] at ho; replace HO_5 := mkA (Kd.N_afterv (ok := (fun k_ => (w.heap.size ≤ k_))) (by (with_reducible repeat (first | apply Kd.N_alloc | apply Kd.N_drewN | apply Kd.N_drew)); exact HO_5.out) hg hat); have HO125 := mkA (ho); replace HB := mkA (hb); clear HO122; clear ho hb hg hat; obtain ⟨Ao18, co18, rfl⟩ := Kd.R_slice HO125.out) | ((with_reducible refine gate_callee (f := 14) rfl ?_); refine goesQ (some 28) Try.func14 #[.slice Ao18 y123.length co18, .int .i64 a1] ?_; (with_reducible refine (ih k1 (by have := HK1.out; omega) _ _ y123 a1 t126 _ ?_ ?_ A14.out).mono ?_); exact rC HO125; exact rL HO125; rintro e w19 ⟨v127, rfl, ho0, hb⟩; refine ⟨_, rfl, ?_⟩; have HO128 := mkA (Kd.N_lower (Kd.N_mono (ok' := fun k_ => (w.heap.size ≤ k_) ∧ some k_ ≠ (u5 : Value).ownBlock ∧ some k_ ≠ (.slice Ao18 y123.length co18 : Value).ownBlock) ho0 (fun k_ hk_ => ⟨(Nat.le_trans (below_size (bel_g HB.out)) hk_), (Kd.fresh' (Kd.N_lt (by (with_reducible repeat (first | apply Kd.N_alloc | apply Kd.N_drewN | apply Kd.N_drew)); exact HO_5.out)) k_ hk_), (Kd.fresh' (Kd.R_lt (Kd.R_g HO125.out)) k_ hk_)⟩)) (below_size (bel_g HB.out))); replace HO_5 := mkA (Kd.N_elder' (by (with_reducible repeat (first | apply Kd.N_alloc | apply Kd.N_drewN | apply Kd.N_drew)); exact HO_5.out) (Kd.N_base ho0) hb); replace HO125 := rB HO125 hb; replace HB := bst HB hb; (try clear hb); (try clear hk); (try clear ho0); obtain ⟨Ao21, co21, rfl⟩ := Kd.N_slice HO128.out) | ((with_reducible refine gate_builtin (b := .append) (xs := #[.tmp 21, .tmp 28]) rfl ?_); at_builtin; refine Kd.N_append_rows (Kd.slice 3 (Kd.int .i64)) (w0 := w) w.heap.size rfl (.tmp 21) (.tmp 28) 33 22 (.slice none 0 0) 24 rfl Try.underlying33 info22 rfl (by decide) (by omega) u5 x5_1 t126 _ _ _ (fun k_ => (w.heap.size ≤ k_) ∧ some k_ ≠ (.slice Ao18 y123.length co18 : Value).ownBlock) (fun k_ => ((fun k_ => (w.heap.size ≤ k_) ∧ some k_ ≠ (.slice Ao18 y123.length co18 : Value).ownBlock)) k_ ∧ some k_ ≠ (u5 : Value).ownBlock) rfl rfl ?aO ?aR (fun _ hk => hk) ?aF ?aB ?aS ?aL ?_; (case aR => exact (by skip; exact Kd.N_F (Kd.N_mono (ok' := (fun k_ => ((fun k_ => (w.heap.size ≤ k_) ∧ some k_ ≠ (.slice Ao18 y123.length co18 : Value).ownBlock)) k_ ∧ some k_ ≠ (u5 : Value).ownBlock)) (HO128.out) (fun k_ hk => ⟨⟨hk.1, hk.2.2⟩, hk.2.1⟩)))); (case aB => exact (bel_g HB.out)); (case aF => exact (fun k_ hk => ⟨(Nat.le_trans (below_size (bel_g HB.out)) hk), Kd.fresh' (Kd.R_lt (Kd.R_g HO125.out)) k_ hk⟩)); (case aO => exact (by (with_reducible repeat (first | apply Kd.N_alloc | apply Kd.N_drewN | apply Kd.N_drew)); exact Kd.N_mono HO_5.out (fun _ hk => ⟨hk.1.1, hk.1.2⟩))); (case aS => exact (below_size (bel_g HB.out))); (case aL => have := LMc15.out; omega); intro v130 w20 ho hb hg hat; rw [← Ny129.out] at ho; replace HO125 := mkA (Kd.R_over' (Kd.R_g HO125.out) (Kd.N_typed (by (with_reducible repeat (first | apply Kd.N_alloc | apply Kd.N_drewN | apply Kd.N_drew)); exact HO_5.out)) (by decide) hg); replace HO128 := mkA (Kd.N_afterv (ok := (fun k_ => (w.heap.size ≤ k_) ∧ some k_ ≠ (.slice Ao18 y123.length co18 : Value).ownBlock)) (by (with_reducible repeat (first | apply Kd.N_alloc | apply Kd.N_drewN | apply Kd.N_drew)); exact Kd.N_mono HO128.out (fun _ hk => ⟨⟨hk.1, hk.2.2⟩, hk.2.1⟩)) hg hat); have HO131 := mkA (ho); replace HB := mkA (hb); clear HO_5; clear ho hb hg hat))
     go_roundg k1
     case measure => have := HK1.out; omega
     case rel => exact ⟨(y129), (wrap64 (x6_1 + 1)), eqS, H', ⟨by have := HK1.out; omega⟩, ⟨by (with_reducible repeat (first | apply Kd.N_alloc | apply Kd.N_drewN | apply Kd.N_drew)); exact Kd.N_mono HO131.out (fun _ hk => hk.1)⟩, hbg HB⟩
    ·obtain rfl := Option.some.inj H
     go_wp2
     go_ret
     exact ⟨_, eqE, by (with_reducible repeat (first | apply Kd.N_alloc | apply Kd.N_drewN | apply Kd.N_drew)); exact HO_5.out, bel_g HB.out⟩
end Go.Proofs.Ytobfnlhocdnflaa.Q
