import Derived.Test.YtgbdjchdfcodcaaDoorBFnRefinements5
namespace Go.Proofs.YtgbdjchdfcodcaaDoor.Q
open Go.RowKit Go.Proofs.YtgbdjchdfcodcaaDoorW.PrintWords Go.Proofs.YtgbdjchdfcodcaaDoorW.PrintLast Go.Proofs.YtgbdjchdfcodcaaDoorW.PrintMore
attribute [local go_sem] max2_int min2_int max_two min_two max_three min_three max_four min_four neB_f
set_option linter.unusedVariables false
set_option maxHeartbeats 8000000
set_option maxRecDepth 100000
set_option linter.unusedSimpArgs false
mutual
def spec_l1Cur_levels.l0 : Nat → Int → List Int → List Int → Int → Int → Option (List Int × Int × Int)
 | 0, _, _, _, _, _ => none
 | k + 1, x1, x5, x1000, x1001, x1002 => if x1 > 0 then ((spec_l1Cur_pick.f x1000 x1001 x1002 5).bind fun bt185 => (if x5.length < 17592186044416 then (spec_l1Cur_levels.l0 k (wrap64 (x1 - 1)) (x5 ++ [bt185.1]) x1000 bt185.2.1 bt185.2.2) else (none))) else ((spec_weOfNumbers.f k x5).bind fun t191 => (if (t191.length : Int) > 0 then ((spec_l1Cur_one.f x1000 x1001 x1002 20).bind fun bt194 => (spec_l1Cur_levels.j1 k t191 bt194.1 x1000 bt194.2.1 bt194.2.2)) else (spec_l1Cur_levels.j1 k t191 false x1000 x1001 x1002)))
def spec_l1Cur_levels.j1 : Nat → List Int → Bool → List Int → Int → Int → Option (List Int × Int × Int)
 | 0, _, _, _, _, _ => none
 | k + 1, x6, x24, x1000, x1001, x1002 => if x24 = true then ((spec_l1Cur_pick.f x1000 x1001 x1002 (x6.length : Int)).bind fun bt197 => ((spec_l1Cur_among.f x1000 bt197.2.1 bt197.2.2 (([(-1), 0, 1, 9, 11, (-9223372036854775808)] : List Int))).bind fun bt203 => (if 0 ≤ bt197.1 then (if bt197.1 < (x6.length : Int) then (some ((x6.set (bt197.1 : Int).toNat bt203.1), bt203.2.1, bt203.2.2)) else (none)) else (none)))) else (some (x6, x1001, x1002))
end
def spec_l1Cur_levels.f (k : Nat) (s0_0 : List Int) (s0_1 : Int) (s0_2 : Int) (a1 : Int) : Option (List Int × Int × Int) := spec_l1Cur_levels.l0 k a1 ([] : List Int) s0_0 s0_1 s0_2
theorem spec_l1Cur_levels.mono_l : ∀ k, (∀ y0 y1 y2 y3 y4, LeO (spec_l1Cur_levels.l0 k y0 y1 y2 y3 y4) (spec_l1Cur_levels.l0 (k + 1) y0 y1 y2 y3 y4)) ∧ (∀ y0 y1 y2 y3 y4, LeO (spec_l1Cur_levels.j1 k y0 y1 y2 y3 y4) (spec_l1Cur_levels.j1 (k + 1) y0 y1 y2 y3 y4))
 | 0 => ⟨fun _ _ _ _ _ r h => by simp [spec_l1Cur_levels.l0] at h, fun _ _ _ _ _ r h => by simp [spec_l1Cur_levels.j1] at h⟩
 | k + 1 => by
  obtain ⟨ih0, ih1⟩ := spec_l1Cur_levels.mono_l k
  refine ⟨?_, ?_⟩ <;> intros
  unfold spec_l1Cur_levels.l0
  rotate_left
  unfold spec_l1Cur_levels.j1
  rotate_left
  all_goals repeat' (with_reducible first|exact ih0 _ _ _ _ _|exact ih1 _ _ _ _ _|exact spec_weOfNumbers.mono _ _|exact LeO.refl _|exact LeO.none _|refine LeO.ite ?_ ?_|refine LeO.bind ?_ (fun _ => ?_))
theorem spec_l1Cur_levels.mono : ∀ a0 a1 a2 a3 k, LeO (spec_l1Cur_levels.f k a0 a1 a2 a3) (spec_l1Cur_levels.f (k + 1) a0 a1 a2 a3) := by
 intro a0 a1 a2 a3 k
 obtain ⟨ih0, ih1⟩ := spec_l1Cur_levels.mono_l k
 unfold spec_l1Cur_levels.f
 repeat' (with_reducible first|exact ih0 _ _ _ _ _|exact ih1 _ _ _ _ _|exact spec_weOfNumbers.mono _ _|exact LeO.refl _|exact LeO.none _|refine LeO.ite ?_ ?_|refine LeO.bind ?_ (fun _ => ?_))
theorem spec_l1Cur_levels.calls (k : Nat) (g : Nat) (s0_0 : List Int) (s0_1 : Int) (s0_2 : Int) (a1 : Int) (r1 : List Int) (r2 : Int) (r3 : Int) (w0 w : World) (hI : IsS47 w0 w g s0_0 s0_1 s0_2) (hB : Below w0.heap.size w0 w) (h : spec_l1Cur_levels.f k s0_0 s0_1 s0_2 a1 = some (r1, r2, r3)) :
  Calls Tryd.prog 27 #[.pointer (some ⟨g, 0, none⟩), .int .i64 a1] w fun e w' => ∃ v0_ : Value, e = .returned (v0_) ∧ Kd.R (Kd.int .i64) 3 w' w.heap.size (fun _ => True) v0_ r1 ∧ IsS47 w0 w' g s0_0 r2 r3 ∧ Below w0.heap.size w0 w' ∧ KeepBut w w' g none := by
 have HI0 := mkA hI
 have HK := mkA (KeepBut.refl w g none)
 have HL := mkA hB.size
 clear hI
 have HW0 := mkA hB.size
 have HB := mkA hB
 clear hB
 have H := h
 clear h
 unfold spec_l1Cur_levels.f at H
 have H' := mkA H
 clear H
 go_enter Tryd.func27, Tryd.ntmps27
 go_wp2
 go_loopg [1, 5] k (fun kq v1 v5 w' => ∃ (x1_1 : Int) (x5_1 : List Int) (x1001_1 : Int) (x1002_1 : Int), v1 = .int .i64 x1_1 ∧ Fc (spec_l1Cur_levels.l0 kq x1_1 x5_1 s0_0 x1001_1 x1002_1 = some (r1, r2, r3)) ∧ Fc (kq ≤ k) ∧ Fc (Kd.R (Kd.int .i64) 3 w' w.heap.size (fun _ => True) v5 x5_1) ∧ Fc (IsS47 w0 w' g s0_0 x1001_1 x1002_1) ∧ Fc (KeepBut w w' g none) ∧ Fc (Below w0.heap.size w0 w'))
 case atStart => exact ⟨(a1), (([] : List Int)), (s0_1), (s0_2), eqS, H', ⟨Nat.le_refl _⟩, ⟨by first | exact Kd.R_nil _ _ _ _ _ | exact Kd.N_nil _ _ _ _ _ | exact Kd.V_nil _ _ _ _ _ | exact Kd.Q_nil _ _ _ _ _ | exact Kd.S_nil _ _ _ _ _⟩, ⟨by exact st47_0 HI0.out⟩, ⟨by exact kb47_0 HK.out⟩, ⟨by exact bl47_0 HB.out HI0.out⟩⟩
 case round =>
  clear H'
  obtain ⟨x1_1, x5_1, x1001_1, x1002_1, rfl, HA, HK1, HO_5, HI0, HK, HB⟩ := hrel
  cases gk with
  | zero => exact absurd HA.out (by simp [spec_l1Cur_levels.l0])
  | succ k1 =>
   have H := HA.out
   clear HA
   simp only [spec_l1Cur_levels.l0] at H
   rcases iteP H with ⟨c3, H⟩ | ⟨c3, H⟩
   ·have c3b0 : decide (0 < x1_1) = true := decide_eq_true c3
    clear c3
    obtain ⟨⟨t185, t186, t187⟩, A4, H⟩ := obE H
    dsimp only at H
    obtain ⟨c5, H⟩ := itNP H
    have LMc5 := mkA c5
    clear c5
    obtain ⟨y188, hy188⟩ : ∃ y_ : List Int, y_ = (x5_1 ++ [t185]) := ⟨_, rfl⟩
    replace H : (spec_l1Cur_levels.l0 k1 (wrap64 (x1_1 - 1)) y188 s0_0 t186 t187) = some (r1, r2, r3) := by first | (rw [hy188]; with_reducible exact H) | (have H2_ := (Option.bind_some _ _).symm.trans H; rw [hy188]; with_reducible exact H2_) | (have H2_ := (Option.bind_some _ _).symm.trans H; with_reducible exact H2_) | with_reducible exact H | (rw [hy188]; exact H) | exact H
    have Ny188 := mkA hy188
    clear hy188
    have H' := mkA H
    clear H
    go_wp2_with (first | ((with_reducible refine gate_callee (f := 41) rfl ?_); refine goesQ (some 13) Tryd.func41 #[.pointer (some ⟨g, 0, none⟩), .int .i64 5] ?_; (with_reducible refine (spec_l1Cur_pick.calls g s0_0 x1001_1 x1002_1 5 t185 t186 t187 w0 _ ?s1 ?s2 A4.out).mono ?_); (case s1 => exact st47_0 HI0.out); (case s2 => exact bl47_0 HB.out HI0.out); rintro e w6 ⟨rfl, hi, hb, hk⟩; refine ⟨_, rfl, ?_⟩; replace HO_5 := rK (IsS47.apart (show IsS47 w0 _ g s0_0 x1001_1 x1002_1 from by exact st47_0 HI0.out) (Kd.R_g HO_5.out) (by decide)) hk; replace HK := kT (by exact kb47_0 HK.out) hk; replace HI0 := mkA (hi); replace HB := mkA (hb); (try clear hb); (try clear hk); (try clear hi)) | ((with_reducible refine gate_builtin (b := .append) (xs := #[.tmp 11, .tmp 14]) rfl ?_); at_builtin; refine Kd.R_append (Kd.int .i64) w.heap.size rfl (.tmp 11) (.tmp 14) 24 3 (.int .i64 0) 8 rfl Tryd.underlying24 info3 rfl (by decide) (by omega) u5 x5_1 t185 [.int .i64 t185] (fun _ => True) (fun _ => False) rfl rfl ?aP (fun _ hk => hk.elim) ?aF ?aO (Below.refl _ _) ?aS ?aL ?_; (case aP => exact rfl); (case aF => exact (fun _ _ => trivial)); (case aO => exact (Kd.R_g HO_5.out)); (case aS => exact (keep_size (w := w) (g := g) (row := none) (by exact kb47_0 HK.out))); (case aL => have := LMc5.out; omega); intro v189 w7 ho hb hg hat; rw [← Ny188.out] at ho; replace HK := mkA (KeepBut.trans (by exact kb47_0 HK.out) (KeepBut.of_grown hg g) (Kd.R_base2 HO_5.out)); have HO190 := mkA (ho); replace HB := mkA (below_weaken (by exact bl47_0 HB.out HI0.out) HL.out hb); replace HI0 := mkA (IsS47.grown (by exact st47_0 HI0.out) hg (IsS47.own_ne HI0.out HO_5.out (by decide))); clear HO_5; clear ho hb hg hat))
    go_roundg k1
    case measure => have := HK1.out; omega
    case rel => exact ⟨(wrap64 (x1_1 - 1)), (y188), (t186), (t187), eqS, H', ⟨by have := HK1.out; omega⟩, ⟨Kd.R_g HO190.out⟩, ⟨by exact st47_0 HI0.out⟩, ⟨by exact kb47_0 HK.out⟩, ⟨by exact bl47_0 HB.out HI0.out⟩⟩
   ·have c3b0 : decide (0 < x1_1) = false := decide_eq_false c3
    clear c3
    obtain ⟨t191, A8, H⟩ := obE H
    have HC9 := mkA H
    clear H
    obtain ⟨Ao10, co10, eo10⟩ := Kd.R_slice HO_5.out
    subst eo10
    go_upto_region 6 with (first | ((with_reducible refine gate_callee (f := 31) rfl ?_); refine goesQ (some 17) Tryd.func31 #[.slice Ao10 x5_1.length co10] ?_; (with_reducible refine (spec_weOfNumbers.calls k1 _ _ x5_1 t191 _ ?s1 ?s2 A8.out).mono ?_); (case s1 => exact rC HO_5); (case s2 => exact rL HO_5); rintro e w11 ⟨v192, rfl, ho0, hb⟩; refine ⟨_, rfl, ?_⟩; have HO193 := mkA (Kd.R_lower (Kd.R_new' ho0 (Kd.R_lt (Kd.R_g HO_5.out))) (keep_size (w := w) (g := g) (row := none) (by exact kb47_0 HK.out))); replace HO_5 := mkA (Kd.R_elder' (Kd.R_g HO_5.out) (Kd.R_base ho0) hb); replace HK := kU (g := g) (by exact kb47_0 HK.out) hb; replace HB := mkA (below_step (by exact bl47_0 HB.out HI0.out) hb); replace HI0 := mkA (IsS47.below (by exact st47_0 HI0.out) hb); (try clear hb); (try clear hk); (try clear hi); (try clear ho0)))
    (try simp only [Act.put, List.setIfInBounds_toArray, List.set_cons_zero, List.set_cons_succ])
    go_cut [24] (fun v24 wc => ∃ (kq : Nat) (x24_8 : Bool) (x1001_8 : Int) (x1002_8 : Int), v24 = .bool x24_8 ∧ Fc (spec_l1Cur_levels.j1 kq t191 x24_8 s0_0 x1001_8 x1002_8 = some (r1, r2, r3)) ∧ Fc (kq ≤ k1) ∧ Fc (Kd.R (Kd.int .i64) 3 wc w.heap.size (fun _ => True) v192 t191) ∧ Fc (IsS47 w0 wc g s0_0 x1001_8 x1002_8) ∧ Fc (KeepBut w wc g none) ∧ Fc (Below w0.heap.size w0 wc))
    case first =>
     have H := HC9.out
     clear HC9
     rcases iteP H with ⟨c12, H⟩ | ⟨c12, H⟩
     ·have c12b0 : decide (0 < (t191.length : Int)) = true := decide_eq_true c12
      have c12b1 : decide (0 < t191.length) = true := decide_eq_true (by omega)
      clear c12
      (first | rw [c12b0] | (simp only [i64_w, i32_w]; rw [c12b0]) | skip)
      obtain ⟨⟨t194, t195, t196⟩, A13, H⟩ := obE H
      dsimp only at H
      have H' := mkA H
      clear H
      obtain ⟨Ao14, co14, eo14⟩ := Kd.R_slice HO193.out
      subst eo14
      go_wp2_with (first | (go_at_call 26; (with_reducible refine (spec_l1Cur_one.calls g s0_0 x1001_1 x1002_1 20 t194 t195 t196 w0 _ ?s1 ?s2 A13.out).mono ?_); (case s1 => exact st47_0 HI0.out); (case s2 => exact bl47_0 HB.out HI0.out); rintro e w15 ⟨rfl, hi, hb, hk⟩; replace HO_5 := rK (IsS47.apart (show IsS47 w0 _ g s0_0 x1001_1 x1002_1 from by exact st47_0 HI0.out) (Kd.R_g HO_5.out) (by decide)) hk; replace HO193 := rK (IsS47.apart (show IsS47 w0 _ g s0_0 x1001_1 x1002_1 from by exact st47_0 HI0.out) (Kd.R_g HO193.out) (by decide)) hk; replace HK := kT (by exact kb47_0 HK.out) hk; replace HI0 := mkA (hi); replace HB := mkA (hb); (try clear hb); (try clear hk); (try clear hi)))
      go_meet
      case rel => exact ⟨_, (t194), (t195), (t196), eqS, H', ⟨by have := HK1.out; first | omega | exact Nat.le_refl _⟩, ⟨Kd.R_g (Kd.R_mono HO193.out (fun _ hk => trivial))⟩, ⟨by exact st47_0 HI0.out⟩, ⟨by exact kb47_0 HK.out⟩, ⟨by exact bl47_0 HB.out HI0.out⟩⟩
     ·have c12b0 : decide (0 < (t191.length : Int)) = false := decide_eq_false c12
      have c12b1 : decide (0 < t191.length) = false := decide_eq_false (by omega)
      clear c12
      (first | rw [c12b0] | (simp only [i64_w, i32_w]; rw [c12b0]) | skip)
      have H' := mkA H
      clear H
      obtain ⟨Ao16, co16, eo16⟩ := Kd.R_slice HO193.out
      subst eo16
      go_wp2
      go_meet
      case rel => exact ⟨_, (false), (x1001_1), (x1002_1), eqS, H', ⟨by have := HK1.out; first | omega | exact Nat.le_refl _⟩, ⟨Kd.R_g (Kd.R_mono HO193.out (fun _ hk => trivial))⟩, ⟨by exact st47_0 HI0.out⟩, ⟨by exact kb47_0 HK.out⟩, ⟨by exact bl47_0 HB.out HI0.out⟩⟩
    case rest =>
     clear HC9
     try clear c3
     try clear c3b0
     try clear c5
     try clear c12
     try clear c12b0
     try clear c12b1
     obtain ⟨kq, x24_8, x1001_8, x1002_8, rfl, HA, HJ8, HO_6, HI0, HK, HB⟩ := hcut
     cases kq with
     | zero => exact absurd HA.out (by simp [spec_l1Cur_levels.j1])
     | succ kj8 =>
      have H := HA.out
      clear HA
      simp only [spec_l1Cur_levels.j1] at H
      by_cases c17 : x24_8 = true
      ·subst c17
       replace H := ifT H
       obtain ⟨⟨t197, t198, t199⟩, A18, H⟩ := obE H
       dsimp only at H
       obtain ⟨y200, hy200⟩ : ∃ y_ : List Int, y_ = (([(-1), 0, 1, 9, 11, (-9223372036854775808)] : List Int)) := ⟨_, rfl⟩
       replace H : ((spec_l1Cur_among.f s0_0 t198 t199 y200).bind fun bt203 => (if 0 ≤ t197 then (if t197 < (t191.length : Int) then (some ((t191.set (t197 : Int).toNat bt203.1), bt203.2.1, bt203.2.2)) else (none)) else (none))) = some (r1, r2, r3) := by first | (rw [hy200]; with_reducible exact H) | (have H2_ := (Option.bind_some _ _).symm.trans H; rw [hy200]; with_reducible exact H2_) | (have H2_ := (Option.bind_some _ _).symm.trans H; with_reducible exact H2_) | with_reducible exact H | (rw [hy200]; exact H) | exact H
       have Ny200 := mkA hy200
       clear hy200
       obtain ⟨⟨t203, t204, t205⟩, A19, H⟩ := obE H
       dsimp only at H
       obtain ⟨c20, H⟩ := itNP H
       have c20b0 : decide (0 ≤ t197) = true := decide_eq_true c20
       clear c20
       obtain ⟨c21, H⟩ := itNP H
       have c21b0 : decide (t197 < (t191.length : Int)) = true := decide_eq_true c21
       clear c21
       obtain ⟨y206, hy206⟩ : ∃ y_ : List Int, y_ = (t191.set (t197 : Int).toNat t203) := ⟨_, rfl⟩
       replace H : (some (y206, t204, t205)) = some (r1, r2, r3) := by first | (rw [hy206]; with_reducible exact H) | (have H2_ := (Option.bind_some _ _).symm.trans H; rw [hy206]; with_reducible exact H2_) | (have H2_ := (Option.bind_some _ _).symm.trans H; with_reducible exact H2_) | with_reducible exact H | (rw [hy206]; exact H) | exact H
       have Ny206 := mkA hy206
       clear hy206
       simp only [Option.some.injEq, Prod.mk.injEq] at H
       obtain ⟨rfl, rfl, rfl⟩ := H
       obtain ⟨Ao23, co23, eo23⟩ := Kd.R_slice HO_6.out
       subst eo23
       go_wp2_with (first | ((with_reducible refine gate_callee (f := 41) rfl ?_); refine goesQ (some 29) Tryd.func41 #[.pointer (some ⟨g, 0, none⟩), .int .i64 (t191.length : Int)] ?_; (with_reducible refine (spec_l1Cur_pick.calls g s0_0 x1001_8 x1002_8 (t191.length : Int) t197 t198 t199 w0 _ ?s1 ?s2 A18.out).mono ?_); (case s1 => exact st47_0 HI0.out); (case s2 => exact bl47_0 HB.out HI0.out); rintro e w24 ⟨rfl, hi, hb, hk⟩; refine ⟨_, rfl, ?_⟩; replace HO_6 := rK (IsS47.apart (show IsS47 w0 _ g s0_0 x1001_8 x1002_8 from by exact st47_0 HI0.out) (Kd.R_g HO_6.out) (by decide)) hk; replace HK := kT (by exact kb47_0 HK.out) hk; replace HI0 := mkA (hi); replace HB := mkA (hb); (try clear hb); (try clear hk); (try clear hi)) | ((with_reducible refine gate_dst (N := 31) rfl ?_); refine Kd.R_lit (Kd.int .i64) _ 3 ?hg (N := 31) ?hd (xs := ([(-1), 0, 1, 9, 11, (-9223372036854775808)] : List Int)) (inner := [.int .i64 (-1), .int .i64 0, .int .i64 1, .int .i64 9, .int .i64 11, .int .i64 (-9223372036854775808)]) (ok := fun _ => True) (okp := fun _ => True) ?hr ?hp (fun _ hk => hk) trivial (Below.refl _ _) (Nat.le_refl _) (by simp) ?_; (case hd => rfl); (case hg => rfl); (case hr => first | (go_simp; done) | (go_simp; rfl)); (case hp => exact (Reps.one (show Kd.M (Kd.int .i64) _ _ _ (-1) [.int .i64 (-1)] from rfl) (Reps.one (show Kd.M (Kd.int .i64) _ _ _ 0 [.int .i64 0] from rfl) (Reps.one (show Kd.M (Kd.int .i64) _ _ _ 1 [.int .i64 1] from rfl) (Reps.one (show Kd.M (Kd.int .i64) _ _ _ 9 [.int .i64 9] from rfl) (Reps.one (show Kd.M (Kd.int .i64) _ _ _ 11 [.int .i64 11] from rfl) (Reps.one (show Kd.M (Kd.int .i64) _ _ _ (-9223372036854775808) [.int .i64 (-9223372036854775808)] from rfl) (Reps.none _ _)))))))); intro v201 w25 ho26 hb hg_ hnew_; clear hg_ hnew_; (first | rw [← Ny200.out] at ho26 | (simp only [Int.reduceToNat] at ho26; rw [← Ny200.out] at ho26)); have HO202 := mkA (Kd.R_lower (Kd.R_new' ho26 (Kd.R_lt (Kd.R_g HO_6.out))) (keep_size (w := w) (g := g) (row := none) (by exact kb47_0 HK.out))); replace HO_6 := mkA (Kd.R_elder' (Kd.R_g HO_6.out) (Kd.R_base ho26) hb); replace HK := kU (g := g) (by exact kb47_0 HK.out) hb; replace HB := mkA (below_step (by exact bl47_0 HB.out HI0.out) hb); replace HI0 := mkA (IsS47.below (by exact st47_0 HI0.out) hb); clear hb ho26; obtain ⟨Ao27, co27, eo27⟩ := Kd.R_slice HO202.out; subst eo27) | ((with_reducible refine gate_callee (f := 40) rfl ?_); refine goesQ (some 32) Tryd.func40 #[.pointer (some ⟨g, 0, none⟩), .slice Ao27 y200.length co27] ?_; (with_reducible refine (spec_l1Cur_among.calls g s0_0 t198 t199 _ _ y200 t203 t204 t205 w0 _ ?s1 ?s2 ?s3 ?s4 ?s5 A19.out).mono ?_); (case s1 => exact st47_0 HI0.out); (case s2 => exact bl47_0 HB.out HI0.out); (case s3 => exact rC HO202); (case s4 => exact rL HO202); (case s5 => exact far_slice (IsS47.own_ne HI0.out HO202.out (by decide))); rintro e w28 ⟨rfl, hi, hb, hk⟩; refine ⟨_, rfl, ?_⟩; replace HO_6 := rK (IsS47.apart (show IsS47 w0 _ g s0_0 t198 t199 from by exact st47_0 HI0.out) (Kd.R_g HO_6.out) (by decide)) hk; replace HO202 := rK (IsS47.apart (show IsS47 w0 _ g s0_0 t198 t199 from by exact st47_0 HI0.out) (Kd.R_g HO202.out) (by decide)) hk; replace HK := kT (by exact kb47_0 HK.out) hk; replace HI0 := mkA (hi); replace HB := mkA (hb); (try clear hb); (try clear hk); (try clear hi); have p22 : 0 ≤ (t197 : Int) := ofd; have q22 : (t197 : Int) < ((t191.length : Int) : Int) := ofd; obtain ⟨go22, co22, eo22, gb22, gl22, cl22, HG22⟩ := Kd.R_form HO_6.out (by omega); (first | cases eo22 | (injection eo22 with ea_ en_ ec_; (first | subst ea_ | (injection ea_ with ea_; subst ea_)); subst ec_; clear en_)); have GB22 : Ge _ _ := ⟨gb22⟩; have GG22 := mkA HG22; clear gb22 gl22 HG22; obtain ⟨hx22_0, hf22_0⟩ := Kd.R_celln 0 HO_6.out (t197 : Int) p22 q22; replace p22 := eq_true p22; replace q22 := eq_true q22; have n_ := mkA (Kd.R_mono (ok' := (fun k_ => some k_ ≠ (.slice Ao27 y200.length co27 : Value).ownBlock)) HO_6.out (fun k_ hk => hk.2)); clear HO_6; have HO_6 := n_; clear n_; obtain ⟨hy29_, hz29_⟩ := Kd.R_celln 0 HO_6.out (t197 : Int) (ofd) (ofd); have HP29 := Kd.R_putg HO_6.out (t197 : Int) t203) | ((with_reducible refine gate_store (t := 3) (p := 33) rfl ?_); refine store_event (t := 3) (p := 33) (v := ?vo_w30) (w1 := (w28.setCell ⟨go22, (t197 : Int).toNat, none⟩ (.int .i64 t203))) ?hg ?ho ?hn ?hr ?_; (case ho => rfl); (case hg => rfl); (case hn => rfl); (case hr => first | (go_simp; done) | (go_simp; rfl)); intro w30 hw; have hg : w28.grownBy w30 (some go22) := (by rw [hw]; exact HP29.2); have hp_ : Kd.R (Kd.int .i64) 3 w30 w.heap.size (fun k_ => some k_ ≠ (.slice Ao27 y200.length co27 : Value).ownBlock) (.slice (some ⟨go22, 0, none⟩) t191.length co23) y206 := (by rw [hw, Ny206.out]; exact HP29.1); clear HP29; replace HI0 := mkA (IsS47.grown (by exact st47_0 HI0.out) hg (IsS47.own_ne HI0.out HO_6.out (by decide))); replace HO202 := mkA (Kd.R_after (v := (.slice (some ⟨go22, 0, none⟩) t191.length co23)) (v1 := (.slice (some ⟨go22, 0, none⟩) t191.length co23)) (ok := (fun _ => True)) (Kd.R_g HO202.out) hg (.inl rfl)); replace HK := mkA (KeepBut.trans (by exact kb47_0 HK.out) (KeepBut.of_grown hg g) (Kd.R_base2 HO_6.out)); replace HO_6 := mkA (hp_); replace HB := mkA ((by rw [hw]; exact below_set (HB.out) (Nat.le_trans HL.out GB22.out) : Below w0.heap.size w0 w30)); clear hg hw hp_))
       go_ret
       exact ⟨_, eqE, by (with_reducible repeat (first | apply Kd.R_alloc | apply Kd.R_drewN | apply Kd.R_drew)); exact Kd.R_mono HO_6.out (fun _ hk => trivial), by exact st47_0 HI0.out, by exact bl47_0 HB.out HI0.out, by exact kb47_0 HK.out⟩
      ·replace c17 := Bool.eq_false_iff.mpr c17
       subst c17
       replace H := ifF H
       simp only [Option.some.injEq, Prod.mk.injEq] at H
       obtain ⟨rfl, rfl, rfl⟩ := H
       go_wp2
       go_ret
       exact ⟨_, eqE, Kd.R_g HO_6.out, by exact st47_0 HI0.out, by exact bl47_0 HB.out HI0.out, by exact kb47_0 HK.out⟩
def spec_l1Own.f (l0 : List Int) : Option (List Int) := (some (([] : List Int) : List Int)).bind fun y207 => (if y207.length + l0.length < 17592186044416 then (some (y207 ++ l0)) else (none))
theorem spec_l1Own.calls (A0 : Option Addr) (c0 : Nat) (l0 : List Int) (r : List Int) (w : World) (hr0 : Kd.C (Kd.int .i64) w A0 l0.length l0) (hc0 : l0.length ≤ c0) (h : spec_l1Own.f l0 = some r) :
  Calls Tryd.prog 51 #[.slice A0 l0.length c0] w fun e w' => ∃ v0_ : Value, e = .returned (v0_) ∧ Kd.R (Kd.int .i64) 3 w' w.heap.size (fun _ => True) v0_ r ∧ Below w.heap.size w w' := by
 have HR0 := mkA hr0
 have HC0 := mkA hc0
 clear hr0 hc0
 have HB := mkA (Below.refl w.heap.size w)
 have H := h
 clear h
 unfold spec_l1Own.f at H
 obtain ⟨y207, hy207⟩ : ∃ y_ : List Int, y_ = (([] : List Int)) := ⟨_, rfl⟩
 replace H : (if y207.length + l0.length < 17592186044416 then (some (y207 ++ l0)) else (none)) = some r := by first | (rw [hy207]; with_reducible exact H) | (have H2_ := (Option.bind_some _ _).symm.trans H; rw [hy207]; with_reducible exact H2_) | (have H2_ := (Option.bind_some _ _).symm.trans H; with_reducible exact H2_) | with_reducible exact H | (rw [hy207]; exact H) | exact H
 have Ny207 := mkA hy207
 clear hy207
 obtain ⟨c2, H⟩ := itNP H
 have LMc2 := mkA c2
 clear c2
 obtain ⟨y210, hy210⟩ : ∃ y_ : List Int, y_ = (y207 ++ l0) := ⟨_, rfl⟩
 replace H : (some y210) = some r := by first | (rw [hy210]; with_reducible exact H) | (have H2_ := (Option.bind_some _ _).symm.trans H; rw [hy210]; with_reducible exact H2_) | (have H2_ := (Option.bind_some _ _).symm.trans H; with_reducible exact H2_) | with_reducible exact H | (rw [hy210]; exact H) | exact H
 have Ny210 := mkA hy210
 clear hy210
 obtain rfl := Option.some.inj H
 go_enter Tryd.func51, Tryd.ntmps51
 go_wp2_with (first | ((with_reducible refine gate_dst (N := 3) rfl ?_); refine Kd.R_lit (Kd.int .i64) _ 3 ?hg (N := 3) ?hd (xs := ([] : List Int)) (inner := []) (ok := fun _ => True) (okp := fun _ => True) ?hr ?hp (fun _ hk => hk) trivial (Below.refl _ _) (Nat.le_refl _) (by simp) ?_; (case hd => rfl); (case hg => rfl); (case hr => first | (go_simp; done) | (go_simp; rfl)); (case hp => exact (Reps.none _ _)); intro v208 w3 ho4 hb hg_ hnew_; clear hg_ hnew_; (first | rw [← Ny207.out] at ho4 | (simp only [Int.reduceToNat] at ho4; rw [← Ny207.out] at ho4)); have HO209 := mkA (Kd.R_lower ho4 (below_size (bel_g HB.out))); replace HB := bst HB hb; clear hb ho4) | ((with_reducible refine gate_builtin (b := .append) (xs := #[.tmp 3, .tmp 4]) rfl ?_); at_builtin; refine Kd.R_append_rows (Kd.int .i64) (w0 := w) w.heap.size rfl (.tmp 3) (.tmp 4) 24 3 (.int .i64 0) 8 rfl Tryd.underlying24 info3 rfl (by decide) (by omega) v208 y207 l0 _ _ _ (fun _ => True) (fun _ => False) rfl rfl ?aO ?aR (fun _ _ h => h) (fun _ h => h.elim) ?aF ?aB ?aS ?aL ?_; (case aR => exact C_g HR0 HB); (case aB => exact (bel_g HB.out)); (case aF => exact (fun _ _ => trivial)); (case aO => exact (Kd.R_g HO209.out)); (case aS => exact (below_size (bel_g HB.out))); (case aL => have := LMc2.out; omega); intro v211 w5 ho hb hg hat; rw [← Ny210.out] at ho; have HO212 := mkA (ho); replace HB := mkA (hb); clear HO209; clear ho hb hg hat))
 go_ret
 exact ⟨_, eqE, by (with_reducible repeat (first | apply Kd.R_alloc | apply Kd.R_drewN | apply Kd.R_drew)); exact HO212.out, bel_g HB.out⟩
end Go.Proofs.YtgbdjchdfcodcaaDoor.Q
