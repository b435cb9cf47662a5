import Derived.Test.YthhnfeebacnibaaBFnExactAscentWith0
import Derived.Test.YthhnfeebacnibaaBFnExactAscentWith2
-- printed by this project's own program (wip/mp/mp.py) over the kit's print, for this seat; Lean checks it
namespace Go.Proofs.Ythhnfeebacnibaa.Q
open Go.RowKit Go.Proofs.YthhnfeebacnibaaW.PrintWords Go.Proofs.YthhnfeebacnibaaW.PrintLast Go.Proofs.YthhnfeebacnibaaW.PrintMore
attribute [local go_sem] max2_int min2_int max_two min_two max_three min_three max_four min_four   -- for this text's walks alone
set_option linter.unusedVariables false
set_option linter.unusedSimpArgs false

/-! ### spec_asWays: function 69 -/
mutual
def spec_asStep.l0 : Nat → Int → List (List Int) → List (List Int) → Int → Int → Option ((List (List Int)))
  | 0, _, _, _, _, _ => none
  | k + 1, x3, x4, x5, x19, x20 => if x20 < x19 then (if 0 ≤ x3 then (if (x3 : Int).toNat ≤ 35184372088832 then (if 0 ≤ x20 then (if x20 < (x5.length : Int) then ((some (x5.set (x20 : Int).toNat (List.replicate (x3 : Int).toNat 0) : List (List Int))).bind fun y122 => (spec_asStep.l1 k x3 x4 y122 x20 x19 x20 ((rd_L1 y122 x20).length : Int) 0)) else (none)) else (none)) else (none)) else (none)) else (some x5)
def spec_asStep.l1 : Nat → Int → List (List Int) → List (List Int) → Int → Int → Int → Int → Int → Option ((List (List Int)))
  | 0, _, _, _, _, _, _, _, _ => none
  | k + 1, x3, x4, x5, x6, x19, x20, x32, x33 => if x33 < x32 then (spec_asStep.l2 k x3 x4 x5 x6 x33 0 0 x19 x20 x32 x33) else (spec_asStep.l0 k x3 x4 x5 x19 (wrap64 (x20 + 1)))
def spec_asStep.l2 : Nat → Int → List (List Int) → List (List Int) → Int → Int → Int → Int → Int → Int → Int → Int → Option ((List (List Int)))
  | 0, _, _, _, _, _, _, _, _, _, _, _ => none
  | k + 1, x3, x4, x5, x6, x7, x8, x9, x19, x20, x32, x33 => if x9 ≤ (wrap64 (x6 + 1)) then (if x9 < x3 then (spec_asStep.j3 k x3 x4 x5 x6 x7 x8 x9 x19 x20 x32 x33 (decide ((wrap64 (x6 + 1)) < x3))) else (spec_asStep.j3 k x3 x4 x5 x6 x7 x8 x9 x19 x20 x32 x33 false)) else (spec_asStep.j3 k x3 x4 x5 x6 x7 x8 x9 x19 x20 x32 x33 false)
def spec_asStep.j3 : Nat → Int → List (List Int) → List (List Int) → Int → Int → Int → Int → Int → Int → Int → Int → Bool → Option ((List (List Int)))
  | 0, _, _, _, _, _, _, _, _, _, _, _, _ => none
  | k + 1, x3, x4, x5, x6, x7, x8, x9, x19, x20, x32, x33, x50 => if x50 = true then (if x9 > x7 then (if 0 ≤ (wrap64 (x6 + 1)) then (if (wrap64 (x6 + 1)) < (x4.length : Int) then (if 0 ≤ x9 then (if x9 < ((rd_L1 x4 (wrap64 (x6 + 1))).length : Int) then (spec_asStep.l2 k x3 x4 x5 x6 x7 (wrap64 (x8 + (rd (rd_L1 x4 (wrap64 (x6 + 1))) x9))) (wrap64 (x9 + 1)) x19 x20 x32 x33) else (none)) else (none)) else (none)) else (none)) else (if 0 ≤ x6 then (if x6 < (x4.length : Int) then (if 0 ≤ x9 then (if x9 < ((rd_L1 x4 x6).length : Int) then (spec_asStep.l2 k x3 x4 x5 x6 x7 (wrap64 (x8 + (rd (rd_L1 x4 x6) x9))) (wrap64 (x9 + 1)) x19 x20 x32 x33) else (none)) else (none)) else (none)) else (none))) else (if 0 ≤ x6 then (if x6 < (x5.length : Int) then (if 0 ≤ x7 then (if x7 < ((rd_L1 x5 x6).length : Int) then (spec_asStep.l1 k x3 x4 (x5.set (x6 : Int).toNat ((rd_L1 x5 x6).set (x7 : Int).toNat x8)) x6 x19 x20 x32 (wrap64 (x33 + 1))) else (none)) else (none)) else (none)) else (none))
end
def spec_asStep.f (k : Nat) (a3 : Int) (l4 : List (List Int)) : Option ((List (List Int))) := if 0 ≤ a3 then (if (a3 : Int).toNat ≤ 11728124029610 then ((some (List.replicate (a3 : Int).toNat [] : List (List Int))).bind fun y116 => (spec_asStep.l0 k a3 l4 y116 (y116.length : Int) 0)) else (none)) else (none)
theorem spec_asStep.mono_l : ∀ k, (∀ y0 y1 y2 y3 y4, LeO (spec_asStep.l0 k y0 y1 y2 y3 y4) (spec_asStep.l0 (k + 1) y0 y1 y2 y3 y4)) ∧ (∀ y0 y1 y2 y3 y4 y5 y6 y7, LeO (spec_asStep.l1 k y0 y1 y2 y3 y4 y5 y6 y7) (spec_asStep.l1 (k + 1) y0 y1 y2 y3 y4 y5 y6 y7)) ∧ (∀ y0 y1 y2 y3 y4 y5 y6 y7 y8 y9 y10, LeO (spec_asStep.l2 k y0 y1 y2 y3 y4 y5 y6 y7 y8 y9 y10) (spec_asStep.l2 (k + 1) y0 y1 y2 y3 y4 y5 y6 y7 y8 y9 y10)) ∧ (∀ y0 y1 y2 y3 y4 y5 y6 y7 y8 y9 y10 y11, LeO (spec_asStep.j3 k y0 y1 y2 y3 y4 y5 y6 y7 y8 y9 y10 y11) (spec_asStep.j3 (k + 1) y0 y1 y2 y3 y4 y5 y6 y7 y8 y9 y10 y11))
  | 0 => ⟨fun _ _ _ _ _ r h => by simp [spec_asStep.l0] at h, fun _ _ _ _ _ _ _ _ r h => by simp [spec_asStep.l1] at h, fun _ _ _ _ _ _ _ _ _ _ _ r h => by simp [spec_asStep.l2] at h, fun _ _ _ _ _ _ _ _ _ _ _ _ r h => by simp [spec_asStep.j3] at h⟩
  | k + 1 => by
    obtain ⟨ih0, ih1, ih2, ih3⟩ := spec_asStep.mono_l k
    refine ⟨?_, ?_, ?_, ?_⟩
    · intro y0 y1 y2 y3 y4
      unfold spec_asStep.l0
      repeat' first
      | (with_reducible exact ih0 _ _ _ _ _)
      | (with_reducible exact ih1 _ _ _ _ _ _ _ _)
      | (with_reducible exact ih2 _ _ _ _ _ _ _ _ _ _ _)
      | (with_reducible exact ih3 _ _ _ _ _ _ _ _ _ _ _ _)
      | (with_reducible exact LeO.refl _)
      | (with_reducible exact LeO.none _)
      | (with_reducible refine LeO.ite ?_ ?_)
      | (with_reducible refine LeO.bind ?_ (fun _ => ?_))
      | exact ih0 _ _ _ _ _
      | exact ih1 _ _ _ _ _ _ _ _
      | exact ih2 _ _ _ _ _ _ _ _ _ _ _
      | exact ih3 _ _ _ _ _ _ _ _ _ _ _ _
      | exact LeO.none _
      | refine LeO.ite ?_ ?_
      | refine LeO.bind ?_ (fun _ => ?_)
    · intro y0 y1 y2 y3 y4 y5 y6 y7
      unfold spec_asStep.l1
      repeat' first
      | (with_reducible exact ih0 _ _ _ _ _)
      | (with_reducible exact ih1 _ _ _ _ _ _ _ _)
      | (with_reducible exact ih2 _ _ _ _ _ _ _ _ _ _ _)
      | (with_reducible exact ih3 _ _ _ _ _ _ _ _ _ _ _ _)
      | (with_reducible exact LeO.refl _)
      | (with_reducible exact LeO.none _)
      | (with_reducible refine LeO.ite ?_ ?_)
      | (with_reducible refine LeO.bind ?_ (fun _ => ?_))
      | exact ih0 _ _ _ _ _
      | exact ih1 _ _ _ _ _ _ _ _
      | exact ih2 _ _ _ _ _ _ _ _ _ _ _
      | exact ih3 _ _ _ _ _ _ _ _ _ _ _ _
      | exact LeO.none _
      | refine LeO.ite ?_ ?_
      | refine LeO.bind ?_ (fun _ => ?_)
    · intro y0 y1 y2 y3 y4 y5 y6 y7 y8 y9 y10
      unfold spec_asStep.l2
      repeat' first
      | (with_reducible exact ih0 _ _ _ _ _)
      | (with_reducible exact ih1 _ _ _ _ _ _ _ _)
      | (with_reducible exact ih2 _ _ _ _ _ _ _ _ _ _ _)
      | (with_reducible exact ih3 _ _ _ _ _ _ _ _ _ _ _ _)
      | (with_reducible exact LeO.refl _)
      | (with_reducible exact LeO.none _)
      | (with_reducible refine LeO.ite ?_ ?_)
      | (with_reducible refine LeO.bind ?_ (fun _ => ?_))
      | exact ih0 _ _ _ _ _
      | exact ih1 _ _ _ _ _ _ _ _
      | exact ih2 _ _ _ _ _ _ _ _ _ _ _
      | exact ih3 _ _ _ _ _ _ _ _ _ _ _ _
      | exact LeO.none _
      | refine LeO.ite ?_ ?_
      | refine LeO.bind ?_ (fun _ => ?_)
    · intro y0 y1 y2 y3 y4 y5 y6 y7 y8 y9 y10 y11
      unfold spec_asStep.j3
      repeat' first
      | (with_reducible exact ih0 _ _ _ _ _)
      | (with_reducible exact ih1 _ _ _ _ _ _ _ _)
      | (with_reducible exact ih2 _ _ _ _ _ _ _ _ _ _ _)
      | (with_reducible exact ih3 _ _ _ _ _ _ _ _ _ _ _ _)
      | (with_reducible exact LeO.refl _)
      | (with_reducible exact LeO.none _)
      | (with_reducible refine LeO.ite ?_ ?_)
      | (with_reducible refine LeO.bind ?_ (fun _ => ?_))
      | exact ih0 _ _ _ _ _
      | exact ih1 _ _ _ _ _ _ _ _
      | exact ih2 _ _ _ _ _ _ _ _ _ _ _
      | exact ih3 _ _ _ _ _ _ _ _ _ _ _ _
      | exact LeO.none _
      | refine LeO.ite ?_ ?_
      | refine LeO.bind ?_ (fun _ => ?_)
theorem spec_asStep.mono : ∀ a3 a4 k, LeO (spec_asStep.f k a3 a4) (spec_asStep.f (k + 1) a3 a4) := by
  intro a3 a4 k
  obtain ⟨ih0, ih1, ih2, ih3⟩ := spec_asStep.mono_l k
  unfold spec_asStep.f
  repeat' first
      | (with_reducible exact ih0 _ _ _ _ _)
      | (with_reducible exact ih1 _ _ _ _ _ _ _ _)
      | (with_reducible exact ih2 _ _ _ _ _ _ _ _ _ _ _)
      | (with_reducible exact ih3 _ _ _ _ _ _ _ _ _ _ _ _)
      | (with_reducible exact LeO.refl _)
      | (with_reducible exact LeO.none _)
      | (with_reducible refine LeO.ite ?_ ?_)
      | (with_reducible refine LeO.bind ?_ (fun _ => ?_))
      | exact ih0 _ _ _ _ _
      | exact ih1 _ _ _ _ _ _ _ _
      | exact ih2 _ _ _ _ _ _ _ _ _ _ _
      | exact ih3 _ _ _ _ _ _ _ _ _ _ _ _
      | exact LeO.none _
      | refine LeO.ite ?_ ?_
      | refine LeO.bind ?_ (fun _ => ?_)
def spec_asWays.l0 : Nat → Int → List (List Int) → Option (List (List Int))
  | 0, _, _ => none
  | k + 1, x0, x4 => if x0 > 0 then ((spec_asStep.f k 14 x4).bind fun y => spec_asWays.l0 k (wrap64 (x0 - 1)) y) else (some x4)
def spec_asWays.f (k : Nat) (a0 : Int) : Option (List (List Int)) := (spec_asOnes.f k 14).bind fun t => spec_asWays.l0 k a0 t
theorem spec_asWays.mono_l : ∀ k, (∀ y0 y1, LeO (spec_asWays.l0 k y0 y1) (spec_asWays.l0 (k + 1) y0 y1))
  | 0 => fun _ _ r h => by simp [spec_asWays.l0] at h
  | k + 1 => by
    have ih0 := spec_asWays.mono_l k
    intro y0 y1
    unfold spec_asWays.l0
    repeat' first
      | (with_reducible exact ih0 _ _)
      | (with_reducible exact spec_asStep.mono _ _ _)
      | (with_reducible exact LeO.refl _)
      | (with_reducible exact LeO.none _)
      | (with_reducible refine LeO.ite ?_ ?_)
      | (with_reducible refine LeO.bind ?_ (fun _ => ?_))
      | exact ih0 _ _
      | exact spec_asStep.mono _ _ _
      | exact LeO.none _
      | refine LeO.ite ?_ ?_
      | refine LeO.bind ?_ (fun _ => ?_)
theorem spec_asWays.mono : ∀ a0 k, LeO (spec_asWays.f k a0) (spec_asWays.f (k + 1) a0) := by
  intro a0 k
  have ih0 := spec_asWays.mono_l k
  unfold spec_asWays.f
  repeat' first
      | (with_reducible exact ih0 _ _)
      | (with_reducible exact spec_asOnes.mono _ _)
      | (with_reducible exact LeO.refl _)
      | (with_reducible exact LeO.none _)
      | (with_reducible refine LeO.ite ?_ ?_)
      | (with_reducible refine LeO.bind ?_ (fun _ => ?_))
      | exact ih0 _ _
      | exact spec_asOnes.mono _ _
      | exact LeO.none _
      | refine LeO.ite ?_ ?_
      | refine LeO.bind ?_ (fun _ => ?_)
set_option maxHeartbeats 8000000 in
set_option maxRecDepth 100000 in
theorem spec_asWays.calls (k : Nat) (a0 : Int) (r : List (List Int)) (w : World) (h : spec_asWays.f k a0 = some r) :
    Calls Try.prog 69 #[.int .i64 a0] w fun e w' => ∃ v0_ : Value, e = .returned (v0_) ∧ Kd.S (Kd.slice 3 (Kd.int .i64)) 25 w' w.heap.size (fun _ => True) v0_ r ∧ Below w.heap.size w w' := by
  obtain ⟨t0, hA0, hH⟩ := Option.bind_eq_some_iff.mp h
  clear h
  have AO := Aside0.mk hA0
  have HAW := Aside0.mk hH
  clear hA0 hH
  go_enter Try.func69, Try.ntmps69
  go_wp2_with (first | ((with_reducible refine gate_callee (f := 70) rfl ?_); refine goesL_ (some 11) rfl rfl Try.func70 (by kernel_rfl) rfl #[.int .i64 14] rfl (by (try simp only [List.map_toArray, List.map_cons, List.map_nil]); first | done | rfl) ?_; (with_reducible refine (spec_asOnes.calls k 14 t0 _ AO.out).mono ?_); rintro e w9 ⟨v4, rfl, ho, hb⟩; refine ⟨_, rfl, ?_⟩; have HOW := Aside0.mk ho; have HBW := Aside0.mk hb; clear ho hb))
  obtain ⟨a3, ha3⟩ : ∃ a3 : Int, a3 = 14 := ⟨_, rfl⟩
  rw [← ha3]
  have HA3 := Aside0.mk ha3
  clear ha3
  go_loopg [0, 4] k (fun kq v0 v4 w' => ∃ (x0 : Int) (l4 : List (List Int)), v0 = .int .i64 x0 ∧ Aside0 (spec_asWays.l0 kq x0 l4 = some r) ∧ Aside0 (kq ≤ k) ∧ Aside0 (Kd.S (Kd.slice 3 (Kd.int .i64)) 25 w' w.heap.size (fun _ => True) v4 l4) ∧ Aside0 (Below w.heap.size w w'))
  case atStart => exact ⟨a0, t0, rfl, HAW, ⟨Nat.le_refl _⟩, HOW, HBW⟩
  case round =>
    clear HAW HOW HBW
    rename World => ww
    obtain ⟨x0, l4, rfl, HA, HKW, HOW, HBW⟩ := hrel
    obtain ⟨A4, c4, hv4⟩ := Kd.S_slice HOW.out
    subst hv4
    cases gk with
    | zero => exact absurd HA.out (by simp [spec_asWays.l0])
    | succ k0 =>
      have H := HA.out
      clear HA
      simp only [spec_asWays.l0] at H
      by_cases cw : x0 > 0
      · rw [if_pos cw] at H
        have cwb0 : decide (0 < x0) = true := decide_eq_true cw
        clear cw
        obtain ⟨yy, hStep, H⟩ := Option.bind_eq_some_iff.mp H
        have HW' := Aside0.mk H
        clear H
        rw [← HA3.out] at hStep
        have HR4 := Aside0.mk (Kd.S_reads' HOW.out).2.2
        have HC4 := Aside0.mk (Kd.S_reads' HOW.out).2.1
        have HB := Aside0.mk (Below.refl ww.heap.size ww)
        have H : (if 0 ≤ a3 then (if (a3 : Int).toNat ≤ 11728124029610 then ((some (List.replicate (a3 : Int).toNat [] : List (List Int))).bind fun y116 => (spec_asStep.l0 k0 a3 l4 y116 (y116.length : Int) 0)) else (none)) else (none)) = some yy := hStep
        clear hStep
        by_cases c6 : 0 ≤ a3
        · rw [if_pos c6] at H
          have c6b0 := eq_true c6
          have c6b1 : decide (0 ≤ a3) = true := decide_eq_true c6
          clear c6
          by_cases c7 : (a3 : Int).toNat ≤ 11728124029610
          · rw [if_pos c7] at H
            have c7b0 := eq_true c7
            have c7b1 : decide ((a3 : Int).toNat ≤ 11728124029610) = true := decide_eq_true c7
            clear c7
            obtain ⟨y116, hy116⟩ : ∃ y_ : List (List Int), y_ = (List.replicate (a3 : Int).toNat []) := ⟨_, rfl⟩
            replace H : (spec_asStep.l0 k0 a3 l4 y116 (y116.length : Int) 0) = some yy := by first | (rw [hy116]; with_reducible exact H) | (have H2_ := (Option.bind_some _ _).symm.trans H; rw [hy116]; with_reducible exact H2_) | (have H2_ := (Option.bind_some _ _).symm.trans H; with_reducible exact H2_) | with_reducible exact H | (rw [hy116]; exact H) | exact H
            have Ny116 := Aside0.mk hy116
            clear hy116
            have H' := Aside0.mk H
            clear H
            go_wp2_with (first | ((with_reducible refine gate_dst (N := 17) rfl ?_); refine Kd.S_make (Kd.slice 3 (Kd.int .i64)) _ 25 rfl (N := 17) rfl 39 _ _ rfl a3 rfl rfl Try.underlying39 (.slice none 0 0) 24 info25 rfl (by decide) (by omega) [] (ok := fun _ => True) (okp := fun _ => True) ⟨_, rfl, Kd.R_nil _ _ _ _ _⟩ (fun _ hk => hk) trivial (of_decide_eq_true (by first | (with_reducible assumption) | assumption)) (Nat.le_trans (Nat.mul_le_mul_right _ (of_decide_eq_true (by first | (with_reducible assumption) | assumption) : a3.toNat ≤ 11728124029610)) (by omega)) (Below.refl _ _) (Nat.le_refl _) ?_; intro v117 w8 ho9 hb hg_ hnew_; clear hg_ hnew_; (first | rw [← Ny116.out] at ho9 | (simp only [Int.reduceToNat] at ho9; rw [← Ny116.out] at ho9)); have n0_ := Aside0.mk (Kd.S_lower ho9 (below_size (by repeat (first | (with_reducible first | exact HB.out | apply below_alloc | apply pw_below_drewN | apply below_drew1) | exact HB.out)))); have n1_ := Aside0.mk (below_step (by repeat (first | (with_reducible first | exact HB.out | apply below_alloc | apply pw_below_drewN | apply below_drew1) | exact HB.out)) hb); clear HB; have HO118 := n0_; have HB := n1_; clear n0_ n1_; clear hb ho9; obtain ⟨Ao10, co10, eo10⟩ := Kd.S_slice HO118.out; subst eo10))
            go_loopg [20] k0 (fun kq v20 w' => ∃ (x5_1 : List (List Int)) (x20_1 : Int), v20 = .int .i64 x20_1 ∧ Aside0 (spec_asStep.l0 kq a3 l4 x5_1 (y116.length : Int) x20_1 = some yy) ∧ Aside0 (kq ≤ k0) ∧ Aside0 (Kd.S (Kd.slice 3 (Kd.int .i64)) 25 w' ww.heap.size (fun _ => True) (.slice Ao10 y116.length co10) x5_1) ∧ Aside0 (Below ww.heap.size ww w'))
            case atStart => exact ⟨(y116), (0), (by first | rfl | (simp; done) | (simp [*]; done)), H', ⟨Nat.le_refl _⟩, ⟨by (with_reducible repeat (first | apply Kd.S_alloc | apply Kd.S_drewN | apply Kd.S_drew)); exact HO118.out⟩, ⟨by repeat (first | (with_reducible first | exact HB.out | apply below_alloc | apply pw_below_drewN | apply below_drew1) | exact HB.out)⟩⟩
            case round =>
              clear H'
              try clear p2
              try clear c4
              try clear c6
              try clear c6b0
              try clear c6b1
              try clear c7
              try clear c7b0
              try clear c7b1
              obtain ⟨x5_1, x20_1, rfl, HA, HK1, HO_5, HB⟩ := hrel
              have hl5_1 := (Kd.S_reads' HO_5.out).1
              rw [hl5_1] at HO_5
              (try simp only [hl5_1])
              cases gk with
              | zero => exact absurd HA.out (by simp [spec_asStep.l0])
              | succ k1 =>
                have H := HA.out
                clear HA
                simp only [spec_asStep.l0] at H
                by_cases c11 : x20_1 < (y116.length : Int)
                · rw [if_pos c11] at H
                  have c11b0 : decide (x20_1 < (y116.length : Int)) = true := decide_eq_true c11
                  clear c11
                  by_cases c12 : 0 ≤ a3
                  · rw [if_pos c12] at H
                    have c12b0 := eq_true c12
                    have c12b1 : decide (0 ≤ a3) = true := decide_eq_true c12
                    clear c12
                    by_cases c13 : (a3 : Int).toNat ≤ 35184372088832
                    · rw [if_pos c13] at H
                      have c13b0 := eq_true c13
                      have c13b1 : decide ((a3 : Int).toNat ≤ 35184372088832) = true := decide_eq_true c13
                      clear c13
                      obtain ⟨y119, hy119⟩ : ∃ y_ : List Int, y_ = (List.replicate (a3 : Int).toNat 0) := ⟨_, rfl⟩
                      replace H : (if 0 ≤ x20_1 then (if x20_1 < (x5_1.length : Int) then ((some (x5_1.set (x20_1 : Int).toNat y119 : List (List Int))).bind fun y122 => (spec_asStep.l1 k1 a3 l4 y122 x20_1 (y116.length : Int) x20_1 ((rd_L1 y122 x20_1).length : Int) 0)) else (none)) else (none)) = some yy := by first | (rw [hy119]; with_reducible exact H) | (have H2_ := (Option.bind_some _ _).symm.trans H; rw [hy119]; with_reducible exact H2_) | (have H2_ := (Option.bind_some _ _).symm.trans H; with_reducible exact H2_) | with_reducible exact H | (rw [hy119]; exact H) | exact H
                      have Ny119 := Aside0.mk hy119
                      clear hy119
                      by_cases c14 : 0 ≤ x20_1
                      · rw [if_pos c14] at H
                        have c14b0 : decide (0 ≤ x20_1) = true := decide_eq_true c14
                        clear c14
                        by_cases c15 : x20_1 < (x5_1.length : Int)
                        · rw [if_pos c15] at H
                          have c15b0 : decide (x20_1 < (x5_1.length : Int)) = true := decide_eq_true c15
                          clear c15
                          obtain ⟨y122, hy122⟩ : ∃ y_ : List (List Int), y_ = (x5_1.set (x20_1 : Int).toNat y119) := ⟨_, rfl⟩
                          replace H : (spec_asStep.l1 k1 a3 l4 y122 x20_1 (y116.length : Int) x20_1 ((rd_L1 y122 x20_1).length : Int) 0) = some yy := by first | (rw [hy122]; with_reducible exact H) | (have H2_ := (Option.bind_some _ _).symm.trans H; rw [hy122]; with_reducible exact H2_) | (have H2_ := (Option.bind_some _ _).symm.trans H; with_reducible exact H2_) | with_reducible exact H | (rw [hy122]; exact H) | exact H
                          have Ny122 := Aside0.mk hy122
                          clear hy122
                          have H' := Aside0.mk H
                          clear H
                          go_wp2_with (first | ((with_reducible refine gate_dst (N := 26) rfl ?_); refine Kd.R_make (Kd.int .i64) _ 3 rfl (N := 26) rfl 25 _ _ rfl a3 rfl rfl Try.underlying25 (.int .i64 0) 8 info3 rfl (by decide) (by omega) 0 (ok := fun _ => True) (okp := fun _ => True) rfl (fun _ hk => hk) trivial (of_decide_eq_true (by first | (with_reducible assumption) | assumption)) (Nat.le_trans (Nat.mul_le_mul_right _ (of_decide_eq_true (by first | (with_reducible assumption) | assumption) : a3.toNat ≤ 35184372088832)) (by omega)) (Below.refl _ _) (Nat.le_refl _) ?_; intro v120 w17 ho18 hb hg_ hnew_; clear hg_ hnew_; (first | rw [← Ny119.out] at ho18 | (simp only [Int.reduceToNat] at ho18; rw [← Ny119.out] at ho18)); have n0_ := Aside0.mk (Kd.S_elder' (by (with_reducible repeat (first | apply Kd.S_alloc | apply Kd.S_drewN | apply Kd.S_drew)); exact HO_5.out) (Kd.R_base ho18) hb); have n1_ := Aside0.mk (Kd.R_lower ho18 (below_size (by repeat (first | (with_reducible first | exact HB.out | apply below_alloc | apply pw_below_drewN | apply below_drew1) | exact HB.out)))); have n2_ := Aside0.mk (below_step (by repeat (first | (with_reducible first | exact HB.out | apply below_alloc | apply pw_below_drewN | apply below_drew1) | exact HB.out)) hb); clear HO_5; clear HB; have HO_5 := n0_; have HO121 := n1_; have HB := n2_; clear n0_ n1_ n2_; clear hb ho18; have p16 : 0 ≤ (x20_1 : Int) := of_decide_eq_true (by first | (with_reducible assumption) | assumption); have q16 : (x20_1 : Int) < ((x5_1.length : Int) : Int) := of_decide_eq_true (by first | (with_reducible assumption) | assumption); obtain ⟨go16, co16, eo16, gb16, gl16, cl16, HG16⟩ := Kd.S_form HO_5.out (by omega); (first | cases eo16 | (injection eo16 with ea_ en_ ec_; (first | subst ea_ | (injection ea_ with ea_; subst ea_)); subst ec_; clear en_)); have GB16 := Aside0.mk gb16; have GG16 := Aside0.mk HG16; clear gb16 gl16 HG16; obtain ⟨_, ce16, hcl16, hM16, hcc16, hfr16, _, _⟩ := Kd.S_elem HO_5.out [] (x20_1 : Int) p16 q16; obtain ⟨ve16_0, rfl, ge16_0⟩ := hM16; have hx16_0 := hcc16 0 _ rfl; have hf16_0 := hfr16 0; (try simp only [show ((Kd.slice 3 (Kd.int .i64))).sz = 1 from rfl, Nat.mul_one, Nat.add_zero] at hx16_0); (try simp only [show ((Kd.slice 3 (Kd.int .i64))).sz = 1 from rfl, Nat.mul_one, Nat.add_zero] at hf16_0); clear hcl16 hcc16 hfr16; (try clear hM16); replace p16 := eq_true p16; replace q16 := eq_true q16; have n_ := Aside0.mk (Kd.S_mono (ok' := (fun k_ => some k_ ≠ (v120 : Value).ownBlock)) HO_5.out (fun k_ hk => hk.2)); clear HO_5; have HO_5 := n_; clear n_; have HX19 := Aside0.mk (show Kd.S (Kd.slice 3 (Kd.int .i64)) 25 w17 ww.heap.size (fun k_ => ((fun _ => True)) k_ ∧ ¬ ((fun k_ => some k_ = (v120 : Value).ownBlock)) k_) (.slice (some ⟨go16, 0, none⟩) x5_1.length co10) x5_1 from (by (with_reducible repeat (first | apply Kd.S_alloc | apply Kd.S_drewN | apply Kd.S_drew)); exact Kd.S_mono HO_5.out (fun k_ hk => ⟨trivial, fun e_ => hk e_⟩))); obtain ⟨oki19, ce19, hcl19, hM19, hcc19, hfr19, hoki19, hH19⟩ := Kd.S_elem HX19.out [] (x20_1 : Int) (of_decide_eq_true (by first | (with_reducible assumption) | assumption)) (by have h_ : (x20_1 : Int) < ((x5_1.length : Int) : Int) := of_decide_eq_true (by first | (with_reducible assumption) | assumption); first | exact h_ | (have e_ := (Kd.S_reads' HO_5.out).1; omega) | simpa using h_); obtain ⟨ve19_0, rfl, ge19_0⟩ := hM19; have HP19 := Kd.S_seg hH19 (of_decide_eq_true (by first | (with_reducible assumption) | assumption)) (by have h_ : (x20_1 : Int) < ((x5_1.length : Int) : Int) := of_decide_eq_true (by first | (with_reducible assumption) | assumption); first | exact h_ | (have e_ := (Kd.S_reads' HO_5.out).1; omega) | simpa using h_) (seg := [v120]) (j := 0) (show 1 ≤ 1 from by decide) (x' := y119) (Kd.M_row (Kd.R_mono (Kd.R_tight rfl (Kd.R_mono (ok' := fun k_ => ((fun _ => True)) k_ ∧ k_ ≠ go16) (Kd.R_apart' (HO121.out) (Kd.S_typed HO_5.out) (by decide)) (fun k_ hk => ⟨trivial, fun e_ => (hk.2) (by rw [e_]; rfl)⟩))) (fun _ h_ => Or.inr (h_)))) (fun _ hk => hk) (fun k_ hk_ => ((Kd.R_mono (ok' := fun k_ => ((fun _ => True)) k_ ∧ k_ ≠ go16) (Kd.R_apart' (HO121.out) (Kd.S_typed HO_5.out) (by decide)) (fun k_ hk => ⟨trivial, fun e_ => (hk.2) (by rw [e_]; rfl)⟩))).1 k_ hk_.symm); have hx19_0 := hcc19 0 _ rfl; (try simp only [show ((Kd.slice 3 (Kd.int .i64))).sz = 1 from rfl, Nat.mul_one, Nat.add_zero] at hx19_0); have hf19_0 := hfr19 0; (try simp only [show ((Kd.slice 3 (Kd.int .i64))).sz = 1 from rfl, Nat.mul_one, Nat.add_zero] at hf19_0); clear hcl19 hcc19 hfr19; (try clear hM19); clear hoki19 hH19; (try simp only [show ((Kd.slice 3 (Kd.int .i64))).sz = 1 from rfl, Nat.mul_one, Nat.add_zero] at HP19)) | ((with_reducible refine gate_store (t := 25) (p := 27) rfl ?_); refine store_event (t := 25) (p := 27) (v := ?vo_w20) (w1 := (w17.setCell ⟨go16, (x20_1 : Int).toNat, none⟩ (v120))) ?hg ?ho ?hn ?hr ?_; (case ho => rfl); (case hg => rfl); (case hn => rfl); (case hr => first | (go_simp; done) | (go_simp; rfl) | (obtain ⟨A_, c_, e_⟩ := Kd.R_slice HO121.out; subst e_; first | (go_simp; done) | (go_simp; rfl))); intro w20 hw; have hg : w17.grownBy w20 (some go16) := (by rw [hw]; exact HP19.2); have hp_ : Kd.S (Kd.slice 3 (Kd.int .i64)) 25 w20 ww.heap.size (fun _ => True) (.slice (some ⟨go16, 0, none⟩) x5_1.length co10) y122 := (by rw [hw, Ny122.out]; exact HP19.1); clear HP19; have n0_ := Aside0.mk (hp_); have n1_ := Aside0.mk ((by rw [hw]; exact below_set (HB.out) GB16.out : Below ww.heap.size ww w20)); clear HO_5; clear HB; clear HO121; have HO_5 := n0_; have HB := n1_; clear n0_ n1_; clear hg hw hp_; have p123 : 0 ≤ (x20_1 : Int) := of_decide_eq_true (by first | (with_reducible assumption) | assumption); have q123 : x20_1 < (y122.length : Int) := (by have h_ : (x20_1 : Int) < ((x5_1.length : Int) : Int) := of_decide_eq_true (by first | (with_reducible assumption) | assumption); first | (have e_ := (Kd.S_reads' HO_5.out).1; omega) | simpa only [Ny122.out, List.length_set] using h_); have ql123 : ((x20_1 : Int) < ((x5_1.length : Int) : Int)) = True := eq_true (of_decide_eq_true (by first | (with_reducible assumption) | assumption)); obtain ⟨ad123, A123_0, c123_0, e123, hx123_0, hl123_0, hi123_0⟩ := at_L1 (Kd.S_reads' HO_5.out).2.2 x20_1 p123 q123; obtain rfl : (⟨go16, 0, none⟩ : Addr) = ad123 := (by injection e123); obtain ⟨ce123, hce123, hMe123, hcc123⟩ := Kd.S_get HO_5.out [] x20_1 p123 (by first | exact q123 | exact of_decide_eq_true (by first | (with_reducible assumption) | assumption) | (have e_ := (Kd.S_reads' HO_5.out).1; omega)); obtain ⟨ve123_0, rfl, ge123_0⟩ := hMe123; have hv123_0 := hcc123 0 _ rfl; rw [Nat.add_zero, show ((Kd.slice 3 (Kd.int .i64))).sz = 1 from rfl, Nat.mul_one] at hv123_0; replace hv123_0 := Option.some.inj (hv123_0.symm.trans hx123_0); rw [hv123_0] at ge123_0; have HL123_0 := Aside0.mk (show Kd.R (Kd.int .i64) 3 _ _ _ _ (rd_L1 y122 x20_1) from ge123_0); clear hv123_0 ge123_0; have HX123_0 := Aside0.mk hx123_0; clear hcc123 hce123; (first | simp only [add_plain] at hx123_0 | simp only [add_at] at hx123_0 | simp only [Addr.add, Nat.zero_add] at hx123_0 | skip); have HR123_0 := Aside0.mk hi123_0; have HC123_0 := Aside0.mk hl123_0; clear hi123_0 hl123_0; replace p123 := eq_true p123; replace q123 := eq_true q123))
                          go_loopg [33] k1 (fun kq v33 w' => ∃ (x5_2 : List (List Int)) (x33_2 : Int), v33 = .int .i64 x33_2 ∧ Aside0 (spec_asStep.l1 kq a3 l4 x5_2 x20_1 (y116.length : Int) x20_1 ((rd_L1 y122 x20_1).length : Int) x33_2 = some yy) ∧ Aside0 (kq ≤ k1) ∧ Aside0 (Kd.S (Kd.slice 3 (Kd.int .i64)) 25 w' ww.heap.size (fun _ => True) (.slice (some ⟨go16, 0, none⟩) x5_1.length co10) x5_2) ∧ Aside0 (Below ww.heap.size ww w'))
                          case atStart => exact ⟨(y122), (0), (by first | rfl | (simp; done) | (simp [*]; done)), H', ⟨Nat.le_refl _⟩, ⟨by (try simp only [hl5_1]); (with_reducible repeat (first | apply Kd.S_alloc | apply Kd.S_drewN | apply Kd.S_drew)); exact HO_5.out⟩, ⟨by repeat (first | (with_reducible first | exact HB.out | apply below_alloc | apply pw_below_drewN | apply below_drew1) | exact HB.out)⟩⟩
                          case round =>
                            clear H'
                            try clear c1
                            try clear p1
                            try clear q1
                            try clear hx1
                            try clear p2
                            try clear c4
                            try clear c6
                            try clear c6b0
                            try clear c6b1
                            try clear c7
                            try clear c7b0
                            try clear c7b1
                            try clear c11
                            try clear c11b0
                            try clear c12
                            try clear c12b0
                            try clear c12b1
                            try clear p12
                            try clear q12
                            try clear hx12
                            try clear c13
                            try clear c13b0
                            try clear c13b1
                            try clear c14
                            try clear c14b0
                            try clear c15
                            try clear c15b0
                            try clear c16
                            try clear p16
                            try clear q16
                            try clear hx16
                            try clear hf16
                            try clear c19
                            try clear hx19
                            try clear hf19
                            try clear hx123_0
                            try clear hx16_0
                            try clear hx19_0
                            try clear p123
                            try clear p16
                            try clear p2
                            try clear q123
                            try clear q16
                            obtain ⟨x5_2, x33_2, rfl, HA, HK2, HO_5, HB⟩ := hrel
                            have hl5_2 := (Kd.S_reads' HO_5.out).1
                            rw [hl5_2] at HO_5
                            (try simp only [hl5_2])
                            cases gk with
                            | zero => exact absurd HA.out (by simp [spec_asStep.l1])
                            | succ k2 =>
                              have H := HA.out
                              clear HA
                              simp only [spec_asStep.l1] at H
                              by_cases c21 : x33_2 < ((rd_L1 y122 x20_1).length : Int)
                              · rw [if_pos c21] at H
                                have c21b0 : decide (x33_2 < ((rd_L1 y122 x20_1).length : Int)) = true := decide_eq_true c21
                                clear c21
                                have H' := Aside0.mk H
                                clear H
                                go_wp2
                                go_loopg [8, 9] k2 (fun kq v8 v9 w' => ∃ (x8_3 : Int) (x9_3 : Int), v8 = .int .i64 x8_3 ∧ v9 = .int .i64 x9_3 ∧ Aside0 (spec_asStep.l2 kq a3 l4 x5_2 x20_1 x33_2 x8_3 x9_3 (y116.length : Int) x20_1 ((rd_L1 y122 x20_1).length : Int) x33_2 = some yy) ∧ Aside0 (kq ≤ k2) ∧ Aside0 (Kd.S (Kd.slice 3 (Kd.int .i64)) 25 w' ww.heap.size (fun _ => True) (.slice (some ⟨go16, 0, none⟩) x5_2.length co10) x5_2) ∧ Aside0 (Below ww.heap.size ww w'))
                                case atStart => exact ⟨(0), (0), (by first | rfl | (simp; done) | (simp [*]; done)), (by first | rfl | (simp; done) | (simp [*]; done)), H', ⟨Nat.le_refl _⟩, ⟨by (try simp only [hl5_1]); (try simp only [hl5_2]); (with_reducible repeat (first | apply Kd.S_alloc | apply Kd.S_drewN | apply Kd.S_drew)); exact HO_5.out⟩, ⟨by repeat (first | (with_reducible first | exact HB.out | apply below_alloc | apply pw_below_drewN | apply below_drew1) | exact HB.out)⟩⟩
                                case round =>
                                  clear H'
                                  try clear c1
                                  try clear p1
                                  try clear q1
                                  try clear hx1
                                  try clear c2
                                  try clear p2
                                  try clear c4
                                  try clear c6
                                  try clear c6b0
                                  try clear c6b1
                                  try clear c7
                                  try clear c7b0
                                  try clear c7b1
                                  try clear c11
                                  try clear c11b0
                                  try clear c12
                                  try clear c12b0
                                  try clear c12b1
                                  try clear p12
                                  try clear q12
                                  try clear hx12
                                  try clear c13
                                  try clear c13b0
                                  try clear c13b1
                                  try clear c14
                                  try clear c14b0
                                  try clear c15
                                  try clear c15b0
                                  try clear c16
                                  try clear p16
                                  try clear q16
                                  try clear hx16
                                  try clear hf16
                                  try clear c19
                                  try clear hx19
                                  try clear hf19
                                  try clear c21
                                  try clear c21b0
                                  try clear hx123_0
                                  try clear hx16_0
                                  try clear hx19_0
                                  try clear p1
                                  try clear p12
                                  try clear p123
                                  try clear p16
                                  try clear p2
                                  try clear q1
                                  try clear q12
                                  try clear q123
                                  try clear q16
                                  obtain ⟨x8_3, x9_3, rfl, rfl, HA, HK3, HO_5, HB⟩ := hrel
                                  cases gk with
                                  | zero => exact absurd HA.out (by simp [spec_asStep.l2])
                                  | succ k3 =>
                                    have H := HA.out
                                    clear HA
                                    simp only [spec_asStep.l2] at H
                                    have HC22 := Aside0.mk H
                                    clear H
                                    go_upto_region 15 with (fail)
                                    go_cut [50] (fun v50 wc => ∃ (kq : Nat) (x50_21 : Bool), v50 = .bool x50_21 ∧ Aside0 (spec_asStep.j3 kq a3 l4 x5_2 x20_1 x33_2 x8_3 x9_3 (y116.length : Int) x20_1 ((rd_L1 y122 x20_1).length : Int) x33_2 x50_21 = some yy) ∧ Aside0 (kq ≤ k3) ∧ Aside0 (Kd.S (Kd.slice 3 (Kd.int .i64)) 25 wc ww.heap.size (fun _ => True) (.slice (some ⟨go16, 0, none⟩) x5_2.length co10) x5_2) ∧ Aside0 (Below ww.heap.size ww wc))
                                    case first =>
                                      have H := HC22.out
                                      clear HC22
                                      by_cases c23 : x9_3 ≤ (wrap64 (x20_1 + 1))
                                      · rw [if_pos c23] at H
                                        have c23b0 : decide (x9_3 ≤ (wrap64 (x20_1 + 1))) = true := decide_eq_true c23
                                        clear c23
                                        (first | rw [c23b0] | (simp only [i64_w, i32_w]; rw [c23b0]) | skip)
                                        by_cases c24 : x9_3 < a3
                                        · rw [if_pos c24] at H
                                          have c24b0 : decide (x9_3 < a3) = true := decide_eq_true c24
                                          clear c24
                                          have H' := Aside0.mk H
                                          clear H
                                          go_wp2
                                          go_meet
                                          case rel => exact ⟨_, (decide ((wrap64 (x20_1 + 1)) < a3)), (by first | rfl | (simp; done) | (simp [*]; done)), H', ⟨by have := HK1.out; have := HK2.out; have := HK3.out; first | omega | exact Nat.le_refl _⟩, ⟨by (try simp only [hl5_1]); (try simp only [hl5_2]); (with_reducible repeat (first | apply Kd.S_alloc | apply Kd.S_drewN | apply Kd.S_drew)); exact HO_5.out⟩, ⟨by repeat (first | (with_reducible first | exact HB.out | apply below_alloc | apply pw_below_drewN | apply below_drew1) | exact HB.out)⟩⟩
                                        · rw [if_neg c24] at H
                                          have c24b0 : decide (x9_3 < a3) = false := decide_eq_false c24
                                          clear c24
                                          have H' := Aside0.mk H
                                          clear H
                                          go_wp2
                                          go_meet
                                          case rel => exact ⟨_, (false), (by first | rfl | (simp; done) | (simp [*]; done)), H', ⟨by have := HK1.out; have := HK2.out; have := HK3.out; first | omega | exact Nat.le_refl _⟩, ⟨by (try simp only [hl5_1]); (try simp only [hl5_2]); (with_reducible repeat (first | apply Kd.S_alloc | apply Kd.S_drewN | apply Kd.S_drew)); exact HO_5.out⟩, ⟨by repeat (first | (with_reducible first | exact HB.out | apply below_alloc | apply pw_below_drewN | apply below_drew1) | exact HB.out)⟩⟩
                                      · rw [if_neg c23] at H
                                        have c23b0 : decide (x9_3 ≤ (wrap64 (x20_1 + 1))) = false := decide_eq_false c23
                                        clear c23
                                        (first | rw [c23b0] | (simp only [i64_w, i32_w]; rw [c23b0]) | skip)
                                        have H' := Aside0.mk H
                                        clear H
                                        go_wp2
                                        go_meet
                                        case rel => exact ⟨_, (false), (by first | rfl | (simp; done) | (simp [*]; done)), H', ⟨by have := HK1.out; have := HK2.out; have := HK3.out; first | omega | exact Nat.le_refl _⟩, ⟨by (try simp only [hl5_1]); (try simp only [hl5_2]); (with_reducible repeat (first | apply Kd.S_alloc | apply Kd.S_drewN | apply Kd.S_drew)); exact HO_5.out⟩, ⟨by repeat (first | (with_reducible first | exact HB.out | apply below_alloc | apply pw_below_drewN | apply below_drew1) | exact HB.out)⟩⟩
                                    case rest =>
                                      clear HC22
                                      try clear c1
                                      try clear p1
                                      try clear q1
                                      try clear hx1
                                      try clear c2
                                      try clear p2
                                      try clear c4
                                      try clear c6
                                      try clear c6b0
                                      try clear c6b1
                                      try clear p6
                                      try clear c7
                                      try clear c7b0
                                      try clear c7b1
                                      try clear c11
                                      try clear c11b0
                                      try clear c12
                                      try clear c12b0
                                      try clear c12b1
                                      try clear p12
                                      try clear q12
                                      try clear hx12
                                      try clear c13
                                      try clear c13b0
                                      try clear c13b1
                                      try clear c14
                                      try clear c14b0
                                      try clear c15
                                      try clear c15b0
                                      try clear c16
                                      try clear p16
                                      try clear q16
                                      try clear hx16
                                      try clear hf16
                                      try clear c19
                                      try clear hx19
                                      try clear hf19
                                      try clear c21
                                      try clear c21b0
                                      try clear c23
                                      try clear c23b0
                                      try clear c24
                                      try clear c24b0
                                      try clear hx123_0
                                      try clear hx16_0
                                      try clear hx19_0
                                      try clear p1
                                      try clear p12
                                      try clear p123
                                      try clear p16
                                      try clear p2
                                      try clear q1
                                      try clear q12
                                      try clear q123
                                      try clear q16
                                      obtain ⟨kq, x50_21, rfl, HA, HJ21, HO_5, HB⟩ := hcut
                                      cases kq with
                                      | zero => exact absurd HA.out (by simp [spec_asStep.j3])
                                      | succ kj21 =>
                                        have H := HA.out
                                        clear HA
                                        simp only [spec_asStep.j3] at H
                                        by_cases c25 : x50_21 = true
                                        · subst c25
                                          have H1 : (if x9_3 > x33_2 then (if 0 ≤ (wrap64 (x20_1 + 1)) then (if (wrap64 (x20_1 + 1)) < (l4.length : Int) then (if 0 ≤ x9_3 then (if x9_3 < ((rd_L1 l4 (wrap64 (x20_1 + 1))).length : Int) then (spec_asStep.l2 kj21 a3 l4 x5_2 x20_1 x33_2 (wrap64 (x8_3 + (rd (rd_L1 l4 (wrap64 (x20_1 + 1))) x9_3))) (wrap64 (x9_3 + 1)) (y116.length : Int) x20_1 ((rd_L1 y122 x20_1).length : Int) x33_2) else (none)) else (none)) else (none)) else (none)) else (if 0 ≤ x20_1 then (if x20_1 < (l4.length : Int) then (if 0 ≤ x9_3 then (if x9_3 < ((rd_L1 l4 x20_1).length : Int) then (spec_asStep.l2 kj21 a3 l4 x5_2 x20_1 x33_2 (wrap64 (x8_3 + (rd (rd_L1 l4 x20_1) x9_3))) (wrap64 (x9_3 + 1)) (y116.length : Int) x20_1 ((rd_L1 y122 x20_1).length : Int) x33_2) else (none)) else (none)) else (none)) else (none))) = some yy := by rw [if_pos rfl] at H; exact H
                                          clear H
                                          have H := H1
                                          clear H1
                                          by_cases c26 : x9_3 > x33_2
                                          · rw [if_pos c26] at H
                                            have c26b0 : decide (x33_2 < x9_3) = true := decide_eq_true c26
                                            clear c26
                                            obtain ⟨ji27, hji27⟩ : ∃ j_ : Int, (wrap64 (x20_1 + 1)) = j_ := ⟨_, rfl⟩
                                            replace H : (if 0 ≤ (ji27) then (if (ji27) < (l4.length : Int) then (if 0 ≤ x9_3 then (if x9_3 < ((rd_L1 l4 (ji27)).length : Int) then (spec_asStep.l2 kj21 a3 l4 x5_2 x20_1 x33_2 (wrap64 (x8_3 + (rd (rd_L1 l4 (ji27)) x9_3))) (wrap64 (x9_3 + 1)) (y116.length : Int) x20_1 ((rd_L1 y122 x20_1).length : Int) x33_2) else (none)) else (none)) else (none)) else (none)) = some yy := by first | (rw [hji27] at H; exact H) | (simp only [hji27] at H ⊢; exact H)
                                            have hji27w : (IntKind.i64.wrap (x20_1 + 1)) = ji27 := (i64_w _).trans hji27
                                            by_cases c28 : 0 ≤ (ji27)
                                            · rw [if_pos c28] at H
                                              have c28b0 : decide (0 ≤ (ji27)) = true := decide_eq_true c28
                                              clear c28
                                              by_cases c29 : (ji27) < (l4.length : Int)
                                              · rw [if_pos c29] at H
                                                have c29b0 : decide ((ji27) < (l4.length : Int)) = true := decide_eq_true c29
                                                clear c29
                                                by_cases c30 : 0 ≤ x9_3
                                                · rw [if_pos c30] at H
                                                  have c30b0 : decide (0 ≤ x9_3) = true := decide_eq_true c30
                                                  clear c30
                                                  by_cases c31 : x9_3 < ((rd_L1 l4 (ji27)).length : Int)
                                                  · rw [if_pos c31] at H
                                                    have c31b0 : decide (x9_3 < ((rd_L1 l4 (ji27)).length : Int)) = true := decide_eq_true c31
                                                    clear c31
                                                    have H' := Aside0.mk H
                                                    clear H
                                                    have p124 : 0 ≤ ((ji27) : Int) := of_decide_eq_true (by first | (with_reducible assumption) | assumption)
                                                    have q124 : (ji27) < (l4.length : Int) := of_decide_eq_true (by first | (with_reducible assumption) | assumption)
                                                    obtain ⟨ad124, A124_0, c124_0, e124, hx124_0, hl124_0, hi124_0⟩ := at_L1 HR4.out (ji27) p124 q124
                                                    cases e124
                                                    replace hx124_0 := (HB.out.cell (World.block_lt_of_cell? ww _ hx124_0)).trans hx124_0
                                                    have HR124_0 := Aside0.mk hi124_0
                                                    have HC124_0 := Aside0.mk hl124_0
                                                    clear hi124_0 hl124_0
                                                    replace p124 := eq_true p124
                                                    replace q124 := eq_true q124
                                                    have p125 : 0 ≤ (x9_3 : Int) := of_decide_eq_true (by first | (with_reducible assumption) | assumption)
                                                    have q125 : x9_3 < ((rd_L1 l4 (ji27)).length : Int) := of_decide_eq_true (by first | (with_reducible assumption) | assumption)
                                                    obtain ⟨ad125, e125, hx125_0⟩ := Kd.at_int HR124_0.out x9_3 p125 q125
                                                    cases e125
                                                    replace hx125_0 := (HB.out.cell (World.block_lt_of_cell? ww _ hx125_0)).trans hx125_0
                                                    replace p125 := eq_true p125
                                                    replace q125 := eq_true q125
                                                    go_wp2
                                                    go_roundg kj21
                                                    case measure => have := HK1.out; have := HK2.out; have := HK3.out; have := HJ21.out; omega
                                                    case rel => exact ⟨(wrap64 (x8_3 + (rd (rd_L1 l4 (ji27)) x9_3))), (wrap64 (x9_3 + 1)), (by first | rfl | (simp; done) | (simp only [← hji27] <;> (first | rfl | simp)) | (simp [*]; done)), (by first | rfl | (simp; done) | (simp [*]; done)), H', ⟨by have := HK1.out; have := HK2.out; have := HK3.out; have := HJ21.out; omega⟩, ⟨by (try simp only [hl5_1]); (try simp only [hl5_2]); (with_reducible repeat (first | apply Kd.S_alloc | apply Kd.S_drewN | apply Kd.S_drew)); exact HO_5.out⟩, ⟨by repeat (first | (with_reducible first | exact HB.out | apply below_alloc | apply pw_below_drewN | apply below_drew1) | exact HB.out)⟩⟩
                                                  · rw [if_neg c31] at H
                                                    exact absurd H (by simp)
                                                · rw [if_neg c30] at H
                                                  exact absurd H (by simp)
                                              · rw [if_neg c29] at H
                                                exact absurd H (by simp)
                                            · rw [if_neg c28] at H
                                              exact absurd H (by simp)
                                          · rw [if_neg c26] at H
                                            have c26b0 : decide (x33_2 < x9_3) = false := decide_eq_false c26
                                            clear c26
                                            by_cases c32 : 0 ≤ x20_1
                                            · rw [if_pos c32] at H
                                              have c32b0 : decide (0 ≤ x20_1) = true := decide_eq_true c32
                                              clear c32
                                              by_cases c33 : x20_1 < (l4.length : Int)
                                              · rw [if_pos c33] at H
                                                have c33b0 : decide (x20_1 < (l4.length : Int)) = true := decide_eq_true c33
                                                clear c33
                                                by_cases c34 : 0 ≤ x9_3
                                                · rw [if_pos c34] at H
                                                  have c34b0 : decide (0 ≤ x9_3) = true := decide_eq_true c34
                                                  clear c34
                                                  by_cases c35 : x9_3 < ((rd_L1 l4 x20_1).length : Int)
                                                  · rw [if_pos c35] at H
                                                    have c35b0 : decide (x9_3 < ((rd_L1 l4 x20_1).length : Int)) = true := decide_eq_true c35
                                                    clear c35
                                                    have H' := Aside0.mk H
                                                    clear H
                                                    have p126 : 0 ≤ (x20_1 : Int) := of_decide_eq_true (by first | (with_reducible assumption) | assumption)
                                                    have q126 : x20_1 < (l4.length : Int) := of_decide_eq_true (by first | (with_reducible assumption) | assumption)
                                                    obtain ⟨ad126, A126_0, c126_0, e126, hx126_0, hl126_0, hi126_0⟩ := at_L1 HR4.out x20_1 p126 q126
                                                    cases e126
                                                    replace hx126_0 := (HB.out.cell (World.block_lt_of_cell? ww _ hx126_0)).trans hx126_0
                                                    have HR126_0 := Aside0.mk hi126_0
                                                    have HC126_0 := Aside0.mk hl126_0
                                                    clear hi126_0 hl126_0
                                                    replace p126 := eq_true p126
                                                    replace q126 := eq_true q126
                                                    have p127 : 0 ≤ (x9_3 : Int) := of_decide_eq_true (by first | (with_reducible assumption) | assumption)
                                                    have q127 : x9_3 < ((rd_L1 l4 x20_1).length : Int) := of_decide_eq_true (by first | (with_reducible assumption) | assumption)
                                                    obtain ⟨ad127, e127, hx127_0⟩ := Kd.at_int HR126_0.out x9_3 p127 q127
                                                    cases e127
                                                    replace hx127_0 := (HB.out.cell (World.block_lt_of_cell? ww _ hx127_0)).trans hx127_0
                                                    replace p127 := eq_true p127
                                                    replace q127 := eq_true q127
                                                    go_wp2
                                                    go_roundg kj21
                                                    case measure => have := HK1.out; have := HK2.out; have := HK3.out; have := HJ21.out; omega
                                                    case rel => exact ⟨(wrap64 (x8_3 + (rd (rd_L1 l4 x20_1) x9_3))), (wrap64 (x9_3 + 1)), (by first | rfl | (simp; done) | (simp [*]; done)), (by first | rfl | (simp; done) | (simp [*]; done)), H', ⟨by have := HK1.out; have := HK2.out; have := HK3.out; have := HJ21.out; omega⟩, ⟨by (try simp only [hl5_1]); (try simp only [hl5_2]); (with_reducible repeat (first | apply Kd.S_alloc | apply Kd.S_drewN | apply Kd.S_drew)); exact HO_5.out⟩, ⟨by repeat (first | (with_reducible first | exact HB.out | apply below_alloc | apply pw_below_drewN | apply below_drew1) | exact HB.out)⟩⟩
                                                  · rw [if_neg c35] at H
                                                    exact absurd H (by simp)
                                                · rw [if_neg c34] at H
                                                  exact absurd H (by simp)
                                              · rw [if_neg c33] at H
                                                exact absurd H (by simp)
                                            · rw [if_neg c32] at H
                                              exact absurd H (by simp)
                                        · replace c25 := Bool.eq_false_iff.mpr c25
                                          subst c25
                                          have H1 : (if 0 ≤ x20_1 then (if x20_1 < (x5_2.length : Int) then (if 0 ≤ x33_2 then (if x33_2 < ((rd_L1 x5_2 x20_1).length : Int) then (spec_asStep.l1 kj21 a3 l4 (x5_2.set (x20_1 : Int).toNat ((rd_L1 x5_2 x20_1).set (x33_2 : Int).toNat x8_3)) x20_1 (y116.length : Int) x20_1 ((rd_L1 y122 x20_1).length : Int) (wrap64 (x33_2 + 1))) else (none)) else (none)) else (none)) else (none)) = some yy := by rw [if_neg (show ¬ (false = true) by decide)] at H; exact H
                                          clear H
                                          have H := H1
                                          clear H1
                                          by_cases c36 : 0 ≤ x20_1
                                          · rw [if_pos c36] at H
                                            have c36b0 : decide (0 ≤ x20_1) = true := decide_eq_true c36
                                            clear c36
                                            by_cases c37 : x20_1 < (x5_2.length : Int)
                                            · rw [if_pos c37] at H
                                              have c37b0 : decide (x20_1 < (x5_2.length : Int)) = true := decide_eq_true c37
                                              clear c37
                                              by_cases c38 : 0 ≤ x33_2
                                              · rw [if_pos c38] at H
                                                have c38b0 : decide (0 ≤ x33_2) = true := decide_eq_true c38
                                                clear c38
                                                by_cases c39 : x33_2 < ((rd_L1 x5_2 x20_1).length : Int)
                                                · rw [if_pos c39] at H
                                                  have c39b0 : decide (x33_2 < ((rd_L1 x5_2 x20_1).length : Int)) = true := decide_eq_true c39
                                                  clear c39
                                                  obtain ⟨y129, hy129⟩ : ∃ y_ : List Int, y_ = ((rd_L1 x5_2 x20_1).set (x33_2 : Int).toNat x8_3) := ⟨_, rfl⟩
                                                  replace H : (spec_asStep.l1 kj21 a3 l4 (x5_2.set (x20_1 : Int).toNat y129) x20_1 (y116.length : Int) x20_1 ((rd_L1 y122 x20_1).length : Int) (wrap64 (x33_2 + 1))) = some yy := by first | (rw [hy129]; with_reducible exact H) | (have H2_ := (Option.bind_some _ _).symm.trans H; rw [hy129]; with_reducible exact H2_) | (have H2_ := (Option.bind_some _ _).symm.trans H; with_reducible exact H2_) | with_reducible exact H | (rw [hy129]; exact H) | exact H
                                                  have Ny129 := Aside0.mk hy129
                                                  clear hy129
                                                  obtain ⟨y131, hy131⟩ : ∃ y_ : List (List Int), y_ = (x5_2.set (x20_1 : Int).toNat y129) := ⟨_, rfl⟩
                                                  replace H : (spec_asStep.l1 kj21 a3 l4 y131 x20_1 (y116.length : Int) x20_1 ((rd_L1 y122 x20_1).length : Int) (wrap64 (x33_2 + 1))) = some yy := by first | (rw [hy131]; with_reducible exact H) | (have H2_ := (Option.bind_some _ _).symm.trans H; rw [hy131]; with_reducible exact H2_) | (have H2_ := (Option.bind_some _ _).symm.trans H; with_reducible exact H2_) | with_reducible exact H | (rw [hy131]; exact H) | exact H
                                                  have Ny131 := Aside0.mk hy131
                                                  clear hy131
                                                  have H' := Aside0.mk H
                                                  clear H
                                                  have p128 : 0 ≤ (x20_1 : Int) := of_decide_eq_true (by first | (with_reducible assumption) | assumption)
                                                  have q128 : x20_1 < (x5_2.length : Int) := of_decide_eq_true (by first | (with_reducible assumption) | assumption)
                                                  obtain ⟨ad128, A128_0, c128_0, e128, hx128_0, hl128_0, hi128_0⟩ := at_L1 (Kd.S_reads' HO_5.out).2.2 x20_1 p128 q128
                                                  obtain rfl : (⟨go16, 0, none⟩ : Addr) = ad128 := (by injection e128)
                                                  obtain ⟨ce128, hce128, hMe128, hcc128⟩ := Kd.S_get HO_5.out [] x20_1 p128 (by first | exact q128 | exact of_decide_eq_true (by first | (with_reducible assumption) | assumption) | (have e_ := (Kd.S_reads' HO_5.out).1; omega))
                                                  obtain ⟨ve128_0, rfl, ge128_0⟩ := hMe128
                                                  have hv128_0 := hcc128 0 _ rfl
                                                  rw [Nat.add_zero, show ((Kd.slice 3 (Kd.int .i64))).sz = 1 from rfl, Nat.mul_one] at hv128_0
                                                  replace hv128_0 := Option.some.inj (hv128_0.symm.trans hx128_0)
                                                  rw [hv128_0] at ge128_0
                                                  have HL128_0 := Aside0.mk (show Kd.R (Kd.int .i64) 3 _ _ _ _ (rd_L1 x5_2 x20_1) from ge128_0)
                                                  clear hv128_0 ge128_0
                                                  have HX128_0 := Aside0.mk hx128_0
                                                  clear hcc128 hce128
                                                  (first | simp only [add_plain] at hx128_0 | simp only [add_at] at hx128_0 | simp only [Addr.add, Nat.zero_add] at hx128_0 | skip)
                                                  have HR128_0 := Aside0.mk hi128_0
                                                  have HC128_0 := Aside0.mk hl128_0
                                                  clear hi128_0 hl128_0
                                                  replace p128 := eq_true p128
                                                  replace q128 := eq_true q128
                                                  have p40 : 0 ≤ (x33_2 : Int) := of_decide_eq_true (by first | (with_reducible assumption) | assumption)
                                                  have q40 : (x33_2 : Int) < (((rd_L1 x5_2 x20_1).length : Int) : Int) := of_decide_eq_true (by first | (with_reducible assumption) | assumption)
                                                  obtain ⟨go40, co40, eo40, gb40, gl40, cl40, HG40⟩ := Kd.R_form HL128_0.out (by omega)
                                                  (first | cases eo40 | (injection eo40 with ea_ en_ ec_; (first | subst ea_ | (injection ea_ with ea_; subst ea_)); subst ec_; clear en_))
                                                  have GB40 := Aside0.mk gb40
                                                  have GG40 := Aside0.mk HG40
                                                  clear gb40 gl40 HG40
                                                  obtain ⟨hx40_0, hf40_0⟩ := Kd.R_celln 0 HL128_0.out (x33_2 : Int) p40 q40
                                                  replace p40 := eq_true p40
                                                  replace q40 := eq_true q40
                                                  have hq41 : (x20_1 : Int) < (x5_2.length : Int) := (by have h_ : (x20_1 : Int) < ((x5_2.length : Int) : Int) := of_decide_eq_true (by first | (with_reducible assumption) | assumption); first | exact h_ | (have e_ := (Kd.S_reads' HO_5.out).1; omega) | simpa only [List.length_set, List.length_set] using h_)
                                                  obtain ⟨oki41, ce41, hcl41, hM41, hcc41, hok41, hbk41⟩ := Kd.S_borrow HO_5.out [] (x20_1 : Int) (of_decide_eq_true (by first | (with_reducible assumption) | assumption)) hq41
                                                  obtain ⟨ve41_0, rfl, ge41_0⟩ := hM41
                                                  have hv41 := hcc41 0 _ rfl
                                                  rw [Nat.add_zero, show ((Kd.slice 3 (Kd.int .i64))).sz = 1 from rfl, Nat.mul_one] at hv41
                                                  replace hv41 := Option.some.inj (hv41.symm.trans HX128_0.out)
                                                  subst hv41
                                                  clear hcc41 hcl41
                                                  replace ge41_0 := (show Kd.R (Kd.int .i64) 3 _ _ _ _ (rd_L1 x5_2 x20_1) from ge41_0)
                                                  have HP41 := Kd.R_putg ge41_0 (x33_2 : Int) x8_3
                                                  go_wp2_with (first | ((with_reducible refine gate_store (t := 3) (p := 81) rfl ?_); refine store_event (t := 3) (p := 81) (v := ?vo_w42) (w1 := (wc.setCell ⟨go40, (x33_2 : Int).toNat, none⟩ (.int .i64 x8_3))) ?hg ?ho ?hn ?hr ?_; (case ho => rfl); (case hg => rfl); (case hn => rfl); (case hr => first | (go_simp; done) | (go_simp; rfl)); intro w42 hw; have hg : wc.grownBy w42 (some go40) := (by rw [hw]; exact HP41.2); have hz_ : Kd.R (Kd.int .i64) 3 w42 ww.heap.size oki41 (.slice (some ⟨go40, 0, none⟩) (rd_L1 x5_2 x20_1).length c128_0) y129 := (by rw [hw, Ny129.out]; exact HP41.1); have hp_ : Kd.S (Kd.slice 3 (Kd.int .i64)) 25 w42 ww.heap.size (fun _ => True) (.slice (some ⟨go16, 0, none⟩) x5_2.length co10) y131 := (by rw [Ny131.out]; exact hbk41 hg (fun k_ e_ => by injection e_ with e_; subst e_; exact ge41_0.1 _ rfl) (Kd.M_row hz_)); have hm_ := Kd.R_mono hz_ hok41; clear HP41 hbk41; have n0_ := Aside0.mk (hp_); have n1_ := Aside0.mk ((by rw [hw]; exact below_set (HB.out) GB40.out : Below ww.heap.size ww w42)); have n2_ := Aside0.mk (hm_); have n3_ := Aside0.mk ((Kd.R_reads' hm_).2.1); clear HO_5; clear HB; clear HL128_0; have HO_5 := n0_; have HB := n1_; have HL132 := n2_; have HC130 := n3_; clear n0_ n1_ n2_ n3_; clear hg hw hp_ hz_ hm_ hok41))
                                                  (try simp only [← hl5_2])
                                                  go_roundg kj21
                                                  case measure => have := HK1.out; have := HK2.out; have := HK3.out; have := HJ21.out; omega
                                                  case rel => exact ⟨(y131), (wrap64 (x33_2 + 1)), (by first | rfl | (simp; done) | (simp [*]; done)), H', ⟨by have := HK1.out; have := HK2.out; have := HK3.out; have := HJ21.out; omega⟩, ⟨by (try simp only [hl5_1]); (try simp only [hl5_2]); (with_reducible repeat (first | apply Kd.S_alloc | apply Kd.S_drewN | apply Kd.S_drew)); exact HO_5.out⟩, ⟨by repeat (first | (with_reducible first | exact HB.out | apply below_alloc | apply pw_below_drewN | apply below_drew1) | exact HB.out)⟩⟩
                                                · rw [if_neg c39] at H
                                                  exact absurd H (by simp)
                                              · rw [if_neg c38] at H
                                                exact absurd H (by simp)
                                            · rw [if_neg c37] at H
                                              exact absurd H (by simp)
                                          · rw [if_neg c36] at H
                                            exact absurd H (by simp)
                              · rw [if_neg c21] at H
                                have c21b0 : decide (x33_2 < ((rd_L1 y122 x20_1).length : Int)) = false := decide_eq_false c21
                                clear c21
                                have H' := Aside0.mk H
                                clear H
                                go_wp2
                                (try simp only [← hl5_1, ← hl5_2])
                                go_roundg k2
                                case measure => have := HK1.out; have := HK2.out; omega
                                case rel => exact ⟨(x5_2), (wrap64 (x20_1 + 1)), (by first | rfl | (simp; done) | (simp [*]; done)), H', ⟨by have := HK1.out; have := HK2.out; omega⟩, ⟨by (try simp only [hl5_1]); (try simp only [hl5_2]); (with_reducible repeat (first | apply Kd.S_alloc | apply Kd.S_drewN | apply Kd.S_drew)); exact HO_5.out⟩, ⟨by repeat (first | (with_reducible first | exact HB.out | apply below_alloc | apply pw_below_drewN | apply below_drew1) | exact HB.out)⟩⟩
                        · rw [if_neg c15] at H
                          exact absurd H (by simp)
                      · rw [if_neg c14] at H
                        exact absurd H (by simp)
                    · rw [if_neg c13] at H
                      exact absurd H (by simp)
                  · rw [if_neg c12] at H
                    exact absurd H (by simp)
                · rw [if_neg c11] at H
                  have c11b0 : decide (x20_1 < (y116.length : Int)) = false := decide_eq_false c11
                  try have c11b0l0 : decide (x20_1 < (x5_1.length : Int)) = false := by rw [← hl5_1]; exact c11b0
                  clear c11
                  obtain rfl := Option.some.inj H
                  go_wp2
                  go_roundg k0
                  case measure => have := HKW.out; omega
                  case rel => exact ⟨wrap64 (x0 - 1), _, rfl, HW', ⟨by have := HKW.out; omega⟩, ⟨Kd.S_lower HO_5.out HBW.out.size⟩, ⟨HBW.out.trans (HB.out.mono HBW.out.size)⟩⟩
          · rw [if_neg c7] at H
            exact absurd H (by simp)
        · rw [if_neg c6] at H
          exact absurd H (by simp)
      · rw [if_neg cw] at H
        have cwb0 : decide (0 < x0) = false := decide_eq_false cw
        clear cw
        obtain rfl := Option.some.inj H
        go_wp2
        go_ret
        exact ⟨_, rfl, HOW.out, HBW.out⟩


end Go.Proofs.Ythhnfeebacnibaa.Q
