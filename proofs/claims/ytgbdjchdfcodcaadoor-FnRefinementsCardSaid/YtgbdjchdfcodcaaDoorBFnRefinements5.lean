import Derived.Test.YtgbdjchdfcodcaaDoorBFnRefinements3
import Derived.Test.YtgbdjchdfcodcaaDoorBFnRefinements4
namespace Go.Proofs.YtgbdjchdfcodcaaDoor.Q
open Go.RowKit Go.Proofs.YtgbdjchdfcodcaaDoorW.PrintWords Go.Proofs.YtgbdjchdfcodcaaDoorW.PrintLast Go.Proofs.YtgbdjchdfcodcaaDoorW.PrintMore
attribute [local go_sem] max2_int min2_int max_two min_two max_three min_three max_four min_four neB_f
set_option linter.unusedVariables false
set_option maxHeartbeats 8000000
set_option maxRecDepth 100000
set_option linter.unusedSimpArgs false
def spec_orPlace.l0 : Nat → Int → List Int → Int → Int → Option (Int)
 | 0, _, _, _, _ => none
 | k + 1, x1, x7, x8, x9 => if x9 < x8 then (if 0 ≤ x9 then (if x9 < (x7.length : Int) then (if (rd x7 x9) = x1 then (some x9) else (spec_orPlace.l0 k x1 x7 x8 (wrap64 (x9 + 1)))) else (none)) else (none)) else (some (-1))
def spec_orPlace.f (k : Nat) (l0 : List Int) (a1 : Int) : Option (Int) := spec_orPlace.l0 k a1 l0 (l0.length : Int) 0
theorem spec_orPlace.mono_l : ∀ k, (∀ y0 y1 y2 y3, LeO (spec_orPlace.l0 k y0 y1 y2 y3) (spec_orPlace.l0 (k + 1) y0 y1 y2 y3))
 | 0 => fun _ _ _ _ r h => by simp [spec_orPlace.l0] at h
 | k + 1 => by
  have ih0 := spec_orPlace.mono_l k
  ·intro y0 y1 y2 y3
   unfold spec_orPlace.l0
   repeat' (with_reducible first|exact ih0 _ _ _ _|exact LeO.refl _|exact LeO.none _|refine LeO.ite ?_ ?_|refine LeO.bind ?_ (fun _ => ?_))
theorem spec_orPlace.mono : ∀ a0 a1 k, LeO (spec_orPlace.f k a0 a1) (spec_orPlace.f (k + 1) a0 a1) := by
 intro a0 a1 k
 have ih0 := spec_orPlace.mono_l k
 unfold spec_orPlace.f
 repeat' (with_reducible first|exact ih0 _ _ _ _|exact LeO.refl _|exact LeO.none _|refine LeO.ite ?_ ?_|refine LeO.bind ?_ (fun _ => ?_))
theorem spec_orPlace.calls (k : Nat) (A0 : Option Addr) (c0 : Nat) (l0 : List Int) (a1 : Int) (r : Int) (w : World) (hr0 : Kd.C (Kd.int .i64) w A0 l0.length l0) (hc0 : l0.length ≤ c0) (h : spec_orPlace.f k l0 a1 = some r) :
  Calls Tryd.prog 47 #[.slice A0 l0.length c0, .int .i64 a1] w fun e w' => e = .returned (.int .i64 r) ∧ Drawn0 w w' := by
 have HR0 := mkA hr0
 have HC0 := mkA hc0
 clear hr0 hc0
 have H := h
 clear h
 unfold spec_orPlace.f at H
 have H' := mkA H
 clear H
 go_enter Tryd.func47, Tryd.ntmps47
 go_wp2
 go_loopg [9] k (fun kq v9 w' => ∃ (x9_1 : Int), v9 = .int .i64 x9_1 ∧ Fc (spec_orPlace.l0 kq a1 l0 (l0.length : Int) x9_1 = some r) ∧ Fc (kq ≤ k) ∧ Drawn0 w w')
 case atStart => exact ⟨(0), eqS, H', ⟨Nat.le_refl _⟩, by repeat (first | exact Drawn0.refl _ | apply Drawn0.step)⟩
 case round =>
  clear H'
  obtain ⟨x9_1, rfl, HA, HK1, ⟨m1, rfl⟩⟩ := hrel
  cases gk with
  | zero => exact absurd HA.out (by simp [spec_orPlace.l0])
  | succ k1 =>
   have H := HA.out
   clear HA
   simp only [spec_orPlace.l0] at H
   rcases iteE H with ⟨c3b0, H⟩ | ⟨c3b0, H⟩
   ·obtain ⟨c4, H⟩ := itNP H
    have c4b0 : decide (0 ≤ x9_1) = true := decide_eq_true c4
    clear c4
    obtain ⟨c5, H⟩ := itNP H
    have c5b0 : decide (x9_1 < (l0.length : Int)) = true := decide_eq_true c5
    clear c5
    rcases iteP H with ⟨c6, H⟩ | ⟨c6, H⟩
    ·have c6b0 : ((rd l0 x9_1) == a1) = true := beq_iff_eq.mpr c6
     have c6b1 : ((rd l0 x9_1) != a1) = false := bne_eq_false_iff_eq.mpr c6
     clear c6
     obtain rfl := Option.some.inj H
     have p171 : 0 ≤ (x9_1 : Int) := ofd
     have q171 : x9_1 < (l0.length : Int) := ofd
     obtain ⟨ad171, e171, hx171_0⟩ := Kd.at_int HR0.out x9_1 p171 q171
     cases e171
     replace p171 := eq_true p171
     replace q171 := eq_true q171
     go_wp2
     go_ret
     exact ⟨by first | rfl | (simp; done) | (simp [*]; done), by repeat (first | exact Drawn0.refl _ | apply Drawn0.step)⟩
    ·have c6b0 : ((rd l0 x9_1) == a1) = false := beq_eq_false_iff_ne.mpr c6
     have c6b1 : ((rd l0 x9_1) != a1) = true := bne_iff_ne.mpr c6
     have H' := mkA H
     clear H
     have p171 : 0 ≤ (x9_1 : Int) := ofd
     have q171 : x9_1 < (l0.length : Int) := ofd
     obtain ⟨ad171, e171, hx171_0⟩ := Kd.at_int HR0.out x9_1 p171 q171
     cases e171
     replace p171 := eq_true p171
     replace q171 := eq_true q171
     go_wp2
     go_roundg k1
     case measure => have := HK1.out; omega
     case rel => exact ⟨(wrap64 (x9_1 + 1)), eqS, H', ⟨by have := HK1.out; omega⟩, by repeat (first | exact Drawn0.refl _ | apply Drawn0.step)⟩
   ·obtain rfl := Option.some.inj H
    go_wp2
    go_ret
    exact ⟨by first | rfl | (simp; done) | (simp [*]; done), by repeat (first | exact Drawn0.refl _ | apply Drawn0.step)⟩
mutual
def spec_weOfNumbers.l0 : Nat → List Int → List Int → List Int → Int → Int → Option (List Int)
 | 0, _, _, _, _, _ => none
 | k + 1, x0, x3, x9, x10, x11 => if x11 < x10 then (if 0 ≤ x11 then (if x11 < (x9.length : Int) then ((spec_l1Put.f k x3 (rd x9 x11)).bind fun t173 => (spec_weOfNumbers.l0 k x0 t173 x9 x10 (wrap64 (x11 + 1)))) else (none)) else (none)) else (spec_weOfNumbers.l1 k x3 ([] : List Int) x0 (x0.length : Int) 0)
def spec_weOfNumbers.l1 : Nat → List Int → List Int → List Int → Int → Int → Option (List Int)
 | 0, _, _, _, _, _ => none
 | k + 1, x3, x4, x19, x20, x21 => if x21 < x20 then (if 0 ≤ x21 then (if x21 < (x19.length : Int) then ((spec_orPlace.f k x3 (rd x19 x21)).bind fun t177 => (if x4.length < 17592186044416 then (spec_weOfNumbers.l1 k x3 (x4 ++ [t177]) x19 x20 (wrap64 (x21 + 1))) else (none))) else (none)) else (none)) else (some x4)
end
def spec_weOfNumbers.f (k : Nat) (l0 : List Int) : Option (List Int) := spec_weOfNumbers.l0 k l0 ([] : List Int) l0 (l0.length : Int) 0
theorem spec_weOfNumbers.mono_l : ∀ k, (∀ y0 y1 y2 y3 y4, LeO (spec_weOfNumbers.l0 k y0 y1 y2 y3 y4) (spec_weOfNumbers.l0 (k + 1) y0 y1 y2 y3 y4)) ∧ (∀ y0 y1 y2 y3 y4, LeO (spec_weOfNumbers.l1 k y0 y1 y2 y3 y4) (spec_weOfNumbers.l1 (k + 1) y0 y1 y2 y3 y4))
 | 0 => ⟨fun _ _ _ _ _ r h => by simp [spec_weOfNumbers.l0] at h, fun _ _ _ _ _ r h => by simp [spec_weOfNumbers.l1] at h⟩
 | k + 1 => by
  obtain ⟨ih0, ih1⟩ := spec_weOfNumbers.mono_l k
  refine ⟨?_, ?_⟩ <;> intros
  unfold spec_weOfNumbers.l0
  rotate_left
  unfold spec_weOfNumbers.l1
  rotate_left
  all_goals repeat' (with_reducible first|exact ih0 _ _ _ _ _|exact ih1 _ _ _ _ _|exact spec_l1Put.mono _ _ _|exact spec_orPlace.mono _ _ _|exact LeO.refl _|exact LeO.none _|refine LeO.ite ?_ ?_|refine LeO.bind ?_ (fun _ => ?_))
theorem spec_weOfNumbers.mono : ∀ a0 k, LeO (spec_weOfNumbers.f k a0) (spec_weOfNumbers.f (k + 1) a0) := by
 intro a0 k
 obtain ⟨ih0, ih1⟩ := spec_weOfNumbers.mono_l k
 unfold spec_weOfNumbers.f
 repeat' (with_reducible first|exact ih0 _ _ _ _ _|exact ih1 _ _ _ _ _|exact spec_l1Put.mono _ _ _|exact spec_orPlace.mono _ _ _|exact LeO.refl _|exact LeO.none _|refine LeO.ite ?_ ?_|refine LeO.bind ?_ (fun _ => ?_))
theorem spec_weOfNumbers.calls (k : Nat) (A0 : Option Addr) (c0 : Nat) (l0 : List Int) (r : List Int) (w : World) (hr0 : Kd.C (Kd.int .i64) w A0 l0.length l0) (hc0 : l0.length ≤ c0) (h : spec_weOfNumbers.f k l0 = some r) :
  Calls Tryd.prog 31 #[.slice A0 l0.length c0] w fun e w' => ∃ v0_ : Value, e = .returned (v0_) ∧ Kd.R (Kd.int .i64) 3 w' w.heap.size (fun _ => True) v0_ r ∧ Below w.heap.size w w' := by
 have HR0 := mkA hr0
 have HC0 := mkA hc0
 clear hr0 hc0
 have HB := mkA (Below.refl w.heap.size w)
 have H := h
 clear h
 unfold spec_weOfNumbers.f at H
 have H' := mkA H
 clear H
 go_enter Tryd.func31, Tryd.ntmps31
 go_wp2
 go_loopg [3, 11] k (fun kq v3 v11 w' => ∃ (x3_1 : List Int) (x11_1 : Int), v11 = .int .i64 x11_1 ∧ Fc (spec_weOfNumbers.l0 kq l0 x3_1 l0 (l0.length : Int) x11_1 = some r) ∧ Fc (kq ≤ k) ∧ Fc (Kd.R (Kd.int .i64) 3 w' w.heap.size (fun _ => True) v3 x3_1) ∧ Fc (Below w.heap.size w w'))
 case atStart => exact ⟨(([] : List Int)), (0), eqS, H', ⟨Nat.le_refl _⟩, ⟨by first | exact Kd.R_nil _ _ _ _ _ | exact Kd.N_nil _ _ _ _ _ | exact Kd.V_nil _ _ _ _ _ | exact Kd.Q_nil _ _ _ _ _ | exact Kd.S_nil _ _ _ _ _⟩, ⟨bel_g HB.out⟩⟩
 case round =>
  clear H'
  obtain ⟨x3_1, x11_1, rfl, HA, HK1, HO_3, HB⟩ := hrel
  cases gk with
  | zero => exact absurd HA.out (by simp [spec_weOfNumbers.l0])
  | succ k1 =>
   have H := HA.out
   clear HA
   simp only [spec_weOfNumbers.l0] at H
   rcases iteE H with ⟨c2b0, H⟩ | ⟨c2b0, H⟩
   ·obtain ⟨c3, H⟩ := itNP H
    have c3b0 : decide (0 ≤ x11_1) = true := decide_eq_true c3
    clear c3
    obtain ⟨c4, H⟩ := itNP H
    have c4b0 : decide (x11_1 < (l0.length : Int)) = true := decide_eq_true c4
    clear c4
    obtain ⟨t173, A5, H⟩ := obE H
    have H' := mkA H
    clear H
    have p172 : 0 ≤ (x11_1 : Int) := ofd
    have q172 : x11_1 < (l0.length : Int) := ofd
    obtain ⟨ad172, e172, hx172_0⟩ := Kd.at_int HR0.out x11_1 p172 q172
    cases e172
    replace hx172_0 := (HB.out.cell (World.block_lt_of_cell? w _ hx172_0)).trans hx172_0
    replace p172 := eq_true p172
    replace q172 := eq_true q172
    obtain ⟨Ao6, co6, eo6⟩ := Kd.R_slice HO_3.out
    subst eo6
    go_wp2_with (first | ((with_reducible refine gate_callee (f := 46) rfl ?_); refine goesQ (some 17) Tryd.func46 #[.slice Ao6 x3_1.length co6, .int .i64 (rd l0 x11_1)] ?_; (with_reducible refine (spec_l1Put.calls k1 (fun k_ => some k_ = (.slice Ao6 x3_1.length co6 : Value).ownBlock) (.slice Ao6 x3_1.length co6) x3_1 (rd l0 x11_1) t173 w _ ?s1 ?s2 A5.out).mono ?_); (case s1 => exact bel_g HB.out); (case s2 => exact Kd.R_tight rfl HO_3.out); rintro e w7 ⟨v174, rfl, ho0, hb, hkp⟩; refine ⟨_, rfl, ?_⟩; have HO175 := mkA (Kd.R_mono (ok' := fun k_ => True) ho0 (fun k_ hk_ => trivial)); replace HB := mkA (hb); clear HO_3; (try clear hb); (try clear hkp); (try clear ho0)))
    go_roundg k1
    case measure => have := HK1.out; omega
    case rel => exact ⟨(t173), (wrap64 (x11_1 + 1)), eqS, H', ⟨by have := HK1.out; omega⟩, ⟨Kd.R_g HO175.out⟩, ⟨bel_g HB.out⟩⟩
   ·have H' := mkA H
    clear H
    go_wp2
    go_loopg [4, 21] k1 (fun kq v4 v21 w' => ∃ (x4_2 : List Int) (x21_2 : Int), v21 = .int .i64 x21_2 ∧ Fc (spec_weOfNumbers.l1 kq x3_1 x4_2 l0 (l0.length : Int) x21_2 = some r) ∧ Fc (kq ≤ k1) ∧ Fc (Kd.R (Kd.int .i64) 3 w' w.heap.size (fun k_ => some k_ ≠ (v4 : Value).ownBlock) u3 x3_1) ∧ Fc (Kd.R (Kd.int .i64) 3 w' w.heap.size (fun k_ => some k_ ≠ (u3 : Value).ownBlock) v4 x4_2) ∧ Fc (Below w.heap.size w w'))
    case atStart => exact ⟨(([] : List Int)), (0), eqS, H', ⟨Nat.le_refl _⟩, ⟨Kd.R_g (Kd.R_mono HO_3.out (fun _ hk => (by simp [Value.ownBlock])))⟩, ⟨by first | exact Kd.R_nil _ _ _ _ _ | exact Kd.N_nil _ _ _ _ _ | exact Kd.V_nil _ _ _ _ _ | exact Kd.Q_nil _ _ _ _ _ | exact Kd.S_nil _ _ _ _ _⟩, ⟨bel_g HB.out⟩⟩
    case round =>
     clear H'
     try clear c2b0
     try clear c3
     try clear c3b0
     try clear c4
     try clear c4b0
     try clear hx172_0
     try clear p172
     try clear q172
     obtain ⟨x4_2, x21_2, rfl, HA, HK2, HO_3, HO_4, HB⟩ := hrel
     cases gk with
     | zero => exact absurd HA.out (by simp [spec_weOfNumbers.l1])
     | succ k2 =>
      have H := HA.out
      clear HA
      simp only [spec_weOfNumbers.l1] at H
      rcases iteE H with ⟨c8b0, H⟩ | ⟨c8b0, H⟩
      ·obtain ⟨c9, H⟩ := itNP H
       have c9b0 : decide (0 ≤ x21_2) = true := decide_eq_true c9
       clear c9
       obtain ⟨c10, H⟩ := itNP H
       have c10b0 : decide (x21_2 < (l0.length : Int)) = true := decide_eq_true c10
       clear c10
       obtain ⟨t177, A11, H⟩ := obE H
       obtain ⟨c12, H⟩ := itNP H
       have LMc12 := mkA c12
       clear c12
       obtain ⟨y178, hy178⟩ : ∃ y_ : List Int, y_ = (x4_2 ++ [t177]) := ⟨_, rfl⟩
       replace H : (spec_weOfNumbers.l1 k2 x3_1 y178 l0 (l0.length : Int) (wrap64 (x21_2 + 1))) = some r := by first | (rw [hy178]; with_reducible exact H) | (have H2_ := (Option.bind_some _ _).symm.trans H; rw [hy178]; with_reducible exact H2_) | (have H2_ := (Option.bind_some _ _).symm.trans H; with_reducible exact H2_) | with_reducible exact H | (rw [hy178]; exact H) | exact H
       have Ny178 := mkA hy178
       clear hy178
       have H' := mkA H
       clear H
       have p176 : 0 ≤ (x21_2 : Int) := ofd
       have q176 : x21_2 < (l0.length : Int) := ofd
       obtain ⟨ad176, e176, hx176_0⟩ := Kd.at_int HR0.out x21_2 p176 q176
       cases e176
       replace hx176_0 := (HB.out.cell (World.block_lt_of_cell? w _ hx176_0)).trans hx176_0
       replace p176 := eq_true p176
       replace q176 := eq_true q176
       obtain ⟨Ao13, co13, eo13⟩ := Kd.R_slice HO_3.out
       subst eo13
       go_wp2_with (first | ((with_reducible refine gate_callee (f := 47) rfl ?_); refine goesQ (some 28) Tryd.func47 #[.slice Ao13 x3_1.length co13, .int .i64 (rd l0 x21_2)] ?_; (with_reducible refine (spec_orPlace.calls k2 _ _ x3_1 (rd l0 x21_2) t177 _ ?s1 ?s2 A11.out).mono ?_); (case s1 => exact rC HO_3); (case s2 => exact rL HO_3); rintro e w' ⟨rfl, ⟨nd, rfl⟩⟩; refine ⟨_, rfl, ?_⟩) | ((with_reducible refine gate_builtin (b := .append) (xs := #[.tmp 25, .tmp 29]) rfl ?_); at_builtin; refine Kd.R_append (Kd.int .i64) (w0 := w) w.heap.size rfl (.tmp 25) (.tmp 29) 24 3 (.int .i64 0) 8 rfl Tryd.underlying24 info3 rfl (by decide) (by omega) u4 x4_2 t177 [.int .i64 t177] (fun k_ => some k_ ≠ (.slice Ao13 x3_1.length co13 : Value).ownBlock) (fun _ => False) rfl rfl ?aP (fun _ hk => hk.elim) ?aF ?aO ?aB ?aS ?aL ?_; (case aP => exact rfl); (case aB => exact (bel_g HB.out)); (case aF => exact (fun k_ hk => Kd.fresh' (Kd.R_lt (Kd.R_g HO_3.out)) k_ hk)); (case aO => exact (Kd.R_g HO_4.out)); (case aS => exact (below_size (bel_g HB.out))); (case aL => have := LMc12.out; omega); intro v179 w14 ho hb hg hat; rw [← Ny178.out] at ho; replace HO_3 := mkA (Kd.R_after (ok := (fun _ => True)) (Kd.R_g (Kd.R_mono HO_3.out (fun _ hk => ⟨trivial, hk⟩))) hg hat); have HO180 := mkA (ho); replace HB := mkA (hb); clear HO_4; clear ho hb hg hat))
       go_roundg k2
       case measure => have := HK1.out; have := HK2.out; omega
       case rel => exact ⟨(y178), (wrap64 (x21_2 + 1)), eqS, H', ⟨by have := HK1.out; have := HK2.out; omega⟩, ⟨Kd.R_g (Kd.R_mono HO_3.out (fun _ hk => hk.2))⟩, ⟨Kd.R_g HO180.out⟩, ⟨bel_g HB.out⟩⟩
      ·obtain rfl := Option.some.inj H
       go_wp2
       go_ret
       exact ⟨_, eqE, by (with_reducible repeat (first | apply Kd.R_alloc | apply Kd.R_drewN | apply Kd.R_drew)); exact Kd.R_mono HO_4.out (fun _ hk => trivial), bel_g HB.out⟩
def spec_l1Cur_among.f (s0_0 : List Int) (s0_1 : Int) (s0_2 : Int) (l1 : List Int) : Option (Int × Int × Int) := (spec_l1Cur_pick.f s0_0 s0_1 s0_2 (l1.length : Int)).bind fun bt181 => (if 0 ≤ bt181.1 then (if bt181.1 < (l1.length : Int) then (some (rd l1 bt181.1, bt181.2.1, bt181.2.2)) else (none)) else (none))
theorem spec_l1Cur_among.calls (g : Nat) (s0_0 : List Int) (s0_1 : Int) (s0_2 : Int) (A1 : Option Addr) (c1 : Nat) (l1 : List Int) (r1 : Int) (r2 : Int) (r3 : Int) (w0 w : World) (hI : IsS47 w0 w g s0_0 s0_1 s0_2) (hB : Below w0.heap.size w0 w) (hr1 : Kd.C (Kd.int .i64) w A1 l1.length l1) (hc1 : l1.length ≤ c1) (hf1 : ∀ ad, A1 = some ad → 0 < l1.length → ad.block ≠ g) (h : spec_l1Cur_among.f s0_0 s0_1 s0_2 l1 = some (r1, r2, r3)) :
  Calls Tryd.prog 40 #[.pointer (some ⟨g, 0, none⟩), .slice A1 l1.length c1] w fun e w' => e = .returned (.int .i64 r1) ∧ IsS47 w0 w' g s0_0 r2 r3 ∧ Below w0.heap.size w0 w' ∧ KeepBut w w' g none := by
 have HR1 := mkA hr1
 have HC1 := mkA hc1
 clear hr1 hc1
 have HI0 := mkA hI
 have HK := mkA (KeepBut.refl w g none)
 have HL := mkA hB.size
 clear hI
 have HW0 := mkA hB.size
 have HB := mkA hB
 clear hB
 have H := h
 clear h
 unfold spec_l1Cur_among.f at H
 obtain ⟨⟨t181, t182, t183⟩, A3, H⟩ := obE H
 dsimp only at H
 obtain ⟨c4, H⟩ := itNP H
 have c4b0 : decide (0 ≤ t181) = true := decide_eq_true c4
 clear c4
 obtain ⟨c5, H⟩ := itNP H
 have c5b0 : decide (t181 < (l1.length : Int)) = true := decide_eq_true c5
 clear c5
 simp only [Option.some.injEq, Prod.mk.injEq] at H
 obtain ⟨rfl, rfl, rfl⟩ := H
 go_enter Tryd.func40, Tryd.ntmps40
 go_wp2_with (first | ((with_reducible refine gate_callee (f := 41) rfl ?_); refine goesQ (some 9) Tryd.func41 #[.pointer (some ⟨g, 0, none⟩), .int .i64 (l1.length : Int)] ?_; (with_reducible refine (spec_l1Cur_pick.calls g s0_0 s0_1 s0_2 (l1.length : Int) t181 t182 t183 w0 _ ?s1 ?s2 A3.out).mono ?_); (case s1 => exact st47_0 HI0.out); (case s2 => exact bl47_0 HB.out HI0.out); rintro e w6 ⟨rfl, hi, hb, hk⟩; refine ⟨_, rfl, ?_⟩; replace HK := kT (by exact kb47_0 HK.out) hk; replace HI0 := mkA (hi); replace HB := mkA (hb); (try clear hb); (try clear hk); (try clear hi); have p184 : 0 ≤ (t181 : Int) := ofd; have q184 : t181 < (l1.length : Int) := ofd; obtain ⟨ad184, e184, hx184_0⟩ := Kd.at_int HR1.out t181 p184 q184; cases e184; replace hx184_0 := keep_cell HK.out hx184_0 (by first | (rw [add_block]; exact hf1 _ rfl (by omega)) | exact hf1 _ rfl (by omega) | exact hf1 ad184 rfl (by omega)); replace p184 := eq_true p184; replace q184 := eq_true q184))
 go_ret
 exact ⟨eqE, by exact st47_0 HI0.out, by exact bl47_0 HB.out HI0.out, by exact kb47_0 HK.out⟩
end Go.Proofs.YtgbdjchdfcodcaaDoor.Q
