import Derived.Test.YtmdnbjhboppkdaaDoorBFnMajorities4
namespace Go.Proofs.YtmdnbjhboppkdaaDoor.Q
open Go.RowKit Go.Proofs.YtmdnbjhboppkdaaDoorW.PrintWords Go.Proofs.YtmdnbjhboppkdaaDoorW.PrintLast Go.Proofs.YtmdnbjhboppkdaaDoorW.PrintMore
attribute [local go_sem] max2_int min2_int max_two min_two max_three min_three max_four min_four neB_f
set_option linter.unusedVariables false
set_option maxHeartbeats 8000000
set_option maxRecDepth 100000
set_option linter.unusedSimpArgs false
mutual
def spec_l1Cur_voters.l0 : Nat → Int → List (List Int) → Int → List Int → Int → Int → Option ((List (List Int)) × Int × Int)
 | 0, _, _, _, _, _, _ => none
 | k + 1, x3, x4, x5, x1000, x1001, x1002 => if x5 > 0 then ((spec_l1Cur_levels.f k x1000 x1001 x1002 x3).bind fun bt210 => (if x4.length < 5864062014805 then (spec_l1Cur_voters.l0 k x3 (x4 ++ [bt210.1]) (wrap64 (x5 - 1)) x1000 bt210.2.1 bt210.2.2) else (none))) else (if (x4.length : Int) > 0 then ((spec_l1Cur_one.f x1000 x1001 x1002 15).bind fun bt218 => (spec_l1Cur_voters.j1 k x4 bt218.1 x1000 bt218.2.1 bt218.2.2)) else (spec_l1Cur_voters.j1 k x4 false x1000 x1001 x1002))
def spec_l1Cur_voters.j1 : Nat → List (List Int) → Bool → List Int → Int → Int → Option ((List (List Int)) × Int × Int)
 | 0, _, _, _, _, _ => none
 | k + 1, x4, x27, x1000, x1001, x1002 => if x27 = true then ((spec_l1Cur_pick.f x1000 x1001 x1002 (x4.length : Int)).bind fun bt221 => ((spec_l1Cur_elements.f x1000 bt221.2.1 bt221.2.2).bind fun bt224 => ((spec_l1Cur_levels.f k x1000 bt224.2.1 bt224.2.2 bt224.1).bind fun bt227 => (if 0 ≤ bt221.1 then (if bt221.1 < (x4.length : Int) then (some ((x4.set (bt221.1 : Int).toNat bt227.1), bt227.2.1, bt227.2.2)) else (none)) else (none))))) else (some (x4, x1001, x1002))
end
def spec_l1Cur_voters.f (k : Nat) (s0_0 : List Int) (s0_1 : Int) (s0_2 : Int) : Option ((List (List Int)) × Int × Int) := (spec_l1Cur_elements.f s0_0 s0_1 s0_2).bind fun bt201 => ((spec_l1Cur_among.f s0_0 bt201.2.1 bt201.2.2 (([1, 2, 3, 3, 5, 15, 16, 0] : List Int))).bind fun bt207 => (spec_l1Cur_voters.l0 k bt201.1 ([] : List (List Int)) bt207.1 s0_0 bt207.2.1 bt207.2.2))
theorem spec_l1Cur_voters.mono_l : ∀ k, (∀ y0 y1 y2 y3 y4 y5, LeO (spec_l1Cur_voters.l0 k y0 y1 y2 y3 y4 y5) (spec_l1Cur_voters.l0 (k + 1) y0 y1 y2 y3 y4 y5)) ∧ (∀ y0 y1 y2 y3 y4, LeO (spec_l1Cur_voters.j1 k y0 y1 y2 y3 y4) (spec_l1Cur_voters.j1 (k + 1) y0 y1 y2 y3 y4))
 | 0 => ⟨fun _ _ _ _ _ _ r h => by simp [spec_l1Cur_voters.l0] at h, fun _ _ _ _ _ r h => by simp [spec_l1Cur_voters.j1] at h⟩
 | k + 1 => by
  obtain ⟨ih0, ih1⟩ := spec_l1Cur_voters.mono_l k
  refine ⟨?_, ?_⟩ <;> intros
  unfold spec_l1Cur_voters.l0
  rotate_left
  unfold spec_l1Cur_voters.j1
  rotate_left
  all_goals repeat' (with_reducible first|apply ih0|apply ih1|apply spec_l1Cur_levels.mono|apply LeO.refl|apply LeO.none|apply LeO.ite|apply LeO.bind|intro)
theorem spec_l1Cur_voters.mono : ∀ a0 a1 a2 k, LeO (spec_l1Cur_voters.f k a0 a1 a2) (spec_l1Cur_voters.f (k + 1) a0 a1 a2) := by
 intro a0 a1 a2 k
 obtain ⟨ih0, ih1⟩ := spec_l1Cur_voters.mono_l k
 unfold spec_l1Cur_voters.f
 repeat' (with_reducible first|apply ih0|apply ih1|apply spec_l1Cur_levels.mono|apply LeO.refl|apply LeO.none|apply LeO.ite|apply LeO.bind|intro)
theorem spec_l1Cur_voters.calls (k : Nat) (g : Nat) (s0_0 : List Int) (s0_1 : Int) (s0_2 : Int) (r1 : List (List Int)) (r2 : Int) (r3 : Int) (w0 w : World) (hI : IsS46 w0 w g s0_0 s0_1 s0_2) (hB : Below w0.heap.size w0 w) (h : spec_l1Cur_voters.f k s0_0 s0_1 s0_2 = some (r1, r2, r3)) :
  Calls Tryd.prog 18 #[.pointer (some ⟨g, 0, none⟩)] w fun e w' => ∃ v0_ : Value, e = .returned (v0_) ∧ Kd.S (Kd.slice 3 (Kd.int .i64)) 26 w' w.heap.size (fun _ => True) v0_ r1 ∧ IsS46 w0 w' g s0_0 r2 r3 ∧ Below w0.heap.size w0 w' ∧ KeepBut w w' g none := by
 have HI0 := mkA hI
 have HK := mkA (KeepBut.refl w g none)
 have HL := mkA hB.size
 clear hI
 have HW0 := mkA hB.size
 have HB := mkA hB
 clear hB
 have H := h
 clear h
 unfold spec_l1Cur_voters.f at H
 obtain ⟨⟨t201, t202, t203⟩, A2, H⟩ := obE H
 dsimp only at H
 obtain ⟨y204, hy204⟩ : ∃ y_ : List Int, y_ = (([1, 2, 3, 3, 5, 15, 16, 0] : List Int)) := ⟨_, rfl⟩
 rw [← hy204] at H
 have Ny204 := mkA hy204
 clear hy204
 obtain ⟨⟨t207, t208, t209⟩, A3, H⟩ := obE H
 dsimp only at H
 have H' := mkA H
 clear H
 go_enter Tryd.func18, Tryd.ntmps18
 go_wp2_with (first | ((with_reducible refine gate_callee (f := 37) rfl ?_); refine goesQ (some 7) Tryd.func37 #[.pointer (some ⟨g, 0, none⟩)] ?_; (with_reducible refine (spec_l1Cur_elements.calls g s0_0 s0_1 s0_2 t201 t202 t203 w0 _ ?_ ?_ A2.out).mono ?_); exact st46_0 HI0.out; exact bl46_0 HB.out HI0.out; rintro e w4 ⟨rfl, hi, hb, hk⟩; refine ⟨_, rfl, ?_⟩; replace HK := kT (by exact kb46_0 HK.out) hk; replace HI0 := mkA (hi); replace HB := mkA (hb); clear hb hk hi) | ((with_reducible refine gate_dst (N := 9) rfl ?_); refine litE (Kd.int .i64) 3 ([1, 2, 3, 3, 5, 15, 16, 0] : List Int) [.int .i64 1, .int .i64 2, .int .i64 3, .int .i64 3, .int .i64 5, .int .i64 15, .int .i64 16, .int .i64 0] ?hp ?_; (case hp => exact (Reps.one (show Kd.M (Kd.int .i64) _ _ _ 1 [.int .i64 1] from rfl) (Reps.one (show Kd.M (Kd.int .i64) _ _ _ 2 [.int .i64 2] from rfl) (Reps.one (show Kd.M (Kd.int .i64) _ _ _ 3 [.int .i64 3] from rfl) (Reps.one (show Kd.M (Kd.int .i64) _ _ _ 3 [.int .i64 3] from rfl) (Reps.one (show Kd.M (Kd.int .i64) _ _ _ 5 [.int .i64 5] from rfl) (Reps.one (show Kd.M (Kd.int .i64) _ _ _ 15 [.int .i64 15] from rfl) (Reps.one (show Kd.M (Kd.int .i64) _ _ _ 16 [.int .i64 16] from rfl) (Reps.one (show Kd.M (Kd.int .i64) _ _ _ 0 [.int .i64 0] from rfl) (Reps.none _ _)))))))))); intro v205 w5 ho6 hb hg_ hnew_; clear hg_ hnew_; (first | rw [← Ny204.out] at ho6 | (simp only [Int.reduceToNat] at ho6; rw [← Ny204.out] at ho6)); have HO206 := mkA (Kd.R_lower ho6 (keep_size (w := w) (g := g) (row := none) (by exact kb46_0 HK.out))); replace HK := kU (g := g) (by exact kb46_0 HK.out) hb; replace HB := mkA (below_step (by exact bl46_0 HB.out HI0.out) hb); replace HI0 := mkA (IsS46.below (by exact st46_0 HI0.out) hb); clear hb ho6; obtain ⟨Ao7, co7, rfl⟩ := Kd.R_slice HO206.out) | ((with_reducible refine gate_callee (f := 38) rfl ?_); refine goesQ (some 10) Tryd.func38 #[.pointer (some ⟨g, 0, none⟩), .slice Ao7 y204.length co7] ?_; (with_reducible refine (spec_l1Cur_among.calls g s0_0 t202 t203 _ _ y204 t207 t208 t209 w0 _ ?_ ?_ ?_ ?_ ?_ A3.out).mono ?_); exact st46_0 HI0.out; exact bl46_0 HB.out HI0.out; exact rC HO206; exact rL HO206; exact far_slice (IsS46.own_ne HI0.out HO206.out (by decide)); rintro e w8 ⟨rfl, hi, hb, hk⟩; refine ⟨_, rfl, ?_⟩; replace HO206 := rK (IsS46.apart (show IsS46 w0 _ g s0_0 t202 t203 from by exact st46_0 HI0.out) (Kd.R_g HO206.out) (by decide)) hk; replace HK := kT (by exact kb46_0 HK.out) hk; replace HI0 := mkA (hi); replace HB := mkA (hb); clear hb hk hi))
 go_loopg [4, 5] k (fun kq v4 v5 w' => ∃ (x4_1 : List (List Int)) (x5_1 : Int) (x1001_1 : Int) (x1002_1 : Int), v5 = .int .i64 x5_1 ∧ Fc (spec_l1Cur_voters.l0 kq t201 x4_1 x5_1 s0_0 x1001_1 x1002_1 = some (r1, r2, r3)) ∧ Fc (kq ≤ k) ∧ Fc (Kd.S (Kd.slice 3 (Kd.int .i64)) 26 w' w.heap.size (fun _ => True) v4 x4_1) ∧ Fc (IsS46 w0 w' g s0_0 x1001_1 x1002_1) ∧ Fc (KeepBut w w' g none) ∧ Fc (Below w0.heap.size w0 w'))
 case atStart => exact ⟨(([] : List (List Int))), (t207), (t208), (t209), eqS, H', ⟨Nat.le_refl _⟩, ⟨by first | exact Kd.S_nil _ _ _ _ _ | exact Kd.N_nil _ _ _ _ _ | exact Kd.V_nil _ _ _ _ _ | exact Kd.Q_nil _ _ _ _ _ | exact Kd.R_nil _ _ _ _ _⟩, ⟨by exact st46_0 HI0.out⟩, ⟨by exact kb46_0 HK.out⟩, ⟨by exact bl46_0 HB.out HI0.out⟩⟩
 case round =>
  clear H'
  obtain ⟨x4_1, x5_1, x1001_1, x1002_1, rfl, HA, HK1, HO_4, HI0, HK, HB⟩ := hrel
  cases gk with
  | zero => exact absurd HA.out (by simp [spec_l1Cur_voters.l0])
  | succ k1 =>
   have H := HA.out
   clear HA
   simp only [spec_l1Cur_voters.l0] at H
   rcases iteP H with ⟨c9, H⟩ | ⟨c9, H⟩
   ·have c9b0 := decide_eq_true c9
    clear c9
    obtain ⟨⟨t210, t213, t214⟩, A10, H⟩ := obE H
    dsimp only at H
    obtain ⟨c11, H⟩ := itNP H
    have LMc11 := mkA c11
    clear c11
    obtain ⟨y215, hy215⟩ : ∃ y_ : List (List Int), y_ = (x4_1 ++ [t210]) := ⟨_, rfl⟩
    rw [← hy215] at H
    have Ny215 := mkA hy215
    clear hy215
    have H' := mkA H
    clear H
    go_wp2_with (first | ((with_reducible refine gate_callee (f := 39) rfl ?_); refine goesQ (some 18) Tryd.func39 #[.pointer (some ⟨g, 0, none⟩), .int .i64 t201] ?_; (with_reducible refine (spec_l1Cur_levels.calls k1 g s0_0 x1001_1 x1002_1 t201 t210 t213 t214 w0 _ ?_ ?_ A10.out).mono ?_); exact st46_0 HI0.out; exact bl46_0 HB.out HI0.out; rintro e w12 ⟨v211, rfl, ho0, hi, hb, hk⟩; refine ⟨_, rfl, ?_⟩; replace HO_4 := mkA (Kd.S_mono (Kd.S_told (Kd.S_oldK (IsS46.apartS (show IsS46 w0 _ g s0_0 x1001_1 x1002_1 from by exact st46_0 HI0.out) (by (with_reducible repeat (first | apply Kd.S_alloc | apply Kd.S_drewN | apply Kd.S_drew)); exact HO_4.out) (by decide)) hk) (Kd.R_base ho0)) (fun _ h_ => h_.1)); have HO212 := mkA (Kd.R_lower ho0 (keep_size (w := w) (g := g) (row := none) (by exact kb46_0 HK.out))); replace HK := kT (by exact kb46_0 HK.out) hk; replace HI0 := mkA (hi); replace HB := mkA (hb); (try clear hb); (try clear hk); (try clear hi); (try clear ho0); obtain ⟨Ao14, co14, rfl⟩ := Kd.R_slice HO212.out) | ((with_reducible refine gate_builtin (b := .append) (xs := #[.tmp 15, .tmp 19]) rfl ?_); at_builtin; refine Kd.S_append (Kd.slice 3 (Kd.int .i64)) w.heap.size rfl (.tmp 15) (.tmp 19) 24 26 (.slice none 0 0) 24 rfl Tryd.underlying24 info26 rfl (by decide) (by omega) u4 x4_1 t210 [.slice Ao14 t210.length co14] (fun _ => True) (fun k_ => some k_ = (.slice Ao14 t210.length co14 : Value).ownBlock) rfl rfl ?aP (fun k_ hk_ => ((Kd.R_mono (ok' := fun k_ => ((fun _ => True)) k_ ∧ some k_ ≠ (u4 : Value).ownBlock) (Kd.R_apart' (HO212.out) (Kd.S_typed HO_4.out) (by decide)) (fun k_ hk => ⟨trivial, hk.2⟩))).1 k_ hk_.symm) ?aF ?aO (Below.refl _ _) ?aS ?aL ?_; (case aP => exact Kd.M_row (Kd.R_mono (Kd.R_tight rfl (Kd.R_mono (ok' := fun k_ => ((fun _ => True)) k_ ∧ some k_ ≠ (u4 : Value).ownBlock) (Kd.R_apart' (HO212.out) (Kd.S_typed HO_4.out) (by decide)) (fun k_ hk => ⟨trivial, hk.2⟩))) (fun _ h_ => h_))); (case aF => exact (fun _ _ => trivial)); (case aO => exact (by (with_reducible repeat (first | apply Kd.S_alloc | apply Kd.S_drewN | apply Kd.S_drew)); exact Kd.S_mono HO_4.out (fun k_ hk => ⟨trivial, fun e_ => hk.2 e_⟩))); (case aS => exact (keep_size (w := w) (g := g) (row := none) (by exact kb46_0 HK.out))); (case aL => have := LMc11.out; omega); intro v216 w13 ho hb hg hat; rw [← Ny215.out] at ho; replace HK := mkA (KeepBut.trans (by exact kb46_0 HK.out) (KeepBut.of_grown hg g) (Kd.S_base2 HO_4.out)); have HO217 := mkA (ho); replace HB := mkA (below_weaken (by exact bl46_0 HB.out HI0.out) HL.out hb); replace HI0 := mkA (IsS46.grown (by exact st46_0 HI0.out) hg (IsS46.own_neS HI0.out HO_4.out (by decide))); clear HO_4 HO212; clear ho hb hg hat))
    go_roundg k1
    case measure => have := HK1.out; omega
    case rel => exact ⟨(y215), (wrap64 (x5_1 - 1)), (t213), (t214), eqS, H', ⟨by have := HK1.out; omega⟩, ⟨by (with_reducible repeat (first | apply Kd.S_alloc | apply Kd.S_drewN | apply Kd.S_drew)); exact HO217.out⟩, ⟨by exact st46_0 HI0.out⟩, ⟨by exact kb46_0 HK.out⟩, ⟨by exact bl46_0 HB.out HI0.out⟩⟩
   ·have c9b0 := decide_eq_false c9
    clear c9
    have HC15 := mkA H
    clear H
    go_upto_region 7 with (fail)
    go_cut [27] (fun v27 wc => ∃ (kq : Nat) (x27_14 : Bool) (x1001_14 : Int) (x1002_14 : Int), v27 = .bool x27_14 ∧ Fc (spec_l1Cur_voters.j1 kq x4_1 x27_14 s0_0 x1001_14 x1002_14 = some (r1, r2, r3)) ∧ Fc (kq ≤ k1) ∧ Fc (Kd.S (Kd.slice 3 (Kd.int .i64)) 26 wc w.heap.size (fun _ => True) u4 x4_1) ∧ Fc (IsS46 w0 wc g s0_0 x1001_14 x1002_14) ∧ Fc (KeepBut w wc g none) ∧ Fc (Below w0.heap.size w0 wc))
    case first =>
     have H := HC15.out
     clear HC15
     rcases iteP H with ⟨c16, H⟩ | ⟨c16, H⟩
     ·have c16b0 := decide_eq_true c16
      have c16b1 : decide (0 < x4_1.length) = true := decide_eq_true (by omega)
      clear c16
      (first | rw [c16b0] | (simp only [i64_w, i32_w]; rw [c16b0]) | skip)
      obtain ⟨⟨t218, t219, t220⟩, A17, H⟩ := obE H
      dsimp only at H
      have H' := mkA H
      clear H
      obtain ⟨Ao18, co18, rfl⟩ := Kd.S_slice HO_4.out
      go_wp2_with (first | (go_at_call 40; (with_reducible refine (spec_l1Cur_one.calls g s0_0 x1001_1 x1002_1 15 t218 t219 t220 w0 _ ?_ ?_ A17.out).mono ?_); exact st46_0 HI0.out; exact bl46_0 HB.out HI0.out; rintro e w19 ⟨rfl, hi, hb, hk⟩; replace HO_4 := mkA (Kd.S_mono (Kd.S_keep (IsS46.apartS (show IsS46 w0 _ g s0_0 x1001_1 x1002_1 from by exact st46_0 HI0.out) (by (with_reducible repeat (first | apply Kd.S_alloc | apply Kd.S_drewN | apply Kd.S_drew)); exact HO_4.out) (by decide)) hk (fun _ h => h.2)) (fun _ h => h.1)); replace HK := kT (by exact kb46_0 HK.out) hk; replace HI0 := mkA (hi); replace HB := mkA (hb); (try clear hb); (try clear hk); (try clear hi)))
      go_meet
      case rel => exact ⟨_, (t218), (t219), (t220), eqS, H', ⟨by have := HK1.out; first | omega | exact Nat.le_refl _⟩, ⟨by (with_reducible repeat (first | apply Kd.S_alloc | apply Kd.S_drewN | apply Kd.S_drew)); exact HO_4.out⟩, ⟨by exact st46_0 HI0.out⟩, ⟨by exact kb46_0 HK.out⟩, ⟨by exact bl46_0 HB.out HI0.out⟩⟩
     ·have c16b0 := decide_eq_false c16
      have c16b1 : decide (0 < x4_1.length) = false := decide_eq_false (by omega)
      clear c16
      (first | rw [c16b0] | (simp only [i64_w, i32_w]; rw [c16b0]) | skip)
      have H' := mkA H
      clear H
      obtain ⟨Ao20, co20, rfl⟩ := Kd.S_slice HO_4.out
      go_wp2
      go_meet
      case rel => exact ⟨_, (false), (x1001_1), (x1002_1), eqS, H', ⟨by have := HK1.out; first | omega | exact Nat.le_refl _⟩, ⟨by (with_reducible repeat (first | apply Kd.S_alloc | apply Kd.S_drewN | apply Kd.S_drew)); exact HO_4.out⟩, ⟨by exact st46_0 HI0.out⟩, ⟨by exact kb46_0 HK.out⟩, ⟨by exact bl46_0 HB.out HI0.out⟩⟩
    case rest =>
     clear HC15
     try clear c9
     try clear c9b0
     try clear c11
     try clear c16
     try clear c16b0
     try clear c16b1
     obtain ⟨kq, x27_14, x1001_14, x1002_14, rfl, HA, HJ14, HO_4, HI0, HK, HB⟩ := hcut
     cases kq with
     | zero => exact absurd HA.out (by simp [spec_l1Cur_voters.j1])
     | succ kj14 =>
      have H := HA.out
      clear HA
      simp only [spec_l1Cur_voters.j1] at H
      by_cases c21 : x27_14 = true
      ·subst c21
       replace H := ifT H
       obtain ⟨⟨t221, t222, t223⟩, A22, H⟩ := obE H
       dsimp only at H
       obtain ⟨⟨t224, t225, t226⟩, A23, H⟩ := obE H
       dsimp only at H
       obtain ⟨⟨t227, t230, t231⟩, A24, H⟩ := obE H
       dsimp only at H
       obtain ⟨c25b0, H⟩ := itND H
       obtain ⟨c26b0, H⟩ := itND H
       obtain ⟨y232, hy232⟩ : ∃ y_ : List (List Int), y_ = (x4_1.set (t221 : Int).toNat t227) := ⟨_, rfl⟩
       rw [← hy232] at H
       have Ny232 := mkA hy232
       clear hy232
       simp only [Option.some.injEq, Prod.mk.injEq] at H
       obtain ⟨rfl, rfl, rfl⟩ := H
       obtain ⟨Ao28, co28, rfl⟩ := Kd.S_slice HO_4.out
       go_wp2_with (first | ((with_reducible refine gate_callee (f := 41) rfl ?_); refine goesQ (some 32) Tryd.func41 #[.pointer (some ⟨g, 0, none⟩), .int .i64 (x4_1.length : Int)] ?_; (with_reducible refine (spec_l1Cur_pick.calls g s0_0 x1001_14 x1002_14 (x4_1.length : Int) t221 t222 t223 w0 _ ?_ ?_ A22.out).mono ?_); exact st46_0 HI0.out; exact bl46_0 HB.out HI0.out; rintro e w29 ⟨rfl, hi, hb, hk⟩; refine ⟨_, rfl, ?_⟩; replace HO_4 := mkA (Kd.S_mono (Kd.S_keep (IsS46.apartS (show IsS46 w0 _ g s0_0 x1001_14 x1002_14 from by exact st46_0 HI0.out) (by (with_reducible repeat (first | apply Kd.S_alloc | apply Kd.S_drewN | apply Kd.S_drew)); exact HO_4.out) (by decide)) hk (fun _ h => h.2)) (fun _ h => h.1)); replace HK := kT (by exact kb46_0 HK.out) hk; replace HI0 := mkA (hi); replace HB := mkA (hb); (try clear hb); (try clear hk); (try clear hi)) | ((with_reducible refine gate_callee (f := 37) rfl ?_); refine goesQ (some 35) Tryd.func37 #[.pointer (some ⟨g, 0, none⟩)] ?_; (with_reducible refine (spec_l1Cur_elements.calls g s0_0 t222 t223 t224 t225 t226 w0 _ ?_ ?_ A23.out).mono ?_); exact st46_0 HI0.out; exact bl46_0 HB.out HI0.out; rintro e w30 ⟨rfl, hi, hb, hk⟩; refine ⟨_, rfl, ?_⟩; replace HO_4 := mkA (Kd.S_mono (Kd.S_keep (IsS46.apartS (show IsS46 w0 _ g s0_0 t222 t223 from by exact st46_0 HI0.out) (by (with_reducible repeat (first | apply Kd.S_alloc | apply Kd.S_drewN | apply Kd.S_drew)); exact HO_4.out) (by decide)) hk (fun _ h => h.2)) (fun _ h => h.1)); replace HK := kT (by exact kb46_0 HK.out) hk; replace HI0 := mkA (hi); replace HB := mkA (hb); (try clear hb); (try clear hk); (try clear hi)) | ((with_reducible refine gate_callee (f := 39) rfl ?_); refine goesQ (some 36) Tryd.func39 #[.pointer (some ⟨g, 0, none⟩), .int .i64 t224] ?_; (with_reducible refine (spec_l1Cur_levels.calls kj14 g s0_0 t225 t226 t224 t227 t230 t231 w0 _ ?_ ?_ A24.out).mono ?_); exact st46_0 HI0.out; exact bl46_0 HB.out HI0.out; rintro e w31 ⟨v228, rfl, ho0, hi, hb, hk⟩; refine ⟨_, rfl, ?_⟩; replace HO_4 := mkA (Kd.S_mono (Kd.S_told (Kd.S_oldK (IsS46.apartS (show IsS46 w0 _ g s0_0 t225 t226 from by exact st46_0 HI0.out) (by (with_reducible repeat (first | apply Kd.S_alloc | apply Kd.S_drewN | apply Kd.S_drew)); exact HO_4.out) (by decide)) hk) (Kd.R_base ho0)) (fun _ h_ => h_.1)); have HO229 := mkA (Kd.R_lower ho0 (keep_size (w := w) (g := g) (row := none) (by exact kb46_0 HK.out))); replace HK := kT (by exact kb46_0 HK.out) hk; replace HI0 := mkA (hi); replace HB := mkA (hb); (try clear hb); (try clear hk); (try clear hi); (try clear ho0); have p27 : 0 ≤ (t221 : Int) := ofd; have q27 : (t221 : Int) < ((x4_1.length : Int) : Int) := ofd; obtain ⟨go27, co27, eo27, gb27, gl27, cl27, HG27⟩ := Kd.S_form HO_4.out (by omega); (first | cases eo27 | (injection eo27 with ea_ en_ ec_; (first | subst ea_ | (injection ea_ with ea_; subst ea_)); subst ec_; clear en_)); have GB27 : Ge _ _ := ⟨gb27⟩; have GG27 := mkA HG27; clear gb27 gl27 HG27; obtain ⟨_, ce27, hcl27, hM27, hcc27, hfr27, _, _⟩ := Kd.S_elem HO_4.out [] (t221 : Int) p27 q27; obtain ⟨ve27_0, rfl, ge27_0⟩ := hM27; have hx27_0 := hcc27 0 _ rfl; have hf27_0 := hfr27 0; (try simp only [show ((Kd.slice 3 (Kd.int .i64))).sz = 1 from rfl, Nat.mul_one, Nat.add_zero] at hx27_0); (try simp only [show ((Kd.slice 3 (Kd.int .i64))).sz = 1 from rfl, Nat.mul_one, Nat.add_zero] at hf27_0); clear hcl27 hcc27 hfr27; (try clear hM27); replace p27 := eq_true p27; replace q27 := eq_true q27; have n_ := mkA (Kd.S_mono (ok' := (fun k_ => some k_ ≠ (v228 : Value).ownBlock)) HO_4.out (fun k_ hk => hk.2)); clear HO_4; have HO_4 := n_; clear n_; have HX32 := mkA (show Kd.S (Kd.slice 3 (Kd.int .i64)) 26 w31 w.heap.size (fun k_ => ((fun _ => True)) k_ ∧ ¬ ((fun k_ => some k_ = (v228 : Value).ownBlock)) k_) (.slice (some ⟨go27, 0, none⟩) x4_1.length co28) x4_1 from (by (with_reducible repeat (first | apply Kd.S_alloc | apply Kd.S_drewN | apply Kd.S_drew)); exact Kd.S_mono HO_4.out (fun k_ hk => ⟨trivial, fun e_ => hk e_⟩))); obtain ⟨oki32, ce32, hcl32, hM32, hcc32, hfr32, hoki32, hH32⟩ := Kd.S_elem HX32.out [] (t221 : Int) (ofd) (by have h_ : (t221 : Int) < ((x4_1.length : Int) : Int) := ofd; first | exact h_ | (have e_ := (Kd.S_reads' HO_4.out).1; omega) | simpa using h_); obtain ⟨ve32_0, rfl, ge32_0⟩ := hM32; have HP32 := Kd.S_seg hH32 (ofd) (by have h_ : (t221 : Int) < ((x4_1.length : Int) : Int) := ofd; first | exact h_ | (have e_ := (Kd.S_reads' HO_4.out).1; omega) | simpa using h_) (seg := [v228]) (j := 0) (show 1 ≤ 1 from by decide) (x' := t227) (Kd.M_row (Kd.R_mono (Kd.R_tight rfl (Kd.R_mono (ok' := fun k_ => ((fun _ => True)) k_ ∧ k_ ≠ go27) (Kd.R_apart' (HO229.out) (Kd.S_typed HO_4.out) (by decide)) (fun k_ hk => ⟨trivial, fun e_ => (hk.2) (by rw [e_]; rfl)⟩))) (fun _ h_ => Or.inr (h_)))) (fun _ hk => hk) (fun k_ hk_ => ((Kd.R_mono (ok' := fun k_ => ((fun _ => True)) k_ ∧ k_ ≠ go27) (Kd.R_apart' (HO229.out) (Kd.S_typed HO_4.out) (by decide)) (fun k_ hk => ⟨trivial, fun e_ => (hk.2) (by rw [e_]; rfl)⟩))).1 k_ hk_.symm); have hx32_0 := hcc32 0 _ rfl; (try simp only [show ((Kd.slice 3 (Kd.int .i64))).sz = 1 from rfl, Nat.mul_one, Nat.add_zero] at hx32_0); have hf32_0 := hfr32 0; (try simp only [show ((Kd.slice 3 (Kd.int .i64))).sz = 1 from rfl, Nat.mul_one, Nat.add_zero] at hf32_0); clear hcl32 hcc32 hfr32; (try clear hM32); clear hoki32 hH32; (try simp only [show ((Kd.slice 3 (Kd.int .i64))).sz = 1 from rfl, Nat.mul_one, Nat.add_zero] at HP32)) | ((with_reducible refine gate_store (t := 26) (p := 37) rfl ?_); refine store_event (t := 26) (p := 37) (v := ?vo_w33) (w1 := (w31.setCell ⟨go27, (t221 : Int).toNat, none⟩ (v228))) ?hg ?ho ?hn ?hr ?_; (case ho => rfl); (case hg => rfl); (case hn => rfl); (case hr => first | (go_simp; done) | (go_simp; rfl) | (obtain ⟨A_, c_, e_⟩ := Kd.R_slice HO229.out; subst e_; first | (go_simp; done) | (go_simp; rfl))); intro w33 hw; have hg : w31.grownBy w33 (some go27) := (by rw [hw]; exact HP32.2); have hp_ : Kd.S (Kd.slice 3 (Kd.int .i64)) 26 w33 w.heap.size (fun _ => True) (.slice (some ⟨go27, 0, none⟩) x4_1.length co28) y232 := (by rw [hw, Ny232.out]; exact HP32.1); clear HP32; replace HI0 := mkA (IsS46.grown (by exact st46_0 HI0.out) hg (IsS46.own_neS HI0.out HO_4.out (by decide))); replace HK := mkA (KeepBut.trans (by exact kb46_0 HK.out) (KeepBut.of_grown hg g) (Kd.S_base2 HO_4.out)); replace HO_4 := mkA (hp_); replace HB := mkA ((by rw [hw]; exact below_set (HB.out) (Nat.le_trans HL.out GB27.out) : Below w0.heap.size w0 w33)); clear HO229; clear hg hw hp_))
       go_ret
       exact ⟨_, eqE, by (with_reducible repeat (first | apply Kd.S_alloc | apply Kd.S_drewN | apply Kd.S_drew)); exact HO_4.out, by exact st46_0 HI0.out, by exact bl46_0 HB.out HI0.out, by exact kb46_0 HK.out⟩
      ·replace c21 := Bool.eq_false_iff.mpr c21
       subst c21
       replace H := ifF H
       simp only [Option.some.injEq, Prod.mk.injEq] at H
       obtain ⟨rfl, rfl, rfl⟩ := H
       go_wp2
       go_ret
       exact ⟨_, eqE, by (with_reducible repeat (first | apply Kd.S_alloc | apply Kd.S_drewN | apply Kd.S_drew)); exact HO_4.out, by exact st46_0 HI0.out, by exact bl46_0 HB.out HI0.out, by exact kb46_0 HK.out⟩
def spec_DrawMajorityOf.f (k : Nat) (l0 : List Int) : Option ((List (List Int))) := (spec_l1Cur_voters.f k l0 0 0).bind fun bt234 => (some bt234.1)
theorem spec_DrawMajorityOf.mono : ∀ a0 k, LeO (spec_DrawMajorityOf.f k a0) (spec_DrawMajorityOf.f (k + 1) a0) := by
 intro a0 k
 unfold spec_DrawMajorityOf.f
 repeat' (with_reducible first|apply spec_l1Cur_voters.mono|apply LeO.refl|apply LeO.none|apply LeO.ite|apply LeO.bind|intro)
theorem spec_DrawMajorityOf.calls (k : Nat) (A0 : Option Addr) (c0 : Nat) (l0 : List Int) (r : List (List Int)) (w : World) (hr0 : Kd.C (Kd.int .u8) w A0 l0.length l0) (hc0 : l0.length ≤ c0) (h : spec_DrawMajorityOf.f k l0 = some r) :
  Calls Tryd.prog 5 #[.slice A0 l0.length c0] w fun e w' => ∃ v0_ : Value, e = .returned (v0_) ∧ Kd.S (Kd.slice 3 (Kd.int .i64)) 26 w' w.heap.size (fun _ => True) v0_ r ∧ Below w.heap.size w w' := by
 have hu46 := Tryd.underlying46
 have HR0 := mkA hr0
 have HC0 := mkA hc0
 clear hr0 hc0
 have HB := mkA (Below.refl w.heap.size w)
 have H := h
 clear h
 unfold spec_DrawMajorityOf.f at H
 obtain ⟨⟨t234, t237, t238⟩, A2, H⟩ := obE H
 dsimp only at H
 obtain rfl := Option.some.inj H
 go_enter Tryd.func5, Tryd.ntmps5
 go_wp2_with (first | ((with_reducible refine gate_dst (N := 6) rfl ?_); refine boxE (N := 6) (cs := #[.slice A0 l0.length c0, .int .i64 0, .int .u64 0]) (t := 46) ?_; intro gb233 hg w3 hbox hb; have HI233 := mkA ((⟨_, _, hbox, (by rw [hg]; exact (below_size (bel_g HB.out))), HR0.out⟩ : IsS46 w w3 gb233 l0 0 0)); have GE233 := geB HB hg; replace HB := bst HB hb; clear hb hbox hg) | ((with_reducible refine gate_callee (f := 18) rfl ?_); refine goesQ (some 8) Tryd.func18 #[.pointer (some ⟨gb233, 0, none⟩)] ?_; (with_reducible refine (spec_l1Cur_voters.calls k gb233 l0 0 0 t234 t237 t238 w _ ?_ ?_ A2.out).mono ?_); exact st46_0 HI233.out; exact bl46_0 HB.out HI233.out; rintro e w4 ⟨v235, rfl, ho0, hi, hb, hk⟩; refine ⟨_, rfl, ?_⟩; have HO236 := mkA (Kd.S_lower ho0 (below_size (by exact bl46_0 HB.out HI233.out))); replace HI233 := mkA (hi); replace HB := mkA (hb); clear hb hk hi ho0))
 go_ret
 exact ⟨_, eqE, by (with_reducible repeat (first | apply Kd.S_alloc | apply Kd.S_drewN | apply Kd.S_drew)); exact HO236.out, by exact bl46_0 HB.out HI233.out⟩
end Go.Proofs.YtmdnbjhboppkdaaDoor.Q
