import Derived.Test.YtfpicdkanmgdoaaDoorBFnLevelRanks1
import Derived.Test.YtfpicdkanmgdoaaDoorBFnLevelRanks9
namespace Go.Proofs.YtfpicdkanmgdoaaDoor.Q
open Go.RowKit Go.Proofs.YtfpicdkanmgdoaaDoorW.PrintWords Go.Proofs.YtfpicdkanmgdoaaDoorW.PrintLast Go.Proofs.YtfpicdkanmgdoaaDoorW.PrintMore
attribute [local go_sem] max2_int min2_int max_two min_two max_three min_three max_four min_four neB_f
set_option linter.unusedVariables false
set_option maxHeartbeats 8000000
set_option maxRecDepth 100000
set_option linter.unusedSimpArgs false
mutual
def spec_weOfNumbers.l0 : Nat → List Int → List Int → List Int → Int → Int → Option (List Int)
 | 0, _, _, _, _, _ => none
 | k + 1, x0, x3, x9, x10, x11 => if x11 < x10 then (if 0 ≤ x11 then (if x11 < (x9.length : Int) then ((spec_l1Put.f k x3 (rd x9 x11)).bind fun t401 => (spec_weOfNumbers.l0 k x0 t401 x9 x10 (wrap64 (x11 + 1)))) else (none)) else (none)) else (spec_weOfNumbers.l1 k x3 ([] : List Int) x0 (x0.length : Int) 0)
def spec_weOfNumbers.l1 : Nat → List Int → List Int → List Int → Int → Int → Option (List Int)
 | 0, _, _, _, _, _ => none
 | k + 1, x3, x4, x19, x20, x21 => if x21 < x20 then (if 0 ≤ x21 then (if x21 < (x19.length : Int) then ((spec_orPlace.f k x3 (rd x19 x21)).bind fun t405 => (if x4.length < 17592186044416 then (spec_weOfNumbers.l1 k x3 (x4 ++ [t405]) x19 x20 (wrap64 (x21 + 1))) else (none))) else (none)) else (none)) else (some x4)
end
def spec_weOfNumbers.f (k : Nat) (l0 : List Int) : Option (List Int) := spec_weOfNumbers.l0 k l0 ([] : List Int) l0 (l0.length : Int) 0
theorem spec_weOfNumbers.mono_l : ∀ k, (∀ y0 y1 y2 y3 y4, LeO (spec_weOfNumbers.l0 k y0 y1 y2 y3 y4) (spec_weOfNumbers.l0 (k + 1) y0 y1 y2 y3 y4)) ∧ (∀ y0 y1 y2 y3 y4, LeO (spec_weOfNumbers.l1 k y0 y1 y2 y3 y4) (spec_weOfNumbers.l1 (k + 1) y0 y1 y2 y3 y4))
 | 0 => ⟨fun _ _ _ _ _ r h => by simp [spec_weOfNumbers.l0] at h, fun _ _ _ _ _ r h => by simp [spec_weOfNumbers.l1] at h⟩
 | k + 1 => by
  obtain ⟨ih0, ih1⟩ := spec_weOfNumbers.mono_l k
  refine ⟨?_, ?_⟩ <;> intros
  unfold spec_weOfNumbers.l0
  rotate_left
  unfold spec_weOfNumbers.l1
  rotate_left
  all_goals repeat' (with_reducible first|apply ih0|apply ih1|apply spec_l1Put.mono|apply spec_orPlace.mono|apply LeO.refl|apply LeO.none|apply LeO.ite|apply LeO.bind|intro)
theorem spec_weOfNumbers.mono : ∀ a0 k, LeO (spec_weOfNumbers.f k a0) (spec_weOfNumbers.f (k + 1) a0) := by
 intro a0 k
 obtain ⟨ih0, ih1⟩ := spec_weOfNumbers.mono_l k
 unfold spec_weOfNumbers.f
 repeat' (with_reducible first|apply ih0|apply ih1|apply spec_l1Put.mono|apply spec_orPlace.mono|apply LeO.refl|apply LeO.none|apply LeO.ite|apply LeO.bind|intro)
theorem spec_weOfNumbers.calls (k : Nat) (A0 : Option Addr) (c0 : Nat) (l0 : List Int) (r : List Int) (w : World) (hr0 : Kd.C (Kd.int .i64) w A0 l0.length l0) (hc0 : l0.length ≤ c0) (h : spec_weOfNumbers.f k l0 = some r) :
  Calls Tryd.prog 56 #[.slice A0 l0.length c0] w fun e w' => ∃ v0_ : Value, e = .returned (v0_) ∧ Kd.R (Kd.int .i64) 3 w' w.heap.size (fun _ => True) v0_ r ∧ Below w.heap.size w w' := by
 have HR0 := mkA hr0
 have HC0 := mkA hc0
 clear hr0 hc0
 have HB := mkA (Below.refl w.heap.size w)
 have H := h
 clear h
 unfold spec_weOfNumbers.f at H
 have H' := mkA H
 clear H
 go_enter Tryd.func56, Tryd.ntmps56
 go_wp2
 go_loopg [3, 11] k (fun kq v3 v11 w' => ∃ (x3_1 : List Int) (x11_1 : Int), v11 = .int .i64 x11_1 ∧ Fc (spec_weOfNumbers.l0 kq l0 x3_1 l0 (l0.length : Int) x11_1 = some r) ∧ Fc (kq ≤ k) ∧ Fc (Kd.R (Kd.int .i64) 3 w' w.heap.size (fun _ => True) v3 x3_1) ∧ Fc (Below w.heap.size w w'))
 case atStart => exact ⟨(([] : List Int)), (0), eqS, H', ⟨Nat.le_refl _⟩, ⟨nilE⟩, hbg HB⟩
 case round =>
  clear H'
  obtain ⟨x3_1, x11_1, rfl, HA, HK1, HO_3, HB⟩ := hrel
  cases gk with
  | zero => exact absurd HA.out (by simp [spec_weOfNumbers.l0])
  | succ k1 =>
   have H := HA.out
   clear HA
   simp only [spec_weOfNumbers.l0] at H
   rcases iteE H with ⟨c2b0, H⟩ | ⟨c2b0, H⟩
   ·obtain ⟨c3b0, H⟩ := itND H
    obtain ⟨c4b0, H⟩ := itND H
    obtain ⟨t401, A5, H⟩ := obE H
    have H' := mkA H
    clear H
    obtain ⟨p400, q400, ad400, e400, hx400_0⟩ := atI HR0.out x11_1
    cases e400
    replace hx400_0 := (HB.out.cell (World.block_lt_of_cell? w _ hx400_0)).trans hx400_0
    obtain ⟨Ao6, co6, rfl⟩ := Kd.R_slice HO_3.out
    go_wp2_with (first | ((with_reducible refine gate_callee (f := 63) rfl ?_); refine goesQ (some 17) Tryd.func63 #[.slice Ao6 x3_1.length co6, .int .i64 (rd l0 x11_1)] ?_; (with_reducible refine (spec_l1Put.calls k1 (fun k_ => some k_ = (.slice Ao6 x3_1.length co6 : Value).ownBlock) (.slice Ao6 x3_1.length co6) x3_1 (rd l0 x11_1) t401 w _ ?_ ?_ A5.out).mono ?_); exact bel_g HB.out; exact Kd.R_tight rfl HO_3.out; rintro e w7 ⟨v402, rfl, ho0, hb, hkp⟩; refine ⟨_, rfl, ?_⟩; have HO403 := mkA (Kd.R_mono (ok' := fun k_ => True) ho0 (fun k_ hk_ => trivial)); replace HB := mkA (hb); clear HO_3; clear hb hkp ho0))
    go_roundg k1
    case measure => have := HK1.out; omega
    case rel => exact ⟨(t401), (wrap64 (x11_1 + 1)), eqS, H', ⟨by have := HK1.out; omega⟩, rg HO403, hbg HB⟩
   ·have H' := mkA H
    clear H
    go_wp2
    go_loopg [4, 21] k1 (fun kq v4 v21 w' => ∃ (x4_2 : List Int) (x21_2 : Int), v21 = .int .i64 x21_2 ∧ Fc (spec_weOfNumbers.l1 kq x3_1 x4_2 l0 (l0.length : Int) x21_2 = some r) ∧ Fc (kq ≤ k1) ∧ Fc (Kd.R (Kd.int .i64) 3 w' w.heap.size (fun k_ => some k_ ≠ (v4 : Value).ownBlock) u3 x3_1) ∧ Fc (Kd.R (Kd.int .i64) 3 w' w.heap.size (fun k_ => some k_ ≠ (u3 : Value).ownBlock) v4 x4_2) ∧ Fc (Below w.heap.size w w'))
    case atStart => exact ⟨(([] : List Int)), (0), eqS, H', ⟨Nat.le_refl _⟩, ⟨Kd.R_g (Kd.R_mono HO_3.out (fun _ hk => (by simp [Value.ownBlock])))⟩, ⟨nilE⟩, hbg HB⟩
    case round =>
     clear H'
     try clear c2b0
     try clear c3
     try clear c3b0
     try clear c4
     try clear c4b0
     try clear hx400_0
     try clear p400
     try clear q400
     obtain ⟨x4_2, x21_2, rfl, HA, HK2, HO_3, HO_4, HB⟩ := hrel
     cases gk with
     | zero => exact absurd HA.out (by simp [spec_weOfNumbers.l1])
     | succ k2 =>
      have H := HA.out
      clear HA
      simp only [spec_weOfNumbers.l1] at H
      rcases iteE H with ⟨c8b0, H⟩ | ⟨c8b0, H⟩
      ·obtain ⟨c9b0, H⟩ := itND H
       obtain ⟨c10b0, H⟩ := itND H
       obtain ⟨t405, A11, H⟩ := obE H
       obtain ⟨c12, H⟩ := itNP H
       have LMc12 := mkA c12
       clear c12
       obtain ⟨y406, hy406⟩ : ∃ y_ : List Int, y_ = (x4_2 ++ [t405]) := ⟨_, rfl⟩
       rw [← hy406] at H
       have Ny406 := mkA hy406
       clear hy406
       have H' := mkA H
       clear H
       obtain ⟨p404, q404, ad404, e404, hx404_0⟩ := atI HR0.out x21_2
       cases e404
       replace hx404_0 := (HB.out.cell (World.block_lt_of_cell? w _ hx404_0)).trans hx404_0
       obtain ⟨Ao13, co13, rfl⟩ := Kd.R_slice HO_3.out
       go_wp2_with (first | ((with_reducible refine gate_callee (f := 64) rfl ?_); refine goesQ (some 28) Tryd.func64 #[.slice Ao13 x3_1.length co13, .int .i64 (rd l0 x21_2)] ?_; (with_reducible refine (spec_orPlace.calls k2 _ _ x3_1 (rd l0 x21_2) t405 _ ?_ ?_ A11.out).mono ?_); exact rC HO_3; exact rL HO_3; rintro e w' ⟨rfl, ⟨nd, rfl⟩⟩; refine ⟨_, rfl, ?_⟩) | ((with_reducible refine gate_builtin (b := .append) (xs := #[.tmp 25, .tmp 29]) rfl ?_); at_builtin; refine Kd.R_append (Kd.int .i64) (w0 := w) w.heap.size rfl (.tmp 25) (.tmp 29) 26 3 (.int .i64 0) 8 rfl Tryd.underlying26 info3 rfl (by decide) (by omega) u4 x4_2 t405 [.int .i64 t405] (fun k_ => some k_ ≠ (.slice Ao13 x3_1.length co13 : Value).ownBlock) (fun _ => False) rfl rfl ?aP (fun _ hk => hk.elim) ?aF ?aO ?aB ?aS ?aL ?_; (case aP => exact rfl); (case aB => exact (bel_g HB.out)); (case aF => exact (fun k_ hk => Kd.fresh' (Kd.R_lt (Kd.R_g HO_3.out)) k_ hk)); (case aO => exact (Kd.R_g HO_4.out)); (case aS => exact (below_size (bel_g HB.out))); (case aL => have := LMc12.out; omega); intro v407 w14 ho hb hg hat; rw [← Ny406.out] at ho; replace HO_3 := mkA (Kd.R_after (ok := (fun _ => True)) (Kd.R_g (Kd.R_mono HO_3.out (fun _ hk => ⟨trivial, hk⟩))) hg hat); have HO408 := mkA (ho); replace HB := mkA (hb); clear HO_4; clear ho hb hg hat))
       go_roundg k2
       case measure => have := HK1.out; have := HK2.out; omega
       case rel => exact ⟨(y406), (wrap64 (x21_2 + 1)), eqS, H', ⟨by have := HK1.out; have := HK2.out; omega⟩, ⟨Kd.R_g (Kd.R_mono HO_3.out (fun _ hk => hk.2))⟩, rg HO408, hbg HB⟩
      ·obtain rfl := Option.some.inj H
       go_wp2
       go_ret
       exact ⟨_, eqE, Kd.R_g (Kd.R_mono HO_4.out (fun _ hk => trivial)), bel_g HB.out⟩
def spec_l1Cur_one.f (s0_0 : List Int) (s0_1 : Int) (s0_2 : Int) (a1 : Int) : Option (Bool × Int × Int) := (spec_l1Cur_pick.f s0_0 s0_1 s0_2 a1).bind fun bt409 => (some ((bt409.1 == 0), bt409.2.1, bt409.2.2))
theorem spec_l1Cur_one.calls (g : Nat) (s0_0 : List Int) (s0_1 : Int) (s0_2 : Int) (a1 : Int) (r1 : Bool) (r2 : Int) (r3 : Int) (w0 w : World) (hI : IsS43 w0 w g s0_0 s0_1 s0_2) (hB : Below w0.heap.size w0 w) (h : spec_l1Cur_one.f s0_0 s0_1 s0_2 a1 = some (r1, r2, r3)) :
  Calls Tryd.prog 57 #[.pointer (some ⟨g, 0, none⟩), .int .i64 a1] w fun e w' => e = .returned (.bool r1) ∧ IsS43 w0 w' g s0_0 r2 r3 ∧ Below w0.heap.size w0 w' ∧ KeepBut w w' g none := by
 have HI0 := mkA hI
 have HK := mkA (KeepBut.refl w g none)
 have HL := mkA hB.size
 clear hI
 have HW0 := mkA hB.size
 have HB := mkA hB
 clear hB
 have H := h
 clear h
 unfold spec_l1Cur_one.f at H
 obtain ⟨⟨t409, t410, t411⟩, A3, H⟩ := obE H
 dsimp only at H
 simp only [Option.some.injEq, Prod.mk.injEq] at H
 obtain ⟨rfl, rfl, rfl⟩ := H
 go_enter Tryd.func57, Tryd.ntmps57
 go_wp2_with (first | ((with_reducible refine gate_callee (f := 24) rfl ?_); refine goesQ (some 7) Tryd.func24 #[.pointer (some ⟨g, 0, none⟩), .int .i64 a1] ?_; (with_reducible refine (spec_l1Cur_pick.calls g s0_0 s0_1 s0_2 a1 t409 t410 t411 w0 _ ?_ ?_ A3.out).mono ?_); exact st43_0 HI0.out; exact bl43_0 HB.out HI0.out; rintro e w4 ⟨rfl, hi, hb, hk⟩; refine ⟨_, rfl, ?_⟩; replace HK := kT (by exact kb43_0 HK.out) hk; replace HI0 := mkA (hi); replace HB := mkA (hb); clear hb hk hi))
 go_ret
 exact ⟨eqE, by exact st43_0 HI0.out, by exact bl43_0 HB.out HI0.out, by exact kb43_0 HK.out⟩
mutual
def spec_l1Cur_levels.l0 : Nat → Int → List Int → List Int → Int → Int → Option (List Int × Int × Int)
 | 0, _, _, _, _, _ => none
 | k + 1, x1, x5, x1000, x1001, x1002 => if x1 > 0 then ((spec_l1Cur_pick.f x1000 x1001 x1002 5).bind fun bt412 => (if x5.length < 17592186044416 then (spec_l1Cur_levels.l0 k (wrap64 (x1 - 1)) (x5 ++ [bt412.1]) x1000 bt412.2.1 bt412.2.2) else (none))) else ((spec_weOfNumbers.f k x5).bind fun t418 => (if (t418.length : Int) > 0 then ((spec_l1Cur_one.f x1000 x1001 x1002 20).bind fun bt421 => (spec_l1Cur_levels.j1 k t418 bt421.1 x1000 bt421.2.1 bt421.2.2)) else (spec_l1Cur_levels.j1 k t418 false x1000 x1001 x1002)))
def spec_l1Cur_levels.j1 : Nat → List Int → Bool → List Int → Int → Int → Option (List Int × Int × Int)
 | 0, _, _, _, _, _ => none
 | k + 1, x6, x24, x1000, x1001, x1002 => if x24 = true then ((spec_l1Cur_pick.f x1000 x1001 x1002 (x6.length : Int)).bind fun bt424 => ((spec_l1Cur_among.f x1000 bt424.2.1 bt424.2.2 (([(-1), 0, 1, 9, 11, (-9223372036854775808)] : List Int))).bind fun bt430 => (if 0 ≤ bt424.1 then (if bt424.1 < (x6.length : Int) then (some ((x6.set (bt424.1 : Int).toNat bt430.1), bt430.2.1, bt430.2.2)) else (none)) else (none)))) else (some (x6, x1001, x1002))
end
def spec_l1Cur_levels.f (k : Nat) (s0_0 : List Int) (s0_1 : Int) (s0_2 : Int) (a1 : Int) : Option (List Int × Int × Int) := spec_l1Cur_levels.l0 k a1 ([] : List Int) s0_0 s0_1 s0_2
theorem spec_l1Cur_levels.mono_l : ∀ k, (∀ y0 y1 y2 y3 y4, LeO (spec_l1Cur_levels.l0 k y0 y1 y2 y3 y4) (spec_l1Cur_levels.l0 (k + 1) y0 y1 y2 y3 y4)) ∧ (∀ y0 y1 y2 y3 y4, LeO (spec_l1Cur_levels.j1 k y0 y1 y2 y3 y4) (spec_l1Cur_levels.j1 (k + 1) y0 y1 y2 y3 y4))
 | 0 => ⟨fun _ _ _ _ _ r h => by simp [spec_l1Cur_levels.l0] at h, fun _ _ _ _ _ r h => by simp [spec_l1Cur_levels.j1] at h⟩
 | k + 1 => by
  obtain ⟨ih0, ih1⟩ := spec_l1Cur_levels.mono_l k
  refine ⟨?_, ?_⟩ <;> intros
  unfold spec_l1Cur_levels.l0
  rotate_left
  unfold spec_l1Cur_levels.j1
  rotate_left
  all_goals repeat' (with_reducible first|apply ih0|apply ih1|apply spec_weOfNumbers.mono|apply LeO.refl|apply LeO.none|apply LeO.ite|apply LeO.bind|intro)
theorem spec_l1Cur_levels.mono : ∀ a0 a1 a2 a3 k, LeO (spec_l1Cur_levels.f k a0 a1 a2 a3) (spec_l1Cur_levels.f (k + 1) a0 a1 a2 a3) := by
 intro a0 a1 a2 a3 k
 obtain ⟨ih0, ih1⟩ := spec_l1Cur_levels.mono_l k
 unfold spec_l1Cur_levels.f
 repeat' (with_reducible first|apply ih0|apply ih1|apply spec_weOfNumbers.mono|apply LeO.refl|apply LeO.none|apply LeO.ite|apply LeO.bind|intro)
theorem spec_l1Cur_levels.calls (k : Nat) (g : Nat) (s0_0 : List Int) (s0_1 : Int) (s0_2 : Int) (a1 : Int) (r1 : List Int) (r2 : Int) (r3 : Int) (w0 w : World) (hI : IsS43 w0 w g s0_0 s0_1 s0_2) (hB : Below w0.heap.size w0 w) (h : spec_l1Cur_levels.f k s0_0 s0_1 s0_2 a1 = some (r1, r2, r3)) :
  Calls Tryd.prog 39 #[.pointer (some ⟨g, 0, none⟩), .int .i64 a1] w fun e w' => ∃ v0_ : Value, e = .returned (v0_) ∧ Kd.R (Kd.int .i64) 3 w' w.heap.size (fun _ => True) v0_ r1 ∧ IsS43 w0 w' g s0_0 r2 r3 ∧ Below w0.heap.size w0 w' ∧ KeepBut w w' g none := by
 have HI0 := mkA hI
 have HK := mkA (KeepBut.refl w g none)
 have HL := mkA hB.size
 clear hI
 have HW0 := mkA hB.size
 have HB := mkA hB
 clear hB
 have H := h
 clear h
 unfold spec_l1Cur_levels.f at H
 have H' := mkA H
 clear H
 go_enter Tryd.func39, Tryd.ntmps39
 go_wp2
 go_loopg [1, 5] k (fun kq v1 v5 w' => ∃ (x1_1 : Int) (x5_1 : List Int) (x1001_1 : Int) (x1002_1 : Int), v1 = .int .i64 x1_1 ∧ Fc (spec_l1Cur_levels.l0 kq x1_1 x5_1 s0_0 x1001_1 x1002_1 = some (r1, r2, r3)) ∧ Fc (kq ≤ k) ∧ Fc (Kd.R (Kd.int .i64) 3 w' w.heap.size (fun _ => True) v5 x5_1) ∧ Fc (IsS43 w0 w' g s0_0 x1001_1 x1002_1) ∧ Fc (KeepBut w w' g none) ∧ Fc (Below w0.heap.size w0 w'))
 case atStart => exact ⟨(a1), (([] : List Int)), (s0_1), (s0_2), eqS, H', ⟨Nat.le_refl _⟩, ⟨nilE⟩, ⟨by exact st43_0 HI0.out⟩, ⟨by exact kb43_0 HK.out⟩, ⟨by exact bl43_0 HB.out HI0.out⟩⟩
 case round =>
  clear H'
  obtain ⟨x1_1, x5_1, x1001_1, x1002_1, rfl, HA, HK1, HO_5, HI0, HK, HB⟩ := hrel
  cases gk with
  | zero => exact absurd HA.out (by simp [spec_l1Cur_levels.l0])
  | succ k1 =>
   have H := HA.out
   clear HA
   simp only [spec_l1Cur_levels.l0] at H
   rcases iteP H with ⟨c3, H⟩ | ⟨c3, H⟩
   ·have c3b0 := decide_eq_true c3
    clear c3
    obtain ⟨⟨t412, t413, t414⟩, A4, H⟩ := obE H
    dsimp only at H
    obtain ⟨c5, H⟩ := itNP H
    have LMc5 := mkA c5
    clear c5
    obtain ⟨y415, hy415⟩ : ∃ y_ : List Int, y_ = (x5_1 ++ [t412]) := ⟨_, rfl⟩
    rw [← hy415] at H
    have Ny415 := mkA hy415
    clear hy415
    have H' := mkA H
    clear H
    go_wp2_with (first | ((with_reducible refine gate_callee (f := 24) rfl ?_); refine goesQ (some 13) Tryd.func24 #[.pointer (some ⟨g, 0, none⟩), .int .i64 5] ?_; (with_reducible refine (spec_l1Cur_pick.calls g s0_0 x1001_1 x1002_1 5 t412 t413 t414 w0 _ ?_ ?_ A4.out).mono ?_); exact st43_0 HI0.out; exact bl43_0 HB.out HI0.out; rintro e w6 ⟨rfl, hi, hb, hk⟩; refine ⟨_, rfl, ?_⟩; replace HO_5 := rK (IsS43.apart (show IsS43 w0 _ g s0_0 x1001_1 x1002_1 from by exact st43_0 HI0.out) (Kd.R_g HO_5.out) (by decide)) hk; replace HK := kT (by exact kb43_0 HK.out) hk; replace HI0 := mkA (hi); replace HB := mkA (hb); clear hb hk hi) | ((with_reducible refine gate_builtin (b := .append) (xs := #[.tmp 11, .tmp 14]) rfl ?_); at_builtin; refine Kd.R_append (Kd.int .i64) w.heap.size rfl (.tmp 11) (.tmp 14) 26 3 (.int .i64 0) 8 rfl Tryd.underlying26 info3 rfl (by decide) (by omega) u5 x5_1 t412 [.int .i64 t412] (fun _ => True) (fun _ => False) rfl rfl ?aP (fun _ hk => hk.elim) ?aF ?aO (Below.refl _ _) ?aS ?aL ?_; (case aP => exact rfl); (case aF => exact (fun _ _ => trivial)); (case aO => exact (Kd.R_g HO_5.out)); (case aS => exact (keep_size (w := w) (g := g) (row := none) (by exact kb43_0 HK.out))); (case aL => have := LMc5.out; omega); intro v416 w7 ho hb hg hat; rw [← Ny415.out] at ho; replace HK := mkA (KeepBut.trans (by exact kb43_0 HK.out) (KeepBut.of_grown hg g) (Kd.R_base2 HO_5.out)); have HO417 := mkA (ho); replace HB := mkA (below_weaken (by exact bl43_0 HB.out HI0.out) HL.out hb); replace HI0 := mkA (IsS43.grown (by exact st43_0 HI0.out) hg (IsS43.own_ne HI0.out HO_5.out (by decide))); clear HO_5; clear ho hb hg hat))
    go_roundg k1
    case measure => have := HK1.out; omega
    case rel => exact ⟨(wrap64 (x1_1 - 1)), (y415), (t413), (t414), eqS, H', ⟨by have := HK1.out; omega⟩, rg HO417, ⟨by exact st43_0 HI0.out⟩, ⟨by exact kb43_0 HK.out⟩, ⟨by exact bl43_0 HB.out HI0.out⟩⟩
   ·have c3b0 := decide_eq_false c3
    clear c3
    obtain ⟨t418, A8, H⟩ := obE H
    have HC9 := mkA H
    clear H
    obtain ⟨Ao10, co10, rfl⟩ := Kd.R_slice HO_5.out
    go_upto_region 6 with (first | ((with_reducible refine gate_callee (f := 56) rfl ?_); refine goesQ (some 17) Tryd.func56 #[.slice Ao10 x5_1.length co10] ?_; (with_reducible refine (spec_weOfNumbers.calls k1 _ _ x5_1 t418 _ ?_ ?_ A8.out).mono ?_); exact rC HO_5; exact rL HO_5; rintro e w11 ⟨v419, rfl, ho0, hb⟩; refine ⟨_, rfl, ?_⟩; have HO420 := mkA (Kd.R_lower (rN ho0 HO_5) (keep_size (w := w) (g := g) (row := none) (by exact kb43_0 HK.out))); replace HO_5 := rE HO_5 ho0 hb; replace HK := kU (g := g) (by exact kb43_0 HK.out) hb; replace HB := mkA (below_step (by exact bl43_0 HB.out HI0.out) hb); replace HI0 := mkA (IsS43.below (by exact st43_0 HI0.out) hb); clear hb ho0))
    (try simp only [Act.put, List.setIfInBounds_toArray, List.set_cons_zero, List.set_cons_succ])
    go_cut [24] (fun v24 wc => ∃ (kq : Nat) (x24_8 : Bool) (x1001_8 : Int) (x1002_8 : Int), v24 = .bool x24_8 ∧ Fc (spec_l1Cur_levels.j1 kq t418 x24_8 s0_0 x1001_8 x1002_8 = some (r1, r2, r3)) ∧ Fc (kq ≤ k1) ∧ Fc (Kd.R (Kd.int .i64) 3 wc w.heap.size (fun _ => True) v419 t418) ∧ Fc (IsS43 w0 wc g s0_0 x1001_8 x1002_8) ∧ Fc (KeepBut w wc g none) ∧ Fc (Below w0.heap.size w0 wc))
    case first =>
     have H := HC9.out
     clear HC9
     rcases iteP H with ⟨c12, H⟩ | ⟨c12, H⟩
     ·have c12b0 := decide_eq_true c12
      have c12b1 : decide (0 < t418.length) = true := decide_eq_true (by omega)
      clear c12
      (first | rw [c12b0] | (simp only [i64_w, i32_w]; rw [c12b0]) | skip)
      obtain ⟨⟨t421, t422, t423⟩, A13, H⟩ := obE H
      dsimp only at H
      have H' := mkA H
      clear H
      obtain ⟨Ao14, co14, rfl⟩ := Kd.R_slice HO420.out
      go_wp2_with (first | (go_at_call 57; (with_reducible refine (spec_l1Cur_one.calls g s0_0 x1001_1 x1002_1 20 t421 t422 t423 w0 _ ?_ ?_ A13.out).mono ?_); exact st43_0 HI0.out; exact bl43_0 HB.out HI0.out; rintro e w15 ⟨rfl, hi, hb, hk⟩; replace HO_5 := rK (IsS43.apart (show IsS43 w0 _ g s0_0 x1001_1 x1002_1 from by exact st43_0 HI0.out) (Kd.R_g HO_5.out) (by decide)) hk; replace HO420 := rK (IsS43.apart (show IsS43 w0 _ g s0_0 x1001_1 x1002_1 from by exact st43_0 HI0.out) (Kd.R_g HO420.out) (by decide)) hk; replace HK := kT (by exact kb43_0 HK.out) hk; replace HI0 := mkA (hi); replace HB := mkA (hb); clear hb hk hi))
      go_meet
      case rel => exact ⟨_, (t421), (t422), (t423), eqS, H', ⟨by have := HK1.out; first | omega | exact Nat.le_refl _⟩, ⟨Kd.R_g (Kd.R_mono HO420.out (fun _ hk => trivial))⟩, ⟨by exact st43_0 HI0.out⟩, ⟨by exact kb43_0 HK.out⟩, ⟨by exact bl43_0 HB.out HI0.out⟩⟩
     ·have c12b0 := decide_eq_false c12
      have c12b1 : decide (0 < t418.length) = false := decide_eq_false (by omega)
      clear c12
      (first | rw [c12b0] | (simp only [i64_w, i32_w]; rw [c12b0]) | skip)
      have H' := mkA H
      clear H
      obtain ⟨Ao16, co16, rfl⟩ := Kd.R_slice HO420.out
      go_wp2
      go_meet
      case rel => exact ⟨_, (false), (x1001_1), (x1002_1), eqS, H', ⟨by have := HK1.out; first | omega | exact Nat.le_refl _⟩, ⟨Kd.R_g (Kd.R_mono HO420.out (fun _ hk => trivial))⟩, ⟨by exact st43_0 HI0.out⟩, ⟨by exact kb43_0 HK.out⟩, ⟨by exact bl43_0 HB.out HI0.out⟩⟩
    case rest =>
     clear HC9
     try clear c3
     try clear c3b0
     try clear c5
     try clear c12
     try clear c12b0
     try clear c12b1
     obtain ⟨kq, x24_8, x1001_8, x1002_8, rfl, HA, HJ8, HO_6, HI0, HK, HB⟩ := hcut
     cases kq with
     | zero => exact absurd HA.out (by simp [spec_l1Cur_levels.j1])
     | succ kj8 =>
      have H := HA.out
      clear HA
      simp only [spec_l1Cur_levels.j1] at H
      by_cases c17 : x24_8 = true
      ·subst c17
       replace H := ifT H
       obtain ⟨⟨t424, t425, t426⟩, A18, H⟩ := obE H
       dsimp only at H
       obtain ⟨y427, hy427⟩ : ∃ y_ : List Int, y_ = (([(-1), 0, 1, 9, 11, (-9223372036854775808)] : List Int)) := ⟨_, rfl⟩
       rw [← hy427] at H
       have Ny427 := mkA hy427
       clear hy427
       obtain ⟨⟨t430, t431, t432⟩, A19, H⟩ := obE H
       dsimp only at H
       obtain ⟨c20b0, H⟩ := itND H
       obtain ⟨c21b0, H⟩ := itND H
       obtain ⟨y433, hy433⟩ : ∃ y_ : List Int, y_ = (t418.set (t424 : Int).toNat t430) := ⟨_, rfl⟩
       rw [← hy433] at H
       have Ny433 := mkA hy433
       clear hy433
       simp only [Option.some.injEq, Prod.mk.injEq] at H
       obtain ⟨rfl, rfl, rfl⟩ := H
       obtain ⟨Ao23, co23, rfl⟩ := Kd.R_slice HO_6.out
       go_wp2_with (first | ((with_reducible refine gate_callee (f := 24) rfl ?_); refine goesQ (some 29) Tryd.func24 #[.pointer (some ⟨g, 0, none⟩), .int .i64 (t418.length : Int)] ?_; (with_reducible refine (spec_l1Cur_pick.calls g s0_0 x1001_8 x1002_8 (t418.length : Int) t424 t425 t426 w0 _ ?_ ?_ A18.out).mono ?_); exact st43_0 HI0.out; exact bl43_0 HB.out HI0.out; rintro e w24 ⟨rfl, hi, hb, hk⟩; refine ⟨_, rfl, ?_⟩; replace HO_6 := rK (IsS43.apart (show IsS43 w0 _ g s0_0 x1001_8 x1002_8 from by exact st43_0 HI0.out) (Kd.R_g HO_6.out) (by decide)) hk; replace HK := kT (by exact kb43_0 HK.out) hk; replace HI0 := mkA (hi); replace HB := mkA (hb); clear hb hk hi) | ((with_reducible refine gate_dst (N := 31) rfl ?_); refine litE (Kd.int .i64) 3 ([(-1), 0, 1, 9, 11, (-9223372036854775808)] : List Int) [.int .i64 (-1), .int .i64 0, .int .i64 1, .int .i64 9, .int .i64 11, .int .i64 (-9223372036854775808)] ?hp ?_; (case hp => exact (Reps.one (show Kd.M (Kd.int .i64) _ _ _ (-1) [.int .i64 (-1)] from rfl) (Reps.one (show Kd.M (Kd.int .i64) _ _ _ 0 [.int .i64 0] from rfl) (Reps.one (show Kd.M (Kd.int .i64) _ _ _ 1 [.int .i64 1] from rfl) (Reps.one (show Kd.M (Kd.int .i64) _ _ _ 9 [.int .i64 9] from rfl) (Reps.one (show Kd.M (Kd.int .i64) _ _ _ 11 [.int .i64 11] from rfl) (Reps.one (show Kd.M (Kd.int .i64) _ _ _ (-9223372036854775808) [.int .i64 (-9223372036854775808)] from rfl) (Reps.none _ _)))))))); intro v428 w25 ho26 hb hg_ hnew_; clear hg_ hnew_; (first | rw [← Ny427.out] at ho26 | (simp only [Int.reduceToNat] at ho26; rw [← Ny427.out] at ho26)); have HO429 := mkA (Kd.R_lower (rN ho26 HO_6) (keep_size (w := w) (g := g) (row := none) (by exact kb43_0 HK.out))); replace HO_6 := rE HO_6 ho26 hb; replace HK := kU (g := g) (by exact kb43_0 HK.out) hb; replace HB := mkA (below_step (by exact bl43_0 HB.out HI0.out) hb); replace HI0 := mkA (IsS43.below (by exact st43_0 HI0.out) hb); clear hb ho26; obtain ⟨Ao27, co27, rfl⟩ := Kd.R_slice HO429.out) | ((with_reducible refine gate_callee (f := 21) rfl ?_); refine goesQ (some 32) Tryd.func21 #[.pointer (some ⟨g, 0, none⟩), .slice Ao27 y427.length co27] ?_; (with_reducible refine (spec_l1Cur_among.calls g s0_0 t425 t426 _ _ y427 t430 t431 t432 w0 _ ?_ ?_ ?_ ?_ ?_ A19.out).mono ?_); exact st43_0 HI0.out; exact bl43_0 HB.out HI0.out; exact rC HO429; exact rL HO429; exact far_slice (IsS43.own_ne HI0.out HO429.out (by decide)); rintro e w28 ⟨rfl, hi, hb, hk⟩; refine ⟨_, rfl, ?_⟩; replace HO_6 := rK (IsS43.apart (show IsS43 w0 _ g s0_0 t425 t426 from by exact st43_0 HI0.out) (Kd.R_g HO_6.out) (by decide)) hk; replace HO429 := rK (IsS43.apart (show IsS43 w0 _ g s0_0 t425 t426 from by exact st43_0 HI0.out) (Kd.R_g HO429.out) (by decide)) hk; replace HK := kT (by exact kb43_0 HK.out) hk; replace HI0 := mkA (hi); replace HB := mkA (hb); clear hb hk hi; have p22 : 0 ≤ (t424 : Int) := ofd; have q22 : (t424 : Int) < ((t418.length : Int) : Int) := ofd; obtain ⟨go22, co22, eo22, gb22, gl22, cl22, HG22⟩ := Kd.R_form HO_6.out (by omega); (first | cases eo22 | (injection eo22 with ea_ en_ ec_; (first | subst ea_ | (injection ea_ with ea_; subst ea_)); subst ec_; clear en_)); have GB22 : Ge _ _ := ⟨gb22⟩; have GG22 := mkA HG22; clear gb22 gl22 HG22; obtain ⟨hx22_0, hf22_0⟩ := Kd.R_celln 0 HO_6.out (t424 : Int) p22 q22; replace p22 := eq_true p22; replace q22 := eq_true q22; have n_ := mkA (Kd.R_mono (ok' := (fun k_ => some k_ ≠ (.slice Ao27 y427.length co27 : Value).ownBlock)) HO_6.out (fun k_ hk => hk.2)); clear HO_6; have HO_6 := n_; clear n_; obtain ⟨hy29_, hz29_⟩ := Kd.R_celln 0 HO_6.out (t424 : Int) (ofd) (ofd); have HP29 := Kd.R_putg HO_6.out (t424 : Int) t430) | ((with_reducible refine gate_store (t := 3) (p := 33) rfl ?_); refine store_event (t := 3) (p := 33) (v := ?vo_w30) (w1 := (w28.setCell ⟨go22, (t424 : Int).toNat, none⟩ (.int .i64 t430))) ?hg ?ho ?hn ?hr ?_; (case ho => rfl); (case hg => rfl); (case hn => rfl); (case hr => first | (go_simp; done) | (go_simp; rfl)); intro w30 hw; have hg : w28.grownBy w30 (some go22) := (by rw [hw]; exact HP29.2); have hp_ : Kd.R (Kd.int .i64) 3 w30 w.heap.size (fun k_ => some k_ ≠ (.slice Ao27 y427.length co27 : Value).ownBlock) (.slice (some ⟨go22, 0, none⟩) t418.length co23) y433 := (by rw [hw, Ny433.out]; exact HP29.1); clear HP29; replace HI0 := mkA (IsS43.grown (by exact st43_0 HI0.out) hg (IsS43.own_ne HI0.out HO_6.out (by decide))); replace HO429 := mkA (Kd.R_after (v := (.slice (some ⟨go22, 0, none⟩) t418.length co23)) (v1 := (.slice (some ⟨go22, 0, none⟩) t418.length co23)) (ok := (fun _ => True)) (Kd.R_g HO429.out) hg (.inl rfl)); replace HK := mkA (KeepBut.trans (by exact kb43_0 HK.out) (KeepBut.of_grown hg g) (Kd.R_base2 HO_6.out)); replace HO_6 := mkA (hp_); replace HB := mkA ((by rw [hw]; exact below_set (HB.out) (Nat.le_trans HL.out GB22.out) : Below w0.heap.size w0 w30)); clear hg hw hp_))
       go_ret
       exact ⟨_, eqE, Kd.R_g (Kd.R_mono HO_6.out (fun _ hk => trivial)), by exact st43_0 HI0.out, by exact bl43_0 HB.out HI0.out, by exact kb43_0 HK.out⟩
      ·replace c17 := Bool.eq_false_iff.mpr c17
       subst c17
       replace H := ifF H
       simp only [Option.some.injEq, Prod.mk.injEq] at H
       obtain ⟨rfl, rfl, rfl⟩ := H
       go_wp2
       go_ret
       exact ⟨_, eqE, Kd.R_g HO_6.out, by exact st43_0 HI0.out, by exact bl43_0 HB.out HI0.out, by exact kb43_0 HK.out⟩
end Go.Proofs.YtfpicdkanmgdoaaDoor.Q
