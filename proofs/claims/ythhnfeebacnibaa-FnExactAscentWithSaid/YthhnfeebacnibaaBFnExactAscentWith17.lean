import Derived.Test.YthhnfeebacnibaaBFnExactAscentWith0
import Derived.Test.YthhnfeebacnibaaBFnExactAscentWith7
import Derived.Test.YthhnfeebacnibaaBFnExactAscentWith8
import Derived.Test.YthhnfeebacnibaaBFnExactAscentWith9
import Derived.Test.YthhnfeebacnibaaBFnExactAscentWith15
-- printed by this project's own program (wip/mp/mp.py) over the kit's print, for this seat; Lean checks it
namespace Go.Proofs.Ythhnfeebacnibaa.Q
open Go.RowKit Go.Proofs.YthhnfeebacnibaaW.PrintWords Go.Proofs.YthhnfeebacnibaaW.PrintLast Go.Proofs.YthhnfeebacnibaaW.PrintMore
attribute [local go_sem] max2_int min2_int max_two min_two max_three min_three max_four min_four   -- for this text's walks alone
set_option linter.unusedVariables false
set_option linter.unusedSimpArgs false

/-! ### impl_rankAscent: function 62 -/
mutual
def impl_rankAscent.l0 : Nat → List Int → Int → Int → Int → List Int → Int → Int → Option (Int)
  | 0, _, _, _, _, _, _, _ => none
  | k + 1, x0, x4, x5, x6, x11, x12, x13 => if x13 < x12 then (if 0 ≤ x13 then (if x13 < (x11.length : Int) then (impl_rankAscent.l1 k x0 x4 x5 x6 x13 (rd x11 x13) x11 x12 x13 (rd x11 x13) 0) else (none)) else (none)) else (some x4)
def impl_rankAscent.l1 : Nat → List Int → Int → Int → Int → Int → Int → List Int → Int → Int → Int → Int → Option (Int)
  | 0, _, _, _, _, _, _, _, _, _, _, _ => none
  | k + 1, x0, x4, x5, x6, x7, x8, x11, x12, x13, x18, x19 => if x19 < x18 then ((impl_next.f x5 x6 x19).bind fun t530 => ((impl_counter_ways.f (wrap64 ((wrap64 ((x0.length : Int) - x7)) - 1)) x19 t530).bind fun t531 => (impl_rankAscent.l1 k x0 (wrap64 (x4 + t531)) x5 x6 x7 x8 x11 x12 x13 x18 (wrap64 (x19 + 1))))) else ((impl_next.f x5 x6 x8).bind fun t532 => (impl_rankAscent.l0 k x0 x4 x8 t532 x11 x12 (wrap64 (x13 + 1))))
end
def impl_rankAscent.f (k : Nat) (l0 : List Int) : Option (Int) := impl_rankAscent.l0 k l0 0 (-1) 0 l0 (l0.length : Int) 0
theorem impl_rankAscent.mono_l : ∀ k, (∀ y0 y1 y2 y3 y4 y5 y6, LeO (impl_rankAscent.l0 k y0 y1 y2 y3 y4 y5 y6) (impl_rankAscent.l0 (k + 1) y0 y1 y2 y3 y4 y5 y6)) ∧ (∀ y0 y1 y2 y3 y4 y5 y6 y7 y8 y9 y10, LeO (impl_rankAscent.l1 k y0 y1 y2 y3 y4 y5 y6 y7 y8 y9 y10) (impl_rankAscent.l1 (k + 1) y0 y1 y2 y3 y4 y5 y6 y7 y8 y9 y10))
  | 0 => ⟨fun _ _ _ _ _ _ _ r h => by simp [impl_rankAscent.l0] at h, fun _ _ _ _ _ _ _ _ _ _ _ r h => by simp [impl_rankAscent.l1] at h⟩
  | k + 1 => by
    obtain ⟨ih0, ih1⟩ := impl_rankAscent.mono_l k
    refine ⟨?_, ?_⟩
    · intro y0 y1 y2 y3 y4 y5 y6
      unfold impl_rankAscent.l0
      repeat' first
      | (with_reducible exact ih0 _ _ _ _ _ _ _)
      | (with_reducible exact ih1 _ _ _ _ _ _ _ _ _ _ _)
      | (with_reducible exact LeO.refl _)
      | (with_reducible exact LeO.none _)
      | (with_reducible refine LeO.ite ?_ ?_)
      | (with_reducible refine LeO.bind ?_ (fun _ => ?_))
      | exact ih0 _ _ _ _ _ _ _
      | exact ih1 _ _ _ _ _ _ _ _ _ _ _
      | exact LeO.none _
      | refine LeO.ite ?_ ?_
      | refine LeO.bind ?_ (fun _ => ?_)
    · intro y0 y1 y2 y3 y4 y5 y6 y7 y8 y9 y10
      unfold impl_rankAscent.l1
      repeat' first
      | (with_reducible exact ih0 _ _ _ _ _ _ _)
      | (with_reducible exact ih1 _ _ _ _ _ _ _ _ _ _ _)
      | (with_reducible exact LeO.refl _)
      | (with_reducible exact LeO.none _)
      | (with_reducible refine LeO.ite ?_ ?_)
      | (with_reducible refine LeO.bind ?_ (fun _ => ?_))
      | exact ih0 _ _ _ _ _ _ _
      | exact ih1 _ _ _ _ _ _ _ _ _ _ _
      | exact LeO.none _
      | refine LeO.ite ?_ ?_
      | refine LeO.bind ?_ (fun _ => ?_)
theorem impl_rankAscent.mono : ∀ a0 k, LeO (impl_rankAscent.f k a0) (impl_rankAscent.f (k + 1) a0) := by
  intro a0 k
  obtain ⟨ih0, ih1⟩ := impl_rankAscent.mono_l k
  unfold impl_rankAscent.f
  repeat' first
      | (with_reducible exact ih0 _ _ _ _ _ _ _)
      | (with_reducible exact ih1 _ _ _ _ _ _ _ _ _ _ _)
      | (with_reducible exact LeO.refl _)
      | (with_reducible exact LeO.none _)
      | (with_reducible refine LeO.ite ?_ ?_)
      | (with_reducible refine LeO.bind ?_ (fun _ => ?_))
      | exact ih0 _ _ _ _ _ _ _
      | exact ih1 _ _ _ _ _ _ _ _ _ _ _
      | exact LeO.none _
      | refine LeO.ite ?_ ?_
      | refine LeO.bind ?_ (fun _ => ?_)
set_option maxHeartbeats 8000000 in
set_option maxRecDepth 100000 in
theorem impl_rankAscent.calls (k : Nat) (A0 : Option Addr) (c0 : Nat) (l0 : List Int) (r : Int) (w : World) (hr0 : Kd.C (Kd.int .i64) w A0 l0.length l0) (hc0 : l0.length ≤ c0) (h : impl_rankAscent.f k l0 = some r) :
    Calls Try.prog 62 #[.slice A0 l0.length c0] w fun e w' => e = .returned (.int .i64 r) ∧ Below w.heap.size w w' := by
  have HR0 := Aside0.mk hr0
  have HC0 := Aside0.mk hc0
  clear hr0 hc0
  have HB := Aside0.mk (Below.refl w.heap.size w)
  have H : (impl_rankAscent.l0 k l0 0 (-1) 0 l0 (l0.length : Int) 0) = some r := h
  clear h
  have H' := Aside0.mk H
  clear H
  go_enter Try.func62, Try.ntmps62
  go_wp2_with (first | ((with_reducible refine gate_dst (N := 10) rfl ?_); refine map_event ?hg (N := 10) ?hd ?hr ?_; (case hd => rfl); (case hg => rfl); (case hr => first | (go_simp; done) | (go_simp; rfl)); intro gb528 hg w2 hbox hb; have n0_ := Aside0.mk (below_step (by repeat (first | (with_reducible first | exact HB.out | apply below_alloc | apply pw_below_drewN | apply below_drew1) | exact HB.out)) hb); have n1_ := Aside0.mk ((⟨_, _, hbox, MapOk.none, (by rw [hg]; exact (below_size (by repeat (first | (with_reducible first | exact HB.out | apply below_alloc | apply pw_below_drewN | apply below_drew1) | exact HB.out))))⟩ : IsS48 w w2 gb528)); have n2_ := Aside0.mk ((by rw [hg]; exact (below_size (by repeat (first | (with_reducible first | exact HB.out | apply below_alloc | apply pw_below_drewN | apply below_drew1) | exact HB.out))) : w.heap.size ≤ gb528)); have n3_ := Aside0.mk ((by rw [hg]; exact (below_size (by repeat (first | (with_reducible first | exact HB.out | apply below_alloc | apply pw_below_drewN | apply below_drew1) | exact HB.out))) : w.heap.size ≤ gb528)); clear HB; have HB := n0_; have HI528 := n1_; have GW528 := n2_; have GE528 := n3_; clear n0_ n1_ n2_ n3_; clear hb hbox hg))
  go_loopg [4, 5, 6, 13] k (fun kq v4 v5 v6 v13 w' => ∃ (x4_1 : Int) (x5_1 : Int) (x6_1 : Int) (x13_1 : Int), v4 = .int .i64 x4_1 ∧ v5 = .int .i64 x5_1 ∧ v6 = .int .i64 x6_1 ∧ v13 = .int .i64 x13_1 ∧ Aside0 (impl_rankAscent.l0 kq l0 x4_1 x5_1 x6_1 l0 (l0.length : Int) x13_1 = some r) ∧ Aside0 (kq ≤ k) ∧ Aside0 (IsS48 w w' gb528 ) ∧ Aside0 (Below w.heap.size w w'))
  case atStart => exact ⟨(0), ((-1)), (0), (0), (by first | rfl | (simp; done) | (simp [*]; done)), (by first | rfl | (simp; done) | (simp [*]; done)), (by first | rfl | (simp; done) | (simp [*]; done)), (by first | rfl | (simp; done) | (simp [*]; done)), H', ⟨Nat.le_refl _⟩, ⟨by repeat (first | (with_reducible first | exact HI528.out | apply IsS48.alloc | apply IsS48.drewN | apply IsS48.drew) | exact HI528.out)⟩, ⟨by repeat (first | (with_reducible first | exact HB.out | apply below_alloc | apply pw_below_drewN | apply below_drew1 | refine below_set ?_ (IsS48.ge HI528.out)) | exact HB.out)⟩⟩
  case round =>
    clear H'
    try clear p2
    obtain ⟨x4_1, x5_1, x6_1, x13_1, rfl, rfl, rfl, rfl, HA, HK1, HI528, HB⟩ := hrel
    cases gk with
    | zero => exact absurd HA.out (by simp [impl_rankAscent.l0])
    | succ k1 =>
      have H := HA.out
      clear HA
      simp only [impl_rankAscent.l0] at H
      by_cases c3 : x13_1 < (l0.length : Int)
      · rw [if_pos c3] at H
        have c3b0 : decide (x13_1 < (l0.length : Int)) = true := decide_eq_true c3
        clear c3
        by_cases c4 : 0 ≤ x13_1
        · rw [if_pos c4] at H
          have c4b0 : decide (0 ≤ x13_1) = true := decide_eq_true c4
          clear c4
          by_cases c5 : x13_1 < (l0.length : Int)
          · rw [if_pos c5] at H
            have c5b0 : decide (x13_1 < (l0.length : Int)) = true := decide_eq_true c5
            clear c5
            have H' := Aside0.mk H
            clear H
            have p529 : 0 ≤ (x13_1 : Int) := of_decide_eq_true (by first | (with_reducible assumption) | assumption)
            have q529 : x13_1 < (l0.length : Int) := of_decide_eq_true (by first | (with_reducible assumption) | assumption)
            obtain ⟨ad529, e529, hx529_0⟩ := Kd.at_int HR0.out x13_1 p529 q529
            cases e529
            replace hx529_0 := (HB.out.cell (World.block_lt_of_cell? w _ hx529_0)).trans hx529_0
            replace p529 := eq_true p529
            replace q529 := eq_true q529
            go_wp2
            go_loopg [4, 19] k1 (fun kq v4 v19 w' => ∃ (x4_2 : Int) (x19_2 : Int), v4 = .int .i64 x4_2 ∧ v19 = .int .i64 x19_2 ∧ Aside0 (impl_rankAscent.l1 kq l0 x4_2 x5_1 x6_1 x13_1 (rd l0 x13_1) l0 (l0.length : Int) x13_1 (rd l0 x13_1) x19_2 = some r) ∧ Aside0 (kq ≤ k1) ∧ Aside0 (IsS48 w w' gb528 ) ∧ Aside0 (Below w.heap.size w w'))
            case atStart => exact ⟨(x4_1), (0), (by first | rfl | (simp; done) | (simp [*]; done)), (by first | rfl | (simp; done) | (simp [*]; done)), H', ⟨Nat.le_refl _⟩, ⟨by repeat (first | (with_reducible first | exact HI528.out | apply IsS48.alloc | apply IsS48.drewN | apply IsS48.drew) | exact HI528.out)⟩, ⟨by repeat (first | (with_reducible first | exact HB.out | apply below_alloc | apply pw_below_drewN | apply below_drew1 | refine below_set ?_ (IsS48.ge HI528.out)) | exact HB.out)⟩⟩
            case round =>
              clear H'
              try clear p2
              try clear c3
              try clear c3b0
              try clear c4
              try clear c4b0
              try clear c5
              try clear c5b0
              try clear p5
              try clear q5
              try clear hx5
              try clear hx529_0
              try clear p2
              try clear p529
              try clear q529
              obtain ⟨x4_2, x19_2, rfl, rfl, HA, HK2, HI528, HB⟩ := hrel
              cases gk with
              | zero => exact absurd HA.out (by simp [impl_rankAscent.l1])
              | succ k2 =>
                have H := HA.out
                clear HA
                simp only [impl_rankAscent.l1] at H
                by_cases c6 : x19_2 < (rd l0 x13_1)
                · rw [if_pos c6] at H
                  have c6b0 : decide (x19_2 < (rd l0 x13_1)) = true := decide_eq_true c6
                  clear c6
                  replace H := Option.bind_eq_some_iff.mp H
                  obtain ⟨t530, A70, H⟩ := H
                  replace H : ((impl_counter_ways.f (wrap64 ((wrap64 ((l0.length : Int) - x13_1)) - 1)) x19_2 t530).bind fun t531 => (impl_rankAscent.l1 k2 l0 (wrap64 (x4_2 + t531)) x5_1 x6_1 x13_1 (rd l0 x13_1) l0 (l0.length : Int) x13_1 (rd l0 x13_1) (wrap64 (x19_2 + 1)))) = some r := H
                  have A7 := Aside0.mk A70
                  clear A70
                  replace H := Option.bind_eq_some_iff.mp H
                  obtain ⟨t531, A80, H⟩ := H
                  replace H : (impl_rankAscent.l1 k2 l0 (wrap64 (x4_2 + t531)) x5_1 x6_1 x13_1 (rd l0 x13_1) l0 (l0.length : Int) x13_1 (rd l0 x13_1) (wrap64 (x19_2 + 1))) = some r := H
                  have A8 := Aside0.mk A80
                  clear A80
                  have H' := Aside0.mk H
                  clear H
                  go_wp2_with (first | ((with_reducible refine gate_callee (f := 60) rfl ?_); refine goesL_ (some 33) rfl rfl Try.func60 (by kernel_rfl) rfl #[.int .i64 x5_1, .int .i64 x6_1, .int .i64 x19_2] rfl (by (try simp only [List.map_toArray, List.map_cons, List.map_nil]); first | done | rfl | (simp only [List.length_drop, List.length_take]; rfl)) ?_; (with_reducible refine (impl_next.calls x5_1 x6_1 x19_2 t530 _ A7.out).mono ?_); rintro e w' ⟨rfl, ⟨nd, rfl⟩⟩; refine ⟨_, rfl, ?_⟩) | ((with_reducible refine gate_callee (f := 53) rfl ?_); refine goesL_ (some 34) rfl rfl Try.func53 (by kernel_rfl) rfl #[.map (some gb528), .int .i64 (wrap64 ((wrap64 ((l0.length : Int) - x13_1)) - 1)), .int .i64 x19_2, .int .i64 t530] rfl (by (try simp only [List.map_toArray, List.map_cons, List.map_nil]); first | done | rfl | (simp only [List.length_drop, List.length_take]; rfl)) ?_; (with_reducible refine (impl_counter_ways.calls gb528  (wrap64 ((wrap64 ((l0.length : Int) - x13_1)) - 1)) x19_2 t530 t531 w _ ?side1 ?side2 A8.out).mono ?_); (case side1 => repeat (first | (with_reducible first | exact HI528.out | apply IsS48.alloc | apply IsS48.drewN | apply IsS48.drew) | exact HI528.out)); (case side2 => repeat (first | (with_reducible first | exact HB.out | apply below_alloc | apply pw_below_drewN | apply below_drew1 | refine below_set ?_ (IsS48.ge HI528.out)) | exact HB.out)); rintro e w9 ⟨rfl, hi, hb, hk⟩; refine ⟨_, rfl, ?_⟩; have n0_ := Aside0.mk (hb); have n1_ := Aside0.mk (hi); clear HB; clear HI528; have HB := n0_; have HI528 := n1_; clear n0_ n1_; (try clear hb); (try clear hb2); (try clear hk); (try clear hi)))
                  go_roundg k2
                  case measure => have := HK1.out; have := HK2.out; omega
                  case rel => exact ⟨(wrap64 (x4_2 + t531)), (wrap64 (x19_2 + 1)), (by first | rfl | (simp; done) | (simp [*]; done)), (by first | rfl | (simp; done) | (simp [*]; done)), H', ⟨by have := HK1.out; have := HK2.out; omega⟩, ⟨by repeat (first | (with_reducible first | exact HI528.out | apply IsS48.alloc | apply IsS48.drewN | apply IsS48.drew) | exact HI528.out)⟩, ⟨by repeat (first | (with_reducible first | exact HB.out | apply below_alloc | apply pw_below_drewN | apply below_drew1 | refine below_set ?_ (IsS48.ge HI528.out)) | exact HB.out)⟩⟩
                · rw [if_neg c6] at H
                  have c6b0 : decide (x19_2 < (rd l0 x13_1)) = false := decide_eq_false c6
                  clear c6
                  replace H := Option.bind_eq_some_iff.mp H
                  obtain ⟨t532, A100, H⟩ := H
                  replace H : (impl_rankAscent.l0 k2 l0 x4_2 (rd l0 x13_1) t532 l0 (l0.length : Int) (wrap64 (x13_1 + 1))) = some r := H
                  have A10 := Aside0.mk A100
                  clear A100
                  have H' := Aside0.mk H
                  clear H
                  go_wp2_with (first | ((with_reducible refine gate_callee (f := 60) rfl ?_); refine goesL_ (some 40) rfl rfl Try.func60 (by kernel_rfl) rfl #[.int .i64 x5_1, .int .i64 x6_1, .int .i64 (rd l0 x13_1)] rfl (by (try simp only [List.map_toArray, List.map_cons, List.map_nil]); first | done | rfl | (simp only [List.length_drop, List.length_take]; rfl)) ?_; (with_reducible refine (impl_next.calls x5_1 x6_1 (rd l0 x13_1) t532 _ A10.out).mono ?_); rintro e w' ⟨rfl, ⟨nd, rfl⟩⟩; refine ⟨_, rfl, ?_⟩))
                  go_roundg k2
                  case measure => have := HK1.out; have := HK2.out; omega
                  case rel => exact ⟨(x4_2), ((rd l0 x13_1)), (t532), (wrap64 (x13_1 + 1)), (by first | rfl | (simp; done) | (simp [*]; done)), (by first | rfl | (simp; done) | (simp [*]; done)), (by first | rfl | (simp; done) | (simp [*]; done)), (by first | rfl | (simp; done) | (simp [*]; done)), H', ⟨by have := HK1.out; have := HK2.out; omega⟩, ⟨by repeat (first | (with_reducible first | exact HI528.out | apply IsS48.alloc | apply IsS48.drewN | apply IsS48.drew) | exact HI528.out)⟩, ⟨by repeat (first | (with_reducible first | exact HB.out | apply below_alloc | apply pw_below_drewN | apply below_drew1 | refine below_set ?_ (IsS48.ge HI528.out)) | exact HB.out)⟩⟩
          · rw [if_neg c5] at H
            exact absurd H (by simp)
        · rw [if_neg c4] at H
          exact absurd H (by simp)
      · rw [if_neg c3] at H
        have c3b0 : decide (x13_1 < (l0.length : Int)) = false := decide_eq_false c3
        clear c3
        obtain rfl := Option.some.inj H
        go_wp2
        go_ret
        exact ⟨by first | rfl | (simp [errW_none, errW_some] <;> rfl) | (simp [*, errW_none, errW_some] <;> rfl), by repeat (first | (with_reducible first | exact HB.out | apply below_alloc | apply pw_below_drewN | apply below_drew1 | refine below_set ?_ (IsS48.ge HI528.out)) | exact HB.out)⟩

end Go.Proofs.Ythhnfeebacnibaa.Q

namespace Go.Proofs.Ythhnfeebacnibaa.Pure
open Go.RowKit Go.Proofs.Ythhnfeebacnibaa.Q Go.Proofs.YthhnfeebacnibaaW.PrintWords Go.Proofs.YthhnfeebacnibaaW.PrintLast
set_option linter.unusedVariables false
set_option linter.unusedSimpArgs false

theorem ways_f {m : Nat} {l a : Int} (h : 0 ≤ a ∧ a + m ≤ 13 ∧ -1 ≤ l ∧ l ≤ 14) : impl_counter_ways.f (m : Int) l a = some (wys m l a) := by
  unfold impl_counter_ways.f
  rw [if_pos (by omega), Int.toNat_natCast]
theorem drop_rd' (l : List Int) (i : Nat) (h : i < l.length) : l.drop i = rd l (i : Int) :: l.drop (i + 1) := by
  rw [rd_lt l i h]; exact List.drop_eq_getElem_cons h
theorem rank_l1 (l : List Int) (hl : l.length ≤ 12) (i : Nat) (hi : i < l.length) (last a : Int) (ha : 0 ≤ a ∧ a ≤ i) (hx : 0 ≤ rd l (i : Int) ∧ rd l (i : Int) ≤ 13) (acc R : Int) (hacc : 0 ≤ acc)
    (hs : acc + sumTo (fun y => wys (l.length - i - 1) y (nx last a y)) (rd l (i : Int)).toNat ≤ 1946195068359375)
    (hk : Ev (fun k => impl_rankAscent.l0 k l (acc + sumTo (fun y => wys (l.length - i - 1) y (nx last a y)) (rd l (i : Int)).toNat) (rd l (i : Int)) (nx last a (rd l (i : Int))) l (l.length : Int) ((i + 1 : Nat) : Int)) R) (d : Nat) :
    ∀ j : Nat, j + d = (rd l (i : Int)).toNat → Ev (fun k => impl_rankAscent.l1 k l (acc + sumTo (fun y => wys (l.length - i - 1) y (nx last a y)) j) last a i (rd l (i : Int)) l (l.length : Int) i (rd l (i : Int)) (j : Int)) R := by
  induction d with
  | zero =>
    intro j hj
    refine Ev.shift ?_
    simp only [impl_rankAscent.l1]
    refine Ev.neg (by omega) (Ev.bindc (Counter.next_f last a (rd l (i : Int)) (by omega)) ?_)
    rw [wrap64_id (x := (i : Int) + 1) (by omega) (by omega), cast1, show j = (rd l (i : Int)).toNat by omega]
    exact hk
  | succ d ih =>
    intro j hj
    have hnr := nx_range (last := last) (a := a) (x := (j : Int))
    have h1 := sumTo_mono (f := fun y => wys (l.length - i - 1) y (nx last a y)) (m := j + 1) (n := (rd l (i : Int)).toNat) (by omega) (fun i _ => wys_nonneg _ _ _)
    have h2 := sumTo_nonneg (f := fun y => wys (l.length - i - 1) y (nx last a y)) (n := j) (fun i _ => wys_nonneg _ _ _)
    have h3 : 0 ≤ wys (l.length - i - 1) (j : Int) (nx last a (j : Int)) := wys_nonneg _ _ _
    simp only [sumTo] at h1
    refine Ev.shift ?_
    simp only [impl_rankAscent.l1]
    refine Ev.pos (by omega) (Ev.bindc (Counter.next_f last a (j : Int) (by omega)) ?_)
    rw [wrap64_id (x := (l.length : Int) - (i : Int)) (by omega) (by omega), wrap64_id (x := (l.length : Int) - (i : Int) - 1) (by omega) (by omega), show (l.length : Int) - (i : Int) - 1 = ((l.length - i - 1 : Nat) : Int) by omega]
    refine Ev.bindc (ways_f (by omega)) ?_
    rw [wrap64_id (x := (j : Int) + 1) (by omega) (by omega), cast1, wrap64_id (by omega) (by omega), Int.add_assoc]
    exact ih (j + 1) (by omega)
theorem rank_l0 (l : List Int) (hl : l.length ≤ 12) (T : Int) (hT : T ≤ 1946195068359375) (d : Nat) : ∀ (i : Nat) (last a acc : Int), i + d = l.length → 0 ≤ a ∧ a ≤ i → Goes last a (l.drop i) → 0 ≤ acc → acc + rank last a (l.drop i) = T →
    Ev (fun k => impl_rankAscent.l0 k l acc last a l (l.length : Int) (i : Int)) T := by
  induction d with
  | zero =>
    intro i last a acc hi ha hg h0 hr
    refine Ev.shift ?_
    simp only [impl_rankAscent.l0]
    refine Ev.neg (by omega) (Ev.ret ?_)
    rw [List.drop_of_length_le (by omega)] at hr
    simpa [rank] using hr
  | succ d ih =>
    intro i last a acc hi ha hg h0 hr
    rw [drop_rd' l i (by omega)] at hg hr
    obtain ⟨g1, g2, g3⟩ := hg
    have ht := topN_range (last := last) ha.1
    have hnr := nx_range (last := last) (a := a) (x := rd l (i : Int))
    have hrr := rank_range _ _ _ g3
    have hs0 := sumTo_nonneg (f := fun y => wys (l.length - i - 1) y (nx last a y)) (n := (rd l (i : Int)).toNat) (fun i _ => wys_nonneg _ _ _)
    simp only [rank, List.length_drop] at hr
    rw [show l.length - (i + 1) = l.length - i - 1 by omega] at hr
    refine Ev.shift ?_
    simp only [impl_rankAscent.l0]
    refine Ev.pos (by omega) (Ev.pos (by omega) (Ev.pos (by omega) ?_))
    have := rank_l1 l hl i (by omega) last a ha (by omega) acc T h0 (by omega) (ih (i + 1) _ _ _ (by omega) (by omega) g3 (by omega) (by omega)) (rd l (i : Int)).toNat 0 (by omega)
    simpa [sumTo] using this
theorem rankAscent_ev (l : List Int) (h : isAsc l = true) : Ev (fun k => impl_rankAscent.f k l) (rank (-1) 0 l) := by
  obtain ⟨hl, hg⟩ := isAsc_goes.1 h
  have hr := rank_range l (-1) 0 hg
  have hb := wys_big (m := l.length) (last := -1) (a := 0) (by omega) (by omega)
  unfold impl_rankAscent.f
  exact rank_l0 l hl (rank (-1) 0 l) (by omega) l.length 0 (-1) 0 0 (by omega) (by omega) (by simpa using hg) (by omega) (by simp)
theorem findK_range (f : Int → Int) (hf : ∀ i, 0 ≤ i → 0 ≤ f i) : ∀ (d : Nat) (k r : Int), 0 ≤ k → 0 ≤ r → r + sumTo f k.toNat < sumTo f (k.toNat + d + 1) →
    k ≤ (findK f d k r).1 ∧ (findK f d k r).1 ≤ k + d ∧ 0 ≤ (findK f d k r).2 ∧ (findK f d k r).2 < f (findK f d k r).1
  | 0, k, r, h0, hr, h => by
    simp only [findK, Nat.add_zero, sumTo] at h ⊢
    rw [show ((k.toNat : Nat) : Int) = k by omega] at h
    omega
  | d + 1, k, r, h0, hr, h => by
    simp only [findK]
    by_cases hc : r < f k
    · rw [if_pos hc]; exact ⟨by omega, by simp; omega, hr, hc⟩
    · rw [if_neg hc]
      have ih := findK_range f hf d (k + 1) (r - f k) (by omega) (by omega) (by
        rw [show (k + 1).toNat = k.toNat + 1 by omega, show k.toNat + 1 + d + 1 = k.toNat + (d + 1) + 1 by omega]
        simp only [sumTo] at h ⊢
        rw [show ((k.toNat : Nat) : Int) = k by omega]; omega)
      omega
theorem with_l1 (n : Nat) (hn : n ≤ 12) (out : List Int) (m : Nat) (hm : out.length + (m + 1) = n) (last a : Int) (ha : 0 ≤ a ∧ a ≤ out.length) (R : List Int × Bool) (d : Nat) : ∀ (k : Nat) (r : Int), ((k + d : Nat) : Int) = topN last a → 0 ≤ r → r ≤ 1946195068359375 →
    r + sumTo (fun x => wys m x (nx last a x)) k < sumTo (fun x => wys m x (nx last a x)) (k + d + 1) →
    Ev (fun κ => impl_AscentWith.l0 κ n (findK (fun x => wys m x (nx last a x)) d k r).2 (out ++ [(findK (fun x => wys m x (nx last a x)) d k r).1]) (findK (fun x => wys m x (nx last a x)) d k r).1 (nx last a (findK (fun x => wys m x (nx last a x)) d k r).1)) R →
    Ev (fun κ => impl_AscentWith.l1 κ n r out last a (k : Int)) R := by
  have ht := topN_range (last := last) ha.1
  have go : ∀ (k : Nat) (r : Int), (k : Int) ≤ topN last a → r < wys m k (nx last a k) → Ev (fun κ => impl_AscentWith.l0 κ n r (out ++ [(k : Int)]) k (nx last a k)) R → Ev (fun κ => impl_AscentWith.l1 κ n r out last a (k : Int)) R := by
    intro k r hk hr h
    have hnr := nx_range (last := last) (a := a) (x := (k : Int))
    refine Ev.shift ?_
    simp only [impl_AscentWith.l1]
    refine Ev.bindc (Counter.next_f last a (k : Int) (by omega)) ?_
    rw [wrap64_id (x := (n : Int) - (out.length : Int)) (by omega) (by omega), wrap64_id (by omega) (by omega), show (n : Int) - (out.length : Int) - 1 = (m : Int) by omega]
    exact Ev.bindc (ways_f (by omega)) (Ev.pos hr (Ev.bindc (Counter.next_f last a (k : Int) (by omega)) (Ev.pos (by omega) h)))
  induction d with
  | zero =>
    intro k r hk hr hrb hlt h
    simp only [findK] at h
    simp only [Nat.add_zero, sumTo] at hlt hk
    exact go k r (by omega) (by omega) h
  | succ d ih =>
    intro k r hk hr hrb hlt h
    simp only [findK] at h
    by_cases hc : r < wys m k (nx last a k)
    · rw [if_pos hc] at h
      exact go k r (by omega) hc h
    · rw [if_neg hc] at h
      have hnr := nx_range (last := last) (a := a) (x := (k : Int))
      have hw : 0 ≤ wys m k (nx last a k) := wys_nonneg _ _ _
      refine Ev.shift ?_
      simp only [impl_AscentWith.l1]
      refine Ev.bindc (Counter.next_f last a (k : Int) (by omega)) ?_
      rw [wrap64_id (x := (n : Int) - (out.length : Int)) (by omega) (by omega), wrap64_id (x := (n : Int) - (out.length : Int) - 1) (by omega) (by omega), show (n : Int) - (out.length : Int) - 1 = (m : Int) by omega]
      refine Ev.bindc (ways_f (by omega)) (Ev.neg hc ?_)
      rw [wrap64_id (x := (k : Int) + 1) (by omega) (by omega), wrap64_id (by omega) (by omega)]
      rw [show (k : Int) + 1 = ((k + 1 : Nat) : Int) by omega] at h ⊢
      refine ih (k + 1) _ (by omega) (by omega) (by omega) ?_ h
      rw [show k + (d + 1) + 1 = k + 1 + d + 1 by omega] at hlt
      simp only [sumTo] at hlt ⊢
      omega
theorem with_l0 (n : Nat) (hn : n ≤ 12) : ∀ (m : Nat) (out : List Int) (last a r : Int), out.length + m = n → 0 ≤ a ∧ a ≤ out.length → 0 ≤ r → r < wys m last a →
    Ev (fun κ => impl_AscentWith.l0 κ n r out last a) (out ++ unrank m last a r, true)
  | 0, out, last, a, r, hm, ha, hr, hlt => by
    refine Ev.shift ?_
    simp only [impl_AscentWith.l0]
    exact Ev.neg (by omega) (Ev.ret (by simp [unrank]))
  | m + 1, out, last, a, r, hm, ha, hr, hlt => by
    have ht := topN_range (last := last) ha.1
    have hb := wys_big (m := m + 1) (last := last) (a := a) ha.1 (by omega)
    have hlt2 := hlt
    simp only [wys] at hlt
    rw [show (topN last a + 1).toNat = (topN last a).toNat + 1 by omega] at hlt
    have hf := findK_range (fun x => wys m x (nx last a x)) (fun i _ => wys_nonneg _ _ _) (topN last a).toNat 0 r (by omega) hr (by simpa [sumTo] using hlt)
    have hnr := nx_range (last := last) (a := a) (x := (findK (fun x => wys m x (nx last a x)) (topN last a).toNat 0 r).1)
    have ih := with_l0 n hn m (out ++ [(findK (fun x => wys m x (nx last a x)) (topN last a).toNat 0 r).1]) (findK (fun x => wys m x (nx last a x)) (topN last a).toNat 0 r).1 (nx last a (findK (fun x => wys m x (nx last a x)) (topN last a).toNat 0 r).1) (findK (fun x => wys m x (nx last a x)) (topN last a).toNat 0 r).2 (by simp; omega) (by simp; omega) hf.2.2.1 hf.2.2.2
    rw [List.append_assoc] at ih
    refine Ev.shift ?_
    simp only [impl_AscentWith.l0]
    refine Ev.pos (by omega) ?_
    have := with_l1 n hn out m (by omega) last a ha _ (topN last a).toNat 0 r (by omega) hr (by omega) (by simpa [sumTo] using hlt) ih
    exact this
theorem impl_in' (a b c : Int) : impl_within.f a b c = some (decide (b ≤ a ∧ a ≤ c)) := impl_in a b c
/-- what AscentWith answers -/
def withR (n r : Int) : List Int × Bool := if (0 ≤ n ∧ n ≤ 12) ∧ 0 ≤ r ∧ r < wys n.toNat (-1) 0 then (unrank n.toNat (-1) 0 r, true) else ([], false)
theorem with_ev (n r : Int) : Ev (fun k => impl_AscentWith.f k n r) (withR n r) := by
  unfold impl_AscentWith.f withR
  refine Ev.bindc (impl_in _ _ _) ?_
  have hno : Ev (fun k => impl_AscentWith.j0 k n r true) ([], false) := by
    refine Ev.shift ?_
    simp only [impl_AscentWith.j0]
    exact Ev.pos trivial (Ev.ret rfl)
  by_cases h : 0 ≤ n ∧ n ≤ 12
  · have hw := wys_nonneg n.toNat (-1) 0
    have hb := wys_big (m := n.toNat) (last := -1) (a := 0) (by omega) (by omega)
    have hn : ((n.toNat : Nat) : Int) = n := by omega
    have hf := ways_f (m := n.toNat) (l := -1) (a := 0) (by omega)
    rw [hn] at hf
    refine Ev.pos (by simpa using h) (Ev.bindc hf (Ev.bindc (impl_in _ _ _) ?_))
    rw [wrap64_id (by omega) (by omega)]
    by_cases h2 : 0 ≤ r ∧ r < wys n.toNat (-1) 0
    · rw [if_pos ⟨h, h2⟩, show (!decide (0 ≤ r ∧ r ≤ wys n.toNat (-1) 0 - 1)) = false by simp; omega]
      refine Ev.shift ?_
      simp only [impl_AscentWith.j0]
      refine Ev.neg (by simp) ?_
      have := with_l0 n.toNat (by omega) n.toNat [] (-1) 0 r (by simp) (by simp) h2.1 h2.2
      rw [hn] at this
      exact this
    · rw [if_neg (fun e => h2 e.2), show (!decide (0 ≤ r ∧ r ≤ wys n.toNat (-1) 0 - 1)) = true by simp; omega]
      exact hno
  · rw [if_neg (fun e => h e.1)]
    exact Ev.neg (by simpa using h) hno

end Go.Proofs.Ythhnfeebacnibaa.Pure
