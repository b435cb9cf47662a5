import Derived.Test.YtjojalbgpemjoaaBFnExactMajorityOf0
import Derived.Test.YtjojalbgpemjoaaBFnExactMajorityOf1
import Derived.Test.YtjojalbgpemjoaaBFnExactMajorityOf2
import Derived.Test.YtjojalbgpemjoaaBFnExactMajorityOf3
import Derived.Test.YtjojalbgpemjoaaBFnExactMajorityOf6
import Derived.Test.YtjojalbgpemjoaaBFnExactMajorityOf7
import Derived.Test.YtjojalbgpemjoaaBFnExactMajorityOf13
import Derived.Test.YtjojalbgpemjoaaBFnExactMajorityOf14
-- printed by this project's own program (wip/mp/mp.py) over the kit's print, for this seat; Lean checks it
namespace Go.Proofs.Ytjojalbgpemjoaa.Q
open Go.RowKit Go.Proofs.YtjojalbgpemjoaaW.PrintWords Go.Proofs.YtjojalbgpemjoaaW.PrintLast Go.Proofs.YtjojalbgpemjoaaW.PrintMore
attribute [local go_sem] max2_int min2_int max_two min_two max_three min_three max_four min_four   -- for this text's walks alone
set_option linter.unusedVariables false
set_option linter.unusedSimpArgs false

/-! ### laws_FnExactMajorityOf: function 11 -/
mutual
def laws_FnExactMajorityOf.j0 : Nat → List (List Int) → Bool → List (List Int) → Bool → Bool → Int → List Int → Int → List Int → Option (Bool)
  | 0, _, _, _, _, _, _, _, _, _ => none
  | k + 1, x0, x5, x6, x8, x40, x857000, x857001, x866000, x866001 => if x40 = true then (some false) else ((laws_toIntSS.f k x0).bind fun t867 => ((laws_eqIntSS.f k x6 t867).bind fun t870 => (if t870 = true then ((laws_markIntSS.f k x6 1).bind fun t871 => (if t871 < 0 then (laws_FnExactMajorityOf.j1 k x0 x5 true x857000 x857001 x866000 x866001) else ((laws_eqOrder.f k x866000 x866001 x857000 x857001).bind fun t872 => (if t872 = true then (laws_FnExactMajorityOf.j1 k x0 x5 (x8 != x5) x857000 x857001 x866000 x866001) else (laws_FnExactMajorityOf.j1 k x0 x5 true x857000 x857001 x866000 x866001))))) else (some false))))
def laws_FnExactMajorityOf.j1 : Nat → List (List Int) → Bool → Bool → Int → List Int → Int → List Int → Option (Bool)
  | 0, _, _, _, _, _, _, _ => none
  | k + 1, x0, x5, x61, x857000, x857001, x866000, x866001 => if x61 = true then (some false) else ((laws_markOrder.f k x866000 x866001 1).bind fun bt873 => ((laws_heldOrder.f k x866000 bt873.2 1).bind fun t875 => (if t875 < 0 then (some false) else (if t875 = bt873.1 then ((laws_toIntSS.f k x0).bind fun t876 => ((impl_MajorityOf.f k t876).bind fun bt879 => ((laws_eqOrder.f k bt879.1 bt879.2.1 x857000 x857001).bind fun t885 => (if t885 = true then (laws_FnExactMajorityOf.j2 k bt873.1 (bt879.2.2 != x5) x866000 bt873.2) else (laws_FnExactMajorityOf.j2 k bt873.1 true x866000 bt873.2))))) else (some false)))))
def laws_FnExactMajorityOf.j2 : Nat → Int → Bool → Int → List Int → Option (Bool)
  | 0, _, _, _, _ => none
  | k + 1, x10, x87, x866000, x866001 => if x87 = true then (some false) else ((laws_heldOrder.f k x866000 x866001 1).bind fun t886 => (if t886 < 0 then (some false) else (if t886 = x10 then (some true) else (some false))))
end
def laws_FnExactMajorityOf.f (k : Nat) (l0 : List (List Int)) : Option (Bool) := (laws_szIntSS.f k l0 1048576).bind fun t847 => (if t847 < 0 then (some true) else ((laws_toIntSS.f k l0).bind fun t848 => ((spec_MajorityOf.f k t848).bind fun bt851 => ((laws_toIntSS.f k l0).bind fun t857 => ((impl_MajorityOf.f k t857).bind fun bt860 => ((laws_eqOrder.f k bt860.1 bt860.2.1 bt851.1 bt851.2.1).bind fun t866 => (if t866 = true then (laws_FnExactMajorityOf.j0 k l0 bt851.2.2 t857 bt860.2.2 (bt860.2.2 != bt851.2.2) bt851.1 bt851.2.1 bt860.1 bt860.2.1) else (laws_FnExactMajorityOf.j0 k l0 bt851.2.2 t857 bt860.2.2 true bt851.1 bt851.2.1 bt860.1 bt860.2.1))))))))
theorem laws_FnExactMajorityOf.mono_l : ∀ k, (∀ y0 y1 y2 y3 y4 y5 y6 y7 y8, LeO (laws_FnExactMajorityOf.j0 k y0 y1 y2 y3 y4 y5 y6 y7 y8) (laws_FnExactMajorityOf.j0 (k + 1) y0 y1 y2 y3 y4 y5 y6 y7 y8)) ∧ (∀ y0 y1 y2 y3 y4 y5 y6, LeO (laws_FnExactMajorityOf.j1 k y0 y1 y2 y3 y4 y5 y6) (laws_FnExactMajorityOf.j1 (k + 1) y0 y1 y2 y3 y4 y5 y6)) ∧ (∀ y0 y1 y2 y3, LeO (laws_FnExactMajorityOf.j2 k y0 y1 y2 y3) (laws_FnExactMajorityOf.j2 (k + 1) y0 y1 y2 y3))
  | 0 => ⟨fun _ _ _ _ _ _ _ _ _ r h => by simp [laws_FnExactMajorityOf.j0] at h, fun _ _ _ _ _ _ _ r h => by simp [laws_FnExactMajorityOf.j1] at h, fun _ _ _ _ r h => by simp [laws_FnExactMajorityOf.j2] at h⟩
  | k + 1 => by
    obtain ⟨ih0, ih1, ih2⟩ := laws_FnExactMajorityOf.mono_l k
    refine ⟨?_, ?_, ?_⟩
    · intro y0 y1 y2 y3 y4 y5 y6 y7 y8
      unfold laws_FnExactMajorityOf.j0
      repeat' first
      | (with_reducible exact ih0 _ _ _ _ _ _ _ _ _)
      | (with_reducible exact ih1 _ _ _ _ _ _ _)
      | (with_reducible exact ih2 _ _ _ _)
      | (with_reducible exact impl_MajorityOf.mono _ _)
      | (with_reducible exact laws_eqIntSS.mono _ _ _)
      | (with_reducible exact laws_eqOrder.mono _ _ _ _ _)
      | (with_reducible exact laws_heldOrder.mono _ _ _ _)
      | (with_reducible exact laws_markIntSS.mono _ _ _)
      | (with_reducible exact laws_markOrder.mono _ _ _ _)
      | (with_reducible exact laws_szIntSS.mono _ _ _)
      | (with_reducible exact laws_toIntSS.mono _ _)
      | (with_reducible exact spec_MajorityOf.mono _ _)
      | (with_reducible exact LeO.refl _)
      | (with_reducible exact LeO.none _)
      | (with_reducible refine LeO.ite ?_ ?_)
      | (with_reducible refine LeO.bind ?_ (fun _ => ?_))
      | exact ih0 _ _ _ _ _ _ _ _ _
      | exact ih1 _ _ _ _ _ _ _
      | exact ih2 _ _ _ _
      | exact impl_MajorityOf.mono _ _
      | exact laws_eqIntSS.mono _ _ _
      | exact laws_eqOrder.mono _ _ _ _ _
      | exact laws_heldOrder.mono _ _ _ _
      | exact laws_markIntSS.mono _ _ _
      | exact laws_markOrder.mono _ _ _ _
      | exact laws_szIntSS.mono _ _ _
      | exact laws_toIntSS.mono _ _
      | exact spec_MajorityOf.mono _ _
      | exact LeO.none _
      | refine LeO.ite ?_ ?_
      | refine LeO.bind ?_ (fun _ => ?_)
    · intro y0 y1 y2 y3 y4 y5 y6
      unfold laws_FnExactMajorityOf.j1
      repeat' first
      | (with_reducible exact ih0 _ _ _ _ _ _ _ _ _)
      | (with_reducible exact ih1 _ _ _ _ _ _ _)
      | (with_reducible exact ih2 _ _ _ _)
      | (with_reducible exact impl_MajorityOf.mono _ _)
      | (with_reducible exact laws_eqIntSS.mono _ _ _)
      | (with_reducible exact laws_eqOrder.mono _ _ _ _ _)
      | (with_reducible exact laws_heldOrder.mono _ _ _ _)
      | (with_reducible exact laws_markIntSS.mono _ _ _)
      | (with_reducible exact laws_markOrder.mono _ _ _ _)
      | (with_reducible exact laws_szIntSS.mono _ _ _)
      | (with_reducible exact laws_toIntSS.mono _ _)
      | (with_reducible exact spec_MajorityOf.mono _ _)
      | (with_reducible exact LeO.refl _)
      | (with_reducible exact LeO.none _)
      | (with_reducible refine LeO.ite ?_ ?_)
      | (with_reducible refine LeO.bind ?_ (fun _ => ?_))
      | exact ih0 _ _ _ _ _ _ _ _ _
      | exact ih1 _ _ _ _ _ _ _
      | exact ih2 _ _ _ _
      | exact impl_MajorityOf.mono _ _
      | exact laws_eqIntSS.mono _ _ _
      | exact laws_eqOrder.mono _ _ _ _ _
      | exact laws_heldOrder.mono _ _ _ _
      | exact laws_markIntSS.mono _ _ _
      | exact laws_markOrder.mono _ _ _ _
      | exact laws_szIntSS.mono _ _ _
      | exact laws_toIntSS.mono _ _
      | exact spec_MajorityOf.mono _ _
      | exact LeO.none _
      | refine LeO.ite ?_ ?_
      | refine LeO.bind ?_ (fun _ => ?_)
    · intro y0 y1 y2 y3
      unfold laws_FnExactMajorityOf.j2
      repeat' first
      | (with_reducible exact ih0 _ _ _ _ _ _ _ _ _)
      | (with_reducible exact ih1 _ _ _ _ _ _ _)
      | (with_reducible exact ih2 _ _ _ _)
      | (with_reducible exact impl_MajorityOf.mono _ _)
      | (with_reducible exact laws_eqIntSS.mono _ _ _)
      | (with_reducible exact laws_eqOrder.mono _ _ _ _ _)
      | (with_reducible exact laws_heldOrder.mono _ _ _ _)
      | (with_reducible exact laws_markIntSS.mono _ _ _)
      | (with_reducible exact laws_markOrder.mono _ _ _ _)
      | (with_reducible exact laws_szIntSS.mono _ _ _)
      | (with_reducible exact laws_toIntSS.mono _ _)
      | (with_reducible exact spec_MajorityOf.mono _ _)
      | (with_reducible exact LeO.refl _)
      | (with_reducible exact LeO.none _)
      | (with_reducible refine LeO.ite ?_ ?_)
      | (with_reducible refine LeO.bind ?_ (fun _ => ?_))
      | exact ih0 _ _ _ _ _ _ _ _ _
      | exact ih1 _ _ _ _ _ _ _
      | exact ih2 _ _ _ _
      | exact impl_MajorityOf.mono _ _
      | exact laws_eqIntSS.mono _ _ _
      | exact laws_eqOrder.mono _ _ _ _ _
      | exact laws_heldOrder.mono _ _ _ _
      | exact laws_markIntSS.mono _ _ _
      | exact laws_markOrder.mono _ _ _ _
      | exact laws_szIntSS.mono _ _ _
      | exact laws_toIntSS.mono _ _
      | exact spec_MajorityOf.mono _ _
      | exact LeO.none _
      | refine LeO.ite ?_ ?_
      | refine LeO.bind ?_ (fun _ => ?_)
theorem laws_FnExactMajorityOf.mono : ∀ a0 k, LeO (laws_FnExactMajorityOf.f k a0) (laws_FnExactMajorityOf.f (k + 1) a0) := by
  intro a0 k
  obtain ⟨ih0, ih1, ih2⟩ := laws_FnExactMajorityOf.mono_l k
  unfold laws_FnExactMajorityOf.f
  repeat' first
      | (with_reducible exact ih0 _ _ _ _ _ _ _ _ _)
      | (with_reducible exact ih1 _ _ _ _ _ _ _)
      | (with_reducible exact ih2 _ _ _ _)
      | (with_reducible exact impl_MajorityOf.mono _ _)
      | (with_reducible exact laws_eqIntSS.mono _ _ _)
      | (with_reducible exact laws_eqOrder.mono _ _ _ _ _)
      | (with_reducible exact laws_heldOrder.mono _ _ _ _)
      | (with_reducible exact laws_markIntSS.mono _ _ _)
      | (with_reducible exact laws_markOrder.mono _ _ _ _)
      | (with_reducible exact laws_szIntSS.mono _ _ _)
      | (with_reducible exact laws_toIntSS.mono _ _)
      | (with_reducible exact spec_MajorityOf.mono _ _)
      | (with_reducible exact LeO.refl _)
      | (with_reducible exact LeO.none _)
      | (with_reducible refine LeO.ite ?_ ?_)
      | (with_reducible refine LeO.bind ?_ (fun _ => ?_))
      | exact ih0 _ _ _ _ _ _ _ _ _
      | exact ih1 _ _ _ _ _ _ _
      | exact ih2 _ _ _ _
      | exact impl_MajorityOf.mono _ _
      | exact laws_eqIntSS.mono _ _ _
      | exact laws_eqOrder.mono _ _ _ _ _
      | exact laws_heldOrder.mono _ _ _ _
      | exact laws_markIntSS.mono _ _ _
      | exact laws_markOrder.mono _ _ _ _
      | exact laws_szIntSS.mono _ _ _
      | exact laws_toIntSS.mono _ _
      | exact spec_MajorityOf.mono _ _
      | exact LeO.none _
      | refine LeO.ite ?_ ?_
      | refine LeO.bind ?_ (fun _ => ?_)
set_option maxHeartbeats 8000000 in
set_option maxRecDepth 100000 in
theorem laws_FnExactMajorityOf.calls (k : Nat) (A0 : Option Addr) (c0 : Nat) (l0 : List (List Int)) (r : Bool) (w : World) (hr0 : Kd.C (Kd.slice 3 (Kd.int .i64)) w A0 l0.length l0) (hc0 : l0.length ≤ c0) (h : laws_FnExactMajorityOf.f k l0 = some r) :
    Calls Try.prog 11 #[.slice A0 l0.length c0] w fun e w' => e = .returned (.bool r) ∧ Below w.heap.size w w' := by
  have hu34 := Try.underlying34
  have HR0 := Aside0.mk hr0
  have HC0 := Aside0.mk hc0
  clear hr0 hc0
  have HB := Aside0.mk (Below.refl w.heap.size w)
  have H : ((laws_szIntSS.f k l0 1048576).bind fun t847 => (if t847 < 0 then (some true) else ((laws_toIntSS.f k l0).bind fun t848 => ((spec_MajorityOf.f k t848).bind fun bt851 => ((laws_toIntSS.f k l0).bind fun t857 => ((impl_MajorityOf.f k t857).bind fun bt860 => ((laws_eqOrder.f k bt860.1 bt860.2.1 bt851.1 bt851.2.1).bind fun t866 => (if t866 = true then (laws_FnExactMajorityOf.j0 k l0 bt851.2.2 t857 bt860.2.2 (bt860.2.2 != bt851.2.2) bt851.1 bt851.2.1 bt860.1 bt860.2.1) else (laws_FnExactMajorityOf.j0 k l0 bt851.2.2 t857 bt860.2.2 true bt851.1 bt851.2.1 bt860.1 bt860.2.1))))))))) = some r := h
  clear h
  replace H := Option.bind_eq_some_iff.mp H
  obtain ⟨t847, A20, H⟩ := H
  replace H : (if t847 < 0 then (some true) else ((laws_toIntSS.f k l0).bind fun t848 => ((spec_MajorityOf.f k t848).bind fun bt851 => ((laws_toIntSS.f k l0).bind fun t857 => ((impl_MajorityOf.f k t857).bind fun bt860 => ((laws_eqOrder.f k bt860.1 bt860.2.1 bt851.1 bt851.2.1).bind fun t866 => (if t866 = true then (laws_FnExactMajorityOf.j0 k l0 bt851.2.2 t857 bt860.2.2 (bt860.2.2 != bt851.2.2) bt851.1 bt851.2.1 bt860.1 bt860.2.1) else (laws_FnExactMajorityOf.j0 k l0 bt851.2.2 t857 bt860.2.2 true bt851.1 bt851.2.1 bt860.1 bt860.2.1)))))))) = some r := H
  have A2 := Aside0.mk A20
  clear A20
  by_cases c3 : t847 < 0
  · rw [if_pos c3] at H
    have c3b0 : decide (t847 < 0) = true := decide_eq_true c3
    clear c3
    obtain rfl := Option.some.inj H
    go_enter Try.func11, Try.ntmps11
    go_wp2_with (first | ((with_reducible refine gate_callee (f := 40) rfl ?_); refine goesL_ (some 16) rfl rfl Try.func40 (by kernel_rfl) rfl #[.slice A0 l0.length c0, .int .i64 1048576] rfl (by (try simp only [List.map_toArray, List.map_cons, List.map_nil]); first | done | rfl | (simp only [List.length_drop, List.length_take]; rfl)) ?_; (with_reducible refine (laws_szIntSS.calls k _ _ l0 1048576 t847 _ ?side1 ?side2 A2.out).mono ?_); (case side1 => repeat (first | exact HR0.out | (with_reducible refine Kd.C_alloc ?_ _) | (with_reducible refine Kd.C_drewN ?_ _) | (with_reducible refine Kd.C_drew ?_))); (case side2 => exact HC0.out); rintro e w' ⟨rfl, ⟨nd, rfl⟩⟩; refine ⟨_, rfl, ?_⟩))
    go_ret
    exact ⟨by first | rfl | (simp [errW_none, errW_some] <;> rfl) | (simp [*, errW_none, errW_some] <;> rfl), by repeat (first | (with_reducible first | exact HB.out | apply below_alloc | apply pw_below_drewN | apply below_drew1) | exact HB.out)⟩
  · rw [if_neg c3] at H
    have c3b0 : decide (t847 < 0) = false := decide_eq_false c3
    clear c3
    replace H := Option.bind_eq_some_iff.mp H
    obtain ⟨t848, A40, H⟩ := H
    replace H : ((spec_MajorityOf.f k t848).bind fun bt851 => ((laws_toIntSS.f k l0).bind fun t857 => ((impl_MajorityOf.f k t857).bind fun bt860 => ((laws_eqOrder.f k bt860.1 bt860.2.1 bt851.1 bt851.2.1).bind fun t866 => (if t866 = true then (laws_FnExactMajorityOf.j0 k l0 bt851.2.2 t857 bt860.2.2 (bt860.2.2 != bt851.2.2) bt851.1 bt851.2.1 bt860.1 bt860.2.1) else (laws_FnExactMajorityOf.j0 k l0 bt851.2.2 t857 bt860.2.2 true bt851.1 bt851.2.1 bt860.1 bt860.2.1)))))) = some r := H
    have A4 := Aside0.mk A40
    clear A40
    replace H := Option.bind_eq_some_iff.mp H
    obtain ⟨⟨t851, t852, t855⟩, A50, H⟩ := H
    replace H : ((laws_toIntSS.f k l0).bind fun t857 => ((impl_MajorityOf.f k t857).bind fun bt860 => ((laws_eqOrder.f k bt860.1 bt860.2.1 t851 t852).bind fun t866 => (if t866 = true then (laws_FnExactMajorityOf.j0 k l0 t855 t857 bt860.2.2 (bt860.2.2 != t855) t851 t852 bt860.1 bt860.2.1) else (laws_FnExactMajorityOf.j0 k l0 t855 t857 bt860.2.2 true t851 t852 bt860.1 bt860.2.1))))) = some r := H
    have A5 := Aside0.mk A50
    clear A50
    replace H := Option.bind_eq_some_iff.mp H
    obtain ⟨t857, A60, H⟩ := H
    replace H : ((impl_MajorityOf.f k t857).bind fun bt860 => ((laws_eqOrder.f k bt860.1 bt860.2.1 t851 t852).bind fun t866 => (if t866 = true then (laws_FnExactMajorityOf.j0 k l0 t855 t857 bt860.2.2 (bt860.2.2 != t855) t851 t852 bt860.1 bt860.2.1) else (laws_FnExactMajorityOf.j0 k l0 t855 t857 bt860.2.2 true t851 t852 bt860.1 bt860.2.1)))) = some r := H
    have A6 := Aside0.mk A60
    clear A60
    replace H := Option.bind_eq_some_iff.mp H
    obtain ⟨⟨t860, t861, t864⟩, A70, H⟩ := H
    replace H : ((laws_eqOrder.f k t860 t861 t851 t852).bind fun t866 => (if t866 = true then (laws_FnExactMajorityOf.j0 k l0 t855 t857 t864 (t864 != t855) t851 t852 t860 t861) else (laws_FnExactMajorityOf.j0 k l0 t855 t857 t864 true t851 t852 t860 t861))) = some r := H
    have A7 := Aside0.mk A70
    clear A70
    have HC8 := Aside0.mk H
    clear H
    go_enter Try.func11, Try.ntmps11
    go_upto_region 8 with (first | ((with_reducible refine gate_callee (f := 40) rfl ?_); refine goesL_ (some 16) rfl rfl Try.func40 (by kernel_rfl) rfl #[.slice A0 l0.length c0, .int .i64 1048576] rfl (by (try simp only [List.map_toArray, List.map_cons, List.map_nil]); first | done | rfl | (simp only [List.length_drop, List.length_take]; rfl)) ?_; (with_reducible refine (laws_szIntSS.calls k _ _ l0 1048576 t847 _ ?side1 ?side2 A2.out).mono ?_); (case side1 => repeat (first | exact HR0.out | (with_reducible refine Kd.C_alloc ?_ _) | (with_reducible refine Kd.C_drewN ?_ _) | (with_reducible refine Kd.C_drew ?_))); (case side2 => exact HC0.out); rintro e w' ⟨rfl, ⟨nd, rfl⟩⟩; refine ⟨_, rfl, ?_⟩) | ((with_reducible refine gate_callee (f := 42) rfl ?_); refine goesL_ (some 21) rfl rfl Try.func42 (by kernel_rfl) rfl #[.slice A0 l0.length c0] rfl (by (try simp only [List.map_toArray, List.map_cons, List.map_nil]); first | done | rfl | (simp only [List.length_drop, List.length_take]; rfl)) ?_; (with_reducible refine (laws_toIntSS.calls k _ _ l0 t848 _ ?side1 ?side2 A4.out).mono ?_); (case side1 => repeat (first | exact HR0.out | (with_reducible refine Kd.C_alloc ?_ _) | (with_reducible refine Kd.C_drewN ?_ _) | (with_reducible refine Kd.C_drew ?_))); (case side2 => exact HC0.out); rintro e w9 ⟨v849, rfl, ho0, hb⟩; refine ⟨_, rfl, ?_⟩; have n0_ := Aside0.mk (Kd.S_lower ho0 (below_size (by repeat (first | (with_reducible first | exact HB.out | apply below_alloc | apply pw_below_drewN | apply below_drew1) | exact HB.out)))); have n1_ := Aside0.mk (below_step (by repeat (first | (with_reducible first | exact HB.out | apply below_alloc | apply pw_below_drewN | apply below_drew1) | exact HB.out)) hb); clear HB; have HO850 := n0_; have HB := n1_; clear n0_ n1_; (try clear hb); (try clear hb2); (try clear hk); (try clear hi); (try clear ho0); obtain ⟨Ao10, co10, eo10⟩ := Kd.S_slice HO850.out; subst eo10) | ((with_reducible refine gate_callee (f := 41) rfl ?_); refine goesL_ (some 22) rfl rfl Try.func41 (by kernel_rfl) rfl #[.slice Ao10 t848.length co10] rfl (by (try simp only [List.map_toArray, List.map_cons, List.map_nil]); first | done | rfl | (simp only [List.length_drop, List.length_take]; rfl)) ?_; (with_reducible refine (spec_MajorityOf.calls k _ _ t848 t851 t852 t855 _ ?side1 ?side2 A5.out).mono ?_); (case side1 => repeat (first | exact (Kd.S_reads' HO850.out).2.2 | (with_reducible refine Kd.C_alloc ?_ _) | (with_reducible refine Kd.C_drewN ?_ _) | (with_reducible refine Kd.C_drew ?_))); (case side2 => exact (Kd.S_reads' HO850.out).2.1); rintro e w11 ⟨v853, rfl, ho0, hb⟩; refine ⟨_, rfl, ?_⟩; have n0_ := Aside0.mk (Kd.S_elder' (by (with_reducible repeat (first | apply Kd.S_alloc | apply Kd.S_drewN | apply Kd.S_drew)); exact HO850.out) (Kd.R_base ho0) hb); have n1_ := Aside0.mk (Kd.R_lower ho0 (below_size (by repeat (first | (with_reducible first | exact HB.out | apply below_alloc | apply pw_below_drewN | apply below_drew1) | exact HB.out)))); have n2_ := Aside0.mk (below_step (by repeat (first | (with_reducible first | exact HB.out | apply below_alloc | apply pw_below_drewN | apply below_drew1) | exact HB.out)) hb); clear HO850; clear HB; have HO850 := n0_; have HO854 := n1_; have HB := n2_; clear n0_ n1_ n2_; (try clear hb); (try clear hb2); (try clear hk); (try clear hi); (try clear ho0)) | ((with_reducible refine gate_dst (N := 4) rfl ?_); refine box_event ?hg (N := 4) ?hd (cs := #[.int .i64 0, .slice none 0 0]) (t := 34) ?hr ?_; (case hd => rfl); (case hg => rfl); (case hr => first | (go_simp; done) | (go_simp; rfl)); intro gb856 hg w12 hbox hb; have n0_ := Aside0.mk (Kd.S_below (by (with_reducible repeat (first | apply Kd.S_alloc | apply Kd.S_drewN | apply Kd.S_drew)); exact HO850.out) hb); have n1_ := Aside0.mk (Kd.R_below (by (with_reducible repeat (first | apply Kd.R_alloc | apply Kd.R_drewN | apply Kd.R_drew)); exact HO854.out) hb); have n2_ := Aside0.mk (below_step (by repeat (first | (with_reducible first | exact HB.out | apply below_alloc | apply pw_below_drewN | apply below_drew1) | exact HB.out)) hb); have n3_ := Aside0.mk (hbox); have n4_ := Aside0.mk ((by rw [hg]; exact (below_size (by repeat (first | (with_reducible first | exact HB.out | apply below_alloc | apply pw_below_drewN | apply below_drew1) | exact HB.out))) : w.heap.size ≤ gb856)); have n5_ := Aside0.mk ((by rw [hg]; exact (below_size (by repeat (first | (with_reducible first | exact HB.out | apply below_alloc | apply pw_below_drewN | apply below_drew1) | exact HB.out))) : w.heap.size ≤ gb856)); clear HO850; clear HO854; clear HB; have HO850 := n0_; have HO854 := n1_; have HB := n2_; have BK856 := n3_; have GW856 := n4_; have GE856 := n5_; clear n0_ n1_ n2_ n3_ n4_ n5_; clear hb hbox hg; have hcz13_0 : w12.cell? ⟨gb856, 0, none⟩ = some (.int .i64 0) := (blk_cell BK856.out 0).trans rfl; have hcz13_1 : w12.cell? ⟨gb856, 1, none⟩ = some (.slice none 0 0) := (blk_cell BK856.out 1).trans rfl; have hfz13_0 := blk_frozen BK856.out 0; have hfz13_1 := blk_frozen BK856.out 1; obtain ⟨Ao14, co14, eo14⟩ := Kd.R_slice HO854.out; subst eo14) | ((with_reducible refine gate_callee (f := 42) rfl ?_); refine goesL_ (some 26) rfl rfl Try.func42 (by kernel_rfl) rfl #[.slice A0 l0.length c0] rfl (by (try simp only [List.map_toArray, List.map_cons, List.map_nil]); first | done | rfl | (simp only [List.length_drop, List.length_take]; rfl)) ?_; (with_reducible refine (laws_toIntSS.calls k _ _ l0 t857 _ ?side1 ?side2 A6.out).mono ?_); (case side1 => exact Kd.C_below HR0.out (by repeat (first | (with_reducible first | exact HB.out | apply below_alloc | apply pw_below_drewN | apply below_drew1 | refine below_set ?_ GE856.out) | exact HB.out))); (case side2 => exact HC0.out); rintro e w15 ⟨v858, rfl, ho0, hb⟩; refine ⟨_, rfl, ?_⟩; have n0_ := Aside0.mk (Kd.S_elder' (by (with_reducible repeat (first | apply Kd.S_alloc | apply Kd.S_drewN | apply Kd.S_drew)); exact (Kd.S_mono (Kd.S_far (p := ⟨gb856, 1, none⟩) (Kd.S_far (p := ⟨gb856, 0, none⟩) (Kd.S_types HO850.out BK856.out (by decide)) (fun _ hk => hk.2) (.int .i64 t851)) (fun _ hk => hk.2) (.slice Ao14 t852.length co14)) (fun _ h_ => h_.1))) (Kd.S_base ho0) hb); have n1_ := Aside0.mk (Kd.R_below (by (with_reducible repeat (first | apply Kd.R_alloc | apply Kd.R_drewN | apply Kd.R_drew)); exact (Kd.R_mono (Kd.R_far (p := ⟨gb856, 1, none⟩) (Kd.R_far (p := ⟨gb856, 0, none⟩) (Kd.R_types HO854.out BK856.out (by decide)) (fun _ hk => hk.2) (.int .i64 t851)) (fun _ hk => hk.2) (.slice Ao14 t852.length co14)) (fun _ h_ => h_.1))) hb); have n2_ := Aside0.mk (Kd.S_lower (Kd.S_new' (Kd.S_new' ho0 (Kd.S_lt (by (with_reducible repeat (first | apply Kd.S_alloc | apply Kd.S_drewN | apply Kd.S_drew)); exact (Kd.S_mono (Kd.S_far (p := ⟨gb856, 1, none⟩) (Kd.S_far (p := ⟨gb856, 0, none⟩) (Kd.S_types HO850.out BK856.out (by decide)) (fun _ hk => hk.2) (.int .i64 t851)) (fun _ hk => hk.2) (.slice Ao14 t852.length co14)) (fun _ h_ => h_.1))))) (Kd.R_lt (by (with_reducible repeat (first | apply Kd.R_alloc | apply Kd.R_drewN | apply Kd.R_drew)); exact (Kd.R_mono (Kd.R_far (p := ⟨gb856, 1, none⟩) (Kd.R_far (p := ⟨gb856, 0, none⟩) (Kd.R_types HO854.out BK856.out (by decide)) (fun _ hk => hk.2) (.int .i64 t851)) (fun _ hk => hk.2) (.slice Ao14 t852.length co14)) (fun _ h_ => h_.1))))) (below_size (by repeat (first | (with_reducible first | exact HB.out | apply below_alloc | apply pw_below_drewN | apply below_drew1 | refine below_set ?_ GE856.out) | exact HB.out)))); have n3_ := Aside0.mk (blk_below (g := gb856) (o := .cells #[.int .i64 t851, .slice Ao14 t852.length co14] 34 (0, 0)) (by (with_reducible repeat (first | refine blk_drewN ?_ _ | refine blk_drew ?_ | refine blk_alloc ?_ _)); refine blk_put (cs := #[.int .i64 t851, .slice none 0 0]) ?_ 1 _ rfl; (with_reducible repeat (first | refine blk_drewN ?_ _ | refine blk_drew ?_ | refine blk_alloc ?_ _)); refine blk_put (cs := #[.int .i64 0, .slice none 0 0]) ?_ 0 _ rfl; (with_reducible repeat (first | refine blk_drewN ?_ _ | refine blk_drew ?_ | refine blk_alloc ?_ _)); exact BK856.out) hb); have n4_ := Aside0.mk (below_step (by repeat (first | (with_reducible first | exact HB.out | apply below_alloc | apply pw_below_drewN | apply below_drew1 | refine below_set ?_ GE856.out) | exact HB.out)) hb); clear HO850; clear HO854; clear BK856; clear HB; have HO850 := n0_; have HO854 := n1_; have HO859 := n2_; have BK856 := n3_; have HB := n4_; clear n0_ n1_ n2_ n3_ n4_; (try clear hb); (try clear hb2); (try clear hk); (try clear hi); (try clear ho0); obtain ⟨Ao16, co16, eo16⟩ := Kd.S_slice HO859.out; subst eo16) | ((with_reducible refine gate_callee (f := 43) rfl ?_); refine goesL_ (some 29) rfl rfl Try.func43 (by kernel_rfl) rfl #[.slice Ao16 t857.length co16] rfl (by (try simp only [List.map_toArray, List.map_cons, List.map_nil]); first | done | rfl | (simp only [List.length_drop, List.length_take]; rfl)) ?_; (with_reducible refine (impl_MajorityOf.calls k _ _ t857 t860 t861 t864 _ ?side1 ?side2 A7.out).mono ?_); (case side1 => repeat (first | exact (Kd.S_reads' HO859.out).2.2 | (with_reducible refine Kd.C_alloc ?_ _) | (with_reducible refine Kd.C_drewN ?_ _) | (with_reducible refine Kd.C_drew ?_))); (case side2 => exact (Kd.S_reads' HO859.out).2.1); rintro e w17 ⟨v862, rfl, ho0, hb⟩; refine ⟨_, rfl, ?_⟩; have n0_ := Aside0.mk (Kd.S_elder' (by (with_reducible repeat (first | apply Kd.S_alloc | apply Kd.S_drewN | apply Kd.S_drew)); exact HO850.out) (Kd.R_base ho0) hb); have n1_ := Aside0.mk (Kd.R_elder' (by (with_reducible repeat (first | apply Kd.R_alloc | apply Kd.R_drewN | apply Kd.R_drew)); exact HO854.out) (Kd.R_base ho0) hb); have n2_ := Aside0.mk (Kd.S_elder' (by (with_reducible repeat (first | apply Kd.S_alloc | apply Kd.S_drewN | apply Kd.S_drew)); exact HO859.out) (Kd.R_base ho0) hb); have n3_ := Aside0.mk (Kd.R_lower (Kd.R_new' ho0 (Kd.R_lt (by (with_reducible repeat (first | apply Kd.R_alloc | apply Kd.R_drewN | apply Kd.R_drew)); exact HO854.out))) (below_size (by repeat (first | (with_reducible first | exact HB.out | apply below_alloc | apply pw_below_drewN | apply below_drew1 | refine below_set ?_ GE856.out) | exact HB.out)))); have n4_ := Aside0.mk (blk_below (g := gb856) (o := .cells #[.int .i64 t851, .slice Ao14 t852.length co14] 34 (0, 0)) (by (with_reducible repeat (first | refine blk_drewN ?_ _ | refine blk_drew ?_ | refine blk_alloc ?_ _)); exact BK856.out) hb); have n5_ := Aside0.mk (below_step (by repeat (first | (with_reducible first | exact HB.out | apply below_alloc | apply pw_below_drewN | apply below_drew1 | refine below_set ?_ GE856.out) | exact HB.out)) hb); clear HO850; clear HO854; clear HO859; clear BK856; clear HB; have HO850 := n0_; have HO854 := n1_; have HO859 := n2_; have HO863 := n3_; have BK856 := n4_; have HB := n5_; clear n0_ n1_ n2_ n3_ n4_ n5_; (try clear hb); (try clear hb2); (try clear hk); (try clear hi); (try clear ho0)) | ((with_reducible refine gate_dst (N := 7) rfl ?_); refine box_event ?hg (N := 7) ?hd (cs := #[.int .i64 0, .slice none 0 0]) (t := 34) ?hr ?_; (case hd => rfl); (case hg => rfl); (case hr => first | (go_simp; done) | (go_simp; rfl)); intro gb865 hg w18 hbox hb; have n0_ := Aside0.mk (Kd.S_below (by (with_reducible repeat (first | apply Kd.S_alloc | apply Kd.S_drewN | apply Kd.S_drew)); exact HO850.out) hb); have n1_ := Aside0.mk (Kd.R_below (by (with_reducible repeat (first | apply Kd.R_alloc | apply Kd.R_drewN | apply Kd.R_drew)); exact HO854.out) hb); have n2_ := Aside0.mk (Kd.S_below (by (with_reducible repeat (first | apply Kd.S_alloc | apply Kd.S_drewN | apply Kd.S_drew)); exact HO859.out) hb); have n3_ := Aside0.mk (Kd.R_below (by (with_reducible repeat (first | apply Kd.R_alloc | apply Kd.R_drewN | apply Kd.R_drew)); exact HO863.out) hb); have n4_ := Aside0.mk (blk_below (g := gb856) (o := .cells #[.int .i64 t851, .slice Ao14 t852.length co14] 34 (0, 0)) (by (with_reducible repeat (first | refine blk_drewN ?_ _ | refine blk_drew ?_ | refine blk_alloc ?_ _)); exact BK856.out) hb); have n5_ := Aside0.mk (below_step (by repeat (first | (with_reducible first | exact HB.out | apply below_alloc | apply pw_below_drewN | apply below_drew1 | refine below_set ?_ GE856.out) | exact HB.out)) hb); have n6_ := Aside0.mk (hbox); have n7_ := Aside0.mk ((by rw [hg]; exact (below_size (by repeat (first | (with_reducible first | exact HB.out | apply below_alloc | apply pw_below_drewN | apply below_drew1 | refine below_set ?_ GE856.out) | exact HB.out))) : w.heap.size ≤ gb865)); have n8_ := Aside0.mk ((by rw [hg]; exact (below_size (by repeat (first | (with_reducible first | exact HB.out | apply below_alloc | apply pw_below_drewN | apply below_drew1 | refine below_set ?_ GE856.out) | exact HB.out))) : w.heap.size ≤ gb865)); have n9_ := Aside0.mk ((by rw [hg]; exact Nat.ne_of_lt (blk_lt (g := gb856) (o := .cells #[.int .i64 t851, .slice Ao14 t852.length co14] 34 (0, 0)) (by (with_reducible repeat (first | refine blk_drewN ?_ _ | refine blk_drew ?_ | refine blk_alloc ?_ _)); exact BK856.out)) : gb856 ≠ gb865)); have n10_ := Aside0.mk ((by rw [hg]; exact Nat.ne_of_gt (blk_lt (g := gb856) (o := .cells #[.int .i64 t851, .slice Ao14 t852.length co14] 34 (0, 0)) (by (with_reducible repeat (first | refine blk_drewN ?_ _ | refine blk_drew ?_ | refine blk_alloc ?_ _)); exact BK856.out)) : gb865 ≠ gb856)); clear HO850; clear HO854; clear HO859; clear HO863; clear BK856; clear HB; have HO850 := n0_; have HO854 := n1_; have HO859 := n2_; have HO863 := n3_; have BK856 := n4_; have HB := n5_; have BK865 := n6_; have GW865 := n7_; have GE865 := n8_; have NB856_865 := n9_; have NB865_856 := n10_; clear n0_ n1_ n2_ n3_ n4_ n5_ n6_ n7_ n8_ n9_ n10_; clear hb hbox hg; have hnb19 := NB865_856.out; have hnc19 := NB856_865.out; have hcz20_0 : w18.cell? ⟨gb865, 0, none⟩ = some (.int .i64 0) := (blk_cell BK865.out 0).trans rfl; have hcz20_1 : w18.cell? ⟨gb865, 1, none⟩ = some (.slice none 0 0) := (blk_cell BK865.out 1).trans rfl; have hfz20_0 := blk_frozen BK865.out 0; have hfz20_1 := blk_frozen BK865.out 1; obtain ⟨Ao21, co21, eo21⟩ := Kd.R_slice HO863.out; subst eo21))
    (try simp only [Act.put, List.setIfInBounds_toArray, List.set_cons_zero, List.set_cons_succ])
    go_cut [40] (fun v40 wc => ∃ (kq : Nat) (x40_7 : Bool), v40 = .bool x40_7 ∧ Aside0 (laws_FnExactMajorityOf.j0 kq l0 t855 t857 t864 x40_7 t851 t852 t860 t861 = some r) ∧ Aside0 (kq ≤ k) ∧ Aside0 (Kd.S (Kd.slice 3 (Kd.int .i64)) 22 wc w.heap.size (fun k_ => some k_ ≠ ((.slice Ao14 t852.length co14) : Value).ownBlock ∧ some k_ ≠ ((.slice Ao21 t861.length co21) : Value).ownBlock) (.slice Ao16 t857.length co16) t857) ∧ Aside0 (Kd.R (Kd.int .i64) 3 wc w.heap.size (fun k_ => some k_ ≠ ((.slice Ao21 t861.length co21) : Value).ownBlock) (.slice Ao14 t852.length co14) t852) ∧ Aside0 (Kd.R (Kd.int .i64) 3 wc w.heap.size (fun k_ => some k_ ≠ ((.slice Ao14 t852.length co14) : Value).ownBlock) (.slice Ao21 t861.length co21) t861) ∧ Aside0 (wc.heap[gb856]? = some (.cells #[.int .i64 t851, (.slice Ao14 t852.length co14)] 34 (0, 0))) ∧ Aside0 (wc.heap[gb865]? = some (.cells #[.int .i64 t860, (.slice Ao21 t861.length co21)] 34 (0, 0))) ∧ Aside0 (Below w.heap.size w wc))
    case first =>
      have H := HC8.out
      clear HC8
      replace H := Option.bind_eq_some_iff.mp H
      obtain ⟨t866, A220, H⟩ := H
      replace H : (if t866 = true then (laws_FnExactMajorityOf.j0 k l0 t855 t857 t864 (t864 != t855) t851 t852 t860 t861) else (laws_FnExactMajorityOf.j0 k l0 t855 t857 t864 true t851 t852 t860 t861)) = some r := H
      have A22 := Aside0.mk A220
      clear A220
      by_cases c23 : t866 = true
      · subst c23
        have H1 : (laws_FnExactMajorityOf.j0 k l0 t855 t857 t864 (t864 != t855) t851 t852 t860 t861) = some r := by rw [if_pos rfl] at H; exact H
        clear H
        have H := H1
        clear H1
        have H' := Aside0.mk H
        clear H
        have hnb24 := NB865_856.out
        have hnc24 := NB856_865.out
        have hcz25_0 : w18.cell? ⟨gb865, 0, none⟩ = some (.int .i64 0) := (blk_cell BK865.out 0).trans rfl
        have hcz25_1 : w18.cell? ⟨gb865, 1, none⟩ = some (.slice none 0 0) := (blk_cell BK865.out 1).trans rfl
        have hfz25_0 := blk_frozen BK865.out 0
        have hfz25_1 := blk_frozen BK865.out 1
        have hcz26_0 : w18.cell? ⟨gb856, 0, none⟩ = some (.int .i64 t851) := (blk_cell BK856.out 0).trans rfl
        have hcz26_1 : w18.cell? ⟨gb856, 1, none⟩ = some (.slice Ao14 t852.length co14) := (blk_cell BK856.out 1).trans rfl
        have hfz26_0 := blk_frozen BK856.out 0
        have hfz26_1 := blk_frozen BK856.out 1
        go_wp2_with (first | ((with_reducible refine gate_callee (f := 28) rfl ?_); refine goesL_ (some 34) rfl rfl Try.func28 (by kernel_rfl) rfl #[.agg #[.int .i64 t860, .slice Ao21 t861.length co21], .agg #[.int .i64 t851, .slice Ao14 t852.length co14]] rfl (by (try simp only [List.map_toArray, List.map_cons, List.map_nil]); first | done | rfl | (simp only [List.length_drop, List.length_take]; rfl)) ?_; (with_reducible refine (laws_eqOrder.calls k t860 _ _ t861 t851 _ _ t852 true _ ?side1 ?side2 ?side3 ?side4 A22.out).mono ?_); (case side1 => refine (Kd.R_reads' (e := 3) (base := w.heap.size) (ok := fun k_ => (True ∧ some k_ ≠ (.slice Ao14 t852.length co14 : Value).ownBlock)) (n := t861.length) (c := co21) ?_).2.2; exact (by (with_reducible repeat (first | apply Kd.R_alloc | apply Kd.R_drewN | apply Kd.R_drew)); exact (Kd.R_mono (Kd.R_far (p := ⟨gb865, 1, none⟩) (Kd.R_far (p := ⟨gb865, 0, none⟩) (Kd.R_types HO863.out BK865.out (by decide)) (fun _ hk => hk.2) (.int .i64 t860)) (fun _ hk => hk.2) (.slice Ao21 t861.length co21)) (fun _ h_ => h_.1)))); (case side2 => exact (Kd.R_reads' HO863.out).2.1); (case side3 => refine (Kd.R_reads' (e := 3) (base := w.heap.size) (ok := fun k_ => (True ∧ some k_ ≠ (.slice Ao21 t861.length co21 : Value).ownBlock)) (n := t852.length) (c := co14) ?_).2.2; exact (by (with_reducible repeat (first | apply Kd.R_alloc | apply Kd.R_drewN | apply Kd.R_drew)); exact (Kd.R_mono (Kd.R_far (p := ⟨gb865, 1, none⟩) (Kd.R_far (p := ⟨gb865, 0, none⟩) (Kd.R_types HO854.out BK865.out (by decide)) (fun _ hk => hk.2) (.int .i64 t860)) (fun _ hk => hk.2) (.slice Ao21 t861.length co21)) (fun _ h_ => h_.1)))); (case side4 => exact (Kd.R_reads' HO854.out).2.1); rintro e w27 ⟨rfl, hb⟩; refine ⟨_, rfl, ?_⟩; have n0_ := Aside0.mk (Kd.S_below (by (with_reducible repeat (first | apply Kd.S_alloc | apply Kd.S_drewN | apply Kd.S_drew)); exact (Kd.S_mono (Kd.S_far (p := ⟨gb865, 1, none⟩) (Kd.S_far (p := ⟨gb865, 0, none⟩) (Kd.S_types HO850.out BK865.out (by decide)) (fun _ hk => hk.2) (.int .i64 t860)) (fun _ hk => hk.2) (.slice Ao21 t861.length co21)) (fun _ h_ => h_.1))) hb); have n1_ := Aside0.mk (Kd.R_below (by (with_reducible repeat (first | apply Kd.R_alloc | apply Kd.R_drewN | apply Kd.R_drew)); exact (Kd.R_mono (Kd.R_far (p := ⟨gb865, 1, none⟩) (Kd.R_far (p := ⟨gb865, 0, none⟩) (Kd.R_types HO854.out BK865.out (by decide)) (fun _ hk => hk.2) (.int .i64 t860)) (fun _ hk => hk.2) (.slice Ao21 t861.length co21)) (fun _ h_ => h_.1))) hb); have n2_ := Aside0.mk (Kd.S_below (by (with_reducible repeat (first | apply Kd.S_alloc | apply Kd.S_drewN | apply Kd.S_drew)); exact (Kd.S_mono (Kd.S_far (p := ⟨gb865, 1, none⟩) (Kd.S_far (p := ⟨gb865, 0, none⟩) (Kd.S_types HO859.out BK865.out (by decide)) (fun _ hk => hk.2) (.int .i64 t860)) (fun _ hk => hk.2) (.slice Ao21 t861.length co21)) (fun _ h_ => h_.1))) hb); have n3_ := Aside0.mk (Kd.R_below (by (with_reducible repeat (first | apply Kd.R_alloc | apply Kd.R_drewN | apply Kd.R_drew)); exact (Kd.R_mono (Kd.R_far (p := ⟨gb865, 1, none⟩) (Kd.R_far (p := ⟨gb865, 0, none⟩) (Kd.R_types HO863.out BK865.out (by decide)) (fun _ hk => hk.2) (.int .i64 t860)) (fun _ hk => hk.2) (.slice Ao21 t861.length co21)) (fun _ h_ => h_.1))) hb); have n4_ := Aside0.mk (blk_below (g := gb856) (o := .cells #[.int .i64 t851, .slice Ao14 t852.length co14] 34 (0, 0)) (by (with_reducible repeat (first | refine blk_drewN ?_ _ | refine blk_drew ?_ | refine blk_alloc ?_ _)); refine blk_far ?_ NB856_865.out _; (with_reducible repeat (first | refine blk_drewN ?_ _ | refine blk_drew ?_ | refine blk_alloc ?_ _)); refine blk_far ?_ NB856_865.out _; (with_reducible repeat (first | refine blk_drewN ?_ _ | refine blk_drew ?_ | refine blk_alloc ?_ _)); exact BK856.out) hb); have n5_ := Aside0.mk (blk_below (g := gb865) (o := .cells #[.int .i64 t860, .slice Ao21 t861.length co21] 34 (0, 0)) (by (with_reducible repeat (first | refine blk_drewN ?_ _ | refine blk_drew ?_ | refine blk_alloc ?_ _)); refine blk_put (cs := #[.int .i64 t860, .slice none 0 0]) ?_ 1 _ rfl; (with_reducible repeat (first | refine blk_drewN ?_ _ | refine blk_drew ?_ | refine blk_alloc ?_ _)); refine blk_put (cs := #[.int .i64 0, .slice none 0 0]) ?_ 0 _ rfl; (with_reducible repeat (first | refine blk_drewN ?_ _ | refine blk_drew ?_ | refine blk_alloc ?_ _)); exact BK865.out) hb); have n6_ := Aside0.mk (below_step (by repeat (first | (with_reducible first | exact HB.out | apply below_alloc | apply pw_below_drewN | apply below_drew1 | refine below_set ?_ GE856.out | refine below_set ?_ GE865.out) | exact HB.out)) hb); clear HO850; clear HO854; clear HO859; clear HO863; clear BK856; clear BK865; clear HB; have HO850 := n0_; have HO854 := n1_; have HO859 := n2_; have HO863 := n3_; have BK856 := n4_; have BK865 := n5_; have HB := n6_; clear n0_ n1_ n2_ n3_ n4_ n5_ n6_; (try clear hb); (try clear hb2); (try clear hk); (try clear hi)))
        go_meet
        case rel => exact ⟨_, ((t864 != t855)), (by first | rfl | (simp; done) | (simp [*]; done)), H', ⟨by first | omega | exact Nat.le_refl _⟩, ⟨by (with_reducible repeat (first | apply Kd.S_alloc | apply Kd.S_drewN | apply Kd.S_drew)); exact Kd.S_mono HO859.out (fun _ hk => ⟨hk.1.2, hk.2⟩)⟩, ⟨by (with_reducible repeat (first | apply Kd.R_alloc | apply Kd.R_drewN | apply Kd.R_drew)); exact Kd.R_mono HO854.out (fun _ hk => hk.2)⟩, ⟨by (with_reducible repeat (first | apply Kd.R_alloc | apply Kd.R_drewN | apply Kd.R_drew)); exact Kd.R_mono HO863.out (fun _ hk => hk.2)⟩, ⟨by (with_reducible repeat (first | refine blk_drewN ?_ _ | refine blk_drew ?_ | refine blk_alloc ?_ _)); exact BK856.out⟩, ⟨by (with_reducible repeat (first | refine blk_drewN ?_ _ | refine blk_drew ?_ | refine blk_alloc ?_ _)); exact BK865.out⟩, ⟨by repeat (first | (with_reducible first | exact HB.out | apply below_alloc | apply pw_below_drewN | apply below_drew1 | refine below_set ?_ GE856.out | refine below_set ?_ GE865.out) | exact HB.out)⟩⟩
      · replace c23 := Bool.eq_false_iff.mpr c23
        subst c23
        have H1 : (laws_FnExactMajorityOf.j0 k l0 t855 t857 t864 true t851 t852 t860 t861) = some r := by rw [if_neg (show ¬ (false = true) by decide)] at H; exact H
        clear H
        have H := H1
        clear H1
        have H' := Aside0.mk H
        clear H
        have hnb28 := NB865_856.out
        have hnc28 := NB856_865.out
        have hcz29_0 : w18.cell? ⟨gb865, 0, none⟩ = some (.int .i64 0) := (blk_cell BK865.out 0).trans rfl
        have hcz29_1 : w18.cell? ⟨gb865, 1, none⟩ = some (.slice none 0 0) := (blk_cell BK865.out 1).trans rfl
        have hfz29_0 := blk_frozen BK865.out 0
        have hfz29_1 := blk_frozen BK865.out 1
        have hcz30_0 : w18.cell? ⟨gb856, 0, none⟩ = some (.int .i64 t851) := (blk_cell BK856.out 0).trans rfl
        have hcz30_1 : w18.cell? ⟨gb856, 1, none⟩ = some (.slice Ao14 t852.length co14) := (blk_cell BK856.out 1).trans rfl
        have hfz30_0 := blk_frozen BK856.out 0
        have hfz30_1 := blk_frozen BK856.out 1
        go_wp2_with (first | ((with_reducible refine gate_callee (f := 28) rfl ?_); refine goesL_ (some 34) rfl rfl Try.func28 (by kernel_rfl) rfl #[.agg #[.int .i64 t860, .slice Ao21 t861.length co21], .agg #[.int .i64 t851, .slice Ao14 t852.length co14]] rfl (by (try simp only [List.map_toArray, List.map_cons, List.map_nil]); first | done | rfl | (simp only [List.length_drop, List.length_take]; rfl)) ?_; (with_reducible refine (laws_eqOrder.calls k t860 _ _ t861 t851 _ _ t852 false _ ?side1 ?side2 ?side3 ?side4 A22.out).mono ?_); (case side1 => refine (Kd.R_reads' (e := 3) (base := w.heap.size) (ok := fun k_ => (True ∧ some k_ ≠ (.slice Ao14 t852.length co14 : Value).ownBlock)) (n := t861.length) (c := co21) ?_).2.2; exact (by (with_reducible repeat (first | apply Kd.R_alloc | apply Kd.R_drewN | apply Kd.R_drew)); exact (Kd.R_mono (Kd.R_far (p := ⟨gb865, 1, none⟩) (Kd.R_far (p := ⟨gb865, 0, none⟩) (Kd.R_types HO863.out BK865.out (by decide)) (fun _ hk => hk.2) (.int .i64 t860)) (fun _ hk => hk.2) (.slice Ao21 t861.length co21)) (fun _ h_ => h_.1)))); (case side2 => exact (Kd.R_reads' HO863.out).2.1); (case side3 => refine (Kd.R_reads' (e := 3) (base := w.heap.size) (ok := fun k_ => (True ∧ some k_ ≠ (.slice Ao21 t861.length co21 : Value).ownBlock)) (n := t852.length) (c := co14) ?_).2.2; exact (by (with_reducible repeat (first | apply Kd.R_alloc | apply Kd.R_drewN | apply Kd.R_drew)); exact (Kd.R_mono (Kd.R_far (p := ⟨gb865, 1, none⟩) (Kd.R_far (p := ⟨gb865, 0, none⟩) (Kd.R_types HO854.out BK865.out (by decide)) (fun _ hk => hk.2) (.int .i64 t860)) (fun _ hk => hk.2) (.slice Ao21 t861.length co21)) (fun _ h_ => h_.1)))); (case side4 => exact (Kd.R_reads' HO854.out).2.1); rintro e w31 ⟨rfl, hb⟩; refine ⟨_, rfl, ?_⟩; have n0_ := Aside0.mk (Kd.S_below (by (with_reducible repeat (first | apply Kd.S_alloc | apply Kd.S_drewN | apply Kd.S_drew)); exact (Kd.S_mono (Kd.S_far (p := ⟨gb865, 1, none⟩) (Kd.S_far (p := ⟨gb865, 0, none⟩) (Kd.S_types HO850.out BK865.out (by decide)) (fun _ hk => hk.2) (.int .i64 t860)) (fun _ hk => hk.2) (.slice Ao21 t861.length co21)) (fun _ h_ => h_.1))) hb); have n1_ := Aside0.mk (Kd.R_below (by (with_reducible repeat (first | apply Kd.R_alloc | apply Kd.R_drewN | apply Kd.R_drew)); exact (Kd.R_mono (Kd.R_far (p := ⟨gb865, 1, none⟩) (Kd.R_far (p := ⟨gb865, 0, none⟩) (Kd.R_types HO854.out BK865.out (by decide)) (fun _ hk => hk.2) (.int .i64 t860)) (fun _ hk => hk.2) (.slice Ao21 t861.length co21)) (fun _ h_ => h_.1))) hb); have n2_ := Aside0.mk (Kd.S_below (by (with_reducible repeat (first | apply Kd.S_alloc | apply Kd.S_drewN | apply Kd.S_drew)); exact (Kd.S_mono (Kd.S_far (p := ⟨gb865, 1, none⟩) (Kd.S_far (p := ⟨gb865, 0, none⟩) (Kd.S_types HO859.out BK865.out (by decide)) (fun _ hk => hk.2) (.int .i64 t860)) (fun _ hk => hk.2) (.slice Ao21 t861.length co21)) (fun _ h_ => h_.1))) hb); have n3_ := Aside0.mk (Kd.R_below (by (with_reducible repeat (first | apply Kd.R_alloc | apply Kd.R_drewN | apply Kd.R_drew)); exact (Kd.R_mono (Kd.R_far (p := ⟨gb865, 1, none⟩) (Kd.R_far (p := ⟨gb865, 0, none⟩) (Kd.R_types HO863.out BK865.out (by decide)) (fun _ hk => hk.2) (.int .i64 t860)) (fun _ hk => hk.2) (.slice Ao21 t861.length co21)) (fun _ h_ => h_.1))) hb); have n4_ := Aside0.mk (blk_below (g := gb856) (o := .cells #[.int .i64 t851, .slice Ao14 t852.length co14] 34 (0, 0)) (by (with_reducible repeat (first | refine blk_drewN ?_ _ | refine blk_drew ?_ | refine blk_alloc ?_ _)); refine blk_far ?_ NB856_865.out _; (with_reducible repeat (first | refine blk_drewN ?_ _ | refine blk_drew ?_ | refine blk_alloc ?_ _)); refine blk_far ?_ NB856_865.out _; (with_reducible repeat (first | refine blk_drewN ?_ _ | refine blk_drew ?_ | refine blk_alloc ?_ _)); exact BK856.out) hb); have n5_ := Aside0.mk (blk_below (g := gb865) (o := .cells #[.int .i64 t860, .slice Ao21 t861.length co21] 34 (0, 0)) (by (with_reducible repeat (first | refine blk_drewN ?_ _ | refine blk_drew ?_ | refine blk_alloc ?_ _)); refine blk_put (cs := #[.int .i64 t860, .slice none 0 0]) ?_ 1 _ rfl; (with_reducible repeat (first | refine blk_drewN ?_ _ | refine blk_drew ?_ | refine blk_alloc ?_ _)); refine blk_put (cs := #[.int .i64 0, .slice none 0 0]) ?_ 0 _ rfl; (with_reducible repeat (first | refine blk_drewN ?_ _ | refine blk_drew ?_ | refine blk_alloc ?_ _)); exact BK865.out) hb); have n6_ := Aside0.mk (below_step (by repeat (first | (with_reducible first | exact HB.out | apply below_alloc | apply pw_below_drewN | apply below_drew1 | refine below_set ?_ GE856.out | refine below_set ?_ GE865.out) | exact HB.out)) hb); clear HO850; clear HO854; clear HO859; clear HO863; clear BK856; clear BK865; clear HB; have HO850 := n0_; have HO854 := n1_; have HO859 := n2_; have HO863 := n3_; have BK856 := n4_; have BK865 := n5_; have HB := n6_; clear n0_ n1_ n2_ n3_ n4_ n5_ n6_; (try clear hb); (try clear hb2); (try clear hk); (try clear hi)))
        go_meet
        case rel => exact ⟨_, (true), (by first | rfl | (simp; done) | (simp [*]; done)), H', ⟨by first | omega | exact Nat.le_refl _⟩, ⟨by (with_reducible repeat (first | apply Kd.S_alloc | apply Kd.S_drewN | apply Kd.S_drew)); exact Kd.S_mono HO859.out (fun _ hk => ⟨hk.1.2, hk.2⟩)⟩, ⟨by (with_reducible repeat (first | apply Kd.R_alloc | apply Kd.R_drewN | apply Kd.R_drew)); exact Kd.R_mono HO854.out (fun _ hk => hk.2)⟩, ⟨by (with_reducible repeat (first | apply Kd.R_alloc | apply Kd.R_drewN | apply Kd.R_drew)); exact Kd.R_mono HO863.out (fun _ hk => hk.2)⟩, ⟨by (with_reducible repeat (first | refine blk_drewN ?_ _ | refine blk_drew ?_ | refine blk_alloc ?_ _)); exact BK856.out⟩, ⟨by (with_reducible repeat (first | refine blk_drewN ?_ _ | refine blk_drew ?_ | refine blk_alloc ?_ _)); exact BK865.out⟩, ⟨by repeat (first | (with_reducible first | exact HB.out | apply below_alloc | apply pw_below_drewN | apply below_drew1 | refine below_set ?_ GE856.out | refine below_set ?_ GE865.out) | exact HB.out)⟩⟩
    case rest =>
      clear HC8
      try clear c1
      try clear c2
      try clear p2
      try clear c3
      try clear c3b0
      try clear c4
      try clear c11
      try clear c19
      try clear c23
      try clear c24
      try clear c28
      try clear hcz13_0
      try clear hcz13_1
      try clear hcz20_0
      try clear hcz20_1
      try clear hcz25_0
      try clear hcz25_1
      try clear hcz26_0
      try clear hcz26_1
      try clear hcz29_0
      try clear hcz29_1
      try clear hcz30_0
      try clear hcz30_1
      try clear hfz13_0
      try clear hfz13_1
      try clear hfz20_0
      try clear hfz20_1
      try clear hfz25_0
      try clear hfz25_1
      try clear hfz26_0
      try clear hfz26_1
      try clear hfz29_0
      try clear hfz29_1
      try clear hfz30_0
      try clear hfz30_1
      obtain ⟨kq, x40_7, rfl, HA, HJ7, HO_6, HO_857001, HO_866001, BK856, BK865, HB⟩ := hcut
      cases kq with
      | zero => exact absurd HA.out (by simp [laws_FnExactMajorityOf.j0])
      | succ kj7 =>
        have H := HA.out
        clear HA
        simp only [laws_FnExactMajorityOf.j0] at H
        by_cases c32 : x40_7 = true
        · subst c32
          have H1 : (some false) = some r := by rw [if_pos rfl] at H; exact H
          clear H
          have H := H1
          clear H1
          obtain rfl := Option.some.inj H
          go_wp2
          go_ret
          exact ⟨by first | rfl | (simp [errW_none, errW_some] <;> rfl) | (simp [*, errW_none, errW_some] <;> rfl), by repeat (first | (with_reducible first | exact HB.out | apply below_alloc | apply pw_below_drewN | apply below_drew1 | refine below_set ?_ GE856.out | refine below_set ?_ GE865.out) | exact HB.out)⟩
        · replace c32 := Bool.eq_false_iff.mpr c32
          subst c32
          have H1 : ((laws_toIntSS.f kj7 l0).bind fun t867 => ((laws_eqIntSS.f kj7 t857 t867).bind fun t870 => (if t870 = true then ((laws_markIntSS.f kj7 t857 1).bind fun t871 => (if t871 < 0 then (laws_FnExactMajorityOf.j1 kj7 l0 t855 true t851 t852 t860 t861) else ((laws_eqOrder.f kj7 t860 t861 t851 t852).bind fun t872 => (if t872 = true then (laws_FnExactMajorityOf.j1 kj7 l0 t855 (t864 != t855) t851 t852 t860 t861) else (laws_FnExactMajorityOf.j1 kj7 l0 t855 true t851 t852 t860 t861))))) else (some false)))) = some r := by rw [if_neg (show ¬ (false = true) by decide)] at H; exact H
          clear H
          have H := H1
          clear H1
          replace H := Option.bind_eq_some_iff.mp H
          obtain ⟨t867, A330, H⟩ := H
          replace H : ((laws_eqIntSS.f kj7 t857 t867).bind fun t870 => (if t870 = true then ((laws_markIntSS.f kj7 t857 1).bind fun t871 => (if t871 < 0 then (laws_FnExactMajorityOf.j1 kj7 l0 t855 true t851 t852 t860 t861) else ((laws_eqOrder.f kj7 t860 t861 t851 t852).bind fun t872 => (if t872 = true then (laws_FnExactMajorityOf.j1 kj7 l0 t855 (t864 != t855) t851 t852 t860 t861) else (laws_FnExactMajorityOf.j1 kj7 l0 t855 true t851 t852 t860 t861))))) else (some false))) = some r := H
          have A33 := Aside0.mk A330
          clear A330
          replace H := Option.bind_eq_some_iff.mp H
          obtain ⟨t870, A340, H⟩ := H
          replace H : (if t870 = true then ((laws_markIntSS.f kj7 t857 1).bind fun t871 => (if t871 < 0 then (laws_FnExactMajorityOf.j1 kj7 l0 t855 true t851 t852 t860 t861) else ((laws_eqOrder.f kj7 t860 t861 t851 t852).bind fun t872 => (if t872 = true then (laws_FnExactMajorityOf.j1 kj7 l0 t855 (t864 != t855) t851 t852 t860 t861) else (laws_FnExactMajorityOf.j1 kj7 l0 t855 true t851 t852 t860 t861))))) else (some false)) = some r := H
          have A34 := Aside0.mk A340
          clear A340
          by_cases c35 : t870 = true
          · subst c35
            have H1 : ((laws_markIntSS.f kj7 t857 1).bind fun t871 => (if t871 < 0 then (laws_FnExactMajorityOf.j1 kj7 l0 t855 true t851 t852 t860 t861) else ((laws_eqOrder.f kj7 t860 t861 t851 t852).bind fun t872 => (if t872 = true then (laws_FnExactMajorityOf.j1 kj7 l0 t855 (t864 != t855) t851 t852 t860 t861) else (laws_FnExactMajorityOf.j1 kj7 l0 t855 true t851 t852 t860 t861))))) = some r := by rw [if_pos rfl] at H; exact H
            clear H
            have H := H1
            clear H1
            replace H := Option.bind_eq_some_iff.mp H
            obtain ⟨t871, A360, H⟩ := H
            replace H : (if t871 < 0 then (laws_FnExactMajorityOf.j1 kj7 l0 t855 true t851 t852 t860 t861) else ((laws_eqOrder.f kj7 t860 t861 t851 t852).bind fun t872 => (if t872 = true then (laws_FnExactMajorityOf.j1 kj7 l0 t855 (t864 != t855) t851 t852 t860 t861) else (laws_FnExactMajorityOf.j1 kj7 l0 t855 true t851 t852 t860 t861)))) = some r := H
            have A36 := Aside0.mk A360
            clear A360
            have HC37 := Aside0.mk H
            clear H
            go_upto_region 14 with (first | ((with_reducible refine gate_callee (f := 42) rfl ?_); refine goesL_ (some 43) rfl rfl Try.func42 (by kernel_rfl) rfl #[.slice A0 l0.length c0] rfl (by (try simp only [List.map_toArray, List.map_cons, List.map_nil]); first | done | rfl | (simp only [List.length_drop, List.length_take]; rfl)) ?_; (with_reducible refine (laws_toIntSS.calls kj7 _ _ l0 t867 _ ?side1 ?side2 A33.out).mono ?_); (case side1 => repeat (first | exact (Kd.C_below HR0.out HB.out) | (with_reducible refine Kd.C_alloc ?_ _) | (with_reducible refine Kd.C_drewN ?_ _) | (with_reducible refine Kd.C_drew ?_))); (case side2 => exact HC0.out); rintro e w38 ⟨v868, rfl, ho0, hb⟩; refine ⟨_, rfl, ?_⟩; have n0_ := Aside0.mk (Kd.S_elder' (by (with_reducible repeat (first | apply Kd.S_alloc | apply Kd.S_drewN | apply Kd.S_drew)); exact HO_6.out) (Kd.S_base ho0) hb); have n1_ := Aside0.mk (Kd.R_below (by (with_reducible repeat (first | apply Kd.R_alloc | apply Kd.R_drewN | apply Kd.R_drew)); exact HO_857001.out) hb); have n2_ := Aside0.mk (Kd.R_below (by (with_reducible repeat (first | apply Kd.R_alloc | apply Kd.R_drewN | apply Kd.R_drew)); exact HO_866001.out) hb); have n3_ := Aside0.mk (Kd.S_lower (Kd.S_new' (Kd.S_new' (Kd.S_new' ho0 (Kd.S_lt (by (with_reducible repeat (first | apply Kd.S_alloc | apply Kd.S_drewN | apply Kd.S_drew)); exact HO_6.out))) (Kd.R_lt (by (with_reducible repeat (first | apply Kd.R_alloc | apply Kd.R_drewN | apply Kd.R_drew)); exact HO_857001.out))) (Kd.R_lt (by (with_reducible repeat (first | apply Kd.R_alloc | apply Kd.R_drewN | apply Kd.R_drew)); exact HO_866001.out))) (below_size (by repeat (first | (with_reducible first | exact HB.out | apply below_alloc | apply pw_below_drewN | apply below_drew1 | refine below_set ?_ GE856.out | refine below_set ?_ GE865.out) | exact HB.out)))); have n4_ := Aside0.mk (blk_below (g := gb856) (o := .cells #[.int .i64 t851, .slice Ao14 t852.length co14] 34 (0, 0)) (by (with_reducible repeat (first | refine blk_drewN ?_ _ | refine blk_drew ?_ | refine blk_alloc ?_ _)); exact BK856.out) hb); have n5_ := Aside0.mk (blk_below (g := gb865) (o := .cells #[.int .i64 t860, .slice Ao21 t861.length co21] 34 (0, 0)) (by (with_reducible repeat (first | refine blk_drewN ?_ _ | refine blk_drew ?_ | refine blk_alloc ?_ _)); exact BK865.out) hb); have n6_ := Aside0.mk (below_step (by repeat (first | (with_reducible first | exact HB.out | apply below_alloc | apply pw_below_drewN | apply below_drew1 | refine below_set ?_ GE856.out | refine below_set ?_ GE865.out) | exact HB.out)) hb); clear HO_6; clear HO_857001; clear HO_866001; clear BK856; clear BK865; clear HB; have HO_6 := n0_; have HO_857001 := n1_; have HO_866001 := n2_; have HO869 := n3_; have BK856 := n4_; have BK865 := n5_; have HB := n6_; clear n0_ n1_ n2_ n3_ n4_ n5_ n6_; (try clear hb); (try clear hb2); (try clear hk); (try clear hi); (try clear ho0); obtain ⟨Ao39, co39, eo39⟩ := Kd.S_slice HO869.out; subst eo39) | ((with_reducible refine gate_callee (f := 44) rfl ?_); refine goesL_ (some 44) rfl rfl Try.func44 (by kernel_rfl) rfl #[.slice Ao16 t857.length co16, .slice Ao39 t867.length co39] rfl (by (try simp only [List.map_toArray, List.map_cons, List.map_nil]); first | done | rfl | (simp only [List.length_drop, List.length_take]; rfl)) ?_; (with_reducible refine (laws_eqIntSS.calls kj7 _ _ t857 _ _ t867 true _ ?side1 ?side2 ?side3 ?side4 A34.out).mono ?_); (case side1 => repeat (first | exact (Kd.S_reads' HO_6.out).2.2 | (with_reducible refine Kd.C_alloc ?_ _) | (with_reducible refine Kd.C_drewN ?_ _) | (with_reducible refine Kd.C_drew ?_))); (case side2 => exact (Kd.S_reads' HO_6.out).2.1); (case side3 => repeat (first | exact (Kd.S_reads' HO869.out).2.2 | (with_reducible refine Kd.C_alloc ?_ _) | (with_reducible refine Kd.C_drewN ?_ _) | (with_reducible refine Kd.C_drew ?_))); (case side4 => exact (Kd.S_reads' HO869.out).2.1); rintro e w' ⟨rfl, ⟨nd, rfl⟩⟩; refine ⟨_, rfl, ?_⟩) | ((with_reducible refine gate_callee (f := 45) rfl ?_); refine goesL_ (some 48) rfl rfl Try.func45 (by kernel_rfl) rfl #[.slice Ao16 t857.length co16, .int .i64 1] rfl (by (try simp only [List.map_toArray, List.map_cons, List.map_nil]); first | done | rfl | (simp only [List.length_drop, List.length_take]; rfl)) ?_; (with_reducible refine (laws_markIntSS.calls kj7 (fun k_ => (((some k_ ≠ (.slice Ao14 t852.length co14 : Value).ownBlock ∧ some k_ ≠ (.slice Ao21 t861.length co21 : Value).ownBlock) ∧ some k_ ≠ (.slice Ao39 t867.length co39 : Value).ownBlock)) ∧ w.heap.size ≤ k_ ∧ k_ < w38.heap.size ∧ ∃ q_, q_ ∈ (22 :: ((Kd.slice 3 (Kd.int .i64))).E) ∧ ∃ cells_, w38.heap[k_]? = some (.cells cells_ q_ (0, 0))) (.slice Ao16 t857.length co16) t857 1 t871 w _ ?side1 ?side2 A36.out).mono ?_); (case side1 => repeat (first | (with_reducible first | exact HB.out | apply below_alloc | apply pw_below_drewN | apply below_drew1 | refine below_set ?_ GE856.out | refine below_set ?_ GE865.out) | exact HB.out)); (case side2 => exact Kd.S_bound (HO_6.out)); rintro e w40 ⟨rfl, hb, hkp⟩; refine ⟨_, rfl, ?_⟩; have n0_ := Aside0.mk (Kd.R_mono (ok' := fun k_ => some k_ ≠ (.slice Ao21 t861.length co21 : Value).ownBlock) (Kd.R_keptB ((Kd.R_mono (ok' := fun k_ => some k_ ≠ (.slice Ao21 t861.length co21 : Value).ownBlock ∧ ¬ (fun k_ => (((some k_ ≠ (.slice Ao14 t852.length co14 : Value).ownBlock ∧ some k_ ≠ (.slice Ao21 t861.length co21 : Value).ownBlock) ∧ some k_ ≠ (.slice Ao39 t867.length co39 : Value).ownBlock)) ∧ w.heap.size ≤ k_ ∧ k_ < w38.heap.size ∧ ∃ q_, q_ ∈ (22 :: ((Kd.slice 3 (Kd.int .i64))).E) ∧ ∃ cells_, w38.heap[k_]? = some (.cells cells_ q_ (0, 0))) k_) (Kd.R_tight2 rfl HO_857001.out) (fun k_ hk => ⟨hk.2, fun e_ => (e_.1.1.1) hk.1⟩))) hkp (fun k_ hk_ hs_ => (hk_.2) hs_)) (fun k_ hk_ => hk_.1.1)); have n1_ := Aside0.mk (Kd.R_mono (ok' := fun k_ => some k_ ≠ (.slice Ao14 t852.length co14 : Value).ownBlock) (Kd.R_keptB ((Kd.R_mono (ok' := fun k_ => some k_ ≠ (.slice Ao14 t852.length co14 : Value).ownBlock ∧ ¬ (fun k_ => (((some k_ ≠ (.slice Ao14 t852.length co14 : Value).ownBlock ∧ some k_ ≠ (.slice Ao21 t861.length co21 : Value).ownBlock) ∧ some k_ ≠ (.slice Ao39 t867.length co39 : Value).ownBlock)) ∧ w.heap.size ≤ k_ ∧ k_ < w38.heap.size ∧ ∃ q_, q_ ∈ (22 :: ((Kd.slice 3 (Kd.int .i64))).E) ∧ ∃ cells_, w38.heap[k_]? = some (.cells cells_ q_ (0, 0))) k_) (Kd.R_tight2 rfl HO_866001.out) (fun k_ hk => ⟨hk.2, fun e_ => (e_.1.1.2) hk.1⟩))) hkp (fun k_ hk_ hs_ => (hk_.2) hs_)) (fun k_ hk_ => hk_.1.1)); have n2_ := Aside0.mk (blk_kept (by (with_reducible repeat (first | refine blk_drewN ?_ _ | refine blk_drew ?_ | refine blk_alloc ?_ _)); exact BK856.out) hkp (fun hs_ => (fun e_ => by obtain ⟨_, _, _, q_, hq_, c_, hc_⟩ := e_; have hB_ := (by (with_reducible repeat (first | refine blk_drewN ?_ _ | refine blk_drew ?_ | refine blk_alloc ?_ _)); exact BK856.out); rw [hB_] at hc_; injection hc_ with hc_; injection hc_ with _ hc_; subst hc_; exact absurd hq_ (by decide)) hs_)); have n3_ := Aside0.mk (blk_kept (by (with_reducible repeat (first | refine blk_drewN ?_ _ | refine blk_drew ?_ | refine blk_alloc ?_ _)); exact BK865.out) hkp (fun hs_ => (fun e_ => by obtain ⟨_, _, _, q_, hq_, c_, hc_⟩ := e_; have hB_ := (by (with_reducible repeat (first | refine blk_drewN ?_ _ | refine blk_drew ?_ | refine blk_alloc ?_ _)); exact BK865.out); rw [hB_] at hc_; injection hc_ with hc_; injection hc_ with _ hc_; subst hc_; exact absurd hq_ (by decide)) hs_)); have n4_ := Aside0.mk (hb); clear HO_857001; clear HO_866001; clear BK856; clear BK865; clear HB; clear HO869; clear HO_6; have HO_857001 := n0_; have HO_866001 := n1_; have BK856 := n2_; have BK865 := n3_; have HB := n4_; clear n0_ n1_ n2_ n3_ n4_; (try clear hb); (try clear hkp)))
            (try simp only [Act.put, List.setIfInBounds_toArray, List.set_cons_zero, List.set_cons_succ])
            go_cut [61] (fun v61 wc => ∃ (kq : Nat) (x61_36 : Bool), v61 = .bool x61_36 ∧ Aside0 (laws_FnExactMajorityOf.j1 kq l0 t855 x61_36 t851 t852 t860 t861 = some r) ∧ Aside0 (kq ≤ kj7) ∧ Aside0 (Kd.R (Kd.int .i64) 3 wc w.heap.size (fun k_ => some k_ ≠ ((.slice Ao21 t861.length co21) : Value).ownBlock) (.slice Ao14 t852.length co14) t852) ∧ Aside0 (Kd.R (Kd.int .i64) 3 wc w.heap.size (fun k_ => some k_ ≠ ((.slice Ao14 t852.length co14) : Value).ownBlock) (.slice Ao21 t861.length co21) t861) ∧ Aside0 (wc.heap[gb856]? = some (.cells #[.int .i64 t851, (.slice Ao14 t852.length co14)] 34 (0, 0))) ∧ Aside0 (wc.heap[gb865]? = some (.cells #[.int .i64 t860, (.slice Ao21 t861.length co21)] 34 (0, 0))) ∧ Aside0 (Below w.heap.size w wc))
            case first =>
              have H := HC37.out
              clear HC37
              by_cases c41 : t871 < 0
              · rw [if_pos c41] at H
                have c41b0 : decide (t871 < 0) = true := decide_eq_true c41
                clear c41
                (first | rw [c41b0] | (simp only [i64_w, i32_w]; rw [c41b0]) | skip)
                have H' := Aside0.mk H
                clear H
                go_wp2
                go_meet
                case rel => exact ⟨_, (true), (by first | rfl | (simp; done) | (simp [*]; done)), H', ⟨by have := HJ7.out; first | omega | exact Nat.le_refl _⟩, ⟨by (with_reducible repeat (first | apply Kd.R_alloc | apply Kd.R_drewN | apply Kd.R_drew)); exact HO_857001.out⟩, ⟨by (with_reducible repeat (first | apply Kd.R_alloc | apply Kd.R_drewN | apply Kd.R_drew)); exact HO_866001.out⟩, ⟨by (with_reducible repeat (first | refine blk_drewN ?_ _ | refine blk_drew ?_ | refine blk_alloc ?_ _)); exact BK856.out⟩, ⟨by (with_reducible repeat (first | refine blk_drewN ?_ _ | refine blk_drew ?_ | refine blk_alloc ?_ _)); exact BK865.out⟩, ⟨by repeat (first | (with_reducible first | exact HB.out | apply below_alloc | apply pw_below_drewN | apply below_drew1 | refine below_set ?_ GE856.out | refine below_set ?_ GE865.out) | exact HB.out)⟩⟩
              · rw [if_neg c41] at H
                have c41b0 : decide (t871 < 0) = false := decide_eq_false c41
                clear c41
                (first | rw [c41b0] | (simp only [i64_w, i32_w]; rw [c41b0]) | skip)
                replace H := Option.bind_eq_some_iff.mp H
                obtain ⟨t872, A420, H⟩ := H
                replace H : (if t872 = true then (laws_FnExactMajorityOf.j1 kj7 l0 t855 (t864 != t855) t851 t852 t860 t861) else (laws_FnExactMajorityOf.j1 kj7 l0 t855 true t851 t852 t860 t861)) = some r := H
                have A42 := Aside0.mk A420
                clear A420
                by_cases c43 : t872 = true
                · subst c43
                  have H1 : (laws_FnExactMajorityOf.j1 kj7 l0 t855 (t864 != t855) t851 t852 t860 t861) = some r := by rw [if_pos rfl] at H; exact H
                  clear H
                  have H := H1
                  clear H1
                  have H' := Aside0.mk H
                  clear H
                  have hnb44 := NB865_856.out
                  have hnc44 := NB856_865.out
                  have hcz45_0 : w40.cell? ⟨gb865, 0, none⟩ = some (.int .i64 t860) := (blk_cell BK865.out 0).trans rfl
                  have hcz45_1 : w40.cell? ⟨gb865, 1, none⟩ = some (.slice Ao21 t861.length co21) := (blk_cell BK865.out 1).trans rfl
                  have hfz45_0 := blk_frozen BK865.out 0
                  have hfz45_1 := blk_frozen BK865.out 1
                  have hcz46_0 : w40.cell? ⟨gb856, 0, none⟩ = some (.int .i64 t851) := (blk_cell BK856.out 0).trans rfl
                  have hcz46_1 : w40.cell? ⟨gb856, 1, none⟩ = some (.slice Ao14 t852.length co14) := (blk_cell BK856.out 1).trans rfl
                  have hfz46_0 := blk_frozen BK856.out 0
                  have hfz46_1 := blk_frozen BK856.out 1
                  go_wp2_with (first | (go_at_call 28; (with_reducible refine (laws_eqOrder.calls kj7 t860 _ _ t861 t851 _ _ t852 true _ ?side1 ?side2 ?side3 ?side4 A42.out).mono ?_); (case side1 => repeat (first | exact (Kd.R_reads' HO_866001.out).2.2 | (with_reducible refine Kd.C_alloc ?_ _) | (with_reducible refine Kd.C_drewN ?_ _) | (with_reducible refine Kd.C_drew ?_))); (case side2 => exact (Kd.R_reads' HO_866001.out).2.1); (case side3 => repeat (first | exact (Kd.R_reads' HO_857001.out).2.2 | (with_reducible refine Kd.C_alloc ?_ _) | (with_reducible refine Kd.C_drewN ?_ _) | (with_reducible refine Kd.C_drew ?_))); (case side4 => exact (Kd.R_reads' HO_857001.out).2.1); rintro e w47 ⟨rfl, hb⟩; have n0_ := Aside0.mk (Kd.R_below (by (with_reducible repeat (first | apply Kd.R_alloc | apply Kd.R_drewN | apply Kd.R_drew)); exact HO_857001.out) hb); have n1_ := Aside0.mk (Kd.R_below (by (with_reducible repeat (first | apply Kd.R_alloc | apply Kd.R_drewN | apply Kd.R_drew)); exact HO_866001.out) hb); have n2_ := Aside0.mk (blk_below (g := gb856) (o := .cells #[.int .i64 t851, .slice Ao14 t852.length co14] 34 (0, 0)) (by (with_reducible repeat (first | refine blk_drewN ?_ _ | refine blk_drew ?_ | refine blk_alloc ?_ _)); exact BK856.out) hb); have n3_ := Aside0.mk (blk_below (g := gb865) (o := .cells #[.int .i64 t860, .slice Ao21 t861.length co21] 34 (0, 0)) (by (with_reducible repeat (first | refine blk_drewN ?_ _ | refine blk_drew ?_ | refine blk_alloc ?_ _)); exact BK865.out) hb); have n4_ := Aside0.mk (below_step (by repeat (first | (with_reducible first | exact HB.out | apply below_alloc | apply pw_below_drewN | apply below_drew1 | refine below_set ?_ GE856.out | refine below_set ?_ GE865.out) | exact HB.out)) hb); clear HO_857001; clear HO_866001; clear BK856; clear BK865; clear HB; have HO_857001 := n0_; have HO_866001 := n1_; have BK856 := n2_; have BK865 := n3_; have HB := n4_; clear n0_ n1_ n2_ n3_ n4_; (try clear hb); (try clear hb2); (try clear hk); (try clear hi)))
                  go_meet
                  case rel => exact ⟨_, ((t864 != t855)), (by first | rfl | (simp; done) | (simp [*]; done)), H', ⟨by have := HJ7.out; first | omega | exact Nat.le_refl _⟩, ⟨by (with_reducible repeat (first | apply Kd.R_alloc | apply Kd.R_drewN | apply Kd.R_drew)); exact HO_857001.out⟩, ⟨by (with_reducible repeat (first | apply Kd.R_alloc | apply Kd.R_drewN | apply Kd.R_drew)); exact HO_866001.out⟩, ⟨by (with_reducible repeat (first | refine blk_drewN ?_ _ | refine blk_drew ?_ | refine blk_alloc ?_ _)); exact BK856.out⟩, ⟨by (with_reducible repeat (first | refine blk_drewN ?_ _ | refine blk_drew ?_ | refine blk_alloc ?_ _)); exact BK865.out⟩, ⟨by repeat (first | (with_reducible first | exact HB.out | apply below_alloc | apply pw_below_drewN | apply below_drew1 | refine below_set ?_ GE856.out | refine below_set ?_ GE865.out) | exact HB.out)⟩⟩
                · replace c43 := Bool.eq_false_iff.mpr c43
                  subst c43
                  have H1 : (laws_FnExactMajorityOf.j1 kj7 l0 t855 true t851 t852 t860 t861) = some r := by rw [if_neg (show ¬ (false = true) by decide)] at H; exact H
                  clear H
                  have H := H1
                  clear H1
                  have H' := Aside0.mk H
                  clear H
                  have hnb48 := NB865_856.out
                  have hnc48 := NB856_865.out
                  have hcz49_0 : w40.cell? ⟨gb865, 0, none⟩ = some (.int .i64 t860) := (blk_cell BK865.out 0).trans rfl
                  have hcz49_1 : w40.cell? ⟨gb865, 1, none⟩ = some (.slice Ao21 t861.length co21) := (blk_cell BK865.out 1).trans rfl
                  have hfz49_0 := blk_frozen BK865.out 0
                  have hfz49_1 := blk_frozen BK865.out 1
                  have hcz50_0 : w40.cell? ⟨gb856, 0, none⟩ = some (.int .i64 t851) := (blk_cell BK856.out 0).trans rfl
                  have hcz50_1 : w40.cell? ⟨gb856, 1, none⟩ = some (.slice Ao14 t852.length co14) := (blk_cell BK856.out 1).trans rfl
                  have hfz50_0 := blk_frozen BK856.out 0
                  have hfz50_1 := blk_frozen BK856.out 1
                  go_wp2_with (first | (go_at_call 28; (with_reducible refine (laws_eqOrder.calls kj7 t860 _ _ t861 t851 _ _ t852 false _ ?side1 ?side2 ?side3 ?side4 A42.out).mono ?_); (case side1 => repeat (first | exact (Kd.R_reads' HO_866001.out).2.2 | (with_reducible refine Kd.C_alloc ?_ _) | (with_reducible refine Kd.C_drewN ?_ _) | (with_reducible refine Kd.C_drew ?_))); (case side2 => exact (Kd.R_reads' HO_866001.out).2.1); (case side3 => repeat (first | exact (Kd.R_reads' HO_857001.out).2.2 | (with_reducible refine Kd.C_alloc ?_ _) | (with_reducible refine Kd.C_drewN ?_ _) | (with_reducible refine Kd.C_drew ?_))); (case side4 => exact (Kd.R_reads' HO_857001.out).2.1); rintro e w51 ⟨rfl, hb⟩; have n0_ := Aside0.mk (Kd.R_below (by (with_reducible repeat (first | apply Kd.R_alloc | apply Kd.R_drewN | apply Kd.R_drew)); exact HO_857001.out) hb); have n1_ := Aside0.mk (Kd.R_below (by (with_reducible repeat (first | apply Kd.R_alloc | apply Kd.R_drewN | apply Kd.R_drew)); exact HO_866001.out) hb); have n2_ := Aside0.mk (blk_below (g := gb856) (o := .cells #[.int .i64 t851, .slice Ao14 t852.length co14] 34 (0, 0)) (by (with_reducible repeat (first | refine blk_drewN ?_ _ | refine blk_drew ?_ | refine blk_alloc ?_ _)); exact BK856.out) hb); have n3_ := Aside0.mk (blk_below (g := gb865) (o := .cells #[.int .i64 t860, .slice Ao21 t861.length co21] 34 (0, 0)) (by (with_reducible repeat (first | refine blk_drewN ?_ _ | refine blk_drew ?_ | refine blk_alloc ?_ _)); exact BK865.out) hb); have n4_ := Aside0.mk (below_step (by repeat (first | (with_reducible first | exact HB.out | apply below_alloc | apply pw_below_drewN | apply below_drew1 | refine below_set ?_ GE856.out | refine below_set ?_ GE865.out) | exact HB.out)) hb); clear HO_857001; clear HO_866001; clear BK856; clear BK865; clear HB; have HO_857001 := n0_; have HO_866001 := n1_; have BK856 := n2_; have BK865 := n3_; have HB := n4_; clear n0_ n1_ n2_ n3_ n4_; (try clear hb); (try clear hb2); (try clear hk); (try clear hi)))
                  go_meet
                  case rel => exact ⟨_, (true), (by first | rfl | (simp; done) | (simp [*]; done)), H', ⟨by have := HJ7.out; first | omega | exact Nat.le_refl _⟩, ⟨by (with_reducible repeat (first | apply Kd.R_alloc | apply Kd.R_drewN | apply Kd.R_drew)); exact HO_857001.out⟩, ⟨by (with_reducible repeat (first | apply Kd.R_alloc | apply Kd.R_drewN | apply Kd.R_drew)); exact HO_866001.out⟩, ⟨by (with_reducible repeat (first | refine blk_drewN ?_ _ | refine blk_drew ?_ | refine blk_alloc ?_ _)); exact BK856.out⟩, ⟨by (with_reducible repeat (first | refine blk_drewN ?_ _ | refine blk_drew ?_ | refine blk_alloc ?_ _)); exact BK865.out⟩, ⟨by repeat (first | (with_reducible first | exact HB.out | apply below_alloc | apply pw_below_drewN | apply below_drew1 | refine below_set ?_ GE856.out | refine below_set ?_ GE865.out) | exact HB.out)⟩⟩
            case rest =>
              clear HC37
              try clear c1
              try clear c2
              try clear p2
              try clear c3
              try clear c3b0
              try clear c4
              try clear c11
              try clear c19
              try clear c23
              try clear c24
              try clear c28
              try clear c32
              try clear c35
              try clear c40
              try clear c41
              try clear c41b0
              try clear c42
              try clear c43
              try clear c44
              try clear c45
              try clear c48
              try clear hcz13_0
              try clear hcz13_1
              try clear hcz20_0
              try clear hcz20_1
              try clear hcz25_0
              try clear hcz25_1
              try clear hcz26_0
              try clear hcz26_1
              try clear hcz29_0
              try clear hcz29_1
              try clear hcz30_0
              try clear hcz30_1
              try clear hcz45_0
              try clear hcz45_1
              try clear hcz46_0
              try clear hcz46_1
              try clear hcz49_0
              try clear hcz49_1
              try clear hcz50_0
              try clear hcz50_1
              try clear hfz13_0
              try clear hfz13_1
              try clear hfz20_0
              try clear hfz20_1
              try clear hfz25_0
              try clear hfz25_1
              try clear hfz26_0
              try clear hfz26_1
              try clear hfz29_0
              try clear hfz29_1
              try clear hfz30_0
              try clear hfz30_1
              try clear hfz45_0
              try clear hfz45_1
              try clear hfz46_0
              try clear hfz46_1
              try clear hfz49_0
              try clear hfz49_1
              try clear hfz50_0
              try clear hfz50_1
              try clear p2
              obtain ⟨kq, x61_36, rfl, HA, HJ36, HO_857001, HO_866001, BK856, BK865, HB⟩ := hcut
              cases kq with
              | zero => exact absurd HA.out (by simp [laws_FnExactMajorityOf.j1])
              | succ kj36 =>
                have H := HA.out
                clear HA
                simp only [laws_FnExactMajorityOf.j1] at H
                by_cases c52 : x61_36 = true
                · subst c52
                  have H1 : (some false) = some r := by rw [if_pos rfl] at H; exact H
                  clear H
                  have H := H1
                  clear H1
                  obtain rfl := Option.some.inj H
                  go_wp2
                  go_ret
                  exact ⟨by first | rfl | (simp [errW_none, errW_some] <;> rfl) | (simp [*, errW_none, errW_some] <;> rfl), by repeat (first | (with_reducible first | exact HB.out | apply below_alloc | apply pw_below_drewN | apply below_drew1 | refine below_set ?_ GE856.out | refine below_set ?_ GE865.out) | exact HB.out)⟩
                · replace c52 := Bool.eq_false_iff.mpr c52
                  subst c52
                  have H1 : ((laws_markOrder.f kj36 t860 t861 1).bind fun bt873 => ((laws_heldOrder.f kj36 t860 bt873.2 1).bind fun t875 => (if t875 < 0 then (some false) else (if t875 = bt873.1 then ((laws_toIntSS.f kj36 l0).bind fun t876 => ((impl_MajorityOf.f kj36 t876).bind fun bt879 => ((laws_eqOrder.f kj36 bt879.1 bt879.2.1 t851 t852).bind fun t885 => (if t885 = true then (laws_FnExactMajorityOf.j2 kj36 bt873.1 (bt879.2.2 != t855) t860 bt873.2) else (laws_FnExactMajorityOf.j2 kj36 bt873.1 true t860 bt873.2))))) else (some false))))) = some r := by rw [if_neg (show ¬ (false = true) by decide)] at H; exact H
                  clear H
                  have H := H1
                  clear H1
                  replace H := Option.bind_eq_some_iff.mp H
                  obtain ⟨⟨t873, t874⟩, A530, H⟩ := H
                  replace H : ((laws_heldOrder.f kj36 t860 t874 1).bind fun t875 => (if t875 < 0 then (some false) else (if t875 = t873 then ((laws_toIntSS.f kj36 l0).bind fun t876 => ((impl_MajorityOf.f kj36 t876).bind fun bt879 => ((laws_eqOrder.f kj36 bt879.1 bt879.2.1 t851 t852).bind fun t885 => (if t885 = true then (laws_FnExactMajorityOf.j2 kj36 t873 (bt879.2.2 != t855) t860 t874) else (laws_FnExactMajorityOf.j2 kj36 t873 true t860 t874))))) else (some false)))) = some r := H
                  have A53 := Aside0.mk A530
                  clear A530
                  replace H := Option.bind_eq_some_iff.mp H
                  obtain ⟨t875, A540, H⟩ := H
                  replace H : (if t875 < 0 then (some false) else (if t875 = t873 then ((laws_toIntSS.f kj36 l0).bind fun t876 => ((impl_MajorityOf.f kj36 t876).bind fun bt879 => ((laws_eqOrder.f kj36 bt879.1 bt879.2.1 t851 t852).bind fun t885 => (if t885 = true then (laws_FnExactMajorityOf.j2 kj36 t873 (bt879.2.2 != t855) t860 t874) else (laws_FnExactMajorityOf.j2 kj36 t873 true t860 t874))))) else (some false))) = some r := H
                  have A54 := Aside0.mk A540
                  clear A540
                  by_cases c55 : t875 < 0
                  · rw [if_pos c55] at H
                    have c55b0 : decide (t875 < 0) = true := decide_eq_true c55
                    clear c55
                    obtain rfl := Option.some.inj H
                    have hnb56 := NB865_856.out
                    have hnc56 := NB856_865.out
                    have hcz57_0 : wc.cell? ⟨gb865, 0, none⟩ = some (.int .i64 t860) := (blk_cell BK865.out 0).trans rfl
                    have hcz57_1 : wc.cell? ⟨gb865, 1, none⟩ = some (.slice Ao21 t861.length co21) := (blk_cell BK865.out 1).trans rfl
                    have hfz57_0 := blk_frozen BK865.out 0
                    have hfz57_1 := blk_frozen BK865.out 1
                    go_wp2_with (first | ((with_reducible refine gate_callee (f := 29) rfl ?_); refine goesL_ (some 64) rfl rfl Try.func29 (by kernel_rfl) rfl #[.agg #[.int .i64 t860, .slice Ao21 t861.length co21], .int .i64 1] rfl (by (try simp only [List.map_toArray, List.map_cons, List.map_nil]); first | done | rfl | (simp only [List.length_drop, List.length_take]; rfl)) ?_; (with_reducible refine (laws_markOrder.calls kj36 t860 (fun k_ => some k_ = (.slice Ao21 t861.length co21 : Value).ownBlock) (.slice Ao21 t861.length co21) t861 1 t873 t874 w _ ?side1 ?side2 A53.out).mono ?_); (case side1 => repeat (first | (with_reducible first | exact HB.out | apply below_alloc | apply pw_below_drewN | apply below_drew1 | refine below_set ?_ GE856.out | refine below_set ?_ GE865.out) | exact HB.out)); (case side2 => exact Kd.R_tight rfl HO_866001.out); rintro e w58 ⟨rfl, hy0, hb, hkp⟩; refine ⟨_, rfl, ?_⟩; have n0_ := Aside0.mk (Kd.R_mono (ok' := fun k_ => some k_ ≠ (.slice Ao21 t861.length co21 : Value).ownBlock) (Kd.R_keptB (HO_857001.out) hkp (fun k_ hk_ hs_ => (hk_) hs_)) (fun k_ hk_ => hk_.1)); have n1_ := Aside0.mk (Kd.R_reok rfl hy0 (fun k_ e_ => HO_866001.out.1 k_ e_)); have n2_ := Aside0.mk (blk_kept (by (with_reducible repeat (first | refine blk_drewN ?_ _ | refine blk_drew ?_ | refine blk_alloc ?_ _)); exact BK856.out) hkp (fun hs_ => (fun e_ => (Kd.R_ne HO_866001.out BK856.out (by decide)) e_) hs_)); have n3_ := Aside0.mk (blk_kept (by (with_reducible repeat (first | refine blk_drewN ?_ _ | refine blk_drew ?_ | refine blk_alloc ?_ _)); exact BK865.out) hkp (fun hs_ => (fun e_ => (Kd.R_ne HO_866001.out BK865.out (by decide)) e_) hs_)); have n4_ := Aside0.mk (hb); clear HO_857001; clear HO_866001; clear BK856; clear BK865; clear HB; have HO_857001 := n0_; have HO_866001 := n1_; have BK856 := n2_; have BK865 := n3_; have HB := n4_; clear n0_ n1_ n2_ n3_ n4_; (try clear hb); (try clear hkp); (try clear hy0); have hcz59_0 : w58.cell? ⟨gb865, 0, none⟩ = some (.int .i64 t860) := (blk_cell BK865.out 0).trans rfl; have hcz59_1 : w58.cell? ⟨gb865, 1, none⟩ = some (.slice Ao21 t861.length co21) := (blk_cell BK865.out 1).trans rfl; have hfz59_0 := blk_frozen BK865.out 0; have hfz59_1 := blk_frozen BK865.out 1) | ((with_reducible refine gate_callee (f := 30) rfl ?_); refine goesL_ (some 67) rfl rfl Try.func30 (by kernel_rfl) rfl #[.agg #[.int .i64 t860, .slice Ao21 t874.length co21], .int .i64 1] rfl (by (try simp only [List.map_toArray, List.map_cons, List.map_nil]); first | done | (rw [show t874.length = t861.length from (Kd.R_reads' HO_866001.out).1.symm] <;> rfl) | rfl | (simp only [List.length_drop, List.length_take]; rfl)) ?_; (with_reducible refine (laws_heldOrder.calls kj36 t860 _ _ t874 1 t875 _ ?side1 ?side2 A54.out).mono ?_); (case side1 => repeat (first | exact (Kd.R_reads' HO_866001.out).2.2 | (with_reducible refine Kd.C_alloc ?_ _) | (with_reducible refine Kd.C_drewN ?_ _) | (with_reducible refine Kd.C_drew ?_))); (case side2 => rw [show t874.length = t861.length from (Kd.R_reads' HO_866001.out).1.symm]; exact (Kd.R_reads' HO_866001.out).2.1); rintro e w60 ⟨rfl, hb⟩; refine ⟨_, rfl, ?_⟩; have n0_ := Aside0.mk (Kd.R_below (by (with_reducible repeat (first | apply Kd.R_alloc | apply Kd.R_drewN | apply Kd.R_drew)); exact HO_857001.out) hb); have n1_ := Aside0.mk (Kd.R_below (by (with_reducible repeat (first | apply Kd.R_alloc | apply Kd.R_drewN | apply Kd.R_drew)); exact HO_866001.out) hb); have n2_ := Aside0.mk (blk_below (g := gb856) (o := .cells #[.int .i64 t851, .slice Ao14 t852.length co14] 34 (0, 0)) (by (with_reducible repeat (first | refine blk_drewN ?_ _ | refine blk_drew ?_ | refine blk_alloc ?_ _)); exact BK856.out) hb); have n3_ := Aside0.mk (blk_below (g := gb865) (o := .cells #[.int .i64 t860, .slice Ao21 t861.length co21] 34 (0, 0)) (by (with_reducible repeat (first | refine blk_drewN ?_ _ | refine blk_drew ?_ | refine blk_alloc ?_ _)); exact BK865.out) hb); have n4_ := Aside0.mk (below_step (by repeat (first | (with_reducible first | exact HB.out | apply below_alloc | apply pw_below_drewN | apply below_drew1 | refine below_set ?_ GE856.out | refine below_set ?_ GE865.out) | exact HB.out)) hb); clear HO_857001; clear HO_866001; clear BK856; clear BK865; clear HB; have HO_857001 := n0_; have HO_866001 := n1_; have BK856 := n2_; have BK865 := n3_; have HB := n4_; clear n0_ n1_ n2_ n3_ n4_; (try clear hb); (try clear hb2); (try clear hk); (try clear hi)))
                    go_ret
                    exact ⟨by first | rfl | (simp [errW_none, errW_some] <;> rfl) | (simp [*, errW_none, errW_some] <;> rfl), by repeat (first | (with_reducible first | exact HB.out | apply below_alloc | apply pw_below_drewN | apply below_drew1 | refine below_set ?_ GE856.out | refine below_set ?_ GE865.out) | exact HB.out)⟩
                  · rw [if_neg c55] at H
                    have c55b0 : decide (t875 < 0) = false := decide_eq_false c55
                    clear c55
                    by_cases c61 : t875 = t873
                    · rw [if_pos c61] at H
                      have c61b0 : (t875 == t873) = true := beq_iff_eq.mpr c61
                      have c61b1 : (t875 != t873) = false := bne_eq_false_iff_eq.mpr c61
                      clear c61
                      replace H := Option.bind_eq_some_iff.mp H
                      obtain ⟨t876, A620, H⟩ := H
                      replace H : ((impl_MajorityOf.f kj36 t876).bind fun bt879 => ((laws_eqOrder.f kj36 bt879.1 bt879.2.1 t851 t852).bind fun t885 => (if t885 = true then (laws_FnExactMajorityOf.j2 kj36 t873 (bt879.2.2 != t855) t860 t874) else (laws_FnExactMajorityOf.j2 kj36 t873 true t860 t874)))) = some r := H
                      have A62 := Aside0.mk A620
                      clear A620
                      replace H := Option.bind_eq_some_iff.mp H
                      obtain ⟨⟨t879, t880, t883⟩, A630, H⟩ := H
                      replace H : ((laws_eqOrder.f kj36 t879 t880 t851 t852).bind fun t885 => (if t885 = true then (laws_FnExactMajorityOf.j2 kj36 t873 (t883 != t855) t860 t874) else (laws_FnExactMajorityOf.j2 kj36 t873 true t860 t874))) = some r := H
                      have A63 := Aside0.mk A630
                      clear A630
                      have HC64 := Aside0.mk H
                      clear H
                      have hnb65 := NB865_856.out
                      have hnc65 := NB856_865.out
                      have hcz66_0 : wc.cell? ⟨gb865, 0, none⟩ = some (.int .i64 t860) := (blk_cell BK865.out 0).trans rfl
                      have hcz66_1 : wc.cell? ⟨gb865, 1, none⟩ = some (.slice Ao21 t861.length co21) := (blk_cell BK865.out 1).trans rfl
                      have hfz66_0 := blk_frozen BK865.out 0
                      have hfz66_1 := blk_frozen BK865.out 1
                      go_upto_region 25 with (first | ((with_reducible refine gate_callee (f := 29) rfl ?_); refine goesL_ (some 64) rfl rfl Try.func29 (by kernel_rfl) rfl #[.agg #[.int .i64 t860, .slice Ao21 t861.length co21], .int .i64 1] rfl (by (try simp only [List.map_toArray, List.map_cons, List.map_nil]); first | done | rfl | (simp only [List.length_drop, List.length_take]; rfl)) ?_; (with_reducible refine (laws_markOrder.calls kj36 t860 (fun k_ => some k_ = (.slice Ao21 t861.length co21 : Value).ownBlock) (.slice Ao21 t861.length co21) t861 1 t873 t874 w _ ?side1 ?side2 A53.out).mono ?_); (case side1 => repeat (first | (with_reducible first | exact HB.out | apply below_alloc | apply pw_below_drewN | apply below_drew1 | refine below_set ?_ GE856.out | refine below_set ?_ GE865.out) | exact HB.out)); (case side2 => exact Kd.R_tight rfl HO_866001.out); rintro e w67 ⟨rfl, hy0, hb, hkp⟩; refine ⟨_, rfl, ?_⟩; have n0_ := Aside0.mk (Kd.R_mono (ok' := fun k_ => some k_ ≠ (.slice Ao21 t861.length co21 : Value).ownBlock) (Kd.R_keptB (HO_857001.out) hkp (fun k_ hk_ hs_ => (hk_) hs_)) (fun k_ hk_ => hk_.1)); have n1_ := Aside0.mk (Kd.R_reok rfl hy0 (fun k_ e_ => HO_866001.out.1 k_ e_)); have n2_ := Aside0.mk (blk_kept (by (with_reducible repeat (first | refine blk_drewN ?_ _ | refine blk_drew ?_ | refine blk_alloc ?_ _)); exact BK856.out) hkp (fun hs_ => (fun e_ => (Kd.R_ne HO_866001.out BK856.out (by decide)) e_) hs_)); have n3_ := Aside0.mk (blk_kept (by (with_reducible repeat (first | refine blk_drewN ?_ _ | refine blk_drew ?_ | refine blk_alloc ?_ _)); exact BK865.out) hkp (fun hs_ => (fun e_ => (Kd.R_ne HO_866001.out BK865.out (by decide)) e_) hs_)); have n4_ := Aside0.mk (hb); clear HO_857001; clear HO_866001; clear BK856; clear BK865; clear HB; have HO_857001 := n0_; have HO_866001 := n1_; have BK856 := n2_; have BK865 := n3_; have HB := n4_; clear n0_ n1_ n2_ n3_ n4_; (try clear hb); (try clear hkp); (try clear hy0); have hcz68_0 : w67.cell? ⟨gb865, 0, none⟩ = some (.int .i64 t860) := (blk_cell BK865.out 0).trans rfl; have hcz68_1 : w67.cell? ⟨gb865, 1, none⟩ = some (.slice Ao21 t861.length co21) := (blk_cell BK865.out 1).trans rfl; have hfz68_0 := blk_frozen BK865.out 0; have hfz68_1 := blk_frozen BK865.out 1) | ((with_reducible refine gate_callee (f := 30) rfl ?_); refine goesL_ (some 67) rfl rfl Try.func30 (by kernel_rfl) rfl #[.agg #[.int .i64 t860, .slice Ao21 t874.length co21], .int .i64 1] rfl (by (try simp only [List.map_toArray, List.map_cons, List.map_nil]); first | done | (rw [show t874.length = t861.length from (Kd.R_reads' HO_866001.out).1.symm] <;> rfl) | rfl | (simp only [List.length_drop, List.length_take]; rfl)) ?_; (with_reducible refine (laws_heldOrder.calls kj36 t860 _ _ t874 1 t875 _ ?side1 ?side2 A54.out).mono ?_); (case side1 => repeat (first | exact (Kd.R_reads' HO_866001.out).2.2 | (with_reducible refine Kd.C_alloc ?_ _) | (with_reducible refine Kd.C_drewN ?_ _) | (with_reducible refine Kd.C_drew ?_))); (case side2 => rw [show t874.length = t861.length from (Kd.R_reads' HO_866001.out).1.symm]; exact (Kd.R_reads' HO_866001.out).2.1); rintro e w69 ⟨rfl, hb⟩; refine ⟨_, rfl, ?_⟩; have n0_ := Aside0.mk (Kd.R_below (by (with_reducible repeat (first | apply Kd.R_alloc | apply Kd.R_drewN | apply Kd.R_drew)); exact HO_857001.out) hb); have n1_ := Aside0.mk (Kd.R_below (by (with_reducible repeat (first | apply Kd.R_alloc | apply Kd.R_drewN | apply Kd.R_drew)); exact HO_866001.out) hb); have n2_ := Aside0.mk (blk_below (g := gb856) (o := .cells #[.int .i64 t851, .slice Ao14 t852.length co14] 34 (0, 0)) (by (with_reducible repeat (first | refine blk_drewN ?_ _ | refine blk_drew ?_ | refine blk_alloc ?_ _)); exact BK856.out) hb); have n3_ := Aside0.mk (blk_below (g := gb865) (o := .cells #[.int .i64 t860, .slice Ao21 t861.length co21] 34 (0, 0)) (by (with_reducible repeat (first | refine blk_drewN ?_ _ | refine blk_drew ?_ | refine blk_alloc ?_ _)); exact BK865.out) hb); have n4_ := Aside0.mk (below_step (by repeat (first | (with_reducible first | exact HB.out | apply below_alloc | apply pw_below_drewN | apply below_drew1 | refine below_set ?_ GE856.out | refine below_set ?_ GE865.out) | exact HB.out)) hb); clear HO_857001; clear HO_866001; clear BK856; clear BK865; clear HB; have HO_857001 := n0_; have HO_866001 := n1_; have BK856 := n2_; have BK865 := n3_; have HB := n4_; clear n0_ n1_ n2_ n3_ n4_; (try clear hb); (try clear hb2); (try clear hk); (try clear hi)) | ((with_reducible refine gate_callee (f := 42) rfl ?_); refine goesL_ (some 75) rfl rfl Try.func42 (by kernel_rfl) rfl #[.slice A0 l0.length c0] rfl (by (try simp only [List.map_toArray, List.map_cons, List.map_nil]); first | done | rfl | (simp only [List.length_drop, List.length_take]; rfl)) ?_; (with_reducible refine (laws_toIntSS.calls kj36 _ _ l0 t876 _ ?side1 ?side2 A62.out).mono ?_); (case side1 => repeat (first | exact (Kd.C_below HR0.out HB.out) | (with_reducible refine Kd.C_alloc ?_ _) | (with_reducible refine Kd.C_drewN ?_ _) | (with_reducible refine Kd.C_drew ?_))); (case side2 => exact HC0.out); rintro e w70 ⟨v877, rfl, ho0, hb⟩; refine ⟨_, rfl, ?_⟩; have n0_ := Aside0.mk (Kd.R_below (by (with_reducible repeat (first | apply Kd.R_alloc | apply Kd.R_drewN | apply Kd.R_drew)); exact HO_857001.out) hb); have n1_ := Aside0.mk (Kd.R_below (by (with_reducible repeat (first | apply Kd.R_alloc | apply Kd.R_drewN | apply Kd.R_drew)); exact HO_866001.out) hb); have n2_ := Aside0.mk (Kd.S_lower (Kd.S_new' (Kd.S_new' ho0 (Kd.R_lt (by (with_reducible repeat (first | apply Kd.R_alloc | apply Kd.R_drewN | apply Kd.R_drew)); exact HO_857001.out))) (Kd.R_lt (by (with_reducible repeat (first | apply Kd.R_alloc | apply Kd.R_drewN | apply Kd.R_drew)); exact HO_866001.out))) (below_size (by repeat (first | (with_reducible first | exact HB.out | apply below_alloc | apply pw_below_drewN | apply below_drew1 | refine below_set ?_ GE856.out | refine below_set ?_ GE865.out) | exact HB.out)))); have n3_ := Aside0.mk (blk_below (g := gb856) (o := .cells #[.int .i64 t851, .slice Ao14 t852.length co14] 34 (0, 0)) (by (with_reducible repeat (first | refine blk_drewN ?_ _ | refine blk_drew ?_ | refine blk_alloc ?_ _)); exact BK856.out) hb); have n4_ := Aside0.mk (blk_below (g := gb865) (o := .cells #[.int .i64 t860, .slice Ao21 t861.length co21] 34 (0, 0)) (by (with_reducible repeat (first | refine blk_drewN ?_ _ | refine blk_drew ?_ | refine blk_alloc ?_ _)); exact BK865.out) hb); have n5_ := Aside0.mk (below_step (by repeat (first | (with_reducible first | exact HB.out | apply below_alloc | apply pw_below_drewN | apply below_drew1 | refine below_set ?_ GE856.out | refine below_set ?_ GE865.out) | exact HB.out)) hb); clear HO_857001; clear HO_866001; clear BK856; clear BK865; clear HB; have HO_857001 := n0_; have HO_866001 := n1_; have HO878 := n2_; have BK856 := n3_; have BK865 := n4_; have HB := n5_; clear n0_ n1_ n2_ n3_ n4_ n5_; (try clear hb); (try clear hb2); (try clear hk); (try clear hi); (try clear ho0); obtain ⟨Ao71, co71, eo71⟩ := Kd.S_slice HO878.out; subst eo71) | ((with_reducible refine gate_callee (f := 43) rfl ?_); refine goesL_ (some 76) rfl rfl Try.func43 (by kernel_rfl) rfl #[.slice Ao71 t876.length co71] rfl (by (try simp only [List.map_toArray, List.map_cons, List.map_nil]); first | done | rfl | (simp only [List.length_drop, List.length_take]; rfl)) ?_; (with_reducible refine (impl_MajorityOf.calls kj36 _ _ t876 t879 t880 t883 _ ?side1 ?side2 A63.out).mono ?_); (case side1 => repeat (first | exact (Kd.S_reads' HO878.out).2.2 | (with_reducible refine Kd.C_alloc ?_ _) | (with_reducible refine Kd.C_drewN ?_ _) | (with_reducible refine Kd.C_drew ?_))); (case side2 => exact (Kd.S_reads' HO878.out).2.1); rintro e w72 ⟨v881, rfl, ho0, hb⟩; refine ⟨_, rfl, ?_⟩; have n0_ := Aside0.mk (Kd.R_elder' (by (with_reducible repeat (first | apply Kd.R_alloc | apply Kd.R_drewN | apply Kd.R_drew)); exact HO_857001.out) (Kd.R_base ho0) hb); have n1_ := Aside0.mk (Kd.R_elder' (by (with_reducible repeat (first | apply Kd.R_alloc | apply Kd.R_drewN | apply Kd.R_drew)); exact HO_866001.out) (Kd.R_base ho0) hb); have n2_ := Aside0.mk (Kd.S_elder' (by (with_reducible repeat (first | apply Kd.S_alloc | apply Kd.S_drewN | apply Kd.S_drew)); exact HO878.out) (Kd.R_base ho0) hb); have n3_ := Aside0.mk (Kd.R_lower (Kd.R_new' (Kd.R_new' ho0 (Kd.R_lt (by (with_reducible repeat (first | apply Kd.R_alloc | apply Kd.R_drewN | apply Kd.R_drew)); exact HO_857001.out))) (Kd.R_lt (by (with_reducible repeat (first | apply Kd.R_alloc | apply Kd.R_drewN | apply Kd.R_drew)); exact HO_866001.out))) (below_size (by repeat (first | (with_reducible first | exact HB.out | apply below_alloc | apply pw_below_drewN | apply below_drew1 | refine below_set ?_ GE856.out | refine below_set ?_ GE865.out) | exact HB.out)))); have n4_ := Aside0.mk (blk_below (g := gb856) (o := .cells #[.int .i64 t851, .slice Ao14 t852.length co14] 34 (0, 0)) (by (with_reducible repeat (first | refine blk_drewN ?_ _ | refine blk_drew ?_ | refine blk_alloc ?_ _)); exact BK856.out) hb); have n5_ := Aside0.mk (blk_below (g := gb865) (o := .cells #[.int .i64 t860, .slice Ao21 t861.length co21] 34 (0, 0)) (by (with_reducible repeat (first | refine blk_drewN ?_ _ | refine blk_drew ?_ | refine blk_alloc ?_ _)); exact BK865.out) hb); have n6_ := Aside0.mk (below_step (by repeat (first | (with_reducible first | exact HB.out | apply below_alloc | apply pw_below_drewN | apply below_drew1 | refine below_set ?_ GE856.out | refine below_set ?_ GE865.out) | exact HB.out)) hb); clear HO_857001; clear HO_866001; clear HO878; clear BK856; clear BK865; clear HB; have HO_857001 := n0_; have HO_866001 := n1_; have HO878 := n2_; have HO882 := n3_; have BK856 := n4_; have BK865 := n5_; have HB := n6_; clear n0_ n1_ n2_ n3_ n4_ n5_ n6_; (try clear hb); (try clear hb2); (try clear hk); (try clear hi); (try clear ho0)) | ((with_reducible refine gate_dst (N := 12) rfl ?_); refine box_event ?hg (N := 12) ?hd (cs := #[.int .i64 0, .slice none 0 0]) (t := 34) ?hr ?_; (case hd => rfl); (case hg => rfl); (case hr => first | (go_simp; done) | (go_simp; rfl)); intro gb884 hg w73 hbox hb; have n0_ := Aside0.mk (Kd.R_below (by (with_reducible repeat (first | apply Kd.R_alloc | apply Kd.R_drewN | apply Kd.R_drew)); exact HO_857001.out) hb); have n1_ := Aside0.mk (Kd.R_below (by (with_reducible repeat (first | apply Kd.R_alloc | apply Kd.R_drewN | apply Kd.R_drew)); exact HO_866001.out) hb); have n2_ := Aside0.mk (Kd.S_below (by (with_reducible repeat (first | apply Kd.S_alloc | apply Kd.S_drewN | apply Kd.S_drew)); exact HO878.out) hb); have n3_ := Aside0.mk (Kd.R_below (by (with_reducible repeat (first | apply Kd.R_alloc | apply Kd.R_drewN | apply Kd.R_drew)); exact HO882.out) hb); have n4_ := Aside0.mk (blk_below (g := gb856) (o := .cells #[.int .i64 t851, .slice Ao14 t852.length co14] 34 (0, 0)) (by (with_reducible repeat (first | refine blk_drewN ?_ _ | refine blk_drew ?_ | refine blk_alloc ?_ _)); exact BK856.out) hb); have n5_ := Aside0.mk (blk_below (g := gb865) (o := .cells #[.int .i64 t860, .slice Ao21 t861.length co21] 34 (0, 0)) (by (with_reducible repeat (first | refine blk_drewN ?_ _ | refine blk_drew ?_ | refine blk_alloc ?_ _)); exact BK865.out) hb); have n6_ := Aside0.mk (below_step (by repeat (first | (with_reducible first | exact HB.out | apply below_alloc | apply pw_below_drewN | apply below_drew1 | refine below_set ?_ GE856.out | refine below_set ?_ GE865.out) | exact HB.out)) hb); have n7_ := Aside0.mk (hbox); have n8_ := Aside0.mk ((by rw [hg]; exact (below_size (by repeat (first | (with_reducible first | exact HB.out | apply below_alloc | apply pw_below_drewN | apply below_drew1 | refine below_set ?_ GE856.out | refine below_set ?_ GE865.out) | exact HB.out))) : w.heap.size ≤ gb884)); have n9_ := Aside0.mk ((by rw [hg]; exact (below_size (by repeat (first | (with_reducible first | exact HB.out | apply below_alloc | apply pw_below_drewN | apply below_drew1 | refine below_set ?_ GE856.out | refine below_set ?_ GE865.out) | exact HB.out))) : w.heap.size ≤ gb884)); have n10_ := Aside0.mk ((by rw [hg]; exact Nat.ne_of_lt (blk_lt (g := gb856) (o := .cells #[.int .i64 t851, .slice Ao14 t852.length co14] 34 (0, 0)) (by (with_reducible repeat (first | refine blk_drewN ?_ _ | refine blk_drew ?_ | refine blk_alloc ?_ _)); exact BK856.out)) : gb856 ≠ gb884)); have n11_ := Aside0.mk ((by rw [hg]; exact Nat.ne_of_gt (blk_lt (g := gb856) (o := .cells #[.int .i64 t851, .slice Ao14 t852.length co14] 34 (0, 0)) (by (with_reducible repeat (first | refine blk_drewN ?_ _ | refine blk_drew ?_ | refine blk_alloc ?_ _)); exact BK856.out)) : gb884 ≠ gb856)); have n12_ := Aside0.mk ((by rw [hg]; exact Nat.ne_of_lt (blk_lt (g := gb865) (o := .cells #[.int .i64 t860, .slice Ao21 t861.length co21] 34 (0, 0)) (by (with_reducible repeat (first | refine blk_drewN ?_ _ | refine blk_drew ?_ | refine blk_alloc ?_ _)); exact BK865.out)) : gb865 ≠ gb884)); have n13_ := Aside0.mk ((by rw [hg]; exact Nat.ne_of_gt (blk_lt (g := gb865) (o := .cells #[.int .i64 t860, .slice Ao21 t861.length co21] 34 (0, 0)) (by (with_reducible repeat (first | refine blk_drewN ?_ _ | refine blk_drew ?_ | refine blk_alloc ?_ _)); exact BK865.out)) : gb884 ≠ gb865)); clear HO_857001; clear HO_866001; clear HO878; clear HO882; clear BK856; clear BK865; clear HB; have HO_857001 := n0_; have HO_866001 := n1_; have HO878 := n2_; have HO882 := n3_; have BK856 := n4_; have BK865 := n5_; have HB := n6_; have BK884 := n7_; have GW884 := n8_; have GE884 := n9_; have NB856_884 := n10_; have NB884_856 := n11_; have NB865_884 := n12_; have NB884_865 := n13_; clear n0_ n1_ n2_ n3_ n4_ n5_ n6_ n7_ n8_ n9_ n10_ n11_ n12_ n13_; clear hb hbox hg; have hnb74 := NB884_856.out; have hnc74 := NB856_884.out; have hnb75 := NB884_865.out; have hnc75 := NB865_884.out; have hcz76_0 : w73.cell? ⟨gb884, 0, none⟩ = some (.int .i64 0) := (blk_cell BK884.out 0).trans rfl; have hcz76_1 : w73.cell? ⟨gb884, 1, none⟩ = some (.slice none 0 0) := (blk_cell BK884.out 1).trans rfl; have hfz76_0 := blk_frozen BK884.out 0; have hfz76_1 := blk_frozen BK884.out 1; obtain ⟨Ao77, co77, eo77⟩ := Kd.R_slice HO882.out; subst eo77))
                      (try simp only [Act.put, List.setIfInBounds_toArray, List.set_cons_zero, List.set_cons_succ])
                      go_cut [87] (fun v87 wc => ∃ (kq : Nat) (x87_63 : Bool), v87 = .bool x87_63 ∧ Aside0 (laws_FnExactMajorityOf.j2 kq t873 x87_63 t860 t874 = some r) ∧ Aside0 (kq ≤ kj36) ∧ Aside0 (Kd.R (Kd.int .i64) 3 wc w.heap.size (fun _ => True) (.slice Ao21 t861.length co21) t874) ∧ Aside0 (wc.heap[gb865]? = some (.cells #[.int .i64 t860, (.slice Ao21 t861.length co21)] 34 (0, 0))) ∧ Aside0 (Below w.heap.size w wc))
                      case first =>
                        have H := HC64.out
                        clear HC64
                        replace H := Option.bind_eq_some_iff.mp H
                        obtain ⟨t885, A780, H⟩ := H
                        replace H : (if t885 = true then (laws_FnExactMajorityOf.j2 kj36 t873 (t883 != t855) t860 t874) else (laws_FnExactMajorityOf.j2 kj36 t873 true t860 t874)) = some r := H
                        have A78 := Aside0.mk A780
                        clear A780
                        by_cases c79 : t885 = true
                        · subst c79
                          have H1 : (laws_FnExactMajorityOf.j2 kj36 t873 (t883 != t855) t860 t874) = some r := by rw [if_pos rfl] at H; exact H
                          clear H
                          have H := H1
                          clear H1
                          have H' := Aside0.mk H
                          clear H
                          have hnb80 := NB884_856.out
                          have hnc80 := NB856_884.out
                          have hnb81 := NB884_865.out
                          have hnc81 := NB865_884.out
                          have hcz82_0 : w73.cell? ⟨gb884, 0, none⟩ = some (.int .i64 0) := (blk_cell BK884.out 0).trans rfl
                          have hcz82_1 : w73.cell? ⟨gb884, 1, none⟩ = some (.slice none 0 0) := (blk_cell BK884.out 1).trans rfl
                          have hfz82_0 := blk_frozen BK884.out 0
                          have hfz82_1 := blk_frozen BK884.out 1
                          have hnb83 := NB856_865.out
                          have hnc83 := NB865_856.out
                          have hcz84_0 : w73.cell? ⟨gb856, 0, none⟩ = some (.int .i64 t851) := (blk_cell BK856.out 0).trans rfl
                          have hcz84_1 : w73.cell? ⟨gb856, 1, none⟩ = some (.slice Ao14 t852.length co14) := (blk_cell BK856.out 1).trans rfl
                          have hfz84_0 := blk_frozen BK856.out 0
                          have hfz84_1 := blk_frozen BK856.out 1
                          go_wp2_with (first | ((with_reducible refine gate_callee (f := 28) rfl ?_); refine goesL_ (some 81) rfl rfl Try.func28 (by kernel_rfl) rfl #[.agg #[.int .i64 t879, .slice Ao77 t880.length co77], .agg #[.int .i64 t851, .slice Ao14 t852.length co14]] rfl (by (try simp only [List.map_toArray, List.map_cons, List.map_nil]); first | done | rfl | (simp only [List.length_drop, List.length_take]; rfl)) ?_; (with_reducible refine (laws_eqOrder.calls kj36 t879 _ _ t880 t851 _ _ t852 true _ ?side1 ?side2 ?side3 ?side4 A78.out).mono ?_); (case side1 => refine (Kd.R_reads' (e := 3) (base := w.heap.size) (ok := fun k_ => ((True ∧ some k_ ≠ (.slice Ao14 t852.length co14 : Value).ownBlock) ∧ some k_ ≠ (.slice Ao21 t861.length co21 : Value).ownBlock)) (n := t880.length) (c := co77) ?_).2.2; exact (by (with_reducible repeat (first | apply Kd.R_alloc | apply Kd.R_drewN | apply Kd.R_drew)); exact (Kd.R_mono (Kd.R_far (p := ⟨gb884, 1, none⟩) (Kd.R_far (p := ⟨gb884, 0, none⟩) (Kd.R_types HO882.out BK884.out (by decide)) (fun _ hk => hk.2) (.int .i64 t879)) (fun _ hk => hk.2) (.slice Ao77 t880.length co77)) (fun _ h_ => h_.1)))); (case side2 => exact (Kd.R_reads' HO882.out).2.1); (case side3 => refine (Kd.R_reads' (e := 3) (base := w.heap.size) (ok := fun k_ => (some k_ ≠ (.slice Ao21 t861.length co21 : Value).ownBlock ∧ some k_ ≠ (.slice Ao77 t880.length co77 : Value).ownBlock)) (n := t852.length) (c := co14) ?_).2.2; exact (by (with_reducible repeat (first | apply Kd.R_alloc | apply Kd.R_drewN | apply Kd.R_drew)); exact (Kd.R_mono (Kd.R_far (p := ⟨gb884, 1, none⟩) (Kd.R_far (p := ⟨gb884, 0, none⟩) (Kd.R_types HO_857001.out BK884.out (by decide)) (fun _ hk => hk.2) (.int .i64 t879)) (fun _ hk => hk.2) (.slice Ao77 t880.length co77)) (fun _ h_ => h_.1)))); (case side4 => exact (Kd.R_reads' HO_857001.out).2.1); rintro e w85 ⟨rfl, hb⟩; refine ⟨_, rfl, ?_⟩; have n0_ := Aside0.mk (Kd.R_below (by (with_reducible repeat (first | apply Kd.R_alloc | apply Kd.R_drewN | apply Kd.R_drew)); exact (Kd.R_mono (Kd.R_far (p := ⟨gb884, 1, none⟩) (Kd.R_far (p := ⟨gb884, 0, none⟩) (Kd.R_types HO_857001.out BK884.out (by decide)) (fun _ hk => hk.2) (.int .i64 t879)) (fun _ hk => hk.2) (.slice Ao77 t880.length co77)) (fun _ h_ => h_.1))) hb); have n1_ := Aside0.mk (Kd.R_below (by (with_reducible repeat (first | apply Kd.R_alloc | apply Kd.R_drewN | apply Kd.R_drew)); exact (Kd.R_mono (Kd.R_far (p := ⟨gb884, 1, none⟩) (Kd.R_far (p := ⟨gb884, 0, none⟩) (Kd.R_types HO_866001.out BK884.out (by decide)) (fun _ hk => hk.2) (.int .i64 t879)) (fun _ hk => hk.2) (.slice Ao77 t880.length co77)) (fun _ h_ => h_.1))) hb); have n2_ := Aside0.mk (Kd.S_below (by (with_reducible repeat (first | apply Kd.S_alloc | apply Kd.S_drewN | apply Kd.S_drew)); exact (Kd.S_mono (Kd.S_far (p := ⟨gb884, 1, none⟩) (Kd.S_far (p := ⟨gb884, 0, none⟩) (Kd.S_types HO878.out BK884.out (by decide)) (fun _ hk => hk.2) (.int .i64 t879)) (fun _ hk => hk.2) (.slice Ao77 t880.length co77)) (fun _ h_ => h_.1))) hb); have n3_ := Aside0.mk (Kd.R_below (by (with_reducible repeat (first | apply Kd.R_alloc | apply Kd.R_drewN | apply Kd.R_drew)); exact (Kd.R_mono (Kd.R_far (p := ⟨gb884, 1, none⟩) (Kd.R_far (p := ⟨gb884, 0, none⟩) (Kd.R_types HO882.out BK884.out (by decide)) (fun _ hk => hk.2) (.int .i64 t879)) (fun _ hk => hk.2) (.slice Ao77 t880.length co77)) (fun _ h_ => h_.1))) hb); have n4_ := Aside0.mk (blk_below (g := gb856) (o := .cells #[.int .i64 t851, .slice Ao14 t852.length co14] 34 (0, 0)) (by (with_reducible repeat (first | refine blk_drewN ?_ _ | refine blk_drew ?_ | refine blk_alloc ?_ _)); refine blk_far ?_ NB856_884.out _; (with_reducible repeat (first | refine blk_drewN ?_ _ | refine blk_drew ?_ | refine blk_alloc ?_ _)); refine blk_far ?_ NB856_884.out _; (with_reducible repeat (first | refine blk_drewN ?_ _ | refine blk_drew ?_ | refine blk_alloc ?_ _)); exact BK856.out) hb); have n5_ := Aside0.mk (blk_below (g := gb865) (o := .cells #[.int .i64 t860, .slice Ao21 t861.length co21] 34 (0, 0)) (by (with_reducible repeat (first | refine blk_drewN ?_ _ | refine blk_drew ?_ | refine blk_alloc ?_ _)); refine blk_far ?_ NB865_884.out _; (with_reducible repeat (first | refine blk_drewN ?_ _ | refine blk_drew ?_ | refine blk_alloc ?_ _)); refine blk_far ?_ NB865_884.out _; (with_reducible repeat (first | refine blk_drewN ?_ _ | refine blk_drew ?_ | refine blk_alloc ?_ _)); exact BK865.out) hb); have n6_ := Aside0.mk (blk_below (g := gb884) (o := .cells #[.int .i64 t879, .slice Ao77 t880.length co77] 34 (0, 0)) (by (with_reducible repeat (first | refine blk_drewN ?_ _ | refine blk_drew ?_ | refine blk_alloc ?_ _)); refine blk_put (cs := #[.int .i64 t879, .slice none 0 0]) ?_ 1 _ rfl; (with_reducible repeat (first | refine blk_drewN ?_ _ | refine blk_drew ?_ | refine blk_alloc ?_ _)); refine blk_put (cs := #[.int .i64 0, .slice none 0 0]) ?_ 0 _ rfl; (with_reducible repeat (first | refine blk_drewN ?_ _ | refine blk_drew ?_ | refine blk_alloc ?_ _)); exact BK884.out) hb); have n7_ := Aside0.mk (below_step (by repeat (first | (with_reducible first | exact HB.out | apply below_alloc | apply pw_below_drewN | apply below_drew1 | refine below_set ?_ GE856.out | refine below_set ?_ GE865.out | refine below_set ?_ GE884.out) | exact HB.out)) hb); clear HO_857001; clear HO_866001; clear HO878; clear HO882; clear BK856; clear BK865; clear BK884; clear HB; have HO_857001 := n0_; have HO_866001 := n1_; have HO878 := n2_; have HO882 := n3_; have BK856 := n4_; have BK865 := n5_; have BK884 := n6_; have HB := n7_; clear n0_ n1_ n2_ n3_ n4_ n5_ n6_ n7_; (try clear hb); (try clear hb2); (try clear hk); (try clear hi)))
                          go_meet
                          case rel => exact ⟨_, ((t883 != t855)), (by first | rfl | (simp; done) | (simp [*]; done)), H', ⟨by have := HJ7.out; have := HJ36.out; first | omega | exact Nat.le_refl _⟩, ⟨by (with_reducible repeat (first | apply Kd.R_alloc | apply Kd.R_drewN | apply Kd.R_drew)); exact Kd.R_mono HO_866001.out (fun _ hk => trivial)⟩, ⟨by (with_reducible repeat (first | refine blk_drewN ?_ _ | refine blk_drew ?_ | refine blk_alloc ?_ _)); exact BK865.out⟩, ⟨by repeat (first | (with_reducible first | exact HB.out | apply below_alloc | apply pw_below_drewN | apply below_drew1 | refine below_set ?_ GE856.out | refine below_set ?_ GE865.out | refine below_set ?_ GE884.out) | exact HB.out)⟩⟩
                        · replace c79 := Bool.eq_false_iff.mpr c79
                          subst c79
                          have H1 : (laws_FnExactMajorityOf.j2 kj36 t873 true t860 t874) = some r := by rw [if_neg (show ¬ (false = true) by decide)] at H; exact H
                          clear H
                          have H := H1
                          clear H1
                          have H' := Aside0.mk H
                          clear H
                          have hnb86 := NB884_856.out
                          have hnc86 := NB856_884.out
                          have hnb87 := NB884_865.out
                          have hnc87 := NB865_884.out
                          have hcz88_0 : w73.cell? ⟨gb884, 0, none⟩ = some (.int .i64 0) := (blk_cell BK884.out 0).trans rfl
                          have hcz88_1 : w73.cell? ⟨gb884, 1, none⟩ = some (.slice none 0 0) := (blk_cell BK884.out 1).trans rfl
                          have hfz88_0 := blk_frozen BK884.out 0
                          have hfz88_1 := blk_frozen BK884.out 1
                          have hnb89 := NB856_865.out
                          have hnc89 := NB865_856.out
                          have hcz90_0 : w73.cell? ⟨gb856, 0, none⟩ = some (.int .i64 t851) := (blk_cell BK856.out 0).trans rfl
                          have hcz90_1 : w73.cell? ⟨gb856, 1, none⟩ = some (.slice Ao14 t852.length co14) := (blk_cell BK856.out 1).trans rfl
                          have hfz90_0 := blk_frozen BK856.out 0
                          have hfz90_1 := blk_frozen BK856.out 1
                          go_wp2_with (first | ((with_reducible refine gate_callee (f := 28) rfl ?_); refine goesL_ (some 81) rfl rfl Try.func28 (by kernel_rfl) rfl #[.agg #[.int .i64 t879, .slice Ao77 t880.length co77], .agg #[.int .i64 t851, .slice Ao14 t852.length co14]] rfl (by (try simp only [List.map_toArray, List.map_cons, List.map_nil]); first | done | rfl | (simp only [List.length_drop, List.length_take]; rfl)) ?_; (with_reducible refine (laws_eqOrder.calls kj36 t879 _ _ t880 t851 _ _ t852 false _ ?side1 ?side2 ?side3 ?side4 A78.out).mono ?_); (case side1 => refine (Kd.R_reads' (e := 3) (base := w.heap.size) (ok := fun k_ => ((True ∧ some k_ ≠ (.slice Ao14 t852.length co14 : Value).ownBlock) ∧ some k_ ≠ (.slice Ao21 t861.length co21 : Value).ownBlock)) (n := t880.length) (c := co77) ?_).2.2; exact (by (with_reducible repeat (first | apply Kd.R_alloc | apply Kd.R_drewN | apply Kd.R_drew)); exact (Kd.R_mono (Kd.R_far (p := ⟨gb884, 1, none⟩) (Kd.R_far (p := ⟨gb884, 0, none⟩) (Kd.R_types HO882.out BK884.out (by decide)) (fun _ hk => hk.2) (.int .i64 t879)) (fun _ hk => hk.2) (.slice Ao77 t880.length co77)) (fun _ h_ => h_.1)))); (case side2 => exact (Kd.R_reads' HO882.out).2.1); (case side3 => refine (Kd.R_reads' (e := 3) (base := w.heap.size) (ok := fun k_ => (some k_ ≠ (.slice Ao21 t861.length co21 : Value).ownBlock ∧ some k_ ≠ (.slice Ao77 t880.length co77 : Value).ownBlock)) (n := t852.length) (c := co14) ?_).2.2; exact (by (with_reducible repeat (first | apply Kd.R_alloc | apply Kd.R_drewN | apply Kd.R_drew)); exact (Kd.R_mono (Kd.R_far (p := ⟨gb884, 1, none⟩) (Kd.R_far (p := ⟨gb884, 0, none⟩) (Kd.R_types HO_857001.out BK884.out (by decide)) (fun _ hk => hk.2) (.int .i64 t879)) (fun _ hk => hk.2) (.slice Ao77 t880.length co77)) (fun _ h_ => h_.1)))); (case side4 => exact (Kd.R_reads' HO_857001.out).2.1); rintro e w91 ⟨rfl, hb⟩; refine ⟨_, rfl, ?_⟩; have n0_ := Aside0.mk (Kd.R_below (by (with_reducible repeat (first | apply Kd.R_alloc | apply Kd.R_drewN | apply Kd.R_drew)); exact (Kd.R_mono (Kd.R_far (p := ⟨gb884, 1, none⟩) (Kd.R_far (p := ⟨gb884, 0, none⟩) (Kd.R_types HO_857001.out BK884.out (by decide)) (fun _ hk => hk.2) (.int .i64 t879)) (fun _ hk => hk.2) (.slice Ao77 t880.length co77)) (fun _ h_ => h_.1))) hb); have n1_ := Aside0.mk (Kd.R_below (by (with_reducible repeat (first | apply Kd.R_alloc | apply Kd.R_drewN | apply Kd.R_drew)); exact (Kd.R_mono (Kd.R_far (p := ⟨gb884, 1, none⟩) (Kd.R_far (p := ⟨gb884, 0, none⟩) (Kd.R_types HO_866001.out BK884.out (by decide)) (fun _ hk => hk.2) (.int .i64 t879)) (fun _ hk => hk.2) (.slice Ao77 t880.length co77)) (fun _ h_ => h_.1))) hb); have n2_ := Aside0.mk (Kd.S_below (by (with_reducible repeat (first | apply Kd.S_alloc | apply Kd.S_drewN | apply Kd.S_drew)); exact (Kd.S_mono (Kd.S_far (p := ⟨gb884, 1, none⟩) (Kd.S_far (p := ⟨gb884, 0, none⟩) (Kd.S_types HO878.out BK884.out (by decide)) (fun _ hk => hk.2) (.int .i64 t879)) (fun _ hk => hk.2) (.slice Ao77 t880.length co77)) (fun _ h_ => h_.1))) hb); have n3_ := Aside0.mk (Kd.R_below (by (with_reducible repeat (first | apply Kd.R_alloc | apply Kd.R_drewN | apply Kd.R_drew)); exact (Kd.R_mono (Kd.R_far (p := ⟨gb884, 1, none⟩) (Kd.R_far (p := ⟨gb884, 0, none⟩) (Kd.R_types HO882.out BK884.out (by decide)) (fun _ hk => hk.2) (.int .i64 t879)) (fun _ hk => hk.2) (.slice Ao77 t880.length co77)) (fun _ h_ => h_.1))) hb); have n4_ := Aside0.mk (blk_below (g := gb856) (o := .cells #[.int .i64 t851, .slice Ao14 t852.length co14] 34 (0, 0)) (by (with_reducible repeat (first | refine blk_drewN ?_ _ | refine blk_drew ?_ | refine blk_alloc ?_ _)); refine blk_far ?_ NB856_884.out _; (with_reducible repeat (first | refine blk_drewN ?_ _ | refine blk_drew ?_ | refine blk_alloc ?_ _)); refine blk_far ?_ NB856_884.out _; (with_reducible repeat (first | refine blk_drewN ?_ _ | refine blk_drew ?_ | refine blk_alloc ?_ _)); exact BK856.out) hb); have n5_ := Aside0.mk (blk_below (g := gb865) (o := .cells #[.int .i64 t860, .slice Ao21 t861.length co21] 34 (0, 0)) (by (with_reducible repeat (first | refine blk_drewN ?_ _ | refine blk_drew ?_ | refine blk_alloc ?_ _)); refine blk_far ?_ NB865_884.out _; (with_reducible repeat (first | refine blk_drewN ?_ _ | refine blk_drew ?_ | refine blk_alloc ?_ _)); refine blk_far ?_ NB865_884.out _; (with_reducible repeat (first | refine blk_drewN ?_ _ | refine blk_drew ?_ | refine blk_alloc ?_ _)); exact BK865.out) hb); have n6_ := Aside0.mk (blk_below (g := gb884) (o := .cells #[.int .i64 t879, .slice Ao77 t880.length co77] 34 (0, 0)) (by (with_reducible repeat (first | refine blk_drewN ?_ _ | refine blk_drew ?_ | refine blk_alloc ?_ _)); refine blk_put (cs := #[.int .i64 t879, .slice none 0 0]) ?_ 1 _ rfl; (with_reducible repeat (first | refine blk_drewN ?_ _ | refine blk_drew ?_ | refine blk_alloc ?_ _)); refine blk_put (cs := #[.int .i64 0, .slice none 0 0]) ?_ 0 _ rfl; (with_reducible repeat (first | refine blk_drewN ?_ _ | refine blk_drew ?_ | refine blk_alloc ?_ _)); exact BK884.out) hb); have n7_ := Aside0.mk (below_step (by repeat (first | (with_reducible first | exact HB.out | apply below_alloc | apply pw_below_drewN | apply below_drew1 | refine below_set ?_ GE856.out | refine below_set ?_ GE865.out | refine below_set ?_ GE884.out) | exact HB.out)) hb); clear HO_857001; clear HO_866001; clear HO878; clear HO882; clear BK856; clear BK865; clear BK884; clear HB; have HO_857001 := n0_; have HO_866001 := n1_; have HO878 := n2_; have HO882 := n3_; have BK856 := n4_; have BK865 := n5_; have BK884 := n6_; have HB := n7_; clear n0_ n1_ n2_ n3_ n4_ n5_ n6_ n7_; (try clear hb); (try clear hb2); (try clear hk); (try clear hi)))
                          go_meet
                          case rel => exact ⟨_, (true), (by first | rfl | (simp; done) | (simp [*]; done)), H', ⟨by have := HJ7.out; have := HJ36.out; first | omega | exact Nat.le_refl _⟩, ⟨by (with_reducible repeat (first | apply Kd.R_alloc | apply Kd.R_drewN | apply Kd.R_drew)); exact Kd.R_mono HO_866001.out (fun _ hk => trivial)⟩, ⟨by (with_reducible repeat (first | refine blk_drewN ?_ _ | refine blk_drew ?_ | refine blk_alloc ?_ _)); exact BK865.out⟩, ⟨by repeat (first | (with_reducible first | exact HB.out | apply below_alloc | apply pw_below_drewN | apply below_drew1 | refine below_set ?_ GE856.out | refine below_set ?_ GE865.out | refine below_set ?_ GE884.out) | exact HB.out)⟩⟩
                      case rest =>
                        clear HC64
                        try clear c1
                        try clear c2
                        try clear p2
                        try clear c3
                        try clear c3b0
                        try clear c4
                        try clear c5
                        try clear c6
                        try clear c7
                        try clear c8
                        try clear c11
                        try clear c19
                        try clear c23
                        try clear c24
                        try clear c28
                        try clear c29
                        try clear c30
                        try clear c32
                        try clear c35
                        try clear c40
                        try clear c41
                        try clear c41b0
                        try clear c42
                        try clear c43
                        try clear c44
                        try clear c45
                        try clear c48
                        try clear c52
                        try clear c55
                        try clear c55b0
                        try clear c56
                        try clear c61
                        try clear c61b0
                        try clear c61b1
                        try clear c65
                        try clear c74
                        try clear c75
                        try clear c79
                        try clear c80
                        try clear c81
                        try clear c83
                        try clear c86
                        try clear c87
                        try clear c89
                        try clear hcz13_0
                        try clear hcz13_1
                        try clear hcz20_0
                        try clear hcz20_1
                        try clear hcz25_0
                        try clear hcz25_1
                        try clear hcz26_0
                        try clear hcz26_1
                        try clear hcz29_0
                        try clear hcz29_1
                        try clear hcz30_0
                        try clear hcz30_1
                        try clear hcz45_0
                        try clear hcz45_1
                        try clear hcz46_0
                        try clear hcz46_1
                        try clear hcz49_0
                        try clear hcz49_1
                        try clear hcz50_0
                        try clear hcz50_1
                        try clear hcz57_0
                        try clear hcz57_1
                        try clear hcz59_0
                        try clear hcz59_1
                        try clear hcz66_0
                        try clear hcz66_1
                        try clear hcz68_0
                        try clear hcz68_1
                        try clear hcz76_0
                        try clear hcz76_1
                        try clear hcz82_0
                        try clear hcz82_1
                        try clear hcz84_0
                        try clear hcz84_1
                        try clear hcz88_0
                        try clear hcz88_1
                        try clear hcz90_0
                        try clear hcz90_1
                        try clear hfz13_0
                        try clear hfz13_1
                        try clear hfz20_0
                        try clear hfz20_1
                        try clear hfz25_0
                        try clear hfz25_1
                        try clear hfz26_0
                        try clear hfz26_1
                        try clear hfz29_0
                        try clear hfz29_1
                        try clear hfz30_0
                        try clear hfz30_1
                        try clear hfz45_0
                        try clear hfz45_1
                        try clear hfz46_0
                        try clear hfz46_1
                        try clear hfz49_0
                        try clear hfz49_1
                        try clear hfz50_0
                        try clear hfz50_1
                        try clear hfz57_0
                        try clear hfz57_1
                        try clear hfz59_0
                        try clear hfz59_1
                        try clear hfz66_0
                        try clear hfz66_1
                        try clear hfz68_0
                        try clear hfz68_1
                        try clear hfz76_0
                        try clear hfz76_1
                        try clear hfz82_0
                        try clear hfz82_1
                        try clear hfz84_0
                        try clear hfz84_1
                        try clear hfz88_0
                        try clear hfz88_1
                        try clear hfz90_0
                        try clear hfz90_1
                        try clear p2
                        obtain ⟨kq, x87_63, rfl, HA, HJ63, HO_866001, BK865, HB⟩ := hcut
                        have hl866001_63 := (Kd.R_reads' HO_866001.out).1
                        rw [hl866001_63] at HO_866001
                        (try simp only [hl866001_63])
                        (try simp only [hl866001_63] at BK865)
                        cases kq with
                        | zero => exact absurd HA.out (by simp [laws_FnExactMajorityOf.j2])
                        | succ kj63 =>
                          have H := HA.out
                          clear HA
                          simp only [laws_FnExactMajorityOf.j2] at H
                          by_cases c92 : x87_63 = true
                          · subst c92
                            have H1 : (some false) = some r := by rw [if_pos rfl] at H; exact H
                            clear H
                            have H := H1
                            clear H1
                            obtain rfl := Option.some.inj H
                            go_wp2
                            go_ret
                            exact ⟨by first | rfl | (simp [errW_none, errW_some] <;> rfl) | (simp [*, errW_none, errW_some] <;> rfl), by repeat (first | (with_reducible first | exact HB.out | apply below_alloc | apply pw_below_drewN | apply below_drew1 | refine below_set ?_ GE865.out) | exact HB.out)⟩
                          · replace c92 := Bool.eq_false_iff.mpr c92
                            subst c92
                            have H1 : ((laws_heldOrder.f kj63 t860 t874 1).bind fun t886 => (if t886 < 0 then (some false) else (if t886 = t873 then (some true) else (some false)))) = some r := by rw [if_neg (show ¬ (false = true) by decide)] at H; exact H
                            clear H
                            have H := H1
                            clear H1
                            replace H := Option.bind_eq_some_iff.mp H
                            obtain ⟨t886, A930, H⟩ := H
                            replace H : (if t886 < 0 then (some false) else (if t886 = t873 then (some true) else (some false))) = some r := H
                            have A93 := Aside0.mk A930
                            clear A930
                            by_cases c94 : t886 < 0
                            · rw [if_pos c94] at H
                              have c94b0 : decide (t886 < 0) = true := decide_eq_true c94
                              clear c94
                              obtain rfl := Option.some.inj H
                              have hcz95_0 : wc.cell? ⟨gb865, 0, none⟩ = some (.int .i64 t860) := (blk_cell BK865.out 0).trans rfl
                              have hcz95_1 : wc.cell? ⟨gb865, 1, none⟩ = some (.slice Ao21 t874.length co21) := (blk_cell BK865.out 1).trans rfl
                              have hfz95_0 := blk_frozen BK865.out 0
                              have hfz95_1 := blk_frozen BK865.out 1
                              go_wp2_with (first | ((with_reducible refine gate_callee (f := 30) rfl ?_); refine goesL_ (some 90) rfl rfl Try.func30 (by kernel_rfl) rfl #[.agg #[.int .i64 t860, .slice Ao21 t874.length co21], .int .i64 1] rfl (by (try simp only [List.map_toArray, List.map_cons, List.map_nil]); first | done | rfl | (simp only [List.length_drop, List.length_take]; rfl)) ?_; (with_reducible refine (laws_heldOrder.calls kj63 t860 _ _ t874 1 t886 _ ?side1 ?side2 A93.out).mono ?_); (case side1 => repeat (first | exact (Kd.R_reads' HO_866001.out).2.2 | (with_reducible refine Kd.C_alloc ?_ _) | (with_reducible refine Kd.C_drewN ?_ _) | (with_reducible refine Kd.C_drew ?_))); (case side2 => exact (Kd.R_reads' HO_866001.out).2.1); rintro e w96 ⟨rfl, hb⟩; refine ⟨_, rfl, ?_⟩; have n0_ := Aside0.mk (Kd.R_below (by (with_reducible repeat (first | apply Kd.R_alloc | apply Kd.R_drewN | apply Kd.R_drew)); exact HO_866001.out) hb); have n1_ := Aside0.mk (blk_below (g := gb865) (o := .cells #[.int .i64 t860, .slice Ao21 t874.length co21] 34 (0, 0)) (by (with_reducible repeat (first | refine blk_drewN ?_ _ | refine blk_drew ?_ | refine blk_alloc ?_ _)); exact BK865.out) hb); have n2_ := Aside0.mk (below_step (by repeat (first | (with_reducible first | exact HB.out | apply below_alloc | apply pw_below_drewN | apply below_drew1 | refine below_set ?_ GE865.out) | exact HB.out)) hb); clear HO_866001; clear BK865; clear HB; have HO_866001 := n0_; have BK865 := n1_; have HB := n2_; clear n0_ n1_ n2_; (try clear hb); (try clear hb2); (try clear hk); (try clear hi)))
                              go_ret
                              exact ⟨by first | rfl | (simp [errW_none, errW_some] <;> rfl) | (simp [*, errW_none, errW_some] <;> rfl), by repeat (first | (with_reducible first | exact HB.out | apply below_alloc | apply pw_below_drewN | apply below_drew1 | refine below_set ?_ GE865.out) | exact HB.out)⟩
                            · rw [if_neg c94] at H
                              have c94b0 : decide (t886 < 0) = false := decide_eq_false c94
                              clear c94
                              by_cases c97 : t886 = t873
                              · rw [if_pos c97] at H
                                have c97b0 : (t886 == t873) = true := beq_iff_eq.mpr c97
                                have c97b1 : (t886 != t873) = false := bne_eq_false_iff_eq.mpr c97
                                clear c97
                                obtain rfl := Option.some.inj H
                                have hcz98_0 : wc.cell? ⟨gb865, 0, none⟩ = some (.int .i64 t860) := (blk_cell BK865.out 0).trans rfl
                                have hcz98_1 : wc.cell? ⟨gb865, 1, none⟩ = some (.slice Ao21 t874.length co21) := (blk_cell BK865.out 1).trans rfl
                                have hfz98_0 := blk_frozen BK865.out 0
                                have hfz98_1 := blk_frozen BK865.out 1
                                go_wp2_with (first | ((with_reducible refine gate_callee (f := 30) rfl ?_); refine goesL_ (some 90) rfl rfl Try.func30 (by kernel_rfl) rfl #[.agg #[.int .i64 t860, .slice Ao21 t874.length co21], .int .i64 1] rfl (by (try simp only [List.map_toArray, List.map_cons, List.map_nil]); first | done | rfl | (simp only [List.length_drop, List.length_take]; rfl)) ?_; (with_reducible refine (laws_heldOrder.calls kj63 t860 _ _ t874 1 t886 _ ?side1 ?side2 A93.out).mono ?_); (case side1 => repeat (first | exact (Kd.R_reads' HO_866001.out).2.2 | (with_reducible refine Kd.C_alloc ?_ _) | (with_reducible refine Kd.C_drewN ?_ _) | (with_reducible refine Kd.C_drew ?_))); (case side2 => exact (Kd.R_reads' HO_866001.out).2.1); rintro e w99 ⟨rfl, hb⟩; refine ⟨_, rfl, ?_⟩; have n0_ := Aside0.mk (Kd.R_below (by (with_reducible repeat (first | apply Kd.R_alloc | apply Kd.R_drewN | apply Kd.R_drew)); exact HO_866001.out) hb); have n1_ := Aside0.mk (blk_below (g := gb865) (o := .cells #[.int .i64 t860, .slice Ao21 t874.length co21] 34 (0, 0)) (by (with_reducible repeat (first | refine blk_drewN ?_ _ | refine blk_drew ?_ | refine blk_alloc ?_ _)); exact BK865.out) hb); have n2_ := Aside0.mk (below_step (by repeat (first | (with_reducible first | exact HB.out | apply below_alloc | apply pw_below_drewN | apply below_drew1 | refine below_set ?_ GE865.out) | exact HB.out)) hb); clear HO_866001; clear BK865; clear HB; have HO_866001 := n0_; have BK865 := n1_; have HB := n2_; clear n0_ n1_ n2_; (try clear hb); (try clear hb2); (try clear hk); (try clear hi)))
                                go_ret
                                exact ⟨by first | rfl | (simp [errW_none, errW_some] <;> rfl) | (simp [*, errW_none, errW_some] <;> rfl), by repeat (first | (with_reducible first | exact HB.out | apply below_alloc | apply pw_below_drewN | apply below_drew1 | refine below_set ?_ GE865.out) | exact HB.out)⟩
                              · rw [if_neg c97] at H
                                have c97b0 : (t886 == t873) = false := beq_eq_false_iff_ne.mpr c97
                                have c97b1 : (t886 != t873) = true := bne_iff_ne.mpr c97
                                obtain rfl := Option.some.inj H
                                have hcz100_0 : wc.cell? ⟨gb865, 0, none⟩ = some (.int .i64 t860) := (blk_cell BK865.out 0).trans rfl
                                have hcz100_1 : wc.cell? ⟨gb865, 1, none⟩ = some (.slice Ao21 t874.length co21) := (blk_cell BK865.out 1).trans rfl
                                have hfz100_0 := blk_frozen BK865.out 0
                                have hfz100_1 := blk_frozen BK865.out 1
                                go_wp2_with (first | ((with_reducible refine gate_callee (f := 30) rfl ?_); refine goesL_ (some 90) rfl rfl Try.func30 (by kernel_rfl) rfl #[.agg #[.int .i64 t860, .slice Ao21 t874.length co21], .int .i64 1] rfl (by (try simp only [List.map_toArray, List.map_cons, List.map_nil]); first | done | rfl | (simp only [List.length_drop, List.length_take]; rfl)) ?_; (with_reducible refine (laws_heldOrder.calls kj63 t860 _ _ t874 1 t886 _ ?side1 ?side2 A93.out).mono ?_); (case side1 => repeat (first | exact (Kd.R_reads' HO_866001.out).2.2 | (with_reducible refine Kd.C_alloc ?_ _) | (with_reducible refine Kd.C_drewN ?_ _) | (with_reducible refine Kd.C_drew ?_))); (case side2 => exact (Kd.R_reads' HO_866001.out).2.1); rintro e w101 ⟨rfl, hb⟩; refine ⟨_, rfl, ?_⟩; have n0_ := Aside0.mk (Kd.R_below (by (with_reducible repeat (first | apply Kd.R_alloc | apply Kd.R_drewN | apply Kd.R_drew)); exact HO_866001.out) hb); have n1_ := Aside0.mk (blk_below (g := gb865) (o := .cells #[.int .i64 t860, .slice Ao21 t874.length co21] 34 (0, 0)) (by (with_reducible repeat (first | refine blk_drewN ?_ _ | refine blk_drew ?_ | refine blk_alloc ?_ _)); exact BK865.out) hb); have n2_ := Aside0.mk (below_step (by repeat (first | (with_reducible first | exact HB.out | apply below_alloc | apply pw_below_drewN | apply below_drew1 | refine below_set ?_ GE865.out) | exact HB.out)) hb); clear HO_866001; clear BK865; clear HB; have HO_866001 := n0_; have BK865 := n1_; have HB := n2_; clear n0_ n1_ n2_; (try clear hb); (try clear hb2); (try clear hk); (try clear hi)))
                                go_ret
                                exact ⟨by first | rfl | (simp [errW_none, errW_some] <;> rfl) | (simp [*, errW_none, errW_some] <;> rfl), by repeat (first | (with_reducible first | exact HB.out | apply below_alloc | apply pw_below_drewN | apply below_drew1 | refine below_set ?_ GE865.out) | exact HB.out)⟩
                    · rw [if_neg c61] at H
                      have c61b0 : (t875 == t873) = false := beq_eq_false_iff_ne.mpr c61
                      have c61b1 : (t875 != t873) = true := bne_iff_ne.mpr c61
                      obtain rfl := Option.some.inj H
                      have hnb102 := NB865_856.out
                      have hnc102 := NB856_865.out
                      have hcz103_0 : wc.cell? ⟨gb865, 0, none⟩ = some (.int .i64 t860) := (blk_cell BK865.out 0).trans rfl
                      have hcz103_1 : wc.cell? ⟨gb865, 1, none⟩ = some (.slice Ao21 t861.length co21) := (blk_cell BK865.out 1).trans rfl
                      have hfz103_0 := blk_frozen BK865.out 0
                      have hfz103_1 := blk_frozen BK865.out 1
                      go_wp2_with (first | ((with_reducible refine gate_callee (f := 29) rfl ?_); refine goesL_ (some 64) rfl rfl Try.func29 (by kernel_rfl) rfl #[.agg #[.int .i64 t860, .slice Ao21 t861.length co21], .int .i64 1] rfl (by (try simp only [List.map_toArray, List.map_cons, List.map_nil]); first | done | rfl | (simp only [List.length_drop, List.length_take]; rfl)) ?_; (with_reducible refine (laws_markOrder.calls kj36 t860 (fun k_ => some k_ = (.slice Ao21 t861.length co21 : Value).ownBlock) (.slice Ao21 t861.length co21) t861 1 t873 t874 w _ ?side1 ?side2 A53.out).mono ?_); (case side1 => repeat (first | (with_reducible first | exact HB.out | apply below_alloc | apply pw_below_drewN | apply below_drew1 | refine below_set ?_ GE856.out | refine below_set ?_ GE865.out) | exact HB.out)); (case side2 => exact Kd.R_tight rfl HO_866001.out); rintro e w104 ⟨rfl, hy0, hb, hkp⟩; refine ⟨_, rfl, ?_⟩; have n0_ := Aside0.mk (Kd.R_mono (ok' := fun k_ => some k_ ≠ (.slice Ao21 t861.length co21 : Value).ownBlock) (Kd.R_keptB (HO_857001.out) hkp (fun k_ hk_ hs_ => (hk_) hs_)) (fun k_ hk_ => hk_.1)); have n1_ := Aside0.mk (Kd.R_reok rfl hy0 (fun k_ e_ => HO_866001.out.1 k_ e_)); have n2_ := Aside0.mk (blk_kept (by (with_reducible repeat (first | refine blk_drewN ?_ _ | refine blk_drew ?_ | refine blk_alloc ?_ _)); exact BK856.out) hkp (fun hs_ => (fun e_ => (Kd.R_ne HO_866001.out BK856.out (by decide)) e_) hs_)); have n3_ := Aside0.mk (blk_kept (by (with_reducible repeat (first | refine blk_drewN ?_ _ | refine blk_drew ?_ | refine blk_alloc ?_ _)); exact BK865.out) hkp (fun hs_ => (fun e_ => (Kd.R_ne HO_866001.out BK865.out (by decide)) e_) hs_)); have n4_ := Aside0.mk (hb); clear HO_857001; clear HO_866001; clear BK856; clear BK865; clear HB; have HO_857001 := n0_; have HO_866001 := n1_; have BK856 := n2_; have BK865 := n3_; have HB := n4_; clear n0_ n1_ n2_ n3_ n4_; (try clear hb); (try clear hkp); (try clear hy0); have hcz105_0 : w104.cell? ⟨gb865, 0, none⟩ = some (.int .i64 t860) := (blk_cell BK865.out 0).trans rfl; have hcz105_1 : w104.cell? ⟨gb865, 1, none⟩ = some (.slice Ao21 t861.length co21) := (blk_cell BK865.out 1).trans rfl; have hfz105_0 := blk_frozen BK865.out 0; have hfz105_1 := blk_frozen BK865.out 1) | ((with_reducible refine gate_callee (f := 30) rfl ?_); refine goesL_ (some 67) rfl rfl Try.func30 (by kernel_rfl) rfl #[.agg #[.int .i64 t860, .slice Ao21 t874.length co21], .int .i64 1] rfl (by (try simp only [List.map_toArray, List.map_cons, List.map_nil]); first | done | (rw [show t874.length = t861.length from (Kd.R_reads' HO_866001.out).1.symm] <;> rfl) | rfl | (simp only [List.length_drop, List.length_take]; rfl)) ?_; (with_reducible refine (laws_heldOrder.calls kj36 t860 _ _ t874 1 t875 _ ?side1 ?side2 A54.out).mono ?_); (case side1 => repeat (first | exact (Kd.R_reads' HO_866001.out).2.2 | (with_reducible refine Kd.C_alloc ?_ _) | (with_reducible refine Kd.C_drewN ?_ _) | (with_reducible refine Kd.C_drew ?_))); (case side2 => rw [show t874.length = t861.length from (Kd.R_reads' HO_866001.out).1.symm]; exact (Kd.R_reads' HO_866001.out).2.1); rintro e w106 ⟨rfl, hb⟩; refine ⟨_, rfl, ?_⟩; have n0_ := Aside0.mk (Kd.R_below (by (with_reducible repeat (first | apply Kd.R_alloc | apply Kd.R_drewN | apply Kd.R_drew)); exact HO_857001.out) hb); have n1_ := Aside0.mk (Kd.R_below (by (with_reducible repeat (first | apply Kd.R_alloc | apply Kd.R_drewN | apply Kd.R_drew)); exact HO_866001.out) hb); have n2_ := Aside0.mk (blk_below (g := gb856) (o := .cells #[.int .i64 t851, .slice Ao14 t852.length co14] 34 (0, 0)) (by (with_reducible repeat (first | refine blk_drewN ?_ _ | refine blk_drew ?_ | refine blk_alloc ?_ _)); exact BK856.out) hb); have n3_ := Aside0.mk (blk_below (g := gb865) (o := .cells #[.int .i64 t860, .slice Ao21 t861.length co21] 34 (0, 0)) (by (with_reducible repeat (first | refine blk_drewN ?_ _ | refine blk_drew ?_ | refine blk_alloc ?_ _)); exact BK865.out) hb); have n4_ := Aside0.mk (below_step (by repeat (first | (with_reducible first | exact HB.out | apply below_alloc | apply pw_below_drewN | apply below_drew1 | refine below_set ?_ GE856.out | refine below_set ?_ GE865.out) | exact HB.out)) hb); clear HO_857001; clear HO_866001; clear BK856; clear BK865; clear HB; have HO_857001 := n0_; have HO_866001 := n1_; have BK856 := n2_; have BK865 := n3_; have HB := n4_; clear n0_ n1_ n2_ n3_ n4_; (try clear hb); (try clear hb2); (try clear hk); (try clear hi)))
                      go_ret
                      exact ⟨by first | rfl | (simp [errW_none, errW_some] <;> rfl) | (simp [*, errW_none, errW_some] <;> rfl), by repeat (first | (with_reducible first | exact HB.out | apply below_alloc | apply pw_below_drewN | apply below_drew1 | refine below_set ?_ GE856.out | refine below_set ?_ GE865.out) | exact HB.out)⟩
          · replace c35 := Bool.eq_false_iff.mpr c35
            subst c35
            have H1 : (some false) = some r := by rw [if_neg (show ¬ (false = true) by decide)] at H; exact H
            clear H
            have H := H1
            clear H1
            obtain rfl := Option.some.inj H
            go_wp2_with (first | ((with_reducible refine gate_callee (f := 42) rfl ?_); refine goesL_ (some 43) rfl rfl Try.func42 (by kernel_rfl) rfl #[.slice A0 l0.length c0] rfl (by (try simp only [List.map_toArray, List.map_cons, List.map_nil]); first | done | rfl | (simp only [List.length_drop, List.length_take]; rfl)) ?_; (with_reducible refine (laws_toIntSS.calls kj7 _ _ l0 t867 _ ?side1 ?side2 A33.out).mono ?_); (case side1 => repeat (first | exact (Kd.C_below HR0.out HB.out) | (with_reducible refine Kd.C_alloc ?_ _) | (with_reducible refine Kd.C_drewN ?_ _) | (with_reducible refine Kd.C_drew ?_))); (case side2 => exact HC0.out); rintro e w107 ⟨v868, rfl, ho0, hb⟩; refine ⟨_, rfl, ?_⟩; have n0_ := Aside0.mk (Kd.S_elder' (by (with_reducible repeat (first | apply Kd.S_alloc | apply Kd.S_drewN | apply Kd.S_drew)); exact HO_6.out) (Kd.S_base ho0) hb); have n1_ := Aside0.mk (Kd.R_below (by (with_reducible repeat (first | apply Kd.R_alloc | apply Kd.R_drewN | apply Kd.R_drew)); exact HO_857001.out) hb); have n2_ := Aside0.mk (Kd.R_below (by (with_reducible repeat (first | apply Kd.R_alloc | apply Kd.R_drewN | apply Kd.R_drew)); exact HO_866001.out) hb); have n3_ := Aside0.mk (Kd.S_lower (Kd.S_new' (Kd.S_new' (Kd.S_new' ho0 (Kd.S_lt (by (with_reducible repeat (first | apply Kd.S_alloc | apply Kd.S_drewN | apply Kd.S_drew)); exact HO_6.out))) (Kd.R_lt (by (with_reducible repeat (first | apply Kd.R_alloc | apply Kd.R_drewN | apply Kd.R_drew)); exact HO_857001.out))) (Kd.R_lt (by (with_reducible repeat (first | apply Kd.R_alloc | apply Kd.R_drewN | apply Kd.R_drew)); exact HO_866001.out))) (below_size (by repeat (first | (with_reducible first | exact HB.out | apply below_alloc | apply pw_below_drewN | apply below_drew1 | refine below_set ?_ GE856.out | refine below_set ?_ GE865.out) | exact HB.out)))); have n4_ := Aside0.mk (blk_below (g := gb856) (o := .cells #[.int .i64 t851, .slice Ao14 t852.length co14] 34 (0, 0)) (by (with_reducible repeat (first | refine blk_drewN ?_ _ | refine blk_drew ?_ | refine blk_alloc ?_ _)); exact BK856.out) hb); have n5_ := Aside0.mk (blk_below (g := gb865) (o := .cells #[.int .i64 t860, .slice Ao21 t861.length co21] 34 (0, 0)) (by (with_reducible repeat (first | refine blk_drewN ?_ _ | refine blk_drew ?_ | refine blk_alloc ?_ _)); exact BK865.out) hb); have n6_ := Aside0.mk (below_step (by repeat (first | (with_reducible first | exact HB.out | apply below_alloc | apply pw_below_drewN | apply below_drew1 | refine below_set ?_ GE856.out | refine below_set ?_ GE865.out) | exact HB.out)) hb); clear HO_6; clear HO_857001; clear HO_866001; clear BK856; clear BK865; clear HB; have HO_6 := n0_; have HO_857001 := n1_; have HO_866001 := n2_; have HO869 := n3_; have BK856 := n4_; have BK865 := n5_; have HB := n6_; clear n0_ n1_ n2_ n3_ n4_ n5_ n6_; (try clear hb); (try clear hb2); (try clear hk); (try clear hi); (try clear ho0); obtain ⟨Ao108, co108, eo108⟩ := Kd.S_slice HO869.out; subst eo108) | ((with_reducible refine gate_callee (f := 44) rfl ?_); refine goesL_ (some 44) rfl rfl Try.func44 (by kernel_rfl) rfl #[.slice Ao16 t857.length co16, .slice Ao108 t867.length co108] rfl (by (try simp only [List.map_toArray, List.map_cons, List.map_nil]); first | done | rfl | (simp only [List.length_drop, List.length_take]; rfl)) ?_; (with_reducible refine (laws_eqIntSS.calls kj7 _ _ t857 _ _ t867 false _ ?side1 ?side2 ?side3 ?side4 A34.out).mono ?_); (case side1 => repeat (first | exact (Kd.S_reads' HO_6.out).2.2 | (with_reducible refine Kd.C_alloc ?_ _) | (with_reducible refine Kd.C_drewN ?_ _) | (with_reducible refine Kd.C_drew ?_))); (case side2 => exact (Kd.S_reads' HO_6.out).2.1); (case side3 => repeat (first | exact (Kd.S_reads' HO869.out).2.2 | (with_reducible refine Kd.C_alloc ?_ _) | (with_reducible refine Kd.C_drewN ?_ _) | (with_reducible refine Kd.C_drew ?_))); (case side4 => exact (Kd.S_reads' HO869.out).2.1); rintro e w' ⟨rfl, ⟨nd, rfl⟩⟩; refine ⟨_, rfl, ?_⟩))
            go_ret
            exact ⟨by first | rfl | (simp [errW_none, errW_some] <;> rfl) | (simp [*, errW_none, errW_some] <;> rfl), by repeat (first | (with_reducible first | exact HB.out | apply below_alloc | apply pw_below_drewN | apply below_drew1 | refine below_set ?_ GE856.out | refine below_set ?_ GE865.out) | exact HB.out)⟩

end Go.Proofs.Ytjojalbgpemjoaa.Q
