import Derived.Test.YtjojalbgpemjoaaBFnExactOrderOfAscent0
import Derived.Test.YtjojalbgpemjoaaBFnExactOrderOfAscent1
import Derived.Test.YtjojalbgpemjoaaBFnExactOrderOfAscent2
import Derived.Test.YtjojalbgpemjoaaBFnExactOrderOfAscent7
import Derived.Test.YtjojalbgpemjoaaBFnExactOrderOfAscent14
-- printed by this project's own program (wip/mp/mp.py) over the kit's print, for this seat; Lean checks it
namespace Go.Proofs.Ytjojalbgpemjoaa.Q
open Go.RowKit Go.Proofs.YtjojalbgpemjoaaW.PrintWords Go.Proofs.YtjojalbgpemjoaaW.PrintLast Go.Proofs.YtjojalbgpemjoaaW.PrintMore
attribute [local go_sem] max2_int min2_int max_two min_two max_three min_three max_four min_four   -- for this text's walks alone
set_option linter.unusedVariables false
set_option linter.unusedSimpArgs false

/-! ### laws_FnExactOrderOfAscent: function 13 -/
mutual
def laws_FnExactOrderOfAscent.j0 : Nat → List Int → Bool → List Int → Bool → Bool → Int → List Int → Int → List Int → Option (Bool)
  | 0, _, _, _, _, _, _, _, _, _ => none
  | k + 1, x0, x4, x5, x7, x37, x990000, x990001, x999000, x999001 => if x37 = true then (some false) else ((laws_toIntS.f k x0).bind fun t1000 => ((laws_eqIntS.f k x5 t1000).bind fun t1003 => (if t1003 = true then ((laws_markIntS.f k x5 1).bind fun bt1004 => (if bt1004.1 < 0 then (laws_FnExactOrderOfAscent.j1 k x0 x4 true x990000 x990001 x999000 x999001) else ((laws_eqOrder.f k x999000 x999001 x990000 x990001).bind fun t1006 => (if t1006 = true then (laws_FnExactOrderOfAscent.j1 k x0 x4 (x7 != x4) x990000 x990001 x999000 x999001) else (laws_FnExactOrderOfAscent.j1 k x0 x4 true x990000 x990001 x999000 x999001))))) else (some false))))
def laws_FnExactOrderOfAscent.j1 : Nat → List Int → Bool → Bool → Int → List Int → Int → List Int → Option (Bool)
  | 0, _, _, _, _, _, _, _ => none
  | k + 1, x0, x4, x58, x990000, x990001, x999000, x999001 => if x58 = true then (some false) else ((laws_markOrder.f k x999000 x999001 1).bind fun bt1007 => ((laws_heldOrder.f k x999000 bt1007.2 1).bind fun t1009 => (if t1009 < 0 then (some false) else (if t1009 = bt1007.1 then ((laws_toIntS.f k x0).bind fun t1010 => ((impl_OrderOfAscent.f k t1010).bind fun bt1013 => ((laws_eqOrder.f k bt1013.1 bt1013.2.1 x990000 x990001).bind fun t1019 => (if t1019 = true then (laws_FnExactOrderOfAscent.j2 k bt1007.1 (bt1013.2.2 != x4) x999000 bt1007.2) else (laws_FnExactOrderOfAscent.j2 k bt1007.1 true x999000 bt1007.2))))) else (some false)))))
def laws_FnExactOrderOfAscent.j2 : Nat → Int → Bool → Int → List Int → Option (Bool)
  | 0, _, _, _, _ => none
  | k + 1, x9, x84, x999000, x999001 => if x84 = true then (some false) else ((laws_heldOrder.f k x999000 x999001 1).bind fun t1020 => (if t1020 < 0 then (some false) else (if t1020 = x9 then (some true) else (some false))))
end
def laws_FnExactOrderOfAscent.f (k : Nat) (l0 : List Int) : Option (Bool) := if (l0.length : Int) > 1048576 then (some true) else ((laws_toIntS.f k l0).bind fun t981 => ((spec_OrderOfAscent.f k t981).bind fun bt984 => ((laws_toIntS.f k l0).bind fun t990 => ((impl_OrderOfAscent.f k t990).bind fun bt993 => ((laws_eqOrder.f k bt993.1 bt993.2.1 bt984.1 bt984.2.1).bind fun t999 => (if t999 = true then (laws_FnExactOrderOfAscent.j0 k l0 bt984.2.2 t990 bt993.2.2 (bt993.2.2 != bt984.2.2) bt984.1 bt984.2.1 bt993.1 bt993.2.1) else (laws_FnExactOrderOfAscent.j0 k l0 bt984.2.2 t990 bt993.2.2 true bt984.1 bt984.2.1 bt993.1 bt993.2.1)))))))
theorem laws_FnExactOrderOfAscent.mono_l : ∀ k, (∀ y0 y1 y2 y3 y4 y5 y6 y7 y8, LeO (laws_FnExactOrderOfAscent.j0 k y0 y1 y2 y3 y4 y5 y6 y7 y8) (laws_FnExactOrderOfAscent.j0 (k + 1) y0 y1 y2 y3 y4 y5 y6 y7 y8)) ∧ (∀ y0 y1 y2 y3 y4 y5 y6, LeO (laws_FnExactOrderOfAscent.j1 k y0 y1 y2 y3 y4 y5 y6) (laws_FnExactOrderOfAscent.j1 (k + 1) y0 y1 y2 y3 y4 y5 y6)) ∧ (∀ y0 y1 y2 y3, LeO (laws_FnExactOrderOfAscent.j2 k y0 y1 y2 y3) (laws_FnExactOrderOfAscent.j2 (k + 1) y0 y1 y2 y3))
  | 0 => ⟨fun _ _ _ _ _ _ _ _ _ r h => by simp [laws_FnExactOrderOfAscent.j0] at h, fun _ _ _ _ _ _ _ r h => by simp [laws_FnExactOrderOfAscent.j1] at h, fun _ _ _ _ r h => by simp [laws_FnExactOrderOfAscent.j2] at h⟩
  | k + 1 => by
    obtain ⟨ih0, ih1, ih2⟩ := laws_FnExactOrderOfAscent.mono_l k
    refine ⟨?_, ?_, ?_⟩
    · intro y0 y1 y2 y3 y4 y5 y6 y7 y8
      unfold laws_FnExactOrderOfAscent.j0
      repeat' first
      | (with_reducible exact ih0 _ _ _ _ _ _ _ _ _)
      | (with_reducible exact ih1 _ _ _ _ _ _ _)
      | (with_reducible exact ih2 _ _ _ _)
      | (with_reducible exact impl_OrderOfAscent.mono _ _)
      | (with_reducible exact laws_eqIntS.mono _ _ _)
      | (with_reducible exact laws_eqOrder.mono _ _ _ _ _)
      | (with_reducible exact laws_heldOrder.mono _ _ _ _)
      | (with_reducible exact laws_markIntS.mono _ _ _)
      | (with_reducible exact laws_markOrder.mono _ _ _ _)
      | (with_reducible exact laws_toIntS.mono _ _)
      | (with_reducible exact spec_OrderOfAscent.mono _ _)
      | (with_reducible exact LeO.refl _)
      | (with_reducible exact LeO.none _)
      | (with_reducible refine LeO.ite ?_ ?_)
      | (with_reducible refine LeO.bind ?_ (fun _ => ?_))
      | exact ih0 _ _ _ _ _ _ _ _ _
      | exact ih1 _ _ _ _ _ _ _
      | exact ih2 _ _ _ _
      | exact impl_OrderOfAscent.mono _ _
      | exact laws_eqIntS.mono _ _ _
      | exact laws_eqOrder.mono _ _ _ _ _
      | exact laws_heldOrder.mono _ _ _ _
      | exact laws_markIntS.mono _ _ _
      | exact laws_markOrder.mono _ _ _ _
      | exact laws_toIntS.mono _ _
      | exact spec_OrderOfAscent.mono _ _
      | exact LeO.none _
      | refine LeO.ite ?_ ?_
      | refine LeO.bind ?_ (fun _ => ?_)
    · intro y0 y1 y2 y3 y4 y5 y6
      unfold laws_FnExactOrderOfAscent.j1
      repeat' first
      | (with_reducible exact ih0 _ _ _ _ _ _ _ _ _)
      | (with_reducible exact ih1 _ _ _ _ _ _ _)
      | (with_reducible exact ih2 _ _ _ _)
      | (with_reducible exact impl_OrderOfAscent.mono _ _)
      | (with_reducible exact laws_eqIntS.mono _ _ _)
      | (with_reducible exact laws_eqOrder.mono _ _ _ _ _)
      | (with_reducible exact laws_heldOrder.mono _ _ _ _)
      | (with_reducible exact laws_markIntS.mono _ _ _)
      | (with_reducible exact laws_markOrder.mono _ _ _ _)
      | (with_reducible exact laws_toIntS.mono _ _)
      | (with_reducible exact spec_OrderOfAscent.mono _ _)
      | (with_reducible exact LeO.refl _)
      | (with_reducible exact LeO.none _)
      | (with_reducible refine LeO.ite ?_ ?_)
      | (with_reducible refine LeO.bind ?_ (fun _ => ?_))
      | exact ih0 _ _ _ _ _ _ _ _ _
      | exact ih1 _ _ _ _ _ _ _
      | exact ih2 _ _ _ _
      | exact impl_OrderOfAscent.mono _ _
      | exact laws_eqIntS.mono _ _ _
      | exact laws_eqOrder.mono _ _ _ _ _
      | exact laws_heldOrder.mono _ _ _ _
      | exact laws_markIntS.mono _ _ _
      | exact laws_markOrder.mono _ _ _ _
      | exact laws_toIntS.mono _ _
      | exact spec_OrderOfAscent.mono _ _
      | exact LeO.none _
      | refine LeO.ite ?_ ?_
      | refine LeO.bind ?_ (fun _ => ?_)
    · intro y0 y1 y2 y3
      unfold laws_FnExactOrderOfAscent.j2
      repeat' first
      | (with_reducible exact ih0 _ _ _ _ _ _ _ _ _)
      | (with_reducible exact ih1 _ _ _ _ _ _ _)
      | (with_reducible exact ih2 _ _ _ _)
      | (with_reducible exact impl_OrderOfAscent.mono _ _)
      | (with_reducible exact laws_eqIntS.mono _ _ _)
      | (with_reducible exact laws_eqOrder.mono _ _ _ _ _)
      | (with_reducible exact laws_heldOrder.mono _ _ _ _)
      | (with_reducible exact laws_markIntS.mono _ _ _)
      | (with_reducible exact laws_markOrder.mono _ _ _ _)
      | (with_reducible exact laws_toIntS.mono _ _)
      | (with_reducible exact spec_OrderOfAscent.mono _ _)
      | (with_reducible exact LeO.refl _)
      | (with_reducible exact LeO.none _)
      | (with_reducible refine LeO.ite ?_ ?_)
      | (with_reducible refine LeO.bind ?_ (fun _ => ?_))
      | exact ih0 _ _ _ _ _ _ _ _ _
      | exact ih1 _ _ _ _ _ _ _
      | exact ih2 _ _ _ _
      | exact impl_OrderOfAscent.mono _ _
      | exact laws_eqIntS.mono _ _ _
      | exact laws_eqOrder.mono _ _ _ _ _
      | exact laws_heldOrder.mono _ _ _ _
      | exact laws_markIntS.mono _ _ _
      | exact laws_markOrder.mono _ _ _ _
      | exact laws_toIntS.mono _ _
      | exact spec_OrderOfAscent.mono _ _
      | exact LeO.none _
      | refine LeO.ite ?_ ?_
      | refine LeO.bind ?_ (fun _ => ?_)
theorem laws_FnExactOrderOfAscent.mono : ∀ a0 k, LeO (laws_FnExactOrderOfAscent.f k a0) (laws_FnExactOrderOfAscent.f (k + 1) a0) := by
  intro a0 k
  obtain ⟨ih0, ih1, ih2⟩ := laws_FnExactOrderOfAscent.mono_l k
  unfold laws_FnExactOrderOfAscent.f
  repeat' first
      | (with_reducible exact ih0 _ _ _ _ _ _ _ _ _)
      | (with_reducible exact ih1 _ _ _ _ _ _ _)
      | (with_reducible exact ih2 _ _ _ _)
      | (with_reducible exact impl_OrderOfAscent.mono _ _)
      | (with_reducible exact laws_eqIntS.mono _ _ _)
      | (with_reducible exact laws_eqOrder.mono _ _ _ _ _)
      | (with_reducible exact laws_heldOrder.mono _ _ _ _)
      | (with_reducible exact laws_markIntS.mono _ _ _)
      | (with_reducible exact laws_markOrder.mono _ _ _ _)
      | (with_reducible exact laws_toIntS.mono _ _)
      | (with_reducible exact spec_OrderOfAscent.mono _ _)
      | (with_reducible exact LeO.refl _)
      | (with_reducible exact LeO.none _)
      | (with_reducible refine LeO.ite ?_ ?_)
      | (with_reducible refine LeO.bind ?_ (fun _ => ?_))
      | exact ih0 _ _ _ _ _ _ _ _ _
      | exact ih1 _ _ _ _ _ _ _
      | exact ih2 _ _ _ _
      | exact impl_OrderOfAscent.mono _ _
      | exact laws_eqIntS.mono _ _ _
      | exact laws_eqOrder.mono _ _ _ _ _
      | exact laws_heldOrder.mono _ _ _ _
      | exact laws_markIntS.mono _ _ _
      | exact laws_markOrder.mono _ _ _ _
      | exact laws_toIntS.mono _ _
      | exact spec_OrderOfAscent.mono _ _
      | exact LeO.none _
      | refine LeO.ite ?_ ?_
      | refine LeO.bind ?_ (fun _ => ?_)
set_option maxHeartbeats 8000000 in
set_option maxRecDepth 100000 in
theorem laws_FnExactOrderOfAscent.calls (k : Nat) (A0 : Option Addr) (c0 : Nat) (l0 : List Int) (r : Bool) (w : World) (hr0 : Kd.C (Kd.int .i64) w A0 l0.length l0) (hc0 : l0.length ≤ c0) (h : laws_FnExactOrderOfAscent.f k l0 = some r) :
    Calls Try.prog 13 #[.slice A0 l0.length c0] w fun e w' => e = .returned (.bool r) ∧ Below w.heap.size w w' := by
  have hu34 := Try.underlying34
  have HR0 := Aside0.mk hr0
  have HC0 := Aside0.mk hc0
  clear hr0 hc0
  have HB := Aside0.mk (Below.refl w.heap.size w)
  have H : (if (l0.length : Int) > 1048576 then (some true) else ((laws_toIntS.f k l0).bind fun t981 => ((spec_OrderOfAscent.f k t981).bind fun bt984 => ((laws_toIntS.f k l0).bind fun t990 => ((impl_OrderOfAscent.f k t990).bind fun bt993 => ((laws_eqOrder.f k bt993.1 bt993.2.1 bt984.1 bt984.2.1).bind fun t999 => (if t999 = true then (laws_FnExactOrderOfAscent.j0 k l0 bt984.2.2 t990 bt993.2.2 (bt993.2.2 != bt984.2.2) bt984.1 bt984.2.1 bt993.1 bt993.2.1) else (laws_FnExactOrderOfAscent.j0 k l0 bt984.2.2 t990 bt993.2.2 true bt984.1 bt984.2.1 bt993.1 bt993.2.1)))))))) = some r := h
  clear h
  by_cases c2 : (l0.length : Int) > 1048576
  · rw [if_pos c2] at H
    have c2b0 : decide (1048576 < (l0.length : Int)) = true := decide_eq_true c2
    have c2b1 : decide (1048576 < l0.length) = true := decide_eq_true (by omega)
    clear c2
    obtain rfl := Option.some.inj H
    go_enter Try.func13, Try.ntmps13
    go_wp2
    go_ret
    exact ⟨by first | rfl | (simp [errW_none, errW_some] <;> rfl) | (simp [*, errW_none, errW_some] <;> rfl), by repeat (first | (with_reducible first | exact HB.out | apply below_alloc | apply pw_below_drewN | apply below_drew1) | exact HB.out)⟩
  · rw [if_neg c2] at H
    have c2b0 : decide (1048576 < (l0.length : Int)) = false := decide_eq_false c2
    have c2b1 : decide (1048576 < l0.length) = false := decide_eq_false (by omega)
    clear c2
    replace H := Option.bind_eq_some_iff.mp H
    obtain ⟨t981, A30, H⟩ := H
    replace H : ((spec_OrderOfAscent.f k t981).bind fun bt984 => ((laws_toIntS.f k l0).bind fun t990 => ((impl_OrderOfAscent.f k t990).bind fun bt993 => ((laws_eqOrder.f k bt993.1 bt993.2.1 bt984.1 bt984.2.1).bind fun t999 => (if t999 = true then (laws_FnExactOrderOfAscent.j0 k l0 bt984.2.2 t990 bt993.2.2 (bt993.2.2 != bt984.2.2) bt984.1 bt984.2.1 bt993.1 bt993.2.1) else (laws_FnExactOrderOfAscent.j0 k l0 bt984.2.2 t990 bt993.2.2 true bt984.1 bt984.2.1 bt993.1 bt993.2.1)))))) = some r := H
    have A3 := Aside0.mk A30
    clear A30
    replace H := Option.bind_eq_some_iff.mp H
    obtain ⟨⟨t984, t985, t988⟩, A40, H⟩ := H
    replace H : ((laws_toIntS.f k l0).bind fun t990 => ((impl_OrderOfAscent.f k t990).bind fun bt993 => ((laws_eqOrder.f k bt993.1 bt993.2.1 t984 t985).bind fun t999 => (if t999 = true then (laws_FnExactOrderOfAscent.j0 k l0 t988 t990 bt993.2.2 (bt993.2.2 != t988) t984 t985 bt993.1 bt993.2.1) else (laws_FnExactOrderOfAscent.j0 k l0 t988 t990 bt993.2.2 true t984 t985 bt993.1 bt993.2.1))))) = some r := H
    have A4 := Aside0.mk A40
    clear A40
    replace H := Option.bind_eq_some_iff.mp H
    obtain ⟨t990, A50, H⟩ := H
    replace H : ((impl_OrderOfAscent.f k t990).bind fun bt993 => ((laws_eqOrder.f k bt993.1 bt993.2.1 t984 t985).bind fun t999 => (if t999 = true then (laws_FnExactOrderOfAscent.j0 k l0 t988 t990 bt993.2.2 (bt993.2.2 != t988) t984 t985 bt993.1 bt993.2.1) else (laws_FnExactOrderOfAscent.j0 k l0 t988 t990 bt993.2.2 true t984 t985 bt993.1 bt993.2.1)))) = some r := H
    have A5 := Aside0.mk A50
    clear A50
    replace H := Option.bind_eq_some_iff.mp H
    obtain ⟨⟨t993, t994, t997⟩, A60, H⟩ := H
    replace H : ((laws_eqOrder.f k t993 t994 t984 t985).bind fun t999 => (if t999 = true then (laws_FnExactOrderOfAscent.j0 k l0 t988 t990 t997 (t997 != t988) t984 t985 t993 t994) else (laws_FnExactOrderOfAscent.j0 k l0 t988 t990 t997 true t984 t985 t993 t994))) = some r := H
    have A6 := Aside0.mk A60
    clear A60
    have HC7 := Aside0.mk H
    clear H
    go_enter Try.func13, Try.ntmps13
    go_upto_region 6 with (first | ((with_reducible refine gate_callee (f := 15) rfl ?_); refine goesL_ (some 18) rfl rfl Try.func15 (by kernel_rfl) rfl #[.slice A0 l0.length c0] rfl (by (try simp only [List.map_toArray, List.map_cons, List.map_nil]); first | done | rfl | (simp only [List.length_drop, List.length_take]; rfl)) ?_; (with_reducible refine (laws_toIntS.calls k _ _ l0 t981 _ ?side1 ?side2 A3.out).mono ?_); (case side1 => repeat (first | exact HR0.out | (with_reducible refine Kd.C_alloc ?_ _) | (with_reducible refine Kd.C_drewN ?_ _) | (with_reducible refine Kd.C_drew ?_))); (case side2 => exact HC0.out); rintro e w8 ⟨v982, rfl, ho0, hb⟩; refine ⟨_, rfl, ?_⟩; have n0_ := Aside0.mk (Kd.R_lower ho0 (below_size (by repeat (first | (with_reducible first | exact HB.out | apply below_alloc | apply pw_below_drewN | apply below_drew1) | exact HB.out)))); have n1_ := Aside0.mk (below_step (by repeat (first | (with_reducible first | exact HB.out | apply below_alloc | apply pw_below_drewN | apply below_drew1) | exact HB.out)) hb); clear HB; have HO983 := n0_; have HB := n1_; clear n0_ n1_; (try clear hb); (try clear hb2); (try clear hk); (try clear hi); (try clear ho0); obtain ⟨Ao9, co9, eo9⟩ := Kd.R_slice HO983.out; subst eo9) | ((with_reducible refine gate_callee (f := 48) rfl ?_); refine goesL_ (some 19) rfl rfl Try.func48 (by kernel_rfl) rfl #[.slice Ao9 t981.length co9] rfl (by (try simp only [List.map_toArray, List.map_cons, List.map_nil]); first | done | rfl | (simp only [List.length_drop, List.length_take]; rfl)) ?_; (with_reducible refine (spec_OrderOfAscent.calls k _ _ t981 t984 t985 t988 _ ?side1 ?side2 A4.out).mono ?_); (case side1 => repeat (first | exact (Kd.R_reads' HO983.out).2.2 | (with_reducible refine Kd.C_alloc ?_ _) | (with_reducible refine Kd.C_drewN ?_ _) | (with_reducible refine Kd.C_drew ?_))); (case side2 => exact (Kd.R_reads' HO983.out).2.1); rintro e w10 ⟨v986, rfl, ho0, hb⟩; refine ⟨_, rfl, ?_⟩; have n0_ := Aside0.mk (Kd.R_elder' (by (with_reducible repeat (first | apply Kd.R_alloc | apply Kd.R_drewN | apply Kd.R_drew)); exact HO983.out) (Kd.R_base ho0) hb); have n1_ := Aside0.mk (Kd.R_lower (Kd.R_new' ho0 (Kd.R_lt (by (with_reducible repeat (first | apply Kd.R_alloc | apply Kd.R_drewN | apply Kd.R_drew)); exact HO983.out))) (below_size (by repeat (first | (with_reducible first | exact HB.out | apply below_alloc | apply pw_below_drewN | apply below_drew1) | exact HB.out)))); have n2_ := Aside0.mk (below_step (by repeat (first | (with_reducible first | exact HB.out | apply below_alloc | apply pw_below_drewN | apply below_drew1) | exact HB.out)) hb); clear HO983; clear HB; have HO983 := n0_; have HO987 := n1_; have HB := n2_; clear n0_ n1_ n2_; (try clear hb); (try clear hb2); (try clear hk); (try clear hi); (try clear ho0)) | ((with_reducible refine gate_dst (N := 3) rfl ?_); refine box_event ?hg (N := 3) ?hd (cs := #[.int .i64 0, .slice none 0 0]) (t := 34) ?hr ?_; (case hd => rfl); (case hg => rfl); (case hr => first | (go_simp; done) | (go_simp; rfl)); intro gb989 hg w11 hbox hb; have n0_ := Aside0.mk (Kd.R_below (by (with_reducible repeat (first | apply Kd.R_alloc | apply Kd.R_drewN | apply Kd.R_drew)); exact HO983.out) hb); have n1_ := Aside0.mk (Kd.R_below (by (with_reducible repeat (first | apply Kd.R_alloc | apply Kd.R_drewN | apply Kd.R_drew)); exact HO987.out) hb); have n2_ := Aside0.mk (below_step (by repeat (first | (with_reducible first | exact HB.out | apply below_alloc | apply pw_below_drewN | apply below_drew1) | exact HB.out)) hb); have n3_ := Aside0.mk (hbox); have n4_ := Aside0.mk ((by rw [hg]; exact (below_size (by repeat (first | (with_reducible first | exact HB.out | apply below_alloc | apply pw_below_drewN | apply below_drew1) | exact HB.out))) : w.heap.size ≤ gb989)); have n5_ := Aside0.mk ((by rw [hg]; exact (below_size (by repeat (first | (with_reducible first | exact HB.out | apply below_alloc | apply pw_below_drewN | apply below_drew1) | exact HB.out))) : w.heap.size ≤ gb989)); clear HO983; clear HO987; clear HB; have HO983 := n0_; have HO987 := n1_; have HB := n2_; have BK989 := n3_; have GW989 := n4_; have GE989 := n5_; clear n0_ n1_ n2_ n3_ n4_ n5_; clear hb hbox hg; have hcz12_0 : w11.cell? ⟨gb989, 0, none⟩ = some (.int .i64 0) := (blk_cell BK989.out 0).trans rfl; have hcz12_1 : w11.cell? ⟨gb989, 1, none⟩ = some (.slice none 0 0) := (blk_cell BK989.out 1).trans rfl; have hfz12_0 := blk_frozen BK989.out 0; have hfz12_1 := blk_frozen BK989.out 1; obtain ⟨Ao13, co13, eo13⟩ := Kd.R_slice HO987.out; subst eo13) | ((with_reducible refine gate_callee (f := 15) rfl ?_); refine goesL_ (some 23) rfl rfl Try.func15 (by kernel_rfl) rfl #[.slice A0 l0.length c0] rfl (by (try simp only [List.map_toArray, List.map_cons, List.map_nil]); first | done | rfl | (simp only [List.length_drop, List.length_take]; rfl)) ?_; (with_reducible refine (laws_toIntS.calls k _ _ l0 t990 _ ?side1 ?side2 A5.out).mono ?_); (case side1 => exact Kd.C_below HR0.out (by repeat (first | (with_reducible first | exact HB.out | apply below_alloc | apply pw_below_drewN | apply below_drew1 | refine below_set ?_ GE989.out) | exact HB.out))); (case side2 => exact HC0.out); rintro e w14 ⟨v991, rfl, ho0, hb⟩; refine ⟨_, rfl, ?_⟩; have n0_ := Aside0.mk (Kd.R_elder' (by (with_reducible repeat (first | apply Kd.R_alloc | apply Kd.R_drewN | apply Kd.R_drew)); exact (Kd.R_mono (Kd.R_far (p := ⟨gb989, 1, none⟩) (Kd.R_far (p := ⟨gb989, 0, none⟩) (Kd.R_types HO983.out BK989.out (by decide)) (fun _ hk => hk.2) (.int .i64 t984)) (fun _ hk => hk.2) (.slice Ao13 t985.length co13)) (fun _ h_ => h_.1))) (Kd.R_base ho0) hb); have n1_ := Aside0.mk (Kd.R_elder' (by (with_reducible repeat (first | apply Kd.R_alloc | apply Kd.R_drewN | apply Kd.R_drew)); exact (Kd.R_mono (Kd.R_far (p := ⟨gb989, 1, none⟩) (Kd.R_far (p := ⟨gb989, 0, none⟩) (Kd.R_types HO987.out BK989.out (by decide)) (fun _ hk => hk.2) (.int .i64 t984)) (fun _ hk => hk.2) (.slice Ao13 t985.length co13)) (fun _ h_ => h_.1))) (Kd.R_base ho0) hb); have n2_ := Aside0.mk (Kd.R_lower (Kd.R_new' (Kd.R_new' ho0 (Kd.R_lt (by (with_reducible repeat (first | apply Kd.R_alloc | apply Kd.R_drewN | apply Kd.R_drew)); exact (Kd.R_mono (Kd.R_far (p := ⟨gb989, 1, none⟩) (Kd.R_far (p := ⟨gb989, 0, none⟩) (Kd.R_types HO983.out BK989.out (by decide)) (fun _ hk => hk.2) (.int .i64 t984)) (fun _ hk => hk.2) (.slice Ao13 t985.length co13)) (fun _ h_ => h_.1))))) (Kd.R_lt (by (with_reducible repeat (first | apply Kd.R_alloc | apply Kd.R_drewN | apply Kd.R_drew)); exact (Kd.R_mono (Kd.R_far (p := ⟨gb989, 1, none⟩) (Kd.R_far (p := ⟨gb989, 0, none⟩) (Kd.R_types HO987.out BK989.out (by decide)) (fun _ hk => hk.2) (.int .i64 t984)) (fun _ hk => hk.2) (.slice Ao13 t985.length co13)) (fun _ h_ => h_.1))))) (below_size (by repeat (first | (with_reducible first | exact HB.out | apply below_alloc | apply pw_below_drewN | apply below_drew1 | refine below_set ?_ GE989.out) | exact HB.out)))); have n3_ := Aside0.mk (blk_below (g := gb989) (o := .cells #[.int .i64 t984, .slice Ao13 t985.length co13] 34 (0, 0)) (by (with_reducible repeat (first | refine blk_drewN ?_ _ | refine blk_drew ?_ | refine blk_alloc ?_ _)); refine blk_put (cs := #[.int .i64 t984, .slice none 0 0]) ?_ 1 _ rfl; (with_reducible repeat (first | refine blk_drewN ?_ _ | refine blk_drew ?_ | refine blk_alloc ?_ _)); refine blk_put (cs := #[.int .i64 0, .slice none 0 0]) ?_ 0 _ rfl; (with_reducible repeat (first | refine blk_drewN ?_ _ | refine blk_drew ?_ | refine blk_alloc ?_ _)); exact BK989.out) hb); have n4_ := Aside0.mk (below_step (by repeat (first | (with_reducible first | exact HB.out | apply below_alloc | apply pw_below_drewN | apply below_drew1 | refine below_set ?_ GE989.out) | exact HB.out)) hb); clear HO983; clear HO987; clear BK989; clear HB; have HO983 := n0_; have HO987 := n1_; have HO992 := n2_; have BK989 := n3_; have HB := n4_; clear n0_ n1_ n2_ n3_ n4_; (try clear hb); (try clear hb2); (try clear hk); (try clear hi); (try clear ho0); obtain ⟨Ao15, co15, eo15⟩ := Kd.R_slice HO992.out; subst eo15) | ((with_reducible refine gate_callee (f := 49) rfl ?_); refine goesL_ (some 26) rfl rfl Try.func49 (by kernel_rfl) rfl #[.slice Ao15 t990.length co15] rfl (by (try simp only [List.map_toArray, List.map_cons, List.map_nil]); first | done | rfl | (simp only [List.length_drop, List.length_take]; rfl)) ?_; (with_reducible refine (impl_OrderOfAscent.calls k _ _ t990 t993 t994 t997 _ ?side1 ?side2 A6.out).mono ?_); (case side1 => repeat (first | exact (Kd.R_reads' HO992.out).2.2 | (with_reducible refine Kd.C_alloc ?_ _) | (with_reducible refine Kd.C_drewN ?_ _) | (with_reducible refine Kd.C_drew ?_))); (case side2 => exact (Kd.R_reads' HO992.out).2.1); rintro e w16 ⟨v995, rfl, ho0, hb⟩; refine ⟨_, rfl, ?_⟩; have n0_ := Aside0.mk (Kd.R_elder' (by (with_reducible repeat (first | apply Kd.R_alloc | apply Kd.R_drewN | apply Kd.R_drew)); exact HO983.out) (Kd.R_base ho0) hb); have n1_ := Aside0.mk (Kd.R_elder' (by (with_reducible repeat (first | apply Kd.R_alloc | apply Kd.R_drewN | apply Kd.R_drew)); exact HO987.out) (Kd.R_base ho0) hb); have n2_ := Aside0.mk (Kd.R_elder' (by (with_reducible repeat (first | apply Kd.R_alloc | apply Kd.R_drewN | apply Kd.R_drew)); exact HO992.out) (Kd.R_base ho0) hb); have n3_ := Aside0.mk (Kd.R_lower (Kd.R_new' (Kd.R_new' (Kd.R_new' ho0 (Kd.R_lt (by (with_reducible repeat (first | apply Kd.R_alloc | apply Kd.R_drewN | apply Kd.R_drew)); exact HO983.out))) (Kd.R_lt (by (with_reducible repeat (first | apply Kd.R_alloc | apply Kd.R_drewN | apply Kd.R_drew)); exact HO987.out))) (Kd.R_lt (by (with_reducible repeat (first | apply Kd.R_alloc | apply Kd.R_drewN | apply Kd.R_drew)); exact HO992.out))) (below_size (by repeat (first | (with_reducible first | exact HB.out | apply below_alloc | apply pw_below_drewN | apply below_drew1 | refine below_set ?_ GE989.out) | exact HB.out)))); have n4_ := Aside0.mk (blk_below (g := gb989) (o := .cells #[.int .i64 t984, .slice Ao13 t985.length co13] 34 (0, 0)) (by (with_reducible repeat (first | refine blk_drewN ?_ _ | refine blk_drew ?_ | refine blk_alloc ?_ _)); exact BK989.out) hb); have n5_ := Aside0.mk (below_step (by repeat (first | (with_reducible first | exact HB.out | apply below_alloc | apply pw_below_drewN | apply below_drew1 | refine below_set ?_ GE989.out) | exact HB.out)) hb); clear HO983; clear HO987; clear HO992; clear BK989; clear HB; have HO983 := n0_; have HO987 := n1_; have HO992 := n2_; have HO996 := n3_; have BK989 := n4_; have HB := n5_; clear n0_ n1_ n2_ n3_ n4_ n5_; (try clear hb); (try clear hb2); (try clear hk); (try clear hi); (try clear ho0)) | ((with_reducible refine gate_dst (N := 6) rfl ?_); refine box_event ?hg (N := 6) ?hd (cs := #[.int .i64 0, .slice none 0 0]) (t := 34) ?hr ?_; (case hd => rfl); (case hg => rfl); (case hr => first | (go_simp; done) | (go_simp; rfl)); intro gb998 hg w17 hbox hb; have n0_ := Aside0.mk (Kd.R_below (by (with_reducible repeat (first | apply Kd.R_alloc | apply Kd.R_drewN | apply Kd.R_drew)); exact HO983.out) hb); have n1_ := Aside0.mk (Kd.R_below (by (with_reducible repeat (first | apply Kd.R_alloc | apply Kd.R_drewN | apply Kd.R_drew)); exact HO987.out) hb); have n2_ := Aside0.mk (Kd.R_below (by (with_reducible repeat (first | apply Kd.R_alloc | apply Kd.R_drewN | apply Kd.R_drew)); exact HO992.out) hb); have n3_ := Aside0.mk (Kd.R_below (by (with_reducible repeat (first | apply Kd.R_alloc | apply Kd.R_drewN | apply Kd.R_drew)); exact HO996.out) hb); have n4_ := Aside0.mk (blk_below (g := gb989) (o := .cells #[.int .i64 t984, .slice Ao13 t985.length co13] 34 (0, 0)) (by (with_reducible repeat (first | refine blk_drewN ?_ _ | refine blk_drew ?_ | refine blk_alloc ?_ _)); exact BK989.out) hb); have n5_ := Aside0.mk (below_step (by repeat (first | (with_reducible first | exact HB.out | apply below_alloc | apply pw_below_drewN | apply below_drew1 | refine below_set ?_ GE989.out) | exact HB.out)) hb); have n6_ := Aside0.mk (hbox); have n7_ := Aside0.mk ((by rw [hg]; exact (below_size (by repeat (first | (with_reducible first | exact HB.out | apply below_alloc | apply pw_below_drewN | apply below_drew1 | refine below_set ?_ GE989.out) | exact HB.out))) : w.heap.size ≤ gb998)); have n8_ := Aside0.mk ((by rw [hg]; exact (below_size (by repeat (first | (with_reducible first | exact HB.out | apply below_alloc | apply pw_below_drewN | apply below_drew1 | refine below_set ?_ GE989.out) | exact HB.out))) : w.heap.size ≤ gb998)); have n9_ := Aside0.mk ((by rw [hg]; exact Nat.ne_of_lt (blk_lt (g := gb989) (o := .cells #[.int .i64 t984, .slice Ao13 t985.length co13] 34 (0, 0)) (by (with_reducible repeat (first | refine blk_drewN ?_ _ | refine blk_drew ?_ | refine blk_alloc ?_ _)); exact BK989.out)) : gb989 ≠ gb998)); have n10_ := Aside0.mk ((by rw [hg]; exact Nat.ne_of_gt (blk_lt (g := gb989) (o := .cells #[.int .i64 t984, .slice Ao13 t985.length co13] 34 (0, 0)) (by (with_reducible repeat (first | refine blk_drewN ?_ _ | refine blk_drew ?_ | refine blk_alloc ?_ _)); exact BK989.out)) : gb998 ≠ gb989)); clear HO983; clear HO987; clear HO992; clear HO996; clear BK989; clear HB; have HO983 := n0_; have HO987 := n1_; have HO992 := n2_; have HO996 := n3_; have BK989 := n4_; have HB := n5_; have BK998 := n6_; have GW998 := n7_; have GE998 := n8_; have NB989_998 := n9_; have NB998_989 := n10_; clear n0_ n1_ n2_ n3_ n4_ n5_ n6_ n7_ n8_ n9_ n10_; clear hb hbox hg; have hnb18 := NB998_989.out; have hnc18 := NB989_998.out; have hcz19_0 : w17.cell? ⟨gb998, 0, none⟩ = some (.int .i64 0) := (blk_cell BK998.out 0).trans rfl; have hcz19_1 : w17.cell? ⟨gb998, 1, none⟩ = some (.slice none 0 0) := (blk_cell BK998.out 1).trans rfl; have hfz19_0 := blk_frozen BK998.out 0; have hfz19_1 := blk_frozen BK998.out 1; obtain ⟨Ao20, co20, eo20⟩ := Kd.R_slice HO996.out; subst eo20))
    (try simp only [Act.put, List.setIfInBounds_toArray, List.set_cons_zero, List.set_cons_succ])
    go_cut [37] (fun v37 wc => ∃ (kq : Nat) (x37_6 : Bool), v37 = .bool x37_6 ∧ Aside0 (laws_FnExactOrderOfAscent.j0 kq l0 t988 t990 t997 x37_6 t984 t985 t993 t994 = some r) ∧ Aside0 (kq ≤ k) ∧ Aside0 (Kd.R (Kd.int .i64) 3 wc w.heap.size (fun k_ => some k_ ≠ ((.slice Ao13 t985.length co13) : Value).ownBlock ∧ some k_ ≠ ((.slice Ao20 t994.length co20) : Value).ownBlock) (.slice Ao15 t990.length co15) t990) ∧ Aside0 (Kd.R (Kd.int .i64) 3 wc w.heap.size (fun k_ => some k_ ≠ ((.slice Ao15 t990.length co15) : Value).ownBlock ∧ some k_ ≠ ((.slice Ao20 t994.length co20) : Value).ownBlock) (.slice Ao13 t985.length co13) t985) ∧ Aside0 (Kd.R (Kd.int .i64) 3 wc w.heap.size (fun k_ => some k_ ≠ ((.slice Ao15 t990.length co15) : Value).ownBlock ∧ some k_ ≠ ((.slice Ao13 t985.length co13) : Value).ownBlock) (.slice Ao20 t994.length co20) t994) ∧ Aside0 (wc.heap[gb989]? = some (.cells #[.int .i64 t984, (.slice Ao13 t985.length co13)] 34 (0, 0))) ∧ Aside0 (wc.heap[gb998]? = some (.cells #[.int .i64 t993, (.slice Ao20 t994.length co20)] 34 (0, 0))) ∧ Aside0 (Below w.heap.size w wc))
    case first =>
      have H := HC7.out
      clear HC7
      replace H := Option.bind_eq_some_iff.mp H
      obtain ⟨t999, A210, H⟩ := H
      replace H : (if t999 = true then (laws_FnExactOrderOfAscent.j0 k l0 t988 t990 t997 (t997 != t988) t984 t985 t993 t994) else (laws_FnExactOrderOfAscent.j0 k l0 t988 t990 t997 true t984 t985 t993 t994)) = some r := H
      have A21 := Aside0.mk A210
      clear A210
      by_cases c22 : t999 = true
      · subst c22
        have H1 : (laws_FnExactOrderOfAscent.j0 k l0 t988 t990 t997 (t997 != t988) t984 t985 t993 t994) = some r := by rw [if_pos rfl] at H; exact H
        clear H
        have H := H1
        clear H1
        have H' := Aside0.mk H
        clear H
        have hnb23 := NB998_989.out
        have hnc23 := NB989_998.out
        have hcz24_0 : w17.cell? ⟨gb998, 0, none⟩ = some (.int .i64 0) := (blk_cell BK998.out 0).trans rfl
        have hcz24_1 : w17.cell? ⟨gb998, 1, none⟩ = some (.slice none 0 0) := (blk_cell BK998.out 1).trans rfl
        have hfz24_0 := blk_frozen BK998.out 0
        have hfz24_1 := blk_frozen BK998.out 1
        have hcz25_0 : w17.cell? ⟨gb989, 0, none⟩ = some (.int .i64 t984) := (blk_cell BK989.out 0).trans rfl
        have hcz25_1 : w17.cell? ⟨gb989, 1, none⟩ = some (.slice Ao13 t985.length co13) := (blk_cell BK989.out 1).trans rfl
        have hfz25_0 := blk_frozen BK989.out 0
        have hfz25_1 := blk_frozen BK989.out 1
        go_wp2_with (first | ((with_reducible refine gate_callee (f := 28) rfl ?_); refine goesL_ (some 31) rfl rfl Try.func28 (by kernel_rfl) rfl #[.agg #[.int .i64 t993, .slice Ao20 t994.length co20], .agg #[.int .i64 t984, .slice Ao13 t985.length co13]] rfl (by (try simp only [List.map_toArray, List.map_cons, List.map_nil]); first | done | rfl | (simp only [List.length_drop, List.length_take]; rfl)) ?_; (with_reducible refine (laws_eqOrder.calls k t993 _ _ t994 t984 _ _ t985 true _ ?side1 ?side2 ?side3 ?side4 A21.out).mono ?_); (case side1 => refine (Kd.R_reads' (e := 3) (base := w.heap.size) (ok := fun k_ => (((True ∧ some k_ ≠ (.slice Ao9 t981.length co9 : Value).ownBlock) ∧ some k_ ≠ (.slice Ao13 t985.length co13 : Value).ownBlock) ∧ some k_ ≠ (.slice Ao15 t990.length co15 : Value).ownBlock)) (n := t994.length) (c := co20) ?_).2.2; exact (by (with_reducible repeat (first | apply Kd.R_alloc | apply Kd.R_drewN | apply Kd.R_drew)); exact (Kd.R_mono (Kd.R_far (p := ⟨gb998, 1, none⟩) (Kd.R_far (p := ⟨gb998, 0, none⟩) (Kd.R_types HO996.out BK998.out (by decide)) (fun _ hk => hk.2) (.int .i64 t993)) (fun _ hk => hk.2) (.slice Ao20 t994.length co20)) (fun _ h_ => h_.1)))); (case side2 => exact (Kd.R_reads' HO996.out).2.1); (case side3 => refine (Kd.R_reads' (e := 3) (base := w.heap.size) (ok := fun k_ => (((True ∧ some k_ ≠ (.slice Ao9 t981.length co9 : Value).ownBlock) ∧ some k_ ≠ (.slice Ao15 t990.length co15 : Value).ownBlock) ∧ some k_ ≠ (.slice Ao20 t994.length co20 : Value).ownBlock)) (n := t985.length) (c := co13) ?_).2.2; exact (by (with_reducible repeat (first | apply Kd.R_alloc | apply Kd.R_drewN | apply Kd.R_drew)); exact (Kd.R_mono (Kd.R_far (p := ⟨gb998, 1, none⟩) (Kd.R_far (p := ⟨gb998, 0, none⟩) (Kd.R_types HO987.out BK998.out (by decide)) (fun _ hk => hk.2) (.int .i64 t993)) (fun _ hk => hk.2) (.slice Ao20 t994.length co20)) (fun _ h_ => h_.1)))); (case side4 => exact (Kd.R_reads' HO987.out).2.1); rintro e w26 ⟨rfl, hb⟩; refine ⟨_, rfl, ?_⟩; have n0_ := Aside0.mk (Kd.R_below (by (with_reducible repeat (first | apply Kd.R_alloc | apply Kd.R_drewN | apply Kd.R_drew)); exact (Kd.R_mono (Kd.R_far (p := ⟨gb998, 1, none⟩) (Kd.R_far (p := ⟨gb998, 0, none⟩) (Kd.R_types HO983.out BK998.out (by decide)) (fun _ hk => hk.2) (.int .i64 t993)) (fun _ hk => hk.2) (.slice Ao20 t994.length co20)) (fun _ h_ => h_.1))) hb); have n1_ := Aside0.mk (Kd.R_below (by (with_reducible repeat (first | apply Kd.R_alloc | apply Kd.R_drewN | apply Kd.R_drew)); exact (Kd.R_mono (Kd.R_far (p := ⟨gb998, 1, none⟩) (Kd.R_far (p := ⟨gb998, 0, none⟩) (Kd.R_types HO987.out BK998.out (by decide)) (fun _ hk => hk.2) (.int .i64 t993)) (fun _ hk => hk.2) (.slice Ao20 t994.length co20)) (fun _ h_ => h_.1))) hb); have n2_ := Aside0.mk (Kd.R_below (by (with_reducible repeat (first | apply Kd.R_alloc | apply Kd.R_drewN | apply Kd.R_drew)); exact (Kd.R_mono (Kd.R_far (p := ⟨gb998, 1, none⟩) (Kd.R_far (p := ⟨gb998, 0, none⟩) (Kd.R_types HO992.out BK998.out (by decide)) (fun _ hk => hk.2) (.int .i64 t993)) (fun _ hk => hk.2) (.slice Ao20 t994.length co20)) (fun _ h_ => h_.1))) hb); have n3_ := Aside0.mk (Kd.R_below (by (with_reducible repeat (first | apply Kd.R_alloc | apply Kd.R_drewN | apply Kd.R_drew)); exact (Kd.R_mono (Kd.R_far (p := ⟨gb998, 1, none⟩) (Kd.R_far (p := ⟨gb998, 0, none⟩) (Kd.R_types HO996.out BK998.out (by decide)) (fun _ hk => hk.2) (.int .i64 t993)) (fun _ hk => hk.2) (.slice Ao20 t994.length co20)) (fun _ h_ => h_.1))) hb); have n4_ := Aside0.mk (blk_below (g := gb989) (o := .cells #[.int .i64 t984, .slice Ao13 t985.length co13] 34 (0, 0)) (by (with_reducible repeat (first | refine blk_drewN ?_ _ | refine blk_drew ?_ | refine blk_alloc ?_ _)); refine blk_far ?_ NB989_998.out _; (with_reducible repeat (first | refine blk_drewN ?_ _ | refine blk_drew ?_ | refine blk_alloc ?_ _)); refine blk_far ?_ NB989_998.out _; (with_reducible repeat (first | refine blk_drewN ?_ _ | refine blk_drew ?_ | refine blk_alloc ?_ _)); exact BK989.out) hb); have n5_ := Aside0.mk (blk_below (g := gb998) (o := .cells #[.int .i64 t993, .slice Ao20 t994.length co20] 34 (0, 0)) (by (with_reducible repeat (first | refine blk_drewN ?_ _ | refine blk_drew ?_ | refine blk_alloc ?_ _)); refine blk_put (cs := #[.int .i64 t993, .slice none 0 0]) ?_ 1 _ rfl; (with_reducible repeat (first | refine blk_drewN ?_ _ | refine blk_drew ?_ | refine blk_alloc ?_ _)); refine blk_put (cs := #[.int .i64 0, .slice none 0 0]) ?_ 0 _ rfl; (with_reducible repeat (first | refine blk_drewN ?_ _ | refine blk_drew ?_ | refine blk_alloc ?_ _)); exact BK998.out) hb); have n6_ := Aside0.mk (below_step (by repeat (first | (with_reducible first | exact HB.out | apply below_alloc | apply pw_below_drewN | apply below_drew1 | refine below_set ?_ GE989.out | refine below_set ?_ GE998.out) | exact HB.out)) hb); clear HO983; clear HO987; clear HO992; clear HO996; clear BK989; clear BK998; clear HB; have HO983 := n0_; have HO987 := n1_; have HO992 := n2_; have HO996 := n3_; have BK989 := n4_; have BK998 := n5_; have HB := n6_; clear n0_ n1_ n2_ n3_ n4_ n5_ n6_; (try clear hb); (try clear hb2); (try clear hk); (try clear hi)))
        go_meet
        case rel => exact ⟨_, ((t997 != t988)), (by first | rfl | (simp; done) | (simp [*]; done)), H', ⟨by first | omega | exact Nat.le_refl _⟩, ⟨by (with_reducible repeat (first | apply Kd.R_alloc | apply Kd.R_drewN | apply Kd.R_drew)); exact Kd.R_mono HO992.out (fun _ hk => ⟨hk.1.2, hk.2⟩)⟩, ⟨by (with_reducible repeat (first | apply Kd.R_alloc | apply Kd.R_drewN | apply Kd.R_drew)); exact Kd.R_mono HO987.out (fun _ hk => ⟨hk.1.2, hk.2⟩)⟩, ⟨by (with_reducible repeat (first | apply Kd.R_alloc | apply Kd.R_drewN | apply Kd.R_drew)); exact Kd.R_mono HO996.out (fun _ hk => ⟨hk.2, hk.1.2⟩)⟩, ⟨by (with_reducible repeat (first | refine blk_drewN ?_ _ | refine blk_drew ?_ | refine blk_alloc ?_ _)); exact BK989.out⟩, ⟨by (with_reducible repeat (first | refine blk_drewN ?_ _ | refine blk_drew ?_ | refine blk_alloc ?_ _)); exact BK998.out⟩, ⟨by repeat (first | (with_reducible first | exact HB.out | apply below_alloc | apply pw_below_drewN | apply below_drew1 | refine below_set ?_ GE989.out | refine below_set ?_ GE998.out) | exact HB.out)⟩⟩
      · replace c22 := Bool.eq_false_iff.mpr c22
        subst c22
        have H1 : (laws_FnExactOrderOfAscent.j0 k l0 t988 t990 t997 true t984 t985 t993 t994) = some r := by rw [if_neg (show ¬ (false = true) by decide)] at H; exact H
        clear H
        have H := H1
        clear H1
        have H' := Aside0.mk H
        clear H
        have hnb27 := NB998_989.out
        have hnc27 := NB989_998.out
        have hcz28_0 : w17.cell? ⟨gb998, 0, none⟩ = some (.int .i64 0) := (blk_cell BK998.out 0).trans rfl
        have hcz28_1 : w17.cell? ⟨gb998, 1, none⟩ = some (.slice none 0 0) := (blk_cell BK998.out 1).trans rfl
        have hfz28_0 := blk_frozen BK998.out 0
        have hfz28_1 := blk_frozen BK998.out 1
        have hcz29_0 : w17.cell? ⟨gb989, 0, none⟩ = some (.int .i64 t984) := (blk_cell BK989.out 0).trans rfl
        have hcz29_1 : w17.cell? ⟨gb989, 1, none⟩ = some (.slice Ao13 t985.length co13) := (blk_cell BK989.out 1).trans rfl
        have hfz29_0 := blk_frozen BK989.out 0
        have hfz29_1 := blk_frozen BK989.out 1
        go_wp2_with (first | ((with_reducible refine gate_callee (f := 28) rfl ?_); refine goesL_ (some 31) rfl rfl Try.func28 (by kernel_rfl) rfl #[.agg #[.int .i64 t993, .slice Ao20 t994.length co20], .agg #[.int .i64 t984, .slice Ao13 t985.length co13]] rfl (by (try simp only [List.map_toArray, List.map_cons, List.map_nil]); first | done | rfl | (simp only [List.length_drop, List.length_take]; rfl)) ?_; (with_reducible refine (laws_eqOrder.calls k t993 _ _ t994 t984 _ _ t985 false _ ?side1 ?side2 ?side3 ?side4 A21.out).mono ?_); (case side1 => refine (Kd.R_reads' (e := 3) (base := w.heap.size) (ok := fun k_ => (((True ∧ some k_ ≠ (.slice Ao9 t981.length co9 : Value).ownBlock) ∧ some k_ ≠ (.slice Ao13 t985.length co13 : Value).ownBlock) ∧ some k_ ≠ (.slice Ao15 t990.length co15 : Value).ownBlock)) (n := t994.length) (c := co20) ?_).2.2; exact (by (with_reducible repeat (first | apply Kd.R_alloc | apply Kd.R_drewN | apply Kd.R_drew)); exact (Kd.R_mono (Kd.R_far (p := ⟨gb998, 1, none⟩) (Kd.R_far (p := ⟨gb998, 0, none⟩) (Kd.R_types HO996.out BK998.out (by decide)) (fun _ hk => hk.2) (.int .i64 t993)) (fun _ hk => hk.2) (.slice Ao20 t994.length co20)) (fun _ h_ => h_.1)))); (case side2 => exact (Kd.R_reads' HO996.out).2.1); (case side3 => refine (Kd.R_reads' (e := 3) (base := w.heap.size) (ok := fun k_ => (((True ∧ some k_ ≠ (.slice Ao9 t981.length co9 : Value).ownBlock) ∧ some k_ ≠ (.slice Ao15 t990.length co15 : Value).ownBlock) ∧ some k_ ≠ (.slice Ao20 t994.length co20 : Value).ownBlock)) (n := t985.length) (c := co13) ?_).2.2; exact (by (with_reducible repeat (first | apply Kd.R_alloc | apply Kd.R_drewN | apply Kd.R_drew)); exact (Kd.R_mono (Kd.R_far (p := ⟨gb998, 1, none⟩) (Kd.R_far (p := ⟨gb998, 0, none⟩) (Kd.R_types HO987.out BK998.out (by decide)) (fun _ hk => hk.2) (.int .i64 t993)) (fun _ hk => hk.2) (.slice Ao20 t994.length co20)) (fun _ h_ => h_.1)))); (case side4 => exact (Kd.R_reads' HO987.out).2.1); rintro e w30 ⟨rfl, hb⟩; refine ⟨_, rfl, ?_⟩; have n0_ := Aside0.mk (Kd.R_below (by (with_reducible repeat (first | apply Kd.R_alloc | apply Kd.R_drewN | apply Kd.R_drew)); exact (Kd.R_mono (Kd.R_far (p := ⟨gb998, 1, none⟩) (Kd.R_far (p := ⟨gb998, 0, none⟩) (Kd.R_types HO983.out BK998.out (by decide)) (fun _ hk => hk.2) (.int .i64 t993)) (fun _ hk => hk.2) (.slice Ao20 t994.length co20)) (fun _ h_ => h_.1))) hb); have n1_ := Aside0.mk (Kd.R_below (by (with_reducible repeat (first | apply Kd.R_alloc | apply Kd.R_drewN | apply Kd.R_drew)); exact (Kd.R_mono (Kd.R_far (p := ⟨gb998, 1, none⟩) (Kd.R_far (p := ⟨gb998, 0, none⟩) (Kd.R_types HO987.out BK998.out (by decide)) (fun _ hk => hk.2) (.int .i64 t993)) (fun _ hk => hk.2) (.slice Ao20 t994.length co20)) (fun _ h_ => h_.1))) hb); have n2_ := Aside0.mk (Kd.R_below (by (with_reducible repeat (first | apply Kd.R_alloc | apply Kd.R_drewN | apply Kd.R_drew)); exact (Kd.R_mono (Kd.R_far (p := ⟨gb998, 1, none⟩) (Kd.R_far (p := ⟨gb998, 0, none⟩) (Kd.R_types HO992.out BK998.out (by decide)) (fun _ hk => hk.2) (.int .i64 t993)) (fun _ hk => hk.2) (.slice Ao20 t994.length co20)) (fun _ h_ => h_.1))) hb); have n3_ := Aside0.mk (Kd.R_below (by (with_reducible repeat (first | apply Kd.R_alloc | apply Kd.R_drewN | apply Kd.R_drew)); exact (Kd.R_mono (Kd.R_far (p := ⟨gb998, 1, none⟩) (Kd.R_far (p := ⟨gb998, 0, none⟩) (Kd.R_types HO996.out BK998.out (by decide)) (fun _ hk => hk.2) (.int .i64 t993)) (fun _ hk => hk.2) (.slice Ao20 t994.length co20)) (fun _ h_ => h_.1))) hb); have n4_ := Aside0.mk (blk_below (g := gb989) (o := .cells #[.int .i64 t984, .slice Ao13 t985.length co13] 34 (0, 0)) (by (with_reducible repeat (first | refine blk_drewN ?_ _ | refine blk_drew ?_ | refine blk_alloc ?_ _)); refine blk_far ?_ NB989_998.out _; (with_reducible repeat (first | refine blk_drewN ?_ _ | refine blk_drew ?_ | refine blk_alloc ?_ _)); refine blk_far ?_ NB989_998.out _; (with_reducible repeat (first | refine blk_drewN ?_ _ | refine blk_drew ?_ | refine blk_alloc ?_ _)); exact BK989.out) hb); have n5_ := Aside0.mk (blk_below (g := gb998) (o := .cells #[.int .i64 t993, .slice Ao20 t994.length co20] 34 (0, 0)) (by (with_reducible repeat (first | refine blk_drewN ?_ _ | refine blk_drew ?_ | refine blk_alloc ?_ _)); refine blk_put (cs := #[.int .i64 t993, .slice none 0 0]) ?_ 1 _ rfl; (with_reducible repeat (first | refine blk_drewN ?_ _ | refine blk_drew ?_ | refine blk_alloc ?_ _)); refine blk_put (cs := #[.int .i64 0, .slice none 0 0]) ?_ 0 _ rfl; (with_reducible repeat (first | refine blk_drewN ?_ _ | refine blk_drew ?_ | refine blk_alloc ?_ _)); exact BK998.out) hb); have n6_ := Aside0.mk (below_step (by repeat (first | (with_reducible first | exact HB.out | apply below_alloc | apply pw_below_drewN | apply below_drew1 | refine below_set ?_ GE989.out | refine below_set ?_ GE998.out) | exact HB.out)) hb); clear HO983; clear HO987; clear HO992; clear HO996; clear BK989; clear BK998; clear HB; have HO983 := n0_; have HO987 := n1_; have HO992 := n2_; have HO996 := n3_; have BK989 := n4_; have BK998 := n5_; have HB := n6_; clear n0_ n1_ n2_ n3_ n4_ n5_ n6_; (try clear hb); (try clear hb2); (try clear hk); (try clear hi)))
        go_meet
        case rel => exact ⟨_, (true), (by first | rfl | (simp; done) | (simp [*]; done)), H', ⟨by first | omega | exact Nat.le_refl _⟩, ⟨by (with_reducible repeat (first | apply Kd.R_alloc | apply Kd.R_drewN | apply Kd.R_drew)); exact Kd.R_mono HO992.out (fun _ hk => ⟨hk.1.2, hk.2⟩)⟩, ⟨by (with_reducible repeat (first | apply Kd.R_alloc | apply Kd.R_drewN | apply Kd.R_drew)); exact Kd.R_mono HO987.out (fun _ hk => ⟨hk.1.2, hk.2⟩)⟩, ⟨by (with_reducible repeat (first | apply Kd.R_alloc | apply Kd.R_drewN | apply Kd.R_drew)); exact Kd.R_mono HO996.out (fun _ hk => ⟨hk.2, hk.1.2⟩)⟩, ⟨by (with_reducible repeat (first | refine blk_drewN ?_ _ | refine blk_drew ?_ | refine blk_alloc ?_ _)); exact BK989.out⟩, ⟨by (with_reducible repeat (first | refine blk_drewN ?_ _ | refine blk_drew ?_ | refine blk_alloc ?_ _)); exact BK998.out⟩, ⟨by repeat (first | (with_reducible first | exact HB.out | apply below_alloc | apply pw_below_drewN | apply below_drew1 | refine below_set ?_ GE989.out | refine below_set ?_ GE998.out) | exact HB.out)⟩⟩
    case rest =>
      clear HC7
      try clear c1
      try clear c2
      try clear c2b0
      try clear c2b1
      try clear p2
      try clear c4
      try clear c13
      try clear c15
      try clear c18
      try clear c22
      try clear c23
      try clear c27
      try clear c28
      try clear hcz12_0
      try clear hcz12_1
      try clear hcz19_0
      try clear hcz19_1
      try clear hcz24_0
      try clear hcz24_1
      try clear hcz25_0
      try clear hcz25_1
      try clear hcz28_0
      try clear hcz28_1
      try clear hcz29_0
      try clear hcz29_1
      try clear hfz12_0
      try clear hfz12_1
      try clear hfz19_0
      try clear hfz19_1
      try clear hfz24_0
      try clear hfz24_1
      try clear hfz25_0
      try clear hfz25_1
      try clear hfz28_0
      try clear hfz28_1
      try clear hfz29_0
      try clear hfz29_1
      obtain ⟨kq, x37_6, rfl, HA, HJ6, HO_5, HO_990001, HO_999001, BK989, BK998, HB⟩ := hcut
      cases kq with
      | zero => exact absurd HA.out (by simp [laws_FnExactOrderOfAscent.j0])
      | succ kj6 =>
        have H := HA.out
        clear HA
        simp only [laws_FnExactOrderOfAscent.j0] at H
        by_cases c31 : x37_6 = true
        · subst c31
          have H1 : (some false) = some r := by rw [if_pos rfl] at H; exact H
          clear H
          have H := H1
          clear H1
          obtain rfl := Option.some.inj H
          go_wp2
          go_ret
          exact ⟨by first | rfl | (simp [errW_none, errW_some] <;> rfl) | (simp [*, errW_none, errW_some] <;> rfl), by repeat (first | (with_reducible first | exact HB.out | apply below_alloc | apply pw_below_drewN | apply below_drew1 | refine below_set ?_ GE989.out | refine below_set ?_ GE998.out) | exact HB.out)⟩
        · replace c31 := Bool.eq_false_iff.mpr c31
          subst c31
          have H1 : ((laws_toIntS.f kj6 l0).bind fun t1000 => ((laws_eqIntS.f kj6 t990 t1000).bind fun t1003 => (if t1003 = true then ((laws_markIntS.f kj6 t990 1).bind fun bt1004 => (if bt1004.1 < 0 then (laws_FnExactOrderOfAscent.j1 kj6 l0 t988 true t984 t985 t993 t994) else ((laws_eqOrder.f kj6 t993 t994 t984 t985).bind fun t1006 => (if t1006 = true then (laws_FnExactOrderOfAscent.j1 kj6 l0 t988 (t997 != t988) t984 t985 t993 t994) else (laws_FnExactOrderOfAscent.j1 kj6 l0 t988 true t984 t985 t993 t994))))) else (some false)))) = some r := by rw [if_neg (show ¬ (false = true) by decide)] at H; exact H
          clear H
          have H := H1
          clear H1
          replace H := Option.bind_eq_some_iff.mp H
          obtain ⟨t1000, A320, H⟩ := H
          replace H : ((laws_eqIntS.f kj6 t990 t1000).bind fun t1003 => (if t1003 = true then ((laws_markIntS.f kj6 t990 1).bind fun bt1004 => (if bt1004.1 < 0 then (laws_FnExactOrderOfAscent.j1 kj6 l0 t988 true t984 t985 t993 t994) else ((laws_eqOrder.f kj6 t993 t994 t984 t985).bind fun t1006 => (if t1006 = true then (laws_FnExactOrderOfAscent.j1 kj6 l0 t988 (t997 != t988) t984 t985 t993 t994) else (laws_FnExactOrderOfAscent.j1 kj6 l0 t988 true t984 t985 t993 t994))))) else (some false))) = some r := H
          have A32 := Aside0.mk A320
          clear A320
          replace H := Option.bind_eq_some_iff.mp H
          obtain ⟨t1003, A330, H⟩ := H
          replace H : (if t1003 = true then ((laws_markIntS.f kj6 t990 1).bind fun bt1004 => (if bt1004.1 < 0 then (laws_FnExactOrderOfAscent.j1 kj6 l0 t988 true t984 t985 t993 t994) else ((laws_eqOrder.f kj6 t993 t994 t984 t985).bind fun t1006 => (if t1006 = true then (laws_FnExactOrderOfAscent.j1 kj6 l0 t988 (t997 != t988) t984 t985 t993 t994) else (laws_FnExactOrderOfAscent.j1 kj6 l0 t988 true t984 t985 t993 t994))))) else (some false)) = some r := H
          have A33 := Aside0.mk A330
          clear A330
          by_cases c34 : t1003 = true
          · subst c34
            have H1 : ((laws_markIntS.f kj6 t990 1).bind fun bt1004 => (if bt1004.1 < 0 then (laws_FnExactOrderOfAscent.j1 kj6 l0 t988 true t984 t985 t993 t994) else ((laws_eqOrder.f kj6 t993 t994 t984 t985).bind fun t1006 => (if t1006 = true then (laws_FnExactOrderOfAscent.j1 kj6 l0 t988 (t997 != t988) t984 t985 t993 t994) else (laws_FnExactOrderOfAscent.j1 kj6 l0 t988 true t984 t985 t993 t994))))) = some r := by rw [if_pos rfl] at H; exact H
            clear H
            have H := H1
            clear H1
            replace H := Option.bind_eq_some_iff.mp H
            obtain ⟨⟨t1004, t1005⟩, A350, H⟩ := H
            replace H : (if t1004 < 0 then (laws_FnExactOrderOfAscent.j1 kj6 l0 t988 true t984 t985 t993 t994) else ((laws_eqOrder.f kj6 t993 t994 t984 t985).bind fun t1006 => (if t1006 = true then (laws_FnExactOrderOfAscent.j1 kj6 l0 t988 (t997 != t988) t984 t985 t993 t994) else (laws_FnExactOrderOfAscent.j1 kj6 l0 t988 true t984 t985 t993 t994)))) = some r := H
            have A35 := Aside0.mk A350
            clear A350
            have HC36 := Aside0.mk H
            clear H
            go_upto_region 12 with (first | ((with_reducible refine gate_callee (f := 15) rfl ?_); refine goesL_ (some 40) rfl rfl Try.func15 (by kernel_rfl) rfl #[.slice A0 l0.length c0] rfl (by (try simp only [List.map_toArray, List.map_cons, List.map_nil]); first | done | rfl | (simp only [List.length_drop, List.length_take]; rfl)) ?_; (with_reducible refine (laws_toIntS.calls kj6 _ _ l0 t1000 _ ?side1 ?side2 A32.out).mono ?_); (case side1 => repeat (first | exact (Kd.C_below HR0.out HB.out) | (with_reducible refine Kd.C_alloc ?_ _) | (with_reducible refine Kd.C_drewN ?_ _) | (with_reducible refine Kd.C_drew ?_))); (case side2 => exact HC0.out); rintro e w37 ⟨v1001, rfl, ho0, hb⟩; refine ⟨_, rfl, ?_⟩; have n0_ := Aside0.mk (Kd.R_elder' (by (with_reducible repeat (first | apply Kd.R_alloc | apply Kd.R_drewN | apply Kd.R_drew)); exact HO_5.out) (Kd.R_base ho0) hb); have n1_ := Aside0.mk (Kd.R_elder' (by (with_reducible repeat (first | apply Kd.R_alloc | apply Kd.R_drewN | apply Kd.R_drew)); exact HO_990001.out) (Kd.R_base ho0) hb); have n2_ := Aside0.mk (Kd.R_elder' (by (with_reducible repeat (first | apply Kd.R_alloc | apply Kd.R_drewN | apply Kd.R_drew)); exact HO_999001.out) (Kd.R_base ho0) hb); have n3_ := Aside0.mk (Kd.R_lower (Kd.R_new' (Kd.R_new' (Kd.R_new' ho0 (Kd.R_lt (by (with_reducible repeat (first | apply Kd.R_alloc | apply Kd.R_drewN | apply Kd.R_drew)); exact HO_5.out))) (Kd.R_lt (by (with_reducible repeat (first | apply Kd.R_alloc | apply Kd.R_drewN | apply Kd.R_drew)); exact HO_990001.out))) (Kd.R_lt (by (with_reducible repeat (first | apply Kd.R_alloc | apply Kd.R_drewN | apply Kd.R_drew)); exact HO_999001.out))) (below_size (by repeat (first | (with_reducible first | exact HB.out | apply below_alloc | apply pw_below_drewN | apply below_drew1 | refine below_set ?_ GE989.out | refine below_set ?_ GE998.out) | exact HB.out)))); have n4_ := Aside0.mk (blk_below (g := gb989) (o := .cells #[.int .i64 t984, .slice Ao13 t985.length co13] 34 (0, 0)) (by (with_reducible repeat (first | refine blk_drewN ?_ _ | refine blk_drew ?_ | refine blk_alloc ?_ _)); exact BK989.out) hb); have n5_ := Aside0.mk (blk_below (g := gb998) (o := .cells #[.int .i64 t993, .slice Ao20 t994.length co20] 34 (0, 0)) (by (with_reducible repeat (first | refine blk_drewN ?_ _ | refine blk_drew ?_ | refine blk_alloc ?_ _)); exact BK998.out) hb); have n6_ := Aside0.mk (below_step (by repeat (first | (with_reducible first | exact HB.out | apply below_alloc | apply pw_below_drewN | apply below_drew1 | refine below_set ?_ GE989.out | refine below_set ?_ GE998.out) | exact HB.out)) hb); clear HO_5; clear HO_990001; clear HO_999001; clear BK989; clear BK998; clear HB; have HO_5 := n0_; have HO_990001 := n1_; have HO_999001 := n2_; have HO1002 := n3_; have BK989 := n4_; have BK998 := n5_; have HB := n6_; clear n0_ n1_ n2_ n3_ n4_ n5_ n6_; (try clear hb); (try clear hb2); (try clear hk); (try clear hi); (try clear ho0); obtain ⟨Ao38, co38, eo38⟩ := Kd.R_slice HO1002.out; subst eo38) | ((with_reducible refine gate_callee (f := 17) rfl ?_); refine goesL_ (some 41) rfl rfl Try.func17 (by kernel_rfl) rfl #[.slice Ao15 t990.length co15, .slice Ao38 t1000.length co38] rfl (by (try simp only [List.map_toArray, List.map_cons, List.map_nil]); first | done | rfl | (simp only [List.length_drop, List.length_take]; rfl)) ?_; (with_reducible refine (laws_eqIntS.calls kj6 _ _ t990 _ _ t1000 true _ ?side1 ?side2 ?side3 ?side4 A33.out).mono ?_); (case side1 => repeat (first | exact (Kd.R_reads' HO_5.out).2.2 | (with_reducible refine Kd.C_alloc ?_ _) | (with_reducible refine Kd.C_drewN ?_ _) | (with_reducible refine Kd.C_drew ?_))); (case side2 => exact (Kd.R_reads' HO_5.out).2.1); (case side3 => repeat (first | exact (Kd.R_reads' HO1002.out).2.2 | (with_reducible refine Kd.C_alloc ?_ _) | (with_reducible refine Kd.C_drewN ?_ _) | (with_reducible refine Kd.C_drew ?_))); (case side4 => exact (Kd.R_reads' HO1002.out).2.1); rintro e w' ⟨rfl, ⟨nd, rfl⟩⟩; refine ⟨_, rfl, ?_⟩) | ((with_reducible refine gate_callee (f := 22) rfl ?_); refine goesL_ (some 45) rfl rfl Try.func22 (by kernel_rfl) rfl #[.slice Ao15 t990.length co15, .int .i64 1] rfl (by (try simp only [List.map_toArray, List.map_cons, List.map_nil]); first | done | rfl | (simp only [List.length_drop, List.length_take]; rfl)) ?_; (with_reducible refine (laws_markIntS.calls kj6 (fun k_ => some k_ = (.slice Ao15 t990.length co15 : Value).ownBlock) (.slice Ao15 t990.length co15) t990 1 t1004 t1005 w _ ?side1 ?side2 A35.out).mono ?_); (case side1 => repeat (first | (with_reducible first | exact HB.out | apply below_alloc | apply pw_below_drewN | apply below_drew1 | refine below_set ?_ GE989.out | refine below_set ?_ GE998.out) | exact HB.out)); (case side2 => exact Kd.R_tight rfl HO_5.out); rintro e w39 ⟨rfl, hy0, hb, hkp⟩; refine ⟨_, rfl, ?_⟩; have n0_ := Aside0.mk (Kd.R_reok rfl hy0 (fun k_ e_ => HO_5.out.1 k_ e_)); have n1_ := Aside0.mk (Kd.R_mono (ok' := fun k_ => some k_ ≠ (.slice Ao15 t990.length co15 : Value).ownBlock ∧ some k_ ≠ (.slice Ao20 t994.length co20 : Value).ownBlock ∧ some k_ ≠ (.slice Ao38 t1000.length co38 : Value).ownBlock) (Kd.R_keptB (HO_990001.out) hkp (fun k_ hk_ hs_ => (hk_.1.1) hs_)) (fun k_ hk_ => ⟨hk_.1.1.1, hk_.1.1.2, hk_.1.2⟩)); have n2_ := Aside0.mk (Kd.R_mono (ok' := fun k_ => some k_ ≠ (.slice Ao15 t990.length co15 : Value).ownBlock ∧ some k_ ≠ (.slice Ao13 t985.length co13 : Value).ownBlock ∧ some k_ ≠ (.slice Ao38 t1000.length co38 : Value).ownBlock) (Kd.R_keptB (HO_999001.out) hkp (fun k_ hk_ hs_ => (hk_.1.1) hs_)) (fun k_ hk_ => ⟨hk_.1.1.1, hk_.1.1.2, hk_.1.2⟩)); have n3_ := Aside0.mk (blk_kept (by (with_reducible repeat (first | refine blk_drewN ?_ _ | refine blk_drew ?_ | refine blk_alloc ?_ _)); exact BK989.out) hkp (fun hs_ => (fun e_ => (Kd.R_ne HO_5.out BK989.out (by decide)) e_) hs_)); have n4_ := Aside0.mk (blk_kept (by (with_reducible repeat (first | refine blk_drewN ?_ _ | refine blk_drew ?_ | refine blk_alloc ?_ _)); exact BK998.out) hkp (fun hs_ => (fun e_ => (Kd.R_ne HO_5.out BK998.out (by decide)) e_) hs_)); have n5_ := Aside0.mk (Kd.R_mono (ok' := fun k_ => some k_ ≠ (.slice Ao15 t990.length co15 : Value).ownBlock ∧ some k_ ≠ (.slice Ao13 t985.length co13 : Value).ownBlock ∧ some k_ ≠ (.slice Ao20 t994.length co20 : Value).ownBlock) (Kd.R_keptB (HO1002.out) hkp (fun k_ hk_ hs_ => (hk_.1.1.2) hs_)) (fun k_ hk_ => ⟨hk_.1.1.1.2, hk_.1.1.2, hk_.1.2⟩)); have n6_ := Aside0.mk (hb); clear HO_5; clear HO_990001; clear HO_999001; clear BK989; clear BK998; clear HO1002; clear HB; have HO_5 := n0_; have HO_990001 := n1_; have HO_999001 := n2_; have BK989 := n3_; have BK998 := n4_; have HO1002 := n5_; have HB := n6_; clear n0_ n1_ n2_ n3_ n4_ n5_ n6_; (try clear hb); (try clear hkp); (try clear hy0)))
            (try simp only [Act.put, List.setIfInBounds_toArray, List.set_cons_zero, List.set_cons_succ])
            go_cut [58] (fun v58 wc => ∃ (kq : Nat) (x58_35 : Bool), v58 = .bool x58_35 ∧ Aside0 (laws_FnExactOrderOfAscent.j1 kq l0 t988 x58_35 t984 t985 t993 t994 = some r) ∧ Aside0 (kq ≤ kj6) ∧ Aside0 (Kd.R (Kd.int .i64) 3 wc w.heap.size (fun k_ => some k_ ≠ ((.slice Ao20 t994.length co20) : Value).ownBlock) (.slice Ao13 t985.length co13) t985) ∧ Aside0 (Kd.R (Kd.int .i64) 3 wc w.heap.size (fun k_ => some k_ ≠ ((.slice Ao13 t985.length co13) : Value).ownBlock) (.slice Ao20 t994.length co20) t994) ∧ Aside0 (wc.heap[gb989]? = some (.cells #[.int .i64 t984, (.slice Ao13 t985.length co13)] 34 (0, 0))) ∧ Aside0 (wc.heap[gb998]? = some (.cells #[.int .i64 t993, (.slice Ao20 t994.length co20)] 34 (0, 0))) ∧ Aside0 (Below w.heap.size w wc))
            case first =>
              have H := HC36.out
              clear HC36
              by_cases c40 : t1004 < 0
              · rw [if_pos c40] at H
                have c40b0 : decide (t1004 < 0) = true := decide_eq_true c40
                clear c40
                (first | rw [c40b0] | (simp only [i64_w, i32_w]; rw [c40b0]) | skip)
                have H' := Aside0.mk H
                clear H
                go_wp2
                go_meet
                case rel => exact ⟨_, (true), (by first | rfl | (simp; done) | (simp [*]; done)), H', ⟨by have := HJ6.out; first | omega | exact Nat.le_refl _⟩, ⟨by (with_reducible repeat (first | apply Kd.R_alloc | apply Kd.R_drewN | apply Kd.R_drew)); exact Kd.R_mono HO_990001.out (fun _ hk => hk.2.1)⟩, ⟨by (with_reducible repeat (first | apply Kd.R_alloc | apply Kd.R_drewN | apply Kd.R_drew)); exact Kd.R_mono HO_999001.out (fun _ hk => hk.2.1)⟩, ⟨by (with_reducible repeat (first | refine blk_drewN ?_ _ | refine blk_drew ?_ | refine blk_alloc ?_ _)); exact BK989.out⟩, ⟨by (with_reducible repeat (first | refine blk_drewN ?_ _ | refine blk_drew ?_ | refine blk_alloc ?_ _)); exact BK998.out⟩, ⟨by repeat (first | (with_reducible first | exact HB.out | apply below_alloc | apply pw_below_drewN | apply below_drew1 | refine below_set ?_ GE989.out | refine below_set ?_ GE998.out) | exact HB.out)⟩⟩
              · rw [if_neg c40] at H
                have c40b0 : decide (t1004 < 0) = false := decide_eq_false c40
                clear c40
                (first | rw [c40b0] | (simp only [i64_w, i32_w]; rw [c40b0]) | skip)
                replace H := Option.bind_eq_some_iff.mp H
                obtain ⟨t1006, A410, H⟩ := H
                replace H : (if t1006 = true then (laws_FnExactOrderOfAscent.j1 kj6 l0 t988 (t997 != t988) t984 t985 t993 t994) else (laws_FnExactOrderOfAscent.j1 kj6 l0 t988 true t984 t985 t993 t994)) = some r := H
                have A41 := Aside0.mk A410
                clear A410
                by_cases c42 : t1006 = true
                · subst c42
                  have H1 : (laws_FnExactOrderOfAscent.j1 kj6 l0 t988 (t997 != t988) t984 t985 t993 t994) = some r := by rw [if_pos rfl] at H; exact H
                  clear H
                  have H := H1
                  clear H1
                  have H' := Aside0.mk H
                  clear H
                  have hnb43 := NB998_989.out
                  have hnc43 := NB989_998.out
                  have hcz44_0 : w39.cell? ⟨gb998, 0, none⟩ = some (.int .i64 t993) := (blk_cell BK998.out 0).trans rfl
                  have hcz44_1 : w39.cell? ⟨gb998, 1, none⟩ = some (.slice Ao20 t994.length co20) := (blk_cell BK998.out 1).trans rfl
                  have hfz44_0 := blk_frozen BK998.out 0
                  have hfz44_1 := blk_frozen BK998.out 1
                  have hcz45_0 : w39.cell? ⟨gb989, 0, none⟩ = some (.int .i64 t984) := (blk_cell BK989.out 0).trans rfl
                  have hcz45_1 : w39.cell? ⟨gb989, 1, none⟩ = some (.slice Ao13 t985.length co13) := (blk_cell BK989.out 1).trans rfl
                  have hfz45_0 := blk_frozen BK989.out 0
                  have hfz45_1 := blk_frozen BK989.out 1
                  go_wp2_with (first | (go_at_call 28; (with_reducible refine (laws_eqOrder.calls kj6 t993 _ _ t994 t984 _ _ t985 true _ ?side1 ?side2 ?side3 ?side4 A41.out).mono ?_); (case side1 => repeat (first | exact (Kd.R_reads' HO_999001.out).2.2 | (with_reducible refine Kd.C_alloc ?_ _) | (with_reducible refine Kd.C_drewN ?_ _) | (with_reducible refine Kd.C_drew ?_))); (case side2 => exact (Kd.R_reads' HO_999001.out).2.1); (case side3 => repeat (first | exact (Kd.R_reads' HO_990001.out).2.2 | (with_reducible refine Kd.C_alloc ?_ _) | (with_reducible refine Kd.C_drewN ?_ _) | (with_reducible refine Kd.C_drew ?_))); (case side4 => exact (Kd.R_reads' HO_990001.out).2.1); rintro e w46 ⟨rfl, hb⟩; have n0_ := Aside0.mk (Kd.R_below (by (with_reducible repeat (first | apply Kd.R_alloc | apply Kd.R_drewN | apply Kd.R_drew)); exact HO_5.out) hb); have n1_ := Aside0.mk (Kd.R_below (by (with_reducible repeat (first | apply Kd.R_alloc | apply Kd.R_drewN | apply Kd.R_drew)); exact HO_990001.out) hb); have n2_ := Aside0.mk (Kd.R_below (by (with_reducible repeat (first | apply Kd.R_alloc | apply Kd.R_drewN | apply Kd.R_drew)); exact HO_999001.out) hb); have n3_ := Aside0.mk (Kd.R_below (by (with_reducible repeat (first | apply Kd.R_alloc | apply Kd.R_drewN | apply Kd.R_drew)); exact HO1002.out) hb); have n4_ := Aside0.mk (blk_below (g := gb989) (o := .cells #[.int .i64 t984, .slice Ao13 t985.length co13] 34 (0, 0)) (by (with_reducible repeat (first | refine blk_drewN ?_ _ | refine blk_drew ?_ | refine blk_alloc ?_ _)); exact BK989.out) hb); have n5_ := Aside0.mk (blk_below (g := gb998) (o := .cells #[.int .i64 t993, .slice Ao20 t994.length co20] 34 (0, 0)) (by (with_reducible repeat (first | refine blk_drewN ?_ _ | refine blk_drew ?_ | refine blk_alloc ?_ _)); exact BK998.out) hb); have n6_ := Aside0.mk (below_step (by repeat (first | (with_reducible first | exact HB.out | apply below_alloc | apply pw_below_drewN | apply below_drew1 | refine below_set ?_ GE989.out | refine below_set ?_ GE998.out) | exact HB.out)) hb); clear HO_5; clear HO_990001; clear HO_999001; clear HO1002; clear BK989; clear BK998; clear HB; have HO_5 := n0_; have HO_990001 := n1_; have HO_999001 := n2_; have HO1002 := n3_; have BK989 := n4_; have BK998 := n5_; have HB := n6_; clear n0_ n1_ n2_ n3_ n4_ n5_ n6_; (try clear hb); (try clear hb2); (try clear hk); (try clear hi)))
                  go_meet
                  case rel => exact ⟨_, ((t997 != t988)), (by first | rfl | (simp; done) | (simp [*]; done)), H', ⟨by have := HJ6.out; first | omega | exact Nat.le_refl _⟩, ⟨by (with_reducible repeat (first | apply Kd.R_alloc | apply Kd.R_drewN | apply Kd.R_drew)); exact Kd.R_mono HO_990001.out (fun _ hk => hk.2.1)⟩, ⟨by (with_reducible repeat (first | apply Kd.R_alloc | apply Kd.R_drewN | apply Kd.R_drew)); exact Kd.R_mono HO_999001.out (fun _ hk => hk.2.1)⟩, ⟨by (with_reducible repeat (first | refine blk_drewN ?_ _ | refine blk_drew ?_ | refine blk_alloc ?_ _)); exact BK989.out⟩, ⟨by (with_reducible repeat (first | refine blk_drewN ?_ _ | refine blk_drew ?_ | refine blk_alloc ?_ _)); exact BK998.out⟩, ⟨by repeat (first | (with_reducible first | exact HB.out | apply below_alloc | apply pw_below_drewN | apply below_drew1 | refine below_set ?_ GE989.out | refine below_set ?_ GE998.out) | exact HB.out)⟩⟩
                · replace c42 := Bool.eq_false_iff.mpr c42
                  subst c42
                  have H1 : (laws_FnExactOrderOfAscent.j1 kj6 l0 t988 true t984 t985 t993 t994) = some r := by rw [if_neg (show ¬ (false = true) by decide)] at H; exact H
                  clear H
                  have H := H1
                  clear H1
                  have H' := Aside0.mk H
                  clear H
                  have hnb47 := NB998_989.out
                  have hnc47 := NB989_998.out
                  have hcz48_0 : w39.cell? ⟨gb998, 0, none⟩ = some (.int .i64 t993) := (blk_cell BK998.out 0).trans rfl
                  have hcz48_1 : w39.cell? ⟨gb998, 1, none⟩ = some (.slice Ao20 t994.length co20) := (blk_cell BK998.out 1).trans rfl
                  have hfz48_0 := blk_frozen BK998.out 0
                  have hfz48_1 := blk_frozen BK998.out 1
                  have hcz49_0 : w39.cell? ⟨gb989, 0, none⟩ = some (.int .i64 t984) := (blk_cell BK989.out 0).trans rfl
                  have hcz49_1 : w39.cell? ⟨gb989, 1, none⟩ = some (.slice Ao13 t985.length co13) := (blk_cell BK989.out 1).trans rfl
                  have hfz49_0 := blk_frozen BK989.out 0
                  have hfz49_1 := blk_frozen BK989.out 1
                  go_wp2_with (first | (go_at_call 28; (with_reducible refine (laws_eqOrder.calls kj6 t993 _ _ t994 t984 _ _ t985 false _ ?side1 ?side2 ?side3 ?side4 A41.out).mono ?_); (case side1 => repeat (first | exact (Kd.R_reads' HO_999001.out).2.2 | (with_reducible refine Kd.C_alloc ?_ _) | (with_reducible refine Kd.C_drewN ?_ _) | (with_reducible refine Kd.C_drew ?_))); (case side2 => exact (Kd.R_reads' HO_999001.out).2.1); (case side3 => repeat (first | exact (Kd.R_reads' HO_990001.out).2.2 | (with_reducible refine Kd.C_alloc ?_ _) | (with_reducible refine Kd.C_drewN ?_ _) | (with_reducible refine Kd.C_drew ?_))); (case side4 => exact (Kd.R_reads' HO_990001.out).2.1); rintro e w50 ⟨rfl, hb⟩; have n0_ := Aside0.mk (Kd.R_below (by (with_reducible repeat (first | apply Kd.R_alloc | apply Kd.R_drewN | apply Kd.R_drew)); exact HO_5.out) hb); have n1_ := Aside0.mk (Kd.R_below (by (with_reducible repeat (first | apply Kd.R_alloc | apply Kd.R_drewN | apply Kd.R_drew)); exact HO_990001.out) hb); have n2_ := Aside0.mk (Kd.R_below (by (with_reducible repeat (first | apply Kd.R_alloc | apply Kd.R_drewN | apply Kd.R_drew)); exact HO_999001.out) hb); have n3_ := Aside0.mk (Kd.R_below (by (with_reducible repeat (first | apply Kd.R_alloc | apply Kd.R_drewN | apply Kd.R_drew)); exact HO1002.out) hb); have n4_ := Aside0.mk (blk_below (g := gb989) (o := .cells #[.int .i64 t984, .slice Ao13 t985.length co13] 34 (0, 0)) (by (with_reducible repeat (first | refine blk_drewN ?_ _ | refine blk_drew ?_ | refine blk_alloc ?_ _)); exact BK989.out) hb); have n5_ := Aside0.mk (blk_below (g := gb998) (o := .cells #[.int .i64 t993, .slice Ao20 t994.length co20] 34 (0, 0)) (by (with_reducible repeat (first | refine blk_drewN ?_ _ | refine blk_drew ?_ | refine blk_alloc ?_ _)); exact BK998.out) hb); have n6_ := Aside0.mk (below_step (by repeat (first | (with_reducible first | exact HB.out | apply below_alloc | apply pw_below_drewN | apply below_drew1 | refine below_set ?_ GE989.out | refine below_set ?_ GE998.out) | exact HB.out)) hb); clear HO_5; clear HO_990001; clear HO_999001; clear HO1002; clear BK989; clear BK998; clear HB; have HO_5 := n0_; have HO_990001 := n1_; have HO_999001 := n2_; have HO1002 := n3_; have BK989 := n4_; have BK998 := n5_; have HB := n6_; clear n0_ n1_ n2_ n3_ n4_ n5_ n6_; (try clear hb); (try clear hb2); (try clear hk); (try clear hi)))
                  go_meet
                  case rel => exact ⟨_, (true), (by first | rfl | (simp; done) | (simp [*]; done)), H', ⟨by have := HJ6.out; first | omega | exact Nat.le_refl _⟩, ⟨by (with_reducible repeat (first | apply Kd.R_alloc | apply Kd.R_drewN | apply Kd.R_drew)); exact Kd.R_mono HO_990001.out (fun _ hk => hk.2.1)⟩, ⟨by (with_reducible repeat (first | apply Kd.R_alloc | apply Kd.R_drewN | apply Kd.R_drew)); exact Kd.R_mono HO_999001.out (fun _ hk => hk.2.1)⟩, ⟨by (with_reducible repeat (first | refine blk_drewN ?_ _ | refine blk_drew ?_ | refine blk_alloc ?_ _)); exact BK989.out⟩, ⟨by (with_reducible repeat (first | refine blk_drewN ?_ _ | refine blk_drew ?_ | refine blk_alloc ?_ _)); exact BK998.out⟩, ⟨by repeat (first | (with_reducible first | exact HB.out | apply below_alloc | apply pw_below_drewN | apply below_drew1 | refine below_set ?_ GE989.out | refine below_set ?_ GE998.out) | exact HB.out)⟩⟩
            case rest =>
              clear HC36
              try clear c1
              try clear c2
              try clear c2b0
              try clear c2b1
              try clear p2
              try clear c3
              try clear c4
              try clear c13
              try clear c15
              try clear c17
              try clear c18
              try clear c22
              try clear c23
              try clear c27
              try clear c28
              try clear c31
              try clear c34
              try clear c40
              try clear c40b0
              try clear c42
              try clear c43
              try clear c47
              try clear c48
              try clear c49
              try clear hcz12_0
              try clear hcz12_1
              try clear hcz19_0
              try clear hcz19_1
              try clear hcz24_0
              try clear hcz24_1
              try clear hcz25_0
              try clear hcz25_1
              try clear hcz28_0
              try clear hcz28_1
              try clear hcz29_0
              try clear hcz29_1
              try clear hcz44_0
              try clear hcz44_1
              try clear hcz45_0
              try clear hcz45_1
              try clear hcz48_0
              try clear hcz48_1
              try clear hcz49_0
              try clear hcz49_1
              try clear hfz12_0
              try clear hfz12_1
              try clear hfz19_0
              try clear hfz19_1
              try clear hfz24_0
              try clear hfz24_1
              try clear hfz25_0
              try clear hfz25_1
              try clear hfz28_0
              try clear hfz28_1
              try clear hfz29_0
              try clear hfz29_1
              try clear hfz44_0
              try clear hfz44_1
              try clear hfz45_0
              try clear hfz45_1
              try clear hfz48_0
              try clear hfz48_1
              try clear hfz49_0
              try clear hfz49_1
              try clear p2
              obtain ⟨kq, x58_35, rfl, HA, HJ35, HO_990001, HO_999001, BK989, BK998, HB⟩ := hcut
              cases kq with
              | zero => exact absurd HA.out (by simp [laws_FnExactOrderOfAscent.j1])
              | succ kj35 =>
                have H := HA.out
                clear HA
                simp only [laws_FnExactOrderOfAscent.j1] at H
                by_cases c51 : x58_35 = true
                · subst c51
                  have H1 : (some false) = some r := by rw [if_pos rfl] at H; exact H
                  clear H
                  have H := H1
                  clear H1
                  obtain rfl := Option.some.inj H
                  go_wp2
                  go_ret
                  exact ⟨by first | rfl | (simp [errW_none, errW_some] <;> rfl) | (simp [*, errW_none, errW_some] <;> rfl), by repeat (first | (with_reducible first | exact HB.out | apply below_alloc | apply pw_below_drewN | apply below_drew1 | refine below_set ?_ GE989.out | refine below_set ?_ GE998.out) | exact HB.out)⟩
                · replace c51 := Bool.eq_false_iff.mpr c51
                  subst c51
                  have H1 : ((laws_markOrder.f kj35 t993 t994 1).bind fun bt1007 => ((laws_heldOrder.f kj35 t993 bt1007.2 1).bind fun t1009 => (if t1009 < 0 then (some false) else (if t1009 = bt1007.1 then ((laws_toIntS.f kj35 l0).bind fun t1010 => ((impl_OrderOfAscent.f kj35 t1010).bind fun bt1013 => ((laws_eqOrder.f kj35 bt1013.1 bt1013.2.1 t984 t985).bind fun t1019 => (if t1019 = true then (laws_FnExactOrderOfAscent.j2 kj35 bt1007.1 (bt1013.2.2 != t988) t993 bt1007.2) else (laws_FnExactOrderOfAscent.j2 kj35 bt1007.1 true t993 bt1007.2))))) else (some false))))) = some r := by rw [if_neg (show ¬ (false = true) by decide)] at H; exact H
                  clear H
                  have H := H1
                  clear H1
                  replace H := Option.bind_eq_some_iff.mp H
                  obtain ⟨⟨t1007, t1008⟩, A520, H⟩ := H
                  replace H : ((laws_heldOrder.f kj35 t993 t1008 1).bind fun t1009 => (if t1009 < 0 then (some false) else (if t1009 = t1007 then ((laws_toIntS.f kj35 l0).bind fun t1010 => ((impl_OrderOfAscent.f kj35 t1010).bind fun bt1013 => ((laws_eqOrder.f kj35 bt1013.1 bt1013.2.1 t984 t985).bind fun t1019 => (if t1019 = true then (laws_FnExactOrderOfAscent.j2 kj35 t1007 (bt1013.2.2 != t988) t993 t1008) else (laws_FnExactOrderOfAscent.j2 kj35 t1007 true t993 t1008))))) else (some false)))) = some r := H
                  have A52 := Aside0.mk A520
                  clear A520
                  replace H := Option.bind_eq_some_iff.mp H
                  obtain ⟨t1009, A530, H⟩ := H
                  replace H : (if t1009 < 0 then (some false) else (if t1009 = t1007 then ((laws_toIntS.f kj35 l0).bind fun t1010 => ((impl_OrderOfAscent.f kj35 t1010).bind fun bt1013 => ((laws_eqOrder.f kj35 bt1013.1 bt1013.2.1 t984 t985).bind fun t1019 => (if t1019 = true then (laws_FnExactOrderOfAscent.j2 kj35 t1007 (bt1013.2.2 != t988) t993 t1008) else (laws_FnExactOrderOfAscent.j2 kj35 t1007 true t993 t1008))))) else (some false))) = some r := H
                  have A53 := Aside0.mk A530
                  clear A530
                  by_cases c54 : t1009 < 0
                  · rw [if_pos c54] at H
                    have c54b0 : decide (t1009 < 0) = true := decide_eq_true c54
                    clear c54
                    obtain rfl := Option.some.inj H
                    have hnb55 := NB998_989.out
                    have hnc55 := NB989_998.out
                    have hcz56_0 : wc.cell? ⟨gb998, 0, none⟩ = some (.int .i64 t993) := (blk_cell BK998.out 0).trans rfl
                    have hcz56_1 : wc.cell? ⟨gb998, 1, none⟩ = some (.slice Ao20 t994.length co20) := (blk_cell BK998.out 1).trans rfl
                    have hfz56_0 := blk_frozen BK998.out 0
                    have hfz56_1 := blk_frozen BK998.out 1
                    go_wp2_with (first | ((with_reducible refine gate_callee (f := 29) rfl ?_); refine goesL_ (some 61) rfl rfl Try.func29 (by kernel_rfl) rfl #[.agg #[.int .i64 t993, .slice Ao20 t994.length co20], .int .i64 1] rfl (by (try simp only [List.map_toArray, List.map_cons, List.map_nil]); first | done | rfl | (simp only [List.length_drop, List.length_take]; rfl)) ?_; (with_reducible refine (laws_markOrder.calls kj35 t993 (fun k_ => some k_ = (.slice Ao20 t994.length co20 : Value).ownBlock) (.slice Ao20 t994.length co20) t994 1 t1007 t1008 w _ ?side1 ?side2 A52.out).mono ?_); (case side1 => repeat (first | (with_reducible first | exact HB.out | apply below_alloc | apply pw_below_drewN | apply below_drew1 | refine below_set ?_ GE989.out | refine below_set ?_ GE998.out) | exact HB.out)); (case side2 => exact Kd.R_tight rfl HO_999001.out); rintro e w57 ⟨rfl, hy0, hb, hkp⟩; refine ⟨_, rfl, ?_⟩; have n0_ := Aside0.mk (Kd.R_mono (ok' := fun k_ => some k_ ≠ (.slice Ao20 t994.length co20 : Value).ownBlock) (Kd.R_keptB (HO_990001.out) hkp (fun k_ hk_ hs_ => (hk_) hs_)) (fun k_ hk_ => hk_.1)); have n1_ := Aside0.mk (Kd.R_reok rfl hy0 (fun k_ e_ => HO_999001.out.1 k_ e_)); have n2_ := Aside0.mk (blk_kept (by (with_reducible repeat (first | refine blk_drewN ?_ _ | refine blk_drew ?_ | refine blk_alloc ?_ _)); exact BK989.out) hkp (fun hs_ => (fun e_ => (Kd.R_ne HO_999001.out BK989.out (by decide)) e_) hs_)); have n3_ := Aside0.mk (blk_kept (by (with_reducible repeat (first | refine blk_drewN ?_ _ | refine blk_drew ?_ | refine blk_alloc ?_ _)); exact BK998.out) hkp (fun hs_ => (fun e_ => (Kd.R_ne HO_999001.out BK998.out (by decide)) e_) hs_)); have n4_ := Aside0.mk (hb); clear HO_990001; clear HO_999001; clear BK989; clear BK998; clear HB; have HO_990001 := n0_; have HO_999001 := n1_; have BK989 := n2_; have BK998 := n3_; have HB := n4_; clear n0_ n1_ n2_ n3_ n4_; (try clear hb); (try clear hkp); (try clear hy0); have hcz58_0 : w57.cell? ⟨gb998, 0, none⟩ = some (.int .i64 t993) := (blk_cell BK998.out 0).trans rfl; have hcz58_1 : w57.cell? ⟨gb998, 1, none⟩ = some (.slice Ao20 t994.length co20) := (blk_cell BK998.out 1).trans rfl; have hfz58_0 := blk_frozen BK998.out 0; have hfz58_1 := blk_frozen BK998.out 1) | ((with_reducible refine gate_callee (f := 30) rfl ?_); refine goesL_ (some 64) rfl rfl Try.func30 (by kernel_rfl) rfl #[.agg #[.int .i64 t993, .slice Ao20 t1008.length co20], .int .i64 1] rfl (by (try simp only [List.map_toArray, List.map_cons, List.map_nil]); first | done | (rw [show t1008.length = t994.length from (Kd.R_reads' HO_999001.out).1.symm] <;> rfl) | rfl | (simp only [List.length_drop, List.length_take]; rfl)) ?_; (with_reducible refine (laws_heldOrder.calls kj35 t993 _ _ t1008 1 t1009 _ ?side1 ?side2 A53.out).mono ?_); (case side1 => repeat (first | exact (Kd.R_reads' HO_999001.out).2.2 | (with_reducible refine Kd.C_alloc ?_ _) | (with_reducible refine Kd.C_drewN ?_ _) | (with_reducible refine Kd.C_drew ?_))); (case side2 => rw [show t1008.length = t994.length from (Kd.R_reads' HO_999001.out).1.symm]; exact (Kd.R_reads' HO_999001.out).2.1); rintro e w59 ⟨rfl, hb⟩; refine ⟨_, rfl, ?_⟩; have n0_ := Aside0.mk (Kd.R_below (by (with_reducible repeat (first | apply Kd.R_alloc | apply Kd.R_drewN | apply Kd.R_drew)); exact HO_990001.out) hb); have n1_ := Aside0.mk (Kd.R_below (by (with_reducible repeat (first | apply Kd.R_alloc | apply Kd.R_drewN | apply Kd.R_drew)); exact HO_999001.out) hb); have n2_ := Aside0.mk (blk_below (g := gb989) (o := .cells #[.int .i64 t984, .slice Ao13 t985.length co13] 34 (0, 0)) (by (with_reducible repeat (first | refine blk_drewN ?_ _ | refine blk_drew ?_ | refine blk_alloc ?_ _)); exact BK989.out) hb); have n3_ := Aside0.mk (blk_below (g := gb998) (o := .cells #[.int .i64 t993, .slice Ao20 t994.length co20] 34 (0, 0)) (by (with_reducible repeat (first | refine blk_drewN ?_ _ | refine blk_drew ?_ | refine blk_alloc ?_ _)); exact BK998.out) hb); have n4_ := Aside0.mk (below_step (by repeat (first | (with_reducible first | exact HB.out | apply below_alloc | apply pw_below_drewN | apply below_drew1 | refine below_set ?_ GE989.out | refine below_set ?_ GE998.out) | exact HB.out)) hb); clear HO_990001; clear HO_999001; clear BK989; clear BK998; clear HB; have HO_990001 := n0_; have HO_999001 := n1_; have BK989 := n2_; have BK998 := n3_; have HB := n4_; clear n0_ n1_ n2_ n3_ n4_; (try clear hb); (try clear hb2); (try clear hk); (try clear hi)))
                    go_ret
                    exact ⟨by first | rfl | (simp [errW_none, errW_some] <;> rfl) | (simp [*, errW_none, errW_some] <;> rfl), by repeat (first | (with_reducible first | exact HB.out | apply below_alloc | apply pw_below_drewN | apply below_drew1 | refine below_set ?_ GE989.out | refine below_set ?_ GE998.out) | exact HB.out)⟩
                  · rw [if_neg c54] at H
                    have c54b0 : decide (t1009 < 0) = false := decide_eq_false c54
                    clear c54
                    by_cases c60 : t1009 = t1007
                    · rw [if_pos c60] at H
                      have c60b0 : (t1009 == t1007) = true := beq_iff_eq.mpr c60
                      have c60b1 : (t1009 != t1007) = false := bne_eq_false_iff_eq.mpr c60
                      clear c60
                      replace H := Option.bind_eq_some_iff.mp H
                      obtain ⟨t1010, A610, H⟩ := H
                      replace H : ((impl_OrderOfAscent.f kj35 t1010).bind fun bt1013 => ((laws_eqOrder.f kj35 bt1013.1 bt1013.2.1 t984 t985).bind fun t1019 => (if t1019 = true then (laws_FnExactOrderOfAscent.j2 kj35 t1007 (bt1013.2.2 != t988) t993 t1008) else (laws_FnExactOrderOfAscent.j2 kj35 t1007 true t993 t1008)))) = some r := H
                      have A61 := Aside0.mk A610
                      clear A610
                      replace H := Option.bind_eq_some_iff.mp H
                      obtain ⟨⟨t1013, t1014, t1017⟩, A620, H⟩ := H
                      replace H : ((laws_eqOrder.f kj35 t1013 t1014 t984 t985).bind fun t1019 => (if t1019 = true then (laws_FnExactOrderOfAscent.j2 kj35 t1007 (t1017 != t988) t993 t1008) else (laws_FnExactOrderOfAscent.j2 kj35 t1007 true t993 t1008))) = some r := H
                      have A62 := Aside0.mk A620
                      clear A620
                      have HC63 := Aside0.mk H
                      clear H
                      have hnb64 := NB998_989.out
                      have hnc64 := NB989_998.out
                      have hcz65_0 : wc.cell? ⟨gb998, 0, none⟩ = some (.int .i64 t993) := (blk_cell BK998.out 0).trans rfl
                      have hcz65_1 : wc.cell? ⟨gb998, 1, none⟩ = some (.slice Ao20 t994.length co20) := (blk_cell BK998.out 1).trans rfl
                      have hfz65_0 := blk_frozen BK998.out 0
                      have hfz65_1 := blk_frozen BK998.out 1
                      go_upto_region 23 with (first | ((with_reducible refine gate_callee (f := 29) rfl ?_); refine goesL_ (some 61) rfl rfl Try.func29 (by kernel_rfl) rfl #[.agg #[.int .i64 t993, .slice Ao20 t994.length co20], .int .i64 1] rfl (by (try simp only [List.map_toArray, List.map_cons, List.map_nil]); first | done | rfl | (simp only [List.length_drop, List.length_take]; rfl)) ?_; (with_reducible refine (laws_markOrder.calls kj35 t993 (fun k_ => some k_ = (.slice Ao20 t994.length co20 : Value).ownBlock) (.slice Ao20 t994.length co20) t994 1 t1007 t1008 w _ ?side1 ?side2 A52.out).mono ?_); (case side1 => repeat (first | (with_reducible first | exact HB.out | apply below_alloc | apply pw_below_drewN | apply below_drew1 | refine below_set ?_ GE989.out | refine below_set ?_ GE998.out) | exact HB.out)); (case side2 => exact Kd.R_tight rfl HO_999001.out); rintro e w66 ⟨rfl, hy0, hb, hkp⟩; refine ⟨_, rfl, ?_⟩; have n0_ := Aside0.mk (Kd.R_mono (ok' := fun k_ => some k_ ≠ (.slice Ao20 t994.length co20 : Value).ownBlock) (Kd.R_keptB (HO_990001.out) hkp (fun k_ hk_ hs_ => (hk_) hs_)) (fun k_ hk_ => hk_.1)); have n1_ := Aside0.mk (Kd.R_reok rfl hy0 (fun k_ e_ => HO_999001.out.1 k_ e_)); have n2_ := Aside0.mk (blk_kept (by (with_reducible repeat (first | refine blk_drewN ?_ _ | refine blk_drew ?_ | refine blk_alloc ?_ _)); exact BK989.out) hkp (fun hs_ => (fun e_ => (Kd.R_ne HO_999001.out BK989.out (by decide)) e_) hs_)); have n3_ := Aside0.mk (blk_kept (by (with_reducible repeat (first | refine blk_drewN ?_ _ | refine blk_drew ?_ | refine blk_alloc ?_ _)); exact BK998.out) hkp (fun hs_ => (fun e_ => (Kd.R_ne HO_999001.out BK998.out (by decide)) e_) hs_)); have n4_ := Aside0.mk (hb); clear HO_990001; clear HO_999001; clear BK989; clear BK998; clear HB; have HO_990001 := n0_; have HO_999001 := n1_; have BK989 := n2_; have BK998 := n3_; have HB := n4_; clear n0_ n1_ n2_ n3_ n4_; (try clear hb); (try clear hkp); (try clear hy0); have hcz67_0 : w66.cell? ⟨gb998, 0, none⟩ = some (.int .i64 t993) := (blk_cell BK998.out 0).trans rfl; have hcz67_1 : w66.cell? ⟨gb998, 1, none⟩ = some (.slice Ao20 t994.length co20) := (blk_cell BK998.out 1).trans rfl; have hfz67_0 := blk_frozen BK998.out 0; have hfz67_1 := blk_frozen BK998.out 1) | ((with_reducible refine gate_callee (f := 30) rfl ?_); refine goesL_ (some 64) rfl rfl Try.func30 (by kernel_rfl) rfl #[.agg #[.int .i64 t993, .slice Ao20 t1008.length co20], .int .i64 1] rfl (by (try simp only [List.map_toArray, List.map_cons, List.map_nil]); first | done | (rw [show t1008.length = t994.length from (Kd.R_reads' HO_999001.out).1.symm] <;> rfl) | rfl | (simp only [List.length_drop, List.length_take]; rfl)) ?_; (with_reducible refine (laws_heldOrder.calls kj35 t993 _ _ t1008 1 t1009 _ ?side1 ?side2 A53.out).mono ?_); (case side1 => repeat (first | exact (Kd.R_reads' HO_999001.out).2.2 | (with_reducible refine Kd.C_alloc ?_ _) | (with_reducible refine Kd.C_drewN ?_ _) | (with_reducible refine Kd.C_drew ?_))); (case side2 => rw [show t1008.length = t994.length from (Kd.R_reads' HO_999001.out).1.symm]; exact (Kd.R_reads' HO_999001.out).2.1); rintro e w68 ⟨rfl, hb⟩; refine ⟨_, rfl, ?_⟩; have n0_ := Aside0.mk (Kd.R_below (by (with_reducible repeat (first | apply Kd.R_alloc | apply Kd.R_drewN | apply Kd.R_drew)); exact HO_990001.out) hb); have n1_ := Aside0.mk (Kd.R_below (by (with_reducible repeat (first | apply Kd.R_alloc | apply Kd.R_drewN | apply Kd.R_drew)); exact HO_999001.out) hb); have n2_ := Aside0.mk (blk_below (g := gb989) (o := .cells #[.int .i64 t984, .slice Ao13 t985.length co13] 34 (0, 0)) (by (with_reducible repeat (first | refine blk_drewN ?_ _ | refine blk_drew ?_ | refine blk_alloc ?_ _)); exact BK989.out) hb); have n3_ := Aside0.mk (blk_below (g := gb998) (o := .cells #[.int .i64 t993, .slice Ao20 t994.length co20] 34 (0, 0)) (by (with_reducible repeat (first | refine blk_drewN ?_ _ | refine blk_drew ?_ | refine blk_alloc ?_ _)); exact BK998.out) hb); have n4_ := Aside0.mk (below_step (by repeat (first | (with_reducible first | exact HB.out | apply below_alloc | apply pw_below_drewN | apply below_drew1 | refine below_set ?_ GE989.out | refine below_set ?_ GE998.out) | exact HB.out)) hb); clear HO_990001; clear HO_999001; clear BK989; clear BK998; clear HB; have HO_990001 := n0_; have HO_999001 := n1_; have BK989 := n2_; have BK998 := n3_; have HB := n4_; clear n0_ n1_ n2_ n3_ n4_; (try clear hb); (try clear hb2); (try clear hk); (try clear hi)) | ((with_reducible refine gate_callee (f := 15) rfl ?_); refine goesL_ (some 72) rfl rfl Try.func15 (by kernel_rfl) rfl #[.slice A0 l0.length c0] rfl (by (try simp only [List.map_toArray, List.map_cons, List.map_nil]); first | done | rfl | (simp only [List.length_drop, List.length_take]; rfl)) ?_; (with_reducible refine (laws_toIntS.calls kj35 _ _ l0 t1010 _ ?side1 ?side2 A61.out).mono ?_); (case side1 => repeat (first | exact (Kd.C_below HR0.out HB.out) | (with_reducible refine Kd.C_alloc ?_ _) | (with_reducible refine Kd.C_drewN ?_ _) | (with_reducible refine Kd.C_drew ?_))); (case side2 => exact HC0.out); rintro e w69 ⟨v1011, rfl, ho0, hb⟩; refine ⟨_, rfl, ?_⟩; have n0_ := Aside0.mk (Kd.R_elder' (by (with_reducible repeat (first | apply Kd.R_alloc | apply Kd.R_drewN | apply Kd.R_drew)); exact HO_990001.out) (Kd.R_base ho0) hb); have n1_ := Aside0.mk (Kd.R_elder' (by (with_reducible repeat (first | apply Kd.R_alloc | apply Kd.R_drewN | apply Kd.R_drew)); exact HO_999001.out) (Kd.R_base ho0) hb); have n2_ := Aside0.mk (Kd.R_lower (Kd.R_new' (Kd.R_new' ho0 (Kd.R_lt (by (with_reducible repeat (first | apply Kd.R_alloc | apply Kd.R_drewN | apply Kd.R_drew)); exact HO_990001.out))) (Kd.R_lt (by (with_reducible repeat (first | apply Kd.R_alloc | apply Kd.R_drewN | apply Kd.R_drew)); exact HO_999001.out))) (below_size (by repeat (first | (with_reducible first | exact HB.out | apply below_alloc | apply pw_below_drewN | apply below_drew1 | refine below_set ?_ GE989.out | refine below_set ?_ GE998.out) | exact HB.out)))); have n3_ := Aside0.mk (blk_below (g := gb989) (o := .cells #[.int .i64 t984, .slice Ao13 t985.length co13] 34 (0, 0)) (by (with_reducible repeat (first | refine blk_drewN ?_ _ | refine blk_drew ?_ | refine blk_alloc ?_ _)); exact BK989.out) hb); have n4_ := Aside0.mk (blk_below (g := gb998) (o := .cells #[.int .i64 t993, .slice Ao20 t994.length co20] 34 (0, 0)) (by (with_reducible repeat (first | refine blk_drewN ?_ _ | refine blk_drew ?_ | refine blk_alloc ?_ _)); exact BK998.out) hb); have n5_ := Aside0.mk (below_step (by repeat (first | (with_reducible first | exact HB.out | apply below_alloc | apply pw_below_drewN | apply below_drew1 | refine below_set ?_ GE989.out | refine below_set ?_ GE998.out) | exact HB.out)) hb); clear HO_990001; clear HO_999001; clear BK989; clear BK998; clear HB; have HO_990001 := n0_; have HO_999001 := n1_; have HO1012 := n2_; have BK989 := n3_; have BK998 := n4_; have HB := n5_; clear n0_ n1_ n2_ n3_ n4_ n5_; (try clear hb); (try clear hb2); (try clear hk); (try clear hi); (try clear ho0); obtain ⟨Ao70, co70, eo70⟩ := Kd.R_slice HO1012.out; subst eo70) | ((with_reducible refine gate_callee (f := 49) rfl ?_); refine goesL_ (some 73) rfl rfl Try.func49 (by kernel_rfl) rfl #[.slice Ao70 t1010.length co70] rfl (by (try simp only [List.map_toArray, List.map_cons, List.map_nil]); first | done | rfl | (simp only [List.length_drop, List.length_take]; rfl)) ?_; (with_reducible refine (impl_OrderOfAscent.calls kj35 _ _ t1010 t1013 t1014 t1017 _ ?side1 ?side2 A62.out).mono ?_); (case side1 => repeat (first | exact (Kd.R_reads' HO1012.out).2.2 | (with_reducible refine Kd.C_alloc ?_ _) | (with_reducible refine Kd.C_drewN ?_ _) | (with_reducible refine Kd.C_drew ?_))); (case side2 => exact (Kd.R_reads' HO1012.out).2.1); rintro e w71 ⟨v1015, rfl, ho0, hb⟩; refine ⟨_, rfl, ?_⟩; have n0_ := Aside0.mk (Kd.R_elder' (by (with_reducible repeat (first | apply Kd.R_alloc | apply Kd.R_drewN | apply Kd.R_drew)); exact HO_990001.out) (Kd.R_base ho0) hb); have n1_ := Aside0.mk (Kd.R_elder' (by (with_reducible repeat (first | apply Kd.R_alloc | apply Kd.R_drewN | apply Kd.R_drew)); exact HO_999001.out) (Kd.R_base ho0) hb); have n2_ := Aside0.mk (Kd.R_elder' (by (with_reducible repeat (first | apply Kd.R_alloc | apply Kd.R_drewN | apply Kd.R_drew)); exact HO1012.out) (Kd.R_base ho0) hb); have n3_ := Aside0.mk (Kd.R_lower (Kd.R_new' (Kd.R_new' (Kd.R_new' ho0 (Kd.R_lt (by (with_reducible repeat (first | apply Kd.R_alloc | apply Kd.R_drewN | apply Kd.R_drew)); exact HO_990001.out))) (Kd.R_lt (by (with_reducible repeat (first | apply Kd.R_alloc | apply Kd.R_drewN | apply Kd.R_drew)); exact HO_999001.out))) (Kd.R_lt (by (with_reducible repeat (first | apply Kd.R_alloc | apply Kd.R_drewN | apply Kd.R_drew)); exact HO1012.out))) (below_size (by repeat (first | (with_reducible first | exact HB.out | apply below_alloc | apply pw_below_drewN | apply below_drew1 | refine below_set ?_ GE989.out | refine below_set ?_ GE998.out) | exact HB.out)))); have n4_ := Aside0.mk (blk_below (g := gb989) (o := .cells #[.int .i64 t984, .slice Ao13 t985.length co13] 34 (0, 0)) (by (with_reducible repeat (first | refine blk_drewN ?_ _ | refine blk_drew ?_ | refine blk_alloc ?_ _)); exact BK989.out) hb); have n5_ := Aside0.mk (blk_below (g := gb998) (o := .cells #[.int .i64 t993, .slice Ao20 t994.length co20] 34 (0, 0)) (by (with_reducible repeat (first | refine blk_drewN ?_ _ | refine blk_drew ?_ | refine blk_alloc ?_ _)); exact BK998.out) hb); have n6_ := Aside0.mk (below_step (by repeat (first | (with_reducible first | exact HB.out | apply below_alloc | apply pw_below_drewN | apply below_drew1 | refine below_set ?_ GE989.out | refine below_set ?_ GE998.out) | exact HB.out)) hb); clear HO_990001; clear HO_999001; clear HO1012; clear BK989; clear BK998; clear HB; have HO_990001 := n0_; have HO_999001 := n1_; have HO1012 := n2_; have HO1016 := n3_; have BK989 := n4_; have BK998 := n5_; have HB := n6_; clear n0_ n1_ n2_ n3_ n4_ n5_ n6_; (try clear hb); (try clear hb2); (try clear hk); (try clear hi); (try clear ho0)) | ((with_reducible refine gate_dst (N := 11) rfl ?_); refine box_event ?hg (N := 11) ?hd (cs := #[.int .i64 0, .slice none 0 0]) (t := 34) ?hr ?_; (case hd => rfl); (case hg => rfl); (case hr => first | (go_simp; done) | (go_simp; rfl)); intro gb1018 hg w72 hbox hb; have n0_ := Aside0.mk (Kd.R_below (by (with_reducible repeat (first | apply Kd.R_alloc | apply Kd.R_drewN | apply Kd.R_drew)); exact HO_990001.out) hb); have n1_ := Aside0.mk (Kd.R_below (by (with_reducible repeat (first | apply Kd.R_alloc | apply Kd.R_drewN | apply Kd.R_drew)); exact HO_999001.out) hb); have n2_ := Aside0.mk (Kd.R_below (by (with_reducible repeat (first | apply Kd.R_alloc | apply Kd.R_drewN | apply Kd.R_drew)); exact HO1012.out) hb); have n3_ := Aside0.mk (Kd.R_below (by (with_reducible repeat (first | apply Kd.R_alloc | apply Kd.R_drewN | apply Kd.R_drew)); exact HO1016.out) hb); have n4_ := Aside0.mk (blk_below (g := gb989) (o := .cells #[.int .i64 t984, .slice Ao13 t985.length co13] 34 (0, 0)) (by (with_reducible repeat (first | refine blk_drewN ?_ _ | refine blk_drew ?_ | refine blk_alloc ?_ _)); exact BK989.out) hb); have n5_ := Aside0.mk (blk_below (g := gb998) (o := .cells #[.int .i64 t993, .slice Ao20 t994.length co20] 34 (0, 0)) (by (with_reducible repeat (first | refine blk_drewN ?_ _ | refine blk_drew ?_ | refine blk_alloc ?_ _)); exact BK998.out) hb); have n6_ := Aside0.mk (below_step (by repeat (first | (with_reducible first | exact HB.out | apply below_alloc | apply pw_below_drewN | apply below_drew1 | refine below_set ?_ GE989.out | refine below_set ?_ GE998.out) | exact HB.out)) hb); have n7_ := Aside0.mk (hbox); have n8_ := Aside0.mk ((by rw [hg]; exact (below_size (by repeat (first | (with_reducible first | exact HB.out | apply below_alloc | apply pw_below_drewN | apply below_drew1 | refine below_set ?_ GE989.out | refine below_set ?_ GE998.out) | exact HB.out))) : w.heap.size ≤ gb1018)); have n9_ := Aside0.mk ((by rw [hg]; exact (below_size (by repeat (first | (with_reducible first | exact HB.out | apply below_alloc | apply pw_below_drewN | apply below_drew1 | refine below_set ?_ GE989.out | refine below_set ?_ GE998.out) | exact HB.out))) : w.heap.size ≤ gb1018)); have n10_ := Aside0.mk ((by rw [hg]; exact Nat.ne_of_lt (blk_lt (g := gb989) (o := .cells #[.int .i64 t984, .slice Ao13 t985.length co13] 34 (0, 0)) (by (with_reducible repeat (first | refine blk_drewN ?_ _ | refine blk_drew ?_ | refine blk_alloc ?_ _)); exact BK989.out)) : gb989 ≠ gb1018)); have n11_ := Aside0.mk ((by rw [hg]; exact Nat.ne_of_gt (blk_lt (g := gb989) (o := .cells #[.int .i64 t984, .slice Ao13 t985.length co13] 34 (0, 0)) (by (with_reducible repeat (first | refine blk_drewN ?_ _ | refine blk_drew ?_ | refine blk_alloc ?_ _)); exact BK989.out)) : gb1018 ≠ gb989)); have n12_ := Aside0.mk ((by rw [hg]; exact Nat.ne_of_lt (blk_lt (g := gb998) (o := .cells #[.int .i64 t993, .slice Ao20 t994.length co20] 34 (0, 0)) (by (with_reducible repeat (first | refine blk_drewN ?_ _ | refine blk_drew ?_ | refine blk_alloc ?_ _)); exact BK998.out)) : gb998 ≠ gb1018)); have n13_ := Aside0.mk ((by rw [hg]; exact Nat.ne_of_gt (blk_lt (g := gb998) (o := .cells #[.int .i64 t993, .slice Ao20 t994.length co20] 34 (0, 0)) (by (with_reducible repeat (first | refine blk_drewN ?_ _ | refine blk_drew ?_ | refine blk_alloc ?_ _)); exact BK998.out)) : gb1018 ≠ gb998)); clear HO_990001; clear HO_999001; clear HO1012; clear HO1016; clear BK989; clear BK998; clear HB; have HO_990001 := n0_; have HO_999001 := n1_; have HO1012 := n2_; have HO1016 := n3_; have BK989 := n4_; have BK998 := n5_; have HB := n6_; have BK1018 := n7_; have GW1018 := n8_; have GE1018 := n9_; have NB989_1018 := n10_; have NB1018_989 := n11_; have NB998_1018 := n12_; have NB1018_998 := n13_; clear n0_ n1_ n2_ n3_ n4_ n5_ n6_ n7_ n8_ n9_ n10_ n11_ n12_ n13_; clear hb hbox hg; have hnb73 := NB1018_989.out; have hnc73 := NB989_1018.out; have hnb74 := NB1018_998.out; have hnc74 := NB998_1018.out; have hcz75_0 : w72.cell? ⟨gb1018, 0, none⟩ = some (.int .i64 0) := (blk_cell BK1018.out 0).trans rfl; have hcz75_1 : w72.cell? ⟨gb1018, 1, none⟩ = some (.slice none 0 0) := (blk_cell BK1018.out 1).trans rfl; have hfz75_0 := blk_frozen BK1018.out 0; have hfz75_1 := blk_frozen BK1018.out 1; obtain ⟨Ao76, co76, eo76⟩ := Kd.R_slice HO1016.out; subst eo76))
                      (try simp only [Act.put, List.setIfInBounds_toArray, List.set_cons_zero, List.set_cons_succ])
                      go_cut [84] (fun v84 wc => ∃ (kq : Nat) (x84_62 : Bool), v84 = .bool x84_62 ∧ Aside0 (laws_FnExactOrderOfAscent.j2 kq t1007 x84_62 t993 t1008 = some r) ∧ Aside0 (kq ≤ kj35) ∧ Aside0 (Kd.R (Kd.int .i64) 3 wc w.heap.size (fun _ => True) (.slice Ao20 t994.length co20) t1008) ∧ Aside0 (wc.heap[gb998]? = some (.cells #[.int .i64 t993, (.slice Ao20 t994.length co20)] 34 (0, 0))) ∧ Aside0 (Below w.heap.size w wc))
                      case first =>
                        have H := HC63.out
                        clear HC63
                        replace H := Option.bind_eq_some_iff.mp H
                        obtain ⟨t1019, A770, H⟩ := H
                        replace H : (if t1019 = true then (laws_FnExactOrderOfAscent.j2 kj35 t1007 (t1017 != t988) t993 t1008) else (laws_FnExactOrderOfAscent.j2 kj35 t1007 true t993 t1008)) = some r := H
                        have A77 := Aside0.mk A770
                        clear A770
                        by_cases c78 : t1019 = true
                        · subst c78
                          have H1 : (laws_FnExactOrderOfAscent.j2 kj35 t1007 (t1017 != t988) t993 t1008) = some r := by rw [if_pos rfl] at H; exact H
                          clear H
                          have H := H1
                          clear H1
                          have H' := Aside0.mk H
                          clear H
                          have hnb79 := NB1018_989.out
                          have hnc79 := NB989_1018.out
                          have hnb80 := NB1018_998.out
                          have hnc80 := NB998_1018.out
                          have hcz81_0 : w72.cell? ⟨gb1018, 0, none⟩ = some (.int .i64 0) := (blk_cell BK1018.out 0).trans rfl
                          have hcz81_1 : w72.cell? ⟨gb1018, 1, none⟩ = some (.slice none 0 0) := (blk_cell BK1018.out 1).trans rfl
                          have hfz81_0 := blk_frozen BK1018.out 0
                          have hfz81_1 := blk_frozen BK1018.out 1
                          have hnb82 := NB989_998.out
                          have hnc82 := NB998_989.out
                          have hcz83_0 : w72.cell? ⟨gb989, 0, none⟩ = some (.int .i64 t984) := (blk_cell BK989.out 0).trans rfl
                          have hcz83_1 : w72.cell? ⟨gb989, 1, none⟩ = some (.slice Ao13 t985.length co13) := (blk_cell BK989.out 1).trans rfl
                          have hfz83_0 := blk_frozen BK989.out 0
                          have hfz83_1 := blk_frozen BK989.out 1
                          go_wp2_with (first | ((with_reducible refine gate_callee (f := 28) rfl ?_); refine goesL_ (some 78) rfl rfl Try.func28 (by kernel_rfl) rfl #[.agg #[.int .i64 t1013, .slice Ao76 t1014.length co76], .agg #[.int .i64 t984, .slice Ao13 t985.length co13]] rfl (by (try simp only [List.map_toArray, List.map_cons, List.map_nil]); first | done | rfl | (simp only [List.length_drop, List.length_take]; rfl)) ?_; (with_reducible refine (laws_eqOrder.calls kj35 t1013 _ _ t1014 t984 _ _ t985 true _ ?side1 ?side2 ?side3 ?side4 A77.out).mono ?_); (case side1 => refine (Kd.R_reads' (e := 3) (base := w.heap.size) (ok := fun k_ => (((True ∧ some k_ ≠ (.slice Ao13 t985.length co13 : Value).ownBlock) ∧ some k_ ≠ (.slice Ao20 t994.length co20 : Value).ownBlock) ∧ some k_ ≠ (.slice Ao70 t1010.length co70 : Value).ownBlock)) (n := t1014.length) (c := co76) ?_).2.2; exact (by (with_reducible repeat (first | apply Kd.R_alloc | apply Kd.R_drewN | apply Kd.R_drew)); exact (Kd.R_mono (Kd.R_far (p := ⟨gb1018, 1, none⟩) (Kd.R_far (p := ⟨gb1018, 0, none⟩) (Kd.R_types HO1016.out BK1018.out (by decide)) (fun _ hk => hk.2) (.int .i64 t1013)) (fun _ hk => hk.2) (.slice Ao76 t1014.length co76)) (fun _ h_ => h_.1)))); (case side2 => exact (Kd.R_reads' HO1016.out).2.1); (case side3 => refine (Kd.R_reads' (e := 3) (base := w.heap.size) (ok := fun k_ => ((some k_ ≠ (.slice Ao20 t994.length co20 : Value).ownBlock ∧ some k_ ≠ (.slice Ao70 t1010.length co70 : Value).ownBlock) ∧ some k_ ≠ (.slice Ao76 t1014.length co76 : Value).ownBlock)) (n := t985.length) (c := co13) ?_).2.2; exact (by (with_reducible repeat (first | apply Kd.R_alloc | apply Kd.R_drewN | apply Kd.R_drew)); exact (Kd.R_mono (Kd.R_far (p := ⟨gb1018, 1, none⟩) (Kd.R_far (p := ⟨gb1018, 0, none⟩) (Kd.R_types HO_990001.out BK1018.out (by decide)) (fun _ hk => hk.2) (.int .i64 t1013)) (fun _ hk => hk.2) (.slice Ao76 t1014.length co76)) (fun _ h_ => h_.1)))); (case side4 => exact (Kd.R_reads' HO_990001.out).2.1); rintro e w84 ⟨rfl, hb⟩; refine ⟨_, rfl, ?_⟩; have n0_ := Aside0.mk (Kd.R_below (by (with_reducible repeat (first | apply Kd.R_alloc | apply Kd.R_drewN | apply Kd.R_drew)); exact (Kd.R_mono (Kd.R_far (p := ⟨gb1018, 1, none⟩) (Kd.R_far (p := ⟨gb1018, 0, none⟩) (Kd.R_types HO_990001.out BK1018.out (by decide)) (fun _ hk => hk.2) (.int .i64 t1013)) (fun _ hk => hk.2) (.slice Ao76 t1014.length co76)) (fun _ h_ => h_.1))) hb); have n1_ := Aside0.mk (Kd.R_below (by (with_reducible repeat (first | apply Kd.R_alloc | apply Kd.R_drewN | apply Kd.R_drew)); exact (Kd.R_mono (Kd.R_far (p := ⟨gb1018, 1, none⟩) (Kd.R_far (p := ⟨gb1018, 0, none⟩) (Kd.R_types HO_999001.out BK1018.out (by decide)) (fun _ hk => hk.2) (.int .i64 t1013)) (fun _ hk => hk.2) (.slice Ao76 t1014.length co76)) (fun _ h_ => h_.1))) hb); have n2_ := Aside0.mk (Kd.R_below (by (with_reducible repeat (first | apply Kd.R_alloc | apply Kd.R_drewN | apply Kd.R_drew)); exact (Kd.R_mono (Kd.R_far (p := ⟨gb1018, 1, none⟩) (Kd.R_far (p := ⟨gb1018, 0, none⟩) (Kd.R_types HO1012.out BK1018.out (by decide)) (fun _ hk => hk.2) (.int .i64 t1013)) (fun _ hk => hk.2) (.slice Ao76 t1014.length co76)) (fun _ h_ => h_.1))) hb); have n3_ := Aside0.mk (Kd.R_below (by (with_reducible repeat (first | apply Kd.R_alloc | apply Kd.R_drewN | apply Kd.R_drew)); exact (Kd.R_mono (Kd.R_far (p := ⟨gb1018, 1, none⟩) (Kd.R_far (p := ⟨gb1018, 0, none⟩) (Kd.R_types HO1016.out BK1018.out (by decide)) (fun _ hk => hk.2) (.int .i64 t1013)) (fun _ hk => hk.2) (.slice Ao76 t1014.length co76)) (fun _ h_ => h_.1))) hb); have n4_ := Aside0.mk (blk_below (g := gb989) (o := .cells #[.int .i64 t984, .slice Ao13 t985.length co13] 34 (0, 0)) (by (with_reducible repeat (first | refine blk_drewN ?_ _ | refine blk_drew ?_ | refine blk_alloc ?_ _)); refine blk_far ?_ NB989_1018.out _; (with_reducible repeat (first | refine blk_drewN ?_ _ | refine blk_drew ?_ | refine blk_alloc ?_ _)); refine blk_far ?_ NB989_1018.out _; (with_reducible repeat (first | refine blk_drewN ?_ _ | refine blk_drew ?_ | refine blk_alloc ?_ _)); exact BK989.out) hb); have n5_ := Aside0.mk (blk_below (g := gb998) (o := .cells #[.int .i64 t993, .slice Ao20 t994.length co20] 34 (0, 0)) (by (with_reducible repeat (first | refine blk_drewN ?_ _ | refine blk_drew ?_ | refine blk_alloc ?_ _)); refine blk_far ?_ NB998_1018.out _; (with_reducible repeat (first | refine blk_drewN ?_ _ | refine blk_drew ?_ | refine blk_alloc ?_ _)); refine blk_far ?_ NB998_1018.out _; (with_reducible repeat (first | refine blk_drewN ?_ _ | refine blk_drew ?_ | refine blk_alloc ?_ _)); exact BK998.out) hb); have n6_ := Aside0.mk (blk_below (g := gb1018) (o := .cells #[.int .i64 t1013, .slice Ao76 t1014.length co76] 34 (0, 0)) (by (with_reducible repeat (first | refine blk_drewN ?_ _ | refine blk_drew ?_ | refine blk_alloc ?_ _)); refine blk_put (cs := #[.int .i64 t1013, .slice none 0 0]) ?_ 1 _ rfl; (with_reducible repeat (first | refine blk_drewN ?_ _ | refine blk_drew ?_ | refine blk_alloc ?_ _)); refine blk_put (cs := #[.int .i64 0, .slice none 0 0]) ?_ 0 _ rfl; (with_reducible repeat (first | refine blk_drewN ?_ _ | refine blk_drew ?_ | refine blk_alloc ?_ _)); exact BK1018.out) hb); have n7_ := Aside0.mk (below_step (by repeat (first | (with_reducible first | exact HB.out | apply below_alloc | apply pw_below_drewN | apply below_drew1 | refine below_set ?_ GE989.out | refine below_set ?_ GE998.out | refine below_set ?_ GE1018.out) | exact HB.out)) hb); clear HO_990001; clear HO_999001; clear HO1012; clear HO1016; clear BK989; clear BK998; clear BK1018; clear HB; have HO_990001 := n0_; have HO_999001 := n1_; have HO1012 := n2_; have HO1016 := n3_; have BK989 := n4_; have BK998 := n5_; have BK1018 := n6_; have HB := n7_; clear n0_ n1_ n2_ n3_ n4_ n5_ n6_ n7_; (try clear hb); (try clear hb2); (try clear hk); (try clear hi)))
                          go_meet
                          case rel => exact ⟨_, ((t1017 != t988)), (by first | rfl | (simp; done) | (simp [*]; done)), H', ⟨by have := HJ6.out; have := HJ35.out; first | omega | exact Nat.le_refl _⟩, ⟨by (with_reducible repeat (first | apply Kd.R_alloc | apply Kd.R_drewN | apply Kd.R_drew)); exact Kd.R_mono HO_999001.out (fun _ hk => trivial)⟩, ⟨by (with_reducible repeat (first | refine blk_drewN ?_ _ | refine blk_drew ?_ | refine blk_alloc ?_ _)); exact BK998.out⟩, ⟨by repeat (first | (with_reducible first | exact HB.out | apply below_alloc | apply pw_below_drewN | apply below_drew1 | refine below_set ?_ GE989.out | refine below_set ?_ GE998.out | refine below_set ?_ GE1018.out) | exact HB.out)⟩⟩
                        · replace c78 := Bool.eq_false_iff.mpr c78
                          subst c78
                          have H1 : (laws_FnExactOrderOfAscent.j2 kj35 t1007 true t993 t1008) = some r := by rw [if_neg (show ¬ (false = true) by decide)] at H; exact H
                          clear H
                          have H := H1
                          clear H1
                          have H' := Aside0.mk H
                          clear H
                          have hnb85 := NB1018_989.out
                          have hnc85 := NB989_1018.out
                          have hnb86 := NB1018_998.out
                          have hnc86 := NB998_1018.out
                          have hcz87_0 : w72.cell? ⟨gb1018, 0, none⟩ = some (.int .i64 0) := (blk_cell BK1018.out 0).trans rfl
                          have hcz87_1 : w72.cell? ⟨gb1018, 1, none⟩ = some (.slice none 0 0) := (blk_cell BK1018.out 1).trans rfl
                          have hfz87_0 := blk_frozen BK1018.out 0
                          have hfz87_1 := blk_frozen BK1018.out 1
                          have hnb88 := NB989_998.out
                          have hnc88 := NB998_989.out
                          have hcz89_0 : w72.cell? ⟨gb989, 0, none⟩ = some (.int .i64 t984) := (blk_cell BK989.out 0).trans rfl
                          have hcz89_1 : w72.cell? ⟨gb989, 1, none⟩ = some (.slice Ao13 t985.length co13) := (blk_cell BK989.out 1).trans rfl
                          have hfz89_0 := blk_frozen BK989.out 0
                          have hfz89_1 := blk_frozen BK989.out 1
                          go_wp2_with (first | ((with_reducible refine gate_callee (f := 28) rfl ?_); refine goesL_ (some 78) rfl rfl Try.func28 (by kernel_rfl) rfl #[.agg #[.int .i64 t1013, .slice Ao76 t1014.length co76], .agg #[.int .i64 t984, .slice Ao13 t985.length co13]] rfl (by (try simp only [List.map_toArray, List.map_cons, List.map_nil]); first | done | rfl | (simp only [List.length_drop, List.length_take]; rfl)) ?_; (with_reducible refine (laws_eqOrder.calls kj35 t1013 _ _ t1014 t984 _ _ t985 false _ ?side1 ?side2 ?side3 ?side4 A77.out).mono ?_); (case side1 => refine (Kd.R_reads' (e := 3) (base := w.heap.size) (ok := fun k_ => (((True ∧ some k_ ≠ (.slice Ao13 t985.length co13 : Value).ownBlock) ∧ some k_ ≠ (.slice Ao20 t994.length co20 : Value).ownBlock) ∧ some k_ ≠ (.slice Ao70 t1010.length co70 : Value).ownBlock)) (n := t1014.length) (c := co76) ?_).2.2; exact (by (with_reducible repeat (first | apply Kd.R_alloc | apply Kd.R_drewN | apply Kd.R_drew)); exact (Kd.R_mono (Kd.R_far (p := ⟨gb1018, 1, none⟩) (Kd.R_far (p := ⟨gb1018, 0, none⟩) (Kd.R_types HO1016.out BK1018.out (by decide)) (fun _ hk => hk.2) (.int .i64 t1013)) (fun _ hk => hk.2) (.slice Ao76 t1014.length co76)) (fun _ h_ => h_.1)))); (case side2 => exact (Kd.R_reads' HO1016.out).2.1); (case side3 => refine (Kd.R_reads' (e := 3) (base := w.heap.size) (ok := fun k_ => ((some k_ ≠ (.slice Ao20 t994.length co20 : Value).ownBlock ∧ some k_ ≠ (.slice Ao70 t1010.length co70 : Value).ownBlock) ∧ some k_ ≠ (.slice Ao76 t1014.length co76 : Value).ownBlock)) (n := t985.length) (c := co13) ?_).2.2; exact (by (with_reducible repeat (first | apply Kd.R_alloc | apply Kd.R_drewN | apply Kd.R_drew)); exact (Kd.R_mono (Kd.R_far (p := ⟨gb1018, 1, none⟩) (Kd.R_far (p := ⟨gb1018, 0, none⟩) (Kd.R_types HO_990001.out BK1018.out (by decide)) (fun _ hk => hk.2) (.int .i64 t1013)) (fun _ hk => hk.2) (.slice Ao76 t1014.length co76)) (fun _ h_ => h_.1)))); (case side4 => exact (Kd.R_reads' HO_990001.out).2.1); rintro e w90 ⟨rfl, hb⟩; refine ⟨_, rfl, ?_⟩; have n0_ := Aside0.mk (Kd.R_below (by (with_reducible repeat (first | apply Kd.R_alloc | apply Kd.R_drewN | apply Kd.R_drew)); exact (Kd.R_mono (Kd.R_far (p := ⟨gb1018, 1, none⟩) (Kd.R_far (p := ⟨gb1018, 0, none⟩) (Kd.R_types HO_990001.out BK1018.out (by decide)) (fun _ hk => hk.2) (.int .i64 t1013)) (fun _ hk => hk.2) (.slice Ao76 t1014.length co76)) (fun _ h_ => h_.1))) hb); have n1_ := Aside0.mk (Kd.R_below (by (with_reducible repeat (first | apply Kd.R_alloc | apply Kd.R_drewN | apply Kd.R_drew)); exact (Kd.R_mono (Kd.R_far (p := ⟨gb1018, 1, none⟩) (Kd.R_far (p := ⟨gb1018, 0, none⟩) (Kd.R_types HO_999001.out BK1018.out (by decide)) (fun _ hk => hk.2) (.int .i64 t1013)) (fun _ hk => hk.2) (.slice Ao76 t1014.length co76)) (fun _ h_ => h_.1))) hb); have n2_ := Aside0.mk (Kd.R_below (by (with_reducible repeat (first | apply Kd.R_alloc | apply Kd.R_drewN | apply Kd.R_drew)); exact (Kd.R_mono (Kd.R_far (p := ⟨gb1018, 1, none⟩) (Kd.R_far (p := ⟨gb1018, 0, none⟩) (Kd.R_types HO1012.out BK1018.out (by decide)) (fun _ hk => hk.2) (.int .i64 t1013)) (fun _ hk => hk.2) (.slice Ao76 t1014.length co76)) (fun _ h_ => h_.1))) hb); have n3_ := Aside0.mk (Kd.R_below (by (with_reducible repeat (first | apply Kd.R_alloc | apply Kd.R_drewN | apply Kd.R_drew)); exact (Kd.R_mono (Kd.R_far (p := ⟨gb1018, 1, none⟩) (Kd.R_far (p := ⟨gb1018, 0, none⟩) (Kd.R_types HO1016.out BK1018.out (by decide)) (fun _ hk => hk.2) (.int .i64 t1013)) (fun _ hk => hk.2) (.slice Ao76 t1014.length co76)) (fun _ h_ => h_.1))) hb); have n4_ := Aside0.mk (blk_below (g := gb989) (o := .cells #[.int .i64 t984, .slice Ao13 t985.length co13] 34 (0, 0)) (by (with_reducible repeat (first | refine blk_drewN ?_ _ | refine blk_drew ?_ | refine blk_alloc ?_ _)); refine blk_far ?_ NB989_1018.out _; (with_reducible repeat (first | refine blk_drewN ?_ _ | refine blk_drew ?_ | refine blk_alloc ?_ _)); refine blk_far ?_ NB989_1018.out _; (with_reducible repeat (first | refine blk_drewN ?_ _ | refine blk_drew ?_ | refine blk_alloc ?_ _)); exact BK989.out) hb); have n5_ := Aside0.mk (blk_below (g := gb998) (o := .cells #[.int .i64 t993, .slice Ao20 t994.length co20] 34 (0, 0)) (by (with_reducible repeat (first | refine blk_drewN ?_ _ | refine blk_drew ?_ | refine blk_alloc ?_ _)); refine blk_far ?_ NB998_1018.out _; (with_reducible repeat (first | refine blk_drewN ?_ _ | refine blk_drew ?_ | refine blk_alloc ?_ _)); refine blk_far ?_ NB998_1018.out _; (with_reducible repeat (first | refine blk_drewN ?_ _ | refine blk_drew ?_ | refine blk_alloc ?_ _)); exact BK998.out) hb); have n6_ := Aside0.mk (blk_below (g := gb1018) (o := .cells #[.int .i64 t1013, .slice Ao76 t1014.length co76] 34 (0, 0)) (by (with_reducible repeat (first | refine blk_drewN ?_ _ | refine blk_drew ?_ | refine blk_alloc ?_ _)); refine blk_put (cs := #[.int .i64 t1013, .slice none 0 0]) ?_ 1 _ rfl; (with_reducible repeat (first | refine blk_drewN ?_ _ | refine blk_drew ?_ | refine blk_alloc ?_ _)); refine blk_put (cs := #[.int .i64 0, .slice none 0 0]) ?_ 0 _ rfl; (with_reducible repeat (first | refine blk_drewN ?_ _ | refine blk_drew ?_ | refine blk_alloc ?_ _)); exact BK1018.out) hb); have n7_ := Aside0.mk (below_step (by repeat (first | (with_reducible first | exact HB.out | apply below_alloc | apply pw_below_drewN | apply below_drew1 | refine below_set ?_ GE989.out | refine below_set ?_ GE998.out | refine below_set ?_ GE1018.out) | exact HB.out)) hb); clear HO_990001; clear HO_999001; clear HO1012; clear HO1016; clear BK989; clear BK998; clear BK1018; clear HB; have HO_990001 := n0_; have HO_999001 := n1_; have HO1012 := n2_; have HO1016 := n3_; have BK989 := n4_; have BK998 := n5_; have BK1018 := n6_; have HB := n7_; clear n0_ n1_ n2_ n3_ n4_ n5_ n6_ n7_; (try clear hb); (try clear hb2); (try clear hk); (try clear hi)))
                          go_meet
                          case rel => exact ⟨_, (true), (by first | rfl | (simp; done) | (simp [*]; done)), H', ⟨by have := HJ6.out; have := HJ35.out; first | omega | exact Nat.le_refl _⟩, ⟨by (with_reducible repeat (first | apply Kd.R_alloc | apply Kd.R_drewN | apply Kd.R_drew)); exact Kd.R_mono HO_999001.out (fun _ hk => trivial)⟩, ⟨by (with_reducible repeat (first | refine blk_drewN ?_ _ | refine blk_drew ?_ | refine blk_alloc ?_ _)); exact BK998.out⟩, ⟨by repeat (first | (with_reducible first | exact HB.out | apply below_alloc | apply pw_below_drewN | apply below_drew1 | refine below_set ?_ GE989.out | refine below_set ?_ GE998.out | refine below_set ?_ GE1018.out) | exact HB.out)⟩⟩
                      case rest =>
                        clear HC63
                        try clear c1
                        try clear c2
                        try clear c2b0
                        try clear c2b1
                        try clear p2
                        try clear c3
                        try clear c4
                        try clear c5
                        try clear c6
                        try clear c7
                        try clear c8
                        try clear c13
                        try clear c15
                        try clear c17
                        try clear c18
                        try clear c22
                        try clear c23
                        try clear c27
                        try clear c28
                        try clear c29
                        try clear c30
                        try clear c31
                        try clear c34
                        try clear c40
                        try clear c40b0
                        try clear c42
                        try clear c43
                        try clear c47
                        try clear c48
                        try clear c49
                        try clear c51
                        try clear c54
                        try clear c54b0
                        try clear c55
                        try clear c60
                        try clear c60b0
                        try clear c60b1
                        try clear c64
                        try clear c73
                        try clear c74
                        try clear c78
                        try clear c79
                        try clear c80
                        try clear c82
                        try clear c85
                        try clear c86
                        try clear c88
                        try clear hcz12_0
                        try clear hcz12_1
                        try clear hcz19_0
                        try clear hcz19_1
                        try clear hcz24_0
                        try clear hcz24_1
                        try clear hcz25_0
                        try clear hcz25_1
                        try clear hcz28_0
                        try clear hcz28_1
                        try clear hcz29_0
                        try clear hcz29_1
                        try clear hcz44_0
                        try clear hcz44_1
                        try clear hcz45_0
                        try clear hcz45_1
                        try clear hcz48_0
                        try clear hcz48_1
                        try clear hcz49_0
                        try clear hcz49_1
                        try clear hcz56_0
                        try clear hcz56_1
                        try clear hcz58_0
                        try clear hcz58_1
                        try clear hcz65_0
                        try clear hcz65_1
                        try clear hcz67_0
                        try clear hcz67_1
                        try clear hcz75_0
                        try clear hcz75_1
                        try clear hcz81_0
                        try clear hcz81_1
                        try clear hcz83_0
                        try clear hcz83_1
                        try clear hcz87_0
                        try clear hcz87_1
                        try clear hcz89_0
                        try clear hcz89_1
                        try clear hfz12_0
                        try clear hfz12_1
                        try clear hfz19_0
                        try clear hfz19_1
                        try clear hfz24_0
                        try clear hfz24_1
                        try clear hfz25_0
                        try clear hfz25_1
                        try clear hfz28_0
                        try clear hfz28_1
                        try clear hfz29_0
                        try clear hfz29_1
                        try clear hfz44_0
                        try clear hfz44_1
                        try clear hfz45_0
                        try clear hfz45_1
                        try clear hfz48_0
                        try clear hfz48_1
                        try clear hfz49_0
                        try clear hfz49_1
                        try clear hfz56_0
                        try clear hfz56_1
                        try clear hfz58_0
                        try clear hfz58_1
                        try clear hfz65_0
                        try clear hfz65_1
                        try clear hfz67_0
                        try clear hfz67_1
                        try clear hfz75_0
                        try clear hfz75_1
                        try clear hfz81_0
                        try clear hfz81_1
                        try clear hfz83_0
                        try clear hfz83_1
                        try clear hfz87_0
                        try clear hfz87_1
                        try clear hfz89_0
                        try clear hfz89_1
                        try clear p2
                        obtain ⟨kq, x84_62, rfl, HA, HJ62, HO_999001, BK998, HB⟩ := hcut
                        have hl999001_62 := (Kd.R_reads' HO_999001.out).1
                        rw [hl999001_62] at HO_999001
                        (try simp only [hl999001_62])
                        (try simp only [hl999001_62] at BK998)
                        cases kq with
                        | zero => exact absurd HA.out (by simp [laws_FnExactOrderOfAscent.j2])
                        | succ kj62 =>
                          have H := HA.out
                          clear HA
                          simp only [laws_FnExactOrderOfAscent.j2] at H
                          by_cases c91 : x84_62 = true
                          · subst c91
                            have H1 : (some false) = some r := by rw [if_pos rfl] at H; exact H
                            clear H
                            have H := H1
                            clear H1
                            obtain rfl := Option.some.inj H
                            go_wp2
                            go_ret
                            exact ⟨by first | rfl | (simp [errW_none, errW_some] <;> rfl) | (simp [*, errW_none, errW_some] <;> rfl), by repeat (first | (with_reducible first | exact HB.out | apply below_alloc | apply pw_below_drewN | apply below_drew1 | refine below_set ?_ GE998.out) | exact HB.out)⟩
                          · replace c91 := Bool.eq_false_iff.mpr c91
                            subst c91
                            have H1 : ((laws_heldOrder.f kj62 t993 t1008 1).bind fun t1020 => (if t1020 < 0 then (some false) else (if t1020 = t1007 then (some true) else (some false)))) = some r := by rw [if_neg (show ¬ (false = true) by decide)] at H; exact H
                            clear H
                            have H := H1
                            clear H1
                            replace H := Option.bind_eq_some_iff.mp H
                            obtain ⟨t1020, A920, H⟩ := H
                            replace H : (if t1020 < 0 then (some false) else (if t1020 = t1007 then (some true) else (some false))) = some r := H
                            have A92 := Aside0.mk A920
                            clear A920
                            by_cases c93 : t1020 < 0
                            · rw [if_pos c93] at H
                              have c93b0 : decide (t1020 < 0) = true := decide_eq_true c93
                              clear c93
                              obtain rfl := Option.some.inj H
                              have hcz94_0 : wc.cell? ⟨gb998, 0, none⟩ = some (.int .i64 t993) := (blk_cell BK998.out 0).trans rfl
                              have hcz94_1 : wc.cell? ⟨gb998, 1, none⟩ = some (.slice Ao20 t1008.length co20) := (blk_cell BK998.out 1).trans rfl
                              have hfz94_0 := blk_frozen BK998.out 0
                              have hfz94_1 := blk_frozen BK998.out 1
                              go_wp2_with (first | ((with_reducible refine gate_callee (f := 30) rfl ?_); refine goesL_ (some 87) rfl rfl Try.func30 (by kernel_rfl) rfl #[.agg #[.int .i64 t993, .slice Ao20 t1008.length co20], .int .i64 1] rfl (by (try simp only [List.map_toArray, List.map_cons, List.map_nil]); first | done | rfl | (simp only [List.length_drop, List.length_take]; rfl)) ?_; (with_reducible refine (laws_heldOrder.calls kj62 t993 _ _ t1008 1 t1020 _ ?side1 ?side2 A92.out).mono ?_); (case side1 => repeat (first | exact (Kd.R_reads' HO_999001.out).2.2 | (with_reducible refine Kd.C_alloc ?_ _) | (with_reducible refine Kd.C_drewN ?_ _) | (with_reducible refine Kd.C_drew ?_))); (case side2 => exact (Kd.R_reads' HO_999001.out).2.1); rintro e w95 ⟨rfl, hb⟩; refine ⟨_, rfl, ?_⟩; have n0_ := Aside0.mk (Kd.R_below (by (with_reducible repeat (first | apply Kd.R_alloc | apply Kd.R_drewN | apply Kd.R_drew)); exact HO_999001.out) hb); have n1_ := Aside0.mk (blk_below (g := gb998) (o := .cells #[.int .i64 t993, .slice Ao20 t1008.length co20] 34 (0, 0)) (by (with_reducible repeat (first | refine blk_drewN ?_ _ | refine blk_drew ?_ | refine blk_alloc ?_ _)); exact BK998.out) hb); have n2_ := Aside0.mk (below_step (by repeat (first | (with_reducible first | exact HB.out | apply below_alloc | apply pw_below_drewN | apply below_drew1 | refine below_set ?_ GE998.out) | exact HB.out)) hb); clear HO_999001; clear BK998; clear HB; have HO_999001 := n0_; have BK998 := n1_; have HB := n2_; clear n0_ n1_ n2_; (try clear hb); (try clear hb2); (try clear hk); (try clear hi)))
                              go_ret
                              exact ⟨by first | rfl | (simp [errW_none, errW_some] <;> rfl) | (simp [*, errW_none, errW_some] <;> rfl), by repeat (first | (with_reducible first | exact HB.out | apply below_alloc | apply pw_below_drewN | apply below_drew1 | refine below_set ?_ GE998.out) | exact HB.out)⟩
                            · rw [if_neg c93] at H
                              have c93b0 : decide (t1020 < 0) = false := decide_eq_false c93
                              clear c93
                              by_cases c96 : t1020 = t1007
                              · rw [if_pos c96] at H
                                have c96b0 : (t1020 == t1007) = true := beq_iff_eq.mpr c96
                                have c96b1 : (t1020 != t1007) = false := bne_eq_false_iff_eq.mpr c96
                                clear c96
                                obtain rfl := Option.some.inj H
                                have hcz97_0 : wc.cell? ⟨gb998, 0, none⟩ = some (.int .i64 t993) := (blk_cell BK998.out 0).trans rfl
                                have hcz97_1 : wc.cell? ⟨gb998, 1, none⟩ = some (.slice Ao20 t1008.length co20) := (blk_cell BK998.out 1).trans rfl
                                have hfz97_0 := blk_frozen BK998.out 0
                                have hfz97_1 := blk_frozen BK998.out 1
                                go_wp2_with (first | ((with_reducible refine gate_callee (f := 30) rfl ?_); refine goesL_ (some 87) rfl rfl Try.func30 (by kernel_rfl) rfl #[.agg #[.int .i64 t993, .slice Ao20 t1008.length co20], .int .i64 1] rfl (by (try simp only [List.map_toArray, List.map_cons, List.map_nil]); first | done | rfl | (simp only [List.length_drop, List.length_take]; rfl)) ?_; (with_reducible refine (laws_heldOrder.calls kj62 t993 _ _ t1008 1 t1020 _ ?side1 ?side2 A92.out).mono ?_); (case side1 => repeat (first | exact (Kd.R_reads' HO_999001.out).2.2 | (with_reducible refine Kd.C_alloc ?_ _) | (with_reducible refine Kd.C_drewN ?_ _) | (with_reducible refine Kd.C_drew ?_))); (case side2 => exact (Kd.R_reads' HO_999001.out).2.1); rintro e w98 ⟨rfl, hb⟩; refine ⟨_, rfl, ?_⟩; have n0_ := Aside0.mk (Kd.R_below (by (with_reducible repeat (first | apply Kd.R_alloc | apply Kd.R_drewN | apply Kd.R_drew)); exact HO_999001.out) hb); have n1_ := Aside0.mk (blk_below (g := gb998) (o := .cells #[.int .i64 t993, .slice Ao20 t1008.length co20] 34 (0, 0)) (by (with_reducible repeat (first | refine blk_drewN ?_ _ | refine blk_drew ?_ | refine blk_alloc ?_ _)); exact BK998.out) hb); have n2_ := Aside0.mk (below_step (by repeat (first | (with_reducible first | exact HB.out | apply below_alloc | apply pw_below_drewN | apply below_drew1 | refine below_set ?_ GE998.out) | exact HB.out)) hb); clear HO_999001; clear BK998; clear HB; have HO_999001 := n0_; have BK998 := n1_; have HB := n2_; clear n0_ n1_ n2_; (try clear hb); (try clear hb2); (try clear hk); (try clear hi)))
                                go_ret
                                exact ⟨by first | rfl | (simp [errW_none, errW_some] <;> rfl) | (simp [*, errW_none, errW_some] <;> rfl), by repeat (first | (with_reducible first | exact HB.out | apply below_alloc | apply pw_below_drewN | apply below_drew1 | refine below_set ?_ GE998.out) | exact HB.out)⟩
                              · rw [if_neg c96] at H
                                have c96b0 : (t1020 == t1007) = false := beq_eq_false_iff_ne.mpr c96
                                have c96b1 : (t1020 != t1007) = true := bne_iff_ne.mpr c96
                                obtain rfl := Option.some.inj H
                                have hcz99_0 : wc.cell? ⟨gb998, 0, none⟩ = some (.int .i64 t993) := (blk_cell BK998.out 0).trans rfl
                                have hcz99_1 : wc.cell? ⟨gb998, 1, none⟩ = some (.slice Ao20 t1008.length co20) := (blk_cell BK998.out 1).trans rfl
                                have hfz99_0 := blk_frozen BK998.out 0
                                have hfz99_1 := blk_frozen BK998.out 1
                                go_wp2_with (first | ((with_reducible refine gate_callee (f := 30) rfl ?_); refine goesL_ (some 87) rfl rfl Try.func30 (by kernel_rfl) rfl #[.agg #[.int .i64 t993, .slice Ao20 t1008.length co20], .int .i64 1] rfl (by (try simp only [List.map_toArray, List.map_cons, List.map_nil]); first | done | rfl | (simp only [List.length_drop, List.length_take]; rfl)) ?_; (with_reducible refine (laws_heldOrder.calls kj62 t993 _ _ t1008 1 t1020 _ ?side1 ?side2 A92.out).mono ?_); (case side1 => repeat (first | exact (Kd.R_reads' HO_999001.out).2.2 | (with_reducible refine Kd.C_alloc ?_ _) | (with_reducible refine Kd.C_drewN ?_ _) | (with_reducible refine Kd.C_drew ?_))); (case side2 => exact (Kd.R_reads' HO_999001.out).2.1); rintro e w100 ⟨rfl, hb⟩; refine ⟨_, rfl, ?_⟩; have n0_ := Aside0.mk (Kd.R_below (by (with_reducible repeat (first | apply Kd.R_alloc | apply Kd.R_drewN | apply Kd.R_drew)); exact HO_999001.out) hb); have n1_ := Aside0.mk (blk_below (g := gb998) (o := .cells #[.int .i64 t993, .slice Ao20 t1008.length co20] 34 (0, 0)) (by (with_reducible repeat (first | refine blk_drewN ?_ _ | refine blk_drew ?_ | refine blk_alloc ?_ _)); exact BK998.out) hb); have n2_ := Aside0.mk (below_step (by repeat (first | (with_reducible first | exact HB.out | apply below_alloc | apply pw_below_drewN | apply below_drew1 | refine below_set ?_ GE998.out) | exact HB.out)) hb); clear HO_999001; clear BK998; clear HB; have HO_999001 := n0_; have BK998 := n1_; have HB := n2_; clear n0_ n1_ n2_; (try clear hb); (try clear hb2); (try clear hk); (try clear hi)))
                                go_ret
                                exact ⟨by first | rfl | (simp [errW_none, errW_some] <;> rfl) | (simp [*, errW_none, errW_some] <;> rfl), by repeat (first | (with_reducible first | exact HB.out | apply below_alloc | apply pw_below_drewN | apply below_drew1 | refine below_set ?_ GE998.out) | exact HB.out)⟩
                    · rw [if_neg c60] at H
                      have c60b0 : (t1009 == t1007) = false := beq_eq_false_iff_ne.mpr c60
                      have c60b1 : (t1009 != t1007) = true := bne_iff_ne.mpr c60
                      obtain rfl := Option.some.inj H
                      have hnb101 := NB998_989.out
                      have hnc101 := NB989_998.out
                      have hcz102_0 : wc.cell? ⟨gb998, 0, none⟩ = some (.int .i64 t993) := (blk_cell BK998.out 0).trans rfl
                      have hcz102_1 : wc.cell? ⟨gb998, 1, none⟩ = some (.slice Ao20 t994.length co20) := (blk_cell BK998.out 1).trans rfl
                      have hfz102_0 := blk_frozen BK998.out 0
                      have hfz102_1 := blk_frozen BK998.out 1
                      go_wp2_with (first | ((with_reducible refine gate_callee (f := 29) rfl ?_); refine goesL_ (some 61) rfl rfl Try.func29 (by kernel_rfl) rfl #[.agg #[.int .i64 t993, .slice Ao20 t994.length co20], .int .i64 1] rfl (by (try simp only [List.map_toArray, List.map_cons, List.map_nil]); first | done | rfl | (simp only [List.length_drop, List.length_take]; rfl)) ?_; (with_reducible refine (laws_markOrder.calls kj35 t993 (fun k_ => some k_ = (.slice Ao20 t994.length co20 : Value).ownBlock) (.slice Ao20 t994.length co20) t994 1 t1007 t1008 w _ ?side1 ?side2 A52.out).mono ?_); (case side1 => repeat (first | (with_reducible first | exact HB.out | apply below_alloc | apply pw_below_drewN | apply below_drew1 | refine below_set ?_ GE989.out | refine below_set ?_ GE998.out) | exact HB.out)); (case side2 => exact Kd.R_tight rfl HO_999001.out); rintro e w103 ⟨rfl, hy0, hb, hkp⟩; refine ⟨_, rfl, ?_⟩; have n0_ := Aside0.mk (Kd.R_mono (ok' := fun k_ => some k_ ≠ (.slice Ao20 t994.length co20 : Value).ownBlock) (Kd.R_keptB (HO_990001.out) hkp (fun k_ hk_ hs_ => (hk_) hs_)) (fun k_ hk_ => hk_.1)); have n1_ := Aside0.mk (Kd.R_reok rfl hy0 (fun k_ e_ => HO_999001.out.1 k_ e_)); have n2_ := Aside0.mk (blk_kept (by (with_reducible repeat (first | refine blk_drewN ?_ _ | refine blk_drew ?_ | refine blk_alloc ?_ _)); exact BK989.out) hkp (fun hs_ => (fun e_ => (Kd.R_ne HO_999001.out BK989.out (by decide)) e_) hs_)); have n3_ := Aside0.mk (blk_kept (by (with_reducible repeat (first | refine blk_drewN ?_ _ | refine blk_drew ?_ | refine blk_alloc ?_ _)); exact BK998.out) hkp (fun hs_ => (fun e_ => (Kd.R_ne HO_999001.out BK998.out (by decide)) e_) hs_)); have n4_ := Aside0.mk (hb); clear HO_990001; clear HO_999001; clear BK989; clear BK998; clear HB; have HO_990001 := n0_; have HO_999001 := n1_; have BK989 := n2_; have BK998 := n3_; have HB := n4_; clear n0_ n1_ n2_ n3_ n4_; (try clear hb); (try clear hkp); (try clear hy0); have hcz104_0 : w103.cell? ⟨gb998, 0, none⟩ = some (.int .i64 t993) := (blk_cell BK998.out 0).trans rfl; have hcz104_1 : w103.cell? ⟨gb998, 1, none⟩ = some (.slice Ao20 t994.length co20) := (blk_cell BK998.out 1).trans rfl; have hfz104_0 := blk_frozen BK998.out 0; have hfz104_1 := blk_frozen BK998.out 1) | ((with_reducible refine gate_callee (f := 30) rfl ?_); refine goesL_ (some 64) rfl rfl Try.func30 (by kernel_rfl) rfl #[.agg #[.int .i64 t993, .slice Ao20 t1008.length co20], .int .i64 1] rfl (by (try simp only [List.map_toArray, List.map_cons, List.map_nil]); first | done | (rw [show t1008.length = t994.length from (Kd.R_reads' HO_999001.out).1.symm] <;> rfl) | rfl | (simp only [List.length_drop, List.length_take]; rfl)) ?_; (with_reducible refine (laws_heldOrder.calls kj35 t993 _ _ t1008 1 t1009 _ ?side1 ?side2 A53.out).mono ?_); (case side1 => repeat (first | exact (Kd.R_reads' HO_999001.out).2.2 | (with_reducible refine Kd.C_alloc ?_ _) | (with_reducible refine Kd.C_drewN ?_ _) | (with_reducible refine Kd.C_drew ?_))); (case side2 => rw [show t1008.length = t994.length from (Kd.R_reads' HO_999001.out).1.symm]; exact (Kd.R_reads' HO_999001.out).2.1); rintro e w105 ⟨rfl, hb⟩; refine ⟨_, rfl, ?_⟩; have n0_ := Aside0.mk (Kd.R_below (by (with_reducible repeat (first | apply Kd.R_alloc | apply Kd.R_drewN | apply Kd.R_drew)); exact HO_990001.out) hb); have n1_ := Aside0.mk (Kd.R_below (by (with_reducible repeat (first | apply Kd.R_alloc | apply Kd.R_drewN | apply Kd.R_drew)); exact HO_999001.out) hb); have n2_ := Aside0.mk (blk_below (g := gb989) (o := .cells #[.int .i64 t984, .slice Ao13 t985.length co13] 34 (0, 0)) (by (with_reducible repeat (first | refine blk_drewN ?_ _ | refine blk_drew ?_ | refine blk_alloc ?_ _)); exact BK989.out) hb); have n3_ := Aside0.mk (blk_below (g := gb998) (o := .cells #[.int .i64 t993, .slice Ao20 t994.length co20] 34 (0, 0)) (by (with_reducible repeat (first | refine blk_drewN ?_ _ | refine blk_drew ?_ | refine blk_alloc ?_ _)); exact BK998.out) hb); have n4_ := Aside0.mk (below_step (by repeat (first | (with_reducible first | exact HB.out | apply below_alloc | apply pw_below_drewN | apply below_drew1 | refine below_set ?_ GE989.out | refine below_set ?_ GE998.out) | exact HB.out)) hb); clear HO_990001; clear HO_999001; clear BK989; clear BK998; clear HB; have HO_990001 := n0_; have HO_999001 := n1_; have BK989 := n2_; have BK998 := n3_; have HB := n4_; clear n0_ n1_ n2_ n3_ n4_; (try clear hb); (try clear hb2); (try clear hk); (try clear hi)))
                      go_ret
                      exact ⟨by first | rfl | (simp [errW_none, errW_some] <;> rfl) | (simp [*, errW_none, errW_some] <;> rfl), by repeat (first | (with_reducible first | exact HB.out | apply below_alloc | apply pw_below_drewN | apply below_drew1 | refine below_set ?_ GE989.out | refine below_set ?_ GE998.out) | exact HB.out)⟩
          · replace c34 := Bool.eq_false_iff.mpr c34
            subst c34
            have H1 : (some false) = some r := by rw [if_neg (show ¬ (false = true) by decide)] at H; exact H
            clear H
            have H := H1
            clear H1
            obtain rfl := Option.some.inj H
            go_wp2_with (first | ((with_reducible refine gate_callee (f := 15) rfl ?_); refine goesL_ (some 40) rfl rfl Try.func15 (by kernel_rfl) rfl #[.slice A0 l0.length c0] rfl (by (try simp only [List.map_toArray, List.map_cons, List.map_nil]); first | done | rfl | (simp only [List.length_drop, List.length_take]; rfl)) ?_; (with_reducible refine (laws_toIntS.calls kj6 _ _ l0 t1000 _ ?side1 ?side2 A32.out).mono ?_); (case side1 => repeat (first | exact (Kd.C_below HR0.out HB.out) | (with_reducible refine Kd.C_alloc ?_ _) | (with_reducible refine Kd.C_drewN ?_ _) | (with_reducible refine Kd.C_drew ?_))); (case side2 => exact HC0.out); rintro e w106 ⟨v1001, rfl, ho0, hb⟩; refine ⟨_, rfl, ?_⟩; have n0_ := Aside0.mk (Kd.R_elder' (by (with_reducible repeat (first | apply Kd.R_alloc | apply Kd.R_drewN | apply Kd.R_drew)); exact HO_5.out) (Kd.R_base ho0) hb); have n1_ := Aside0.mk (Kd.R_elder' (by (with_reducible repeat (first | apply Kd.R_alloc | apply Kd.R_drewN | apply Kd.R_drew)); exact HO_990001.out) (Kd.R_base ho0) hb); have n2_ := Aside0.mk (Kd.R_elder' (by (with_reducible repeat (first | apply Kd.R_alloc | apply Kd.R_drewN | apply Kd.R_drew)); exact HO_999001.out) (Kd.R_base ho0) hb); have n3_ := Aside0.mk (Kd.R_lower (Kd.R_new' (Kd.R_new' (Kd.R_new' ho0 (Kd.R_lt (by (with_reducible repeat (first | apply Kd.R_alloc | apply Kd.R_drewN | apply Kd.R_drew)); exact HO_5.out))) (Kd.R_lt (by (with_reducible repeat (first | apply Kd.R_alloc | apply Kd.R_drewN | apply Kd.R_drew)); exact HO_990001.out))) (Kd.R_lt (by (with_reducible repeat (first | apply Kd.R_alloc | apply Kd.R_drewN | apply Kd.R_drew)); exact HO_999001.out))) (below_size (by repeat (first | (with_reducible first | exact HB.out | apply below_alloc | apply pw_below_drewN | apply below_drew1 | refine below_set ?_ GE989.out | refine below_set ?_ GE998.out) | exact HB.out)))); have n4_ := Aside0.mk (blk_below (g := gb989) (o := .cells #[.int .i64 t984, .slice Ao13 t985.length co13] 34 (0, 0)) (by (with_reducible repeat (first | refine blk_drewN ?_ _ | refine blk_drew ?_ | refine blk_alloc ?_ _)); exact BK989.out) hb); have n5_ := Aside0.mk (blk_below (g := gb998) (o := .cells #[.int .i64 t993, .slice Ao20 t994.length co20] 34 (0, 0)) (by (with_reducible repeat (first | refine blk_drewN ?_ _ | refine blk_drew ?_ | refine blk_alloc ?_ _)); exact BK998.out) hb); have n6_ := Aside0.mk (below_step (by repeat (first | (with_reducible first | exact HB.out | apply below_alloc | apply pw_below_drewN | apply below_drew1 | refine below_set ?_ GE989.out | refine below_set ?_ GE998.out) | exact HB.out)) hb); clear HO_5; clear HO_990001; clear HO_999001; clear BK989; clear BK998; clear HB; have HO_5 := n0_; have HO_990001 := n1_; have HO_999001 := n2_; have HO1002 := n3_; have BK989 := n4_; have BK998 := n5_; have HB := n6_; clear n0_ n1_ n2_ n3_ n4_ n5_ n6_; (try clear hb); (try clear hb2); (try clear hk); (try clear hi); (try clear ho0); obtain ⟨Ao107, co107, eo107⟩ := Kd.R_slice HO1002.out; subst eo107) | ((with_reducible refine gate_callee (f := 17) rfl ?_); refine goesL_ (some 41) rfl rfl Try.func17 (by kernel_rfl) rfl #[.slice Ao15 t990.length co15, .slice Ao107 t1000.length co107] rfl (by (try simp only [List.map_toArray, List.map_cons, List.map_nil]); first | done | rfl | (simp only [List.length_drop, List.length_take]; rfl)) ?_; (with_reducible refine (laws_eqIntS.calls kj6 _ _ t990 _ _ t1000 false _ ?side1 ?side2 ?side3 ?side4 A33.out).mono ?_); (case side1 => repeat (first | exact (Kd.R_reads' HO_5.out).2.2 | (with_reducible refine Kd.C_alloc ?_ _) | (with_reducible refine Kd.C_drewN ?_ _) | (with_reducible refine Kd.C_drew ?_))); (case side2 => exact (Kd.R_reads' HO_5.out).2.1); (case side3 => repeat (first | exact (Kd.R_reads' HO1002.out).2.2 | (with_reducible refine Kd.C_alloc ?_ _) | (with_reducible refine Kd.C_drewN ?_ _) | (with_reducible refine Kd.C_drew ?_))); (case side4 => exact (Kd.R_reads' HO1002.out).2.1); rintro e w' ⟨rfl, ⟨nd, rfl⟩⟩; refine ⟨_, rfl, ?_⟩))
            go_ret
            exact ⟨by first | rfl | (simp [errW_none, errW_some] <;> rfl) | (simp [*, errW_none, errW_some] <;> rfl), by repeat (first | (with_reducible first | exact HB.out | apply below_alloc | apply pw_below_drewN | apply below_drew1 | refine below_set ?_ GE989.out | refine below_set ?_ GE998.out) | exact HB.out)⟩

/-- THE ONE PURE STATEMENT of laws_FnExactOrderOfAscent: yours. -/
def laws_FnExactOrderOfAscent.Pure : Prop := ∀ (l0 : List Int), l0.length ≤ maxLen → l0.length * 8 ≤ 140737488351232 → (∀ x ∈ l0, (Lit.int .i64 x).wf = true) → ∃ k, laws_FnExactOrderOfAscent.f k l0 = some true
theorem laws_FnExactOrderOfAscent.walk (P : laws_FnExactOrderOfAscent.Pure) (a0 : Option Addr) (len0 cap0 : Nat) (z0 : List Int) (w : World) (w0 : (a0 = none ∧ len0 = 0 ∧ cap0 = 0 ∧ z0 = []) ∨ ∃ x, a0 = some x ∧ len0 ≤ cap0 ∧ cap0 ≤ maxLen ∧ z0.length = cap0 ∧ (∀ i, i < z0.length → w.cell? (x.add i) = some (.int .i64 (z0.getD i 0))) ∧ ∀ n ∈ z0, (Lit.int .i64 n).wf = true) (y0 : len0 * 8 ≤ 140737488351232) :
    Calls Try.prog 13 #[.slice a0 len0 cap0] w fun e w' => e = .returned (.bool true) ∧ Below w.heap.size w w' := by
  obtain ⟨l0, rfl, hr0, hm0, hw0, hc0⟩ := ReadsInt.ofRowC w0
  obtain ⟨k, h⟩ := P l0 hm0 y0 hw0
  refine (laws_FnExactOrderOfAscent.calls k _ _ l0 true w (Kd.C_of_reads (d := (0 : Int)) (h1 := fun _ => rfl) hr0) hc0 h).mono ?_
  rintro e w' ⟨rfl, hd⟩
  exact ⟨rfl, hd⟩

end Go.Proofs.Ytjojalbgpemjoaa.Q
