import Derived.Test.YtfpicdkanmgdoaaDoorBFnLevelRanks5
namespace Go.Proofs.YtfpicdkanmgdoaaDoor.Q
open Go.RowKit Go.Proofs.YtfpicdkanmgdoaaDoorW.PrintWords Go.Proofs.YtfpicdkanmgdoaaDoorW.PrintLast Go.Proofs.YtfpicdkanmgdoaaDoorW.PrintMore
attribute [local go_sem] max2_int min2_int max_two min_two max_three min_three max_four min_four neB_f
set_option linter.unusedVariables false
set_option maxHeartbeats 8000000
set_option maxRecDepth 100000
set_option linter.unusedSimpArgs false
mutual
def spec_weAll.l0 : Nat → List Int → Int → List (List Int) → Int → Option ((List (List Int)))
 | 0, _, _, _, _ => none
 | k + 1, x0, x1, x5, x6 => if x6 < x1 then ((spec_l1Own.f x0).bind fun t312 => (if t312.length < 17592186044416 then ((spec_weAll.f k (t312 ++ [x6]) x1).bind fun t318 => (if x5.length + t318.length < 5864062014805 then (spec_weAll.l0 k x0 x1 (x5 ++ t318) (wrap64 (x6 + 1))) else (none))) else (none))) else (some x5)
def spec_weAll.f : Nat → List Int → Int → Option ((List (List Int)))
 | 0, _, _ => none
 | k + 1, l0, a1 => if (l0.length : Int) = a1 then ((spec_weLevels.f k l0).bind fun t305 => (if t305 = true then ((spec_l1Own.f l0).bind fun t306 => (some (([t306] : List (List Int))))) else (some ([] : List (List Int))))) else (spec_weAll.l0 k l0 a1 ([] : List (List Int)) 0)
end
theorem spec_weAll.mono_l : ∀ k, (∀ y0 y1, LeO (spec_weAll.f k y0 y1) (spec_weAll.f (k + 1) y0 y1)) ∧ (∀ y0 y1 y2 y3, LeO (spec_weAll.l0 k y0 y1 y2 y3) (spec_weAll.l0 (k + 1) y0 y1 y2 y3))
 | 0 => ⟨fun _ _ r h => by simp [spec_weAll.f] at h, fun _ _ _ _ r h => by simp [spec_weAll.l0] at h⟩
 | k + 1 => by
  obtain ⟨ih0, ih1⟩ := spec_weAll.mono_l k
  refine ⟨?_, ?_⟩ <;> intros
  unfold spec_weAll.f
  rotate_left
  unfold spec_weAll.l0
  rotate_left
  all_goals repeat' (with_reducible first|apply ih0|apply ih1|apply spec_weLevels.mono|apply LeO.refl|apply LeO.none|apply LeO.ite|apply LeO.bind|intro)
theorem spec_weAll.mono : ∀ a0 a1 k, LeO (spec_weAll.f k a0 a1) (spec_weAll.f (k + 1) a0 a1) := by
 intro a0 a1 k
 obtain ⟨ih0, ih1⟩ := spec_weAll.mono_l k
 exact ih0 a0 a1
theorem spec_weAll.calls (k : Nat) : ∀ (A0 : Option Addr) (c0 : Nat) (l0 : List Int) (a1 : Int) (r : List (List Int)) (w : World) (hr0 : Kd.C (Kd.int .i64) w A0 l0.length l0) (hc0 : l0.length ≤ c0) (h : spec_weAll.f k l0 a1 = some r),
  Calls Tryd.prog 28 #[.slice A0 l0.length c0, .int .i64 a1] w fun e w' => ∃ v0_ : Value, e = .returned (v0_) ∧ Kd.N (Kd.slice 3 (Kd.int .i64)) 26 w' w.heap.size (fun k_ => (w.heap.size ≤ k_)) v0_ r ∧ Below w.heap.size w w' := by
 induction k using Nat.strongRecOn with
 | _ k ih =>
 intro A0 c0 l0 a1 r w hr0 hc0 h
 cases k with
 | zero => exact absurd h (by simp [spec_weAll.f])
 | succ k =>
 simp only [spec_weAll.f] at h
 have HR0 := mkA hr0
 have HC0 := mkA hc0
 clear hr0 hc0
 have HB := mkA (Below.refl w.heap.size w)
 have H := h
 clear h
 unfold spec_weAll.f at H
 rcases iteP H with ⟨c3, H⟩ | ⟨c3, H⟩
 ·have c3b0 := beq_iff_eq.mpr c3
  have c3b1 := bne_eq_false_iff_eq.mpr c3
  clear c3
  obtain ⟨t305, A4, H⟩ := obE H
  by_cases c5 : t305 = true
  ·subst c5
   replace H := ifT H
   obtain ⟨t306, A6, H⟩ := obE H
   obtain ⟨y309, hy309⟩ : ∃ y_ : List (List Int), y_ = (([t306] : List (List Int))) := ⟨_, rfl⟩
   rw [← hy309] at H
   have Ny309 := mkA hy309
   clear hy309
   obtain rfl := Option.some.inj H
   go_enter Tryd.func28, Tryd.ntmps28
   go_wp2_with (first | ((with_reducible refine gate_callee (f := 34) rfl ?_); refine goesQ (some 12) Tryd.func34 #[.slice A0 l0.length c0] ?_; (with_reducible refine (spec_weLevels.calls k _ _ l0 true _ ?s1 ?s2 A4.out).mono ?_); (case s1 => repeat (first | exact HR0.out | (with_reducible refine Kd.C_alloc ?_ _) | (with_reducible refine Kd.C_drewN ?_ _) | (with_reducible refine Kd.C_drew ?_))); (case s2 => exact HC0.out); rintro e w' ⟨rfl, ⟨nd, rfl⟩⟩; refine ⟨_, rfl, ?_⟩) | ((with_reducible refine gate_callee (f := 45) rfl ?_); refine goesQ (some 14) Tryd.func45 #[.slice A0 l0.length c0] ?_; (with_reducible refine (spec_l1Own.calls _ _ l0 t306 _ ?s1 ?s2 A6.out).mono ?_); (case s1 => repeat (first | exact HR0.out | (with_reducible refine Kd.C_alloc ?_ _) | (with_reducible refine Kd.C_drewN ?_ _) | (with_reducible refine Kd.C_drew ?_))); (case s2 => exact HC0.out); rintro e w7 ⟨v307, rfl, ho0, hb⟩; refine ⟨_, rfl, ?_⟩; have HO308 := rLo (Kd.R_newM (M := fun k_ => (w.heap.size ≤ k_)) ho0 (below_size (bel_g HB.out)) (fun k_ h_ => h_)) HB; replace HB := bst HB hb; clear hb ho0; obtain ⟨Ao8, co8, rfl⟩ := Kd.R_slice HO308.out) | ((with_reducible refine gate_dst (N := 15) rfl ?_); refine Kd.N_lit (Kd.slice 3 (Kd.int .i64)) _ 26 ?hg (N' := 15) ?hd (xs := ([t306] : List (List Int))) (inner := [.slice Ao8 t306.length co8]) (ok := (fun k_ => (w.heap.size ≤ k_))) (okp := (fun k_ => (w.heap.size ≤ k_))) ?hr ?hp (fun _ hk => hk) ((show ∀ k_, w7.heap.size ≤ k_ → (fun k_ => (w.heap.size ≤ k_)) k_ from fun k_ hk => (Nat.le_trans (below_size (bel_g HB.out)) hk)) _ (Nat.le_refl _)) (Below.refl _ _) (Nat.le_refl _) (by simp) ?_; (case hd => rfl); (case hg => rfl); (case hr => first | (go_simp; done) | (go_simp; rfl)); (case hp => exact (Reps.one (show Kd.FK (Kd.slice 3 (Kd.int .i64)) _ _ t306 [.slice Ao8 t306.length co8] from (Kd.FK_slice_mk (Kd.R_reads' (Kd.R_mono (ok' := (fun k_ => (w.heap.size ≤ k_))) (HO308.out) (fun k_ hk => hk.1))).2.1 (Kd.R_F (Kd.R_mono (ok' := (fun k_ => (w.heap.size ≤ k_))) (HO308.out) (fun k_ hk => hk.1))))) (Reps.none _ _))); intro v310 w9 ho10 hb hg_ hnew_; clear hg_ hnew_; (first | rw [← Ny309.out] at ho10 | (simp only [Int.reduceToNat] at ho10; rw [← Ny309.out] at ho10)); have HO311 := mkA (Kd.N_lower ho10 (below_size (bel_g HB.out))); replace HB := bst HB hb; clear HO308; clear hb ho10))
   go_ret
   exact ⟨_, eqE, by (with_reducible repeat (first | apply Kd.N_alloc | apply Kd.N_drewN | apply Kd.N_drew)); exact HO311.out, bel_g HB.out⟩
  ·replace c5 := Bool.eq_false_iff.mpr c5
   subst c5
   replace H := ifF H
   obtain rfl := Option.some.inj H
   go_enter Tryd.func28, Tryd.ntmps28
   go_wp2_with (first | ((with_reducible refine gate_callee (f := 34) rfl ?_); refine goesQ (some 12) Tryd.func34 #[.slice A0 l0.length c0] ?_; (with_reducible refine (spec_weLevels.calls k _ _ l0 false _ ?s1 ?s2 A4.out).mono ?_); (case s1 => repeat (first | exact HR0.out | (with_reducible refine Kd.C_alloc ?_ _) | (with_reducible refine Kd.C_drewN ?_ _) | (with_reducible refine Kd.C_drew ?_))); (case s2 => exact HC0.out); rintro e w' ⟨rfl, ⟨nd, rfl⟩⟩; refine ⟨_, rfl, ?_⟩))
   go_ret
   exact ⟨_, eqE, by first | exact Kd.S_nil _ _ _ _ _ | exact Kd.N_nil _ _ _ _ _ | exact Kd.V_nil _ _ _ _ _ | exact Kd.Q_nil _ _ _ _ _ | exact Kd.R_nil _ _ _ _ _, bel_g HB.out⟩
 ·have c3b0 := beq_eq_false_iff_ne.mpr c3
  have c3b1 := bne_iff_ne.mpr c3
  have H' := mkA H
  clear H
  go_enter Tryd.func28, Tryd.ntmps28
  go_wp2
  go_loopg [5, 6] k (fun kq v5 v6 w' => ∃ (x5_1 : List (List Int)) (x6_1 : Int), v6 = .int .i64 x6_1 ∧ Fc (spec_weAll.l0 kq l0 a1 x5_1 x6_1 = some r) ∧ Fc (kq ≤ k) ∧ Fc (Kd.N (Kd.slice 3 (Kd.int .i64)) 26 w' w.heap.size (fun k_ => (w.heap.size ≤ k_)) v5 x5_1) ∧ Fc (Below w.heap.size w w'))
  case atStart => exact ⟨(([] : List (List Int))), (0), eqS, H', ⟨Nat.le_refl _⟩, ⟨by first | exact Kd.S_nil _ _ _ _ _ | exact Kd.N_nil _ _ _ _ _ | exact Kd.V_nil _ _ _ _ _ | exact Kd.Q_nil _ _ _ _ _ | exact Kd.R_nil _ _ _ _ _⟩, hbg HB⟩
  case round =>
   clear H'
   try clear c3
   try clear c3b0
   try clear c3b1
   try clear c5
   obtain ⟨x5_1, x6_1, rfl, HA, HK1, HO_5, HB⟩ := hrel
   cases gk with
   | zero => exact absurd HA.out (by simp [spec_weAll.l0])
   | succ k1 =>
    have H := HA.out
    clear HA
    simp only [spec_weAll.l0] at H
    rcases iteE H with ⟨c11b0, H⟩ | ⟨c11b0, H⟩
    ·obtain ⟨t312, A12, H⟩ := obE H
     obtain ⟨c13, H⟩ := itNP H
     have LMc13 := mkA c13
     clear c13
     obtain ⟨y315, hy315⟩ : ∃ y_ : List Int, y_ = (t312 ++ [x6_1]) := ⟨_, rfl⟩
     rw [← hy315] at H
     have Ny315 := mkA hy315
     clear hy315
     obtain ⟨t318, A14, H⟩ := obE H
     obtain ⟨c15, H⟩ := itNP H
     have LMc15 := mkA c15
     clear c15
     obtain ⟨y321, hy321⟩ : ∃ y_ : List (List Int), y_ = (x5_1 ++ t318) := ⟨_, rfl⟩
     rw [← hy321] at H
     have Ny321 := mkA hy321
     clear hy321
     have H' := mkA H
     clear H
     go_wp2_with (first | ((with_reducible refine gate_callee (f := 45) rfl ?_); refine goesQ (some 23) Tryd.func45 #[.slice A0 l0.length c0] ?_; (with_reducible refine (spec_l1Own.calls _ _ l0 t312 _ ?_ ?_ A12.out).mono ?_); exact C_g HR0 HB; exact HC0.out; rintro e w16 ⟨v313, rfl, ho0, hb⟩; refine ⟨_, rfl, ?_⟩; replace HO_5 := mkA (Kd.N_elder' (by (with_reducible repeat (first | apply Kd.N_alloc | apply Kd.N_drewN | apply Kd.N_drew)); exact HO_5.out) (Kd.R_base ho0) hb); have HO314 := rLo (Kd.R_newM (M := fun k_ => (w.heap.size ≤ k_)) ho0 (below_size (bel_g HB.out)) (fun k_ h_ => h_)) HB; replace HB := bst HB hb; (try clear hb); (try clear hk); (try clear ho0)) | ((with_reducible refine gate_builtin (b := .append) (xs := #[.tmp 23, .tmp 25]) rfl ?_); at_builtin; refine Kd.R_append (Kd.int .i64) (w0 := w) w.heap.size rfl (.tmp 23) (.tmp 25) 26 3 (.int .i64 0) 8 rfl Tryd.underlying26 info3 rfl (by decide) (by omega) v313 t312 x6_1 [.int .i64 x6_1] (fun k_ => (w.heap.size ≤ k_)) (fun _ => False) rfl rfl ?aP (fun _ hk => hk.elim) ?aF ?aO ?aB ?aS ?aL ?_; (case aP => exact rfl); (case aB => exact (bel_g HB.out)); (case aF => exact (fun k_ hk => (Nat.le_trans (below_size (bel_g HB.out)) hk))); (case aO => exact (Kd.R_g (Kd.R_mono HO314.out (fun _ hk => hk.1)))); (case aS => exact (below_size (bel_g HB.out))); (case aL => have := LMc13.out; omega); intro v316 w17 ho hb hg hat; rw [← Ny315.out] at ho; replace HO_5 := mkA (Kd.N_afterv (ok := (fun k_ => (w.heap.size ≤ k_))) (by (with_reducible repeat (first | apply Kd.N_alloc | apply Kd.N_drewN | apply Kd.N_drew)); exact HO_5.out) hg hat); have HO317 := mkA (ho); replace HB := mkA (hb); clear HO314; clear ho hb hg hat; obtain ⟨Ao18, co18, rfl⟩ := Kd.R_slice HO317.out) | ((with_reducible refine gate_callee (f := 28) rfl ?_); refine goesQ (some 28) Tryd.func28 #[.slice Ao18 y315.length co18, .int .i64 a1] ?_; (with_reducible refine (ih k1 (by have := HK1.out; omega) _ _ y315 a1 t318 _ ?_ ?_ A14.out).mono ?_); exact rC HO317; exact rL HO317; rintro e w19 ⟨v319, rfl, ho0, hb⟩; refine ⟨_, rfl, ?_⟩; have HO320 := mkA (Kd.N_lower (Kd.N_mono (ok' := fun k_ => (w.heap.size ≤ k_) ∧ some k_ ≠ (u5 : Value).ownBlock ∧ some k_ ≠ (.slice Ao18 y315.length co18 : Value).ownBlock) ho0 (fun k_ hk_ => ⟨(Nat.le_trans (below_size (bel_g HB.out)) hk_), (Kd.fresh' (Kd.N_lt (by (with_reducible repeat (first | apply Kd.N_alloc | apply Kd.N_drewN | apply Kd.N_drew)); exact HO_5.out)) k_ hk_), (Kd.fresh' (Kd.R_lt (Kd.R_g HO317.out)) k_ hk_)⟩)) (below_size (bel_g HB.out))); replace HO_5 := mkA (Kd.N_elder' (by (with_reducible repeat (first | apply Kd.N_alloc | apply Kd.N_drewN | apply Kd.N_drew)); exact HO_5.out) (Kd.N_base ho0) hb); replace HO317 := rB HO317 hb; replace HB := bst HB hb; (try clear hb); (try clear hk); (try clear ho0); obtain ⟨Ao21, co21, rfl⟩ := Kd.N_slice HO320.out) | ((with_reducible refine gate_builtin (b := .append) (xs := #[.tmp 21, .tmp 28]) rfl ?_); at_builtin; refine Kd.N_append_rows (Kd.slice 3 (Kd.int .i64)) (w0 := w) w.heap.size rfl (.tmp 21) (.tmp 28) 48 26 (.slice none 0 0) 24 rfl Tryd.underlying48 info26 rfl (by decide) (by omega) u5 x5_1 t318 _ _ _ (fun k_ => (w.heap.size ≤ k_) ∧ some k_ ≠ (.slice Ao18 y315.length co18 : Value).ownBlock) (fun k_ => ((fun k_ => (w.heap.size ≤ k_) ∧ some k_ ≠ (.slice Ao18 y315.length co18 : Value).ownBlock)) k_ ∧ some k_ ≠ (u5 : Value).ownBlock) rfl rfl ?aO ?aR (fun _ hk => hk) ?aF ?aB ?aS ?aL ?_; (case aR => exact (by skip; exact Kd.N_F (Kd.N_mono (ok' := (fun k_ => ((fun k_ => (w.heap.size ≤ k_) ∧ some k_ ≠ (.slice Ao18 y315.length co18 : Value).ownBlock)) k_ ∧ some k_ ≠ (u5 : Value).ownBlock)) (HO320.out) (fun k_ hk => ⟨⟨hk.1, hk.2.2⟩, hk.2.1⟩)))); (case aB => exact (bel_g HB.out)); (case aF => exact (fun k_ hk => ⟨(Nat.le_trans (below_size (bel_g HB.out)) hk), Kd.fresh' (Kd.R_lt (Kd.R_g HO317.out)) k_ hk⟩)); (case aO => exact (by (with_reducible repeat (first | apply Kd.N_alloc | apply Kd.N_drewN | apply Kd.N_drew)); exact Kd.N_mono HO_5.out (fun _ hk => ⟨hk.1.1, hk.1.2⟩))); (case aS => exact (below_size (bel_g HB.out))); (case aL => have := LMc15.out; omega); intro v322 w20 ho hb hg hat; rw [← Ny321.out] at ho; replace HO317 := mkA (Kd.R_over' (Kd.R_g HO317.out) (Kd.N_typed (by (with_reducible repeat (first | apply Kd.N_alloc | apply Kd.N_drewN | apply Kd.N_drew)); exact HO_5.out)) (by decide) hg); replace HO320 := mkA (Kd.N_afterv (ok := (fun k_ => (w.heap.size ≤ k_) ∧ some k_ ≠ (.slice Ao18 y315.length co18 : Value).ownBlock)) (by (with_reducible repeat (first | apply Kd.N_alloc | apply Kd.N_drewN | apply Kd.N_drew)); exact Kd.N_mono HO320.out (fun _ hk => ⟨⟨hk.1, hk.2.2⟩, hk.2.1⟩)) hg hat); have HO323 := mkA (ho); replace HB := mkA (hb); clear HO_5; clear ho hb hg hat))
     go_roundg k1
     case measure => have := HK1.out; omega
     case rel => exact ⟨(y321), (wrap64 (x6_1 + 1)), eqS, H', ⟨by have := HK1.out; omega⟩, ⟨by (with_reducible repeat (first | apply Kd.N_alloc | apply Kd.N_drewN | apply Kd.N_drew)); exact Kd.N_mono HO323.out (fun _ hk => hk.1)⟩, hbg HB⟩
    ·obtain rfl := Option.some.inj H
     go_wp2
     go_ret
     exact ⟨_, eqE, by (with_reducible repeat (first | apply Kd.N_alloc | apply Kd.N_drewN | apply Kd.N_drew)); exact HO_5.out, bel_g HB.out⟩
def spec_LevelsWith.f (k : Nat) (a0 : Int) (a1 : Int) : Option (List Int × Bool) := (spec_l1In.f a0 0 6).bind fun t324 => (if t324 = true then ((spec_weAll.f k ([] : List Int) a0).bind fun t325 => ((spec_l1In.f a1 0 (wrap64 ((t325.length : Int) - 1))).bind fun t328 => (if t328 = true then (if 0 ≤ a1 then (if a1 < (t325.length : Int) then (some (rd_L2 t325 a1, true)) else (none)) else (none)) else (some (([] : List Int), false))))) else (some (([] : List Int), false)))
theorem spec_LevelsWith.mono : ∀ a0 a1 k, LeO (spec_LevelsWith.f k a0 a1) (spec_LevelsWith.f (k + 1) a0 a1) := by
 intro a0 a1 k
 unfold spec_LevelsWith.f
 repeat' first
   | (with_reducible exact spec_weAll.mono _ _ _)
   | (with_reducible exact LeO.refl _)
   | (with_reducible exact LeO.none _)
   | (with_reducible refine LeO.ite ?_ ?_)
   | (with_reducible refine LeO.bind ?_ (fun _ => ?_))
   | exact spec_weAll.mono _ _ _
   | exact LeO.none _
   | refine LeO.ite ?_ ?_
   | refine LeO.bind ?_ (fun _ => ?_)
set_option maxHeartbeats 8000000 in
set_option maxRecDepth 100000 in
theorem spec_LevelsWith.calls (k : Nat) (a0 : Int) (a1 : Int) (r1 : List Int) (r2 : Bool) (w : World) (h : spec_LevelsWith.f k a0 a1 = some (r1, r2)) :
  Calls Tryd.prog 7 #[.int .i64 a0, .int .i64 a1] w fun e w' => ∃ v0_ : Value, e = .returned (.tuple #[v0_, .bool r2]) ∧ Kd.V (Kd.int .i64) 3 w' w.heap.size (fun k_ => (w.heap.size ≤ k_)) v0_ r1 ∧ Below w.heap.size w w' := by
 have HB := Aside0.mk (Below.refl w.heap.size w)
 have H : ((spec_l1In.f a0 0 6).bind fun t324 => (if t324 = true then ((spec_weAll.f k ([] : List Int) a0).bind fun t325 => ((spec_l1In.f a1 0 (wrap64 ((t325.length : Int) - 1))).bind fun t328 => (if t328 = true then (if 0 ≤ a1 then (if a1 < (t325.length : Int) then (some (rd_L2 t325 a1, true)) else (none)) else (none)) else (some (([] : List Int), false))))) else (some (([] : List Int), false)))) = some (r1, r2) := h
 clear h
 replace H := Option.bind_eq_some_iff.mp H
 obtain ⟨t324, A30, H⟩ := H
 replace H : (if t324 = true then ((spec_weAll.f k ([] : List Int) a0).bind fun t325 => ((spec_l1In.f a1 0 (wrap64 ((t325.length : Int) - 1))).bind fun t328 => (if t328 = true then (if 0 ≤ a1 then (if a1 < (t325.length : Int) then (some (rd_L2 t325 a1, true)) else (none)) else (none)) else (some (([] : List Int), false))))) else (some (([] : List Int), false))) = some (r1, r2) := H
 have A3 := Aside0.mk A30
 clear A30
 by_cases c4 : t324 = true
 ·subst c4
  have H1 : ((spec_weAll.f k ([] : List Int) a0).bind fun t325 => ((spec_l1In.f a1 0 (wrap64 ((t325.length : Int) - 1))).bind fun t328 => (if t328 = true then (if 0 ≤ a1 then (if a1 < (t325.length : Int) then (some (rd_L2 t325 a1, true)) else (none)) else (none)) else (some (([] : List Int), false))))) = some (r1, r2) := by rw [if_pos rfl] at H; exact H
  clear H
  have H := H1
  clear H1
  replace H := Option.bind_eq_some_iff.mp H
  obtain ⟨t325, A50, H⟩ := H
  replace H : ((spec_l1In.f a1 0 (wrap64 ((t325.length : Int) - 1))).bind fun t328 => (if t328 = true then (if 0 ≤ a1 then (if a1 < (t325.length : Int) then (some (rd_L2 t325 a1, true)) else (none)) else (none)) else (some (([] : List Int), false)))) = some (r1, r2) := H
  have A5 := Aside0.mk A50
  clear A50
  replace H := Option.bind_eq_some_iff.mp H
  obtain ⟨t328, A60, H⟩ := H
  replace H : (if t328 = true then (if 0 ≤ a1 then (if a1 < (t325.length : Int) then (some (rd_L2 t325 a1, true)) else (none)) else (none)) else (some (([] : List Int), false))) = some (r1, r2) := H
  have A6 := Aside0.mk A60
  clear A60
  by_cases c7 : t328 = true
  ·subst c7
   have H1 : (if 0 ≤ a1 then (if a1 < (t325.length : Int) then (some (rd_L2 t325 a1, true)) else (none)) else (none)) = some (r1, r2) := by rw [if_pos rfl] at H; exact H
   clear H
   have H := H1
   clear H1
   by_cases c8 : 0 ≤ a1
   ·rw [if_pos c8] at H
    have c8b0 : decide (0 ≤ a1) = true := decide_eq_true c8
    clear c8
    by_cases c9 : a1 < (t325.length : Int)
    ·rw [if_pos c9] at H
     have c9b0 : decide (a1 < (t325.length : Int)) = true := decide_eq_true c9
     clear c9
     simp only [Option.some.injEq, Prod.mk.injEq] at H
     obtain ⟨rfl, rfl⟩ := H
     go_enter Tryd.func7, Tryd.ntmps7
     go_wp2_with (first | ((with_reducible refine gate_callee (f := 27) rfl ?_); refine goesL_ (some 8) rfl rfl Tryd.func27 (by kernel_rfl) rfl #[.int .i64 a0, .int .i64 0, .int .i64 6] rfl (by (try simp only [List.map_toArray, List.map_cons, List.map_nil]); first | done | rfl | (simp only [List.length_drop, List.length_take]; rfl)) ?_; (with_reducible refine (spec_l1In.calls a0 0 6 true _ A3.out).mono ?_); rintro e w' ⟨rfl, ⟨nd, rfl⟩⟩; refine ⟨_, rfl, ?_⟩) | ((with_reducible refine gate_callee (f := 28) rfl ?_); refine goesL_ (some 11) rfl rfl Tryd.func28 (by kernel_rfl) rfl #[.slice none 0 0, .int .i64 a0] rfl (by (try simp only [List.map_toArray, List.map_cons, List.map_nil]); first | done | rfl | (simp only [List.length_drop, List.length_take]; rfl)) ?_; (refine (spec_weAll.calls k _ _ ([] : List Int) a0 t325 _ ?side1 ?side2 A5.out).mono ?_); (case side1 => exact Kd.C_nil _ _); (case side2 => exact Nat.le_refl _); rintro e w10 ⟨v326, rfl, ho0, hb⟩; refine ⟨_, rfl, ?_⟩; have n0_ := Aside0.mk (Kd.N_lower (Kd.N_mono (ok' := fun k_ => (w.heap.size ≤ k_)) ho0 (fun k_ hk_ => (Nat.le_trans (below_size (by repeat (first | (with_reducible first | exact HB.out | apply below_alloc | apply pw_below_drewN | apply below_drew1) | exact HB.out))) hk_))) (below_size (by repeat (first | (with_reducible first | exact HB.out | apply below_alloc | apply pw_below_drewN | apply below_drew1) | exact HB.out)))); have n1_ := Aside0.mk (below_step (by repeat (first | (with_reducible first | exact HB.out | apply below_alloc | apply pw_below_drewN | apply below_drew1) | exact HB.out)) hb); clear HB; have HO327 := n0_; have HB := n1_; clear n0_ n1_; (try clear hb); (try clear hb2); (try clear hk); (try clear hi); (try clear ho0); obtain ⟨Ao11, co11, eo11⟩ := Kd.N_slice HO327.out; subst eo11) | ((with_reducible refine gate_callee (f := 27) rfl ?_); refine goesL_ (some 16) rfl rfl Tryd.func27 (by kernel_rfl) rfl #[.int .i64 a1, .int .i64 0, .int .i64 (wrap64 ((t325.length : Int) - 1))] rfl (by (try simp only [List.map_toArray, List.map_cons, List.map_nil]); first | done | rfl | (simp only [List.length_drop, List.length_take]; rfl)) ?_; (with_reducible refine (spec_l1In.calls a1 0 (wrap64 ((t325.length : Int) - 1)) true _ A6.out).mono ?_); rintro e w' ⟨rfl, ⟨nd, rfl⟩⟩; refine ⟨_, rfl, ?_⟩; have p329 : 0 ≤ (a1 : Int) := of_decide_eq_true (by first | (with_reducible assumption) | assumption); have q329 : a1 < (t325.length : Int) := of_decide_eq_true (by first | (with_reducible assumption) | assumption); obtain ⟨ad329, A329_0, c329_0, e329, hx329_0, hl329_0, hi329_0⟩ := at_L2 (Kd.N_reads' HO327.out).2.2 a1 p329 q329; cases e329; obtain ⟨ce329, hce329, hMe329, hcc329⟩ := Kd.N_get HO327.out [] a1 p329 (by first | exact q329 | exact of_decide_eq_true (by first | (with_reducible assumption) | assumption) | (have e_ := (Kd.N_reads' HO327.out).1; omega)); obtain ⟨ua329_0, uc329_0, rfl, ul329_0, ge329_0⟩ := Kd.FK_slice_open hMe329; have hv329_0 := hcc329 0 _ rfl; rw [Nat.add_zero, show ((Kd.slice 3 (Kd.int .i64))).sz = 1 from rfl, Nat.mul_one] at hv329_0; replace hv329_0 := Option.some.inj (hv329_0.symm.trans hx329_0); injection hv329_0 with hva_ hvn_ hvc_; rw [hva_] at ge329_0; rw [hvc_] at ul329_0; have HL329_0 := Aside0.mk (show Kd.V (Kd.int .i64) 3 _ w.heap.size _ _ (rd_L2 t325 a1) from Kd.V_mk ul329_0 ge329_0); clear hva_ hvn_ hvc_ ge329_0 ul329_0; clear hcc329 hce329; have HR329_0 := Aside0.mk hi329_0; have HC329_0 := Aside0.mk hl329_0; clear hi329_0 hl329_0; replace p329 := eq_true p329; replace q329 := eq_true q329))
     go_ret2
     exact ⟨_, by first | rfl | (simp [errW_none, errW_some] <;> rfl) | (simp [*, errW_none, errW_some] <;> rfl), by (with_reducible repeat (first | apply Kd.V_alloc | apply Kd.V_drewN | apply Kd.V_drew)); exact Kd.V_mono HL329_0.out (fun _ hk => hk.1), by repeat (first | (with_reducible first | exact HB.out | apply below_alloc | apply pw_below_drewN | apply below_drew1) | exact HB.out)⟩
    ·rw [if_neg c9] at H
     exact absurd H (by simp)
   ·rw [if_neg c8] at H
    exact absurd H (by simp)
  ·replace c7 := Bool.eq_false_iff.mpr c7
   subst c7
   have H1 : (some (([] : List Int), false)) = some (r1, r2) := by rw [if_neg (show ¬ (false = true) by decide)] at H; exact H
   clear H
   have H := H1
   clear H1
   simp only [Option.some.injEq, Prod.mk.injEq] at H
   obtain ⟨rfl, rfl⟩ := H
   go_enter Tryd.func7, Tryd.ntmps7
   go_wp2_with (first | ((with_reducible refine gate_callee (f := 27) rfl ?_); refine goesL_ (some 8) rfl rfl Tryd.func27 (by kernel_rfl) rfl #[.int .i64 a0, .int .i64 0, .int .i64 6] rfl (by (try simp only [List.map_toArray, List.map_cons, List.map_nil]); first | done | rfl | (simp only [List.length_drop, List.length_take]; rfl)) ?_; (with_reducible refine (spec_l1In.calls a0 0 6 true _ A3.out).mono ?_); rintro e w' ⟨rfl, ⟨nd, rfl⟩⟩; refine ⟨_, rfl, ?_⟩) | ((with_reducible refine gate_callee (f := 28) rfl ?_); refine goesL_ (some 11) rfl rfl Tryd.func28 (by kernel_rfl) rfl #[.slice none 0 0, .int .i64 a0] rfl (by (try simp only [List.map_toArray, List.map_cons, List.map_nil]); first | done | rfl | (simp only [List.length_drop, List.length_take]; rfl)) ?_; (refine (spec_weAll.calls k _ _ ([] : List Int) a0 t325 _ ?side1 ?side2 A5.out).mono ?_); (case side1 => exact Kd.C_nil _ _); (case side2 => exact Nat.le_refl _); rintro e w12 ⟨v326, rfl, ho0, hb⟩; refine ⟨_, rfl, ?_⟩; have n0_ := Aside0.mk (Kd.N_lower (Kd.N_mono (ok' := fun k_ => (w.heap.size ≤ k_)) ho0 (fun k_ hk_ => (Nat.le_trans (below_size (by repeat (first | (with_reducible first | exact HB.out | apply below_alloc | apply pw_below_drewN | apply below_drew1) | exact HB.out))) hk_))) (below_size (by repeat (first | (with_reducible first | exact HB.out | apply below_alloc | apply pw_below_drewN | apply below_drew1) | exact HB.out)))); have n1_ := Aside0.mk (below_step (by repeat (first | (with_reducible first | exact HB.out | apply below_alloc | apply pw_below_drewN | apply below_drew1) | exact HB.out)) hb); clear HB; have HO327 := n0_; have HB := n1_; clear n0_ n1_; (try clear hb); (try clear hb2); (try clear hk); (try clear hi); (try clear ho0); obtain ⟨Ao13, co13, eo13⟩ := Kd.N_slice HO327.out; subst eo13) | ((with_reducible refine gate_callee (f := 27) rfl ?_); refine goesL_ (some 16) rfl rfl Tryd.func27 (by kernel_rfl) rfl #[.int .i64 a1, .int .i64 0, .int .i64 (wrap64 ((t325.length : Int) - 1))] rfl (by (try simp only [List.map_toArray, List.map_cons, List.map_nil]); first | done | rfl | (simp only [List.length_drop, List.length_take]; rfl)) ?_; (with_reducible refine (spec_l1In.calls a1 0 (wrap64 ((t325.length : Int) - 1)) false _ A6.out).mono ?_); rintro e w' ⟨rfl, ⟨nd, rfl⟩⟩; refine ⟨_, rfl, ?_⟩))
   go_ret2
   exact ⟨_, by first | rfl | (simp [errW_none, errW_some] <;> rfl) | (simp [*, errW_none, errW_some] <;> rfl), (by first | exact Kd.V_nil _ _ _ _ _ | exact Kd.R_V (Kd.R_nil _ _ _ _ _)), by repeat (first | (with_reducible first | exact HB.out | apply below_alloc | apply pw_below_drewN | apply below_drew1) | exact HB.out)⟩
 ·replace c4 := Bool.eq_false_iff.mpr c4
  subst c4
  have H1 : (some (([] : List Int), false)) = some (r1, r2) := by rw [if_neg (show ¬ (false = true) by decide)] at H; exact H
  clear H
  have H := H1
  clear H1
  simp only [Option.some.injEq, Prod.mk.injEq] at H
  obtain ⟨rfl, rfl⟩ := H
  go_enter Tryd.func7, Tryd.ntmps7
  go_wp2_with (first | ((with_reducible refine gate_callee (f := 27) rfl ?_); refine goesL_ (some 8) rfl rfl Tryd.func27 (by kernel_rfl) rfl #[.int .i64 a0, .int .i64 0, .int .i64 6] rfl (by (try simp only [List.map_toArray, List.map_cons, List.map_nil]); first | done | rfl | (simp only [List.length_drop, List.length_take]; rfl)) ?_; (with_reducible refine (spec_l1In.calls a0 0 6 false _ A3.out).mono ?_); rintro e w' ⟨rfl, ⟨nd, rfl⟩⟩; refine ⟨_, rfl, ?_⟩))
  go_ret2
  exact ⟨_, by first | rfl | (simp [errW_none, errW_some] <;> rfl) | (simp [*, errW_none, errW_some] <;> rfl), (by first | exact Kd.V_nil _ _ _ _ _ | exact Kd.R_V (Kd.R_nil _ _ _ _ _)), by repeat (first | (with_reducible first | exact HB.out | apply below_alloc | apply pw_below_drewN | apply below_drew1) | exact HB.out)⟩
end Go.Proofs.YtfpicdkanmgdoaaDoor.Q
