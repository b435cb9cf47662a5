import Derived.Test.YtmdnbjhboppkdaaDoorBFnMajorities5
import Derived.Test.YtmdnbjhboppkdaaDoorBFnMajorities12
import Derived.Test.YtmdnbjhboppkdaaDoorBFnMajorities24
namespace Go.Proofs.YtmdnbjhboppkdaaDoor.Q
open Go.RowKit Go.Proofs.YtmdnbjhboppkdaaDoorW.PrintWords Go.Proofs.YtmdnbjhboppkdaaDoorW.PrintLast Go.Proofs.YtmdnbjhboppkdaaDoorW.PrintMore
attribute [local go_sem] max2_int min2_int max_two min_two max_three min_three max_four min_four neB_f
set_option linter.unusedVariables false
set_option maxHeartbeats 8000000
set_option maxRecDepth 100000
set_option linter.unusedSimpArgs false
mutual
def laws_FnMajorities.j4 : Nat → List Int → Option (Bool)
 | 0, _ => none
 | k + 1, x1 => (spec_DrawPairDistance.f k x1).bind fun bt810 => ((impl_PairDistance.f k bt810.1 bt810.2.1 bt810.2.2.1 bt810.2.2.2).bind fun bt820 => ((spec_PairDistance.f k bt810.1 bt810.2.1 bt810.2.2.1 bt810.2.2.2).bind fun bt822 => (if (bt820.2 != bt822.2) = true then (none) else (if bt820.1 = bt822.1 then (if bt820.2 = true then ((impl_PairDistance.f k bt810.2.2.1 bt810.2.2.2 bt810.1 bt810.2.1).bind fun bt824 => (if bt824.2 = true then (if bt824.1 = bt820.1 then ((laws_vOrder.f k bt810.1 bt810.2.1 bt810.2.2.1 bt810.2.2.2).bind fun t826 => (some ((bt820.1 == 0) == t826))) else (none)) else (none))) else (some true)) else (none)))))
def laws_FnMajorities.j0 : Nat → List Int → List (List Int) → List Int → Bool → Int → List Int → Option (Bool)
 | 0, _, _, _, _, _, _ => none
 | k + 1, x1, x5, x10, x101, x777000, x777001 => if x101 = true then (none) else (laws_FnMajorities.l0 k x1 x5 x10 (x10.length : Int) 0 x777000 x777001)
def laws_FnMajorities.l0 : Nat → List Int → List (List Int) → List Int → Int → Int → Int → List Int → Option (Bool)
 | 0, _, _, _, _, _, _, _ => none
 | k + 1, x1, x5, x10, x103, x104, x777000, x777001 => if x104 < x103 then (laws_FnMajorities.l1 k x1 x5 x10 x104 x103 x104 (x10.length : Int) 0 x777000 x777001) else (laws_FnMajorities.j4 k x1)
def laws_FnMajorities.l1 : Nat → List Int → List (List Int) → List Int → Int → Int → Int → Int → Int → Int → List Int → Option (Bool)
 | 0, _, _, _, _, _, _, _, _, _, _ => none
 | k + 1, x1, x5, x10, x14, x103, x104, x108, x109, x777000, x777001 => if x109 < x108 then (laws_FnMajorities.l2 k x1 x5 x10 x14 x109 0 0 x103 x104 x108 x109 x5 (x5.length : Int) 0 x777000 x777001) else (laws_FnMajorities.l0 k x1 x5 x10 x103 (wrap64 (x104 + 1)) x777000 x777001)
def laws_FnMajorities.l2 : Nat → List Int → List (List Int) → List Int → Int → Int → Int → Int → Int → Int → Int → Int → List (List Int) → Int → Int → Int → List Int → Option (Bool)
 | 0, _, _, _, _, _, _, _, _, _, _, _, _, _, _, _, _ => none
 | k + 1, x1, x5, x10, x14, x15, x16, x17, x103, x104, x108, x109, x112, x113, x114, x777000, x777001 => if x114 < x113 then (if 0 ≤ x114 then (if x114 < (x112.length : Int) then (if 0 ≤ x15 then (if x15 < ((rd_L2 x112 x114).length : Int) then (if 0 ≤ x14 then (if x14 < ((rd_L2 x112 x114).length : Int) then (if (rd (rd_L2 x112 x114) x15) > (rd (rd_L2 x112 x114) x14) then (if (rd (rd_L2 x112 x114) x15) < (rd (rd_L2 x112 x114) x14) then (laws_FnMajorities.l2 k x1 x5 x10 x14 x15 (wrap64 (x16 + 1)) (wrap64 (x17 + 1)) x103 x104 x108 x109 x112 x113 (wrap64 (x114 + 1)) x777000 x777001) else (laws_FnMajorities.l2 k x1 x5 x10 x14 x15 (wrap64 (x16 + 1)) x17 x103 x104 x108 x109 x112 x113 (wrap64 (x114 + 1)) x777000 x777001)) else (if (rd (rd_L2 x112 x114) x15) < (rd (rd_L2 x112 x114) x14) then (laws_FnMajorities.l2 k x1 x5 x10 x14 x15 x16 (wrap64 (x17 + 1)) x103 x104 x108 x109 x112 x113 (wrap64 (x114 + 1)) x777000 x777001) else (laws_FnMajorities.l2 k x1 x5 x10 x14 x15 x16 x17 x103 x104 x108 x109 x112 x113 (wrap64 (x114 + 1)) x777000 x777001))) else (none)) else (none)) else (none)) else (none)) else (none)) else (none)) else ((impl_IsBetter.f k x777000 x777001 x14 x15).bind fun bt797 => (if bt797.2 = true then (if (bt797.1 != (decide (x16 > x17))) = true then (none) else (if x17 = 0 then (if 0 ≤ x15 then (if x15 < (x10.length : Int) then (if 0 ≤ x14 then (if x14 < (x10.length : Int) then (if (rd x10 x15) < (rd x10 x14) then (none) else (if x16 > 0 then (if (rd x10 x15) = (rd x10 x14) then (none) else (laws_FnMajorities.l1 k x1 x5 x10 x14 x103 x104 x108 (wrap64 (x109 + 1)) x777000 x777001)) else (laws_FnMajorities.l1 k x1 x5 x10 x14 x103 x104 x108 (wrap64 (x109 + 1)) x777000 x777001))) else (none)) else (none)) else (none)) else (none)) else (laws_FnMajorities.l1 k x1 x5 x10 x14 x103 x104 x108 (wrap64 (x109 + 1)) x777000 x777001))) else (none)))
end
def laws_FnMajorities.f (k : Nat) (l0 : List Int) (l1 : List Int) : Option (Bool) := (laws_big.f l0 l1).bind fun t767 => (if t767 = true then (some true) else ((spec_DrawMajorityOf.f k l0).bind fun t768 => ((impl_MajorityOf.f k t768).bind fun bt771 => ((spec_MajorityOf.f k t768).bind fun bt777 => ((impl_MeanLevels.f k t768).bind fun bt783 => ((spec_MeanLevels.f k t768).bind fun bt787 => (if (bt771.2.2 != bt777.2.2) = true then (none) else ((laws_vOrder.f k bt771.1 bt771.2.1 bt777.1 bt777.2.1).bind fun t791 => (if t791 = true then (if (bt783.2 != bt787.2) = true then (none) else ((laws_vSame.f k bt783.1 bt787.1).bind fun t792 => (if t792 = true then (if (bt771.2.2 != bt783.2) = true then (none) else (if bt771.2.2 = true then ((impl_IsRelation.f k bt771.1 bt771.2.1).bind fun t793 => (if t793 = true then ((impl_AreLevels.f k bt783.1).bind fun t794 => (if t794 = true then (if (t768.length : Int) = 1 then (if 0 < (t768.length : Int) then ((laws_vSame.f k bt783.1 (rd_L2 t768 0)).bind fun t796 => (laws_FnMajorities.j0 k l1 t768 bt783.1 (!t796) bt771.1 bt771.2.1)) else (none)) else (laws_FnMajorities.j0 k l1 t768 bt783.1 false bt771.1 bt771.2.1)) else (none))) else (none))) else (laws_FnMajorities.j4 k l1))) else (none)))) else (none))))))))))
theorem laws_FnMajorities.mono_l : ∀ k, (∀ y0, LeO (laws_FnMajorities.j4 k y0) (laws_FnMajorities.j4 (k + 1) y0)) ∧ (∀ y0 y1 y2 y3 y4 y5, LeO (laws_FnMajorities.j0 k y0 y1 y2 y3 y4 y5) (laws_FnMajorities.j0 (k + 1) y0 y1 y2 y3 y4 y5)) ∧ (∀ y0 y1 y2 y3 y4 y5 y6, LeO (laws_FnMajorities.l0 k y0 y1 y2 y3 y4 y5 y6) (laws_FnMajorities.l0 (k + 1) y0 y1 y2 y3 y4 y5 y6)) ∧ (∀ y0 y1 y2 y3 y4 y5 y6 y7 y8 y9, LeO (laws_FnMajorities.l1 k y0 y1 y2 y3 y4 y5 y6 y7 y8 y9) (laws_FnMajorities.l1 (k + 1) y0 y1 y2 y3 y4 y5 y6 y7 y8 y9)) ∧ (∀ y0 y1 y2 y3 y4 y5 y6 y7 y8 y9 y10 y11 y12 y13 y14 y15, LeO (laws_FnMajorities.l2 k y0 y1 y2 y3 y4 y5 y6 y7 y8 y9 y10 y11 y12 y13 y14 y15) (laws_FnMajorities.l2 (k + 1) y0 y1 y2 y3 y4 y5 y6 y7 y8 y9 y10 y11 y12 y13 y14 y15))
 | 0 => ⟨fun _ r h => by simp [laws_FnMajorities.j4] at h, fun _ _ _ _ _ _ r h => by simp [laws_FnMajorities.j0] at h, fun _ _ _ _ _ _ _ r h => by simp [laws_FnMajorities.l0] at h, fun _ _ _ _ _ _ _ _ _ _ r h => by simp [laws_FnMajorities.l1] at h, fun _ _ _ _ _ _ _ _ _ _ _ _ _ _ _ _ r h => by simp [laws_FnMajorities.l2] at h⟩
 | k + 1 => by
  obtain ⟨ih0, ih1, ih2, ih3, ih4⟩ := laws_FnMajorities.mono_l k
  refine ⟨?_, ?_, ?_, ?_, ?_⟩ <;> intros
  unfold laws_FnMajorities.j4
  rotate_left
  unfold laws_FnMajorities.j0
  rotate_left
  unfold laws_FnMajorities.l0
  rotate_left
  unfold laws_FnMajorities.l1
  rotate_left
  unfold laws_FnMajorities.l2
  rotate_left
  all_goals repeat' (with_reducible first|apply ih0|apply ih1|apply ih2|apply ih3|apply ih4|apply impl_AreLevels.mono|apply impl_IsBetter.mono|apply impl_IsRelation.mono|apply impl_MajorityOf.mono|apply impl_MeanLevels.mono|apply impl_PairDistance.mono|apply laws_vOrder.mono|apply laws_vSame.mono|apply spec_DrawMajorityOf.mono|apply spec_DrawPairDistance.mono|apply spec_MajorityOf.mono|apply spec_MeanLevels.mono|apply spec_PairDistance.mono|apply LeO.refl|apply LeO.none|apply LeO.ite|apply LeO.bind|intro)
theorem laws_FnMajorities.mono : ∀ a0 a1 k, LeO (laws_FnMajorities.f k a0 a1) (laws_FnMajorities.f (k + 1) a0 a1) := by
 intro a0 a1 k
 obtain ⟨ih0, ih1, ih2, ih3, ih4⟩ := laws_FnMajorities.mono_l k
 unfold laws_FnMajorities.f
 repeat' (with_reducible first|apply ih0|apply ih1|apply ih2|apply ih3|apply ih4|apply impl_AreLevels.mono|apply impl_IsBetter.mono|apply impl_IsRelation.mono|apply impl_MajorityOf.mono|apply impl_MeanLevels.mono|apply impl_PairDistance.mono|apply laws_vOrder.mono|apply laws_vSame.mono|apply spec_DrawMajorityOf.mono|apply spec_DrawPairDistance.mono|apply spec_MajorityOf.mono|apply spec_MeanLevels.mono|apply spec_PairDistance.mono|apply LeO.refl|apply LeO.none|apply LeO.ite|apply LeO.bind|intro)
theorem laws_FnMajorities.calls (k : Nat) (A0 : Option Addr) (c0 : Nat) (l0 : List Int) (A1 : Option Addr) (c1 : Nat) (l1 : List Int) (r : Bool) (w : World) (hr0 : Kd.C (Kd.int .u8) w A0 l0.length l0) (hc0 : l0.length ≤ c0) (hr1 : Kd.C (Kd.int .u8) w A1 l1.length l1) (hc1 : l1.length ≤ c1) (hTAB : Tab w) (h : laws_FnMajorities.f k l0 l1 = some r) :
  Calls Tryd.prog 3 #[.slice A0 l0.length c0, .slice A1 l1.length c1] w fun e w' => e = .returned (.bool r) ∧ Below w.heap.size w w' := by
 have HTAB := mkA hTAB
 clear hTAB
 have hu28 := Tryd.underlying28
 have HR0 := mkA hr0
 have HC0 := mkA hc0
 clear hr0 hc0
 have HR1 := mkA hr1
 have HC1 := mkA hc1
 clear hr1 hc1
 have HB := mkA (Below.refl w.heap.size w)
 have H := h
 clear h
 unfold laws_FnMajorities.f at H
 obtain ⟨t767, A3, H⟩ := obE H
 by_cases c4 : t767 = true
 ·subst c4
  replace H := ifT H
  obtain rfl := Option.some.inj H
  go_enter Tryd.func3, Tryd.ntmps3
  go_wp2_with (first | (go_at_call 4; (with_reducible refine (laws_big.calls _ _ l0 _ _ l1 true _ ?s1 ?s2 ?s3 ?s4 A3.out).mono ?_); (case s1 => repeat (first | exact HR0.out | (with_reducible refine Kd.C_alloc ?_ _) | (with_reducible refine Kd.C_drewN ?_ _) | (with_reducible refine Kd.C_drew ?_))); (case s2 => exact HC0.out); (case s3 => repeat (first | exact HR1.out | (with_reducible refine Kd.C_alloc ?_ _) | (with_reducible refine Kd.C_drewN ?_ _) | (with_reducible refine Kd.C_drew ?_))); (case s4 => exact HC1.out); rintro e w' ⟨rfl, ⟨nd, rfl⟩⟩; (try first | exact ⟨rfl, _, World.drewN_drewN _ _ _⟩ | exact ⟨rfl, _, Eq.trans (World.drewN_drewN _ _ _) (congrArg (World.drewN _) (Nat.add_assoc _ _ _))⟩)))
  repeat (go_quiet (first | (go_at_call 4; (with_reducible refine (laws_big.calls _ _ l0 _ _ l1 true _ ?s1 ?s2 ?s3 ?s4 A3.out).mono ?_); (case s1 => repeat (first | exact HR0.out | (with_reducible refine Kd.C_alloc ?_ _) | (with_reducible refine Kd.C_drewN ?_ _) | (with_reducible refine Kd.C_drew ?_))); (case s2 => exact HC0.out); (case s3 => repeat (first | exact HR1.out | (with_reducible refine Kd.C_alloc ?_ _) | (with_reducible refine Kd.C_drewN ?_ _) | (with_reducible refine Kd.C_drew ?_))); (case s4 => exact HC1.out); rintro e w' ⟨rfl, ⟨nd, rfl⟩⟩; (try first | exact ⟨rfl, _, World.drewN_drewN _ _ _⟩ | exact ⟨rfl, _, Eq.trans (World.drewN_drewN _ _ _) (congrArg (World.drewN _) (Nat.add_assoc _ _ _))⟩))); try go_wp2_with (first | (go_at_call 4; (with_reducible refine (laws_big.calls _ _ l0 _ _ l1 true _ ?s1 ?s2 ?s3 ?s4 A3.out).mono ?_); (case s1 => repeat (first | exact HR0.out | (with_reducible refine Kd.C_alloc ?_ _) | (with_reducible refine Kd.C_drewN ?_ _) | (with_reducible refine Kd.C_drew ?_))); (case s2 => exact HC0.out); (case s3 => repeat (first | exact HR1.out | (with_reducible refine Kd.C_alloc ?_ _) | (with_reducible refine Kd.C_drewN ?_ _) | (with_reducible refine Kd.C_drew ?_))); (case s4 => exact HC1.out); rintro e w' ⟨rfl, ⟨nd, rfl⟩⟩; (try first | exact ⟨rfl, _, World.drewN_drewN _ _ _⟩ | exact ⟨rfl, _, Eq.trans (World.drewN_drewN _ _ _) (congrArg (World.drewN _) (Nat.add_assoc _ _ _))⟩))))
  go_ret
  exact ⟨eqE, bel_g HB.out⟩
 ·replace c4 := Bool.eq_false_iff.mpr c4
  subst c4
  replace H := ifF H
  obtain ⟨t768, A5, H⟩ := obE H
  obtain ⟨⟨t771, t772, t775⟩, A6, H⟩ := obE H
  dsimp only at H
  obtain ⟨⟨t777, t778, t781⟩, A7, H⟩ := obE H
  dsimp only at H
  obtain ⟨⟨t783, t784⟩, A8, H⟩ := obE H
  dsimp only at H
  obtain ⟨⟨t787, t788⟩, A9, H⟩ := obE H
  dsimp only at H
  obtain ⟨c10, H⟩ := itMP H
  have c10b0 : (t775 != t781) = false := by simpa using c10
  (try (have c10b1 : decide (t775 = t781) = true := by simpa using c10))
  (try (have c10b2 : (t775 == t781) = true := by simpa using c10))
  clear c10
  obtain ⟨t791, A11, H⟩ := obE H
  by_cases c12 : t791 = true
  ·subst c12
   replace H := ifT H
   obtain ⟨c13, H⟩ := itMP H
   have c13b0 : (t784 != t788) = false := by simpa using c13
   (try (have c13b1 : decide (t784 = t788) = true := by simpa using c13))
   (try (have c13b2 : (t784 == t788) = true := by simpa using c13))
   clear c13
   obtain ⟨t792, A14, H⟩ := obE H
   by_cases c15 : t792 = true
   ·subst c15
    replace H := ifT H
    obtain ⟨c16, H⟩ := itMP H
    have c16b0 : (t775 != t784) = false := by simpa using c16
    (try (have c16b1 : decide (t775 = t784) = true := by simpa using c16))
    (try (have c16b2 : (t775 == t784) = true := by simpa using c16))
    clear c16
    have HC17 := mkA H
    clear H
    go_enter Tryd.func3, Tryd.ntmps3
    go_upto_if 80 with (first | (go_at_call 4; (with_reducible refine (laws_big.calls _ _ l0 _ _ l1 false _ ?s1 ?s2 ?s3 ?s4 A3.out).mono ?_); (case s1 => repeat (first | exact HR0.out | (with_reducible refine Kd.C_alloc ?_ _) | (with_reducible refine Kd.C_drewN ?_ _) | (with_reducible refine Kd.C_drew ?_))); (case s2 => exact HC0.out); (case s3 => repeat (first | exact HR1.out | (with_reducible refine Kd.C_alloc ?_ _) | (with_reducible refine Kd.C_drewN ?_ _) | (with_reducible refine Kd.C_drew ?_))); (case s4 => exact HC1.out); rintro e w' ⟨rfl, ⟨nd, rfl⟩⟩; (try first | exact ⟨rfl, _, World.drewN_drewN _ _ _⟩ | exact ⟨rfl, _, Eq.trans (World.drewN_drewN _ _ _) (congrArg (World.drewN _) (Nat.add_assoc _ _ _))⟩)) | (go_at_call 5; (with_reducible refine (spec_DrawMajorityOf.calls k _ _ l0 t768 _ ?s1 ?s2 A5.out).mono ?_); (case s1 => repeat (first | exact HR0.out | (with_reducible refine Kd.C_alloc ?_ _) | (with_reducible refine Kd.C_drewN ?_ _) | (with_reducible refine Kd.C_drew ?_))); (case s2 => exact HC0.out); rintro e w18 ⟨v769, rfl, ho0, hb⟩; have HO770 := mkA (Kd.S_lower ho0 (below_size (bel_g HB.out))); replace HB := bst HB hb; clear hb ho0; obtain ⟨Ao19, co19, rfl⟩ := Kd.S_slice HO770.out) | (go_at_call 6; (with_reducible refine (impl_MajorityOf.calls k _ _ t768 t771 t772 t775 _ ?s1 ?s2 A6.out).mono ?_); (case s1 => repeat (first | exact (Kd.S_reads' HO770.out).2.2 | (with_reducible refine Kd.C_alloc ?_ _) | (with_reducible refine Kd.C_drewN ?_ _) | (with_reducible refine Kd.C_drew ?_))); (case s2 => exact (Kd.S_reads' HO770.out).2.1); rintro e w20 ⟨v773, rfl, ho0, hb⟩; replace HO770 := mkA (Kd.S_elder' (by (with_reducible repeat (first | apply Kd.S_alloc | apply Kd.S_drewN | apply Kd.S_drew)); exact HO770.out) (Kd.R_base ho0) hb); have HO774 := rLo ho0 HB; replace HB := bst HB hb; (try clear hb); (try clear hk); (try clear ho0)) | ((with_reducible refine gate_dst (N := 6) rfl ?_); (try (refine gate_guard (by rfl) ?_; dsimp only)); refine boxE (N := 6) (cs := #[.int .i64 0, .slice none 0 0]) (t := 28) ?_; intro gb776 hg w21 hbox hb; replace HO770 := mkA (Kd.S_below (by (with_reducible repeat (first | apply Kd.S_alloc | apply Kd.S_drewN | apply Kd.S_drew)); exact HO770.out) hb); replace HO774 := rB HO774 hb; have BK776 := mkA (hbox); have GE776 := geB HB hg; replace HB := bst HB hb; clear hb hbox hg; obtain ⟨hcz22_0, hcz22_1, hfz22_0, hfz22_1⟩ := blk2 BK776; obtain ⟨Ao23, co23, rfl⟩ := Kd.R_slice HO774.out) | (go_at_call 7; (with_reducible refine (spec_MajorityOf.calls k _ _ t768 t777 t778 t781 _ ?s1 ?s2 A7.out).mono ?_); (case s1 => refine (Kd.S_reads' (e := 26) (base := w.heap.size) (ok := fun k_ => (True ∧ some k_ ≠ (.slice Ao23 t772.length co23 : Value).ownBlock)) (n := t768.length) (c := co19) ?_).2.2; exact (by (with_reducible repeat (first | apply Kd.S_alloc | apply Kd.S_drewN | apply Kd.S_drew)); exact (Kd.S_mono (Kd.S_far (p := ⟨gb776, 1, none⟩) (Kd.S_far (p := ⟨gb776, 0, none⟩) (Kd.S_types HO770.out BK776.out (by decide)) (fun _ hk => hk.2) (.int .i64 t771)) (fun _ hk => hk.2) (.slice Ao23 t772.length co23)) (fun _ h_ => h_.1)))); (case s2 => exact (Kd.S_reads' HO770.out).2.1); rintro e w24 ⟨v779, rfl, ho0, hb⟩; replace HO770 := mkA (Kd.S_elder' (by (with_reducible repeat (first | apply Kd.S_alloc | apply Kd.S_drewN | apply Kd.S_drew)); exact (Kd.S_mono (Kd.S_far (p := ⟨gb776, 1, none⟩) (Kd.S_far (p := ⟨gb776, 0, none⟩) (Kd.S_types HO770.out BK776.out (by decide)) (fun _ hk => hk.2) (.int .i64 t771)) (fun _ hk => hk.2) (.slice Ao23 t772.length co23)) (fun _ h_ => h_.1))) (Kd.R_base ho0) hb); have HO780 := rLo (rNF ho0 HO774 BK776) HB; replace HO774 := rEF HO774 BK776 ho0 hb; replace BK776 := blkS BK776 hb; replace HB := bst HB hb; (try clear hb); (try clear hk); (try clear ho0)) | ((with_reducible refine gate_dst (N := 8) rfl ?_); (try (refine gate_guard (by rfl) ?_; dsimp only)); refine boxE (N := 8) (cs := #[.int .i64 0, .slice none 0 0]) (t := 28) ?_; intro gb782 hg w25 hbox hb; replace HO770 := mkA (Kd.S_below (by (with_reducible repeat (first | apply Kd.S_alloc | apply Kd.S_drewN | apply Kd.S_drew)); exact HO770.out) hb); replace HO774 := rB HO774 hb; replace HO780 := rB HO780 hb; have BK782 := mkA (hbox); have GE782 := geB HB hg; have NB776_782 := neL7 BK776 hg; have NB782_776 := neR7 BK776 hg; replace BK776 := blkB BK776 hb; replace HB := bst HB hb; clear hb hbox hg; obtain ⟨hcz27_0, hcz27_1, hfz27_0, hfz27_1⟩ := blk2 BK782; obtain ⟨Ao28, co28, rfl⟩ := Kd.R_slice HO780.out) | (go_at_call 8; (with_reducible refine (impl_MeanLevels.calls k _ _ t768 t783 t784 _ ?s1 ?s2 A8.out).mono ?_); (case s1 => refine (Kd.S_reads' (e := 26) (base := w.heap.size) (ok := fun k_ => ((True ∧ some k_ ≠ (.slice Ao23 t772.length co23 : Value).ownBlock) ∧ some k_ ≠ (.slice Ao28 t778.length co28 : Value).ownBlock)) (n := t768.length) (c := co19) ?_).2.2; exact (by (with_reducible repeat (first | apply Kd.S_alloc | apply Kd.S_drewN | apply Kd.S_drew)); exact (Kd.S_mono (Kd.S_far (p := ⟨gb782, 1, none⟩) (Kd.S_far (p := ⟨gb782, 0, none⟩) (Kd.S_types HO770.out BK782.out (by decide)) (fun _ hk => hk.2) (.int .i64 t777)) (fun _ hk => hk.2) (.slice Ao28 t778.length co28)) (fun _ h_ => h_.1)))); (case s2 => exact (Kd.S_reads' HO770.out).2.1); rintro e w29 ⟨v785, rfl, ho0, hb⟩; replace HO770 := mkA (Kd.S_elder' (by (with_reducible repeat (first | apply Kd.S_alloc | apply Kd.S_drewN | apply Kd.S_drew)); exact (Kd.S_mono (Kd.S_far (p := ⟨gb782, 1, none⟩) (Kd.S_far (p := ⟨gb782, 0, none⟩) (Kd.S_types HO770.out BK782.out (by decide)) (fun _ hk => hk.2) (.int .i64 t777)) (fun _ hk => hk.2) (.slice Ao28 t778.length co28)) (fun _ h_ => h_.1))) (Kd.R_base ho0) hb); have HO786 := rLo (rNF (rNF ho0 HO774 BK782) HO780 BK782) HB; replace HO774 := rEF HO774 BK782 ho0 hb; replace HO780 := rEF HO780 BK782 ho0 hb; replace BK776 := blkS BK776 hb; replace BK782 := blkS BK782 hb; replace HB := bst HB hb; (try clear hb); (try clear hk); (try clear ho0)) | (go_at_call 9; (with_reducible refine (spec_MeanLevels.calls k _ _ t768 t787 t788 _ ?s1 ?s2 A9.out).mono ?_); (case s1 => repeat (first | exact (Kd.S_reads' HO770.out).2.2 | (with_reducible refine Kd.C_alloc ?_ _) | (with_reducible refine Kd.C_drewN ?_ _) | (with_reducible refine Kd.C_drew ?_))); (case s2 => exact (Kd.S_reads' HO770.out).2.1); rintro e w30 ⟨v789, rfl, ho0, hb⟩; replace HO770 := mkA (Kd.S_elder' (by (with_reducible repeat (first | apply Kd.S_alloc | apply Kd.S_drewN | apply Kd.S_drew)); exact HO770.out) (Kd.R_base ho0) hb); have HO790 := rLo (rN (rN (rN ho0 HO774) HO780) HO786) HB; replace HO774 := rE HO774 ho0 hb; replace HO780 := rE HO780 ho0 hb; replace HO786 := rE HO786 ho0 hb; replace BK776 := blkB BK776 hb; replace BK782 := blkB BK782 hb; replace HB := bst HB hb; (try clear hb); (try clear hk); (try clear ho0); obtain ⟨hcz31_0, hcz31_1, hfz31_0, hfz31_1⟩ := blk2 BK776; obtain ⟨hcz32_0, hcz32_1, hfz32_0, hfz32_1⟩ := blk2 BK782) | (go_at_call 10; (with_reducible refine (laws_vOrder.calls k t771 _ _ t772 t777 _ _ t778 true _ ?_ ?_ ?_ ?_ A11.out).mono ?_); exact rC HO774; exact rL HO774; exact rC HO780; exact rL HO780; rintro e w33 ⟨rfl, hb⟩; replace HO770 := mkA (Kd.S_below (by (with_reducible repeat (first | apply Kd.S_alloc | apply Kd.S_drewN | apply Kd.S_drew)); exact HO770.out) hb); replace HO774 := rB HO774 hb; replace HO780 := rB HO780 hb; replace HO786 := rB HO786 hb; replace HO790 := rB HO790 hb; replace BK776 := blkB BK776 hb; replace BK782 := blkB BK782 hb; replace HB := bst HB hb; (try clear hb); (try clear hk); obtain ⟨Ao34, co34, rfl⟩ := Kd.R_slice HO786.out; obtain ⟨Ao35, co35, rfl⟩ := Kd.R_slice HO790.out) | (go_at_call 11; (with_reducible refine (laws_vSame.calls k _ _ t783 _ _ t787 true _ ?_ ?_ ?_ ?_ A14.out).mono ?_); exact rC HO786; exact rL HO786; exact rC HO790; exact rL HO790; rintro e w' ⟨rfl, ⟨nd, rfl⟩⟩; (try first | exact ⟨rfl, _, World.drewN_drewN _ _ _⟩ | exact ⟨rfl, _, Eq.trans (World.drewN_drewN _ _ _) (congrArg (World.drewN _) (Nat.add_assoc _ _ _))⟩)))
    repeat (go_quiet (first | (go_at_call 4; (with_reducible refine (laws_big.calls _ _ l0 _ _ l1 false _ ?s1 ?s2 ?s3 ?s4 A3.out).mono ?_); (case s1 => repeat (first | exact HR0.out | (with_reducible refine Kd.C_alloc ?_ _) | (with_reducible refine Kd.C_drewN ?_ _) | (with_reducible refine Kd.C_drew ?_))); (case s2 => exact HC0.out); (case s3 => repeat (first | exact HR1.out | (with_reducible refine Kd.C_alloc ?_ _) | (with_reducible refine Kd.C_drewN ?_ _) | (with_reducible refine Kd.C_drew ?_))); (case s4 => exact HC1.out); rintro e w' ⟨rfl, ⟨nd, rfl⟩⟩; (try first | exact ⟨rfl, _, World.drewN_drewN _ _ _⟩ | exact ⟨rfl, _, Eq.trans (World.drewN_drewN _ _ _) (congrArg (World.drewN _) (Nat.add_assoc _ _ _))⟩)) | (go_at_call 5; (with_reducible refine (spec_DrawMajorityOf.calls k _ _ l0 t768 _ ?s1 ?s2 A5.out).mono ?_); (case s1 => repeat (first | exact HR0.out | (with_reducible refine Kd.C_alloc ?_ _) | (with_reducible refine Kd.C_drewN ?_ _) | (with_reducible refine Kd.C_drew ?_))); (case s2 => exact HC0.out); rintro e w18 ⟨v769, rfl, ho0, hb⟩; have HO770 := mkA (Kd.S_lower ho0 (below_size (bel_g HB.out))); replace HB := bst HB hb; clear hb ho0; obtain ⟨Ao19, co19, rfl⟩ := Kd.S_slice HO770.out) | (go_at_call 6; (with_reducible refine (impl_MajorityOf.calls k _ _ t768 t771 t772 t775 _ ?s1 ?s2 A6.out).mono ?_); (case s1 => repeat (first | exact (Kd.S_reads' HO770.out).2.2 | (with_reducible refine Kd.C_alloc ?_ _) | (with_reducible refine Kd.C_drewN ?_ _) | (with_reducible refine Kd.C_drew ?_))); (case s2 => exact (Kd.S_reads' HO770.out).2.1); rintro e w20 ⟨v773, rfl, ho0, hb⟩; replace HO770 := mkA (Kd.S_elder' (by (with_reducible repeat (first | apply Kd.S_alloc | apply Kd.S_drewN | apply Kd.S_drew)); exact HO770.out) (Kd.R_base ho0) hb); have HO774 := rLo ho0 HB; replace HB := bst HB hb; (try clear hb); (try clear hk); (try clear ho0)) | ((with_reducible refine gate_dst (N := 6) rfl ?_); (try (refine gate_guard (by rfl) ?_; dsimp only)); refine boxE (N := 6) (cs := #[.int .i64 0, .slice none 0 0]) (t := 28) ?_; intro gb776 hg w21 hbox hb; replace HO770 := mkA (Kd.S_below (by (with_reducible repeat (first | apply Kd.S_alloc | apply Kd.S_drewN | apply Kd.S_drew)); exact HO770.out) hb); replace HO774 := rB HO774 hb; have BK776 := mkA (hbox); have GE776 := geB HB hg; replace HB := bst HB hb; clear hb hbox hg; obtain ⟨hcz22_0, hcz22_1, hfz22_0, hfz22_1⟩ := blk2 BK776; obtain ⟨Ao23, co23, rfl⟩ := Kd.R_slice HO774.out) | (go_at_call 7; (with_reducible refine (spec_MajorityOf.calls k _ _ t768 t777 t778 t781 _ ?s1 ?s2 A7.out).mono ?_); (case s1 => refine (Kd.S_reads' (e := 26) (base := w.heap.size) (ok := fun k_ => (True ∧ some k_ ≠ (.slice Ao23 t772.length co23 : Value).ownBlock)) (n := t768.length) (c := co19) ?_).2.2; exact (by (with_reducible repeat (first | apply Kd.S_alloc | apply Kd.S_drewN | apply Kd.S_drew)); exact (Kd.S_mono (Kd.S_far (p := ⟨gb776, 1, none⟩) (Kd.S_far (p := ⟨gb776, 0, none⟩) (Kd.S_types HO770.out BK776.out (by decide)) (fun _ hk => hk.2) (.int .i64 t771)) (fun _ hk => hk.2) (.slice Ao23 t772.length co23)) (fun _ h_ => h_.1)))); (case s2 => exact (Kd.S_reads' HO770.out).2.1); rintro e w24 ⟨v779, rfl, ho0, hb⟩; replace HO770 := mkA (Kd.S_elder' (by (with_reducible repeat (first | apply Kd.S_alloc | apply Kd.S_drewN | apply Kd.S_drew)); exact (Kd.S_mono (Kd.S_far (p := ⟨gb776, 1, none⟩) (Kd.S_far (p := ⟨gb776, 0, none⟩) (Kd.S_types HO770.out BK776.out (by decide)) (fun _ hk => hk.2) (.int .i64 t771)) (fun _ hk => hk.2) (.slice Ao23 t772.length co23)) (fun _ h_ => h_.1))) (Kd.R_base ho0) hb); have HO780 := rLo (rNF ho0 HO774 BK776) HB; replace HO774 := rEF HO774 BK776 ho0 hb; replace BK776 := blkS BK776 hb; replace HB := bst HB hb; (try clear hb); (try clear hk); (try clear ho0)) | ((with_reducible refine gate_dst (N := 8) rfl ?_); (try (refine gate_guard (by rfl) ?_; dsimp only)); refine boxE (N := 8) (cs := #[.int .i64 0, .slice none 0 0]) (t := 28) ?_; intro gb782 hg w25 hbox hb; replace HO770 := mkA (Kd.S_below (by (with_reducible repeat (first | apply Kd.S_alloc | apply Kd.S_drewN | apply Kd.S_drew)); exact HO770.out) hb); replace HO774 := rB HO774 hb; replace HO780 := rB HO780 hb; have BK782 := mkA (hbox); have GE782 := geB HB hg; have NB776_782 := neL7 BK776 hg; have NB782_776 := neR7 BK776 hg; replace BK776 := blkB BK776 hb; replace HB := bst HB hb; clear hb hbox hg; obtain ⟨hcz27_0, hcz27_1, hfz27_0, hfz27_1⟩ := blk2 BK782; obtain ⟨Ao28, co28, rfl⟩ := Kd.R_slice HO780.out) | (go_at_call 8; (with_reducible refine (impl_MeanLevels.calls k _ _ t768 t783 t784 _ ?s1 ?s2 A8.out).mono ?_); (case s1 => refine (Kd.S_reads' (e := 26) (base := w.heap.size) (ok := fun k_ => ((True ∧ some k_ ≠ (.slice Ao23 t772.length co23 : Value).ownBlock) ∧ some k_ ≠ (.slice Ao28 t778.length co28 : Value).ownBlock)) (n := t768.length) (c := co19) ?_).2.2; exact (by (with_reducible repeat (first | apply Kd.S_alloc | apply Kd.S_drewN | apply Kd.S_drew)); exact (Kd.S_mono (Kd.S_far (p := ⟨gb782, 1, none⟩) (Kd.S_far (p := ⟨gb782, 0, none⟩) (Kd.S_types HO770.out BK782.out (by decide)) (fun _ hk => hk.2) (.int .i64 t777)) (fun _ hk => hk.2) (.slice Ao28 t778.length co28)) (fun _ h_ => h_.1)))); (case s2 => exact (Kd.S_reads' HO770.out).2.1); rintro e w29 ⟨v785, rfl, ho0, hb⟩; replace HO770 := mkA (Kd.S_elder' (by (with_reducible repeat (first | apply Kd.S_alloc | apply Kd.S_drewN | apply Kd.S_drew)); exact (Kd.S_mono (Kd.S_far (p := ⟨gb782, 1, none⟩) (Kd.S_far (p := ⟨gb782, 0, none⟩) (Kd.S_types HO770.out BK782.out (by decide)) (fun _ hk => hk.2) (.int .i64 t777)) (fun _ hk => hk.2) (.slice Ao28 t778.length co28)) (fun _ h_ => h_.1))) (Kd.R_base ho0) hb); have HO786 := rLo (rNF (rNF ho0 HO774 BK782) HO780 BK782) HB; replace HO774 := rEF HO774 BK782 ho0 hb; replace HO780 := rEF HO780 BK782 ho0 hb; replace BK776 := blkS BK776 hb; replace BK782 := blkS BK782 hb; replace HB := bst HB hb; (try clear hb); (try clear hk); (try clear ho0)) | (go_at_call 9; (with_reducible refine (spec_MeanLevels.calls k _ _ t768 t787 t788 _ ?s1 ?s2 A9.out).mono ?_); (case s1 => repeat (first | exact (Kd.S_reads' HO770.out).2.2 | (with_reducible refine Kd.C_alloc ?_ _) | (with_reducible refine Kd.C_drewN ?_ _) | (with_reducible refine Kd.C_drew ?_))); (case s2 => exact (Kd.S_reads' HO770.out).2.1); rintro e w30 ⟨v789, rfl, ho0, hb⟩; replace HO770 := mkA (Kd.S_elder' (by (with_reducible repeat (first | apply Kd.S_alloc | apply Kd.S_drewN | apply Kd.S_drew)); exact HO770.out) (Kd.R_base ho0) hb); have HO790 := rLo (rN (rN (rN ho0 HO774) HO780) HO786) HB; replace HO774 := rE HO774 ho0 hb; replace HO780 := rE HO780 ho0 hb; replace HO786 := rE HO786 ho0 hb; replace BK776 := blkB BK776 hb; replace BK782 := blkB BK782 hb; replace HB := bst HB hb; (try clear hb); (try clear hk); (try clear ho0); obtain ⟨hcz31_0, hcz31_1, hfz31_0, hfz31_1⟩ := blk2 BK776; obtain ⟨hcz32_0, hcz32_1, hfz32_0, hfz32_1⟩ := blk2 BK782) | (go_at_call 10; (with_reducible refine (laws_vOrder.calls k t771 _ _ t772 t777 _ _ t778 true _ ?_ ?_ ?_ ?_ A11.out).mono ?_); exact rC HO774; exact rL HO774; exact rC HO780; exact rL HO780; rintro e w33 ⟨rfl, hb⟩; replace HO770 := mkA (Kd.S_below (by (with_reducible repeat (first | apply Kd.S_alloc | apply Kd.S_drewN | apply Kd.S_drew)); exact HO770.out) hb); replace HO774 := rB HO774 hb; replace HO780 := rB HO780 hb; replace HO786 := rB HO786 hb; replace HO790 := rB HO790 hb; replace BK776 := blkB BK776 hb; replace BK782 := blkB BK782 hb; replace HB := bst HB hb; (try clear hb); (try clear hk); obtain ⟨Ao34, co34, rfl⟩ := Kd.R_slice HO786.out; obtain ⟨Ao35, co35, rfl⟩ := Kd.R_slice HO790.out) | (go_at_call 11; (with_reducible refine (laws_vSame.calls k _ _ t783 _ _ t787 true _ ?_ ?_ ?_ ?_ A14.out).mono ?_); exact rC HO786; exact rL HO786; exact rC HO790; exact rL HO790; rintro e w' ⟨rfl, ⟨nd, rfl⟩⟩; (try first | exact ⟨rfl, _, World.drewN_drewN _ _ _⟩ | exact ⟨rfl, _, Eq.trans (World.drewN_drewN _ _ _) (congrArg (World.drewN _) (Nat.add_assoc _ _ _))⟩))); go_upto_if 80 with (first | (go_at_call 4; (with_reducible refine (laws_big.calls _ _ l0 _ _ l1 false _ ?s1 ?s2 ?s3 ?s4 A3.out).mono ?_); (case s1 => repeat (first | exact HR0.out | (with_reducible refine Kd.C_alloc ?_ _) | (with_reducible refine Kd.C_drewN ?_ _) | (with_reducible refine Kd.C_drew ?_))); (case s2 => exact HC0.out); (case s3 => repeat (first | exact HR1.out | (with_reducible refine Kd.C_alloc ?_ _) | (with_reducible refine Kd.C_drewN ?_ _) | (with_reducible refine Kd.C_drew ?_))); (case s4 => exact HC1.out); rintro e w' ⟨rfl, ⟨nd, rfl⟩⟩; (try first | exact ⟨rfl, _, World.drewN_drewN _ _ _⟩ | exact ⟨rfl, _, Eq.trans (World.drewN_drewN _ _ _) (congrArg (World.drewN _) (Nat.add_assoc _ _ _))⟩)) | (go_at_call 5; (with_reducible refine (spec_DrawMajorityOf.calls k _ _ l0 t768 _ ?s1 ?s2 A5.out).mono ?_); (case s1 => repeat (first | exact HR0.out | (with_reducible refine Kd.C_alloc ?_ _) | (with_reducible refine Kd.C_drewN ?_ _) | (with_reducible refine Kd.C_drew ?_))); (case s2 => exact HC0.out); rintro e w18 ⟨v769, rfl, ho0, hb⟩; have HO770 := mkA (Kd.S_lower ho0 (below_size (bel_g HB.out))); replace HB := bst HB hb; clear hb ho0; obtain ⟨Ao19, co19, rfl⟩ := Kd.S_slice HO770.out) | (go_at_call 6; (with_reducible refine (impl_MajorityOf.calls k _ _ t768 t771 t772 t775 _ ?s1 ?s2 A6.out).mono ?_); (case s1 => repeat (first | exact (Kd.S_reads' HO770.out).2.2 | (with_reducible refine Kd.C_alloc ?_ _) | (with_reducible refine Kd.C_drewN ?_ _) | (with_reducible refine Kd.C_drew ?_))); (case s2 => exact (Kd.S_reads' HO770.out).2.1); rintro e w20 ⟨v773, rfl, ho0, hb⟩; replace HO770 := mkA (Kd.S_elder' (by (with_reducible repeat (first | apply Kd.S_alloc | apply Kd.S_drewN | apply Kd.S_drew)); exact HO770.out) (Kd.R_base ho0) hb); have HO774 := rLo ho0 HB; replace HB := bst HB hb; (try clear hb); (try clear hk); (try clear ho0)) | ((with_reducible refine gate_dst (N := 6) rfl ?_); (try (refine gate_guard (by rfl) ?_; dsimp only)); refine boxE (N := 6) (cs := #[.int .i64 0, .slice none 0 0]) (t := 28) ?_; intro gb776 hg w21 hbox hb; replace HO770 := mkA (Kd.S_below (by (with_reducible repeat (first | apply Kd.S_alloc | apply Kd.S_drewN | apply Kd.S_drew)); exact HO770.out) hb); replace HO774 := rB HO774 hb; have BK776 := mkA (hbox); have GE776 := geB HB hg; replace HB := bst HB hb; clear hb hbox hg; obtain ⟨hcz22_0, hcz22_1, hfz22_0, hfz22_1⟩ := blk2 BK776; obtain ⟨Ao23, co23, rfl⟩ := Kd.R_slice HO774.out) | (go_at_call 7; (with_reducible refine (spec_MajorityOf.calls k _ _ t768 t777 t778 t781 _ ?s1 ?s2 A7.out).mono ?_); (case s1 => refine (Kd.S_reads' (e := 26) (base := w.heap.size) (ok := fun k_ => (True ∧ some k_ ≠ (.slice Ao23 t772.length co23 : Value).ownBlock)) (n := t768.length) (c := co19) ?_).2.2; exact (by (with_reducible repeat (first | apply Kd.S_alloc | apply Kd.S_drewN | apply Kd.S_drew)); exact (Kd.S_mono (Kd.S_far (p := ⟨gb776, 1, none⟩) (Kd.S_far (p := ⟨gb776, 0, none⟩) (Kd.S_types HO770.out BK776.out (by decide)) (fun _ hk => hk.2) (.int .i64 t771)) (fun _ hk => hk.2) (.slice Ao23 t772.length co23)) (fun _ h_ => h_.1)))); (case s2 => exact (Kd.S_reads' HO770.out).2.1); rintro e w24 ⟨v779, rfl, ho0, hb⟩; replace HO770 := mkA (Kd.S_elder' (by (with_reducible repeat (first | apply Kd.S_alloc | apply Kd.S_drewN | apply Kd.S_drew)); exact (Kd.S_mono (Kd.S_far (p := ⟨gb776, 1, none⟩) (Kd.S_far (p := ⟨gb776, 0, none⟩) (Kd.S_types HO770.out BK776.out (by decide)) (fun _ hk => hk.2) (.int .i64 t771)) (fun _ hk => hk.2) (.slice Ao23 t772.length co23)) (fun _ h_ => h_.1))) (Kd.R_base ho0) hb); have HO780 := rLo (rNF ho0 HO774 BK776) HB; replace HO774 := rEF HO774 BK776 ho0 hb; replace BK776 := blkS BK776 hb; replace HB := bst HB hb; (try clear hb); (try clear hk); (try clear ho0)) | ((with_reducible refine gate_dst (N := 8) rfl ?_); (try (refine gate_guard (by rfl) ?_; dsimp only)); refine boxE (N := 8) (cs := #[.int .i64 0, .slice none 0 0]) (t := 28) ?_; intro gb782 hg w25 hbox hb; replace HO770 := mkA (Kd.S_below (by (with_reducible repeat (first | apply Kd.S_alloc | apply Kd.S_drewN | apply Kd.S_drew)); exact HO770.out) hb); replace HO774 := rB HO774 hb; replace HO780 := rB HO780 hb; have BK782 := mkA (hbox); have GE782 := geB HB hg; have NB776_782 := neL7 BK776 hg; have NB782_776 := neR7 BK776 hg; replace BK776 := blkB BK776 hb; replace HB := bst HB hb; clear hb hbox hg; obtain ⟨hcz27_0, hcz27_1, hfz27_0, hfz27_1⟩ := blk2 BK782; obtain ⟨Ao28, co28, rfl⟩ := Kd.R_slice HO780.out) | (go_at_call 8; (with_reducible refine (impl_MeanLevels.calls k _ _ t768 t783 t784 _ ?s1 ?s2 A8.out).mono ?_); (case s1 => refine (Kd.S_reads' (e := 26) (base := w.heap.size) (ok := fun k_ => ((True ∧ some k_ ≠ (.slice Ao23 t772.length co23 : Value).ownBlock) ∧ some k_ ≠ (.slice Ao28 t778.length co28 : Value).ownBlock)) (n := t768.length) (c := co19) ?_).2.2; exact (by (with_reducible repeat (first | apply Kd.S_alloc | apply Kd.S_drewN | apply Kd.S_drew)); exact (Kd.S_mono (Kd.S_far (p := ⟨gb782, 1, none⟩) (Kd.S_far (p := ⟨gb782, 0, none⟩) (Kd.S_types HO770.out BK782.out (by decide)) (fun _ hk => hk.2) (.int .i64 t777)) (fun _ hk => hk.2) (.slice Ao28 t778.length co28)) (fun _ h_ => h_.1)))); (case s2 => exact (Kd.S_reads' HO770.out).2.1); rintro e w29 ⟨v785, rfl, ho0, hb⟩; replace HO770 := mkA (Kd.S_elder' (by (with_reducible repeat (first | apply Kd.S_alloc | apply Kd.S_drewN | apply Kd.S_drew)); exact (Kd.S_mono (Kd.S_far (p := ⟨gb782, 1, none⟩) (Kd.S_far (p := ⟨gb782, 0, none⟩) (Kd.S_types HO770.out BK782.out (by decide)) (fun _ hk => hk.2) (.int .i64 t777)) (fun _ hk => hk.2) (.slice Ao28 t778.length co28)) (fun _ h_ => h_.1))) (Kd.R_base ho0) hb); have HO786 := rLo (rNF (rNF ho0 HO774 BK782) HO780 BK782) HB; replace HO774 := rEF HO774 BK782 ho0 hb; replace HO780 := rEF HO780 BK782 ho0 hb; replace BK776 := blkS BK776 hb; replace BK782 := blkS BK782 hb; replace HB := bst HB hb; (try clear hb); (try clear hk); (try clear ho0)) | (go_at_call 9; (with_reducible refine (spec_MeanLevels.calls k _ _ t768 t787 t788 _ ?s1 ?s2 A9.out).mono ?_); (case s1 => repeat (first | exact (Kd.S_reads' HO770.out).2.2 | (with_reducible refine Kd.C_alloc ?_ _) | (with_reducible refine Kd.C_drewN ?_ _) | (with_reducible refine Kd.C_drew ?_))); (case s2 => exact (Kd.S_reads' HO770.out).2.1); rintro e w30 ⟨v789, rfl, ho0, hb⟩; replace HO770 := mkA (Kd.S_elder' (by (with_reducible repeat (first | apply Kd.S_alloc | apply Kd.S_drewN | apply Kd.S_drew)); exact HO770.out) (Kd.R_base ho0) hb); have HO790 := rLo (rN (rN (rN ho0 HO774) HO780) HO786) HB; replace HO774 := rE HO774 ho0 hb; replace HO780 := rE HO780 ho0 hb; replace HO786 := rE HO786 ho0 hb; replace BK776 := blkB BK776 hb; replace BK782 := blkB BK782 hb; replace HB := bst HB hb; (try clear hb); (try clear hk); (try clear ho0); obtain ⟨hcz31_0, hcz31_1, hfz31_0, hfz31_1⟩ := blk2 BK776; obtain ⟨hcz32_0, hcz32_1, hfz32_0, hfz32_1⟩ := blk2 BK782) | (go_at_call 10; (with_reducible refine (laws_vOrder.calls k t771 _ _ t772 t777 _ _ t778 true _ ?_ ?_ ?_ ?_ A11.out).mono ?_); exact rC HO774; exact rL HO774; exact rC HO780; exact rL HO780; rintro e w33 ⟨rfl, hb⟩; replace HO770 := mkA (Kd.S_below (by (with_reducible repeat (first | apply Kd.S_alloc | apply Kd.S_drewN | apply Kd.S_drew)); exact HO770.out) hb); replace HO774 := rB HO774 hb; replace HO780 := rB HO780 hb; replace HO786 := rB HO786 hb; replace HO790 := rB HO790 hb; replace BK776 := blkB BK776 hb; replace BK782 := blkB BK782 hb; replace HB := bst HB hb; (try clear hb); (try clear hk); obtain ⟨Ao34, co34, rfl⟩ := Kd.R_slice HO786.out; obtain ⟨Ao35, co35, rfl⟩ := Kd.R_slice HO790.out) | (go_at_call 11; (with_reducible refine (laws_vSame.calls k _ _ t783 _ _ t787 true _ ?_ ?_ ?_ ?_ A14.out).mono ?_); exact rC HO786; exact rL HO786; exact rC HO790; exact rL HO790; rintro e w' ⟨rfl, ⟨nd, rfl⟩⟩; (try first | exact ⟨rfl, _, World.drewN_drewN _ _ _⟩ | exact ⟨rfl, _, Eq.trans (World.drewN_drewN _ _ _) (congrArg (World.drewN _) (Nat.add_assoc _ _ _))⟩))))
    (try simp only [Act.put, List.setIfInBounds_toArray, List.set_cons_zero, List.set_cons_succ])
    go_cut [] (fun wc => ∃ (kq : Nat), Fc (laws_FnMajorities.j4 kq l1 = some r) ∧ Fc (kq ≤ k) ∧ Fc (Kd.R (Kd.int .i64) 3 wc w.heap.size (fun k_ => some k_ ≠ ((.slice Ao28 t778.length co28) : Value).ownBlock) (.slice Ao23 t772.length co23) t772) ∧ Fc (Kd.R (Kd.int .i64) 3 wc w.heap.size (fun k_ => some k_ ≠ ((.slice Ao23 t772.length co23) : Value).ownBlock) (.slice Ao28 t778.length co28) t778) ∧ Fc (wc.heap[gb776]? = some (.cells #[.int .i64 t771, (.slice Ao23 t772.length co23)] 28 (0, 0))) ∧ Fc (wc.heap[gb782]? = some (.cells #[.int .i64 t777, (.slice Ao28 t778.length co28)] 28 (0, 0))) ∧ Fc (Below w.heap.size w wc))
    case first =>
     have H := HC17.out
     clear HC17
     by_cases c36 : t775 = true
     ·subst c36
      replace H := ifT H
      have HC37 := mkA H
      clear H
      go_upto_region 11 with (fail)
      repeat (go_quiet (fail); go_upto_region 11 with (fail))
      go_cut [101] (fun v101 wc => ∃ (kq : Nat) (x101_36 : Bool), v101 = .bool x101_36 ∧ Fc (laws_FnMajorities.j0 kq l1 t768 t783 x101_36 t771 t772 = some r) ∧ Fc (kq ≤ k) ∧ Fc (Kd.S (Kd.slice 3 (Kd.int .i64)) 26 wc w.heap.size (fun k_ => some k_ ≠ ((.slice Ao34 t783.length co34) : Value).ownBlock ∧ some k_ ≠ ((.slice Ao23 t772.length co23) : Value).ownBlock ∧ some k_ ≠ ((.slice Ao28 t778.length co28) : Value).ownBlock) (.slice Ao19 t768.length co19) t768) ∧ Fc (Kd.R (Kd.int .i64) 3 wc w.heap.size (fun k_ => some k_ ≠ ((.slice Ao23 t772.length co23) : Value).ownBlock ∧ some k_ ≠ ((.slice Ao28 t778.length co28) : Value).ownBlock) (.slice Ao34 t783.length co34) t783) ∧ Fc (Kd.R (Kd.int .i64) 3 wc w.heap.size (fun k_ => some k_ ≠ ((.slice Ao34 t783.length co34) : Value).ownBlock ∧ some k_ ≠ ((.slice Ao28 t778.length co28) : Value).ownBlock) (.slice Ao23 t772.length co23) t772) ∧ Fc (Kd.R (Kd.int .i64) 3 wc w.heap.size (fun k_ => some k_ ≠ ((.slice Ao34 t783.length co34) : Value).ownBlock ∧ some k_ ≠ ((.slice Ao23 t772.length co23) : Value).ownBlock) (.slice Ao28 t778.length co28) t778) ∧ Fc (wc.heap[gb776]? = some (.cells #[.int .i64 t771, (.slice Ao23 t772.length co23)] 28 (0, 0))) ∧ Fc (wc.heap[gb782]? = some (.cells #[.int .i64 t777, (.slice Ao28 t778.length co28)] 28 (0, 0))) ∧ Fc (Below w.heap.size w wc))
      case first =>
       have H := HC37.out
       clear HC37
       obtain ⟨t793, A38, H⟩ := obE H
       by_cases c39 : t793 = true
       ·subst c39
        replace H := ifT H
        obtain ⟨t794, A40, H⟩ := obE H
        by_cases c41 : t794 = true
        ·subst c41
         replace H := ifT H
         rcases iteP H with ⟨c42, H⟩ | ⟨c42, H⟩
         ·have c42b0 := beq_iff_eq.mpr c42
          have c42b1 := bne_eq_false_iff_eq.mpr c42
          clear c42
          (first | rw [c42b0] | (simp only [i64_w, i32_w]; rw [c42b0]) | skip)
          obtain ⟨c43, H⟩ := itNP H
          have c43b0 := decide_eq_true c43
          have c43b1 : decide (0 < t768.length) = true := decide_eq_true (by omega)
          clear c43
          obtain ⟨t796, A44, H⟩ := obE H
          have H' := mkA H
          clear H
          obtain ⟨_, _, _, _⟩ := blk2 BK776
          as_aux_lemma =>
           go_wp2_with (first | (go_at_call 12; (with_reducible refine (impl_IsRelation.calls k t771 _ _ t772 true _ ?_ ?_ A38.out).mono ?_); exact rC HO774; exact rL HO774; rintro e w47 ⟨rfl, hb⟩; replace HO770 := mkA (Kd.S_below (by (with_reducible repeat (first | apply Kd.S_alloc | apply Kd.S_drewN | apply Kd.S_drew)); exact HO770.out) hb); replace HO774 := rB HO774 hb; replace HO780 := rB HO780 hb; replace HO786 := rB HO786 hb; replace HO790 := rB HO790 hb; replace BK776 := blkB BK776 hb; replace BK782 := blkB BK782 hb; replace HB := bst HB hb; (try clear hb); (try clear hk)) | (go_at_call 13; (with_reducible refine (impl_AreLevels.calls k _ _ t783 true _ ?_ ?_ A40.out).mono ?_); exact rC HO786; exact rL HO786; rintro e w48 ⟨rfl, hb⟩; replace HO770 := mkA (Kd.S_below (by (with_reducible repeat (first | apply Kd.S_alloc | apply Kd.S_drewN | apply Kd.S_drew)); exact HO770.out) hb); replace HO774 := rB HO774 hb; replace HO780 := rB HO780 hb; replace HO786 := rB HO786 hb; replace HO790 := rB HO790 hb; replace BK776 := blkB BK776 hb; replace BK782 := blkB BK782 hb; replace HB := bst HB hb; (try clear hb); (try clear hk); have p795 : 0 ≤ (0 : Int) := (by omega); have q795 : 0 < (t768.length : Int) := ofd; obtain ⟨ad795, A795_0, c795_0, e795, hx795_0, hl795_0, hi795_0⟩ := at_L2 (Kd.S_reads' HO770.out).2.2 0 p795 q795; cases e795; obtain ⟨ce795, hce795, hMe795, hcc795⟩ := Kd.S_get HO770.out [] 0 p795 (by first | exact q795 | exact ofd | (have e_ := (Kd.S_reads' HO770.out).1; omega)); obtain ⟨ve795_0, rfl, ge795_0⟩ := hMe795; have hv795_0 := hcc795 0 _ rfl; rw [Nat.add_zero, show ((Kd.slice 3 (Kd.int .i64))).sz = 1 from rfl, Nat.mul_one] at hv795_0; replace hv795_0 := Option.some.inj (hv795_0.symm.trans hx795_0); rw [hv795_0] at ge795_0; have HL795_0 := mkA (show Kd.R (Kd.int .i64) 3 _ _ _ _ (rd_L2 t768 0) from ge795_0); clear hv795_0 ge795_0; clear hcc795 hce795; have qi795 : (0 < t768.length) = True := eq_true (by omega); (try rw [show ((0 : Int)).toNat = 0 from rfl] at hx795_0); (try rw [Addr.add_zero'] at hx795_0); have HR795_0 := mkA hi795_0; have HC795_0 := mkA hl795_0; clear hi795_0 hl795_0; replace p795 := eq_true p795; replace q795 := eq_true q795) | (go_at_call 11; (with_reducible refine (laws_vSame.calls k _ _ t783 _ _ (rd_L2 t768 0) t796 _ ?_ ?_ ?_ ?_ A44.out).mono ?_); exact rC HO786; exact rL HO786; exact C_h HR795_0; exact HC795_0.out; rintro e w' ⟨rfl, ⟨nd, rfl⟩⟩; (try first | exact ⟨rfl, _, World.drewN_drewN _ _ _⟩ | exact ⟨rfl, _, Eq.trans (World.drewN_drewN _ _ _) (congrArg (World.drewN _) (Nat.add_assoc _ _ _))⟩)))
           repeat (go_quiet (first | (go_at_call 12; (with_reducible refine (impl_IsRelation.calls k t771 _ _ t772 true _ ?_ ?_ A38.out).mono ?_); exact rC HO774; exact rL HO774; rintro e w47 ⟨rfl, hb⟩; replace HO770 := mkA (Kd.S_below (by (with_reducible repeat (first | apply Kd.S_alloc | apply Kd.S_drewN | apply Kd.S_drew)); exact HO770.out) hb); replace HO774 := rB HO774 hb; replace HO780 := rB HO780 hb; replace HO786 := rB HO786 hb; replace HO790 := rB HO790 hb; replace BK776 := blkB BK776 hb; replace BK782 := blkB BK782 hb; replace HB := bst HB hb; (try clear hb); (try clear hk)) | (go_at_call 13; (with_reducible refine (impl_AreLevels.calls k _ _ t783 true _ ?_ ?_ A40.out).mono ?_); exact rC HO786; exact rL HO786; rintro e w48 ⟨rfl, hb⟩; replace HO770 := mkA (Kd.S_below (by (with_reducible repeat (first | apply Kd.S_alloc | apply Kd.S_drewN | apply Kd.S_drew)); exact HO770.out) hb); replace HO774 := rB HO774 hb; replace HO780 := rB HO780 hb; replace HO786 := rB HO786 hb; replace HO790 := rB HO790 hb; replace BK776 := blkB BK776 hb; replace BK782 := blkB BK782 hb; replace HB := bst HB hb; (try clear hb); (try clear hk); have p795 : 0 ≤ (0 : Int) := (by omega); have q795 : 0 < (t768.length : Int) := ofd; obtain ⟨ad795, A795_0, c795_0, e795, hx795_0, hl795_0, hi795_0⟩ := at_L2 (Kd.S_reads' HO770.out).2.2 0 p795 q795; cases e795; obtain ⟨ce795, hce795, hMe795, hcc795⟩ := Kd.S_get HO770.out [] 0 p795 (by first | exact q795 | exact ofd | (have e_ := (Kd.S_reads' HO770.out).1; omega)); obtain ⟨ve795_0, rfl, ge795_0⟩ := hMe795; have hv795_0 := hcc795 0 _ rfl; rw [Nat.add_zero, show ((Kd.slice 3 (Kd.int .i64))).sz = 1 from rfl, Nat.mul_one] at hv795_0; replace hv795_0 := Option.some.inj (hv795_0.symm.trans hx795_0); rw [hv795_0] at ge795_0; have HL795_0 := mkA (show Kd.R (Kd.int .i64) 3 _ _ _ _ (rd_L2 t768 0) from ge795_0); clear hv795_0 ge795_0; clear hcc795 hce795; have qi795 : (0 < t768.length) = True := eq_true (by omega); (try rw [show ((0 : Int)).toNat = 0 from rfl] at hx795_0); (try rw [Addr.add_zero'] at hx795_0); have HR795_0 := mkA hi795_0; have HC795_0 := mkA hl795_0; clear hi795_0 hl795_0; replace p795 := eq_true p795; replace q795 := eq_true q795) | (go_at_call 11; (with_reducible refine (laws_vSame.calls k _ _ t783 _ _ (rd_L2 t768 0) t796 _ ?_ ?_ ?_ ?_ A44.out).mono ?_); exact rC HO786; exact rL HO786; exact C_h HR795_0; exact HC795_0.out; rintro e w' ⟨rfl, ⟨nd, rfl⟩⟩; (try first | exact ⟨rfl, _, World.drewN_drewN _ _ _⟩ | exact ⟨rfl, _, Eq.trans (World.drewN_drewN _ _ _) (congrArg (World.drewN _) (Nat.add_assoc _ _ _))⟩))); try go_wp2_with (first | (go_at_call 12; (with_reducible refine (impl_IsRelation.calls k t771 _ _ t772 true _ ?_ ?_ A38.out).mono ?_); exact rC HO774; exact rL HO774; rintro e w47 ⟨rfl, hb⟩; replace HO770 := mkA (Kd.S_below (by (with_reducible repeat (first | apply Kd.S_alloc | apply Kd.S_drewN | apply Kd.S_drew)); exact HO770.out) hb); replace HO774 := rB HO774 hb; replace HO780 := rB HO780 hb; replace HO786 := rB HO786 hb; replace HO790 := rB HO790 hb; replace BK776 := blkB BK776 hb; replace BK782 := blkB BK782 hb; replace HB := bst HB hb; (try clear hb); (try clear hk)) | (go_at_call 13; (with_reducible refine (impl_AreLevels.calls k _ _ t783 true _ ?_ ?_ A40.out).mono ?_); exact rC HO786; exact rL HO786; rintro e w48 ⟨rfl, hb⟩; replace HO770 := mkA (Kd.S_below (by (with_reducible repeat (first | apply Kd.S_alloc | apply Kd.S_drewN | apply Kd.S_drew)); exact HO770.out) hb); replace HO774 := rB HO774 hb; replace HO780 := rB HO780 hb; replace HO786 := rB HO786 hb; replace HO790 := rB HO790 hb; replace BK776 := blkB BK776 hb; replace BK782 := blkB BK782 hb; replace HB := bst HB hb; (try clear hb); (try clear hk); have p795 : 0 ≤ (0 : Int) := (by omega); have q795 : 0 < (t768.length : Int) := ofd; obtain ⟨ad795, A795_0, c795_0, e795, hx795_0, hl795_0, hi795_0⟩ := at_L2 (Kd.S_reads' HO770.out).2.2 0 p795 q795; cases e795; obtain ⟨ce795, hce795, hMe795, hcc795⟩ := Kd.S_get HO770.out [] 0 p795 (by first | exact q795 | exact ofd | (have e_ := (Kd.S_reads' HO770.out).1; omega)); obtain ⟨ve795_0, rfl, ge795_0⟩ := hMe795; have hv795_0 := hcc795 0 _ rfl; rw [Nat.add_zero, show ((Kd.slice 3 (Kd.int .i64))).sz = 1 from rfl, Nat.mul_one] at hv795_0; replace hv795_0 := Option.some.inj (hv795_0.symm.trans hx795_0); rw [hv795_0] at ge795_0; have HL795_0 := mkA (show Kd.R (Kd.int .i64) 3 _ _ _ _ (rd_L2 t768 0) from ge795_0); clear hv795_0 ge795_0; clear hcc795 hce795; have qi795 : (0 < t768.length) = True := eq_true (by omega); (try rw [show ((0 : Int)).toNat = 0 from rfl] at hx795_0); (try rw [Addr.add_zero'] at hx795_0); have HR795_0 := mkA hi795_0; have HC795_0 := mkA hl795_0; clear hi795_0 hl795_0; replace p795 := eq_true p795; replace q795 := eq_true q795) | (go_at_call 11; (with_reducible refine (laws_vSame.calls k _ _ t783 _ _ (rd_L2 t768 0) t796 _ ?_ ?_ ?_ ?_ A44.out).mono ?_); exact rC HO786; exact rL HO786; exact C_h HR795_0; exact HC795_0.out; rintro e w' ⟨rfl, ⟨nd, rfl⟩⟩; (try first | exact ⟨rfl, _, World.drewN_drewN _ _ _⟩ | exact ⟨rfl, _, Eq.trans (World.drewN_drewN _ _ _) (congrArg (World.drewN _) (Nat.add_assoc _ _ _))⟩))))
           go_meet
           case rel => exact ⟨_, (!t796), eqS, H', ⟨by first | omega | exact Nat.le_refl _⟩, ⟨by (with_reducible repeat (first | apply Kd.S_alloc | apply Kd.S_drewN | apply Kd.S_drew)); exact Kd.S_mono HO770.out (fun _ hk => ⟨hk.1.2, ⟨hk.1.1.1.2, hk.1.1.2⟩⟩)⟩, ⟨Kd.R_g (Kd.R_mono HO786.out (fun _ hk => ⟨hk.1.1.2, hk.1.2⟩))⟩, ⟨Kd.R_g (Kd.R_mono HO774.out (fun _ hk => ⟨hk.1.2, hk.1.1.2⟩))⟩, ⟨Kd.R_g (Kd.R_mono HO780.out (fun _ hk => ⟨hk.1.2, hk.1.1.2⟩))⟩, bg BK776, bg BK782, hbg HB⟩
         ·have c42b0 := beq_eq_false_iff_ne.mpr c42
          have c42b1 := bne_iff_ne.mpr c42
          (first | rw [c42b0] | (simp only [i64_w, i32_w]; rw [c42b0]) | skip)
          have H' := mkA H
          clear H
          obtain ⟨_, _, _, _⟩ := blk2 BK776
          as_aux_lemma =>
           go_wp2_with (first | (go_at_call 12; (with_reducible refine (impl_IsRelation.calls k t771 _ _ t772 true _ ?_ ?_ A38.out).mono ?_); exact rC HO774; exact rL HO774; rintro e w51 ⟨rfl, hb⟩; replace HO770 := mkA (Kd.S_below (by (with_reducible repeat (first | apply Kd.S_alloc | apply Kd.S_drewN | apply Kd.S_drew)); exact HO770.out) hb); replace HO774 := rB HO774 hb; replace HO780 := rB HO780 hb; replace HO786 := rB HO786 hb; replace HO790 := rB HO790 hb; replace BK776 := blkB BK776 hb; replace BK782 := blkB BK782 hb; replace HB := bst HB hb; (try clear hb); (try clear hk)) | (go_at_call 13; (with_reducible refine (impl_AreLevels.calls k _ _ t783 true _ ?_ ?_ A40.out).mono ?_); exact rC HO786; exact rL HO786; rintro e w52 ⟨rfl, hb⟩; replace HO770 := mkA (Kd.S_below (by (with_reducible repeat (first | apply Kd.S_alloc | apply Kd.S_drewN | apply Kd.S_drew)); exact HO770.out) hb); replace HO774 := rB HO774 hb; replace HO780 := rB HO780 hb; replace HO786 := rB HO786 hb; replace HO790 := rB HO790 hb; replace BK776 := blkB BK776 hb; replace BK782 := blkB BK782 hb; replace HB := bst HB hb; (try clear hb); (try clear hk)))
           repeat (go_quiet (first | (go_at_call 12; (with_reducible refine (impl_IsRelation.calls k t771 _ _ t772 true _ ?_ ?_ A38.out).mono ?_); exact rC HO774; exact rL HO774; rintro e w51 ⟨rfl, hb⟩; replace HO770 := mkA (Kd.S_below (by (with_reducible repeat (first | apply Kd.S_alloc | apply Kd.S_drewN | apply Kd.S_drew)); exact HO770.out) hb); replace HO774 := rB HO774 hb; replace HO780 := rB HO780 hb; replace HO786 := rB HO786 hb; replace HO790 := rB HO790 hb; replace BK776 := blkB BK776 hb; replace BK782 := blkB BK782 hb; replace HB := bst HB hb; (try clear hb); (try clear hk)) | (go_at_call 13; (with_reducible refine (impl_AreLevels.calls k _ _ t783 true _ ?_ ?_ A40.out).mono ?_); exact rC HO786; exact rL HO786; rintro e w52 ⟨rfl, hb⟩; replace HO770 := mkA (Kd.S_below (by (with_reducible repeat (first | apply Kd.S_alloc | apply Kd.S_drewN | apply Kd.S_drew)); exact HO770.out) hb); replace HO774 := rB HO774 hb; replace HO780 := rB HO780 hb; replace HO786 := rB HO786 hb; replace HO790 := rB HO790 hb; replace BK776 := blkB BK776 hb; replace BK782 := blkB BK782 hb; replace HB := bst HB hb; (try clear hb); (try clear hk))); try go_wp2_with (first | (go_at_call 12; (with_reducible refine (impl_IsRelation.calls k t771 _ _ t772 true _ ?_ ?_ A38.out).mono ?_); exact rC HO774; exact rL HO774; rintro e w51 ⟨rfl, hb⟩; replace HO770 := mkA (Kd.S_below (by (with_reducible repeat (first | apply Kd.S_alloc | apply Kd.S_drewN | apply Kd.S_drew)); exact HO770.out) hb); replace HO774 := rB HO774 hb; replace HO780 := rB HO780 hb; replace HO786 := rB HO786 hb; replace HO790 := rB HO790 hb; replace BK776 := blkB BK776 hb; replace BK782 := blkB BK782 hb; replace HB := bst HB hb; (try clear hb); (try clear hk)) | (go_at_call 13; (with_reducible refine (impl_AreLevels.calls k _ _ t783 true _ ?_ ?_ A40.out).mono ?_); exact rC HO786; exact rL HO786; rintro e w52 ⟨rfl, hb⟩; replace HO770 := mkA (Kd.S_below (by (with_reducible repeat (first | apply Kd.S_alloc | apply Kd.S_drewN | apply Kd.S_drew)); exact HO770.out) hb); replace HO774 := rB HO774 hb; replace HO780 := rB HO780 hb; replace HO786 := rB HO786 hb; replace HO790 := rB HO790 hb; replace BK776 := blkB BK776 hb; replace BK782 := blkB BK782 hb; replace HB := bst HB hb; (try clear hb); (try clear hk))))
           go_meet
           case rel => exact ⟨_, (false), eqS, H', ⟨by first | omega | exact Nat.le_refl _⟩, ⟨by (with_reducible repeat (first | apply Kd.S_alloc | apply Kd.S_drewN | apply Kd.S_drew)); exact Kd.S_mono HO770.out (fun _ hk => ⟨hk.1.2, ⟨hk.1.1.1.2, hk.1.1.2⟩⟩)⟩, ⟨Kd.R_g (Kd.R_mono HO786.out (fun _ hk => ⟨hk.1.1.2, hk.1.2⟩))⟩, ⟨Kd.R_g (Kd.R_mono HO774.out (fun _ hk => ⟨hk.1.2, hk.1.1.2⟩))⟩, ⟨Kd.R_g (Kd.R_mono HO780.out (fun _ hk => ⟨hk.1.2, hk.1.1.2⟩))⟩, bg BK776, bg BK782, hbg HB⟩
        ·replace c41 := Bool.eq_false_iff.mpr c41
         subst c41
         replace H := ifF H
         exact absurd H (by simp)
       ·replace c39 := Bool.eq_false_iff.mpr c39
        subst c39
        replace H := ifF H
        exact absurd H (by simp)
      case rest =>
       clear HC37
       try clear c1
       try clear c4
       try clear c10
       try clear c10b0
       try clear c10b1
       try clear c10b2
       try clear c12
       try clear c13
       try clear c13b0
       try clear c13b1
       try clear c13b2
       try clear c15
       try clear c16
       try clear c16b0
       try clear c16b1
       try clear c16b2
       try clear c36
       try clear c39
       try clear c41
       try clear c42
       try clear c42b0
       try clear c42b1
       try clear c43
       try clear c43b0
       try clear c43b1
       try clear hx795_0
       try clear p795
       try clear q795
       obtain ⟨kq, x101_36, rfl, HA, HJ36, HO_5, HO_10, HO_777001, HO_783001, BK776, BK782, HB⟩ := hcut
       cases kq with
       | zero => exact absurd HA.out (by simp [laws_FnMajorities.j0])
       | succ kj36 =>
        have H := HA.out
        clear HA
        simp only [laws_FnMajorities.j0] at H
        by_cases c53 : x101_36 = true
        ·subst c53
         replace H := ifT H
         exact absurd H (by simp)
        ·replace c53 := Bool.eq_false_iff.mpr c53
         subst c53
         replace H := ifF H
         have H' := mkA H
         clear H
         go_wp2
         repeat (go_quiet (fail); try go_wp2)
         go_loopg [104] kj36 (fun kq v104 w' => ∃ (x104_2 : Int), v104 = .int .i64 x104_2 ∧ Fc (laws_FnMajorities.l0 kq l1 t768 t783 (t783.length : Int) x104_2 t771 t772 = some r) ∧ Fc (kq ≤ kj36) ∧ Fc (Kd.S (Kd.slice 3 (Kd.int .i64)) 26 w' w.heap.size (fun k_ => some k_ ≠ ((.slice Ao34 t783.length co34) : Value).ownBlock ∧ some k_ ≠ ((.slice Ao23 t772.length co23) : Value).ownBlock ∧ some k_ ≠ ((.slice Ao28 t778.length co28) : Value).ownBlock) (.slice Ao19 t768.length co19) t768) ∧ Fc (Kd.R (Kd.int .i64) 3 w' w.heap.size (fun k_ => some k_ ≠ ((.slice Ao23 t772.length co23) : Value).ownBlock ∧ some k_ ≠ ((.slice Ao28 t778.length co28) : Value).ownBlock) (.slice Ao34 t783.length co34) t783) ∧ Fc (Kd.R (Kd.int .i64) 3 w' w.heap.size (fun k_ => some k_ ≠ ((.slice Ao34 t783.length co34) : Value).ownBlock ∧ some k_ ≠ ((.slice Ao28 t778.length co28) : Value).ownBlock) (.slice Ao23 t772.length co23) t772) ∧ Fc (Kd.R (Kd.int .i64) 3 w' w.heap.size (fun k_ => some k_ ≠ ((.slice Ao34 t783.length co34) : Value).ownBlock ∧ some k_ ≠ ((.slice Ao23 t772.length co23) : Value).ownBlock) (.slice Ao28 t778.length co28) t778) ∧ Fc (w'.heap[gb776]? = some (.cells #[.int .i64 t771, (.slice Ao23 t772.length co23)] 28 (0, 0))) ∧ Fc (w'.heap[gb782]? = some (.cells #[.int .i64 t777, (.slice Ao28 t778.length co28)] 28 (0, 0))) ∧ Fc (Below w.heap.size w w'))
         case atStart => exact ⟨(0), eqS, H', ⟨Nat.le_refl _⟩, ⟨by (with_reducible repeat (first | apply Kd.S_alloc | apply Kd.S_drewN | apply Kd.S_drew)); exact HO_5.out⟩, rg HO_10, rg HO_777001, rg HO_783001, bg BK776, bg BK782, hbg HB⟩
         case round =>
          clear H'
          try clear c1
          try clear c4
          try clear c10
          try clear c10b0
          try clear c10b1
          try clear c10b2
          try clear c12
          try clear c13
          try clear c13b0
          try clear c13b1
          try clear c13b2
          try clear c15
          try clear c16
          try clear c16b0
          try clear c16b1
          try clear c16b2
          try clear c36
          try clear c39
          try clear c41
          try clear c42
          try clear c42b0
          try clear c42b1
          try clear c43
          try clear c43b0
          try clear c43b1
          try clear c53
          try clear hx795_0
          try clear p795
          try clear q795
          obtain ⟨x104_2, rfl, HA, HK2, HO_5, HO_10, HO_777001, HO_783001, BK776, BK782, HB⟩ := hrel
          cases gk with
          | zero => exact absurd HA.out (by simp [laws_FnMajorities.l0])
          | succ k2 =>
           have H := HA.out
           clear HA
           simp only [laws_FnMajorities.l0] at H
           rcases iteE H with ⟨c54b0, H⟩ | ⟨c54b0, H⟩
           ·have H' := mkA H
            clear H
            go_wp2
            repeat (go_quiet (fail); try go_wp2)
            go_loopg [109] k2 (fun kq v109 w' => ∃ (x109_3 : Int), v109 = .int .i64 x109_3 ∧ Fc (laws_FnMajorities.l1 kq l1 t768 t783 x104_2 (t783.length : Int) x104_2 (t783.length : Int) x109_3 t771 t772 = some r) ∧ Fc (kq ≤ k2) ∧ Fc (Kd.S (Kd.slice 3 (Kd.int .i64)) 26 w' w.heap.size (fun k_ => some k_ ≠ ((.slice Ao34 t783.length co34) : Value).ownBlock ∧ some k_ ≠ ((.slice Ao23 t772.length co23) : Value).ownBlock ∧ some k_ ≠ ((.slice Ao28 t778.length co28) : Value).ownBlock) (.slice Ao19 t768.length co19) t768) ∧ Fc (Kd.R (Kd.int .i64) 3 w' w.heap.size (fun k_ => some k_ ≠ ((.slice Ao23 t772.length co23) : Value).ownBlock ∧ some k_ ≠ ((.slice Ao28 t778.length co28) : Value).ownBlock) (.slice Ao34 t783.length co34) t783) ∧ Fc (Kd.R (Kd.int .i64) 3 w' w.heap.size (fun k_ => some k_ ≠ ((.slice Ao34 t783.length co34) : Value).ownBlock ∧ some k_ ≠ ((.slice Ao28 t778.length co28) : Value).ownBlock) (.slice Ao23 t772.length co23) t772) ∧ Fc (Kd.R (Kd.int .i64) 3 w' w.heap.size (fun k_ => some k_ ≠ ((.slice Ao34 t783.length co34) : Value).ownBlock ∧ some k_ ≠ ((.slice Ao23 t772.length co23) : Value).ownBlock) (.slice Ao28 t778.length co28) t778) ∧ Fc (w'.heap[gb776]? = some (.cells #[.int .i64 t771, (.slice Ao23 t772.length co23)] 28 (0, 0))) ∧ Fc (w'.heap[gb782]? = some (.cells #[.int .i64 t777, (.slice Ao28 t778.length co28)] 28 (0, 0))) ∧ Fc (Below w.heap.size w w'))
            case atStart => exact ⟨(0), eqS, H', ⟨Nat.le_refl _⟩, ⟨by (with_reducible repeat (first | apply Kd.S_alloc | apply Kd.S_drewN | apply Kd.S_drew)); exact HO_5.out⟩, rg HO_10, rg HO_777001, rg HO_783001, bg BK776, bg BK782, hbg HB⟩
            case round =>
             clear H'
             try clear c1
             try clear c4
             try clear c10
             try clear c10b0
             try clear c10b1
             try clear c10b2
             try clear c12
             try clear c13
             try clear c13b0
             try clear c13b1
             try clear c13b2
             try clear c15
             try clear c16
             try clear c16b0
             try clear c16b1
             try clear c16b2
             try clear c36
             try clear c39
             try clear c41
             try clear c42
             try clear c42b0
             try clear c42b1
             try clear c43
             try clear c43b0
             try clear c43b1
             try clear c53
             try clear c54b0
             try clear hx795_0
             try clear p795
             try clear q795
             obtain ⟨x109_3, rfl, HA, HK3, HO_5, HO_10, HO_777001, HO_783001, BK776, BK782, HB⟩ := hrel
             cases gk with
             | zero => exact absurd HA.out (by simp [laws_FnMajorities.l1])
             | succ k3 =>
              have H := HA.out
              clear HA
              simp only [laws_FnMajorities.l1] at H
              rcases iteE H with ⟨c55b0, H⟩ | ⟨c55b0, H⟩
              ·have H' := mkA H
               clear H
               go_wp2
               repeat (go_quiet (fail); try go_wp2)
               go_loopg [16, 17, 114] k3 (fun kq v16 v17 v114 w' => ∃ (x16_4 : Int) (x17_4 : Int) (x114_4 : Int), v16 = .int .i64 x16_4 ∧ v17 = .int .i64 x17_4 ∧ v114 = .int .i64 x114_4 ∧ Fc (laws_FnMajorities.l2 kq l1 t768 t783 x104_2 x109_3 x16_4 x17_4 (t783.length : Int) x104_2 (t783.length : Int) x109_3 t768 (t768.length : Int) x114_4 t771 t772 = some r) ∧ Fc (kq ≤ k3) ∧ Fc (Kd.S (Kd.slice 3 (Kd.int .i64)) 26 w' w.heap.size (fun k_ => some k_ ≠ ((.slice Ao34 t783.length co34) : Value).ownBlock ∧ some k_ ≠ ((.slice Ao23 t772.length co23) : Value).ownBlock ∧ some k_ ≠ ((.slice Ao28 t778.length co28) : Value).ownBlock) (.slice Ao19 t768.length co19) t768) ∧ Fc (Kd.R (Kd.int .i64) 3 w' w.heap.size (fun k_ => some k_ ≠ ((.slice Ao23 t772.length co23) : Value).ownBlock ∧ some k_ ≠ ((.slice Ao28 t778.length co28) : Value).ownBlock) (.slice Ao34 t783.length co34) t783) ∧ Fc (Kd.S (Kd.slice 3 (Kd.int .i64)) 26 w' w.heap.size (fun k_ => some k_ ≠ ((.slice Ao34 t783.length co34) : Value).ownBlock ∧ some k_ ≠ ((.slice Ao23 t772.length co23) : Value).ownBlock ∧ some k_ ≠ ((.slice Ao28 t778.length co28) : Value).ownBlock) (.slice Ao19 t768.length co19) t768) ∧ Fc (Kd.R (Kd.int .i64) 3 w' w.heap.size (fun k_ => some k_ ≠ ((.slice Ao34 t783.length co34) : Value).ownBlock ∧ some k_ ≠ ((.slice Ao28 t778.length co28) : Value).ownBlock) (.slice Ao23 t772.length co23) t772) ∧ Fc (Kd.R (Kd.int .i64) 3 w' w.heap.size (fun k_ => some k_ ≠ ((.slice Ao34 t783.length co34) : Value).ownBlock ∧ some k_ ≠ ((.slice Ao23 t772.length co23) : Value).ownBlock) (.slice Ao28 t778.length co28) t778) ∧ Fc (w'.heap[gb776]? = some (.cells #[.int .i64 t771, (.slice Ao23 t772.length co23)] 28 (0, 0))) ∧ Fc (w'.heap[gb782]? = some (.cells #[.int .i64 t777, (.slice Ao28 t778.length co28)] 28 (0, 0))) ∧ Fc (Below w.heap.size w w'))
               case atStart => exact ⟨(0), (0), (0), eqS, eqS, eqS, H', ⟨Nat.le_refl _⟩, ⟨by (with_reducible repeat (first | apply Kd.S_alloc | apply Kd.S_drewN | apply Kd.S_drew)); exact HO_5.out⟩, rg HO_10, ⟨by (with_reducible repeat (first | apply Kd.S_alloc | apply Kd.S_drewN | apply Kd.S_drew)); exact HO_5.out⟩, rg HO_777001, rg HO_783001, bg BK776, bg BK782, hbg HB⟩
               case round =>
                clear H'
                try clear c1
                try clear c4
                try clear c10
                try clear c10b0
                try clear c10b1
                try clear c10b2
                try clear c12
                try clear c13
                try clear c13b0
                try clear c13b1
                try clear c13b2
                try clear c15
                try clear c16
                try clear c16b0
                try clear c16b1
                try clear c16b2
                try clear c36
                try clear c39
                try clear c41
                try clear c42
                try clear c42b0
                try clear c42b1
                try clear c43
                try clear c43b0
                try clear c43b1
                try clear c53
                try clear c54b0
                try clear c55b0
                try clear hx795_0
                try clear p795
                try clear q795
                obtain ⟨x16_4, x17_4, x114_4, rfl, rfl, rfl, HA, HK4, HO_5, HO_10, HO_112, HO_777001, HO_783001, BK776, BK782, HB⟩ := hrel
                cases gk with
                | zero => exact absurd HA.out (by simp [laws_FnMajorities.l2])
                | succ k4 =>
                 have H := HA.out
                 clear HA
                 simp only [laws_FnMajorities.l2] at H
                 rcases iteE H with ⟨c56b0, H⟩ | ⟨c56b0, H⟩
                 ·obtain ⟨c57b0, H⟩ := itND H
                  obtain ⟨c58b0, H⟩ := itND H
                  obtain ⟨c59b0, H⟩ := itND H
                  obtain ⟨c60b0, H⟩ := itND H
                  obtain ⟨c61b0, H⟩ := itND H
                  obtain ⟨c62b0, H⟩ := itND H
                  rcases iteP H with ⟨c63, H⟩ | ⟨c63, H⟩
                  ·have c63b0 := decide_eq_true c63
                   clear c63
                   rcases iteE H with ⟨c64b0, H⟩ | ⟨c64b0, H⟩
                   ·have H' := mkA H
                    clear H
                    have p803 : 0 ≤ (x114_4 : Int) := ofd
                    have q803 : x114_4 < (t768.length : Int) := ofd
                    obtain ⟨ad803, A803_0, c803_0, e803, hx803_0, hl803_0, hi803_0⟩ := at_L2 (Kd.S_reads' HO_112.out).2.2 x114_4 p803 q803
                    cases e803
                    obtain ⟨ce803, hce803, hMe803, hcc803⟩ := Kd.S_get HO_112.out [] x114_4 p803 (by first | exact q803 | exact ofd | (have e_ := (Kd.S_reads' HO_112.out).1; omega))
                    obtain ⟨ve803_0, rfl, ge803_0⟩ := hMe803
                    have hv803_0 := hcc803 0 _ rfl
                    rw [Nat.add_zero, show ((Kd.slice 3 (Kd.int .i64))).sz = 1 from rfl, Nat.mul_one] at hv803_0
                    replace hv803_0 := Option.some.inj (hv803_0.symm.trans hx803_0)
                    rw [hv803_0] at ge803_0
                    have HL803_0 := mkA (show Kd.R (Kd.int .i64) 3 _ _ _ _ (rd_L2 t768 x114_4) from ge803_0)
                    clear hv803_0 ge803_0
                    clear hcc803 hce803
                    have HR803_0 := mkA hi803_0
                    have HC803_0 := mkA hl803_0
                    clear hi803_0 hl803_0
                    replace p803 := eq_true p803
                    replace q803 := eq_true q803
                    obtain ⟨p804, q804, ad804, e804, hx804_0⟩ := atI HR803_0.out x109_3
                    cases e804
                    obtain ⟨p805, q805, ad805, e805, hx805_0⟩ := atI HR803_0.out x104_2
                    obtain rfl : ad804 = ad805 := (by injection e805)
                    obtain ⟨p806, q806, ad806, e806, hx806_0⟩ := atI HR803_0.out x109_3
                    obtain rfl : ad804 = ad806 := (by injection e806)
                    obtain ⟨p807, q807, ad807, e807, hx807_0⟩ := atI HR803_0.out x104_2
                    obtain rfl : ad804 = ad807 := (by injection e807)
                    as_aux_lemma =>
                     go_wp2
                     repeat (go_quiet (fail); try go_wp2)
                     go_roundg k4
                     case measure => have := HJ36.out; have := HK2.out; have := HK3.out; have := HK4.out; omega
                     case rel => exact ⟨(wrap64 (x16_4 + 1)), (wrap64 (x17_4 + 1)), (wrap64 (x114_4 + 1)), eqS, eqS, eqS, H', ⟨by have := HJ36.out; have := HK2.out; have := HK3.out; have := HK4.out; omega⟩, ⟨by (with_reducible repeat (first | apply Kd.S_alloc | apply Kd.S_drewN | apply Kd.S_drew)); exact HO_5.out⟩, rg HO_10, ⟨by (with_reducible repeat (first | apply Kd.S_alloc | apply Kd.S_drewN | apply Kd.S_drew)); exact HO_112.out⟩, rg HO_777001, rg HO_783001, bg BK776, bg BK782, hbg HB⟩
                   ·have H' := mkA H
                    clear H
                    have p803 : 0 ≤ (x114_4 : Int) := ofd
                    have q803 : x114_4 < (t768.length : Int) := ofd
                    obtain ⟨ad803, A803_0, c803_0, e803, hx803_0, hl803_0, hi803_0⟩ := at_L2 (Kd.S_reads' HO_112.out).2.2 x114_4 p803 q803
                    cases e803
                    obtain ⟨ce803, hce803, hMe803, hcc803⟩ := Kd.S_get HO_112.out [] x114_4 p803 (by first | exact q803 | exact ofd | (have e_ := (Kd.S_reads' HO_112.out).1; omega))
                    obtain ⟨ve803_0, rfl, ge803_0⟩ := hMe803
                    have hv803_0 := hcc803 0 _ rfl
                    rw [Nat.add_zero, show ((Kd.slice 3 (Kd.int .i64))).sz = 1 from rfl, Nat.mul_one] at hv803_0
                    replace hv803_0 := Option.some.inj (hv803_0.symm.trans hx803_0)
                    rw [hv803_0] at ge803_0
                    have HL803_0 := mkA (show Kd.R (Kd.int .i64) 3 _ _ _ _ (rd_L2 t768 x114_4) from ge803_0)
                    clear hv803_0 ge803_0
                    clear hcc803 hce803
                    have HR803_0 := mkA hi803_0
                    have HC803_0 := mkA hl803_0
                    clear hi803_0 hl803_0
                    replace p803 := eq_true p803
                    replace q803 := eq_true q803
                    obtain ⟨p804, q804, ad804, e804, hx804_0⟩ := atI HR803_0.out x109_3
                    cases e804
                    obtain ⟨p805, q805, ad805, e805, hx805_0⟩ := atI HR803_0.out x104_2
                    obtain rfl : ad804 = ad805 := (by injection e805)
                    obtain ⟨p806, q806, ad806, e806, hx806_0⟩ := atI HR803_0.out x109_3
                    obtain rfl : ad804 = ad806 := (by injection e806)
                    obtain ⟨p807, q807, ad807, e807, hx807_0⟩ := atI HR803_0.out x104_2
                    obtain rfl : ad804 = ad807 := (by injection e807)
                    as_aux_lemma =>
                     go_wp2
                     repeat (go_quiet (fail); try go_wp2)
                     go_roundg k4
                     case measure => have := HJ36.out; have := HK2.out; have := HK3.out; have := HK4.out; omega
                     case rel => exact ⟨(wrap64 (x16_4 + 1)), (x17_4), (wrap64 (x114_4 + 1)), eqS, eqS, eqS, H', ⟨by have := HJ36.out; have := HK2.out; have := HK3.out; have := HK4.out; omega⟩, ⟨by (with_reducible repeat (first | apply Kd.S_alloc | apply Kd.S_drewN | apply Kd.S_drew)); exact HO_5.out⟩, rg HO_10, ⟨by (with_reducible repeat (first | apply Kd.S_alloc | apply Kd.S_drewN | apply Kd.S_drew)); exact HO_112.out⟩, rg HO_777001, rg HO_783001, bg BK776, bg BK782, hbg HB⟩
                  ·have c63b0 := decide_eq_false c63
                   clear c63
                   rcases iteE H with ⟨c65b0, H⟩ | ⟨c65b0, H⟩
                   ·have H' := mkA H
                    clear H
                    have p803 : 0 ≤ (x114_4 : Int) := ofd
                    have q803 : x114_4 < (t768.length : Int) := ofd
                    obtain ⟨ad803, A803_0, c803_0, e803, hx803_0, hl803_0, hi803_0⟩ := at_L2 (Kd.S_reads' HO_112.out).2.2 x114_4 p803 q803
                    cases e803
                    obtain ⟨ce803, hce803, hMe803, hcc803⟩ := Kd.S_get HO_112.out [] x114_4 p803 (by first | exact q803 | exact ofd | (have e_ := (Kd.S_reads' HO_112.out).1; omega))
                    obtain ⟨ve803_0, rfl, ge803_0⟩ := hMe803
                    have hv803_0 := hcc803 0 _ rfl
                    rw [Nat.add_zero, show ((Kd.slice 3 (Kd.int .i64))).sz = 1 from rfl, Nat.mul_one] at hv803_0
                    replace hv803_0 := Option.some.inj (hv803_0.symm.trans hx803_0)
                    rw [hv803_0] at ge803_0
                    have HL803_0 := mkA (show Kd.R (Kd.int .i64) 3 _ _ _ _ (rd_L2 t768 x114_4) from ge803_0)
                    clear hv803_0 ge803_0
                    clear hcc803 hce803
                    have HR803_0 := mkA hi803_0
                    have HC803_0 := mkA hl803_0
                    clear hi803_0 hl803_0
                    replace p803 := eq_true p803
                    replace q803 := eq_true q803
                    obtain ⟨p804, q804, ad804, e804, hx804_0⟩ := atI HR803_0.out x109_3
                    cases e804
                    obtain ⟨p805, q805, ad805, e805, hx805_0⟩ := atI HR803_0.out x104_2
                    obtain rfl : ad804 = ad805 := (by injection e805)
                    obtain ⟨p808, q808, ad808, e808, hx808_0⟩ := atI HR803_0.out x109_3
                    obtain rfl : ad804 = ad808 := (by injection e808)
                    obtain ⟨p809, q809, ad809, e809, hx809_0⟩ := atI HR803_0.out x104_2
                    obtain rfl : ad804 = ad809 := (by injection e809)
                    as_aux_lemma =>
                     go_wp2
                     repeat (go_quiet (fail); try go_wp2)
                     go_roundg k4
                     case measure => have := HJ36.out; have := HK2.out; have := HK3.out; have := HK4.out; omega
                     case rel => exact ⟨(x16_4), (wrap64 (x17_4 + 1)), (wrap64 (x114_4 + 1)), eqS, eqS, eqS, H', ⟨by have := HJ36.out; have := HK2.out; have := HK3.out; have := HK4.out; omega⟩, ⟨by (with_reducible repeat (first | apply Kd.S_alloc | apply Kd.S_drewN | apply Kd.S_drew)); exact HO_5.out⟩, rg HO_10, ⟨by (with_reducible repeat (first | apply Kd.S_alloc | apply Kd.S_drewN | apply Kd.S_drew)); exact HO_112.out⟩, rg HO_777001, rg HO_783001, bg BK776, bg BK782, hbg HB⟩
                   ·have H' := mkA H
                    clear H
                    have p803 : 0 ≤ (x114_4 : Int) := ofd
                    have q803 : x114_4 < (t768.length : Int) := ofd
                    obtain ⟨ad803, A803_0, c803_0, e803, hx803_0, hl803_0, hi803_0⟩ := at_L2 (Kd.S_reads' HO_112.out).2.2 x114_4 p803 q803
                    cases e803
                    obtain ⟨ce803, hce803, hMe803, hcc803⟩ := Kd.S_get HO_112.out [] x114_4 p803 (by first | exact q803 | exact ofd | (have e_ := (Kd.S_reads' HO_112.out).1; omega))
                    obtain ⟨ve803_0, rfl, ge803_0⟩ := hMe803
                    have hv803_0 := hcc803 0 _ rfl
                    rw [Nat.add_zero, show ((Kd.slice 3 (Kd.int .i64))).sz = 1 from rfl, Nat.mul_one] at hv803_0
                    replace hv803_0 := Option.some.inj (hv803_0.symm.trans hx803_0)
                    rw [hv803_0] at ge803_0
                    have HL803_0 := mkA (show Kd.R (Kd.int .i64) 3 _ _ _ _ (rd_L2 t768 x114_4) from ge803_0)
                    clear hv803_0 ge803_0
                    clear hcc803 hce803
                    have HR803_0 := mkA hi803_0
                    have HC803_0 := mkA hl803_0
                    clear hi803_0 hl803_0
                    replace p803 := eq_true p803
                    replace q803 := eq_true q803
                    obtain ⟨p804, q804, ad804, e804, hx804_0⟩ := atI HR803_0.out x109_3
                    cases e804
                    obtain ⟨p805, q805, ad805, e805, hx805_0⟩ := atI HR803_0.out x104_2
                    obtain rfl : ad804 = ad805 := (by injection e805)
                    obtain ⟨p808, q808, ad808, e808, hx808_0⟩ := atI HR803_0.out x109_3
                    obtain rfl : ad804 = ad808 := (by injection e808)
                    obtain ⟨p809, q809, ad809, e809, hx809_0⟩ := atI HR803_0.out x104_2
                    obtain rfl : ad804 = ad809 := (by injection e809)
                    as_aux_lemma =>
                     go_wp2
                     repeat (go_quiet (fail); try go_wp2)
                     go_roundg k4
                     case measure => have := HJ36.out; have := HK2.out; have := HK3.out; have := HK4.out; omega
                     case rel => exact ⟨(x16_4), (x17_4), (wrap64 (x114_4 + 1)), eqS, eqS, eqS, H', ⟨by have := HJ36.out; have := HK2.out; have := HK3.out; have := HK4.out; omega⟩, ⟨by (with_reducible repeat (first | apply Kd.S_alloc | apply Kd.S_drewN | apply Kd.S_drew)); exact HO_5.out⟩, rg HO_10, ⟨by (with_reducible repeat (first | apply Kd.S_alloc | apply Kd.S_drewN | apply Kd.S_drew)); exact HO_112.out⟩, rg HO_777001, rg HO_783001, bg BK776, bg BK782, hbg HB⟩
                 ·obtain ⟨⟨t797, t798⟩, A66, H⟩ := obE H
                  dsimp only at H
                  by_cases c67 : t798 = true
                  ·subst c67
                   replace H := ifT H
                   obtain ⟨c68, H⟩ := itMP H
                   have c68b0 : (t797 != (decide (x16_4 > x17_4))) = false := by simpa using c68
                   (try (have c68b1 : decide (t797 = (decide (x16_4 > x17_4))) = true := by simpa using c68))
                   (try (have c68b2 : (t797 == (decide (x16_4 > x17_4))) = true := by simpa using c68))
                   clear c68
                   rcases iteP H with ⟨c69, H⟩ | ⟨c69, H⟩
                   ·have c69b0 := beq_iff_eq.mpr c69
                    have c69b1 := bne_eq_false_iff_eq.mpr c69
                    clear c69
                    obtain ⟨c70b0, H⟩ := itND H
                    obtain ⟨c71b0, H⟩ := itND H
                    obtain ⟨c72b0, H⟩ := itND H
                    obtain ⟨c73b0, H⟩ := itND H
                    obtain ⟨c74, H⟩ := itMP H
                    have c74b0 := decide_eq_false c74
                    clear c74
                    rcases iteP H with ⟨c75, H⟩ | ⟨c75, H⟩
                    ·have c75b0 := decide_eq_true c75
                     clear c75
                     obtain ⟨c76, H⟩ := itMP H
                     have c76b0 := beq_eq_false_iff_ne.mpr c76
                     have c76b1 := bne_iff_ne.mpr c76
                     have H' := mkA H
                     clear H
                     obtain ⟨_, _, _, _⟩ := blk2 BK776
                     as_aux_lemma =>
                      go_wp2_with (first | (go_at_call 14; (with_reducible refine (impl_IsBetter.calls k4 t771 _ _ t772 x104_2 x109_3 t797 true _ ?_ ?_ A66.out).mono ?_); exact rC HO_777001; exact rL HO_777001; rintro e w79 ⟨rfl, hb⟩; replace HO_5 := mkA (Kd.S_below (by (with_reducible repeat (first | apply Kd.S_alloc | apply Kd.S_drewN | apply Kd.S_drew)); exact HO_5.out) hb); replace HO_10 := rB HO_10 hb; replace HO_112 := mkA (Kd.S_below (by (with_reducible repeat (first | apply Kd.S_alloc | apply Kd.S_drewN | apply Kd.S_drew)); exact HO_112.out) hb); replace HO_777001 := rB HO_777001 hb; replace HO_783001 := rB HO_783001 hb; replace BK776 := blkB BK776 hb; replace BK782 := blkB BK782 hb; replace HB := bst HB hb; (try clear hb); (try clear hk); have p799 : 0 ≤ (x109_3 : Int) := ofd; have q799 : x109_3 < (t783.length : Int) := ofd; obtain ⟨ad799, e799, hx799_0⟩ := Kd.at_int (Kd.R_reads' HO_10.out).2.2 x109_3 p799 q799; cases e799; replace p799 := eq_true p799; replace q799 := eq_true q799; have p800 : 0 ≤ (x104_2 : Int) := ofd; have q800 : x104_2 < (t783.length : Int) := ofd; obtain ⟨ad800, e800, hx800_0⟩ := Kd.at_int (Kd.R_reads' HO_10.out).2.2 x104_2 p800 q800; obtain rfl : ad799 = ad800 := (by injection e800); replace p800 := eq_true p800; replace q800 := eq_true q800; have p801 : 0 ≤ (x109_3 : Int) := ofd; have q801 : x109_3 < (t783.length : Int) := ofd; obtain ⟨ad801, e801, hx801_0⟩ := Kd.at_int (Kd.R_reads' HO_10.out).2.2 x109_3 p801 q801; obtain rfl : ad799 = ad801 := (by injection e801); replace p801 := eq_true p801; replace q801 := eq_true q801; have p802 : 0 ≤ (x104_2 : Int) := ofd; have q802 : x104_2 < (t783.length : Int) := ofd; obtain ⟨ad802, e802, hx802_0⟩ := Kd.at_int (Kd.R_reads' HO_10.out).2.2 x104_2 p802 q802; obtain rfl : ad799 = ad802 := (by injection e802); replace p802 := eq_true p802; replace q802 := eq_true q802))
                      repeat (go_quiet (first | (go_at_call 14; (with_reducible refine (impl_IsBetter.calls k4 t771 _ _ t772 x104_2 x109_3 t797 true _ ?_ ?_ A66.out).mono ?_); exact rC HO_777001; exact rL HO_777001; rintro e w79 ⟨rfl, hb⟩; replace HO_5 := mkA (Kd.S_below (by (with_reducible repeat (first | apply Kd.S_alloc | apply Kd.S_drewN | apply Kd.S_drew)); exact HO_5.out) hb); replace HO_10 := rB HO_10 hb; replace HO_112 := mkA (Kd.S_below (by (with_reducible repeat (first | apply Kd.S_alloc | apply Kd.S_drewN | apply Kd.S_drew)); exact HO_112.out) hb); replace HO_777001 := rB HO_777001 hb; replace HO_783001 := rB HO_783001 hb; replace BK776 := blkB BK776 hb; replace BK782 := blkB BK782 hb; replace HB := bst HB hb; (try clear hb); (try clear hk); have p799 : 0 ≤ (x109_3 : Int) := ofd; have q799 : x109_3 < (t783.length : Int) := ofd; obtain ⟨ad799, e799, hx799_0⟩ := Kd.at_int (Kd.R_reads' HO_10.out).2.2 x109_3 p799 q799; cases e799; replace p799 := eq_true p799; replace q799 := eq_true q799; have p800 : 0 ≤ (x104_2 : Int) := ofd; have q800 : x104_2 < (t783.length : Int) := ofd; obtain ⟨ad800, e800, hx800_0⟩ := Kd.at_int (Kd.R_reads' HO_10.out).2.2 x104_2 p800 q800; obtain rfl : ad799 = ad800 := (by injection e800); replace p800 := eq_true p800; replace q800 := eq_true q800; have p801 : 0 ≤ (x109_3 : Int) := ofd; have q801 : x109_3 < (t783.length : Int) := ofd; obtain ⟨ad801, e801, hx801_0⟩ := Kd.at_int (Kd.R_reads' HO_10.out).2.2 x109_3 p801 q801; obtain rfl : ad799 = ad801 := (by injection e801); replace p801 := eq_true p801; replace q801 := eq_true q801; have p802 : 0 ≤ (x104_2 : Int) := ofd; have q802 : x104_2 < (t783.length : Int) := ofd; obtain ⟨ad802, e802, hx802_0⟩ := Kd.at_int (Kd.R_reads' HO_10.out).2.2 x104_2 p802 q802; obtain rfl : ad799 = ad802 := (by injection e802); replace p802 := eq_true p802; replace q802 := eq_true q802)); try go_wp2_with (first | (go_at_call 14; (with_reducible refine (impl_IsBetter.calls k4 t771 _ _ t772 x104_2 x109_3 t797 true _ ?_ ?_ A66.out).mono ?_); exact rC HO_777001; exact rL HO_777001; rintro e w79 ⟨rfl, hb⟩; replace HO_5 := mkA (Kd.S_below (by (with_reducible repeat (first | apply Kd.S_alloc | apply Kd.S_drewN | apply Kd.S_drew)); exact HO_5.out) hb); replace HO_10 := rB HO_10 hb; replace HO_112 := mkA (Kd.S_below (by (with_reducible repeat (first | apply Kd.S_alloc | apply Kd.S_drewN | apply Kd.S_drew)); exact HO_112.out) hb); replace HO_777001 := rB HO_777001 hb; replace HO_783001 := rB HO_783001 hb; replace BK776 := blkB BK776 hb; replace BK782 := blkB BK782 hb; replace HB := bst HB hb; (try clear hb); (try clear hk); have p799 : 0 ≤ (x109_3 : Int) := ofd; have q799 : x109_3 < (t783.length : Int) := ofd; obtain ⟨ad799, e799, hx799_0⟩ := Kd.at_int (Kd.R_reads' HO_10.out).2.2 x109_3 p799 q799; cases e799; replace p799 := eq_true p799; replace q799 := eq_true q799; have p800 : 0 ≤ (x104_2 : Int) := ofd; have q800 : x104_2 < (t783.length : Int) := ofd; obtain ⟨ad800, e800, hx800_0⟩ := Kd.at_int (Kd.R_reads' HO_10.out).2.2 x104_2 p800 q800; obtain rfl : ad799 = ad800 := (by injection e800); replace p800 := eq_true p800; replace q800 := eq_true q800; have p801 : 0 ≤ (x109_3 : Int) := ofd; have q801 : x109_3 < (t783.length : Int) := ofd; obtain ⟨ad801, e801, hx801_0⟩ := Kd.at_int (Kd.R_reads' HO_10.out).2.2 x109_3 p801 q801; obtain rfl : ad799 = ad801 := (by injection e801); replace p801 := eq_true p801; replace q801 := eq_true q801; have p802 : 0 ≤ (x104_2 : Int) := ofd; have q802 : x104_2 < (t783.length : Int) := ofd; obtain ⟨ad802, e802, hx802_0⟩ := Kd.at_int (Kd.R_reads' HO_10.out).2.2 x104_2 p802 q802; obtain rfl : ad799 = ad802 := (by injection e802); replace p802 := eq_true p802; replace q802 := eq_true q802)))
                      go_roundg k4
                      case measure => have := HJ36.out; have := HK2.out; have := HK3.out; have := HK4.out; omega
                      case rel => exact ⟨(wrap64 (x109_3 + 1)), eqS, H', ⟨by have := HJ36.out; have := HK2.out; have := HK3.out; have := HK4.out; omega⟩, ⟨by (with_reducible repeat (first | apply Kd.S_alloc | apply Kd.S_drewN | apply Kd.S_drew)); exact HO_5.out⟩, rg HO_10, rg HO_777001, rg HO_783001, bg BK776, bg BK782, hbg HB⟩
                    ·have c75b0 := decide_eq_false c75
                     clear c75
                     have H' := mkA H
                     clear H
                     obtain ⟨_, _, _, _⟩ := blk2 BK776
                     as_aux_lemma =>
                      go_wp2_with (first | (go_at_call 14; (with_reducible refine (impl_IsBetter.calls k4 t771 _ _ t772 x104_2 x109_3 t797 true _ ?_ ?_ A66.out).mono ?_); exact rC HO_777001; exact rL HO_777001; rintro e w82 ⟨rfl, hb⟩; replace HO_5 := mkA (Kd.S_below (by (with_reducible repeat (first | apply Kd.S_alloc | apply Kd.S_drewN | apply Kd.S_drew)); exact HO_5.out) hb); replace HO_10 := rB HO_10 hb; replace HO_112 := mkA (Kd.S_below (by (with_reducible repeat (first | apply Kd.S_alloc | apply Kd.S_drewN | apply Kd.S_drew)); exact HO_112.out) hb); replace HO_777001 := rB HO_777001 hb; replace HO_783001 := rB HO_783001 hb; replace BK776 := blkB BK776 hb; replace BK782 := blkB BK782 hb; replace HB := bst HB hb; (try clear hb); (try clear hk); have p799 : 0 ≤ (x109_3 : Int) := ofd; have q799 : x109_3 < (t783.length : Int) := ofd; obtain ⟨ad799, e799, hx799_0⟩ := Kd.at_int (Kd.R_reads' HO_10.out).2.2 x109_3 p799 q799; cases e799; replace p799 := eq_true p799; replace q799 := eq_true q799; have p800 : 0 ≤ (x104_2 : Int) := ofd; have q800 : x104_2 < (t783.length : Int) := ofd; obtain ⟨ad800, e800, hx800_0⟩ := Kd.at_int (Kd.R_reads' HO_10.out).2.2 x104_2 p800 q800; obtain rfl : ad799 = ad800 := (by injection e800); replace p800 := eq_true p800; replace q800 := eq_true q800))
                      repeat (go_quiet (first | (go_at_call 14; (with_reducible refine (impl_IsBetter.calls k4 t771 _ _ t772 x104_2 x109_3 t797 true _ ?_ ?_ A66.out).mono ?_); exact rC HO_777001; exact rL HO_777001; rintro e w82 ⟨rfl, hb⟩; replace HO_5 := mkA (Kd.S_below (by (with_reducible repeat (first | apply Kd.S_alloc | apply Kd.S_drewN | apply Kd.S_drew)); exact HO_5.out) hb); replace HO_10 := rB HO_10 hb; replace HO_112 := mkA (Kd.S_below (by (with_reducible repeat (first | apply Kd.S_alloc | apply Kd.S_drewN | apply Kd.S_drew)); exact HO_112.out) hb); replace HO_777001 := rB HO_777001 hb; replace HO_783001 := rB HO_783001 hb; replace BK776 := blkB BK776 hb; replace BK782 := blkB BK782 hb; replace HB := bst HB hb; (try clear hb); (try clear hk); have p799 : 0 ≤ (x109_3 : Int) := ofd; have q799 : x109_3 < (t783.length : Int) := ofd; obtain ⟨ad799, e799, hx799_0⟩ := Kd.at_int (Kd.R_reads' HO_10.out).2.2 x109_3 p799 q799; cases e799; replace p799 := eq_true p799; replace q799 := eq_true q799; have p800 : 0 ≤ (x104_2 : Int) := ofd; have q800 : x104_2 < (t783.length : Int) := ofd; obtain ⟨ad800, e800, hx800_0⟩ := Kd.at_int (Kd.R_reads' HO_10.out).2.2 x104_2 p800 q800; obtain rfl : ad799 = ad800 := (by injection e800); replace p800 := eq_true p800; replace q800 := eq_true q800)); try go_wp2_with (first | (go_at_call 14; (with_reducible refine (impl_IsBetter.calls k4 t771 _ _ t772 x104_2 x109_3 t797 true _ ?_ ?_ A66.out).mono ?_); exact rC HO_777001; exact rL HO_777001; rintro e w82 ⟨rfl, hb⟩; replace HO_5 := mkA (Kd.S_below (by (with_reducible repeat (first | apply Kd.S_alloc | apply Kd.S_drewN | apply Kd.S_drew)); exact HO_5.out) hb); replace HO_10 := rB HO_10 hb; replace HO_112 := mkA (Kd.S_below (by (with_reducible repeat (first | apply Kd.S_alloc | apply Kd.S_drewN | apply Kd.S_drew)); exact HO_112.out) hb); replace HO_777001 := rB HO_777001 hb; replace HO_783001 := rB HO_783001 hb; replace BK776 := blkB BK776 hb; replace BK782 := blkB BK782 hb; replace HB := bst HB hb; (try clear hb); (try clear hk); have p799 : 0 ≤ (x109_3 : Int) := ofd; have q799 : x109_3 < (t783.length : Int) := ofd; obtain ⟨ad799, e799, hx799_0⟩ := Kd.at_int (Kd.R_reads' HO_10.out).2.2 x109_3 p799 q799; cases e799; replace p799 := eq_true p799; replace q799 := eq_true q799; have p800 : 0 ≤ (x104_2 : Int) := ofd; have q800 : x104_2 < (t783.length : Int) := ofd; obtain ⟨ad800, e800, hx800_0⟩ := Kd.at_int (Kd.R_reads' HO_10.out).2.2 x104_2 p800 q800; obtain rfl : ad799 = ad800 := (by injection e800); replace p800 := eq_true p800; replace q800 := eq_true q800)))
                      go_roundg k4
                      case measure => have := HJ36.out; have := HK2.out; have := HK3.out; have := HK4.out; omega
                      case rel => exact ⟨(wrap64 (x109_3 + 1)), eqS, H', ⟨by have := HJ36.out; have := HK2.out; have := HK3.out; have := HK4.out; omega⟩, ⟨by (with_reducible repeat (first | apply Kd.S_alloc | apply Kd.S_drewN | apply Kd.S_drew)); exact HO_5.out⟩, rg HO_10, rg HO_777001, rg HO_783001, bg BK776, bg BK782, hbg HB⟩
                   ·have c69b0 := beq_eq_false_iff_ne.mpr c69
                    have c69b1 := bne_iff_ne.mpr c69
                    have H' := mkA H
                    clear H
                    obtain ⟨_, _, _, _⟩ := blk2 BK776
                    as_aux_lemma =>
                     go_wp2_with (first | (go_at_call 14; (with_reducible refine (impl_IsBetter.calls k4 t771 _ _ t772 x104_2 x109_3 t797 true _ ?_ ?_ A66.out).mono ?_); exact rC HO_777001; exact rL HO_777001; rintro e w85 ⟨rfl, hb⟩; replace HO_5 := mkA (Kd.S_below (by (with_reducible repeat (first | apply Kd.S_alloc | apply Kd.S_drewN | apply Kd.S_drew)); exact HO_5.out) hb); replace HO_10 := rB HO_10 hb; replace HO_112 := mkA (Kd.S_below (by (with_reducible repeat (first | apply Kd.S_alloc | apply Kd.S_drewN | apply Kd.S_drew)); exact HO_112.out) hb); replace HO_777001 := rB HO_777001 hb; replace HO_783001 := rB HO_783001 hb; replace BK776 := blkB BK776 hb; replace BK782 := blkB BK782 hb; replace HB := bst HB hb; (try clear hb); (try clear hk)))
                     repeat (go_quiet (first | (go_at_call 14; (with_reducible refine (impl_IsBetter.calls k4 t771 _ _ t772 x104_2 x109_3 t797 true _ ?_ ?_ A66.out).mono ?_); exact rC HO_777001; exact rL HO_777001; rintro e w85 ⟨rfl, hb⟩; replace HO_5 := mkA (Kd.S_below (by (with_reducible repeat (first | apply Kd.S_alloc | apply Kd.S_drewN | apply Kd.S_drew)); exact HO_5.out) hb); replace HO_10 := rB HO_10 hb; replace HO_112 := mkA (Kd.S_below (by (with_reducible repeat (first | apply Kd.S_alloc | apply Kd.S_drewN | apply Kd.S_drew)); exact HO_112.out) hb); replace HO_777001 := rB HO_777001 hb; replace HO_783001 := rB HO_783001 hb; replace BK776 := blkB BK776 hb; replace BK782 := blkB BK782 hb; replace HB := bst HB hb; (try clear hb); (try clear hk))); try go_wp2_with (first | (go_at_call 14; (with_reducible refine (impl_IsBetter.calls k4 t771 _ _ t772 x104_2 x109_3 t797 true _ ?_ ?_ A66.out).mono ?_); exact rC HO_777001; exact rL HO_777001; rintro e w85 ⟨rfl, hb⟩; replace HO_5 := mkA (Kd.S_below (by (with_reducible repeat (first | apply Kd.S_alloc | apply Kd.S_drewN | apply Kd.S_drew)); exact HO_5.out) hb); replace HO_10 := rB HO_10 hb; replace HO_112 := mkA (Kd.S_below (by (with_reducible repeat (first | apply Kd.S_alloc | apply Kd.S_drewN | apply Kd.S_drew)); exact HO_112.out) hb); replace HO_777001 := rB HO_777001 hb; replace HO_783001 := rB HO_783001 hb; replace BK776 := blkB BK776 hb; replace BK782 := blkB BK782 hb; replace HB := bst HB hb; (try clear hb); (try clear hk))))
                     go_roundg k4
                     case measure => have := HJ36.out; have := HK2.out; have := HK3.out; have := HK4.out; omega
                     case rel => exact ⟨(wrap64 (x109_3 + 1)), eqS, H', ⟨by have := HJ36.out; have := HK2.out; have := HK3.out; have := HK4.out; omega⟩, ⟨by (with_reducible repeat (first | apply Kd.S_alloc | apply Kd.S_drewN | apply Kd.S_drew)); exact HO_5.out⟩, rg HO_10, rg HO_777001, rg HO_783001, bg BK776, bg BK782, hbg HB⟩
                  ·replace c67 := Bool.eq_false_iff.mpr c67
                   subst c67
                   replace H := ifF H
                   exact absurd H (by simp)
              ·have H' := mkA H
               clear H
               as_aux_lemma =>
                go_wp2
                repeat (go_quiet (fail); try go_wp2)
                go_roundg k3
                case measure => have := HJ36.out; have := HK2.out; have := HK3.out; omega
                case rel => exact ⟨(wrap64 (x104_2 + 1)), eqS, H', ⟨by have := HJ36.out; have := HK2.out; have := HK3.out; omega⟩, ⟨by (with_reducible repeat (first | apply Kd.S_alloc | apply Kd.S_drewN | apply Kd.S_drew)); exact HO_5.out⟩, rg HO_10, rg HO_777001, rg HO_783001, bg BK776, bg BK782, hbg HB⟩
           ·have H' := mkA H
            clear H
            as_aux_lemma =>
             go_wp2
             repeat (go_quiet (fail); try go_wp2)
             go_meet
             case rel => exact ⟨_, H', ⟨by have := HJ36.out; have := HK2.out; first | omega | exact Nat.le_refl _⟩, ⟨Kd.R_g (Kd.R_mono HO_777001.out (fun _ hk => hk.2))⟩, ⟨Kd.R_g (Kd.R_mono HO_783001.out (fun _ hk => hk.2))⟩, bg BK776, bg BK782, hbg HB⟩
     ·replace c36 := Bool.eq_false_iff.mpr c36
      subst c36
      replace H := ifF H
      have H' := mkA H
      clear H
      as_aux_lemma =>
       go_wp2
       repeat (go_quiet (fail); try go_wp2)
       go_meet
       case rel => exact ⟨_, H', ⟨by first | omega | exact Nat.le_refl _⟩, ⟨Kd.R_g (Kd.R_mono HO774.out (fun _ hk => hk.1.1.2))⟩, ⟨Kd.R_g (Kd.R_mono HO780.out (fun _ hk => hk.1.1.2))⟩, bg BK776, bg BK782, hbg HB⟩
    case rest =>
     clear HC17
     try clear c1
     try clear c4
     try clear c10
     try clear c10b0
     try clear c10b1
     try clear c10b2
     try clear c12
     try clear c13
     try clear c13b0
     try clear c13b1
     try clear c13b2
     try clear c15
     try clear c16
     try clear c16b0
     try clear c16b1
     try clear c16b2
     try clear c36
     try clear c39
     try clear c41
     try clear c42
     try clear c42b0
     try clear c42b1
     try clear c43
     try clear c43b0
     try clear c43b1
     try clear c53
     try clear c54b0
     try clear c55b0
     try clear c56b0
     try clear c57
     try clear c57b0
     try clear c58
     try clear c58b0
     try clear c59
     try clear c59b0
     try clear c60
     try clear c60b0
     try clear c61
     try clear c61b0
     try clear c62
     try clear c62b0
     try clear c63
     try clear c63b0
     try clear c64b0
     try clear c65b0
     try clear c67
     try clear c68
     try clear c68b0
     try clear c68b1
     try clear c68b2
     try clear c69
     try clear c69b0
     try clear c69b1
     try clear c70
     try clear c70b0
     try clear c71
     try clear c71b0
     try clear c72
     try clear c72b0
     try clear c73
     try clear c73b0
     try clear c74
     try clear c74b0
     try clear c75
     try clear c75b0
     try clear c76
     try clear c76b0
     try clear c76b1
     try clear hx795_0
     try clear hx799_0
     try clear hx800_0
     try clear hx801_0
     try clear hx802_0
     try clear hx803_0
     try clear hx804_0
     try clear hx805_0
     try clear hx806_0
     try clear hx807_0
     try clear hx808_0
     try clear hx809_0
     try clear p795
     try clear p799
     try clear p800
     try clear p801
     try clear p802
     try clear p803
     try clear p804
     try clear p805
     try clear p806
     try clear p807
     try clear p808
     try clear p809
     try clear q795
     try clear q799
     try clear q800
     try clear q801
     try clear q802
     try clear q803
     try clear q804
     try clear q805
     try clear q806
     try clear q807
     try clear q808
     try clear q809
     obtain ⟨kq, HA, HJ16, HO_777001, HO_783001, BK776, BK782, HB⟩ := hcut
     cases kq with
     | zero => exact absurd HA.out (by simp [laws_FnMajorities.j4])
     | succ kj16 =>
      have H := HA.out
      clear HA
      simp only [laws_FnMajorities.j4] at H
      obtain ⟨⟨t810, t811, t814, t815⟩, A86, H⟩ := obE H
      dsimp only at H
      obtain ⟨⟨t820, t821⟩, A87, H⟩ := obE H
      dsimp only at H
      obtain ⟨⟨t822, t823⟩, A88, H⟩ := obE H
      dsimp only at H
      obtain ⟨c89, H⟩ := itMP H
      have c89b0 : (t821 != t823) = false := by simpa using c89
      (try (have c89b1 : decide (t821 = t823) = true := by simpa using c89))
      (try (have c89b2 : (t821 == t823) = true := by simpa using c89))
      clear c89
      obtain ⟨c90, H⟩ := itNP H
      have c90b0 := beq_iff_eq.mpr c90
      have c90b1 := bne_eq_false_iff_eq.mpr c90
      clear c90
      by_cases c91 : t821 = true
      ·subst c91
       replace H := ifT H
       obtain ⟨⟨t824, t825⟩, A92, H⟩ := obE H
       dsimp only at H
       by_cases c93 : t825 = true
       ·subst c93
        replace H := ifT H
        obtain ⟨c94, H⟩ := itNP H
        have c94b0 := beq_iff_eq.mpr c94
        have c94b1 := bne_eq_false_iff_eq.mpr c94
        clear c94
        obtain ⟨t826, A95, H⟩ := obE H
        obtain rfl := Option.some.inj H
        go_wp2_with (first | (go_at_call 15; (with_reducible refine (spec_DrawPairDistance.calls kj16 _ _ l1 t810 t811 t814 t815 _ ?_ ?_ A86.out).mono ?_); exact C_g HR1 HB; exact HC1.out; rintro e w96 ⟨v812, v816, rfl, ho0, ho1, hb⟩; have HO813 := rLo (rN (rN ho0 HO_777001) HO_783001) HB; have HO817 := rLo (rN (rN ho1 HO_777001) HO_783001) HB; replace HO_777001 := mkA (Kd.R_mono (Kd.R_told (Kd.R_told (Kd.R_old (Kd.R_g HO_777001.out) hb) (Kd.R_base ho0)) (Kd.R_base ho1)) (fun _ h_ => h_.1)); replace HO_783001 := mkA (Kd.R_mono (Kd.R_told (Kd.R_told (Kd.R_old (Kd.R_g HO_783001.out) hb) (Kd.R_base ho0)) (Kd.R_base ho1)) (fun _ h_ => h_.1)); replace BK776 := blkB BK776 hb; replace BK782 := blkB BK782 hb; replace HB := bst HB hb; clear hb ho0 ho1) | ((with_reducible refine gate_dst (N := 22) rfl ?_); (try (refine gate_guard (by rfl) ?_; dsimp only)); refine boxG HB #[.int .i64 0, .slice none 0 0] 28 ?_; intro gb818 hg w97 BK818 GE818 hb; replace HO_777001 := rB HO_777001 hb; replace HO_783001 := rB HO_783001 hb; replace HO813 := rB HO813 hb; replace HO817 := rB HO817 hb; have NB776_818 := neL7 BK776 hg; have NB818_776 := neR7 BK776 hg; replace BK776 := blkB BK776 hb; have NB782_818 := neL7 BK782 hg; have NB818_782 := neR7 BK782 hg; replace BK782 := blkB BK782 hb; replace HB := bst HB hb; clear hb hg) | ((with_reducible refine gate_dst (N := 23) rfl ?_); (try (refine gate_guard (by rfl) ?_; dsimp only)); refine boxG HB #[.int .i64 0, .slice none 0 0] 28 ?_; intro gb819 hg w98 BK819 GE819 hb; replace HO_777001 := rB HO_777001 hb; replace HO_783001 := rB HO_783001 hb; replace HO813 := rB HO813 hb; replace HO817 := rB HO817 hb; have NB776_819 := neL7 BK776 hg; have NB819_776 := neR7 BK776 hg; replace BK776 := blkB BK776 hb; have NB782_819 := neL7 BK782 hg; have NB819_782 := neR7 BK782 hg; replace BK782 := blkB BK782 hb; have NB818_819 := neL7 BK818 hg; have NB819_818 := neR7 BK818 hg; replace BK818 := blkB BK818 hb; replace HB := bst HB hb; clear hb hg; obtain ⟨hcz102_0, hcz102_1, hfz102_0, hfz102_1⟩ := blk2 BK818; obtain ⟨Ao103, co103, rfl⟩ := Kd.R_slice HO813.out; obtain ⟨hcz106_0, hcz106_1, hfz106_0, hfz106_1⟩ := blk2 BK819; obtain ⟨Ao107, co107, rfl⟩ := Kd.R_slice HO817.out) | (go_at_call 16; (with_reducible refine (impl_PairDistance.calls kj16 t810 _ _ t811 t814 _ _ t815 t820 true _ ?_ ?_ ?_ ?_ ?_ A87.out).mono ?_); exact rDF HO813 BK818 BK819; exact rL HO813; exact rDF HO817 BK818 BK819; exact rL HO817; exact Tab.below HTAB.out (bel_g HB.out); rintro e w108 ⟨rfl, hb⟩; replace HO_777001 := mkA (Kd.R_below (rGg HO_777001 BK818 BK819) hb); replace HO_783001 := mkA (Kd.R_below (rGg HO_783001 BK818 BK819) hb); replace HO813 := mkA (Kd.R_below (rGg HO813 BK818 BK819) hb); replace HO817 := mkA (Kd.R_below (rGg HO817 BK818 BK819) hb); replace BK776 := blkS BK776 hb; replace BK782 := blkS BK782 hb; replace BK818 := blkS BK818 hb; replace BK819 := blkS BK819 hb; replace HB := bst HB hb; clear hb; obtain ⟨hcz109_0, hcz109_1, hfz109_0, hfz109_1⟩ := blk2 BK818; obtain ⟨hcz110_0, hcz110_1, hfz110_0, hfz110_1⟩ := blk2 BK819) | (go_at_call 17; (with_reducible refine (spec_PairDistance.calls kj16 t810 _ _ t811 t814 _ _ t815 t822 t823 _ ?_ ?_ ?_ ?_ A88.out).mono ?_); exact rC HO813; exact rL HO813; exact rC HO817; exact rL HO817; rintro e w111 ⟨rfl, hb⟩; replace HO_777001 := rB HO_777001 hb; replace HO_783001 := rB HO_783001 hb; replace HO813 := rB HO813 hb; replace HO817 := rB HO817 hb; replace BK776 := blkB BK776 hb; replace BK782 := blkB BK782 hb; replace BK818 := blkB BK818 hb; replace BK819 := blkB BK819 hb; replace HB := bst HB hb; clear hb; obtain ⟨hcz112_0, hcz112_1, hfz112_0, hfz112_1⟩ := blk2 BK819; obtain ⟨hcz113_0, hcz113_1, hfz113_0, hfz113_1⟩ := blk2 BK818) | (go_at_call 16; (with_reducible refine (impl_PairDistance.calls kj16 t814 _ _ t815 t810 _ _ t811 t824 true _ ?_ ?_ ?_ ?_ ?_ A92.out).mono ?_); exact rC HO817; exact rL HO817; exact rC HO813; exact rL HO813; exact Tab.below HTAB.out (bel_g HB.out); rintro e w114 ⟨rfl, hb⟩; replace HO_777001 := rB HO_777001 hb; replace HO_783001 := rB HO_783001 hb; replace HO813 := rB HO813 hb; replace HO817 := rB HO817 hb; replace BK776 := blkB BK776 hb; replace BK782 := blkB BK782 hb; replace BK818 := blkB BK818 hb; replace BK819 := blkB BK819 hb; replace HB := bst HB hb; clear hb; obtain ⟨hcz115_0, hcz115_1, hfz115_0, hfz115_1⟩ := blk2 BK818; obtain ⟨hcz116_0, hcz116_1, hfz116_0, hfz116_1⟩ := blk2 BK819) | (go_at_call 10; (with_reducible refine (laws_vOrder.calls kj16 t810 _ _ t811 t814 _ _ t815 t826 _ ?_ ?_ ?_ ?_ A95.out).mono ?_); exact rC HO813; exact rL HO813; exact rC HO817; exact rL HO817; rintro e w117 ⟨rfl, hb⟩; replace HO_777001 := rB HO_777001 hb; replace HO_783001 := rB HO_783001 hb; replace HO813 := rB HO813 hb; replace HO817 := rB HO817 hb; replace BK776 := blkB BK776 hb; replace BK782 := blkB BK782 hb; replace BK818 := blkB BK818 hb; replace BK819 := blkB BK819 hb; replace HB := bst HB hb; clear hb))
        repeat (go_quiet (first | (go_at_call 15; (with_reducible refine (spec_DrawPairDistance.calls kj16 _ _ l1 t810 t811 t814 t815 _ ?_ ?_ A86.out).mono ?_); exact C_g HR1 HB; exact HC1.out; rintro e w96 ⟨v812, v816, rfl, ho0, ho1, hb⟩; have HO813 := rLo (rN (rN ho0 HO_777001) HO_783001) HB; have HO817 := rLo (rN (rN ho1 HO_777001) HO_783001) HB; replace HO_777001 := mkA (Kd.R_mono (Kd.R_told (Kd.R_told (Kd.R_old (Kd.R_g HO_777001.out) hb) (Kd.R_base ho0)) (Kd.R_base ho1)) (fun _ h_ => h_.1)); replace HO_783001 := mkA (Kd.R_mono (Kd.R_told (Kd.R_told (Kd.R_old (Kd.R_g HO_783001.out) hb) (Kd.R_base ho0)) (Kd.R_base ho1)) (fun _ h_ => h_.1)); replace BK776 := blkB BK776 hb; replace BK782 := blkB BK782 hb; replace HB := bst HB hb; clear hb ho0 ho1) | ((with_reducible refine gate_dst (N := 22) rfl ?_); (try (refine gate_guard (by rfl) ?_; dsimp only)); refine boxG HB #[.int .i64 0, .slice none 0 0] 28 ?_; intro gb818 hg w97 BK818 GE818 hb; replace HO_777001 := rB HO_777001 hb; replace HO_783001 := rB HO_783001 hb; replace HO813 := rB HO813 hb; replace HO817 := rB HO817 hb; have NB776_818 := neL7 BK776 hg; have NB818_776 := neR7 BK776 hg; replace BK776 := blkB BK776 hb; have NB782_818 := neL7 BK782 hg; have NB818_782 := neR7 BK782 hg; replace BK782 := blkB BK782 hb; replace HB := bst HB hb; clear hb hg) | ((with_reducible refine gate_dst (N := 23) rfl ?_); (try (refine gate_guard (by rfl) ?_; dsimp only)); refine boxG HB #[.int .i64 0, .slice none 0 0] 28 ?_; intro gb819 hg w98 BK819 GE819 hb; replace HO_777001 := rB HO_777001 hb; replace HO_783001 := rB HO_783001 hb; replace HO813 := rB HO813 hb; replace HO817 := rB HO817 hb; have NB776_819 := neL7 BK776 hg; have NB819_776 := neR7 BK776 hg; replace BK776 := blkB BK776 hb; have NB782_819 := neL7 BK782 hg; have NB819_782 := neR7 BK782 hg; replace BK782 := blkB BK782 hb; have NB818_819 := neL7 BK818 hg; have NB819_818 := neR7 BK818 hg; replace BK818 := blkB BK818 hb; replace HB := bst HB hb; clear hb hg; obtain ⟨hcz102_0, hcz102_1, hfz102_0, hfz102_1⟩ := blk2 BK818; obtain ⟨Ao103, co103, rfl⟩ := Kd.R_slice HO813.out; obtain ⟨hcz106_0, hcz106_1, hfz106_0, hfz106_1⟩ := blk2 BK819; obtain ⟨Ao107, co107, rfl⟩ := Kd.R_slice HO817.out) | (go_at_call 16; (with_reducible refine (impl_PairDistance.calls kj16 t810 _ _ t811 t814 _ _ t815 t820 true _ ?_ ?_ ?_ ?_ ?_ A87.out).mono ?_); exact rDF HO813 BK818 BK819; exact rL HO813; exact rDF HO817 BK818 BK819; exact rL HO817; exact Tab.below HTAB.out (bel_g HB.out); rintro e w108 ⟨rfl, hb⟩; replace HO_777001 := mkA (Kd.R_below (rGg HO_777001 BK818 BK819) hb); replace HO_783001 := mkA (Kd.R_below (rGg HO_783001 BK818 BK819) hb); replace HO813 := mkA (Kd.R_below (rGg HO813 BK818 BK819) hb); replace HO817 := mkA (Kd.R_below (rGg HO817 BK818 BK819) hb); replace BK776 := blkS BK776 hb; replace BK782 := blkS BK782 hb; replace BK818 := blkS BK818 hb; replace BK819 := blkS BK819 hb; replace HB := bst HB hb; clear hb; obtain ⟨hcz109_0, hcz109_1, hfz109_0, hfz109_1⟩ := blk2 BK818; obtain ⟨hcz110_0, hcz110_1, hfz110_0, hfz110_1⟩ := blk2 BK819) | (go_at_call 17; (with_reducible refine (spec_PairDistance.calls kj16 t810 _ _ t811 t814 _ _ t815 t822 t823 _ ?_ ?_ ?_ ?_ A88.out).mono ?_); exact rC HO813; exact rL HO813; exact rC HO817; exact rL HO817; rintro e w111 ⟨rfl, hb⟩; replace HO_777001 := rB HO_777001 hb; replace HO_783001 := rB HO_783001 hb; replace HO813 := rB HO813 hb; replace HO817 := rB HO817 hb; replace BK776 := blkB BK776 hb; replace BK782 := blkB BK782 hb; replace BK818 := blkB BK818 hb; replace BK819 := blkB BK819 hb; replace HB := bst HB hb; clear hb; obtain ⟨hcz112_0, hcz112_1, hfz112_0, hfz112_1⟩ := blk2 BK819; obtain ⟨hcz113_0, hcz113_1, hfz113_0, hfz113_1⟩ := blk2 BK818) | (go_at_call 16; (with_reducible refine (impl_PairDistance.calls kj16 t814 _ _ t815 t810 _ _ t811 t824 true _ ?_ ?_ ?_ ?_ ?_ A92.out).mono ?_); exact rC HO817; exact rL HO817; exact rC HO813; exact rL HO813; exact Tab.below HTAB.out (bel_g HB.out); rintro e w114 ⟨rfl, hb⟩; replace HO_777001 := rB HO_777001 hb; replace HO_783001 := rB HO_783001 hb; replace HO813 := rB HO813 hb; replace HO817 := rB HO817 hb; replace BK776 := blkB BK776 hb; replace BK782 := blkB BK782 hb; replace BK818 := blkB BK818 hb; replace BK819 := blkB BK819 hb; replace HB := bst HB hb; clear hb; obtain ⟨hcz115_0, hcz115_1, hfz115_0, hfz115_1⟩ := blk2 BK818; obtain ⟨hcz116_0, hcz116_1, hfz116_0, hfz116_1⟩ := blk2 BK819) | (go_at_call 10; (with_reducible refine (laws_vOrder.calls kj16 t810 _ _ t811 t814 _ _ t815 t826 _ ?_ ?_ ?_ ?_ A95.out).mono ?_); exact rC HO813; exact rL HO813; exact rC HO817; exact rL HO817; rintro e w117 ⟨rfl, hb⟩; replace HO_777001 := rB HO_777001 hb; replace HO_783001 := rB HO_783001 hb; replace HO813 := rB HO813 hb; replace HO817 := rB HO817 hb; replace BK776 := blkB BK776 hb; replace BK782 := blkB BK782 hb; replace BK818 := blkB BK818 hb; replace BK819 := blkB BK819 hb; replace HB := bst HB hb; clear hb)); try go_wp2_with (first | (go_at_call 15; (with_reducible refine (spec_DrawPairDistance.calls kj16 _ _ l1 t810 t811 t814 t815 _ ?_ ?_ A86.out).mono ?_); exact C_g HR1 HB; exact HC1.out; rintro e w96 ⟨v812, v816, rfl, ho0, ho1, hb⟩; have HO813 := rLo (rN (rN ho0 HO_777001) HO_783001) HB; have HO817 := rLo (rN (rN ho1 HO_777001) HO_783001) HB; replace HO_777001 := mkA (Kd.R_mono (Kd.R_told (Kd.R_told (Kd.R_old (Kd.R_g HO_777001.out) hb) (Kd.R_base ho0)) (Kd.R_base ho1)) (fun _ h_ => h_.1)); replace HO_783001 := mkA (Kd.R_mono (Kd.R_told (Kd.R_told (Kd.R_old (Kd.R_g HO_783001.out) hb) (Kd.R_base ho0)) (Kd.R_base ho1)) (fun _ h_ => h_.1)); replace BK776 := blkB BK776 hb; replace BK782 := blkB BK782 hb; replace HB := bst HB hb; clear hb ho0 ho1) | ((with_reducible refine gate_dst (N := 22) rfl ?_); (try (refine gate_guard (by rfl) ?_; dsimp only)); refine boxG HB #[.int .i64 0, .slice none 0 0] 28 ?_; intro gb818 hg w97 BK818 GE818 hb; replace HO_777001 := rB HO_777001 hb; replace HO_783001 := rB HO_783001 hb; replace HO813 := rB HO813 hb; replace HO817 := rB HO817 hb; have NB776_818 := neL7 BK776 hg; have NB818_776 := neR7 BK776 hg; replace BK776 := blkB BK776 hb; have NB782_818 := neL7 BK782 hg; have NB818_782 := neR7 BK782 hg; replace BK782 := blkB BK782 hb; replace HB := bst HB hb; clear hb hg) | ((with_reducible refine gate_dst (N := 23) rfl ?_); (try (refine gate_guard (by rfl) ?_; dsimp only)); refine boxG HB #[.int .i64 0, .slice none 0 0] 28 ?_; intro gb819 hg w98 BK819 GE819 hb; replace HO_777001 := rB HO_777001 hb; replace HO_783001 := rB HO_783001 hb; replace HO813 := rB HO813 hb; replace HO817 := rB HO817 hb; have NB776_819 := neL7 BK776 hg; have NB819_776 := neR7 BK776 hg; replace BK776 := blkB BK776 hb; have NB782_819 := neL7 BK782 hg; have NB819_782 := neR7 BK782 hg; replace BK782 := blkB BK782 hb; have NB818_819 := neL7 BK818 hg; have NB819_818 := neR7 BK818 hg; replace BK818 := blkB BK818 hb; replace HB := bst HB hb; clear hb hg; obtain ⟨hcz102_0, hcz102_1, hfz102_0, hfz102_1⟩ := blk2 BK818; obtain ⟨Ao103, co103, rfl⟩ := Kd.R_slice HO813.out; obtain ⟨hcz106_0, hcz106_1, hfz106_0, hfz106_1⟩ := blk2 BK819; obtain ⟨Ao107, co107, rfl⟩ := Kd.R_slice HO817.out) | (go_at_call 16; (with_reducible refine (impl_PairDistance.calls kj16 t810 _ _ t811 t814 _ _ t815 t820 true _ ?_ ?_ ?_ ?_ ?_ A87.out).mono ?_); exact rDF HO813 BK818 BK819; exact rL HO813; exact rDF HO817 BK818 BK819; exact rL HO817; exact Tab.below HTAB.out (bel_g HB.out); rintro e w108 ⟨rfl, hb⟩; replace HO_777001 := mkA (Kd.R_below (rGg HO_777001 BK818 BK819) hb); replace HO_783001 := mkA (Kd.R_below (rGg HO_783001 BK818 BK819) hb); replace HO813 := mkA (Kd.R_below (rGg HO813 BK818 BK819) hb); replace HO817 := mkA (Kd.R_below (rGg HO817 BK818 BK819) hb); replace BK776 := blkS BK776 hb; replace BK782 := blkS BK782 hb; replace BK818 := blkS BK818 hb; replace BK819 := blkS BK819 hb; replace HB := bst HB hb; clear hb; obtain ⟨hcz109_0, hcz109_1, hfz109_0, hfz109_1⟩ := blk2 BK818; obtain ⟨hcz110_0, hcz110_1, hfz110_0, hfz110_1⟩ := blk2 BK819) | (go_at_call 17; (with_reducible refine (spec_PairDistance.calls kj16 t810 _ _ t811 t814 _ _ t815 t822 t823 _ ?_ ?_ ?_ ?_ A88.out).mono ?_); exact rC HO813; exact rL HO813; exact rC HO817; exact rL HO817; rintro e w111 ⟨rfl, hb⟩; replace HO_777001 := rB HO_777001 hb; replace HO_783001 := rB HO_783001 hb; replace HO813 := rB HO813 hb; replace HO817 := rB HO817 hb; replace BK776 := blkB BK776 hb; replace BK782 := blkB BK782 hb; replace BK818 := blkB BK818 hb; replace BK819 := blkB BK819 hb; replace HB := bst HB hb; clear hb; obtain ⟨hcz112_0, hcz112_1, hfz112_0, hfz112_1⟩ := blk2 BK819; obtain ⟨hcz113_0, hcz113_1, hfz113_0, hfz113_1⟩ := blk2 BK818) | (go_at_call 16; (with_reducible refine (impl_PairDistance.calls kj16 t814 _ _ t815 t810 _ _ t811 t824 true _ ?_ ?_ ?_ ?_ ?_ A92.out).mono ?_); exact rC HO817; exact rL HO817; exact rC HO813; exact rL HO813; exact Tab.below HTAB.out (bel_g HB.out); rintro e w114 ⟨rfl, hb⟩; replace HO_777001 := rB HO_777001 hb; replace HO_783001 := rB HO_783001 hb; replace HO813 := rB HO813 hb; replace HO817 := rB HO817 hb; replace BK776 := blkB BK776 hb; replace BK782 := blkB BK782 hb; replace BK818 := blkB BK818 hb; replace BK819 := blkB BK819 hb; replace HB := bst HB hb; clear hb; obtain ⟨hcz115_0, hcz115_1, hfz115_0, hfz115_1⟩ := blk2 BK818; obtain ⟨hcz116_0, hcz116_1, hfz116_0, hfz116_1⟩ := blk2 BK819) | (go_at_call 10; (with_reducible refine (laws_vOrder.calls kj16 t810 _ _ t811 t814 _ _ t815 t826 _ ?_ ?_ ?_ ?_ A95.out).mono ?_); exact rC HO813; exact rL HO813; exact rC HO817; exact rL HO817; rintro e w117 ⟨rfl, hb⟩; replace HO_777001 := rB HO_777001 hb; replace HO_783001 := rB HO_783001 hb; replace HO813 := rB HO813 hb; replace HO817 := rB HO817 hb; replace BK776 := blkB BK776 hb; replace BK782 := blkB BK782 hb; replace BK818 := blkB BK818 hb; replace BK819 := blkB BK819 hb; replace HB := bst HB hb; clear hb)))
        go_ret
        exact ⟨eqE, bel_g HB.out⟩
       ·replace c93 := Bool.eq_false_iff.mpr c93
        subst c93
        replace H := ifF H
        exact absurd H (by simp)
      ·replace c91 := Bool.eq_false_iff.mpr c91
       subst c91
       replace H := ifF H
       obtain rfl := Option.some.inj H
       go_wp2_with (first | (go_at_call 15; (with_reducible refine (spec_DrawPairDistance.calls kj16 _ _ l1 t810 t811 t814 t815 _ ?_ ?_ A86.out).mono ?_); exact C_g HR1 HB; exact HC1.out; rintro e w118 ⟨v812, v816, rfl, ho0, ho1, hb⟩; have HO813 := rLo (rN (rN ho0 HO_777001) HO_783001) HB; have HO817 := rLo (rN (rN ho1 HO_777001) HO_783001) HB; replace HO_777001 := mkA (Kd.R_mono (Kd.R_told (Kd.R_told (Kd.R_old (Kd.R_g HO_777001.out) hb) (Kd.R_base ho0)) (Kd.R_base ho1)) (fun _ h_ => h_.1)); replace HO_783001 := mkA (Kd.R_mono (Kd.R_told (Kd.R_told (Kd.R_old (Kd.R_g HO_783001.out) hb) (Kd.R_base ho0)) (Kd.R_base ho1)) (fun _ h_ => h_.1)); replace BK776 := blkB BK776 hb; replace BK782 := blkB BK782 hb; replace HB := bst HB hb; clear hb ho0 ho1) | ((with_reducible refine gate_dst (N := 22) rfl ?_); (try (refine gate_guard (by rfl) ?_; dsimp only)); refine boxG HB #[.int .i64 0, .slice none 0 0] 28 ?_; intro gb818 hg w119 BK818 GE818 hb; replace HO_777001 := rB HO_777001 hb; replace HO_783001 := rB HO_783001 hb; replace HO813 := rB HO813 hb; replace HO817 := rB HO817 hb; have NB776_818 := neL7 BK776 hg; have NB818_776 := neR7 BK776 hg; replace BK776 := blkB BK776 hb; have NB782_818 := neL7 BK782 hg; have NB818_782 := neR7 BK782 hg; replace BK782 := blkB BK782 hb; replace HB := bst HB hb; clear hb hg) | ((with_reducible refine gate_dst (N := 23) rfl ?_); (try (refine gate_guard (by rfl) ?_; dsimp only)); refine boxG HB #[.int .i64 0, .slice none 0 0] 28 ?_; intro gb819 hg w120 BK819 GE819 hb; replace HO_777001 := rB HO_777001 hb; replace HO_783001 := rB HO_783001 hb; replace HO813 := rB HO813 hb; replace HO817 := rB HO817 hb; have NB776_819 := neL7 BK776 hg; have NB819_776 := neR7 BK776 hg; replace BK776 := blkB BK776 hb; have NB782_819 := neL7 BK782 hg; have NB819_782 := neR7 BK782 hg; replace BK782 := blkB BK782 hb; have NB818_819 := neL7 BK818 hg; have NB819_818 := neR7 BK818 hg; replace BK818 := blkB BK818 hb; replace HB := bst HB hb; clear hb hg; obtain ⟨hcz124_0, hcz124_1, hfz124_0, hfz124_1⟩ := blk2 BK818; obtain ⟨Ao125, co125, rfl⟩ := Kd.R_slice HO813.out; obtain ⟨hcz128_0, hcz128_1, hfz128_0, hfz128_1⟩ := blk2 BK819; obtain ⟨Ao129, co129, rfl⟩ := Kd.R_slice HO817.out) | (go_at_call 16; (with_reducible refine (impl_PairDistance.calls kj16 t810 _ _ t811 t814 _ _ t815 t820 false _ ?_ ?_ ?_ ?_ ?_ A87.out).mono ?_); exact rDF HO813 BK818 BK819; exact rL HO813; exact rDF HO817 BK818 BK819; exact rL HO817; exact Tab.below HTAB.out (bel_g HB.out); rintro e w130 ⟨rfl, hb⟩; replace HO_777001 := mkA (Kd.R_below (rGg HO_777001 BK818 BK819) hb); replace HO_783001 := mkA (Kd.R_below (rGg HO_783001 BK818 BK819) hb); replace HO813 := mkA (Kd.R_below (rGg HO813 BK818 BK819) hb); replace HO817 := mkA (Kd.R_below (rGg HO817 BK818 BK819) hb); replace BK776 := blkS BK776 hb; replace BK782 := blkS BK782 hb; replace BK818 := blkS BK818 hb; replace BK819 := blkS BK819 hb; replace HB := bst HB hb; clear hb; obtain ⟨hcz131_0, hcz131_1, hfz131_0, hfz131_1⟩ := blk2 BK818; obtain ⟨hcz132_0, hcz132_1, hfz132_0, hfz132_1⟩ := blk2 BK819) | (go_at_call 17; (with_reducible refine (spec_PairDistance.calls kj16 t810 _ _ t811 t814 _ _ t815 t822 t823 _ ?_ ?_ ?_ ?_ A88.out).mono ?_); exact rC HO813; exact rL HO813; exact rC HO817; exact rL HO817; rintro e w133 ⟨rfl, hb⟩; replace HO_777001 := rB HO_777001 hb; replace HO_783001 := rB HO_783001 hb; replace HO813 := rB HO813 hb; replace HO817 := rB HO817 hb; replace BK776 := blkB BK776 hb; replace BK782 := blkB BK782 hb; replace BK818 := blkB BK818 hb; replace BK819 := blkB BK819 hb; replace HB := bst HB hb; clear hb))
       repeat (go_quiet (first | (go_at_call 15; (with_reducible refine (spec_DrawPairDistance.calls kj16 _ _ l1 t810 t811 t814 t815 _ ?_ ?_ A86.out).mono ?_); exact C_g HR1 HB; exact HC1.out; rintro e w118 ⟨v812, v816, rfl, ho0, ho1, hb⟩; have HO813 := rLo (rN (rN ho0 HO_777001) HO_783001) HB; have HO817 := rLo (rN (rN ho1 HO_777001) HO_783001) HB; replace HO_777001 := mkA (Kd.R_mono (Kd.R_told (Kd.R_told (Kd.R_old (Kd.R_g HO_777001.out) hb) (Kd.R_base ho0)) (Kd.R_base ho1)) (fun _ h_ => h_.1)); replace HO_783001 := mkA (Kd.R_mono (Kd.R_told (Kd.R_told (Kd.R_old (Kd.R_g HO_783001.out) hb) (Kd.R_base ho0)) (Kd.R_base ho1)) (fun _ h_ => h_.1)); replace BK776 := blkB BK776 hb; replace BK782 := blkB BK782 hb; replace HB := bst HB hb; clear hb ho0 ho1) | ((with_reducible refine gate_dst (N := 22) rfl ?_); (try (refine gate_guard (by rfl) ?_; dsimp only)); refine boxG HB #[.int .i64 0, .slice none 0 0] 28 ?_; intro gb818 hg w119 BK818 GE818 hb; replace HO_777001 := rB HO_777001 hb; replace HO_783001 := rB HO_783001 hb; replace HO813 := rB HO813 hb; replace HO817 := rB HO817 hb; have NB776_818 := neL7 BK776 hg; have NB818_776 := neR7 BK776 hg; replace BK776 := blkB BK776 hb; have NB782_818 := neL7 BK782 hg; have NB818_782 := neR7 BK782 hg; replace BK782 := blkB BK782 hb; replace HB := bst HB hb; clear hb hg) | ((with_reducible refine gate_dst (N := 23) rfl ?_); (try (refine gate_guard (by rfl) ?_; dsimp only)); refine boxG HB #[.int .i64 0, .slice none 0 0] 28 ?_; intro gb819 hg w120 BK819 GE819 hb; replace HO_777001 := rB HO_777001 hb; replace HO_783001 := rB HO_783001 hb; replace HO813 := rB HO813 hb; replace HO817 := rB HO817 hb; have NB776_819 := neL7 BK776 hg; have NB819_776 := neR7 BK776 hg; replace BK776 := blkB BK776 hb; have NB782_819 := neL7 BK782 hg; have NB819_782 := neR7 BK782 hg; replace BK782 := blkB BK782 hb; have NB818_819 := neL7 BK818 hg; have NB819_818 := neR7 BK818 hg; replace BK818 := blkB BK818 hb; replace HB := bst HB hb; clear hb hg; obtain ⟨hcz124_0, hcz124_1, hfz124_0, hfz124_1⟩ := blk2 BK818; obtain ⟨Ao125, co125, rfl⟩ := Kd.R_slice HO813.out; obtain ⟨hcz128_0, hcz128_1, hfz128_0, hfz128_1⟩ := blk2 BK819; obtain ⟨Ao129, co129, rfl⟩ := Kd.R_slice HO817.out) | (go_at_call 16; (with_reducible refine (impl_PairDistance.calls kj16 t810 _ _ t811 t814 _ _ t815 t820 false _ ?_ ?_ ?_ ?_ ?_ A87.out).mono ?_); exact rDF HO813 BK818 BK819; exact rL HO813; exact rDF HO817 BK818 BK819; exact rL HO817; exact Tab.below HTAB.out (bel_g HB.out); rintro e w130 ⟨rfl, hb⟩; replace HO_777001 := mkA (Kd.R_below (rGg HO_777001 BK818 BK819) hb); replace HO_783001 := mkA (Kd.R_below (rGg HO_783001 BK818 BK819) hb); replace HO813 := mkA (Kd.R_below (rGg HO813 BK818 BK819) hb); replace HO817 := mkA (Kd.R_below (rGg HO817 BK818 BK819) hb); replace BK776 := blkS BK776 hb; replace BK782 := blkS BK782 hb; replace BK818 := blkS BK818 hb; replace BK819 := blkS BK819 hb; replace HB := bst HB hb; clear hb; obtain ⟨hcz131_0, hcz131_1, hfz131_0, hfz131_1⟩ := blk2 BK818; obtain ⟨hcz132_0, hcz132_1, hfz132_0, hfz132_1⟩ := blk2 BK819) | (go_at_call 17; (with_reducible refine (spec_PairDistance.calls kj16 t810 _ _ t811 t814 _ _ t815 t822 t823 _ ?_ ?_ ?_ ?_ A88.out).mono ?_); exact rC HO813; exact rL HO813; exact rC HO817; exact rL HO817; rintro e w133 ⟨rfl, hb⟩; replace HO_777001 := rB HO_777001 hb; replace HO_783001 := rB HO_783001 hb; replace HO813 := rB HO813 hb; replace HO817 := rB HO817 hb; replace BK776 := blkB BK776 hb; replace BK782 := blkB BK782 hb; replace BK818 := blkB BK818 hb; replace BK819 := blkB BK819 hb; replace HB := bst HB hb; clear hb)); try go_wp2_with (first | (go_at_call 15; (with_reducible refine (spec_DrawPairDistance.calls kj16 _ _ l1 t810 t811 t814 t815 _ ?_ ?_ A86.out).mono ?_); exact C_g HR1 HB; exact HC1.out; rintro e w118 ⟨v812, v816, rfl, ho0, ho1, hb⟩; have HO813 := rLo (rN (rN ho0 HO_777001) HO_783001) HB; have HO817 := rLo (rN (rN ho1 HO_777001) HO_783001) HB; replace HO_777001 := mkA (Kd.R_mono (Kd.R_told (Kd.R_told (Kd.R_old (Kd.R_g HO_777001.out) hb) (Kd.R_base ho0)) (Kd.R_base ho1)) (fun _ h_ => h_.1)); replace HO_783001 := mkA (Kd.R_mono (Kd.R_told (Kd.R_told (Kd.R_old (Kd.R_g HO_783001.out) hb) (Kd.R_base ho0)) (Kd.R_base ho1)) (fun _ h_ => h_.1)); replace BK776 := blkB BK776 hb; replace BK782 := blkB BK782 hb; replace HB := bst HB hb; clear hb ho0 ho1) | ((with_reducible refine gate_dst (N := 22) rfl ?_); (try (refine gate_guard (by rfl) ?_; dsimp only)); refine boxG HB #[.int .i64 0, .slice none 0 0] 28 ?_; intro gb818 hg w119 BK818 GE818 hb; replace HO_777001 := rB HO_777001 hb; replace HO_783001 := rB HO_783001 hb; replace HO813 := rB HO813 hb; replace HO817 := rB HO817 hb; have NB776_818 := neL7 BK776 hg; have NB818_776 := neR7 BK776 hg; replace BK776 := blkB BK776 hb; have NB782_818 := neL7 BK782 hg; have NB818_782 := neR7 BK782 hg; replace BK782 := blkB BK782 hb; replace HB := bst HB hb; clear hb hg) | ((with_reducible refine gate_dst (N := 23) rfl ?_); (try (refine gate_guard (by rfl) ?_; dsimp only)); refine boxG HB #[.int .i64 0, .slice none 0 0] 28 ?_; intro gb819 hg w120 BK819 GE819 hb; replace HO_777001 := rB HO_777001 hb; replace HO_783001 := rB HO_783001 hb; replace HO813 := rB HO813 hb; replace HO817 := rB HO817 hb; have NB776_819 := neL7 BK776 hg; have NB819_776 := neR7 BK776 hg; replace BK776 := blkB BK776 hb; have NB782_819 := neL7 BK782 hg; have NB819_782 := neR7 BK782 hg; replace BK782 := blkB BK782 hb; have NB818_819 := neL7 BK818 hg; have NB819_818 := neR7 BK818 hg; replace BK818 := blkB BK818 hb; replace HB := bst HB hb; clear hb hg; obtain ⟨hcz124_0, hcz124_1, hfz124_0, hfz124_1⟩ := blk2 BK818; obtain ⟨Ao125, co125, rfl⟩ := Kd.R_slice HO813.out; obtain ⟨hcz128_0, hcz128_1, hfz128_0, hfz128_1⟩ := blk2 BK819; obtain ⟨Ao129, co129, rfl⟩ := Kd.R_slice HO817.out) | (go_at_call 16; (with_reducible refine (impl_PairDistance.calls kj16 t810 _ _ t811 t814 _ _ t815 t820 false _ ?_ ?_ ?_ ?_ ?_ A87.out).mono ?_); exact rDF HO813 BK818 BK819; exact rL HO813; exact rDF HO817 BK818 BK819; exact rL HO817; exact Tab.below HTAB.out (bel_g HB.out); rintro e w130 ⟨rfl, hb⟩; replace HO_777001 := mkA (Kd.R_below (rGg HO_777001 BK818 BK819) hb); replace HO_783001 := mkA (Kd.R_below (rGg HO_783001 BK818 BK819) hb); replace HO813 := mkA (Kd.R_below (rGg HO813 BK818 BK819) hb); replace HO817 := mkA (Kd.R_below (rGg HO817 BK818 BK819) hb); replace BK776 := blkS BK776 hb; replace BK782 := blkS BK782 hb; replace BK818 := blkS BK818 hb; replace BK819 := blkS BK819 hb; replace HB := bst HB hb; clear hb; obtain ⟨hcz131_0, hcz131_1, hfz131_0, hfz131_1⟩ := blk2 BK818; obtain ⟨hcz132_0, hcz132_1, hfz132_0, hfz132_1⟩ := blk2 BK819) | (go_at_call 17; (with_reducible refine (spec_PairDistance.calls kj16 t810 _ _ t811 t814 _ _ t815 t822 t823 _ ?_ ?_ ?_ ?_ A88.out).mono ?_); exact rC HO813; exact rL HO813; exact rC HO817; exact rL HO817; rintro e w133 ⟨rfl, hb⟩; replace HO_777001 := rB HO_777001 hb; replace HO_783001 := rB HO_783001 hb; replace HO813 := rB HO813 hb; replace HO817 := rB HO817 hb; replace BK776 := blkB BK776 hb; replace BK782 := blkB BK782 hb; replace BK818 := blkB BK818 hb; replace BK819 := blkB BK819 hb; replace HB := bst HB hb; clear hb)))
       go_ret
       exact ⟨eqE, bel_g HB.out⟩
   ·replace c15 := Bool.eq_false_iff.mpr c15
    subst c15
    replace H := ifF H
    exact absurd H (by simp)
  ·replace c12 := Bool.eq_false_iff.mpr c12
   subst c12
   replace H := ifF H
   exact absurd H (by simp)
end Go.Proofs.YtmdnbjhboppkdaaDoor.Q
