import Derived.Test.YtgbdjchdfcodcaaDoorBFnRefinements16
import Derived.Test.YtgbdjchdfcodcaaDoorBFnRefinements17
namespace Go.Proofs.YtgbdjchdfcodcaaDoor.Q
open Go.RowKit Go.Proofs.YtgbdjchdfcodcaaDoorW.PrintWords Go.Proofs.YtgbdjchdfcodcaaDoorW.PrintLast Go.Proofs.YtgbdjchdfcodcaaDoorW.PrintMore
attribute [local go_sem] max2_int min2_int max_two min_two max_three min_three max_four min_four neB_f
set_option linter.unusedVariables false
set_option maxHeartbeats 8000000
set_option maxRecDepth 100000
set_option linter.unusedSimpArgs false
def impl_MeetOrders.f (k : Nat) (a0_0 : Int) (l0_1 : List Int) (a1_0 : Int) (l1_1 : List Int) : Option (Int × List Int × Bool) := (impl_areOrders.f k a0_0 l0_1 a1_0 l1_1).bind fun t458 => (if t458 = true then ((impl_relation.f k a0_0 (fun u0_ u1_ => impl_MeetOrders_1.f u0_ u1_ a0_0 l0_1 a1_0 l1_1)).bind fun bt459 => (some (bt459.1, bt459.2, true))) else (some (0, ([] : List Int), false)))
theorem impl_MeetOrders.mono : ∀ a0 a1 a2 a3 k, LeO (impl_MeetOrders.f k a0 a1 a2 a3) (impl_MeetOrders.f (k + 1) a0 a1 a2 a3) := by
 intro a0 a1 a2 a3 k
 unfold impl_MeetOrders.f
 repeat' first
   | (with_reducible exact impl_relation.mono _ _ _)
   | (refine impl_relation.monoF ?_ _ _; intros)
   | (with_reducible exact impl_areOrders.mono _ _ _ _ _)
   | (with_reducible exact impl_relation.mono _ _ _)
   | (with_reducible exact LeO.refl _)
   | (with_reducible exact LeO.none _)
   | (with_reducible refine LeO.ite ?_ ?_)
   | (with_reducible refine LeO.bind ?_ (fun _ => ?_))
   | exact impl_areOrders.mono _ _ _ _ _
   | exact impl_relation.mono _ _ _
   | exact LeO.none _
   | refine LeO.ite ?_ ?_
   | refine LeO.bind ?_ (fun _ => ?_)
theorem impl_MeetOrders.calls (k : Nat) (a0_0 : Int) (A0_1 : Option Addr) (c0_1 : Nat) (l0_1 : List Int) (a1_0 : Int) (A1_1 : Option Addr) (c1_1 : Nat) (l1_1 : List Int) (r1 : Int) (r2 : List Int) (r3 : Bool) (w : World) (hr0_1 : Kd.C (Kd.int .i64) w A0_1 l0_1.length l0_1) (hc0_1 : l0_1.length ≤ c0_1) (hr1_1 : Kd.C (Kd.int .i64) w A1_1 l1_1.length l1_1) (hc1_1 : l1_1.length ≤ c1_1) (hTAB : Tab w) (h : impl_MeetOrders.f k a0_0 l0_1 a1_0 l1_1 = some (r1, r2, r3)) :
  Calls Tryd.prog 6 #[.agg #[.int .i64 a0_0, .slice A0_1 l0_1.length c0_1], .agg #[.int .i64 a1_0, .slice A1_1 l1_1.length c1_1]] w fun e w' => ∃ v1_ : Value, e = .returned (.tuple #[.agg #[.int .i64 r1, v1_], .bool r3]) ∧ Kd.R (Kd.int .i64) 3 w' w.heap.size (fun _ => True) v1_ r2 ∧ Below w.heap.size w w' := by
 have HTAB := mkA hTAB
 clear hTAB
 have hu26 := Tryd.underlying26
 have HR0_1 := mkA hr0_1
 have HC0_1 := mkA hc0_1
 clear hr0_1 hc0_1
 have HR1_1 := mkA hr1_1
 have HC1_1 := mkA hc1_1
 clear hr1_1 hc1_1
 have HB := mkA (Below.refl w.heap.size w)
 have H := h
 clear h
 unfold impl_MeetOrders.f at H
 obtain ⟨t458, A3, H⟩ := obE H
 by_cases c4 : t458 = true
 ·subst c4
  replace H := ifT H
  obtain ⟨⟨t459, t460⟩, A5, H⟩ := obE H
  dsimp only at H
  simp only [Option.some.injEq, Prod.mk.injEq] at H
  obtain ⟨rfl, rfl, rfl⟩ := H
  go_enter Tryd.func6, Tryd.ntmps6
  go_wp2_with (first | ((with_reducible refine gate_dst (N := 2) rfl ?_); refine boxE (N := 2) (cs := #[.int .i64 a0_0, .slice A0_1 l0_1.length c0_1]) (t := 26) ?_; intro gb455 hg w6 hbox hb; have BK455 := mkA (hbox); have GE455 := geB HB hg; replace HB := bst HB hb; clear hb hbox hg) | ((with_reducible refine gate_dst (N := 3) rfl ?_); refine boxE (N := 3) (cs := #[.int .i64 a1_0, .slice A1_1 l1_1.length c1_1]) (t := 26) ?_; intro gb456 hg w7 hbox hb; have BK456 := mkA (hbox); have GE456 := geB HB hg; have NB455_456 := neL7 BK455 hg; have NB456_455 := neR7 BK455 hg; replace BK455 := blkB BK455 hb; replace HB := bst HB hb; clear hb hbox hg) | ((with_reducible refine gate_dst (N := 4) rfl ?_); refine boxE (N := 4) (cs := #[.int .i64 0, .slice none 0 0]) (t := 26) ?_; intro gb457 hg w8 hbox hb; have BK457 := mkA (hbox); have GE457 := geB HB hg; have NB455_457 := neL7 BK455 hg; have NB457_455 := neR7 BK455 hg; replace BK455 := blkB BK455 hb; have NB456_457 := neL7 BK456 hg; have NB457_456 := neR7 BK456 hg; replace BK456 := blkB BK456 hb; replace HB := bst HB hb; clear hb hbox hg; obtain ⟨_, _, _, _⟩ := blk2 BK455; obtain ⟨_, _, _, _⟩ := blk2 BK456) | ((with_reducible refine gate_callee (f := 18) rfl ?_); refine goesQ (some 8) Tryd.func18 #[.agg #[.int .i64 a0_0, .slice A0_1 l0_1.length c0_1], .agg #[.int .i64 a1_0, .slice A1_1 l1_1.length c1_1]] ?_; (with_reducible refine (impl_areOrders.calls k a0_0 _ _ l0_1 a1_0 _ _ l1_1 true _ ?s1 ?s2 ?s3 ?s4 ?s5 A3.out).mono ?_); (case s1 => exact C_g HR0_1 HB); (case s2 => exact HC0_1.out); (case s3 => exact C_g HR1_1 HB); (case s4 => exact HC1_1.out); (case s5 => exact Tab.below HTAB.out (bel_g HB.out)); rintro e w14 ⟨rfl, hb⟩; refine ⟨_, rfl, ?_⟩; replace BK455 := blkB BK455 hb; replace BK456 := blkB BK456 hb; replace BK457 := blkB BK457 hb; replace HB := bst HB hb; (try clear hb); (try clear hk); obtain ⟨_, _, _, _⟩ := blk2 BK455) | ((with_reducible refine gate_callee (f := 19) rfl ?_); refine goesQ (some 14) Tryd.func19 #[.int .i64 a0_0, .func (.func 20) #[] #[.pointer (some ⟨gb455, 0, none⟩), .pointer (some ⟨gb456, 0, none⟩)]] ?_; (with_reducible refine (impl_relation.calls k a0_0 (fun u0_ u1_ => impl_MeetOrders_1.f u0_ u1_ a0_0 l0_1 a1_0 l1_1) 20 #[.pointer (some ⟨gb455, 0, none⟩), .pointer (some ⟨gb456, 0, none⟩)] (fun args_ W_ => enters_ Tryd.func20 (by kernel_rfl) rfl args_ W_) t459 t460 _ ?s1 A5.out).mono ?_); (case s1 => exact fun u0_ u1_ q_ W_ hb_ hq_ => (impl_MeetOrders_1.calls u0_ u1_ gb455 a0_0 A0_1 c0_1 l0_1 gb456 a1_0 A1_1 c1_1 l1_1 q_ W_ (blk_below (show _ = some (Obj.cells #[.int .i64 a0_0, .slice A0_1 l0_1.length c0_1] 26 (0, 0)) from blkT BK455) hb_) (Kd.C_below (show Kd.C (Kd.int .i64) _ A0_1 l0_1.length l0_1 from by exact C_g HR0_1 HB) hb_) (by exact HC0_1.out) (blk_below (show _ = some (Obj.cells #[.int .i64 a1_0, .slice A1_1 l1_1.length c1_1] 26 (0, 0)) from blkT BK456) hb_) (Kd.C_below (show Kd.C (Kd.int .i64) _ A1_1 l1_1.length l1_1 from by exact C_g HR1_1 HB) hb_) (by exact HC1_1.out) hq_).mono (fun _ _ h_ => ⟨h_.1, h_.2⟩)); rintro e w16 ⟨v461, rfl, ho0, hb⟩; refine ⟨_, rfl, ?_⟩; have HO462 := mkA (Kd.R_lower ho0 (below_size (bel_g HB.out))); replace BK455 := blkB BK455 hb; replace BK456 := blkB BK456 hb; replace BK457 := blkB BK457 hb; replace HB := bst HB hb; (try clear hb); (try clear hk); (try clear ho0); obtain ⟨_, _, _, _⟩ := blk2 BK457; obtain ⟨Ao18, co18, eo18⟩ := Kd.R_slice HO462.out; subst eo18))
  refine bodyPost_ret (results_ct rfl _ _ gb457 26 #[.int .i64 t459, .slice Ao18 t460.length co18] (0, 0) _ rfl (blkT BK457) Tryd.underlying26 rfl (by kernel_rfl)) rfl ?_
  exact ⟨_, eqE, by (with_reducible repeat (first | apply Kd.R_alloc | apply Kd.R_drewN | apply Kd.R_drew)); exact Kd.R_mono (rF HO462 BK457) (fun _ _ => trivial), bel_g HB.out⟩
 ·replace c4 := Bool.eq_false_iff.mpr c4
  subst c4
  replace H := ifF H
  simp only [Option.some.injEq, Prod.mk.injEq] at H
  obtain ⟨rfl, rfl, rfl⟩ := H
  go_enter Tryd.func6, Tryd.ntmps6
  go_wp2_with (first | ((with_reducible refine gate_dst (N := 2) rfl ?_); refine boxE (N := 2) (cs := #[.int .i64 a0_0, .slice A0_1 l0_1.length c0_1]) (t := 26) ?_; intro gb455 hg w19 hbox hb; have BK455 := mkA (hbox); have GE455 := geB HB hg; replace HB := bst HB hb; clear hb hbox hg) | ((with_reducible refine gate_dst (N := 3) rfl ?_); refine boxE (N := 3) (cs := #[.int .i64 a1_0, .slice A1_1 l1_1.length c1_1]) (t := 26) ?_; intro gb456 hg w20 hbox hb; have BK456 := mkA (hbox); have GE456 := geB HB hg; have NB455_456 := neL7 BK455 hg; have NB456_455 := neR7 BK455 hg; replace BK455 := blkB BK455 hb; replace HB := bst HB hb; clear hb hbox hg) | ((with_reducible refine gate_dst (N := 4) rfl ?_); refine boxE (N := 4) (cs := #[.int .i64 0, .slice none 0 0]) (t := 26) ?_; intro gb457 hg w21 hbox hb; have BK457 := mkA (hbox); have GE457 := geB HB hg; have NB455_457 := neL7 BK455 hg; have NB457_455 := neR7 BK455 hg; replace BK455 := blkB BK455 hb; have NB456_457 := neL7 BK456 hg; have NB457_456 := neR7 BK456 hg; replace BK456 := blkB BK456 hb; replace HB := bst HB hb; clear hb hbox hg; obtain ⟨_, _, _, _⟩ := blk2 BK455; obtain ⟨_, _, _, _⟩ := blk2 BK456) | ((with_reducible refine gate_callee (f := 18) rfl ?_); refine goesQ (some 8) Tryd.func18 #[.agg #[.int .i64 a0_0, .slice A0_1 l0_1.length c0_1], .agg #[.int .i64 a1_0, .slice A1_1 l1_1.length c1_1]] ?_; (with_reducible refine (impl_areOrders.calls k a0_0 _ _ l0_1 a1_0 _ _ l1_1 false _ ?s1 ?s2 ?s3 ?s4 ?s5 A3.out).mono ?_); (case s1 => exact C_g HR0_1 HB); (case s2 => exact HC0_1.out); (case s3 => exact C_g HR1_1 HB); (case s4 => exact HC1_1.out); (case s5 => exact Tab.below HTAB.out (bel_g HB.out)); rintro e w27 ⟨rfl, hb⟩; refine ⟨_, rfl, ?_⟩; replace BK455 := blkB BK455 hb; replace BK456 := blkB BK456 hb; replace BK457 := blkB BK457 hb; replace HB := bst HB hb; (try clear hb); (try clear hk); obtain ⟨_, _, _, _⟩ := blk2 BK457))
  refine bodyPost_ret (results_ct rfl _ _ gb457 26 #[.int .i64 0, .slice none 0 0] (0, 0) _ rfl (blkT BK457) Tryd.underlying26 rfl (by kernel_rfl)) rfl ?_
  exact ⟨_, eqE, by first | exact Kd.R_nil _ _ _ _ _ | exact Kd.N_nil _ _ _ _ _ | exact Kd.V_nil _ _ _ _ _ | exact Kd.Q_nil _ _ _ _ _ | exact Kd.S_nil _ _ _ _ _, bel_g HB.out⟩
end Go.Proofs.YtgbdjchdfcodcaaDoor.Q
