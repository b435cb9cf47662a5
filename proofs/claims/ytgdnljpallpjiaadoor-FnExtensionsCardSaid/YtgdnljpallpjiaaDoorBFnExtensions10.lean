import Derived.Test.YtgdnljpallpjiaaDoorBFnExtensions8
import Derived.Test.YtgdnljpallpjiaaDoorBFnExtensions9
namespace Go.Proofs.YtgdnljpallpjiaaDoor.Q
open Go.RowKit Go.Proofs.YtgdnljpallpjiaaDoorW.PrintWords Go.Proofs.YtgdnljpallpjiaaDoorW.PrintLast Go.Proofs.YtgdnljpallpjiaaDoorW.PrintMore
attribute [local go_sem] max2_int min2_int max_two min_two max_three min_three max_four min_four neB_f
set_option linter.unusedVariables false
set_option maxHeartbeats 8000000
set_option maxRecDepth 100000
set_option linter.unusedSimpArgs false
def impl_together.f (k : Nat) (a0_0 : Int) (l0_1 : List Int) (a1_0 : Int) (l1_1 : List Int) (a2 : Bool) : Option (Int × List Int × Bool) := (impl_IsOrder.f k a0_0 l0_1).bind fun t290 => (if t290 = true then ((impl_IsOrder.f k a1_0 l1_1).bind fun t291 => (if t291 = true then (if (wrap64 (a0_0 + a1_0)) > 10 then (some (0, ([] : List Int), false)) else ((impl_relation.f k (wrap64 (a0_0 + a1_0)) (fun u0_ u1_ => impl_together_1.f k u0_ u1_ a0_0 l0_1 a1_0 l1_1 a2)).bind fun bt292 => (some (bt292.1, bt292.2, true)))) else (some (0, ([] : List Int), false)))) else (some (0, ([] : List Int), false)))
theorem impl_together.mono : ∀ a0 a1 a2 a3 a4 k, LeO (impl_together.f k a0 a1 a2 a3 a4) (impl_together.f (k + 1) a0 a1 a2 a3 a4) := by
 intro a0 a1 a2 a3 a4 k
 unfold impl_together.f
 repeat' first
   | (with_reducible exact impl_relation.mono _ _ _)
   | (refine impl_relation.monoF ?_ _ _; intros)
   | (with_reducible exact impl_IsOrder.mono _ _ _)
   | (with_reducible exact impl_relation.mono _ _ _)
   | (with_reducible exact impl_together_1.mono _ _ _ _ _ _ _ _)
   | (with_reducible exact LeO.refl _)
   | (with_reducible exact LeO.none _)
   | (with_reducible refine LeO.ite ?_ ?_)
   | (with_reducible refine LeO.bind ?_ (fun _ => ?_))
   | exact impl_IsOrder.mono _ _ _
   | exact impl_relation.mono _ _ _
   | exact impl_together_1.mono _ _ _ _ _ _ _ _
   | exact LeO.none _
   | refine LeO.ite ?_ ?_
   | refine LeO.bind ?_ (fun _ => ?_)
theorem impl_together.calls (k : Nat) (a0_0 : Int) (A0_1 : Option Addr) (c0_1 : Nat) (l0_1 : List Int) (a1_0 : Int) (A1_1 : Option Addr) (c1_1 : Nat) (l1_1 : List Int) (a2 : Bool) (r1 : Int) (r2 : List Int) (r3 : Bool) (w : World) (hr0_1 : Kd.C (Kd.int .i64) w A0_1 l0_1.length l0_1) (hc0_1 : l0_1.length ≤ c0_1) (hr1_1 : Kd.C (Kd.int .i64) w A1_1 l1_1.length l1_1) (hc1_1 : l1_1.length ≤ c1_1) (hTAB : Tab w) (h : impl_together.f k a0_0 l0_1 a1_0 l1_1 a2 = some (r1, r2, r3)) :
  Calls Tryd.prog 16 #[.agg #[.int .i64 a0_0, .slice A0_1 l0_1.length c0_1], .agg #[.int .i64 a1_0, .slice A1_1 l1_1.length c1_1], .bool a2] w fun e w' => ∃ v1_ : Value, e = .returned (.tuple #[.agg #[.int .i64 r1, v1_], .bool r3]) ∧ Kd.R (Kd.int .i64) 3 w' w.heap.size (fun _ => True) v1_ r2 ∧ Below w.heap.size w w' := by
 have HTAB := mkA hTAB
 clear hTAB
 have hu26 := Tryd.underlying26
 have HR0_1 := mkA hr0_1
 have HC0_1 := mkA hc0_1
 clear hr0_1 hc0_1
 have HR1_1 := mkA hr1_1
 have HC1_1 := mkA hc1_1
 clear hr1_1 hc1_1
 have HB := mkA (Below.refl w.heap.size w)
 have H := h
 clear h
 unfold impl_together.f at H
 obtain ⟨t290, A4, H⟩ := obE H
 by_cases c5 : t290 = true
 ·subst c5
  replace H := ifT H
  obtain ⟨t291, A6, H⟩ := obE H
  by_cases c7 : t291 = true
  ·subst c7
   replace H := ifT H
   rcases iteP H with ⟨c8, H⟩ | ⟨c8, H⟩
   ·have c8b0 : decide (10 < (wrap64 (a0_0 + a1_0))) = true := decide_eq_true c8
    clear c8
    simp only [Option.some.injEq, Prod.mk.injEq] at H
    obtain ⟨rfl, rfl, rfl⟩ := H
    go_enter Tryd.func16, Tryd.ntmps16
    go_wp2_with (first | ((with_reducible refine gate_dst (N := 3) rfl ?_); refine boxE (N := 3) (cs := #[.int .i64 a0_0, .slice A0_1 l0_1.length c0_1]) (t := 26) ?_; intro gb286 hg w9 hbox hb; have BK286 := mkA (hbox); have GE286 := geB HB hg; replace HB := bst HB hb; clear hb hbox hg) | ((with_reducible refine gate_dst (N := 4) rfl ?_); refine boxE (N := 4) (cs := #[.int .i64 a1_0, .slice A1_1 l1_1.length c1_1]) (t := 26) ?_; intro gb287 hg w10 hbox hb; have BK287 := mkA (hbox); have GE287 := geB HB hg; have NB286_287 := neL7 BK286 hg; have NB287_286 := neR7 BK286 hg; replace BK286 := blkB BK286 hb; replace HB := bst HB hb; clear hb hbox hg) | ((with_reducible refine gate_dst (N := 5) rfl ?_); refine boxE (N := 5) (cs := #[.bool a2]) (t := 4) ?_; intro gb288 hg w11 hbox hb; have BK288 := mkA (hbox); have GE288 := geB HB hg; have NB286_288 := neL7 BK286 hg; have NB288_286 := neR7 BK286 hg; replace BK286 := blkB BK286 hb; have NB287_288 := neL7 BK287 hg; have NB288_287 := neR7 BK287 hg; replace BK287 := blkB BK287 hb; replace HB := bst HB hb; clear hb hbox hg) | ((with_reducible refine gate_dst (N := 6) rfl ?_); refine boxE (N := 6) (cs := #[.int .i64 0, .slice none 0 0]) (t := 26) ?_; intro gb289 hg w12 hbox hb; have BK289 := mkA (hbox); have GE289 := geB HB hg; have NB286_289 := neL7 BK286 hg; have NB289_286 := neR7 BK286 hg; replace BK286 := blkB BK286 hb; have NB287_289 := neL7 BK287 hg; have NB289_287 := neR7 BK287 hg; replace BK287 := blkB BK287 hb; have NB288_289 := neL7 BK288 hg; have NB289_288 := neR7 BK288 hg; replace BK288 := blkB BK288 hb; replace HB := bst HB hb; clear hb hbox hg; obtain ⟨hcz16_0, hcz16_1, hfz16_0, hfz16_1⟩ := blk2 BK286) | ((with_reducible refine gate_callee (f := 20) rfl ?_); refine goesQ (some 9) Tryd.func20 #[.agg #[.int .i64 a0_0, .slice A0_1 l0_1.length c0_1]] ?_; (with_reducible refine (impl_IsOrder.calls k a0_0 _ _ l0_1 true _ ?s1 ?s2 ?s3 A4.out).mono ?_); (case s1 => exact C_g HR0_1 HB); (case s2 => exact HC0_1.out); (case s3 => exact Tab.below HTAB.out (bel_g HB.out)); rintro e w17 ⟨rfl, hb⟩; refine ⟨_, rfl, ?_⟩; replace BK286 := blkB BK286 hb; replace BK287 := blkB BK287 hb; replace BK288 := blkB BK288 hb; replace BK289 := blkB BK289 hb; replace HB := bst HB hb; (try clear hb); (try clear hk); obtain ⟨hcz20_0, hcz20_1, hfz20_0, hfz20_1⟩ := blk2 BK287) | (go_at_call 20; (with_reducible refine (impl_IsOrder.calls k a1_0 _ _ l1_1 true _ ?s1 ?s2 ?s3 A6.out).mono ?_); (case s1 => exact C_g HR1_1 HB); (case s2 => exact HC1_1.out); (case s3 => exact Tab.below HTAB.out (bel_g HB.out)); rintro e w21 ⟨rfl, hb⟩; replace BK286 := blkB BK286 hb; replace BK287 := blkB BK287 hb; replace BK288 := blkB BK288 hb; replace BK289 := blkB BK289 hb; replace HB := bst HB hb; (try clear hb); (try clear hk); obtain ⟨hcz22_0, hcz22_1, hfz22_0, hfz22_1⟩ := blk2 BK286; obtain ⟨hcz23_0, hcz23_1, hfz23_0, hfz23_1⟩ := blk2 BK287; obtain ⟨hcz25_0, hcz25_1, hfz25_0, hfz25_1⟩ := blk2 BK289))
    refine bodyPost_ret (results_ct rfl _ _ gb289 26 #[.int .i64 0, .slice none 0 0] (0, 0) _ rfl (blkT BK289) Tryd.underlying26 rfl (by kernel_rfl)) rfl ?_
    exact ⟨_, eqE, by first | exact Kd.R_nil _ _ _ _ _ | exact Kd.N_nil _ _ _ _ _ | exact Kd.V_nil _ _ _ _ _ | exact Kd.Q_nil _ _ _ _ _ | exact Kd.S_nil _ _ _ _ _, bel_g HB.out⟩
   ·have c8b0 : decide (10 < (wrap64 (a0_0 + a1_0))) = false := decide_eq_false c8
    clear c8
    obtain ⟨⟨t292, t293⟩, A26, H⟩ := obE H
    dsimp only at H
    simp only [Option.some.injEq, Prod.mk.injEq] at H
    obtain ⟨rfl, rfl, rfl⟩ := H
    go_enter Tryd.func16, Tryd.ntmps16
    go_wp2_with (first | ((with_reducible refine gate_dst (N := 3) rfl ?_); refine boxE (N := 3) (cs := #[.int .i64 a0_0, .slice A0_1 l0_1.length c0_1]) (t := 26) ?_; intro gb286 hg w27 hbox hb; have BK286 := mkA (hbox); have GE286 := geB HB hg; replace HB := bst HB hb; clear hb hbox hg) | ((with_reducible refine gate_dst (N := 4) rfl ?_); refine boxE (N := 4) (cs := #[.int .i64 a1_0, .slice A1_1 l1_1.length c1_1]) (t := 26) ?_; intro gb287 hg w28 hbox hb; have BK287 := mkA (hbox); have GE287 := geB HB hg; have NB286_287 := neL7 BK286 hg; have NB287_286 := neR7 BK286 hg; replace BK286 := blkB BK286 hb; replace HB := bst HB hb; clear hb hbox hg) | ((with_reducible refine gate_dst (N := 5) rfl ?_); refine boxE (N := 5) (cs := #[.bool a2]) (t := 4) ?_; intro gb288 hg w29 hbox hb; have BK288 := mkA (hbox); have GE288 := geB HB hg; have NB286_288 := neL7 BK286 hg; have NB288_286 := neR7 BK286 hg; replace BK286 := blkB BK286 hb; have NB287_288 := neL7 BK287 hg; have NB288_287 := neR7 BK287 hg; replace BK287 := blkB BK287 hb; replace HB := bst HB hb; clear hb hbox hg) | ((with_reducible refine gate_dst (N := 6) rfl ?_); refine boxE (N := 6) (cs := #[.int .i64 0, .slice none 0 0]) (t := 26) ?_; intro gb289 hg w30 hbox hb; have BK289 := mkA (hbox); have GE289 := geB HB hg; have NB286_289 := neL7 BK286 hg; have NB289_286 := neR7 BK286 hg; replace BK286 := blkB BK286 hb; have NB287_289 := neL7 BK287 hg; have NB289_287 := neR7 BK287 hg; replace BK287 := blkB BK287 hb; have NB288_289 := neL7 BK288 hg; have NB289_288 := neR7 BK288 hg; replace BK288 := blkB BK288 hb; replace HB := bst HB hb; clear hb hbox hg; obtain ⟨hcz34_0, hcz34_1, hfz34_0, hfz34_1⟩ := blk2 BK286) | ((with_reducible refine gate_callee (f := 20) rfl ?_); refine goesQ (some 9) Tryd.func20 #[.agg #[.int .i64 a0_0, .slice A0_1 l0_1.length c0_1]] ?_; (with_reducible refine (impl_IsOrder.calls k a0_0 _ _ l0_1 true _ ?s1 ?s2 ?s3 A4.out).mono ?_); (case s1 => exact C_g HR0_1 HB); (case s2 => exact HC0_1.out); (case s3 => exact Tab.below HTAB.out (bel_g HB.out)); rintro e w35 ⟨rfl, hb⟩; refine ⟨_, rfl, ?_⟩; replace BK286 := blkB BK286 hb; replace BK287 := blkB BK287 hb; replace BK288 := blkB BK288 hb; replace BK289 := blkB BK289 hb; replace HB := bst HB hb; (try clear hb); (try clear hk); obtain ⟨hcz38_0, hcz38_1, hfz38_0, hfz38_1⟩ := blk2 BK287) | (go_at_call 20; (with_reducible refine (impl_IsOrder.calls k a1_0 _ _ l1_1 true _ ?s1 ?s2 ?s3 A6.out).mono ?_); (case s1 => exact C_g HR1_1 HB); (case s2 => exact HC1_1.out); (case s3 => exact Tab.below HTAB.out (bel_g HB.out)); rintro e w39 ⟨rfl, hb⟩; replace BK286 := blkB BK286 hb; replace BK287 := blkB BK287 hb; replace BK288 := blkB BK288 hb; replace BK289 := blkB BK289 hb; replace HB := bst HB hb; (try clear hb); (try clear hk); obtain ⟨hcz40_0, hcz40_1, hfz40_0, hfz40_1⟩ := blk2 BK286; obtain ⟨hcz41_0, hcz41_1, hfz41_0, hfz41_1⟩ := blk2 BK287) | ((with_reducible refine gate_callee (f := 29) rfl ?_); refine goesQ (some 31) Tryd.func29 #[.int .i64 (wrap64 (a0_0 + a1_0)), .func (.func 30) #[] #[.pointer (some ⟨gb286, 0, none⟩), .pointer (some ⟨gb287, 0, none⟩), .pointer (some ⟨gb288, 0, none⟩)]] ?_; (with_reducible refine (impl_relation.calls k (wrap64 (a0_0 + a1_0)) (fun u0_ u1_ => impl_together_1.f k u0_ u1_ a0_0 l0_1 a1_0 l1_1 a2) 30 #[.pointer (some ⟨gb286, 0, none⟩), .pointer (some ⟨gb287, 0, none⟩), .pointer (some ⟨gb288, 0, none⟩)] (fun args_ W_ => enters_ Tryd.func30 (by kernel_rfl) rfl args_ W_) t292 t293 _ ?s1 A26.out).mono ?_); (case s1 => exact fun u0_ u1_ q_ W_ hb_ hq_ => (impl_together_1.calls k u0_ u1_ gb286 a0_0 A0_1 c0_1 l0_1 gb287 a1_0 A1_1 c1_1 l1_1 gb288 a2 q_ W_ (blk_below (show _ = some (Obj.cells #[.int .i64 a0_0, .slice A0_1 l0_1.length c0_1] 26 (0, 0)) from blkT BK286) hb_) (Kd.C_below (show Kd.C (Kd.int .i64) _ A0_1 l0_1.length l0_1 from by exact C_g HR0_1 HB) hb_) (by exact HC0_1.out) (blk_below (show _ = some (Obj.cells #[.int .i64 a1_0, .slice A1_1 l1_1.length c1_1] 26 (0, 0)) from blkT BK287) hb_) (Kd.C_below (show Kd.C (Kd.int .i64) _ A1_1 l1_1.length l1_1 from by exact C_g HR1_1 HB) hb_) (by exact HC1_1.out) (blk_below (show _ = some (Obj.cells #[.bool a2] 4 (0, 0)) from blkT BK288) hb_) hq_).mono (fun _ _ h_ => ⟨h_.1, h_.2⟩)); rintro e w42 ⟨v294, rfl, ho0, hb⟩; refine ⟨_, rfl, ?_⟩; have HO295 := mkA (Kd.R_lower ho0 (below_size (bel_g HB.out))); replace BK286 := blkB BK286 hb; replace BK287 := blkB BK287 hb; replace BK288 := blkB BK288 hb; replace BK289 := blkB BK289 hb; replace HB := bst HB hb; (try clear hb); (try clear hk); (try clear ho0); obtain ⟨hcz44_0, hcz44_1, hfz44_0, hfz44_1⟩ := blk2 BK289; obtain ⟨Ao45, co45, eo45⟩ := Kd.R_slice HO295.out; subst eo45))
    refine bodyPost_ret (results_ct rfl _ _ gb289 26 #[.int .i64 t292, .slice Ao45 t293.length co45] (0, 0) _ rfl (blkT BK289) Tryd.underlying26 rfl (by kernel_rfl)) rfl ?_
    exact ⟨_, eqE, by (with_reducible repeat (first | apply Kd.R_alloc | apply Kd.R_drewN | apply Kd.R_drew)); exact Kd.R_mono (Kd.R_far (p := ⟨gb289, 1, none⟩) (Kd.R_far (p := ⟨gb289, 0, none⟩) (Kd.R_types HO295.out BK289.out (by decide)) (fun _ hk => hk.2) (.int .i64 t292)) (fun _ hk => hk.2) (.slice Ao45 t293.length co45)) (fun _ hk => trivial), bel_g HB.out⟩
  ·replace c7 := Bool.eq_false_iff.mpr c7
   subst c7
   replace H := ifF H
   simp only [Option.some.injEq, Prod.mk.injEq] at H
   obtain ⟨rfl, rfl, rfl⟩ := H
   go_enter Tryd.func16, Tryd.ntmps16
   go_wp2_with (first | ((with_reducible refine gate_dst (N := 3) rfl ?_); refine boxE (N := 3) (cs := #[.int .i64 a0_0, .slice A0_1 l0_1.length c0_1]) (t := 26) ?_; intro gb286 hg w46 hbox hb; have BK286 := mkA (hbox); have GE286 := geB HB hg; replace HB := bst HB hb; clear hb hbox hg) | ((with_reducible refine gate_dst (N := 4) rfl ?_); refine boxE (N := 4) (cs := #[.int .i64 a1_0, .slice A1_1 l1_1.length c1_1]) (t := 26) ?_; intro gb287 hg w47 hbox hb; have BK287 := mkA (hbox); have GE287 := geB HB hg; have NB286_287 := neL7 BK286 hg; have NB287_286 := neR7 BK286 hg; replace BK286 := blkB BK286 hb; replace HB := bst HB hb; clear hb hbox hg) | ((with_reducible refine gate_dst (N := 5) rfl ?_); refine boxE (N := 5) (cs := #[.bool a2]) (t := 4) ?_; intro gb288 hg w48 hbox hb; have BK288 := mkA (hbox); have GE288 := geB HB hg; have NB286_288 := neL7 BK286 hg; have NB288_286 := neR7 BK286 hg; replace BK286 := blkB BK286 hb; have NB287_288 := neL7 BK287 hg; have NB288_287 := neR7 BK287 hg; replace BK287 := blkB BK287 hb; replace HB := bst HB hb; clear hb hbox hg) | ((with_reducible refine gate_dst (N := 6) rfl ?_); refine boxE (N := 6) (cs := #[.int .i64 0, .slice none 0 0]) (t := 26) ?_; intro gb289 hg w49 hbox hb; have BK289 := mkA (hbox); have GE289 := geB HB hg; have NB286_289 := neL7 BK286 hg; have NB289_286 := neR7 BK286 hg; replace BK286 := blkB BK286 hb; have NB287_289 := neL7 BK287 hg; have NB289_287 := neR7 BK287 hg; replace BK287 := blkB BK287 hb; have NB288_289 := neL7 BK288 hg; have NB289_288 := neR7 BK288 hg; replace BK288 := blkB BK288 hb; replace HB := bst HB hb; clear hb hbox hg; obtain ⟨hcz53_0, hcz53_1, hfz53_0, hfz53_1⟩ := blk2 BK286) | ((with_reducible refine gate_callee (f := 20) rfl ?_); refine goesQ (some 9) Tryd.func20 #[.agg #[.int .i64 a0_0, .slice A0_1 l0_1.length c0_1]] ?_; (with_reducible refine (impl_IsOrder.calls k a0_0 _ _ l0_1 true _ ?s1 ?s2 ?s3 A4.out).mono ?_); (case s1 => exact C_g HR0_1 HB); (case s2 => exact HC0_1.out); (case s3 => exact Tab.below HTAB.out (bel_g HB.out)); rintro e w54 ⟨rfl, hb⟩; refine ⟨_, rfl, ?_⟩; replace BK286 := blkB BK286 hb; replace BK287 := blkB BK287 hb; replace BK288 := blkB BK288 hb; replace BK289 := blkB BK289 hb; replace HB := bst HB hb; (try clear hb); (try clear hk); obtain ⟨hcz57_0, hcz57_1, hfz57_0, hfz57_1⟩ := blk2 BK287) | (go_at_call 20; (with_reducible refine (impl_IsOrder.calls k a1_0 _ _ l1_1 false _ ?s1 ?s2 ?s3 A6.out).mono ?_); (case s1 => exact C_g HR1_1 HB); (case s2 => exact HC1_1.out); (case s3 => exact Tab.below HTAB.out (bel_g HB.out)); rintro e w58 ⟨rfl, hb⟩; replace BK286 := blkB BK286 hb; replace BK287 := blkB BK287 hb; replace BK288 := blkB BK288 hb; replace BK289 := blkB BK289 hb; replace HB := bst HB hb; (try clear hb); (try clear hk); obtain ⟨hcz60_0, hcz60_1, hfz60_0, hfz60_1⟩ := blk2 BK289))
   refine bodyPost_ret (results_ct rfl _ _ gb289 26 #[.int .i64 0, .slice none 0 0] (0, 0) _ rfl (blkT BK289) Tryd.underlying26 rfl (by kernel_rfl)) rfl ?_
   exact ⟨_, eqE, by first | exact Kd.R_nil _ _ _ _ _ | exact Kd.N_nil _ _ _ _ _ | exact Kd.V_nil _ _ _ _ _ | exact Kd.Q_nil _ _ _ _ _ | exact Kd.S_nil _ _ _ _ _, bel_g HB.out⟩
 ·replace c5 := Bool.eq_false_iff.mpr c5
  subst c5
  replace H := ifF H
  simp only [Option.some.injEq, Prod.mk.injEq] at H
  obtain ⟨rfl, rfl, rfl⟩ := H
  go_enter Tryd.func16, Tryd.ntmps16
  go_wp2_with (first | ((with_reducible refine gate_dst (N := 3) rfl ?_); refine boxE (N := 3) (cs := #[.int .i64 a0_0, .slice A0_1 l0_1.length c0_1]) (t := 26) ?_; intro gb286 hg w61 hbox hb; have BK286 := mkA (hbox); have GE286 := geB HB hg; replace HB := bst HB hb; clear hb hbox hg) | ((with_reducible refine gate_dst (N := 4) rfl ?_); refine boxE (N := 4) (cs := #[.int .i64 a1_0, .slice A1_1 l1_1.length c1_1]) (t := 26) ?_; intro gb287 hg w62 hbox hb; have BK287 := mkA (hbox); have GE287 := geB HB hg; have NB286_287 := neL7 BK286 hg; have NB287_286 := neR7 BK286 hg; replace BK286 := blkB BK286 hb; replace HB := bst HB hb; clear hb hbox hg) | ((with_reducible refine gate_dst (N := 5) rfl ?_); refine boxE (N := 5) (cs := #[.bool a2]) (t := 4) ?_; intro gb288 hg w63 hbox hb; have BK288 := mkA (hbox); have GE288 := geB HB hg; have NB286_288 := neL7 BK286 hg; have NB288_286 := neR7 BK286 hg; replace BK286 := blkB BK286 hb; have NB287_288 := neL7 BK287 hg; have NB288_287 := neR7 BK287 hg; replace BK287 := blkB BK287 hb; replace HB := bst HB hb; clear hb hbox hg) | ((with_reducible refine gate_dst (N := 6) rfl ?_); refine boxE (N := 6) (cs := #[.int .i64 0, .slice none 0 0]) (t := 26) ?_; intro gb289 hg w64 hbox hb; have BK289 := mkA (hbox); have GE289 := geB HB hg; have NB286_289 := neL7 BK286 hg; have NB289_286 := neR7 BK286 hg; replace BK286 := blkB BK286 hb; have NB287_289 := neL7 BK287 hg; have NB289_287 := neR7 BK287 hg; replace BK287 := blkB BK287 hb; have NB288_289 := neL7 BK288 hg; have NB289_288 := neR7 BK288 hg; replace BK288 := blkB BK288 hb; replace HB := bst HB hb; clear hb hbox hg; obtain ⟨hcz68_0, hcz68_1, hfz68_0, hfz68_1⟩ := blk2 BK286) | ((with_reducible refine gate_callee (f := 20) rfl ?_); refine goesQ (some 9) Tryd.func20 #[.agg #[.int .i64 a0_0, .slice A0_1 l0_1.length c0_1]] ?_; (with_reducible refine (impl_IsOrder.calls k a0_0 _ _ l0_1 false _ ?s1 ?s2 ?s3 A4.out).mono ?_); (case s1 => exact C_g HR0_1 HB); (case s2 => exact HC0_1.out); (case s3 => exact Tab.below HTAB.out (bel_g HB.out)); rintro e w69 ⟨rfl, hb⟩; refine ⟨_, rfl, ?_⟩; replace BK286 := blkB BK286 hb; replace BK287 := blkB BK287 hb; replace BK288 := blkB BK288 hb; replace BK289 := blkB BK289 hb; replace HB := bst HB hb; (try clear hb); (try clear hk); obtain ⟨hcz72_0, hcz72_1, hfz72_0, hfz72_1⟩ := blk2 BK289))
  refine bodyPost_ret (results_ct rfl _ _ gb289 26 #[.int .i64 0, .slice none 0 0] (0, 0) _ rfl (blkT BK289) Tryd.underlying26 rfl (by kernel_rfl)) rfl ?_
  exact ⟨_, eqE, by first | exact Kd.R_nil _ _ _ _ _ | exact Kd.N_nil _ _ _ _ _ | exact Kd.V_nil _ _ _ _ _ | exact Kd.Q_nil _ _ _ _ _ | exact Kd.S_nil _ _ _ _ _, bel_g HB.out⟩
def impl_BesideOrders.f (k : Nat) (a0_0 : Int) (l0_1 : List Int) (a1_0 : Int) (l1_1 : List Int) : Option (Int × List Int × Bool) := (impl_together.f k a0_0 l0_1 a1_0 l1_1 false).bind fun bt299 => (some (bt299.1, bt299.2.1, bt299.2.2))
theorem impl_BesideOrders.mono : ∀ a0 a1 a2 a3 k, LeO (impl_BesideOrders.f k a0 a1 a2 a3) (impl_BesideOrders.f (k + 1) a0 a1 a2 a3) := by
 intro a0 a1 a2 a3 k
 unfold impl_BesideOrders.f
 repeat' (with_reducible first|exact impl_together.mono _ _ _ _ _ _|exact LeO.refl _|exact LeO.none _|refine LeO.ite ?_ ?_|refine LeO.bind ?_ (fun _ => ?_))
theorem impl_BesideOrders.calls (k : Nat) (a0_0 : Int) (A0_1 : Option Addr) (c0_1 : Nat) (l0_1 : List Int) (a1_0 : Int) (A1_1 : Option Addr) (c1_1 : Nat) (l1_1 : List Int) (r1 : Int) (r2 : List Int) (r3 : Bool) (w : World) (hr0_1 : Kd.C (Kd.int .i64) w A0_1 l0_1.length l0_1) (hc0_1 : l0_1.length ≤ c0_1) (hr1_1 : Kd.C (Kd.int .i64) w A1_1 l1_1.length l1_1) (hc1_1 : l1_1.length ≤ c1_1) (hTAB : Tab w) (h : impl_BesideOrders.f k a0_0 l0_1 a1_0 l1_1 = some (r1, r2, r3)) :
  Calls Tryd.prog 6 #[.agg #[.int .i64 a0_0, .slice A0_1 l0_1.length c0_1], .agg #[.int .i64 a1_0, .slice A1_1 l1_1.length c1_1]] w fun e w' => ∃ v1_ : Value, e = .returned (.tuple #[.agg #[.int .i64 r1, v1_], .bool r3]) ∧ Kd.R (Kd.int .i64) 3 w' w.heap.size (fun _ => True) v1_ r2 ∧ Below w.heap.size w w' := by
 have HTAB := mkA hTAB
 clear hTAB
 have hu26 := Tryd.underlying26
 have HR0_1 := mkA hr0_1
 have HC0_1 := mkA hc0_1
 clear hr0_1 hc0_1
 have HR1_1 := mkA hr1_1
 have HC1_1 := mkA hc1_1
 clear hr1_1 hc1_1
 have HB := mkA (Below.refl w.heap.size w)
 have H := h
 clear h
 unfold impl_BesideOrders.f at H
 obtain ⟨⟨t299, t300, t303⟩, A3, H⟩ := obE H
 dsimp only at H
 simp only [Option.some.injEq, Prod.mk.injEq] at H
 obtain ⟨rfl, rfl, rfl⟩ := H
 go_enter Tryd.func6, Tryd.ntmps6
 go_wp2_with (first | ((with_reducible refine gate_dst (N := 2) rfl ?_); refine boxE (N := 2) (cs := #[.int .i64 a0_0, .slice A0_1 l0_1.length c0_1]) (t := 26) ?_; intro gb296 hg w4 hbox hb; have BK296 := mkA (hbox); have GE296 := geB HB hg; replace HB := bst HB hb; clear hb hbox hg) | ((with_reducible refine gate_dst (N := 3) rfl ?_); refine boxE (N := 3) (cs := #[.int .i64 a1_0, .slice A1_1 l1_1.length c1_1]) (t := 26) ?_; intro gb297 hg w5 hbox hb; have BK297 := mkA (hbox); have GE297 := geB HB hg; have NB296_297 := neL7 BK296 hg; have NB297_296 := neR7 BK296 hg; replace BK296 := blkB BK296 hb; replace HB := bst HB hb; clear hb hbox hg) | ((with_reducible refine gate_dst (N := 4) rfl ?_); refine boxE (N := 4) (cs := #[.int .i64 0, .slice none 0 0]) (t := 26) ?_; intro gb298 hg w6 hbox hb; have BK298 := mkA (hbox); have GE298 := geB HB hg; have NB296_298 := neL7 BK296 hg; have NB298_296 := neR7 BK296 hg; replace BK296 := blkB BK296 hb; have NB297_298 := neL7 BK297 hg; have NB298_297 := neR7 BK297 hg; replace BK297 := blkB BK297 hb; replace HB := bst HB hb; clear hb hbox hg; obtain ⟨hcz9_0, hcz9_1, hfz9_0, hfz9_1⟩ := blk2 BK296; obtain ⟨hcz11_0, hcz11_1, hfz11_0, hfz11_1⟩ := blk2 BK297) | ((with_reducible refine gate_callee (f := 16) rfl ?_); refine goesQ (some 8) Tryd.func16 #[.agg #[.int .i64 a0_0, .slice A0_1 l0_1.length c0_1], .agg #[.int .i64 a1_0, .slice A1_1 l1_1.length c1_1], .bool false] ?_; (with_reducible refine (impl_together.calls k a0_0 _ _ l0_1 a1_0 _ _ l1_1 false t299 t300 t303 _ ?s1 ?s2 ?s3 ?s4 ?s5 A3.out).mono ?_); (case s1 => exact C_g HR0_1 HB); (case s2 => exact HC0_1.out); (case s3 => exact C_g HR1_1 HB); (case s4 => exact HC1_1.out); (case s5 => exact Tab.below HTAB.out (bel_g HB.out)); rintro e w12 ⟨v301, rfl, ho0, hb⟩; refine ⟨_, rfl, ?_⟩; have HO302 := mkA (Kd.R_lower ho0 (below_size (bel_g HB.out))); replace BK296 := blkB BK296 hb; replace BK297 := blkB BK297 hb; replace BK298 := blkB BK298 hb; replace HB := bst HB hb; (try clear hb); (try clear hk); (try clear ho0); obtain ⟨hcz13_0, hcz13_1, hfz13_0, hfz13_1⟩ := blk2 BK298; obtain ⟨Ao14, co14, eo14⟩ := Kd.R_slice HO302.out; subst eo14))
 refine bodyPost_ret (results_ct rfl _ _ gb298 26 #[.int .i64 t299, .slice Ao14 t300.length co14] (0, 0) _ rfl (blkT BK298) Tryd.underlying26 rfl (by kernel_rfl)) rfl ?_
 exact ⟨_, eqE, by (with_reducible repeat (first | apply Kd.R_alloc | apply Kd.R_drewN | apply Kd.R_drew)); exact Kd.R_mono (Kd.R_far (p := ⟨gb298, 1, none⟩) (Kd.R_far (p := ⟨gb298, 0, none⟩) (Kd.R_types HO302.out BK298.out (by decide)) (fun _ hk => hk.2) (.int .i64 t299)) (fun _ hk => hk.2) (.slice Ao14 t300.length co14)) (fun _ hk => trivial), bel_g HB.out⟩
end Go.Proofs.YtgdnljpallpjiaaDoor.Q
