import Derived.Test.YtpphkeijklffgaaDoorBFnChainsAndAntichains1
namespace Go.Proofs.YtpphkeijklffgaaDoor.Q
open Go.RowKit Go.Proofs.YtpphkeijklffgaaDoorW.PrintWords Go.Proofs.YtpphkeijklffgaaDoorW.PrintLast Go.Proofs.YtpphkeijklffgaaDoorW.PrintMore
attribute [local go_sem] max2_int min2_int max_two min_two max_three min_three max_four min_four neB_f
set_option linter.unusedVariables false
set_option maxHeartbeats 8000000
set_option maxRecDepth 100000
set_option linter.unusedSimpArgs false
def spec_orRelation.f (k : Nat) (a0_0 : Int) (l0_1 : List Int) : Option (Bool) := (spec_l1In.f a0_0 0 10).bind fun t114 => (if t114 = true then (if (l0_1.length : Int) = a0_0 then (if 0 ≤ a0_0 then ((spec_l1All.f k l0_1 0 (wrap64 ((shl .i64 1 a0_0) - 1))).bind fun t115 => (some t115)) else (none)) else (some false)) else (some false))
theorem spec_orRelation.mono : ∀ a0 a1 k, LeO (spec_orRelation.f k a0 a1) (spec_orRelation.f (k + 1) a0 a1) := by
 intro a0 a1 k
 unfold spec_orRelation.f
 repeat' (with_reducible first|apply spec_l1All.mono|apply LeO.refl|apply LeO.none|apply LeO.ite|apply LeO.bind|intro)
theorem spec_orRelation.calls (k : Nat) (a0_0 : Int) (A0_1 : Option Addr) (c0_1 : Nat) (l0_1 : List Int) (r : Bool) (w : World) (hr0_1 : Kd.C (Kd.int .i64) w A0_1 l0_1.length l0_1) (hc0_1 : l0_1.length ≤ c0_1) (h : spec_orRelation.f k a0_0 l0_1 = some r) :
  Calls Tryd.prog 34 #[.agg #[.int .i64 a0_0, .slice A0_1 l0_1.length c0_1]] w fun e w' => e = .returned (.bool r) ∧ Below w.heap.size w w' := by
 have hu26 := Tryd.underlying26
 have HR0_1 := mkA hr0_1
 have HC0_1 := mkA hc0_1
 clear hr0_1 hc0_1
 have HB := mkA (Below.refl w.heap.size w)
 have H := h
 clear h
 unfold spec_orRelation.f at H
 obtain ⟨t114, A2, H⟩ := obE H
 by_cases c3 : t114 = true
 ·subst c3
  replace H := ifT H
  rcases iteP H with ⟨c4, H⟩ | ⟨c4, H⟩
  ·have c4b0 := beq_iff_eq.mpr c4
   have c4b1 := bne_eq_false_iff_eq.mpr c4
   clear c4
   obtain ⟨c5b0, c5b1, H⟩ := itNQ H
   obtain ⟨ji6, hji6⟩ : ∃ j_ : Int, (shl .i64 1 a0_0) = j_ := ⟨_, rfl⟩
   first | rw [hji6] at H | simp only [hji6] at H
   (try rw [hji6] at A2)
   have hji6_ : (IntKind.i64.wrap (1 * 2 ^ min a0_0.toNat 64)) = ji6 := hji6
   have hji6z : a0_0 ≤ 64 → (IntKind.i64.wrap (1 * 2 ^ a0_0.toNat)) = ji6 := shl_small hji6
   have hji6u : (IntKind.i64.wrap (2 ^ min a0_0.toNat 64)) = ji6 := by have h_ := hji6_; rw [Int.one_mul] at h_; exact h_
   have hji6v : a0_0 ≤ 64 → (IntKind.i64.wrap (2 ^ a0_0.toNat)) = ji6 := fun hle_ => by have h_ := hji6z hle_; rw [Int.one_mul] at h_; exact h_
   have hji6y : (wrap64 (1 * 2 ^ min a0_0.toNat 64)) = ji6 := (i64_w _).symm.trans hji6_
   have hji6x : a0_0 ≤ 64 → (wrap64 (1 * 2 ^ a0_0.toNat)) = ji6 := fun h_ => (i64_w _).symm.trans (hji6z h_)
   obtain ⟨t115, A7, H⟩ := obE H
   obtain rfl := Option.some.inj H
   go_enter Tryd.func34, Tryd.ntmps34
   go_wp2_with (first | ((with_reducible refine gate_dst (N := 1) rfl ?_); (try (refine gate_guard (by rfl) ?_; dsimp only)); refine boxG HB #[.int .i64 a0_0, .slice A0_1 l0_1.length c0_1] 26 ?_; intro gb113 hg w8 BK113 GE113 hb; replace HB := bst HB hb; clear hb hg; obtain ⟨hcz9_0, hcz9_1, hfz9_0, hfz9_1⟩ := blk2 BK113) | (go_at_call 52; (with_reducible refine (spec_l1In.calls a0_0 0 10 true _ A2.out).mono ?_); rintro e w' ⟨rfl, ⟨nd, rfl⟩⟩; (try first | exact ⟨rfl, _, World.drewN_drewN _ _ _⟩ | exact ⟨rfl, _, Eq.trans (World.drewN_drewN _ _ _) (congrArg (World.drewN _) (Nat.add_assoc _ _ _))⟩)) | (go_at_call 40; refine calls_of_args (args' := #[.slice A0_1 l0_1.length c0_1, .int .i64 0, .int .i64 (wrap64 ((ji6) - 1))]) (by first | (simp only [hji6]; rfl) | rfl) ?_; (with_reducible refine (spec_l1All.calls k _ _ l0_1 0 (wrap64 ((ji6) - 1)) t115 _ ?s1 ?s2 A7.out).mono ?_); (case s1 => repeat (first | exact (Kd.C_below HR0_1.out (bel_g HB.out)) | (with_reducible refine Kd.C_alloc ?_ _) | (with_reducible refine Kd.C_drewN ?_ _) | (with_reducible refine Kd.C_drew ?_))); (case s2 => exact HC0_1.out); rintro e w' ⟨rfl, ⟨nd, rfl⟩⟩; (try first | exact ⟨rfl, _, World.drewN_drewN _ _ _⟩ | exact ⟨rfl, _, Eq.trans (World.drewN_drewN _ _ _) (congrArg (World.drewN _) (Nat.add_assoc _ _ _))⟩)))
   repeat (go_quiet (first | ((with_reducible refine gate_dst (N := 1) rfl ?_); (try (refine gate_guard (by rfl) ?_; dsimp only)); refine boxG HB #[.int .i64 a0_0, .slice A0_1 l0_1.length c0_1] 26 ?_; intro gb113 hg w8 BK113 GE113 hb; replace HB := bst HB hb; clear hb hg; obtain ⟨hcz9_0, hcz9_1, hfz9_0, hfz9_1⟩ := blk2 BK113) | (go_at_call 52; (with_reducible refine (spec_l1In.calls a0_0 0 10 true _ A2.out).mono ?_); rintro e w' ⟨rfl, ⟨nd, rfl⟩⟩; (try first | exact ⟨rfl, _, World.drewN_drewN _ _ _⟩ | exact ⟨rfl, _, Eq.trans (World.drewN_drewN _ _ _) (congrArg (World.drewN _) (Nat.add_assoc _ _ _))⟩)) | (go_at_call 40; refine calls_of_args (args' := #[.slice A0_1 l0_1.length c0_1, .int .i64 0, .int .i64 (wrap64 ((ji6) - 1))]) (by first | (simp only [hji6]; rfl) | rfl) ?_; (with_reducible refine (spec_l1All.calls k _ _ l0_1 0 (wrap64 ((ji6) - 1)) t115 _ ?s1 ?s2 A7.out).mono ?_); (case s1 => repeat (first | exact (Kd.C_below HR0_1.out (bel_g HB.out)) | (with_reducible refine Kd.C_alloc ?_ _) | (with_reducible refine Kd.C_drewN ?_ _) | (with_reducible refine Kd.C_drew ?_))); (case s2 => exact HC0_1.out); rintro e w' ⟨rfl, ⟨nd, rfl⟩⟩; (try first | exact ⟨rfl, _, World.drewN_drewN _ _ _⟩ | exact ⟨rfl, _, Eq.trans (World.drewN_drewN _ _ _) (congrArg (World.drewN _) (Nat.add_assoc _ _ _))⟩))); try go_wp2_with (first | ((with_reducible refine gate_dst (N := 1) rfl ?_); (try (refine gate_guard (by rfl) ?_; dsimp only)); refine boxG HB #[.int .i64 a0_0, .slice A0_1 l0_1.length c0_1] 26 ?_; intro gb113 hg w8 BK113 GE113 hb; replace HB := bst HB hb; clear hb hg; obtain ⟨hcz9_0, hcz9_1, hfz9_0, hfz9_1⟩ := blk2 BK113) | (go_at_call 52; (with_reducible refine (spec_l1In.calls a0_0 0 10 true _ A2.out).mono ?_); rintro e w' ⟨rfl, ⟨nd, rfl⟩⟩; (try first | exact ⟨rfl, _, World.drewN_drewN _ _ _⟩ | exact ⟨rfl, _, Eq.trans (World.drewN_drewN _ _ _) (congrArg (World.drewN _) (Nat.add_assoc _ _ _))⟩)) | (go_at_call 40; refine calls_of_args (args' := #[.slice A0_1 l0_1.length c0_1, .int .i64 0, .int .i64 (wrap64 ((ji6) - 1))]) (by first | (simp only [hji6]; rfl) | rfl) ?_; (with_reducible refine (spec_l1All.calls k _ _ l0_1 0 (wrap64 ((ji6) - 1)) t115 _ ?s1 ?s2 A7.out).mono ?_); (case s1 => repeat (first | exact (Kd.C_below HR0_1.out (bel_g HB.out)) | (with_reducible refine Kd.C_alloc ?_ _) | (with_reducible refine Kd.C_drewN ?_ _) | (with_reducible refine Kd.C_drew ?_))); (case s2 => exact HC0_1.out); rintro e w' ⟨rfl, ⟨nd, rfl⟩⟩; (try first | exact ⟨rfl, _, World.drewN_drewN _ _ _⟩ | exact ⟨rfl, _, Eq.trans (World.drewN_drewN _ _ _) (congrArg (World.drewN _) (Nat.add_assoc _ _ _))⟩))))
   go_ret
   exact ⟨by first | rfl | (simp [errW_none, errW_some] <;> rfl) | (simp only [← hji6]; first | rfl | (simp [errW_none, errW_some] <;> rfl)) | (simp [*, errW_none, errW_some] <;> rfl), bel_g HB.out⟩
  ·have c4b0 := beq_eq_false_iff_ne.mpr c4
   have c4b1 := bne_iff_ne.mpr c4
   obtain rfl := Option.some.inj H
   go_enter Tryd.func34, Tryd.ntmps34
   go_wp2_with (first | ((with_reducible refine gate_dst (N := 1) rfl ?_); (try (refine gate_guard (by rfl) ?_; dsimp only)); refine boxG HB #[.int .i64 a0_0, .slice A0_1 l0_1.length c0_1] 26 ?_; intro gb113 hg w10 BK113 GE113 hb; replace HB := bst HB hb; clear hb hg; obtain ⟨hcz11_0, hcz11_1, hfz11_0, hfz11_1⟩ := blk2 BK113) | (go_at_call 52; (with_reducible refine (spec_l1In.calls a0_0 0 10 true _ A2.out).mono ?_); rintro e w' ⟨rfl, ⟨nd, rfl⟩⟩; (try first | exact ⟨rfl, _, World.drewN_drewN _ _ _⟩ | exact ⟨rfl, _, Eq.trans (World.drewN_drewN _ _ _) (congrArg (World.drewN _) (Nat.add_assoc _ _ _))⟩)))
   repeat (go_quiet (first | ((with_reducible refine gate_dst (N := 1) rfl ?_); (try (refine gate_guard (by rfl) ?_; dsimp only)); refine boxG HB #[.int .i64 a0_0, .slice A0_1 l0_1.length c0_1] 26 ?_; intro gb113 hg w10 BK113 GE113 hb; replace HB := bst HB hb; clear hb hg; obtain ⟨hcz11_0, hcz11_1, hfz11_0, hfz11_1⟩ := blk2 BK113) | (go_at_call 52; (with_reducible refine (spec_l1In.calls a0_0 0 10 true _ A2.out).mono ?_); rintro e w' ⟨rfl, ⟨nd, rfl⟩⟩; (try first | exact ⟨rfl, _, World.drewN_drewN _ _ _⟩ | exact ⟨rfl, _, Eq.trans (World.drewN_drewN _ _ _) (congrArg (World.drewN _) (Nat.add_assoc _ _ _))⟩))); try go_wp2_with (first | ((with_reducible refine gate_dst (N := 1) rfl ?_); (try (refine gate_guard (by rfl) ?_; dsimp only)); refine boxG HB #[.int .i64 a0_0, .slice A0_1 l0_1.length c0_1] 26 ?_; intro gb113 hg w10 BK113 GE113 hb; replace HB := bst HB hb; clear hb hg; obtain ⟨hcz11_0, hcz11_1, hfz11_0, hfz11_1⟩ := blk2 BK113) | (go_at_call 52; (with_reducible refine (spec_l1In.calls a0_0 0 10 true _ A2.out).mono ?_); rintro e w' ⟨rfl, ⟨nd, rfl⟩⟩; (try first | exact ⟨rfl, _, World.drewN_drewN _ _ _⟩ | exact ⟨rfl, _, Eq.trans (World.drewN_drewN _ _ _) (congrArg (World.drewN _) (Nat.add_assoc _ _ _))⟩))))
   go_ret
   exact ⟨eqE, bel_g HB.out⟩
 ·replace c3 := Bool.eq_false_iff.mpr c3
  subst c3
  replace H := ifF H
  obtain rfl := Option.some.inj H
  go_enter Tryd.func34, Tryd.ntmps34
  go_wp2_with (first | ((with_reducible refine gate_dst (N := 1) rfl ?_); (try (refine gate_guard (by rfl) ?_; dsimp only)); refine boxG HB #[.int .i64 a0_0, .slice A0_1 l0_1.length c0_1] 26 ?_; intro gb113 hg w12 BK113 GE113 hb; replace HB := bst HB hb; clear hb hg; obtain ⟨hcz13_0, hcz13_1, hfz13_0, hfz13_1⟩ := blk2 BK113) | (go_at_call 52; (with_reducible refine (spec_l1In.calls a0_0 0 10 false _ A2.out).mono ?_); rintro e w' ⟨rfl, ⟨nd, rfl⟩⟩; (try first | exact ⟨rfl, _, World.drewN_drewN _ _ _⟩ | exact ⟨rfl, _, Eq.trans (World.drewN_drewN _ _ _) (congrArg (World.drewN _) (Nat.add_assoc _ _ _))⟩)))
  repeat (go_quiet (first | ((with_reducible refine gate_dst (N := 1) rfl ?_); (try (refine gate_guard (by rfl) ?_; dsimp only)); refine boxG HB #[.int .i64 a0_0, .slice A0_1 l0_1.length c0_1] 26 ?_; intro gb113 hg w12 BK113 GE113 hb; replace HB := bst HB hb; clear hb hg; obtain ⟨hcz13_0, hcz13_1, hfz13_0, hfz13_1⟩ := blk2 BK113) | (go_at_call 52; (with_reducible refine (spec_l1In.calls a0_0 0 10 false _ A2.out).mono ?_); rintro e w' ⟨rfl, ⟨nd, rfl⟩⟩; (try first | exact ⟨rfl, _, World.drewN_drewN _ _ _⟩ | exact ⟨rfl, _, Eq.trans (World.drewN_drewN _ _ _) (congrArg (World.drewN _) (Nat.add_assoc _ _ _))⟩))); try go_wp2_with (first | ((with_reducible refine gate_dst (N := 1) rfl ?_); (try (refine gate_guard (by rfl) ?_; dsimp only)); refine boxG HB #[.int .i64 a0_0, .slice A0_1 l0_1.length c0_1] 26 ?_; intro gb113 hg w12 BK113 GE113 hb; replace HB := bst HB hb; clear hb hg; obtain ⟨hcz13_0, hcz13_1, hfz13_0, hfz13_1⟩ := blk2 BK113) | (go_at_call 52; (with_reducible refine (spec_l1In.calls a0_0 0 10 false _ A2.out).mono ?_); rintro e w' ⟨rfl, ⟨nd, rfl⟩⟩; (try first | exact ⟨rfl, _, World.drewN_drewN _ _ _⟩ | exact ⟨rfl, _, Eq.trans (World.drewN_drewN _ _ _) (congrArg (World.drewN _) (Nat.add_assoc _ _ _))⟩))))
  go_ret
  exact ⟨eqE, bel_g HB.out⟩
def spec_orHas.f (a0 : Int) (a1 : Int) : Option (Bool) := if 0 ≤ a1 then (some ((Int.tmod (shr .i64 a0 a1) 2) == 1)) else (none)
theorem spec_orHas.calls (a0 : Int) (a1 : Int) (r : Bool) (w : World) (h : spec_orHas.f a0 a1 = some r) :
  Calls Tryd.prog 35 #[.int .i64 a0, .int .i64 a1] w fun e w' => e = .returned (.bool r) ∧ Drawn0 w w' := by
 have H := h
 clear h
 unfold spec_orHas.f at H
 obtain ⟨c3b0, c3b1, H⟩ := itNQ H
 obtain ⟨ji4, hji4⟩ : ∃ j_ : Int, (shr .i64 a0 a1) = j_ := ⟨_, rfl⟩
 first | rw [hji4] at H | simp only [hji4] at H
 have hji4_ : (a0 / 2 ^ min a1.toNat 64) = ji4 := hji4
 have hji4z : a1 ≤ 64 → (a0 / 2 ^ a1.toNat) = ji4 := shr_small hji4
 obtain rfl := Option.some.inj H
 go_enter Tryd.func35, Tryd.ntmps35
 go_wp2
 go_ret
 exact ⟨by first | rfl | (simp; done) | (simp only [← hji4] <;> (first | rfl | simp)) | (simp [*]; done), by repeat (first | exact Drawn0.refl _ | apply Drawn0.step)⟩
def spec_l1Own.f (l0 : List Int) : Option (List Int) := (some (([] : List Int) : List Int)).bind fun y116 => (if y116.length + l0.length < 17592186044416 then (some (y116 ++ l0)) else (none))
theorem spec_l1Own.calls (A0 : Option Addr) (c0 : Nat) (l0 : List Int) (r : List Int) (w : World) (hr0 : Kd.C (Kd.int .i64) w A0 l0.length l0) (hc0 : l0.length ≤ c0) (h : spec_l1Own.f l0 = some r) :
  Calls Tryd.prog 48 #[.slice A0 l0.length c0] w fun e w' => ∃ v0_ : Value, e = .returned (v0_) ∧ Kd.R (Kd.int .i64) 3 w' w.heap.size (fun _ => True) v0_ r ∧ Below w.heap.size w w' := by
 have HR0 := mkA hr0
 have HC0 := mkA hc0
 clear hr0 hc0
 have HB := mkA (Below.refl w.heap.size w)
 have H := h
 clear h
 unfold spec_l1Own.f at H
 obtain ⟨y116, Ny116, H⟩ := nmE H
 obtain ⟨c2, H⟩ := itNP H
 have LMc2 := mkA c2
 clear c2
 obtain ⟨y119, hy119⟩ : ∃ y_ : List Int, y_ = (y116 ++ l0) := ⟨_, rfl⟩
 rw [← hy119] at H
 have Ny119 := mkA hy119
 clear hy119
 obtain rfl := Option.some.inj H
 go_enter Tryd.func48, Tryd.ntmps48
 go_wp2_with (first | ((with_reducible refine gate_dst (N := 3) rfl ?_); refine litE (Kd.int .i64) 3 ([] : List Int) [] ?hp ?_; (case hp => exact (Reps.none _ _)); intro v117 w3 ho4 hb hg_ hnew_; clear hg_ hnew_; (first | rw [← Ny116.out] at ho4 | (simp only [Int.reduceToNat] at ho4; rw [← Ny116.out] at ho4)); have HO118 := rLo ho4 HB; replace HB := bst HB hb; clear hb ho4) | ((with_reducible refine gate_builtin (b := .append) (xs := #[.tmp 3, .tmp 4]) rfl ?_); at_builtin; refine Kd.R_append_rows (Kd.int .i64) (w0 := w) w.heap.size rfl (.tmp 3) (.tmp 4) 24 3 (.int .i64 0) 8 rfl Tryd.underlying24 info3 rfl (by decide) (by omega) v117 y116 l0 _ _ _ (fun _ => True) (fun _ => False) rfl rfl ?aO ?aR (fun _ _ h => h) (fun _ h => h.elim) ?aF ?aB ?aS ?aL ?_; (case aR => exact C_g HR0 HB); (case aB => exact (bel_g HB.out)); (case aF => exact (fun _ _ => trivial)); (case aO => exact (Kd.R_g HO118.out)); (case aS => exact (below_size (bel_g HB.out))); (case aL => have := LMc2.out; omega); intro v120 w5 ho hb hg hat; rw [← Ny119.out] at ho; have HO121 := mkA (ho); replace HB := mkA (hb); clear HO118; clear ho hb hg hat))
 go_ret
 exact ⟨_, eqE, Kd.R_g HO121.out, bel_g HB.out⟩
end Go.Proofs.YtpphkeijklffgaaDoor.Q
