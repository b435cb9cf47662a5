import Derived.Test.YtdpmoehmbjmkpaaDoorBFnPatterns13
namespace Go.Proofs.YtdpmoehmbjmkpaaDoor.Q
open Go.RowKit Go.Proofs.YtdpmoehmbjmkpaaDoorW.PrintWords Go.Proofs.YtdpmoehmbjmkpaaDoorW.PrintLast Go.Proofs.YtdpmoehmbjmkpaaDoorW.PrintMore
attribute [local go_sem] max2_int min2_int max_two min_two max_three min_three max_four min_four neB_f
set_option linter.unusedVariables false
set_option maxHeartbeats 8000000
set_option maxRecDepth 100000
set_option linter.unusedSimpArgs false
theorem impl_IsSameKind.nilB_ {W : World} {e base : Nat} {ok : Nat → Prop} {t : List Int} {s : Int} {v : Value} (ho : Kd.R (Kd.int .i64) e W base ok v t) (h1 : s = 0 → ∃ g, v.ownBlock = some g) (h2 : t = [] → ¬ s = 0 → v = .slice none 0 0) :
  ((t == ([] : List Int) && !(s == 0)) = true → v = .slice none 0 0) ∧ ((t == ([] : List Int) && !(s == 0)) = false → ∃ g, v.ownBlock = some g) := by
 by_cases hs : s = 0
 ·exact ⟨fun h => by simp [hs] at h, fun _ => h1 hs⟩
 ·cases t with
  | nil => exact ⟨fun _ => h2 rfl hs, fun h => by simp [hs] at h⟩
  | cons x l =>
   refine ⟨fun h => by simp at h, fun _ => ?_⟩
   obtain ⟨g, c', h3, _⟩ := Kd.R_form ho (by simp)
   exact ⟨g, by rw [h3]; rfl⟩
theorem impl_IsSameKind.nilEqlB_ {P : Program} (W : World) {t e : TypeId} {A : Option Addr} {n c : Nat} {b : Bool} (hu : P.underlying t = some (.slice e)) (h : b = true → Value.slice A n c = .slice none 0 0) (h2 : b = false → ∃ g, (Value.slice A n c).ownBlock = some g) :
  (binOp .eql t (.slice A n c) (.slice none 0 0)).run P W = .ok (.bool b) W := by
 rw [Lib.run_eql_slice_nil W t e A n c 0 0 hu]
 cases b with
 | true => injection h rfl with h1 _ _; subst h1; rfl
 | false =>
  obtain ⟨g, h1⟩ := h2 rfl
  cases A with
  | none => simp [Value.ownBlock] at h1
  | some a => rfl
theorem impl_IsSameKind.nilNeqB_ {P : Program} (W : World) {t e : TypeId} {A : Option Addr} {n c : Nat} {b : Bool} (hu : P.underlying t = some (.slice e)) (h : b = true → Value.slice A n c = .slice none 0 0) (h2 : b = false → ∃ g, (Value.slice A n c).ownBlock = some g) :
  (binOp .neq t (.slice A n c) (.slice none 0 0)).run P W = .ok (.bool (!b)) W := by
 rw [run_neq_slice_nil_any W t e A n c 0 0 hu]
 cases b with
 | true => injection h rfl with h1 _ _; subst h1; rfl
 | false =>
  obtain ⟨g, h1⟩ := h2 rfl
  cases A with
  | none => simp [Value.ownBlock] at h1
  | some a => rfl
def impl_IsSameKind.f (k : Nat) (a0_0 : Int) (l0_1 : List Int) (a1_0 : Int) (l1_1 : List Int) : Option (Bool × Bool) := (impl_IsRelation.f k a0_0 l0_1).bind fun t463 => (if t463 = true then ((impl_IsRelation.f k a1_0 l1_1).bind fun t464 => (if t464 = true then (if (mx a0_0 a1_0) > 6 then (some (false, false)) else (if a0_0 = a1_0 then ((impl_Order_pattern.f k a0_0 l0_1 a1_0 l1_1).bind fun t465 => (some ((!(t465 == ([] : List Int) && !(a1_0 == 0))), true))) else (some (false, true)))) else (some (false, false)))) else (some (false, false)))
theorem impl_IsSameKind.mono : ∀ a0 a1 a2 a3 k, LeO (impl_IsSameKind.f k a0 a1 a2 a3) (impl_IsSameKind.f (k + 1) a0 a1 a2 a3) := by
 intro a0 a1 a2 a3 k
 unfold impl_IsSameKind.f
 repeat' (with_reducible first|apply impl_IsRelation.mono|apply impl_Order_pattern.mono|apply LeO.refl|apply LeO.none|apply LeO.ite|apply LeO.bind|intro)
theorem impl_IsSameKind.calls (k : Nat) (a0_0 : Int) (A0_1 : Option Addr) (c0_1 : Nat) (l0_1 : List Int) (a1_0 : Int) (A1_1 : Option Addr) (c1_1 : Nat) (l1_1 : List Int) (r1 : Bool) (r2 : Bool) (w : World) (hr0_1 : Kd.C (Kd.int .i64) w A0_1 l0_1.length l0_1) (hc0_1 : l0_1.length ≤ c0_1) (hr1_1 : Kd.C (Kd.int .i64) w A1_1 l1_1.length l1_1) (hc1_1 : l1_1.length ≤ c1_1) (h : impl_IsSameKind.f k a0_0 l0_1 a1_0 l1_1 = some (r1, r2)) :
  Calls Tryd.prog 14 #[.agg #[.int .i64 a0_0, .slice A0_1 l0_1.length c0_1], .agg #[.int .i64 a1_0, .slice A1_1 l1_1.length c1_1]] w fun e w' => e = .returned (.tuple #[.bool r1, .bool r2]) ∧ Below w.heap.size w w' := by
 have hu26 := Tryd.underlying26
 have HR0_1 := mkA hr0_1
 have HC0_1 := mkA hc0_1
 clear hr0_1 hc0_1
 have HR1_1 := mkA hr1_1
 have HC1_1 := mkA hc1_1
 clear hr1_1 hc1_1
 have HB := mkA (Below.refl w.heap.size w)
 have H := h
 clear h
 unfold impl_IsSameKind.f at H
 obtain ⟨t463, A3, H⟩ := obE H
 by_cases c4 : t463 = true
 ·subst c4
  replace H := ifT H
  obtain ⟨t464, A5, H⟩ := obE H
  by_cases c6 : t464 = true
  ·subst c6
   replace H := ifT H
   obtain ⟨ji7, hji7⟩ : ∃ j_ : Int, (mx a0_0 a1_0) = j_ := ⟨_, rfl⟩
   first | rw [hji7] at H | simp only [hji7] at H
   (try rw [hji7] at A3)
   (try rw [hji7] at A5)
   have hji7_ : (if a0_0 < a1_0 then a1_0 else a0_0) = ji7 := hji7
   rcases iteP H with ⟨c8, H⟩ | ⟨c8, H⟩
   ·have c8b0 := decide_eq_true c8
    clear c8
    simp only [Option.some.injEq, Prod.mk.injEq] at H
    obtain ⟨rfl, rfl⟩ := H
    go_enter Tryd.func14, Tryd.ntmps14
    go_wp2_with (first | ((with_reducible refine gate_dst (N := 2) rfl ?_); (try (refine gate_guard (by rfl) ?_; dsimp only)); refine boxG HB #[.int .i64 a0_0, .slice A0_1 l0_1.length c0_1] 26 ?_; intro gb461 hg w9 BK461 GE461 hb; replace HB := bst HB hb; clear hb hg) | ((with_reducible refine gate_dst (N := 3) rfl ?_); (try (refine gate_guard (by rfl) ?_; dsimp only)); refine boxG HB #[.int .i64 a1_0, .slice A1_1 l1_1.length c1_1] 26 ?_; intro gb462 hg w10 BK462 GE462 hb; have NB461_462 := neL7 BK461 hg; have NB462_461 := neR7 BK461 hg; replace BK461 := blkB BK461 hb; replace HB := bst HB hb; clear hb hg; obtain ⟨_, _, _, _⟩ := blk2 BK461) | ((with_reducible refine gate_callee (f := 23) rfl ?_); refine goesQ (some 7) Tryd.func23 #[.agg #[.int .i64 a0_0, .slice A0_1 l0_1.length c0_1]] ?_; (with_reducible refine (impl_IsRelation.calls k a0_0 _ _ l0_1 true _ ?_ ?_ A3.out).mono ?_); exact C_g HR0_1 HB; exact HC0_1.out; rintro e w13 ⟨rfl, hb⟩; refine ⟨_, rfl, ?_⟩; replace BK461 := blkB BK461 hb; replace BK462 := blkB BK462 hb; replace HB := bst HB hb; clear hb; obtain ⟨_, _, _, _⟩ := blk2 BK462) | (go_at_call 23; (with_reducible refine (impl_IsRelation.calls k a1_0 _ _ l1_1 true _ ?_ ?_ A5.out).mono ?_); exact C_g HR1_1 HB; exact HC1_1.out; rintro e w15 ⟨rfl, hb⟩; replace BK461 := blkB BK461 hb; replace BK462 := blkB BK462 hb; replace HB := bst HB hb; clear hb; obtain ⟨_, _, _, _⟩ := blk2 BK461; obtain ⟨_, _, _, _⟩ := blk2 BK462))
    go_ret2
    exact ⟨by first | rfl | (simp [errW_none, errW_some] <;> rfl) | (simp only [← hji7]; first | rfl | (simp [errW_none, errW_some] <;> rfl)) | (simp [*, errW_none, errW_some] <;> rfl), bel_g HB.out⟩
   ·have c8b0 := decide_eq_false c8
    clear c8
    rcases iteP H with ⟨c18, H⟩ | ⟨c18, H⟩
    ·have c18b0 := beq_iff_eq.mpr c18
     have c18b1 := bne_eq_false_iff_eq.mpr c18
     clear c18
     obtain ⟨t465, A19, H⟩ := obE H
     simp only [Option.some.injEq, Prod.mk.injEq] at H
     obtain ⟨rfl, rfl⟩ := H
     go_enter Tryd.func14, Tryd.ntmps14
     go_wp2_with (first | ((with_reducible refine gate_dst (N := 2) rfl ?_); (try (refine gate_guard (by rfl) ?_; dsimp only)); refine boxG HB #[.int .i64 a0_0, .slice A0_1 l0_1.length c0_1] 26 ?_; intro gb461 hg w20 BK461 GE461 hb; replace HB := bst HB hb; clear hb hg) | ((with_reducible refine gate_dst (N := 3) rfl ?_); (try (refine gate_guard (by rfl) ?_; dsimp only)); refine boxG HB #[.int .i64 a1_0, .slice A1_1 l1_1.length c1_1] 26 ?_; intro gb462 hg w21 BK462 GE462 hb; have NB461_462 := neL7 BK461 hg; have NB462_461 := neR7 BK461 hg; replace BK461 := blkB BK461 hb; replace HB := bst HB hb; clear hb hg; obtain ⟨_, _, _, _⟩ := blk2 BK461) | ((with_reducible refine gate_callee (f := 23) rfl ?_); refine goesQ (some 7) Tryd.func23 #[.agg #[.int .i64 a0_0, .slice A0_1 l0_1.length c0_1]] ?_; (with_reducible refine (impl_IsRelation.calls k a0_0 _ _ l0_1 true _ ?_ ?_ A3.out).mono ?_); exact C_g HR0_1 HB; exact HC0_1.out; rintro e w24 ⟨rfl, hb⟩; refine ⟨_, rfl, ?_⟩; replace BK461 := blkB BK461 hb; replace BK462 := blkB BK462 hb; replace HB := bst HB hb; clear hb; obtain ⟨_, _, _, _⟩ := blk2 BK462) | (go_at_call 23; (with_reducible refine (impl_IsRelation.calls k a1_0 _ _ l1_1 true _ ?_ ?_ A5.out).mono ?_); exact C_g HR1_1 HB; exact HC1_1.out; rintro e w26 ⟨rfl, hb⟩; replace BK461 := blkB BK461 hb; replace BK462 := blkB BK462 hb; replace HB := bst HB hb; clear hb; obtain ⟨_, _, _, _⟩ := blk2 BK461; obtain ⟨_, _, _, _⟩ := blk2 BK462) | (go_at_call 24; (with_reducible refine (impl_Order_pattern.calls k a0_0 _ _ l0_1 a1_0 _ _ l1_1 t465 _ ?_ ?_ ?_ ?_ A19.out).mono ?_); exact C_g HR0_1 HB; exact HC0_1.out; exact C_g HR1_1 HB; exact HC1_1.out; rintro e w29 ⟨v466, rfl, ho0, hb, hnx⟩; have HO467 := rLo ho0 HB; replace BK461 := blkB BK461 hb; replace BK462 := blkB BK462 hb; replace HB := bst HB hb; clear hb ho0; have NL_HO467 := mkA (impl_IsSameKind.nilB_ HO467.out hnx.1 hnx.2); clear hnx; obtain ⟨Ao30, co30, rfl⟩ := Kd.R_slice HO467.out; have nq31 := fun (W_ : World) => impl_IsSameKind.nilNeqB_ (P := Tryd.prog) W_ (t := 24) (e := 3) (c := co30) (b := (t465 == ([] : List Int) && !(a1_0 == 0))) Tryd.underlying24 NL_HO467.out.1 NL_HO467.out.2))
     go_ret2
     exact ⟨by first | rfl | (simp [errW_none, errW_some] <;> rfl) | (simp only [← hji7]; first | rfl | (simp [errW_none, errW_some] <;> rfl)) | (simp [*, errW_none, errW_some] <;> rfl), bel_g HB.out⟩
    ·have c18b0 := beq_eq_false_iff_ne.mpr c18
     have c18b1 := bne_iff_ne.mpr c18
     simp only [Option.some.injEq, Prod.mk.injEq] at H
     obtain ⟨rfl, rfl⟩ := H
     go_enter Tryd.func14, Tryd.ntmps14
     go_wp2_with (first | ((with_reducible refine gate_dst (N := 2) rfl ?_); (try (refine gate_guard (by rfl) ?_; dsimp only)); refine boxG HB #[.int .i64 a0_0, .slice A0_1 l0_1.length c0_1] 26 ?_; intro gb461 hg w32 BK461 GE461 hb; replace HB := bst HB hb; clear hb hg) | ((with_reducible refine gate_dst (N := 3) rfl ?_); (try (refine gate_guard (by rfl) ?_; dsimp only)); refine boxG HB #[.int .i64 a1_0, .slice A1_1 l1_1.length c1_1] 26 ?_; intro gb462 hg w33 BK462 GE462 hb; have NB461_462 := neL7 BK461 hg; have NB462_461 := neR7 BK461 hg; replace BK461 := blkB BK461 hb; replace HB := bst HB hb; clear hb hg; obtain ⟨_, _, _, _⟩ := blk2 BK461) | ((with_reducible refine gate_callee (f := 23) rfl ?_); refine goesQ (some 7) Tryd.func23 #[.agg #[.int .i64 a0_0, .slice A0_1 l0_1.length c0_1]] ?_; (with_reducible refine (impl_IsRelation.calls k a0_0 _ _ l0_1 true _ ?_ ?_ A3.out).mono ?_); exact C_g HR0_1 HB; exact HC0_1.out; rintro e w36 ⟨rfl, hb⟩; refine ⟨_, rfl, ?_⟩; replace BK461 := blkB BK461 hb; replace BK462 := blkB BK462 hb; replace HB := bst HB hb; clear hb; obtain ⟨_, _, _, _⟩ := blk2 BK462) | (go_at_call 23; (with_reducible refine (impl_IsRelation.calls k a1_0 _ _ l1_1 true _ ?_ ?_ A5.out).mono ?_); exact C_g HR1_1 HB; exact HC1_1.out; rintro e w38 ⟨rfl, hb⟩; replace BK461 := blkB BK461 hb; replace BK462 := blkB BK462 hb; replace HB := bst HB hb; clear hb; obtain ⟨_, _, _, _⟩ := blk2 BK461; obtain ⟨_, _, _, _⟩ := blk2 BK462))
     go_ret2
     exact ⟨by first | rfl | (simp [errW_none, errW_some] <;> rfl) | (simp only [← hji7]; first | rfl | (simp [errW_none, errW_some] <;> rfl)) | (simp [*, errW_none, errW_some] <;> rfl), bel_g HB.out⟩
  ·replace c6 := Bool.eq_false_iff.mpr c6
   subst c6
   replace H := ifF H
   simp only [Option.some.injEq, Prod.mk.injEq] at H
   obtain ⟨rfl, rfl⟩ := H
   go_enter Tryd.func14, Tryd.ntmps14
   go_wp2_with (first | ((with_reducible refine gate_dst (N := 2) rfl ?_); (try (refine gate_guard (by rfl) ?_; dsimp only)); refine boxG HB #[.int .i64 a0_0, .slice A0_1 l0_1.length c0_1] 26 ?_; intro gb461 hg w41 BK461 GE461 hb; replace HB := bst HB hb; clear hb hg) | ((with_reducible refine gate_dst (N := 3) rfl ?_); (try (refine gate_guard (by rfl) ?_; dsimp only)); refine boxG HB #[.int .i64 a1_0, .slice A1_1 l1_1.length c1_1] 26 ?_; intro gb462 hg w42 BK462 GE462 hb; have NB461_462 := neL7 BK461 hg; have NB462_461 := neR7 BK461 hg; replace BK461 := blkB BK461 hb; replace HB := bst HB hb; clear hb hg; obtain ⟨_, _, _, _⟩ := blk2 BK461) | ((with_reducible refine gate_callee (f := 23) rfl ?_); refine goesQ (some 7) Tryd.func23 #[.agg #[.int .i64 a0_0, .slice A0_1 l0_1.length c0_1]] ?_; (with_reducible refine (impl_IsRelation.calls k a0_0 _ _ l0_1 true _ ?_ ?_ A3.out).mono ?_); exact C_g HR0_1 HB; exact HC0_1.out; rintro e w45 ⟨rfl, hb⟩; refine ⟨_, rfl, ?_⟩; replace BK461 := blkB BK461 hb; replace BK462 := blkB BK462 hb; replace HB := bst HB hb; clear hb; obtain ⟨_, _, _, _⟩ := blk2 BK462) | (go_at_call 23; (with_reducible refine (impl_IsRelation.calls k a1_0 _ _ l1_1 false _ ?_ ?_ A5.out).mono ?_); exact C_g HR1_1 HB; exact HC1_1.out; rintro e w47 ⟨rfl, hb⟩; replace BK461 := blkB BK461 hb; replace BK462 := blkB BK462 hb; replace HB := bst HB hb; clear hb))
   go_ret2
   exact ⟨eqE, bel_g HB.out⟩
 ·replace c4 := Bool.eq_false_iff.mpr c4
  subst c4
  replace H := ifF H
  simp only [Option.some.injEq, Prod.mk.injEq] at H
  obtain ⟨rfl, rfl⟩ := H
  go_enter Tryd.func14, Tryd.ntmps14
  go_wp2_with (first | ((with_reducible refine gate_dst (N := 2) rfl ?_); (try (refine gate_guard (by rfl) ?_; dsimp only)); refine boxG HB #[.int .i64 a0_0, .slice A0_1 l0_1.length c0_1] 26 ?_; intro gb461 hg w48 BK461 GE461 hb; replace HB := bst HB hb; clear hb hg) | ((with_reducible refine gate_dst (N := 3) rfl ?_); (try (refine gate_guard (by rfl) ?_; dsimp only)); refine boxG HB #[.int .i64 a1_0, .slice A1_1 l1_1.length c1_1] 26 ?_; intro gb462 hg w49 BK462 GE462 hb; have NB461_462 := neL7 BK461 hg; have NB462_461 := neR7 BK461 hg; replace BK461 := blkB BK461 hb; replace HB := bst HB hb; clear hb hg; obtain ⟨_, _, _, _⟩ := blk2 BK461) | ((with_reducible refine gate_callee (f := 23) rfl ?_); refine goesQ (some 7) Tryd.func23 #[.agg #[.int .i64 a0_0, .slice A0_1 l0_1.length c0_1]] ?_; (with_reducible refine (impl_IsRelation.calls k a0_0 _ _ l0_1 false _ ?_ ?_ A3.out).mono ?_); exact C_g HR0_1 HB; exact HC0_1.out; rintro e w52 ⟨rfl, hb⟩; refine ⟨_, rfl, ?_⟩; replace BK461 := blkB BK461 hb; replace BK462 := blkB BK462 hb; replace HB := bst HB hb; clear hb))
  go_ret2
  exact ⟨eqE, bel_g HB.out⟩
end Go.Proofs.YtdpmoehmbjmkpaaDoor.Q
