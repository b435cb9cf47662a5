-- printed by this project's own program (wip/mp/mp.py) over the kit's print, for this seat; Lean checks it
import Derived.Test.YtmdldleodieooaaQx0
import Derived.Test.YtmdldleodieooaaQImplWithin
import Derived.Test.YtmdldleodieooaaQImplCounterMost
import Derived.Test.YtmdldleodieooaaQImplCounterWays
import Derived.Test.YtmdldleodieooaaQImplAscentwith
namespace Go.Proofs.Ytmdldleodieooaa.Q
open Go.RowKit Go.Proofs.YtmdldleodieooaaW.PrintWords Go.Proofs.YtmdldleodieooaaW.PrintLast Go.Proofs.YtmdldleodieooaaW.PrintMore
attribute [local go_sem] max2_int min2_int max_two min_two max_three min_three max_four min_four   -- for this text's walks alone
set_option linter.unusedVariables false
set_option maxHeartbeats 8000000
set_option maxRecDepth 100000
set_option linter.unusedSimpArgs false

/-! ### impl_ListAscents: function 5 -/
def impl_ListAscents.l0 : Nat → Int → List (List Int) → Int → Int → Option ((List (List Int)) × Bool)
 | 0, _, _, _, _ => none
 | k + 1, x0, x4, x14, x15 => if x15 < x14 then ((impl_AscentWith.f k x0 x15).bind fun bt167 => (if x4.length < 5864062014805 then (impl_ListAscents.l0 k x0 (x4 ++ [bt167.1]) x14 (wrap64 (x15 + 1))) else (none))) else (some (x4, true))
def impl_ListAscents.f (k : Nat) (a0 : Int) : Option ((List (List Int)) × Bool) := (impl_within.f a0 0 7).bind fun t161 => (if t161 = true then ((impl_counter_ways.f a0 (-1) 0).bind fun t166 => (impl_ListAscents.l0 k a0 (([] : List (List Int))) t166 0)) else (some (([] : List (List Int)), false)))
theorem impl_ListAscents.mono_l : ∀ k, (∀ y0 y1 y2 y3, LeO (impl_ListAscents.l0 k y0 y1 y2 y3) (impl_ListAscents.l0 (k + 1) y0 y1 y2 y3))
 | 0 => fun _ _ _ _ r h => by simp [impl_ListAscents.l0] at h
 | k + 1 => by
  have ih0 := impl_ListAscents.mono_l k
  ·intro y0 y1 y2 y3
   unfold impl_ListAscents.l0
   repeat' (with_reducible first|apply ih0|apply impl_AscentWith.mono|apply LeO.refl|apply LeO.none|apply LeO.ite|apply LeO.bind|intro)
theorem impl_ListAscents.mono : ∀ a0 k, LeO (impl_ListAscents.f k a0) (impl_ListAscents.f (k + 1) a0) := by
 intro a0 k
 have ih0 := impl_ListAscents.mono_l k
 unfold impl_ListAscents.f
 repeat' (with_reducible first|apply ih0|apply impl_AscentWith.mono|apply LeO.refl|apply LeO.none|apply LeO.ite|apply LeO.bind|intro)
theorem impl_ListAscents.calls (k : Nat) (a0 : Int) (r1 : List (List Int)) (r2 : Bool) (w : World) (h : impl_ListAscents.f k a0 = some (r1, r2)) :
  Calls Try.prog 5 #[.int .i64 a0] w fun e w' => ∃ v0_ : Value, e = .returned (.tuple #[v0_, .bool r2]) ∧ Kd.S (Kd.slice 3 (Kd.int .i64)) 29 w' w.heap.size (fun _ => True) v0_ r1 ∧ Below w.heap.size w w' := by
 have HB := mkA (Below.refl w.heap.size w)
 have H := h
 clear h
 unfold impl_ListAscents.f at H
 obtain ⟨t161, A2, H⟩ := obE H
 by_cases c3 : t161 = true
 ·subst c3
  replace H := ifT H
  obtain ⟨y162, hy162⟩ : ∃ y_ : List (List Int), y_ = (([] : List (List Int))) := ⟨_, rfl⟩
  rw [← hy162] at H
  have Ny162 := mkA hy162
  clear hy162
  obtain ⟨t166, A4, H⟩ := obE H
  have H' := mkA H
  clear H
  go_enter Try.func5, Try.ntmps5
  go_wp2_with (first | ((with_reducible refine gate_callee (f := 11) rfl ?_); refine goesQ (some 9) Try.func11 #[.int .i64 a0, .int .i64 0, .int .i64 7] ?_; (with_reducible refine (impl_within.calls a0 0 7 true _ A2.out).mono ?_); rintro e w' ⟨rfl, ⟨nd, rfl⟩⟩; refine ⟨_, rfl, ?_⟩) | ((with_reducible refine gate_dst (N := 11) rfl ?_); refine Kd.S_lit (Kd.slice 3 (Kd.int .i64)) _ 29 ?hg (N := 11) ?hd (xs := ([] : List (List Int))) (inner := []) (ok := fun _ => True) (okp := fun _ => True) ?hr ?hp (fun _ hk => hk) trivial (Below.refl _ _) (Nat.le_refl _) (by simp) ?_; (case hd => rfl); (case hg => rfl); (case hr => first | (go_simp; done) | (go_simp; rfl)); (case hp => exact (Reps.none _ _)); intro v163 w5 ho6 hb hg_ hnew_; clear hg_ hnew_; (first | rw [← Ny162.out] at ho6 | (simp only [Int.reduceToNat] at ho6; rw [← Ny162.out] at ho6)); have HO164 := mkA (Kd.S_lower ho6 (below_size (bel_g HB.out))); replace HB := bst HB hb; clear hb ho6) | ((with_reducible refine gate_dst (N := 12) rfl ?_); refine map_event ?hg (N := 12) ?hd ?hr ?_; (case hd => rfl); (case hg => rfl); (case hr => first | (go_simp; done) | (go_simp; rfl)); intro gb165 hg w7 hbox hb; replace HO164 := mkA (Kd.S_below (by (with_reducible repeat (first | apply Kd.S_alloc | apply Kd.S_drewN | apply Kd.S_drew)); exact HO164.out) hb); have HI165 := mkA ((⟨_, _, hbox, MapOk.none, (by rw [hg]; exact (below_size (bel_g HB.out)))⟩ : IsS33 w w7 gb165)); have GE165 := geB HB hg; replace HB := bst HB hb; clear hb hbox hg) | ((with_reducible refine gate_callee (f := 12) rfl ?_); refine goesQ (some 14) Try.func12 #[.map (some gb165), .int .i64 a0, .int .i64 (-1), .int .i64 0] ?_; (with_reducible refine (impl_counter_ways.calls gb165  a0 (-1) 0 t166 w _ ?_ ?_ A4.out).mono ?_); exact st33_0 HI165.out; exact bl33_0 HB.out HI165.out; rintro e w8 ⟨rfl, hi, hb, hk⟩; refine ⟨_, rfl, ?_⟩; replace HO164 := mkA (Kd.S_mono (Kd.S_keep (IsS33.apartS (show IsS33 w _ gb165  from by exact st33_0 HI165.out) (by (with_reducible repeat (first | apply Kd.S_alloc | apply Kd.S_drewN | apply Kd.S_drew)); exact HO164.out) (by decide)) hk (fun _ h => h.2)) (fun _ h => h.1)); replace HI165 := mkA (hi); replace HB := mkA (hb); (try clear hb); (try clear hk); (try clear hi)))
  go_loopg [4, 15] k (fun kq v4 v15 w' => ∃ (x4_1 : List (List Int)) (x15_1 : Int), v15 = .int .i64 x15_1 ∧ Fc (impl_ListAscents.l0 kq a0 x4_1 t166 x15_1 = some (r1, r2)) ∧ Fc (kq ≤ k) ∧ Fc (Kd.S (Kd.slice 3 (Kd.int .i64)) 29 w' w.heap.size (fun _ => True) v4 x4_1) ∧ Fc (IsS33 w w' gb165 ) ∧ Fc (Below w.heap.size w w'))
  case atStart => exact ⟨(y162), (0), eqS, H', ⟨Nat.le_refl _⟩, ⟨by (with_reducible repeat (first | apply Kd.S_alloc | apply Kd.S_drewN | apply Kd.S_drew)); exact HO164.out⟩, ⟨by exact st33_0 HI165.out⟩, ⟨by exact bl33_0 HB.out HI165.out⟩⟩
  case round =>
   clear H'
   try clear c3
   obtain ⟨x4_1, x15_1, rfl, HA, HK1, HO_4, HI165, HB⟩ := hrel
   cases gk with
   | zero => exact absurd HA.out (by simp [impl_ListAscents.l0])
   | succ k1 =>
    have H := HA.out
    clear HA
    simp only [impl_ListAscents.l0] at H
    rcases iteE H with ⟨c9b0, H⟩ | ⟨c9b0, H⟩
    ·obtain ⟨⟨t167, t168⟩, A10, H⟩ := obE H
     dsimp only at H
     obtain ⟨c11, H⟩ := itNP H
     have LMc11 := mkA c11
     clear c11
     obtain ⟨y171, hy171⟩ : ∃ y_ : List (List Int), y_ = (x4_1 ++ [t167]) := ⟨_, rfl⟩
     rw [← hy171] at H
     have Ny171 := mkA hy171
     clear hy171
     have H' := mkA H
     clear H
     go_wp2_with (first | ((with_reducible refine gate_callee (f := 13) rfl ?_); refine goesQ (some 21) Try.func13 #[.int .i64 a0, .int .i64 x15_1] ?_; (with_reducible refine (impl_AscentWith.calls k1 a0 x15_1 t167 t168 _ A10.out).mono ?_); rintro e w12 ⟨v169, rfl, ho0, hb⟩; refine ⟨_, rfl, ?_⟩; replace HO_4 := mkA (Kd.S_elder' (by (with_reducible repeat (first | apply Kd.S_alloc | apply Kd.S_drewN | apply Kd.S_drew)); exact HO_4.out) (Kd.R_base ho0) hb); have HO170 := mkA (Kd.R_lower ho0 (below_size (by exact bl33_0 HB.out HI165.out))); replace HB := mkA (below_step (by exact bl33_0 HB.out HI165.out) hb); replace HI165 := mkA (IsS33.below (by exact st33_0 HI165.out) hb); (try clear hb); (try clear hk); (try clear hi); (try clear ho0); obtain ⟨Ao14, co14, rfl⟩ := Kd.R_slice HO170.out) | ((with_reducible refine gate_builtin (b := .append) (xs := #[.tmp 24, .tmp 26]) rfl ?_); at_builtin; refine Kd.S_append (Kd.slice 3 (Kd.int .i64)) (w0 := w) w.heap.size rfl (.tmp 24) (.tmp 26) 22 29 (.slice none 0 0) 24 rfl Try.underlying22 info29 rfl (by decide) (by omega) u4 x4_1 t167 [.slice Ao14 t167.length co14] (fun _ => True) (fun k_ => some k_ = (.slice Ao14 t167.length co14 : Value).ownBlock) rfl rfl ?aP (fun k_ hk_ => ((Kd.R_mono (ok' := fun k_ => ((fun _ => True)) k_ ∧ some k_ ≠ (u4 : Value).ownBlock) (Kd.R_apart' (HO170.out) (Kd.S_typed HO_4.out) (by decide)) (fun k_ hk => ⟨trivial, hk.2⟩))).1 k_ hk_.symm) ?aF ?aO ?aB ?aS ?aL ?_; (case aP => exact Kd.M_row (Kd.R_mono (Kd.R_tight rfl (Kd.R_mono (ok' := fun k_ => ((fun _ => True)) k_ ∧ some k_ ≠ (u4 : Value).ownBlock) (Kd.R_apart' (HO170.out) (Kd.S_typed HO_4.out) (by decide)) (fun k_ hk => ⟨trivial, hk.2⟩))) (fun _ h_ => h_))); (case aB => exact (by exact bl33_0 HB.out HI165.out)); (case aF => exact (fun _ _ => trivial)); (case aO => exact (by (with_reducible repeat (first | apply Kd.S_alloc | apply Kd.S_drewN | apply Kd.S_drew)); exact Kd.S_mono HO_4.out (fun k_ hk => ⟨trivial, fun e_ => hk.2 e_⟩))); (case aS => exact (below_size (by exact bl33_0 HB.out HI165.out))); (case aL => have := LMc11.out; omega); intro v172 w13 ho hb hg hat; rw [← Ny171.out] at ho; replace HI165 := mkA (IsS33.grown (by exact st33_0 HI165.out) hg (IsS33.own_neS HI165.out HO_4.out (by decide))); have HO173 := mkA (ho); replace HB := mkA (hb); clear HO_4 HO170; clear ho hb hg hat))
     go_roundg k1
     case measure => have := HK1.out; omega
     case rel => exact ⟨(y171), (wrap64 (x15_1 + 1)), eqS, H', ⟨by have := HK1.out; omega⟩, ⟨by (with_reducible repeat (first | apply Kd.S_alloc | apply Kd.S_drewN | apply Kd.S_drew)); exact HO173.out⟩, ⟨by exact st33_0 HI165.out⟩, ⟨by exact bl33_0 HB.out HI165.out⟩⟩
    ·simp only [Option.some.injEq, Prod.mk.injEq] at H
     obtain ⟨rfl, rfl⟩ := H
     go_wp2
     go_ret2
     exact ⟨_, eqE, by (with_reducible repeat (first | apply Kd.S_alloc | apply Kd.S_drewN | apply Kd.S_drew)); exact HO_4.out, by exact bl33_0 HB.out HI165.out⟩
 ·replace c3 := Bool.eq_false_iff.mpr c3
  subst c3
  replace H := ifF H
  simp only [Option.some.injEq, Prod.mk.injEq] at H
  obtain ⟨rfl, rfl⟩ := H
  go_enter Try.func5, Try.ntmps5
  go_wp2_with (first | ((with_reducible refine gate_callee (f := 11) rfl ?_); refine goesQ (some 9) Try.func11 #[.int .i64 a0, .int .i64 0, .int .i64 7] ?_; (with_reducible refine (impl_within.calls a0 0 7 false _ A2.out).mono ?_); rintro e w' ⟨rfl, ⟨nd, rfl⟩⟩; refine ⟨_, rfl, ?_⟩))
  go_ret2
  exact ⟨_, eqE, by first | exact Kd.S_nil _ _ _ _ _ | exact Kd.N_nil _ _ _ _ _ | exact Kd.V_nil _ _ _ _ _ | exact Kd.Q_nil _ _ _ _ _ | exact Kd.R_nil _ _ _ _ _, bel_g HB.out⟩

end Go.Proofs.Ytmdldleodieooaa.Q
