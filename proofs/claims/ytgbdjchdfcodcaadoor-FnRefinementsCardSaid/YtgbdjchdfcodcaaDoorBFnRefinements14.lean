import Derived.Test.YtgbdjchdfcodcaaDoorBFnRefinements13
namespace Go.Proofs.YtgbdjchdfcodcaaDoor.Q
open Go.RowKit Go.Proofs.YtgbdjchdfcodcaaDoorW.PrintWords Go.Proofs.YtgbdjchdfcodcaaDoorW.PrintLast Go.Proofs.YtgbdjchdfcodcaaDoorW.PrintMore
attribute [local go_sem] max2_int min2_int max_two min_two max_three min_three max_four min_four neB_f
set_option linter.unusedVariables false
set_option maxHeartbeats 8000000
set_option maxRecDepth 100000
set_option linter.unusedSimpArgs false
def spec_DrawDoesRefine.f (k : Nat) (l0 : List Int) : Option (Int × List Int × Int × List Int) := (spec_l1Cur_both.f k l0 0 0).bind fun bt395 => (some (bt395.1, bt395.2.1, bt395.2.2.1, bt395.2.2.2.1))
theorem spec_DrawDoesRefine.mono : ∀ a0 k, LeO (spec_DrawDoesRefine.f k a0) (spec_DrawDoesRefine.f (k + 1) a0) := by
 intro a0 k
 unfold spec_DrawDoesRefine.f
 repeat' (with_reducible first|exact spec_l1Cur_both.mono _ _ _ _|exact LeO.refl _|exact LeO.none _|refine LeO.ite ?_ ?_|refine LeO.bind ?_ (fun _ => ?_))
theorem spec_DrawDoesRefine.calls (k : Nat) (A0 : Option Addr) (c0 : Nat) (l0 : List Int) (r1 : Int) (r2 : List Int) (r3 : Int) (r4 : List Int) (w : World) (hr0 : Kd.C (Kd.int .u8) w A0 l0.length l0) (hc0 : l0.length ≤ c0) (h : spec_DrawDoesRefine.f k l0 = some (r1, r2, r3, r4)) :
  Calls Tryd.prog 17 #[.slice A0 l0.length c0] w fun e w' => ∃ v1_ v3_ : Value, e = .returned (.tuple #[.agg #[.int .i64 r1, v1_], .agg #[.int .i64 r3, v3_]]) ∧ Kd.R (Kd.int .i64) 3 w' w.heap.size (fun k_ => some k_ ≠ (v3_ : Value).ownBlock) v1_ r2 ∧ Kd.R (Kd.int .i64) 3 w' w.heap.size (fun k_ => some k_ ≠ (v1_ : Value).ownBlock) v3_ r4 ∧ Below w.heap.size w w' := by
 have hu26 := Tryd.underlying26
 have hu47 := Tryd.underlying47
 have HR0 := mkA hr0
 have HC0 := mkA hc0
 clear hr0 hc0
 have HB := mkA (Below.refl w.heap.size w)
 have H := h
 clear h
 unfold spec_DrawDoesRefine.f at H
 obtain ⟨⟨t395, t396, t399, t400, t403, t404⟩, A2, H⟩ := obE H
 dsimp only at H
 simp only [Option.some.injEq, Prod.mk.injEq] at H
 obtain ⟨rfl, rfl, rfl, rfl⟩ := H
 go_enter Tryd.func17, Tryd.ntmps17
 go_wp2_with (first | ((with_reducible refine gate_dst (N := 2) rfl ?_); refine boxE (N := 2) (cs := #[.int .i64 0, .slice none 0 0]) (t := 26) ?_; intro gb392 hg w3 hbox hb; have BK392 := mkA (hbox); have GE392 := geB HB hg; replace HB := bst HB hb; clear hb hbox hg) | ((with_reducible refine gate_dst (N := 3) rfl ?_); refine boxE (N := 3) (cs := #[.int .i64 0, .slice none 0 0]) (t := 26) ?_; intro gb393 hg w4 hbox hb; have BK393 := mkA (hbox); have GE393 := geB HB hg; have NB392_393 := neL7 BK392 hg; have NB393_392 := neR7 BK392 hg; replace BK392 := blkB BK392 hb; replace HB := bst HB hb; clear hb hbox hg) | ((with_reducible refine gate_dst (N := 7) rfl ?_); refine boxE (N := 7) (cs := #[.slice A0 l0.length c0, .int .i64 0, .int .u64 0]) (t := 47) ?_; intro gb394 hg w5 hbox hb; have HI394 := mkA ((⟨_, _, hbox, (by rw [hg]; exact (below_size (bel_g HB.out))), HR0.out⟩ : IsS47 w w5 gb394 l0 0 0)); have GE394 := geB HB hg; have NB392_394 := neL7 BK392 hg; have NB394_392 := neR7 BK392 hg; replace BK392 := blkB BK392 hb; have NB393_394 := neL7 BK393 hg; have NB394_393 := neR7 BK393 hg; replace BK393 := blkB BK393 hb; replace HB := bst HB hb; clear hb hbox hg) | ((with_reducible refine gate_callee (f := 33) rfl ?_); refine goesQ (some 9) Tryd.func33 #[.pointer (some ⟨gb394, 0, none⟩)] ?_; (with_reducible refine (spec_l1Cur_both.calls k gb394 l0 0 0 t395 t396 t399 t400 t403 t404 w _ ?s1 ?s2 A2.out).mono ?_); (case s1 => exact st47_2 HI394.out NB394_392.out NB394_393.out); (case s2 => exact bl47_2 HB.out HI394.out GE392.out GE393.out); rintro e w6 ⟨v397, v401, rfl, ho0, ho1, hi, hb, hk⟩; refine ⟨_, rfl, ?_⟩; replace BK392 := kB hk BK392; replace BK393 := kB hk BK393; have HO398 := mkA (Kd.R_lower ho0 (below_size (by exact bl47_2 HB.out HI394.out GE392.out GE393.out))); have HO402 := mkA (Kd.R_lower ho1 (below_size (by exact bl47_2 HB.out HI394.out GE392.out GE393.out))); replace HI394 := mkA (hi); replace HB := mkA (hb); (try clear hb); (try clear hk); (try clear hi); (try clear ho0); (try clear ho1); obtain ⟨_, _, _, _⟩ := blk2 BK392; obtain ⟨Ao10, co10, eo10⟩ := Kd.R_slice HO398.out; subst eo10; obtain ⟨_, _, _, _⟩ := blk2 BK393; obtain ⟨Ao13, co13, eo13⟩ := Kd.R_slice HO402.out; subst eo13))
 refine bodyPost_ret (results_cc rfl _ _ gb392 gb393 26 26 #[.int .i64 t395, .slice Ao10 t396.length co10] #[.int .i64 t399, .slice Ao13 t400.length co13] (0, 0) (0, 0) _ _ rfl (blkT BK392) Tryd.underlying26 rfl (by kernel_rfl) rfl (blkT BK393) Tryd.underlying26 rfl (by kernel_rfl)) rfl ?_
 exact ⟨_, _, eqE, by (with_reducible repeat (first | apply Kd.R_alloc | apply Kd.R_drewN | apply Kd.R_drew)); exact Kd.R_mono (Kd.R_far (p := ⟨gb393, 1, none⟩) (Kd.R_far (p := ⟨gb393, 0, none⟩) (Kd.R_far (p := ⟨gb392, 1, none⟩) (Kd.R_far (p := ⟨gb392, 0, none⟩) (Kd.R_types (Kd.R_types HO398.out BK392.out (by decide)) BK393.out (by decide)) (fun _ hk => hk.1.2) (.int .i64 t395)) (fun _ hk => hk.1.2) (.slice Ao10 t396.length co10)) (fun _ hk => hk.2) (.int .i64 t399)) (fun _ hk => hk.2) (.slice Ao13 t400.length co13)) (fun _ hk => hk.1.1), by (with_reducible repeat (first | apply Kd.R_alloc | apply Kd.R_drewN | apply Kd.R_drew)); exact Kd.R_mono (Kd.R_far (p := ⟨gb393, 1, none⟩) (Kd.R_far (p := ⟨gb393, 0, none⟩) (Kd.R_far (p := ⟨gb392, 1, none⟩) (Kd.R_far (p := ⟨gb392, 0, none⟩) (Kd.R_types (Kd.R_types HO402.out BK392.out (by decide)) BK393.out (by decide)) (fun _ hk => hk.1.2) (.int .i64 t395)) (fun _ hk => hk.1.2) (.slice Ao10 t396.length co10)) (fun _ hk => hk.2) (.int .i64 t399)) (fun _ hk => hk.2) (.slice Ao13 t400.length co13)) (fun _ hk => hk.1.1), by exact bl47_2 HB.out HI394.out GE392.out GE393.out⟩
def spec_DrawMeetOrders.f (k : Nat) (l0 : List Int) : Option (Int × List Int × Int × List Int) := (spec_DrawDoesRefine.f k l0).bind fun bt407 => (some (bt407.1, bt407.2.1, bt407.2.2.1, bt407.2.2.2))
theorem spec_DrawMeetOrders.mono : ∀ a0 k, LeO (spec_DrawMeetOrders.f k a0) (spec_DrawMeetOrders.f (k + 1) a0) := by
 intro a0 k
 unfold spec_DrawMeetOrders.f
 repeat' (with_reducible first|exact spec_DrawDoesRefine.mono _ _|exact LeO.refl _|exact LeO.none _|refine LeO.ite ?_ ?_|refine LeO.bind ?_ (fun _ => ?_))
theorem spec_DrawMeetOrders.calls (k : Nat) (A0 : Option Addr) (c0 : Nat) (l0 : List Int) (r1 : Int) (r2 : List Int) (r3 : Int) (r4 : List Int) (w : World) (hr0 : Kd.C (Kd.int .u8) w A0 l0.length l0) (hc0 : l0.length ≤ c0) (h : spec_DrawMeetOrders.f k l0 = some (r1, r2, r3, r4)) :
  Calls Tryd.prog 5 #[.slice A0 l0.length c0] w fun e w' => ∃ v1_ v3_ : Value, e = .returned (.tuple #[.agg #[.int .i64 r1, v1_], .agg #[.int .i64 r3, v3_]]) ∧ Kd.R (Kd.int .i64) 3 w' w.heap.size (fun k_ => some k_ ≠ (v3_ : Value).ownBlock) v1_ r2 ∧ Kd.R (Kd.int .i64) 3 w' w.heap.size (fun k_ => some k_ ≠ (v1_ : Value).ownBlock) v3_ r4 ∧ Below w.heap.size w w' := by
 have hu26 := Tryd.underlying26
 have HR0 := mkA hr0
 have HC0 := mkA hc0
 clear hr0 hc0
 have HB := mkA (Below.refl w.heap.size w)
 have H := h
 clear h
 unfold spec_DrawMeetOrders.f at H
 obtain ⟨⟨t407, t408, t411, t412⟩, A2, H⟩ := obE H
 dsimp only at H
 simp only [Option.some.injEq, Prod.mk.injEq] at H
 obtain ⟨rfl, rfl, rfl, rfl⟩ := H
 go_enter Tryd.func5, Tryd.ntmps5
 go_wp2_with (first | ((with_reducible refine gate_dst (N := 2) rfl ?_); refine boxE (N := 2) (cs := #[.int .i64 0, .slice none 0 0]) (t := 26) ?_; intro gb405 hg w3 hbox hb; have BK405 := mkA (hbox); have GE405 := geB HB hg; replace HB := bst HB hb; clear hb hbox hg) | ((with_reducible refine gate_dst (N := 3) rfl ?_); refine boxE (N := 3) (cs := #[.int .i64 0, .slice none 0 0]) (t := 26) ?_; intro gb406 hg w4 hbox hb; have BK406 := mkA (hbox); have GE406 := geB HB hg; have NB405_406 := neL7 BK405 hg; have NB406_405 := neR7 BK405 hg; replace BK405 := blkB BK405 hb; replace HB := bst HB hb; clear hb hbox hg) | ((with_reducible refine gate_callee (f := 17) rfl ?_); refine goesQ (some 5) Tryd.func17 #[.slice A0 l0.length c0] ?_; (with_reducible refine (spec_DrawDoesRefine.calls k _ _ l0 t407 t408 t411 t412 _ ?s1 ?s2 A2.out).mono ?_); (case s1 => exact C_g HR0 HB); (case s2 => exact HC0.out); rintro e w5 ⟨v409, v413, rfl, ho0, ho1, hb⟩; refine ⟨_, rfl, ?_⟩; have HO410 := mkA (Kd.R_lower ho0 (below_size (bel_g HB.out))); have HO414 := mkA (Kd.R_lower ho1 (below_size (bel_g HB.out))); replace BK405 := blkB BK405 hb; replace BK406 := blkB BK406 hb; replace HB := bst HB hb; (try clear hb); (try clear hk); (try clear ho0); (try clear ho1); obtain ⟨_, _, _, _⟩ := blk2 BK405; obtain ⟨Ao8, co8, eo8⟩ := Kd.R_slice HO410.out; subst eo8; obtain ⟨_, _, _, _⟩ := blk2 BK406; obtain ⟨Ao10, co10, eo10⟩ := Kd.R_slice HO414.out; subst eo10))
 refine bodyPost_ret (results_cc rfl _ _ gb405 gb406 26 26 #[.int .i64 t407, .slice Ao8 t408.length co8] #[.int .i64 t411, .slice Ao10 t412.length co10] (0, 0) (0, 0) _ _ rfl (blkT BK405) Tryd.underlying26 rfl (by kernel_rfl) rfl (blkT BK406) Tryd.underlying26 rfl (by kernel_rfl)) rfl ?_
 exact ⟨_, _, eqE, by (with_reducible repeat (first | apply Kd.R_alloc | apply Kd.R_drewN | apply Kd.R_drew)); exact Kd.R_mono (Kd.R_far (p := ⟨gb406, 1, none⟩) (Kd.R_far (p := ⟨gb406, 0, none⟩) (Kd.R_far (p := ⟨gb405, 1, none⟩) (Kd.R_far (p := ⟨gb405, 0, none⟩) (Kd.R_types (Kd.R_types HO410.out BK405.out (by decide)) BK406.out (by decide)) (fun _ hk => hk.1.2) (.int .i64 t407)) (fun _ hk => hk.1.2) (.slice Ao8 t408.length co8)) (fun _ hk => hk.2) (.int .i64 t411)) (fun _ hk => hk.2) (.slice Ao10 t412.length co10)) (fun _ hk => hk.1.1), by (with_reducible repeat (first | apply Kd.R_alloc | apply Kd.R_drewN | apply Kd.R_drew)); exact Kd.R_mono (Kd.R_far (p := ⟨gb406, 1, none⟩) (Kd.R_far (p := ⟨gb406, 0, none⟩) (Kd.R_far (p := ⟨gb405, 1, none⟩) (Kd.R_far (p := ⟨gb405, 0, none⟩) (Kd.R_types (Kd.R_types HO414.out BK405.out (by decide)) BK406.out (by decide)) (fun _ hk => hk.1.2) (.int .i64 t407)) (fun _ hk => hk.1.2) (.slice Ao8 t408.length co8)) (fun _ hk => hk.2) (.int .i64 t411)) (fun _ hk => hk.2) (.slice Ao10 t412.length co10)) (fun _ hk => hk.1.1), bel_g HB.out⟩
def impl_Order_better.f (a0_0 : Int) (l0_1 : List Int) (a1 : Int) (a2 : Int) : Option (Bool) := if 0 ≤ a1 then (if a1 < (l0_1.length : Int) then (if 0 ≤ a2 then (some ((Go.bits .and .i64 (shr .i64 (rd l0_1 a1) a2) 1) == 1)) else (none)) else (none)) else (none)
theorem impl_Order_better.calls (a0_0 : Int) (A0_1 : Option Addr) (c0_1 : Nat) (l0_1 : List Int) (a1 : Int) (a2 : Int) (r : Bool) (w : World) (hr0_1 : Kd.C (Kd.int .i64) w A0_1 l0_1.length l0_1) (hc0_1 : l0_1.length ≤ c0_1) (h : impl_Order_better.f a0_0 l0_1 a1 a2 = some r) :
  Calls Tryd.prog 21 #[.agg #[.int .i64 a0_0, .slice A0_1 l0_1.length c0_1], .int .i64 a1, .int .i64 a2] w fun e w' => e = .returned (.bool r) ∧ Below w.heap.size w w' := by
 have hu26 := Tryd.underlying26
 have HR0_1 := mkA hr0_1
 have HC0_1 := mkA hc0_1
 clear hr0_1 hc0_1
 have HB := mkA (Below.refl w.heap.size w)
 have H := h
 clear h
 unfold impl_Order_better.f at H
 obtain ⟨c4, H⟩ := itNP H
 have c4b0 : decide (0 ≤ a1) = true := decide_eq_true c4
 clear c4
 obtain ⟨c5, H⟩ := itNP H
 have c5b0 : decide (a1 < (l0_1.length : Int)) = true := decide_eq_true c5
 clear c5
 obtain ⟨c6, H⟩ := itNP H
 have c6b0 := eq_true c6
 have c6b1 : decide (0 ≤ a2) = true := decide_eq_true c6
 clear c6
 obtain ⟨ji7, hji7⟩ : ∃ j_ : Int, (shr .i64 (rd l0_1 a1) a2) = j_ := ⟨_, rfl⟩
 replace H : (some ((Go.bits .and .i64 (ji7) 1) == 1)) = some r := by first | (rw [hji7] at H; exact H) | (simp only [hji7] at H ⊢; exact H)
 have hji7_ : ((rd l0_1 a1) / 2 ^ min a2.toNat 64) = ji7 := hji7
 have hji7z : a2 ≤ 64 → ((rd l0_1 a1) / 2 ^ a2.toNat) = ji7 := shr_small hji7
 obtain rfl := Option.some.inj H
 go_enter Tryd.func21, Tryd.ntmps21
 go_wp2_with (first | ((with_reducible refine gate_dst (N := 3) rfl ?_); refine boxE (N := 3) (cs := #[.int .i64 a0_0, .slice A0_1 l0_1.length c0_1]) (t := 26) ?_; intro gb415 hg w8 hbox hb; have BK415 := mkA (hbox); have GE415 := geB HB hg; replace HB := bst HB hb; clear hb hbox hg; obtain ⟨_, _, _, _⟩ := blk2 BK415; have p416 : 0 ≤ (a1 : Int) := ofd; have q416 : a1 < (l0_1.length : Int) := ofd; obtain ⟨ad416, e416, hx416_0⟩ := Kd.at_int HR0_1.out a1 p416 q416; cases e416; replace hx416_0 := (HB.out.cell (World.block_lt_of_cell? w _ hx416_0)).trans hx416_0; replace p416 := eq_true p416; replace q416 := eq_true q416))
 go_ret
 exact ⟨by first | rfl | (simp [errW_none, errW_some] <;> rfl) | (simp only [← hji7]; first | rfl | (simp [errW_none, errW_some] <;> rfl)) | (simp [*, errW_none, errW_some] <;> rfl), bel_g HB.out⟩
def impl_within.f (a0 : Int) (a1 : Int) (a2 : Int) : Option (Bool) := if a0 ≥ a1 then (some (decide (a0 ≤ a2))) else (some false)
theorem impl_within.calls (a0 : Int) (a1 : Int) (a2 : Int) (r : Bool) (w : World) (h : impl_within.f a0 a1 a2 = some r) :
  Calls Tryd.prog 37 #[.int .i64 a0, .int .i64 a1, .int .i64 a2] w fun e w' => e = .returned (.bool r) ∧ Drawn0 w w' := by
 have H := h
 clear h
 unfold impl_within.f at H
 rcases iteP H with ⟨c4, H⟩ | ⟨c4, H⟩
 ·have c4b0 : decide (a1 ≤ a0) = true := decide_eq_true c4
  clear c4
  obtain rfl := Option.some.inj H
  go_enter Tryd.func37, Tryd.ntmps37
  go_wp2
  go_ret
  exact ⟨by first | rfl | (simp; done) | (simp [*]; done), by repeat (first | exact Drawn0.refl _ | apply Drawn0.step)⟩
 ·have c4b0 : decide (a1 ≤ a0) = false := decide_eq_false c4
  clear c4
  obtain rfl := Option.some.inj H
  go_enter Tryd.func37, Tryd.ntmps37
  go_wp2
  go_ret
  exact ⟨by first | rfl | (simp; done) | (simp [*]; done), by repeat (first | exact Drawn0.refl _ | apply Drawn0.step)⟩
def impl_allWithin.l0 : Nat → Int → Int → List Int → Int → Int → Option (Bool)
 | 0, _, _, _, _, _ => none
 | k + 1, x1, x2, x9, x10, x11 => if x11 < x10 then (if 0 ≤ x11 then (if x11 < (x9.length : Int) then ((impl_within.f (rd x9 x11) x1 x2).bind fun t418 => (if t418 = true then (impl_allWithin.l0 k x1 x2 x9 x10 (wrap64 (x11 + 1))) else (some false))) else (none)) else (none)) else (some true)
def impl_allWithin.f (k : Nat) (l0 : List Int) (a1 : Int) (a2 : Int) : Option (Bool) := impl_allWithin.l0 k a1 a2 l0 (l0.length : Int) 0
theorem impl_allWithin.mono_l : ∀ k, (∀ y0 y1 y2 y3 y4, LeO (impl_allWithin.l0 k y0 y1 y2 y3 y4) (impl_allWithin.l0 (k + 1) y0 y1 y2 y3 y4))
 | 0 => fun _ _ _ _ _ r h => by simp [impl_allWithin.l0] at h
 | k + 1 => by
  have ih0 := impl_allWithin.mono_l k
  ·intro y0 y1 y2 y3 y4
   unfold impl_allWithin.l0
   repeat' (with_reducible first|exact ih0 _ _ _ _ _|exact LeO.refl _|exact LeO.none _|refine LeO.ite ?_ ?_|refine LeO.bind ?_ (fun _ => ?_))
theorem impl_allWithin.mono : ∀ a0 a1 a2 k, LeO (impl_allWithin.f k a0 a1 a2) (impl_allWithin.f (k + 1) a0 a1 a2) := by
 intro a0 a1 a2 k
 have ih0 := impl_allWithin.mono_l k
 unfold impl_allWithin.f
 repeat' (with_reducible first|exact ih0 _ _ _ _ _|exact LeO.refl _|exact LeO.none _|refine LeO.ite ?_ ?_|refine LeO.bind ?_ (fun _ => ?_))
theorem impl_allWithin.calls (k : Nat) (A0 : Option Addr) (c0 : Nat) (l0 : List Int) (a1 : Int) (a2 : Int) (r : Bool) (w : World) (hr0 : Kd.C (Kd.int .i64) w A0 l0.length l0) (hc0 : l0.length ≤ c0) (h : impl_allWithin.f k l0 a1 a2 = some r) :
  Calls Tryd.prog 38 #[.slice A0 l0.length c0, .int .i64 a1, .int .i64 a2] w fun e w' => e = .returned (.bool r) ∧ Drawn0 w w' := by
 have HR0 := mkA hr0
 have HC0 := mkA hc0
 clear hr0 hc0
 have H := h
 clear h
 unfold impl_allWithin.f at H
 have H' := mkA H
 clear H
 go_enter Tryd.func38, Tryd.ntmps38
 go_wp2
 go_loopg [11] k (fun kq v11 w' => ∃ (x11_1 : Int), v11 = .int .i64 x11_1 ∧ Fc (impl_allWithin.l0 kq a1 a2 l0 (l0.length : Int) x11_1 = some r) ∧ Fc (kq ≤ k) ∧ Drawn0 w w')
 case atStart => exact ⟨(0), eqS, H', ⟨Nat.le_refl _⟩, by repeat (first | exact Drawn0.refl _ | apply Drawn0.step)⟩
 case round =>
  clear H'
  obtain ⟨x11_1, rfl, HA, HK1, ⟨m1, rfl⟩⟩ := hrel
  cases gk with
  | zero => exact absurd HA.out (by simp [impl_allWithin.l0])
  | succ k1 =>
   have H := HA.out
   clear HA
   simp only [impl_allWithin.l0] at H
   rcases iteE H with ⟨c4b0, H⟩ | ⟨c4b0, H⟩
   ·obtain ⟨c5, H⟩ := itNP H
    have c5b0 : decide (0 ≤ x11_1) = true := decide_eq_true c5
    clear c5
    obtain ⟨c6, H⟩ := itNP H
    have c6b0 : decide (x11_1 < (l0.length : Int)) = true := decide_eq_true c6
    clear c6
    obtain ⟨t418, A7, H⟩ := obE H
    by_cases c8 : t418 = true
    ·subst c8
     replace H := ifT H
     have H' := mkA H
     clear H
     have p417 : 0 ≤ (x11_1 : Int) := ofd
     have q417 : x11_1 < (l0.length : Int) := ofd
     obtain ⟨ad417, e417, hx417_0⟩ := Kd.at_int HR0.out x11_1 p417 q417
     cases e417
     replace p417 := eq_true p417
     replace q417 := eq_true q417
     go_wp2_with (first | ((with_reducible refine gate_callee (f := 37) rfl ?_); refine goesQ (some 18) Tryd.func37 #[.int .i64 (rd l0 x11_1), .int .i64 a1, .int .i64 a2] ?_; (with_reducible refine (impl_within.calls (rd l0 x11_1) a1 a2 true _ A7.out).mono ?_); rintro e w' ⟨rfl, ⟨nd, rfl⟩⟩; refine ⟨_, rfl, ?_⟩))
     go_roundg k1
     case measure => have := HK1.out; omega
     case rel => exact ⟨(wrap64 (x11_1 + 1)), eqS, H', ⟨by have := HK1.out; omega⟩, by repeat (first | exact Drawn0.refl _ | apply Drawn0.step)⟩
    ·replace c8 := Bool.eq_false_iff.mpr c8
     subst c8
     replace H := ifF H
     obtain rfl := Option.some.inj H
     have p417 : 0 ≤ (x11_1 : Int) := ofd
     have q417 : x11_1 < (l0.length : Int) := ofd
     obtain ⟨ad417, e417, hx417_0⟩ := Kd.at_int HR0.out x11_1 p417 q417
     cases e417
     replace p417 := eq_true p417
     replace q417 := eq_true q417
     go_wp2_with (first | ((with_reducible refine gate_callee (f := 37) rfl ?_); refine goesQ (some 18) Tryd.func37 #[.int .i64 (rd l0 x11_1), .int .i64 a1, .int .i64 a2] ?_; (with_reducible refine (impl_within.calls (rd l0 x11_1) a1 a2 false _ A7.out).mono ?_); rintro e w' ⟨rfl, ⟨nd, rfl⟩⟩; refine ⟨_, rfl, ?_⟩))
     go_ret
     exact ⟨by first | rfl | (simp; done) | (simp [*]; done), by repeat (first | exact Drawn0.refl _ | apply Drawn0.step)⟩
   ·obtain rfl := Option.some.inj H
    go_wp2
    go_ret
    exact ⟨by first | rfl | (simp; done) | (simp [*]; done), by repeat (first | exact Drawn0.refl _ | apply Drawn0.step)⟩
end Go.Proofs.YtgbdjchdfcodcaaDoor.Q
