import Derived.Test.YtcalgdljcphjaaaDoorBFnStairs3
namespace Go.Proofs.YtcalgdljcphjaaaDoor.Q
open Go.RowKit Go.Proofs.YtcalgdljcphjaaaDoorW.PrintWords Go.Proofs.YtcalgdljcphjaaaDoorW.PrintLast Go.Proofs.YtcalgdljcphjaaaDoorW.PrintMore
attribute [local go_sem] max2_int min2_int max_two min_two max_three min_three max_four min_four neB_f
set_option linter.unusedVariables false
set_option maxHeartbeats 8000000
set_option maxRecDepth 100000
set_option linter.unusedSimpArgs false
def impl_ofStair.f (k : Nat) (l0 : List Int) : Option (Int × List Int) := (impl_relation.f k (l0.length : Int) (fun u0_ u1_ => impl_ofStair_1.f u0_ u1_ l0)).bind fun bt167 => (some (bt167.1, bt167.2))
theorem impl_ofStair.mono : ∀ a0 k, LeO (impl_ofStair.f k a0) (impl_ofStair.f (k + 1) a0) := by
 intro a0 k
 unfold impl_ofStair.f
 repeat' first
   | (with_reducible exact impl_relation.mono _ _ _)
   | (refine impl_relation.monoF ?_ _ _; intros)
   | (with_reducible exact impl_relation.mono _ _ _)
   | (with_reducible exact LeO.refl _)
   | (with_reducible exact LeO.none _)
   | (with_reducible refine LeO.ite ?_ ?_)
   | (with_reducible refine LeO.bind ?_ (fun _ => ?_))
   | exact impl_relation.mono _ _ _
   | exact LeO.none _
   | refine LeO.ite ?_ ?_
   | refine LeO.bind ?_ (fun _ => ?_)
theorem impl_ofStair.calls (k : Nat) (A0 : Option Addr) (c0 : Nat) (l0 : List Int) (r1 : Int) (r2 : List Int) (w : World) (hr0 : Kd.C (Kd.int .i64) w A0 l0.length l0) (hc0 : l0.length ≤ c0) (h : impl_ofStair.f k l0 = some (r1, r2)) :
  Calls Tryd.prog 24 #[.slice A0 l0.length c0] w fun e w' => ∃ v1_ : Value, e = .returned (.agg #[.int .i64 r1, v1_]) ∧ Kd.R (Kd.int .i64) 3 w' w.heap.size (fun _ => True) v1_ r2 ∧ Below w.heap.size w w' := by
 have hu27 := Tryd.underlying27
 have HR0 := mkA hr0
 have HC0 := mkA hc0
 clear hr0 hc0
 have HB := mkA (Below.refl w.heap.size w)
 have H := h
 clear h
 unfold impl_ofStair.f at H
 obtain ⟨⟨t167, t168⟩, A2, H⟩ := obE H
 dsimp only at H
 simp only [Option.some.injEq, Prod.mk.injEq] at H
 obtain ⟨rfl, rfl⟩ := H
 go_enter Tryd.func24, Tryd.ntmps24
 go_wp2_with (first | ((with_reducible refine gate_dst (N := 1) rfl ?_); refine boxG HB #[.slice A0 l0.length c0] 24 ?_; intro gb165 hg w3 BK165 GE165 hb; replace HB := bst HB hb; clear hb hg) | ((with_reducible refine gate_dst (N := 2) rfl ?_); refine boxG HB #[.int .i64 0, .slice none 0 0] 27 ?_; intro gb166 hg w4 BK166 GE166 hb; have NB165_166 := neL7 BK165 hg; have NB166_165 := neR7 BK165 hg; replace BK165 := blkB BK165 hb; replace HB := bst HB hb; clear hb hg; obtain ⟨_, _⟩ := blk1 BK165) | ((with_reducible refine gate_callee (f := 41) rfl ?_); refine goesQ (some 6) Tryd.func41 #[.int .i64 (l0.length : Int), .func (.func 42) #[] #[.pointer (some ⟨gb165, 0, none⟩)]] ?_; (with_reducible refine (impl_relation.calls k (l0.length : Int) (fun u0_ u1_ => impl_ofStair_1.f u0_ u1_ l0) 42 #[.pointer (some ⟨gb165, 0, none⟩)] (fun args_ W_ => enters_ Tryd.func42 (by kernel_rfl) rfl args_ W_) t167 t168 _ ?s1 A2.out).mono ?_); (case s1 => exact fun u0_ u1_ q_ W_ hb_ hq_ => (impl_ofStair_1.calls u0_ u1_ gb165 A0 c0 l0 q_ W_ (blk_below (show _ = some (Obj.cells #[.slice A0 l0.length c0] 24 (0, 0)) from blkT BK165) hb_) (Kd.C_below (show Kd.C (Kd.int .i64) _ A0 l0.length l0 from by exact C_g HR0 HB) hb_) (by exact HC0.out) hq_).mono (fun _ _ h_ => ⟨h_.1, h_.2.below⟩)); rintro e w7 ⟨v169, rfl, ho0, hb⟩; refine ⟨_, rfl, ?_⟩; have HO170 := rLo ho0 HB; replace BK165 := blkB BK165 hb; replace BK166 := blkB BK166 hb; replace HB := bst HB hb; clear hb ho0; obtain ⟨_, _, _, _⟩ := blk2 BK166; obtain ⟨Ao9, co9, rfl⟩ := Kd.R_slice HO170.out))
 refine bodyPost_ret (results_cell_row rfl _ _ gb166 27 #[.int .i64 t167, .slice Ao9 t168.length co9] (0, 0) _ rfl (blkT BK166) Tryd.underlying27 rfl (by kernel_rfl)) rfl ?_
 exact ⟨_, eqE, Kd.R_g (Kd.R_mono (rF HO170 BK166) (fun _ _ => trivial)), bel_g HB.out⟩
def impl_OrderOfStair.f (k : Nat) (l0 : List Int) : Option (Int × List Int × Bool) := (impl_IsStair.f k l0).bind fun t172 => (if t172 = true then ((impl_ofStair.f k l0).bind fun bt173 => (some (bt173.1, bt173.2, true))) else (some (0, ([] : List Int), false)))
theorem impl_OrderOfStair.mono : ∀ a0 k, LeO (impl_OrderOfStair.f k a0) (impl_OrderOfStair.f (k + 1) a0) := by
 intro a0 k
 unfold impl_OrderOfStair.f
 repeat' (with_reducible first|apply impl_IsStair.mono|apply impl_ofStair.mono|apply LeO.refl|apply LeO.none|apply LeO.ite|apply LeO.bind|intro)
theorem impl_OrderOfStair.calls (k : Nat) (A0 : Option Addr) (c0 : Nat) (l0 : List Int) (r1 : Int) (r2 : List Int) (r3 : Bool) (w : World) (hr0 : Kd.C (Kd.int .i64) w A0 l0.length l0) (hc0 : l0.length ≤ c0) (h : impl_OrderOfStair.f k l0 = some (r1, r2, r3)) :
  Calls Tryd.prog 6 #[.slice A0 l0.length c0] w fun e w' => ∃ v1_ : Value, e = .returned (.tuple #[.agg #[.int .i64 r1, v1_], .bool r3]) ∧ Kd.R (Kd.int .i64) 3 w' w.heap.size (fun _ => True) v1_ r2 ∧ Below w.heap.size w w' := by
 have hu27 := Tryd.underlying27
 have HR0 := mkA hr0
 have HC0 := mkA hc0
 clear hr0 hc0
 have HB := mkA (Below.refl w.heap.size w)
 have H := h
 clear h
 unfold impl_OrderOfStair.f at H
 obtain ⟨t172, A2, H⟩ := obE H
 by_cases c3 : t172 = true
 ·subst c3
  replace H := ifT H
  obtain ⟨⟨t173, t174⟩, A4, H⟩ := obE H
  dsimp only at H
  simp only [Option.some.injEq, Prod.mk.injEq] at H
  obtain ⟨rfl, rfl, rfl⟩ := H
  go_enter Tryd.func6, Tryd.ntmps6
  go_wp2_with (first | ((with_reducible refine gate_dst (N := 2) rfl ?_); refine boxG HB #[.int .i64 0, .slice none 0 0] 27 ?_; intro gb171 hg w5 BK171 GE171 hb; replace HB := bst HB hb; clear hb hg) | ((with_reducible refine gate_callee (f := 9) rfl ?_); refine goesQ (some 5) Tryd.func9 #[.slice A0 l0.length c0] ?_; (with_reducible refine (impl_IsStair.calls k _ _ l0 true _ ?_ ?_ A2.out).mono ?_); exact C_g HR0 HB; exact HC0.out; rintro e w' ⟨rfl, ⟨nd, rfl⟩⟩; refine ⟨_, rfl, ?_⟩; (try (rw [drewN_self w5]; generalize hq_ : World.drewN w5 _ = w5; have n0_ : Fc (w5.heap[gb171]? = some (.cells #[.int .i64 0, .slice none 0 0] 27 (0, 0))) := ⟨by rw [← hq_]; exact (blk_g BK171.out)⟩; have n1_ : Fc (Below w.heap.size w w5) := ⟨by rw [← hq_]; exact (bel_g HB.out)⟩; clear BK171 HB hq_; have BK171 := n0_; have HB := n1_; clear n0_ n1_))) | ((with_reducible refine gate_callee (f := 24) rfl ?_); refine goesQ (some 9) Tryd.func24 #[.slice A0 l0.length c0] ?_; (with_reducible refine (impl_ofStair.calls k _ _ l0 t173 t174 _ ?_ ?_ A4.out).mono ?_); exact C_g HR0 HB; exact HC0.out; rintro e w6 ⟨v175, rfl, ho0, hb⟩; refine ⟨_, rfl, ?_⟩; have HO176 := rLo ho0 HB; replace BK171 := blkB BK171 hb; replace HB := bst HB hb; clear hb ho0; obtain ⟨_, _, _, _⟩ := blk2 BK171; obtain ⟨Ao8, co8, rfl⟩ := Kd.R_slice HO176.out))
  refine bodyPost_ret (results_ct rfl _ _ gb171 27 #[.int .i64 t173, .slice Ao8 t174.length co8] (0, 0) _ rfl (blkT BK171) Tryd.underlying27 rfl (by kernel_rfl)) rfl ?_
  exact ⟨_, eqE, Kd.R_g (Kd.R_mono (rF HO176 BK171) (fun _ _ => trivial)), bel_g HB.out⟩
 ·replace c3 := Bool.eq_false_iff.mpr c3
  subst c3
  replace H := ifF H
  simp only [Option.some.injEq, Prod.mk.injEq] at H
  obtain ⟨rfl, rfl, rfl⟩ := H
  go_enter Tryd.func6, Tryd.ntmps6
  go_wp2_with (first | ((with_reducible refine gate_dst (N := 2) rfl ?_); refine boxG HB #[.int .i64 0, .slice none 0 0] 27 ?_; intro gb171 hg w9 BK171 GE171 hb; replace HB := bst HB hb; clear hb hg) | ((with_reducible refine gate_callee (f := 9) rfl ?_); refine goesQ (some 5) Tryd.func9 #[.slice A0 l0.length c0] ?_; (with_reducible refine (impl_IsStair.calls k _ _ l0 false _ ?_ ?_ A2.out).mono ?_); exact C_g HR0 HB; exact HC0.out; rintro e w' ⟨rfl, ⟨nd, rfl⟩⟩; refine ⟨_, rfl, ?_⟩; (try (rw [drewN_self w9]; generalize hq_ : World.drewN w9 _ = w9; have n0_ : Fc (w9.heap[gb171]? = some (.cells #[.int .i64 0, .slice none 0 0] 27 (0, 0))) := ⟨by rw [← hq_]; exact (blk_g BK171.out)⟩; have n1_ : Fc (Below w.heap.size w w9) := ⟨by rw [← hq_]; exact (bel_g HB.out)⟩; clear BK171 HB hq_; have BK171 := n0_; have HB := n1_; clear n0_ n1_)); obtain ⟨_, _, _, _⟩ := blk2 BK171))
  refine bodyPost_ret (results_ct rfl _ _ gb171 27 #[.int .i64 0, .slice none 0 0] (0, 0) _ rfl (blkT BK171) Tryd.underlying27 rfl (by kernel_rfl)) rfl ?_
  exact ⟨_, eqE, nilE, bel_g HB.out⟩
def spec_l1In.f (a0 : Int) (a1 : Int) (a2 : Int) : Option (Bool) := if a0 ≥ a1 then (some (decide (a0 ≤ a2))) else (some false)
theorem spec_l1In.calls (a0 : Int) (a1 : Int) (a2 : Int) (r : Bool) (w : World) (h : spec_l1In.f a0 a1 a2 = some r) :
  Calls Tryd.prog 37 #[.int .i64 a0, .int .i64 a1, .int .i64 a2] w fun e w' => e = .returned (.bool r) ∧ Drawn0 w w' := by
 have H := h
 clear h
 unfold spec_l1In.f at H
 rcases iteP H with ⟨c4, H⟩ | ⟨c4, H⟩
 ·have c4b0 := decide_eq_true c4
  clear c4
  obtain rfl := Option.some.inj H
  go_enter Tryd.func37, Tryd.ntmps37
  go_wp2
  go_ret
  exact ⟨eqS, drE⟩
 ·have c4b0 := decide_eq_false c4
  clear c4
  obtain rfl := Option.some.inj H
  go_enter Tryd.func37, Tryd.ntmps37
  go_wp2
  go_ret
  exact ⟨eqS, drE⟩
def spec_IsStair.l0 : Nat → List Int → List Int → Int → Int → Option (Bool)
 | 0, _, _, _, _ => none
 | k + 1, x0, x5, x6, x7 => if x7 < x6 then (if 0 ≤ x7 then (if x7 < (x5.length : Int) then ((spec_l1In.f (rd x5 x7) 0 x7).bind fun t178 => (if t178 = true then (if x7 > 0 then (if 0 ≤ (wrap64 (x7 - 1)) then (if (wrap64 (x7 - 1)) < (x0.length : Int) then (if (rd x5 x7) < (rd x0 (wrap64 (x7 - 1))) then (some false) else (spec_IsStair.l0 k x0 x5 x6 (wrap64 (x7 + 1)))) else (none)) else (none)) else (spec_IsStair.l0 k x0 x5 x6 (wrap64 (x7 + 1)))) else (some false))) else (none)) else (none)) else (some (decide ((x0.length : Int) ≤ 10)))
def spec_IsStair.f (k : Nat) (l0 : List Int) : Option (Bool) := spec_IsStair.l0 k l0 l0 (l0.length : Int) 0
theorem spec_IsStair.mono_l : ∀ k, (∀ y0 y1 y2 y3, LeO (spec_IsStair.l0 k y0 y1 y2 y3) (spec_IsStair.l0 (k + 1) y0 y1 y2 y3))
 | 0 => fun _ _ _ _ r h => by simp [spec_IsStair.l0] at h
 | k + 1 => by
  have ih0 := spec_IsStair.mono_l k
  ·intro y0 y1 y2 y3
   unfold spec_IsStair.l0
   repeat' (with_reducible first|apply ih0|apply LeO.refl|apply LeO.none|apply LeO.ite|apply LeO.bind|intro)
theorem spec_IsStair.mono : ∀ a0 k, LeO (spec_IsStair.f k a0) (spec_IsStair.f (k + 1) a0) := by
 intro a0 k
 have ih0 := spec_IsStair.mono_l k
 unfold spec_IsStair.f
 repeat' (with_reducible first|apply ih0|apply LeO.refl|apply LeO.none|apply LeO.ite|apply LeO.bind|intro)
theorem spec_IsStair.calls (k : Nat) (A0 : Option Addr) (c0 : Nat) (l0 : List Int) (r : Bool) (w : World) (hr0 : Kd.C (Kd.int .i64) w A0 l0.length l0) (hc0 : l0.length ≤ c0) (h : spec_IsStair.f k l0 = some r) :
  Calls Tryd.prog 25 #[.slice A0 l0.length c0] w fun e w' => e = .returned (.bool r) ∧ Drawn0 w w' := by
 have HR0 := mkA hr0
 have HC0 := mkA hc0
 clear hr0 hc0
 have H := h
 clear h
 unfold spec_IsStair.f at H
 have H' := mkA H
 clear H
 go_enter Tryd.func25, Tryd.ntmps25
 go_wp2
 go_loopg [7] k (fun kq v7 w' => ∃ (x7_1 : Int), v7 = .int .i64 x7_1 ∧ Fc (spec_IsStair.l0 kq l0 l0 (l0.length : Int) x7_1 = some r) ∧ Fc (kq ≤ k) ∧ Drawn0 w w')
 case atStart => exact ⟨(0), eqS, H', ⟨Nat.le_refl _⟩, by repeat (first | exact Drawn0.refl _ | apply Drawn0.step)⟩
 case round =>
  clear H'
  obtain ⟨x7_1, rfl, HA, HK1, ⟨m1, rfl⟩⟩ := hrel
  cases gk with
  | zero => exact absurd HA.out (by simp [spec_IsStair.l0])
  | succ k1 =>
   have H := HA.out
   clear HA
   simp only [spec_IsStair.l0] at H
   rcases iteE H with ⟨c2b0, H⟩ | ⟨c2b0, H⟩
   ·obtain ⟨c3b0, H⟩ := itND H
    obtain ⟨c4b0, H⟩ := itND H
    obtain ⟨t178, A5, H⟩ := obE H
    by_cases c6 : t178 = true
    ·subst c6
     replace H := ifT H
     rcases iteP H with ⟨c7, H⟩ | ⟨c7, H⟩
     ·have c7b0 := decide_eq_true c7
      clear c7
      obtain ⟨ji8, hji8⟩ : ∃ j_ : Int, (wrap64 (x7_1 - 1)) = j_ := ⟨_, rfl⟩
      first | rw [hji8] at H | simp only [hji8] at H
      (try rw [hji8] at A5)
      have hji8w : (IntKind.i64.wrap (x7_1 - 1)) = ji8 := (i64_w _).trans hji8
      obtain ⟨c9b0, H⟩ := itND H
      obtain ⟨c10b0, H⟩ := itND H
      rcases iteE H with ⟨c11b0, H⟩ | ⟨c11b0, H⟩
      ·obtain rfl := Option.some.inj H
       obtain ⟨p177, q177, ad177, e177, hx177_0⟩ := atI HR0.out x7_1
       cases e177
       go_wp2_with (first | ((with_reducible refine gate_callee (f := 37) rfl ?_); refine goesQ (some 14) Tryd.func37 #[.int .i64 (rd l0 x7_1), .int .i64 0, .int .i64 x7_1] ?_; (with_reducible refine (spec_l1In.calls (rd l0 x7_1) 0 x7_1 true _ A5.out).mono ?_); rintro e w' ⟨rfl, ⟨nd, rfl⟩⟩; refine ⟨_, rfl, ?_⟩; have p179 : 0 ≤ ((ji8) : Int) := ofd; have q179 : (ji8) < (l0.length : Int) := ofd; obtain ⟨ad179, e179, hx179_0⟩ := Kd.at_int HR0.out (ji8) p179 q179; obtain rfl : ad177 = ad179 := (by injection e179); replace p179 := eq_true p179; replace q179 := eq_true q179))
       go_ret
       exact ⟨by first | rfl | (simp; done) | (simp only [← hji8] <;> (first | rfl | simp)) | (simp [*]; done), by repeat (first | exact Drawn0.refl _ | apply Drawn0.step)⟩
      ·have H' := mkA H
       clear H
       obtain ⟨p177, q177, ad177, e177, hx177_0⟩ := atI HR0.out x7_1
       cases e177
       go_wp2_with (first | ((with_reducible refine gate_callee (f := 37) rfl ?_); refine goesQ (some 14) Tryd.func37 #[.int .i64 (rd l0 x7_1), .int .i64 0, .int .i64 x7_1] ?_; (with_reducible refine (spec_l1In.calls (rd l0 x7_1) 0 x7_1 true _ A5.out).mono ?_); rintro e w' ⟨rfl, ⟨nd, rfl⟩⟩; refine ⟨_, rfl, ?_⟩; have p179 : 0 ≤ ((ji8) : Int) := ofd; have q179 : (ji8) < (l0.length : Int) := ofd; obtain ⟨ad179, e179, hx179_0⟩ := Kd.at_int HR0.out (ji8) p179 q179; obtain rfl : ad177 = ad179 := (by injection e179); replace p179 := eq_true p179; replace q179 := eq_true q179))
       go_roundg k1
       case measure => have := HK1.out; omega
       case rel => exact ⟨(wrap64 (x7_1 + 1)), eqS, H', ⟨by have := HK1.out; omega⟩, by repeat (first | exact Drawn0.refl _ | apply Drawn0.step)⟩
     ·have c7b0 := decide_eq_false c7
      clear c7
      have H' := mkA H
      clear H
      obtain ⟨p177, q177, ad177, e177, hx177_0⟩ := atI HR0.out x7_1
      cases e177
      go_wp2_with (first | ((with_reducible refine gate_callee (f := 37) rfl ?_); refine goesQ (some 14) Tryd.func37 #[.int .i64 (rd l0 x7_1), .int .i64 0, .int .i64 x7_1] ?_; (with_reducible refine (spec_l1In.calls (rd l0 x7_1) 0 x7_1 true _ A5.out).mono ?_); rintro e w' ⟨rfl, ⟨nd, rfl⟩⟩; refine ⟨_, rfl, ?_⟩))
      go_roundg k1
      case measure => have := HK1.out; omega
      case rel => exact ⟨(wrap64 (x7_1 + 1)), eqS, H', ⟨by have := HK1.out; omega⟩, by repeat (first | exact Drawn0.refl _ | apply Drawn0.step)⟩
    ·replace c6 := Bool.eq_false_iff.mpr c6
     subst c6
     replace H := ifF H
     obtain rfl := Option.some.inj H
     obtain ⟨p177, q177, ad177, e177, hx177_0⟩ := atI HR0.out x7_1
     cases e177
     go_wp2_with (first | ((with_reducible refine gate_callee (f := 37) rfl ?_); refine goesQ (some 14) Tryd.func37 #[.int .i64 (rd l0 x7_1), .int .i64 0, .int .i64 x7_1] ?_; (with_reducible refine (spec_l1In.calls (rd l0 x7_1) 0 x7_1 false _ A5.out).mono ?_); rintro e w' ⟨rfl, ⟨nd, rfl⟩⟩; refine ⟨_, rfl, ?_⟩))
     go_ret
     exact ⟨eqS, drE⟩
   ·obtain rfl := Option.some.inj H
    go_wp2
    go_ret
    exact ⟨eqS, drE⟩
end Go.Proofs.YtcalgdljcphjaaaDoor.Q
