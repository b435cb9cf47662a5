import Derived.Test.YtmoemabbmjdhgaaDoorBFnThresholds15
namespace Go.Proofs.YtmoemabbmjdhgaaDoor.Q
open Go.RowKit Go.Proofs.YtmoemabbmjdhgaaDoorW.PrintWords Go.Proofs.YtmoemabbmjdhgaaDoorW.PrintLast Go.Proofs.YtmoemabbmjdhgaaDoorW.PrintMore
attribute [local go_sem] max2_int min2_int max_two min_two max_three min_three max_four min_four neB_f
set_option linter.unusedVariables false
set_option maxHeartbeats 8000000
set_option maxRecDepth 100000
set_option linter.unusedSimpArgs false
def impl_isThreshold.f (k : Nat) (a0_0 : Int) (l0_1 : List Int) (a1 : Int) : Option (Bool) := (impl_IsOrder.f k a0_0 l0_1).bind fun t533 => (if t533 = true then ((impl_within.f a1 1 10).bind fun t534 => (some t534)) else (some false))
theorem impl_isThreshold.mono : ∀ a0 a1 a2 k, LeO (impl_isThreshold.f k a0 a1 a2) (impl_isThreshold.f (k + 1) a0 a1 a2) := by
 intro a0 a1 a2 k
 unfold impl_isThreshold.f
 repeat' (with_reducible first|apply impl_IsOrder.mono|apply LeO.refl|apply LeO.none|apply LeO.ite|apply LeO.bind|intro)
theorem impl_isThreshold.calls (k : Nat) (a0_0 : Int) (A0_1 : Option Addr) (c0_1 : Nat) (l0_1 : List Int) (a1 : Int) (r : Bool) (w : World) (hr0_1 : Kd.C (Kd.int .i64) w A0_1 l0_1.length l0_1) (hc0_1 : l0_1.length ≤ c0_1) (hTAB : Tab w) (h : impl_isThreshold.f k a0_0 l0_1 a1 = some r) :
  Calls Tryd.prog 32 #[.agg #[.int .i64 a0_0, .slice A0_1 l0_1.length c0_1], .int .i64 a1] w fun e w' => e = .returned (.bool r) ∧ Below w.heap.size w w' := by
 have HTAB := mkA hTAB
 clear hTAB
 have hu26 := Tryd.underlying26
 have HR0_1 := mkA hr0_1
 have HC0_1 := mkA hc0_1
 clear hr0_1 hc0_1
 have HB := mkA (Below.refl w.heap.size w)
 have H := h
 clear h
 unfold impl_isThreshold.f at H
 obtain ⟨t533, A3, H⟩ := obE H
 by_cases c4 : t533 = true
 ·subst c4
  replace H := ifT H
  obtain ⟨t534, A5, H⟩ := obE H
  obtain rfl := Option.some.inj H
  go_enter Tryd.func32, Tryd.ntmps32
  go_wp2_with (first | ((with_reducible refine gate_dst (N := 2) rfl ?_); refine boxG HB #[.int .i64 a0_0, .slice A0_1 l0_1.length c0_1] 26 ?_; intro gb532 hg w6 BK532 GE532 hb; replace HB := bst HB hb; clear hb hg; obtain ⟨_, _, _, _⟩ := blk2 BK532) | ((with_reducible refine gate_callee (f := 10) rfl ?_); refine goesQ (some 6) Tryd.func10 #[.agg #[.int .i64 a0_0, .slice A0_1 l0_1.length c0_1]] ?_; (with_reducible refine (impl_IsOrder.calls k a0_0 _ _ l0_1 true _ ?_ ?_ ?_ A3.out).mono ?_); exact C_g HR0_1 HB; exact HC0_1.out; exact Tab.below HTAB.out (bel_g HB.out); rintro e w8 ⟨rfl, hb⟩; refine ⟨_, rfl, ?_⟩; replace BK532 := blkB BK532 hb; replace HB := bst HB hb; clear hb) | (go_at_call 41; (with_reducible refine (impl_within.calls a1 1 10 t534 _ A5.out).mono ?_); rintro e w' ⟨rfl, ⟨nd, rfl⟩⟩))
  go_ret
  exact ⟨eqE, bel_g HB.out⟩
 ·replace c4 := Bool.eq_false_iff.mpr c4
  subst c4
  replace H := ifF H
  obtain rfl := Option.some.inj H
  go_enter Tryd.func32, Tryd.ntmps32
  go_wp2_with (first | ((with_reducible refine gate_dst (N := 2) rfl ?_); refine boxG HB #[.int .i64 a0_0, .slice A0_1 l0_1.length c0_1] 26 ?_; intro gb532 hg w9 BK532 GE532 hb; replace HB := bst HB hb; clear hb hg; obtain ⟨_, _, _, _⟩ := blk2 BK532) | ((with_reducible refine gate_callee (f := 10) rfl ?_); refine goesQ (some 6) Tryd.func10 #[.agg #[.int .i64 a0_0, .slice A0_1 l0_1.length c0_1]] ?_; (with_reducible refine (impl_IsOrder.calls k a0_0 _ _ l0_1 false _ ?_ ?_ ?_ A3.out).mono ?_); exact C_g HR0_1 HB; exact HC0_1.out; exact Tab.below HTAB.out (bel_g HB.out); rintro e w11 ⟨rfl, hb⟩; refine ⟨_, rfl, ?_⟩; replace BK532 := blkB BK532 hb; replace HB := bst HB hb; clear hb))
  go_ret
  exact ⟨eqE, bel_g HB.out⟩
theorem impl_LeastPlaces.nilB_ {W : World} {e base : Nat} {ok : Nat → Prop} {t : List Int} {s : Int} {v : Value} (ho : Kd.R (Kd.int .i64) e W base ok v t) (h1 : s = 0 → ∃ g, v.ownBlock = some g) (h2 : t = [] → ¬ s = 0 → v = .slice none 0 0) :
  ((t == ([] : List Int) && !(s == 0)) = true → v = .slice none 0 0) ∧ ((t == ([] : List Int) && !(s == 0)) = false → ∃ g, v.ownBlock = some g) := by
 by_cases hs : s = 0
 ·exact ⟨fun h => by simp [hs] at h, fun _ => h1 hs⟩
 ·cases t with
  | nil => exact ⟨fun _ => h2 rfl hs, fun h => by simp [hs] at h⟩
  | cons x l =>
   refine ⟨fun h => by simp at h, fun _ => ?_⟩
   obtain ⟨g, c', h3, _⟩ := Kd.R_form ho (by simp)
   exact ⟨g, by rw [h3]; rfl⟩
theorem impl_LeastPlaces.nilEqlK_ {P : Program} (W : World) {t e : TypeId} {A : Option Addr} {n c : Nat} {b d : Bool} (hd : b = d) (hu : P.underlying t = some (.slice e)) (h : b = true → Value.slice A n c = .slice none 0 0) (h2 : b = false → ∃ g, (Value.slice A n c).ownBlock = some g) :
  (binOp .eql t (.slice A n c) (.slice none 0 0)).run P W = .ok (.bool d) W := by
 subst hd
 rw [Lib.run_eql_slice_nil W t e A n c 0 0 hu]
 cases b with
 | true => injection h rfl with h1 _ _; subst h1; rfl
 | false =>
  obtain ⟨g, h1⟩ := h2 rfl
  cases A with
  | none => simp [Value.ownBlock] at h1
  | some a => rfl
theorem impl_LeastPlaces.nilNeqK_ {P : Program} (W : World) {t e : TypeId} {A : Option Addr} {n c : Nat} {b d : Bool} (hd : (!b) = d) (hu : P.underlying t = some (.slice e)) (h : b = true → Value.slice A n c = .slice none 0 0) (h2 : b = false → ∃ g, (Value.slice A n c).ownBlock = some g) :
  (binOp .neq t (.slice A n c) (.slice none 0 0)).run P W = .ok (.bool d) W := by
 subst hd
 rw [run_neq_slice_nil_any W t e A n c 0 0 hu]
 cases b with
 | true => injection h rfl with h1 _ _; subst h1; rfl
 | false =>
  obtain ⟨g, h1⟩ := h2 rfl
  cases A with
  | none => simp [Value.ownBlock] at h1
  | some a => rfl
def impl_LeastPlaces.f (k : Nat) (a0_0 : Int) (l0_1 : List Int) (a1 : Int) : Option (List Int × Bool) := (impl_isThreshold.f k a0_0 l0_1 a1).bind fun t536 => (if t536 = true then ((impl_Order_lift.f k a0_0 l0_1 a1).bind fun bt537 => (some (bt537.1, (!(bt537.1 == ([] : List Int) && !(a0_0 == 0)))))) else (some (([] : List Int), false)))
theorem impl_LeastPlaces.mono : ∀ a0 a1 a2 k, LeO (impl_LeastPlaces.f k a0 a1 a2) (impl_LeastPlaces.f (k + 1) a0 a1 a2) := by
 intro a0 a1 a2 k
 unfold impl_LeastPlaces.f
 repeat' (with_reducible first|apply impl_Order_lift.mono|apply impl_isThreshold.mono|apply LeO.refl|apply LeO.none|apply LeO.ite|apply LeO.bind|intro)
theorem impl_LeastPlaces.calls (k : Nat) (a0_0 : Int) (A0_1 : Option Addr) (c0_1 : Nat) (l0_1 : List Int) (a1 : Int) (r1 : List Int) (r2 : Bool) (w : World) (hr0_1 : Kd.C (Kd.int .i64) w A0_1 l0_1.length l0_1) (hc0_1 : l0_1.length ≤ c0_1) (hTAB : Tab w) (h : impl_LeastPlaces.f k a0_0 l0_1 a1 = some (r1, r2)) :
  Calls Tryd.prog 16 #[.agg #[.int .i64 a0_0, .slice A0_1 l0_1.length c0_1], .int .i64 a1] w fun e w' => ∃ v0_ : Value, e = .returned (.tuple #[v0_, .bool r2]) ∧ Kd.R (Kd.int .i64) 3 w' w.heap.size (fun _ => True) v0_ r1 ∧ Below w.heap.size w w' := by
 have HTAB := mkA hTAB
 clear hTAB
 have hu26 := Tryd.underlying26
 have HR0_1 := mkA hr0_1
 have HC0_1 := mkA hc0_1
 clear hr0_1 hc0_1
 have HB := mkA (Below.refl w.heap.size w)
 have H := h
 clear h
 unfold impl_LeastPlaces.f at H
 obtain ⟨t536, A3, H⟩ := obE H
 by_cases c4 : t536 = true
 ·subst c4
  replace H := ifT H
  obtain ⟨⟨t537, t540, t543⟩, A5, H⟩ := obE H
  dsimp only at H
  simp only [Option.some.injEq, Prod.mk.injEq] at H
  obtain ⟨rfl, rfl⟩ := H
  go_enter Tryd.func16, Tryd.ntmps16
  go_wp2_with (first | ((with_reducible refine gate_dst (N := 2) rfl ?_); refine boxG HB #[.int .i64 a0_0, .slice A0_1 l0_1.length c0_1] 26 ?_; intro gb535 hg w6 BK535 GE535 hb; replace HB := bst HB hb; clear hb hg; obtain ⟨_, _, _, _⟩ := blk2 BK535) | ((with_reducible refine gate_callee (f := 32) rfl ?_); refine goesQ (some 11) Tryd.func32 #[.agg #[.int .i64 a0_0, .slice A0_1 l0_1.length c0_1], .int .i64 a1] ?_; (with_reducible refine (impl_isThreshold.calls k a0_0 _ _ l0_1 a1 true _ ?_ ?_ ?_ A3.out).mono ?_); exact C_g HR0_1 HB; exact HC0_1.out; exact Tab.below HTAB.out (bel_g HB.out); rintro e w8 ⟨rfl, hb⟩; refine ⟨_, rfl, ?_⟩; replace BK535 := blkB BK535 hb; replace HB := bst HB hb; clear hb; obtain ⟨_, _, _, _⟩ := blk2 BK535) | ((with_reducible refine gate_callee (f := 19) rfl ?_); refine goesQ (some 16) Tryd.func19 #[.agg #[.int .i64 a0_0, .slice A0_1 l0_1.length c0_1], .int .i64 a1] ?_; (with_reducible refine (impl_Order_lift.calls k a0_0 _ _ l0_1 a1 t537 t540 t543 _ ?_ ?_ A5.out).mono ?_); exact C_g HR0_1 HB; exact HC0_1.out; rintro e w10 ⟨v538, v541, rfl, ho0, ho1, hb, hnx⟩; refine ⟨_, rfl, ?_⟩; have HO539 := rLo ho0 HB; have HO542 := rLo ho1 HB; replace BK535 := blkB BK535 hb; replace HB := bst HB hb; clear hb ho0 ho1; have NL_HO539 := mkA (impl_LeastPlaces.nilB_ HO539.out hnx.1 hnx.2); clear hnx; obtain ⟨Ao11, co11, rfl⟩ := Kd.R_slice HO539.out; (first | (have nq12 := fun (W_ : World) => impl_LeastPlaces.nilNeqK_ (P := Tryd.prog) W_ (t := 24) (e := 3) (c := co11) (d := true) (by assumption) Tryd.underlying24 NL_HO539.out.1 NL_HO539.out.2) | (have nq12 := fun (W_ : World) => impl_LeastPlaces.nilNeqK_ (P := Tryd.prog) W_ (t := 24) (e := 3) (c := co11) (d := false) (by assumption) Tryd.underlying24 NL_HO539.out.1 NL_HO539.out.2) | (have nq12 := fun (W_ : World) => impl_LeastPlaces.nilNeqK_ (P := Tryd.prog) W_ (t := 24) (e := 3) (c := co11) (d := _) (by rfl) Tryd.underlying24 NL_HO539.out.1 NL_HO539.out.2))))
  go_ret2
  exact ⟨_, eqE, Kd.R_g (Kd.R_mono HO539.out (fun _ hk => trivial)), bel_g HB.out⟩
 ·replace c4 := Bool.eq_false_iff.mpr c4
  subst c4
  replace H := ifF H
  simp only [Option.some.injEq, Prod.mk.injEq] at H
  obtain ⟨rfl, rfl⟩ := H
  go_enter Tryd.func16, Tryd.ntmps16
  go_wp2_with (first | ((with_reducible refine gate_dst (N := 2) rfl ?_); refine boxG HB #[.int .i64 a0_0, .slice A0_1 l0_1.length c0_1] 26 ?_; intro gb535 hg w13 BK535 GE535 hb; replace HB := bst HB hb; clear hb hg; obtain ⟨_, _, _, _⟩ := blk2 BK535) | ((with_reducible refine gate_callee (f := 32) rfl ?_); refine goesQ (some 11) Tryd.func32 #[.agg #[.int .i64 a0_0, .slice A0_1 l0_1.length c0_1], .int .i64 a1] ?_; (with_reducible refine (impl_isThreshold.calls k a0_0 _ _ l0_1 a1 false _ ?_ ?_ ?_ A3.out).mono ?_); exact C_g HR0_1 HB; exact HC0_1.out; exact Tab.below HTAB.out (bel_g HB.out); rintro e w15 ⟨rfl, hb⟩; refine ⟨_, rfl, ?_⟩; replace BK535 := blkB BK535 hb; replace HB := bst HB hb; clear hb))
  go_ret2
  exact ⟨_, eqE, nilE, bel_g HB.out⟩
def impl_placed_1.f (a0 : Int) (a1 : Int) (l2_0 : List Int) (a3_0 : Int) : Option (Bool) := if 0 ≤ a1 then (if a1 < (l2_0.length : Int) then (if 0 ≤ a0 then (if a0 < (l2_0.length : Int) then (some (decide ((wrap64 ((rd l2_0 a1) - (rd l2_0 a0))) ≥ a3_0))) else (none)) else (none)) else (none)) else (none)
theorem impl_placed_1.calls (a0 : Int) (a1 : Int) (gB2 : Nat) (A2_0 : Option Addr) (c2_0 : Nat) (l2_0 : List Int) (gB3 : Nat) (a3_0 : Int) (r : Bool) (w : World) (hb2 : w.heap[gB2]? = some (.cells #[.slice A2_0 l2_0.length c2_0] 24 (0, 0))) (hr2_0 : Kd.C (Kd.int .i64) w A2_0 l2_0.length l2_0) (hc2_0 : l2_0.length ≤ c2_0) (hb3 : w.heap[gB3]? = some (.cells #[.int .i64 a3_0] 3 (0, 0))) (h : impl_placed_1.f a0 a1 l2_0 a3_0 = some r) :
  Calls Tryd.prog 61 #[.int .i64 a0, .int .i64 a1, .pointer (some ⟨gB2, 0, none⟩), .pointer (some ⟨gB3, 0, none⟩)] w fun e w' => e = .returned (.bool r) ∧ Drawn0 w w' := by
 have BK544 := mkA hb2
 clear hb2
 have BK545 := mkA hb3
 clear hb3
 have HR2_0 := mkA hr2_0
 have HC2_0 := mkA hc2_0
 clear hr2_0 hc2_0
 have H := h
 clear h
 unfold impl_placed_1.f at H
 obtain ⟨c5b0, H⟩ := itND H
 obtain ⟨c6b0, H⟩ := itND H
 obtain ⟨c7b0, H⟩ := itND H
 obtain ⟨c8b0, H⟩ := itND H
 obtain rfl := Option.some.inj H
 obtain ⟨_, _⟩ := blk1 BK544
 obtain ⟨p546, q546, ad546, e546, hx546_0⟩ := atI HR2_0.out a1
 cases e546
 obtain ⟨p547, q547, ad547, e547, hx547_0⟩ := atI HR2_0.out a0
 obtain rfl : ad546 = ad547 := (by injection e547)
 obtain ⟨_, _⟩ := blk1 BK545
 go_enter Tryd.func61, Tryd.ntmps61
 go_wp2
 repeat (go_quiet (fail); try go_wp2)
 go_ret
 exact ⟨eqS, drE⟩
def impl_placed.f (k : Nat) (a0 : Int) (l1 : List Int) : Option (Int × List Int) := (impl_relation.f k (l1.length : Int) (fun u0_ u1_ => impl_placed_1.f u0_ u1_ l1 a0)).bind fun bt551 => (some (bt551.1, bt551.2))
theorem impl_placed.mono : ∀ a0 a1 k, LeO (impl_placed.f k a0 a1) (impl_placed.f (k + 1) a0 a1) := by
 intro a0 a1 k
 unfold impl_placed.f
 repeat' first
   | (with_reducible exact impl_relation.mono _ _ _)
   | (refine impl_relation.monoF ?_ _ _; intros)
   | (with_reducible exact impl_relation.mono _ _ _)
   | (with_reducible exact LeO.refl _)
   | (with_reducible exact LeO.none _)
   | (with_reducible refine LeO.ite ?_ ?_)
   | (with_reducible refine LeO.bind ?_ (fun _ => ?_))
   | exact impl_relation.mono _ _ _
   | exact LeO.none _
   | refine LeO.ite ?_ ?_
   | refine LeO.bind ?_ (fun _ => ?_)
theorem impl_placed.calls (k : Nat) (a0 : Int) (A1 : Option Addr) (c1 : Nat) (l1 : List Int) (r1 : Int) (r2 : List Int) (w : World) (hr1 : Kd.C (Kd.int .i64) w A1 l1.length l1) (hc1 : l1.length ≤ c1) (h : impl_placed.f k a0 l1 = some (r1, r2)) :
  Calls Tryd.prog 47 #[.int .i64 a0, .slice A1 l1.length c1] w fun e w' => ∃ v1_ : Value, e = .returned (.agg #[.int .i64 r1, v1_]) ∧ Kd.R (Kd.int .i64) 3 w' w.heap.size (fun _ => True) v1_ r2 ∧ Below w.heap.size w w' := by
 have hu26 := Tryd.underlying26
 have HR1 := mkA hr1
 have HC1 := mkA hc1
 clear hr1 hc1
 have HB := mkA (Below.refl w.heap.size w)
 have H := h
 clear h
 unfold impl_placed.f at H
 obtain ⟨⟨t551, t552⟩, A3, H⟩ := obE H
 dsimp only at H
 simp only [Option.some.injEq, Prod.mk.injEq] at H
 obtain ⟨rfl, rfl⟩ := H
 go_enter Tryd.func47, Tryd.ntmps47
 go_wp2_with (first | ((with_reducible refine gate_dst (N := 2) rfl ?_); refine boxG HB #[.int .i64 a0] 3 ?_; intro gb548 hg w4 BK548 GE548 hb; replace HB := bst HB hb; clear hb hg) | ((with_reducible refine gate_dst (N := 3) rfl ?_); refine boxG HB #[.slice A1 l1.length c1] 24 ?_; intro gb549 hg w5 BK549 GE549 hb; have NB548_549 := neL7 BK548 hg; have NB549_548 := neR7 BK548 hg; replace BK548 := blkB BK548 hb; replace HB := bst HB hb; clear hb hg) | ((with_reducible refine gate_dst (N := 4) rfl ?_); refine boxG HB #[.int .i64 0, .slice none 0 0] 26 ?_; intro gb550 hg w6 BK550 GE550 hb; have NB548_550 := neL7 BK548 hg; have NB550_548 := neR7 BK548 hg; replace BK548 := blkB BK548 hb; have NB549_550 := neL7 BK549 hg; have NB550_549 := neR7 BK549 hg; replace BK549 := blkB BK549 hb; replace HB := bst HB hb; clear hb hg; obtain ⟨_, _⟩ := blk1 BK549) | ((with_reducible refine gate_callee (f := 59) rfl ?_); refine goesQ (some 8) Tryd.func59 #[.int .i64 (l1.length : Int), .func (.func 61) #[] #[.pointer (some ⟨gb549, 0, none⟩), .pointer (some ⟨gb548, 0, none⟩)]] ?_; (with_reducible refine (impl_relation.calls k (l1.length : Int) (fun u0_ u1_ => impl_placed_1.f u0_ u1_ l1 a0) 61 #[.pointer (some ⟨gb549, 0, none⟩), .pointer (some ⟨gb548, 0, none⟩)] (fun args_ W_ => enters_ Tryd.func61 (by kernel_rfl) rfl args_ W_) t551 t552 _ ?s1 A3.out).mono ?_); (case s1 => exact fun u0_ u1_ q_ W_ hb_ hq_ => (impl_placed_1.calls u0_ u1_ gb549 A1 c1 l1 gb548 a0 q_ W_ (blk_below (show _ = some (Obj.cells #[.slice A1 l1.length c1] 24 (0, 0)) from blkT BK549) hb_) (Kd.C_below (show Kd.C (Kd.int .i64) _ A1 l1.length l1 from by exact C_g HR1 HB) hb_) (by exact HC1.out) (blk_below (show _ = some (Obj.cells #[.int .i64 a0] 3 (0, 0)) from blkT BK548) hb_) hq_).mono (fun _ _ h_ => ⟨h_.1, h_.2.below⟩)); rintro e w10 ⟨v553, rfl, ho0, hb⟩; refine ⟨_, rfl, ?_⟩; have HO554 := rLo (Kd.R_newB ho0 (g := gb548) (o := .cells #[.int .i64 a0] 3 (0, 0)) (blk_g BK548.out)) HB; replace BK548 := blkB BK548 hb; replace BK549 := blkB BK549 hb; replace BK550 := blkB BK550 hb; replace HB := bst HB hb; clear hb ho0; obtain ⟨_, _, _, _⟩ := blk2 BK550; obtain ⟨Ao13, co13, rfl⟩ := Kd.R_slice HO554.out))
 refine bodyPost_ret (results_cell_row rfl _ _ gb550 26 #[.int .i64 t551, .slice Ao13 t552.length co13] (0, 0) _ rfl (blkT BK550) Tryd.underlying26 rfl (by kernel_rfl)) rfl ?_
 exact ⟨_, eqE, Kd.R_g (Kd.R_mono (rF HO554 BK550) (fun _ _ => trivial)), bel_g HB.out⟩
def slices_Equal_int_int.l0 : Nat → List Int → List Int → Int → Int → Option (Bool)
 | 0, _, _, _, _ => none
 | k + 1, x0, x1, x12, x13 => if x13 < x12 then (if 0 ≤ x13 then (if x13 < (x0.length : Int) then (if x13 < (x1.length : Int) then (if (rd x0 x13) = (rd x1 x13) then (slices_Equal_int_int.l0 k x0 x1 x12 (wrap64 (x13 + 1))) else (some false)) else (none)) else (none)) else (none)) else (some true)
def slices_Equal_int_int.f (k : Nat) (l0 : List Int) (l1 : List Int) : Option (Bool) := if (l0.length : Int) = (l1.length : Int) then (slices_Equal_int_int.l0 k l0 l1 (l0.length : Int) 0) else (some false)
theorem slices_Equal_int_int.mono_l : ∀ k, (∀ y0 y1 y2 y3, LeO (slices_Equal_int_int.l0 k y0 y1 y2 y3) (slices_Equal_int_int.l0 (k + 1) y0 y1 y2 y3))
 | 0 => fun _ _ _ _ r h => by simp [slices_Equal_int_int.l0] at h
 | k + 1 => by
  have ih0 := slices_Equal_int_int.mono_l k
  ·intro y0 y1 y2 y3
   unfold slices_Equal_int_int.l0
   repeat' (with_reducible first|apply ih0|apply LeO.refl|apply LeO.none|apply LeO.ite|apply LeO.bind|intro)
theorem slices_Equal_int_int.mono : ∀ a0 a1 k, LeO (slices_Equal_int_int.f k a0 a1) (slices_Equal_int_int.f (k + 1) a0 a1) := by
 intro a0 a1 k
 have ih0 := slices_Equal_int_int.mono_l k
 unfold slices_Equal_int_int.f
 repeat' (with_reducible first|apply ih0|apply LeO.refl|apply LeO.none|apply LeO.ite|apply LeO.bind|intro)
theorem slices_Equal_int_int.calls (k : Nat) (A0 : Option Addr) (c0 : Nat) (l0 : List Int) (A1 : Option Addr) (c1 : Nat) (l1 : List Int) (r : Bool) (w : World) (hr0 : Kd.C (Kd.int .i64) w A0 l0.length l0) (hc0 : l0.length ≤ c0) (hr1 : Kd.C (Kd.int .i64) w A1 l1.length l1) (hc1 : l1.length ≤ c1) (h : slices_Equal_int_int.f k l0 l1 = some r) :
  Calls Tryd.prog 62 #[.slice A0 l0.length c0, .slice A1 l1.length c1] w fun e w' => e = .returned (.bool r) ∧ Drawn0 w w' := by
 have HR0 := mkA hr0
 have HC0 := mkA hc0
 clear hr0 hc0
 have HR1 := mkA hr1
 have HC1 := mkA hc1
 clear hr1 hc1
 have H := h
 clear h
 unfold slices_Equal_int_int.f at H
 rcases iteP H with ⟨c3, H⟩ | ⟨c3, H⟩
 ·have c3b0 := beq_iff_eq.mpr c3
  have c3b1 := bne_eq_false_iff_eq.mpr c3
  have c3b2 : (l0.length == l1.length) = true := by first | simpa using c3 | (simp at c3 ⊢; omega)
  clear c3
  have H' := mkA H
  clear H
  go_enter Tryd.func62, Tryd.ntmps62
  go_wp2
  repeat (go_quiet (fail); try go_wp2)
  go_loopg [13] k (fun kq v13 w' => ∃ (x13_1 : Int), v13 = .int .i64 x13_1 ∧ Fc (slices_Equal_int_int.l0 kq l0 l1 (l0.length : Int) x13_1 = some r) ∧ Fc (kq ≤ k) ∧ Drawn0 w w')
  case atStart => exact ⟨(0), eqS, H', ⟨Nat.le_refl _⟩, by repeat (first | exact Drawn0.refl _ | apply Drawn0.step)⟩
  case round =>
   clear H'
   try clear c1
   try clear c3
   try clear c3b0
   try clear c3b1
   try clear c3b2
   obtain ⟨x13_1, rfl, HA, HK1, ⟨m1, rfl⟩⟩ := hrel
   cases gk with
   | zero => exact absurd HA.out (by simp [slices_Equal_int_int.l0])
   | succ k1 =>
    have H := HA.out
    clear HA
    simp only [slices_Equal_int_int.l0] at H
    rcases iteE H with ⟨c4b0, H⟩ | ⟨c4b0, H⟩
    ·obtain ⟨c5b0, H⟩ := itND H
     obtain ⟨c6b0, H⟩ := itND H
     obtain ⟨c7b0, H⟩ := itND H
     rcases iteP H with ⟨c8, H⟩ | ⟨c8, H⟩
     ·have c8b0 := beq_iff_eq.mpr c8
      have c8b1 := bne_eq_false_iff_eq.mpr c8
      clear c8
      have H' := mkA H
      clear H
      obtain ⟨p555, q555, ad555, e555, hx555_0⟩ := atI HR0.out x13_1
      cases e555
      obtain ⟨p556, q556, ad556, e556, hx556_0⟩ := atI HR1.out x13_1
      cases e556
      go_wp2
      repeat (go_quiet (fail); try go_wp2)
      go_roundg k1
      case measure => have := HK1.out; omega
      case rel => exact ⟨(wrap64 (x13_1 + 1)), eqS, H', ⟨by have := HK1.out; omega⟩, by repeat (first | exact Drawn0.refl _ | apply Drawn0.step)⟩
     ·have c8b0 := beq_eq_false_iff_ne.mpr c8
      have c8b1 := bne_iff_ne.mpr c8
      obtain rfl := Option.some.inj H
      obtain ⟨p555, q555, ad555, e555, hx555_0⟩ := atI HR0.out x13_1
      cases e555
      obtain ⟨p556, q556, ad556, e556, hx556_0⟩ := atI HR1.out x13_1
      cases e556
      go_wp2
      repeat (go_quiet (fail); try go_wp2)
      go_ret
      exact ⟨eqS, drE⟩
    ·obtain rfl := Option.some.inj H
     go_wp2
     repeat (go_quiet (fail); try go_wp2)
     go_ret
     exact ⟨eqS, drE⟩
 ·have c3b0 := beq_eq_false_iff_ne.mpr c3
  have c3b1 := bne_iff_ne.mpr c3
  have c3b2 : (l0.length == l1.length) = false := by first | simpa using c3 | (simp at c3 ⊢; omega)
  obtain rfl := Option.some.inj H
  go_enter Tryd.func62, Tryd.ntmps62
  go_wp2
  repeat (go_quiet (fail); try go_wp2)
  go_ret
  exact ⟨eqS, drE⟩
def impl_Order_same.f (k : Nat) (a0_0 : Int) (l0_1 : List Int) (a1_0 : Int) (l1_1 : List Int) : Option (Bool) := if a0_0 = a1_0 then ((slices_Equal_int_int.f k l0_1 l1_1).bind fun t559 => (some t559)) else (some false)
theorem impl_Order_same.mono : ∀ a0 a1 a2 a3 k, LeO (impl_Order_same.f k a0 a1 a2 a3) (impl_Order_same.f (k + 1) a0 a1 a2 a3) := by
 intro a0 a1 a2 a3 k
 unfold impl_Order_same.f
 repeat' (with_reducible first|apply slices_Equal_int_int.mono|apply LeO.refl|apply LeO.none|apply LeO.ite|apply LeO.bind|intro)
theorem impl_Order_same.calls (k : Nat) (a0_0 : Int) (A0_1 : Option Addr) (c0_1 : Nat) (l0_1 : List Int) (a1_0 : Int) (A1_1 : Option Addr) (c1_1 : Nat) (l1_1 : List Int) (r : Bool) (w : World) (hr0_1 : Kd.C (Kd.int .i64) w A0_1 l0_1.length l0_1) (hc0_1 : l0_1.length ≤ c0_1) (hr1_1 : Kd.C (Kd.int .i64) w A1_1 l1_1.length l1_1) (hc1_1 : l1_1.length ≤ c1_1) (h : impl_Order_same.f k a0_0 l0_1 a1_0 l1_1 = some r) :
  Calls Tryd.prog 48 #[.agg #[.int .i64 a0_0, .slice A0_1 l0_1.length c0_1], .agg #[.int .i64 a1_0, .slice A1_1 l1_1.length c1_1]] w fun e w' => e = .returned (.bool r) ∧ Below w.heap.size w w' := by
 have hu26 := Tryd.underlying26
 have HR0_1 := mkA hr0_1
 have HC0_1 := mkA hc0_1
 clear hr0_1 hc0_1
 have HR1_1 := mkA hr1_1
 have HC1_1 := mkA hc1_1
 clear hr1_1 hc1_1
 have HB := mkA (Below.refl w.heap.size w)
 have H := h
 clear h
 unfold impl_Order_same.f at H
 rcases iteP H with ⟨c3, H⟩ | ⟨c3, H⟩
 ·have c3b0 := beq_iff_eq.mpr c3
  have c3b1 := bne_eq_false_iff_eq.mpr c3
  clear c3
  obtain ⟨t559, A4, H⟩ := obE H
  obtain rfl := Option.some.inj H
  go_enter Tryd.func48, Tryd.ntmps48
  go_wp2_with (first | ((with_reducible refine gate_dst (N := 2) rfl ?_); refine boxG HB #[.int .i64 a0_0, .slice A0_1 l0_1.length c0_1] 26 ?_; intro gb557 hg w5 BK557 GE557 hb; replace HB := bst HB hb; clear hb hg) | ((with_reducible refine gate_dst (N := 3) rfl ?_); refine boxG HB #[.int .i64 a1_0, .slice A1_1 l1_1.length c1_1] 26 ?_; intro gb558 hg w6 BK558 GE558 hb; have NB557_558 := neL7 BK557 hg; have NB558_557 := neR7 BK557 hg; replace BK557 := blkB BK557 hb; replace HB := bst HB hb; clear hb hg; obtain ⟨_, _, _, _⟩ := blk2 BK557; obtain ⟨_, _, _, _⟩ := blk2 BK558) | (go_at_call 62; (with_reducible refine (slices_Equal_int_int.calls k _ _ l0_1 _ _ l1_1 t559 _ ?_ ?_ ?_ ?_ A4.out).mono ?_); exact C_g HR0_1 HB; exact HC0_1.out; exact C_g HR1_1 HB; exact HC1_1.out; rintro e w' ⟨rfl, ⟨nd, rfl⟩⟩))
  go_ret
  exact ⟨eqE, bel_g HB.out⟩
 ·have c3b0 := beq_eq_false_iff_ne.mpr c3
  have c3b1 := bne_iff_ne.mpr c3
  obtain rfl := Option.some.inj H
  go_enter Tryd.func48, Tryd.ntmps48
  go_wp2_with (first | ((with_reducible refine gate_dst (N := 2) rfl ?_); refine boxG HB #[.int .i64 a0_0, .slice A0_1 l0_1.length c0_1] 26 ?_; intro gb557 hg w10 BK557 GE557 hb; replace HB := bst HB hb; clear hb hg) | ((with_reducible refine gate_dst (N := 3) rfl ?_); refine boxG HB #[.int .i64 a1_0, .slice A1_1 l1_1.length c1_1] 26 ?_; intro gb558 hg w11 BK558 GE558 hb; have NB557_558 := neL7 BK557 hg; have NB558_557 := neR7 BK557 hg; replace BK557 := blkB BK557 hb; replace HB := bst HB hb; clear hb hg; obtain ⟨_, _, _, _⟩ := blk2 BK557; obtain ⟨_, _, _, _⟩ := blk2 BK558))
  go_ret
  exact ⟨eqE, bel_g HB.out⟩
end Go.Proofs.YtmoemabbmjdhgaaDoor.Q
