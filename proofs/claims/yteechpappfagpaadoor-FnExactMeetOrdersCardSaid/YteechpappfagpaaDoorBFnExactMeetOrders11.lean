import Derived.Test.YteechpappfagpaaDoorBFnExactMeetOrders0
import Derived.Test.YteechpappfagpaaDoorBFnExactMeetOrders1
import Derived.Test.YteechpappfagpaaDoorBFnExactMeetOrders4
import Derived.Test.YteechpappfagpaaDoorBFnExactMeetOrders9
import Derived.Test.YteechpappfagpaaDoorBFnExactMeetOrders10
-- printed by this project's own program (wip/mp/mp.py) over the kit's print, for this seat; Lean checks it
namespace Go.Proofs.YteechpappfagpaaDoor.Q
open Go.RowKit Go.Proofs.YteechpappfagpaaDoorW.PrintWords Go.Proofs.YteechpappfagpaaDoorW.PrintLast Go.Proofs.YteechpappfagpaaDoorW.PrintMore
attribute [local go_sem] max2_int min2_int max_two min_two max_three min_three max_four min_four   -- for this text's walks alone
set_option linter.unusedVariables false
set_option maxHeartbeats 8000000
set_option maxRecDepth 100000
set_option linter.unusedSimpArgs false

/-! ### laws_FnExactMeetOrders: function 5 -/
mutual
def laws_FnExactMeetOrders.j0 : Nat → Bool → Bool → Bool → Int → List Int → Int → List Int → Int → List Int → Int → List Int → Int → List Int → Int → List Int → Option (Bool)
 | 0, _, _, _, _, _, _, _, _, _, _, _, _, _, _, _ => none
 | k + 1, x7, x11, x53, x311000, x311001, x312000, x312001, x328000, x328001, x333000, x333001, x338000, x338001, x344000, x344001 => if x53 = true then (some false) else ((laws_toOrder.f k x311000 x311001).bind fun bt345 => ((laws_eqOrder.f k x333000 x333001 bt345.1 bt345.2).bind fun t349 => (if t349 = true then ((laws_toOrder.f k x312000 x312001).bind fun bt350 => ((laws_eqOrder.f k x338000 x338001 bt350.1 bt350.2).bind fun t354 => (if t354 = true then ((laws_markOrder.f k x333000 x333001 1).bind fun bt355 => ((laws_markOrder.f k x338000 x338001 bt355.1).bind fun bt357 => (if bt357.1 < 0 then (laws_FnExactMeetOrders.j1 k x7 true x311000 x311001 x312000 x312001 x328000 x328001 x344000 x344001) else ((laws_eqOrder.f k x344000 x344001 x328000 x328001).bind fun t359 => (if t359 = true then (laws_FnExactMeetOrders.j1 k x7 (x11 != x7) x311000 x311001 x312000 x312001 x328000 x328001 x344000 x344001) else (laws_FnExactMeetOrders.j1 k x7 true x311000 x311001 x312000 x312001 x328000 x328001 x344000 x344001)))))) else (some false)))) else (some false))))
def laws_FnExactMeetOrders.j1 : Nat → Bool → Bool → Int → List Int → Int → List Int → Int → List Int → Int → List Int → Option (Bool)
 | 0, _, _, _, _, _, _, _, _, _, _ => none
 | k + 1, x7, x82, x311000, x311001, x312000, x312001, x328000, x328001, x344000, x344001 => if x82 = true then (some false) else ((laws_markOrder.f k x344000 x344001 1).bind fun bt360 => ((laws_heldOrder.f k x344000 bt360.2 1).bind fun t362 => (if t362 < 0 then (some false) else (if t362 = bt360.1 then ((laws_toOrder.f k x311000 x311001).bind fun bt363 => ((laws_toOrder.f k x312000 x312001).bind fun bt367 => ((impl_MeetOrders.f k bt363.1 bt363.2 bt367.1 bt367.2).bind fun bt371 => ((laws_eqOrder.f k bt371.1 bt371.2.1 x328000 x328001).bind fun t377 => (if t377 = true then (laws_FnExactMeetOrders.j2 k bt360.1 (bt371.2.2 != x7) x344000 bt360.2) else (laws_FnExactMeetOrders.j2 k bt360.1 true x344000 bt360.2)))))) else (some false)))))
def laws_FnExactMeetOrders.j2 : Nat → Int → Bool → Int → List Int → Option (Bool)
 | 0, _, _, _, _ => none
 | k + 1, x13, x110, x344000, x344001 => if x110 = true then (some false) else ((laws_heldOrder.f k x344000 x344001 1).bind fun t378 => (if t378 < 0 then (some false) else (if t378 = x13 then (some true) else (some false))))
end
def laws_FnExactMeetOrders.f (k : Nat) (a0_0 : Int) (l0_1 : List Int) (a1_0 : Int) (l1_1 : List Int) : Option (Bool) := (laws_szOrder.f a0_0 l0_1 1048576).bind fun t312 => (if t312 < 0 then (some true) else ((laws_szOrder.f a1_0 l1_1 t312).bind fun t313 => (if t313 < 0 then (some true) else ((laws_toOrder.f k a0_0 l0_1).bind fun bt314 => ((laws_toOrder.f k a1_0 l1_1).bind fun bt318 => ((spec_MeetOrders.f k bt314.1 bt314.2 bt318.1 bt318.2).bind fun bt322 => ((laws_toOrder.f k a0_0 l0_1).bind fun bt328 => ((laws_toOrder.f k a1_0 l1_1).bind fun bt333 => ((impl_MeetOrders.f k bt328.1 bt328.2 bt333.1 bt333.2).bind fun bt338 => ((laws_eqOrder.f k bt338.1 bt338.2.1 bt322.1 bt322.2.1).bind fun t344 => (if t344 = true then (laws_FnExactMeetOrders.j0 k bt322.2.2 bt338.2.2 (bt338.2.2 != bt322.2.2) a0_0 l0_1 a1_0 l1_1 bt322.1 bt322.2.1 bt328.1 bt328.2 bt333.1 bt333.2 bt338.1 bt338.2.1) else (laws_FnExactMeetOrders.j0 k bt322.2.2 bt338.2.2 true a0_0 l0_1 a1_0 l1_1 bt322.1 bt322.2.1 bt328.1 bt328.2 bt333.1 bt333.2 bt338.1 bt338.2.1))))))))))))
theorem laws_FnExactMeetOrders.mono_l : ∀ k, (∀ y0 y1 y2 y3 y4 y5 y6 y7 y8 y9 y10 y11 y12 y13 y14, LeO (laws_FnExactMeetOrders.j0 k y0 y1 y2 y3 y4 y5 y6 y7 y8 y9 y10 y11 y12 y13 y14) (laws_FnExactMeetOrders.j0 (k + 1) y0 y1 y2 y3 y4 y5 y6 y7 y8 y9 y10 y11 y12 y13 y14)) ∧ (∀ y0 y1 y2 y3 y4 y5 y6 y7 y8 y9, LeO (laws_FnExactMeetOrders.j1 k y0 y1 y2 y3 y4 y5 y6 y7 y8 y9) (laws_FnExactMeetOrders.j1 (k + 1) y0 y1 y2 y3 y4 y5 y6 y7 y8 y9)) ∧ (∀ y0 y1 y2 y3, LeO (laws_FnExactMeetOrders.j2 k y0 y1 y2 y3) (laws_FnExactMeetOrders.j2 (k + 1) y0 y1 y2 y3))
 | 0 => ⟨fun _ _ _ _ _ _ _ _ _ _ _ _ _ _ _ r h => by simp [laws_FnExactMeetOrders.j0] at h, fun _ _ _ _ _ _ _ _ _ _ r h => by simp [laws_FnExactMeetOrders.j1] at h, fun _ _ _ _ r h => by simp [laws_FnExactMeetOrders.j2] at h⟩
 | k + 1 => by
  obtain ⟨ih0, ih1, ih2⟩ := laws_FnExactMeetOrders.mono_l k
  refine ⟨?_, ?_, ?_⟩
  ·intro y0 y1 y2 y3 y4 y5 y6 y7 y8 y9 y10 y11 y12 y13 y14
   unfold laws_FnExactMeetOrders.j0
   repeat' (with_reducible first|exact ih0 _ _ _ _ _ _ _ _ _ _ _ _ _ _ _|exact ih1 _ _ _ _ _ _ _ _ _ _|exact ih2 _ _ _ _|exact impl_MeetOrders.mono _ _ _ _ _|exact laws_eqOrder.mono _ _ _ _ _|exact laws_heldOrder.mono _ _ _ _|exact laws_markOrder.mono _ _ _ _|exact laws_toOrder.mono _ _ _|exact spec_MeetOrders.mono _ _ _ _ _|exact LeO.refl _|exact LeO.none _|refine LeO.ite ?_ ?_|refine LeO.bind ?_ (fun _ => ?_))
  ·intro y0 y1 y2 y3 y4 y5 y6 y7 y8 y9
   unfold laws_FnExactMeetOrders.j1
   repeat' (with_reducible first|exact ih0 _ _ _ _ _ _ _ _ _ _ _ _ _ _ _|exact ih1 _ _ _ _ _ _ _ _ _ _|exact ih2 _ _ _ _|exact impl_MeetOrders.mono _ _ _ _ _|exact laws_eqOrder.mono _ _ _ _ _|exact laws_heldOrder.mono _ _ _ _|exact laws_markOrder.mono _ _ _ _|exact laws_toOrder.mono _ _ _|exact spec_MeetOrders.mono _ _ _ _ _|exact LeO.refl _|exact LeO.none _|refine LeO.ite ?_ ?_|refine LeO.bind ?_ (fun _ => ?_))
  ·intro y0 y1 y2 y3
   unfold laws_FnExactMeetOrders.j2
   repeat' (with_reducible first|exact ih0 _ _ _ _ _ _ _ _ _ _ _ _ _ _ _|exact ih1 _ _ _ _ _ _ _ _ _ _|exact ih2 _ _ _ _|exact impl_MeetOrders.mono _ _ _ _ _|exact laws_eqOrder.mono _ _ _ _ _|exact laws_heldOrder.mono _ _ _ _|exact laws_markOrder.mono _ _ _ _|exact laws_toOrder.mono _ _ _|exact spec_MeetOrders.mono _ _ _ _ _|exact LeO.refl _|exact LeO.none _|refine LeO.ite ?_ ?_|refine LeO.bind ?_ (fun _ => ?_))
theorem laws_FnExactMeetOrders.mono : ∀ a0 a1 a2 a3 k, LeO (laws_FnExactMeetOrders.f k a0 a1 a2 a3) (laws_FnExactMeetOrders.f (k + 1) a0 a1 a2 a3) := by
 intro a0 a1 a2 a3 k
 obtain ⟨ih0, ih1, ih2⟩ := laws_FnExactMeetOrders.mono_l k
 unfold laws_FnExactMeetOrders.f
 repeat' (with_reducible first|exact ih0 _ _ _ _ _ _ _ _ _ _ _ _ _ _ _|exact ih1 _ _ _ _ _ _ _ _ _ _|exact ih2 _ _ _ _|exact impl_MeetOrders.mono _ _ _ _ _|exact laws_eqOrder.mono _ _ _ _ _|exact laws_heldOrder.mono _ _ _ _|exact laws_markOrder.mono _ _ _ _|exact laws_toOrder.mono _ _ _|exact spec_MeetOrders.mono _ _ _ _ _|exact LeO.refl _|exact LeO.none _|refine LeO.ite ?_ ?_|refine LeO.bind ?_ (fun _ => ?_))
def laws_FnExactMeetOrders.T8 : Bool × List (List Nat × List Nat) := (true, [([], []), ([0], [0]), ([], []), ([2, 1], [2]), ([1, 3, 3], [1, 3]), ([4], [4]), ([5], [5]), ([5], [5]), ([], []), ([8, 6, 4, 0, 1, 2, 3, 4, 5, 6, 8], [6, 8]), ([7, 9, 0, 1, 2, 3, 4, 5, 6, 7, 8, 9], [7])])
def laws_FnExactMeetOrders.B8 : List Nat := [0, 1, 0, 7, 15, 31, 63, 63, 0, 383, 1023]
theorem laws_FnExactMeetOrders.tab8 : rtab .any (opsOf Tryd.f5 8) = laws_FnExactMeetOrders.T8 := by kernel_rfl
theorem laws_FnExactMeetOrders.bits8 : waitsOk laws_FnExactMeetOrders.T8.2 laws_FnExactMeetOrders.B8 = true := by kernel_rfl
def laws_FnExactMeetOrders.T31 : Bool × List (List Nat × List Nat) := (true, [([], []), ([0], [0]), ([], []), ([2, 1], [2]), ([1, 3, 3], [1, 3]), ([4], [4]), ([5], [5]), ([5], [5]), ([], []), ([8, 6, 4, 0, 1, 2, 3, 4, 5, 6, 8], [6, 8]), ([7, 9, 0, 1, 2, 3, 4, 5, 6, 7, 8, 9], [7])])
def laws_FnExactMeetOrders.B31 : List Nat := [0, 1, 0, 7, 15, 31, 63, 63, 0, 383, 1023]
theorem laws_FnExactMeetOrders.tab31 : rtab .any (opsOf Tryd.f5 31) = laws_FnExactMeetOrders.T31 := by kernel_rfl
theorem laws_FnExactMeetOrders.bits31 : waitsOk laws_FnExactMeetOrders.T31.2 laws_FnExactMeetOrders.B31 = true := by kernel_rfl
theorem laws_FnExactMeetOrders.calls (k : Nat) (a0_0 : Int) (A0_1 : Option Addr) (c0_1 : Nat) (l0_1 : List Int) (a1_0 : Int) (A1_1 : Option Addr) (c1_1 : Nat) (l1_1 : List Int) (r : Bool) (w : World) (hr0_1 : Kd.C (Kd.int .i64) w A0_1 l0_1.length l0_1) (hc0_1 : l0_1.length ≤ c0_1) (hr1_1 : Kd.C (Kd.int .i64) w A1_1 l1_1.length l1_1) (hc1_1 : l1_1.length ≤ c1_1) (hTAB : Tab w) (h : laws_FnExactMeetOrders.f k a0_0 l0_1 a1_0 l1_1 = some r) :
  Calls Tryd.prog 5 #[.agg #[.int .i64 a0_0, .slice A0_1 l0_1.length c0_1], .agg #[.int .i64 a1_0, .slice A1_1 l1_1.length c1_1]] w fun e w' => e = .returned (.bool r) ∧ Below w.heap.size w w' := by
 have HTAB := Aside0.mk hTAB
 clear hTAB
 have hu24 := Tryd.underlying24
 have hu28 := Tryd.underlying28
 have HR0_1 := Aside0.mk hr0_1
 have HC0_1 := Aside0.mk hc0_1
 clear hr0_1 hc0_1
 have HR1_1 := Aside0.mk hr1_1
 have HC1_1 := Aside0.mk hc1_1
 clear hr1_1 hc1_1
 have HB := Aside0.mk (Below.refl w.heap.size w)
 have H : ((laws_szOrder.f a0_0 l0_1 1048576).bind fun t312 => (if t312 < 0 then (some true) else ((laws_szOrder.f a1_0 l1_1 t312).bind fun t313 => (if t313 < 0 then (some true) else ((laws_toOrder.f k a0_0 l0_1).bind fun bt314 => ((laws_toOrder.f k a1_0 l1_1).bind fun bt318 => ((spec_MeetOrders.f k bt314.1 bt314.2 bt318.1 bt318.2).bind fun bt322 => ((laws_toOrder.f k a0_0 l0_1).bind fun bt328 => ((laws_toOrder.f k a1_0 l1_1).bind fun bt333 => ((impl_MeetOrders.f k bt328.1 bt328.2 bt333.1 bt333.2).bind fun bt338 => ((laws_eqOrder.f k bt338.1 bt338.2.1 bt322.1 bt322.2.1).bind fun t344 => (if t344 = true then (laws_FnExactMeetOrders.j0 k bt322.2.2 bt338.2.2 (bt338.2.2 != bt322.2.2) a0_0 l0_1 a1_0 l1_1 bt322.1 bt322.2.1 bt328.1 bt328.2 bt333.1 bt333.2 bt338.1 bt338.2.1) else (laws_FnExactMeetOrders.j0 k bt322.2.2 bt338.2.2 true a0_0 l0_1 a1_0 l1_1 bt322.1 bt322.2.1 bt328.1 bt328.2 bt333.1 bt333.2 bt338.1 bt338.2.1))))))))))))) = some r := h
 clear h
 obtain ⟨t312, A3, H⟩ := obE H
 rcases iteE H with ⟨c4b0, H⟩ | ⟨c4b0, H⟩
 ·obtain rfl := Option.some.inj H
  go_enter Tryd.func5, Tryd.ntmps5
  go_wp2_with (first | ((with_reducible refine gate_dst (N := 2) rfl ?_); refine boxE (N := 2) (cs := #[.int .i64 a0_0, .slice A0_1 l0_1.length c0_1]) (t := 24) ?_; intro gb310 hg w5 hbox hb; have BK310 := Aside0.mk (hbox); have GE310 := geB HB hg; replace HB := bst HB hb; clear hb hbox hg) | ((with_reducible refine gate_dst (N := 3) rfl ?_); refine boxE (N := 3) (cs := #[.int .i64 a1_0, .slice A1_1 l1_1.length c1_1]) (t := 24) ?_; intro gb311 hg w6 hbox hb; have BK311 := Aside0.mk (hbox); have GE311 := geB HB hg; have NB310_311 := neL BK310 hg; have NB311_310 := neR BK310 hg; replace BK310 := blkB BK310 hb; replace HB := bst HB hb; clear hb hbox hg; have hnb7 := NB310_311.out; have hnc7 := NB311_310.out; obtain ⟨hcz8_0, hcz8_1, hfz8_0, hfz8_1⟩ := blk2 BK310) | ((with_reducible refine gate_callee (f := 15) rfl ?_); refine goesQ (some 19) Tryd.func15 #[.agg #[.int .i64 a0_0, .slice A0_1 l0_1.length c0_1], .int .i64 1048576] ?_; (with_reducible refine (laws_szOrder.calls a0_0 _ _ l0_1 1048576 t312 _ ?side1 ?side2 A3.out).mono ?_); (case side1 => exact C_g HR0_1 HB); (case side2 => exact HC0_1.out); rintro e w9 ⟨rfl, hb⟩; refine ⟨_, rfl, ?_⟩; replace BK310 := blkB BK310 hb; replace BK311 := blkB BK311 hb; replace HB := bst HB hb; (try clear hb); (try clear hk)))
  go_ret
  exact ⟨eqE, bel_g HB.out⟩
 ·obtain ⟨t313, A10, H⟩ := obE H
  rcases iteE H with ⟨c11b0, H⟩ | ⟨c11b0, H⟩
  ·obtain rfl := Option.some.inj H
   go_enter Tryd.func5, Tryd.ntmps5
   go_wp2_with (first | ((with_reducible refine gate_dst (N := 2) rfl ?_); refine boxE (N := 2) (cs := #[.int .i64 a0_0, .slice A0_1 l0_1.length c0_1]) (t := 24) ?_; intro gb310 hg w12 hbox hb; have BK310 := Aside0.mk (hbox); have GE310 := geB HB hg; replace HB := bst HB hb; clear hb hbox hg) | ((with_reducible refine gate_dst (N := 3) rfl ?_); refine boxE (N := 3) (cs := #[.int .i64 a1_0, .slice A1_1 l1_1.length c1_1]) (t := 24) ?_; intro gb311 hg w13 hbox hb; have BK311 := Aside0.mk (hbox); have GE311 := geB HB hg; have NB310_311 := neL BK310 hg; have NB311_310 := neR BK310 hg; replace BK310 := blkB BK310 hb; replace HB := bst HB hb; clear hb hbox hg; have hnb14 := NB310_311.out; have hnc14 := NB311_310.out; obtain ⟨hcz15_0, hcz15_1, hfz15_0, hfz15_1⟩ := blk2 BK310) | ((with_reducible refine gate_callee (f := 15) rfl ?_); refine goesQ (some 19) Tryd.func15 #[.agg #[.int .i64 a0_0, .slice A0_1 l0_1.length c0_1], .int .i64 1048576] ?_; (with_reducible refine (laws_szOrder.calls a0_0 _ _ l0_1 1048576 t312 _ ?side1 ?side2 A3.out).mono ?_); (case side1 => exact C_g HR0_1 HB); (case side2 => exact HC0_1.out); rintro e w16 ⟨rfl, hb⟩; refine ⟨_, rfl, ?_⟩; replace BK310 := blkB BK310 hb; replace BK311 := blkB BK311 hb; replace HB := bst HB hb; (try clear hb); (try clear hk); obtain ⟨hcz17_0, hcz17_1, hfz17_0, hfz17_1⟩ := blk2 BK311) | ((with_reducible refine gate_callee (f := 15) rfl ?_); refine goesQ (some 24) Tryd.func15 #[.agg #[.int .i64 a1_0, .slice A1_1 l1_1.length c1_1], .int .i64 t312] ?_; (with_reducible refine (laws_szOrder.calls a1_0 _ _ l1_1 t312 t313 _ ?side1 ?side2 A10.out).mono ?_); (case side1 => exact C_g HR1_1 HB); (case side2 => exact HC1_1.out); rintro e w18 ⟨rfl, hb⟩; refine ⟨_, rfl, ?_⟩; replace BK310 := blkB BK310 hb; replace BK311 := blkB BK311 hb; replace HB := bst HB hb; (try clear hb); (try clear hk)))
   go_ret
   exact ⟨eqE, bel_g HB.out⟩
  ·obtain ⟨⟨t314, t315⟩, A19, H⟩ := obE H
   dsimp only at H
   obtain ⟨⟨t318, t319⟩, A20, H⟩ := obE H
   dsimp only at H
   obtain ⟨⟨t322, t323, t326⟩, A21, H⟩ := obE H
   dsimp only at H
   obtain ⟨⟨t328, t329⟩, A22, H⟩ := obE H
   dsimp only at H
   obtain ⟨⟨t333, t334⟩, A23, H⟩ := obE H
   dsimp only at H
   obtain ⟨⟨t338, t339, t342⟩, A24, H⟩ := obE H
   dsimp only at H
   have HC25 := Aside0.mk H
   clear H
   go_enter Tryd.func5, Tryd.ntmps5
   try go_wp2_with (first | ((with_reducible refine gate_dst (N := 2) rfl ?_); refine boxE (N := 2) (cs := #[.int .i64 a0_0, .slice A0_1 l0_1.length c0_1]) (t := 24) ?_; intro gb310 hg w26 hbox hb; have BK310 := Aside0.mk (hbox); have GE310 := geB HB hg; replace HB := bst HB hb; clear hb hbox hg) | ((with_reducible refine gate_dst (N := 3) rfl ?_); refine boxE (N := 3) (cs := #[.int .i64 a1_0, .slice A1_1 l1_1.length c1_1]) (t := 24) ?_; intro gb311 hg w27 hbox hb; have BK311 := Aside0.mk (hbox); have GE311 := geB HB hg; have NB310_311 := neL BK310 hg; have NB311_310 := neR BK310 hg; replace BK310 := blkB BK310 hb; replace HB := bst HB hb; clear hb hbox hg; have hnb28 := NB310_311.out; have hnc28 := NB311_310.out; obtain ⟨hcz29_0, hcz29_1, hfz29_0, hfz29_1⟩ := blk2 BK310) | ((with_reducible refine gate_callee (f := 15) rfl ?_); refine goesQ (some 19) Tryd.func15 #[.agg #[.int .i64 a0_0, .slice A0_1 l0_1.length c0_1], .int .i64 1048576] ?_; (with_reducible refine (laws_szOrder.calls a0_0 _ _ l0_1 1048576 t312 _ ?side1 ?side2 A3.out).mono ?_); (case side1 => exact C_g HR0_1 HB); (case side2 => exact HC0_1.out); rintro e w30 ⟨rfl, hb⟩; refine ⟨_, rfl, ?_⟩; replace BK310 := blkB BK310 hb; replace BK311 := blkB BK311 hb; replace HB := bst HB hb; (try clear hb); (try clear hk); obtain ⟨hcz31_0, hcz31_1, hfz31_0, hfz31_1⟩ := blk2 BK311) | ((with_reducible refine gate_callee (f := 15) rfl ?_); refine goesQ (some 24) Tryd.func15 #[.agg #[.int .i64 a1_0, .slice A1_1 l1_1.length c1_1], .int .i64 t312] ?_; (with_reducible refine (laws_szOrder.calls a1_0 _ _ l1_1 t312 t313 _ ?side1 ?side2 A10.out).mono ?_); (case side1 => exact C_g HR1_1 HB); (case side2 => exact HC1_1.out); rintro e w32 ⟨rfl, hb⟩; refine ⟨_, rfl, ?_⟩; replace BK310 := blkB BK310 hb; replace BK311 := blkB BK311 hb; replace HB := bst HB hb; (try clear hb); (try clear hk)))
   replace BK310 := Aside0.mk (blk_drew BK310.out)
   replace BK311 := Aside0.mk (blk_drew BK311.out)
   replace HB := Aside0.mk (below_drew1 HB.out)
   refine start_ (n := 11) (S := fun w' => w'.cell? ⟨gb310, 0, none⟩ = some (.int .i64 a0_0) ∧ w'.cell? ⟨gb310, 1, none⟩ = some (.slice A0_1 l0_1.length c0_1) ∧ w'.cell? ⟨gb311, 0, none⟩ = some (.int .i64 a1_0) ∧ w'.cell? ⟨gb311, 1, none⟩ = some (.slice A1_1 l1_1.length c1_1)) (ds := []) (bm 11 0) (by kernel_rfl) rfl (by kernel_rfl) ⟨(blk_cell BK310.out 0).trans rfl, (blk_cell BK310.out 1).trans rfl, (blk_cell BK311.out 0).trans rfl, (blk_cell BK311.out 1).trans rfl⟩ (fun hHeld => ?_); refine with_tabW laws_FnExactMeetOrders.tab8 laws_FnExactMeetOrders.bits8 (fun HT_ HW_ => ?_)
   generalize w32.drew = w33 at BK310 BK311 HB hHeld ⊢
   refine takeW 0 (some 28) (bm 11 1) HT_ HW_ hHeld ?_
   refine takeW 2 (some 30) (bm 11 5) HT_ HW_ hHeld ?_
   refine join_ (σ := Value × Value × Value × Nat) 2 (bm 11 511) (fun s_ => [(29, .agg #[.int .i64 t314, s_.1]), (31, .agg #[.int .i64 t318, s_.2.1]), (32, .tuple #[.agg #[.int .i64 t322, s_.2.2.1], .bool t326]), (6, .pointer (some ⟨s_.2.2.2, 0, none⟩)), (27, .tuple #[.agg #[.int .i64 t322, s_.2.2.1], .bool t326]), (33, .agg #[.int .i64 t322, s_.2.2.1]), (34, .bool t326)]) (fun s_ w' => (w'.cell? ⟨gb310, 0, none⟩ = some (.int .i64 a0_0) ∧ w'.cell? ⟨gb310, 1, none⟩ = some (.slice A0_1 l0_1.length c0_1) ∧ w'.cell? ⟨gb311, 0, none⟩ = some (.int .i64 a1_0) ∧ w'.cell? ⟨gb311, 1, none⟩ = some (.slice A1_1 l1_1.length c1_1)) ∧ (Kd.R (Kd.int .i64) 3 w' w.heap.size (fun k_ => some k_ ≠ (s_.2.1 : Value).ownBlock ∧ some k_ ≠ (s_.2.2.1 : Value).ownBlock) s_.1 t315) ∧ (Kd.R (Kd.int .i64) 3 w' w.heap.size (fun k_ => some k_ ≠ (s_.1 : Value).ownBlock ∧ some k_ ≠ (s_.2.2.1 : Value).ownBlock) s_.2.1 t319) ∧ (Kd.R (Kd.int .i64) 3 w' w.heap.size (fun k_ => some k_ ≠ (s_.1 : Value).ownBlock ∧ some k_ ≠ (s_.2.1 : Value).ownBlock) s_.2.2.1 t323) ∧ (w'.heap[gb310]? = some (.cells #[.int .i64 a0_0, .slice A0_1 l0_1.length c0_1] 24 (0, 0))) ∧ (w'.heap[gb311]? = some (.cells #[.int .i64 a1_0, .slice A1_1 l1_1.length c1_1] 24 (0, 0))) ∧ (w'.heap[s_.2.2.2]? = some (.cells #[.int .i64 0, .slice none 0 0] 28 (0, 0))) ∧ (w.heap.size ≤ s_.2.2.2) ∧ (w.heap.size ≤ s_.2.2.2) ∧ (gb310 ≠ s_.2.2.2) ∧ (s_.2.2.2 ≠ gb310) ∧ (gb311 ≠ s_.2.2.2) ∧ (s_.2.2.2 ≠ gb311) ∧ (Below w.heap.size w w')) ?_ ?_
   rotate_left
   ·intro hCont
    refine two_ (i := 1) (j := 8) (Ni := some 29) (Nj := some 6) (bm 11 7) (bm 11 261) rfl rfl rfl rfl (two_of HT_.out (by kernel_rfl)) (by decide) (by decide) (fun K hK => ?_) (fun K hK => ?_)
    ·skip
     refine goesR Tryd.func17 #[.agg #[.int .i64 a0_0, .slice A0_1 l0_1.length c0_1]] ?_
     with_reducible refine (laws_toOrder.calls k a0_0 _ _ l0_1 t314 t315 _ ?side1 ?side2 A19.out).mono ?_
     (case side1 => exact C_g HR0_1 HB)
     (case side2 => exact HC0_1.out)
     rintro e w34 ⟨v316, rfl, ho0, hb⟩
     refine ⟨_, rfl, ?_⟩
     have HO317 := Aside0.mk (Kd.R_lower ho0 (below_size (bel_g HB.out)))
     replace BK310 := blkB BK310 hb
     replace BK311 := blkB BK311 hb
     replace HB := bst HB hb
     (try clear hb)
     (try clear hb2)
     (try clear hk)
     (try clear hi)
     (try clear ho0)
     refine hK.out _ _ ⟨(blk_cell BK310.out 0).trans rfl, (blk_cell BK310.out 1).trans rfl, (blk_cell BK311.out 0).trans rfl, (blk_cell BK311.out 1).trans rfl⟩ (fun hHeld => ?_)
     clear hK K
     refine normW 29 ?_
     refine two_ (i := 3) (j := 8) (Ni := some 31) (Nj := some 6) (bm 11 15) (bm 11 263) rfl rfl rfl rfl (two_of HT_.out (by kernel_rfl)) (by decide) (by decide) (fun K hK => ?_) (fun K hK => ?_)
     ·skip
      refine goesR Tryd.func17 #[.agg #[.int .i64 a1_0, .slice A1_1 l1_1.length c1_1]] ?_
      with_reducible refine (laws_toOrder.calls k a1_0 _ _ l1_1 t318 t319 _ ?side1 ?side2 A20.out).mono ?_
      (case side1 => exact C_g HR1_1 HB)
      (case side2 => exact HC1_1.out)
      rintro e w35 ⟨v320, rfl, ho0, hb⟩
      refine ⟨_, rfl, ?_⟩
      have HO321 := Aside0.mk (Kd.R_lower (Kd.R_new' ho0 (Kd.R_lt (Kd.R_g HO317.out))) (below_size (bel_g HB.out)))
      replace HO317 := Aside0.mk (Kd.R_elder' (Kd.R_g HO317.out) (Kd.R_base ho0) hb)
      replace BK310 := blkB BK310 hb
      replace BK311 := blkB BK311 hb
      replace HB := bst HB hb
      (try clear hb)
      (try clear hb2)
      (try clear hk)
      (try clear hi)
      (try clear ho0)
      obtain ⟨Ao36, co36, eo36⟩ := Kd.R_slice HO317.out
      (first | subst eo36 | (injection eo36 with f1_ f2_ f3_; have f4_ := f1_.symm; have f5_ := f3_.symm; clear f1_ f2_ f3_; subst f4_; subst f5_))
      obtain ⟨Ao37, co37, eo37⟩ := Kd.R_slice HO321.out
      (first | subst eo37 | (injection eo37 with f1_ f2_ f3_; have f4_ := f1_.symm; have f5_ := f3_.symm; clear f1_ f2_ f3_; subst f4_; subst f5_))
      refine hK.out _ _ ⟨(blk_cell BK310.out 0).trans rfl, (blk_cell BK310.out 1).trans rfl, (blk_cell BK311.out 0).trans rfl, (blk_cell BK311.out 1).trans rfl⟩ (fun hHeld => ?_)
      clear hK K
      refine normW 31 ?_
      refine two_ (i := 4) (j := 8) (Ni := some 32) (Nj := some 6) (bm 11 31) (bm 11 271) rfl rfl rfl rfl (two_of HT_.out (by kernel_rfl)) (by decide) (by decide) (fun K hK => ?_) (fun K hK => ?_)
      ·skip
       refine goesR Tryd.func22 #[.agg #[.int .i64 t314, .slice Ao36 t315.length co36], .agg #[.int .i64 t318, .slice Ao37 t319.length co37]] ?_
       with_reducible refine (spec_MeetOrders.calls k t314 _ _ t315 t318 _ _ t319 t322 t323 t326 _ ?side1 ?side2 ?side3 ?side4 A21.out).mono ?_
       (case side1 => repeat (first | exact (Kd.R_reads' HO317.out).2.2 | (with_reducible refine Kd.C_alloc ?_ _) | (with_reducible refine Kd.C_drewN ?_ _) | (with_reducible refine Kd.C_drew ?_)))
       (case side2 => exact (Kd.R_reads' HO317.out).2.1)
       (case side3 => repeat (first | exact (Kd.R_reads' HO321.out).2.2 | (with_reducible refine Kd.C_alloc ?_ _) | (with_reducible refine Kd.C_drewN ?_ _) | (with_reducible refine Kd.C_drew ?_)))
       (case side4 => exact (Kd.R_reads' HO321.out).2.1)
       rintro e w38 ⟨v324, rfl, ho0, hb⟩
       refine ⟨_, rfl, ?_⟩
       have HO325 := Aside0.mk (Kd.R_lower (Kd.R_new' (Kd.R_new' ho0 (Kd.R_lt (Kd.R_g HO317.out))) (Kd.R_lt (Kd.R_g HO321.out))) (below_size (bel_g HB.out)))
       replace HO317 := Aside0.mk (Kd.R_elder' (Kd.R_g HO317.out) (Kd.R_base ho0) hb)
       replace HO321 := Aside0.mk (Kd.R_elder' (Kd.R_g HO321.out) (Kd.R_base ho0) hb)
       replace BK310 := blkB BK310 hb
       replace BK311 := blkB BK311 hb
       replace HB := bst HB hb
       (try clear hb)
       (try clear hb2)
       (try clear hk)
       (try clear hi)
       (try clear ho0)
       refine hK.out _ _ ⟨(blk_cell BK310.out 0).trans rfl, (blk_cell BK310.out 1).trans rfl, (blk_cell BK311.out 0).trans rfl, (blk_cell BK311.out 1).trans rfl⟩ (fun hHeld => ?_)
       clear hK K
       refine normW 32 ?_
       refine pureW 5 (some 27) (bm 11 63) HT_ ?_
       refine pureW 6 (some 33) (bm 11 127) HT_ ?_
       refine pureW 7 (some 34) (bm 11 255) HT_ ?_
       refine oneW 8 (some 6) (bm 11 511) HT_ (fun K hK => ?_)
       refine box_step ?hg (N := 6) ?hd (cs := #[.int .i64 0, .slice none 0 0]) (t := 28) ?hr ?_; (case hd => rfl); (case hg => rfl); (case hr => first | (go_simp; done) | (go_simp; rfl))
       intro gb327 hg w39 hbox hb
       replace HO317 := Aside0.mk (Kd.R_below (Kd.R_g HO317.out) hb)
       replace HO321 := Aside0.mk (Kd.R_below (Kd.R_g HO321.out) hb)
       replace HO325 := Aside0.mk (Kd.R_below (Kd.R_g HO325.out) hb)
       have BK327 := Aside0.mk (hbox)
       have GW327 := geB HB hg
       have GE327 := geB HB hg
       have NB310_327 := neL BK310 hg
       have NB327_310 := neR BK310 hg
       replace BK310 := blkB BK310 hb
       have NB311_327 := neL BK311 hg
       have NB327_311 := neR BK311 hg
       replace BK311 := blkB BK311 hb
       replace HB := bst HB hb
       clear hb hbox hg
       refine hK.out _ _ ⟨(blk_cell BK310.out 0).trans rfl, (blk_cell BK310.out 1).trans rfl, (blk_cell BK311.out 0).trans rfl, (blk_cell BK311.out 1).trans rfl⟩ (fun hHeld => ?_)
       clear hK K
       refine normW 6 ?_
       exact norm_ (by simp only [putAll, Act.put, List.setIfInBounds_toArray, List.set_cons_zero, List.set_cons_succ]) (hCont (.slice Ao36 t315.length co36, .slice Ao37 t319.length co37, v324, gb327) _ ⟨hHeld, (Kd.R_g (Kd.R_mono HO317.out (fun _ hk => ⟨hk.1.2, hk.2⟩))), (Kd.R_g (Kd.R_mono HO321.out (fun _ hk => ⟨hk.1.2, hk.2⟩))), (Kd.R_g (Kd.R_mono HO325.out (fun _ hk => ⟨hk.1.2, hk.2⟩))), (blk_g BK310.out), (blk_g BK311.out), (blk_g BK327.out), GW327.out, GE327.out, NB310_327.out, NB327_310.out, NB311_327.out, NB327_311.out, (bel_g HB.out)⟩)
      ·skip
       refine box_step ?hg (N := 6) ?hd (cs := #[.int .i64 0, .slice none 0 0]) (t := 28) ?hr ?_; (case hd => rfl); (case hg => rfl); (case hr => first | (go_simp; done) | (go_simp; rfl))
       intro gb327 hg w36 hbox hb
       replace HO317 := Aside0.mk (Kd.R_below (Kd.R_g HO317.out) hb)
       replace HO321 := Aside0.mk (Kd.R_below (Kd.R_g HO321.out) hb)
       have BK327 := Aside0.mk (hbox)
       have GW327 := geB HB hg
       have GE327 := geB HB hg
       have NB310_327 := neL BK310 hg
       have NB327_310 := neR BK310 hg
       replace BK310 := blkB BK310 hb
       have NB311_327 := neL BK311 hg
       have NB327_311 := neR BK311 hg
       replace BK311 := blkB BK311 hb
       replace HB := bst HB hb
       clear hb hbox hg
       obtain ⟨Ao37, co37, eo37⟩ := Kd.R_slice HO317.out
       (first | subst eo37 | (injection eo37 with f1_ f2_ f3_; have f4_ := f1_.symm; have f5_ := f3_.symm; clear f1_ f2_ f3_; subst f4_; subst f5_))
       obtain ⟨Ao38, co38, eo38⟩ := Kd.R_slice HO321.out
       (first | subst eo38 | (injection eo38 with f1_ f2_ f3_; have f4_ := f1_.symm; have f5_ := f3_.symm; clear f1_ f2_ f3_; subst f4_; subst f5_))
       refine hK.out _ _ ⟨(blk_cell BK310.out 0).trans rfl, (blk_cell BK310.out 1).trans rfl, (blk_cell BK311.out 0).trans rfl, (blk_cell BK311.out 1).trans rfl⟩ (fun hHeld => ?_)
       clear hK K
       refine normW 6 ?_
       refine oneW 4 (some 32) (bm 11 287) HT_ (fun K hK => ?_)
       refine goesR Tryd.func22 #[.agg #[.int .i64 t314, .slice Ao37 t315.length co37], .agg #[.int .i64 t318, .slice Ao38 t319.length co38]] ?_
       with_reducible refine (spec_MeetOrders.calls k t314 _ _ t315 t318 _ _ t319 t322 t323 t326 _ ?side1 ?side2 ?side3 ?side4 A21.out).mono ?_
       (case side1 => repeat (first | exact (Kd.R_reads' HO317.out).2.2 | (with_reducible refine Kd.C_alloc ?_ _) | (with_reducible refine Kd.C_drewN ?_ _) | (with_reducible refine Kd.C_drew ?_)))
       (case side2 => exact (Kd.R_reads' HO317.out).2.1)
       (case side3 => repeat (first | exact (Kd.R_reads' HO321.out).2.2 | (with_reducible refine Kd.C_alloc ?_ _) | (with_reducible refine Kd.C_drewN ?_ _) | (with_reducible refine Kd.C_drew ?_)))
       (case side4 => exact (Kd.R_reads' HO321.out).2.1)
       rintro e w39 ⟨v324, rfl, ho0, hb⟩
       refine ⟨_, rfl, ?_⟩
       have HO325 := Aside0.mk (Kd.R_lower (Kd.R_new' (Kd.R_new' ho0 (Kd.R_lt (Kd.R_g HO317.out))) (Kd.R_lt (Kd.R_g HO321.out))) (below_size (bel_g HB.out)))
       replace HO317 := Aside0.mk (Kd.R_elder' (Kd.R_g HO317.out) (Kd.R_base ho0) hb)
       replace HO321 := Aside0.mk (Kd.R_elder' (Kd.R_g HO321.out) (Kd.R_base ho0) hb)
       replace BK310 := blkB BK310 hb
       replace BK311 := blkB BK311 hb
       replace BK327 := blkB BK327 hb
       replace HB := bst HB hb
       (try clear hb)
       (try clear hb2)
       (try clear hk)
       (try clear hi)
       (try clear ho0)
       refine hK.out _ _ ⟨(blk_cell BK310.out 0).trans rfl, (blk_cell BK310.out 1).trans rfl, (blk_cell BK311.out 0).trans rfl, (blk_cell BK311.out 1).trans rfl⟩ (fun hHeld => ?_)
       clear hK K
       refine normW 32 ?_
       refine pureW 5 (some 27) (bm 11 319) HT_ ?_
       refine pureW 6 (some 33) (bm 11 383) HT_ ?_
       refine pureW 7 (some 34) (bm 11 511) HT_ ?_
       exact norm_ (by simp only [putAll, Act.put, List.setIfInBounds_toArray, List.set_cons_zero, List.set_cons_succ]) (hCont (.slice Ao37 t315.length co37, .slice Ao38 t319.length co38, v324, gb327) _ ⟨hHeld, (Kd.R_g (Kd.R_mono HO317.out (fun _ hk => ⟨hk.1.2, hk.2⟩))), (Kd.R_g (Kd.R_mono HO321.out (fun _ hk => ⟨hk.1.2, hk.2⟩))), (Kd.R_g (Kd.R_mono HO325.out (fun _ hk => ⟨hk.1.2, hk.2⟩))), (blk_g BK310.out), (blk_g BK311.out), (blk_g BK327.out), GW327.out, GE327.out, NB310_327.out, NB327_310.out, NB311_327.out, NB327_311.out, (bel_g HB.out)⟩)
     ·skip
      refine box_step ?hg (N := 6) ?hd (cs := #[.int .i64 0, .slice none 0 0]) (t := 28) ?hr ?_; (case hd => rfl); (case hg => rfl); (case hr => first | (go_simp; done) | (go_simp; rfl))
      intro gb327 hg w35 hbox hb
      replace HO317 := Aside0.mk (Kd.R_below (Kd.R_g HO317.out) hb)
      have BK327 := Aside0.mk (hbox)
      have GW327 := geB HB hg
      have GE327 := geB HB hg
      have NB310_327 := neL BK310 hg
      have NB327_310 := neR BK310 hg
      replace BK310 := blkB BK310 hb
      have NB311_327 := neL BK311 hg
      have NB327_311 := neR BK311 hg
      replace BK311 := blkB BK311 hb
      replace HB := bst HB hb
      clear hb hbox hg
      refine hK.out _ _ ⟨(blk_cell BK310.out 0).trans rfl, (blk_cell BK310.out 1).trans rfl, (blk_cell BK311.out 0).trans rfl, (blk_cell BK311.out 1).trans rfl⟩ (fun hHeld => ?_)
      clear hK K
      refine normW 6 ?_
      refine oneW 3 (some 31) (bm 11 271) HT_ (fun K hK => ?_)
      refine goesR Tryd.func17 #[.agg #[.int .i64 a1_0, .slice A1_1 l1_1.length c1_1]] ?_
      with_reducible refine (laws_toOrder.calls k a1_0 _ _ l1_1 t318 t319 _ ?side1 ?side2 A20.out).mono ?_
      (case side1 => exact C_g HR1_1 HB)
      (case side2 => exact HC1_1.out)
      rintro e w36 ⟨v320, rfl, ho0, hb⟩
      refine ⟨_, rfl, ?_⟩
      have HO321 := Aside0.mk (Kd.R_lower (Kd.R_new' ho0 (Kd.R_lt (Kd.R_g HO317.out))) (below_size (bel_g HB.out)))
      replace HO317 := Aside0.mk (Kd.R_elder' (Kd.R_g HO317.out) (Kd.R_base ho0) hb)
      replace BK310 := blkB BK310 hb
      replace BK311 := blkB BK311 hb
      replace BK327 := blkB BK327 hb
      replace HB := bst HB hb
      (try clear hb)
      (try clear hb2)
      (try clear hk)
      (try clear hi)
      (try clear ho0)
      obtain ⟨Ao37, co37, eo37⟩ := Kd.R_slice HO317.out
      (first | subst eo37 | (injection eo37 with f1_ f2_ f3_; have f4_ := f1_.symm; have f5_ := f3_.symm; clear f1_ f2_ f3_; subst f4_; subst f5_))
      obtain ⟨Ao38, co38, eo38⟩ := Kd.R_slice HO321.out
      (first | subst eo38 | (injection eo38 with f1_ f2_ f3_; have f4_ := f1_.symm; have f5_ := f3_.symm; clear f1_ f2_ f3_; subst f4_; subst f5_))
      refine hK.out _ _ ⟨(blk_cell BK310.out 0).trans rfl, (blk_cell BK310.out 1).trans rfl, (blk_cell BK311.out 0).trans rfl, (blk_cell BK311.out 1).trans rfl⟩ (fun hHeld => ?_)
      clear hK K
      refine normW 31 ?_
      refine oneW 4 (some 32) (bm 11 287) HT_ (fun K hK => ?_)
      refine goesR Tryd.func22 #[.agg #[.int .i64 t314, .slice Ao37 t315.length co37], .agg #[.int .i64 t318, .slice Ao38 t319.length co38]] ?_
      with_reducible refine (spec_MeetOrders.calls k t314 _ _ t315 t318 _ _ t319 t322 t323 t326 _ ?side1 ?side2 ?side3 ?side4 A21.out).mono ?_
      (case side1 => repeat (first | exact (Kd.R_reads' HO317.out).2.2 | (with_reducible refine Kd.C_alloc ?_ _) | (with_reducible refine Kd.C_drewN ?_ _) | (with_reducible refine Kd.C_drew ?_)))
      (case side2 => exact (Kd.R_reads' HO317.out).2.1)
      (case side3 => repeat (first | exact (Kd.R_reads' HO321.out).2.2 | (with_reducible refine Kd.C_alloc ?_ _) | (with_reducible refine Kd.C_drewN ?_ _) | (with_reducible refine Kd.C_drew ?_)))
      (case side4 => exact (Kd.R_reads' HO321.out).2.1)
      rintro e w39 ⟨v324, rfl, ho0, hb⟩
      refine ⟨_, rfl, ?_⟩
      have HO325 := Aside0.mk (Kd.R_lower (Kd.R_new' (Kd.R_new' ho0 (Kd.R_lt (Kd.R_g HO317.out))) (Kd.R_lt (Kd.R_g HO321.out))) (below_size (bel_g HB.out)))
      replace HO317 := Aside0.mk (Kd.R_elder' (Kd.R_g HO317.out) (Kd.R_base ho0) hb)
      replace HO321 := Aside0.mk (Kd.R_elder' (Kd.R_g HO321.out) (Kd.R_base ho0) hb)
      replace BK310 := blkB BK310 hb
      replace BK311 := blkB BK311 hb
      replace BK327 := blkB BK327 hb
      replace HB := bst HB hb
      (try clear hb)
      (try clear hb2)
      (try clear hk)
      (try clear hi)
      (try clear ho0)
      refine hK.out _ _ ⟨(blk_cell BK310.out 0).trans rfl, (blk_cell BK310.out 1).trans rfl, (blk_cell BK311.out 0).trans rfl, (blk_cell BK311.out 1).trans rfl⟩ (fun hHeld => ?_)
      clear hK K
      refine normW 32 ?_
      refine pureW 5 (some 27) (bm 11 319) HT_ ?_
      refine pureW 6 (some 33) (bm 11 383) HT_ ?_
      refine pureW 7 (some 34) (bm 11 511) HT_ ?_
      exact norm_ (by simp only [putAll, Act.put, List.setIfInBounds_toArray, List.set_cons_zero, List.set_cons_succ]) (hCont (.slice Ao37 t315.length co37, .slice Ao38 t319.length co38, v324, gb327) _ ⟨hHeld, (Kd.R_g (Kd.R_mono HO317.out (fun _ hk => ⟨hk.1.2, hk.2⟩))), (Kd.R_g (Kd.R_mono HO321.out (fun _ hk => ⟨hk.1.2, hk.2⟩))), (Kd.R_g (Kd.R_mono HO325.out (fun _ hk => ⟨hk.1.2, hk.2⟩))), (blk_g BK310.out), (blk_g BK311.out), (blk_g BK327.out), GW327.out, GE327.out, NB310_327.out, NB327_310.out, NB311_327.out, NB327_311.out, (bel_g HB.out)⟩)
    ·skip
     refine box_step ?hg (N := 6) ?hd (cs := #[.int .i64 0, .slice none 0 0]) (t := 28) ?hr ?_; (case hd => rfl); (case hg => rfl); (case hr => first | (go_simp; done) | (go_simp; rfl))
     intro gb327 hg w34 hbox hb
     have BK327 := Aside0.mk (hbox)
     have GW327 := geB HB hg
     have GE327 := geB HB hg
     have NB310_327 := neL BK310 hg
     have NB327_310 := neR BK310 hg
     replace BK310 := blkB BK310 hb
     have NB311_327 := neL BK311 hg
     have NB327_311 := neR BK311 hg
     replace BK311 := blkB BK311 hb
     replace HB := bst HB hb
     clear hb hbox hg
     refine hK.out _ _ ⟨(blk_cell BK310.out 0).trans rfl, (blk_cell BK310.out 1).trans rfl, (blk_cell BK311.out 0).trans rfl, (blk_cell BK311.out 1).trans rfl⟩ (fun hHeld => ?_)
     clear hK K
     refine normW 6 ?_
     refine oneW 1 (some 29) (bm 11 263) HT_ (fun K hK => ?_)
     refine goesR Tryd.func17 #[.agg #[.int .i64 a0_0, .slice A0_1 l0_1.length c0_1]] ?_
     with_reducible refine (laws_toOrder.calls k a0_0 _ _ l0_1 t314 t315 _ ?side1 ?side2 A19.out).mono ?_
     (case side1 => exact C_g HR0_1 HB)
     (case side2 => exact HC0_1.out)
     rintro e w35 ⟨v316, rfl, ho0, hb⟩
     refine ⟨_, rfl, ?_⟩
     have HO317 := Aside0.mk (Kd.R_lower ho0 (below_size (bel_g HB.out)))
     replace BK310 := blkB BK310 hb
     replace BK311 := blkB BK311 hb
     replace BK327 := blkB BK327 hb
     replace HB := bst HB hb
     (try clear hb)
     (try clear hb2)
     (try clear hk)
     (try clear hi)
     (try clear ho0)
     refine hK.out _ _ ⟨(blk_cell BK310.out 0).trans rfl, (blk_cell BK310.out 1).trans rfl, (blk_cell BK311.out 0).trans rfl, (blk_cell BK311.out 1).trans rfl⟩ (fun hHeld => ?_)
     clear hK K
     refine normW 29 ?_
     refine oneW 3 (some 31) (bm 11 271) HT_ (fun K hK => ?_)
     refine goesR Tryd.func17 #[.agg #[.int .i64 a1_0, .slice A1_1 l1_1.length c1_1]] ?_
     with_reducible refine (laws_toOrder.calls k a1_0 _ _ l1_1 t318 t319 _ ?side1 ?side2 A20.out).mono ?_
     (case side1 => exact C_g HR1_1 HB)
     (case side2 => exact HC1_1.out)
     rintro e w36 ⟨v320, rfl, ho0, hb⟩
     refine ⟨_, rfl, ?_⟩
     have HO321 := Aside0.mk (Kd.R_lower (Kd.R_new' ho0 (Kd.R_lt (Kd.R_g HO317.out))) (below_size (bel_g HB.out)))
     replace HO317 := Aside0.mk (Kd.R_elder' (Kd.R_g HO317.out) (Kd.R_base ho0) hb)
     replace BK310 := blkB BK310 hb
     replace BK311 := blkB BK311 hb
     replace BK327 := blkB BK327 hb
     replace HB := bst HB hb
     (try clear hb)
     (try clear hb2)
     (try clear hk)
     (try clear hi)
     (try clear ho0)
     obtain ⟨Ao37, co37, eo37⟩ := Kd.R_slice HO317.out
     (first | subst eo37 | (injection eo37 with f1_ f2_ f3_; have f4_ := f1_.symm; have f5_ := f3_.symm; clear f1_ f2_ f3_; subst f4_; subst f5_))
     obtain ⟨Ao38, co38, eo38⟩ := Kd.R_slice HO321.out
     (first | subst eo38 | (injection eo38 with f1_ f2_ f3_; have f4_ := f1_.symm; have f5_ := f3_.symm; clear f1_ f2_ f3_; subst f4_; subst f5_))
     refine hK.out _ _ ⟨(blk_cell BK310.out 0).trans rfl, (blk_cell BK310.out 1).trans rfl, (blk_cell BK311.out 0).trans rfl, (blk_cell BK311.out 1).trans rfl⟩ (fun hHeld => ?_)
     clear hK K
     refine normW 31 ?_
     refine oneW 4 (some 32) (bm 11 287) HT_ (fun K hK => ?_)
     refine goesR Tryd.func22 #[.agg #[.int .i64 t314, .slice Ao37 t315.length co37], .agg #[.int .i64 t318, .slice Ao38 t319.length co38]] ?_
     with_reducible refine (spec_MeetOrders.calls k t314 _ _ t315 t318 _ _ t319 t322 t323 t326 _ ?side1 ?side2 ?side3 ?side4 A21.out).mono ?_
     (case side1 => repeat (first | exact (Kd.R_reads' HO317.out).2.2 | (with_reducible refine Kd.C_alloc ?_ _) | (with_reducible refine Kd.C_drewN ?_ _) | (with_reducible refine Kd.C_drew ?_)))
     (case side2 => exact (Kd.R_reads' HO317.out).2.1)
     (case side3 => repeat (first | exact (Kd.R_reads' HO321.out).2.2 | (with_reducible refine Kd.C_alloc ?_ _) | (with_reducible refine Kd.C_drewN ?_ _) | (with_reducible refine Kd.C_drew ?_)))
     (case side4 => exact (Kd.R_reads' HO321.out).2.1)
     rintro e w39 ⟨v324, rfl, ho0, hb⟩
     refine ⟨_, rfl, ?_⟩
     have HO325 := Aside0.mk (Kd.R_lower (Kd.R_new' (Kd.R_new' ho0 (Kd.R_lt (Kd.R_g HO317.out))) (Kd.R_lt (Kd.R_g HO321.out))) (below_size (bel_g HB.out)))
     replace HO317 := Aside0.mk (Kd.R_elder' (Kd.R_g HO317.out) (Kd.R_base ho0) hb)
     replace HO321 := Aside0.mk (Kd.R_elder' (Kd.R_g HO321.out) (Kd.R_base ho0) hb)
     replace BK310 := blkB BK310 hb
     replace BK311 := blkB BK311 hb
     replace BK327 := blkB BK327 hb
     replace HB := bst HB hb
     (try clear hb)
     (try clear hb2)
     (try clear hk)
     (try clear hi)
     (try clear ho0)
     refine hK.out _ _ ⟨(blk_cell BK310.out 0).trans rfl, (blk_cell BK310.out 1).trans rfl, (blk_cell BK311.out 0).trans rfl, (blk_cell BK311.out 1).trans rfl⟩ (fun hHeld => ?_)
     clear hK K
     refine normW 32 ?_
     refine pureW 5 (some 27) (bm 11 319) HT_ ?_
     refine pureW 6 (some 33) (bm 11 383) HT_ ?_
     refine pureW 7 (some 34) (bm 11 511) HT_ ?_
     exact norm_ (by simp only [putAll, Act.put, List.setIfInBounds_toArray, List.set_cons_zero, List.set_cons_succ]) (hCont (.slice Ao37 t315.length co37, .slice Ao38 t319.length co38, v324, gb327) _ ⟨hHeld, (Kd.R_g (Kd.R_mono HO317.out (fun _ hk => ⟨hk.1.2, hk.2⟩))), (Kd.R_g (Kd.R_mono HO321.out (fun _ hk => ⟨hk.1.2, hk.2⟩))), (Kd.R_g (Kd.R_mono HO325.out (fun _ hk => ⟨hk.1.2, hk.2⟩))), (blk_g BK310.out), (blk_g BK311.out), (blk_g BK327.out), GW327.out, GE327.out, NB310_327.out, NB327_310.out, NB311_327.out, NB327_311.out, (bel_g HB.out)⟩)
   rintro ⟨v316, v320, v324, gb327⟩ w40 ⟨hS_, h0_, h1_, h2_, h3_, h4_, h5_, h6_, h7_, h8_, h9_, h10_, h11_, h12_⟩
   have n0_ : Aside0 (Kd.R (Kd.int .i64) 3 w40 w.heap.size (fun k_ => some k_ ≠ (v320 : Value).ownBlock ∧ some k_ ≠ (v324 : Value).ownBlock) v316 t315) := ⟨h0_⟩
   have n1_ : Aside0 (Kd.R (Kd.int .i64) 3 w40 w.heap.size (fun k_ => some k_ ≠ (v316 : Value).ownBlock ∧ some k_ ≠ (v324 : Value).ownBlock) v320 t319) := ⟨h1_⟩
   have n2_ : Aside0 (Kd.R (Kd.int .i64) 3 w40 w.heap.size (fun k_ => some k_ ≠ (v316 : Value).ownBlock ∧ some k_ ≠ (v320 : Value).ownBlock) v324 t323) := ⟨h2_⟩
   have n3_ : Aside0 (w40.heap[gb310]? = some (.cells #[.int .i64 a0_0, .slice A0_1 l0_1.length c0_1] 24 (0, 0))) := ⟨h3_⟩
   have n4_ : Aside0 (w40.heap[gb311]? = some (.cells #[.int .i64 a1_0, .slice A1_1 l1_1.length c1_1] 24 (0, 0))) := ⟨h4_⟩
   have n5_ : Aside0 (w40.heap[gb327]? = some (.cells #[.int .i64 0, .slice none 0 0] 28 (0, 0))) := ⟨h5_⟩
   have n6_ : Ge w.heap.size gb327 := ⟨h6_⟩
   have n7_ : Ge w.heap.size gb327 := ⟨h7_⟩
   have n8_ : Aside0 (gb310 ≠ gb327) := ⟨h8_⟩
   have n9_ : Aside0 (gb327 ≠ gb310) := ⟨h9_⟩
   have n10_ : Aside0 (gb311 ≠ gb327) := ⟨h10_⟩
   have n11_ : Aside0 (gb327 ≠ gb311) := ⟨h11_⟩
   have n12_ : Aside0 (Below w.heap.size w w40) := ⟨h12_⟩
   clear BK310
   clear BK311
   clear HB
   clear h0_ h1_ h2_ h3_ h4_ h5_ h6_ h7_ h8_ h9_ h10_ h11_ h12_
   have HO317 := n0_
   have HO321 := n1_
   have HO325 := n2_
   have BK310 := n3_
   have BK311 := n4_
   have BK327 := n5_
   have GW327 := n6_
   have GE327 := n7_
   have NB310_327 := n8_
   have NB327_310 := n9_
   have NB311_327 := n10_
   have NB327_311 := n11_
   have HB := n12_
   clear n0_ n1_ n2_ n3_ n4_ n5_ n6_ n7_ n8_ n9_ n10_ n11_ n12_
   have hHeld : w40.cell? ⟨gb310, 0, none⟩ = some (.int .i64 a0_0) ∧ w40.cell? ⟨gb310, 1, none⟩ = some (.slice A0_1 l0_1.length c0_1) ∧ w40.cell? ⟨gb311, 0, none⟩ = some (.int .i64 a1_0) ∧ w40.cell? ⟨gb311, 1, none⟩ = some (.slice A1_1 l1_1.length c1_1) := hS_
   obtain ⟨Ao42, co42, eo42⟩ := Kd.R_slice HO325.out
   (first | subst eo42 | (injection eo42 with f1_ f2_ f3_; have f4_ := f1_.symm; have f5_ := f3_.symm; clear f1_ f2_ f3_; subst f4_; subst f5_))
   refine norm_ (a' := ?_) ?_ ?_
   rotate_left
   ·simp only [putAll, Act.put, List.setIfInBounds_toArray, List.set_cons_zero, List.set_cons_succ]
    rfl
   refine oneW 9 (none) (bm 11 1023) HT_ (fun K hK => ?_)
   have hs41 : w40.cell? ⟨gb327, 0, none⟩ = some (.int .i64 0) := (blk_cell BK327.out 0).trans rfl
   have hfs41 := blk_frozen BK327.out 0
   have hns41_0 := NB310_327.out
   have hns41_1 := NB311_327.out
   have hms41_0 := NB327_310.out
   have hms41_1 := NB327_311.out
   have hs43 : w40.cell? ⟨gb327, 1, none⟩ = some (.slice none 0 0) := (blk_cell BK327.out 1).trans rfl
   have hfs43 := blk_frozen BK327.out 1
   have hns43_0 := NB310_327.out
   have hns43_1 := NB311_327.out
   have hms43_0 := NB327_310.out
   have hms43_1 := NB327_311.out
   refine skip_ (w1 := ?_) (by rfl) rfl ?_ ?_
   rotate_left
   ·go_simp
    rfl
   refine hK.out _ _ ⟨((cell_far (p := ⟨gb327, _, none⟩) NB310_327.out _).trans (((cell_far (p := ⟨gb327, _, none⟩) NB310_327.out _).trans (hHeld.1)))), ((cell_far (p := ⟨gb327, _, none⟩) NB310_327.out _).trans (((cell_far (p := ⟨gb327, _, none⟩) NB310_327.out _).trans (hHeld.2.1)))), ((cell_far (p := ⟨gb327, _, none⟩) NB311_327.out _).trans (((cell_far (p := ⟨gb327, _, none⟩) NB311_327.out _).trans (hHeld.2.2.1)))), ((cell_far (p := ⟨gb327, _, none⟩) NB311_327.out _).trans (((cell_far (p := ⟨gb327, _, none⟩) NB311_327.out _).trans (hHeld.2.2.2))))⟩ (fun hHeld => ?_)
   clear hK K
   refine pureW 10 (some 7) (bm 11 2047) HT_ ?_
   refine doneW HT_ ?_
   have hnb44 := NB310_327.out
   have hnc44 := NB327_310.out
   obtain ⟨hcz45_0, hcz45_1, hfz45_0, hfz45_1⟩ := blk2 BK310
   go_upto_region 12 with (first | ((with_reducible refine gate_callee (f := 17) rfl ?_); refine goesQ (some 36) Tryd.func17 #[.agg #[.int .i64 a0_0, .slice A0_1 l0_1.length c0_1]] ?_; (with_reducible refine (laws_toOrder.calls k a0_0 _ _ l0_1 t328 t329 _ ?side1 ?side2 A22.out).mono ?_); (case side1 => exact C_g HR0_1 HB); (case side2 => exact HC0_1.out); rintro e w46 ⟨v330, rfl, ho0, hb⟩; refine ⟨_, rfl, ?_⟩; have HO331 := Aside0.mk (Kd.R_lower (Kd.R_new' (Kd.R_new' (Kd.R_new' ho0 (Kd.R_lt (Kd.R_g ((Kd.R_mono (Kd.R_far (p := ⟨gb327, 1, none⟩) (Kd.R_far (p := ⟨gb327, 0, none⟩) (Kd.R_types HO317.out BK327.out (by decide)) (fun _ hk => hk.2) (.int .i64 t322)) (fun _ hk => hk.2) (.slice Ao42 t323.length co42)) (fun _ h_ => h_.1)))))) (Kd.R_lt (Kd.R_g ((Kd.R_mono (Kd.R_far (p := ⟨gb327, 1, none⟩) (Kd.R_far (p := ⟨gb327, 0, none⟩) (Kd.R_types HO321.out BK327.out (by decide)) (fun _ hk => hk.2) (.int .i64 t322)) (fun _ hk => hk.2) (.slice Ao42 t323.length co42)) (fun _ h_ => h_.1)))))) (Kd.R_lt (Kd.R_g ((Kd.R_mono (Kd.R_far (p := ⟨gb327, 1, none⟩) (Kd.R_far (p := ⟨gb327, 0, none⟩) (Kd.R_types HO325.out BK327.out (by decide)) (fun _ hk => hk.2) (.int .i64 t322)) (fun _ hk => hk.2) (.slice Ao42 t323.length co42)) (fun _ h_ => h_.1)))))) (below_size (bel_g HB.out))); replace HO317 := Aside0.mk (Kd.R_elder' (Kd.R_g ((Kd.R_mono (Kd.R_far (p := ⟨gb327, 1, none⟩) (Kd.R_far (p := ⟨gb327, 0, none⟩) (Kd.R_types HO317.out BK327.out (by decide)) (fun _ hk => hk.2) (.int .i64 t322)) (fun _ hk => hk.2) (.slice Ao42 t323.length co42)) (fun _ h_ => h_.1)))) (Kd.R_base ho0) hb); replace HO321 := Aside0.mk (Kd.R_elder' (Kd.R_g ((Kd.R_mono (Kd.R_far (p := ⟨gb327, 1, none⟩) (Kd.R_far (p := ⟨gb327, 0, none⟩) (Kd.R_types HO321.out BK327.out (by decide)) (fun _ hk => hk.2) (.int .i64 t322)) (fun _ hk => hk.2) (.slice Ao42 t323.length co42)) (fun _ h_ => h_.1)))) (Kd.R_base ho0) hb); replace HO325 := Aside0.mk (Kd.R_elder' (Kd.R_g ((Kd.R_mono (Kd.R_far (p := ⟨gb327, 1, none⟩) (Kd.R_far (p := ⟨gb327, 0, none⟩) (Kd.R_types HO325.out BK327.out (by decide)) (fun _ hk => hk.2) (.int .i64 t322)) (fun _ hk => hk.2) (.slice Ao42 t323.length co42)) (fun _ h_ => h_.1)))) (Kd.R_base ho0) hb); replace BK310 := Aside0.mk (blk_below (g := gb310) (o := .cells #[.int .i64 a0_0, .slice A0_1 l0_1.length c0_1] 24 (0, 0)) (by (with_reducible repeat (first | refine blk_drewN ?_ _ | refine blk_drew ?_ | refine blk_alloc ?_ _)); refine blk_far ?_ NB310_327.out _; (with_reducible repeat (first | refine blk_drewN ?_ _ | refine blk_drew ?_ | refine blk_alloc ?_ _)); refine blk_far ?_ NB310_327.out _; (with_reducible repeat (first | refine blk_drewN ?_ _ | refine blk_drew ?_ | refine blk_alloc ?_ _)); exact BK310.out) hb); replace BK311 := Aside0.mk (blk_below (g := gb311) (o := .cells #[.int .i64 a1_0, .slice A1_1 l1_1.length c1_1] 24 (0, 0)) (by (with_reducible repeat (first | refine blk_drewN ?_ _ | refine blk_drew ?_ | refine blk_alloc ?_ _)); refine blk_far ?_ NB311_327.out _; (with_reducible repeat (first | refine blk_drewN ?_ _ | refine blk_drew ?_ | refine blk_alloc ?_ _)); refine blk_far ?_ NB311_327.out _; (with_reducible repeat (first | refine blk_drewN ?_ _ | refine blk_drew ?_ | refine blk_alloc ?_ _)); exact BK311.out) hb); replace BK327 := Aside0.mk (blk_below (g := gb327) (o := .cells #[.int .i64 t322, .slice Ao42 t323.length co42] 28 (0, 0)) (by (with_reducible repeat (first | refine blk_drewN ?_ _ | refine blk_drew ?_ | refine blk_alloc ?_ _)); refine blk_put (cs := #[.int .i64 t322, .slice none 0 0]) ?_ 1 _ rfl; (with_reducible repeat (first | refine blk_drewN ?_ _ | refine blk_drew ?_ | refine blk_alloc ?_ _)); refine blk_put (cs := #[.int .i64 0, .slice none 0 0]) ?_ 0 _ rfl; (with_reducible repeat (first | refine blk_drewN ?_ _ | refine blk_drew ?_ | refine blk_alloc ?_ _)); exact BK327.out) hb); replace HB := bst HB hb; (try clear hb); (try clear hk); (try clear ho0)) | ((with_reducible refine gate_dst (N := 8) rfl ?_); refine boxE (N := 8) (cs := #[.int .i64 0, .slice none 0 0]) (t := 28) ?_; intro gb332 hg w47 hbox hb; replace HO317 := Aside0.mk (Kd.R_below (Kd.R_g HO317.out) hb); replace HO321 := Aside0.mk (Kd.R_below (Kd.R_g HO321.out) hb); replace HO325 := Aside0.mk (Kd.R_below (Kd.R_g HO325.out) hb); replace HO331 := Aside0.mk (Kd.R_below (Kd.R_g HO331.out) hb); have BK332 := Aside0.mk (hbox); have GE332 := geB HB hg; have NB310_332 := neL BK310 hg; have NB332_310 := neR BK310 hg; replace BK310 := blkB BK310 hb; have NB311_332 := neL BK311 hg; have NB332_311 := neR BK311 hg; replace BK311 := blkB BK311 hb; have NB327_332 := neL BK327 hg; have NB332_327 := neR BK327 hg; replace BK327 := blkB BK327 hb; replace HB := bst HB hb; clear hb hbox hg; have hnb48 := NB332_310.out; have hnc48 := NB310_332.out; have hnb49 := NB332_311.out; have hnc49 := NB311_332.out; have hnb50 := NB332_327.out; have hnc50 := NB327_332.out; obtain ⟨hcz51_0, hcz51_1, hfz51_0, hfz51_1⟩ := blk2 BK332; obtain ⟨Ao52, co52, eo52⟩ := Kd.R_slice HO331.out; subst eo52; have hnb53 := NB311_327.out; have hnc53 := NB327_311.out; obtain ⟨hcz54_0, hcz54_1, hfz54_0, hfz54_1⟩ := blk2 BK311) | ((with_reducible refine gate_callee (f := 17) rfl ?_); refine goesQ (some 38) Tryd.func17 #[.agg #[.int .i64 a1_0, .slice A1_1 l1_1.length c1_1]] ?_; (with_reducible refine (laws_toOrder.calls k a1_0 _ _ l1_1 t333 t334 _ ?side1 ?side2 A23.out).mono ?_); (case side1 => exact C_g HR1_1 HB); (case side2 => exact HC1_1.out); rintro e w55 ⟨v335, rfl, ho0, hb⟩; refine ⟨_, rfl, ?_⟩; have HO336 := Aside0.mk (Kd.R_lower (Kd.R_new' (Kd.R_new' (Kd.R_new' (Kd.R_new' ho0 (Kd.R_lt (Kd.R_g ((Kd.R_mono (Kd.R_far (p := ⟨gb332, 1, none⟩) (Kd.R_far (p := ⟨gb332, 0, none⟩) (Kd.R_types HO317.out BK332.out (by decide)) (fun _ hk => hk.2) (.int .i64 t328)) (fun _ hk => hk.2) (.slice Ao52 t329.length co52)) (fun _ h_ => h_.1)))))) (Kd.R_lt (Kd.R_g ((Kd.R_mono (Kd.R_far (p := ⟨gb332, 1, none⟩) (Kd.R_far (p := ⟨gb332, 0, none⟩) (Kd.R_types HO321.out BK332.out (by decide)) (fun _ hk => hk.2) (.int .i64 t328)) (fun _ hk => hk.2) (.slice Ao52 t329.length co52)) (fun _ h_ => h_.1)))))) (Kd.R_lt (Kd.R_g ((Kd.R_mono (Kd.R_far (p := ⟨gb332, 1, none⟩) (Kd.R_far (p := ⟨gb332, 0, none⟩) (Kd.R_types HO325.out BK332.out (by decide)) (fun _ hk => hk.2) (.int .i64 t328)) (fun _ hk => hk.2) (.slice Ao52 t329.length co52)) (fun _ h_ => h_.1)))))) (Kd.R_lt (Kd.R_g ((Kd.R_mono (Kd.R_far (p := ⟨gb332, 1, none⟩) (Kd.R_far (p := ⟨gb332, 0, none⟩) (Kd.R_types HO331.out BK332.out (by decide)) (fun _ hk => hk.2) (.int .i64 t328)) (fun _ hk => hk.2) (.slice Ao52 t329.length co52)) (fun _ h_ => h_.1)))))) (below_size (bel_g HB.out))); replace HO317 := Aside0.mk (Kd.R_elder' (Kd.R_g ((Kd.R_mono (Kd.R_far (p := ⟨gb332, 1, none⟩) (Kd.R_far (p := ⟨gb332, 0, none⟩) (Kd.R_types HO317.out BK332.out (by decide)) (fun _ hk => hk.2) (.int .i64 t328)) (fun _ hk => hk.2) (.slice Ao52 t329.length co52)) (fun _ h_ => h_.1)))) (Kd.R_base ho0) hb); replace HO321 := Aside0.mk (Kd.R_elder' (Kd.R_g ((Kd.R_mono (Kd.R_far (p := ⟨gb332, 1, none⟩) (Kd.R_far (p := ⟨gb332, 0, none⟩) (Kd.R_types HO321.out BK332.out (by decide)) (fun _ hk => hk.2) (.int .i64 t328)) (fun _ hk => hk.2) (.slice Ao52 t329.length co52)) (fun _ h_ => h_.1)))) (Kd.R_base ho0) hb); replace HO325 := Aside0.mk (Kd.R_elder' (Kd.R_g ((Kd.R_mono (Kd.R_far (p := ⟨gb332, 1, none⟩) (Kd.R_far (p := ⟨gb332, 0, none⟩) (Kd.R_types HO325.out BK332.out (by decide)) (fun _ hk => hk.2) (.int .i64 t328)) (fun _ hk => hk.2) (.slice Ao52 t329.length co52)) (fun _ h_ => h_.1)))) (Kd.R_base ho0) hb); replace HO331 := Aside0.mk (Kd.R_elder' (Kd.R_g ((Kd.R_mono (Kd.R_far (p := ⟨gb332, 1, none⟩) (Kd.R_far (p := ⟨gb332, 0, none⟩) (Kd.R_types HO331.out BK332.out (by decide)) (fun _ hk => hk.2) (.int .i64 t328)) (fun _ hk => hk.2) (.slice Ao52 t329.length co52)) (fun _ h_ => h_.1)))) (Kd.R_base ho0) hb); replace BK310 := Aside0.mk (blk_below (g := gb310) (o := .cells #[.int .i64 a0_0, .slice A0_1 l0_1.length c0_1] 24 (0, 0)) (by (with_reducible repeat (first | refine blk_drewN ?_ _ | refine blk_drew ?_ | refine blk_alloc ?_ _)); refine blk_far ?_ NB310_332.out _; (with_reducible repeat (first | refine blk_drewN ?_ _ | refine blk_drew ?_ | refine blk_alloc ?_ _)); refine blk_far ?_ NB310_332.out _; (with_reducible repeat (first | refine blk_drewN ?_ _ | refine blk_drew ?_ | refine blk_alloc ?_ _)); exact BK310.out) hb); replace BK311 := Aside0.mk (blk_below (g := gb311) (o := .cells #[.int .i64 a1_0, .slice A1_1 l1_1.length c1_1] 24 (0, 0)) (by (with_reducible repeat (first | refine blk_drewN ?_ _ | refine blk_drew ?_ | refine blk_alloc ?_ _)); refine blk_far ?_ NB311_332.out _; (with_reducible repeat (first | refine blk_drewN ?_ _ | refine blk_drew ?_ | refine blk_alloc ?_ _)); refine blk_far ?_ NB311_332.out _; (with_reducible repeat (first | refine blk_drewN ?_ _ | refine blk_drew ?_ | refine blk_alloc ?_ _)); exact BK311.out) hb); replace BK327 := Aside0.mk (blk_below (g := gb327) (o := .cells #[.int .i64 t322, .slice Ao42 t323.length co42] 28 (0, 0)) (by (with_reducible repeat (first | refine blk_drewN ?_ _ | refine blk_drew ?_ | refine blk_alloc ?_ _)); refine blk_far ?_ NB327_332.out _; (with_reducible repeat (first | refine blk_drewN ?_ _ | refine blk_drew ?_ | refine blk_alloc ?_ _)); refine blk_far ?_ NB327_332.out _; (with_reducible repeat (first | refine blk_drewN ?_ _ | refine blk_drew ?_ | refine blk_alloc ?_ _)); exact BK327.out) hb); replace BK332 := Aside0.mk (blk_below (g := gb332) (o := .cells #[.int .i64 t328, .slice Ao52 t329.length co52] 28 (0, 0)) (by (with_reducible repeat (first | refine blk_drewN ?_ _ | refine blk_drew ?_ | refine blk_alloc ?_ _)); refine blk_put (cs := #[.int .i64 t328, .slice none 0 0]) ?_ 1 _ rfl; (with_reducible repeat (first | refine blk_drewN ?_ _ | refine blk_drew ?_ | refine blk_alloc ?_ _)); refine blk_put (cs := #[.int .i64 0, .slice none 0 0]) ?_ 0 _ rfl; (with_reducible repeat (first | refine blk_drewN ?_ _ | refine blk_drew ?_ | refine blk_alloc ?_ _)); exact BK332.out) hb); replace HB := bst HB hb; (try clear hb); (try clear hk); (try clear ho0)) | ((with_reducible refine gate_dst (N := 9) rfl ?_); refine boxE (N := 9) (cs := #[.int .i64 0, .slice none 0 0]) (t := 28) ?_; intro gb337 hg w56 hbox hb; replace HO317 := Aside0.mk (Kd.R_below (Kd.R_g HO317.out) hb); replace HO321 := Aside0.mk (Kd.R_below (Kd.R_g HO321.out) hb); replace HO325 := Aside0.mk (Kd.R_below (Kd.R_g HO325.out) hb); replace HO331 := Aside0.mk (Kd.R_below (Kd.R_g HO331.out) hb); replace HO336 := Aside0.mk (Kd.R_below (Kd.R_g HO336.out) hb); have BK337 := Aside0.mk (hbox); have GE337 := geB HB hg; have NB310_337 := neL BK310 hg; have NB337_310 := neR BK310 hg; replace BK310 := blkB BK310 hb; have NB311_337 := neL BK311 hg; have NB337_311 := neR BK311 hg; replace BK311 := blkB BK311 hb; have NB327_337 := neL BK327 hg; have NB337_327 := neR BK327 hg; replace BK327 := blkB BK327 hb; have NB332_337 := neL BK332 hg; have NB337_332 := neR BK332 hg; replace BK332 := blkB BK332 hb; replace HB := bst HB hb; clear hb hbox hg; have hnb57 := NB337_310.out; have hnc57 := NB310_337.out; have hnb58 := NB337_311.out; have hnc58 := NB311_337.out; have hnb59 := NB337_327.out; have hnc59 := NB327_337.out; have hnb60 := NB337_332.out; have hnc60 := NB332_337.out; obtain ⟨hcz61_0, hcz61_1, hfz61_0, hfz61_1⟩ := blk2 BK337; obtain ⟨Ao62, co62, eo62⟩ := Kd.R_slice HO336.out; subst eo62; obtain ⟨hcz63_0, hcz63_1, hfz63_0, hfz63_1⟩ := blk2 BK332) | ((with_reducible refine gate_callee (f := 23) rfl ?_); refine goesQ (some 42) Tryd.func23 #[.agg #[.int .i64 t328, .slice Ao52 t329.length co52], .agg #[.int .i64 t333, .slice Ao62 t334.length co62]] ?_; (with_reducible refine (impl_MeetOrders.calls k t328 _ _ t329 t333 _ _ t334 t338 t339 t342 _ ?side1 ?side2 ?side3 ?side4 ?side5 A24.out).mono ?_); (case side1 => refine (Kd.R_reads' (e := 3) (base := w.heap.size) (ok := fun k_ => ((((True ∧ some k_ ≠ (v316 : Value).ownBlock) ∧ some k_ ≠ (v320 : Value).ownBlock) ∧ some k_ ≠ (.slice Ao42 t323.length co42 : Value).ownBlock) ∧ some k_ ≠ (.slice Ao62 t334.length co62 : Value).ownBlock)) (n := t329.length) (c := co52) ?_).2.2; exact (Kd.R_g ((Kd.R_mono (Kd.R_far (p := ⟨gb337, 1, none⟩) (Kd.R_far (p := ⟨gb337, 0, none⟩) (Kd.R_types HO331.out BK337.out (by decide)) (fun _ hk => hk.2) (.int .i64 t333)) (fun _ hk => hk.2) (.slice Ao62 t334.length co62)) (fun _ h_ => h_.1))))); (case side2 => exact (Kd.R_reads' HO331.out).2.1); (case side3 => refine (Kd.R_reads' (e := 3) (base := w.heap.size) (ok := fun k_ => ((((True ∧ some k_ ≠ (v316 : Value).ownBlock) ∧ some k_ ≠ (v320 : Value).ownBlock) ∧ some k_ ≠ (.slice Ao42 t323.length co42 : Value).ownBlock) ∧ some k_ ≠ (.slice Ao52 t329.length co52 : Value).ownBlock)) (n := t334.length) (c := co62) ?_).2.2; exact (Kd.R_g ((Kd.R_mono (Kd.R_far (p := ⟨gb337, 1, none⟩) (Kd.R_far (p := ⟨gb337, 0, none⟩) (Kd.R_types HO336.out BK337.out (by decide)) (fun _ hk => hk.2) (.int .i64 t333)) (fun _ hk => hk.2) (.slice Ao62 t334.length co62)) (fun _ h_ => h_.1))))); (case side4 => exact (Kd.R_reads' HO336.out).2.1); (case side5 => first | exact HTAB.out | exact Tab.drewN HTAB.out _ | exact Tab.below HTAB.out (bel_g HB.out) | exact Tab.below HTAB.out (by repeat (first | exact Below.refl _ _ | apply below_alloc | apply pw_below_drewN | apply below_drew1))); rintro e w64 ⟨v340, rfl, ho0, hb⟩; refine ⟨_, rfl, ?_⟩; have HO341 := Aside0.mk (Kd.R_lower (Kd.R_new' (Kd.R_new' (Kd.R_new' (Kd.R_new' (Kd.R_new' ho0 (Kd.R_lt (Kd.R_g ((Kd.R_mono (Kd.R_far (p := ⟨gb337, 1, none⟩) (Kd.R_far (p := ⟨gb337, 0, none⟩) (Kd.R_types HO317.out BK337.out (by decide)) (fun _ hk => hk.2) (.int .i64 t333)) (fun _ hk => hk.2) (.slice Ao62 t334.length co62)) (fun _ h_ => h_.1)))))) (Kd.R_lt (Kd.R_g ((Kd.R_mono (Kd.R_far (p := ⟨gb337, 1, none⟩) (Kd.R_far (p := ⟨gb337, 0, none⟩) (Kd.R_types HO321.out BK337.out (by decide)) (fun _ hk => hk.2) (.int .i64 t333)) (fun _ hk => hk.2) (.slice Ao62 t334.length co62)) (fun _ h_ => h_.1)))))) (Kd.R_lt (Kd.R_g ((Kd.R_mono (Kd.R_far (p := ⟨gb337, 1, none⟩) (Kd.R_far (p := ⟨gb337, 0, none⟩) (Kd.R_types HO325.out BK337.out (by decide)) (fun _ hk => hk.2) (.int .i64 t333)) (fun _ hk => hk.2) (.slice Ao62 t334.length co62)) (fun _ h_ => h_.1)))))) (Kd.R_lt (Kd.R_g ((Kd.R_mono (Kd.R_far (p := ⟨gb337, 1, none⟩) (Kd.R_far (p := ⟨gb337, 0, none⟩) (Kd.R_types HO331.out BK337.out (by decide)) (fun _ hk => hk.2) (.int .i64 t333)) (fun _ hk => hk.2) (.slice Ao62 t334.length co62)) (fun _ h_ => h_.1)))))) (Kd.R_lt (Kd.R_g ((Kd.R_mono (Kd.R_far (p := ⟨gb337, 1, none⟩) (Kd.R_far (p := ⟨gb337, 0, none⟩) (Kd.R_types HO336.out BK337.out (by decide)) (fun _ hk => hk.2) (.int .i64 t333)) (fun _ hk => hk.2) (.slice Ao62 t334.length co62)) (fun _ h_ => h_.1)))))) (below_size (bel_g HB.out))); replace HO317 := Aside0.mk (Kd.R_elder' (Kd.R_g ((Kd.R_mono (Kd.R_far (p := ⟨gb337, 1, none⟩) (Kd.R_far (p := ⟨gb337, 0, none⟩) (Kd.R_types HO317.out BK337.out (by decide)) (fun _ hk => hk.2) (.int .i64 t333)) (fun _ hk => hk.2) (.slice Ao62 t334.length co62)) (fun _ h_ => h_.1)))) (Kd.R_base ho0) hb); replace HO321 := Aside0.mk (Kd.R_elder' (Kd.R_g ((Kd.R_mono (Kd.R_far (p := ⟨gb337, 1, none⟩) (Kd.R_far (p := ⟨gb337, 0, none⟩) (Kd.R_types HO321.out BK337.out (by decide)) (fun _ hk => hk.2) (.int .i64 t333)) (fun _ hk => hk.2) (.slice Ao62 t334.length co62)) (fun _ h_ => h_.1)))) (Kd.R_base ho0) hb); replace HO325 := Aside0.mk (Kd.R_elder' (Kd.R_g ((Kd.R_mono (Kd.R_far (p := ⟨gb337, 1, none⟩) (Kd.R_far (p := ⟨gb337, 0, none⟩) (Kd.R_types HO325.out BK337.out (by decide)) (fun _ hk => hk.2) (.int .i64 t333)) (fun _ hk => hk.2) (.slice Ao62 t334.length co62)) (fun _ h_ => h_.1)))) (Kd.R_base ho0) hb); replace HO331 := Aside0.mk (Kd.R_elder' (Kd.R_g ((Kd.R_mono (Kd.R_far (p := ⟨gb337, 1, none⟩) (Kd.R_far (p := ⟨gb337, 0, none⟩) (Kd.R_types HO331.out BK337.out (by decide)) (fun _ hk => hk.2) (.int .i64 t333)) (fun _ hk => hk.2) (.slice Ao62 t334.length co62)) (fun _ h_ => h_.1)))) (Kd.R_base ho0) hb); replace HO336 := Aside0.mk (Kd.R_elder' (Kd.R_g ((Kd.R_mono (Kd.R_far (p := ⟨gb337, 1, none⟩) (Kd.R_far (p := ⟨gb337, 0, none⟩) (Kd.R_types HO336.out BK337.out (by decide)) (fun _ hk => hk.2) (.int .i64 t333)) (fun _ hk => hk.2) (.slice Ao62 t334.length co62)) (fun _ h_ => h_.1)))) (Kd.R_base ho0) hb); replace BK310 := Aside0.mk (blk_below (g := gb310) (o := .cells #[.int .i64 a0_0, .slice A0_1 l0_1.length c0_1] 24 (0, 0)) (by (with_reducible repeat (first | refine blk_drewN ?_ _ | refine blk_drew ?_ | refine blk_alloc ?_ _)); refine blk_far ?_ NB310_337.out _; (with_reducible repeat (first | refine blk_drewN ?_ _ | refine blk_drew ?_ | refine blk_alloc ?_ _)); refine blk_far ?_ NB310_337.out _; (with_reducible repeat (first | refine blk_drewN ?_ _ | refine blk_drew ?_ | refine blk_alloc ?_ _)); exact BK310.out) hb); replace BK311 := Aside0.mk (blk_below (g := gb311) (o := .cells #[.int .i64 a1_0, .slice A1_1 l1_1.length c1_1] 24 (0, 0)) (by (with_reducible repeat (first | refine blk_drewN ?_ _ | refine blk_drew ?_ | refine blk_alloc ?_ _)); refine blk_far ?_ NB311_337.out _; (with_reducible repeat (first | refine blk_drewN ?_ _ | refine blk_drew ?_ | refine blk_alloc ?_ _)); refine blk_far ?_ NB311_337.out _; (with_reducible repeat (first | refine blk_drewN ?_ _ | refine blk_drew ?_ | refine blk_alloc ?_ _)); exact BK311.out) hb); replace BK327 := Aside0.mk (blk_below (g := gb327) (o := .cells #[.int .i64 t322, .slice Ao42 t323.length co42] 28 (0, 0)) (by (with_reducible repeat (first | refine blk_drewN ?_ _ | refine blk_drew ?_ | refine blk_alloc ?_ _)); refine blk_far ?_ NB327_337.out _; (with_reducible repeat (first | refine blk_drewN ?_ _ | refine blk_drew ?_ | refine blk_alloc ?_ _)); refine blk_far ?_ NB327_337.out _; (with_reducible repeat (first | refine blk_drewN ?_ _ | refine blk_drew ?_ | refine blk_alloc ?_ _)); exact BK327.out) hb); replace BK332 := Aside0.mk (blk_below (g := gb332) (o := .cells #[.int .i64 t328, .slice Ao52 t329.length co52] 28 (0, 0)) (by (with_reducible repeat (first | refine blk_drewN ?_ _ | refine blk_drew ?_ | refine blk_alloc ?_ _)); refine blk_far ?_ NB332_337.out _; (with_reducible repeat (first | refine blk_drewN ?_ _ | refine blk_drew ?_ | refine blk_alloc ?_ _)); refine blk_far ?_ NB332_337.out _; (with_reducible repeat (first | refine blk_drewN ?_ _ | refine blk_drew ?_ | refine blk_alloc ?_ _)); exact BK332.out) hb); replace BK337 := Aside0.mk (blk_below (g := gb337) (o := .cells #[.int .i64 t333, .slice Ao62 t334.length co62] 28 (0, 0)) (by (with_reducible repeat (first | refine blk_drewN ?_ _ | refine blk_drew ?_ | refine blk_alloc ?_ _)); refine blk_put (cs := #[.int .i64 t333, .slice none 0 0]) ?_ 1 _ rfl; (with_reducible repeat (first | refine blk_drewN ?_ _ | refine blk_drew ?_ | refine blk_alloc ?_ _)); refine blk_put (cs := #[.int .i64 0, .slice none 0 0]) ?_ 0 _ rfl; (with_reducible repeat (first | refine blk_drewN ?_ _ | refine blk_drew ?_ | refine blk_alloc ?_ _)); exact BK337.out) hb); replace HB := bst HB hb; (try clear hb); (try clear hk); (try clear ho0)) | ((with_reducible refine gate_dst (N := 10) rfl ?_); refine boxE (N := 10) (cs := #[.int .i64 0, .slice none 0 0]) (t := 28) ?_; intro gb343 hg w65 hbox hb; replace HO317 := Aside0.mk (Kd.R_below (Kd.R_g HO317.out) hb); replace HO321 := Aside0.mk (Kd.R_below (Kd.R_g HO321.out) hb); replace HO325 := Aside0.mk (Kd.R_below (Kd.R_g HO325.out) hb); replace HO331 := Aside0.mk (Kd.R_below (Kd.R_g HO331.out) hb); replace HO336 := Aside0.mk (Kd.R_below (Kd.R_g HO336.out) hb); replace HO341 := Aside0.mk (Kd.R_below (Kd.R_g HO341.out) hb); have BK343 := Aside0.mk (hbox); have GE343 := geB HB hg; have NB310_343 := neL BK310 hg; have NB343_310 := neR BK310 hg; replace BK310 := blkB BK310 hb; have NB311_343 := neL BK311 hg; have NB343_311 := neR BK311 hg; replace BK311 := blkB BK311 hb; have NB327_343 := neL BK327 hg; have NB343_327 := neR BK327 hg; replace BK327 := blkB BK327 hb; have NB332_343 := neL BK332 hg; have NB343_332 := neR BK332 hg; replace BK332 := blkB BK332 hb; have NB337_343 := neL BK337 hg; have NB343_337 := neR BK337 hg; replace BK337 := blkB BK337 hb; replace HB := bst HB hb; clear hb hbox hg; have hnb66 := NB343_310.out; have hnc66 := NB310_343.out; have hnb67 := NB343_311.out; have hnc67 := NB311_343.out; have hnb68 := NB343_327.out; have hnc68 := NB327_343.out; have hnb69 := NB343_332.out; have hnc69 := NB332_343.out; have hnb70 := NB343_337.out; have hnc70 := NB337_343.out; obtain ⟨hcz71_0, hcz71_1, hfz71_0, hfz71_1⟩ := blk2 BK343; obtain ⟨Ao72, co72, eo72⟩ := Kd.R_slice HO341.out; subst eo72))
   (try simp only [Act.put, List.setIfInBounds_toArray, List.set_cons_zero, List.set_cons_succ])
   go_cut [53] (fun v53 wc => ∃ (kq : Nat) (x53_24 : Bool), v53 = .bool x53_24 ∧ Aside0 (laws_FnExactMeetOrders.j0 kq t326 t342 x53_24 a0_0 l0_1 a1_0 l1_1 t322 t323 t328 t329 t333 t334 t338 t339 = some r) ∧ Aside0 (kq ≤ k) ∧ Aside0 (Kd.R (Kd.int .i64) 3 wc w.heap.size (fun k_ => some k_ ≠ ((.slice Ao52 t329.length co52) : Value).ownBlock ∧ some k_ ≠ ((.slice Ao62 t334.length co62) : Value).ownBlock ∧ some k_ ≠ ((.slice Ao72 t339.length co72) : Value).ownBlock) (.slice Ao42 t323.length co42) t323) ∧ Aside0 (Kd.R (Kd.int .i64) 3 wc w.heap.size (fun k_ => some k_ ≠ ((.slice Ao42 t323.length co42) : Value).ownBlock ∧ some k_ ≠ ((.slice Ao62 t334.length co62) : Value).ownBlock ∧ some k_ ≠ ((.slice Ao72 t339.length co72) : Value).ownBlock) (.slice Ao52 t329.length co52) t329) ∧ Aside0 (Kd.R (Kd.int .i64) 3 wc w.heap.size (fun k_ => some k_ ≠ ((.slice Ao42 t323.length co42) : Value).ownBlock ∧ some k_ ≠ ((.slice Ao52 t329.length co52) : Value).ownBlock ∧ some k_ ≠ ((.slice Ao72 t339.length co72) : Value).ownBlock) (.slice Ao62 t334.length co62) t334) ∧ Aside0 (Kd.R (Kd.int .i64) 3 wc w.heap.size (fun k_ => some k_ ≠ ((.slice Ao42 t323.length co42) : Value).ownBlock ∧ some k_ ≠ ((.slice Ao52 t329.length co52) : Value).ownBlock ∧ some k_ ≠ ((.slice Ao62 t334.length co62) : Value).ownBlock) (.slice Ao72 t339.length co72) t339) ∧ Aside0 (wc.heap[gb310]? = some (.cells #[.int .i64 a0_0, (.slice A0_1 l0_1.length c0_1)] 24 (0, 0))) ∧ Aside0 (wc.heap[gb311]? = some (.cells #[.int .i64 a1_0, (.slice A1_1 l1_1.length c1_1)] 24 (0, 0))) ∧ Aside0 (wc.heap[gb327]? = some (.cells #[.int .i64 t322, (.slice Ao42 t323.length co42)] 28 (0, 0))) ∧ Aside0 (wc.heap[gb332]? = some (.cells #[.int .i64 t328, (.slice Ao52 t329.length co52)] 28 (0, 0))) ∧ Aside0 (wc.heap[gb337]? = some (.cells #[.int .i64 t333, (.slice Ao62 t334.length co62)] 28 (0, 0))) ∧ Aside0 (wc.heap[gb343]? = some (.cells #[.int .i64 t338, (.slice Ao72 t339.length co72)] 28 (0, 0))) ∧ Aside0 (Below w.heap.size w wc))
   case first =>
    have H := HC25.out
    clear HC25
    obtain ⟨t344, A73, H⟩ := obE H
    by_cases c74 : t344 = true
    ·subst c74
     replace H := ifT H
     have H' := Aside0.mk H
     clear H
     have hnb75 := NB343_310.out
     have hnc75 := NB310_343.out
     have hnb76 := NB343_311.out
     have hnc76 := NB311_343.out
     have hnb77 := NB343_327.out
     have hnc77 := NB327_343.out
     have hnb78 := NB343_332.out
     have hnc78 := NB332_343.out
     have hnb79 := NB343_337.out
     have hnc79 := NB337_343.out
     obtain ⟨hcz80_0, hcz80_1, hfz80_0, hfz80_1⟩ := blk2 BK343
     have hnb81 := NB327_310.out
     have hnc81 := NB310_327.out
     have hnb82 := NB327_311.out
     have hnc82 := NB311_327.out
     have hnb83 := NB327_332.out
     have hnc83 := NB332_327.out
     have hnb84 := NB327_337.out
     have hnc84 := NB337_327.out
     obtain ⟨hcz85_0, hcz85_1, hfz85_0, hfz85_1⟩ := blk2 BK327
     go_wp2_with (first | ((with_reducible refine gate_callee (f := 19) rfl ?_); refine goesQ (some 47) Tryd.func19 #[.agg #[.int .i64 t338, .slice Ao72 t339.length co72], .agg #[.int .i64 t322, .slice Ao42 t323.length co42]] ?_; (with_reducible refine (laws_eqOrder.calls k t338 _ _ t339 t322 _ _ t323 true _ ?side1 ?side2 ?side3 ?side4 A73.out).mono ?_); (case side1 => refine (Kd.R_reads' (e := 3) (base := w.heap.size) (ok := fun k_ => (((((True ∧ some k_ ≠ (v316 : Value).ownBlock) ∧ some k_ ≠ (v320 : Value).ownBlock) ∧ some k_ ≠ (.slice Ao42 t323.length co42 : Value).ownBlock) ∧ some k_ ≠ (.slice Ao52 t329.length co52 : Value).ownBlock) ∧ some k_ ≠ (.slice Ao62 t334.length co62 : Value).ownBlock)) (n := t339.length) (c := co72) ?_).2.2; exact (Kd.R_g ((Kd.R_mono (Kd.R_far (p := ⟨gb343, 1, none⟩) (Kd.R_far (p := ⟨gb343, 0, none⟩) (Kd.R_types HO341.out BK343.out (by decide)) (fun _ hk => hk.2) (.int .i64 t338)) (fun _ hk => hk.2) (.slice Ao72 t339.length co72)) (fun _ h_ => h_.1))))); (case side2 => exact (Kd.R_reads' HO341.out).2.1); (case side3 => refine (Kd.R_reads' (e := 3) (base := w.heap.size) (ok := fun k_ => ((((some k_ ≠ (v316 : Value).ownBlock ∧ some k_ ≠ (v320 : Value).ownBlock) ∧ some k_ ≠ (.slice Ao52 t329.length co52 : Value).ownBlock) ∧ some k_ ≠ (.slice Ao62 t334.length co62 : Value).ownBlock) ∧ some k_ ≠ (.slice Ao72 t339.length co72 : Value).ownBlock)) (n := t323.length) (c := co42) ?_).2.2; exact (Kd.R_g ((Kd.R_mono (Kd.R_far (p := ⟨gb343, 1, none⟩) (Kd.R_far (p := ⟨gb343, 0, none⟩) (Kd.R_types HO325.out BK343.out (by decide)) (fun _ hk => hk.2) (.int .i64 t338)) (fun _ hk => hk.2) (.slice Ao72 t339.length co72)) (fun _ h_ => h_.1))))); (case side4 => exact (Kd.R_reads' HO325.out).2.1); rintro e w86 ⟨rfl, hb⟩; refine ⟨_, rfl, ?_⟩; replace HO317 := Aside0.mk (Kd.R_below (Kd.R_g ((Kd.R_mono (Kd.R_far (p := ⟨gb343, 1, none⟩) (Kd.R_far (p := ⟨gb343, 0, none⟩) (Kd.R_types HO317.out BK343.out (by decide)) (fun _ hk => hk.2) (.int .i64 t338)) (fun _ hk => hk.2) (.slice Ao72 t339.length co72)) (fun _ h_ => h_.1)))) hb); replace HO321 := Aside0.mk (Kd.R_below (Kd.R_g ((Kd.R_mono (Kd.R_far (p := ⟨gb343, 1, none⟩) (Kd.R_far (p := ⟨gb343, 0, none⟩) (Kd.R_types HO321.out BK343.out (by decide)) (fun _ hk => hk.2) (.int .i64 t338)) (fun _ hk => hk.2) (.slice Ao72 t339.length co72)) (fun _ h_ => h_.1)))) hb); replace HO325 := Aside0.mk (Kd.R_below (Kd.R_g ((Kd.R_mono (Kd.R_far (p := ⟨gb343, 1, none⟩) (Kd.R_far (p := ⟨gb343, 0, none⟩) (Kd.R_types HO325.out BK343.out (by decide)) (fun _ hk => hk.2) (.int .i64 t338)) (fun _ hk => hk.2) (.slice Ao72 t339.length co72)) (fun _ h_ => h_.1)))) hb); replace HO331 := Aside0.mk (Kd.R_below (Kd.R_g ((Kd.R_mono (Kd.R_far (p := ⟨gb343, 1, none⟩) (Kd.R_far (p := ⟨gb343, 0, none⟩) (Kd.R_types HO331.out BK343.out (by decide)) (fun _ hk => hk.2) (.int .i64 t338)) (fun _ hk => hk.2) (.slice Ao72 t339.length co72)) (fun _ h_ => h_.1)))) hb); replace HO336 := Aside0.mk (Kd.R_below (Kd.R_g ((Kd.R_mono (Kd.R_far (p := ⟨gb343, 1, none⟩) (Kd.R_far (p := ⟨gb343, 0, none⟩) (Kd.R_types HO336.out BK343.out (by decide)) (fun _ hk => hk.2) (.int .i64 t338)) (fun _ hk => hk.2) (.slice Ao72 t339.length co72)) (fun _ h_ => h_.1)))) hb); replace HO341 := Aside0.mk (Kd.R_below (Kd.R_g ((Kd.R_mono (Kd.R_far (p := ⟨gb343, 1, none⟩) (Kd.R_far (p := ⟨gb343, 0, none⟩) (Kd.R_types HO341.out BK343.out (by decide)) (fun _ hk => hk.2) (.int .i64 t338)) (fun _ hk => hk.2) (.slice Ao72 t339.length co72)) (fun _ h_ => h_.1)))) hb); replace BK310 := Aside0.mk (blk_below (g := gb310) (o := .cells #[.int .i64 a0_0, .slice A0_1 l0_1.length c0_1] 24 (0, 0)) (by (with_reducible repeat (first | refine blk_drewN ?_ _ | refine blk_drew ?_ | refine blk_alloc ?_ _)); refine blk_far ?_ NB310_343.out _; (with_reducible repeat (first | refine blk_drewN ?_ _ | refine blk_drew ?_ | refine blk_alloc ?_ _)); refine blk_far ?_ NB310_343.out _; (with_reducible repeat (first | refine blk_drewN ?_ _ | refine blk_drew ?_ | refine blk_alloc ?_ _)); exact BK310.out) hb); replace BK311 := Aside0.mk (blk_below (g := gb311) (o := .cells #[.int .i64 a1_0, .slice A1_1 l1_1.length c1_1] 24 (0, 0)) (by (with_reducible repeat (first | refine blk_drewN ?_ _ | refine blk_drew ?_ | refine blk_alloc ?_ _)); refine blk_far ?_ NB311_343.out _; (with_reducible repeat (first | refine blk_drewN ?_ _ | refine blk_drew ?_ | refine blk_alloc ?_ _)); refine blk_far ?_ NB311_343.out _; (with_reducible repeat (first | refine blk_drewN ?_ _ | refine blk_drew ?_ | refine blk_alloc ?_ _)); exact BK311.out) hb); replace BK327 := Aside0.mk (blk_below (g := gb327) (o := .cells #[.int .i64 t322, .slice Ao42 t323.length co42] 28 (0, 0)) (by (with_reducible repeat (first | refine blk_drewN ?_ _ | refine blk_drew ?_ | refine blk_alloc ?_ _)); refine blk_far ?_ NB327_343.out _; (with_reducible repeat (first | refine blk_drewN ?_ _ | refine blk_drew ?_ | refine blk_alloc ?_ _)); refine blk_far ?_ NB327_343.out _; (with_reducible repeat (first | refine blk_drewN ?_ _ | refine blk_drew ?_ | refine blk_alloc ?_ _)); exact BK327.out) hb); replace BK332 := Aside0.mk (blk_below (g := gb332) (o := .cells #[.int .i64 t328, .slice Ao52 t329.length co52] 28 (0, 0)) (by (with_reducible repeat (first | refine blk_drewN ?_ _ | refine blk_drew ?_ | refine blk_alloc ?_ _)); refine blk_far ?_ NB332_343.out _; (with_reducible repeat (first | refine blk_drewN ?_ _ | refine blk_drew ?_ | refine blk_alloc ?_ _)); refine blk_far ?_ NB332_343.out _; (with_reducible repeat (first | refine blk_drewN ?_ _ | refine blk_drew ?_ | refine blk_alloc ?_ _)); exact BK332.out) hb); replace BK337 := Aside0.mk (blk_below (g := gb337) (o := .cells #[.int .i64 t333, .slice Ao62 t334.length co62] 28 (0, 0)) (by (with_reducible repeat (first | refine blk_drewN ?_ _ | refine blk_drew ?_ | refine blk_alloc ?_ _)); refine blk_far ?_ NB337_343.out _; (with_reducible repeat (first | refine blk_drewN ?_ _ | refine blk_drew ?_ | refine blk_alloc ?_ _)); refine blk_far ?_ NB337_343.out _; (with_reducible repeat (first | refine blk_drewN ?_ _ | refine blk_drew ?_ | refine blk_alloc ?_ _)); exact BK337.out) hb); replace BK343 := Aside0.mk (blk_below (g := gb343) (o := .cells #[.int .i64 t338, .slice Ao72 t339.length co72] 28 (0, 0)) (by (with_reducible repeat (first | refine blk_drewN ?_ _ | refine blk_drew ?_ | refine blk_alloc ?_ _)); refine blk_put (cs := #[.int .i64 t338, .slice none 0 0]) ?_ 1 _ rfl; (with_reducible repeat (first | refine blk_drewN ?_ _ | refine blk_drew ?_ | refine blk_alloc ?_ _)); refine blk_put (cs := #[.int .i64 0, .slice none 0 0]) ?_ 0 _ rfl; (with_reducible repeat (first | refine blk_drewN ?_ _ | refine blk_drew ?_ | refine blk_alloc ?_ _)); exact BK343.out) hb); replace HB := bst HB hb; (try clear hb); (try clear hk)))
     go_meet
     case rel => exact ⟨_, ((t342 != t326)), eqS, H', ⟨by first | omega | exact Nat.le_refl _⟩, ⟨Kd.R_g (Kd.R_mono HO325.out (fun _ hk => ⟨hk.1.1.2, ⟨hk.1.2, hk.2⟩⟩))⟩, ⟨Kd.R_g (Kd.R_mono HO331.out (fun _ hk => ⟨hk.1.1.2, ⟨hk.1.2, hk.2⟩⟩))⟩, ⟨Kd.R_g (Kd.R_mono HO336.out (fun _ hk => ⟨hk.1.1.2, ⟨hk.1.2, hk.2⟩⟩))⟩, ⟨Kd.R_g (Kd.R_mono HO341.out (fun _ hk => ⟨hk.1.1.2, ⟨hk.1.2, hk.2⟩⟩))⟩, ⟨blk_g BK310.out⟩, ⟨blk_g BK311.out⟩, ⟨blk_g BK327.out⟩, ⟨blk_g BK332.out⟩, ⟨blk_g BK337.out⟩, ⟨blk_g BK343.out⟩, ⟨bel_g HB.out⟩⟩
    ·replace c74 := Bool.eq_false_iff.mpr c74
     subst c74
     replace H := ifF H
     have H' := Aside0.mk H
     clear H
     have hnb87 := NB343_310.out
     have hnc87 := NB310_343.out
     have hnb88 := NB343_311.out
     have hnc88 := NB311_343.out
     have hnb89 := NB343_327.out
     have hnc89 := NB327_343.out
     have hnb90 := NB343_332.out
     have hnc90 := NB332_343.out
     have hnb91 := NB343_337.out
     have hnc91 := NB337_343.out
     obtain ⟨hcz92_0, hcz92_1, hfz92_0, hfz92_1⟩ := blk2 BK343
     have hnb93 := NB327_310.out
     have hnc93 := NB310_327.out
     have hnb94 := NB327_311.out
     have hnc94 := NB311_327.out
     have hnb95 := NB327_332.out
     have hnc95 := NB332_327.out
     have hnb96 := NB327_337.out
     have hnc96 := NB337_327.out
     obtain ⟨hcz97_0, hcz97_1, hfz97_0, hfz97_1⟩ := blk2 BK327
     go_wp2_with (first | ((with_reducible refine gate_callee (f := 19) rfl ?_); refine goesQ (some 47) Tryd.func19 #[.agg #[.int .i64 t338, .slice Ao72 t339.length co72], .agg #[.int .i64 t322, .slice Ao42 t323.length co42]] ?_; (with_reducible refine (laws_eqOrder.calls k t338 _ _ t339 t322 _ _ t323 false _ ?side1 ?side2 ?side3 ?side4 A73.out).mono ?_); (case side1 => refine (Kd.R_reads' (e := 3) (base := w.heap.size) (ok := fun k_ => (((((True ∧ some k_ ≠ (v316 : Value).ownBlock) ∧ some k_ ≠ (v320 : Value).ownBlock) ∧ some k_ ≠ (.slice Ao42 t323.length co42 : Value).ownBlock) ∧ some k_ ≠ (.slice Ao52 t329.length co52 : Value).ownBlock) ∧ some k_ ≠ (.slice Ao62 t334.length co62 : Value).ownBlock)) (n := t339.length) (c := co72) ?_).2.2; exact (Kd.R_g ((Kd.R_mono (Kd.R_far (p := ⟨gb343, 1, none⟩) (Kd.R_far (p := ⟨gb343, 0, none⟩) (Kd.R_types HO341.out BK343.out (by decide)) (fun _ hk => hk.2) (.int .i64 t338)) (fun _ hk => hk.2) (.slice Ao72 t339.length co72)) (fun _ h_ => h_.1))))); (case side2 => exact (Kd.R_reads' HO341.out).2.1); (case side3 => refine (Kd.R_reads' (e := 3) (base := w.heap.size) (ok := fun k_ => ((((some k_ ≠ (v316 : Value).ownBlock ∧ some k_ ≠ (v320 : Value).ownBlock) ∧ some k_ ≠ (.slice Ao52 t329.length co52 : Value).ownBlock) ∧ some k_ ≠ (.slice Ao62 t334.length co62 : Value).ownBlock) ∧ some k_ ≠ (.slice Ao72 t339.length co72 : Value).ownBlock)) (n := t323.length) (c := co42) ?_).2.2; exact (Kd.R_g ((Kd.R_mono (Kd.R_far (p := ⟨gb343, 1, none⟩) (Kd.R_far (p := ⟨gb343, 0, none⟩) (Kd.R_types HO325.out BK343.out (by decide)) (fun _ hk => hk.2) (.int .i64 t338)) (fun _ hk => hk.2) (.slice Ao72 t339.length co72)) (fun _ h_ => h_.1))))); (case side4 => exact (Kd.R_reads' HO325.out).2.1); rintro e w98 ⟨rfl, hb⟩; refine ⟨_, rfl, ?_⟩; replace HO317 := Aside0.mk (Kd.R_below (Kd.R_g ((Kd.R_mono (Kd.R_far (p := ⟨gb343, 1, none⟩) (Kd.R_far (p := ⟨gb343, 0, none⟩) (Kd.R_types HO317.out BK343.out (by decide)) (fun _ hk => hk.2) (.int .i64 t338)) (fun _ hk => hk.2) (.slice Ao72 t339.length co72)) (fun _ h_ => h_.1)))) hb); replace HO321 := Aside0.mk (Kd.R_below (Kd.R_g ((Kd.R_mono (Kd.R_far (p := ⟨gb343, 1, none⟩) (Kd.R_far (p := ⟨gb343, 0, none⟩) (Kd.R_types HO321.out BK343.out (by decide)) (fun _ hk => hk.2) (.int .i64 t338)) (fun _ hk => hk.2) (.slice Ao72 t339.length co72)) (fun _ h_ => h_.1)))) hb); replace HO325 := Aside0.mk (Kd.R_below (Kd.R_g ((Kd.R_mono (Kd.R_far (p := ⟨gb343, 1, none⟩) (Kd.R_far (p := ⟨gb343, 0, none⟩) (Kd.R_types HO325.out BK343.out (by decide)) (fun _ hk => hk.2) (.int .i64 t338)) (fun _ hk => hk.2) (.slice Ao72 t339.length co72)) (fun _ h_ => h_.1)))) hb); replace HO331 := Aside0.mk (Kd.R_below (Kd.R_g ((Kd.R_mono (Kd.R_far (p := ⟨gb343, 1, none⟩) (Kd.R_far (p := ⟨gb343, 0, none⟩) (Kd.R_types HO331.out BK343.out (by decide)) (fun _ hk => hk.2) (.int .i64 t338)) (fun _ hk => hk.2) (.slice Ao72 t339.length co72)) (fun _ h_ => h_.1)))) hb); replace HO336 := Aside0.mk (Kd.R_below (Kd.R_g ((Kd.R_mono (Kd.R_far (p := ⟨gb343, 1, none⟩) (Kd.R_far (p := ⟨gb343, 0, none⟩) (Kd.R_types HO336.out BK343.out (by decide)) (fun _ hk => hk.2) (.int .i64 t338)) (fun _ hk => hk.2) (.slice Ao72 t339.length co72)) (fun _ h_ => h_.1)))) hb); replace HO341 := Aside0.mk (Kd.R_below (Kd.R_g ((Kd.R_mono (Kd.R_far (p := ⟨gb343, 1, none⟩) (Kd.R_far (p := ⟨gb343, 0, none⟩) (Kd.R_types HO341.out BK343.out (by decide)) (fun _ hk => hk.2) (.int .i64 t338)) (fun _ hk => hk.2) (.slice Ao72 t339.length co72)) (fun _ h_ => h_.1)))) hb); replace BK310 := Aside0.mk (blk_below (g := gb310) (o := .cells #[.int .i64 a0_0, .slice A0_1 l0_1.length c0_1] 24 (0, 0)) (by (with_reducible repeat (first | refine blk_drewN ?_ _ | refine blk_drew ?_ | refine blk_alloc ?_ _)); refine blk_far ?_ NB310_343.out _; (with_reducible repeat (first | refine blk_drewN ?_ _ | refine blk_drew ?_ | refine blk_alloc ?_ _)); refine blk_far ?_ NB310_343.out _; (with_reducible repeat (first | refine blk_drewN ?_ _ | refine blk_drew ?_ | refine blk_alloc ?_ _)); exact BK310.out) hb); replace BK311 := Aside0.mk (blk_below (g := gb311) (o := .cells #[.int .i64 a1_0, .slice A1_1 l1_1.length c1_1] 24 (0, 0)) (by (with_reducible repeat (first | refine blk_drewN ?_ _ | refine blk_drew ?_ | refine blk_alloc ?_ _)); refine blk_far ?_ NB311_343.out _; (with_reducible repeat (first | refine blk_drewN ?_ _ | refine blk_drew ?_ | refine blk_alloc ?_ _)); refine blk_far ?_ NB311_343.out _; (with_reducible repeat (first | refine blk_drewN ?_ _ | refine blk_drew ?_ | refine blk_alloc ?_ _)); exact BK311.out) hb); replace BK327 := Aside0.mk (blk_below (g := gb327) (o := .cells #[.int .i64 t322, .slice Ao42 t323.length co42] 28 (0, 0)) (by (with_reducible repeat (first | refine blk_drewN ?_ _ | refine blk_drew ?_ | refine blk_alloc ?_ _)); refine blk_far ?_ NB327_343.out _; (with_reducible repeat (first | refine blk_drewN ?_ _ | refine blk_drew ?_ | refine blk_alloc ?_ _)); refine blk_far ?_ NB327_343.out _; (with_reducible repeat (first | refine blk_drewN ?_ _ | refine blk_drew ?_ | refine blk_alloc ?_ _)); exact BK327.out) hb); replace BK332 := Aside0.mk (blk_below (g := gb332) (o := .cells #[.int .i64 t328, .slice Ao52 t329.length co52] 28 (0, 0)) (by (with_reducible repeat (first | refine blk_drewN ?_ _ | refine blk_drew ?_ | refine blk_alloc ?_ _)); refine blk_far ?_ NB332_343.out _; (with_reducible repeat (first | refine blk_drewN ?_ _ | refine blk_drew ?_ | refine blk_alloc ?_ _)); refine blk_far ?_ NB332_343.out _; (with_reducible repeat (first | refine blk_drewN ?_ _ | refine blk_drew ?_ | refine blk_alloc ?_ _)); exact BK332.out) hb); replace BK337 := Aside0.mk (blk_below (g := gb337) (o := .cells #[.int .i64 t333, .slice Ao62 t334.length co62] 28 (0, 0)) (by (with_reducible repeat (first | refine blk_drewN ?_ _ | refine blk_drew ?_ | refine blk_alloc ?_ _)); refine blk_far ?_ NB337_343.out _; (with_reducible repeat (first | refine blk_drewN ?_ _ | refine blk_drew ?_ | refine blk_alloc ?_ _)); refine blk_far ?_ NB337_343.out _; (with_reducible repeat (first | refine blk_drewN ?_ _ | refine blk_drew ?_ | refine blk_alloc ?_ _)); exact BK337.out) hb); replace BK343 := Aside0.mk (blk_below (g := gb343) (o := .cells #[.int .i64 t338, .slice Ao72 t339.length co72] 28 (0, 0)) (by (with_reducible repeat (first | refine blk_drewN ?_ _ | refine blk_drew ?_ | refine blk_alloc ?_ _)); refine blk_put (cs := #[.int .i64 t338, .slice none 0 0]) ?_ 1 _ rfl; (with_reducible repeat (first | refine blk_drewN ?_ _ | refine blk_drew ?_ | refine blk_alloc ?_ _)); refine blk_put (cs := #[.int .i64 0, .slice none 0 0]) ?_ 0 _ rfl; (with_reducible repeat (first | refine blk_drewN ?_ _ | refine blk_drew ?_ | refine blk_alloc ?_ _)); exact BK343.out) hb); replace HB := bst HB hb; (try clear hb); (try clear hk)))
     go_meet
     case rel => exact ⟨_, (true), eqS, H', ⟨by first | omega | exact Nat.le_refl _⟩, ⟨Kd.R_g (Kd.R_mono HO325.out (fun _ hk => ⟨hk.1.1.2, ⟨hk.1.2, hk.2⟩⟩))⟩, ⟨Kd.R_g (Kd.R_mono HO331.out (fun _ hk => ⟨hk.1.1.2, ⟨hk.1.2, hk.2⟩⟩))⟩, ⟨Kd.R_g (Kd.R_mono HO336.out (fun _ hk => ⟨hk.1.1.2, ⟨hk.1.2, hk.2⟩⟩))⟩, ⟨Kd.R_g (Kd.R_mono HO341.out (fun _ hk => ⟨hk.1.1.2, ⟨hk.1.2, hk.2⟩⟩))⟩, ⟨blk_g BK310.out⟩, ⟨blk_g BK311.out⟩, ⟨blk_g BK327.out⟩, ⟨blk_g BK332.out⟩, ⟨blk_g BK337.out⟩, ⟨blk_g BK343.out⟩, ⟨bel_g HB.out⟩⟩
   case rest =>
    clear HC25
    try clear c74
    try clear hcz45_0
    try clear hcz45_1
    try clear hcz51_0
    try clear hcz51_1
    try clear hcz54_0
    try clear hcz54_1
    try clear hcz61_0
    try clear hcz61_1
    try clear hcz63_0
    try clear hcz63_1
    try clear hcz71_0
    try clear hcz71_1
    try clear hcz80_0
    try clear hcz80_1
    try clear hcz85_0
    try clear hcz85_1
    try clear hcz92_0
    try clear hcz92_1
    try clear hcz97_0
    try clear hcz97_1
    try clear hfz45_0
    try clear hfz45_1
    try clear hfz51_0
    try clear hfz51_1
    try clear hfz54_0
    try clear hfz54_1
    try clear hfz61_0
    try clear hfz61_1
    try clear hfz63_0
    try clear hfz63_1
    try clear hfz71_0
    try clear hfz71_1
    try clear hfz80_0
    try clear hfz80_1
    try clear hfz85_0
    try clear hfz85_1
    try clear hfz92_0
    try clear hfz92_1
    try clear hfz97_0
    try clear hfz97_1
    obtain ⟨kq, x53_24, rfl, HA, HJ24, HO_328001, HO_333001, HO_338001, HO_344001, BK310, BK311, BK327, BK332, BK337, BK343, HB⟩ := hcut
    cases kq with
    | zero => exact absurd HA.out (by simp [laws_FnExactMeetOrders.j0])
    | succ kj24 =>
     have H := HA.out
     clear HA
     simp only [laws_FnExactMeetOrders.j0] at H
     by_cases c99 : x53_24 = true
     ·subst c99
      replace H := ifT H
      obtain rfl := Option.some.inj H
      go_wp2
      go_ret
      exact ⟨eqE, bel_g HB.out⟩
     ·replace c99 := Bool.eq_false_iff.mpr c99
      subst c99
      replace H := ifF H
      obtain ⟨⟨t345, t346⟩, A100, H⟩ := obE H
      dsimp only at H
      obtain ⟨t349, A101, H⟩ := obE H
      by_cases c102 : t349 = true
      ·subst c102
       replace H := ifT H
       obtain ⟨⟨t350, t351⟩, A103, H⟩ := obE H
       dsimp only at H
       obtain ⟨t354, A104, H⟩ := obE H
       by_cases c105 : t354 = true
       ·subst c105
        replace H := ifT H
        obtain ⟨⟨t355, t356⟩, A106, H⟩ := obE H
        dsimp only at H
        obtain ⟨⟨t357, t358⟩, A107, H⟩ := obE H
        dsimp only at H
        have HC108 := Aside0.mk H
        clear H
        try go_wp2
        replace HO_328001 := Aside0.mk (Kd.R_drew HO_328001.out)
        replace HO_333001 := Aside0.mk (Kd.R_drew HO_333001.out)
        replace HO_338001 := Aside0.mk (Kd.R_drew HO_338001.out)
        replace HO_344001 := Aside0.mk (Kd.R_drew HO_344001.out)
        replace BK310 := Aside0.mk (blk_drew BK310.out)
        replace BK311 := Aside0.mk (blk_drew BK311.out)
        replace BK327 := Aside0.mk (blk_drew BK327.out)
        replace BK332 := Aside0.mk (blk_drew BK332.out)
        replace BK337 := Aside0.mk (blk_drew BK337.out)
        replace BK343 := Aside0.mk (blk_drew BK343.out)
        replace HB := Aside0.mk (below_drew1 HB.out)
        refine start_ (n := 5) (S := fun w' => w'.cell? ⟨gb332, 0, none⟩ = some (.int .i64 t328) ∧ w'.cell? ⟨gb332, 1, none⟩ = some (.slice Ao52 t329.length co52) ∧ w'.cell? ⟨gb310, 0, none⟩ = some (.int .i64 a0_0) ∧ w'.cell? ⟨gb310, 1, none⟩ = some (.slice A0_1 l0_1.length c0_1)) (ds := []) (bm 5 0) (by kernel_rfl) rfl (by kernel_rfl) ⟨(blk_cell BK332.out 0).trans rfl, (blk_cell BK332.out 1).trans rfl, (blk_cell BK310.out 0).trans rfl, (blk_cell BK310.out 1).trans rfl⟩ (fun hHeld => ?_)
        generalize wc.drew = w109 at HO_328001 HO_333001 HO_338001 HO_344001 BK310 BK311 BK327 BK332 BK337 BK343 HB hHeld ⊢
        refine take_ (i := 0) (N := some 54) (v := ?_) (a' := ?_) (bm 5 1) rfl rfl (by kernel_rfl) (fun _ _ _ h => h) (Or.inl ⟨by rfl, ?_⟩) hHeld ?_ ?_
        rotate_left
        ·rintro w' ⟨s0, s1, s2, s3⟩
         go_simp
         with_reducible rfl
        rotate_left
        ·simp only [Act.put, List.setIfInBounds_toArray, List.set_cons_zero, List.set_cons_succ, i64_w, i32_w]
         rfl
        refine take_ (i := 1) (N := some 55) (v := ?_) (a' := ?_) (bm 5 3) rfl rfl (by kernel_rfl) (fun _ _ _ h => h) (Or.inl ⟨by rfl, ?_⟩) hHeld ?_ ?_
        rotate_left
        ·rintro w' ⟨s0, s1, s2, s3⟩
         go_simp
         with_reducible rfl
        rotate_left
        ·simp only [Act.put, List.setIfInBounds_toArray, List.set_cons_zero, List.set_cons_succ, i64_w, i32_w]
         rfl
        refine one_ (i := 2) (N := some 56) (bm 5 7) rfl rfl (by kernel_rfl) (by decide) (fun K hK => ?_)
        refine goesR Tryd.func17 #[.agg #[.int .i64 a0_0, .slice A0_1 l0_1.length c0_1]] ?_
        with_reducible refine (laws_toOrder.calls kj24 a0_0 _ _ l0_1 t345 t346 _ ?side1 ?side2 A100.out).mono ?_
        (case side1 => exact C_g HR0_1 HB)
        (case side2 => exact HC0_1.out)
        rintro e w110 ⟨v347, rfl, ho0, hb⟩
        refine ⟨_, rfl, ?_⟩
        have HO348 := Aside0.mk (Kd.R_lower (Kd.R_new' (Kd.R_new' (Kd.R_new' (Kd.R_new' ho0 (Kd.R_lt (Kd.R_g HO_328001.out))) (Kd.R_lt (Kd.R_g HO_333001.out))) (Kd.R_lt (Kd.R_g HO_338001.out))) (Kd.R_lt (Kd.R_g HO_344001.out))) (below_size (bel_g HB.out)))
        replace HO_328001 := Aside0.mk (Kd.R_elder' (Kd.R_g HO_328001.out) (Kd.R_base ho0) hb)
        replace HO_333001 := Aside0.mk (Kd.R_elder' (Kd.R_g HO_333001.out) (Kd.R_base ho0) hb)
        replace HO_338001 := Aside0.mk (Kd.R_elder' (Kd.R_g HO_338001.out) (Kd.R_base ho0) hb)
        replace HO_344001 := Aside0.mk (Kd.R_elder' (Kd.R_g HO_344001.out) (Kd.R_base ho0) hb)
        replace BK310 := blkB BK310 hb
        replace BK311 := blkB BK311 hb
        replace BK327 := blkB BK327 hb
        replace BK332 := blkB BK332 hb
        replace BK337 := blkB BK337 hb
        replace BK343 := blkB BK343 hb
        replace HB := bst HB hb
        (try clear hb)
        (try clear hb2)
        (try clear hk)
        (try clear hi)
        (try clear ho0)
        obtain ⟨Ao111, co111, eo111⟩ := Kd.R_slice HO348.out
        (first | subst eo111 | (injection eo111 with f1_ f2_ f3_; have f4_ := f1_.symm; have f5_ := f3_.symm; clear f1_ f2_ f3_; subst f4_; subst f5_))
        refine hK.out _ _ ⟨(blk_cell BK332.out 0).trans rfl, (blk_cell BK332.out 1).trans rfl, (blk_cell BK310.out 0).trans rfl, (blk_cell BK310.out 1).trans rfl⟩ (fun hHeld => ?_)
        clear hK K
        refine normW 56 ?_
        refine one_ (i := 3) (N := some 57) (bm 5 15) rfl rfl (by kernel_rfl) (by decide) (fun K hK => ?_)
        refine goesR Tryd.func19 #[.agg #[.int .i64 t328, .slice Ao52 t329.length co52], .agg #[.int .i64 t345, .slice Ao111 t346.length co111]] ?_
        with_reducible refine (laws_eqOrder.calls kj24 t328 _ _ t329 t345 _ _ t346 true _ ?side1 ?side2 ?side3 ?side4 A101.out).mono ?_
        (case side1 => repeat (first | exact (Kd.R_reads' HO_333001.out).2.2 | (with_reducible refine Kd.C_alloc ?_ _) | (with_reducible refine Kd.C_drewN ?_ _) | (with_reducible refine Kd.C_drew ?_)))
        (case side2 => exact (Kd.R_reads' HO_333001.out).2.1)
        (case side3 => repeat (first | exact (Kd.R_reads' HO348.out).2.2 | (with_reducible refine Kd.C_alloc ?_ _) | (with_reducible refine Kd.C_drewN ?_ _) | (with_reducible refine Kd.C_drew ?_)))
        (case side4 => exact (Kd.R_reads' HO348.out).2.1)
        rintro e w112 ⟨rfl, hb⟩
        refine ⟨_, rfl, ?_⟩
        replace HO_328001 := Aside0.mk (Kd.R_below (Kd.R_g HO_328001.out) hb)
        replace HO_333001 := Aside0.mk (Kd.R_below (Kd.R_g HO_333001.out) hb)
        replace HO_338001 := Aside0.mk (Kd.R_below (Kd.R_g HO_338001.out) hb)
        replace HO_344001 := Aside0.mk (Kd.R_below (Kd.R_g HO_344001.out) hb)
        replace HO348 := Aside0.mk (Kd.R_below (Kd.R_g HO348.out) hb)
        replace BK310 := blkB BK310 hb
        replace BK311 := blkB BK311 hb
        replace BK327 := blkB BK327 hb
        replace BK332 := blkB BK332 hb
        replace BK337 := blkB BK337 hb
        replace BK343 := blkB BK343 hb
        replace HB := bst HB hb
        (try clear hb)
        (try clear hb2)
        (try clear hk)
        (try clear hi)
        refine hK.out _ _ ⟨(blk_cell BK332.out 0).trans rfl, (blk_cell BK332.out 1).trans rfl, (blk_cell BK310.out 0).trans rfl, (blk_cell BK310.out 1).trans rfl⟩ (fun hHeld => ?_)
        clear hK K
        refine normW 57 ?_
        refine pure_ (i := 4) (N := some 58) (v := ?_) (a' := ?_) (bm 5 31) rfl rfl (by kernel_rfl) (fun _ _ _ h => h) (Or.inl ⟨by rfl, ?_⟩) ?_ ?_
        rotate_left
        ·intro w'
         go_simp
         with_reducible rfl
        rotate_left
        ·simp only [Act.put, List.setIfInBounds_toArray, List.set_cons_zero, List.set_cons_succ, i64_w, i32_w]
         rfl
        refine done_ (by kernel_rfl) ?_
        try go_wp2
        replace HO_328001 := Aside0.mk (Kd.R_drew HO_328001.out)
        replace HO_333001 := Aside0.mk (Kd.R_drew HO_333001.out)
        replace HO_338001 := Aside0.mk (Kd.R_drew HO_338001.out)
        replace HO_344001 := Aside0.mk (Kd.R_drew HO_344001.out)
        replace HO348 := Aside0.mk (Kd.R_drew HO348.out)
        replace BK310 := Aside0.mk (blk_drew BK310.out)
        replace BK311 := Aside0.mk (blk_drew BK311.out)
        replace BK327 := Aside0.mk (blk_drew BK327.out)
        replace BK332 := Aside0.mk (blk_drew BK332.out)
        replace BK337 := Aside0.mk (blk_drew BK337.out)
        replace BK343 := Aside0.mk (blk_drew BK343.out)
        replace HB := Aside0.mk (below_drew1 HB.out)
        refine start_ (n := 5) (S := fun w' => w'.cell? ⟨gb337, 0, none⟩ = some (.int .i64 t333) ∧ w'.cell? ⟨gb337, 1, none⟩ = some (.slice Ao62 t334.length co62) ∧ w'.cell? ⟨gb311, 0, none⟩ = some (.int .i64 a1_0) ∧ w'.cell? ⟨gb311, 1, none⟩ = some (.slice A1_1 l1_1.length c1_1)) (ds := []) (bm 5 0) (by kernel_rfl) rfl (by kernel_rfl) ⟨(blk_cell BK337.out 0).trans rfl, (blk_cell BK337.out 1).trans rfl, (blk_cell BK311.out 0).trans rfl, (blk_cell BK311.out 1).trans rfl⟩ (fun hHeld => ?_)
        generalize w112.drew = w113 at HO_328001 HO_333001 HO_338001 HO_344001 HO348 BK310 BK311 BK327 BK332 BK337 BK343 HB hHeld ⊢
        refine take_ (i := 0) (N := some 59) (v := ?_) (a' := ?_) (bm 5 1) rfl rfl (by kernel_rfl) (fun _ _ _ h => h) (Or.inl ⟨by rfl, ?_⟩) hHeld ?_ ?_
        rotate_left
        ·rintro w' ⟨s0, s1, s2, s3⟩
         go_simp
         with_reducible rfl
        rotate_left
        ·simp only [Act.put, List.setIfInBounds_toArray, List.set_cons_zero, List.set_cons_succ, i64_w, i32_w]
         rfl
        refine take_ (i := 1) (N := some 60) (v := ?_) (a' := ?_) (bm 5 3) rfl rfl (by kernel_rfl) (fun _ _ _ h => h) (Or.inl ⟨by rfl, ?_⟩) hHeld ?_ ?_
        rotate_left
        ·rintro w' ⟨s0, s1, s2, s3⟩
         go_simp
         with_reducible rfl
        rotate_left
        ·simp only [Act.put, List.setIfInBounds_toArray, List.set_cons_zero, List.set_cons_succ, i64_w, i32_w]
         rfl
        refine one_ (i := 2) (N := some 61) (bm 5 7) rfl rfl (by kernel_rfl) (by decide) (fun K hK => ?_)
        refine goesR Tryd.func17 #[.agg #[.int .i64 a1_0, .slice A1_1 l1_1.length c1_1]] ?_
        with_reducible refine (laws_toOrder.calls kj24 a1_0 _ _ l1_1 t350 t351 _ ?side1 ?side2 A103.out).mono ?_
        (case side1 => exact C_g HR1_1 HB)
        (case side2 => exact HC1_1.out)
        rintro e w114 ⟨v352, rfl, ho0, hb⟩
        refine ⟨_, rfl, ?_⟩
        have HO353 := Aside0.mk (Kd.R_lower (Kd.R_new' (Kd.R_new' (Kd.R_new' (Kd.R_new' (Kd.R_new' ho0 (Kd.R_lt (Kd.R_g HO_328001.out))) (Kd.R_lt (Kd.R_g HO_333001.out))) (Kd.R_lt (Kd.R_g HO_338001.out))) (Kd.R_lt (Kd.R_g HO_344001.out))) (Kd.R_lt (Kd.R_g HO348.out))) (below_size (bel_g HB.out)))
        replace HO_328001 := Aside0.mk (Kd.R_elder' (Kd.R_g HO_328001.out) (Kd.R_base ho0) hb)
        replace HO_333001 := Aside0.mk (Kd.R_elder' (Kd.R_g HO_333001.out) (Kd.R_base ho0) hb)
        replace HO_338001 := Aside0.mk (Kd.R_elder' (Kd.R_g HO_338001.out) (Kd.R_base ho0) hb)
        replace HO_344001 := Aside0.mk (Kd.R_elder' (Kd.R_g HO_344001.out) (Kd.R_base ho0) hb)
        replace HO348 := Aside0.mk (Kd.R_elder' (Kd.R_g HO348.out) (Kd.R_base ho0) hb)
        replace BK310 := blkB BK310 hb
        replace BK311 := blkB BK311 hb
        replace BK327 := blkB BK327 hb
        replace BK332 := blkB BK332 hb
        replace BK337 := blkB BK337 hb
        replace BK343 := blkB BK343 hb
        replace HB := bst HB hb
        (try clear hb)
        (try clear hb2)
        (try clear hk)
        (try clear hi)
        (try clear ho0)
        obtain ⟨Ao115, co115, eo115⟩ := Kd.R_slice HO353.out
        (first | subst eo115 | (injection eo115 with f1_ f2_ f3_; have f4_ := f1_.symm; have f5_ := f3_.symm; clear f1_ f2_ f3_; subst f4_; subst f5_))
        refine hK.out _ _ ⟨(blk_cell BK337.out 0).trans rfl, (blk_cell BK337.out 1).trans rfl, (blk_cell BK311.out 0).trans rfl, (blk_cell BK311.out 1).trans rfl⟩ (fun hHeld => ?_)
        clear hK K
        refine normW 61 ?_
        refine one_ (i := 3) (N := some 62) (bm 5 15) rfl rfl (by kernel_rfl) (by decide) (fun K hK => ?_)
        refine goesR Tryd.func19 #[.agg #[.int .i64 t333, .slice Ao62 t334.length co62], .agg #[.int .i64 t350, .slice Ao115 t351.length co115]] ?_
        with_reducible refine (laws_eqOrder.calls kj24 t333 _ _ t334 t350 _ _ t351 true _ ?side1 ?side2 ?side3 ?side4 A104.out).mono ?_
        (case side1 => repeat (first | exact (Kd.R_reads' HO_338001.out).2.2 | (with_reducible refine Kd.C_alloc ?_ _) | (with_reducible refine Kd.C_drewN ?_ _) | (with_reducible refine Kd.C_drew ?_)))
        (case side2 => exact (Kd.R_reads' HO_338001.out).2.1)
        (case side3 => repeat (first | exact (Kd.R_reads' HO353.out).2.2 | (with_reducible refine Kd.C_alloc ?_ _) | (with_reducible refine Kd.C_drewN ?_ _) | (with_reducible refine Kd.C_drew ?_)))
        (case side4 => exact (Kd.R_reads' HO353.out).2.1)
        rintro e w116 ⟨rfl, hb⟩
        refine ⟨_, rfl, ?_⟩
        replace HO_328001 := Aside0.mk (Kd.R_below (Kd.R_g HO_328001.out) hb)
        replace HO_333001 := Aside0.mk (Kd.R_below (Kd.R_g HO_333001.out) hb)
        replace HO_338001 := Aside0.mk (Kd.R_below (Kd.R_g HO_338001.out) hb)
        replace HO_344001 := Aside0.mk (Kd.R_below (Kd.R_g HO_344001.out) hb)
        replace HO348 := Aside0.mk (Kd.R_below (Kd.R_g HO348.out) hb)
        replace HO353 := Aside0.mk (Kd.R_below (Kd.R_g HO353.out) hb)
        replace BK310 := blkB BK310 hb
        replace BK311 := blkB BK311 hb
        replace BK327 := blkB BK327 hb
        replace BK332 := blkB BK332 hb
        replace BK337 := blkB BK337 hb
        replace BK343 := blkB BK343 hb
        replace HB := bst HB hb
        (try clear hb)
        (try clear hb2)
        (try clear hk)
        (try clear hi)
        refine hK.out _ _ ⟨(blk_cell BK337.out 0).trans rfl, (blk_cell BK337.out 1).trans rfl, (blk_cell BK311.out 0).trans rfl, (blk_cell BK311.out 1).trans rfl⟩ (fun hHeld => ?_)
        clear hK K
        refine normW 62 ?_
        refine pure_ (i := 4) (N := some 63) (v := ?_) (a' := ?_) (bm 5 31) rfl rfl (by kernel_rfl) (fun _ _ _ h => h) (Or.inl ⟨by rfl, ?_⟩) ?_ ?_
        rotate_left
        ·intro w'
         go_simp
         with_reducible rfl
        rotate_left
        ·simp only [Act.put, List.setIfInBounds_toArray, List.set_cons_zero, List.set_cons_succ, i64_w, i32_w]
         rfl
        refine done_ (by kernel_rfl) ?_
        have hnb117 := NB332_310.out
        have hnc117 := NB310_332.out
        have hnb118 := NB332_311.out
        have hnc118 := NB311_332.out
        have hnb119 := NB332_327.out
        have hnc119 := NB327_332.out
        have hnb120 := NB332_337.out
        have hnc120 := NB337_332.out
        have hnb121 := NB332_343.out
        have hnc121 := NB343_332.out
        obtain ⟨hcz122_0, hcz122_1, hfz122_0, hfz122_1⟩ := blk2 BK332
        go_upto_region 21 with (first | ((with_reducible refine gate_callee (f := 24) rfl ?_); refine goesQ (some 66) Tryd.func24 #[.agg #[.int .i64 t328, .slice Ao52 t329.length co52], .int .i64 1] ?_; (with_reducible refine (laws_markOrder.calls kj24 t328 (fun k_ => some k_ = (.slice Ao52 t329.length co52 : Value).ownBlock) (.slice Ao52 t329.length co52) t329 1 t355 t356 w _ ?side1 ?side2 A106.out).mono ?_); (case side1 => exact bel_g HB.out); (case side2 => exact Kd.R_tight rfl HO_333001.out); rintro e w123 ⟨rfl, hy0, hb, hkp⟩; refine ⟨_, rfl, ?_⟩; replace HO_328001 := Aside0.mk (Kd.R_mono (ok' := fun k_ => some k_ ≠ (.slice Ao52 t329.length co52 : Value).ownBlock ∧ some k_ ≠ (.slice Ao62 t334.length co62 : Value).ownBlock ∧ some k_ ≠ (.slice Ao72 t339.length co72 : Value).ownBlock ∧ some k_ ≠ (.slice Ao111 t346.length co111 : Value).ownBlock ∧ some k_ ≠ (.slice Ao115 t351.length co115 : Value).ownBlock) (Kd.R_keptB (HO_328001.out) hkp (fun k_ hk_ hs_ => (hk_.1.1.1) hs_)) (fun k_ hk_ => ⟨hk_.1.1.1.1, hk_.1.1.1.2.1, hk_.1.1.1.2.2, hk_.1.1.2, hk_.1.2⟩)); replace HO_338001 := Aside0.mk (Kd.R_mono (ok' := fun k_ => some k_ ≠ (.slice Ao42 t323.length co42 : Value).ownBlock ∧ some k_ ≠ (.slice Ao52 t329.length co52 : Value).ownBlock ∧ some k_ ≠ (.slice Ao72 t339.length co72 : Value).ownBlock ∧ some k_ ≠ (.slice Ao111 t346.length co111 : Value).ownBlock ∧ some k_ ≠ (.slice Ao115 t351.length co115 : Value).ownBlock) (Kd.R_keptB (HO_338001.out) hkp (fun k_ hk_ hs_ => (hk_.1.1.2.1) hs_)) (fun k_ hk_ => ⟨hk_.1.1.1.1, hk_.1.1.1.2.1, hk_.1.1.1.2.2, hk_.1.1.2, hk_.1.2⟩)); replace HO_344001 := Aside0.mk (Kd.R_mono (ok' := fun k_ => some k_ ≠ (.slice Ao42 t323.length co42 : Value).ownBlock ∧ some k_ ≠ (.slice Ao52 t329.length co52 : Value).ownBlock ∧ some k_ ≠ (.slice Ao62 t334.length co62 : Value).ownBlock ∧ some k_ ≠ (.slice Ao111 t346.length co111 : Value).ownBlock ∧ some k_ ≠ (.slice Ao115 t351.length co115 : Value).ownBlock) (Kd.R_keptB (HO_344001.out) hkp (fun k_ hk_ hs_ => (hk_.1.1.2.1) hs_)) (fun k_ hk_ => ⟨hk_.1.1.1.1, hk_.1.1.1.2.1, hk_.1.1.1.2.2, hk_.1.1.2, hk_.1.2⟩)); replace BK310 := Aside0.mk (blk_kept (blk_g BK310.out) hkp (fun hs_ => (fun e_ => (Kd.R_ne HO_333001.out BK310.out (by decide)) e_) hs_)); replace BK311 := Aside0.mk (blk_kept (blk_g BK311.out) hkp (fun hs_ => (fun e_ => (Kd.R_ne HO_333001.out BK311.out (by decide)) e_) hs_)); replace BK327 := Aside0.mk (blk_kept (blk_g BK327.out) hkp (fun hs_ => (fun e_ => (Kd.R_ne HO_333001.out BK327.out (by decide)) e_) hs_)); replace BK332 := Aside0.mk (blk_kept (blk_g BK332.out) hkp (fun hs_ => (fun e_ => (Kd.R_ne HO_333001.out BK332.out (by decide)) e_) hs_)); replace BK337 := Aside0.mk (blk_kept (blk_g BK337.out) hkp (fun hs_ => (fun e_ => (Kd.R_ne HO_333001.out BK337.out (by decide)) e_) hs_)); replace BK343 := Aside0.mk (blk_kept (blk_g BK343.out) hkp (fun hs_ => (fun e_ => (Kd.R_ne HO_333001.out BK343.out (by decide)) e_) hs_)); replace HO_333001 := Aside0.mk (Kd.R_reok rfl hy0 (fun k_ e_ => HO_333001.out.1 k_ e_)); replace HO348 := Aside0.mk (Kd.R_mono (ok' := fun k_ => some k_ ≠ (.slice Ao42 t323.length co42 : Value).ownBlock ∧ some k_ ≠ (.slice Ao52 t329.length co52 : Value).ownBlock ∧ some k_ ≠ (.slice Ao62 t334.length co62 : Value).ownBlock ∧ some k_ ≠ (.slice Ao72 t339.length co72 : Value).ownBlock ∧ some k_ ≠ (.slice Ao115 t351.length co115 : Value).ownBlock) (Kd.R_keptB (HO348.out) hkp (fun k_ hk_ hs_ => (hk_.1.1.1.2) hs_)) (fun k_ hk_ => ⟨hk_.1.1.1.1.1.2, hk_.1.1.1.1.2, hk_.1.1.1.2, hk_.1.1.2, hk_.1.2⟩)); replace HO353 := Aside0.mk (Kd.R_mono (ok' := fun k_ => some k_ ≠ (.slice Ao42 t323.length co42 : Value).ownBlock ∧ some k_ ≠ (.slice Ao52 t329.length co52 : Value).ownBlock ∧ some k_ ≠ (.slice Ao62 t334.length co62 : Value).ownBlock ∧ some k_ ≠ (.slice Ao72 t339.length co72 : Value).ownBlock ∧ some k_ ≠ (.slice Ao111 t346.length co111 : Value).ownBlock) (Kd.R_keptB (HO353.out) hkp (fun k_ hk_ hs_ => (hk_.1.1.1.2) hs_)) (fun k_ hk_ => ⟨hk_.1.1.1.1.1.2, hk_.1.1.1.1.2, hk_.1.1.1.2, hk_.1.1.2, hk_.1.2⟩)); replace HB := Aside0.mk (hb); (try clear hb); (try clear hkp); (try clear hy0); have hnb124 := NB337_310.out; have hnc124 := NB310_337.out; have hnb125 := NB337_311.out; have hnc125 := NB311_337.out; have hnb126 := NB337_327.out; have hnc126 := NB327_337.out; have hnb127 := NB337_343.out; have hnc127 := NB343_337.out; obtain ⟨hcz128_0, hcz128_1, hfz128_0, hfz128_1⟩ := blk2 BK337) | ((with_reducible refine gate_callee (f := 24) rfl ?_); refine goesQ (some 69) Tryd.func24 #[.agg #[.int .i64 t333, .slice Ao62 t334.length co62], .int .i64 t355] ?_; (with_reducible refine (laws_markOrder.calls kj24 t333 (fun k_ => some k_ = (.slice Ao62 t334.length co62 : Value).ownBlock) (.slice Ao62 t334.length co62) t334 t355 t357 t358 w _ ?side1 ?side2 A107.out).mono ?_); (case side1 => exact bel_g HB.out); (case side2 => exact Kd.R_tight rfl HO_338001.out); rintro e w129 ⟨rfl, hy0, hb, hkp⟩; refine ⟨_, rfl, ?_⟩; replace HO_328001 := Aside0.mk (Kd.R_mono (ok' := fun k_ => some k_ ≠ (.slice Ao52 t329.length co52 : Value).ownBlock ∧ some k_ ≠ (.slice Ao62 t334.length co62 : Value).ownBlock ∧ some k_ ≠ (.slice Ao72 t339.length co72 : Value).ownBlock ∧ some k_ ≠ (.slice Ao111 t346.length co111 : Value).ownBlock ∧ some k_ ≠ (.slice Ao115 t351.length co115 : Value).ownBlock) (Kd.R_keptB (HO_328001.out) hkp (fun k_ hk_ hs_ => (hk_.2.1) hs_)) (fun k_ hk_ => ⟨hk_.1.1, hk_.1.2.1, hk_.1.2.2.1, hk_.1.2.2.2.1, hk_.1.2.2.2.2⟩)); replace HO_333001 := Aside0.mk (Kd.R_mono (ok' := fun k_ => some k_ ≠ (.slice Ao42 t323.length co42 : Value).ownBlock ∧ some k_ ≠ (.slice Ao62 t334.length co62 : Value).ownBlock ∧ some k_ ≠ (.slice Ao72 t339.length co72 : Value).ownBlock ∧ some k_ ≠ (.slice Ao111 t346.length co111 : Value).ownBlock ∧ some k_ ≠ (.slice Ao115 t351.length co115 : Value).ownBlock) (Kd.R_keptB (HO_333001.out) hkp (fun k_ hk_ hs_ => (hk_.1.1.2.1) hs_)) (fun k_ hk_ => ⟨hk_.1.1.1.1, hk_.1.1.1.2.1, hk_.1.1.1.2.2, hk_.1.1.2, hk_.1.2⟩)); replace HO_344001 := Aside0.mk (Kd.R_mono (ok' := fun k_ => some k_ ≠ (.slice Ao42 t323.length co42 : Value).ownBlock ∧ some k_ ≠ (.slice Ao52 t329.length co52 : Value).ownBlock ∧ some k_ ≠ (.slice Ao62 t334.length co62 : Value).ownBlock ∧ some k_ ≠ (.slice Ao111 t346.length co111 : Value).ownBlock ∧ some k_ ≠ (.slice Ao115 t351.length co115 : Value).ownBlock) (Kd.R_keptB (HO_344001.out) hkp (fun k_ hk_ hs_ => (hk_.2.2.1) hs_)) (fun k_ hk_ => ⟨hk_.1.1, hk_.1.2.1, hk_.1.2.2.1, hk_.1.2.2.2.1, hk_.1.2.2.2.2⟩)); replace BK310 := Aside0.mk (blk_kept (blk_g BK310.out) hkp (fun hs_ => (fun e_ => (Kd.R_ne HO_338001.out BK310.out (by decide)) e_) hs_)); replace BK311 := Aside0.mk (blk_kept (blk_g BK311.out) hkp (fun hs_ => (fun e_ => (Kd.R_ne HO_338001.out BK311.out (by decide)) e_) hs_)); replace BK327 := Aside0.mk (blk_kept (blk_g BK327.out) hkp (fun hs_ => (fun e_ => (Kd.R_ne HO_338001.out BK327.out (by decide)) e_) hs_)); replace BK332 := Aside0.mk (blk_kept (blk_g BK332.out) hkp (fun hs_ => (fun e_ => (Kd.R_ne HO_338001.out BK332.out (by decide)) e_) hs_)); replace BK337 := Aside0.mk (blk_kept (blk_g BK337.out) hkp (fun hs_ => (fun e_ => (Kd.R_ne HO_338001.out BK337.out (by decide)) e_) hs_)); replace BK343 := Aside0.mk (blk_kept (blk_g BK343.out) hkp (fun hs_ => (fun e_ => (Kd.R_ne HO_338001.out BK343.out (by decide)) e_) hs_)); replace HO_338001 := Aside0.mk (Kd.R_reok rfl hy0 (fun k_ e_ => HO_338001.out.1 k_ e_)); replace HO348 := Aside0.mk (Kd.R_mono (ok' := fun k_ => some k_ ≠ (.slice Ao42 t323.length co42 : Value).ownBlock ∧ some k_ ≠ (.slice Ao52 t329.length co52 : Value).ownBlock ∧ some k_ ≠ (.slice Ao62 t334.length co62 : Value).ownBlock ∧ some k_ ≠ (.slice Ao72 t339.length co72 : Value).ownBlock ∧ some k_ ≠ (.slice Ao115 t351.length co115 : Value).ownBlock) (Kd.R_keptB (HO348.out) hkp (fun k_ hk_ hs_ => (hk_.2.2.1) hs_)) (fun k_ hk_ => ⟨hk_.1.1, hk_.1.2.1, hk_.1.2.2.1, hk_.1.2.2.2.1, hk_.1.2.2.2.2⟩)); replace HO353 := Aside0.mk (Kd.R_mono (ok' := fun k_ => some k_ ≠ (.slice Ao42 t323.length co42 : Value).ownBlock ∧ some k_ ≠ (.slice Ao52 t329.length co52 : Value).ownBlock ∧ some k_ ≠ (.slice Ao62 t334.length co62 : Value).ownBlock ∧ some k_ ≠ (.slice Ao72 t339.length co72 : Value).ownBlock ∧ some k_ ≠ (.slice Ao111 t346.length co111 : Value).ownBlock) (Kd.R_keptB (HO353.out) hkp (fun k_ hk_ hs_ => (hk_.2.2.1) hs_)) (fun k_ hk_ => ⟨hk_.1.1, hk_.1.2.1, hk_.1.2.2.1, hk_.1.2.2.2.1, hk_.1.2.2.2.2⟩)); replace HB := Aside0.mk (hb); (try clear hb); (try clear hkp); (try clear hy0)))
        (try simp only [Act.put, List.setIfInBounds_toArray, List.set_cons_zero, List.set_cons_succ])
        go_cut [82] (fun v82 wc => ∃ (kq : Nat) (x82_107 : Bool), v82 = .bool x82_107 ∧ Aside0 (laws_FnExactMeetOrders.j1 kq t326 x82_107 a0_0 l0_1 a1_0 l1_1 t322 t323 t338 t339 = some r) ∧ Aside0 (kq ≤ kj24) ∧ Aside0 (Kd.R (Kd.int .i64) 3 wc w.heap.size (fun k_ => some k_ ≠ ((.slice Ao72 t339.length co72) : Value).ownBlock) (.slice Ao42 t323.length co42) t323) ∧ Aside0 (Kd.R (Kd.int .i64) 3 wc w.heap.size (fun k_ => some k_ ≠ ((.slice Ao42 t323.length co42) : Value).ownBlock) (.slice Ao72 t339.length co72) t339) ∧ Aside0 (wc.heap[gb310]? = some (.cells #[.int .i64 a0_0, (.slice A0_1 l0_1.length c0_1)] 24 (0, 0))) ∧ Aside0 (wc.heap[gb311]? = some (.cells #[.int .i64 a1_0, (.slice A1_1 l1_1.length c1_1)] 24 (0, 0))) ∧ Aside0 (wc.heap[gb327]? = some (.cells #[.int .i64 t322, (.slice Ao42 t323.length co42)] 28 (0, 0))) ∧ Aside0 (wc.heap[gb343]? = some (.cells #[.int .i64 t338, (.slice Ao72 t339.length co72)] 28 (0, 0))) ∧ Aside0 (Below w.heap.size w wc))
        case first =>
         have H := HC108.out
         clear HC108
         rcases iteE H with ⟨c130b0, H⟩ | ⟨c130b0, H⟩
         ·(first | rw [c130b0] | (simp only [i64_w, i32_w]; rw [c130b0]) | skip)
          have H' := Aside0.mk H
          clear H
          go_wp2
          go_meet
          case rel => exact ⟨_, (true), eqS, H', ⟨by have := HJ24.out; first | omega | exact Nat.le_refl _⟩, ⟨Kd.R_g (Kd.R_mono HO_328001.out (fun _ hk => hk.2.2.1))⟩, ⟨Kd.R_g (Kd.R_mono HO_344001.out (fun _ hk => hk.1))⟩, ⟨blk_g BK310.out⟩, ⟨blk_g BK311.out⟩, ⟨blk_g BK327.out⟩, ⟨blk_g BK343.out⟩, ⟨bel_g HB.out⟩⟩
         ·(first | rw [c130b0] | (simp only [i64_w, i32_w]; rw [c130b0]) | skip)
          obtain ⟨t359, A131, H⟩ := obE H
          by_cases c132 : t359 = true
          ·subst c132
           replace H := ifT H
           have H' := Aside0.mk H
           clear H
           have hnb133 := NB343_310.out
           have hnc133 := NB310_343.out
           have hnb134 := NB343_311.out
           have hnc134 := NB311_343.out
           have hnb135 := NB343_327.out
           have hnc135 := NB327_343.out
           have hnb136 := NB343_332.out
           have hnc136 := NB332_343.out
           have hnb137 := NB343_337.out
           have hnc137 := NB337_343.out
           obtain ⟨hcz138_0, hcz138_1, hfz138_0, hfz138_1⟩ := blk2 BK343
           have hnb139 := NB327_310.out
           have hnc139 := NB310_327.out
           have hnb140 := NB327_311.out
           have hnc140 := NB311_327.out
           have hnb141 := NB327_332.out
           have hnc141 := NB332_327.out
           have hnb142 := NB327_337.out
           have hnc142 := NB337_327.out
           obtain ⟨hcz143_0, hcz143_1, hfz143_0, hfz143_1⟩ := blk2 BK327
           go_wp2_with (first | (go_at_call 19; (with_reducible refine (laws_eqOrder.calls kj24 t338 _ _ t339 t322 _ _ t323 true _ ?side1 ?side2 ?side3 ?side4 A131.out).mono ?_); (case side1 => repeat (first | exact (Kd.R_reads' HO_344001.out).2.2 | (with_reducible refine Kd.C_alloc ?_ _) | (with_reducible refine Kd.C_drewN ?_ _) | (with_reducible refine Kd.C_drew ?_))); (case side2 => exact (Kd.R_reads' HO_344001.out).2.1); (case side3 => repeat (first | exact (Kd.R_reads' HO_328001.out).2.2 | (with_reducible refine Kd.C_alloc ?_ _) | (with_reducible refine Kd.C_drewN ?_ _) | (with_reducible refine Kd.C_drew ?_))); (case side4 => exact (Kd.R_reads' HO_328001.out).2.1); rintro e w144 ⟨rfl, hb⟩; replace HO_328001 := Aside0.mk (Kd.R_below (Kd.R_g HO_328001.out) hb); replace HO_333001 := Aside0.mk (Kd.R_below (Kd.R_g HO_333001.out) hb); replace HO_338001 := Aside0.mk (Kd.R_below (Kd.R_g HO_338001.out) hb); replace HO_344001 := Aside0.mk (Kd.R_below (Kd.R_g HO_344001.out) hb); replace HO348 := Aside0.mk (Kd.R_below (Kd.R_g HO348.out) hb); replace HO353 := Aside0.mk (Kd.R_below (Kd.R_g HO353.out) hb); replace BK310 := blkB BK310 hb; replace BK311 := blkB BK311 hb; replace BK327 := blkB BK327 hb; replace BK332 := blkB BK332 hb; replace BK337 := blkB BK337 hb; replace BK343 := blkB BK343 hb; replace HB := bst HB hb; (try clear hb); (try clear hk)))
           go_meet
           case rel => exact ⟨_, ((t342 != t326)), eqS, H', ⟨by have := HJ24.out; first | omega | exact Nat.le_refl _⟩, ⟨Kd.R_g (Kd.R_mono HO_328001.out (fun _ hk => hk.2.2.1))⟩, ⟨Kd.R_g (Kd.R_mono HO_344001.out (fun _ hk => hk.1))⟩, ⟨blk_g BK310.out⟩, ⟨blk_g BK311.out⟩, ⟨blk_g BK327.out⟩, ⟨blk_g BK343.out⟩, ⟨bel_g HB.out⟩⟩
          ·replace c132 := Bool.eq_false_iff.mpr c132
           subst c132
           replace H := ifF H
           have H' := Aside0.mk H
           clear H
           have hnb145 := NB343_310.out
           have hnc145 := NB310_343.out
           have hnb146 := NB343_311.out
           have hnc146 := NB311_343.out
           have hnb147 := NB343_327.out
           have hnc147 := NB327_343.out
           have hnb148 := NB343_332.out
           have hnc148 := NB332_343.out
           have hnb149 := NB343_337.out
           have hnc149 := NB337_343.out
           obtain ⟨hcz150_0, hcz150_1, hfz150_0, hfz150_1⟩ := blk2 BK343
           have hnb151 := NB327_310.out
           have hnc151 := NB310_327.out
           have hnb152 := NB327_311.out
           have hnc152 := NB311_327.out
           have hnb153 := NB327_332.out
           have hnc153 := NB332_327.out
           have hnb154 := NB327_337.out
           have hnc154 := NB337_327.out
           obtain ⟨hcz155_0, hcz155_1, hfz155_0, hfz155_1⟩ := blk2 BK327
           go_wp2_with (first | (go_at_call 19; (with_reducible refine (laws_eqOrder.calls kj24 t338 _ _ t339 t322 _ _ t323 false _ ?side1 ?side2 ?side3 ?side4 A131.out).mono ?_); (case side1 => repeat (first | exact (Kd.R_reads' HO_344001.out).2.2 | (with_reducible refine Kd.C_alloc ?_ _) | (with_reducible refine Kd.C_drewN ?_ _) | (with_reducible refine Kd.C_drew ?_))); (case side2 => exact (Kd.R_reads' HO_344001.out).2.1); (case side3 => repeat (first | exact (Kd.R_reads' HO_328001.out).2.2 | (with_reducible refine Kd.C_alloc ?_ _) | (with_reducible refine Kd.C_drewN ?_ _) | (with_reducible refine Kd.C_drew ?_))); (case side4 => exact (Kd.R_reads' HO_328001.out).2.1); rintro e w156 ⟨rfl, hb⟩; replace HO_328001 := Aside0.mk (Kd.R_below (Kd.R_g HO_328001.out) hb); replace HO_333001 := Aside0.mk (Kd.R_below (Kd.R_g HO_333001.out) hb); replace HO_338001 := Aside0.mk (Kd.R_below (Kd.R_g HO_338001.out) hb); replace HO_344001 := Aside0.mk (Kd.R_below (Kd.R_g HO_344001.out) hb); replace HO348 := Aside0.mk (Kd.R_below (Kd.R_g HO348.out) hb); replace HO353 := Aside0.mk (Kd.R_below (Kd.R_g HO353.out) hb); replace BK310 := blkB BK310 hb; replace BK311 := blkB BK311 hb; replace BK327 := blkB BK327 hb; replace BK332 := blkB BK332 hb; replace BK337 := blkB BK337 hb; replace BK343 := blkB BK343 hb; replace HB := bst HB hb; (try clear hb); (try clear hk)))
           go_meet
           case rel => exact ⟨_, (true), eqS, H', ⟨by have := HJ24.out; first | omega | exact Nat.le_refl _⟩, ⟨Kd.R_g (Kd.R_mono HO_328001.out (fun _ hk => hk.2.2.1))⟩, ⟨Kd.R_g (Kd.R_mono HO_344001.out (fun _ hk => hk.1))⟩, ⟨blk_g BK310.out⟩, ⟨blk_g BK311.out⟩, ⟨blk_g BK327.out⟩, ⟨blk_g BK343.out⟩, ⟨bel_g HB.out⟩⟩
        case rest =>
         clear HC108
         try clear c99
         try clear c102
         try clear c105
         try clear c130b0
         try clear c132
         try clear hcz122_0
         try clear hcz122_1
         try clear hcz128_0
         try clear hcz128_1
         try clear hcz138_0
         try clear hcz138_1
         try clear hcz143_0
         try clear hcz143_1
         try clear hcz150_0
         try clear hcz150_1
         try clear hcz155_0
         try clear hcz155_1
         try clear hcz45_0
         try clear hcz45_1
         try clear hcz51_0
         try clear hcz51_1
         try clear hcz54_0
         try clear hcz54_1
         try clear hcz61_0
         try clear hcz61_1
         try clear hcz63_0
         try clear hcz63_1
         try clear hcz71_0
         try clear hcz71_1
         try clear hcz80_0
         try clear hcz80_1
         try clear hcz85_0
         try clear hcz85_1
         try clear hcz92_0
         try clear hcz92_1
         try clear hcz97_0
         try clear hcz97_1
         try clear hfz122_0
         try clear hfz122_1
         try clear hfz128_0
         try clear hfz128_1
         try clear hfz138_0
         try clear hfz138_1
         try clear hfz143_0
         try clear hfz143_1
         try clear hfz150_0
         try clear hfz150_1
         try clear hfz155_0
         try clear hfz155_1
         try clear hfz45_0
         try clear hfz45_1
         try clear hfz51_0
         try clear hfz51_1
         try clear hfz54_0
         try clear hfz54_1
         try clear hfz61_0
         try clear hfz61_1
         try clear hfz63_0
         try clear hfz63_1
         try clear hfz71_0
         try clear hfz71_1
         try clear hfz80_0
         try clear hfz80_1
         try clear hfz85_0
         try clear hfz85_1
         try clear hfz92_0
         try clear hfz92_1
         try clear hfz97_0
         try clear hfz97_1
         obtain ⟨kq, x82_107, rfl, HA, HJ107, HO_328001, HO_344001, BK310, BK311, BK327, BK343, HB⟩ := hcut
         cases kq with
         | zero => exact absurd HA.out (by simp [laws_FnExactMeetOrders.j1])
         | succ kj107 =>
          have H := HA.out
          clear HA
          simp only [laws_FnExactMeetOrders.j1] at H
          by_cases c157 : x82_107 = true
          ·subst c157
           replace H := ifT H
           obtain rfl := Option.some.inj H
           go_wp2
           go_ret
           exact ⟨eqE, bel_g HB.out⟩
          ·replace c157 := Bool.eq_false_iff.mpr c157
           subst c157
           replace H := ifF H
           obtain ⟨⟨t360, t361⟩, A158, H⟩ := obE H
           dsimp only at H
           obtain ⟨t362, A159, H⟩ := obE H
           rcases iteE H with ⟨c160b0, H⟩ | ⟨c160b0, H⟩
           ·obtain rfl := Option.some.inj H
            have hnb161 := NB343_310.out
            have hnc161 := NB310_343.out
            have hnb162 := NB343_311.out
            have hnc162 := NB311_343.out
            have hnb163 := NB343_327.out
            have hnc163 := NB327_343.out
            obtain ⟨hcz164_0, hcz164_1, hfz164_0, hfz164_1⟩ := blk2 BK343
            go_wp2_with (first | ((with_reducible refine gate_callee (f := 24) rfl ?_); refine goesQ (some 85) Tryd.func24 #[.agg #[.int .i64 t338, .slice Ao72 t339.length co72], .int .i64 1] ?_; (with_reducible refine (laws_markOrder.calls kj107 t338 (fun k_ => some k_ = (.slice Ao72 t339.length co72 : Value).ownBlock) (.slice Ao72 t339.length co72) t339 1 t360 t361 w _ ?side1 ?side2 A158.out).mono ?_); (case side1 => exact bel_g HB.out); (case side2 => exact Kd.R_tight rfl HO_344001.out); rintro e w165 ⟨rfl, hy0, hb, hkp⟩; refine ⟨_, rfl, ?_⟩; replace HO_328001 := Aside0.mk (Kd.R_mono (ok' := fun k_ => some k_ ≠ (.slice Ao72 t339.length co72 : Value).ownBlock) (Kd.R_keptB (HO_328001.out) hkp (fun k_ hk_ hs_ => (hk_) hs_)) (fun k_ hk_ => hk_.1)); replace BK310 := Aside0.mk (blk_kept (blk_g BK310.out) hkp (fun hs_ => (fun e_ => (Kd.R_ne HO_344001.out BK310.out (by decide)) e_) hs_)); replace BK311 := Aside0.mk (blk_kept (blk_g BK311.out) hkp (fun hs_ => (fun e_ => (Kd.R_ne HO_344001.out BK311.out (by decide)) e_) hs_)); replace BK327 := Aside0.mk (blk_kept (blk_g BK327.out) hkp (fun hs_ => (fun e_ => (Kd.R_ne HO_344001.out BK327.out (by decide)) e_) hs_)); replace BK343 := Aside0.mk (blk_kept (blk_g BK343.out) hkp (fun hs_ => (fun e_ => (Kd.R_ne HO_344001.out BK343.out (by decide)) e_) hs_)); replace HO_344001 := Aside0.mk (Kd.R_reok rfl hy0 (fun k_ e_ => HO_344001.out.1 k_ e_)); replace HB := Aside0.mk (hb); (try clear hb); (try clear hkp); (try clear hy0); obtain ⟨hcz166_0, hcz166_1, hfz166_0, hfz166_1⟩ := blk2 BK343) | ((with_reducible refine gate_callee (f := 25) rfl ?_); refine goesL_ (some 88) rfl rfl Tryd.func25 (by kernel_rfl) rfl #[.agg #[.int .i64 t338, .slice Ao72 t361.length co72], .int .i64 1] rfl (by (try simp only [List.map_toArray, List.map_cons, List.map_nil]); first | done | (rw [show t361.length = t339.length from (Kd.R_reads' HO_344001.out).1.symm] <;> rfl) | rfl | (simp only [List.length_drop, List.length_take]; rfl)) ?_; (with_reducible refine (laws_heldOrder.calls kj107 t338 _ _ t361 1 t362 _ ?side1 ?side2 A159.out).mono ?_); (case side1 => repeat (first | exact (Kd.R_reads' HO_344001.out).2.2 | (with_reducible refine Kd.C_alloc ?_ _) | (with_reducible refine Kd.C_drewN ?_ _) | (with_reducible refine Kd.C_drew ?_))); (case side2 => rw [show t361.length = t339.length from (Kd.R_reads' HO_344001.out).1.symm]; exact (Kd.R_reads' HO_344001.out).2.1); rintro e w167 ⟨rfl, hb⟩; refine ⟨_, rfl, ?_⟩; replace HO_328001 := Aside0.mk (Kd.R_below (Kd.R_g HO_328001.out) hb); replace HO_344001 := Aside0.mk (Kd.R_below (Kd.R_g HO_344001.out) hb); replace BK310 := blkB BK310 hb; replace BK311 := blkB BK311 hb; replace BK327 := blkB BK327 hb; replace BK343 := blkB BK343 hb; replace HB := bst HB hb; (try clear hb); (try clear hk)))
            go_ret
            exact ⟨eqE, bel_g HB.out⟩
           ·rcases iteP H with ⟨c168, H⟩ | ⟨c168, H⟩
            ·have c168b0 : (t362 == t360) = true := beq_iff_eq.mpr c168
             have c168b1 : (t362 != t360) = false := bne_eq_false_iff_eq.mpr c168
             clear c168
             obtain ⟨⟨t363, t364⟩, A169, H⟩ := obE H
             dsimp only at H
             obtain ⟨⟨t367, t368⟩, A170, H⟩ := obE H
             dsimp only at H
             obtain ⟨⟨t371, t372, t375⟩, A171, H⟩ := obE H
             dsimp only at H
             have HC172 := Aside0.mk H
             clear H
             have hnb173 := NB343_310.out
             have hnc173 := NB310_343.out
             have hnb174 := NB343_311.out
             have hnc174 := NB311_343.out
             have hnb175 := NB343_327.out
             have hnc175 := NB327_343.out
             obtain ⟨hcz176_0, hcz176_1, hfz176_0, hfz176_1⟩ := blk2 BK343
             try go_wp2_with (first | ((with_reducible refine gate_callee (f := 24) rfl ?_); refine goesQ (some 85) Tryd.func24 #[.agg #[.int .i64 t338, .slice Ao72 t339.length co72], .int .i64 1] ?_; (with_reducible refine (laws_markOrder.calls kj107 t338 (fun k_ => some k_ = (.slice Ao72 t339.length co72 : Value).ownBlock) (.slice Ao72 t339.length co72) t339 1 t360 t361 w _ ?side1 ?side2 A158.out).mono ?_); (case side1 => exact bel_g HB.out); (case side2 => exact Kd.R_tight rfl HO_344001.out); rintro e w177 ⟨rfl, hy0, hb, hkp⟩; refine ⟨_, rfl, ?_⟩; replace HO_328001 := Aside0.mk (Kd.R_mono (ok' := fun k_ => some k_ ≠ (.slice Ao72 t339.length co72 : Value).ownBlock) (Kd.R_keptB (HO_328001.out) hkp (fun k_ hk_ hs_ => (hk_) hs_)) (fun k_ hk_ => hk_.1)); replace BK310 := Aside0.mk (blk_kept (blk_g BK310.out) hkp (fun hs_ => (fun e_ => (Kd.R_ne HO_344001.out BK310.out (by decide)) e_) hs_)); replace BK311 := Aside0.mk (blk_kept (blk_g BK311.out) hkp (fun hs_ => (fun e_ => (Kd.R_ne HO_344001.out BK311.out (by decide)) e_) hs_)); replace BK327 := Aside0.mk (blk_kept (blk_g BK327.out) hkp (fun hs_ => (fun e_ => (Kd.R_ne HO_344001.out BK327.out (by decide)) e_) hs_)); replace BK343 := Aside0.mk (blk_kept (blk_g BK343.out) hkp (fun hs_ => (fun e_ => (Kd.R_ne HO_344001.out BK343.out (by decide)) e_) hs_)); replace HO_344001 := Aside0.mk (Kd.R_reok rfl hy0 (fun k_ e_ => HO_344001.out.1 k_ e_)); replace HB := Aside0.mk (hb); (try clear hb); (try clear hkp); (try clear hy0); obtain ⟨hcz178_0, hcz178_1, hfz178_0, hfz178_1⟩ := blk2 BK343) | ((with_reducible refine gate_callee (f := 25) rfl ?_); refine goesL_ (some 88) rfl rfl Tryd.func25 (by kernel_rfl) rfl #[.agg #[.int .i64 t338, .slice Ao72 t361.length co72], .int .i64 1] rfl (by (try simp only [List.map_toArray, List.map_cons, List.map_nil]); first | done | (rw [show t361.length = t339.length from (Kd.R_reads' HO_344001.out).1.symm] <;> rfl) | rfl | (simp only [List.length_drop, List.length_take]; rfl)) ?_; (with_reducible refine (laws_heldOrder.calls kj107 t338 _ _ t361 1 t362 _ ?side1 ?side2 A159.out).mono ?_); (case side1 => repeat (first | exact (Kd.R_reads' HO_344001.out).2.2 | (with_reducible refine Kd.C_alloc ?_ _) | (with_reducible refine Kd.C_drewN ?_ _) | (with_reducible refine Kd.C_drew ?_))); (case side2 => rw [show t361.length = t339.length from (Kd.R_reads' HO_344001.out).1.symm]; exact (Kd.R_reads' HO_344001.out).2.1); rintro e w179 ⟨rfl, hb⟩; refine ⟨_, rfl, ?_⟩; replace HO_328001 := Aside0.mk (Kd.R_below (Kd.R_g HO_328001.out) hb); replace HO_344001 := Aside0.mk (Kd.R_below (Kd.R_g HO_344001.out) hb); replace BK310 := blkB BK310 hb; replace BK311 := blkB BK311 hb; replace BK327 := blkB BK327 hb; replace BK343 := blkB BK343 hb; replace HB := bst HB hb; (try clear hb); (try clear hk)))
             replace HO_328001 := Aside0.mk (Kd.R_drew HO_328001.out)
             replace HO_344001 := Aside0.mk (Kd.R_drew HO_344001.out)
             replace BK310 := Aside0.mk (blk_drew BK310.out)
             replace BK311 := Aside0.mk (blk_drew BK311.out)
             replace BK327 := Aside0.mk (blk_drew BK327.out)
             replace BK343 := Aside0.mk (blk_drew BK343.out)
             replace HB := Aside0.mk (below_drew1 HB.out)
             refine start_ (n := 11) (S := fun w' => w'.cell? ⟨gb310, 0, none⟩ = some (.int .i64 a0_0) ∧ w'.cell? ⟨gb310, 1, none⟩ = some (.slice A0_1 l0_1.length c0_1) ∧ w'.cell? ⟨gb311, 0, none⟩ = some (.int .i64 a1_0) ∧ w'.cell? ⟨gb311, 1, none⟩ = some (.slice A1_1 l1_1.length c1_1)) (ds := []) (bm 11 0) (by kernel_rfl) rfl (by kernel_rfl) ⟨(blk_cell BK310.out 0).trans rfl, (blk_cell BK310.out 1).trans rfl, (blk_cell BK311.out 0).trans rfl, (blk_cell BK311.out 1).trans rfl⟩ (fun hHeld => ?_); refine with_tabW laws_FnExactMeetOrders.tab31 laws_FnExactMeetOrders.bits31 (fun HT_ HW_ => ?_)
             generalize w179.drew = w180 at HO_328001 HO_344001 BK310 BK311 BK327 BK343 HB hHeld ⊢
             refine takeW 0 (some 95) (bm 11 1) HT_ HW_ hHeld ?_
             refine takeW 2 (some 97) (bm 11 5) HT_ HW_ hHeld ?_
             refine join_ (σ := Value × Value × Value × Nat) 2 (bm 11 511) (fun s_ => [(96, .agg #[.int .i64 t363, s_.1]), (98, .agg #[.int .i64 t367, s_.2.1]), (99, .tuple #[.agg #[.int .i64 t371, s_.2.2.1], .bool t375]), (15, .pointer (some ⟨s_.2.2.2, 0, none⟩)), (94, .tuple #[.agg #[.int .i64 t371, s_.2.2.1], .bool t375]), (100, .agg #[.int .i64 t371, s_.2.2.1]), (101, .bool t375)]) (fun s_ w' => (w'.cell? ⟨gb310, 0, none⟩ = some (.int .i64 a0_0) ∧ w'.cell? ⟨gb310, 1, none⟩ = some (.slice A0_1 l0_1.length c0_1) ∧ w'.cell? ⟨gb311, 0, none⟩ = some (.int .i64 a1_0) ∧ w'.cell? ⟨gb311, 1, none⟩ = some (.slice A1_1 l1_1.length c1_1)) ∧ (Kd.R (Kd.int .i64) 3 w' w.heap.size (fun k_ => some k_ ≠ (s_.2.1 : Value).ownBlock ∧ some k_ ≠ (s_.2.2.1 : Value).ownBlock ∧ some k_ ≠ (.slice Ao42 t323.length co42 : Value).ownBlock ∧ some k_ ≠ (.slice Ao72 t339.length co72 : Value).ownBlock) s_.1 t364) ∧ (Kd.R (Kd.int .i64) 3 w' w.heap.size (fun k_ => some k_ ≠ (s_.1 : Value).ownBlock ∧ some k_ ≠ (s_.2.2.1 : Value).ownBlock ∧ some k_ ≠ (.slice Ao42 t323.length co42 : Value).ownBlock ∧ some k_ ≠ (.slice Ao72 t339.length co72 : Value).ownBlock) s_.2.1 t368) ∧ (Kd.R (Kd.int .i64) 3 w' w.heap.size (fun k_ => some k_ ≠ (s_.1 : Value).ownBlock ∧ some k_ ≠ (s_.2.1 : Value).ownBlock ∧ some k_ ≠ (.slice Ao42 t323.length co42 : Value).ownBlock ∧ some k_ ≠ (.slice Ao72 t339.length co72 : Value).ownBlock) s_.2.2.1 t372) ∧ (Kd.R (Kd.int .i64) 3 w' w.heap.size (fun k_ => some k_ ≠ (s_.1 : Value).ownBlock ∧ some k_ ≠ (s_.2.1 : Value).ownBlock ∧ some k_ ≠ (s_.2.2.1 : Value).ownBlock ∧ some k_ ≠ (.slice Ao72 t339.length co72 : Value).ownBlock) (.slice Ao42 t323.length co42) t323) ∧ (Kd.R (Kd.int .i64) 3 w' w.heap.size (fun k_ => some k_ ≠ (s_.1 : Value).ownBlock ∧ some k_ ≠ (s_.2.1 : Value).ownBlock ∧ some k_ ≠ (s_.2.2.1 : Value).ownBlock ∧ some k_ ≠ (.slice Ao42 t323.length co42 : Value).ownBlock) (.slice Ao72 t339.length co72) t361) ∧ (w'.heap[gb310]? = some (.cells #[.int .i64 a0_0, .slice A0_1 l0_1.length c0_1] 24 (0, 0))) ∧ (w'.heap[gb311]? = some (.cells #[.int .i64 a1_0, .slice A1_1 l1_1.length c1_1] 24 (0, 0))) ∧ (w'.heap[gb327]? = some (.cells #[.int .i64 t322, .slice Ao42 t323.length co42] 28 (0, 0))) ∧ (w'.heap[gb343]? = some (.cells #[.int .i64 t338, .slice Ao72 t339.length co72] 28 (0, 0))) ∧ (w'.heap[s_.2.2.2]? = some (.cells #[.int .i64 0, .slice none 0 0] 28 (0, 0))) ∧ (w.heap.size ≤ s_.2.2.2) ∧ (w.heap.size ≤ s_.2.2.2) ∧ (gb310 ≠ s_.2.2.2) ∧ (s_.2.2.2 ≠ gb310) ∧ (gb311 ≠ s_.2.2.2) ∧ (s_.2.2.2 ≠ gb311) ∧ (gb327 ≠ s_.2.2.2) ∧ (s_.2.2.2 ≠ gb327) ∧ (gb343 ≠ s_.2.2.2) ∧ (s_.2.2.2 ≠ gb343) ∧ (Below w.heap.size w w')) ?_ ?_
             rotate_left
             ·intro hCont
              refine two_ (i := 1) (j := 8) (Ni := some 96) (Nj := some 15) (bm 11 7) (bm 11 261) rfl rfl rfl rfl (two_of HT_.out (by kernel_rfl)) (by decide) (by decide) (fun K hK => ?_) (fun K hK => ?_)
              ·skip
               refine goesR Tryd.func17 #[.agg #[.int .i64 a0_0, .slice A0_1 l0_1.length c0_1]] ?_
               with_reducible refine (laws_toOrder.calls kj107 a0_0 _ _ l0_1 t363 t364 _ ?side1 ?side2 A169.out).mono ?_
               (case side1 => exact C_g HR0_1 HB)
               (case side2 => exact HC0_1.out)
               rintro e w181 ⟨v365, rfl, ho0, hb⟩
               refine ⟨_, rfl, ?_⟩
               have HO366 := Aside0.mk (Kd.R_lower (Kd.R_new' (Kd.R_new' ho0 (Kd.R_lt (Kd.R_g HO_328001.out))) (Kd.R_lt (Kd.R_g HO_344001.out))) (below_size (bel_g HB.out)))
               replace HO_328001 := Aside0.mk (Kd.R_elder' (Kd.R_g HO_328001.out) (Kd.R_base ho0) hb)
               replace HO_344001 := Aside0.mk (Kd.R_elder' (Kd.R_g HO_344001.out) (Kd.R_base ho0) hb)
               replace BK310 := blkB BK310 hb
               replace BK311 := blkB BK311 hb
               replace BK327 := blkB BK327 hb
               replace BK343 := blkB BK343 hb
               replace HB := bst HB hb
               (try clear hb)
               (try clear hb2)
               (try clear hk)
               (try clear hi)
               (try clear ho0)
               refine hK.out _ _ ⟨(blk_cell BK310.out 0).trans rfl, (blk_cell BK310.out 1).trans rfl, (blk_cell BK311.out 0).trans rfl, (blk_cell BK311.out 1).trans rfl⟩ (fun hHeld => ?_)
               clear hK K
               refine normW 96 ?_
               refine two_ (i := 3) (j := 8) (Ni := some 98) (Nj := some 15) (bm 11 15) (bm 11 263) rfl rfl rfl rfl (two_of HT_.out (by kernel_rfl)) (by decide) (by decide) (fun K hK => ?_) (fun K hK => ?_)
               ·skip
                refine goesR Tryd.func17 #[.agg #[.int .i64 a1_0, .slice A1_1 l1_1.length c1_1]] ?_
                with_reducible refine (laws_toOrder.calls kj107 a1_0 _ _ l1_1 t367 t368 _ ?side1 ?side2 A170.out).mono ?_
                (case side1 => exact C_g HR1_1 HB)
                (case side2 => exact HC1_1.out)
                rintro e w182 ⟨v369, rfl, ho0, hb⟩
                refine ⟨_, rfl, ?_⟩
                have HO370 := Aside0.mk (Kd.R_lower (Kd.R_new' (Kd.R_new' (Kd.R_new' ho0 (Kd.R_lt (Kd.R_g HO_328001.out))) (Kd.R_lt (Kd.R_g HO_344001.out))) (Kd.R_lt (Kd.R_g HO366.out))) (below_size (bel_g HB.out)))
                replace HO_328001 := Aside0.mk (Kd.R_elder' (Kd.R_g HO_328001.out) (Kd.R_base ho0) hb)
                replace HO_344001 := Aside0.mk (Kd.R_elder' (Kd.R_g HO_344001.out) (Kd.R_base ho0) hb)
                replace HO366 := Aside0.mk (Kd.R_elder' (Kd.R_g HO366.out) (Kd.R_base ho0) hb)
                replace BK310 := blkB BK310 hb
                replace BK311 := blkB BK311 hb
                replace BK327 := blkB BK327 hb
                replace BK343 := blkB BK343 hb
                replace HB := bst HB hb
                (try clear hb)
                (try clear hb2)
                (try clear hk)
                (try clear hi)
                (try clear ho0)
                obtain ⟨Ao183, co183, eo183⟩ := Kd.R_slice HO366.out
                (first | subst eo183 | (injection eo183 with f1_ f2_ f3_; have f4_ := f1_.symm; have f5_ := f3_.symm; clear f1_ f2_ f3_; subst f4_; subst f5_))
                obtain ⟨Ao184, co184, eo184⟩ := Kd.R_slice HO370.out
                (first | subst eo184 | (injection eo184 with f1_ f2_ f3_; have f4_ := f1_.symm; have f5_ := f3_.symm; clear f1_ f2_ f3_; subst f4_; subst f5_))
                refine hK.out _ _ ⟨(blk_cell BK310.out 0).trans rfl, (blk_cell BK310.out 1).trans rfl, (blk_cell BK311.out 0).trans rfl, (blk_cell BK311.out 1).trans rfl⟩ (fun hHeld => ?_)
                clear hK K
                refine normW 98 ?_
                refine two_ (i := 4) (j := 8) (Ni := some 99) (Nj := some 15) (bm 11 31) (bm 11 271) rfl rfl rfl rfl (two_of HT_.out (by kernel_rfl)) (by decide) (by decide) (fun K hK => ?_) (fun K hK => ?_)
                ·skip
                 refine goesR Tryd.func23 #[.agg #[.int .i64 t363, .slice Ao183 t364.length co183], .agg #[.int .i64 t367, .slice Ao184 t368.length co184]] ?_
                 with_reducible refine (impl_MeetOrders.calls kj107 t363 _ _ t364 t367 _ _ t368 t371 t372 t375 _ ?side1 ?side2 ?side3 ?side4 ?side5 A171.out).mono ?_
                 (case side1 => repeat (first | exact (Kd.R_reads' HO366.out).2.2 | (with_reducible refine Kd.C_alloc ?_ _) | (with_reducible refine Kd.C_drewN ?_ _) | (with_reducible refine Kd.C_drew ?_)))
                 (case side2 => exact (Kd.R_reads' HO366.out).2.1)
                 (case side3 => repeat (first | exact (Kd.R_reads' HO370.out).2.2 | (with_reducible refine Kd.C_alloc ?_ _) | (with_reducible refine Kd.C_drewN ?_ _) | (with_reducible refine Kd.C_drew ?_)))
                 (case side4 => exact (Kd.R_reads' HO370.out).2.1)
                 (case side5 => first | exact HTAB.out | exact Tab.drewN HTAB.out _ | exact Tab.below HTAB.out (bel_g HB.out) | exact Tab.below HTAB.out (by repeat (first | exact Below.refl _ _ | apply below_alloc | apply pw_below_drewN | apply below_drew1)))
                 rintro e w185 ⟨v373, rfl, ho0, hb⟩
                 refine ⟨_, rfl, ?_⟩
                 have HO374 := Aside0.mk (Kd.R_lower (Kd.R_new' (Kd.R_new' (Kd.R_new' (Kd.R_new' ho0 (Kd.R_lt (Kd.R_g HO_328001.out))) (Kd.R_lt (Kd.R_g HO_344001.out))) (Kd.R_lt (Kd.R_g HO366.out))) (Kd.R_lt (Kd.R_g HO370.out))) (below_size (bel_g HB.out)))
                 replace HO_328001 := Aside0.mk (Kd.R_elder' (Kd.R_g HO_328001.out) (Kd.R_base ho0) hb)
                 replace HO_344001 := Aside0.mk (Kd.R_elder' (Kd.R_g HO_344001.out) (Kd.R_base ho0) hb)
                 replace HO366 := Aside0.mk (Kd.R_elder' (Kd.R_g HO366.out) (Kd.R_base ho0) hb)
                 replace HO370 := Aside0.mk (Kd.R_elder' (Kd.R_g HO370.out) (Kd.R_base ho0) hb)
                 replace BK310 := blkB BK310 hb
                 replace BK311 := blkB BK311 hb
                 replace BK327 := blkB BK327 hb
                 replace BK343 := blkB BK343 hb
                 replace HB := bst HB hb
                 (try clear hb)
                 (try clear hb2)
                 (try clear hk)
                 (try clear hi)
                 (try clear ho0)
                 refine hK.out _ _ ⟨(blk_cell BK310.out 0).trans rfl, (blk_cell BK310.out 1).trans rfl, (blk_cell BK311.out 0).trans rfl, (blk_cell BK311.out 1).trans rfl⟩ (fun hHeld => ?_)
                 clear hK K
                 refine normW 99 ?_
                 refine pureW 5 (some 94) (bm 11 63) HT_ ?_
                 refine pureW 6 (some 100) (bm 11 127) HT_ ?_
                 refine pureW 7 (some 101) (bm 11 255) HT_ ?_
                 refine oneW 8 (some 15) (bm 11 511) HT_ (fun K hK => ?_)
                 refine box_step ?hg (N := 15) ?hd (cs := #[.int .i64 0, .slice none 0 0]) (t := 28) ?hr ?_; (case hd => rfl); (case hg => rfl); (case hr => first | (go_simp; done) | (go_simp; rfl))
                 intro gb376 hg w186 hbox hb
                 replace HO_328001 := Aside0.mk (Kd.R_below (Kd.R_g HO_328001.out) hb)
                 replace HO_344001 := Aside0.mk (Kd.R_below (Kd.R_g HO_344001.out) hb)
                 replace HO366 := Aside0.mk (Kd.R_below (Kd.R_g HO366.out) hb)
                 replace HO370 := Aside0.mk (Kd.R_below (Kd.R_g HO370.out) hb)
                 replace HO374 := Aside0.mk (Kd.R_below (Kd.R_g HO374.out) hb)
                 have BK376 := Aside0.mk (hbox)
                 have GW376 := geB HB hg
                 have GE376 := geB HB hg
                 have NB310_376 := neL BK310 hg
                 have NB376_310 := neR BK310 hg
                 replace BK310 := blkB BK310 hb
                 have NB311_376 := neL BK311 hg
                 have NB376_311 := neR BK311 hg
                 replace BK311 := blkB BK311 hb
                 have NB327_376 := neL BK327 hg
                 have NB376_327 := neR BK327 hg
                 replace BK327 := blkB BK327 hb
                 have NB343_376 := neL BK343 hg
                 have NB376_343 := neR BK343 hg
                 replace BK343 := blkB BK343 hb
                 replace HB := bst HB hb
                 clear hb hbox hg
                 refine hK.out _ _ ⟨(blk_cell BK310.out 0).trans rfl, (blk_cell BK310.out 1).trans rfl, (blk_cell BK311.out 0).trans rfl, (blk_cell BK311.out 1).trans rfl⟩ (fun hHeld => ?_)
                 clear hK K
                 refine normW 15 ?_
                 exact norm_ (by simp only [putAll, Act.put, List.setIfInBounds_toArray, List.set_cons_zero, List.set_cons_succ]) (hCont (.slice Ao183 t364.length co183, .slice Ao184 t368.length co184, v373, gb376) _ ⟨hHeld, (Kd.R_g (Kd.R_mono HO366.out (fun _ hk => ⟨hk.1.2, ⟨hk.2, ⟨hk.1.1.1.2, hk.1.1.2⟩⟩⟩))), (Kd.R_g (Kd.R_mono HO370.out (fun _ hk => ⟨hk.1.2, ⟨hk.2, ⟨hk.1.1.1.2, hk.1.1.2⟩⟩⟩))), (Kd.R_g (Kd.R_mono HO374.out (fun _ hk => ⟨hk.1.2, ⟨hk.2, ⟨hk.1.1.1.2, hk.1.1.2⟩⟩⟩))), (Kd.R_g (Kd.R_mono HO_328001.out (fun _ hk => ⟨hk.1.1.2, ⟨hk.1.2, ⟨hk.2, hk.1.1.1⟩⟩⟩))), (Kd.R_g (Kd.R_mono HO_344001.out (fun _ hk => ⟨hk.1.1.2, ⟨hk.1.2, ⟨hk.2, hk.1.1.1⟩⟩⟩))), (blk_g BK310.out), (blk_g BK311.out), (blk_g BK327.out), (blk_g BK343.out), (blk_g BK376.out), GW376.out, GE376.out, NB310_376.out, NB376_310.out, NB311_376.out, NB376_311.out, NB327_376.out, NB376_327.out, NB343_376.out, NB376_343.out, (bel_g HB.out)⟩)
                ·skip
                 refine box_step ?hg (N := 15) ?hd (cs := #[.int .i64 0, .slice none 0 0]) (t := 28) ?hr ?_; (case hd => rfl); (case hg => rfl); (case hr => first | (go_simp; done) | (go_simp; rfl))
                 intro gb376 hg w183 hbox hb
                 replace HO_328001 := Aside0.mk (Kd.R_below (Kd.R_g HO_328001.out) hb)
                 replace HO_344001 := Aside0.mk (Kd.R_below (Kd.R_g HO_344001.out) hb)
                 replace HO366 := Aside0.mk (Kd.R_below (Kd.R_g HO366.out) hb)
                 replace HO370 := Aside0.mk (Kd.R_below (Kd.R_g HO370.out) hb)
                 have BK376 := Aside0.mk (hbox)
                 have GW376 := geB HB hg
                 have GE376 := geB HB hg
                 have NB310_376 := neL BK310 hg
                 have NB376_310 := neR BK310 hg
                 replace BK310 := blkB BK310 hb
                 have NB311_376 := neL BK311 hg
                 have NB376_311 := neR BK311 hg
                 replace BK311 := blkB BK311 hb
                 have NB327_376 := neL BK327 hg
                 have NB376_327 := neR BK327 hg
                 replace BK327 := blkB BK327 hb
                 have NB343_376 := neL BK343 hg
                 have NB376_343 := neR BK343 hg
                 replace BK343 := blkB BK343 hb
                 replace HB := bst HB hb
                 clear hb hbox hg
                 obtain ⟨Ao184, co184, eo184⟩ := Kd.R_slice HO366.out
                 (first | subst eo184 | (injection eo184 with f1_ f2_ f3_; have f4_ := f1_.symm; have f5_ := f3_.symm; clear f1_ f2_ f3_; subst f4_; subst f5_))
                 obtain ⟨Ao185, co185, eo185⟩ := Kd.R_slice HO370.out
                 (first | subst eo185 | (injection eo185 with f1_ f2_ f3_; have f4_ := f1_.symm; have f5_ := f3_.symm; clear f1_ f2_ f3_; subst f4_; subst f5_))
                 refine hK.out _ _ ⟨(blk_cell BK310.out 0).trans rfl, (blk_cell BK310.out 1).trans rfl, (blk_cell BK311.out 0).trans rfl, (blk_cell BK311.out 1).trans rfl⟩ (fun hHeld => ?_)
                 clear hK K
                 refine normW 15 ?_
                 refine oneW 4 (some 99) (bm 11 287) HT_ (fun K hK => ?_)
                 refine goesR Tryd.func23 #[.agg #[.int .i64 t363, .slice Ao184 t364.length co184], .agg #[.int .i64 t367, .slice Ao185 t368.length co185]] ?_
                 with_reducible refine (impl_MeetOrders.calls kj107 t363 _ _ t364 t367 _ _ t368 t371 t372 t375 _ ?side1 ?side2 ?side3 ?side4 ?side5 A171.out).mono ?_
                 (case side1 => repeat (first | exact (Kd.R_reads' HO366.out).2.2 | (with_reducible refine Kd.C_alloc ?_ _) | (with_reducible refine Kd.C_drewN ?_ _) | (with_reducible refine Kd.C_drew ?_)))
                 (case side2 => exact (Kd.R_reads' HO366.out).2.1)
                 (case side3 => repeat (first | exact (Kd.R_reads' HO370.out).2.2 | (with_reducible refine Kd.C_alloc ?_ _) | (with_reducible refine Kd.C_drewN ?_ _) | (with_reducible refine Kd.C_drew ?_)))
                 (case side4 => exact (Kd.R_reads' HO370.out).2.1)
                 (case side5 => first | exact HTAB.out | exact Tab.drewN HTAB.out _ | exact Tab.below HTAB.out (bel_g HB.out) | exact Tab.below HTAB.out (by repeat (first | exact Below.refl _ _ | apply below_alloc | apply pw_below_drewN | apply below_drew1)))
                 rintro e w186 ⟨v373, rfl, ho0, hb⟩
                 refine ⟨_, rfl, ?_⟩
                 have HO374 := Aside0.mk (Kd.R_lower (Kd.R_new' (Kd.R_new' (Kd.R_new' (Kd.R_new' ho0 (Kd.R_lt (Kd.R_g HO_328001.out))) (Kd.R_lt (Kd.R_g HO_344001.out))) (Kd.R_lt (Kd.R_g HO366.out))) (Kd.R_lt (Kd.R_g HO370.out))) (below_size (bel_g HB.out)))
                 replace HO_328001 := Aside0.mk (Kd.R_elder' (Kd.R_g HO_328001.out) (Kd.R_base ho0) hb)
                 replace HO_344001 := Aside0.mk (Kd.R_elder' (Kd.R_g HO_344001.out) (Kd.R_base ho0) hb)
                 replace HO366 := Aside0.mk (Kd.R_elder' (Kd.R_g HO366.out) (Kd.R_base ho0) hb)
                 replace HO370 := Aside0.mk (Kd.R_elder' (Kd.R_g HO370.out) (Kd.R_base ho0) hb)
                 replace BK310 := blkB BK310 hb
                 replace BK311 := blkB BK311 hb
                 replace BK327 := blkB BK327 hb
                 replace BK343 := blkB BK343 hb
                 replace BK376 := blkB BK376 hb
                 replace HB := bst HB hb
                 (try clear hb)
                 (try clear hb2)
                 (try clear hk)
                 (try clear hi)
                 (try clear ho0)
                 refine hK.out _ _ ⟨(blk_cell BK310.out 0).trans rfl, (blk_cell BK310.out 1).trans rfl, (blk_cell BK311.out 0).trans rfl, (blk_cell BK311.out 1).trans rfl⟩ (fun hHeld => ?_)
                 clear hK K
                 refine normW 99 ?_
                 refine pureW 5 (some 94) (bm 11 319) HT_ ?_
                 refine pureW 6 (some 100) (bm 11 383) HT_ ?_
                 refine pureW 7 (some 101) (bm 11 511) HT_ ?_
                 exact norm_ (by simp only [putAll, Act.put, List.setIfInBounds_toArray, List.set_cons_zero, List.set_cons_succ]) (hCont (.slice Ao184 t364.length co184, .slice Ao185 t368.length co185, v373, gb376) _ ⟨hHeld, (Kd.R_g (Kd.R_mono HO366.out (fun _ hk => ⟨hk.1.2, ⟨hk.2, ⟨hk.1.1.1.2, hk.1.1.2⟩⟩⟩))), (Kd.R_g (Kd.R_mono HO370.out (fun _ hk => ⟨hk.1.2, ⟨hk.2, ⟨hk.1.1.1.2, hk.1.1.2⟩⟩⟩))), (Kd.R_g (Kd.R_mono HO374.out (fun _ hk => ⟨hk.1.2, ⟨hk.2, ⟨hk.1.1.1.2, hk.1.1.2⟩⟩⟩))), (Kd.R_g (Kd.R_mono HO_328001.out (fun _ hk => ⟨hk.1.1.2, ⟨hk.1.2, ⟨hk.2, hk.1.1.1⟩⟩⟩))), (Kd.R_g (Kd.R_mono HO_344001.out (fun _ hk => ⟨hk.1.1.2, ⟨hk.1.2, ⟨hk.2, hk.1.1.1⟩⟩⟩))), (blk_g BK310.out), (blk_g BK311.out), (blk_g BK327.out), (blk_g BK343.out), (blk_g BK376.out), GW376.out, GE376.out, NB310_376.out, NB376_310.out, NB311_376.out, NB376_311.out, NB327_376.out, NB376_327.out, NB343_376.out, NB376_343.out, (bel_g HB.out)⟩)
               ·skip
                refine box_step ?hg (N := 15) ?hd (cs := #[.int .i64 0, .slice none 0 0]) (t := 28) ?hr ?_; (case hd => rfl); (case hg => rfl); (case hr => first | (go_simp; done) | (go_simp; rfl))
                intro gb376 hg w182 hbox hb
                replace HO_328001 := Aside0.mk (Kd.R_below (Kd.R_g HO_328001.out) hb)
                replace HO_344001 := Aside0.mk (Kd.R_below (Kd.R_g HO_344001.out) hb)
                replace HO366 := Aside0.mk (Kd.R_below (Kd.R_g HO366.out) hb)
                have BK376 := Aside0.mk (hbox)
                have GW376 := geB HB hg
                have GE376 := geB HB hg
                have NB310_376 := neL BK310 hg
                have NB376_310 := neR BK310 hg
                replace BK310 := blkB BK310 hb
                have NB311_376 := neL BK311 hg
                have NB376_311 := neR BK311 hg
                replace BK311 := blkB BK311 hb
                have NB327_376 := neL BK327 hg
                have NB376_327 := neR BK327 hg
                replace BK327 := blkB BK327 hb
                have NB343_376 := neL BK343 hg
                have NB376_343 := neR BK343 hg
                replace BK343 := blkB BK343 hb
                replace HB := bst HB hb
                clear hb hbox hg
                refine hK.out _ _ ⟨(blk_cell BK310.out 0).trans rfl, (blk_cell BK310.out 1).trans rfl, (blk_cell BK311.out 0).trans rfl, (blk_cell BK311.out 1).trans rfl⟩ (fun hHeld => ?_)
                clear hK K
                refine normW 15 ?_
                refine oneW 3 (some 98) (bm 11 271) HT_ (fun K hK => ?_)
                refine goesR Tryd.func17 #[.agg #[.int .i64 a1_0, .slice A1_1 l1_1.length c1_1]] ?_
                with_reducible refine (laws_toOrder.calls kj107 a1_0 _ _ l1_1 t367 t368 _ ?side1 ?side2 A170.out).mono ?_
                (case side1 => exact C_g HR1_1 HB)
                (case side2 => exact HC1_1.out)
                rintro e w183 ⟨v369, rfl, ho0, hb⟩
                refine ⟨_, rfl, ?_⟩
                have HO370 := Aside0.mk (Kd.R_lower (Kd.R_new' (Kd.R_new' (Kd.R_new' ho0 (Kd.R_lt (Kd.R_g HO_328001.out))) (Kd.R_lt (Kd.R_g HO_344001.out))) (Kd.R_lt (Kd.R_g HO366.out))) (below_size (bel_g HB.out)))
                replace HO_328001 := Aside0.mk (Kd.R_elder' (Kd.R_g HO_328001.out) (Kd.R_base ho0) hb)
                replace HO_344001 := Aside0.mk (Kd.R_elder' (Kd.R_g HO_344001.out) (Kd.R_base ho0) hb)
                replace HO366 := Aside0.mk (Kd.R_elder' (Kd.R_g HO366.out) (Kd.R_base ho0) hb)
                replace BK310 := blkB BK310 hb
                replace BK311 := blkB BK311 hb
                replace BK327 := blkB BK327 hb
                replace BK343 := blkB BK343 hb
                replace BK376 := blkB BK376 hb
                replace HB := bst HB hb
                (try clear hb)
                (try clear hb2)
                (try clear hk)
                (try clear hi)
                (try clear ho0)
                obtain ⟨Ao184, co184, eo184⟩ := Kd.R_slice HO366.out
                (first | subst eo184 | (injection eo184 with f1_ f2_ f3_; have f4_ := f1_.symm; have f5_ := f3_.symm; clear f1_ f2_ f3_; subst f4_; subst f5_))
                obtain ⟨Ao185, co185, eo185⟩ := Kd.R_slice HO370.out
                (first | subst eo185 | (injection eo185 with f1_ f2_ f3_; have f4_ := f1_.symm; have f5_ := f3_.symm; clear f1_ f2_ f3_; subst f4_; subst f5_))
                refine hK.out _ _ ⟨(blk_cell BK310.out 0).trans rfl, (blk_cell BK310.out 1).trans rfl, (blk_cell BK311.out 0).trans rfl, (blk_cell BK311.out 1).trans rfl⟩ (fun hHeld => ?_)
                clear hK K
                refine normW 98 ?_
                refine oneW 4 (some 99) (bm 11 287) HT_ (fun K hK => ?_)
                refine goesR Tryd.func23 #[.agg #[.int .i64 t363, .slice Ao184 t364.length co184], .agg #[.int .i64 t367, .slice Ao185 t368.length co185]] ?_
                with_reducible refine (impl_MeetOrders.calls kj107 t363 _ _ t364 t367 _ _ t368 t371 t372 t375 _ ?side1 ?side2 ?side3 ?side4 ?side5 A171.out).mono ?_
                (case side1 => repeat (first | exact (Kd.R_reads' HO366.out).2.2 | (with_reducible refine Kd.C_alloc ?_ _) | (with_reducible refine Kd.C_drewN ?_ _) | (with_reducible refine Kd.C_drew ?_)))
                (case side2 => exact (Kd.R_reads' HO366.out).2.1)
                (case side3 => repeat (first | exact (Kd.R_reads' HO370.out).2.2 | (with_reducible refine Kd.C_alloc ?_ _) | (with_reducible refine Kd.C_drewN ?_ _) | (with_reducible refine Kd.C_drew ?_)))
                (case side4 => exact (Kd.R_reads' HO370.out).2.1)
                (case side5 => first | exact HTAB.out | exact Tab.drewN HTAB.out _ | exact Tab.below HTAB.out (bel_g HB.out) | exact Tab.below HTAB.out (by repeat (first | exact Below.refl _ _ | apply below_alloc | apply pw_below_drewN | apply below_drew1)))
                rintro e w186 ⟨v373, rfl, ho0, hb⟩
                refine ⟨_, rfl, ?_⟩
                have HO374 := Aside0.mk (Kd.R_lower (Kd.R_new' (Kd.R_new' (Kd.R_new' (Kd.R_new' ho0 (Kd.R_lt (Kd.R_g HO_328001.out))) (Kd.R_lt (Kd.R_g HO_344001.out))) (Kd.R_lt (Kd.R_g HO366.out))) (Kd.R_lt (Kd.R_g HO370.out))) (below_size (bel_g HB.out)))
                replace HO_328001 := Aside0.mk (Kd.R_elder' (Kd.R_g HO_328001.out) (Kd.R_base ho0) hb)
                replace HO_344001 := Aside0.mk (Kd.R_elder' (Kd.R_g HO_344001.out) (Kd.R_base ho0) hb)
                replace HO366 := Aside0.mk (Kd.R_elder' (Kd.R_g HO366.out) (Kd.R_base ho0) hb)
                replace HO370 := Aside0.mk (Kd.R_elder' (Kd.R_g HO370.out) (Kd.R_base ho0) hb)
                replace BK310 := blkB BK310 hb
                replace BK311 := blkB BK311 hb
                replace BK327 := blkB BK327 hb
                replace BK343 := blkB BK343 hb
                replace BK376 := blkB BK376 hb
                replace HB := bst HB hb
                (try clear hb)
                (try clear hb2)
                (try clear hk)
                (try clear hi)
                (try clear ho0)
                refine hK.out _ _ ⟨(blk_cell BK310.out 0).trans rfl, (blk_cell BK310.out 1).trans rfl, (blk_cell BK311.out 0).trans rfl, (blk_cell BK311.out 1).trans rfl⟩ (fun hHeld => ?_)
                clear hK K
                refine normW 99 ?_
                refine pureW 5 (some 94) (bm 11 319) HT_ ?_
                refine pureW 6 (some 100) (bm 11 383) HT_ ?_
                refine pureW 7 (some 101) (bm 11 511) HT_ ?_
                exact norm_ (by simp only [putAll, Act.put, List.setIfInBounds_toArray, List.set_cons_zero, List.set_cons_succ]) (hCont (.slice Ao184 t364.length co184, .slice Ao185 t368.length co185, v373, gb376) _ ⟨hHeld, (Kd.R_g (Kd.R_mono HO366.out (fun _ hk => ⟨hk.1.2, ⟨hk.2, ⟨hk.1.1.1.2, hk.1.1.2⟩⟩⟩))), (Kd.R_g (Kd.R_mono HO370.out (fun _ hk => ⟨hk.1.2, ⟨hk.2, ⟨hk.1.1.1.2, hk.1.1.2⟩⟩⟩))), (Kd.R_g (Kd.R_mono HO374.out (fun _ hk => ⟨hk.1.2, ⟨hk.2, ⟨hk.1.1.1.2, hk.1.1.2⟩⟩⟩))), (Kd.R_g (Kd.R_mono HO_328001.out (fun _ hk => ⟨hk.1.1.2, ⟨hk.1.2, ⟨hk.2, hk.1.1.1⟩⟩⟩))), (Kd.R_g (Kd.R_mono HO_344001.out (fun _ hk => ⟨hk.1.1.2, ⟨hk.1.2, ⟨hk.2, hk.1.1.1⟩⟩⟩))), (blk_g BK310.out), (blk_g BK311.out), (blk_g BK327.out), (blk_g BK343.out), (blk_g BK376.out), GW376.out, GE376.out, NB310_376.out, NB376_310.out, NB311_376.out, NB376_311.out, NB327_376.out, NB376_327.out, NB343_376.out, NB376_343.out, (bel_g HB.out)⟩)
              ·skip
               refine box_step ?hg (N := 15) ?hd (cs := #[.int .i64 0, .slice none 0 0]) (t := 28) ?hr ?_; (case hd => rfl); (case hg => rfl); (case hr => first | (go_simp; done) | (go_simp; rfl))
               intro gb376 hg w181 hbox hb
               replace HO_328001 := Aside0.mk (Kd.R_below (Kd.R_g HO_328001.out) hb)
               replace HO_344001 := Aside0.mk (Kd.R_below (Kd.R_g HO_344001.out) hb)
               have BK376 := Aside0.mk (hbox)
               have GW376 := geB HB hg
               have GE376 := geB HB hg
               have NB310_376 := neL BK310 hg
               have NB376_310 := neR BK310 hg
               replace BK310 := blkB BK310 hb
               have NB311_376 := neL BK311 hg
               have NB376_311 := neR BK311 hg
               replace BK311 := blkB BK311 hb
               have NB327_376 := neL BK327 hg
               have NB376_327 := neR BK327 hg
               replace BK327 := blkB BK327 hb
               have NB343_376 := neL BK343 hg
               have NB376_343 := neR BK343 hg
               replace BK343 := blkB BK343 hb
               replace HB := bst HB hb
               clear hb hbox hg
               refine hK.out _ _ ⟨(blk_cell BK310.out 0).trans rfl, (blk_cell BK310.out 1).trans rfl, (blk_cell BK311.out 0).trans rfl, (blk_cell BK311.out 1).trans rfl⟩ (fun hHeld => ?_)
               clear hK K
               refine normW 15 ?_
               refine oneW 1 (some 96) (bm 11 263) HT_ (fun K hK => ?_)
               refine goesR Tryd.func17 #[.agg #[.int .i64 a0_0, .slice A0_1 l0_1.length c0_1]] ?_
               with_reducible refine (laws_toOrder.calls kj107 a0_0 _ _ l0_1 t363 t364 _ ?side1 ?side2 A169.out).mono ?_
               (case side1 => exact C_g HR0_1 HB)
               (case side2 => exact HC0_1.out)
               rintro e w182 ⟨v365, rfl, ho0, hb⟩
               refine ⟨_, rfl, ?_⟩
               have HO366 := Aside0.mk (Kd.R_lower (Kd.R_new' (Kd.R_new' ho0 (Kd.R_lt (Kd.R_g HO_328001.out))) (Kd.R_lt (Kd.R_g HO_344001.out))) (below_size (bel_g HB.out)))
               replace HO_328001 := Aside0.mk (Kd.R_elder' (Kd.R_g HO_328001.out) (Kd.R_base ho0) hb)
               replace HO_344001 := Aside0.mk (Kd.R_elder' (Kd.R_g HO_344001.out) (Kd.R_base ho0) hb)
               replace BK310 := blkB BK310 hb
               replace BK311 := blkB BK311 hb
               replace BK327 := blkB BK327 hb
               replace BK343 := blkB BK343 hb
               replace BK376 := blkB BK376 hb
               replace HB := bst HB hb
               (try clear hb)
               (try clear hb2)
               (try clear hk)
               (try clear hi)
               (try clear ho0)
               refine hK.out _ _ ⟨(blk_cell BK310.out 0).trans rfl, (blk_cell BK310.out 1).trans rfl, (blk_cell BK311.out 0).trans rfl, (blk_cell BK311.out 1).trans rfl⟩ (fun hHeld => ?_)
               clear hK K
               refine normW 96 ?_
               refine oneW 3 (some 98) (bm 11 271) HT_ (fun K hK => ?_)
               refine goesR Tryd.func17 #[.agg #[.int .i64 a1_0, .slice A1_1 l1_1.length c1_1]] ?_
               with_reducible refine (laws_toOrder.calls kj107 a1_0 _ _ l1_1 t367 t368 _ ?side1 ?side2 A170.out).mono ?_
               (case side1 => exact C_g HR1_1 HB)
               (case side2 => exact HC1_1.out)
               rintro e w183 ⟨v369, rfl, ho0, hb⟩
               refine ⟨_, rfl, ?_⟩
               have HO370 := Aside0.mk (Kd.R_lower (Kd.R_new' (Kd.R_new' (Kd.R_new' ho0 (Kd.R_lt (Kd.R_g HO_328001.out))) (Kd.R_lt (Kd.R_g HO_344001.out))) (Kd.R_lt (Kd.R_g HO366.out))) (below_size (bel_g HB.out)))
               replace HO_328001 := Aside0.mk (Kd.R_elder' (Kd.R_g HO_328001.out) (Kd.R_base ho0) hb)
               replace HO_344001 := Aside0.mk (Kd.R_elder' (Kd.R_g HO_344001.out) (Kd.R_base ho0) hb)
               replace HO366 := Aside0.mk (Kd.R_elder' (Kd.R_g HO366.out) (Kd.R_base ho0) hb)
               replace BK310 := blkB BK310 hb
               replace BK311 := blkB BK311 hb
               replace BK327 := blkB BK327 hb
               replace BK343 := blkB BK343 hb
               replace BK376 := blkB BK376 hb
               replace HB := bst HB hb
               (try clear hb)
               (try clear hb2)
               (try clear hk)
               (try clear hi)
               (try clear ho0)
               obtain ⟨Ao184, co184, eo184⟩ := Kd.R_slice HO366.out
               (first | subst eo184 | (injection eo184 with f1_ f2_ f3_; have f4_ := f1_.symm; have f5_ := f3_.symm; clear f1_ f2_ f3_; subst f4_; subst f5_))
               obtain ⟨Ao185, co185, eo185⟩ := Kd.R_slice HO370.out
               (first | subst eo185 | (injection eo185 with f1_ f2_ f3_; have f4_ := f1_.symm; have f5_ := f3_.symm; clear f1_ f2_ f3_; subst f4_; subst f5_))
               refine hK.out _ _ ⟨(blk_cell BK310.out 0).trans rfl, (blk_cell BK310.out 1).trans rfl, (blk_cell BK311.out 0).trans rfl, (blk_cell BK311.out 1).trans rfl⟩ (fun hHeld => ?_)
               clear hK K
               refine normW 98 ?_
               refine oneW 4 (some 99) (bm 11 287) HT_ (fun K hK => ?_)
               refine goesR Tryd.func23 #[.agg #[.int .i64 t363, .slice Ao184 t364.length co184], .agg #[.int .i64 t367, .slice Ao185 t368.length co185]] ?_
               with_reducible refine (impl_MeetOrders.calls kj107 t363 _ _ t364 t367 _ _ t368 t371 t372 t375 _ ?side1 ?side2 ?side3 ?side4 ?side5 A171.out).mono ?_
               (case side1 => repeat (first | exact (Kd.R_reads' HO366.out).2.2 | (with_reducible refine Kd.C_alloc ?_ _) | (with_reducible refine Kd.C_drewN ?_ _) | (with_reducible refine Kd.C_drew ?_)))
               (case side2 => exact (Kd.R_reads' HO366.out).2.1)
               (case side3 => repeat (first | exact (Kd.R_reads' HO370.out).2.2 | (with_reducible refine Kd.C_alloc ?_ _) | (with_reducible refine Kd.C_drewN ?_ _) | (with_reducible refine Kd.C_drew ?_)))
               (case side4 => exact (Kd.R_reads' HO370.out).2.1)
               (case side5 => first | exact HTAB.out | exact Tab.drewN HTAB.out _ | exact Tab.below HTAB.out (bel_g HB.out) | exact Tab.below HTAB.out (by repeat (first | exact Below.refl _ _ | apply below_alloc | apply pw_below_drewN | apply below_drew1)))
               rintro e w186 ⟨v373, rfl, ho0, hb⟩
               refine ⟨_, rfl, ?_⟩
               have HO374 := Aside0.mk (Kd.R_lower (Kd.R_new' (Kd.R_new' (Kd.R_new' (Kd.R_new' ho0 (Kd.R_lt (Kd.R_g HO_328001.out))) (Kd.R_lt (Kd.R_g HO_344001.out))) (Kd.R_lt (Kd.R_g HO366.out))) (Kd.R_lt (Kd.R_g HO370.out))) (below_size (bel_g HB.out)))
               replace HO_328001 := Aside0.mk (Kd.R_elder' (Kd.R_g HO_328001.out) (Kd.R_base ho0) hb)
               replace HO_344001 := Aside0.mk (Kd.R_elder' (Kd.R_g HO_344001.out) (Kd.R_base ho0) hb)
               replace HO366 := Aside0.mk (Kd.R_elder' (Kd.R_g HO366.out) (Kd.R_base ho0) hb)
               replace HO370 := Aside0.mk (Kd.R_elder' (Kd.R_g HO370.out) (Kd.R_base ho0) hb)
               replace BK310 := blkB BK310 hb
               replace BK311 := blkB BK311 hb
               replace BK327 := blkB BK327 hb
               replace BK343 := blkB BK343 hb
               replace BK376 := blkB BK376 hb
               replace HB := bst HB hb
               (try clear hb)
               (try clear hb2)
               (try clear hk)
               (try clear hi)
               (try clear ho0)
               refine hK.out _ _ ⟨(blk_cell BK310.out 0).trans rfl, (blk_cell BK310.out 1).trans rfl, (blk_cell BK311.out 0).trans rfl, (blk_cell BK311.out 1).trans rfl⟩ (fun hHeld => ?_)
               clear hK K
               refine normW 99 ?_
               refine pureW 5 (some 94) (bm 11 319) HT_ ?_
               refine pureW 6 (some 100) (bm 11 383) HT_ ?_
               refine pureW 7 (some 101) (bm 11 511) HT_ ?_
               exact norm_ (by simp only [putAll, Act.put, List.setIfInBounds_toArray, List.set_cons_zero, List.set_cons_succ]) (hCont (.slice Ao184 t364.length co184, .slice Ao185 t368.length co185, v373, gb376) _ ⟨hHeld, (Kd.R_g (Kd.R_mono HO366.out (fun _ hk => ⟨hk.1.2, ⟨hk.2, ⟨hk.1.1.1.2, hk.1.1.2⟩⟩⟩))), (Kd.R_g (Kd.R_mono HO370.out (fun _ hk => ⟨hk.1.2, ⟨hk.2, ⟨hk.1.1.1.2, hk.1.1.2⟩⟩⟩))), (Kd.R_g (Kd.R_mono HO374.out (fun _ hk => ⟨hk.1.2, ⟨hk.2, ⟨hk.1.1.1.2, hk.1.1.2⟩⟩⟩))), (Kd.R_g (Kd.R_mono HO_328001.out (fun _ hk => ⟨hk.1.1.2, ⟨hk.1.2, ⟨hk.2, hk.1.1.1⟩⟩⟩))), (Kd.R_g (Kd.R_mono HO_344001.out (fun _ hk => ⟨hk.1.1.2, ⟨hk.1.2, ⟨hk.2, hk.1.1.1⟩⟩⟩))), (blk_g BK310.out), (blk_g BK311.out), (blk_g BK327.out), (blk_g BK343.out), (blk_g BK376.out), GW376.out, GE376.out, NB310_376.out, NB376_310.out, NB311_376.out, NB376_311.out, NB327_376.out, NB376_327.out, NB343_376.out, NB376_343.out, (bel_g HB.out)⟩)
             rintro ⟨v365, v369, v373, gb376⟩ w187 ⟨hS_, h0_, h1_, h2_, h3_, h4_, h5_, h6_, h7_, h8_, h9_, h10_, h11_, h12_, h13_, h14_, h15_, h16_, h17_, h18_, h19_, h20_⟩
             have n0_ : Aside0 (Kd.R (Kd.int .i64) 3 w187 w.heap.size (fun k_ => some k_ ≠ (v369 : Value).ownBlock ∧ some k_ ≠ (v373 : Value).ownBlock ∧ some k_ ≠ (.slice Ao42 t323.length co42 : Value).ownBlock ∧ some k_ ≠ (.slice Ao72 t339.length co72 : Value).ownBlock) v365 t364) := ⟨h0_⟩
             have n1_ : Aside0 (Kd.R (Kd.int .i64) 3 w187 w.heap.size (fun k_ => some k_ ≠ (v365 : Value).ownBlock ∧ some k_ ≠ (v373 : Value).ownBlock ∧ some k_ ≠ (.slice Ao42 t323.length co42 : Value).ownBlock ∧ some k_ ≠ (.slice Ao72 t339.length co72 : Value).ownBlock) v369 t368) := ⟨h1_⟩
             have n2_ : Aside0 (Kd.R (Kd.int .i64) 3 w187 w.heap.size (fun k_ => some k_ ≠ (v365 : Value).ownBlock ∧ some k_ ≠ (v369 : Value).ownBlock ∧ some k_ ≠ (.slice Ao42 t323.length co42 : Value).ownBlock ∧ some k_ ≠ (.slice Ao72 t339.length co72 : Value).ownBlock) v373 t372) := ⟨h2_⟩
             have n3_ : Aside0 (Kd.R (Kd.int .i64) 3 w187 w.heap.size (fun k_ => some k_ ≠ (v365 : Value).ownBlock ∧ some k_ ≠ (v369 : Value).ownBlock ∧ some k_ ≠ (v373 : Value).ownBlock ∧ some k_ ≠ (.slice Ao72 t339.length co72 : Value).ownBlock) (.slice Ao42 t323.length co42) t323) := ⟨h3_⟩
             have n4_ : Aside0 (Kd.R (Kd.int .i64) 3 w187 w.heap.size (fun k_ => some k_ ≠ (v365 : Value).ownBlock ∧ some k_ ≠ (v369 : Value).ownBlock ∧ some k_ ≠ (v373 : Value).ownBlock ∧ some k_ ≠ (.slice Ao42 t323.length co42 : Value).ownBlock) (.slice Ao72 t339.length co72) t361) := ⟨h4_⟩
             have n5_ : Aside0 (w187.heap[gb310]? = some (.cells #[.int .i64 a0_0, .slice A0_1 l0_1.length c0_1] 24 (0, 0))) := ⟨h5_⟩
             have n6_ : Aside0 (w187.heap[gb311]? = some (.cells #[.int .i64 a1_0, .slice A1_1 l1_1.length c1_1] 24 (0, 0))) := ⟨h6_⟩
             have n7_ : Aside0 (w187.heap[gb327]? = some (.cells #[.int .i64 t322, .slice Ao42 t323.length co42] 28 (0, 0))) := ⟨h7_⟩
             have n8_ : Aside0 (w187.heap[gb343]? = some (.cells #[.int .i64 t338, .slice Ao72 t339.length co72] 28 (0, 0))) := ⟨h8_⟩
             have n9_ : Aside0 (w187.heap[gb376]? = some (.cells #[.int .i64 0, .slice none 0 0] 28 (0, 0))) := ⟨h9_⟩
             have n10_ : Ge w.heap.size gb376 := ⟨h10_⟩
             have n11_ : Ge w.heap.size gb376 := ⟨h11_⟩
             have n12_ : Aside0 (gb310 ≠ gb376) := ⟨h12_⟩
             have n13_ : Aside0 (gb376 ≠ gb310) := ⟨h13_⟩
             have n14_ : Aside0 (gb311 ≠ gb376) := ⟨h14_⟩
             have n15_ : Aside0 (gb376 ≠ gb311) := ⟨h15_⟩
             have n16_ : Aside0 (gb327 ≠ gb376) := ⟨h16_⟩
             have n17_ : Aside0 (gb376 ≠ gb327) := ⟨h17_⟩
             have n18_ : Aside0 (gb343 ≠ gb376) := ⟨h18_⟩
             have n19_ : Aside0 (gb376 ≠ gb343) := ⟨h19_⟩
             have n20_ : Aside0 (Below w.heap.size w w187) := ⟨h20_⟩
             clear HO_328001
             clear HO_344001
             clear BK310
             clear BK311
             clear BK327
             clear BK343
             clear HB
             clear h0_ h1_ h2_ h3_ h4_ h5_ h6_ h7_ h8_ h9_ h10_ h11_ h12_ h13_ h14_ h15_ h16_ h17_ h18_ h19_ h20_
             have HO366 := n0_
             have HO370 := n1_
             have HO374 := n2_
             have HO_328001 := n3_
             have HO_344001 := n4_
             have BK310 := n5_
             have BK311 := n6_
             have BK327 := n7_
             have BK343 := n8_
             have BK376 := n9_
             have GW376 := n10_
             have GE376 := n11_
             have NB310_376 := n12_
             have NB376_310 := n13_
             have NB311_376 := n14_
             have NB376_311 := n15_
             have NB327_376 := n16_
             have NB376_327 := n17_
             have NB343_376 := n18_
             have NB376_343 := n19_
             have HB := n20_
             clear n0_ n1_ n2_ n3_ n4_ n5_ n6_ n7_ n8_ n9_ n10_ n11_ n12_ n13_ n14_ n15_ n16_ n17_ n18_ n19_ n20_
             have hHeld : w187.cell? ⟨gb310, 0, none⟩ = some (.int .i64 a0_0) ∧ w187.cell? ⟨gb310, 1, none⟩ = some (.slice A0_1 l0_1.length c0_1) ∧ w187.cell? ⟨gb311, 0, none⟩ = some (.int .i64 a1_0) ∧ w187.cell? ⟨gb311, 1, none⟩ = some (.slice A1_1 l1_1.length c1_1) := hS_
             obtain ⟨Ao189, co189, eo189⟩ := Kd.R_slice HO374.out
             (first | subst eo189 | (injection eo189 with f1_ f2_ f3_; have f4_ := f1_.symm; have f5_ := f3_.symm; clear f1_ f2_ f3_; subst f4_; subst f5_))
             refine norm_ (a' := ?_) ?_ ?_
             rotate_left
             ·simp only [putAll, Act.put, List.setIfInBounds_toArray, List.set_cons_zero, List.set_cons_succ]
              rfl
             refine oneW 9 (none) (bm 11 1023) HT_ (fun K hK => ?_)
             have hs188 : w187.cell? ⟨gb376, 0, none⟩ = some (.int .i64 0) := (blk_cell BK376.out 0).trans rfl
             have hfs188 := blk_frozen BK376.out 0
             have hns188_0 := NB310_376.out
             have hns188_1 := NB311_376.out
             have hns188_2 := NB327_376.out
             have hns188_3 := NB343_376.out
             have hms188_0 := NB376_310.out
             have hms188_1 := NB376_311.out
             have hms188_2 := NB376_327.out
             have hms188_3 := NB376_343.out
             have hs190 : w187.cell? ⟨gb376, 1, none⟩ = some (.slice none 0 0) := (blk_cell BK376.out 1).trans rfl
             have hfs190 := blk_frozen BK376.out 1
             have hns190_0 := NB310_376.out
             have hns190_1 := NB311_376.out
             have hns190_2 := NB327_376.out
             have hns190_3 := NB343_376.out
             have hms190_0 := NB376_310.out
             have hms190_1 := NB376_311.out
             have hms190_2 := NB376_327.out
             have hms190_3 := NB376_343.out
             refine skip_ (w1 := ?_) (by rfl) rfl ?_ ?_
             rotate_left
             ·go_simp
              rfl
             refine hK.out _ _ ⟨((cell_far (p := ⟨gb376, _, none⟩) NB310_376.out _).trans (((cell_far (p := ⟨gb376, _, none⟩) NB310_376.out _).trans (hHeld.1)))), ((cell_far (p := ⟨gb376, _, none⟩) NB310_376.out _).trans (((cell_far (p := ⟨gb376, _, none⟩) NB310_376.out _).trans (hHeld.2.1)))), ((cell_far (p := ⟨gb376, _, none⟩) NB311_376.out _).trans (((cell_far (p := ⟨gb376, _, none⟩) NB311_376.out _).trans (hHeld.2.2.1)))), ((cell_far (p := ⟨gb376, _, none⟩) NB311_376.out _).trans (((cell_far (p := ⟨gb376, _, none⟩) NB311_376.out _).trans (hHeld.2.2.2))))⟩ (fun hHeld => ?_)
             clear hK K
             refine pureW 10 (some 16) (bm 11 2047) HT_ ?_
             refine doneW HT_ ?_
             go_upto_region 32 with (fail)
             go_cut [110] (fun v110 wc => ∃ (kq : Nat) (x110_171 : Bool), v110 = .bool x110_171 ∧ Aside0 (laws_FnExactMeetOrders.j2 kq t360 x110_171 t338 t361 = some r) ∧ Aside0 (kq ≤ kj107) ∧ Aside0 (Kd.R (Kd.int .i64) 3 wc w.heap.size (fun _ => True) (.slice Ao72 t339.length co72) t361) ∧ Aside0 (wc.heap[gb343]? = some (.cells #[.int .i64 t338, (.slice Ao72 t339.length co72)] 28 (0, 0))) ∧ Aside0 (Below w.heap.size w wc))
             case first =>
              have H := HC172.out
              clear HC172
              obtain ⟨t377, A191, H⟩ := obE H
              by_cases c192 : t377 = true
              ·subst c192
               replace H := ifT H
               have H' := Aside0.mk H
               clear H
               have hnb193 := NB376_310.out
               have hnc193 := NB310_376.out
               have hnb194 := NB376_311.out
               have hnc194 := NB311_376.out
               have hnb195 := NB376_327.out
               have hnc195 := NB327_376.out
               have hnb196 := NB376_343.out
               have hnc196 := NB343_376.out
               obtain ⟨hcz197_0, hcz197_1, hfz197_0, hfz197_1⟩ := blk2 BK376
               have hnb198 := NB327_310.out
               have hnc198 := NB310_327.out
               have hnb199 := NB327_311.out
               have hnc199 := NB311_327.out
               have hnb200 := NB327_343.out
               have hnc200 := NB343_327.out
               obtain ⟨hcz201_0, hcz201_1, hfz201_0, hfz201_1⟩ := blk2 BK327
               go_wp2_with (first | ((with_reducible refine gate_callee (f := 19) rfl ?_); refine goesQ (some 104) Tryd.func19 #[.agg #[.int .i64 t371, .slice Ao189 t372.length co189], .agg #[.int .i64 t322, .slice Ao42 t323.length co42]] ?_; (with_reducible refine (laws_eqOrder.calls kj107 t371 _ _ t372 t322 _ _ t323 true _ ?side1 ?side2 ?side3 ?side4 A191.out).mono ?_); (case side1 => refine (Kd.R_reads' (e := 3) (base := w.heap.size) (ok := fun k_ => (some k_ ≠ (v365 : Value).ownBlock ∧ (some k_ ≠ (v369 : Value).ownBlock ∧ (some k_ ≠ (.slice Ao42 t323.length co42 : Value).ownBlock ∧ some k_ ≠ (.slice Ao72 t339.length co72 : Value).ownBlock)))) (n := t372.length) (c := co189) ?_).2.2; exact (Kd.R_g ((Kd.R_mono (Kd.R_far (p := ⟨gb376, 1, none⟩) (Kd.R_far (p := ⟨gb376, 0, none⟩) (Kd.R_types HO374.out BK376.out (by decide)) (fun _ hk => hk.2) (.int .i64 t371)) (fun _ hk => hk.2) (.slice Ao189 t372.length co189)) (fun _ h_ => h_.1))))); (case side2 => exact (Kd.R_reads' HO374.out).2.1); (case side3 => refine (Kd.R_reads' (e := 3) (base := w.heap.size) (ok := fun k_ => (some k_ ≠ (v365 : Value).ownBlock ∧ (some k_ ≠ (v369 : Value).ownBlock ∧ (some k_ ≠ (.slice Ao189 t372.length co189 : Value).ownBlock ∧ some k_ ≠ (.slice Ao72 t339.length co72 : Value).ownBlock)))) (n := t323.length) (c := co42) ?_).2.2; exact (Kd.R_g ((Kd.R_mono (Kd.R_far (p := ⟨gb376, 1, none⟩) (Kd.R_far (p := ⟨gb376, 0, none⟩) (Kd.R_types HO_328001.out BK376.out (by decide)) (fun _ hk => hk.2) (.int .i64 t371)) (fun _ hk => hk.2) (.slice Ao189 t372.length co189)) (fun _ h_ => h_.1))))); (case side4 => exact (Kd.R_reads' HO_328001.out).2.1); rintro e w202 ⟨rfl, hb⟩; refine ⟨_, rfl, ?_⟩; replace HO_328001 := Aside0.mk (Kd.R_below (Kd.R_g ((Kd.R_mono (Kd.R_far (p := ⟨gb376, 1, none⟩) (Kd.R_far (p := ⟨gb376, 0, none⟩) (Kd.R_types HO_328001.out BK376.out (by decide)) (fun _ hk => hk.2) (.int .i64 t371)) (fun _ hk => hk.2) (.slice Ao189 t372.length co189)) (fun _ h_ => h_.1)))) hb); replace HO_344001 := Aside0.mk (Kd.R_below (Kd.R_g ((Kd.R_mono (Kd.R_far (p := ⟨gb376, 1, none⟩) (Kd.R_far (p := ⟨gb376, 0, none⟩) (Kd.R_types HO_344001.out BK376.out (by decide)) (fun _ hk => hk.2) (.int .i64 t371)) (fun _ hk => hk.2) (.slice Ao189 t372.length co189)) (fun _ h_ => h_.1)))) hb); replace HO366 := Aside0.mk (Kd.R_below (Kd.R_g ((Kd.R_mono (Kd.R_far (p := ⟨gb376, 1, none⟩) (Kd.R_far (p := ⟨gb376, 0, none⟩) (Kd.R_types HO366.out BK376.out (by decide)) (fun _ hk => hk.2) (.int .i64 t371)) (fun _ hk => hk.2) (.slice Ao189 t372.length co189)) (fun _ h_ => h_.1)))) hb); replace HO370 := Aside0.mk (Kd.R_below (Kd.R_g ((Kd.R_mono (Kd.R_far (p := ⟨gb376, 1, none⟩) (Kd.R_far (p := ⟨gb376, 0, none⟩) (Kd.R_types HO370.out BK376.out (by decide)) (fun _ hk => hk.2) (.int .i64 t371)) (fun _ hk => hk.2) (.slice Ao189 t372.length co189)) (fun _ h_ => h_.1)))) hb); replace HO374 := Aside0.mk (Kd.R_below (Kd.R_g ((Kd.R_mono (Kd.R_far (p := ⟨gb376, 1, none⟩) (Kd.R_far (p := ⟨gb376, 0, none⟩) (Kd.R_types HO374.out BK376.out (by decide)) (fun _ hk => hk.2) (.int .i64 t371)) (fun _ hk => hk.2) (.slice Ao189 t372.length co189)) (fun _ h_ => h_.1)))) hb); replace BK310 := Aside0.mk (blk_below (g := gb310) (o := .cells #[.int .i64 a0_0, .slice A0_1 l0_1.length c0_1] 24 (0, 0)) (by (with_reducible repeat (first | refine blk_drewN ?_ _ | refine blk_drew ?_ | refine blk_alloc ?_ _)); refine blk_far ?_ NB310_376.out _; (with_reducible repeat (first | refine blk_drewN ?_ _ | refine blk_drew ?_ | refine blk_alloc ?_ _)); refine blk_far ?_ NB310_376.out _; (with_reducible repeat (first | refine blk_drewN ?_ _ | refine blk_drew ?_ | refine blk_alloc ?_ _)); exact BK310.out) hb); replace BK311 := Aside0.mk (blk_below (g := gb311) (o := .cells #[.int .i64 a1_0, .slice A1_1 l1_1.length c1_1] 24 (0, 0)) (by (with_reducible repeat (first | refine blk_drewN ?_ _ | refine blk_drew ?_ | refine blk_alloc ?_ _)); refine blk_far ?_ NB311_376.out _; (with_reducible repeat (first | refine blk_drewN ?_ _ | refine blk_drew ?_ | refine blk_alloc ?_ _)); refine blk_far ?_ NB311_376.out _; (with_reducible repeat (first | refine blk_drewN ?_ _ | refine blk_drew ?_ | refine blk_alloc ?_ _)); exact BK311.out) hb); replace BK327 := Aside0.mk (blk_below (g := gb327) (o := .cells #[.int .i64 t322, .slice Ao42 t323.length co42] 28 (0, 0)) (by (with_reducible repeat (first | refine blk_drewN ?_ _ | refine blk_drew ?_ | refine blk_alloc ?_ _)); refine blk_far ?_ NB327_376.out _; (with_reducible repeat (first | refine blk_drewN ?_ _ | refine blk_drew ?_ | refine blk_alloc ?_ _)); refine blk_far ?_ NB327_376.out _; (with_reducible repeat (first | refine blk_drewN ?_ _ | refine blk_drew ?_ | refine blk_alloc ?_ _)); exact BK327.out) hb); replace BK343 := Aside0.mk (blk_below (g := gb343) (o := .cells #[.int .i64 t338, .slice Ao72 t339.length co72] 28 (0, 0)) (by (with_reducible repeat (first | refine blk_drewN ?_ _ | refine blk_drew ?_ | refine blk_alloc ?_ _)); refine blk_far ?_ NB343_376.out _; (with_reducible repeat (first | refine blk_drewN ?_ _ | refine blk_drew ?_ | refine blk_alloc ?_ _)); refine blk_far ?_ NB343_376.out _; (with_reducible repeat (first | refine blk_drewN ?_ _ | refine blk_drew ?_ | refine blk_alloc ?_ _)); exact BK343.out) hb); replace BK376 := Aside0.mk (blk_below (g := gb376) (o := .cells #[.int .i64 t371, .slice Ao189 t372.length co189] 28 (0, 0)) (by (with_reducible repeat (first | refine blk_drewN ?_ _ | refine blk_drew ?_ | refine blk_alloc ?_ _)); refine blk_put (cs := #[.int .i64 t371, .slice none 0 0]) ?_ 1 _ rfl; (with_reducible repeat (first | refine blk_drewN ?_ _ | refine blk_drew ?_ | refine blk_alloc ?_ _)); refine blk_put (cs := #[.int .i64 0, .slice none 0 0]) ?_ 0 _ rfl; (with_reducible repeat (first | refine blk_drewN ?_ _ | refine blk_drew ?_ | refine blk_alloc ?_ _)); exact BK376.out) hb); replace HB := bst HB hb; (try clear hb); (try clear hk)))
               go_meet
               case rel => exact ⟨_, ((t375 != t326)), eqS, H', ⟨by have := HJ24.out; have := HJ107.out; first | omega | exact Nat.le_refl _⟩, ⟨Kd.R_g (Kd.R_mono HO_344001.out (fun _ hk => trivial))⟩, ⟨blk_g BK343.out⟩, ⟨bel_g HB.out⟩⟩
              ·replace c192 := Bool.eq_false_iff.mpr c192
               subst c192
               replace H := ifF H
               have H' := Aside0.mk H
               clear H
               have hnb203 := NB376_310.out
               have hnc203 := NB310_376.out
               have hnb204 := NB376_311.out
               have hnc204 := NB311_376.out
               have hnb205 := NB376_327.out
               have hnc205 := NB327_376.out
               have hnb206 := NB376_343.out
               have hnc206 := NB343_376.out
               obtain ⟨hcz207_0, hcz207_1, hfz207_0, hfz207_1⟩ := blk2 BK376
               have hnb208 := NB327_310.out
               have hnc208 := NB310_327.out
               have hnb209 := NB327_311.out
               have hnc209 := NB311_327.out
               have hnb210 := NB327_343.out
               have hnc210 := NB343_327.out
               obtain ⟨hcz211_0, hcz211_1, hfz211_0, hfz211_1⟩ := blk2 BK327
               go_wp2_with (first | ((with_reducible refine gate_callee (f := 19) rfl ?_); refine goesQ (some 104) Tryd.func19 #[.agg #[.int .i64 t371, .slice Ao189 t372.length co189], .agg #[.int .i64 t322, .slice Ao42 t323.length co42]] ?_; (with_reducible refine (laws_eqOrder.calls kj107 t371 _ _ t372 t322 _ _ t323 false _ ?side1 ?side2 ?side3 ?side4 A191.out).mono ?_); (case side1 => refine (Kd.R_reads' (e := 3) (base := w.heap.size) (ok := fun k_ => (some k_ ≠ (v365 : Value).ownBlock ∧ (some k_ ≠ (v369 : Value).ownBlock ∧ (some k_ ≠ (.slice Ao42 t323.length co42 : Value).ownBlock ∧ some k_ ≠ (.slice Ao72 t339.length co72 : Value).ownBlock)))) (n := t372.length) (c := co189) ?_).2.2; exact (Kd.R_g ((Kd.R_mono (Kd.R_far (p := ⟨gb376, 1, none⟩) (Kd.R_far (p := ⟨gb376, 0, none⟩) (Kd.R_types HO374.out BK376.out (by decide)) (fun _ hk => hk.2) (.int .i64 t371)) (fun _ hk => hk.2) (.slice Ao189 t372.length co189)) (fun _ h_ => h_.1))))); (case side2 => exact (Kd.R_reads' HO374.out).2.1); (case side3 => refine (Kd.R_reads' (e := 3) (base := w.heap.size) (ok := fun k_ => (some k_ ≠ (v365 : Value).ownBlock ∧ (some k_ ≠ (v369 : Value).ownBlock ∧ (some k_ ≠ (.slice Ao189 t372.length co189 : Value).ownBlock ∧ some k_ ≠ (.slice Ao72 t339.length co72 : Value).ownBlock)))) (n := t323.length) (c := co42) ?_).2.2; exact (Kd.R_g ((Kd.R_mono (Kd.R_far (p := ⟨gb376, 1, none⟩) (Kd.R_far (p := ⟨gb376, 0, none⟩) (Kd.R_types HO_328001.out BK376.out (by decide)) (fun _ hk => hk.2) (.int .i64 t371)) (fun _ hk => hk.2) (.slice Ao189 t372.length co189)) (fun _ h_ => h_.1))))); (case side4 => exact (Kd.R_reads' HO_328001.out).2.1); rintro e w212 ⟨rfl, hb⟩; refine ⟨_, rfl, ?_⟩; replace HO_328001 := Aside0.mk (Kd.R_below (Kd.R_g ((Kd.R_mono (Kd.R_far (p := ⟨gb376, 1, none⟩) (Kd.R_far (p := ⟨gb376, 0, none⟩) (Kd.R_types HO_328001.out BK376.out (by decide)) (fun _ hk => hk.2) (.int .i64 t371)) (fun _ hk => hk.2) (.slice Ao189 t372.length co189)) (fun _ h_ => h_.1)))) hb); replace HO_344001 := Aside0.mk (Kd.R_below (Kd.R_g ((Kd.R_mono (Kd.R_far (p := ⟨gb376, 1, none⟩) (Kd.R_far (p := ⟨gb376, 0, none⟩) (Kd.R_types HO_344001.out BK376.out (by decide)) (fun _ hk => hk.2) (.int .i64 t371)) (fun _ hk => hk.2) (.slice Ao189 t372.length co189)) (fun _ h_ => h_.1)))) hb); replace HO366 := Aside0.mk (Kd.R_below (Kd.R_g ((Kd.R_mono (Kd.R_far (p := ⟨gb376, 1, none⟩) (Kd.R_far (p := ⟨gb376, 0, none⟩) (Kd.R_types HO366.out BK376.out (by decide)) (fun _ hk => hk.2) (.int .i64 t371)) (fun _ hk => hk.2) (.slice Ao189 t372.length co189)) (fun _ h_ => h_.1)))) hb); replace HO370 := Aside0.mk (Kd.R_below (Kd.R_g ((Kd.R_mono (Kd.R_far (p := ⟨gb376, 1, none⟩) (Kd.R_far (p := ⟨gb376, 0, none⟩) (Kd.R_types HO370.out BK376.out (by decide)) (fun _ hk => hk.2) (.int .i64 t371)) (fun _ hk => hk.2) (.slice Ao189 t372.length co189)) (fun _ h_ => h_.1)))) hb); replace HO374 := Aside0.mk (Kd.R_below (Kd.R_g ((Kd.R_mono (Kd.R_far (p := ⟨gb376, 1, none⟩) (Kd.R_far (p := ⟨gb376, 0, none⟩) (Kd.R_types HO374.out BK376.out (by decide)) (fun _ hk => hk.2) (.int .i64 t371)) (fun _ hk => hk.2) (.slice Ao189 t372.length co189)) (fun _ h_ => h_.1)))) hb); replace BK310 := Aside0.mk (blk_below (g := gb310) (o := .cells #[.int .i64 a0_0, .slice A0_1 l0_1.length c0_1] 24 (0, 0)) (by (with_reducible repeat (first | refine blk_drewN ?_ _ | refine blk_drew ?_ | refine blk_alloc ?_ _)); refine blk_far ?_ NB310_376.out _; (with_reducible repeat (first | refine blk_drewN ?_ _ | refine blk_drew ?_ | refine blk_alloc ?_ _)); refine blk_far ?_ NB310_376.out _; (with_reducible repeat (first | refine blk_drewN ?_ _ | refine blk_drew ?_ | refine blk_alloc ?_ _)); exact BK310.out) hb); replace BK311 := Aside0.mk (blk_below (g := gb311) (o := .cells #[.int .i64 a1_0, .slice A1_1 l1_1.length c1_1] 24 (0, 0)) (by (with_reducible repeat (first | refine blk_drewN ?_ _ | refine blk_drew ?_ | refine blk_alloc ?_ _)); refine blk_far ?_ NB311_376.out _; (with_reducible repeat (first | refine blk_drewN ?_ _ | refine blk_drew ?_ | refine blk_alloc ?_ _)); refine blk_far ?_ NB311_376.out _; (with_reducible repeat (first | refine blk_drewN ?_ _ | refine blk_drew ?_ | refine blk_alloc ?_ _)); exact BK311.out) hb); replace BK327 := Aside0.mk (blk_below (g := gb327) (o := .cells #[.int .i64 t322, .slice Ao42 t323.length co42] 28 (0, 0)) (by (with_reducible repeat (first | refine blk_drewN ?_ _ | refine blk_drew ?_ | refine blk_alloc ?_ _)); refine blk_far ?_ NB327_376.out _; (with_reducible repeat (first | refine blk_drewN ?_ _ | refine blk_drew ?_ | refine blk_alloc ?_ _)); refine blk_far ?_ NB327_376.out _; (with_reducible repeat (first | refine blk_drewN ?_ _ | refine blk_drew ?_ | refine blk_alloc ?_ _)); exact BK327.out) hb); replace BK343 := Aside0.mk (blk_below (g := gb343) (o := .cells #[.int .i64 t338, .slice Ao72 t339.length co72] 28 (0, 0)) (by (with_reducible repeat (first | refine blk_drewN ?_ _ | refine blk_drew ?_ | refine blk_alloc ?_ _)); refine blk_far ?_ NB343_376.out _; (with_reducible repeat (first | refine blk_drewN ?_ _ | refine blk_drew ?_ | refine blk_alloc ?_ _)); refine blk_far ?_ NB343_376.out _; (with_reducible repeat (first | refine blk_drewN ?_ _ | refine blk_drew ?_ | refine blk_alloc ?_ _)); exact BK343.out) hb); replace BK376 := Aside0.mk (blk_below (g := gb376) (o := .cells #[.int .i64 t371, .slice Ao189 t372.length co189] 28 (0, 0)) (by (with_reducible repeat (first | refine blk_drewN ?_ _ | refine blk_drew ?_ | refine blk_alloc ?_ _)); refine blk_put (cs := #[.int .i64 t371, .slice none 0 0]) ?_ 1 _ rfl; (with_reducible repeat (first | refine blk_drewN ?_ _ | refine blk_drew ?_ | refine blk_alloc ?_ _)); refine blk_put (cs := #[.int .i64 0, .slice none 0 0]) ?_ 0 _ rfl; (with_reducible repeat (first | refine blk_drewN ?_ _ | refine blk_drew ?_ | refine blk_alloc ?_ _)); exact BK376.out) hb); replace HB := bst HB hb; (try clear hb); (try clear hk)))
               go_meet
               case rel => exact ⟨_, (true), eqS, H', ⟨by have := HJ24.out; have := HJ107.out; first | omega | exact Nat.le_refl _⟩, ⟨Kd.R_g (Kd.R_mono HO_344001.out (fun _ hk => trivial))⟩, ⟨blk_g BK343.out⟩, ⟨bel_g HB.out⟩⟩
             case rest =>
              clear HC172
              try clear c192
              try clear hcz197_0
              try clear hcz197_1
              try clear hcz201_0
              try clear hcz201_1
              try clear hcz207_0
              try clear hcz207_1
              try clear hcz211_0
              try clear hcz211_1
              try clear hfz197_0
              try clear hfz197_1
              try clear hfz201_0
              try clear hfz201_1
              try clear hfz207_0
              try clear hfz207_1
              try clear hfz211_0
              try clear hfz211_1
              obtain ⟨kq, x110_171, rfl, HA, HJ171, HO_344001, BK343, HB⟩ := hcut
              have hl344001_171 := (Kd.R_reads' HO_344001.out).1
              rw [hl344001_171] at HO_344001
              (try simp only [hl344001_171])
              (try simp only [hl344001_171] at BK343)
              cases kq with
              | zero => exact absurd HA.out (by simp [laws_FnExactMeetOrders.j2])
              | succ kj171 =>
               have H := HA.out
               clear HA
               simp only [laws_FnExactMeetOrders.j2] at H
               by_cases c213 : x110_171 = true
               ·subst c213
                replace H := ifT H
                obtain rfl := Option.some.inj H
                go_wp2
                go_ret
                exact ⟨eqE, bel_g HB.out⟩
               ·replace c213 := Bool.eq_false_iff.mpr c213
                subst c213
                replace H := ifF H
                obtain ⟨t378, A214, H⟩ := obE H
                rcases iteE H with ⟨c215b0, H⟩ | ⟨c215b0, H⟩
                ·obtain rfl := Option.some.inj H
                 obtain ⟨hcz216_0, hcz216_1, hfz216_0, hfz216_1⟩ := blk2 BK343
                 go_wp2_with (first | ((with_reducible refine gate_callee (f := 25) rfl ?_); refine goesQ (some 113) Tryd.func25 #[.agg #[.int .i64 t338, .slice Ao72 t361.length co72], .int .i64 1] ?_; (with_reducible refine (laws_heldOrder.calls kj171 t338 _ _ t361 1 t378 _ ?side1 ?side2 A214.out).mono ?_); (case side1 => repeat (first | exact (Kd.R_reads' HO_344001.out).2.2 | (with_reducible refine Kd.C_alloc ?_ _) | (with_reducible refine Kd.C_drewN ?_ _) | (with_reducible refine Kd.C_drew ?_))); (case side2 => exact (Kd.R_reads' HO_344001.out).2.1); rintro e w217 ⟨rfl, hb⟩; refine ⟨_, rfl, ?_⟩; replace HO_344001 := Aside0.mk (Kd.R_below (Kd.R_g HO_344001.out) hb); replace BK343 := blkB BK343 hb; replace HB := bst HB hb; (try clear hb); (try clear hk)))
                 go_ret
                 exact ⟨eqE, bel_g HB.out⟩
                ·rcases iteP H with ⟨c218, H⟩ | ⟨c218, H⟩
                 ·have c218b0 : (t378 == t360) = true := beq_iff_eq.mpr c218
                  have c218b1 : (t378 != t360) = false := bne_eq_false_iff_eq.mpr c218
                  clear c218
                  obtain rfl := Option.some.inj H
                  obtain ⟨hcz219_0, hcz219_1, hfz219_0, hfz219_1⟩ := blk2 BK343
                  go_wp2_with (first | ((with_reducible refine gate_callee (f := 25) rfl ?_); refine goesQ (some 113) Tryd.func25 #[.agg #[.int .i64 t338, .slice Ao72 t361.length co72], .int .i64 1] ?_; (with_reducible refine (laws_heldOrder.calls kj171 t338 _ _ t361 1 t378 _ ?side1 ?side2 A214.out).mono ?_); (case side1 => repeat (first | exact (Kd.R_reads' HO_344001.out).2.2 | (with_reducible refine Kd.C_alloc ?_ _) | (with_reducible refine Kd.C_drewN ?_ _) | (with_reducible refine Kd.C_drew ?_))); (case side2 => exact (Kd.R_reads' HO_344001.out).2.1); rintro e w220 ⟨rfl, hb⟩; refine ⟨_, rfl, ?_⟩; replace HO_344001 := Aside0.mk (Kd.R_below (Kd.R_g HO_344001.out) hb); replace BK343 := blkB BK343 hb; replace HB := bst HB hb; (try clear hb); (try clear hk)))
                  go_ret
                  exact ⟨eqE, bel_g HB.out⟩
                 ·have c218b0 : (t378 == t360) = false := beq_eq_false_iff_ne.mpr c218
                  have c218b1 : (t378 != t360) = true := bne_iff_ne.mpr c218
                  obtain rfl := Option.some.inj H
                  obtain ⟨hcz221_0, hcz221_1, hfz221_0, hfz221_1⟩ := blk2 BK343
                  go_wp2_with (first | ((with_reducible refine gate_callee (f := 25) rfl ?_); refine goesQ (some 113) Tryd.func25 #[.agg #[.int .i64 t338, .slice Ao72 t361.length co72], .int .i64 1] ?_; (with_reducible refine (laws_heldOrder.calls kj171 t338 _ _ t361 1 t378 _ ?side1 ?side2 A214.out).mono ?_); (case side1 => repeat (first | exact (Kd.R_reads' HO_344001.out).2.2 | (with_reducible refine Kd.C_alloc ?_ _) | (with_reducible refine Kd.C_drewN ?_ _) | (with_reducible refine Kd.C_drew ?_))); (case side2 => exact (Kd.R_reads' HO_344001.out).2.1); rintro e w222 ⟨rfl, hb⟩; refine ⟨_, rfl, ?_⟩; replace HO_344001 := Aside0.mk (Kd.R_below (Kd.R_g HO_344001.out) hb); replace BK343 := blkB BK343 hb; replace HB := bst HB hb; (try clear hb); (try clear hk)))
                  go_ret
                  exact ⟨eqE, bel_g HB.out⟩
            ·have c168b0 : (t362 == t360) = false := beq_eq_false_iff_ne.mpr c168
             have c168b1 : (t362 != t360) = true := bne_iff_ne.mpr c168
             obtain rfl := Option.some.inj H
             have hnb223 := NB343_310.out
             have hnc223 := NB310_343.out
             have hnb224 := NB343_311.out
             have hnc224 := NB311_343.out
             have hnb225 := NB343_327.out
             have hnc225 := NB327_343.out
             obtain ⟨hcz226_0, hcz226_1, hfz226_0, hfz226_1⟩ := blk2 BK343
             go_wp2_with (first | ((with_reducible refine gate_callee (f := 24) rfl ?_); refine goesQ (some 85) Tryd.func24 #[.agg #[.int .i64 t338, .slice Ao72 t339.length co72], .int .i64 1] ?_; (with_reducible refine (laws_markOrder.calls kj107 t338 (fun k_ => some k_ = (.slice Ao72 t339.length co72 : Value).ownBlock) (.slice Ao72 t339.length co72) t339 1 t360 t361 w _ ?side1 ?side2 A158.out).mono ?_); (case side1 => exact bel_g HB.out); (case side2 => exact Kd.R_tight rfl HO_344001.out); rintro e w227 ⟨rfl, hy0, hb, hkp⟩; refine ⟨_, rfl, ?_⟩; replace HO_328001 := Aside0.mk (Kd.R_mono (ok' := fun k_ => some k_ ≠ (.slice Ao72 t339.length co72 : Value).ownBlock) (Kd.R_keptB (HO_328001.out) hkp (fun k_ hk_ hs_ => (hk_) hs_)) (fun k_ hk_ => hk_.1)); replace BK310 := Aside0.mk (blk_kept (blk_g BK310.out) hkp (fun hs_ => (fun e_ => (Kd.R_ne HO_344001.out BK310.out (by decide)) e_) hs_)); replace BK311 := Aside0.mk (blk_kept (blk_g BK311.out) hkp (fun hs_ => (fun e_ => (Kd.R_ne HO_344001.out BK311.out (by decide)) e_) hs_)); replace BK327 := Aside0.mk (blk_kept (blk_g BK327.out) hkp (fun hs_ => (fun e_ => (Kd.R_ne HO_344001.out BK327.out (by decide)) e_) hs_)); replace BK343 := Aside0.mk (blk_kept (blk_g BK343.out) hkp (fun hs_ => (fun e_ => (Kd.R_ne HO_344001.out BK343.out (by decide)) e_) hs_)); replace HO_344001 := Aside0.mk (Kd.R_reok rfl hy0 (fun k_ e_ => HO_344001.out.1 k_ e_)); replace HB := Aside0.mk (hb); (try clear hb); (try clear hkp); (try clear hy0); obtain ⟨hcz228_0, hcz228_1, hfz228_0, hfz228_1⟩ := blk2 BK343) | ((with_reducible refine gate_callee (f := 25) rfl ?_); refine goesL_ (some 88) rfl rfl Tryd.func25 (by kernel_rfl) rfl #[.agg #[.int .i64 t338, .slice Ao72 t361.length co72], .int .i64 1] rfl (by (try simp only [List.map_toArray, List.map_cons, List.map_nil]); first | done | (rw [show t361.length = t339.length from (Kd.R_reads' HO_344001.out).1.symm] <;> rfl) | rfl | (simp only [List.length_drop, List.length_take]; rfl)) ?_; (with_reducible refine (laws_heldOrder.calls kj107 t338 _ _ t361 1 t362 _ ?side1 ?side2 A159.out).mono ?_); (case side1 => repeat (first | exact (Kd.R_reads' HO_344001.out).2.2 | (with_reducible refine Kd.C_alloc ?_ _) | (with_reducible refine Kd.C_drewN ?_ _) | (with_reducible refine Kd.C_drew ?_))); (case side2 => rw [show t361.length = t339.length from (Kd.R_reads' HO_344001.out).1.symm]; exact (Kd.R_reads' HO_344001.out).2.1); rintro e w229 ⟨rfl, hb⟩; refine ⟨_, rfl, ?_⟩; replace HO_328001 := Aside0.mk (Kd.R_below (Kd.R_g HO_328001.out) hb); replace HO_344001 := Aside0.mk (Kd.R_below (Kd.R_g HO_344001.out) hb); replace BK310 := blkB BK310 hb; replace BK311 := blkB BK311 hb; replace BK327 := blkB BK327 hb; replace BK343 := blkB BK343 hb; replace HB := bst HB hb; (try clear hb); (try clear hk)))
             go_ret
             exact ⟨eqE, bel_g HB.out⟩
       ·replace c105 := Bool.eq_false_iff.mpr c105
        subst c105
        replace H := ifF H
        obtain rfl := Option.some.inj H
        try go_wp2
        replace HO_328001 := Aside0.mk (Kd.R_drew HO_328001.out)
        replace HO_333001 := Aside0.mk (Kd.R_drew HO_333001.out)
        replace HO_338001 := Aside0.mk (Kd.R_drew HO_338001.out)
        replace HO_344001 := Aside0.mk (Kd.R_drew HO_344001.out)
        replace BK310 := Aside0.mk (blk_drew BK310.out)
        replace BK311 := Aside0.mk (blk_drew BK311.out)
        replace BK327 := Aside0.mk (blk_drew BK327.out)
        replace BK332 := Aside0.mk (blk_drew BK332.out)
        replace BK337 := Aside0.mk (blk_drew BK337.out)
        replace BK343 := Aside0.mk (blk_drew BK343.out)
        replace HB := Aside0.mk (below_drew1 HB.out)
        refine start_ (n := 5) (S := fun w' => w'.cell? ⟨gb332, 0, none⟩ = some (.int .i64 t328) ∧ w'.cell? ⟨gb332, 1, none⟩ = some (.slice Ao52 t329.length co52) ∧ w'.cell? ⟨gb310, 0, none⟩ = some (.int .i64 a0_0) ∧ w'.cell? ⟨gb310, 1, none⟩ = some (.slice A0_1 l0_1.length c0_1)) (ds := []) (bm 5 0) (by kernel_rfl) rfl (by kernel_rfl) ⟨(blk_cell BK332.out 0).trans rfl, (blk_cell BK332.out 1).trans rfl, (blk_cell BK310.out 0).trans rfl, (blk_cell BK310.out 1).trans rfl⟩ (fun hHeld => ?_)
        generalize wc.drew = w230 at HO_328001 HO_333001 HO_338001 HO_344001 BK310 BK311 BK327 BK332 BK337 BK343 HB hHeld ⊢
        refine take_ (i := 0) (N := some 54) (v := ?_) (a' := ?_) (bm 5 1) rfl rfl (by kernel_rfl) (fun _ _ _ h => h) (Or.inl ⟨by rfl, ?_⟩) hHeld ?_ ?_
        rotate_left
        ·rintro w' ⟨s0, s1, s2, s3⟩
         go_simp
         with_reducible rfl
        rotate_left
        ·simp only [Act.put, List.setIfInBounds_toArray, List.set_cons_zero, List.set_cons_succ, i64_w, i32_w]
         rfl
        refine take_ (i := 1) (N := some 55) (v := ?_) (a' := ?_) (bm 5 3) rfl rfl (by kernel_rfl) (fun _ _ _ h => h) (Or.inl ⟨by rfl, ?_⟩) hHeld ?_ ?_
        rotate_left
        ·rintro w' ⟨s0, s1, s2, s3⟩
         go_simp
         with_reducible rfl
        rotate_left
        ·simp only [Act.put, List.setIfInBounds_toArray, List.set_cons_zero, List.set_cons_succ, i64_w, i32_w]
         rfl
        refine one_ (i := 2) (N := some 56) (bm 5 7) rfl rfl (by kernel_rfl) (by decide) (fun K hK => ?_)
        refine goesR Tryd.func17 #[.agg #[.int .i64 a0_0, .slice A0_1 l0_1.length c0_1]] ?_
        with_reducible refine (laws_toOrder.calls kj24 a0_0 _ _ l0_1 t345 t346 _ ?side1 ?side2 A100.out).mono ?_
        (case side1 => exact C_g HR0_1 HB)
        (case side2 => exact HC0_1.out)
        rintro e w231 ⟨v347, rfl, ho0, hb⟩
        refine ⟨_, rfl, ?_⟩
        have HO348 := Aside0.mk (Kd.R_lower (Kd.R_new' (Kd.R_new' (Kd.R_new' (Kd.R_new' ho0 (Kd.R_lt (Kd.R_g HO_328001.out))) (Kd.R_lt (Kd.R_g HO_333001.out))) (Kd.R_lt (Kd.R_g HO_338001.out))) (Kd.R_lt (Kd.R_g HO_344001.out))) (below_size (bel_g HB.out)))
        replace HO_328001 := Aside0.mk (Kd.R_elder' (Kd.R_g HO_328001.out) (Kd.R_base ho0) hb)
        replace HO_333001 := Aside0.mk (Kd.R_elder' (Kd.R_g HO_333001.out) (Kd.R_base ho0) hb)
        replace HO_338001 := Aside0.mk (Kd.R_elder' (Kd.R_g HO_338001.out) (Kd.R_base ho0) hb)
        replace HO_344001 := Aside0.mk (Kd.R_elder' (Kd.R_g HO_344001.out) (Kd.R_base ho0) hb)
        replace BK310 := blkB BK310 hb
        replace BK311 := blkB BK311 hb
        replace BK327 := blkB BK327 hb
        replace BK332 := blkB BK332 hb
        replace BK337 := blkB BK337 hb
        replace BK343 := blkB BK343 hb
        replace HB := bst HB hb
        (try clear hb)
        (try clear hb2)
        (try clear hk)
        (try clear hi)
        (try clear ho0)
        obtain ⟨Ao232, co232, eo232⟩ := Kd.R_slice HO348.out
        (first | subst eo232 | (injection eo232 with f1_ f2_ f3_; have f4_ := f1_.symm; have f5_ := f3_.symm; clear f1_ f2_ f3_; subst f4_; subst f5_))
        refine hK.out _ _ ⟨(blk_cell BK332.out 0).trans rfl, (blk_cell BK332.out 1).trans rfl, (blk_cell BK310.out 0).trans rfl, (blk_cell BK310.out 1).trans rfl⟩ (fun hHeld => ?_)
        clear hK K
        refine normW 56 ?_
        refine one_ (i := 3) (N := some 57) (bm 5 15) rfl rfl (by kernel_rfl) (by decide) (fun K hK => ?_)
        refine goesR Tryd.func19 #[.agg #[.int .i64 t328, .slice Ao52 t329.length co52], .agg #[.int .i64 t345, .slice Ao232 t346.length co232]] ?_
        with_reducible refine (laws_eqOrder.calls kj24 t328 _ _ t329 t345 _ _ t346 true _ ?side1 ?side2 ?side3 ?side4 A101.out).mono ?_
        (case side1 => repeat (first | exact (Kd.R_reads' HO_333001.out).2.2 | (with_reducible refine Kd.C_alloc ?_ _) | (with_reducible refine Kd.C_drewN ?_ _) | (with_reducible refine Kd.C_drew ?_)))
        (case side2 => exact (Kd.R_reads' HO_333001.out).2.1)
        (case side3 => repeat (first | exact (Kd.R_reads' HO348.out).2.2 | (with_reducible refine Kd.C_alloc ?_ _) | (with_reducible refine Kd.C_drewN ?_ _) | (with_reducible refine Kd.C_drew ?_)))
        (case side4 => exact (Kd.R_reads' HO348.out).2.1)
        rintro e w233 ⟨rfl, hb⟩
        refine ⟨_, rfl, ?_⟩
        replace HO_328001 := Aside0.mk (Kd.R_below (Kd.R_g HO_328001.out) hb)
        replace HO_333001 := Aside0.mk (Kd.R_below (Kd.R_g HO_333001.out) hb)
        replace HO_338001 := Aside0.mk (Kd.R_below (Kd.R_g HO_338001.out) hb)
        replace HO_344001 := Aside0.mk (Kd.R_below (Kd.R_g HO_344001.out) hb)
        replace HO348 := Aside0.mk (Kd.R_below (Kd.R_g HO348.out) hb)
        replace BK310 := blkB BK310 hb
        replace BK311 := blkB BK311 hb
        replace BK327 := blkB BK327 hb
        replace BK332 := blkB BK332 hb
        replace BK337 := blkB BK337 hb
        replace BK343 := blkB BK343 hb
        replace HB := bst HB hb
        (try clear hb)
        (try clear hb2)
        (try clear hk)
        (try clear hi)
        refine hK.out _ _ ⟨(blk_cell BK332.out 0).trans rfl, (blk_cell BK332.out 1).trans rfl, (blk_cell BK310.out 0).trans rfl, (blk_cell BK310.out 1).trans rfl⟩ (fun hHeld => ?_)
        clear hK K
        refine normW 57 ?_
        refine pure_ (i := 4) (N := some 58) (v := ?_) (a' := ?_) (bm 5 31) rfl rfl (by kernel_rfl) (fun _ _ _ h => h) (Or.inl ⟨by rfl, ?_⟩) ?_ ?_
        rotate_left
        ·intro w'
         go_simp
         with_reducible rfl
        rotate_left
        ·simp only [Act.put, List.setIfInBounds_toArray, List.set_cons_zero, List.set_cons_succ, i64_w, i32_w]
         rfl
        refine done_ (by kernel_rfl) ?_
        try go_wp2
        replace HO_328001 := Aside0.mk (Kd.R_drew HO_328001.out)
        replace HO_333001 := Aside0.mk (Kd.R_drew HO_333001.out)
        replace HO_338001 := Aside0.mk (Kd.R_drew HO_338001.out)
        replace HO_344001 := Aside0.mk (Kd.R_drew HO_344001.out)
        replace HO348 := Aside0.mk (Kd.R_drew HO348.out)
        replace BK310 := Aside0.mk (blk_drew BK310.out)
        replace BK311 := Aside0.mk (blk_drew BK311.out)
        replace BK327 := Aside0.mk (blk_drew BK327.out)
        replace BK332 := Aside0.mk (blk_drew BK332.out)
        replace BK337 := Aside0.mk (blk_drew BK337.out)
        replace BK343 := Aside0.mk (blk_drew BK343.out)
        replace HB := Aside0.mk (below_drew1 HB.out)
        refine start_ (n := 5) (S := fun w' => w'.cell? ⟨gb337, 0, none⟩ = some (.int .i64 t333) ∧ w'.cell? ⟨gb337, 1, none⟩ = some (.slice Ao62 t334.length co62) ∧ w'.cell? ⟨gb311, 0, none⟩ = some (.int .i64 a1_0) ∧ w'.cell? ⟨gb311, 1, none⟩ = some (.slice A1_1 l1_1.length c1_1)) (ds := []) (bm 5 0) (by kernel_rfl) rfl (by kernel_rfl) ⟨(blk_cell BK337.out 0).trans rfl, (blk_cell BK337.out 1).trans rfl, (blk_cell BK311.out 0).trans rfl, (blk_cell BK311.out 1).trans rfl⟩ (fun hHeld => ?_)
        generalize w233.drew = w234 at HO_328001 HO_333001 HO_338001 HO_344001 HO348 BK310 BK311 BK327 BK332 BK337 BK343 HB hHeld ⊢
        refine take_ (i := 0) (N := some 59) (v := ?_) (a' := ?_) (bm 5 1) rfl rfl (by kernel_rfl) (fun _ _ _ h => h) (Or.inl ⟨by rfl, ?_⟩) hHeld ?_ ?_
        rotate_left
        ·rintro w' ⟨s0, s1, s2, s3⟩
         go_simp
         with_reducible rfl
        rotate_left
        ·simp only [Act.put, List.setIfInBounds_toArray, List.set_cons_zero, List.set_cons_succ, i64_w, i32_w]
         rfl
        refine take_ (i := 1) (N := some 60) (v := ?_) (a' := ?_) (bm 5 3) rfl rfl (by kernel_rfl) (fun _ _ _ h => h) (Or.inl ⟨by rfl, ?_⟩) hHeld ?_ ?_
        rotate_left
        ·rintro w' ⟨s0, s1, s2, s3⟩
         go_simp
         with_reducible rfl
        rotate_left
        ·simp only [Act.put, List.setIfInBounds_toArray, List.set_cons_zero, List.set_cons_succ, i64_w, i32_w]
         rfl
        refine one_ (i := 2) (N := some 61) (bm 5 7) rfl rfl (by kernel_rfl) (by decide) (fun K hK => ?_)
        refine goesR Tryd.func17 #[.agg #[.int .i64 a1_0, .slice A1_1 l1_1.length c1_1]] ?_
        with_reducible refine (laws_toOrder.calls kj24 a1_0 _ _ l1_1 t350 t351 _ ?side1 ?side2 A103.out).mono ?_
        (case side1 => exact C_g HR1_1 HB)
        (case side2 => exact HC1_1.out)
        rintro e w235 ⟨v352, rfl, ho0, hb⟩
        refine ⟨_, rfl, ?_⟩
        have HO353 := Aside0.mk (Kd.R_lower (Kd.R_new' (Kd.R_new' (Kd.R_new' (Kd.R_new' (Kd.R_new' ho0 (Kd.R_lt (Kd.R_g HO_328001.out))) (Kd.R_lt (Kd.R_g HO_333001.out))) (Kd.R_lt (Kd.R_g HO_338001.out))) (Kd.R_lt (Kd.R_g HO_344001.out))) (Kd.R_lt (Kd.R_g HO348.out))) (below_size (bel_g HB.out)))
        replace HO_328001 := Aside0.mk (Kd.R_elder' (Kd.R_g HO_328001.out) (Kd.R_base ho0) hb)
        replace HO_333001 := Aside0.mk (Kd.R_elder' (Kd.R_g HO_333001.out) (Kd.R_base ho0) hb)
        replace HO_338001 := Aside0.mk (Kd.R_elder' (Kd.R_g HO_338001.out) (Kd.R_base ho0) hb)
        replace HO_344001 := Aside0.mk (Kd.R_elder' (Kd.R_g HO_344001.out) (Kd.R_base ho0) hb)
        replace HO348 := Aside0.mk (Kd.R_elder' (Kd.R_g HO348.out) (Kd.R_base ho0) hb)
        replace BK310 := blkB BK310 hb
        replace BK311 := blkB BK311 hb
        replace BK327 := blkB BK327 hb
        replace BK332 := blkB BK332 hb
        replace BK337 := blkB BK337 hb
        replace BK343 := blkB BK343 hb
        replace HB := bst HB hb
        (try clear hb)
        (try clear hb2)
        (try clear hk)
        (try clear hi)
        (try clear ho0)
        obtain ⟨Ao236, co236, eo236⟩ := Kd.R_slice HO353.out
        (first | subst eo236 | (injection eo236 with f1_ f2_ f3_; have f4_ := f1_.symm; have f5_ := f3_.symm; clear f1_ f2_ f3_; subst f4_; subst f5_))
        refine hK.out _ _ ⟨(blk_cell BK337.out 0).trans rfl, (blk_cell BK337.out 1).trans rfl, (blk_cell BK311.out 0).trans rfl, (blk_cell BK311.out 1).trans rfl⟩ (fun hHeld => ?_)
        clear hK K
        refine normW 61 ?_
        refine one_ (i := 3) (N := some 62) (bm 5 15) rfl rfl (by kernel_rfl) (by decide) (fun K hK => ?_)
        refine goesR Tryd.func19 #[.agg #[.int .i64 t333, .slice Ao62 t334.length co62], .agg #[.int .i64 t350, .slice Ao236 t351.length co236]] ?_
        with_reducible refine (laws_eqOrder.calls kj24 t333 _ _ t334 t350 _ _ t351 false _ ?side1 ?side2 ?side3 ?side4 A104.out).mono ?_
        (case side1 => repeat (first | exact (Kd.R_reads' HO_338001.out).2.2 | (with_reducible refine Kd.C_alloc ?_ _) | (with_reducible refine Kd.C_drewN ?_ _) | (with_reducible refine Kd.C_drew ?_)))
        (case side2 => exact (Kd.R_reads' HO_338001.out).2.1)
        (case side3 => repeat (first | exact (Kd.R_reads' HO353.out).2.2 | (with_reducible refine Kd.C_alloc ?_ _) | (with_reducible refine Kd.C_drewN ?_ _) | (with_reducible refine Kd.C_drew ?_)))
        (case side4 => exact (Kd.R_reads' HO353.out).2.1)
        rintro e w237 ⟨rfl, hb⟩
        refine ⟨_, rfl, ?_⟩
        replace HO_328001 := Aside0.mk (Kd.R_below (Kd.R_g HO_328001.out) hb)
        replace HO_333001 := Aside0.mk (Kd.R_below (Kd.R_g HO_333001.out) hb)
        replace HO_338001 := Aside0.mk (Kd.R_below (Kd.R_g HO_338001.out) hb)
        replace HO_344001 := Aside0.mk (Kd.R_below (Kd.R_g HO_344001.out) hb)
        replace HO348 := Aside0.mk (Kd.R_below (Kd.R_g HO348.out) hb)
        replace HO353 := Aside0.mk (Kd.R_below (Kd.R_g HO353.out) hb)
        replace BK310 := blkB BK310 hb
        replace BK311 := blkB BK311 hb
        replace BK327 := blkB BK327 hb
        replace BK332 := blkB BK332 hb
        replace BK337 := blkB BK337 hb
        replace BK343 := blkB BK343 hb
        replace HB := bst HB hb
        (try clear hb)
        (try clear hb2)
        (try clear hk)
        (try clear hi)
        refine hK.out _ _ ⟨(blk_cell BK337.out 0).trans rfl, (blk_cell BK337.out 1).trans rfl, (blk_cell BK311.out 0).trans rfl, (blk_cell BK311.out 1).trans rfl⟩ (fun hHeld => ?_)
        clear hK K
        refine normW 62 ?_
        refine pure_ (i := 4) (N := some 63) (v := ?_) (a' := ?_) (bm 5 31) rfl rfl (by kernel_rfl) (fun _ _ _ h => h) (Or.inl ⟨by rfl, ?_⟩) ?_ ?_
        rotate_left
        ·intro w'
         go_simp
         with_reducible rfl
        rotate_left
        ·simp only [Act.put, List.setIfInBounds_toArray, List.set_cons_zero, List.set_cons_succ, i64_w, i32_w]
         rfl
        refine done_ (by kernel_rfl) ?_
        try go_wp2
        go_ret
        exact ⟨eqE, bel_g HB.out⟩
      ·replace c102 := Bool.eq_false_iff.mpr c102
       subst c102
       replace H := ifF H
       obtain rfl := Option.some.inj H
       try go_wp2
       replace HO_328001 := Aside0.mk (Kd.R_drew HO_328001.out)
       replace HO_333001 := Aside0.mk (Kd.R_drew HO_333001.out)
       replace HO_338001 := Aside0.mk (Kd.R_drew HO_338001.out)
       replace HO_344001 := Aside0.mk (Kd.R_drew HO_344001.out)
       replace BK310 := Aside0.mk (blk_drew BK310.out)
       replace BK311 := Aside0.mk (blk_drew BK311.out)
       replace BK327 := Aside0.mk (blk_drew BK327.out)
       replace BK332 := Aside0.mk (blk_drew BK332.out)
       replace BK337 := Aside0.mk (blk_drew BK337.out)
       replace BK343 := Aside0.mk (blk_drew BK343.out)
       replace HB := Aside0.mk (below_drew1 HB.out)
       refine start_ (n := 5) (S := fun w' => w'.cell? ⟨gb332, 0, none⟩ = some (.int .i64 t328) ∧ w'.cell? ⟨gb332, 1, none⟩ = some (.slice Ao52 t329.length co52) ∧ w'.cell? ⟨gb310, 0, none⟩ = some (.int .i64 a0_0) ∧ w'.cell? ⟨gb310, 1, none⟩ = some (.slice A0_1 l0_1.length c0_1)) (ds := []) (bm 5 0) (by kernel_rfl) rfl (by kernel_rfl) ⟨(blk_cell BK332.out 0).trans rfl, (blk_cell BK332.out 1).trans rfl, (blk_cell BK310.out 0).trans rfl, (blk_cell BK310.out 1).trans rfl⟩ (fun hHeld => ?_)
       generalize wc.drew = w238 at HO_328001 HO_333001 HO_338001 HO_344001 BK310 BK311 BK327 BK332 BK337 BK343 HB hHeld ⊢
       refine take_ (i := 0) (N := some 54) (v := ?_) (a' := ?_) (bm 5 1) rfl rfl (by kernel_rfl) (fun _ _ _ h => h) (Or.inl ⟨by rfl, ?_⟩) hHeld ?_ ?_
       rotate_left
       ·rintro w' ⟨s0, s1, s2, s3⟩
        go_simp
        with_reducible rfl
       rotate_left
       ·simp only [Act.put, List.setIfInBounds_toArray, List.set_cons_zero, List.set_cons_succ, i64_w, i32_w]
        rfl
       refine take_ (i := 1) (N := some 55) (v := ?_) (a' := ?_) (bm 5 3) rfl rfl (by kernel_rfl) (fun _ _ _ h => h) (Or.inl ⟨by rfl, ?_⟩) hHeld ?_ ?_
       rotate_left
       ·rintro w' ⟨s0, s1, s2, s3⟩
        go_simp
        with_reducible rfl
       rotate_left
       ·simp only [Act.put, List.setIfInBounds_toArray, List.set_cons_zero, List.set_cons_succ, i64_w, i32_w]
        rfl
       refine one_ (i := 2) (N := some 56) (bm 5 7) rfl rfl (by kernel_rfl) (by decide) (fun K hK => ?_)
       refine goesR Tryd.func17 #[.agg #[.int .i64 a0_0, .slice A0_1 l0_1.length c0_1]] ?_
       with_reducible refine (laws_toOrder.calls kj24 a0_0 _ _ l0_1 t345 t346 _ ?side1 ?side2 A100.out).mono ?_
       (case side1 => exact C_g HR0_1 HB)
       (case side2 => exact HC0_1.out)
       rintro e w239 ⟨v347, rfl, ho0, hb⟩
       refine ⟨_, rfl, ?_⟩
       have HO348 := Aside0.mk (Kd.R_lower (Kd.R_new' (Kd.R_new' (Kd.R_new' (Kd.R_new' ho0 (Kd.R_lt (Kd.R_g HO_328001.out))) (Kd.R_lt (Kd.R_g HO_333001.out))) (Kd.R_lt (Kd.R_g HO_338001.out))) (Kd.R_lt (Kd.R_g HO_344001.out))) (below_size (bel_g HB.out)))
       replace HO_328001 := Aside0.mk (Kd.R_elder' (Kd.R_g HO_328001.out) (Kd.R_base ho0) hb)
       replace HO_333001 := Aside0.mk (Kd.R_elder' (Kd.R_g HO_333001.out) (Kd.R_base ho0) hb)
       replace HO_338001 := Aside0.mk (Kd.R_elder' (Kd.R_g HO_338001.out) (Kd.R_base ho0) hb)
       replace HO_344001 := Aside0.mk (Kd.R_elder' (Kd.R_g HO_344001.out) (Kd.R_base ho0) hb)
       replace BK310 := blkB BK310 hb
       replace BK311 := blkB BK311 hb
       replace BK327 := blkB BK327 hb
       replace BK332 := blkB BK332 hb
       replace BK337 := blkB BK337 hb
       replace BK343 := blkB BK343 hb
       replace HB := bst HB hb
       (try clear hb)
       (try clear hb2)
       (try clear hk)
       (try clear hi)
       (try clear ho0)
       obtain ⟨Ao240, co240, eo240⟩ := Kd.R_slice HO348.out
       (first | subst eo240 | (injection eo240 with f1_ f2_ f3_; have f4_ := f1_.symm; have f5_ := f3_.symm; clear f1_ f2_ f3_; subst f4_; subst f5_))
       refine hK.out _ _ ⟨(blk_cell BK332.out 0).trans rfl, (blk_cell BK332.out 1).trans rfl, (blk_cell BK310.out 0).trans rfl, (blk_cell BK310.out 1).trans rfl⟩ (fun hHeld => ?_)
       clear hK K
       refine normW 56 ?_
       refine one_ (i := 3) (N := some 57) (bm 5 15) rfl rfl (by kernel_rfl) (by decide) (fun K hK => ?_)
       refine goesR Tryd.func19 #[.agg #[.int .i64 t328, .slice Ao52 t329.length co52], .agg #[.int .i64 t345, .slice Ao240 t346.length co240]] ?_
       with_reducible refine (laws_eqOrder.calls kj24 t328 _ _ t329 t345 _ _ t346 false _ ?side1 ?side2 ?side3 ?side4 A101.out).mono ?_
       (case side1 => repeat (first | exact (Kd.R_reads' HO_333001.out).2.2 | (with_reducible refine Kd.C_alloc ?_ _) | (with_reducible refine Kd.C_drewN ?_ _) | (with_reducible refine Kd.C_drew ?_)))
       (case side2 => exact (Kd.R_reads' HO_333001.out).2.1)
       (case side3 => repeat (first | exact (Kd.R_reads' HO348.out).2.2 | (with_reducible refine Kd.C_alloc ?_ _) | (with_reducible refine Kd.C_drewN ?_ _) | (with_reducible refine Kd.C_drew ?_)))
       (case side4 => exact (Kd.R_reads' HO348.out).2.1)
       rintro e w241 ⟨rfl, hb⟩
       refine ⟨_, rfl, ?_⟩
       replace HO_328001 := Aside0.mk (Kd.R_below (Kd.R_g HO_328001.out) hb)
       replace HO_333001 := Aside0.mk (Kd.R_below (Kd.R_g HO_333001.out) hb)
       replace HO_338001 := Aside0.mk (Kd.R_below (Kd.R_g HO_338001.out) hb)
       replace HO_344001 := Aside0.mk (Kd.R_below (Kd.R_g HO_344001.out) hb)
       replace HO348 := Aside0.mk (Kd.R_below (Kd.R_g HO348.out) hb)
       replace BK310 := blkB BK310 hb
       replace BK311 := blkB BK311 hb
       replace BK327 := blkB BK327 hb
       replace BK332 := blkB BK332 hb
       replace BK337 := blkB BK337 hb
       replace BK343 := blkB BK343 hb
       replace HB := bst HB hb
       (try clear hb)
       (try clear hb2)
       (try clear hk)
       (try clear hi)
       refine hK.out _ _ ⟨(blk_cell BK332.out 0).trans rfl, (blk_cell BK332.out 1).trans rfl, (blk_cell BK310.out 0).trans rfl, (blk_cell BK310.out 1).trans rfl⟩ (fun hHeld => ?_)
       clear hK K
       refine normW 57 ?_
       refine pure_ (i := 4) (N := some 58) (v := ?_) (a' := ?_) (bm 5 31) rfl rfl (by kernel_rfl) (fun _ _ _ h => h) (Or.inl ⟨by rfl, ?_⟩) ?_ ?_
       rotate_left
       ·intro w'
        go_simp
        with_reducible rfl
       rotate_left
       ·simp only [Act.put, List.setIfInBounds_toArray, List.set_cons_zero, List.set_cons_succ, i64_w, i32_w]
        rfl
       refine done_ (by kernel_rfl) ?_
       try go_wp2
       go_ret
       exact ⟨eqE, bel_g HB.out⟩

end Go.Proofs.YteechpappfagpaaDoor.Q
