import Derived.Test.YteechpappfagpaaDoorBFnExtensionsAccepted0
import Derived.Test.YteechpappfagpaaDoorBFnExtensionsAccepted5
import Derived.Test.YteechpappfagpaaDoorBFnExtensionsAccepted6
import Derived.Test.YteechpappfagpaaDoorBFnExtensionsAccepted17
import Derived.Test.YteechpappfagpaaDoorBFnExtensionsAccepted18
import Derived.Test.YteechpappfagpaaDoorBFnExtensionsAccepted19
-- printed by this project's own program (wip/mp/mp.py) over the kit's print, for this seat; Lean checks it
namespace Go.Proofs.YteechpappfagpaaDoor.Q
open Go.RowKit Go.Proofs.YteechpappfagpaaDoorW.PrintWords Go.Proofs.YteechpappfagpaaDoorW.PrintLast Go.Proofs.YteechpappfagpaaDoorW.PrintMore
attribute [local go_sem] max2_int min2_int max_two min_two max_three min_three max_four min_four   -- for this text's walks alone
set_option linter.unusedVariables false
set_option maxHeartbeats 8000000
set_option maxRecDepth 100000
set_option linter.unusedSimpArgs false

/-! ### laws_FnExtensionsAccepted: function 12 -/
mutual
def laws_FnExtensionsAccepted.j0 : Nat → List Int → Bool → Bool → Int → List Int → Option (Bool)
 | 0, _, _, _, _, _ => none
 | k + 1, x6, x7, x44, x1345000, x1345001 => if x44 = true then (some false) else (if x7 = true then ((impl_FirstExtension.f k x1345000 x1345001).bind fun bt1349 => (if bt1349.2 = true then ((laws_pLess.f k x6 bt1349.1).bind fun t1353 => (if t1353 = true then (laws_FnExtensionsAccepted.j1 k x6 true x1345000 x1345001) else (laws_FnExtensionsAccepted.j1 k x6 ((x6.length : Int) != x1345000) x1345000 x1345001))) else (laws_FnExtensionsAccepted.j1 k x6 true x1345000 x1345001))) else (some true))
def laws_FnExtensionsAccepted.j1 : Nat → List Int → Bool → Int → List Int → Option (Bool)
 | 0, _, _, _, _ => none
 | k + 1, x6, x65, x1345000, x1345001 => if x65 = true then (some false) else (laws_FnExtensionsAccepted.l0 k x6 x6 (x6.length : Int) 0 x1345000 x1345001)
def laws_FnExtensionsAccepted.l0 : Nat → List Int → List Int → Int → Int → Int → List Int → Option (Bool)
 | 0, _, _, _, _, _, _ => none
 | k + 1, x6, x66, x67, x68, x1345000, x1345001 => if x68 < x67 then (if 0 ≤ x68 then (if x68 < (x66.length : Int) then (if x68 ≤ (x6.length : Int) then ((some (x6.take (x68 : Int).toNat : List Int)).bind fun y1355 => (laws_FnExtensionsAccepted.l1 k x6 (rd x66 x68) x66 x67 x68 y1355 (y1355.length : Int) 0 x1345000 x1345001)) else (none)) else (none)) else (none)) else (some true)
def laws_FnExtensionsAccepted.l1 : Nat → List Int → Int → List Int → Int → Int → List Int → Int → Int → Int → List Int → Option (Bool)
 | 0, _, _, _, _, _, _, _, _, _, _ => none
 | k + 1, x6, x14, x66, x67, x68, x75, x76, x77, x1345000, x1345001 => if x77 < x76 then (if 0 ≤ x77 then (if x77 < (x75.length : Int) then (if x14 = (rd x75 x77) then (some false) else (if 0 ≤ x14 then (if x14 < (x1345001.length : Int) then ((laws_pIn.f (rd x1345001 x14) (rd x75 x77)).bind fun t1361 => (if t1361 = true then (some false) else (laws_FnExtensionsAccepted.l1 k x6 x14 x66 x67 x68 x75 x76 (wrap64 (x77 + 1)) x1345000 x1345001))) else (none)) else (none))) else (none)) else (none)) else (laws_FnExtensionsAccepted.l0 k x6 x66 x67 (wrap64 (x68 + 1)) x1345000 x1345001)
end
def laws_FnExtensionsAccepted.f (k : Nat) (l0 : List Int) (l1 : List Int) : Option (Bool) := (laws_big.f l0 l1).bind fun t1336 => (if t1336 = true then (some true) else ((spec_DrawIsExtension.f k l0).bind fun bt1337 => ((impl_IsExtension.f k bt1337.1 bt1337.2.1 bt1337.2.2).bind fun bt1345 => ((spec_IsExtension.f k bt1337.1 bt1337.2.1 bt1337.2.2).bind fun bt1347 => (if (bt1345.2 != bt1347.2) = true then (laws_FnExtensionsAccepted.j0 k bt1337.2.2 bt1345.1 true bt1337.1 bt1337.2.1) else (laws_FnExtensionsAccepted.j0 k bt1337.2.2 bt1345.1 (bt1345.1 != bt1347.1) bt1337.1 bt1337.2.1))))))
theorem laws_FnExtensionsAccepted.mono_l : ∀ k, (∀ y0 y1 y2 y3 y4, LeO (laws_FnExtensionsAccepted.j0 k y0 y1 y2 y3 y4) (laws_FnExtensionsAccepted.j0 (k + 1) y0 y1 y2 y3 y4)) ∧ (∀ y0 y1 y2 y3, LeO (laws_FnExtensionsAccepted.j1 k y0 y1 y2 y3) (laws_FnExtensionsAccepted.j1 (k + 1) y0 y1 y2 y3)) ∧ (∀ y0 y1 y2 y3 y4 y5, LeO (laws_FnExtensionsAccepted.l0 k y0 y1 y2 y3 y4 y5) (laws_FnExtensionsAccepted.l0 (k + 1) y0 y1 y2 y3 y4 y5)) ∧ (∀ y0 y1 y2 y3 y4 y5 y6 y7 y8 y9, LeO (laws_FnExtensionsAccepted.l1 k y0 y1 y2 y3 y4 y5 y6 y7 y8 y9) (laws_FnExtensionsAccepted.l1 (k + 1) y0 y1 y2 y3 y4 y5 y6 y7 y8 y9))
 | 0 => ⟨fun _ _ _ _ _ r h => by simp [laws_FnExtensionsAccepted.j0] at h, fun _ _ _ _ r h => by simp [laws_FnExtensionsAccepted.j1] at h, fun _ _ _ _ _ _ r h => by simp [laws_FnExtensionsAccepted.l0] at h, fun _ _ _ _ _ _ _ _ _ _ r h => by simp [laws_FnExtensionsAccepted.l1] at h⟩
 | k + 1 => by
  obtain ⟨ih0, ih1, ih2, ih3⟩ := laws_FnExtensionsAccepted.mono_l k
  refine ⟨?_, ?_, ?_, ?_⟩
  ·intro y0 y1 y2 y3 y4
   unfold laws_FnExtensionsAccepted.j0
   repeat' (with_reducible first|exact ih0 _ _ _ _ _|exact ih1 _ _ _ _|exact ih2 _ _ _ _ _ _|exact ih3 _ _ _ _ _ _ _ _ _ _|exact impl_FirstExtension.mono _ _ _|exact impl_IsExtension.mono _ _ _ _|exact laws_pLess.mono _ _ _|exact spec_DrawIsExtension.mono _ _|exact spec_IsExtension.mono _ _ _ _|exact LeO.refl _|exact LeO.none _|refine LeO.ite ?_ ?_|refine LeO.bind ?_ (fun _ => ?_))
  ·intro y0 y1 y2 y3
   unfold laws_FnExtensionsAccepted.j1
   repeat' (with_reducible first|exact ih0 _ _ _ _ _|exact ih1 _ _ _ _|exact ih2 _ _ _ _ _ _|exact ih3 _ _ _ _ _ _ _ _ _ _|exact impl_FirstExtension.mono _ _ _|exact impl_IsExtension.mono _ _ _ _|exact laws_pLess.mono _ _ _|exact spec_DrawIsExtension.mono _ _|exact spec_IsExtension.mono _ _ _ _|exact LeO.refl _|exact LeO.none _|refine LeO.ite ?_ ?_|refine LeO.bind ?_ (fun _ => ?_))
  ·intro y0 y1 y2 y3 y4 y5
   unfold laws_FnExtensionsAccepted.l0
   repeat' (with_reducible first|exact ih0 _ _ _ _ _|exact ih1 _ _ _ _|exact ih2 _ _ _ _ _ _|exact ih3 _ _ _ _ _ _ _ _ _ _|exact impl_FirstExtension.mono _ _ _|exact impl_IsExtension.mono _ _ _ _|exact laws_pLess.mono _ _ _|exact spec_DrawIsExtension.mono _ _|exact spec_IsExtension.mono _ _ _ _|exact LeO.refl _|exact LeO.none _|refine LeO.ite ?_ ?_|refine LeO.bind ?_ (fun _ => ?_))
  ·intro y0 y1 y2 y3 y4 y5 y6 y7 y8 y9
   unfold laws_FnExtensionsAccepted.l1
   repeat' (with_reducible first|exact ih0 _ _ _ _ _|exact ih1 _ _ _ _|exact ih2 _ _ _ _ _ _|exact ih3 _ _ _ _ _ _ _ _ _ _|exact impl_FirstExtension.mono _ _ _|exact impl_IsExtension.mono _ _ _ _|exact laws_pLess.mono _ _ _|exact spec_DrawIsExtension.mono _ _|exact spec_IsExtension.mono _ _ _ _|exact LeO.refl _|exact LeO.none _|refine LeO.ite ?_ ?_|refine LeO.bind ?_ (fun _ => ?_))
theorem laws_FnExtensionsAccepted.mono : ∀ a0 a1 k, LeO (laws_FnExtensionsAccepted.f k a0 a1) (laws_FnExtensionsAccepted.f (k + 1) a0 a1) := by
 intro a0 a1 k
 obtain ⟨ih0, ih1, ih2, ih3⟩ := laws_FnExtensionsAccepted.mono_l k
 unfold laws_FnExtensionsAccepted.f
 repeat' (with_reducible first|exact ih0 _ _ _ _ _|exact ih1 _ _ _ _|exact ih2 _ _ _ _ _ _|exact ih3 _ _ _ _ _ _ _ _ _ _|exact impl_FirstExtension.mono _ _ _|exact impl_IsExtension.mono _ _ _ _|exact laws_pLess.mono _ _ _|exact spec_DrawIsExtension.mono _ _|exact spec_IsExtension.mono _ _ _ _|exact LeO.refl _|exact LeO.none _|refine LeO.ite ?_ ?_|refine LeO.bind ?_ (fun _ => ?_))
theorem laws_FnExtensionsAccepted.calls (k : Nat) (A0 : Option Addr) (c0 : Nat) (l0 : List Int) (A1 : Option Addr) (c1 : Nat) (l1 : List Int) (r : Bool) (w : World) (hr0 : Kd.C (Kd.int .u8) w A0 l0.length l0) (hc0 : l0.length ≤ c0) (hr1 : Kd.C (Kd.int .u8) w A1 l1.length l1) (hc1 : l1.length ≤ c1) (hTAB : Tab w) (h : laws_FnExtensionsAccepted.f k l0 l1 = some r) :
  Calls Tryd.prog 12 #[.slice A0 l0.length c0, .slice A1 l1.length c1] w fun e w' => e = .returned (.bool r) ∧ Below w.heap.size w w' := by
 have HTAB := Aside0.mk hTAB
 clear hTAB
 have hu28 := Tryd.underlying28
 have HR0 := Aside0.mk hr0
 have HC0 := Aside0.mk hc0
 clear hr0 hc0
 have HR1 := Aside0.mk hr1
 have HC1 := Aside0.mk hc1
 clear hr1 hc1
 have HB := Aside0.mk (Below.refl w.heap.size w)
 have H : ((laws_big.f l0 l1).bind fun t1336 => (if t1336 = true then (some true) else ((spec_DrawIsExtension.f k l0).bind fun bt1337 => ((impl_IsExtension.f k bt1337.1 bt1337.2.1 bt1337.2.2).bind fun bt1345 => ((spec_IsExtension.f k bt1337.1 bt1337.2.1 bt1337.2.2).bind fun bt1347 => (if (bt1345.2 != bt1347.2) = true then (laws_FnExtensionsAccepted.j0 k bt1337.2.2 bt1345.1 true bt1337.1 bt1337.2.1) else (laws_FnExtensionsAccepted.j0 k bt1337.2.2 bt1345.1 (bt1345.1 != bt1347.1) bt1337.1 bt1337.2.1))))))) = some r := h
 clear h
 obtain ⟨t1336, A3, H⟩ := obE H
 by_cases c4 : t1336 = true
 ·subst c4
  replace H := ifT H
  obtain rfl := Option.some.inj H
  go_enter Tryd.func12, Tryd.ntmps12
  go_wp2_with (first | ((with_reducible refine gate_callee (f := 33) rfl ?_); refine goesQ (some 19) Tryd.func33 #[.slice A0 l0.length c0, .slice A1 l1.length c1] ?_; (with_reducible refine (laws_big.calls _ _ l0 _ _ l1 true _ ?side1 ?side2 ?side3 ?side4 A3.out).mono ?_); (case side1 => repeat (first | exact HR0.out | (with_reducible refine Kd.C_alloc ?_ _) | (with_reducible refine Kd.C_drewN ?_ _) | (with_reducible refine Kd.C_drew ?_))); (case side2 => exact HC0.out); (case side3 => repeat (first | exact HR1.out | (with_reducible refine Kd.C_alloc ?_ _) | (with_reducible refine Kd.C_drewN ?_ _) | (with_reducible refine Kd.C_drew ?_))); (case side4 => exact HC1.out); rintro e w' ⟨rfl, ⟨nd, rfl⟩⟩; refine ⟨_, rfl, ?_⟩))
  go_ret
  exact ⟨eqE, bel_g HB.out⟩
 ·replace c4 := Bool.eq_false_iff.mpr c4
  subst c4
  replace H := ifF H
  obtain ⟨⟨t1337, t1338, t1341⟩, A5, H⟩ := obE H
  dsimp only at H
  obtain ⟨⟨t1345, t1346⟩, A6, H⟩ := obE H
  dsimp only at H
  obtain ⟨⟨t1347, t1348⟩, A7, H⟩ := obE H
  dsimp only at H
  have HC8 := Aside0.mk H
  clear H
  go_enter Tryd.func12, Tryd.ntmps12
  go_upto_region 6 with (first | ((with_reducible refine gate_callee (f := 33) rfl ?_); refine goesQ (some 19) Tryd.func33 #[.slice A0 l0.length c0, .slice A1 l1.length c1] ?_; (with_reducible refine (laws_big.calls _ _ l0 _ _ l1 false _ ?side1 ?side2 ?side3 ?side4 A3.out).mono ?_); (case side1 => repeat (first | exact HR0.out | (with_reducible refine Kd.C_alloc ?_ _) | (with_reducible refine Kd.C_drewN ?_ _) | (with_reducible refine Kd.C_drew ?_))); (case side2 => exact HC0.out); (case side3 => repeat (first | exact HR1.out | (with_reducible refine Kd.C_alloc ?_ _) | (with_reducible refine Kd.C_drewN ?_ _) | (with_reducible refine Kd.C_drew ?_))); (case side4 => exact HC1.out); rintro e w' ⟨rfl, ⟨nd, rfl⟩⟩; refine ⟨_, rfl, ?_⟩) | ((with_reducible refine gate_callee (f := 64) rfl ?_); refine goesQ (some 22) Tryd.func64 #[.slice A0 l0.length c0] ?_; (with_reducible refine (spec_DrawIsExtension.calls k _ _ l0 t1337 t1338 t1341 _ ?side1 ?side2 A5.out).mono ?_); (case side1 => repeat (first | exact HR0.out | (with_reducible refine Kd.C_alloc ?_ _) | (with_reducible refine Kd.C_drewN ?_ _) | (with_reducible refine Kd.C_drew ?_))); (case side2 => exact HC0.out); rintro e w9 ⟨v1339, v1342, rfl, ho0, ho1, hb⟩; refine ⟨_, rfl, ?_⟩; have HO1340 := Aside0.mk (Kd.R_lower ho0 (below_size (bel_g HB.out))); have HO1343 := Aside0.mk (Kd.R_lower ho1 (below_size (bel_g HB.out))); replace HB := bst HB hb; (try clear hb); (try clear hk); (try clear ho0); (try clear ho1)) | ((with_reducible refine gate_dst (N := 5) rfl ?_); (try (refine gate_guard (by rfl) ?_; dsimp only)); refine boxE (N := 5) (cs := #[.int .i64 0, .slice none 0 0]) (t := 28) ?_; intro gb1344 hg w10 hbox hb; replace HO1340 := Aside0.mk (Kd.R_below (Kd.R_g HO1340.out) hb); replace HO1343 := Aside0.mk (Kd.R_below (Kd.R_g HO1343.out) hb); have BK1344 := Aside0.mk (hbox); have GE1344 := geB HB hg; replace HB := bst HB hb; clear hb hbox hg; obtain ⟨hcz11_0, hcz11_1, hfz11_0, hfz11_1⟩ := blk2 BK1344; obtain ⟨Ao12, co12, eo12⟩ := Kd.R_slice HO1340.out; subst eo12; obtain ⟨Ao13, co13, eo13⟩ := Kd.R_slice HO1343.out; subst eo13) | ((with_reducible refine gate_callee (f := 63) rfl ?_); refine goesQ (some 28) Tryd.func63 #[.agg #[.int .i64 t1337, .slice Ao12 t1338.length co12], .slice Ao13 t1341.length co13] ?_; (with_reducible refine (impl_IsExtension.calls k t1337 _ _ t1338 _ _ t1341 t1345 t1346 _ ?side1 ?side2 ?side3 ?side4 ?side5 A6.out).mono ?_); (case side1 => refine (Kd.R_reads' (e := 3) (base := w.heap.size) (ok := fun k_ => some k_ ≠ (.slice Ao13 t1341.length co13 : Value).ownBlock) (n := t1338.length) (c := co12) ?_).2.2; exact (Kd.R_g ((Kd.R_mono (Kd.R_far (p := ⟨gb1344, 1, none⟩) (Kd.R_far (p := ⟨gb1344, 0, none⟩) (Kd.R_types HO1340.out BK1344.out (by decide)) (fun _ hk => hk.2) (.int .i64 t1337)) (fun _ hk => hk.2) (.slice Ao12 t1338.length co12)) (fun _ h_ => h_.1))))); (case side2 => exact (Kd.R_reads' HO1340.out).2.1); (case side3 => refine (Kd.R_reads' (e := 3) (base := w.heap.size) (ok := fun k_ => some k_ ≠ (.slice Ao12 t1338.length co12 : Value).ownBlock) (n := t1341.length) (c := co13) ?_).2.2; exact (Kd.R_g ((Kd.R_mono (Kd.R_far (p := ⟨gb1344, 1, none⟩) (Kd.R_far (p := ⟨gb1344, 0, none⟩) (Kd.R_types HO1343.out BK1344.out (by decide)) (fun _ hk => hk.2) (.int .i64 t1337)) (fun _ hk => hk.2) (.slice Ao12 t1338.length co12)) (fun _ h_ => h_.1))))); (case side4 => exact (Kd.R_reads' HO1343.out).2.1); (case side5 => first | exact HTAB.out | exact Tab.drewN HTAB.out _ | exact Tab.below HTAB.out (bel_g HB.out) | exact Tab.below HTAB.out (by repeat (first | exact Below.refl _ _ | apply below_alloc | apply pw_below_drewN | apply below_drew1))); rintro e w14 ⟨rfl, hb⟩; refine ⟨_, rfl, ?_⟩; replace HO1340 := Aside0.mk (Kd.R_below (Kd.R_g ((Kd.R_mono (Kd.R_far (p := ⟨gb1344, 1, none⟩) (Kd.R_far (p := ⟨gb1344, 0, none⟩) (Kd.R_types HO1340.out BK1344.out (by decide)) (fun _ hk => hk.2) (.int .i64 t1337)) (fun _ hk => hk.2) (.slice Ao12 t1338.length co12)) (fun _ h_ => h_.1)))) hb); replace HO1343 := Aside0.mk (Kd.R_below (Kd.R_g ((Kd.R_mono (Kd.R_far (p := ⟨gb1344, 1, none⟩) (Kd.R_far (p := ⟨gb1344, 0, none⟩) (Kd.R_types HO1343.out BK1344.out (by decide)) (fun _ hk => hk.2) (.int .i64 t1337)) (fun _ hk => hk.2) (.slice Ao12 t1338.length co12)) (fun _ h_ => h_.1)))) hb); replace BK1344 := Aside0.mk (blk_below (g := gb1344) (o := .cells #[.int .i64 t1337, .slice Ao12 t1338.length co12] 28 (0, 0)) (by (with_reducible repeat (first | refine blk_drewN ?_ _ | refine blk_drew ?_ | refine blk_alloc ?_ _)); refine blk_put (cs := #[.int .i64 t1337, .slice none 0 0]) ?_ 1 _ rfl; (with_reducible repeat (first | refine blk_drewN ?_ _ | refine blk_drew ?_ | refine blk_alloc ?_ _)); refine blk_put (cs := #[.int .i64 0, .slice none 0 0]) ?_ 0 _ rfl; (with_reducible repeat (first | refine blk_drewN ?_ _ | refine blk_drew ?_ | refine blk_alloc ?_ _)); exact BK1344.out) hb); replace HB := bst HB hb; (try clear hb); (try clear hk); obtain ⟨hcz15_0, hcz15_1, hfz15_0, hfz15_1⟩ := blk2 BK1344) | ((with_reducible refine gate_callee (f := 65) rfl ?_); refine goesQ (some 34) Tryd.func65 #[.agg #[.int .i64 t1337, .slice Ao12 t1338.length co12], .slice Ao13 t1341.length co13] ?_; (with_reducible refine (spec_IsExtension.calls k t1337 _ _ t1338 _ _ t1341 t1347 t1348 _ ?side1 ?side2 ?side3 ?side4 A7.out).mono ?_); (case side1 => repeat (first | exact (Kd.R_reads' HO1340.out).2.2 | (with_reducible refine Kd.C_alloc ?_ _) | (with_reducible refine Kd.C_drewN ?_ _) | (with_reducible refine Kd.C_drew ?_))); (case side2 => exact (Kd.R_reads' HO1340.out).2.1); (case side3 => repeat (first | exact (Kd.R_reads' HO1343.out).2.2 | (with_reducible refine Kd.C_alloc ?_ _) | (with_reducible refine Kd.C_drewN ?_ _) | (with_reducible refine Kd.C_drew ?_))); (case side4 => exact (Kd.R_reads' HO1343.out).2.1); rintro e w16 ⟨rfl, hb⟩; refine ⟨_, rfl, ?_⟩; replace HO1340 := Aside0.mk (Kd.R_below (Kd.R_g HO1340.out) hb); replace HO1343 := Aside0.mk (Kd.R_below (Kd.R_g HO1343.out) hb); replace BK1344 := blkB BK1344 hb; replace HB := bst HB hb; (try clear hb); (try clear hk)))
  (try simp only [Act.put, List.setIfInBounds_toArray, List.set_cons_zero, List.set_cons_succ])
  go_cut [44] (fun v44 wc => ∃ (kq : Nat) (x44_7 : Bool), v44 = .bool x44_7 ∧ Aside0 (laws_FnExtensionsAccepted.j0 kq t1341 t1345 x44_7 t1337 t1338 = some r) ∧ Aside0 (kq ≤ k) ∧ Aside0 (Kd.R (Kd.int .i64) 3 wc w.heap.size (fun k_ => some k_ ≠ ((.slice Ao12 t1338.length co12) : Value).ownBlock) (.slice Ao13 t1341.length co13) t1341) ∧ Aside0 (Kd.R (Kd.int .i64) 3 wc w.heap.size (fun k_ => some k_ ≠ ((.slice Ao13 t1341.length co13) : Value).ownBlock) (.slice Ao12 t1338.length co12) t1338) ∧ Aside0 (wc.heap[gb1344]? = some (.cells #[.int .i64 t1337, (.slice Ao12 t1338.length co12)] 28 (0, 0))) ∧ Aside0 (Below w.heap.size w wc))
  case first =>
   have H := HC8.out
   clear HC8
   rcases iteP H with ⟨c17, H⟩ | ⟨c17, H⟩
   ·have c17b0 : (t1346 != t1348) = true := c17
    (try (have c17b1 : decide (t1346 = t1348) = false := by simpa using c17))
    (try (have c17b2 : (t1346 == t1348) = false := by simpa using c17))
    (try (have c17b3 : ¬ (t1346 = t1348) := by simpa using c17))
    clear c17
    (first | rw [c17b0] | (simp only [i64_w, i32_w]; rw [c17b0]) | skip)
    have H' := Aside0.mk H
    clear H
    go_wp2
    go_meet
    case rel => exact ⟨_, (true), eqS, H', ⟨by first | omega | exact Nat.le_refl _⟩, ⟨Kd.R_g HO1343.out⟩, ⟨Kd.R_g HO1340.out⟩, ⟨blk_g BK1344.out⟩, ⟨bel_g HB.out⟩⟩
   ·have c17b0 : (t1346 != t1348) = false := by simpa using c17
    (try (have c17b1 : decide (t1346 = t1348) = true := by simpa using c17))
    (try (have c17b2 : (t1346 == t1348) = true := by simpa using c17))
    clear c17
    (first | rw [c17b0] | (simp only [i64_w, i32_w]; rw [c17b0]) | skip)
    have H' := Aside0.mk H
    clear H
    go_wp2
    go_meet
    case rel => exact ⟨_, ((t1345 != t1347)), eqS, H', ⟨by first | omega | exact Nat.le_refl _⟩, ⟨Kd.R_g HO1343.out⟩, ⟨Kd.R_g HO1340.out⟩, ⟨blk_g BK1344.out⟩, ⟨bel_g HB.out⟩⟩
  case rest =>
   clear HC8
   try clear c1
   try clear c4
   try clear c17
   try clear c17b0
   try clear c17b1
   try clear c17b2
   try clear hcz11_0
   try clear hcz11_1
   try clear hcz15_0
   try clear hcz15_1
   try clear hfz11_0
   try clear hfz11_1
   try clear hfz15_0
   try clear hfz15_1
   obtain ⟨kq, x44_7, rfl, HA, HJ7, HO_6, HO_1345001, BK1344, HB⟩ := hcut
   cases kq with
   | zero => exact absurd HA.out (by simp [laws_FnExtensionsAccepted.j0])
   | succ kj7 =>
    have H := HA.out
    clear HA
    simp only [laws_FnExtensionsAccepted.j0] at H
    by_cases c18 : x44_7 = true
    ·subst c18
     replace H := ifT H
     obtain rfl := Option.some.inj H
     go_wp2
     go_ret
     exact ⟨eqE, bel_g HB.out⟩
    ·replace c18 := Bool.eq_false_iff.mpr c18
     subst c18
     replace H := ifF H
     by_cases c19 : t1345 = true
     ·subst c19
      replace H := ifT H
      obtain ⟨⟨t1349, t1352⟩, A20, H⟩ := obE H
      dsimp only at H
      have HC21 := Aside0.mk H
      clear H
      obtain ⟨hcz22_0, hcz22_1, hfz22_0, hfz22_1⟩ := blk2 BK1344
      go_upto_region 11 with (first | ((with_reducible refine gate_callee (f := 62) rfl ?_); refine goesQ (some 49) Tryd.func62 #[.agg #[.int .i64 t1337, .slice Ao12 t1338.length co12]] ?_; (with_reducible refine (impl_FirstExtension.calls kj7 t1337 _ _ t1338 t1349 t1352 _ ?side1 ?side2 ?side3 A20.out).mono ?_); (case side1 => repeat (first | exact (Kd.R_reads' HO_1345001.out).2.2 | (with_reducible refine Kd.C_alloc ?_ _) | (with_reducible refine Kd.C_drewN ?_ _) | (with_reducible refine Kd.C_drew ?_))); (case side2 => exact (Kd.R_reads' HO_1345001.out).2.1); (case side3 => first | exact HTAB.out | exact Tab.drewN HTAB.out _ | exact Tab.below HTAB.out (bel_g HB.out) | exact Tab.below HTAB.out (by repeat (first | exact Below.refl _ _ | apply below_alloc | apply pw_below_drewN | apply below_drew1))); rintro e w23 ⟨v1350, rfl, ho0, hb⟩; refine ⟨_, rfl, ?_⟩; have HO1351 := Aside0.mk (Kd.R_lower (Kd.R_new' (Kd.R_new' ho0 (Kd.R_lt (Kd.R_g HO_6.out))) (Kd.R_lt (Kd.R_g HO_1345001.out))) (below_size (bel_g HB.out))); replace HO_6 := Aside0.mk (Kd.R_elder' (Kd.R_g HO_6.out) (Kd.R_base ho0) hb); replace HO_1345001 := Aside0.mk (Kd.R_elder' (Kd.R_g HO_1345001.out) (Kd.R_base ho0) hb); replace BK1344 := blkB BK1344 hb; replace HB := bst HB hb; (try clear hb); (try clear hk); (try clear ho0)))
      (try simp only [Act.put, List.setIfInBounds_toArray, List.set_cons_zero, List.set_cons_succ])
      go_cut [65] (fun v65 wc => ∃ (kq : Nat) (x65_20 : Bool), v65 = .bool x65_20 ∧ Aside0 (laws_FnExtensionsAccepted.j1 kq t1341 x65_20 t1337 t1338 = some r) ∧ Aside0 (kq ≤ kj7) ∧ Aside0 (Kd.R (Kd.int .i64) 3 wc w.heap.size (fun k_ => some k_ ≠ ((.slice Ao12 t1338.length co12) : Value).ownBlock) (.slice Ao13 t1341.length co13) t1341) ∧ Aside0 (Kd.R (Kd.int .i64) 3 wc w.heap.size (fun k_ => some k_ ≠ ((.slice Ao13 t1341.length co13) : Value).ownBlock) (.slice Ao12 t1338.length co12) t1338) ∧ Aside0 (wc.heap[gb1344]? = some (.cells #[.int .i64 t1337, (.slice Ao12 t1338.length co12)] 28 (0, 0))) ∧ Aside0 (Below w.heap.size w wc))
      case first =>
       have H := HC21.out
       clear HC21
       by_cases c24 : t1352 = true
       ·subst c24
        replace H := ifT H
        obtain ⟨t1353, A25, H⟩ := obE H
        by_cases c26 : t1353 = true
        ·subst c26
         replace H := ifT H
         have H' := Aside0.mk H
         clear H
         obtain ⟨Ao27, co27, eo27⟩ := Kd.R_slice HO1351.out
         subst eo27
         go_wp2_with (first | (go_at_call 66; (with_reducible refine (laws_pLess.calls kj7 _ _ t1341 _ _ t1349 true _ ?side1 ?side2 ?side3 ?side4 A25.out).mono ?_); (case side1 => repeat (first | exact (Kd.R_reads' HO_6.out).2.2 | (with_reducible refine Kd.C_alloc ?_ _) | (with_reducible refine Kd.C_drewN ?_ _) | (with_reducible refine Kd.C_drew ?_))); (case side2 => exact (Kd.R_reads' HO_6.out).2.1); (case side3 => repeat (first | exact (Kd.R_reads' HO1351.out).2.2 | (with_reducible refine Kd.C_alloc ?_ _) | (with_reducible refine Kd.C_drewN ?_ _) | (with_reducible refine Kd.C_drew ?_))); (case side4 => exact (Kd.R_reads' HO1351.out).2.1); rintro e w' ⟨rfl, ⟨nd, rfl⟩⟩))
         go_meet
         case rel => exact ⟨_, (true), eqS, H', ⟨by have := HJ7.out; first | omega | exact Nat.le_refl _⟩, ⟨Kd.R_g (Kd.R_mono HO_6.out (fun _ hk => hk.1))⟩, ⟨Kd.R_g (Kd.R_mono HO_1345001.out (fun _ hk => hk.1))⟩, ⟨blk_g BK1344.out⟩, ⟨bel_g HB.out⟩⟩
        ·replace c26 := Bool.eq_false_iff.mpr c26
         subst c26
         replace H := ifF H
         have H' := Aside0.mk H
         clear H
         obtain ⟨Ao28, co28, eo28⟩ := Kd.R_slice HO1351.out
         subst eo28
         go_wp2_with (first | (go_at_call 66; (with_reducible refine (laws_pLess.calls kj7 _ _ t1341 _ _ t1349 false _ ?side1 ?side2 ?side3 ?side4 A25.out).mono ?_); (case side1 => repeat (first | exact (Kd.R_reads' HO_6.out).2.2 | (with_reducible refine Kd.C_alloc ?_ _) | (with_reducible refine Kd.C_drewN ?_ _) | (with_reducible refine Kd.C_drew ?_))); (case side2 => exact (Kd.R_reads' HO_6.out).2.1); (case side3 => repeat (first | exact (Kd.R_reads' HO1351.out).2.2 | (with_reducible refine Kd.C_alloc ?_ _) | (with_reducible refine Kd.C_drewN ?_ _) | (with_reducible refine Kd.C_drew ?_))); (case side4 => exact (Kd.R_reads' HO1351.out).2.1); rintro e w' ⟨rfl, ⟨nd, rfl⟩⟩; obtain ⟨hcz29_0, hcz29_1, hfz29_0, hfz29_1⟩ := blk2 BK1344))
         go_meet
         case rel => exact ⟨_, (((t1341.length : Int) != t1337)), eqS, H', ⟨by have := HJ7.out; first | omega | exact Nat.le_refl _⟩, ⟨Kd.R_g (Kd.R_mono HO_6.out (fun _ hk => hk.1))⟩, ⟨Kd.R_g (Kd.R_mono HO_1345001.out (fun _ hk => hk.1))⟩, ⟨blk_g BK1344.out⟩, ⟨bel_g HB.out⟩⟩
       ·replace c24 := Bool.eq_false_iff.mpr c24
        subst c24
        replace H := ifF H
        have H' := Aside0.mk H
        clear H
        go_wp2
        go_meet
        case rel => exact ⟨_, (true), eqS, H', ⟨by have := HJ7.out; first | omega | exact Nat.le_refl _⟩, ⟨Kd.R_g (Kd.R_mono HO_6.out (fun _ hk => hk.1))⟩, ⟨Kd.R_g (Kd.R_mono HO_1345001.out (fun _ hk => hk.1))⟩, ⟨blk_g BK1344.out⟩, ⟨bel_g HB.out⟩⟩
      case rest =>
       clear HC21
       try clear c1
       try clear c4
       try clear c17
       try clear c17b0
       try clear c17b1
       try clear c17b2
       try clear c18
       try clear c19
       try clear c24
       try clear c26
       try clear hcz11_0
       try clear hcz11_1
       try clear hcz15_0
       try clear hcz15_1
       try clear hcz22_0
       try clear hcz22_1
       try clear hcz29_0
       try clear hcz29_1
       try clear hfz11_0
       try clear hfz11_1
       try clear hfz15_0
       try clear hfz15_1
       try clear hfz22_0
       try clear hfz22_1
       try clear hfz29_0
       try clear hfz29_1
       obtain ⟨kq, x65_20, rfl, HA, HJ20, HO_6, HO_1345001, BK1344, HB⟩ := hcut
       cases kq with
       | zero => exact absurd HA.out (by simp [laws_FnExtensionsAccepted.j1])
       | succ kj20 =>
        have H := HA.out
        clear HA
        simp only [laws_FnExtensionsAccepted.j1] at H
        by_cases c30 : x65_20 = true
        ·subst c30
         replace H := ifT H
         obtain rfl := Option.some.inj H
         go_wp2
         go_ret
         exact ⟨eqE, bel_g HB.out⟩
        ·replace c30 := Bool.eq_false_iff.mpr c30
         subst c30
         replace H := ifF H
         have H' := Aside0.mk H
         clear H
         go_wp2
         go_loopg [68] kj20 (fun kq v68 w' => ∃ (x68_3 : Int), v68 = .int .i64 x68_3 ∧ Aside0 (laws_FnExtensionsAccepted.l0 kq t1341 t1341 (t1341.length : Int) x68_3 t1337 t1338 = some r) ∧ Aside0 (kq ≤ kj20) ∧ Aside0 (Kd.R (Kd.int .i64) 3 w' w.heap.size (fun k_ => some k_ ≠ ((.slice Ao12 t1338.length co12) : Value).ownBlock) (.slice Ao13 t1341.length co13) t1341) ∧ Aside0 (Kd.R (Kd.int .i64) 3 w' w.heap.size (fun k_ => some k_ ≠ ((.slice Ao12 t1338.length co12) : Value).ownBlock) (.slice Ao13 t1341.length co13) t1341) ∧ Aside0 (Kd.R (Kd.int .i64) 3 w' w.heap.size (fun k_ => some k_ ≠ ((.slice Ao13 t1341.length co13) : Value).ownBlock ∧ some k_ ≠ ((.slice Ao13 t1341.length co13) : Value).ownBlock) (.slice Ao12 t1338.length co12) t1338) ∧ Aside0 (w'.heap[gb1344]? = some (.cells #[.int .i64 t1337, (.slice Ao12 t1338.length co12)] 28 (0, 0))) ∧ Aside0 (Below w.heap.size w w'))
         case atStart => exact ⟨(0), eqS, H', ⟨Nat.le_refl _⟩, ⟨Kd.R_g HO_6.out⟩, ⟨Kd.R_g HO_6.out⟩, ⟨Kd.R_g (Kd.R_mono HO_1345001.out (fun _ hk => ⟨hk, hk⟩))⟩, ⟨blk_g BK1344.out⟩, ⟨bel_g HB.out⟩⟩
         case round =>
          clear H'
          try clear c1
          try clear c4
          try clear c17
          try clear c17b0
          try clear c17b1
          try clear c17b2
          try clear c18
          try clear c19
          try clear c24
          try clear c26
          try clear c30
          try clear hcz11_0
          try clear hcz11_1
          try clear hcz15_0
          try clear hcz15_1
          try clear hcz22_0
          try clear hcz22_1
          try clear hcz29_0
          try clear hcz29_1
          try clear hfz11_0
          try clear hfz11_1
          try clear hfz15_0
          try clear hfz15_1
          try clear hfz22_0
          try clear hfz22_1
          try clear hfz29_0
          try clear hfz29_1
          obtain ⟨x68_3, rfl, HA, HK3, HO_6, HO_66, HO_1345001, BK1344, HB⟩ := hrel
          cases gk with
          | zero => exact absurd HA.out (by simp [laws_FnExtensionsAccepted.l0])
          | succ k3 =>
           have H := HA.out
           clear HA
           simp only [laws_FnExtensionsAccepted.l0] at H
           rcases iteE H with ⟨c31b0, H⟩ | ⟨c31b0, H⟩
           ·rcases iteP H with ⟨c32, H⟩ | ⟨c32, H⟩
            ·have c32b0 : decide (0 ≤ x68_3) = true := decide_eq_true c32
             clear c32
             rcases iteP H with ⟨c33, H⟩ | ⟨c33, H⟩
             ·have c33b0 : decide (x68_3 < (t1341.length : Int)) = true := decide_eq_true c33
              clear c33
              have c34b0 := eq_true (ofd : 0 ≤ x68_3)
              rcases iteP H with ⟨c35, H⟩ | ⟨c35, H⟩
              ·have c35b0 := eq_true c35
               have c35b1 : decide (x68_3 ≤ (t1341.length : Int)) = true := decide_eq_true c35
               clear c35
               obtain ⟨y1355, hy1355⟩ : ∃ y_ : List Int, y_ = (t1341.take (x68_3 : Int).toNat) := ⟨_, rfl⟩
               replace H : (laws_FnExtensionsAccepted.l1 k3 t1341 (rd t1341 x68_3) t1341 (t1341.length : Int) x68_3 y1355 (y1355.length : Int) 0 t1337 t1338) = some r := by first | (rw [hy1355]; with_reducible exact H) | (have H2_ := (Option.bind_some _ _).symm.trans H; rw [hy1355]; with_reducible exact H2_) | (have H2_ := (Option.bind_some _ _).symm.trans H; with_reducible exact H2_) | with_reducible exact H | (rw [hy1355]; exact H) | exact H
               have Ny1355 := Aside0.mk hy1355
               clear hy1355
               have H' := Aside0.mk H
               clear H
               have p1354 : 0 ≤ (x68_3 : Int) := ofd
               have q1354 : x68_3 < (t1341.length : Int) := ofd
               obtain ⟨ad1354, e1354, hx1354_0⟩ := Kd.at_int (Kd.R_reads' HO_66.out).2.2 x68_3 p1354 q1354
               cases e1354
               replace p1354 := eq_true p1354
               replace q1354 := eq_true q1354
               have q36 : (x68_3 : Int) ≤ ((t1341.length : Int) : Int) := ofd
               obtain ⟨i036, hi036, _, hsz36, _⟩ := info_parts info3
               have hroom36 : t1341.length ≤ co13 := (Kd.R_reads' HO_6.out).2.1
               have hC36 : Kd.C (Kd.int .i64) _ (some ad1354) t1341.length t1341 := (Kd.R_reads' HO_6.out).2.2
               have hcut36 := cut_to (P := Tryd.prog) 22 3 .i64 Tryd.underlying22 hi036 (some ad1354) t1341.length co13 x68_3 (ofd) q36 hroom36
               have hr36 := Kd.C_take (m := (x68_3 : Int).toNat) hC36 (by omega)
               have hy36 : y1355.length = (x68_3 : Int).toNat := (by rw [Ny1355.out, List.length_take]; omega)
               rw [← Ny1355.out] at hr36
               rw [← hy36] at hcut36
               have HR1358 := Aside0.mk hr36
               have HC1358 := Aside0.mk (show y1355.length ≤ co13 from by omega)
               clear hr36 hC36 hroom36 hi036 hsz36
               have KY36 := Aside0.mk hy36
               clear hy36
               have KL36 := Aside0.mk (show (x68_3 : Int).toNat ≤ t1341.length from by omega)
               replace q36 := eq_true q36
               go_wp2
               go_loopg [77] k3 (fun kq v77 w' => ∃ (x77_4 : Int), v77 = .int .i64 x77_4 ∧ Aside0 (laws_FnExtensionsAccepted.l1 kq t1341 (rd t1341 x68_3) t1341 (t1341.length : Int) x68_3 y1355 (y1355.length : Int) x77_4 t1337 t1338 = some r) ∧ Aside0 (kq ≤ k3) ∧ Aside0 (Kd.R (Kd.int .i64) 3 w' w.heap.size (fun k_ => some k_ ≠ ((.slice Ao12 t1338.length co12) : Value).ownBlock) (.slice (some ad1354) t1341.length co13) t1341) ∧ Aside0 (Kd.R (Kd.int .i64) 3 w' w.heap.size (fun k_ => some k_ ≠ ((.slice Ao12 t1338.length co12) : Value).ownBlock) (.slice (some ad1354) t1341.length co13) t1341) ∧ Aside0 (Kd.R (Kd.int .i64) 3 w' w.heap.size (fun k_ => some k_ ≠ ((.slice (some ad1354) t1341.length co13) : Value).ownBlock ∧ some k_ ≠ ((.slice (some ad1354) t1341.length co13) : Value).ownBlock) (.slice Ao12 t1338.length co12) t1338) ∧ Aside0 (w'.heap[gb1344]? = some (.cells #[.int .i64 t1337, (.slice Ao12 t1338.length co12)] 28 (0, 0))) ∧ Aside0 (Kd.C (Kd.int .i64) w' (some ad1354) y1355.length y1355) ∧ Aside0 (Below w.heap.size w w'))
               case atStart => exact ⟨(0), eqS, H', ⟨Nat.le_refl _⟩, ⟨Kd.R_g HO_6.out⟩, ⟨Kd.R_g HO_66.out⟩, ⟨Kd.R_g HO_1345001.out⟩, ⟨blk_g BK1344.out⟩, ⟨C_h HR1358⟩, ⟨bel_g HB.out⟩⟩
               case round =>
                clear H'
                try clear c1
                try clear c4
                try clear c17
                try clear c17b0
                try clear c17b1
                try clear c17b2
                try clear c18
                try clear c19
                try clear c24
                try clear c26
                try clear c30
                try clear c31b0
                try clear c32
                try clear c32b0
                try clear c33
                try clear c33b0
                try clear c34b0
                try clear c35
                try clear c35b0
                try clear c35b1
                try clear q36
                try clear hcz11_0
                try clear hcz11_1
                try clear hcz15_0
                try clear hcz15_1
                try clear hcz22_0
                try clear hcz22_1
                try clear hcz29_0
                try clear hcz29_1
                try clear hfz11_0
                try clear hfz11_1
                try clear hfz15_0
                try clear hfz15_1
                try clear hfz22_0
                try clear hfz22_1
                try clear hfz29_0
                try clear hfz29_1
                try clear hx1354_0
                try clear p1354
                try clear q1354
                try clear q36
                obtain ⟨x77_4, rfl, HA, HK4, HO_6, HO_66, HO_1345001, BK1344, HR1358, HB⟩ := hrel
                cases gk with
                | zero => exact absurd HA.out (by simp [laws_FnExtensionsAccepted.l1])
                | succ k4 =>
                 have H := HA.out
                 clear HA
                 simp only [laws_FnExtensionsAccepted.l1] at H
                 rcases iteE H with ⟨c37b0, H⟩ | ⟨c37b0, H⟩
                 ·rcases iteP H with ⟨c38, H⟩ | ⟨c38, H⟩
                  ·have c38b0 : decide (0 ≤ x77_4) = true := decide_eq_true c38
                   clear c38
                   rcases iteP H with ⟨c39, H⟩ | ⟨c39, H⟩
                   ·have c39b0 : decide (x77_4 < (y1355.length : Int)) = true := decide_eq_true c39
                    clear c39
                    rcases iteP H with ⟨c40, H⟩ | ⟨c40, H⟩
                    ·have c40b0 : ((rd t1341 x68_3) == (rd y1355 x77_4)) = true := beq_iff_eq.mpr c40
                     have c40b1 : ((rd t1341 x68_3) != (rd y1355 x77_4)) = false := bne_eq_false_iff_eq.mpr c40
                     clear c40
                     obtain rfl := Option.some.inj H
                     have p1359 : 0 ≤ (x77_4 : Int) := ofd
                     have q1359 : x77_4 < (y1355.length : Int) := ofd
                     obtain ⟨ad1359, e1359, hx1359_0⟩ := Kd.at_int HR1358.out x77_4 p1359 q1359
                     obtain rfl : ad1354 = ad1359 := (by injection e1359)
                     try replace hx1359_0 := (HB.out.cell (World.block_lt_of_cell? w _ hx1359_0)).trans hx1359_0
                     replace p1359 := eq_true p1359
                     replace q1359 := eq_true q1359
                     go_wp2
                     go_ret
                     exact ⟨eqE, bel_g HB.out⟩
                    ·have c40b0 : ((rd t1341 x68_3) == (rd y1355 x77_4)) = false := beq_eq_false_iff_ne.mpr c40
                     have c40b1 : ((rd t1341 x68_3) != (rd y1355 x77_4)) = true := bne_iff_ne.mpr c40
                     rcases iteP H with ⟨c41, H⟩ | ⟨c41, H⟩
                     ·have c41b0 : decide (0 ≤ (rd t1341 x68_3)) = true := decide_eq_true c41
                      clear c41
                      rcases iteP H with ⟨c42, H⟩ | ⟨c42, H⟩
                      ·have c42b0 : decide ((rd t1341 x68_3) < (t1338.length : Int)) = true := decide_eq_true c42
                       clear c42
                       obtain ⟨t1361, A43, H⟩ := obE H
                       by_cases c44 : t1361 = true
                       ·subst c44
                        replace H := ifT H
                        obtain rfl := Option.some.inj H
                        have p1359 : 0 ≤ (x77_4 : Int) := ofd
                        have q1359 : x77_4 < (y1355.length : Int) := ofd
                        obtain ⟨ad1359, e1359, hx1359_0⟩ := Kd.at_int HR1358.out x77_4 p1359 q1359
                        obtain rfl : ad1354 = ad1359 := (by injection e1359)
                        try replace hx1359_0 := (HB.out.cell (World.block_lt_of_cell? w _ hx1359_0)).trans hx1359_0
                        replace p1359 := eq_true p1359
                        replace q1359 := eq_true q1359
                        obtain ⟨hcz45_0, hcz45_1, hfz45_0, hfz45_1⟩ := blk2 BK1344
                        have p1360 : 0 ≤ ((rd t1341 x68_3) : Int) := ofd
                        have q1360 : (rd t1341 x68_3) < (t1338.length : Int) := ofd
                        obtain ⟨ad1360, e1360, hx1360_0⟩ := Kd.at_int (Kd.R_reads' HO_1345001.out).2.2 (rd t1341 x68_3) p1360 q1360
                        cases e1360
                        replace p1360 := eq_true p1360
                        replace q1360 := eq_true q1360
                        go_wp2_with (first | (go_at_call 48; (with_reducible refine (laws_pIn.calls (rd t1338 (rd t1341 x68_3)) (rd y1355 x77_4) true _ A43.out).mono ?_); rintro e w' ⟨rfl, ⟨nd, rfl⟩⟩))
                        go_ret
                        exact ⟨eqE, bel_g HB.out⟩
                       ·replace c44 := Bool.eq_false_iff.mpr c44
                        subst c44
                        replace H := ifF H
                        have H' := Aside0.mk H
                        clear H
                        have p1359 : 0 ≤ (x77_4 : Int) := ofd
                        have q1359 : x77_4 < (y1355.length : Int) := ofd
                        obtain ⟨ad1359, e1359, hx1359_0⟩ := Kd.at_int HR1358.out x77_4 p1359 q1359
                        obtain rfl : ad1354 = ad1359 := (by injection e1359)
                        try replace hx1359_0 := (HB.out.cell (World.block_lt_of_cell? w _ hx1359_0)).trans hx1359_0
                        replace p1359 := eq_true p1359
                        replace q1359 := eq_true q1359
                        obtain ⟨hcz46_0, hcz46_1, hfz46_0, hfz46_1⟩ := blk2 BK1344
                        have p1360 : 0 ≤ ((rd t1341 x68_3) : Int) := ofd
                        have q1360 : (rd t1341 x68_3) < (t1338.length : Int) := ofd
                        obtain ⟨ad1360, e1360, hx1360_0⟩ := Kd.at_int (Kd.R_reads' HO_1345001.out).2.2 (rd t1341 x68_3) p1360 q1360
                        cases e1360
                        replace p1360 := eq_true p1360
                        replace q1360 := eq_true q1360
                        go_wp2_with (first | (go_at_call 48; (with_reducible refine (laws_pIn.calls (rd t1338 (rd t1341 x68_3)) (rd y1355 x77_4) false _ A43.out).mono ?_); rintro e w' ⟨rfl, ⟨nd, rfl⟩⟩))
                        go_roundg k4
                        case measure => have := HJ7.out; have := HJ20.out; have := HK3.out; have := HK4.out; omega
                        case rel => exact ⟨(wrap64 (x77_4 + 1)), eqS, H', ⟨by have := HJ7.out; have := HJ20.out; have := HK3.out; have := HK4.out; omega⟩, ⟨Kd.R_g HO_6.out⟩, ⟨Kd.R_g HO_66.out⟩, ⟨Kd.R_g HO_1345001.out⟩, ⟨blk_g BK1344.out⟩, ⟨C_h HR1358⟩, ⟨bel_g HB.out⟩⟩
                      ·exact absurd H (by simp)
                     ·exact absurd H (by simp)
                   ·exact absurd H (by simp)
                  ·exact absurd H (by simp)
                 ·have H' := Aside0.mk H
                  clear H
                  go_wp2
                  go_roundg k4
                  case measure => have := HJ7.out; have := HJ20.out; have := HK3.out; have := HK4.out; omega
                  case rel => exact ⟨(wrap64 (x68_3 + 1)), eqS, H', ⟨by have := HJ7.out; have := HJ20.out; have := HK3.out; have := HK4.out; omega⟩, ⟨Kd.R_g HO_6.out⟩, ⟨Kd.R_g HO_66.out⟩, ⟨Kd.R_g HO_1345001.out⟩, ⟨blk_g BK1344.out⟩, ⟨bel_g HB.out⟩⟩
              ·exact absurd H (by simp)
             ·exact absurd H (by simp)
            ·exact absurd H (by simp)
           ·obtain rfl := Option.some.inj H
            go_wp2
            go_ret
            exact ⟨eqE, bel_g HB.out⟩
     ·replace c19 := Bool.eq_false_iff.mpr c19
      subst c19
      replace H := ifF H
      obtain rfl := Option.some.inj H
      go_wp2
      go_ret
      exact ⟨eqE, bel_g HB.out⟩

end Go.Proofs.YteechpappfagpaaDoor.Q
