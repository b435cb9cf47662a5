import Derived.Test.YteechpappfagpaaDoorBFnMirrors0
import Derived.Test.YteechpappfagpaaDoorBFnMirrors2
import Derived.Test.YteechpappfagpaaDoorBFnMirrors10
import Derived.Test.YteechpappfagpaaDoorBFnMirrors11
import Derived.Test.YteechpappfagpaaDoorBFnMirrors12
import Derived.Test.YteechpappfagpaaDoorBFnMirrors13
import Derived.Test.YteechpappfagpaaDoorBFnMirrors15
-- printed by this project's own program (wip/mp/mp.py) over the kit's print, for this seat; Lean checks it
namespace Go.Proofs.YteechpappfagpaaDoor.Q
open Go.RowKit Go.Proofs.YteechpappfagpaaDoorW.PrintWords Go.Proofs.YteechpappfagpaaDoorW.PrintLast Go.Proofs.YteechpappfagpaaDoorW.PrintMore
attribute [local go_sem] max2_int min2_int max_two min_two max_three min_three max_four min_four   -- for this text's walks alone
set_option linter.unusedVariables false
set_option maxHeartbeats 8000000
set_option maxRecDepth 100000
set_option linter.unusedSimpArgs false

/-! ### laws_FnMirrors: function 9 -/
mutual
def laws_FnMirrors.j0 : Nat → Bool → Bool → Int → List Int → Int → List Int → Option (Bool)
 | 0, _, _, _, _, _, _ => none
 | k + 1, x9, x45, x907000, x907001, x913000, x913001 => if x45 = true then (some false) else (if x9 = true then ((impl_MirrorOf.f k x913000 x913001).bind fun bt920 => (if bt920.2.2 = true then ((laws_pSameOrder.f k bt920.1 bt920.2.1 x907000 x907001).bind fun t926 => (if t926 = true then ((impl_IsOrder.f k x907000 x907001).bind fun t927 => ((impl_IsOrder.f k x913000 x913001).bind fun t928 => (laws_FnMirrors.j1 k (t927 != t928) x907000 x907001 x913000 x913001))) else (laws_FnMirrors.j1 k true x907000 x907001 x913000 x913001))) else (laws_FnMirrors.j1 k true x907000 x907001 x913000 x913001))) else (some true))
def laws_FnMirrors.j1 : Nat → Bool → Int → List Int → Int → List Int → Option (Bool)
 | 0, _, _, _, _, _ => none
 | k + 1, x67, x907000, x907001, x913000, x913001 => if x67 = true then (some false) else (laws_FnMirrors.l0 k (x907001.length : Int) 0 x907000 x907001 x913000 x913001)
def laws_FnMirrors.l0 : Nat → Int → Int → Int → List Int → Int → List Int → Option (Bool)
 | 0, _, _, _, _, _, _ => none
 | k + 1, x70, x71, x907000, x907001, x913000, x913001 => if x71 < x70 then ((impl_BelowOf.f k x907000 x907001 x71).bind fun bt929 => ((impl_IndifferentTo.f k x907000 x907001 x71).bind fun bt931 => ((impl_IndifferentTo.f k x913000 x913001 x71).bind fun bt933 => (if bt929.2 = true then (if bt931.2 = true then (if bt933.2 = true then (if 0 ≤ x71 then (if x71 < (x913001.length : Int) then (if bt929.1 = (rd x913001 x71) then (if bt931.1 = bt933.1 then ((laws_pIn.f bt931.1 x71).bind fun t936 => (laws_FnMirrors.j3 k x71 bt929.1 bt931.1 x70 x71 t936 x907000 x907001 x913000 x913001)) else (laws_FnMirrors.j3 k x71 bt929.1 bt931.1 x70 x71 true x907000 x907001 x913000 x913001)) else (laws_FnMirrors.j3 k x71 bt929.1 bt931.1 x70 x71 true x907000 x907001 x913000 x913001)) else (none)) else (none)) else (laws_FnMirrors.j3 k x71 bt929.1 bt931.1 x70 x71 true x907000 x907001 x913000 x913001)) else (laws_FnMirrors.j3 k x71 bt929.1 bt931.1 x70 x71 true x907000 x907001 x913000 x913001)) else (laws_FnMirrors.j3 k x71 bt929.1 bt931.1 x70 x71 true x907000 x907001 x913000 x913001))))) else (some true)
def laws_FnMirrors.j3 : Nat → Int → Int → Int → Int → Int → Bool → Int → List Int → Int → List Int → Option (Bool)
 | 0, _, _, _, _, _, _, _, _, _, _ => none
 | k + 1, x12, x13, x15, x70, x71, x120, x907000, x907001, x913000, x913001 => if x120 = true then (some false) else (laws_FnMirrors.l1 k x12 x13 x15 x70 x71 (x907001.length : Int) 0 x907000 x907001 x913000 x913001)
def laws_FnMirrors.l1 : Nat → Int → Int → Int → Int → Int → Int → Int → Int → List Int → Int → List Int → Option (Bool)
 | 0, _, _, _, _, _, _, _, _, _, _, _ => none
 | k + 1, x12, x13, x15, x70, x71, x123, x124, x907000, x907001, x913000, x913001 => if x124 < x123 then ((impl_IsBetter.f k x907000 x907001 x12 x124).bind fun bt937 => (if bt937.2 = true then (if 0 ≤ x12 then (if x12 < (x907001.length : Int) then ((laws_pIn.f (rd x907001 x12) x124).bind fun t940 => (if (bt937.1 != t940) = true then (some false) else (if x12 = x124 then (laws_FnMirrors.l1 k x12 x13 x15 x70 x71 x123 (wrap64 (x124 + 1)) x907000 x907001 x913000 x913001) else ((laws_pIn.f x15 x124).bind fun t941 => (if bt937.1 = true then (if (t941 == true) = true then (some false) else (laws_FnMirrors.l1 k x12 x13 x15 x70 x71 x123 (wrap64 (x124 + 1)) x907000 x907001 x913000 x913001)) else ((laws_pIn.f x13 x124).bind fun t942 => (if (t941 == t942) = true then (some false) else (laws_FnMirrors.l1 k x12 x13 x15 x70 x71 x123 (wrap64 (x124 + 1)) x907000 x907001 x913000 x913001)))))))) else (none)) else (none)) else (some false))) else (laws_FnMirrors.l0 k x70 (wrap64 (x71 + 1)) x907000 x907001 x913000 x913001)
end
def laws_FnMirrors.f (k : Nat) (l0 : List Int) (l1 : List Int) : Option (Bool) := (laws_big.f l0 l1).bind fun t901 => (if t901 = true then (some true) else ((spec_DrawMirrorOf.f k l0).bind fun bt902 => ((impl_MirrorOf.f k bt902.1 bt902.2).bind fun bt907 => ((spec_MirrorOf.f k bt902.1 bt902.2).bind fun bt913 => (if (bt907.2.2 != bt913.2.2) = true then (laws_FnMirrors.j0 k bt913.2.2 true bt902.1 bt902.2 bt907.1 bt907.2.1) else ((laws_pSameOrder.f k bt907.1 bt907.2.1 bt913.1 bt913.2.1).bind fun t919 => (laws_FnMirrors.j0 k bt913.2.2 (!t919) bt902.1 bt902.2 bt907.1 bt907.2.1)))))))
theorem laws_FnMirrors.mono_l : ∀ k, (∀ y0 y1 y2 y3 y4 y5, LeO (laws_FnMirrors.j0 k y0 y1 y2 y3 y4 y5) (laws_FnMirrors.j0 (k + 1) y0 y1 y2 y3 y4 y5)) ∧ (∀ y0 y1 y2 y3 y4, LeO (laws_FnMirrors.j1 k y0 y1 y2 y3 y4) (laws_FnMirrors.j1 (k + 1) y0 y1 y2 y3 y4)) ∧ (∀ y0 y1 y2 y3 y4 y5, LeO (laws_FnMirrors.l0 k y0 y1 y2 y3 y4 y5) (laws_FnMirrors.l0 (k + 1) y0 y1 y2 y3 y4 y5)) ∧ (∀ y0 y1 y2 y3 y4 y5 y6 y7 y8 y9, LeO (laws_FnMirrors.j3 k y0 y1 y2 y3 y4 y5 y6 y7 y8 y9) (laws_FnMirrors.j3 (k + 1) y0 y1 y2 y3 y4 y5 y6 y7 y8 y9)) ∧ (∀ y0 y1 y2 y3 y4 y5 y6 y7 y8 y9 y10, LeO (laws_FnMirrors.l1 k y0 y1 y2 y3 y4 y5 y6 y7 y8 y9 y10) (laws_FnMirrors.l1 (k + 1) y0 y1 y2 y3 y4 y5 y6 y7 y8 y9 y10))
 | 0 => ⟨fun _ _ _ _ _ _ r h => by simp [laws_FnMirrors.j0] at h, fun _ _ _ _ _ r h => by simp [laws_FnMirrors.j1] at h, fun _ _ _ _ _ _ r h => by simp [laws_FnMirrors.l0] at h, fun _ _ _ _ _ _ _ _ _ _ r h => by simp [laws_FnMirrors.j3] at h, fun _ _ _ _ _ _ _ _ _ _ _ r h => by simp [laws_FnMirrors.l1] at h⟩
 | k + 1 => by
  obtain ⟨ih0, ih1, ih2, ih3, ih4⟩ := laws_FnMirrors.mono_l k
  refine ⟨?_, ?_, ?_, ?_, ?_⟩
  ·intro y0 y1 y2 y3 y4 y5
   unfold laws_FnMirrors.j0
   repeat' (with_reducible first|exact ih0 _ _ _ _ _ _|exact ih1 _ _ _ _ _|exact ih2 _ _ _ _ _ _|exact ih3 _ _ _ _ _ _ _ _ _ _|exact ih4 _ _ _ _ _ _ _ _ _ _ _|exact impl_BelowOf.mono _ _ _ _|exact impl_IndifferentTo.mono _ _ _ _|exact impl_IsBetter.mono _ _ _ _ _|exact impl_IsOrder.mono _ _ _|exact impl_MirrorOf.mono _ _ _|exact laws_pSameOrder.mono _ _ _ _ _|exact spec_DrawMirrorOf.mono _ _|exact spec_MirrorOf.mono _ _ _|exact LeO.refl _|exact LeO.none _|refine LeO.ite ?_ ?_|refine LeO.bind ?_ (fun _ => ?_))
  ·intro y0 y1 y2 y3 y4
   unfold laws_FnMirrors.j1
   repeat' (with_reducible first|exact ih0 _ _ _ _ _ _|exact ih1 _ _ _ _ _|exact ih2 _ _ _ _ _ _|exact ih3 _ _ _ _ _ _ _ _ _ _|exact ih4 _ _ _ _ _ _ _ _ _ _ _|exact impl_BelowOf.mono _ _ _ _|exact impl_IndifferentTo.mono _ _ _ _|exact impl_IsBetter.mono _ _ _ _ _|exact impl_IsOrder.mono _ _ _|exact impl_MirrorOf.mono _ _ _|exact laws_pSameOrder.mono _ _ _ _ _|exact spec_DrawMirrorOf.mono _ _|exact spec_MirrorOf.mono _ _ _|exact LeO.refl _|exact LeO.none _|refine LeO.ite ?_ ?_|refine LeO.bind ?_ (fun _ => ?_))
  ·intro y0 y1 y2 y3 y4 y5
   unfold laws_FnMirrors.l0
   repeat' (with_reducible first|exact ih0 _ _ _ _ _ _|exact ih1 _ _ _ _ _|exact ih2 _ _ _ _ _ _|exact ih3 _ _ _ _ _ _ _ _ _ _|exact ih4 _ _ _ _ _ _ _ _ _ _ _|exact impl_BelowOf.mono _ _ _ _|exact impl_IndifferentTo.mono _ _ _ _|exact impl_IsBetter.mono _ _ _ _ _|exact impl_IsOrder.mono _ _ _|exact impl_MirrorOf.mono _ _ _|exact laws_pSameOrder.mono _ _ _ _ _|exact spec_DrawMirrorOf.mono _ _|exact spec_MirrorOf.mono _ _ _|exact LeO.refl _|exact LeO.none _|refine LeO.ite ?_ ?_|refine LeO.bind ?_ (fun _ => ?_))
  ·intro y0 y1 y2 y3 y4 y5 y6 y7 y8 y9
   unfold laws_FnMirrors.j3
   repeat' (with_reducible first|exact ih0 _ _ _ _ _ _|exact ih1 _ _ _ _ _|exact ih2 _ _ _ _ _ _|exact ih3 _ _ _ _ _ _ _ _ _ _|exact ih4 _ _ _ _ _ _ _ _ _ _ _|exact impl_BelowOf.mono _ _ _ _|exact impl_IndifferentTo.mono _ _ _ _|exact impl_IsBetter.mono _ _ _ _ _|exact impl_IsOrder.mono _ _ _|exact impl_MirrorOf.mono _ _ _|exact laws_pSameOrder.mono _ _ _ _ _|exact spec_DrawMirrorOf.mono _ _|exact spec_MirrorOf.mono _ _ _|exact LeO.refl _|exact LeO.none _|refine LeO.ite ?_ ?_|refine LeO.bind ?_ (fun _ => ?_))
  ·intro y0 y1 y2 y3 y4 y5 y6 y7 y8 y9 y10
   unfold laws_FnMirrors.l1
   repeat' (with_reducible first|exact ih0 _ _ _ _ _ _|exact ih1 _ _ _ _ _|exact ih2 _ _ _ _ _ _|exact ih3 _ _ _ _ _ _ _ _ _ _|exact ih4 _ _ _ _ _ _ _ _ _ _ _|exact impl_BelowOf.mono _ _ _ _|exact impl_IndifferentTo.mono _ _ _ _|exact impl_IsBetter.mono _ _ _ _ _|exact impl_IsOrder.mono _ _ _|exact impl_MirrorOf.mono _ _ _|exact laws_pSameOrder.mono _ _ _ _ _|exact spec_DrawMirrorOf.mono _ _|exact spec_MirrorOf.mono _ _ _|exact LeO.refl _|exact LeO.none _|refine LeO.ite ?_ ?_|refine LeO.bind ?_ (fun _ => ?_))
theorem laws_FnMirrors.mono : ∀ a0 a1 k, LeO (laws_FnMirrors.f k a0 a1) (laws_FnMirrors.f (k + 1) a0 a1) := by
 intro a0 a1 k
 obtain ⟨ih0, ih1, ih2, ih3, ih4⟩ := laws_FnMirrors.mono_l k
 unfold laws_FnMirrors.f
 repeat' (with_reducible first|exact ih0 _ _ _ _ _ _|exact ih1 _ _ _ _ _|exact ih2 _ _ _ _ _ _|exact ih3 _ _ _ _ _ _ _ _ _ _|exact ih4 _ _ _ _ _ _ _ _ _ _ _|exact impl_BelowOf.mono _ _ _ _|exact impl_IndifferentTo.mono _ _ _ _|exact impl_IsBetter.mono _ _ _ _ _|exact impl_IsOrder.mono _ _ _|exact impl_MirrorOf.mono _ _ _|exact laws_pSameOrder.mono _ _ _ _ _|exact spec_DrawMirrorOf.mono _ _|exact spec_MirrorOf.mono _ _ _|exact LeO.refl _|exact LeO.none _|refine LeO.ite ?_ ?_|refine LeO.bind ?_ (fun _ => ?_))
def laws_FnMirrors.T11 : Bool × List (List Nat × List Nat) := (true, [([], []), ([0], [0]), ([1], [1]), ([2], [2]), ([2], [2]), ([3, 4, 2, 2], [2, 3, 4]), ([5, 2], [2, 5]), ([2, 6], [2, 6]), ([7, 5], [7]), ([8], [8]), ([9, 8, 8], [8, 9]), ([8], [8]), ([11, 10, 8], [8, 11]), ([10, 12, 8], [8, 10, 12]), ([8, 13], [8, 13])])
def laws_FnMirrors.B11 : List Nat := [0, 1, 3, 7, 7, 31, 63, 127, 255, 511, 1023, 511, 4095, 8191, 16383]
theorem laws_FnMirrors.tab11 : rtab .any (opsOf Tryd.f9 11) = laws_FnMirrors.T11 := by kernel_rfl
theorem laws_FnMirrors.bits11 : waitsOk laws_FnMirrors.T11.2 laws_FnMirrors.B11 = true := by kernel_rfl
theorem laws_FnMirrors.calls (k : Nat) (A0 : Option Addr) (c0 : Nat) (l0 : List Int) (A1 : Option Addr) (c1 : Nat) (l1 : List Int) (r : Bool) (w : World) (hr0 : Kd.C (Kd.int .u8) w A0 l0.length l0) (hc0 : l0.length ≤ c0) (hr1 : Kd.C (Kd.int .u8) w A1 l1.length l1) (hc1 : l1.length ≤ c1) (hTAB : Tab w) (h : laws_FnMirrors.f k l0 l1 = some r) :
  Calls Tryd.prog 9 #[.slice A0 l0.length c0, .slice A1 l1.length c1] w fun e w' => e = .returned (.bool r) ∧ Below w.heap.size w w' := by
 have HTAB := Aside0.mk hTAB
 clear hTAB
 have hu28 := Tryd.underlying28
 have HR0 := Aside0.mk hr0
 have HC0 := Aside0.mk hc0
 clear hr0 hc0
 have HR1 := Aside0.mk hr1
 have HC1 := Aside0.mk hc1
 clear hr1 hc1
 have HB := Aside0.mk (Below.refl w.heap.size w)
 have H : ((laws_big.f l0 l1).bind fun t901 => (if t901 = true then (some true) else ((spec_DrawMirrorOf.f k l0).bind fun bt902 => ((impl_MirrorOf.f k bt902.1 bt902.2).bind fun bt907 => ((spec_MirrorOf.f k bt902.1 bt902.2).bind fun bt913 => (if (bt907.2.2 != bt913.2.2) = true then (laws_FnMirrors.j0 k bt913.2.2 true bt902.1 bt902.2 bt907.1 bt907.2.1) else ((laws_pSameOrder.f k bt907.1 bt907.2.1 bt913.1 bt913.2.1).bind fun t919 => (laws_FnMirrors.j0 k bt913.2.2 (!t919) bt902.1 bt902.2 bt907.1 bt907.2.1)))))))) = some r := h
 clear h
 obtain ⟨t901, A3, H⟩ := obE H
 by_cases c4 : t901 = true
 ·subst c4
  replace H := ifT H
  obtain rfl := Option.some.inj H
  go_enter Tryd.func9, Tryd.ntmps9
  go_wp2_with (first | ((with_reducible refine gate_callee (f := 33) rfl ?_); refine goesQ (some 24) Tryd.func33 #[.slice A0 l0.length c0, .slice A1 l1.length c1] ?_; (with_reducible refine (laws_big.calls _ _ l0 _ _ l1 true _ ?side1 ?side2 ?side3 ?side4 A3.out).mono ?_); (case side1 => repeat (first | exact HR0.out | (with_reducible refine Kd.C_alloc ?_ _) | (with_reducible refine Kd.C_drewN ?_ _) | (with_reducible refine Kd.C_drew ?_))); (case side2 => exact HC0.out); (case side3 => repeat (first | exact HR1.out | (with_reducible refine Kd.C_alloc ?_ _) | (with_reducible refine Kd.C_drewN ?_ _) | (with_reducible refine Kd.C_drew ?_))); (case side4 => exact HC1.out); rintro e w' ⟨rfl, ⟨nd, rfl⟩⟩; refine ⟨_, rfl, ?_⟩))
  go_ret
  exact ⟨eqE, bel_g HB.out⟩
 ·replace c4 := Bool.eq_false_iff.mpr c4
  subst c4
  replace H := ifF H
  obtain ⟨⟨t902, t903⟩, A5, H⟩ := obE H
  dsimp only at H
  obtain ⟨⟨t907, t908, t911⟩, A6, H⟩ := obE H
  dsimp only at H
  obtain ⟨⟨t913, t914, t917⟩, A7, H⟩ := obE H
  dsimp only at H
  have HC8 := Aside0.mk H
  clear H
  go_enter Tryd.func9, Tryd.ntmps9
  go_upto_region 6 with (first | ((with_reducible refine gate_callee (f := 33) rfl ?_); refine goesQ (some 24) Tryd.func33 #[.slice A0 l0.length c0, .slice A1 l1.length c1] ?_; (with_reducible refine (laws_big.calls _ _ l0 _ _ l1 false _ ?side1 ?side2 ?side3 ?side4 A3.out).mono ?_); (case side1 => repeat (first | exact HR0.out | (with_reducible refine Kd.C_alloc ?_ _) | (with_reducible refine Kd.C_drewN ?_ _) | (with_reducible refine Kd.C_drew ?_))); (case side2 => exact HC0.out); (case side3 => repeat (first | exact HR1.out | (with_reducible refine Kd.C_alloc ?_ _) | (with_reducible refine Kd.C_drewN ?_ _) | (with_reducible refine Kd.C_drew ?_))); (case side4 => exact HC1.out); rintro e w' ⟨rfl, ⟨nd, rfl⟩⟩; refine ⟨_, rfl, ?_⟩) | ((with_reducible refine gate_callee (f := 41) rfl ?_); refine goesQ (some 26) Tryd.func41 #[.slice A0 l0.length c0] ?_; (with_reducible refine (spec_DrawMirrorOf.calls k _ _ l0 t902 t903 _ ?side1 ?side2 A5.out).mono ?_); (case side1 => repeat (first | exact HR0.out | (with_reducible refine Kd.C_alloc ?_ _) | (with_reducible refine Kd.C_drewN ?_ _) | (with_reducible refine Kd.C_drew ?_))); (case side2 => exact HC0.out); rintro e w9 ⟨v904, rfl, ho0, hb⟩; refine ⟨_, rfl, ?_⟩; have HO905 := Aside0.mk (Kd.R_lower ho0 (below_size (bel_g HB.out))); replace HB := bst HB hb; (try clear hb); (try clear hk); (try clear ho0)) | ((with_reducible refine gate_dst (N := 5) rfl ?_); refine boxE (N := 5) (cs := #[.int .i64 0, .slice none 0 0]) (t := 28) ?_; intro gb906 hg w10 hbox hb; replace HO905 := Aside0.mk (Kd.R_below (Kd.R_g HO905.out) hb); have BK906 := Aside0.mk (hbox); have GE906 := geB HB hg; replace HB := bst HB hb; clear hb hbox hg; obtain ⟨hcz11_0, hcz11_1, hfz11_0, hfz11_1⟩ := blk2 BK906; obtain ⟨Ao12, co12, eo12⟩ := Kd.R_slice HO905.out; subst eo12) | ((with_reducible refine gate_callee (f := 42) rfl ?_); refine goesQ (some 29) Tryd.func42 #[.agg #[.int .i64 t902, .slice Ao12 t903.length co12]] ?_; (with_reducible refine (impl_MirrorOf.calls k t902 _ _ t903 t907 t908 t911 _ ?side1 ?side2 A6.out).mono ?_); (case side1 => refine (Kd.R_reads' (e := 3) (base := w.heap.size) (ok := fun k_ => True) (n := t903.length) (c := co12) ?_).2.2; exact (Kd.R_g ((Kd.R_mono (Kd.R_far (p := ⟨gb906, 1, none⟩) (Kd.R_far (p := ⟨gb906, 0, none⟩) (Kd.R_types HO905.out BK906.out (by decide)) (fun _ hk => hk.2) (.int .i64 t902)) (fun _ hk => hk.2) (.slice Ao12 t903.length co12)) (fun _ h_ => h_.1))))); (case side2 => exact (Kd.R_reads' HO905.out).2.1); rintro e w13 ⟨v909, rfl, ho0, hb⟩; refine ⟨_, rfl, ?_⟩; have HO910 := Aside0.mk (Kd.R_lower (Kd.R_new' ho0 (Kd.R_lt (Kd.R_g ((Kd.R_mono (Kd.R_far (p := ⟨gb906, 1, none⟩) (Kd.R_far (p := ⟨gb906, 0, none⟩) (Kd.R_types HO905.out BK906.out (by decide)) (fun _ hk => hk.2) (.int .i64 t902)) (fun _ hk => hk.2) (.slice Ao12 t903.length co12)) (fun _ h_ => h_.1)))))) (below_size (bel_g HB.out))); replace HO905 := Aside0.mk (Kd.R_elder' (Kd.R_g ((Kd.R_mono (Kd.R_far (p := ⟨gb906, 1, none⟩) (Kd.R_far (p := ⟨gb906, 0, none⟩) (Kd.R_types HO905.out BK906.out (by decide)) (fun _ hk => hk.2) (.int .i64 t902)) (fun _ hk => hk.2) (.slice Ao12 t903.length co12)) (fun _ h_ => h_.1)))) (Kd.R_base ho0) hb); replace BK906 := Aside0.mk (blk_below (g := gb906) (o := .cells #[.int .i64 t902, .slice Ao12 t903.length co12] 28 (0, 0)) (by (with_reducible repeat (first | refine blk_drewN ?_ _ | refine blk_drew ?_ | refine blk_alloc ?_ _)); refine blk_put (cs := #[.int .i64 t902, .slice none 0 0]) ?_ 1 _ rfl; (with_reducible repeat (first | refine blk_drewN ?_ _ | refine blk_drew ?_ | refine blk_alloc ?_ _)); refine blk_put (cs := #[.int .i64 0, .slice none 0 0]) ?_ 0 _ rfl; (with_reducible repeat (first | refine blk_drewN ?_ _ | refine blk_drew ?_ | refine blk_alloc ?_ _)); exact BK906.out) hb); replace HB := bst HB hb; (try clear hb); (try clear hk); (try clear ho0)) | ((with_reducible refine gate_dst (N := 6) rfl ?_); refine boxE (N := 6) (cs := #[.int .i64 0, .slice none 0 0]) (t := 28) ?_; intro gb912 hg w14 hbox hb; replace HO905 := Aside0.mk (Kd.R_below (Kd.R_g HO905.out) hb); replace HO910 := Aside0.mk (Kd.R_below (Kd.R_g HO910.out) hb); have BK912 := Aside0.mk (hbox); have GE912 := geB HB hg; have NB906_912 := neL BK906 hg; have NB912_906 := neR BK906 hg; replace BK906 := blkB BK906 hb; replace HB := bst HB hb; clear hb hbox hg; have hnb15 := NB912_906.out; have hnc15 := NB906_912.out; obtain ⟨hcz16_0, hcz16_1, hfz16_0, hfz16_1⟩ := blk2 BK912; obtain ⟨Ao17, co17, eo17⟩ := Kd.R_slice HO910.out; subst eo17; obtain ⟨hcz18_0, hcz18_1, hfz18_0, hfz18_1⟩ := blk2 BK906) | ((with_reducible refine gate_callee (f := 43) rfl ?_); refine goesQ (some 34) Tryd.func43 #[.agg #[.int .i64 t902, .slice Ao12 t903.length co12]] ?_; (with_reducible refine (spec_MirrorOf.calls k t902 _ _ t903 t913 t914 t917 _ ?side1 ?side2 A7.out).mono ?_); (case side1 => refine (Kd.R_reads' (e := 3) (base := w.heap.size) (ok := fun k_ => (True ∧ some k_ ≠ (.slice Ao17 t908.length co17 : Value).ownBlock)) (n := t903.length) (c := co12) ?_).2.2; exact (Kd.R_g ((Kd.R_mono (Kd.R_far (p := ⟨gb912, 1, none⟩) (Kd.R_far (p := ⟨gb912, 0, none⟩) (Kd.R_types HO905.out BK912.out (by decide)) (fun _ hk => hk.2) (.int .i64 t907)) (fun _ hk => hk.2) (.slice Ao17 t908.length co17)) (fun _ h_ => h_.1))))); (case side2 => exact (Kd.R_reads' HO905.out).2.1); rintro e w19 ⟨v915, rfl, ho0, hb⟩; refine ⟨_, rfl, ?_⟩; have HO916 := Aside0.mk (Kd.R_lower (Kd.R_new' (Kd.R_new' ho0 (Kd.R_lt (Kd.R_g ((Kd.R_mono (Kd.R_far (p := ⟨gb912, 1, none⟩) (Kd.R_far (p := ⟨gb912, 0, none⟩) (Kd.R_types HO905.out BK912.out (by decide)) (fun _ hk => hk.2) (.int .i64 t907)) (fun _ hk => hk.2) (.slice Ao17 t908.length co17)) (fun _ h_ => h_.1)))))) (Kd.R_lt (Kd.R_g ((Kd.R_mono (Kd.R_far (p := ⟨gb912, 1, none⟩) (Kd.R_far (p := ⟨gb912, 0, none⟩) (Kd.R_types HO910.out BK912.out (by decide)) (fun _ hk => hk.2) (.int .i64 t907)) (fun _ hk => hk.2) (.slice Ao17 t908.length co17)) (fun _ h_ => h_.1)))))) (below_size (bel_g HB.out))); replace HO905 := Aside0.mk (Kd.R_elder' (Kd.R_g ((Kd.R_mono (Kd.R_far (p := ⟨gb912, 1, none⟩) (Kd.R_far (p := ⟨gb912, 0, none⟩) (Kd.R_types HO905.out BK912.out (by decide)) (fun _ hk => hk.2) (.int .i64 t907)) (fun _ hk => hk.2) (.slice Ao17 t908.length co17)) (fun _ h_ => h_.1)))) (Kd.R_base ho0) hb); replace HO910 := Aside0.mk (Kd.R_elder' (Kd.R_g ((Kd.R_mono (Kd.R_far (p := ⟨gb912, 1, none⟩) (Kd.R_far (p := ⟨gb912, 0, none⟩) (Kd.R_types HO910.out BK912.out (by decide)) (fun _ hk => hk.2) (.int .i64 t907)) (fun _ hk => hk.2) (.slice Ao17 t908.length co17)) (fun _ h_ => h_.1)))) (Kd.R_base ho0) hb); replace BK906 := Aside0.mk (blk_below (g := gb906) (o := .cells #[.int .i64 t902, .slice Ao12 t903.length co12] 28 (0, 0)) (by (with_reducible repeat (first | refine blk_drewN ?_ _ | refine blk_drew ?_ | refine blk_alloc ?_ _)); refine blk_far ?_ NB906_912.out _; (with_reducible repeat (first | refine blk_drewN ?_ _ | refine blk_drew ?_ | refine blk_alloc ?_ _)); refine blk_far ?_ NB906_912.out _; (with_reducible repeat (first | refine blk_drewN ?_ _ | refine blk_drew ?_ | refine blk_alloc ?_ _)); exact BK906.out) hb); replace BK912 := Aside0.mk (blk_below (g := gb912) (o := .cells #[.int .i64 t907, .slice Ao17 t908.length co17] 28 (0, 0)) (by (with_reducible repeat (first | refine blk_drewN ?_ _ | refine blk_drew ?_ | refine blk_alloc ?_ _)); refine blk_put (cs := #[.int .i64 t907, .slice none 0 0]) ?_ 1 _ rfl; (with_reducible repeat (first | refine blk_drewN ?_ _ | refine blk_drew ?_ | refine blk_alloc ?_ _)); refine blk_put (cs := #[.int .i64 0, .slice none 0 0]) ?_ 0 _ rfl; (with_reducible repeat (first | refine blk_drewN ?_ _ | refine blk_drew ?_ | refine blk_alloc ?_ _)); exact BK912.out) hb); replace HB := bst HB hb; (try clear hb); (try clear hk); (try clear ho0)) | ((with_reducible refine gate_dst (N := 8) rfl ?_); refine boxE (N := 8) (cs := #[.int .i64 0, .slice none 0 0]) (t := 28) ?_; intro gb918 hg w20 hbox hb; replace HO905 := Aside0.mk (Kd.R_below (Kd.R_g HO905.out) hb); replace HO910 := Aside0.mk (Kd.R_below (Kd.R_g HO910.out) hb); replace HO916 := Aside0.mk (Kd.R_below (Kd.R_g HO916.out) hb); have BK918 := Aside0.mk (hbox); have GE918 := geB HB hg; have NB906_918 := neL BK906 hg; have NB918_906 := neR BK906 hg; replace BK906 := blkB BK906 hb; have NB912_918 := neL BK912 hg; have NB918_912 := neR BK912 hg; replace BK912 := blkB BK912 hb; replace HB := bst HB hb; clear hb hbox hg; have hnb21 := NB918_906.out; have hnc21 := NB906_918.out; have hnb22 := NB918_912.out; have hnc22 := NB912_918.out; obtain ⟨hcz23_0, hcz23_1, hfz23_0, hfz23_1⟩ := blk2 BK918; obtain ⟨Ao24, co24, eo24⟩ := Kd.R_slice HO916.out; subst eo24))
  (try simp only [Act.put, List.setIfInBounds_toArray, List.set_cons_zero, List.set_cons_succ])
  go_cut [45] (fun v45 wc => ∃ (kq : Nat) (x45_7 : Bool), v45 = .bool x45_7 ∧ Aside0 (laws_FnMirrors.j0 kq t917 x45_7 t902 t903 t907 t908 = some r) ∧ Aside0 (kq ≤ k) ∧ Aside0 (Kd.R (Kd.int .i64) 3 wc w.heap.size (fun k_ => some k_ ≠ ((.slice Ao17 t908.length co17) : Value).ownBlock ∧ some k_ ≠ ((.slice Ao24 t914.length co24) : Value).ownBlock) (.slice Ao12 t903.length co12) t903) ∧ Aside0 (Kd.R (Kd.int .i64) 3 wc w.heap.size (fun k_ => some k_ ≠ ((.slice Ao12 t903.length co12) : Value).ownBlock ∧ some k_ ≠ ((.slice Ao24 t914.length co24) : Value).ownBlock) (.slice Ao17 t908.length co17) t908) ∧ Aside0 (Kd.R (Kd.int .i64) 3 wc w.heap.size (fun k_ => some k_ ≠ ((.slice Ao12 t903.length co12) : Value).ownBlock ∧ some k_ ≠ ((.slice Ao17 t908.length co17) : Value).ownBlock) (.slice Ao24 t914.length co24) t914) ∧ Aside0 (wc.heap[gb906]? = some (.cells #[.int .i64 t902, (.slice Ao12 t903.length co12)] 28 (0, 0))) ∧ Aside0 (wc.heap[gb912]? = some (.cells #[.int .i64 t907, (.slice Ao17 t908.length co17)] 28 (0, 0))) ∧ Aside0 (wc.heap[gb918]? = some (.cells #[.int .i64 t913, (.slice Ao24 t914.length co24)] 28 (0, 0))) ∧ Aside0 (Below w.heap.size w wc))
  case first =>
   have H := HC8.out
   clear HC8
   rcases iteP H with ⟨c25, H⟩ | ⟨c25, H⟩
   ·have c25b0 : (t911 != t917) = true := c25
    (try (have c25b1 : decide (t911 = t917) = false := by simpa using c25))
    (try (have c25b2 : (t911 == t917) = false := by simpa using c25))
    (try (have c25b3 : ¬ (t911 = t917) := by simpa using c25))
    clear c25
    (first | rw [c25b0] | (simp only [i64_w, i32_w]; rw [c25b0]) | skip)
    have H' := Aside0.mk H
    clear H
    go_wp2
    go_meet
    case rel => exact ⟨_, (true), eqS, H', ⟨by first | omega | exact Nat.le_refl _⟩, ⟨Kd.R_g (Kd.R_mono (Kd.R_far (p := ⟨gb918, 1, none⟩) (Kd.R_far (p := ⟨gb918, 0, none⟩) (Kd.R_types HO905.out BK918.out (by decide)) (fun _ hk => hk.2) (.int .i64 t913)) (fun _ hk => hk.2) (.slice Ao24 t914.length co24)) (fun _ hk => ⟨hk.1.1.2, hk.1.2⟩))⟩, ⟨Kd.R_g (Kd.R_mono (Kd.R_far (p := ⟨gb918, 1, none⟩) (Kd.R_far (p := ⟨gb918, 0, none⟩) (Kd.R_types HO910.out BK918.out (by decide)) (fun _ hk => hk.2) (.int .i64 t913)) (fun _ hk => hk.2) (.slice Ao24 t914.length co24)) (fun _ hk => ⟨hk.1.1.2, hk.1.2⟩))⟩, ⟨Kd.R_g (Kd.R_mono (Kd.R_far (p := ⟨gb918, 1, none⟩) (Kd.R_far (p := ⟨gb918, 0, none⟩) (Kd.R_types HO916.out BK918.out (by decide)) (fun _ hk => hk.2) (.int .i64 t913)) (fun _ hk => hk.2) (.slice Ao24 t914.length co24)) (fun _ hk => ⟨hk.1.1.2, hk.1.2⟩))⟩, ⟨by (with_reducible repeat (first | refine blk_drewN ?_ _ | refine blk_drew ?_ | refine blk_alloc ?_ _)); refine blk_far ?_ NB906_918.out _; (with_reducible repeat (first | refine blk_drewN ?_ _ | refine blk_drew ?_ | refine blk_alloc ?_ _)); refine blk_far ?_ NB906_918.out _; (with_reducible repeat (first | refine blk_drewN ?_ _ | refine blk_drew ?_ | refine blk_alloc ?_ _)); exact BK906.out⟩, ⟨by (with_reducible repeat (first | refine blk_drewN ?_ _ | refine blk_drew ?_ | refine blk_alloc ?_ _)); refine blk_far ?_ NB912_918.out _; (with_reducible repeat (first | refine blk_drewN ?_ _ | refine blk_drew ?_ | refine blk_alloc ?_ _)); refine blk_far ?_ NB912_918.out _; (with_reducible repeat (first | refine blk_drewN ?_ _ | refine blk_drew ?_ | refine blk_alloc ?_ _)); exact BK912.out⟩, ⟨by (with_reducible repeat (first | refine blk_drewN ?_ _ | refine blk_drew ?_ | refine blk_alloc ?_ _)); refine blk_put (cs := #[.int .i64 t913, .slice none 0 0]) ?_ 1 _ rfl; (with_reducible repeat (first | refine blk_drewN ?_ _ | refine blk_drew ?_ | refine blk_alloc ?_ _)); refine blk_put (cs := #[.int .i64 0, .slice none 0 0]) ?_ 0 _ rfl; (with_reducible repeat (first | refine blk_drewN ?_ _ | refine blk_drew ?_ | refine blk_alloc ?_ _)); exact BK918.out⟩, ⟨bel_g HB.out⟩⟩
   ·have c25b0 : (t911 != t917) = false := by simpa using c25
    (try (have c25b1 : decide (t911 = t917) = true := by simpa using c25))
    (try (have c25b2 : (t911 == t917) = true := by simpa using c25))
    clear c25
    (first | rw [c25b0] | (simp only [i64_w, i32_w]; rw [c25b0]) | skip)
    obtain ⟨t919, A26, H⟩ := obE H
    have H' := Aside0.mk H
    clear H
    have hnb27 := NB912_906.out
    have hnc27 := NB906_912.out
    have hnb28 := NB912_918.out
    have hnc28 := NB918_912.out
    obtain ⟨hcz29_0, hcz29_1, hfz29_0, hfz29_1⟩ := blk2 BK912
    have hnb30 := NB918_906.out
    have hnc30 := NB906_918.out
    obtain ⟨hcz31_0, hcz31_1, hfz31_0, hfz31_1⟩ := blk2 BK918
    go_wp2_with (first | (go_at_call 44; (with_reducible refine (laws_pSameOrder.calls k t907 _ _ t908 t913 _ _ t914 t919 _ ?side1 ?side2 ?side3 ?side4 A26.out).mono ?_); (case side1 => refine (Kd.R_reads' (e := 3) (base := w.heap.size) (ok := fun k_ => ((True ∧ some k_ ≠ (.slice Ao12 t903.length co12 : Value).ownBlock) ∧ some k_ ≠ (.slice Ao24 t914.length co24 : Value).ownBlock)) (n := t908.length) (c := co17) ?_).2.2; exact (Kd.R_g ((Kd.R_mono (Kd.R_far (p := ⟨gb918, 1, none⟩) (Kd.R_far (p := ⟨gb918, 0, none⟩) (Kd.R_types HO910.out BK918.out (by decide)) (fun _ hk => hk.2) (.int .i64 t913)) (fun _ hk => hk.2) (.slice Ao24 t914.length co24)) (fun _ h_ => h_.1))))); (case side2 => exact (Kd.R_reads' HO910.out).2.1); (case side3 => refine (Kd.R_reads' (e := 3) (base := w.heap.size) (ok := fun k_ => ((True ∧ some k_ ≠ (.slice Ao12 t903.length co12 : Value).ownBlock) ∧ some k_ ≠ (.slice Ao17 t908.length co17 : Value).ownBlock)) (n := t914.length) (c := co24) ?_).2.2; exact (Kd.R_g ((Kd.R_mono (Kd.R_far (p := ⟨gb918, 1, none⟩) (Kd.R_far (p := ⟨gb918, 0, none⟩) (Kd.R_types HO916.out BK918.out (by decide)) (fun _ hk => hk.2) (.int .i64 t913)) (fun _ hk => hk.2) (.slice Ao24 t914.length co24)) (fun _ h_ => h_.1))))); (case side4 => exact (Kd.R_reads' HO916.out).2.1); rintro e w32 ⟨rfl, hb⟩; replace HO905 := Aside0.mk (Kd.R_below (Kd.R_g ((Kd.R_mono (Kd.R_far (p := ⟨gb918, 1, none⟩) (Kd.R_far (p := ⟨gb918, 0, none⟩) (Kd.R_types HO905.out BK918.out (by decide)) (fun _ hk => hk.2) (.int .i64 t913)) (fun _ hk => hk.2) (.slice Ao24 t914.length co24)) (fun _ h_ => h_.1)))) hb); replace HO910 := Aside0.mk (Kd.R_below (Kd.R_g ((Kd.R_mono (Kd.R_far (p := ⟨gb918, 1, none⟩) (Kd.R_far (p := ⟨gb918, 0, none⟩) (Kd.R_types HO910.out BK918.out (by decide)) (fun _ hk => hk.2) (.int .i64 t913)) (fun _ hk => hk.2) (.slice Ao24 t914.length co24)) (fun _ h_ => h_.1)))) hb); replace HO916 := Aside0.mk (Kd.R_below (Kd.R_g ((Kd.R_mono (Kd.R_far (p := ⟨gb918, 1, none⟩) (Kd.R_far (p := ⟨gb918, 0, none⟩) (Kd.R_types HO916.out BK918.out (by decide)) (fun _ hk => hk.2) (.int .i64 t913)) (fun _ hk => hk.2) (.slice Ao24 t914.length co24)) (fun _ h_ => h_.1)))) hb); replace BK906 := Aside0.mk (blk_below (g := gb906) (o := .cells #[.int .i64 t902, .slice Ao12 t903.length co12] 28 (0, 0)) (by (with_reducible repeat (first | refine blk_drewN ?_ _ | refine blk_drew ?_ | refine blk_alloc ?_ _)); refine blk_far ?_ NB906_918.out _; (with_reducible repeat (first | refine blk_drewN ?_ _ | refine blk_drew ?_ | refine blk_alloc ?_ _)); refine blk_far ?_ NB906_918.out _; (with_reducible repeat (first | refine blk_drewN ?_ _ | refine blk_drew ?_ | refine blk_alloc ?_ _)); exact BK906.out) hb); replace BK912 := Aside0.mk (blk_below (g := gb912) (o := .cells #[.int .i64 t907, .slice Ao17 t908.length co17] 28 (0, 0)) (by (with_reducible repeat (first | refine blk_drewN ?_ _ | refine blk_drew ?_ | refine blk_alloc ?_ _)); refine blk_far ?_ NB912_918.out _; (with_reducible repeat (first | refine blk_drewN ?_ _ | refine blk_drew ?_ | refine blk_alloc ?_ _)); refine blk_far ?_ NB912_918.out _; (with_reducible repeat (first | refine blk_drewN ?_ _ | refine blk_drew ?_ | refine blk_alloc ?_ _)); exact BK912.out) hb); replace BK918 := Aside0.mk (blk_below (g := gb918) (o := .cells #[.int .i64 t913, .slice Ao24 t914.length co24] 28 (0, 0)) (by (with_reducible repeat (first | refine blk_drewN ?_ _ | refine blk_drew ?_ | refine blk_alloc ?_ _)); refine blk_put (cs := #[.int .i64 t913, .slice none 0 0]) ?_ 1 _ rfl; (with_reducible repeat (first | refine blk_drewN ?_ _ | refine blk_drew ?_ | refine blk_alloc ?_ _)); refine blk_put (cs := #[.int .i64 0, .slice none 0 0]) ?_ 0 _ rfl; (with_reducible repeat (first | refine blk_drewN ?_ _ | refine blk_drew ?_ | refine blk_alloc ?_ _)); exact BK918.out) hb); replace HB := bst HB hb; (try clear hb); (try clear hk)))
    go_meet
    case rel => exact ⟨_, (!t919), eqS, H', ⟨by first | omega | exact Nat.le_refl _⟩, ⟨Kd.R_g (Kd.R_mono HO905.out (fun _ hk => ⟨hk.1.2, hk.2⟩))⟩, ⟨Kd.R_g (Kd.R_mono HO910.out (fun _ hk => ⟨hk.1.2, hk.2⟩))⟩, ⟨Kd.R_g (Kd.R_mono HO916.out (fun _ hk => ⟨hk.1.2, hk.2⟩))⟩, ⟨blk_g BK906.out⟩, ⟨blk_g BK912.out⟩, ⟨blk_g BK918.out⟩, ⟨bel_g HB.out⟩⟩
  case rest =>
   clear HC8
   try clear c1
   try clear c4
   try clear c25
   try clear c25b0
   try clear c25b1
   try clear c25b2
   try clear hcz11_0
   try clear hcz11_1
   try clear hcz16_0
   try clear hcz16_1
   try clear hcz18_0
   try clear hcz18_1
   try clear hcz23_0
   try clear hcz23_1
   try clear hcz29_0
   try clear hcz29_1
   try clear hcz31_0
   try clear hcz31_1
   try clear hfz11_0
   try clear hfz11_1
   try clear hfz16_0
   try clear hfz16_1
   try clear hfz18_0
   try clear hfz18_1
   try clear hfz23_0
   try clear hfz23_1
   try clear hfz29_0
   try clear hfz29_1
   try clear hfz31_0
   try clear hfz31_1
   obtain ⟨kq, x45_7, rfl, HA, HJ7, HO_907001, HO_913001, HO_919001, BK906, BK912, BK918, HB⟩ := hcut
   cases kq with
   | zero => exact absurd HA.out (by simp [laws_FnMirrors.j0])
   | succ kj7 =>
    have H := HA.out
    clear HA
    simp only [laws_FnMirrors.j0] at H
    by_cases c33 : x45_7 = true
    ·subst c33
     replace H := ifT H
     obtain rfl := Option.some.inj H
     go_wp2
     go_ret
     exact ⟨eqE, bel_g HB.out⟩
    ·replace c33 := Bool.eq_false_iff.mpr c33
     subst c33
     replace H := ifF H
     by_cases c34 : t917 = true
     ·subst c34
      replace H := ifT H
      obtain ⟨⟨t920, t921, t924⟩, A35, H⟩ := obE H
      dsimp only at H
      have HC36 := Aside0.mk H
      clear H
      have hnb37 := NB912_906.out
      have hnc37 := NB906_912.out
      have hnb38 := NB912_918.out
      have hnc38 := NB918_912.out
      obtain ⟨hcz39_0, hcz39_1, hfz39_0, hfz39_1⟩ := blk2 BK912
      go_upto_region 11 with (first | ((with_reducible refine gate_callee (f := 42) rfl ?_); refine goesQ (some 50) Tryd.func42 #[.agg #[.int .i64 t907, .slice Ao17 t908.length co17]] ?_; (with_reducible refine (impl_MirrorOf.calls kj7 t907 _ _ t908 t920 t921 t924 _ ?side1 ?side2 A35.out).mono ?_); (case side1 => repeat (first | exact (Kd.R_reads' HO_913001.out).2.2 | (with_reducible refine Kd.C_alloc ?_ _) | (with_reducible refine Kd.C_drewN ?_ _) | (with_reducible refine Kd.C_drew ?_))); (case side2 => exact (Kd.R_reads' HO_913001.out).2.1); rintro e w40 ⟨v922, rfl, ho0, hb⟩; refine ⟨_, rfl, ?_⟩; have HO923 := Aside0.mk (Kd.R_lower (Kd.R_new' (Kd.R_new' (Kd.R_new' ho0 (Kd.R_lt (Kd.R_g HO_907001.out))) (Kd.R_lt (Kd.R_g HO_913001.out))) (Kd.R_lt (Kd.R_g HO_919001.out))) (below_size (bel_g HB.out))); replace HO_907001 := Aside0.mk (Kd.R_elder' (Kd.R_g HO_907001.out) (Kd.R_base ho0) hb); replace HO_913001 := Aside0.mk (Kd.R_elder' (Kd.R_g HO_913001.out) (Kd.R_base ho0) hb); replace HO_919001 := Aside0.mk (Kd.R_elder' (Kd.R_g HO_919001.out) (Kd.R_base ho0) hb); replace BK906 := blkB BK906 hb; replace BK912 := blkB BK912 hb; replace BK918 := blkB BK918 hb; replace HB := bst HB hb; (try clear hb); (try clear hk); (try clear ho0)) | ((with_reducible refine gate_dst (N := 10) rfl ?_); refine boxE (N := 10) (cs := #[.int .i64 0, .slice none 0 0]) (t := 28) ?_; intro gb925 hg w41 hbox hb; replace HO_907001 := Aside0.mk (Kd.R_below (Kd.R_g HO_907001.out) hb); replace HO_913001 := Aside0.mk (Kd.R_below (Kd.R_g HO_913001.out) hb); replace HO_919001 := Aside0.mk (Kd.R_below (Kd.R_g HO_919001.out) hb); replace HO923 := Aside0.mk (Kd.R_below (Kd.R_g HO923.out) hb); have BK925 := Aside0.mk (hbox); have GE925 := geB HB hg; have NB906_925 := neL BK906 hg; have NB925_906 := neR BK906 hg; replace BK906 := blkB BK906 hb; have NB912_925 := neL BK912 hg; have NB925_912 := neR BK912 hg; replace BK912 := blkB BK912 hb; have NB918_925 := neL BK918 hg; have NB925_918 := neR BK918 hg; replace BK918 := blkB BK918 hb; replace HB := bst HB hb; clear hb hbox hg; have hnb42 := NB925_906.out; have hnc42 := NB906_925.out; have hnb43 := NB925_912.out; have hnc43 := NB912_925.out; have hnb44 := NB925_918.out; have hnc44 := NB918_925.out; obtain ⟨hcz45_0, hcz45_1, hfz45_0, hfz45_1⟩ := blk2 BK925; obtain ⟨Ao46, co46, eo46⟩ := Kd.R_slice HO923.out; subst eo46))
      (try simp only [Act.put, List.setIfInBounds_toArray, List.set_cons_zero, List.set_cons_succ])
      go_cut [67] (fun v67 wc => ∃ (kq : Nat) (x67_35 : Bool), v67 = .bool x67_35 ∧ Aside0 (laws_FnMirrors.j1 kq x67_35 t902 t903 t907 t908 = some r) ∧ Aside0 (kq ≤ kj7) ∧ Aside0 (Kd.R (Kd.int .i64) 3 wc w.heap.size (fun k_ => some k_ ≠ ((.slice Ao17 t908.length co17) : Value).ownBlock ∧ some k_ ≠ ((.slice Ao24 t914.length co24) : Value).ownBlock ∧ some k_ ≠ ((.slice Ao46 t921.length co46) : Value).ownBlock) (.slice Ao12 t903.length co12) t903) ∧ Aside0 (Kd.R (Kd.int .i64) 3 wc w.heap.size (fun k_ => some k_ ≠ ((.slice Ao12 t903.length co12) : Value).ownBlock ∧ some k_ ≠ ((.slice Ao24 t914.length co24) : Value).ownBlock ∧ some k_ ≠ ((.slice Ao46 t921.length co46) : Value).ownBlock) (.slice Ao17 t908.length co17) t908) ∧ Aside0 (Kd.R (Kd.int .i64) 3 wc w.heap.size (fun k_ => some k_ ≠ ((.slice Ao12 t903.length co12) : Value).ownBlock ∧ some k_ ≠ ((.slice Ao17 t908.length co17) : Value).ownBlock ∧ some k_ ≠ ((.slice Ao46 t921.length co46) : Value).ownBlock) (.slice Ao24 t914.length co24) t914) ∧ Aside0 (Kd.R (Kd.int .i64) 3 wc w.heap.size (fun k_ => some k_ ≠ ((.slice Ao12 t903.length co12) : Value).ownBlock ∧ some k_ ≠ ((.slice Ao17 t908.length co17) : Value).ownBlock ∧ some k_ ≠ ((.slice Ao24 t914.length co24) : Value).ownBlock) (.slice Ao46 t921.length co46) t921) ∧ Aside0 (wc.heap[gb906]? = some (.cells #[.int .i64 t902, (.slice Ao12 t903.length co12)] 28 (0, 0))) ∧ Aside0 (wc.heap[gb912]? = some (.cells #[.int .i64 t907, (.slice Ao17 t908.length co17)] 28 (0, 0))) ∧ Aside0 (wc.heap[gb918]? = some (.cells #[.int .i64 t913, (.slice Ao24 t914.length co24)] 28 (0, 0))) ∧ Aside0 (wc.heap[gb925]? = some (.cells #[.int .i64 t920, (.slice Ao46 t921.length co46)] 28 (0, 0))) ∧ Aside0 (Below w.heap.size w wc))
      case first =>
       have H := HC36.out
       clear HC36
       by_cases c47 : t924 = true
       ·subst c47
        replace H := ifT H
        obtain ⟨t926, A48, H⟩ := obE H
        by_cases c49 : t926 = true
        ·subst c49
         replace H := ifT H
         obtain ⟨t927, A50, H⟩ := obE H
         obtain ⟨t928, A51, H⟩ := obE H
         have H' := Aside0.mk H
         clear H
         try go_wp2
         have n0_ : Aside0 (Kd.R (Kd.int .i64) 3 ((w41.setCell ⟨gb925, 0, none⟩ (.int .i64 t920)).setCell ⟨gb925, 1, none⟩ (.slice Ao46 t921.length co46)) w.heap.size (fun k_ => some k_ ≠ (.slice Ao17 t908.length co17 : Value).ownBlock ∧ some k_ ≠ (.slice Ao24 t914.length co24 : Value).ownBlock ∧ some k_ ≠ (.slice Ao46 t921.length co46 : Value).ownBlock) (.slice Ao12 t903.length co12) t903) := ⟨Kd.R_g (Kd.R_mono (Kd.R_far (p := ⟨gb925, 1, none⟩) (Kd.R_far (p := ⟨gb925, 0, none⟩) (Kd.R_types HO_907001.out BK925.out (by decide)) (fun _ hk => hk.2) (.int .i64 t920)) (fun _ hk => hk.2) (.slice Ao46 t921.length co46)) (fun _ hk => ⟨hk.1.1.1, ⟨hk.1.1.2, hk.1.2⟩⟩))⟩
         have n1_ : Aside0 (Kd.R (Kd.int .i64) 3 ((w41.setCell ⟨gb925, 0, none⟩ (.int .i64 t920)).setCell ⟨gb925, 1, none⟩ (.slice Ao46 t921.length co46)) w.heap.size (fun k_ => some k_ ≠ (.slice Ao12 t903.length co12 : Value).ownBlock ∧ some k_ ≠ (.slice Ao24 t914.length co24 : Value).ownBlock ∧ some k_ ≠ (.slice Ao46 t921.length co46 : Value).ownBlock) (.slice Ao17 t908.length co17) t908) := ⟨Kd.R_g (Kd.R_mono (Kd.R_far (p := ⟨gb925, 1, none⟩) (Kd.R_far (p := ⟨gb925, 0, none⟩) (Kd.R_types HO_913001.out BK925.out (by decide)) (fun _ hk => hk.2) (.int .i64 t920)) (fun _ hk => hk.2) (.slice Ao46 t921.length co46)) (fun _ hk => ⟨hk.1.1.1, ⟨hk.1.1.2, hk.1.2⟩⟩))⟩
         have n2_ : Aside0 (Kd.R (Kd.int .i64) 3 ((w41.setCell ⟨gb925, 0, none⟩ (.int .i64 t920)).setCell ⟨gb925, 1, none⟩ (.slice Ao46 t921.length co46)) w.heap.size (fun k_ => some k_ ≠ (.slice Ao12 t903.length co12 : Value).ownBlock ∧ some k_ ≠ (.slice Ao17 t908.length co17 : Value).ownBlock ∧ some k_ ≠ (.slice Ao46 t921.length co46 : Value).ownBlock) (.slice Ao24 t914.length co24) t914) := ⟨Kd.R_g (Kd.R_mono (Kd.R_far (p := ⟨gb925, 1, none⟩) (Kd.R_far (p := ⟨gb925, 0, none⟩) (Kd.R_types HO_919001.out BK925.out (by decide)) (fun _ hk => hk.2) (.int .i64 t920)) (fun _ hk => hk.2) (.slice Ao46 t921.length co46)) (fun _ hk => ⟨hk.1.1.1, ⟨hk.1.1.2, hk.1.2⟩⟩))⟩
         have n3_ : Aside0 (Kd.R (Kd.int .i64) 3 ((w41.setCell ⟨gb925, 0, none⟩ (.int .i64 t920)).setCell ⟨gb925, 1, none⟩ (.slice Ao46 t921.length co46)) w.heap.size (fun k_ => some k_ ≠ (.slice Ao12 t903.length co12 : Value).ownBlock ∧ some k_ ≠ (.slice Ao17 t908.length co17 : Value).ownBlock ∧ some k_ ≠ (.slice Ao24 t914.length co24 : Value).ownBlock) (.slice Ao46 t921.length co46) t921) := ⟨Kd.R_g (Kd.R_mono (Kd.R_far (p := ⟨gb925, 1, none⟩) (Kd.R_far (p := ⟨gb925, 0, none⟩) (Kd.R_types HO923.out BK925.out (by decide)) (fun _ hk => hk.2) (.int .i64 t920)) (fun _ hk => hk.2) (.slice Ao46 t921.length co46)) (fun _ hk => ⟨hk.1.1.1.2, ⟨hk.1.1.2, hk.1.2⟩⟩))⟩
         have n4_ : Aside0 (((w41.setCell ⟨gb925, 0, none⟩ (.int .i64 t920)).setCell ⟨gb925, 1, none⟩ (.slice Ao46 t921.length co46)).heap[gb906]? = some (.cells #[.int .i64 t902, .slice Ao12 t903.length co12] 28 (0, 0))) := ⟨by (with_reducible repeat (first | refine blk_drewN ?_ _ | refine blk_drew ?_ | refine blk_alloc ?_ _)); refine blk_far ?_ NB906_925.out _; (with_reducible repeat (first | refine blk_drewN ?_ _ | refine blk_drew ?_ | refine blk_alloc ?_ _)); refine blk_far ?_ NB906_925.out _; (with_reducible repeat (first | refine blk_drewN ?_ _ | refine blk_drew ?_ | refine blk_alloc ?_ _)); exact BK906.out⟩
         have n5_ : Aside0 (((w41.setCell ⟨gb925, 0, none⟩ (.int .i64 t920)).setCell ⟨gb925, 1, none⟩ (.slice Ao46 t921.length co46)).heap[gb912]? = some (.cells #[.int .i64 t907, .slice Ao17 t908.length co17] 28 (0, 0))) := ⟨by (with_reducible repeat (first | refine blk_drewN ?_ _ | refine blk_drew ?_ | refine blk_alloc ?_ _)); refine blk_far ?_ NB912_925.out _; (with_reducible repeat (first | refine blk_drewN ?_ _ | refine blk_drew ?_ | refine blk_alloc ?_ _)); refine blk_far ?_ NB912_925.out _; (with_reducible repeat (first | refine blk_drewN ?_ _ | refine blk_drew ?_ | refine blk_alloc ?_ _)); exact BK912.out⟩
         have n6_ : Aside0 (((w41.setCell ⟨gb925, 0, none⟩ (.int .i64 t920)).setCell ⟨gb925, 1, none⟩ (.slice Ao46 t921.length co46)).heap[gb918]? = some (.cells #[.int .i64 t913, .slice Ao24 t914.length co24] 28 (0, 0))) := ⟨by (with_reducible repeat (first | refine blk_drewN ?_ _ | refine blk_drew ?_ | refine blk_alloc ?_ _)); refine blk_far ?_ NB918_925.out _; (with_reducible repeat (first | refine blk_drewN ?_ _ | refine blk_drew ?_ | refine blk_alloc ?_ _)); refine blk_far ?_ NB918_925.out _; (with_reducible repeat (first | refine blk_drewN ?_ _ | refine blk_drew ?_ | refine blk_alloc ?_ _)); exact BK918.out⟩
         have n7_ : Aside0 (((w41.setCell ⟨gb925, 0, none⟩ (.int .i64 t920)).setCell ⟨gb925, 1, none⟩ (.slice Ao46 t921.length co46)).heap[gb925]? = some (.cells #[.int .i64 t920, .slice Ao46 t921.length co46] 28 (0, 0))) := ⟨by (with_reducible repeat (first | refine blk_drewN ?_ _ | refine blk_drew ?_ | refine blk_alloc ?_ _)); refine blk_put (cs := #[.int .i64 t920, .slice none 0 0]) ?_ 1 _ rfl; (with_reducible repeat (first | refine blk_drewN ?_ _ | refine blk_drew ?_ | refine blk_alloc ?_ _)); refine blk_put (cs := #[.int .i64 0, .slice none 0 0]) ?_ 0 _ rfl; (with_reducible repeat (first | refine blk_drewN ?_ _ | refine blk_drew ?_ | refine blk_alloc ?_ _)); exact BK925.out⟩
         have n8_ : Aside0 (Below w.heap.size w ((w41.setCell ⟨gb925, 0, none⟩ (.int .i64 t920)).setCell ⟨gb925, 1, none⟩ (.slice Ao46 t921.length co46))) := ⟨bel_g HB.out⟩
         (try clear HO_907001)
         (try clear HO_913001)
         (try clear HO_919001)
         (try clear HO923)
         (try clear BK906)
         (try clear BK912)
         (try clear BK918)
         (try clear BK925)
         (try clear HB)
         generalize ((w41.setCell ⟨gb925, 0, none⟩ (.int .i64 t920)).setCell ⟨gb925, 1, none⟩ (.slice Ao46 t921.length co46)) = w52 at n0_ n1_ n2_ n3_ n4_ n5_ n6_ n7_ n8_ ⊢
         have HO_907001 := n0_
         have HO_913001 := n1_
         have HO_919001 := n2_
         have HO923 := n3_
         have BK906 := n4_
         have BK912 := n5_
         have BK918 := n6_
         have BK925 := n7_
         have HB := n8_
         clear n0_ n1_ n2_ n3_ n4_ n5_ n6_ n7_ n8_
         replace HO_907001 := Aside0.mk (Kd.R_drew HO_907001.out)
         replace HO_913001 := Aside0.mk (Kd.R_drew HO_913001.out)
         replace HO_919001 := Aside0.mk (Kd.R_drew HO_919001.out)
         replace HO923 := Aside0.mk (Kd.R_drew HO923.out)
         replace BK906 := Aside0.mk (blk_drew BK906.out)
         replace BK912 := Aside0.mk (blk_drew BK912.out)
         replace BK918 := Aside0.mk (blk_drew BK918.out)
         replace BK925 := Aside0.mk (blk_drew BK925.out)
         replace HB := Aside0.mk (below_drew1 HB.out)
         refine start_ (n := 15) (S := fun w' => w'.cell? ⟨gb925, 0, none⟩ = some (.int .i64 t920) ∧ w'.cell? ⟨gb925, 1, none⟩ = some (.slice Ao46 t921.length co46) ∧ w'.cell? ⟨gb906, 0, none⟩ = some (.int .i64 t902) ∧ w'.cell? ⟨gb906, 1, none⟩ = some (.slice Ao12 t903.length co12) ∧ w'.cell? ⟨gb912, 0, none⟩ = some (.int .i64 t907) ∧ w'.cell? ⟨gb912, 1, none⟩ = some (.slice Ao17 t908.length co17)) (ds := []) (bm 15 0) (by kernel_rfl) rfl (by kernel_rfl) ⟨(blk_cell BK925.out 0).trans rfl, (blk_cell BK925.out 1).trans rfl, (blk_cell BK906.out 0).trans rfl, (blk_cell BK906.out 1).trans rfl, (blk_cell BK912.out 0).trans rfl, (blk_cell BK912.out 1).trans rfl⟩ (fun hHeld => ?_); refine with_tabW laws_FnMirrors.tab11 laws_FnMirrors.bits11 (fun HT_ HW_ => ?_)
         generalize w52.drew = w53 at HO_907001 HO_913001 HO_919001 HO923 BK906 BK912 BK918 BK925 HB hHeld ⊢
         refine pureW 0 (some 53) (bm 15 1) HT_ ?_
         refine pureW 1 (some 54) (bm 15 3) HT_ ?_
         refine pureW 2 (some 55) (bm 15 7) HT_ ?_
         refine takeW 3 (some 56) (bm 15 15) HT_ HW_ hHeld ?_
         refine takeW 4 (some 57) (bm 15 31) HT_ HW_ hHeld ?_
         refine oneW 5 (some 58) (bm 15 63) HT_ (fun K hK => ?_)
         refine goesR Tryd.func44 #[.agg #[.int .i64 t920, .slice Ao46 t921.length co46], .agg #[.int .i64 t902, .slice Ao12 t903.length co12]] ?_
         with_reducible refine (laws_pSameOrder.calls kj7 t920 _ _ t921 t902 _ _ t903 true _ ?side1 ?side2 ?side3 ?side4 A48.out).mono ?_
         (case side1 => repeat (first | exact (Kd.R_reads' HO923.out).2.2 | (with_reducible refine Kd.C_alloc ?_ _) | (with_reducible refine Kd.C_drewN ?_ _) | (with_reducible refine Kd.C_drew ?_)))
         (case side2 => exact (Kd.R_reads' HO923.out).2.1)
         (case side3 => repeat (first | exact (Kd.R_reads' HO_907001.out).2.2 | (with_reducible refine Kd.C_alloc ?_ _) | (with_reducible refine Kd.C_drewN ?_ _) | (with_reducible refine Kd.C_drew ?_)))
         (case side4 => exact (Kd.R_reads' HO_907001.out).2.1)
         rintro e w54 ⟨rfl, hb⟩
         refine ⟨_, rfl, ?_⟩
         replace HO_907001 := Aside0.mk (Kd.R_below (Kd.R_g HO_907001.out) hb)
         replace HO_913001 := Aside0.mk (Kd.R_below (Kd.R_g HO_913001.out) hb)
         replace HO_919001 := Aside0.mk (Kd.R_below (Kd.R_g HO_919001.out) hb)
         replace HO923 := Aside0.mk (Kd.R_below (Kd.R_g HO923.out) hb)
         replace BK906 := blkB BK906 hb
         replace BK912 := blkB BK912 hb
         replace BK918 := blkB BK918 hb
         replace BK925 := blkB BK925 hb
         replace HB := bst HB hb
         (try clear hb)
         (try clear hb2)
         (try clear hk)
         (try clear hi)
         refine hK.out _ _ ⟨(blk_cell BK925.out 0).trans rfl, (blk_cell BK925.out 1).trans rfl, (blk_cell BK906.out 0).trans rfl, (blk_cell BK906.out 1).trans rfl, (blk_cell BK912.out 0).trans rfl, (blk_cell BK912.out 1).trans rfl⟩ (fun hHeld => ?_)
         clear hK K
         refine normW 58 ?_
         refine pureW 6 (some 59) (bm 15 127) HT_ ?_
         refine pureW 7 (some 60) (bm 15 255) HT_ ?_
         refine pureW 8 (some 61) (bm 15 511) HT_ ?_
         refine takeW 9 (some 62) (bm 15 1023) HT_ HW_ hHeld ?_
         refine takeW 11 (some 64) (bm 15 3071) HT_ HW_ hHeld ?_
         refine oneW 10 (some 63) (bm 15 4095) HT_ (fun K hK => ?_)
         refine goesR Tryd.func45 #[.agg #[.int .i64 t902, .slice Ao12 t903.length co12]] ?_
         with_reducible refine (impl_IsOrder.calls kj7 t902 _ _ t903 t927 _ ?side1 ?side2 ?side3 A50.out).mono ?_
         (case side1 => repeat (first | exact (Kd.R_reads' HO_907001.out).2.2 | (with_reducible refine Kd.C_alloc ?_ _) | (with_reducible refine Kd.C_drewN ?_ _) | (with_reducible refine Kd.C_drew ?_)))
         (case side2 => exact (Kd.R_reads' HO_907001.out).2.1)
         (case side3 => first | exact HTAB.out | exact Tab.drewN HTAB.out _ | exact Tab.below HTAB.out (bel_g HB.out) | exact Tab.below HTAB.out (by repeat (first | exact Below.refl _ _ | apply below_alloc | apply pw_below_drewN | apply below_drew1)))
         rintro e w55 ⟨rfl, hb⟩
         refine ⟨_, rfl, ?_⟩
         replace HO_907001 := Aside0.mk (Kd.R_below (Kd.R_g HO_907001.out) hb)
         replace HO_913001 := Aside0.mk (Kd.R_below (Kd.R_g HO_913001.out) hb)
         replace HO_919001 := Aside0.mk (Kd.R_below (Kd.R_g HO_919001.out) hb)
         replace HO923 := Aside0.mk (Kd.R_below (Kd.R_g HO923.out) hb)
         replace BK906 := blkB BK906 hb
         replace BK912 := blkB BK912 hb
         replace BK918 := blkB BK918 hb
         replace BK925 := blkB BK925 hb
         replace HB := bst HB hb
         (try clear hb)
         (try clear hb2)
         (try clear hk)
         (try clear hi)
         refine hK.out _ _ ⟨(blk_cell BK925.out 0).trans rfl, (blk_cell BK925.out 1).trans rfl, (blk_cell BK906.out 0).trans rfl, (blk_cell BK906.out 1).trans rfl, (blk_cell BK912.out 0).trans rfl, (blk_cell BK912.out 1).trans rfl⟩ (fun hHeld => ?_)
         clear hK K
         refine normW 63 ?_
         refine oneW 12 (some 65) (bm 15 8191) HT_ (fun K hK => ?_)
         refine goesR Tryd.func45 #[.agg #[.int .i64 t907, .slice Ao17 t908.length co17]] ?_
         with_reducible refine (impl_IsOrder.calls kj7 t907 _ _ t908 t928 _ ?side1 ?side2 ?side3 A51.out).mono ?_
         (case side1 => repeat (first | exact (Kd.R_reads' HO_913001.out).2.2 | (with_reducible refine Kd.C_alloc ?_ _) | (with_reducible refine Kd.C_drewN ?_ _) | (with_reducible refine Kd.C_drew ?_)))
         (case side2 => exact (Kd.R_reads' HO_913001.out).2.1)
         (case side3 => first | exact HTAB.out | exact Tab.drewN HTAB.out _ | exact Tab.below HTAB.out (bel_g HB.out) | exact Tab.below HTAB.out (by repeat (first | exact Below.refl _ _ | apply below_alloc | apply pw_below_drewN | apply below_drew1)))
         rintro e w56 ⟨rfl, hb⟩
         refine ⟨_, rfl, ?_⟩
         replace HO_907001 := Aside0.mk (Kd.R_below (Kd.R_g HO_907001.out) hb)
         replace HO_913001 := Aside0.mk (Kd.R_below (Kd.R_g HO_913001.out) hb)
         replace HO_919001 := Aside0.mk (Kd.R_below (Kd.R_g HO_919001.out) hb)
         replace HO923 := Aside0.mk (Kd.R_below (Kd.R_g HO923.out) hb)
         replace BK906 := blkB BK906 hb
         replace BK912 := blkB BK912 hb
         replace BK918 := blkB BK918 hb
         replace BK925 := blkB BK925 hb
         replace HB := bst HB hb
         (try clear hb)
         (try clear hb2)
         (try clear hk)
         (try clear hi)
         refine hK.out _ _ ⟨(blk_cell BK925.out 0).trans rfl, (blk_cell BK925.out 1).trans rfl, (blk_cell BK906.out 0).trans rfl, (blk_cell BK906.out 1).trans rfl, (blk_cell BK912.out 0).trans rfl, (blk_cell BK912.out 1).trans rfl⟩ (fun hHeld => ?_)
         clear hK K
         refine normW 65 ?_
         refine pureW 13 (some 66) (bm 15 16383) HT_ ?_
         refine pureW 14 (some 67) (bm 15 32767) HT_ ?_
         refine doneW HT_ ?_
         try go_wp2
         go_meet
         case rel => exact ⟨_, ((t927 != t928)), eqS, H', ⟨by have := HJ7.out; first | omega | exact Nat.le_refl _⟩, ⟨Kd.R_g HO_907001.out⟩, ⟨Kd.R_g HO_913001.out⟩, ⟨Kd.R_g HO_919001.out⟩, ⟨Kd.R_g HO923.out⟩, ⟨blk_g BK906.out⟩, ⟨blk_g BK912.out⟩, ⟨blk_g BK918.out⟩, ⟨blk_g BK925.out⟩, ⟨bel_g HB.out⟩⟩
        ·replace c49 := Bool.eq_false_iff.mpr c49
         subst c49
         replace H := ifF H
         have H' := Aside0.mk H
         clear H
         try go_wp2
         have n0_ : Aside0 (Kd.R (Kd.int .i64) 3 ((w41.setCell ⟨gb925, 0, none⟩ (.int .i64 t920)).setCell ⟨gb925, 1, none⟩ (.slice Ao46 t921.length co46)) w.heap.size (fun k_ => some k_ ≠ (.slice Ao17 t908.length co17 : Value).ownBlock ∧ some k_ ≠ (.slice Ao24 t914.length co24 : Value).ownBlock ∧ some k_ ≠ (.slice Ao46 t921.length co46 : Value).ownBlock) (.slice Ao12 t903.length co12) t903) := ⟨Kd.R_g (Kd.R_mono (Kd.R_far (p := ⟨gb925, 1, none⟩) (Kd.R_far (p := ⟨gb925, 0, none⟩) (Kd.R_types HO_907001.out BK925.out (by decide)) (fun _ hk => hk.2) (.int .i64 t920)) (fun _ hk => hk.2) (.slice Ao46 t921.length co46)) (fun _ hk => ⟨hk.1.1.1, ⟨hk.1.1.2, hk.1.2⟩⟩))⟩
         have n1_ : Aside0 (Kd.R (Kd.int .i64) 3 ((w41.setCell ⟨gb925, 0, none⟩ (.int .i64 t920)).setCell ⟨gb925, 1, none⟩ (.slice Ao46 t921.length co46)) w.heap.size (fun k_ => some k_ ≠ (.slice Ao12 t903.length co12 : Value).ownBlock ∧ some k_ ≠ (.slice Ao24 t914.length co24 : Value).ownBlock ∧ some k_ ≠ (.slice Ao46 t921.length co46 : Value).ownBlock) (.slice Ao17 t908.length co17) t908) := ⟨Kd.R_g (Kd.R_mono (Kd.R_far (p := ⟨gb925, 1, none⟩) (Kd.R_far (p := ⟨gb925, 0, none⟩) (Kd.R_types HO_913001.out BK925.out (by decide)) (fun _ hk => hk.2) (.int .i64 t920)) (fun _ hk => hk.2) (.slice Ao46 t921.length co46)) (fun _ hk => ⟨hk.1.1.1, ⟨hk.1.1.2, hk.1.2⟩⟩))⟩
         have n2_ : Aside0 (Kd.R (Kd.int .i64) 3 ((w41.setCell ⟨gb925, 0, none⟩ (.int .i64 t920)).setCell ⟨gb925, 1, none⟩ (.slice Ao46 t921.length co46)) w.heap.size (fun k_ => some k_ ≠ (.slice Ao12 t903.length co12 : Value).ownBlock ∧ some k_ ≠ (.slice Ao17 t908.length co17 : Value).ownBlock ∧ some k_ ≠ (.slice Ao46 t921.length co46 : Value).ownBlock) (.slice Ao24 t914.length co24) t914) := ⟨Kd.R_g (Kd.R_mono (Kd.R_far (p := ⟨gb925, 1, none⟩) (Kd.R_far (p := ⟨gb925, 0, none⟩) (Kd.R_types HO_919001.out BK925.out (by decide)) (fun _ hk => hk.2) (.int .i64 t920)) (fun _ hk => hk.2) (.slice Ao46 t921.length co46)) (fun _ hk => ⟨hk.1.1.1, ⟨hk.1.1.2, hk.1.2⟩⟩))⟩
         have n3_ : Aside0 (Kd.R (Kd.int .i64) 3 ((w41.setCell ⟨gb925, 0, none⟩ (.int .i64 t920)).setCell ⟨gb925, 1, none⟩ (.slice Ao46 t921.length co46)) w.heap.size (fun k_ => some k_ ≠ (.slice Ao12 t903.length co12 : Value).ownBlock ∧ some k_ ≠ (.slice Ao17 t908.length co17 : Value).ownBlock ∧ some k_ ≠ (.slice Ao24 t914.length co24 : Value).ownBlock) (.slice Ao46 t921.length co46) t921) := ⟨Kd.R_g (Kd.R_mono (Kd.R_far (p := ⟨gb925, 1, none⟩) (Kd.R_far (p := ⟨gb925, 0, none⟩) (Kd.R_types HO923.out BK925.out (by decide)) (fun _ hk => hk.2) (.int .i64 t920)) (fun _ hk => hk.2) (.slice Ao46 t921.length co46)) (fun _ hk => ⟨hk.1.1.1.2, ⟨hk.1.1.2, hk.1.2⟩⟩))⟩
         have n4_ : Aside0 (((w41.setCell ⟨gb925, 0, none⟩ (.int .i64 t920)).setCell ⟨gb925, 1, none⟩ (.slice Ao46 t921.length co46)).heap[gb906]? = some (.cells #[.int .i64 t902, .slice Ao12 t903.length co12] 28 (0, 0))) := ⟨by (with_reducible repeat (first | refine blk_drewN ?_ _ | refine blk_drew ?_ | refine blk_alloc ?_ _)); refine blk_far ?_ NB906_925.out _; (with_reducible repeat (first | refine blk_drewN ?_ _ | refine blk_drew ?_ | refine blk_alloc ?_ _)); refine blk_far ?_ NB906_925.out _; (with_reducible repeat (first | refine blk_drewN ?_ _ | refine blk_drew ?_ | refine blk_alloc ?_ _)); exact BK906.out⟩
         have n5_ : Aside0 (((w41.setCell ⟨gb925, 0, none⟩ (.int .i64 t920)).setCell ⟨gb925, 1, none⟩ (.slice Ao46 t921.length co46)).heap[gb912]? = some (.cells #[.int .i64 t907, .slice Ao17 t908.length co17] 28 (0, 0))) := ⟨by (with_reducible repeat (first | refine blk_drewN ?_ _ | refine blk_drew ?_ | refine blk_alloc ?_ _)); refine blk_far ?_ NB912_925.out _; (with_reducible repeat (first | refine blk_drewN ?_ _ | refine blk_drew ?_ | refine blk_alloc ?_ _)); refine blk_far ?_ NB912_925.out _; (with_reducible repeat (first | refine blk_drewN ?_ _ | refine blk_drew ?_ | refine blk_alloc ?_ _)); exact BK912.out⟩
         have n6_ : Aside0 (((w41.setCell ⟨gb925, 0, none⟩ (.int .i64 t920)).setCell ⟨gb925, 1, none⟩ (.slice Ao46 t921.length co46)).heap[gb918]? = some (.cells #[.int .i64 t913, .slice Ao24 t914.length co24] 28 (0, 0))) := ⟨by (with_reducible repeat (first | refine blk_drewN ?_ _ | refine blk_drew ?_ | refine blk_alloc ?_ _)); refine blk_far ?_ NB918_925.out _; (with_reducible repeat (first | refine blk_drewN ?_ _ | refine blk_drew ?_ | refine blk_alloc ?_ _)); refine blk_far ?_ NB918_925.out _; (with_reducible repeat (first | refine blk_drewN ?_ _ | refine blk_drew ?_ | refine blk_alloc ?_ _)); exact BK918.out⟩
         have n7_ : Aside0 (((w41.setCell ⟨gb925, 0, none⟩ (.int .i64 t920)).setCell ⟨gb925, 1, none⟩ (.slice Ao46 t921.length co46)).heap[gb925]? = some (.cells #[.int .i64 t920, .slice Ao46 t921.length co46] 28 (0, 0))) := ⟨by (with_reducible repeat (first | refine blk_drewN ?_ _ | refine blk_drew ?_ | refine blk_alloc ?_ _)); refine blk_put (cs := #[.int .i64 t920, .slice none 0 0]) ?_ 1 _ rfl; (with_reducible repeat (first | refine blk_drewN ?_ _ | refine blk_drew ?_ | refine blk_alloc ?_ _)); refine blk_put (cs := #[.int .i64 0, .slice none 0 0]) ?_ 0 _ rfl; (with_reducible repeat (first | refine blk_drewN ?_ _ | refine blk_drew ?_ | refine blk_alloc ?_ _)); exact BK925.out⟩
         have n8_ : Aside0 (Below w.heap.size w ((w41.setCell ⟨gb925, 0, none⟩ (.int .i64 t920)).setCell ⟨gb925, 1, none⟩ (.slice Ao46 t921.length co46))) := ⟨bel_g HB.out⟩
         (try clear HO_907001)
         (try clear HO_913001)
         (try clear HO_919001)
         (try clear HO923)
         (try clear BK906)
         (try clear BK912)
         (try clear BK918)
         (try clear BK925)
         (try clear HB)
         generalize ((w41.setCell ⟨gb925, 0, none⟩ (.int .i64 t920)).setCell ⟨gb925, 1, none⟩ (.slice Ao46 t921.length co46)) = w57 at n0_ n1_ n2_ n3_ n4_ n5_ n6_ n7_ n8_ ⊢
         have HO_907001 := n0_
         have HO_913001 := n1_
         have HO_919001 := n2_
         have HO923 := n3_
         have BK906 := n4_
         have BK912 := n5_
         have BK918 := n6_
         have BK925 := n7_
         have HB := n8_
         clear n0_ n1_ n2_ n3_ n4_ n5_ n6_ n7_ n8_
         replace HO_907001 := Aside0.mk (Kd.R_drew HO_907001.out)
         replace HO_913001 := Aside0.mk (Kd.R_drew HO_913001.out)
         replace HO_919001 := Aside0.mk (Kd.R_drew HO_919001.out)
         replace HO923 := Aside0.mk (Kd.R_drew HO923.out)
         replace BK906 := Aside0.mk (blk_drew BK906.out)
         replace BK912 := Aside0.mk (blk_drew BK912.out)
         replace BK918 := Aside0.mk (blk_drew BK918.out)
         replace BK925 := Aside0.mk (blk_drew BK925.out)
         replace HB := Aside0.mk (below_drew1 HB.out)
         refine start_ (n := 15) (S := fun w' => w'.cell? ⟨gb925, 0, none⟩ = some (.int .i64 t920) ∧ w'.cell? ⟨gb925, 1, none⟩ = some (.slice Ao46 t921.length co46) ∧ w'.cell? ⟨gb906, 0, none⟩ = some (.int .i64 t902) ∧ w'.cell? ⟨gb906, 1, none⟩ = some (.slice Ao12 t903.length co12)) (ds := []) (bm 15 0) (by kernel_rfl) rfl (by kernel_rfl) ⟨(blk_cell BK925.out 0).trans rfl, (blk_cell BK925.out 1).trans rfl, (blk_cell BK906.out 0).trans rfl, (blk_cell BK906.out 1).trans rfl⟩ (fun hHeld => ?_); refine with_tabW laws_FnMirrors.tab11 laws_FnMirrors.bits11 (fun HT_ HW_ => ?_)
         generalize w57.drew = w58 at HO_907001 HO_913001 HO_919001 HO923 BK906 BK912 BK918 BK925 HB hHeld ⊢
         refine pureW 0 (some 53) (bm 15 1) HT_ ?_
         refine pureW 1 (some 54) (bm 15 3) HT_ ?_
         refine pureW 2 (some 55) (bm 15 7) HT_ ?_
         refine takeW 3 (some 56) (bm 15 15) HT_ HW_ hHeld ?_
         refine takeW 4 (some 57) (bm 15 31) HT_ HW_ hHeld ?_
         refine oneW 5 (some 58) (bm 15 63) HT_ (fun K hK => ?_)
         refine goesR Tryd.func44 #[.agg #[.int .i64 t920, .slice Ao46 t921.length co46], .agg #[.int .i64 t902, .slice Ao12 t903.length co12]] ?_
         with_reducible refine (laws_pSameOrder.calls kj7 t920 _ _ t921 t902 _ _ t903 false _ ?side1 ?side2 ?side3 ?side4 A48.out).mono ?_
         (case side1 => repeat (first | exact (Kd.R_reads' HO923.out).2.2 | (with_reducible refine Kd.C_alloc ?_ _) | (with_reducible refine Kd.C_drewN ?_ _) | (with_reducible refine Kd.C_drew ?_)))
         (case side2 => exact (Kd.R_reads' HO923.out).2.1)
         (case side3 => repeat (first | exact (Kd.R_reads' HO_907001.out).2.2 | (with_reducible refine Kd.C_alloc ?_ _) | (with_reducible refine Kd.C_drewN ?_ _) | (with_reducible refine Kd.C_drew ?_)))
         (case side4 => exact (Kd.R_reads' HO_907001.out).2.1)
         rintro e w59 ⟨rfl, hb⟩
         refine ⟨_, rfl, ?_⟩
         replace HO_907001 := Aside0.mk (Kd.R_below (Kd.R_g HO_907001.out) hb)
         replace HO_913001 := Aside0.mk (Kd.R_below (Kd.R_g HO_913001.out) hb)
         replace HO_919001 := Aside0.mk (Kd.R_below (Kd.R_g HO_919001.out) hb)
         replace HO923 := Aside0.mk (Kd.R_below (Kd.R_g HO923.out) hb)
         replace BK906 := blkB BK906 hb
         replace BK912 := blkB BK912 hb
         replace BK918 := blkB BK918 hb
         replace BK925 := blkB BK925 hb
         replace HB := bst HB hb
         (try clear hb)
         (try clear hb2)
         (try clear hk)
         (try clear hi)
         refine hK.out _ _ ⟨(blk_cell BK925.out 0).trans rfl, (blk_cell BK925.out 1).trans rfl, (blk_cell BK906.out 0).trans rfl, (blk_cell BK906.out 1).trans rfl⟩ (fun hHeld => ?_)
         clear hK K
         refine normW 58 ?_
         refine pureW 6 (some 59) (bm 15 127) HT_ ?_
         refine pureW 7 (some 60) (bm 15 255) HT_ ?_
         refine pureW 8 (some 61) (bm 15 511) HT_ ?_
         refine pure_ (i := 9) (N := some 62) (v := undef) (a' := ?_) (bm 15 1023) rfl rfl (any_of HT_.out (by kernel_rfl)) (fun _ _ _ h => h) (Or.inr ⟨by rfl, rfl⟩) ?_ ?_
         rotate_left
         ·simp only [Act.put, List.setIfInBounds_toArray, List.set_cons_zero, List.set_cons_succ, i64_w, i32_w]
          rfl
         refine pure_ (i := 10) (N := some 63) (v := undef) (a' := ?_) (bm 15 2047) rfl rfl (any_of HT_.out (by kernel_rfl)) (fun _ _ _ h => h) (Or.inr ⟨by rfl, rfl⟩) ?_ ?_
         rotate_left
         ·simp only [Act.put, List.setIfInBounds_toArray, List.set_cons_zero, List.set_cons_succ, i64_w, i32_w]
          rfl
         refine pure_ (i := 11) (N := some 64) (v := undef) (a' := ?_) (bm 15 4095) rfl rfl (any_of HT_.out (by kernel_rfl)) (fun _ _ _ h => h) (Or.inr ⟨by rfl, rfl⟩) ?_ ?_
         rotate_left
         ·simp only [Act.put, List.setIfInBounds_toArray, List.set_cons_zero, List.set_cons_succ, i64_w, i32_w]
          rfl
         refine pure_ (i := 12) (N := some 65) (v := undef) (a' := ?_) (bm 15 8191) rfl rfl (any_of HT_.out (by kernel_rfl)) (fun _ _ _ h => h) (Or.inr ⟨by rfl, rfl⟩) ?_ ?_
         rotate_left
         ·simp only [Act.put, List.setIfInBounds_toArray, List.set_cons_zero, List.set_cons_succ, i64_w, i32_w]
          rfl
         refine pure_ (i := 13) (N := some 66) (v := undef) (a' := ?_) (bm 15 16383) rfl rfl (any_of HT_.out (by kernel_rfl)) (fun _ _ _ h => h) (Or.inr ⟨by rfl, rfl⟩) ?_ ?_
         rotate_left
         ·simp only [Act.put, List.setIfInBounds_toArray, List.set_cons_zero, List.set_cons_succ, i64_w, i32_w]
          rfl
         refine pureW 14 (some 67) (bm 15 32767) HT_ ?_
         refine doneW HT_ ?_
         try go_wp2
         go_meet
         case rel => exact ⟨_, (true), eqS, H', ⟨by have := HJ7.out; first | omega | exact Nat.le_refl _⟩, ⟨Kd.R_g HO_907001.out⟩, ⟨Kd.R_g HO_913001.out⟩, ⟨Kd.R_g HO_919001.out⟩, ⟨Kd.R_g HO923.out⟩, ⟨blk_g BK906.out⟩, ⟨blk_g BK912.out⟩, ⟨blk_g BK918.out⟩, ⟨blk_g BK925.out⟩, ⟨bel_g HB.out⟩⟩
       ·replace c47 := Bool.eq_false_iff.mpr c47
        subst c47
        replace H := ifF H
        have H' := Aside0.mk H
        clear H
        try go_wp2
        have n0_ : Aside0 (Kd.R (Kd.int .i64) 3 ((w41.setCell ⟨gb925, 0, none⟩ (.int .i64 t920)).setCell ⟨gb925, 1, none⟩ (.slice Ao46 t921.length co46)) w.heap.size (fun k_ => some k_ ≠ (.slice Ao17 t908.length co17 : Value).ownBlock ∧ some k_ ≠ (.slice Ao24 t914.length co24 : Value).ownBlock ∧ some k_ ≠ (.slice Ao46 t921.length co46 : Value).ownBlock) (.slice Ao12 t903.length co12) t903) := ⟨Kd.R_g (Kd.R_mono (Kd.R_far (p := ⟨gb925, 1, none⟩) (Kd.R_far (p := ⟨gb925, 0, none⟩) (Kd.R_types HO_907001.out BK925.out (by decide)) (fun _ hk => hk.2) (.int .i64 t920)) (fun _ hk => hk.2) (.slice Ao46 t921.length co46)) (fun _ hk => ⟨hk.1.1.1, ⟨hk.1.1.2, hk.1.2⟩⟩))⟩
        have n1_ : Aside0 (Kd.R (Kd.int .i64) 3 ((w41.setCell ⟨gb925, 0, none⟩ (.int .i64 t920)).setCell ⟨gb925, 1, none⟩ (.slice Ao46 t921.length co46)) w.heap.size (fun k_ => some k_ ≠ (.slice Ao12 t903.length co12 : Value).ownBlock ∧ some k_ ≠ (.slice Ao24 t914.length co24 : Value).ownBlock ∧ some k_ ≠ (.slice Ao46 t921.length co46 : Value).ownBlock) (.slice Ao17 t908.length co17) t908) := ⟨Kd.R_g (Kd.R_mono (Kd.R_far (p := ⟨gb925, 1, none⟩) (Kd.R_far (p := ⟨gb925, 0, none⟩) (Kd.R_types HO_913001.out BK925.out (by decide)) (fun _ hk => hk.2) (.int .i64 t920)) (fun _ hk => hk.2) (.slice Ao46 t921.length co46)) (fun _ hk => ⟨hk.1.1.1, ⟨hk.1.1.2, hk.1.2⟩⟩))⟩
        have n2_ : Aside0 (Kd.R (Kd.int .i64) 3 ((w41.setCell ⟨gb925, 0, none⟩ (.int .i64 t920)).setCell ⟨gb925, 1, none⟩ (.slice Ao46 t921.length co46)) w.heap.size (fun k_ => some k_ ≠ (.slice Ao12 t903.length co12 : Value).ownBlock ∧ some k_ ≠ (.slice Ao17 t908.length co17 : Value).ownBlock ∧ some k_ ≠ (.slice Ao46 t921.length co46 : Value).ownBlock) (.slice Ao24 t914.length co24) t914) := ⟨Kd.R_g (Kd.R_mono (Kd.R_far (p := ⟨gb925, 1, none⟩) (Kd.R_far (p := ⟨gb925, 0, none⟩) (Kd.R_types HO_919001.out BK925.out (by decide)) (fun _ hk => hk.2) (.int .i64 t920)) (fun _ hk => hk.2) (.slice Ao46 t921.length co46)) (fun _ hk => ⟨hk.1.1.1, ⟨hk.1.1.2, hk.1.2⟩⟩))⟩
        have n3_ : Aside0 (Kd.R (Kd.int .i64) 3 ((w41.setCell ⟨gb925, 0, none⟩ (.int .i64 t920)).setCell ⟨gb925, 1, none⟩ (.slice Ao46 t921.length co46)) w.heap.size (fun k_ => some k_ ≠ (.slice Ao12 t903.length co12 : Value).ownBlock ∧ some k_ ≠ (.slice Ao17 t908.length co17 : Value).ownBlock ∧ some k_ ≠ (.slice Ao24 t914.length co24 : Value).ownBlock) (.slice Ao46 t921.length co46) t921) := ⟨Kd.R_g (Kd.R_mono (Kd.R_far (p := ⟨gb925, 1, none⟩) (Kd.R_far (p := ⟨gb925, 0, none⟩) (Kd.R_types HO923.out BK925.out (by decide)) (fun _ hk => hk.2) (.int .i64 t920)) (fun _ hk => hk.2) (.slice Ao46 t921.length co46)) (fun _ hk => ⟨hk.1.1.1.2, ⟨hk.1.1.2, hk.1.2⟩⟩))⟩
        have n4_ : Aside0 (((w41.setCell ⟨gb925, 0, none⟩ (.int .i64 t920)).setCell ⟨gb925, 1, none⟩ (.slice Ao46 t921.length co46)).heap[gb906]? = some (.cells #[.int .i64 t902, .slice Ao12 t903.length co12] 28 (0, 0))) := ⟨by (with_reducible repeat (first | refine blk_drewN ?_ _ | refine blk_drew ?_ | refine blk_alloc ?_ _)); refine blk_far ?_ NB906_925.out _; (with_reducible repeat (first | refine blk_drewN ?_ _ | refine blk_drew ?_ | refine blk_alloc ?_ _)); refine blk_far ?_ NB906_925.out _; (with_reducible repeat (first | refine blk_drewN ?_ _ | refine blk_drew ?_ | refine blk_alloc ?_ _)); exact BK906.out⟩
        have n5_ : Aside0 (((w41.setCell ⟨gb925, 0, none⟩ (.int .i64 t920)).setCell ⟨gb925, 1, none⟩ (.slice Ao46 t921.length co46)).heap[gb912]? = some (.cells #[.int .i64 t907, .slice Ao17 t908.length co17] 28 (0, 0))) := ⟨by (with_reducible repeat (first | refine blk_drewN ?_ _ | refine blk_drew ?_ | refine blk_alloc ?_ _)); refine blk_far ?_ NB912_925.out _; (with_reducible repeat (first | refine blk_drewN ?_ _ | refine blk_drew ?_ | refine blk_alloc ?_ _)); refine blk_far ?_ NB912_925.out _; (with_reducible repeat (first | refine blk_drewN ?_ _ | refine blk_drew ?_ | refine blk_alloc ?_ _)); exact BK912.out⟩
        have n6_ : Aside0 (((w41.setCell ⟨gb925, 0, none⟩ (.int .i64 t920)).setCell ⟨gb925, 1, none⟩ (.slice Ao46 t921.length co46)).heap[gb918]? = some (.cells #[.int .i64 t913, .slice Ao24 t914.length co24] 28 (0, 0))) := ⟨by (with_reducible repeat (first | refine blk_drewN ?_ _ | refine blk_drew ?_ | refine blk_alloc ?_ _)); refine blk_far ?_ NB918_925.out _; (with_reducible repeat (first | refine blk_drewN ?_ _ | refine blk_drew ?_ | refine blk_alloc ?_ _)); refine blk_far ?_ NB918_925.out _; (with_reducible repeat (first | refine blk_drewN ?_ _ | refine blk_drew ?_ | refine blk_alloc ?_ _)); exact BK918.out⟩
        have n7_ : Aside0 (((w41.setCell ⟨gb925, 0, none⟩ (.int .i64 t920)).setCell ⟨gb925, 1, none⟩ (.slice Ao46 t921.length co46)).heap[gb925]? = some (.cells #[.int .i64 t920, .slice Ao46 t921.length co46] 28 (0, 0))) := ⟨by (with_reducible repeat (first | refine blk_drewN ?_ _ | refine blk_drew ?_ | refine blk_alloc ?_ _)); refine blk_put (cs := #[.int .i64 t920, .slice none 0 0]) ?_ 1 _ rfl; (with_reducible repeat (first | refine blk_drewN ?_ _ | refine blk_drew ?_ | refine blk_alloc ?_ _)); refine blk_put (cs := #[.int .i64 0, .slice none 0 0]) ?_ 0 _ rfl; (with_reducible repeat (first | refine blk_drewN ?_ _ | refine blk_drew ?_ | refine blk_alloc ?_ _)); exact BK925.out⟩
        have n8_ : Aside0 (Below w.heap.size w ((w41.setCell ⟨gb925, 0, none⟩ (.int .i64 t920)).setCell ⟨gb925, 1, none⟩ (.slice Ao46 t921.length co46))) := ⟨bel_g HB.out⟩
        (try clear HO_907001)
        (try clear HO_913001)
        (try clear HO_919001)
        (try clear HO923)
        (try clear BK906)
        (try clear BK912)
        (try clear BK918)
        (try clear BK925)
        (try clear HB)
        generalize ((w41.setCell ⟨gb925, 0, none⟩ (.int .i64 t920)).setCell ⟨gb925, 1, none⟩ (.slice Ao46 t921.length co46)) = w60 at n0_ n1_ n2_ n3_ n4_ n5_ n6_ n7_ n8_ ⊢
        have HO_907001 := n0_
        have HO_913001 := n1_
        have HO_919001 := n2_
        have HO923 := n3_
        have BK906 := n4_
        have BK912 := n5_
        have BK918 := n6_
        have BK925 := n7_
        have HB := n8_
        clear n0_ n1_ n2_ n3_ n4_ n5_ n6_ n7_ n8_
        replace HO_907001 := Aside0.mk (Kd.R_drew HO_907001.out)
        replace HO_913001 := Aside0.mk (Kd.R_drew HO_913001.out)
        replace HO_919001 := Aside0.mk (Kd.R_drew HO_919001.out)
        replace HO923 := Aside0.mk (Kd.R_drew HO923.out)
        replace BK906 := Aside0.mk (blk_drew BK906.out)
        replace BK912 := Aside0.mk (blk_drew BK912.out)
        replace BK918 := Aside0.mk (blk_drew BK918.out)
        replace BK925 := Aside0.mk (blk_drew BK925.out)
        replace HB := Aside0.mk (below_drew1 HB.out)
        refine start_ (n := 15) (S := fun w' => True) (ds := []) (bm 15 0) (by kernel_rfl) rfl (by kernel_rfl) trivial (fun hHeld => ?_); refine with_tabW laws_FnMirrors.tab11 laws_FnMirrors.bits11 (fun HT_ HW_ => ?_)
        generalize w60.drew = w61 at HO_907001 HO_913001 HO_919001 HO923 BK906 BK912 BK918 BK925 HB hHeld ⊢
        refine pureW 0 (some 53) (bm 15 1) HT_ ?_
        refine pureW 1 (some 54) (bm 15 3) HT_ ?_
        refine pureW 2 (some 55) (bm 15 7) HT_ ?_
        refine pure_ (i := 3) (N := some 56) (v := undef) (a' := ?_) (bm 15 15) rfl rfl (any_of HT_.out (by kernel_rfl)) (fun _ _ _ h => h) (Or.inr ⟨by rfl, rfl⟩) ?_ ?_
        rotate_left
        ·simp only [Act.put, List.setIfInBounds_toArray, List.set_cons_zero, List.set_cons_succ, i64_w, i32_w]
         rfl
        refine pure_ (i := 4) (N := some 57) (v := undef) (a' := ?_) (bm 15 31) rfl rfl (any_of HT_.out (by kernel_rfl)) (fun _ _ _ h => h) (Or.inr ⟨by rfl, rfl⟩) ?_ ?_
        rotate_left
        ·simp only [Act.put, List.setIfInBounds_toArray, List.set_cons_zero, List.set_cons_succ, i64_w, i32_w]
         rfl
        refine pure_ (i := 5) (N := some 58) (v := undef) (a' := ?_) (bm 15 63) rfl rfl (any_of HT_.out (by kernel_rfl)) (fun _ _ _ h => h) (Or.inr ⟨by rfl, rfl⟩) ?_ ?_
        rotate_left
        ·simp only [Act.put, List.setIfInBounds_toArray, List.set_cons_zero, List.set_cons_succ, i64_w, i32_w]
         rfl
        refine pure_ (i := 6) (N := some 59) (v := undef) (a' := ?_) (bm 15 127) rfl rfl (any_of HT_.out (by kernel_rfl)) (fun _ _ _ h => h) (Or.inr ⟨by rfl, rfl⟩) ?_ ?_
        rotate_left
        ·simp only [Act.put, List.setIfInBounds_toArray, List.set_cons_zero, List.set_cons_succ, i64_w, i32_w]
         rfl
        refine pureW 7 (some 60) (bm 15 255) HT_ ?_
        refine pureW 8 (some 61) (bm 15 511) HT_ ?_
        refine pure_ (i := 9) (N := some 62) (v := undef) (a' := ?_) (bm 15 1023) rfl rfl (any_of HT_.out (by kernel_rfl)) (fun _ _ _ h => h) (Or.inr ⟨by rfl, rfl⟩) ?_ ?_
        rotate_left
        ·simp only [Act.put, List.setIfInBounds_toArray, List.set_cons_zero, List.set_cons_succ, i64_w, i32_w]
         rfl
        refine pure_ (i := 10) (N := some 63) (v := undef) (a' := ?_) (bm 15 2047) rfl rfl (any_of HT_.out (by kernel_rfl)) (fun _ _ _ h => h) (Or.inr ⟨by rfl, rfl⟩) ?_ ?_
        rotate_left
        ·simp only [Act.put, List.setIfInBounds_toArray, List.set_cons_zero, List.set_cons_succ, i64_w, i32_w]
         rfl
        refine pure_ (i := 11) (N := some 64) (v := undef) (a' := ?_) (bm 15 4095) rfl rfl (any_of HT_.out (by kernel_rfl)) (fun _ _ _ h => h) (Or.inr ⟨by rfl, rfl⟩) ?_ ?_
        rotate_left
        ·simp only [Act.put, List.setIfInBounds_toArray, List.set_cons_zero, List.set_cons_succ, i64_w, i32_w]
         rfl
        refine pure_ (i := 12) (N := some 65) (v := undef) (a' := ?_) (bm 15 8191) rfl rfl (any_of HT_.out (by kernel_rfl)) (fun _ _ _ h => h) (Or.inr ⟨by rfl, rfl⟩) ?_ ?_
        rotate_left
        ·simp only [Act.put, List.setIfInBounds_toArray, List.set_cons_zero, List.set_cons_succ, i64_w, i32_w]
         rfl
        refine pure_ (i := 13) (N := some 66) (v := undef) (a' := ?_) (bm 15 16383) rfl rfl (any_of HT_.out (by kernel_rfl)) (fun _ _ _ h => h) (Or.inr ⟨by rfl, rfl⟩) ?_ ?_
        rotate_left
        ·simp only [Act.put, List.setIfInBounds_toArray, List.set_cons_zero, List.set_cons_succ, i64_w, i32_w]
         rfl
        refine pureW 14 (some 67) (bm 15 32767) HT_ ?_
        refine doneW HT_ ?_
        try go_wp2
        go_meet
        case rel => exact ⟨_, (true), eqS, H', ⟨by have := HJ7.out; first | omega | exact Nat.le_refl _⟩, ⟨Kd.R_g HO_907001.out⟩, ⟨Kd.R_g HO_913001.out⟩, ⟨Kd.R_g HO_919001.out⟩, ⟨Kd.R_g HO923.out⟩, ⟨blk_g BK906.out⟩, ⟨blk_g BK912.out⟩, ⟨blk_g BK918.out⟩, ⟨blk_g BK925.out⟩, ⟨bel_g HB.out⟩⟩
      case rest =>
       clear HC36
       try clear c4
       try clear c47
       try clear c49
       obtain ⟨kq, x67_35, rfl, HA, HJ35, HO_907001, HO_913001, HO_919001, HO_926001, BK906, BK912, BK918, BK925, HB⟩ := hcut
       cases kq with
       | zero => exact absurd HA.out (by simp [laws_FnMirrors.j1])
       | succ kj35 =>
        have H := HA.out
        clear HA
        simp only [laws_FnMirrors.j1] at H
        by_cases c62 : x67_35 = true
        ·subst c62
         replace H := ifT H
         obtain rfl := Option.some.inj H
         go_wp2
         go_ret
         exact ⟨eqE, bel_g HB.out⟩
        ·replace c62 := Bool.eq_false_iff.mpr c62
         subst c62
         replace H := ifF H
         have H' := Aside0.mk H
         clear H
         have hnb63 := NB906_912.out
         have hnc63 := NB912_906.out
         have hnb64 := NB906_918.out
         have hnc64 := NB918_906.out
         have hnb65 := NB906_925.out
         have hnc65 := NB925_906.out
         obtain ⟨hcz66_0, hcz66_1, hfz66_0, hfz66_1⟩ := blk2 BK906
         go_wp2
         go_loopg [71] kj35 (fun kq v71 w' => ∃ (x71_3 : Int), v71 = .int .i64 x71_3 ∧ Aside0 (laws_FnMirrors.l0 kq (t903.length : Int) x71_3 t902 t903 t907 t908 = some r) ∧ Aside0 (kq ≤ kj35) ∧ Aside0 (Kd.R (Kd.int .i64) 3 w' w.heap.size (fun k_ => some k_ ≠ ((.slice Ao17 t908.length co17) : Value).ownBlock ∧ some k_ ≠ ((.slice Ao24 t914.length co24) : Value).ownBlock ∧ some k_ ≠ ((.slice Ao46 t921.length co46) : Value).ownBlock) (.slice Ao12 t903.length co12) t903) ∧ Aside0 (Kd.R (Kd.int .i64) 3 w' w.heap.size (fun k_ => some k_ ≠ ((.slice Ao12 t903.length co12) : Value).ownBlock ∧ some k_ ≠ ((.slice Ao24 t914.length co24) : Value).ownBlock ∧ some k_ ≠ ((.slice Ao46 t921.length co46) : Value).ownBlock) (.slice Ao17 t908.length co17) t908) ∧ Aside0 (Kd.R (Kd.int .i64) 3 w' w.heap.size (fun k_ => some k_ ≠ ((.slice Ao12 t903.length co12) : Value).ownBlock ∧ some k_ ≠ ((.slice Ao17 t908.length co17) : Value).ownBlock ∧ some k_ ≠ ((.slice Ao46 t921.length co46) : Value).ownBlock) (.slice Ao24 t914.length co24) t914) ∧ Aside0 (Kd.R (Kd.int .i64) 3 w' w.heap.size (fun k_ => some k_ ≠ ((.slice Ao12 t903.length co12) : Value).ownBlock ∧ some k_ ≠ ((.slice Ao17 t908.length co17) : Value).ownBlock ∧ some k_ ≠ ((.slice Ao24 t914.length co24) : Value).ownBlock) (.slice Ao46 t921.length co46) t921) ∧ Aside0 (w'.heap[gb906]? = some (.cells #[.int .i64 t902, (.slice Ao12 t903.length co12)] 28 (0, 0))) ∧ Aside0 (w'.heap[gb912]? = some (.cells #[.int .i64 t907, (.slice Ao17 t908.length co17)] 28 (0, 0))) ∧ Aside0 (w'.heap[gb918]? = some (.cells #[.int .i64 t913, (.slice Ao24 t914.length co24)] 28 (0, 0))) ∧ Aside0 (w'.heap[gb925]? = some (.cells #[.int .i64 t920, (.slice Ao46 t921.length co46)] 28 (0, 0))) ∧ Aside0 (Below w.heap.size w w'))
         case atStart => exact ⟨(0), eqS, H', ⟨Nat.le_refl _⟩, ⟨Kd.R_g HO_907001.out⟩, ⟨Kd.R_g HO_913001.out⟩, ⟨Kd.R_g HO_919001.out⟩, ⟨Kd.R_g HO_926001.out⟩, ⟨blk_g BK906.out⟩, ⟨blk_g BK912.out⟩, ⟨blk_g BK918.out⟩, ⟨blk_g BK925.out⟩, ⟨bel_g HB.out⟩⟩
         case round =>
          clear H'
          try clear c4
          try clear c47
          try clear c49
          try clear c62
          try clear hcz66_0
          try clear hcz66_1
          try clear hfz66_0
          try clear hfz66_1
          obtain ⟨x71_3, rfl, HA, HK3, HO_907001, HO_913001, HO_919001, HO_926001, BK906, BK912, BK918, BK925, HB⟩ := hrel
          cases gk with
          | zero => exact absurd HA.out (by simp [laws_FnMirrors.l0])
          | succ k3 =>
           have H := HA.out
           clear HA
           simp only [laws_FnMirrors.l0] at H
           rcases iteE H with ⟨c67b0, H⟩ | ⟨c67b0, H⟩
           ·obtain ⟨⟨t929, t930⟩, A68, H⟩ := obE H
            dsimp only at H
            obtain ⟨⟨t931, t932⟩, A69, H⟩ := obE H
            dsimp only at H
            obtain ⟨⟨t933, t934⟩, A70, H⟩ := obE H
            dsimp only at H
            have HC71 := Aside0.mk H
            clear H
            have hnb72 := NB906_912.out
            have hnc72 := NB912_906.out
            have hnb73 := NB906_918.out
            have hnc73 := NB918_906.out
            have hnb74 := NB906_925.out
            have hnc74 := NB925_906.out
            obtain ⟨hcz75_0, hcz75_1, hfz75_0, hfz75_1⟩ := blk2 BK906
            go_upto_region 19 with (first | ((with_reducible refine gate_callee (f := 46) rfl ?_); refine goesQ (some 77) Tryd.func46 #[.agg #[.int .i64 t902, .slice Ao12 t903.length co12], .int .i64 x71_3] ?_; (with_reducible refine (impl_BelowOf.calls k3 t902 _ _ t903 x71_3 t929 t930 _ ?side1 ?side2 A68.out).mono ?_); (case side1 => repeat (first | exact (Kd.R_reads' HO_907001.out).2.2 | (with_reducible refine Kd.C_alloc ?_ _) | (with_reducible refine Kd.C_drewN ?_ _) | (with_reducible refine Kd.C_drew ?_))); (case side2 => exact (Kd.R_reads' HO_907001.out).2.1); rintro e w76 ⟨rfl, hb⟩; refine ⟨_, rfl, ?_⟩; replace HO_907001 := Aside0.mk (Kd.R_below (Kd.R_g HO_907001.out) hb); replace HO_913001 := Aside0.mk (Kd.R_below (Kd.R_g HO_913001.out) hb); replace HO_919001 := Aside0.mk (Kd.R_below (Kd.R_g HO_919001.out) hb); replace HO_926001 := Aside0.mk (Kd.R_below (Kd.R_g HO_926001.out) hb); replace BK906 := blkB BK906 hb; replace BK912 := blkB BK912 hb; replace BK918 := blkB BK918 hb; replace BK925 := blkB BK925 hb; replace HB := bst HB hb; (try clear hb); (try clear hk); obtain ⟨hcz77_0, hcz77_1, hfz77_0, hfz77_1⟩ := blk2 BK906) | ((with_reducible refine gate_callee (f := 47) rfl ?_); refine goesQ (some 83) Tryd.func47 #[.agg #[.int .i64 t902, .slice Ao12 t903.length co12], .int .i64 x71_3] ?_; (with_reducible refine (impl_IndifferentTo.calls k3 t902 _ _ t903 x71_3 t931 t932 _ ?side1 ?side2 A69.out).mono ?_); (case side1 => repeat (first | exact (Kd.R_reads' HO_907001.out).2.2 | (with_reducible refine Kd.C_alloc ?_ _) | (with_reducible refine Kd.C_drewN ?_ _) | (with_reducible refine Kd.C_drew ?_))); (case side2 => exact (Kd.R_reads' HO_907001.out).2.1); rintro e w78 ⟨rfl, hb⟩; refine ⟨_, rfl, ?_⟩; replace HO_907001 := Aside0.mk (Kd.R_below (Kd.R_g HO_907001.out) hb); replace HO_913001 := Aside0.mk (Kd.R_below (Kd.R_g HO_913001.out) hb); replace HO_919001 := Aside0.mk (Kd.R_below (Kd.R_g HO_919001.out) hb); replace HO_926001 := Aside0.mk (Kd.R_below (Kd.R_g HO_926001.out) hb); replace BK906 := blkB BK906 hb; replace BK912 := blkB BK912 hb; replace BK918 := blkB BK918 hb; replace BK925 := blkB BK925 hb; replace HB := bst HB hb; (try clear hb); (try clear hk); have hnb79 := NB912_918.out; have hnc79 := NB918_912.out; have hnb80 := NB912_925.out; have hnc80 := NB925_912.out; obtain ⟨hcz81_0, hcz81_1, hfz81_0, hfz81_1⟩ := blk2 BK912) | ((with_reducible refine gate_callee (f := 47) rfl ?_); refine goesQ (some 89) Tryd.func47 #[.agg #[.int .i64 t907, .slice Ao17 t908.length co17], .int .i64 x71_3] ?_; (with_reducible refine (impl_IndifferentTo.calls k3 t907 _ _ t908 x71_3 t933 t934 _ ?side1 ?side2 A70.out).mono ?_); (case side1 => repeat (first | exact (Kd.R_reads' HO_913001.out).2.2 | (with_reducible refine Kd.C_alloc ?_ _) | (with_reducible refine Kd.C_drewN ?_ _) | (with_reducible refine Kd.C_drew ?_))); (case side2 => exact (Kd.R_reads' HO_913001.out).2.1); rintro e w82 ⟨rfl, hb⟩; refine ⟨_, rfl, ?_⟩; replace HO_907001 := Aside0.mk (Kd.R_below (Kd.R_g HO_907001.out) hb); replace HO_913001 := Aside0.mk (Kd.R_below (Kd.R_g HO_913001.out) hb); replace HO_919001 := Aside0.mk (Kd.R_below (Kd.R_g HO_919001.out) hb); replace HO_926001 := Aside0.mk (Kd.R_below (Kd.R_g HO_926001.out) hb); replace BK906 := blkB BK906 hb; replace BK912 := blkB BK912 hb; replace BK918 := blkB BK918 hb; replace BK925 := blkB BK925 hb; replace HB := bst HB hb; (try clear hb); (try clear hk)))
            (try simp only [Act.put, List.setIfInBounds_toArray, List.set_cons_zero, List.set_cons_succ])
            go_cut [120] (fun v120 wc => ∃ (kq : Nat) (x120_70 : Bool), v120 = .bool x120_70 ∧ Aside0 (laws_FnMirrors.j3 kq x71_3 t929 t931 (t903.length : Int) x71_3 x120_70 t902 t903 t907 t908 = some r) ∧ Aside0 (kq ≤ k3) ∧ Aside0 (Kd.R (Kd.int .i64) 3 wc w.heap.size (fun k_ => some k_ ≠ ((.slice Ao17 t908.length co17) : Value).ownBlock ∧ some k_ ≠ ((.slice Ao24 t914.length co24) : Value).ownBlock ∧ some k_ ≠ ((.slice Ao46 t921.length co46) : Value).ownBlock) (.slice Ao12 t903.length co12) t903) ∧ Aside0 (Kd.R (Kd.int .i64) 3 wc w.heap.size (fun k_ => some k_ ≠ ((.slice Ao12 t903.length co12) : Value).ownBlock ∧ some k_ ≠ ((.slice Ao24 t914.length co24) : Value).ownBlock ∧ some k_ ≠ ((.slice Ao46 t921.length co46) : Value).ownBlock) (.slice Ao17 t908.length co17) t908) ∧ Aside0 (Kd.R (Kd.int .i64) 3 wc w.heap.size (fun k_ => some k_ ≠ ((.slice Ao12 t903.length co12) : Value).ownBlock ∧ some k_ ≠ ((.slice Ao17 t908.length co17) : Value).ownBlock ∧ some k_ ≠ ((.slice Ao46 t921.length co46) : Value).ownBlock) (.slice Ao24 t914.length co24) t914) ∧ Aside0 (Kd.R (Kd.int .i64) 3 wc w.heap.size (fun k_ => some k_ ≠ ((.slice Ao12 t903.length co12) : Value).ownBlock ∧ some k_ ≠ ((.slice Ao17 t908.length co17) : Value).ownBlock ∧ some k_ ≠ ((.slice Ao24 t914.length co24) : Value).ownBlock) (.slice Ao46 t921.length co46) t921) ∧ Aside0 (wc.heap[gb906]? = some (.cells #[.int .i64 t902, (.slice Ao12 t903.length co12)] 28 (0, 0))) ∧ Aside0 (wc.heap[gb912]? = some (.cells #[.int .i64 t907, (.slice Ao17 t908.length co17)] 28 (0, 0))) ∧ Aside0 (wc.heap[gb918]? = some (.cells #[.int .i64 t913, (.slice Ao24 t914.length co24)] 28 (0, 0))) ∧ Aside0 (wc.heap[gb925]? = some (.cells #[.int .i64 t920, (.slice Ao46 t921.length co46)] 28 (0, 0))) ∧ Aside0 (Below w.heap.size w wc))
            case first =>
             have H := HC71.out
             clear HC71
             by_cases c83 : t930 = true
             ·subst c83
              replace H := ifT H
              by_cases c84 : t932 = true
              ·subst c84
               replace H := ifT H
               by_cases c85 : t934 = true
               ·subst c85
                replace H := ifT H
                rcases iteP H with ⟨c86, H⟩ | ⟨c86, H⟩
                ·have c86b0 : decide (0 ≤ x71_3) = true := decide_eq_true c86
                 clear c86
                 (first | rw [c86b0] | (simp only [i64_w, i32_w]; rw [c86b0]) | skip)
                 rcases iteP H with ⟨c87, H⟩ | ⟨c87, H⟩
                 ·have c87b0 : decide (x71_3 < (t908.length : Int)) = true := decide_eq_true c87
                  clear c87
                  rcases iteP H with ⟨c88, H⟩ | ⟨c88, H⟩
                  ·have c88b0 : (t929 == (rd t908 x71_3)) = true := beq_iff_eq.mpr c88
                   have c88b1 : (t929 != (rd t908 x71_3)) = false := bne_eq_false_iff_eq.mpr c88
                   clear c88
                   rcases iteP H with ⟨c89, H⟩ | ⟨c89, H⟩
                   ·have c89b0 : (t931 == t933) = true := beq_iff_eq.mpr c89
                    have c89b1 : (t931 != t933) = false := bne_eq_false_iff_eq.mpr c89
                    clear c89
                    obtain ⟨t936, A90, H⟩ := obE H
                    have H' := Aside0.mk H
                    clear H
                    have hnb91 := NB912_906.out
                    have hnc91 := NB906_912.out
                    have hnb92 := NB912_918.out
                    have hnc92 := NB918_912.out
                    have hnb93 := NB912_925.out
                    have hnc93 := NB925_912.out
                    obtain ⟨hcz94_0, hcz94_1, hfz94_0, hfz94_1⟩ := blk2 BK912
                    have p935 : 0 ≤ (x71_3 : Int) := ofd
                    have q935 : x71_3 < (t908.length : Int) := ofd
                    obtain ⟨ad935, e935, hx935_0⟩ := Kd.at_int (Kd.R_reads' HO_913001.out).2.2 x71_3 p935 q935
                    cases e935
                    replace p935 := eq_true p935
                    replace q935 := eq_true q935
                    go_wp2_with (first | (go_at_call 48; (with_reducible refine (laws_pIn.calls t931 x71_3 t936 _ A90.out).mono ?_); rintro e w' ⟨rfl, ⟨nd, rfl⟩⟩))
                    go_meet
                    case rel => exact ⟨_, (t936), eqS, H', ⟨by have := HJ7.out; have := HJ35.out; have := HK3.out; first | omega | exact Nat.le_refl _⟩, ⟨Kd.R_g HO_907001.out⟩, ⟨Kd.R_g HO_913001.out⟩, ⟨Kd.R_g HO_919001.out⟩, ⟨Kd.R_g HO_926001.out⟩, ⟨blk_g BK906.out⟩, ⟨blk_g BK912.out⟩, ⟨blk_g BK918.out⟩, ⟨blk_g BK925.out⟩, ⟨bel_g HB.out⟩⟩
                   ·have c89b0 : (t931 == t933) = false := beq_eq_false_iff_ne.mpr c89
                    have c89b1 : (t931 != t933) = true := bne_iff_ne.mpr c89
                    have H' := Aside0.mk H
                    clear H
                    have hnb95 := NB912_906.out
                    have hnc95 := NB906_912.out
                    have hnb96 := NB912_918.out
                    have hnc96 := NB918_912.out
                    have hnb97 := NB912_925.out
                    have hnc97 := NB925_912.out
                    obtain ⟨hcz98_0, hcz98_1, hfz98_0, hfz98_1⟩ := blk2 BK912
                    have p935 : 0 ≤ (x71_3 : Int) := ofd
                    have q935 : x71_3 < (t908.length : Int) := ofd
                    obtain ⟨ad935, e935, hx935_0⟩ := Kd.at_int (Kd.R_reads' HO_913001.out).2.2 x71_3 p935 q935
                    cases e935
                    replace p935 := eq_true p935
                    replace q935 := eq_true q935
                    go_wp2
                    go_meet
                    case rel => exact ⟨_, (true), eqS, H', ⟨by have := HJ7.out; have := HJ35.out; have := HK3.out; first | omega | exact Nat.le_refl _⟩, ⟨Kd.R_g HO_907001.out⟩, ⟨Kd.R_g HO_913001.out⟩, ⟨Kd.R_g HO_919001.out⟩, ⟨Kd.R_g HO_926001.out⟩, ⟨blk_g BK906.out⟩, ⟨blk_g BK912.out⟩, ⟨blk_g BK918.out⟩, ⟨blk_g BK925.out⟩, ⟨bel_g HB.out⟩⟩
                  ·have c88b0 : (t929 == (rd t908 x71_3)) = false := beq_eq_false_iff_ne.mpr c88
                   have c88b1 : (t929 != (rd t908 x71_3)) = true := bne_iff_ne.mpr c88
                   have H' := Aside0.mk H
                   clear H
                   have hnb99 := NB912_906.out
                   have hnc99 := NB906_912.out
                   have hnb100 := NB912_918.out
                   have hnc100 := NB918_912.out
                   have hnb101 := NB912_925.out
                   have hnc101 := NB925_912.out
                   obtain ⟨hcz102_0, hcz102_1, hfz102_0, hfz102_1⟩ := blk2 BK912
                   have p935 : 0 ≤ (x71_3 : Int) := ofd
                   have q935 : x71_3 < (t908.length : Int) := ofd
                   obtain ⟨ad935, e935, hx935_0⟩ := Kd.at_int (Kd.R_reads' HO_913001.out).2.2 x71_3 p935 q935
                   cases e935
                   replace p935 := eq_true p935
                   replace q935 := eq_true q935
                   go_wp2
                   go_meet
                   case rel => exact ⟨_, (true), eqS, H', ⟨by have := HJ7.out; have := HJ35.out; have := HK3.out; first | omega | exact Nat.le_refl _⟩, ⟨Kd.R_g HO_907001.out⟩, ⟨Kd.R_g HO_913001.out⟩, ⟨Kd.R_g HO_919001.out⟩, ⟨Kd.R_g HO_926001.out⟩, ⟨blk_g BK906.out⟩, ⟨blk_g BK912.out⟩, ⟨blk_g BK918.out⟩, ⟨blk_g BK925.out⟩, ⟨bel_g HB.out⟩⟩
                 ·exact absurd H (by simp)
                ·exact absurd H (by simp)
               ·replace c85 := Bool.eq_false_iff.mpr c85
                subst c85
                replace H := ifF H
                have H' := Aside0.mk H
                clear H
                go_wp2
                go_meet
                case rel => exact ⟨_, (true), eqS, H', ⟨by have := HJ7.out; have := HJ35.out; have := HK3.out; first | omega | exact Nat.le_refl _⟩, ⟨Kd.R_g HO_907001.out⟩, ⟨Kd.R_g HO_913001.out⟩, ⟨Kd.R_g HO_919001.out⟩, ⟨Kd.R_g HO_926001.out⟩, ⟨blk_g BK906.out⟩, ⟨blk_g BK912.out⟩, ⟨blk_g BK918.out⟩, ⟨blk_g BK925.out⟩, ⟨bel_g HB.out⟩⟩
              ·replace c84 := Bool.eq_false_iff.mpr c84
               subst c84
               replace H := ifF H
               have H' := Aside0.mk H
               clear H
               go_wp2
               go_meet
               case rel => exact ⟨_, (true), eqS, H', ⟨by have := HJ7.out; have := HJ35.out; have := HK3.out; first | omega | exact Nat.le_refl _⟩, ⟨Kd.R_g HO_907001.out⟩, ⟨Kd.R_g HO_913001.out⟩, ⟨Kd.R_g HO_919001.out⟩, ⟨Kd.R_g HO_926001.out⟩, ⟨blk_g BK906.out⟩, ⟨blk_g BK912.out⟩, ⟨blk_g BK918.out⟩, ⟨blk_g BK925.out⟩, ⟨bel_g HB.out⟩⟩
             ·replace c83 := Bool.eq_false_iff.mpr c83
              subst c83
              replace H := ifF H
              have H' := Aside0.mk H
              clear H
              go_wp2
              go_meet
              case rel => exact ⟨_, (true), eqS, H', ⟨by have := HJ7.out; have := HJ35.out; have := HK3.out; first | omega | exact Nat.le_refl _⟩, ⟨Kd.R_g HO_907001.out⟩, ⟨Kd.R_g HO_913001.out⟩, ⟨Kd.R_g HO_919001.out⟩, ⟨Kd.R_g HO_926001.out⟩, ⟨blk_g BK906.out⟩, ⟨blk_g BK912.out⟩, ⟨blk_g BK918.out⟩, ⟨blk_g BK925.out⟩, ⟨bel_g HB.out⟩⟩
            case rest =>
             clear HC71
             try clear c1
             try clear c4
             try clear c47
             try clear c49
             try clear c62
             try clear c67b0
             try clear c83
             try clear c84
             try clear c85
             try clear c86
             try clear c86b0
             try clear c87
             try clear c87b0
             try clear c88
             try clear c88b0
             try clear c88b1
             try clear c89
             try clear c89b0
             try clear c89b1
             try clear hcz102_0
             try clear hcz102_1
             try clear hcz66_0
             try clear hcz66_1
             try clear hcz75_0
             try clear hcz75_1
             try clear hcz77_0
             try clear hcz77_1
             try clear hcz81_0
             try clear hcz81_1
             try clear hcz94_0
             try clear hcz94_1
             try clear hcz98_0
             try clear hcz98_1
             try clear hfz102_0
             try clear hfz102_1
             try clear hfz66_0
             try clear hfz66_1
             try clear hfz75_0
             try clear hfz75_1
             try clear hfz77_0
             try clear hfz77_1
             try clear hfz81_0
             try clear hfz81_1
             try clear hfz94_0
             try clear hfz94_1
             try clear hfz98_0
             try clear hfz98_1
             try clear hx935_0
             try clear p935
             try clear q935
             obtain ⟨kq, x120_70, rfl, HA, HJ70, HO_907001, HO_913001, HO_919001, HO_926001, BK906, BK912, BK918, BK925, HB⟩ := hcut
             cases kq with
             | zero => exact absurd HA.out (by simp [laws_FnMirrors.j3])
             | succ kj70 =>
              have H := HA.out
              clear HA
              simp only [laws_FnMirrors.j3] at H
              by_cases c103 : x120_70 = true
              ·subst c103
               replace H := ifT H
               obtain rfl := Option.some.inj H
               go_wp2
               go_ret
               exact ⟨eqE, bel_g HB.out⟩
              ·replace c103 := Bool.eq_false_iff.mpr c103
               subst c103
               replace H := ifF H
               have H' := Aside0.mk H
               clear H
               have hnb104 := NB906_912.out
               have hnc104 := NB912_906.out
               have hnb105 := NB906_918.out
               have hnc105 := NB918_906.out
               have hnb106 := NB906_925.out
               have hnc106 := NB925_906.out
               obtain ⟨hcz107_0, hcz107_1, hfz107_0, hfz107_1⟩ := blk2 BK906
               go_wp2
               go_loopg [124] kj70 (fun kq v124 w' => ∃ (x124_5 : Int), v124 = .int .i64 x124_5 ∧ Aside0 (laws_FnMirrors.l1 kq x71_3 t929 t931 (t903.length : Int) x71_3 (t903.length : Int) x124_5 t902 t903 t907 t908 = some r) ∧ Aside0 (kq ≤ kj70) ∧ Aside0 (Kd.R (Kd.int .i64) 3 w' w.heap.size (fun k_ => some k_ ≠ ((.slice Ao17 t908.length co17) : Value).ownBlock ∧ some k_ ≠ ((.slice Ao24 t914.length co24) : Value).ownBlock ∧ some k_ ≠ ((.slice Ao46 t921.length co46) : Value).ownBlock) (.slice Ao12 t903.length co12) t903) ∧ Aside0 (Kd.R (Kd.int .i64) 3 w' w.heap.size (fun k_ => some k_ ≠ ((.slice Ao12 t903.length co12) : Value).ownBlock ∧ some k_ ≠ ((.slice Ao24 t914.length co24) : Value).ownBlock ∧ some k_ ≠ ((.slice Ao46 t921.length co46) : Value).ownBlock) (.slice Ao17 t908.length co17) t908) ∧ Aside0 (Kd.R (Kd.int .i64) 3 w' w.heap.size (fun k_ => some k_ ≠ ((.slice Ao12 t903.length co12) : Value).ownBlock ∧ some k_ ≠ ((.slice Ao17 t908.length co17) : Value).ownBlock ∧ some k_ ≠ ((.slice Ao46 t921.length co46) : Value).ownBlock) (.slice Ao24 t914.length co24) t914) ∧ Aside0 (Kd.R (Kd.int .i64) 3 w' w.heap.size (fun k_ => some k_ ≠ ((.slice Ao12 t903.length co12) : Value).ownBlock ∧ some k_ ≠ ((.slice Ao17 t908.length co17) : Value).ownBlock ∧ some k_ ≠ ((.slice Ao24 t914.length co24) : Value).ownBlock) (.slice Ao46 t921.length co46) t921) ∧ Aside0 (w'.heap[gb906]? = some (.cells #[.int .i64 t902, (.slice Ao12 t903.length co12)] 28 (0, 0))) ∧ Aside0 (w'.heap[gb912]? = some (.cells #[.int .i64 t907, (.slice Ao17 t908.length co17)] 28 (0, 0))) ∧ Aside0 (w'.heap[gb918]? = some (.cells #[.int .i64 t913, (.slice Ao24 t914.length co24)] 28 (0, 0))) ∧ Aside0 (w'.heap[gb925]? = some (.cells #[.int .i64 t920, (.slice Ao46 t921.length co46)] 28 (0, 0))) ∧ Aside0 (Below w.heap.size w w'))
               case atStart => exact ⟨(0), eqS, H', ⟨Nat.le_refl _⟩, ⟨Kd.R_g HO_907001.out⟩, ⟨Kd.R_g HO_913001.out⟩, ⟨Kd.R_g HO_919001.out⟩, ⟨Kd.R_g HO_926001.out⟩, ⟨blk_g BK906.out⟩, ⟨blk_g BK912.out⟩, ⟨blk_g BK918.out⟩, ⟨blk_g BK925.out⟩, ⟨bel_g HB.out⟩⟩
               case round =>
                clear H'
                try clear c1
                try clear c4
                try clear c47
                try clear c49
                try clear c62
                try clear c67b0
                try clear c83
                try clear c84
                try clear c85
                try clear c86
                try clear c86b0
                try clear c87
                try clear c87b0
                try clear c88
                try clear c88b0
                try clear c88b1
                try clear c89
                try clear c89b0
                try clear c89b1
                try clear c103
                try clear hcz102_0
                try clear hcz102_1
                try clear hcz107_0
                try clear hcz107_1
                try clear hcz66_0
                try clear hcz66_1
                try clear hcz75_0
                try clear hcz75_1
                try clear hcz77_0
                try clear hcz77_1
                try clear hcz81_0
                try clear hcz81_1
                try clear hcz94_0
                try clear hcz94_1
                try clear hcz98_0
                try clear hcz98_1
                try clear hfz102_0
                try clear hfz102_1
                try clear hfz107_0
                try clear hfz107_1
                try clear hfz66_0
                try clear hfz66_1
                try clear hfz75_0
                try clear hfz75_1
                try clear hfz77_0
                try clear hfz77_1
                try clear hfz81_0
                try clear hfz81_1
                try clear hfz94_0
                try clear hfz94_1
                try clear hfz98_0
                try clear hfz98_1
                try clear hx935_0
                try clear p935
                try clear q935
                obtain ⟨x124_5, rfl, HA, HK5, HO_907001, HO_913001, HO_919001, HO_926001, BK906, BK912, BK918, BK925, HB⟩ := hrel
                cases gk with
                | zero => exact absurd HA.out (by simp [laws_FnMirrors.l1])
                | succ k5 =>
                 have H := HA.out
                 clear HA
                 simp only [laws_FnMirrors.l1] at H
                 rcases iteE H with ⟨c108b0, H⟩ | ⟨c108b0, H⟩
                 ·obtain ⟨⟨t937, t938⟩, A109, H⟩ := obE H
                  dsimp only at H
                  by_cases c110 : t938 = true
                  ·subst c110
                   replace H := ifT H
                   rcases iteP H with ⟨c111, H⟩ | ⟨c111, H⟩
                   ·have c111b0 : decide (0 ≤ x71_3) = true := decide_eq_true c111
                    clear c111
                    rcases iteP H with ⟨c112, H⟩ | ⟨c112, H⟩
                    ·have c112b0 : decide (x71_3 < (t903.length : Int)) = true := decide_eq_true c112
                     clear c112
                     obtain ⟨t940, A113, H⟩ := obE H
                     rcases iteP H with ⟨c114, H⟩ | ⟨c114, H⟩
                     ·have c114b0 : (t937 != t940) = true := c114
                      (try (have c114b1 : decide (t937 = t940) = false := by simpa using c114))
                      (try (have c114b2 : (t937 == t940) = false := by simpa using c114))
                      (try (have c114b3 : ¬ (t937 = t940) := by simpa using c114))
                      clear c114
                      obtain rfl := Option.some.inj H
                      have hnb115 := NB906_912.out
                      have hnc115 := NB912_906.out
                      have hnb116 := NB906_918.out
                      have hnc116 := NB918_906.out
                      have hnb117 := NB906_925.out
                      have hnc117 := NB925_906.out
                      obtain ⟨hcz118_0, hcz118_1, hfz118_0, hfz118_1⟩ := blk2 BK906
                      go_wp2_with (first | ((with_reducible refine gate_callee (f := 49) rfl ?_); refine goesQ (some 131) Tryd.func49 #[.agg #[.int .i64 t902, .slice Ao12 t903.length co12], .int .i64 x71_3, .int .i64 x124_5] ?_; (with_reducible refine (impl_IsBetter.calls k5 t902 _ _ t903 x71_3 x124_5 t937 true _ ?side1 ?side2 A109.out).mono ?_); (case side1 => repeat (first | exact (Kd.R_reads' HO_907001.out).2.2 | (with_reducible refine Kd.C_alloc ?_ _) | (with_reducible refine Kd.C_drewN ?_ _) | (with_reducible refine Kd.C_drew ?_))); (case side2 => exact (Kd.R_reads' HO_907001.out).2.1); rintro e w119 ⟨rfl, hb⟩; refine ⟨_, rfl, ?_⟩; replace HO_907001 := Aside0.mk (Kd.R_below (Kd.R_g HO_907001.out) hb); replace HO_913001 := Aside0.mk (Kd.R_below (Kd.R_g HO_913001.out) hb); replace HO_919001 := Aside0.mk (Kd.R_below (Kd.R_g HO_919001.out) hb); replace HO_926001 := Aside0.mk (Kd.R_below (Kd.R_g HO_926001.out) hb); replace BK906 := blkB BK906 hb; replace BK912 := blkB BK912 hb; replace BK918 := blkB BK918 hb; replace BK925 := blkB BK925 hb; replace HB := bst HB hb; (try clear hb); (try clear hk); obtain ⟨hcz120_0, hcz120_1, hfz120_0, hfz120_1⟩ := blk2 BK906; have p939 : 0 ≤ (x71_3 : Int) := ofd; have q939 : x71_3 < (t903.length : Int) := ofd; obtain ⟨ad939, e939, hx939_0⟩ := Kd.at_int (Kd.R_reads' HO_907001.out).2.2 x71_3 p939 q939; cases e939; replace p939 := eq_true p939; replace q939 := eq_true q939) | (go_at_call 48; (with_reducible refine (laws_pIn.calls (rd t903 x71_3) x124_5 t940 _ A113.out).mono ?_); rintro e w' ⟨rfl, ⟨nd, rfl⟩⟩))
                      go_ret
                      exact ⟨eqE, bel_g HB.out⟩
                     ·have c114b0 : (t937 != t940) = false := by simpa using c114
                      (try (have c114b1 : decide (t937 = t940) = true := by simpa using c114))
                      (try (have c114b2 : (t937 == t940) = true := by simpa using c114))
                      clear c114
                      rcases iteP H with ⟨c121, H⟩ | ⟨c121, H⟩
                      ·have c121b0 : (x71_3 == x124_5) = true := beq_iff_eq.mpr c121
                       have c121b1 : (x71_3 != x124_5) = false := bne_eq_false_iff_eq.mpr c121
                       clear c121
                       have H' := Aside0.mk H
                       clear H
                       have hnb122 := NB906_912.out
                       have hnc122 := NB912_906.out
                       have hnb123 := NB906_918.out
                       have hnc123 := NB918_906.out
                       have hnb124 := NB906_925.out
                       have hnc124 := NB925_906.out
                       obtain ⟨hcz125_0, hcz125_1, hfz125_0, hfz125_1⟩ := blk2 BK906
                       go_wp2_with (first | ((with_reducible refine gate_callee (f := 49) rfl ?_); refine goesQ (some 131) Tryd.func49 #[.agg #[.int .i64 t902, .slice Ao12 t903.length co12], .int .i64 x71_3, .int .i64 x124_5] ?_; (with_reducible refine (impl_IsBetter.calls k5 t902 _ _ t903 x71_3 x124_5 t937 true _ ?side1 ?side2 A109.out).mono ?_); (case side1 => repeat (first | exact (Kd.R_reads' HO_907001.out).2.2 | (with_reducible refine Kd.C_alloc ?_ _) | (with_reducible refine Kd.C_drewN ?_ _) | (with_reducible refine Kd.C_drew ?_))); (case side2 => exact (Kd.R_reads' HO_907001.out).2.1); rintro e w126 ⟨rfl, hb⟩; refine ⟨_, rfl, ?_⟩; replace HO_907001 := Aside0.mk (Kd.R_below (Kd.R_g HO_907001.out) hb); replace HO_913001 := Aside0.mk (Kd.R_below (Kd.R_g HO_913001.out) hb); replace HO_919001 := Aside0.mk (Kd.R_below (Kd.R_g HO_919001.out) hb); replace HO_926001 := Aside0.mk (Kd.R_below (Kd.R_g HO_926001.out) hb); replace BK906 := blkB BK906 hb; replace BK912 := blkB BK912 hb; replace BK918 := blkB BK918 hb; replace BK925 := blkB BK925 hb; replace HB := bst HB hb; (try clear hb); (try clear hk); obtain ⟨hcz127_0, hcz127_1, hfz127_0, hfz127_1⟩ := blk2 BK906; have p939 : 0 ≤ (x71_3 : Int) := ofd; have q939 : x71_3 < (t903.length : Int) := ofd; obtain ⟨ad939, e939, hx939_0⟩ := Kd.at_int (Kd.R_reads' HO_907001.out).2.2 x71_3 p939 q939; cases e939; replace p939 := eq_true p939; replace q939 := eq_true q939) | (go_at_call 48; (with_reducible refine (laws_pIn.calls (rd t903 x71_3) x124_5 t940 _ A113.out).mono ?_); rintro e w' ⟨rfl, ⟨nd, rfl⟩⟩))
                       go_roundg k5
                       case measure => have := HJ7.out; have := HJ35.out; have := HK3.out; have := HJ70.out; have := HK5.out; omega
                       case rel => exact ⟨(wrap64 (x124_5 + 1)), eqS, H', ⟨by have := HJ7.out; have := HJ35.out; have := HK3.out; have := HJ70.out; have := HK5.out; omega⟩, ⟨Kd.R_g HO_907001.out⟩, ⟨Kd.R_g HO_913001.out⟩, ⟨Kd.R_g HO_919001.out⟩, ⟨Kd.R_g HO_926001.out⟩, ⟨blk_g BK906.out⟩, ⟨blk_g BK912.out⟩, ⟨blk_g BK918.out⟩, ⟨blk_g BK925.out⟩, ⟨bel_g HB.out⟩⟩
                      ·have c121b0 : (x71_3 == x124_5) = false := beq_eq_false_iff_ne.mpr c121
                       have c121b1 : (x71_3 != x124_5) = true := bne_iff_ne.mpr c121
                       obtain ⟨t941, A128, H⟩ := obE H
                       by_cases c129 : t937 = true
                       ·subst c129
                        replace H := ifT H
                        rcases iteP H with ⟨c130, H⟩ | ⟨c130, H⟩
                        ·have c130b0 : (t941 == true) = true := c130
                         (try (have c130b1 : decide (t941 = true) = true := by simpa using c130))
                         (try (have c130b2 : (t941 == true) = true := by simpa using c130))
                         clear c130
                         obtain rfl := Option.some.inj H
                         have hnb131 := NB906_912.out
                         have hnc131 := NB912_906.out
                         have hnb132 := NB906_918.out
                         have hnc132 := NB918_906.out
                         have hnb133 := NB906_925.out
                         have hnc133 := NB925_906.out
                         obtain ⟨hcz134_0, hcz134_1, hfz134_0, hfz134_1⟩ := blk2 BK906
                         go_wp2_with (first | ((with_reducible refine gate_callee (f := 49) rfl ?_); refine goesQ (some 131) Tryd.func49 #[.agg #[.int .i64 t902, .slice Ao12 t903.length co12], .int .i64 x71_3, .int .i64 x124_5] ?_; (with_reducible refine (impl_IsBetter.calls k5 t902 _ _ t903 x71_3 x124_5 true true _ ?side1 ?side2 A109.out).mono ?_); (case side1 => repeat (first | exact (Kd.R_reads' HO_907001.out).2.2 | (with_reducible refine Kd.C_alloc ?_ _) | (with_reducible refine Kd.C_drewN ?_ _) | (with_reducible refine Kd.C_drew ?_))); (case side2 => exact (Kd.R_reads' HO_907001.out).2.1); rintro e w135 ⟨rfl, hb⟩; refine ⟨_, rfl, ?_⟩; replace HO_907001 := Aside0.mk (Kd.R_below (Kd.R_g HO_907001.out) hb); replace HO_913001 := Aside0.mk (Kd.R_below (Kd.R_g HO_913001.out) hb); replace HO_919001 := Aside0.mk (Kd.R_below (Kd.R_g HO_919001.out) hb); replace HO_926001 := Aside0.mk (Kd.R_below (Kd.R_g HO_926001.out) hb); replace BK906 := blkB BK906 hb; replace BK912 := blkB BK912 hb; replace BK918 := blkB BK918 hb; replace BK925 := blkB BK925 hb; replace HB := bst HB hb; (try clear hb); (try clear hk); obtain ⟨hcz136_0, hcz136_1, hfz136_0, hfz136_1⟩ := blk2 BK906; have p939 : 0 ≤ (x71_3 : Int) := ofd; have q939 : x71_3 < (t903.length : Int) := ofd; obtain ⟨ad939, e939, hx939_0⟩ := Kd.at_int (Kd.R_reads' HO_907001.out).2.2 x71_3 p939 q939; cases e939; replace p939 := eq_true p939; replace q939 := eq_true q939) | (go_at_call 48; (with_reducible refine (laws_pIn.calls (rd t903 x71_3) x124_5 t940 _ A113.out).mono ?_); rintro e w' ⟨rfl, ⟨nd, rfl⟩⟩) | (go_at_call 48; (with_reducible refine (laws_pIn.calls t931 x124_5 t941 _ A128.out).mono ?_); rintro e w' ⟨rfl, ⟨nd, rfl⟩⟩))
                         go_ret
                         exact ⟨eqE, bel_g HB.out⟩
                        ·have c130b0 : (t941 == true) = false := by simpa using c130
                         (try (have c130b1 : decide (t941 = true) = false := by simpa using c130))
                         (try (have c130b2 : (t941 == true) = false := by simpa using c130))
                         (try (have c130b3 : ¬ (t941 = true) := by simpa using c130))
                         clear c130
                         have H' := Aside0.mk H
                         clear H
                         have hnb137 := NB906_912.out
                         have hnc137 := NB912_906.out
                         have hnb138 := NB906_918.out
                         have hnc138 := NB918_906.out
                         have hnb139 := NB906_925.out
                         have hnc139 := NB925_906.out
                         obtain ⟨hcz140_0, hcz140_1, hfz140_0, hfz140_1⟩ := blk2 BK906
                         go_wp2_with (first | ((with_reducible refine gate_callee (f := 49) rfl ?_); refine goesQ (some 131) Tryd.func49 #[.agg #[.int .i64 t902, .slice Ao12 t903.length co12], .int .i64 x71_3, .int .i64 x124_5] ?_; (with_reducible refine (impl_IsBetter.calls k5 t902 _ _ t903 x71_3 x124_5 true true _ ?side1 ?side2 A109.out).mono ?_); (case side1 => repeat (first | exact (Kd.R_reads' HO_907001.out).2.2 | (with_reducible refine Kd.C_alloc ?_ _) | (with_reducible refine Kd.C_drewN ?_ _) | (with_reducible refine Kd.C_drew ?_))); (case side2 => exact (Kd.R_reads' HO_907001.out).2.1); rintro e w141 ⟨rfl, hb⟩; refine ⟨_, rfl, ?_⟩; replace HO_907001 := Aside0.mk (Kd.R_below (Kd.R_g HO_907001.out) hb); replace HO_913001 := Aside0.mk (Kd.R_below (Kd.R_g HO_913001.out) hb); replace HO_919001 := Aside0.mk (Kd.R_below (Kd.R_g HO_919001.out) hb); replace HO_926001 := Aside0.mk (Kd.R_below (Kd.R_g HO_926001.out) hb); replace BK906 := blkB BK906 hb; replace BK912 := blkB BK912 hb; replace BK918 := blkB BK918 hb; replace BK925 := blkB BK925 hb; replace HB := bst HB hb; (try clear hb); (try clear hk); obtain ⟨hcz142_0, hcz142_1, hfz142_0, hfz142_1⟩ := blk2 BK906; have p939 : 0 ≤ (x71_3 : Int) := ofd; have q939 : x71_3 < (t903.length : Int) := ofd; obtain ⟨ad939, e939, hx939_0⟩ := Kd.at_int (Kd.R_reads' HO_907001.out).2.2 x71_3 p939 q939; cases e939; replace p939 := eq_true p939; replace q939 := eq_true q939) | (go_at_call 48; (with_reducible refine (laws_pIn.calls (rd t903 x71_3) x124_5 t940 _ A113.out).mono ?_); rintro e w' ⟨rfl, ⟨nd, rfl⟩⟩) | (go_at_call 48; (with_reducible refine (laws_pIn.calls t931 x124_5 t941 _ A128.out).mono ?_); rintro e w' ⟨rfl, ⟨nd, rfl⟩⟩))
                         go_roundg k5
                         case measure => have := HJ7.out; have := HJ35.out; have := HK3.out; have := HJ70.out; have := HK5.out; omega
                         case rel => exact ⟨(wrap64 (x124_5 + 1)), eqS, H', ⟨by have := HJ7.out; have := HJ35.out; have := HK3.out; have := HJ70.out; have := HK5.out; omega⟩, ⟨Kd.R_g HO_907001.out⟩, ⟨Kd.R_g HO_913001.out⟩, ⟨Kd.R_g HO_919001.out⟩, ⟨Kd.R_g HO_926001.out⟩, ⟨blk_g BK906.out⟩, ⟨blk_g BK912.out⟩, ⟨blk_g BK918.out⟩, ⟨blk_g BK925.out⟩, ⟨bel_g HB.out⟩⟩
                       ·replace c129 := Bool.eq_false_iff.mpr c129
                        subst c129
                        replace H := ifF H
                        obtain ⟨t942, A143, H⟩ := obE H
                        rcases iteP H with ⟨c144, H⟩ | ⟨c144, H⟩
                        ·have c144b0 : (t941 == t942) = true := c144
                         (try (have c144b1 : decide (t941 = t942) = true := by simpa using c144))
                         (try (have c144b2 : (t941 == t942) = true := by simpa using c144))
                         clear c144
                         obtain rfl := Option.some.inj H
                         have hnb145 := NB906_912.out
                         have hnc145 := NB912_906.out
                         have hnb146 := NB906_918.out
                         have hnc146 := NB918_906.out
                         have hnb147 := NB906_925.out
                         have hnc147 := NB925_906.out
                         obtain ⟨hcz148_0, hcz148_1, hfz148_0, hfz148_1⟩ := blk2 BK906
                         go_wp2_with (first | ((with_reducible refine gate_callee (f := 49) rfl ?_); refine goesQ (some 131) Tryd.func49 #[.agg #[.int .i64 t902, .slice Ao12 t903.length co12], .int .i64 x71_3, .int .i64 x124_5] ?_; (with_reducible refine (impl_IsBetter.calls k5 t902 _ _ t903 x71_3 x124_5 false true _ ?side1 ?side2 A109.out).mono ?_); (case side1 => repeat (first | exact (Kd.R_reads' HO_907001.out).2.2 | (with_reducible refine Kd.C_alloc ?_ _) | (with_reducible refine Kd.C_drewN ?_ _) | (with_reducible refine Kd.C_drew ?_))); (case side2 => exact (Kd.R_reads' HO_907001.out).2.1); rintro e w149 ⟨rfl, hb⟩; refine ⟨_, rfl, ?_⟩; replace HO_907001 := Aside0.mk (Kd.R_below (Kd.R_g HO_907001.out) hb); replace HO_913001 := Aside0.mk (Kd.R_below (Kd.R_g HO_913001.out) hb); replace HO_919001 := Aside0.mk (Kd.R_below (Kd.R_g HO_919001.out) hb); replace HO_926001 := Aside0.mk (Kd.R_below (Kd.R_g HO_926001.out) hb); replace BK906 := blkB BK906 hb; replace BK912 := blkB BK912 hb; replace BK918 := blkB BK918 hb; replace BK925 := blkB BK925 hb; replace HB := bst HB hb; (try clear hb); (try clear hk); obtain ⟨hcz150_0, hcz150_1, hfz150_0, hfz150_1⟩ := blk2 BK906; have p939 : 0 ≤ (x71_3 : Int) := ofd; have q939 : x71_3 < (t903.length : Int) := ofd; obtain ⟨ad939, e939, hx939_0⟩ := Kd.at_int (Kd.R_reads' HO_907001.out).2.2 x71_3 p939 q939; cases e939; replace p939 := eq_true p939; replace q939 := eq_true q939) | (go_at_call 48; (with_reducible refine (laws_pIn.calls (rd t903 x71_3) x124_5 t940 _ A113.out).mono ?_); rintro e w' ⟨rfl, ⟨nd, rfl⟩⟩) | (go_at_call 48; (with_reducible refine (laws_pIn.calls t931 x124_5 t941 _ A128.out).mono ?_); rintro e w' ⟨rfl, ⟨nd, rfl⟩⟩) | (go_at_call 48; (with_reducible refine (laws_pIn.calls t929 x124_5 t942 _ A143.out).mono ?_); rintro e w' ⟨rfl, ⟨nd, rfl⟩⟩))
                         go_ret
                         exact ⟨eqE, bel_g HB.out⟩
                        ·have c144b0 : (t941 == t942) = false := by simpa using c144
                         (try (have c144b1 : decide (t941 = t942) = false := by simpa using c144))
                         (try (have c144b2 : (t941 == t942) = false := by simpa using c144))
                         (try (have c144b3 : ¬ (t941 = t942) := by simpa using c144))
                         clear c144
                         have H' := Aside0.mk H
                         clear H
                         have hnb151 := NB906_912.out
                         have hnc151 := NB912_906.out
                         have hnb152 := NB906_918.out
                         have hnc152 := NB918_906.out
                         have hnb153 := NB906_925.out
                         have hnc153 := NB925_906.out
                         obtain ⟨hcz154_0, hcz154_1, hfz154_0, hfz154_1⟩ := blk2 BK906
                         go_wp2_with (first | ((with_reducible refine gate_callee (f := 49) rfl ?_); refine goesQ (some 131) Tryd.func49 #[.agg #[.int .i64 t902, .slice Ao12 t903.length co12], .int .i64 x71_3, .int .i64 x124_5] ?_; (with_reducible refine (impl_IsBetter.calls k5 t902 _ _ t903 x71_3 x124_5 false true _ ?side1 ?side2 A109.out).mono ?_); (case side1 => repeat (first | exact (Kd.R_reads' HO_907001.out).2.2 | (with_reducible refine Kd.C_alloc ?_ _) | (with_reducible refine Kd.C_drewN ?_ _) | (with_reducible refine Kd.C_drew ?_))); (case side2 => exact (Kd.R_reads' HO_907001.out).2.1); rintro e w155 ⟨rfl, hb⟩; refine ⟨_, rfl, ?_⟩; replace HO_907001 := Aside0.mk (Kd.R_below (Kd.R_g HO_907001.out) hb); replace HO_913001 := Aside0.mk (Kd.R_below (Kd.R_g HO_913001.out) hb); replace HO_919001 := Aside0.mk (Kd.R_below (Kd.R_g HO_919001.out) hb); replace HO_926001 := Aside0.mk (Kd.R_below (Kd.R_g HO_926001.out) hb); replace BK906 := blkB BK906 hb; replace BK912 := blkB BK912 hb; replace BK918 := blkB BK918 hb; replace BK925 := blkB BK925 hb; replace HB := bst HB hb; (try clear hb); (try clear hk); obtain ⟨hcz156_0, hcz156_1, hfz156_0, hfz156_1⟩ := blk2 BK906; have p939 : 0 ≤ (x71_3 : Int) := ofd; have q939 : x71_3 < (t903.length : Int) := ofd; obtain ⟨ad939, e939, hx939_0⟩ := Kd.at_int (Kd.R_reads' HO_907001.out).2.2 x71_3 p939 q939; cases e939; replace p939 := eq_true p939; replace q939 := eq_true q939) | (go_at_call 48; (with_reducible refine (laws_pIn.calls (rd t903 x71_3) x124_5 t940 _ A113.out).mono ?_); rintro e w' ⟨rfl, ⟨nd, rfl⟩⟩) | (go_at_call 48; (with_reducible refine (laws_pIn.calls t931 x124_5 t941 _ A128.out).mono ?_); rintro e w' ⟨rfl, ⟨nd, rfl⟩⟩) | (go_at_call 48; (with_reducible refine (laws_pIn.calls t929 x124_5 t942 _ A143.out).mono ?_); rintro e w' ⟨rfl, ⟨nd, rfl⟩⟩))
                         go_roundg k5
                         case measure => have := HJ7.out; have := HJ35.out; have := HK3.out; have := HJ70.out; have := HK5.out; omega
                         case rel => exact ⟨(wrap64 (x124_5 + 1)), eqS, H', ⟨by have := HJ7.out; have := HJ35.out; have := HK3.out; have := HJ70.out; have := HK5.out; omega⟩, ⟨Kd.R_g HO_907001.out⟩, ⟨Kd.R_g HO_913001.out⟩, ⟨Kd.R_g HO_919001.out⟩, ⟨Kd.R_g HO_926001.out⟩, ⟨blk_g BK906.out⟩, ⟨blk_g BK912.out⟩, ⟨blk_g BK918.out⟩, ⟨blk_g BK925.out⟩, ⟨bel_g HB.out⟩⟩
                    ·exact absurd H (by simp)
                   ·exact absurd H (by simp)
                  ·replace c110 := Bool.eq_false_iff.mpr c110
                   subst c110
                   replace H := ifF H
                   obtain rfl := Option.some.inj H
                   have hnb157 := NB906_912.out
                   have hnc157 := NB912_906.out
                   have hnb158 := NB906_918.out
                   have hnc158 := NB918_906.out
                   have hnb159 := NB906_925.out
                   have hnc159 := NB925_906.out
                   obtain ⟨hcz160_0, hcz160_1, hfz160_0, hfz160_1⟩ := blk2 BK906
                   go_wp2_with (first | ((with_reducible refine gate_callee (f := 49) rfl ?_); refine goesQ (some 131) Tryd.func49 #[.agg #[.int .i64 t902, .slice Ao12 t903.length co12], .int .i64 x71_3, .int .i64 x124_5] ?_; (with_reducible refine (impl_IsBetter.calls k5 t902 _ _ t903 x71_3 x124_5 t937 false _ ?side1 ?side2 A109.out).mono ?_); (case side1 => repeat (first | exact (Kd.R_reads' HO_907001.out).2.2 | (with_reducible refine Kd.C_alloc ?_ _) | (with_reducible refine Kd.C_drewN ?_ _) | (with_reducible refine Kd.C_drew ?_))); (case side2 => exact (Kd.R_reads' HO_907001.out).2.1); rintro e w161 ⟨rfl, hb⟩; refine ⟨_, rfl, ?_⟩; replace HO_907001 := Aside0.mk (Kd.R_below (Kd.R_g HO_907001.out) hb); replace HO_913001 := Aside0.mk (Kd.R_below (Kd.R_g HO_913001.out) hb); replace HO_919001 := Aside0.mk (Kd.R_below (Kd.R_g HO_919001.out) hb); replace HO_926001 := Aside0.mk (Kd.R_below (Kd.R_g HO_926001.out) hb); replace BK906 := blkB BK906 hb; replace BK912 := blkB BK912 hb; replace BK918 := blkB BK918 hb; replace BK925 := blkB BK925 hb; replace HB := bst HB hb; (try clear hb); (try clear hk)))
                   go_ret
                   exact ⟨eqE, bel_g HB.out⟩
                 ·have H' := Aside0.mk H
                  clear H
                  go_wp2
                  go_roundg k5
                  case measure => have := HJ7.out; have := HJ35.out; have := HK3.out; have := HJ70.out; have := HK5.out; omega
                  case rel => exact ⟨(wrap64 (x71_3 + 1)), eqS, H', ⟨by have := HJ7.out; have := HJ35.out; have := HK3.out; have := HJ70.out; have := HK5.out; omega⟩, ⟨Kd.R_g HO_907001.out⟩, ⟨Kd.R_g HO_913001.out⟩, ⟨Kd.R_g HO_919001.out⟩, ⟨Kd.R_g HO_926001.out⟩, ⟨blk_g BK906.out⟩, ⟨blk_g BK912.out⟩, ⟨blk_g BK918.out⟩, ⟨blk_g BK925.out⟩, ⟨bel_g HB.out⟩⟩
           ·obtain rfl := Option.some.inj H
            go_wp2
            go_ret
            exact ⟨eqE, bel_g HB.out⟩
     ·replace c34 := Bool.eq_false_iff.mpr c34
      subst c34
      replace H := ifF H
      obtain rfl := Option.some.inj H
      go_wp2
      go_ret
      exact ⟨eqE, bel_g HB.out⟩

end Go.Proofs.YteechpappfagpaaDoor.Q
