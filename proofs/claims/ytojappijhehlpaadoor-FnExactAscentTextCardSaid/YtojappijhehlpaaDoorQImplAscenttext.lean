-- printed by this project's own program (wip/mp/mp.py) over the kit's print, for this seat; Lean checks it
import Derived.Test.YtojappijhehlpaaDoorQx0
import Derived.Test.YtojappijhehlpaaDoorQImplIsascent
import Derived.Test.YtojappijhehlpaaDoorQImplAscenttextLow
namespace Go.Proofs.YtojappijhehlpaaDoor.Q
open Go.RowKit Go.Proofs.YtojappijhehlpaaDoorW.PrintWords Go.Proofs.YtojappijhehlpaaDoorW.PrintLast Go.Proofs.YtojappijhehlpaaDoorW.PrintMore
attribute [local go_sem] max2_int min2_int max_two min_two max_three min_three max_four min_four   -- for this text's walks alone
set_option linter.unusedVariables false
set_option maxHeartbeats 8000000
set_option maxRecDepth 100000
set_option linter.unusedSimpArgs false

/-! ### impl_AscentText: function 7 -/
def impl_AscentText.f (k : Nat) (l0 : List Int) : Option (ByteArray × Bool) := (impl_IsAscent.f k l0).bind fun t164 => (if t164 = true then ((impl_ascentText.f k l0).bind fun t165 => (some (t165, true))) else (some ((⟨#[]⟩ : ByteArray), false)))
theorem impl_AscentText.mono : ∀ a0 k, LeO (impl_AscentText.f k a0) (impl_AscentText.f (k + 1) a0) := by
 intro a0 k
 unfold impl_AscentText.f
 repeat' (with_reducible first|apply impl_IsAscent.mono|apply impl_ascentText.mono|apply LeO.refl|apply LeO.none|apply LeO.ite|apply LeO.bind|intro)
theorem impl_AscentText.calls (k : Nat) (A0 : Option Addr) (c0 : Nat) (l0 : List Int) (r1 : ByteArray) (r2 : Bool) (w : World) (hr0 : Kd.C (Kd.int .i64) w A0 l0.length l0) (hc0 : l0.length ≤ c0) (h : impl_AscentText.f k l0 = some (r1, r2)) :
  Calls Tryd.prog 7 #[.slice A0 l0.length c0] w fun e w' => e = .returned (.tuple #[.string r1, .bool r2]) ∧ Below w.heap.size w w' := by
 have HR0 := mkA hr0
 have HC0 := mkA hc0
 clear hr0 hc0
 have HB := mkA (Below.refl w.heap.size w)
 have H := h
 clear h
 unfold impl_AscentText.f at H
 obtain ⟨t164, A2, H⟩ := obE H
 by_cases c3 : t164 = true
 ·subst c3
  replace H := ifT H
  obtain ⟨t165, A4, H⟩ := obE H
  simp only [Option.some.injEq, Prod.mk.injEq] at H
  obtain ⟨rfl, rfl⟩ := H
  go_enter Tryd.func7, Tryd.ntmps7
  go_wp2_with (first | ((with_reducible refine gate_callee (f := 15) rfl ?_); refine goesQ (some 5) Tryd.func15 #[.slice A0 l0.length c0] ?_; (with_reducible refine (impl_IsAscent.calls k _ _ l0 true _ ?s1 ?s2 A2.out).mono ?_); (case s1 => repeat (first | exact HR0.out | (with_reducible refine Kd.C_alloc ?_ _) | (with_reducible refine Kd.C_drewN ?_ _) | (with_reducible refine Kd.C_drew ?_))); (case s2 => exact HC0.out); rintro e w' ⟨rfl, ⟨nd, rfl⟩⟩; refine ⟨_, rfl, ?_⟩) | ((with_reducible refine gate_callee (f := 16) rfl ?_); refine goesQ (some 8) Tryd.func16 #[.slice A0 l0.length c0] ?_; (with_reducible refine (impl_ascentText.calls k _ _ l0 t165 _ ?s1 ?s2 A4.out).mono ?_); (case s1 => repeat (first | exact HR0.out | (with_reducible refine Kd.C_alloc ?_ _) | (with_reducible refine Kd.C_drewN ?_ _) | (with_reducible refine Kd.C_drew ?_))); (case s2 => exact HC0.out); rintro e w5 ⟨rfl, hb⟩; refine ⟨_, rfl, ?_⟩; replace HB := bst HB hb; clear hb))
  go_ret2
  exact ⟨eqE, bel_g HB.out⟩
 ·replace c3 := Bool.eq_false_iff.mpr c3
  subst c3
  replace H := ifF H
  simp only [Option.some.injEq, Prod.mk.injEq] at H
  obtain ⟨rfl, rfl⟩ := H
  go_enter Tryd.func7, Tryd.ntmps7
  go_wp2_with (first | ((with_reducible refine gate_callee (f := 15) rfl ?_); refine goesQ (some 5) Tryd.func15 #[.slice A0 l0.length c0] ?_; (with_reducible refine (impl_IsAscent.calls k _ _ l0 false _ ?s1 ?s2 A2.out).mono ?_); (case s1 => repeat (first | exact HR0.out | (with_reducible refine Kd.C_alloc ?_ _) | (with_reducible refine Kd.C_drewN ?_ _) | (with_reducible refine Kd.C_drew ?_))); (case s2 => exact HC0.out); rintro e w' ⟨rfl, ⟨nd, rfl⟩⟩; refine ⟨_, rfl, ?_⟩))
  go_ret2
  exact ⟨eqE, bel_g HB.out⟩

end Go.Proofs.YtojappijhehlpaaDoor.Q
