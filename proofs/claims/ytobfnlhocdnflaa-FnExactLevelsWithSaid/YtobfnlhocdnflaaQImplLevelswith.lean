-- printed by this project's own program (wip/mp/mp.py) over the kit's print, for this seat; Lean checks it
import Derived.Test.YtobfnlhocdnflaaQx0
import Derived.Test.YtobfnlhocdnflaaQImplWithin
import Derived.Test.YtobfnlhocdnflaaQImplAlllevels
namespace Go.Proofs.Ytobfnlhocdnflaa.Q
open Go.RowKit Go.Proofs.YtobfnlhocdnflaaW.PrintWords Go.Proofs.YtobfnlhocdnflaaW.PrintLast Go.Proofs.YtobfnlhocdnflaaW.PrintMore
attribute [local go_sem] max2_int min2_int max_two min_two max_three min_three max_four min_four   -- for this text's walks alone
set_option linter.unusedVariables false
set_option maxHeartbeats 8000000
set_option maxRecDepth 100000
set_option linter.unusedSimpArgs false

/-! ### impl_LevelsWith: function 6 -/
def impl_LevelsWith.f (k : Nat) (a0 : Int) (a1 : Int) : Option (List Int × Bool) := (impl_within.f a0 0 6).bind fun t284 => (if t284 = true then ((impl_allLevels.f k a0).bind fun t285 => ((impl_within.f a1 0 (wrap64 ((t285.length : Int) - 1))).bind fun t288 => (if t288 = true then (if 0 ≤ a1 then (if a1 < (t285.length : Int) then (some (rd_L1 t285 a1, true)) else (none)) else (none)) else (some (([] : List Int), false))))) else (some (([] : List Int), false)))
theorem impl_LevelsWith.mono : ∀ a0 a1 k, LeO (impl_LevelsWith.f k a0 a1) (impl_LevelsWith.f (k + 1) a0 a1) := by
 intro a0 a1 k
 unfold impl_LevelsWith.f
 repeat' (with_reducible first|apply impl_allLevels.mono|apply LeO.refl|apply LeO.none|apply LeO.ite|apply LeO.bind|intro)
theorem impl_LevelsWith.calls (k : Nat) (a0 : Int) (a1 : Int) (r1 : List Int) (r2 : Bool) (w : World) (h : impl_LevelsWith.f k a0 a1 = some (r1, r2)) :
  Calls Try.prog 6 #[.int .i64 a0, .int .i64 a1] w fun e w' => ∃ v0_ : Value, e = .returned (.tuple #[v0_, .bool r2]) ∧ Kd.R (Kd.int .i64) 3 w' w.heap.size (fun _ => True) v0_ r1 ∧ Below w.heap.size w w' := by
 have HB := mkA (Below.refl w.heap.size w)
 have H := h
 clear h
 unfold impl_LevelsWith.f at H
 obtain ⟨t284, A3, H⟩ := obE H
 by_cases c4 : t284 = true
 ·subst c4
  replace H := ifT H
  obtain ⟨t285, A5, H⟩ := obE H
  obtain ⟨t288, A6, H⟩ := obE H
  by_cases c7 : t288 = true
  ·subst c7
   replace H := ifT H
   obtain ⟨c8b0, H⟩ := itND H
   obtain ⟨c9b0, H⟩ := itND H
   simp only [Option.some.injEq, Prod.mk.injEq] at H
   obtain ⟨rfl, rfl⟩ := H
   go_enter Try.func6, Try.ntmps6
   go_wp2_with (first | ((with_reducible refine gate_callee (f := 15) rfl ?_); refine goesQ (some 8) Try.func15 #[.int .i64 a0, .int .i64 0, .int .i64 6] ?_; (with_reducible refine (impl_within.calls a0 0 6 true _ A3.out).mono ?_); rintro e w' ⟨rfl, ⟨nd, rfl⟩⟩; refine ⟨_, rfl, ?_⟩) | ((with_reducible refine gate_callee (f := 16) rfl ?_); refine goesQ (some 11) Try.func16 #[.int .i64 a0] ?_; (with_reducible refine (impl_allLevels.calls k a0 t285 _ A5.out).mono ?_); rintro e w10 ⟨v286, rfl, ho0, hb⟩; refine ⟨_, rfl, ?_⟩; have HO287 := mkA (Kd.S_lower ho0 (below_size (bel_g HB.out))); replace HB := bst HB hb; clear hb ho0; obtain ⟨Ao11, co11, rfl⟩ := Kd.S_slice HO287.out) | ((with_reducible refine gate_callee (f := 15) rfl ?_); refine goesQ (some 16) Try.func15 #[.int .i64 a1, .int .i64 0, .int .i64 (wrap64 ((t285.length : Int) - 1))] ?_; (with_reducible refine (impl_within.calls a1 0 (wrap64 ((t285.length : Int) - 1)) true _ A6.out).mono ?_); rintro e w' ⟨rfl, ⟨nd, rfl⟩⟩; refine ⟨_, rfl, ?_⟩; have p289 : 0 ≤ (a1 : Int) := ofd; have q289 : a1 < (t285.length : Int) := ofd; obtain ⟨ad289, A289_0, c289_0, e289, hx289_0, hl289_0, hi289_0⟩ := at_L1 (Kd.S_reads' HO287.out).2.2 a1 p289 q289; cases e289; obtain ⟨ce289, hce289, hMe289, hcc289⟩ := Kd.S_get HO287.out [] a1 p289 (by first | exact q289 | exact ofd | (have e_ := (Kd.S_reads' HO287.out).1; omega)); obtain ⟨ve289_0, rfl, ge289_0⟩ := hMe289; have hv289_0 := hcc289 0 _ rfl; rw [Nat.add_zero, show ((Kd.slice 3 (Kd.int .i64))).sz = 1 from rfl, Nat.mul_one] at hv289_0; replace hv289_0 := Option.some.inj (hv289_0.symm.trans hx289_0); rw [hv289_0] at ge289_0; have HL289_0 := mkA (show Kd.R (Kd.int .i64) 3 _ _ _ _ (rd_L1 t285 a1) from ge289_0); clear hv289_0 ge289_0; clear hcc289 hce289; have HR289_0 := mkA hi289_0; have HC289_0 := mkA hl289_0; clear hi289_0 hl289_0; replace p289 := eq_true p289; replace q289 := eq_true q289))
   go_ret2
   exact ⟨_, eqE, Kd.R_g (Kd.R_mono HL289_0.out (fun _ hk => trivial)), bel_g HB.out⟩
  ·replace c7 := Bool.eq_false_iff.mpr c7
   subst c7
   replace H := ifF H
   simp only [Option.some.injEq, Prod.mk.injEq] at H
   obtain ⟨rfl, rfl⟩ := H
   go_enter Try.func6, Try.ntmps6
   go_wp2_with (first | ((with_reducible refine gate_callee (f := 15) rfl ?_); refine goesQ (some 8) Try.func15 #[.int .i64 a0, .int .i64 0, .int .i64 6] ?_; (with_reducible refine (impl_within.calls a0 0 6 true _ A3.out).mono ?_); rintro e w' ⟨rfl, ⟨nd, rfl⟩⟩; refine ⟨_, rfl, ?_⟩) | ((with_reducible refine gate_callee (f := 16) rfl ?_); refine goesQ (some 11) Try.func16 #[.int .i64 a0] ?_; (with_reducible refine (impl_allLevels.calls k a0 t285 _ A5.out).mono ?_); rintro e w12 ⟨v286, rfl, ho0, hb⟩; refine ⟨_, rfl, ?_⟩; have HO287 := mkA (Kd.S_lower ho0 (below_size (bel_g HB.out))); replace HB := bst HB hb; clear hb ho0; obtain ⟨Ao13, co13, rfl⟩ := Kd.S_slice HO287.out) | ((with_reducible refine gate_callee (f := 15) rfl ?_); refine goesQ (some 16) Try.func15 #[.int .i64 a1, .int .i64 0, .int .i64 (wrap64 ((t285.length : Int) - 1))] ?_; (with_reducible refine (impl_within.calls a1 0 (wrap64 ((t285.length : Int) - 1)) false _ A6.out).mono ?_); rintro e w' ⟨rfl, ⟨nd, rfl⟩⟩; refine ⟨_, rfl, ?_⟩))
   go_ret2
   exact ⟨_, eqE, nilE, bel_g HB.out⟩
 ·replace c4 := Bool.eq_false_iff.mpr c4
  subst c4
  replace H := ifF H
  simp only [Option.some.injEq, Prod.mk.injEq] at H
  obtain ⟨rfl, rfl⟩ := H
  go_enter Try.func6, Try.ntmps6
  go_wp2_with (first | ((with_reducible refine gate_callee (f := 15) rfl ?_); refine goesQ (some 8) Try.func15 #[.int .i64 a0, .int .i64 0, .int .i64 6] ?_; (with_reducible refine (impl_within.calls a0 0 6 false _ A3.out).mono ?_); rintro e w' ⟨rfl, ⟨nd, rfl⟩⟩; refine ⟨_, rfl, ?_⟩))
  go_ret2
  exact ⟨_, eqE, nilE, bel_g HB.out⟩

end Go.Proofs.Ytobfnlhocdnflaa.Q
