import Derived.Test.YtojappijhehlpaaDoorQImplAscents
import Derived.Test.YtojappijhehlpaaDoorQImplIsascent
import Derived.Test.YtojappijhehlpaaDoorQSpecAsascents
import Derived.Test.YtojappijhehlpaaDoorQSpecAsgood
import Derived.Test.YtojappijhehlpaaDoorXAscore
namespace Go.Proofs.YtojappijhehlpaaDoor.Pure
open Go.RowKit Go.Proofs.YtojappijhehlpaaDoor.Q Go.Proofs.YtojappijhehlpaaDoorW.PrintWords Go.Proofs.YtojappijhehlpaaDoorW.PrintLast
set_option linter.unusedVariables false
set_option linter.unusedSimpArgs false

theorem ascents_eq (k : Nat) : ∀ l a i, spec_asAscents.l0 k l a i = impl_ascents.l0 k l a i := by
 induction k with
 | zero => intros; rfl
 | succ k ih => intro l a i; simp only [spec_asAscents.l0, impl_ascents.l0, ih]
theorem ascents_l (l : List Int) (hl : l.length ≤ 1048576) (d : Nat) : ∀ (i : Nat), 1 ≤ i → i + d = l.length ∨ (d = 0 ∧ l.length ≤ i ∧ i ≤ 1) → Ev (fun k => impl_ascents.l0 k l (ascUpto l i) i) (ascUpto l l.length) := by
 induction d with
 | zero =>
  intro i h1 hi
  refine Ev.shift ?_
  simp only [impl_ascents.l0]
  refine Ev.neg (by omega) (Ev.ret ?_)
  rcases hi with hi | ⟨_, h2, h3⟩
  ·rw [show i = l.length by omega]
  ·obtain rfl : i = 1 := by omega
   rcases (show l.length = 0 ∨ l.length = 1 by omega) with e | e <;> rw [e] <;> simp [ascUpto]
 | succ d ih =>
  intro i h1 hi
  obtain ⟨j, rfl⟩ : ∃ j, i = j + 1 := ⟨i - 1, by omega⟩
  have hi' : j + 1 + (d + 1) = l.length := by omega
  have hr := ascUpto_range l (j + 1)
  refine Ev.shift ?_
  simp only [impl_ascents.l0]
  have e1 : wrap64 (((j + 1 : Nat) : Int) - 1) = (j : Int) := by rw [wrap64_id (by omega) (by omega)]; omega
  have e2 : wrap64 (((j + 1 : Nat) : Int) + 1) = ((j + 2 : Nat) : Int) := by rw [wrap64_id (by omega) (by omega)]; omega
  have e3 : wrap64 (ascUpto l (j + 1) + 1) = ascUpto l (j + 1) + 1 := wrap64_id (by omega) (by omega)
  rw [e1, e2, e3]
  refine Ev.pos (by omega) (Ev.pos (by omega) (Ev.pos (by omega) (Ev.pos (by omega) ?_)))
  have ih' := ih (j + 2) (by omega) (by omega)
  by_cases hc : rd l (j : Int) < rd l ((j + 1 : Nat) : Int)
  ·refine Ev.pos hc ?_
   simp only [ascUpto, if_pos hc] at ih'
   exact ih'
  ·refine Ev.neg hc ?_
   simp only [ascUpto, if_neg hc, Int.add_zero] at ih'
   exact ih'
theorem ascents_impl (l : List Int) (hl : l.length ≤ 1048576) : Ev (fun k => impl_ascents.f k l) (ascUpto l l.length) := by
 unfold impl_ascents.f
 have := ascents_l l hl (l.length - 1) 1 (by omega) (by omega)
 simpa [ascUpto] using this
theorem good_l (l : List Int) (hl : l.length ≤ 12) (d : Nat) : ∀ i : Nat, i + d = l.length → Ev (fun k => spec_asGood.l0 k l l (l.length : Int) i) (ascFrom l d i) := by
 induction d with
 | zero =>
  intro i hi
  refine Ev.shift ?_
  simp only [spec_asGood.l0]
  exact Ev.neg (by omega) (Ev.ret rfl)
 | succ d ih =>
  intro i hi
  refine Ev.shift ?_
  simp only [spec_asGood.l0]
  refine Ev.pos (by omega) (Ev.pos (by omega) (Ev.pos (by omega) (Ev.pos (by omega) ?_)))
  rw [Int.toNat_natCast, wrap64_id (by omega) (by omega), cast1]
  refine Ev.bind (bound_spec l i hl (by omega)) (Ev.bindc (spec_in _ _ _) ?_)
  simp only [ascFrom]
  by_cases h : 0 ≤ rd l (i : Int) ∧ rd l (i : Int) ≤ ascBound l i
  ·rw [if_pos h]; exact Ev.pos (by simpa using h) (ih (i + 1) (by omega))
  ·rw [if_neg h]; exact Ev.neg (by simpa using h) (Ev.ret rfl)
theorem good_spec (l : List Int) : Ev (fun k => spec_asGood.f k l) (isAsc l) := by
 unfold spec_asGood.f isAsc
 by_cases h : 12 < l.length
 ·rw [if_pos h]; exact Ev.pos (by omega) (Ev.ret rfl)
 ·rw [if_neg h]; exact Ev.neg (by omega) (good_l l (by omega) l.length 0 (by omega))
theorem isAscent_l (l : List Int) (hl : l.length ≤ 12) (d : Nat) : ∀ i : Nat, i + d = l.length → Ev (fun k => impl_IsAscent.l0 k l l (l.length : Int) i) (ascFrom l d i) := by
 induction d with
 | zero =>
  intro i hi
  refine Ev.shift ?_
  simp only [impl_IsAscent.l0]
  exact Ev.neg (by omega) (Ev.ret rfl)
 | succ d ih =>
  intro i hi
  refine Ev.shift ?_
  simp only [impl_IsAscent.l0]
  refine Ev.pos (by omega) (Ev.pos (by omega) (Ev.pos (by omega) ?_))
  rw [Int.toNat_natCast, wrap64_id (x := (i : Int) + 1) (by omega) (by omega), cast1]
  have hn := ih (i + 1) (by omega)
  simp only [ascFrom]
  by_cases h0 : i = 0
  ·subst h0
   have hb : ascBound l 0 = 0 := rfl
   rw [hb]
   refine Ev.pos (by omega) ?_
   by_cases hz : rd l ((0 : Nat) : Int) = 0
   ·rw [if_pos (by omega)]
    exact Ev.pos hz (Ev.neg (by omega) hn)
   ·rw [if_neg (by omega)]
    exact Ev.neg hz (Ev.ret rfl)
  ·refine Ev.neg (by omega) (Ev.pos (by omega) (Ev.pos (by omega) ?_))
   have h := ascents_impl (l.take i) (by simp; omega)
   have hlen : (l.take i).length = i := by simp; omega
   rw [hlen, ascUpto_take l i (by omega) i (Nat.le_refl _)] at h
   have hr := ascUpto_range l i
   refine Ev.bind h (Ev.bindc (impl_in _ _ _) ?_)
   rw [wrap64_id (by omega) (by omega)]
   by_cases h : 0 ≤ rd l (i : Int) ∧ rd l (i : Int) ≤ ascBound l i
   ·rw [if_pos h]; exact Ev.pos (by simpa [ascBound, h0] using h) hn
   ·rw [if_neg h]; exact Ev.neg (by simpa [ascBound, h0] using h) (Ev.ret rfl)
theorem isAscent_impl (l : List Int) : Ev (fun k => impl_IsAscent.f k l) (isAsc l) := by
 unfold impl_IsAscent.f isAsc
 by_cases h : 12 < l.length
 ·rw [if_pos h]; exact Ev.pos (by omega) (Ev.ret rfl)
 ·rw [if_neg h]; exact Ev.neg (by omega) (isAscent_l l (by omega) l.length 0 (by omega))

end Go.Proofs.YtojappijhehlpaaDoor.Pure
