import Derived.Test.YtobfnlhocdnflaaQImplAlllevels
import Derived.Test.YtobfnlhocdnflaaQImplArelevels
import Derived.Test.YtobfnlhocdnflaaQSpecL1Own
import Derived.Test.YtobfnlhocdnflaaQSpecWeall
import Derived.Test.YtobfnlhocdnflaaXLevels
namespace Go.Proofs.Ytobfnlhocdnflaa.Pure
open Go.RowKit Go.Proofs.Ytobfnlhocdnflaa.Q Go.Proofs.YtobfnlhocdnflaaW.PrintWords Go.Proofs.YtobfnlhocdnflaaW.PrintLast
set_option linter.unusedVariables false
set_option linter.unusedSimpArgs false

open All
/-- all levels of n elements, in order -/
def lvAll (n : Nat) : List (List Int) := fillR (fun l => decide (lvlP l)) n n []
theorem lvAll_len (n : Nat) (hn : n ≤ 6) : (lvAll n).length ≤ 46656 := by
 have h1 := fillR_len (fun l => decide (lvlP l)) n n []
 have h2 : n ^ n ≤ 6 ^ 6 := Nat.le_trans (Nat.pow_le_pow_left hn _) (Nat.pow_le_pow_right (by omega) hn)
 unfold lvAll
 omega
theorem fillOk_ev (n : Nat) : ∀ (m : Nat) (l : List Int), l.length + m ≤ 1000 → ∃ K, ∀ k, K ≤ k → fillOk (impl_AreLevels.f k) n m l = true ∧ fillR (fun l => impl_AreLevels.f k l == some true) n m l = fillR (fun l => decide (lvlP l)) n m l
 | 0, l, hl => by
  obtain ⟨K, h⟩ := levels_impl l (by omega)
  refine ⟨K, fun k hk => ?_⟩
  have h1 : impl_AreLevels.f k l = some (decide (lvlP l)) := h k hk
  unfold fillOk fillR
  rw [h1]
  refine ⟨rfl, ?_⟩
  by_cases hc : lvlP l <;> simp [hc]
 | m + 1, l, hl => by
  have key : ∀ ys : List Nat, ∃ K, ∀ k, K ≤ k → (ys.all fun j : Nat => fillOk (impl_AreLevels.f k) n m (l ++ [(j : Int)])) = true ∧ ys.flatMap (fun j : Nat => fillR (fun l => impl_AreLevels.f k l == some true) n m (l ++ [(j : Int)])) = ys.flatMap (fun j : Nat => fillR (fun l => decide (lvlP l)) n m (l ++ [(j : Int)])) := by
   intro ys
   induction ys with
   | nil => exact ⟨0, fun _ _ => ⟨rfl, rfl⟩⟩
   | cons y ys ih =>
    obtain ⟨K1, h1⟩ := ih
    obtain ⟨K2, h2⟩ := fillOk_ev n m (l ++ [(y : Int)]) (by simp; omega)
    refine ⟨K1 + K2, fun k hk => ?_⟩
    obtain ⟨a1, a2⟩ := h1 k (by omega)
    obtain ⟨b1, b2⟩ := h2 k (by omega)
    rw [List.all_cons, List.flatMap_cons, List.flatMap_cons, a1, a2, b1, b2]
    exact ⟨rfl, rfl⟩
  exact key (List.range n)
theorem allLevels_ev (n : Nat) (hn : n ≤ 6) : Ev (fun k => impl_allLevels.f k (n : Int)) (lvAll n) := by
 obtain ⟨K, h⟩ := fillOk_ev n n [] (by simp; omega)
 refine ⟨K, fun k hk => ?_⟩
 obtain ⟨h1, h2⟩ := h k hk
 show impl_allLevels.f k (n : Int) = _
 unfold impl_allLevels.f
 rw [if_pos ⟨by omega, by omega, by rw [Int.toNat_natCast]; exact h1⟩, Int.toNat_natCast, h2]
 rfl
theorem weAll_l (n : Nat) (hn : n ≤ 6) (m : Nat) (l : List Int) (hl : l.length + (m + 1) = n) (ih : ∀ l : List Int, l.length + m = n → Ev (fun k => spec_weAll.f k l n) (fillR (fun l => decide (lvlP l)) n m l)) (d : Nat) :
  ∀ (i : Nat), i + d = n → Ev (fun k => spec_weAll.l0 k l n (fillTo (fun l => decide (lvlP l)) n m l i) i) (fillR (fun l => decide (lvlP l)) n (m + 1) l) := by
 have hp : ∀ j, j ≤ n → (fillTo (fun l => decide (lvlP l)) n m l j).length ≤ 46656 := by
  intro j hj
  have h1 := fillTo_len (fun l => decide (lvlP l)) n m l j
  have h2 : j * n ^ m ≤ 6 * 6 ^ 5 := Nat.mul_le_mul (by omega) (Nat.le_trans (Nat.pow_le_pow_left hn _) (Nat.pow_le_pow_right (by omega) (by omega)))
  omega
 induction d with
 | zero =>
  intro i hi
  refine Ev.shift ?_
  simp only [spec_weAll.l0]
  refine Ev.neg (by omega) (Ev.ret ?_)
  rw [show i = n by omega]
  rfl
 | succ d ihd =>
  intro i hi
  refine Ev.shift ?_
  simp only [spec_weAll.l0]
  have h1 := hp i (by omega)
  have h2 := hp (i + 1) (by omega)
  rw [fillTo_succ, List.length_append] at h2
  refine Ev.pos (by omega) (Ev.bindc (x := l) (by unfold spec_l1Own.f; simp; omega) (Ev.pos (by omega) (Ev.bind (ih (l ++ [(i : Int)]) (by simp; omega)) (Ev.pos (by omega) ?_))))
  rw [wrap64_id (by omega) (by omega), cast1, ← fillTo_succ]
  exact ihd (i + 1) (by omega)
theorem weAll_ev (n : Nat) (hn : n ≤ 6) : ∀ (m : Nat) (l : List Int), l.length + m = n → Ev (fun k => spec_weAll.f k l n) (fillR (fun l => decide (lvlP l)) n m l)
 | 0, l, hl => by
  refine Ev.shift ?_
  simp only [spec_weAll.f]
  refine Ev.pos (by omega) (Ev.bind (levels_spec l (by omega)) ?_)
  unfold fillR
  by_cases hc : lvlP l
  ·have e : (if decide (lvlP l) = true then [l] else ([] : List (List Int))) = [l] := by simp [hc]
   rw [e]
   exact Ev.pos (by simpa using hc) (Ev.bindc (x := l) (by unfold spec_l1Own.f; simp; omega) (Ev.ret rfl))
  ·have e : (if decide (lvlP l) = true then [l] else ([] : List (List Int))) = [] := by simp [hc]
   rw [e]
   exact Ev.neg (by simpa using hc) (Ev.ret rfl)
 | m + 1, l, hl => by
  refine Ev.shift ?_
  simp only [spec_weAll.f]
  refine Ev.neg (by omega) ?_
  have h := weAll_l n hn m l hl (weAll_ev n hn m) n 0 (by omega)
  rw [show fillTo (fun l => decide (lvlP l)) n m l 0 = [] by simp [fillTo]] at h
  exact h

end Go.Proofs.Ytobfnlhocdnflaa.Pure
