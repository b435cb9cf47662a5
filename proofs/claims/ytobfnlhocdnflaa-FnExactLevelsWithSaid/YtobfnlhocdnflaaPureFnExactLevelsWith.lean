/- LevelsWith answers what the reference answers and hands back memory of its own, for every two numbers. Conditions: none. -/
import Derived.Test.YtobfnlhocdnflaaQImplLevelswith
import Derived.Test.YtobfnlhocdnflaaQLawsFnexactlevelswith
import Derived.Test.YtobfnlhocdnflaaQSpecLevelswith
import Derived.Test.YtobfnlhocdnflaaQSpecWeall
import Derived.Test.YtobfnlhocdnflaaXCopies
import Derived.Test.YtobfnlhocdnflaaXMarks
import Derived.Test.YtobfnlhocdnflaaXAlllev
namespace Go.Proofs.Ytobfnlhocdnflaa.Pure
open Go.RowKit Go.Proofs.Ytobfnlhocdnflaa.Q Go.Proofs.YtobfnlhocdnflaaW.PrintWords Go.Proofs.YtobfnlhocdnflaaW.PrintLast
set_option linter.unusedVariables false
set_option linter.unusedSimpArgs false

open All
def levWith (n r : Int) : List Int × Bool := if 0 ≤ n ∧ n ≤ 6 then (if 0 ≤ r ∧ r ≤ ((lvAll n.toNat).length : Int) - 1 then (rd_L1 (lvAll n.toNat) r, true) else ([], false)) else ([], false)
theorem lvAll_rows (n : Nat) : ∀ l ∈ lvAll n, l.length = n := by
 have key : ∀ (m : Nat) (l : List Int), l.length + m = n → ∀ s ∈ fillR (fun l => decide (lvlP l)) n m l, s.length = n := by
  intro m
  induction m with
  | zero =>
   intro l hl s hs
   unfold fillR at hs
   split at hs
   ·rw [List.mem_singleton.1 hs]; omega
   ·cases hs
  | succ m ih =>
   intro l hl s hs
   unfold fillR at hs
   obtain ⟨j, _, hj⟩ := List.mem_flatMap.1 hs
   exact ih _ (by simp; omega) s hj
 exact key n [] (by simp)
theorem levWith_len (n r : Int) : (levWith n r).1.length ≤ 6 := by
 unfold levWith
 split
 ·rename_i h
  split
  ·rename_i h2
   have h3 : r.toNat < (lvAll n.toNat).length := by omega
   have h4 := lvAll_rows n.toNat ((lvAll n.toNat)[r.toNat]) (List.getElem_mem _)
   simp only [rd_L1, List.getD_eq_getElem?_getD, List.getElem?_eq_getElem h3, Option.getD_some]
   omega
  ·simp
 ·simp
theorem sLevelsWith (n r : Int) (hr : (Lit.int .i64 r).wf = true) : Ev (fun k => spec_LevelsWith.f k n r) (levWith n r) := by
 unfold spec_LevelsWith.f levWith
 refine Ev.bindc (spec_in _ _ _) ?_
 by_cases hc : 0 ≤ n ∧ n ≤ 6
 ·have hw : Ev (fun k => spec_weAll.f k [] ((n.toNat : Nat) : Int)) (lvAll n.toNat) := weAll_ev n.toNat (by omega) n.toNat [] (by simp)
  rw [show ((n.toNat : Nat) : Int) = n by omega] at hw
  have hl := lvAll_len n.toNat (by omega)
  rw [if_pos hc]
  refine Ev.pos (by simpa using hc) (Ev.bind hw (Ev.bindc (spec_in _ _ _) ?_))
  rw [wrap64_id (by omega) (by omega)]
  show Ev (fun k => if decide (0 ≤ r ∧ r ≤ ((lvAll n.toNat).length : Int) - 1) = true then _ else _) _
  by_cases h2 : 0 ≤ r ∧ r ≤ ((lvAll n.toNat).length : Int) - 1
  ·rw [if_pos h2]
   exact Ev.pos (by simpa using h2) (Ev.pos h2.1 (Ev.pos (show r < ((lvAll n.toNat).length : Int) by omega) (Ev.ret rfl)))
  ·rw [if_neg h2]
   exact Ev.neg (by simpa using h2) (Ev.ret rfl)
 ·rw [if_neg hc]
  exact Ev.neg (by simpa using hc) (Ev.ret rfl)
theorem iLevelsWith (n r : Int) (hr : (Lit.int .i64 r).wf = true) : Ev (fun k => impl_LevelsWith.f k n r) (levWith n r) := by
 unfold impl_LevelsWith.f levWith
 refine Ev.bindc (impl_in _ _ _) ?_
 by_cases hc : 0 ≤ n ∧ n ≤ 6
 ·have hw := allLevels_ev n.toNat (by omega)
  rw [show ((n.toNat : Nat) : Int) = n by omega] at hw
  have hl := lvAll_len n.toNat (by omega)
  rw [if_pos hc]
  refine Ev.pos (by simpa using hc) (Ev.bind hw (Ev.bindc (impl_in _ _ _) ?_))
  rw [wrap64_id (by omega) (by omega)]
  by_cases h2 : 0 ≤ r ∧ r ≤ ((lvAll n.toNat).length : Int) - 1
  ·rw [if_pos h2]
   exact Ev.pos (by simpa using h2) (Ev.pos h2.1 (Ev.pos (show r < ((lvAll n.toNat).length : Int) by omega) (Ev.ret rfl)))
  ·rw [if_neg h2]
   exact Ev.neg (by simpa using h2) (Ev.ret rfl)
 ·rw [if_neg hc]
  exact Ev.neg (by simpa using hc) (Ev.ret rfl)
theorem FnExactLevelsWith : laws_FnExactLevelsWith.Pure := by
 intro n r h1 h2
 refine Ev.at1 ?_
 unfold laws_FnExactLevelsWith.f
 obtain ⟨x, b, hq⟩ : ∃ x b, levWith n r = (x, b) := ⟨_, _, rfl⟩
 have hx : x.length ≤ 1000 := by
  have : (levWith n r).1 = x := by rw [hq]
  rw [← this]; have := levWith_len n r; omega
 have hs := sLevelsWith n r h2
 have hi := iLevelsWith n r h2
 rw [hq] at hs hi
 have ex := eqIntS_same x (by omega)
 have mx := markIntS x (by omega) 1 (by omega) (by omega)
 have gx := heldIntS x.length (by omega) 1 (by omega) (by omega)
 refine Ev.bind hs (Ev.bind hi (Ev.bind ex (Ev.pos rfl (Ev.shift ?_))))
 simp only [laws_FnExactLevelsWith.j0]
 refine Ev.neg (by simp) (Ev.bind mx (Ev.bind gx (Ev.neg (by omega) (Ev.pos rfl ?_))))
 refine Ev.bind hi (Ev.bind ex (Ev.pos rfl (Ev.shift ?_)))
 simp only [laws_FnExactLevelsWith.j1]
 exact Ev.neg (by simp) (Ev.bind gx (Ev.neg (by omega) (Ev.pos rfl (Ev.ret rfl))))

end Go.Proofs.Ytobfnlhocdnflaa.Pure
