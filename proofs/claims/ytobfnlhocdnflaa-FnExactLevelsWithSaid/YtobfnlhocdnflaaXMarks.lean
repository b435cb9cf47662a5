import Derived.Test.YtobfnlhocdnflaaQLawsHeldints
import Derived.Test.YtobfnlhocdnflaaQLawsMarkints
import Derived.Test.YtobfnlhocdnflaaXBase
namespace Go.Proofs.Ytobfnlhocdnflaa.Pure
open Go.RowKit Go.Proofs.Ytobfnlhocdnflaa.Q Go.Proofs.YtobfnlhocdnflaaW.PrintWords Go.Proofs.YtobfnlhocdnflaaW.PrintLast
set_option linter.unusedVariables false
set_option linter.unusedSimpArgs false

/-- the numbers a, a+1, .. -/
def markL (a : Int) (n : Nat) : List Int := (List.range n).map fun (i : Nat) => a + (i : Int)
theorem markL_length (a : Int) (n : Nat) : (markL a n).length = n := by simp [markL]
theorem markL_rd (a : Int) (n i : Nat) (h : i < n) : rd (markL a n) (i : Int) = a + i := by
 rw [rd_lt _ _ (by rw [markL_length]; exact h)]; simp [markL]
theorem mark_prefix {a : Int} {m : List Int} {i n : Nat} (hm : m.length = n) (hi : i < n) (h : m.take i = markL a i) : (m.set i (a + i)).take (i + 1) = markL a (i + 1) := by
 apply List.ext_getElem?
 intro j
 by_cases hj : j < i + 1
 ·rw [List.getElem?_take_of_lt hj]
  by_cases e : j = i
  ·subst e; rw [List.getElem?_set_self (by omega)]; simp [markL]
  ·rw [List.getElem?_set_ne (by omega)]
   have := congrArg (fun t => t[j]?) h
   rw [List.getElem?_take_of_lt (by omega)] at this
   rw [this]; simp [markL]; rw [List.getElem?_range (by omega), List.getElem?_range (by omega)]
 ·rw [List.getElem?_eq_none (by simp; omega), List.getElem?_eq_none (by simp [markL]; omega)]
theorem markIntS_l (n : Nat) (hn : n ≤ 1048576) (a : Int) (h0 : -4611686018427387904 ≤ a) (h1 : a ≤ 4611686018427387904) (d : Nat) : ∀ (i : Nat) (m : List Int), i + d = n → m.length = n → m.take i = markL a i → Ev (fun k => laws_markIntS.l0 k m (a + i) i) (a + n, markL a n) := by
 induction d with
 | zero =>
  intro i m hi hm ht
  refine Ev.shift ?_
  simp only [laws_markIntS.l0]
  refine Ev.neg (by omega) (Ev.ret ?_)
  rw [List.take_of_length_le (by omega)] at ht
  obtain rfl : i = n := by omega
  rw [ht]
 | succ d ih =>
  intro i m hi hm ht
  refine Ev.shift ?_
  simp only [laws_markIntS.l0]
  refine Ev.pos (by omega) (Ev.pos (by omega) ?_)
  rw [wrap64_id (x := (i : Int) + 1) (by omega) (by omega), wrap64_id (x := a + (i : Int) + 1) (by omega) (by omega), Int.toNat_natCast]
  have e : a + (i : Int) + 1 = a + ((i + 1 : Nat) : Int) := by omega
  rw [e, cast1]
  exact ih (i + 1) _ (by omega) (by rw [List.length_set]; exact hm) (mark_prefix hm (by omega) ht)
theorem markIntS (l : List Int) (hl : l.length ≤ 1048576) (a : Int) (h0 : -4611686018427387904 ≤ a) (h1 : a ≤ 4611686018427387904) : Ev (fun k => laws_markIntS.f k l a) (a + l.length, markL a l.length) := by
 unfold laws_markIntS.f
 have := markIntS_l l.length hl a h0 h1 l.length 0 l (by omega) rfl (by simp [markL])
 simpa using this
theorem heldIntS_l (n : Nat) (hn : n ≤ 1048576) (a : Int) (h0 : -4611686018427387904 ≤ a) (h1 : a ≤ 4611686018427387904) (d : Nat) : ∀ (i : Nat), i + d = n → Ev (fun k => laws_heldIntS.l0 k (markL a n) (a + i) i) (a + n) := by
 induction d with
 | zero =>
  intro i hi
  refine Ev.shift ?_
  simp only [laws_heldIntS.l0, markL_length]
  refine Ev.neg (by omega) (Ev.ret ?_)
  rw [show i = n by omega]
 | succ d ih =>
  intro i hi
  refine Ev.shift ?_
  simp only [laws_heldIntS.l0, markL_length]
  refine Ev.pos (by omega) (Ev.pos (by omega) (Ev.pos (markL_rd a n i (by omega)) ?_))
  rw [wrap64_id (x := (i : Int) + 1) (by omega) (by omega), wrap64_id (x := a + (i : Int) + 1) (by omega) (by omega)]
  have e : a + (i : Int) + 1 = a + ((i + 1 : Nat) : Int) := by omega
  rw [e, cast1]
  exact ih (i + 1) (by omega)
theorem heldIntS (n : Nat) (hn : n ≤ 1048576) (a : Int) (h0 : -4611686018427387904 ≤ a) (h1 : a ≤ 4611686018427387904) : Ev (fun k => laws_heldIntS.f k (markL a n) a) (a + n) := by
 unfold laws_heldIntS.f
 have := heldIntS_l n hn a h0 h1 n 0 (by omega)
 simpa using this

end Go.Proofs.Ytobfnlhocdnflaa.Pure
