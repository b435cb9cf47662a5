import Derived.Test.YtmdldleodieooaaQLawsHeldintss
import Derived.Test.YtmdldleodieooaaQLawsMarkintss
import Derived.Test.YtmdldleodieooaaXRowseq
import Derived.Test.YtmdldleodieooaaXMarks
namespace Go.Proofs.Ytmdldleodieooaa.Pure
open Go.RowKit Go.Proofs.Ytmdldleodieooaa.Q Go.Proofs.YtmdldleodieooaaW.PrintWords Go.Proofs.YtmdldleodieooaaW.PrintLast
set_option linter.unusedVariables false
set_option linter.unusedSimpArgs false

/-- the number that row i begins with when all rows are marked -/
def off (L : List (List Int)) : Nat → Int
 | 0 => 1
 | i + 1 => off L i + (rd_L1 L (i : Int)).length
/-- the marked rows -/
def mkL (L : List (List Int)) : List (List Int) := (List.range L.length).map fun i => markL (off L i) (rd_L1 L (i : Int)).length
theorem mkL_length (L : List (List Int)) : (mkL L).length = L.length := by simp [mkL]
theorem mkL_rd (L : List (List Int)) {i : Nat} (hi : i < L.length) : rd_L1 (mkL L) (i : Int) = markL (off L i) (rd_L1 L (i : Int)).length := by
 rw [rdL_lt _ i (by rw [mkL_length]; exact hi)]; simp [mkL]
theorem off_range {L : List (List Int)} (h : rowsP L) : ∀ i : Nat, i ≤ L.length → 1 ≤ off L i ∧ off L i ≤ 1 + 1048576 * i
 | 0, _ => by simp [off]
 | i + 1, hi => by
  have := off_range h i (by omega)
  have := h.at (i := i) (by omega)
  simp only [off]
  omega
theorem markK_l (L : List (List Int)) (h : rowsP L) (d : Nat) : ∀ (i : Nat) (m : List (List Int)), i + d = L.length → m.length = L.length → m.drop i = L.drop i → m.take i = (mkL L).take i → Ev (fun k => laws_markIntSS.l0 k m (off L i) (i : Int)) (off L L.length, mkL L) := by
 have hL := h.1
 induction d with
 | zero =>
  intro i m hi hm ht ha
  obtain rfl : i = L.length := by omega
  refine Ev.shift ?_
  simp only [laws_markIntSS.l0]
  refine Ev.neg (by omega) (Ev.ret ?_)
  rw [List.take_of_length_le (by omega), List.take_of_length_le (by rw [mkL_length]; omega)] at ha
  rw [ha]
 | succ d ih =>
  intro i m hi hm ht ha
  have hrow : m.getD i [] = rd_L1 L (i : Int) := by
   have := congrArg (fun t => t[0]?) ht
   simp only [List.getElem?_drop, Nat.add_zero] at this
   rw [List.getD_eq_getElem?_getD, this, rdL_lt L i (by omega)]; simp [show i < L.length by omega]
  have hr := h.at (i := i) (by omega)
  have ho := off_range h i (by omega)
  have hs := ih (i + 1) (m.set i (markL (off L i) (rd_L1 L (i : Int)).length)) (by omega) (by rw [List.length_set]; exact hm) (by
   rw [List.drop_set_of_lt (by omega)]
   have := congrArg (List.drop 1) ht
   rwa [List.drop_drop, List.drop_drop] at this) (by
   rw [← mkL_rd L (show i < L.length by omega)]
   exact set_prefixL (by rw [mkL_length]; exact hm) (by rw [mkL_length]; omega) ha)
  refine Ev.shift ?_
  simp only [laws_markIntSS.l0]
  refine Ev.pos (by omega) (Ev.pos (by omega) ?_)
  rw [Int.toNat_natCast, hrow]
  refine Ev.bind (markIntS _ hr (off L i) (by omega) (by omega)) ?_
  rw [wrap64_id (by omega) (by omega), cast1]
  exact hs
theorem markK (L : List (List Int)) (h : rowsP L) : Ev (fun k => laws_markIntSS.l0 k L 1 0) (off L L.length, mkL L) := markK_l L h L.length 0 L (by omega) rfl rfl rfl
theorem heldK_l (L : List (List Int)) (h : rowsP L) (d : Nat) : ∀ i : Nat, i + d = L.length → Ev (fun k => laws_heldIntSS.l0 k (mkL L) (off L i) (i : Int)) (off L L.length) := by
 have hL := h.1
 induction d with
 | zero =>
  intro i hi
  obtain rfl : i = L.length := by omega
  refine Ev.shift ?_
  simp only [laws_heldIntSS.l0]
  exact Ev.neg (by rw [mkL_length]; omega) (Ev.ret rfl)
 | succ d ih =>
  intro i hi
  have hr := h.at (i := i) (by omega)
  have ho := off_range h i (by omega)
  have hs := ih (i + 1) (by omega)
  refine Ev.shift ?_
  simp only [laws_heldIntSS.l0]
  refine Ev.pos (by rw [mkL_length]; omega) (Ev.pos (by omega) ?_)
  rw [mkL_rd L (by omega)]
  refine Ev.bind (heldIntS _ hr (off L i) (by omega) (by omega)) (Ev.neg (by omega) ?_)
  rw [wrap64_id (by omega) (by omega), cast1]
  exact hs
theorem heldK (L : List (List Int)) (h : rowsP L) : Ev (fun k => laws_heldIntSS.f k (mkL L) 1) (off L L.length) := by
 unfold laws_heldIntSS.f
 exact heldK_l L h L.length 0 (by omega)

end Go.Proofs.Ytmdldleodieooaa.Pure
