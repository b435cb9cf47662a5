import Derived.Test.YtfomdcbgggdnhaaQLawsToints
import Derived.Test.YtfomdcbgggdnhaaXBase
import Derived.Test.YtfomdcbgggdnhaaXEqints
namespace Go.Proofs.Ytfomdcbgggdnhaa.Pure
open Go.RowKit Go.Proofs.Ytfomdcbgggdnhaa.Q Go.Proofs.YtfomdcbgggdnhaaW.PrintWords Go.Proofs.YtfomdcbgggdnhaaW.PrintLast
set_option linter.unusedVariables false
set_option linter.unusedSimpArgs false

-- copying, comparing, marking, looking again: what the statements' own helpers answer
theorem toIntS_l (l : List Int) (hl : l.length ≤ 1048576) (d : Nat) : ∀ (i : Nat) (m : List Int), i + d = l.length → m.length = l.length → m.take i = l.take i → Ev (fun k => laws_toIntS.l0 k l m i) l := by
 induction d with
 | zero =>
  intro i m hi hm ht
  refine Ev.shift ?_
  simp only [laws_toIntS.l0]
  refine Ev.neg (by omega) ?_
  refine Ev.ret ?_
  rw [List.take_of_length_le (by omega), List.take_of_length_le (by omega)] at ht
  exact ht
 | succ d ih =>
  intro i m hi hm ht
  refine Ev.shift ?_
  simp only [laws_toIntS.l0]
  refine Ev.pos (by omega) (Ev.pos (by omega) (Ev.pos (by omega) ?_))
  rw [wrap64_id (by omega) (by omega), cast1]
  refine ih (i + 1) _ (by omega) (by rw [List.length_set]; exact hm) ?_
  exact set_prefix hm (by omega) ht
theorem toIntS (l : List Int) (hl : l.length ≤ 1048576) : Ev (fun k => laws_toIntS.f k l) l := by
 unfold laws_toIntS.f
 refine Ev.pos (by omega) (Ev.pos (by omega) ?_)
 exact toIntS_l l hl l.length 0 _ (by omega) (by simp) (by simp)

end Go.Proofs.Ytfomdcbgggdnhaa.Pure
