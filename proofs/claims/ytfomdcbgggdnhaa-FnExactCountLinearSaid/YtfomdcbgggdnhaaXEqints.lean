import Derived.Test.YtfomdcbgggdnhaaQLawsEqints
import Derived.Test.YtfomdcbgggdnhaaXBase
namespace Go.Proofs.Ytfomdcbgggdnhaa.Pure
open Go.RowKit Go.Proofs.Ytfomdcbgggdnhaa.Q Go.Proofs.YtfomdcbgggdnhaaW.PrintWords Go.Proofs.YtfomdcbgggdnhaaW.PrintLast
set_option linter.unusedVariables false
set_option linter.unusedSimpArgs false

theorem eqIntS_l (l : List Int) (hl : l.length ≤ 1048576) (d : Nat) : ∀ (i : Nat), i + d = l.length → Ev (fun k => laws_eqIntS.l0 k l l i) true := by
 induction d with
 | zero =>
  intro i hi
  refine Ev.shift ?_
  simp only [laws_eqIntS.l0]
  exact Ev.neg (by omega) (Ev.ret rfl)
 | succ d ih =>
  intro i hi
  refine Ev.shift ?_
  simp only [laws_eqIntS.l0]
  refine Ev.pos (by omega) (Ev.pos (by omega) (Ev.pos (by omega) ?_))
  rw [wrap64_id (by omega) (by omega), cast1]
  exact Ev.pos trivial (ih (i + 1) (by omega))
theorem eqIntS_same (l : List Int) (hl : l.length ≤ 1048576) : Ev (fun k => laws_eqIntS.f k l l) true := by
 unfold laws_eqIntS.f
 refine Ev.pos rfl ?_
 exact eqIntS_l l hl l.length 0 (by omega)

end Go.Proofs.Ytfomdcbgggdnhaa.Pure
