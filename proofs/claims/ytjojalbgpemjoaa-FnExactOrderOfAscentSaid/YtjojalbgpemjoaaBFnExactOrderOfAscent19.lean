import Derived.Test.YtjojalbgpemjoaaBFnExactOrderOfAscent7
import Derived.Test.YtjojalbgpemjoaaBFnExactOrderOfAscent14
import Derived.Test.YtjojalbgpemjoaaBFnExactOrderOfAscent15
import Derived.Test.YtjojalbgpemjoaaBFnExactOrderOfAscent16
import Derived.Test.YtjojalbgpemjoaaBFnExactOrderOfAscent18
/- OrderOfAscent answers what the reference answers and hands back memory of its own, for every list of at most 2^20 numbers (longer ones the statement lets pass). Conditions: none. -/
namespace Go.Proofs.Ytjojalbgpemjoaa.Pure
open Go.RowKit Go.Proofs.Ytjojalbgpemjoaa.Q Go.Proofs.YtjojalbgpemjoaaW.PrintWords Go.Proofs.YtjojalbgpemjoaaW.PrintLast
set_option linter.unusedVariables false
set_option linter.unusedSimpArgs false

theorem OrderOfAscent_both (l : List Int) : ∃ n x b, Ev (fun k => impl_OrderOfAscent.f k l) (n, x, b) ∧ Ev (fun k => spec_OrderOfAscent.f k l) (n, x, b) ∧ x.length ≤ 1000 := by
  have hno : Ev (fun k => spec_OrderOfAscent.j0 k l true) (0, [], false) := by
    refine Ev.shift ?_
    simp only [spec_OrderOfAscent.j0]
    exact Ev.pos trivial (Ev.ret rfl)
  unfold impl_OrderOfAscent.f spec_OrderOfAscent.f
  by_cases h : isAsc l = true
  · by_cases h10 : (l.length : Int) ≤ 10
    · have hb := ivs_both l (by omega) h
      have hlen := ivsOf_len l
      refine ⟨_, _, true, Ev.bind (small_ev l) (Ev.pos (by simp [h, h10]) (Ev.bind hb.1 (Ev.bind (orderOf_ev _ (by omega)) (Ev.ret rfl)))), Ev.bind (good_spec l) (Ev.pos h (Ev.shift ?_)), by rw [rel_length]; omega⟩
      simp only [spec_OrderOfAscent.j0]
      exact Ev.neg (by simp; omega) (Ev.bind hb.2 (Ev.bind (ivOrder_ev _ (by omega)) (Ev.ret rfl)))
    · refine ⟨0, [], false, Ev.bind (small_ev l) (Ev.neg (by simp [h10]) (Ev.ret rfl)), Ev.bind (good_spec l) (Ev.pos h ?_), by simp⟩
      rw [show decide ((l.length : Int) > 10) = true by simp; omega]
      exact hno
  · exact ⟨0, [], false, Ev.bind (small_ev l) (Ev.neg (by simp [h]) (Ev.ret rfl)), Ev.bind (good_spec l) (Ev.neg h hno), by simp⟩
theorem FnExactOrderOfAscent : laws_FnExactOrderOfAscent.Pure := by
  intro l h1 h2 h3
  refine Ev.at1 ?_
  unfold laws_FnExactOrderOfAscent.f
  by_cases hb : (l.length : Int) > 1048576
  · exact Ev.pos hb (Ev.ret rfl)
  have hl : l.length ≤ 1048576 := by omega
  obtain ⟨n, x, b, hi, hs, hx⟩ := OrderOfAscent_both l
  refine Ev.neg hb (Ev.bind (toIntS l hl) (Ev.bind hs (Ev.bind (toIntS l hl) (Ev.bind hi ?_))))
  have ex := eqOrder_same n x (by omega)
  have mx := markOrder n x (by omega) 1 (by omega) (by omega)
  have gx := heldOrder n x.length (by omega) 1 (by omega) (by omega)
  refine Ev.bind ex (Ev.pos rfl (Ev.shift ?_))
  simp only [laws_FnExactOrderOfAscent.j0]
  refine Ev.neg (by simp) (Ev.bind (toIntS l hl) (Ev.bind (eqIntS_same l hl) (Ev.pos rfl (Ev.bind (markIntS l hl 1 (by omega) (by omega)) ?_))))
  refine Ev.neg (by simp; omega) (Ev.bind ex (Ev.pos rfl (Ev.shift ?_)))
  simp only [laws_FnExactOrderOfAscent.j1]
  refine Ev.neg (by simp) (Ev.bind mx (Ev.bind gx (Ev.neg (by omega) (Ev.pos rfl ?_))))
  refine Ev.bind (toIntS l hl) (Ev.bind hi (Ev.bind ex (Ev.pos rfl (Ev.shift ?_))))
  simp only [laws_FnExactOrderOfAscent.j2]
  exact Ev.neg (by simp) (Ev.bind gx (Ev.neg (by omega) (Ev.pos rfl (Ev.ret rfl))))

end Go.Proofs.Ytjojalbgpemjoaa.Pure
