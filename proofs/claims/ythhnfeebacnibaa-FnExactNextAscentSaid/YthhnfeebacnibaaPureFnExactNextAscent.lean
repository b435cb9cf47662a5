/- NextAscent answers what the reference answers and hands back memory of its own, for every list of at most 2^20 numbers (longer ones the statement lets pass). Conditions: none. -/
import Derived.Test.YthhnfeebacnibaaQImplNextascent
import Derived.Test.YthhnfeebacnibaaQLawsFnexactnextascent
import Derived.Test.YthhnfeebacnibaaQSpecNextascent
import Derived.Test.YthhnfeebacnibaaXCopies
import Derived.Test.YthhnfeebacnibaaXMarks
import Derived.Test.YthhnfeebacnibaaXNextasc
namespace Go.Proofs.Ythhnfeebacnibaa.Pure
open Go.RowKit Go.Proofs.Ythhnfeebacnibaa.Q Go.Proofs.YthhnfeebacnibaaW.PrintWords Go.Proofs.YthhnfeebacnibaaW.PrintLast
set_option linter.unusedVariables false
set_option linter.unusedSimpArgs false

theorem NextAscent_both (l : List Int) (h3 : ∀ x ∈ l, (Lit.int .i64 x).wf = true) : ∃ r, Ev (fun k => impl_NextAscent.f k l) r ∧ Ev (fun k => spec_NextAscent.f k l) r ∧ r.1.length ≤ 1000 := by
  unfold impl_NextAscent.f spec_NextAscent.f
  by_cases h : isAsc l = true
  · obtain ⟨hl, hg⟩ := isAsc_goes.1 h
    have hr := rank_range l (-1) 0 hg
    have hb := wys_big (m := l.length) (last := -1) (a := 0) (by omega) (by omega)
    refine ⟨nextR l, Ev.bind (isAscent_impl l) (Ev.pos h (Ev.bind (rankAscent_ev l h) ?_)), Ev.bind (good_spec l) (Ev.pos h (Ev.bind (asNext_ev l hl hg) (Ev.ret rfl))), by have := nextR_len hl hg; omega⟩
    rw [wrap64_id (by omega) (by omega)]
    refine Ev.bind (with_ev _ _) (Ev.ret ?_)
    rw [with_next hl hg]
  · exact ⟨([], false), Ev.bind (isAscent_impl l) (Ev.neg h (Ev.ret rfl)), Ev.bind (good_spec l) (Ev.neg h (Ev.ret rfl)), by simp⟩
theorem FnExactNextAscent : laws_FnExactNextAscent.Pure := by
  intro l h1 h2 h3
  refine Ev.at1 ?_
  unfold laws_FnExactNextAscent.f
  by_cases hb : (l.length : Int) > 1048576
  · exact Ev.pos hb (Ev.ret rfl)
  · have hl : l.length ≤ 1048576 := by omega
    obtain ⟨⟨x, b⟩, hi, hs, hx⟩ := NextAscent_both l h3
    replace hx : x.length ≤ 1000 := hx
    refine Ev.neg hb (Ev.bind (toIntS l hl) (Ev.bind hs (Ev.bind (toIntS l hl) (Ev.bind hi ?_))))
    have ex := eqIntS_same x (by omega)
    have mx := markIntS x (by omega) 1 (by omega) (by omega)
    have gx := heldIntS x.length (by omega) 1 (by omega) (by omega)
    refine Ev.bind ex (Ev.pos rfl ?_)
    refine Ev.shift ?_
    simp only [laws_FnExactNextAscent.j0]
    refine Ev.neg (by simp) (Ev.bind (toIntS l hl) (Ev.bind (eqIntS_same l hl) (Ev.pos rfl (Ev.bind (markIntS l hl 1 (by omega) (by omega)) ?_))))
    refine Ev.neg (by simp; omega) (Ev.bind ex (Ev.pos rfl ?_))
    refine Ev.shift ?_
    simp only [laws_FnExactNextAscent.j1]
    refine Ev.neg (by simp) (Ev.bind mx (Ev.bind gx (Ev.neg (by omega) (Ev.pos rfl ?_))))
    refine Ev.bind (toIntS l hl) (Ev.bind hi (Ev.bind ex (Ev.pos rfl ?_)))
    refine Ev.shift ?_
    simp only [laws_FnExactNextAscent.j2]
    exact Ev.neg (by simp) (Ev.bind gx (Ev.neg (by omega) (Ev.pos rfl (Ev.ret rfl))))

end Go.Proofs.Ythhnfeebacnibaa.Pure
