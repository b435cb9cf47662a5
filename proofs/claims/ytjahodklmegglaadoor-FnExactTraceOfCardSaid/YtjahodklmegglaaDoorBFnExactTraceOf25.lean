import Derived.Test.YtjahodklmegglaaDoorBFnExactTraceOf8
import Derived.Test.YtjahodklmegglaaDoorBFnExactTraceOf9
import Derived.Test.YtjahodklmegglaaDoorBFnExactTraceOf24
namespace Go.Proofs.YtjahodklmegglaaDoor.Pure
open Go.RowKit Go.Proofs.YtjahodklmegglaaDoor.Q Go.Proofs.YtjahodklmegglaaDoorW.PrintWords Go.Proofs.YtjahodklmegglaaDoorW.PrintLast
set_option linter.unusedVariables false
set_option linter.unusedSimpArgs false

/-- how many of the numbers are less -/
def low (D : List Int) (x : Int) : Int := ((D.filter fun y => decide (y < x)).length : Int)
/-- for each number, how many different ones are less -/
def lev (l : List Int) : List Int := l.map (low (dif l))
theorem low_split {D : List Int} {x : Int} (p : Nat) (hp : p ≤ D.length) (h1 : ∀ j : Nat, j < p → rd D (j : Int) < x) (h2 : ∀ j : Nat, p ≤ j → j < D.length → x ≤ rd D (j : Int)) : low D x = p := by
  unfold low
  have e : D.filter (fun y => decide (y < x)) = D.take p := by
    conv => lhs; rw [← List.take_append_drop p D]
    rw [List.filter_append]
    have a : (D.take p).filter (fun y => decide (y < x)) = D.take p := by
      rw [List.filter_eq_self]
      intro y hy
      obtain ⟨j, hj, rfl⟩ := List.mem_iff_getElem.1 hy
      rw [List.length_take] at hj
      have := h1 j (by omega)
      rw [rd_lt D j (by omega)] at this
      simpa using this
    have b : (D.drop p).filter (fun y => decide (y < x)) = [] := by
      rw [List.filter_eq_nil_iff]
      intro y hy
      obtain ⟨j, hj, rfl⟩ := List.mem_iff_getElem.1 hy
      rw [List.length_drop] at hj
      have := h2 (p + j) (by omega) (by omega)
      rw [rd_lt D _ (by omega)] at this
      simp; omega
    rw [a, b, List.append_nil]
  rw [e, List.length_take, Nat.min_eq_left hp]
theorem rising_rd {D : List Int} (h : D.Pairwise (· < ·)) {i j : Nat} (hij : i < j) (hj : j < D.length) : rd D (i : Int) < rd D (j : Int) := by
  rw [rd_lt D i (by omega), rd_lt D j hj]
  exact List.pairwise_iff_getElem.1 h i j (by omega) hj hij
theorem low_get {D : List Int} (h : D.Pairwise (· < ·)) (i : Nat) (hi : i < D.length) : low D (rd D (i : Int)) = i := by
  refine low_split i (by omega) (fun j hj => rising_rd h hj hi) (fun j h1 h2 => ?_)
  by_cases e : i = j
  · subst e; omega
  · have := rising_rd h (show i < j by omega) h2; omega
theorem low_range (D : List Int) (x : Int) : 0 ≤ low D x ∧ low D x ≤ D.length := by
  unfold low
  have := List.length_filter_le (fun y => decide (y < x)) D
  omega
/-- a rising function of the numbers changes no level -/
theorem lev_map (l : List Int) (f : Int → Int) (hf : ∀ x ∈ l, ∀ y ∈ l, x < y → f x < f y) : lev (l.map f) = lev l := by
  have e : dif (l.map f) = (dif l).map f := by
    refine rising_ext (dif_sorted _) ?_ fun x => ?_
    · rw [List.pairwise_map]
      refine (dif_sorted l).imp_of_mem fun {a b} ha hb h => ?_
      exact hf a (mem_dif.1 ha) b (mem_dif.1 hb) h
    · rw [mem_dif, List.mem_map, List.mem_map]
      exact ⟨fun ⟨a, ha, h⟩ => ⟨a, mem_dif.2 ha, h⟩, fun ⟨a, ha, h⟩ => ⟨a, mem_dif.1 ha, h⟩⟩
  unfold lev
  rw [e, List.map_map]
  refine List.map_congr_left fun x hx => ?_
  show low ((dif l).map f) (f x) = low (dif l) x
  unfold low
  rw [List.filter_map, List.length_map]
  congr 2
  refine List.filter_congr fun y hy => ?_
  have hy' := mem_dif.1 hy
  simp only [Function.comp]
  rcases Int.lt_trichotomy y x with h | h | h
  · have := hf y hy' x hx h
    rw [decide_eq_true h, decide_eq_true this]
  · subst h; simp
  · have := hf x hx y hy' h
    rw [decide_eq_false (by omega), decide_eq_false (by omega)]
theorem lev_length (l : List Int) : (lev l).length = l.length := by simp [lev]

end Go.Proofs.YtjahodklmegglaaDoor.Pure

namespace Go.Proofs.YtjahodklmegglaaDoor.Pure
open Go.RowKit Go.Proofs.YtjahodklmegglaaDoor.Q Go.Proofs.YtjahodklmegglaaDoorW.PrintWords Go.Proofs.YtjahodklmegglaaDoorW.PrintLast
set_option linter.unusedVariables false
set_option linter.unusedSimpArgs false

theorem put_l (D : List Int) (x : Int) (h : D.Pairwise (· < ·)) (hD : D.length ≤ 1048576) (d : Nat) : ∀ (i : Nat), i + d = D.length → (∀ m : Nat, m < i → rd D (m : Int) < x) →
    ∃ r, Ev (fun k => spec_l1Put.l0 k D x i) r ∧ r.Pairwise (· < ·) ∧ (∀ y, y ∈ r ↔ y = x ∨ y ∈ D) ∧ r.length ≤ D.length + 1 := by
  have ins : ∀ i : Nat, i ≤ D.length → (∀ m : Nat, m < i → rd D (m : Int) < x) → (∀ m : Nat, i ≤ m → m < D.length → x < rd D (m : Int)) → (D.take i ++ [x] ++ D.drop i).Pairwise (· < ·) ∧ (∀ y, y ∈ D.take i ++ [x] ++ D.drop i ↔ y = x ∨ y ∈ D) ∧ (D.take i ++ [x] ++ D.drop i).length ≤ D.length + 1 := by
    intro i hi h1 h2
    have a : ∀ y ∈ D.take i, y < x := by
      intro y hy
      obtain ⟨j, hj, rfl⟩ := List.mem_iff_getElem.1 hy
      rw [List.length_take] at hj
      have := h1 j (by omega)
      rw [rd_lt D j (by omega)] at this
      simpa using this
    have b : ∀ y ∈ D.drop i, x < y := by
      intro y hy
      obtain ⟨j, hj, rfl⟩ := List.mem_iff_getElem.1 hy
      rw [List.length_drop] at hj
      have := h2 (i + j) (by omega) (by omega)
      rw [rd_lt D _ (by omega)] at this
      simpa using this
    refine ⟨?_, fun y => ?_, by simp; omega⟩
    · rw [List.pairwise_append, List.pairwise_append]
      refine ⟨⟨h.sublist (List.take_sublist _ _), by simp, fun y hy z hz => ?_⟩, h.sublist (List.drop_sublist _ _), fun y hy z hz => ?_⟩
      · rw [List.mem_singleton] at hz; subst hz; exact a y hy
      · rw [List.mem_append, List.mem_singleton] at hy
        rcases hy with hy | rfl
        · have := a y hy; have := b z hz; omega
        · exact b z hz
    · conv => rhs; rw [← List.take_append_drop i D]
      simp only [List.mem_append, List.mem_singleton]
      constructor
      · rintro ((h | h) | h)
        · exact .inr (.inl h)
        · exact .inl h
        · exact .inr (.inr h)
      · rintro (h | h | h)
        · exact .inl (.inr h)
        · exact .inl (.inl h)
        · exact .inr h
  induction d with
  | zero =>
    intro i hi h1
    refine ⟨_, Ev.shift ?_, ins i (by omega) h1 (fun m a b => by omega)⟩
    simp only [spec_l1Put.l0, Option.bind_some, List.nil_append, List.length_nil]
    refine Ev.neg (by omega) (Ev.pos (by omega) (Ev.pos (by omega) (Ev.pos (by simp; omega) (Ev.pos (by simp; omega) (Ev.pos (by simp; omega) (Ev.ret (by simp)))))))
  | succ d ih =>
    intro i hi h1
    by_cases hc : rd D (i : Int) < x
    · obtain ⟨r, hr, hq⟩ := ih (i + 1) (by omega) (fun m hm => by
        by_cases e : m = i
        · subst e; exact hc
        · exact h1 m (by omega))
      refine ⟨r, Ev.shift ?_, hq⟩
      simp only [spec_l1Put.l0]
      refine Ev.pos (by omega) (Ev.pos (by omega) (Ev.pos hc ?_))
      rw [wrap64_id (by omega) (by omega), cast1]
      exact hr
    · by_cases he : rd D (i : Int) = x
      · refine ⟨D, Ev.shift ?_, h, fun y => ⟨fun hy => .inr hy, fun hy => hy.elim (fun e => by rw [e, ← he, rd_lt D i (by omega)]; exact List.getElem_mem _) id⟩, by omega⟩
        simp only [spec_l1Put.l0]
        exact Ev.pos (by omega) (Ev.pos (by omega) (Ev.neg hc (Ev.pos he (Ev.ret rfl))))
      · refine ⟨_, Ev.shift ?_, ins i (by omega) h1 (fun m a b => by
          by_cases e : i = m
          · subst e; omega
          · have := rising_rd h (show i < m by omega) b; omega)⟩
        simp only [spec_l1Put.l0, Option.bind_some, List.nil_append, List.length_nil]
        refine Ev.pos (by omega) (Ev.pos (by omega) (Ev.neg hc (Ev.neg he (Ev.pos (by omega) (Ev.pos (by simp; omega) (Ev.pos (by simp; omega) (Ev.pos (by simp; omega) (Ev.ret (by simp)))))))))
theorem place_l (D : List Int) (x : Int) (h : D.Pairwise (· < ·)) (hD : D.length ≤ 1048576) (p : Nat) (hp : p < D.length) (he : rd D (p : Int) = x) (d : Nat) : ∀ i : Nat, i + d = p → Ev (fun k => spec_orPlace.l0 k x D (D.length : Int) i) (low D x) := by
  induction d with
  | zero =>
    intro i hi
    obtain rfl : i = p := by omega
    refine Ev.shift ?_
    simp only [spec_orPlace.l0]
    refine Ev.pos (by omega) (Ev.pos (by omega) (Ev.pos (by omega) (Ev.pos he (Ev.ret ?_))))
    rw [← he, low_get h i hp]
  | succ d ih =>
    intro i hi
    have := rising_rd h (show i < p by omega) hp
    refine Ev.shift ?_
    simp only [spec_orPlace.l0]
    refine Ev.pos (by omega) (Ev.pos (by omega) (Ev.pos (by omega) (Ev.neg (by omega) ?_)))
    rw [wrap64_id (by omega) (by omega), cast1]
    exact ih (i + 1) (by omega)
theorem place_ev (D : List Int) (x : Int) (h : D.Pairwise (· < ·)) (hD : D.length ≤ 1048576) (hx : x ∈ D) : Ev (fun k => spec_orPlace.f k D x) (low D x) := by
  unfold spec_orPlace.f
  obtain ⟨p, hp, rfl⟩ := List.mem_iff_getElem.1 hx
  exact place_l D _ h hD p hp (rd_lt D p hp) p 0 (by omega)
theorem ofNumbers_in (l D : List Int) (h : D.Pairwise (· < ·)) (hD : D.length ≤ 1048576) (hm : ∀ x ∈ l, x ∈ D) (hl : l.length ≤ 1048576) (d : Nat) : ∀ (i : Nat), i + d = l.length → Ev (fun k => spec_weOfNumbers.l1 k D ((l.take i).map (low D)) l (l.length : Int) i) (l.map (low D)) := by
  induction d with
  | zero =>
    intro i hi
    refine Ev.shift ?_
    simp only [spec_weOfNumbers.l1]
    exact Ev.neg (by omega) (Ev.ret (by rw [List.take_of_length_le (by omega)]))
  | succ d ih =>
    intro i hi
    refine Ev.shift ?_
    simp only [spec_weOfNumbers.l1]
    refine Ev.pos (by omega) (Ev.pos (by omega) (Ev.pos (by omega) (Ev.bind (place_ev D (rd l (i : Int)) h hD (hm _ (by rw [rd_lt l i (by omega)]; exact List.getElem_mem _))) (Ev.pos (by simp; omega) ?_))))
    rw [wrap64_id (by omega) (by omega), cast1]
    have := ih (i + 1) (by omega)
    rw [List.take_succ_eq_append_getElem (by omega), List.map_append, ← rd_lt l i (by omega)] at this
    exact this
theorem ofNumbers_l (l : List Int) (hl : l.length ≤ 1000000) (d : Nat) : ∀ (i : Nat) (D : List Int), i + d = l.length → D.Pairwise (· < ·) → D.length ≤ i → (∀ x, x ∈ D ↔ x ∈ l.take i) → Ev (fun k => spec_weOfNumbers.l0 k l D l (l.length : Int) i) (lev l) := by
  induction d with
  | zero =>
    intro i D hi h hD hm
    rw [List.take_of_length_le (by omega)] at hm
    have e : D = dif l := rising_ext h (dif_sorted l) fun x => by rw [hm, mem_dif]
    refine Ev.shift ?_
    simp only [spec_weOfNumbers.l0]
    refine Ev.neg (by omega) ?_
    subst e
    exact ofNumbers_in l (dif l) h (by omega) (fun x hx => mem_dif.2 hx) (by omega) l.length 0 (by omega)
  | succ d ih =>
    intro i D hi h hD hm
    obtain ⟨r, hr, h1, h2, h3⟩ := put_l D (rd l (i : Int)) h (by omega) D.length 0 (by omega) (fun m hm => by omega)
    refine Ev.shift ?_
    simp only [spec_weOfNumbers.l0]
    refine Ev.pos (by omega) (Ev.pos (by omega) (Ev.pos (by omega) (Ev.bind (a := r) (by unfold spec_l1Put.f; exact hr) ?_)))
    rw [wrap64_id (by omega) (by omega), cast1]
    refine ih (i + 1) r (by omega) h1 (by omega) fun x => ?_
    rw [h2, hm, List.take_succ_eq_append_getElem (by omega), List.mem_append, List.mem_singleton, rd_lt l i (by omega)]
    exact Or.comm
theorem ofNumbers_ev (l : List Int) (hl : l.length ≤ 1000000) : Ev (fun k => spec_weOfNumbers.f k l) (lev l) := by
  unfold spec_weOfNumbers.f
  exact ofNumbers_l l hl l.length 0 [] (by omega) (by simp) (by simp) (by simp)

end Go.Proofs.YtjahodklmegglaaDoor.Pure

namespace Go.Proofs.YtjahodklmegglaaDoor.Pure
set_option linter.unusedVariables false
set_option linter.unusedSimpArgs false

-- plain
/-! the different values of a function: counted by their first places -/
def reps (b : Nat → Int) (n : Nat) : List Nat := (List.range n).filter fun j => decide (∀ m, m < j → b m ≠ b j)
theorem mem_reps {b : Nat → Int} {n j : Nat} : j ∈ reps b n ↔ j < n ∧ ∀ m, m < j → b m ≠ b j := by simp [reps]
theorem reps_nodup (b : Nat → Int) (n : Nat) : (reps b n).Nodup := List.Pairwise.sublist List.filter_sublist List.nodup_range
theorem first_of {b : Nat → Int} {n : Nat} : ∀ j, j < n → ∃ m ∈ reps b n, b m = b j := by
  intro j
  induction j using Nat.strongRecOn with
  | ind j ih =>
    intro hj
    by_cases h : ∀ m, m < j → b m ≠ b j
    · exact ⟨j, mem_reps.2 ⟨hj, h⟩, rfl⟩
    · have ⟨m, h2⟩ := Classical.not_forall.1 h
      have ⟨h3, h4⟩ := Classical.not_imp.1 h2
      obtain ⟨q, hq, e⟩ := ih m h3 (by omega)
      exact ⟨q, hq, e.trans (Classical.not_not.1 h4)⟩
theorem reps_map_nodup (b : Nat → Int) (n : Nat) : ((reps b n).map b).Nodup := by
  rw [List.Nodup, List.pairwise_map]
  refine List.Pairwise.imp_of_mem ?_ (reps_nodup b n)
  intro x y hx hy hne e
  rw [mem_reps] at hx hy
  rcases Nat.lt_trichotomy x y with h | h | h
  · exact hy.2 x h e
  · exact hne h
  · exact hx.2 y h e.symm
theorem reps_perm {b : Nat → Int} {n : Nat} {D : List Int} (hD : D.Nodup) (mD : ∀ x, x ∈ D ↔ ∃ j, j < n ∧ b j = x) : D.Perm ((reps b n).map b) := by
  rw [List.perm_ext_iff_of_nodup hD (reps_map_nodup b n)]
  intro x
  rw [mD, List.mem_map]
  constructor
  · rintro ⟨j, hj, rfl⟩; obtain ⟨m, hm, e⟩ := first_of (b := b) j hj; exact ⟨m, hm, e⟩
  · rintro ⟨j, hj, rfl⟩; exact ⟨j, (mem_reps.1 hj).1, rfl⟩
theorem reps_congr {b v : Nat → Int} {n : Nat} (h : ∀ i j, i < n → j < n → (b i = b j ↔ v i = v j)) : reps b n = reps v n := by
  unfold reps
  refine List.filter_congr fun j hj => ?_
  rw [List.mem_range] at hj
  rw [Bool.eq_iff_iff, decide_eq_true_iff, decide_eq_true_iff]
  constructor
  · intro h2 m hm e; exact h2 m hm ((h m j (by omega) hj).2 e)
  · intro h2 m hm e; exact h2 m hm ((h m j (by omega) hj).1 e)
theorem count_values {b v : Nat → Int} {n : Nat} {D E : List Int} (hD : D.Nodup) (hE : E.Nodup) (mD : ∀ x, x ∈ D ↔ ∃ j, j < n ∧ b j = x) (mE : ∀ x, x ∈ E ↔ ∃ j, j < n ∧ v j = x)
    (h : ∀ i j, i < n → j < n → (b i = b j ↔ v i = v j)) {p q : Int → Bool} (hp : ∀ j, j < n → p (b j) = q (v j)) : D.countP p = E.countP q := by
  rw [(reps_perm hD mD).countP_eq, (reps_perm hE mE).countP_eq, ← reps_congr h, List.countP_map, List.countP_map]
  exact List.countP_congr fun j hj => by
    have := hp j (mem_reps.1 hj).1
    simp only [Function.comp_apply, this]
/-- where a number stands in a rising list: as many as are less -/
theorem place_count : ∀ (E : List Int) (x : Int), E.Pairwise (· < ·) → x ∈ E → E.idxOf x = E.countP (fun y => decide (y < x))
  | [], _, _, h => by simp at h
  | y :: E, x, hp, hx => by
    rw [List.pairwise_cons] at hp
    by_cases e : y = x
    · subst e
      rw [List.idxOf_cons_self, List.countP_cons_of_neg (by simp)]
      symm; rw [List.countP_eq_zero]
      intro z hz; have := hp.1 z hz; simp; omega
    · have hx' : x ∈ E := by
        rcases List.mem_cons.1 hx with h | h
        · exact absurd h.symm e
        · exact h
      have := hp.1 x hx'
      rw [List.idxOf_cons, show (y == x) = false by simpa using e, cond_false, place_count E x hp.2 hx', List.countP_cons_of_pos (by simpa using this)]

end Go.Proofs.YtjahodklmegglaaDoor.Pure
