import Derived.Test.YteechpappfagpaaDoorBFnOrdersOfPlaces5
import Derived.Test.YteechpappfagpaaDoorBFnOrdersOfPlaces8
import Derived.Test.YteechpappfagpaaDoorBFnOrdersOfPlaces10
import Derived.Test.YteechpappfagpaaDoorBFnOrdersOfPlaces11
import Derived.Test.YteechpappfagpaaDoorBFnOrdersOfPlaces12
import Derived.Test.YteechpappfagpaaDoorBFnOrdersOfPlaces13
import Derived.Test.YteechpappfagpaaDoorBFnOrdersOfPlaces17
import Derived.Test.YteechpappfagpaaDoorBFnOrdersOfPlaces20
namespace Go.Proofs.YteechpappfagpaaDoor.Pure
open Go.RowKit Go.Proofs.YteechpappfagpaaDoor.Q Go.Proofs.YteechpappfagpaaDoorW.PrintWords Go.Proofs.YteechpappfagpaaDoorW.PrintLast
set_option linter.unusedVariables false
set_option linter.unusedSimpArgs false

theorem Ev.up {α : Type} {g : Nat → Option α} {r : α} (h : Ev g r) : Ev (fun k => g (k + 1)) r := by
  obtain ⟨K, hK⟩ := h; exact ⟨K, fun k hk => hK (k + 1) (by omega)⟩
/-- one more bit -/
def orb (x : Int) (j : Nat) : Int := Go.bits .or .i64 x (shl .i64 1 (j : Int))
/-- a row: the bits of those before d that p tells -/
def rowf (p : Nat → Bool) (d : Nat) : Int := (List.range d).foldl (fun x j => if p j then orb x j else x) 0
theorem rowf_succ (p : Nat → Bool) (d : Nat) : rowf p (d + 1) = if p d then orb (rowf p d) d else rowf p d := by
  simp [rowf, List.range_succ, List.foldl_append]
/-- the rows of a relation on n elements -/
def rel (p : Nat → Nat → Bool) (n : Nat) : List Int := (List.range n).map fun i => rowf (p i) n
theorem rel_length (p : Nat → Nat → Bool) (n : Nat) : (rel p n).length = n := by simp [rel]
theorem rel_get (p : Nat → Nat → Bool) (n i : Nat) (h : i < n) : rd (rel p n) (i : Int) = rowf (p i) n := by
  rw [rd_lt _ i (by rw [rel_length]; exact h)]; simp [rel]
theorem rel_congr {p q : Nat → Nat → Bool} {n : Nat} (h : ∀ i j, i < n → j < n → p i j = q i j) : rel p n = rel q n := by
  unfold rel
  refine List.map_congr_left fun i hi => ?_
  rw [List.mem_range] at hi
  have : ∀ d, d ≤ n → rowf (p i) d = rowf (q i) d := by
    intro d
    induction d with
    | zero => intro _; rfl
    | succ d ih => intro hd; rw [rowf_succ, rowf_succ, ih (by omega), h i d hi (by omega)]
  exact this n (Nat.le_refl _)
/-- the rows up to i are told, the ones behind are empty -/
def relUpto (p : Nat → Nat → Bool) (n i : Nat) : List Int := (rel p n).take i ++ List.replicate (n - i) 0
theorem relation_l1 (p : Nat → Nat → Bool) (n : Nat) (hn : n ≤ 1000) (i : Nat) (hi : i < n) (R : Int × List Int) (hR : ∀ g : Nat → Int → Int → Option Bool, (∀ i j : Nat, i < n → j < n → Ev (fun k => g k i j) (p i j)) → ∀ y : List Int, y.length = n → rd y (i : Int) = rowf (p i) n → (∀ m : Nat, m < n → m ≠ i → rd y (m : Int) = if m < i then rowf (p m) n else 0) → Ev (fun k => impl_relation.l0 k n (g k) n ((i + 1 : Nat) : Int) n y) R) (d : Nat) :
    ∀ (j : Nat) (y : List Int) (g : Nat → Int → Int → Option Bool), (∀ i j : Nat, i < n → j < n → Ev (fun k => g k i j) (p i j)) → j + d = n → y.length = n → rd y (i : Int) = rowf (p i) j → (∀ m : Nat, m < n → m ≠ i → rd y (m : Int) = if m < i then rowf (p m) n else 0) →
    Ev (fun k => impl_relation.l1 k n (g k) (i : Int) n (i : Int) n (j : Int) n y) R := by
  induction d with
  | zero =>
    intro j y g hg hj hy h1 h2
    obtain rfl : j = n := by omega
    refine Ev.shift ?_
    simp only [impl_relation.l1]
    refine Ev.neg (by omega) ?_
    rw [wrap64_id (x := (i : Int) + 1) (by omega) (by omega), cast1]
    exact hR (fun k => g (k + 1)) (fun a b ha hb => Ev.up (hg a b ha hb)) y hy h1 h2
  | succ d ih =>
    intro j y g hg hj hy h1 h2
    have hg' : ∀ i j : Nat, i < n → j < n → Ev (fun k => g (k + 1) i j) (p i j) := fun a b ha hb => Ev.up (hg a b ha hb)
    refine Ev.shift ?_
    simp only [impl_relation.l1]
    refine Ev.pos (by omega) (Ev.bind (hg' i j hi (by omega)) ?_)
    rw [wrap64_id (x := (j : Int) + 1) (by omega) (by omega), cast1]
    by_cases hp : p i j = true
    · refine Ev.pos hp (Ev.pos (by omega) (Ev.pos (by omega) (Ev.pos (by omega) ?_)))
      rw [Int.toNat_natCast]
      refine ih (j + 1) _ (fun k => g (k + 1)) hg' (by omega) (by simp; omega) ?_ ?_
      · rw [rd_lt _ i (by simp; omega), List.getElem_set_self, rowf_succ, if_pos hp, h1]; rfl
      · intro m hm hmi
        rw [rd_lt _ m (by simp; omega), List.getElem_set_ne (Ne.symm hmi), ← rd_lt y m (by omega)]
        exact h2 m hm hmi
    · refine Ev.neg hp (ih (j + 1) y (fun k => g (k + 1)) hg' (by omega) hy ?_ h2)
      rw [rowf_succ, if_neg hp]; exact h1
theorem relation_l0 (p : Nat → Nat → Bool) (n : Nat) (hn : n ≤ 1000) (d : Nat) : ∀ (i : Nat) (y : List Int) (g : Nat → Int → Int → Option Bool), (∀ i j : Nat, i < n → j < n → Ev (fun k => g k i j) (p i j)) → i + d = n → y.length = n → (∀ m : Nat, m < n → rd y (m : Int) = if m < i then rowf (p m) n else 0) →
    Ev (fun k => impl_relation.l0 k n (g k) n (i : Int) n y) ((n : Int), rel p n) := by
  induction d with
  | zero =>
    intro i y g hg hi hy h1
    refine Ev.shift ?_
    simp only [impl_relation.l0]
    refine Ev.neg (by omega) (Ev.ret ?_)
    congr 1
    apply List.ext_getElem (by rw [rel_length]; exact hy)
    intro m hm1 hm2
    have := h1 m (by omega)
    rw [if_pos (by omega), rd_lt y m hm1, ← rel_get p n m (by omega), rd_lt _ m hm2] at this
    exact this
  | succ d ih =>
    intro i y g hg hi hy h1
    refine Ev.shift ?_
    simp only [impl_relation.l0]
    refine Ev.pos (by omega) ?_
    refine relation_l1 p n hn i (by omega) _ (fun g' hg' y' hy' h1' h2' => ih (i + 1) y' g' hg' (by omega) hy' (fun m hm => ?_)) n 0 y (fun k => g (k + 1)) (fun a b ha hb => Ev.up (hg a b ha hb)) (by omega) hy ?_ ?_
    · by_cases e : m = i
      · subst e; rw [h1', if_pos (by omega)]
      · rw [h2' m hm e]
        by_cases hlt : m < i
        · rw [if_pos hlt, if_pos (by omega)]
        · rw [if_neg hlt, if_neg (by omega)]
    · rw [h1 i (by omega), if_neg (by omega)]; rfl
    · intro m hm e; exact h1 m hm
theorem relation_ev (p : Nat → Nat → Bool) (n : Nat) (hn : n ≤ 1000) (g : Nat → Int → Int → Option Bool) (hg : ∀ i j : Nat, i < n → j < n → Ev (fun k => g k i j) (p i j)) : Ev (fun k => impl_relation.f k n (g k)) ((n : Int), rel p n) := by
  unfold impl_relation.f
  refine Ev.pos (by omega) (Ev.pos (by omega) ?_)
  rw [Int.toNat_natCast]
  exact relation_l0 p n hn n 0 _ g hg (by omega) (by simp) (fun m hm => by rw [rd_lt _ m (by simp; omega), List.getElem_replicate, if_neg (by omega)])

end Go.Proofs.YteechpappfagpaaDoor.Pure

namespace Go.Proofs.YteechpappfagpaaDoor.Pure
open Go.RowKit Go.Proofs.YteechpappfagpaaDoor.Q Go.Proofs.YteechpappfagpaaDoorW.PrintWords Go.Proofs.YteechpappfagpaaDoorW.PrintLast
set_option linter.unusedVariables false
set_option linter.unusedSimpArgs false

theorem rowf_bits (p : Nat → Bool) (d : Nat) : d ≤ 10 → setP (rowf p d) ∧ ∀ m, bit (rowf p d) m = (decide (m < d) && p m) := by
  induction d with
  | zero => intro _; exact ⟨set_zero, fun m => by rw [show rowf p 0 = 0 from rfl, bit_zero]; simp⟩
  | succ d ih =>
    intro hd
    obtain ⟨h1, h2⟩ := ih (by omega)
    rw [rowf_succ]
    by_cases hp : p d = true
    · rw [if_pos hp]
      have hs := set_shl (j := d) (by omega)
      have ho := set_or h1 hs.1
      refine ⟨ho.1, fun m => ?_⟩
      show bit (Go.bits .or .i64 (rowf p d) (shl .i64 1 (d : Int))) m = _
      rw [ho.2, h2, hs.2]
      by_cases e : m = d
      · subst e; simp [hp]
      · by_cases l : m < d
        · simp [l, e, show m < d + 1 by omega]
        · simp [l, e, show ¬ m < d + 1 by omega]
    · rw [if_neg hp]
      refine ⟨h1, fun m => ?_⟩
      rw [h2]
      by_cases e : m = d
      · subst e; simp [hp]
      · by_cases l : m < d
        · simp [l, show m < d + 1 by omega]
        · simp [l, show ¬ m < d + 1 by omega]
theorem rel_set {p : Nat → Nat → Bool} {n i : Nat} (hn : n ≤ 10) (hi : i < n) : setP (rd (rel p n) (i : Int)) := by
  rw [rel_get p n i hi]; exact (rowf_bits (p i) n hn).1
theorem rel_lt {p : Nat → Nat → Bool} {n i : Nat} (hn : n ≤ 10) (hi : i < n) (j : Nat) : lt (rel p n) i j = (decide (j < n) && p i j) := by
  unfold lt; rw [rel_get p n i hi]; exact (rowf_bits (p i) n hn).2 j

end Go.Proofs.YteechpappfagpaaDoor.Pure

namespace Go.Proofs.YteechpappfagpaaDoor.Pure
open Go.RowKit Go.Proofs.YteechpappfagpaaDoor.Q Go.Proofs.YteechpappfagpaaDoorW.PrintWords Go.Proofs.YteechpappfagpaaDoorW.PrintLast
set_option linter.unusedVariables false
set_option linter.unusedSimpArgs false

/-- indifferent to i, and not i -/
def freeP (L : List Int) (i j : Nat) : Bool := !lt L i j && !lt L j i && !decide (j = i)
theorem mirror_ev {n : Int} {L : List Int} (h : relP n L) : Ev (fun k => impl_Order_mirror.f k n L) (n, rel (fun i j => lt L j i) L.length) := by
  have e1 := h.2.1
  have e3 := h.1
  unfold impl_Order_mirror.f
  have hrel := relation_ev (fun i j => lt L j i) L.length (by omega) (fun _ u0_ u1_ => impl_Order_mirror_1.f u0_ u1_ n L) (fun i j hi hj => Ev.const (by
    unfold impl_Order_mirror_1.f
    rw [better_f n L hj (h.set hj) (by omega), Option.bind_some]; rfl))
  rw [e1] at hrel
  exact Ev.bind hrel (Ev.ret rfl)
theorem all_f {n : Int} {L : List Int} (h : relP n L) : impl_Order_all.f n L = some (full n) := by
  unfold impl_Order_all.f
  rw [if_pos h.1.1]; rfl
theorem near_val {n : Int} {L : List Int} (h : relP n L) {i : Nat} (hi : i < L.length) :
    Go.bits .andNot .i64 (Go.bits .andNot .i64 (Go.bits .andNot .i64 (full n) (rd L (i : Int))) (rd (rel (fun i j => lt L j i) L.length) (i : Int))) (shl .i64 1 (i : Int)) = rowf (freeP L i) L.length := by
  have e1 := h.2.1
  have e3 := h.1
  have hf := set_full (n := L.length) (by omega)
  rw [e1] at hf
  have hm := rel_set (p := fun i j => lt L j i) (n := L.length) (by omega) hi
  have hm2 := rel_lt (p := fun i j => lt L j i) (n := L.length) (by omega) hi
  have a1 := set_andNot hf.1 (h.set hi)
  have a2 := set_andNot a1.1 hm
  have a3 := set_andNot a2.1 (set_shl (j := i) (by omega)).1
  have hr := rowf_bits (freeP L i) L.length (by omega)
  refine set_ext a3.1 hr.1 (fun j hj => ?_)
  rw [a3.2, a2.2, a1.2, hf.2, (set_shl (j := i) (by omega)).2, hr.2]
  rw [show bit (rd (rel (fun i j => lt L j i) L.length) (i : Int)) j = (decide (j < L.length) && lt L j i) from hm2 j]
  unfold freeP lt
  by_cases hjn : j < L.length
  · simp [hjn]
    try (cases bit (rd L (i : Int)) j <;> cases bit (rd L (j : Int)) i <;> simp)
  · simp [hjn]
theorem near_l {n : Int} {L : List Int} (h : relP n L) (d : Nat) : ∀ (i : Nat), i + d = L.length → Ev (fun k => impl_Order_indifferent.l0 k ((rel (freeP L) L.length).take i) n (i : Int) n L n (rel (fun i j => lt L j i) L.length)) (rel (freeP L) L.length) := by
  have e1 := h.2.1
  have e3 := h.1
  induction d with
  | zero =>
    intro i hi
    refine Ev.shift ?_
    simp only [impl_Order_indifferent.l0]
    exact Ev.neg (by omega) (Ev.ret (by rw [List.take_of_length_le (by rw [rel_length]; omega)]))
  | succ d ih =>
    intro i hi
    have := ih (i + 1) (by omega)
    rw [List.take_succ_eq_append_getElem (by rw [rel_length]; omega), ← rd_lt _ i (by rw [rel_length]; omega), rel_get _ _ i (by omega)] at this
    refine Ev.shift ?_
    simp only [impl_Order_indifferent.l0]
    refine Ev.pos (by omega) (Ev.bindc (all_f h) (Ev.pos (by omega) (Ev.pos (by omega) (Ev.pos (by rw [rel_length]; omega) (Ev.pos (by rw [List.length_take, rel_length]; omega) ?_)))))
    rw [wrap64_id (by omega) (by omega), cast1, near_val h (by omega)]
    exact this
theorem near_ev {n : Int} {L : List Int} (h : relP n L) : Ev (fun k => impl_Order_indifferent.f k n L) (rel (freeP L) L.length) := by
  unfold impl_Order_indifferent.f
  exact Ev.bind (mirror_ev h) (near_l h L.length 0 (by omega))
theorem below_l {n : Int} {L : List Int} (h : relP n L) (i : Nat) (hi : i < L.length) (d : Nat) : ∀ (j : Nat), j + d = L.length → Ev (fun k => spec_orBelow.l0 k (i : Int) (rowf (fun j => lt L j i) j) L (L.length : Int) (j : Int)) (rowf (fun j => lt L j i) L.length) := by
  have e1 := h.2.1
  have e3 := h.1
  induction d with
  | zero =>
    intro j hj
    refine Ev.shift ?_
    simp only [spec_orBelow.l0]
    exact Ev.neg (by omega) (Ev.ret (by rw [show j = L.length by omega]))
  | succ d ih =>
    intro j hj
    have := ih (j + 1) (by omega)
    rw [rowf_succ] at this
    refine Ev.shift ?_
    simp only [spec_orBelow.l0]
    refine Ev.pos (by omega) (Ev.pos (by omega) (Ev.pos (by omega) (Ev.bindc (orHas_f (h.set (i := j) (by omega)).1 (h.set (i := j) (by omega)).2 (by omega)) ?_)))
    rw [wrap64_id (by omega) (by omega), cast1]
    by_cases hb : bit (rd L (j : Int)) i = true
    · rw [if_pos (show lt L j i = true from hb)] at this
      exact Ev.pos hb this
    · rw [if_neg (show ¬ lt L j i = true from hb)] at this
      exact Ev.neg hb this
theorem below_ev {n : Int} {L : List Int} (h : relP n L) {i : Nat} (hi : i < L.length) : Ev (fun k => spec_orBelow.f k n L (i : Int)) (rowf (fun j => lt L j i) L.length) := by
  unfold spec_orBelow.f
  exact below_l h i hi L.length 0 (by omega)
theorem free_ev {n : Int} {L : List Int} (h : relP n L) {i : Nat} (hi : i < L.length) : Ev (fun k => spec_orFree.f k n L (i : Int)) (rowf (freeP L i) L.length) := by
  have e1 := h.2.1
  have e3 := h.1
  unfold spec_orFree.f
  refine Ev.pos h.1.1 (Ev.pos (by omega) (Ev.pos (by omega) (Ev.bind (below_ev h hi) (Ev.ret ?_))))
  have hf := set_full (n := L.length) (by omega)
  rw [e1] at hf
  have hb := rowf_bits (fun j => lt L j i) L.length (by omega)
  have o1 := set_or (h.set hi) hb.1
  have o2 := set_or o1.1 (set_shl (j := i) (by omega)).1
  have a1 := set_andNot hf.1 o2.1
  have hr := rowf_bits (freeP L i) L.length (by omega)
  refine set_ext a1.1 hr.1 (fun j hj => ?_)
  show bit (Go.bits .andNot .i64 (full n) _) j = _
  rw [a1.2, o2.2, o1.2, hb.2, hf.2, (set_shl (j := i) (by omega)).2, hr.2]
  unfold freeP lt
  by_cases hjn : j < L.length
  · simp [hjn]
    try (cases bit (rd L (i : Int)) j <;> cases bit (rd L (j : Int)) i <;> simp)
  · simp [hjn]

end Go.Proofs.YteechpappfagpaaDoor.Pure

namespace Go.Proofs.YteechpappfagpaaDoor.Pure
open Go.RowKit Go.Proofs.YteechpappfagpaaDoor.Q Go.Proofs.YteechpappfagpaaDoorW.PrintWords Go.Proofs.YteechpappfagpaaDoorW.PrintLast
set_option linter.unusedVariables false
set_option linter.unusedSimpArgs false

theorem bitsOf_nil {x : Int} (hx : setP x) : bitsOf x = [] ↔ x = 0 := by
  rw [set_eq_zero hx, List.eq_nil_iff_forall_not_mem]
  constructor
  · intro h j hj
    cases hb : bit x j
    · rfl
    · exact absurd (mem_bitsOf.2 ⟨j, hj, hb, rfl⟩) (h _)
  · intro h y hy
    obtain ⟨j, hj, hb, _⟩ := mem_bitsOf.1 hy
    rw [h j hj] at hb; cases hb
theorem bitsOf_len (x : Int) : (bitsOf x).length ≤ 10 := by
  have := List.length_filter_le (bit x) (List.range 10)
  simpa [bitsOf] using this

end Go.Proofs.YteechpappfagpaaDoor.Pure

namespace Go.Proofs.YteechpappfagpaaDoor.Pure
open Go.RowKit Go.Proofs.YteechpappfagpaaDoor.Q Go.Proofs.YteechpappfagpaaDoorW.PrintWords Go.Proofs.YteechpappfagpaaDoorW.PrintLast
set_option linter.unusedVariables false
set_option linter.unusedSimpArgs false

/-- a loop that goes on where nothing was found -/
theorem loopN {α : Type} (isNil : α → Prop) (N : Nat) (good : Nat → Prop) (Rest : Prop) (g : Nat → Nat → Option α)
    (hend : ∃ x, Ev (g N) x ∧ (isNil x ↔ Rest)) (hstep : ∀ i, i < N → ∀ R : Prop, (∃ x, Ev (g (i + 1)) x ∧ (isNil x ↔ R)) → ∃ x, Ev (g i) x ∧ (isNil x ↔ good i ∧ R)) :
    ∃ x, Ev (g 0) x ∧ (isNil x ↔ (∀ i, i < N → good i) ∧ Rest) := by
  have key : ∀ d i, i + d = N → ∃ x, Ev (g i) x ∧ (isNil x ↔ (∀ j, i ≤ j → j < N → good j) ∧ Rest) := by
    intro d
    induction d with
    | zero =>
      intro i hi
      obtain rfl : i = N := by omega
      obtain ⟨x, h1, h2⟩ := hend
      exact ⟨x, h1, h2.trans ⟨fun h => ⟨fun j h3 h4 => by omega, h⟩, fun h => h.2⟩⟩
    | succ d ih =>
      intro i hi
      obtain ⟨x, h1, h2⟩ := hstep i (by omega) _ (ih (i + 1) (by omega))
      refine ⟨x, h1, h2.trans ⟨fun h => ⟨fun j h3 h4 => ?_, h.2.2⟩, fun h => ⟨h.1 i (Nat.le_refl _) (by omega), fun j h3 h4 => h.1 j (by omega) h4, h.2⟩⟩⟩
      by_cases e : j = i
      · subst e; exact h.1
      · exact h.2.1 j (by omega) h4
  obtain ⟨x, h1, h2⟩ := key N 0 (by omega)
  exact ⟨x, h1, h2.trans ⟨fun h => ⟨fun j h3 => h.1 j (Nat.zero_le _) h3, h.2⟩, fun h => ⟨fun j _ h3 => h.1 j h3, h.2⟩⟩⟩
theorem better_lt {n : Int} {L : List Int} (h : relP n L) {i j : Nat} (hi : i < L.length) (hj : j < L.length) : impl_Order_better.f n L (i : Int) (j : Int) = some (lt L i j) :=
  better_f n L hi ⟨(h.row hi).1, (h.row hi).2.1⟩ (by have := h.1; have := h.2.1; omega)
/-- the element that a list of a row's elements tells -/
theorem row_el {n : Int} {L : List Int} (h : relP n L) {i q : Nat} (hi : i < L.length) (hq : q < (bitsOf (rd L (i : Int))).length) : ∃ j : Nat, rd (bitsOf (rd L (i : Int))) (q : Int) = j ∧ j < L.length ∧ lt L i j = true := by
  obtain ⟨j, h1, h2, h3⟩ := h.bits (i := i) hi (j := rd (bitsOf (rd L (i : Int))) (q : Int)) (by rw [rd_lt _ q hq]; exact List.getElem_mem _)
  exact ⟨j, h1, h2, h3⟩
theorem row_all {n : Int} {L : List Int} (h : relP n L) {i : Nat} (hi : i < L.length) (P : Nat → Prop) : (∀ q, q < (bitsOf (rd L (i : Int))).length → ∀ j : Nat, rd (bitsOf (rd L (i : Int))) (q : Int) = j → P j) ↔ ∀ j, j < L.length → lt L i j = true → P j := by
  have h10 : L.length ≤ 10 := by have := h.1; have := h.2.1; omega
  constructor
  · intro h1 j hj hb
    obtain ⟨q, hq, e⟩ := List.mem_iff_getElem.1 (mem_bitsOf.2 ⟨j, by omega, hb, rfl⟩ : (j : Int) ∈ bitsOf (rd L (i : Int)))
    exact h1 q hq j (by rw [rd_lt _ q hq]; exact e)
  · intro h1 q hq j e
    obtain ⟨j', e', h2, h3⟩ := row_el h hi hq
    obtain rfl : j = j' := by omega
    exact h1 j h2 h3

end Go.Proofs.YteechpappfagpaaDoor.Pure

namespace Go.Proofs.YteechpappfagpaaDoor.Pure
open Go.RowKit Go.Proofs.YteechpappfagpaaDoor.Q Go.Proofs.YteechpappfagpaaDoorW.PrintWords Go.Proofs.YteechpappfagpaaDoorW.PrintLast
set_option linter.unusedVariables false
set_option linter.unusedSimpArgs false

def bad22 (L : List Int) (a b c d : Nat) : Prop := lt L a b = true ∧ lt L c d = true ∧ lt L c b = false ∧ lt L a d = false
theorem twoTwo_ev {n : Int} {L : List Int} (h : relP n L) : ∃ x, Ev (fun k => impl_Order_twoTwo.f k n L) x ∧ (x = [] ↔ (∀ a, a < L.length → ∀ b, b < L.length → ∀ c, c < L.length → ∀ d, d < L.length → ¬ bad22 L a b c d) ∧ True) := by
  have e1 := h.2.1
  have e3 := h.1
  unfold impl_Order_twoTwo.f
  refine loopN (fun x : List Int => x = []) L.length _ True (fun (a : Nat) k => impl_Order_twoTwo.l0 k n (a : Int) n L) ⟨[], ?_, by simp⟩ (fun a ha R hR => ?_)
  · refine Ev.shift ?_
    simp only [impl_Order_twoTwo.l0]
    exact Ev.neg (by omega) (Ev.ret rfl)
  · have := loopN (fun x : List Int => x = []) L.length R (fun (b : Nat) k => impl_Order_twoTwo.l1 k (a : Int) n (a : Int) n (b : Int) n L) (by
      obtain ⟨x, h1, h2⟩ := hR
      refine ⟨x, Ev.shift ?_, h2⟩
      simp only [impl_Order_twoTwo.l1]
      refine Ev.neg (by omega) ?_
      rw [wrap64_id (by omega) (by omega), cast1]
      exact h1) (good := fun b => ∀ c, c < L.length → ∀ d, d < L.length → ¬ bad22 L a b c d) (fun b hb R hR => ?_)
    · obtain ⟨x, h1, h2⟩ := this
      refine ⟨x, Ev.shift ?_, h2⟩
      simp only [impl_Order_twoTwo.l0]
      exact Ev.pos (by omega) h1
    · have := loopN (fun x : List Int => x = []) L.length R (fun (c : Nat) k => impl_Order_twoTwo.l2 k (a : Int) (b : Int) n (a : Int) n (b : Int) n (c : Int) n L) (by
        obtain ⟨x, h1, h2⟩ := hR
        refine ⟨x, Ev.shift ?_, h2⟩
        simp only [impl_Order_twoTwo.l2]
        refine Ev.neg (by omega) ?_
        rw [wrap64_id (by omega) (by omega), cast1]
        exact h1) (good := fun c => ∀ d, d < L.length → ¬ bad22 L a b c d) (fun c hc R hR => ?_)
      · obtain ⟨x, h1, h2⟩ := this
        refine ⟨x, Ev.shift ?_, h2⟩
        simp only [impl_Order_twoTwo.l1]
        exact Ev.pos (by omega) h1
      · have := loopN (fun x : List Int => x = []) L.length R (fun (d : Nat) k => impl_Order_twoTwo.l3 k (a : Int) (b : Int) (c : Int) n (a : Int) n (b : Int) n (c : Int) n (d : Int) n L) (by
          obtain ⟨x, h1, h2⟩ := hR
          refine ⟨x, Ev.shift ?_, h2⟩
          simp only [impl_Order_twoTwo.l3]
          refine Ev.neg (by omega) ?_
          rw [wrap64_id (by omega) (by omega), cast1]
          exact h1) (good := fun d => ¬ bad22 L a b c d) (fun d hd R hR => ?_)
        · obtain ⟨x, h1, h2⟩ := this
          refine ⟨x, Ev.shift ?_, h2⟩
          simp only [impl_Order_twoTwo.l2]
          exact Ev.pos (by omega) h1
        · obtain ⟨x, h1, h2⟩ := hR
          have w := wrap64_id (x := (d : Int) + 1) (by omega) (by omega)
          by_cases c1 : lt L a b = true
          · by_cases c2 : lt L c d = true
            · by_cases c3 : lt L c b = true
              · refine ⟨x, Ev.shift ?_, h2.trans ⟨fun r => ⟨fun hb => (by rw [hb.2.2.1] at c3; cases c3), r⟩, fun r => r.2⟩⟩
                simp only [impl_Order_twoTwo.l3]
                rw [w, cast1]
                exact Ev.pos (by omega) (Ev.bindc (better_lt h ha hb) (Ev.pos c1 (Ev.bindc (better_lt h hc hd) (Ev.pos c2 (Ev.bindc (better_lt h hc hb) (Ev.pos c3 h1))))))
              · by_cases c4 : lt L a d = true
                · refine ⟨x, Ev.shift ?_, h2.trans ⟨fun r => ⟨fun hb => (by rw [hb.2.2.2] at c4; cases c4), r⟩, fun r => r.2⟩⟩
                  simp only [impl_Order_twoTwo.l3]
                  rw [w, cast1]
                  exact Ev.pos (by omega) (Ev.bindc (better_lt h ha hb) (Ev.pos c1 (Ev.bindc (better_lt h hc hd) (Ev.pos c2 (Ev.bindc (better_lt h hc hb) (Ev.neg c3 (Ev.bindc (better_lt h ha hd) (Ev.pos c4 h1))))))))
                · refine ⟨[(a : Int), (b : Int), (c : Int), (d : Int)], Ev.shift ?_, ⟨fun r => (by cases r), fun r => (r.1 ⟨c1, c2, by simpa using c3, by simpa using c4⟩).elim⟩⟩
                  simp only [impl_Order_twoTwo.l3]
                  exact Ev.pos (by omega) (Ev.bindc (better_lt h ha hb) (Ev.pos c1 (Ev.bindc (better_lt h hc hd) (Ev.pos c2 (Ev.bindc (better_lt h hc hb) (Ev.neg c3 (Ev.bindc (better_lt h ha hd) (Ev.neg c4 (Ev.ret rfl)))))))))
            · refine ⟨x, Ev.shift ?_, h2.trans ⟨fun r => ⟨fun hb => c2 hb.2.1, r⟩, fun r => r.2⟩⟩
              simp only [impl_Order_twoTwo.l3]
              rw [w, cast1]
              exact Ev.pos (by omega) (Ev.bindc (better_lt h ha hb) (Ev.pos c1 (Ev.bindc (better_lt h hc hd) (Ev.neg c2 h1))))
          · refine ⟨x, Ev.shift ?_, h2.trans ⟨fun r => ⟨fun hb => c1 hb.1, r⟩, fun r => r.2⟩⟩
            simp only [impl_Order_twoTwo.l3]
            rw [w, cast1]
            exact Ev.pos (by omega) (Ev.bindc (better_lt h ha hb) (Ev.neg c1 h1))

end Go.Proofs.YteechpappfagpaaDoor.Pure

namespace Go.Proofs.YteechpappfagpaaDoor.Pure
open Go.RowKit Go.Proofs.YteechpappfagpaaDoor.Q Go.Proofs.YteechpappfagpaaDoorW.PrintWords Go.Proofs.YteechpappfagpaaDoorW.PrintLast
set_option linter.unusedVariables false
set_option linter.unusedSimpArgs false

/-- three sets have nothing in common -/
def and3 (L : List Int) (a b c : Nat) : Int := Go.bits .and .i64 (Go.bits .and .i64 (rd (rel (freeP L) L.length) (a : Int)) (rd (rel (freeP L) L.length) (b : Int))) (rd (rel (freeP L) L.length) (c : Int))
theorem and3_set {n : Int} {L : List Int} (h : relP n L) {a b c : Nat} (ha : a < L.length) (hb : b < L.length) (hc : c < L.length) : setP (and3 L a b c) ∧ ∀ d, bit (and3 L a b c) d = (decide (d < L.length) && freeP L a d && freeP L b d && freeP L c d) := by
  have h10 : L.length ≤ 10 := by have := h.1; have := h.2.1; omega
  have fa := rel_set (p := freeP L) h10 ha
  have fb := rel_set (p := freeP L) h10 hb
  have fc := rel_set (p := freeP L) h10 hc
  have la := rel_lt (p := freeP L) h10 ha
  have lb := rel_lt (p := freeP L) h10 hb
  have lc := rel_lt (p := freeP L) h10 hc
  unfold lt at la lb lc
  have o1 := set_and fa fb
  have o2 := set_and o1.1 fc
  refine ⟨o2.1, fun d => ?_⟩
  unfold and3
  rw [o2.2, o1.2, la, lb, lc]
  by_cases hd : d < L.length <;> simp [hd]
/-- no chain of three with an element indifferent to all: as both loops look for it -/
def look31 (L : List Int) : Prop := ∀ a, a < L.length → ∀ q, q < (bitsOf (rd L (a : Int))).length → ∀ b : Nat, rd (bitsOf (rd L (a : Int))) (q : Int) = b → ∀ p, p < (bitsOf (rd L (b : Int))).length → ∀ c : Nat, rd (bitsOf (rd L (b : Int))) (p : Int) = c → and3 L a b c = 0
theorem threeOne_ev {n : Int} {L : List Int} (h : relP n L) : ∃ x, Ev (fun k => impl_Order_threeOne.f k n L) x ∧ (x = [] ↔ look31 L) := by
  have e1 := h.2.1
  have e3 := h.1
  have el := rel_length (freeP L) L.length
  suffices ∃ x, Ev (fun k => impl_Order_threeOne.l0 k (rel (freeP L) L.length) n 0 n L) x ∧ (x = [] ↔ look31 L ∧ True) by
    obtain ⟨x, h1, h2⟩ := this
    refine ⟨x, ?_, h2.trans ⟨fun r => r.1, fun r => ⟨r, trivial⟩⟩⟩
    unfold impl_Order_threeOne.f
    exact Ev.bind (near_ev h) h1
  refine loopN (fun x : List Int => x = []) L.length _ True (fun (a : Nat) k => impl_Order_threeOne.l0 k (rel (freeP L) L.length) n (a : Int) n L) ⟨[], ?_, by simp⟩ (fun a ha R hR => ?_)
  · refine Ev.shift ?_
    simp only [impl_Order_threeOne.l0]
    exact Ev.neg (by omega) (Ev.ret rfl)
  · have hs := h.set (i := a) ha
    have hbl := bitsOf_len (rd L (a : Int))
    have := loopN (fun x : List Int => x = []) (bitsOf (rd L (a : Int))).length R (fun (q : Nat) k => impl_Order_threeOne.l1 k (rel (freeP L) L.length) (a : Int) n (a : Int) (bitsOf (rd L (a : Int))) ((bitsOf (rd L (a : Int))).length : Int) (q : Int) n L) (by
      obtain ⟨x, h1, h2⟩ := hR
      refine ⟨x, Ev.shift ?_, h2⟩
      simp only [impl_Order_threeOne.l1]
      refine Ev.neg (by omega) ?_
      rw [wrap64_id (by omega) (by omega), cast1]
      exact h1) (good := fun q => ∀ b : Nat, rd (bitsOf (rd L (a : Int))) (q : Int) = b → ∀ p, p < (bitsOf (rd L (b : Int))).length → ∀ c : Nat, rd (bitsOf (rd L (b : Int))) (p : Int) = c → and3 L a b c = 0) (fun q hq R hR => ?_)
    · obtain ⟨x, h1, h2⟩ := this
      refine ⟨x, Ev.shift ?_, h2⟩
      simp only [impl_Order_threeOne.l0]
      exact Ev.pos (by omega) (Ev.pos (by omega) (Ev.pos (by omega) (Ev.bind (members_ev hs.1 hs.2) h1)))
    · obtain ⟨b, eb, hb, hab⟩ := row_el h ha hq
      have hs2 := h.set (i := b) hb
      have hbl2 := bitsOf_len (rd L (b : Int))
      have := loopN (fun x : List Int => x = []) (bitsOf (rd L (b : Int))).length R (fun (p : Nat) k => impl_Order_threeOne.l2 k (rel (freeP L) L.length) (a : Int) (b : Int) n (a : Int) (bitsOf (rd L (a : Int))) ((bitsOf (rd L (a : Int))).length : Int) (q : Int) (bitsOf (rd L (b : Int))) ((bitsOf (rd L (b : Int))).length : Int) (p : Int) n L) (by
        obtain ⟨x, h1, h2⟩ := hR
        refine ⟨x, Ev.shift ?_, h2⟩
        simp only [impl_Order_threeOne.l2]
        refine Ev.neg (by omega) ?_
        rw [wrap64_id (by omega) (by omega), cast1]
        exact h1) (good := fun p => ∀ c : Nat, rd (bitsOf (rd L (b : Int))) (p : Int) = c → and3 L a b c = 0) (fun p hp R hR => ?_)
      · obtain ⟨x, h1, h2⟩ := this
        refine ⟨x, Ev.shift ?_, h2.trans ⟨fun r => ⟨fun b' eb' => ?_, r.2⟩, fun r => ⟨r.1 b eb, r.2⟩⟩⟩
        · simp only [impl_Order_threeOne.l1]
          rw [eb]
          exact Ev.pos (by omega) (Ev.pos (by omega) (Ev.pos (by omega) (Ev.pos (by omega) (Ev.pos (by omega) (Ev.bind (members_ev hs2.1 hs2.2) h1)))))
        · obtain rfl : b' = b := by omega
          exact r.1
      · obtain ⟨c, ec, hc, hbc⟩ := row_el h hb hp
        obtain ⟨x, h1, h2⟩ := hR
        have p1 : (p : Int) < ((bitsOf (rd L (b : Int))).length : Int) := by omega
        have p0 : (0 : Int) ≤ (p : Int) := by omega
        have a0 : (0 : Int) ≤ (a : Int) := by omega
        have b0 : (0 : Int) ≤ (b : Int) := by omega
        have c0 : (0 : Int) ≤ (c : Int) := by omega
        have a1 : (a : Int) < ((rel (freeP L) L.length).length : Int) := by rw [el]; omega
        have b1 : (b : Int) < ((rel (freeP L) L.length).length : Int) := by rw [el]; omega
        have c1 : (c : Int) < ((rel (freeP L) L.length).length : Int) := by rw [el]; omega
        have ha3 := and3_set h ha hb hc
        by_cases hz : and3 L a b c = 0
        · refine ⟨x, Ev.shift ?_, h2.trans ⟨fun r => ⟨fun c' ec' => ?_, r⟩, fun r => r.2⟩⟩
          · simp only [impl_Order_threeOne.l2]
            rw [ec, wrap64_id (x := (p : Int) + 1) (by omega) (by omega), cast1]
            exact Ev.pos p1 (Ev.pos p0 (Ev.pos p1 (Ev.pos a0 (Ev.pos a1 (Ev.pos b0 (Ev.pos b1 (Ev.pos c0 (Ev.pos c1 (Ev.pos hz h1)))))))))
          · obtain rfl : c' = c := by omega
            exact hz
        · have hne : bitsOf (and3 L a b c) ≠ [] := fun e => hz ((bitsOf_nil ha3.1).1 e)
          have hpos : (0 : Int) < ((bitsOf (and3 L a b c)).length : Int) := by have := List.length_pos_iff.2 hne; omega
          refine ⟨[(a : Int), (b : Int), (c : Int), rd (bitsOf (and3 L a b c)) 0], Ev.shift ?_, ⟨fun r => (by cases r), fun r => (hz (r.1 c ec)).elim⟩⟩
          simp only [impl_Order_threeOne.l2]
          rw [ec]
          exact Ev.pos p1 (Ev.pos p0 (Ev.pos p1 (Ev.pos a0 (Ev.pos a1 (Ev.pos b0 (Ev.pos b1 (Ev.pos c0 (Ev.pos c1 (Ev.neg hz (Ev.bind (members_ev ha3.1.1 ha3.1.2) (Ev.pos hpos (Ev.ret rfl))))))))))))

end Go.Proofs.YteechpappfagpaaDoor.Pure
