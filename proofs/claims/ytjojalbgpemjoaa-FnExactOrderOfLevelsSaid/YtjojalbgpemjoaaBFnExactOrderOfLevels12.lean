import Derived.Test.YtjojalbgpemjoaaBFnExactOrderOfLevels3
import Derived.Test.YtjojalbgpemjoaaBFnExactOrderOfLevels4
import Derived.Test.YtjojalbgpemjoaaBFnExactOrderOfLevels6
import Derived.Test.YtjojalbgpemjoaaBFnExactOrderOfLevels7
import Derived.Test.YtjojalbgpemjoaaBFnExactOrderOfLevels10
import Derived.Test.YtjojalbgpemjoaaBFnExactOrderOfLevels11
namespace Go.Proofs.Ytjojalbgpemjoaa.Pure
open Go.RowKit Go.Proofs.Ytjojalbgpemjoaa.Q Go.Proofs.YtjojalbgpemjoaaW.PrintWords Go.Proofs.YtjojalbgpemjoaaW.PrintLast
set_option linter.unusedVariables false
set_option linter.unusedSimpArgs false

theorem Ev.up {α : Type} {g : Nat → Option α} {r : α} (h : Ev g r) : Ev (fun k => g (k + 1)) r := by
  obtain ⟨K, hK⟩ := h; exact ⟨K, fun k hk => hK (k + 1) (by omega)⟩
/-- one more bit -/
def orb (x : Int) (j : Nat) : Int := Go.bits .or .i64 x (shl .i64 1 (j : Int))
/-- a row: the bits of those before d that p tells -/
def rowf (p : Nat → Bool) (d : Nat) : Int := (List.range d).foldl (fun x j => if p j then orb x j else x) 0
theorem rowf_succ (p : Nat → Bool) (d : Nat) : rowf p (d + 1) = if p d then orb (rowf p d) d else rowf p d := by
  simp [rowf, List.range_succ, List.foldl_append]
/-- the rows of a relation on n elements -/
def rel (p : Nat → Nat → Bool) (n : Nat) : List Int := (List.range n).map fun i => rowf (p i) n
theorem rel_length (p : Nat → Nat → Bool) (n : Nat) : (rel p n).length = n := by simp [rel]
theorem rel_get (p : Nat → Nat → Bool) (n i : Nat) (h : i < n) : rd (rel p n) (i : Int) = rowf (p i) n := by
  rw [rd_lt _ i (by rw [rel_length]; exact h)]; simp [rel]
theorem rel_congr {p q : Nat → Nat → Bool} {n : Nat} (h : ∀ i j, i < n → j < n → p i j = q i j) : rel p n = rel q n := by
  unfold rel
  refine List.map_congr_left fun i hi => ?_
  rw [List.mem_range] at hi
  have : ∀ d, d ≤ n → rowf (p i) d = rowf (q i) d := by
    intro d
    induction d with
    | zero => intro _; rfl
    | succ d ih => intro hd; rw [rowf_succ, rowf_succ, ih (by omega), h i d hi (by omega)]
  exact this n (Nat.le_refl _)
/-- the rows up to i are told, the ones behind are empty -/
def relUpto (p : Nat → Nat → Bool) (n i : Nat) : List Int := (rel p n).take i ++ List.replicate (n - i) 0
theorem relation_l1 (p : Nat → Nat → Bool) (n : Nat) (hn : n ≤ 1000) (i : Nat) (hi : i < n) (R : Int × List Int) (hR : ∀ g : Nat → Int → Int → Option Bool, (∀ i j : Nat, i < n → j < n → Ev (fun k => g k i j) (p i j)) → ∀ y : List Int, y.length = n → rd y (i : Int) = rowf (p i) n → (∀ m : Nat, m < n → m ≠ i → rd y (m : Int) = if m < i then rowf (p m) n else 0) → Ev (fun k => impl_relation.l0 k n (g k) n ((i + 1 : Nat) : Int) n y) R) (d : Nat) :
    ∀ (j : Nat) (y : List Int) (g : Nat → Int → Int → Option Bool), (∀ i j : Nat, i < n → j < n → Ev (fun k => g k i j) (p i j)) → j + d = n → y.length = n → rd y (i : Int) = rowf (p i) j → (∀ m : Nat, m < n → m ≠ i → rd y (m : Int) = if m < i then rowf (p m) n else 0) →
    Ev (fun k => impl_relation.l1 k n (g k) (i : Int) n (i : Int) n (j : Int) n y) R := by
  induction d with
  | zero =>
    intro j y g hg hj hy h1 h2
    obtain rfl : j = n := by omega
    refine Ev.shift ?_
    simp only [impl_relation.l1]
    refine Ev.neg (by omega) ?_
    rw [wrap64_id (x := (i : Int) + 1) (by omega) (by omega), cast1]
    exact hR (fun k => g (k + 1)) (fun a b ha hb => Ev.up (hg a b ha hb)) y hy h1 h2
  | succ d ih =>
    intro j y g hg hj hy h1 h2
    have hg' : ∀ i j : Nat, i < n → j < n → Ev (fun k => g (k + 1) i j) (p i j) := fun a b ha hb => Ev.up (hg a b ha hb)
    refine Ev.shift ?_
    simp only [impl_relation.l1]
    refine Ev.pos (by omega) (Ev.bind (hg' i j hi (by omega)) ?_)
    rw [wrap64_id (x := (j : Int) + 1) (by omega) (by omega), cast1]
    by_cases hp : p i j = true
    · refine Ev.pos hp (Ev.pos (by omega) (Ev.pos (by omega) (Ev.pos (by omega) ?_)))
      rw [Int.toNat_natCast]
      refine ih (j + 1) _ (fun k => g (k + 1)) hg' (by omega) (by simp; omega) ?_ ?_
      · rw [rd_lt _ i (by simp; omega), List.getElem_set_self, rowf_succ, if_pos hp, h1]; rfl
      · intro m hm hmi
        rw [rd_lt _ m (by simp; omega), List.getElem_set_ne (Ne.symm hmi), ← rd_lt y m (by omega)]
        exact h2 m hm hmi
    · refine Ev.neg hp (ih (j + 1) y (fun k => g (k + 1)) hg' (by omega) hy ?_ h2)
      rw [rowf_succ, if_neg hp]; exact h1
theorem relation_l0 (p : Nat → Nat → Bool) (n : Nat) (hn : n ≤ 1000) (d : Nat) : ∀ (i : Nat) (y : List Int) (g : Nat → Int → Int → Option Bool), (∀ i j : Nat, i < n → j < n → Ev (fun k => g k i j) (p i j)) → i + d = n → y.length = n → (∀ m : Nat, m < n → rd y (m : Int) = if m < i then rowf (p m) n else 0) →
    Ev (fun k => impl_relation.l0 k n (g k) n (i : Int) n y) ((n : Int), rel p n) := by
  induction d with
  | zero =>
    intro i y g hg hi hy h1
    refine Ev.shift ?_
    simp only [impl_relation.l0]
    refine Ev.neg (by omega) (Ev.ret ?_)
    congr 1
    apply List.ext_getElem (by rw [rel_length]; exact hy)
    intro m hm1 hm2
    have := h1 m (by omega)
    rw [if_pos (by omega), rd_lt y m hm1, ← rel_get p n m (by omega), rd_lt _ m hm2] at this
    exact this
  | succ d ih =>
    intro i y g hg hi hy h1
    refine Ev.shift ?_
    simp only [impl_relation.l0]
    refine Ev.pos (by omega) ?_
    refine relation_l1 p n hn i (by omega) _ (fun g' hg' y' hy' h1' h2' => ih (i + 1) y' g' hg' (by omega) hy' (fun m hm => ?_)) n 0 y (fun k => g (k + 1)) (fun a b ha hb => Ev.up (hg a b ha hb)) (by omega) hy ?_ ?_
    · by_cases e : m = i
      · subst e; rw [h1', if_pos (by omega)]
      · rw [h2' m hm e]
        by_cases hlt : m < i
        · rw [if_pos hlt, if_pos (by omega)]
        · rw [if_neg hlt, if_neg (by omega)]
    · rw [h1 i (by omega), if_neg (by omega)]; rfl
    · intro m hm e; exact h1 m hm
theorem relation_ev (p : Nat → Nat → Bool) (n : Nat) (hn : n ≤ 1000) (g : Nat → Int → Int → Option Bool) (hg : ∀ i j : Nat, i < n → j < n → Ev (fun k => g k i j) (p i j)) : Ev (fun k => impl_relation.f k n (g k)) ((n : Int), rel p n) := by
  unfold impl_relation.f
  refine Ev.pos (by omega) (Ev.pos (by omega) ?_)
  rw [Int.toNat_natCast]
  exact relation_l0 p n hn n 0 _ g hg (by omega) (by simp) (fun m hm => by rw [rd_lt _ m (by simp; omega), List.getElem_replicate, if_neg (by omega)])

end Go.Proofs.Ytjojalbgpemjoaa.Pure

namespace Go.Proofs.Ytjojalbgpemjoaa.Pure
open Go.RowKit Go.Proofs.Ytjojalbgpemjoaa.Q Go.Proofs.YtjojalbgpemjoaaW.PrintWords Go.Proofs.YtjojalbgpemjoaaW.PrintLast
set_option linter.unusedVariables false
set_option linter.unusedSimpArgs false

/-- below in the order of levels: at a greater level -/
def lvlLt (l : List Int) (i j : Nat) : Bool := decide (rd l (j : Int) > rd l (i : Int))
theorem ofLevels_ev (l : List Int) (hl : l.length ≤ 1000) : Ev (fun k => impl_ofLevels.f k l) ((l.length : Int), rel (lvlLt l) l.length) := by
  unfold impl_ofLevels.f
  refine Ev.bind (relation_ev (lvlLt l) l.length hl (fun _ u0_ u1_ => impl_ofLevels_1.f u0_ u1_ l) (fun i j hi hj => ?_)) (Ev.ret rfl)
  refine Ev.const ?_
  unfold impl_ofLevels_1.f
  rw [if_pos (by omega), if_pos (by omega), if_pos (by omega), if_pos (by omega)]
  rfl
theorem weOrder_l1 (l : List Int) (hl : l.length ≤ 1000) (i : Nat) (hi : i < l.length) (y : List Int) (hy : y.length = i) (R : Int × List Int) (hR : Ev (fun k => spec_weOrder.l0 k l l (l.length : Int) ((i + 1 : Nat) : Int) (l.length : Int) (y ++ [rowf (lvlLt l i) l.length])) R) (d : Nat) :
    ∀ j : Nat, j + d = l.length → Ev (fun k => spec_weOrder.l1 k l (rd l (i : Int)) (rowf (lvlLt l i) j) l (l.length : Int) (i : Int) l (l.length : Int) (j : Int) (l.length : Int) y) R := by
  induction d with
  | zero =>
    intro j hj
    obtain rfl : j = l.length := by omega
    refine Ev.shift ?_
    simp only [spec_weOrder.l1]
    refine Ev.neg (by omega) (Ev.pos (by omega) ?_)
    rw [wrap64_id (x := (i : Int) + 1) (by omega) (by omega), cast1]
    exact hR
  | succ d ih =>
    intro j hj
    have := ih (j + 1) (by omega)
    rw [rowf_succ] at this
    refine Ev.shift ?_
    simp only [spec_weOrder.l1]
    refine Ev.pos (by omega) (Ev.pos (by omega) (Ev.pos (by omega) ?_))
    rw [wrap64_id (x := (j : Int) + 1) (by omega) (by omega), cast1]
    by_cases hc : rd l (j : Int) > rd l (i : Int)
    · rw [if_pos (by simpa [lvlLt] using hc)] at this
      exact Ev.pos hc this
    · rw [if_neg (by simpa [lvlLt] using hc)] at this
      exact Ev.neg hc this
theorem weOrder_l0 (l : List Int) (hl : l.length ≤ 1000) (d : Nat) : ∀ i : Nat, i + d = l.length → Ev (fun k => spec_weOrder.l0 k l l (l.length : Int) (i : Int) (l.length : Int) ((rel (lvlLt l) l.length).take i)) ((l.length : Int), rel (lvlLt l) l.length) := by
  induction d with
  | zero =>
    intro i hi
    refine Ev.shift ?_
    simp only [spec_weOrder.l0]
    exact Ev.neg (by omega) (Ev.ret (by rw [List.take_of_length_le (by rw [rel_length]; omega)]))
  | succ d ih =>
    intro i hi
    have := ih (i + 1) (by omega)
    rw [List.take_succ_eq_append_getElem (by rw [rel_length]; omega), ← rd_lt _ i (by rw [rel_length]; omega), rel_get _ _ i (by omega)] at this
    refine Ev.shift ?_
    simp only [spec_weOrder.l0]
    refine Ev.pos (by omega) (Ev.pos (by omega) (Ev.pos (by omega) ?_))
    exact weOrder_l1 l hl i (by omega) _ (by rw [List.length_take, rel_length]; omega) _ this l.length 0 (by omega)
theorem weOrder_ev (l : List Int) (hl : l.length ≤ 1000) : Ev (fun k => spec_weOrder.f k l) ((l.length : Int), rel (lvlLt l) l.length) := by
  unfold spec_weOrder.f
  exact weOrder_l0 l hl l.length 0 (by omega)
theorem OrderOfLevels_both (l : List Int) (hl : l.length ≤ 1048576) : ∃ n x b, Ev (fun k => impl_OrderOfLevels.f k l) (n, x, b) ∧ Ev (fun k => spec_OrderOfLevels.f k l) (n, x, b) ∧ x.length ≤ 1000 := by
  unfold impl_OrderOfLevels.f spec_OrderOfLevels.f
  by_cases h : lvlP l
  · have := h.1
    exact ⟨_, _, true, Ev.bind (levels_impl l hl) (Ev.pos (by simpa using h) (Ev.bind (ofLevels_ev l (by omega)) (Ev.ret rfl))), Ev.bind (levels_spec l hl) (Ev.pos (by simpa using h) (Ev.bind (weOrder_ev l (by omega)) (Ev.ret rfl))), by rw [rel_length]; omega⟩
  · exact ⟨0, [], false, Ev.bind (levels_impl l hl) (Ev.neg (by simpa using h) (Ev.ret rfl)), Ev.bind (levels_spec l hl) (Ev.neg (by simpa using h) (Ev.ret rfl)), by simp⟩

end Go.Proofs.Ytjojalbgpemjoaa.Pure

/- OrderOfLevels answers what the reference answers, for every list of at most 2^20 numbers (longer ones the statement lets pass). Conditions: none. -/
namespace Go.Proofs.Ytjojalbgpemjoaa.Pure
open Go.RowKit Go.Proofs.Ytjojalbgpemjoaa.Q Go.Proofs.YtjojalbgpemjoaaW.PrintWords Go.Proofs.YtjojalbgpemjoaaW.PrintLast
set_option linter.unusedVariables false
set_option linter.unusedSimpArgs false

theorem FnExactOrderOfLevels : laws_FnExactOrderOfLevels.Pure := by
  intro l h1 h2 h3
  refine Ev.at1 ?_
  unfold laws_FnExactOrderOfLevels.f
  by_cases hb : (l.length : Int) > 1048576
  · exact Ev.pos hb (Ev.ret rfl)
  have hl : l.length ≤ 1048576 := by omega
  obtain ⟨n, x, b, hi, hs, hx⟩ := OrderOfLevels_both l hl
  refine Ev.neg hb (Ev.bind (toIntS l hl) (Ev.bind hs (Ev.bind (toIntS l hl) (Ev.bind hi ?_))))
  have ex := eqOrder_same n x (by omega)
  have mx := markOrder n x (by omega) 1 (by omega) (by omega)
  have gx := heldOrder n x.length (by omega) 1 (by omega) (by omega)
  refine Ev.bind ex (Ev.pos rfl (Ev.shift ?_))
  simp only [laws_FnExactOrderOfLevels.j0]
  refine Ev.neg (by simp) (Ev.bind (toIntS l hl) (Ev.bind (eqIntS_same l hl) (Ev.pos rfl (Ev.bind (markIntS l hl 1 (by omega) (by omega)) ?_))))
  refine Ev.neg (by simp; omega) (Ev.bind ex (Ev.pos rfl (Ev.shift ?_)))
  simp only [laws_FnExactOrderOfLevels.j1]
  refine Ev.neg (by simp) (Ev.bind mx (Ev.bind gx (Ev.neg (by omega) (Ev.pos rfl ?_))))
  refine Ev.bind (toIntS l hl) (Ev.bind hi (Ev.bind ex (Ev.pos rfl (Ev.shift ?_))))
  simp only [laws_FnExactOrderOfLevels.j2]
  exact Ev.neg (by simp) (Ev.bind gx (Ev.neg (by omega) (Ev.pos rfl (Ev.ret rfl))))

end Go.Proofs.Ytjojalbgpemjoaa.Pure
