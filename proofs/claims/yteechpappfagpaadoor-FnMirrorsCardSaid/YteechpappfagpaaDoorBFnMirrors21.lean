import Derived.Test.YteechpappfagpaaDoorBFnMirrors2
import Derived.Test.YteechpappfagpaaDoorBFnMirrors10
import Derived.Test.YteechpappfagpaaDoorBFnMirrors11
import Derived.Test.YteechpappfagpaaDoorBFnMirrors12
import Derived.Test.YteechpappfagpaaDoorBFnMirrors13
import Derived.Test.YteechpappfagpaaDoorBFnMirrors14
import Derived.Test.YteechpappfagpaaDoorBFnMirrors15
import Derived.Test.YteechpappfagpaaDoorBFnMirrors16
import Derived.Test.YteechpappfagpaaDoorBFnMirrors17
import Derived.Test.YteechpappfagpaaDoorBFnMirrors18
import Derived.Test.YteechpappfagpaaDoorBFnMirrors20
namespace Go.Proofs.YteechpappfagpaaDoor.Pure
open Go.RowKit Go.Proofs.YteechpappfagpaaDoor.Q Go.Proofs.YteechpappfagpaaDoorW.PrintWords Go.Proofs.YteechpappfagpaaDoorW.PrintLast
set_option linter.unusedVariables false
set_option linter.unusedSimpArgs false

theorem Ev.up {α : Type} {g : Nat → Option α} {r : α} (h : Ev g r) : Ev (fun k => g (k + 1)) r := by
  obtain ⟨K, hK⟩ := h; exact ⟨K, fun k hk => hK (k + 1) (by omega)⟩
/-- one more bit -/
def orb (x : Int) (j : Nat) : Int := Go.bits .or .i64 x (shl .i64 1 (j : Int))
/-- a row: the bits of those before d that p tells -/
def rowf (p : Nat → Bool) (d : Nat) : Int := (List.range d).foldl (fun x j => if p j then orb x j else x) 0
theorem rowf_succ (p : Nat → Bool) (d : Nat) : rowf p (d + 1) = if p d then orb (rowf p d) d else rowf p d := by
  simp [rowf, List.range_succ, List.foldl_append]
/-- the rows of a relation on n elements -/
def rel (p : Nat → Nat → Bool) (n : Nat) : List Int := (List.range n).map fun i => rowf (p i) n
theorem rel_length (p : Nat → Nat → Bool) (n : Nat) : (rel p n).length = n := by simp [rel]
theorem rel_get (p : Nat → Nat → Bool) (n i : Nat) (h : i < n) : rd (rel p n) (i : Int) = rowf (p i) n := by
  rw [rd_lt _ i (by rw [rel_length]; exact h)]; simp [rel]
theorem rel_congr {p q : Nat → Nat → Bool} {n : Nat} (h : ∀ i j, i < n → j < n → p i j = q i j) : rel p n = rel q n := by
  unfold rel
  refine List.map_congr_left fun i hi => ?_
  rw [List.mem_range] at hi
  have : ∀ d, d ≤ n → rowf (p i) d = rowf (q i) d := by
    intro d
    induction d with
    | zero => intro _; rfl
    | succ d ih => intro hd; rw [rowf_succ, rowf_succ, ih (by omega), h i d hi (by omega)]
  exact this n (Nat.le_refl _)
/-- the rows up to i are told, the ones behind are empty -/
def relUpto (p : Nat → Nat → Bool) (n i : Nat) : List Int := (rel p n).take i ++ List.replicate (n - i) 0
theorem relation_l1 (p : Nat → Nat → Bool) (n : Nat) (hn : n ≤ 1000) (i : Nat) (hi : i < n) (R : Int × List Int) (hR : ∀ g : Nat → Int → Int → Option Bool, (∀ i j : Nat, i < n → j < n → Ev (fun k => g k i j) (p i j)) → ∀ y : List Int, y.length = n → rd y (i : Int) = rowf (p i) n → (∀ m : Nat, m < n → m ≠ i → rd y (m : Int) = if m < i then rowf (p m) n else 0) → Ev (fun k => impl_relation.l0 k n (g k) n ((i + 1 : Nat) : Int) n y) R) (d : Nat) :
    ∀ (j : Nat) (y : List Int) (g : Nat → Int → Int → Option Bool), (∀ i j : Nat, i < n → j < n → Ev (fun k => g k i j) (p i j)) → j + d = n → y.length = n → rd y (i : Int) = rowf (p i) j → (∀ m : Nat, m < n → m ≠ i → rd y (m : Int) = if m < i then rowf (p m) n else 0) →
    Ev (fun k => impl_relation.l1 k n (g k) (i : Int) n (i : Int) n (j : Int) n y) R := by
  induction d with
  | zero =>
    intro j y g hg hj hy h1 h2
    obtain rfl : j = n := by omega
    refine Ev.shift ?_
    simp only [impl_relation.l1]
    refine Ev.neg (by omega) ?_
    rw [wrap64_id (x := (i : Int) + 1) (by omega) (by omega), cast1]
    exact hR (fun k => g (k + 1)) (fun a b ha hb => Ev.up (hg a b ha hb)) y hy h1 h2
  | succ d ih =>
    intro j y g hg hj hy h1 h2
    have hg' : ∀ i j : Nat, i < n → j < n → Ev (fun k => g (k + 1) i j) (p i j) := fun a b ha hb => Ev.up (hg a b ha hb)
    refine Ev.shift ?_
    simp only [impl_relation.l1]
    refine Ev.pos (by omega) (Ev.bind (hg' i j hi (by omega)) ?_)
    rw [wrap64_id (x := (j : Int) + 1) (by omega) (by omega), cast1]
    by_cases hp : p i j = true
    · refine Ev.pos hp (Ev.pos (by omega) (Ev.pos (by omega) (Ev.pos (by omega) ?_)))
      rw [Int.toNat_natCast]
      refine ih (j + 1) _ (fun k => g (k + 1)) hg' (by omega) (by simp; omega) ?_ ?_
      · rw [rd_lt _ i (by simp; omega), List.getElem_set_self, rowf_succ, if_pos hp, h1]; rfl
      · intro m hm hmi
        rw [rd_lt _ m (by simp; omega), List.getElem_set_ne (Ne.symm hmi), ← rd_lt y m (by omega)]
        exact h2 m hm hmi
    · refine Ev.neg hp (ih (j + 1) y (fun k => g (k + 1)) hg' (by omega) hy ?_ h2)
      rw [rowf_succ, if_neg hp]; exact h1
theorem relation_l0 (p : Nat → Nat → Bool) (n : Nat) (hn : n ≤ 1000) (d : Nat) : ∀ (i : Nat) (y : List Int) (g : Nat → Int → Int → Option Bool), (∀ i j : Nat, i < n → j < n → Ev (fun k => g k i j) (p i j)) → i + d = n → y.length = n → (∀ m : Nat, m < n → rd y (m : Int) = if m < i then rowf (p m) n else 0) →
    Ev (fun k => impl_relation.l0 k n (g k) n (i : Int) n y) ((n : Int), rel p n) := by
  induction d with
  | zero =>
    intro i y g hg hi hy h1
    refine Ev.shift ?_
    simp only [impl_relation.l0]
    refine Ev.neg (by omega) (Ev.ret ?_)
    congr 1
    apply List.ext_getElem (by rw [rel_length]; exact hy)
    intro m hm1 hm2
    have := h1 m (by omega)
    rw [if_pos (by omega), rd_lt y m hm1, ← rel_get p n m (by omega), rd_lt _ m hm2] at this
    exact this
  | succ d ih =>
    intro i y g hg hi hy h1
    refine Ev.shift ?_
    simp only [impl_relation.l0]
    refine Ev.pos (by omega) ?_
    refine relation_l1 p n hn i (by omega) _ (fun g' hg' y' hy' h1' h2' => ih (i + 1) y' g' hg' (by omega) hy' (fun m hm => ?_)) n 0 y (fun k => g (k + 1)) (fun a b ha hb => Ev.up (hg a b ha hb)) (by omega) hy ?_ ?_
    · by_cases e : m = i
      · subst e; rw [h1', if_pos (by omega)]
      · rw [h2' m hm e]
        by_cases hlt : m < i
        · rw [if_pos hlt, if_pos (by omega)]
        · rw [if_neg hlt, if_neg (by omega)]
    · rw [h1 i (by omega), if_neg (by omega)]; rfl
    · intro m hm e; exact h1 m hm
theorem relation_ev (p : Nat → Nat → Bool) (n : Nat) (hn : n ≤ 1000) (g : Nat → Int → Int → Option Bool) (hg : ∀ i j : Nat, i < n → j < n → Ev (fun k => g k i j) (p i j)) : Ev (fun k => impl_relation.f k n (g k)) ((n : Int), rel p n) := by
  unfold impl_relation.f
  refine Ev.pos (by omega) (Ev.pos (by omega) ?_)
  rw [Int.toNat_natCast]
  exact relation_l0 p n hn n 0 _ g hg (by omega) (by simp) (fun m hm => by rw [rd_lt _ m (by simp; omega), List.getElem_replicate, if_neg (by omega)])

end Go.Proofs.YteechpappfagpaaDoor.Pure

namespace Go.Proofs.YteechpappfagpaaDoor.Pure
open Go.RowKit Go.Proofs.YteechpappfagpaaDoor.Q Go.Proofs.YteechpappfagpaaDoorW.PrintWords Go.Proofs.YteechpappfagpaaDoorW.PrintLast
set_option linter.unusedVariables false
set_option linter.unusedSimpArgs false

theorem rowf_bits (p : Nat → Bool) (d : Nat) : d ≤ 10 → setP (rowf p d) ∧ ∀ m, bit (rowf p d) m = (decide (m < d) && p m) := by
  induction d with
  | zero => intro _; exact ⟨set_zero, fun m => by rw [show rowf p 0 = 0 from rfl, bit_zero]; simp⟩
  | succ d ih =>
    intro hd
    obtain ⟨h1, h2⟩ := ih (by omega)
    rw [rowf_succ]
    by_cases hp : p d = true
    · rw [if_pos hp]
      have hs := set_shl (j := d) (by omega)
      have ho := set_or h1 hs.1
      refine ⟨ho.1, fun m => ?_⟩
      show bit (Go.bits .or .i64 (rowf p d) (shl .i64 1 (d : Int))) m = _
      rw [ho.2, h2, hs.2]
      by_cases e : m = d
      · subst e; simp [hp]
      · by_cases l : m < d
        · simp [l, e, show m < d + 1 by omega]
        · simp [l, e, show ¬ m < d + 1 by omega]
    · rw [if_neg hp]
      refine ⟨h1, fun m => ?_⟩
      rw [h2]
      by_cases e : m = d
      · subst e; simp [hp]
      · by_cases l : m < d
        · simp [l, show m < d + 1 by omega]
        · simp [l, show ¬ m < d + 1 by omega]
theorem rel_set {p : Nat → Nat → Bool} {n i : Nat} (hn : n ≤ 10) (hi : i < n) : setP (rd (rel p n) (i : Int)) := by
  rw [rel_get p n i hi]; exact (rowf_bits (p i) n hn).1
theorem rel_lt {p : Nat → Nat → Bool} {n i : Nat} (hn : n ≤ 10) (hi : i < n) (j : Nat) : lt (rel p n) i j = (decide (j < n) && p i j) := by
  unfold lt; rw [rel_get p n i hi]; exact (rowf_bits (p i) n hn).2 j

end Go.Proofs.YteechpappfagpaaDoor.Pure

namespace Go.Proofs.YteechpappfagpaaDoor.Pure
open Go.RowKit Go.Proofs.YteechpappfagpaaDoor.Q Go.Proofs.YteechpappfagpaaDoorW.PrintWords Go.Proofs.YteechpappfagpaaDoorW.PrintLast
set_option linter.unusedVariables false
set_option linter.unusedSimpArgs false

/-- indifferent to i, and not i -/
def freeP (L : List Int) (i j : Nat) : Bool := !lt L i j && !lt L j i && !decide (j = i)
theorem mirror_ev {n : Int} {L : List Int} (h : relP n L) : Ev (fun k => impl_Order_mirror.f k n L) (n, rel (fun i j => lt L j i) L.length) := by
  have e1 := h.2.1
  have e3 := h.1
  unfold impl_Order_mirror.f
  have hrel := relation_ev (fun i j => lt L j i) L.length (by omega) (fun _ u0_ u1_ => impl_Order_mirror_1.f u0_ u1_ n L) (fun i j hi hj => Ev.const (by
    unfold impl_Order_mirror_1.f
    rw [better_f n L hj (h.set hj) (by omega), Option.bind_some]; rfl))
  rw [e1] at hrel
  exact Ev.bind hrel (Ev.ret rfl)
theorem all_f {n : Int} {L : List Int} (h : relP n L) : impl_Order_all.f n L = some (full n) := by
  unfold impl_Order_all.f
  rw [if_pos h.1.1]; rfl
theorem near_val {n : Int} {L : List Int} (h : relP n L) {i : Nat} (hi : i < L.length) :
    Go.bits .andNot .i64 (Go.bits .andNot .i64 (Go.bits .andNot .i64 (full n) (rd L (i : Int))) (rd (rel (fun i j => lt L j i) L.length) (i : Int))) (shl .i64 1 (i : Int)) = rowf (freeP L i) L.length := by
  have e1 := h.2.1
  have e3 := h.1
  have hf := set_full (n := L.length) (by omega)
  rw [e1] at hf
  have hm := rel_set (p := fun i j => lt L j i) (n := L.length) (by omega) hi
  have hm2 := rel_lt (p := fun i j => lt L j i) (n := L.length) (by omega) hi
  have a1 := set_andNot hf.1 (h.set hi)
  have a2 := set_andNot a1.1 hm
  have a3 := set_andNot a2.1 (set_shl (j := i) (by omega)).1
  have hr := rowf_bits (freeP L i) L.length (by omega)
  refine set_ext a3.1 hr.1 (fun j hj => ?_)
  rw [a3.2, a2.2, a1.2, hf.2, (set_shl (j := i) (by omega)).2, hr.2]
  rw [show bit (rd (rel (fun i j => lt L j i) L.length) (i : Int)) j = (decide (j < L.length) && lt L j i) from hm2 j]
  unfold freeP lt
  by_cases hjn : j < L.length
  · simp [hjn]
    try (cases bit (rd L (i : Int)) j <;> cases bit (rd L (j : Int)) i <;> simp)
  · simp [hjn]
theorem near_l {n : Int} {L : List Int} (h : relP n L) (d : Nat) : ∀ (i : Nat), i + d = L.length → Ev (fun k => impl_Order_indifferent.l0 k ((rel (freeP L) L.length).take i) n (i : Int) n L n (rel (fun i j => lt L j i) L.length)) (rel (freeP L) L.length) := by
  have e1 := h.2.1
  have e3 := h.1
  induction d with
  | zero =>
    intro i hi
    refine Ev.shift ?_
    simp only [impl_Order_indifferent.l0]
    exact Ev.neg (by omega) (Ev.ret (by rw [List.take_of_length_le (by rw [rel_length]; omega)]))
  | succ d ih =>
    intro i hi
    have := ih (i + 1) (by omega)
    rw [List.take_succ_eq_append_getElem (by rw [rel_length]; omega), ← rd_lt _ i (by rw [rel_length]; omega), rel_get _ _ i (by omega)] at this
    refine Ev.shift ?_
    simp only [impl_Order_indifferent.l0]
    refine Ev.pos (by omega) (Ev.bindc (all_f h) (Ev.pos (by omega) (Ev.pos (by omega) (Ev.pos (by rw [rel_length]; omega) (Ev.pos (by rw [List.length_take, rel_length]; omega) ?_)))))
    rw [wrap64_id (by omega) (by omega), cast1, near_val h (by omega)]
    exact this
theorem near_ev {n : Int} {L : List Int} (h : relP n L) : Ev (fun k => impl_Order_indifferent.f k n L) (rel (freeP L) L.length) := by
  unfold impl_Order_indifferent.f
  exact Ev.bind (mirror_ev h) (near_l h L.length 0 (by omega))
theorem below_l {n : Int} {L : List Int} (h : relP n L) (i : Nat) (hi : i < L.length) (d : Nat) : ∀ (j : Nat), j + d = L.length → Ev (fun k => spec_orBelow.l0 k (i : Int) (rowf (fun j => lt L j i) j) L (L.length : Int) (j : Int)) (rowf (fun j => lt L j i) L.length) := by
  have e1 := h.2.1
  have e3 := h.1
  induction d with
  | zero =>
    intro j hj
    refine Ev.shift ?_
    simp only [spec_orBelow.l0]
    exact Ev.neg (by omega) (Ev.ret (by rw [show j = L.length by omega]))
  | succ d ih =>
    intro j hj
    have := ih (j + 1) (by omega)
    rw [rowf_succ] at this
    refine Ev.shift ?_
    simp only [spec_orBelow.l0]
    refine Ev.pos (by omega) (Ev.pos (by omega) (Ev.pos (by omega) (Ev.bindc (orHas_f (h.set (i := j) (by omega)).1 (h.set (i := j) (by omega)).2 (by omega)) ?_)))
    rw [wrap64_id (by omega) (by omega), cast1]
    by_cases hb : bit (rd L (j : Int)) i = true
    · rw [if_pos (show lt L j i = true from hb)] at this
      exact Ev.pos hb this
    · rw [if_neg (show ¬ lt L j i = true from hb)] at this
      exact Ev.neg hb this
theorem below_ev {n : Int} {L : List Int} (h : relP n L) {i : Nat} (hi : i < L.length) : Ev (fun k => spec_orBelow.f k n L (i : Int)) (rowf (fun j => lt L j i) L.length) := by
  unfold spec_orBelow.f
  exact below_l h i hi L.length 0 (by omega)
theorem free_ev {n : Int} {L : List Int} (h : relP n L) {i : Nat} (hi : i < L.length) : Ev (fun k => spec_orFree.f k n L (i : Int)) (rowf (freeP L i) L.length) := by
  have e1 := h.2.1
  have e3 := h.1
  unfold spec_orFree.f
  refine Ev.pos h.1.1 (Ev.pos (by omega) (Ev.pos (by omega) (Ev.bind (below_ev h hi) (Ev.ret ?_))))
  have hf := set_full (n := L.length) (by omega)
  rw [e1] at hf
  have hb := rowf_bits (fun j => lt L j i) L.length (by omega)
  have o1 := set_or (h.set hi) hb.1
  have o2 := set_or o1.1 (set_shl (j := i) (by omega)).1
  have a1 := set_andNot hf.1 o2.1
  have hr := rowf_bits (freeP L i) L.length (by omega)
  refine set_ext a1.1 hr.1 (fun j hj => ?_)
  show bit (Go.bits .andNot .i64 (full n) _) j = _
  rw [a1.2, o2.2, o1.2, hb.2, hf.2, (set_shl (j := i) (by omega)).2, hr.2]
  unfold freeP lt
  by_cases hjn : j < L.length
  · simp [hjn]
    try (cases bit (rd L (i : Int)) j <;> cases bit (rd L (j : Int)) i <;> simp)
  · simp [hjn]

end Go.Proofs.YteechpappfagpaaDoor.Pure

namespace Go.Proofs.YteechpappfagpaaDoor.Pure
open Go.RowKit Go.Proofs.YteechpappfagpaaDoor.Q Go.Proofs.YteechpappfagpaaDoorW.PrintWords Go.Proofs.YteechpappfagpaaDoorW.PrintLast
set_option linter.unusedVariables false
set_option linter.unusedSimpArgs false

theorem orderP_of {n : Int} {L : List Int} (h : relP n L) (h1 : ∀ i, i < L.length → lt L i i = false) (h2 : ∀ i j m, i < L.length → j < L.length → lt L i j = true → lt L j m = true → lt L i m = true) : orderP n L :=
  ⟨h, fun m hm => ⟨h1 m hm, fun j hj => by
    obtain ⟨j', rfl, hj', hb⟩ := h.bits hm hj
    exact (andNot_zero (h.set hj') (h.set hm)).2 fun q _ hb2 => h2 m j' q hm hj' hb hb2⟩⟩
theorem rel_relP {n : Int} {N : Nat} (hn : n = N) (h10 : N ≤ 10) (p : Nat → Nat → Bool) : relP n (rel p N) := by
  subst hn
  refine ⟨⟨by omega, by omega⟩, by rw [rel_length], fun x hx => ?_⟩
  obtain ⟨i, hi, rfl⟩ := List.mem_iff_getElem.1 hx
  rw [rel_length] at hi
  rw [← rd_lt _ i (by rw [rel_length]; exact hi)]
  have hs := rel_set (p := p) h10 hi
  refine ⟨hs.1, ?_⟩
  rw [full_pow h10]
  obtain ⟨a, ha, hlt⟩ := hs.nat
  rw [ha]
  have : a < 2 ^ N := by
    refine Nat.lt_pow_two_of_testBit a fun m hm => ?_
    have := rel_lt (p := p) h10 hi m
    unfold lt at this
    rw [ha, bit_nat] at this
    rw [this]; simp; omega
  have h2 : ((2 ^ N : Nat) : Int) = (2 : Int) ^ N := by simp
  omega
/-- the mirrored rows -/
def mir (L : List Int) : List Int := rel (fun i j => lt L j i) L.length
theorem mir_length (L : List Int) : (mir L).length = L.length := rel_length _ _
theorem mir_relP {n : Int} {L : List Int} (h : relP n L) : relP n (mir L) := rel_relP h.2.1.symm (by have := h.1; have := h.2.1; omega) _
theorem mir_lt {n : Int} {L : List Int} (h : relP n L) {i j : Nat} (hi : i < L.length) (hj : j < L.length) : lt (mir L) i j = lt L j i := by
  have h1 := h.1; have h2 := h.2.1
  unfold mir; rw [rel_lt (by omega) hi]; simp [hj]
theorem mir_mir {n : Int} {L : List Int} (h : relP n L) : mir (mir L) = L := by
  have h1 := h.1; have h2 := h.2.1
  have hm := mir_relP h
  have hmm := mir_relP hm
  refine rel_ext (by rw [mir_length, mir_length]) (fun i hi => hmm.set hi) (fun i hi => h.set hi) (fun i j hi hj => ?_)
  rw [mir_length, mir_length] at hi
  by_cases hjl : j < L.length
  · rw [mir_lt hm (by rw [mir_length]; exact hi) (by rw [mir_length]; exact hjl), mir_lt h hjl hi]
  · have e1 : lt (mir (mir L)) i j = false := by
      cases hb : lt (mir (mir L)) i j
      · rfl
      · have := hmm.lt_len (by rw [mir_length, mir_length]; exact hi) hb; rw [mir_length, mir_length] at this; omega
    have e2 : lt L i j = false := by
      cases hb : lt L i j
      · rfl
      · have := h.lt_len hi hb; omega
    rw [e1, e2]
theorem mir_order {n : Int} {L : List Int} (h : orderP n L) : orderP n (mir L) := by
  have hm := mir_relP h.1
  refine orderP_of hm (fun i hi => ?_) (fun i j m hi hj h1 h2 => ?_)
  · rw [mir_length] at hi; rw [mir_lt h.1 hi hi]; exact h.irr hi
  · have hml := hm.lt_len hj h2
    rw [mir_length] at hi hj hml
    rw [mir_lt h.1 hi hj] at h1
    rw [mir_lt h.1 hj hml] at h2
    rw [mir_lt h.1 hi hml]
    exact h.trans hml h2 h1
theorem mir_order_iff {n : Int} {L : List Int} (h : relP n L) : orderP n (mir L) ↔ orderP n L :=
  ⟨fun h2 => by have := mir_order h2; rwa [mir_mir h] at this, mir_order⟩

end Go.Proofs.YteechpappfagpaaDoor.Pure

namespace Go.Proofs.YteechpappfagpaaDoor.Pure
open Go.RowKit Go.Proofs.YteechpappfagpaaDoor.Q Go.Proofs.YteechpappfagpaaDoorW.PrintWords Go.Proofs.YteechpappfagpaaDoorW.PrintLast
set_option linter.unusedVariables false
set_option linter.unusedSimpArgs false

-- what is asked of a relation, element by element
theorem has1_ev {n : Int} {L : List Int} {i : Nat} (hn : n ≤ 10) (hi : (i : Int) < n) : Ev (fun k => impl_Order_has.f k n L [(i : Int)]) true := by
  unfold impl_Order_has.f
  rw [wrap64_id (by omega) (by omega)]
  exact Ev.bind (allWithin_ev 0 (n - 1) [(i : Int)] (by simp)) (Ev.ret (by simp; omega))
theorem has2_ev {n : Int} {L : List Int} {i j : Nat} (hn : n ≤ 10) (hi : (i : Int) < n) (hj : (j : Int) < n) : Ev (fun k => impl_Order_has.f k n L [(i : Int), (j : Int)]) true := by
  unfold impl_Order_has.f
  rw [wrap64_id (by omega) (by omega)]
  exact Ev.bind (allWithin_ev 0 (n - 1) [(i : Int), (j : Int)] (by simp)) (Ev.ret (by simp; omega))
theorem BelowOf_ev {n : Int} {L : List Int} (h : relP n L) {i : Nat} (hi : i < L.length) : Ev (fun k => impl_BelowOf.f k n L (i : Int)) (rd (mir L) (i : Int), true) := by
  have h1 := h.1; have h2 := h.2.1
  unfold impl_BelowOf.f
  refine Ev.bind (isRelation_ev n L (by omega)) (Ev.pos (by simpa using h) (Ev.bind (has1_ev (by omega) (by omega)) (Ev.pos rfl (Ev.bind (mirror_ev h) ?_))))
  exact Ev.pos (by omega) (Ev.pos (by rw [rel_length]; omega) (Ev.ret rfl))
theorem IndifferentTo_ev {n : Int} {L : List Int} (h : relP n L) {i : Nat} (hi : i < L.length) : Ev (fun k => impl_IndifferentTo.f k n L (i : Int)) (rd (rel (freeP L) L.length) (i : Int), true) := by
  have h1 := h.1; have h2 := h.2.1
  unfold impl_IndifferentTo.f
  refine Ev.bind (isRelation_ev n L (by omega)) (Ev.pos (by simpa using h) (Ev.bind (has1_ev (by omega) (by omega)) (Ev.pos rfl (Ev.bind (near_ev h) ?_))))
  exact Ev.pos (by omega) (Ev.pos (by rw [rel_length]; omega) (Ev.ret rfl))
theorem IsBetter_ev {n : Int} {L : List Int} (h : relP n L) {i j : Nat} (hi : i < L.length) (hj : j < L.length) : Ev (fun k => impl_IsBetter.f k n L (i : Int) (j : Int)) (lt L i j, true) := by
  have h1 := h.1; have h2 := h.2.1
  unfold impl_IsBetter.f
  refine Ev.bind (isRelation_ev n L (by omega)) (Ev.pos (by simpa using h) (Ev.bind (has2_ev (by omega) (by omega) (by omega)) (Ev.pos rfl ?_)))
  exact Ev.bindc (better_f n L hi (h.set hi) (by omega)) (Ev.ret rfl)
theorem iMirrorOf_ev {n : Int} {L : List Int} (h : relP n L) : Ev (fun k => impl_MirrorOf.f k n L) (n, mir L, true) := by
  have h1 := h.1; have h2 := h.2.1
  unfold impl_MirrorOf.f
  exact Ev.bind (isRelation_ev n L (by omega)) (Ev.pos (by simpa using h) (Ev.bind (mirror_ev h) (Ev.ret rfl)))
theorem iMirrorOf_no {n : Int} {L : List Int} (hl : L.length ≤ 1048576) (h : ¬ relP n L) : Ev (fun k => impl_MirrorOf.f k n L) (0, [], false) := by
  unfold impl_MirrorOf.f
  exact Ev.bind (isRelation_ev n L hl) (Ev.neg (by simpa using h) (Ev.ret rfl))
theorem orMirror_l {n : Int} {L : List Int} (h : relP n L) (d : Nat) : ∀ i : Nat, i + d = L.length → Ev (fun k => spec_orMirror.l0 k (L.length : Int) (i : Int) n L n ((mir L).take i)) (n, mir L) := by
  have h1 := h.1; have h2 := h.2.1
  induction d with
  | zero =>
    intro i hi
    refine Ev.shift ?_
    simp only [spec_orMirror.l0]
    exact Ev.neg (by omega) (Ev.ret (by rw [List.take_of_length_le (by rw [mir_length]; omega)]))
  | succ d ih =>
    intro i hi
    have := ih (i + 1) (by omega)
    rw [List.take_succ_eq_append_getElem (by rw [mir_length]; omega), ← rd_lt _ i (by rw [mir_length]; omega)] at this
    refine Ev.shift ?_
    simp only [spec_orMirror.l0]
    refine Ev.pos (by omega) (Ev.bind (below_ev h (by omega)) (Ev.pos (by rw [List.length_take, mir_length]; omega) ?_))
    rw [wrap64_id (by omega) (by omega), cast1]
    rw [show rd (mir L) (i : Int) = rowf (fun j => lt L j i) L.length from rel_get _ _ i (by omega)] at this
    exact this
theorem sMirrorOf_ev {n : Int} {L : List Int} (h : relP n L) : Ev (fun k => spec_MirrorOf.f k n L) (n, mir L, true) := by
  have h1 := h.1; have h2 := h.2.1
  have hm : Ev (fun k => spec_orMirror.f k n L) (n, mir L) := by
    unfold spec_orMirror.f
    exact orMirror_l h L.length 0 (by omega)
  unfold spec_MirrorOf.f
  exact Ev.bind (orRelation_ev n L (by omega)) (Ev.pos (by simpa using h) (Ev.bind hm (Ev.ret rfl)))
theorem sMirrorOf_no {n : Int} {L : List Int} (hl : L.length ≤ 1048576) (h : ¬ relP n L) : Ev (fun k => spec_MirrorOf.f k n L) (0, [], false) := by
  unfold spec_MirrorOf.f
  exact Ev.bind (orRelation_ev n L hl) (Ev.neg (by simpa using h) (Ev.ret rfl))

end Go.Proofs.YteechpappfagpaaDoor.Pure

/- A relation that is mirrored twice is the same, and what is below in it is above in the mirror, for every two strings of bytes. Condition: the listed variables, tied to the program's text by the card. -/
namespace Go.Proofs.YteechpappfagpaaDoor.Pure
open Go.RowKit Go.Proofs.YteechpappfagpaaDoor.Q Go.Proofs.YteechpappfagpaaDoorW.PrintWords Go.Proofs.YteechpappfagpaaDoorW.PrintLast
set_option linter.unusedVariables false
set_option linter.unusedSimpArgs false

theorem big_f (l m : List Int) (hl : l.length ≤ maxLen) : ∃ b, laws_big.f l m = some b := by
  unfold laws_big.f
  by_cases h : (l.length : Int) > 1048576
  · exact ⟨_, if_pos h⟩
  · exact ⟨_, if_neg h⟩
theorem free_bit {n : Int} {L : List Int} (h : relP n L) {i j : Nat} (hi : i < L.length) (hj : j < L.length) : setP (rd (rel (freeP L) L.length) (i : Int)) ∧ bit (rd (rel (freeP L) L.length) (i : Int)) j = freeP L i j := by
  have h1 := h.1; have h2 := h.2.1
  refine ⟨rel_set (by omega) hi, ?_⟩
  have := rel_lt (p := freeP L) (n := L.length) (by omega) hi j
  unfold lt at this
  rw [this]; simp [hj]
theorem free_mir {n : Int} {L : List Int} (h : relP n L) : rel (freeP (mir L)) (mir L).length = rel (freeP L) L.length := by
  rw [mir_length]
  refine rel_congr fun i j hi hj => ?_
  unfold freeP
  rw [mir_lt h hi hj, mir_lt h hj hi]
  cases lt L i j <;> cases lt L j i <;> rfl
theorem mirrors_l1 {n : Int} {L : List Int} (h : relP n L) (i : Nat) (hi : i < L.length) (hk : Ev (fun k => laws_FnMirrors.l0 k (L.length : Int) ((i + 1 : Nat) : Int) n L n (mir L)) true) (d : Nat) : ∀ j : Nat, j + d = L.length →
    Ev (fun k => laws_FnMirrors.l1 k (i : Int) (rd (mir L) (i : Int)) (rd (rel (freeP L) L.length) (i : Int)) (L.length : Int) (i : Int) (L.length : Int) (j : Int) n L n (mir L)) true := by
  have h1 := h.1; have h2 := h.2.1
  induction d with
  | zero =>
    intro j hj
    refine Ev.shift ?_
    simp only [laws_FnMirrors.l1]
    refine Ev.neg (by omega) ?_
    rw [wrap64_id (by omega) (by omega), cast1]; exact hk
  | succ d ih =>
    intro j hj
    have e := ih (j + 1) (by omega)
    have hjl : j < L.length := by omega
    have hf := free_bit h hi hjl
    have hm := (mir_relP h).set (i := i) (by rw [mir_length]; exact hi)
    have hmb : bit (rd (mir L) (i : Int)) j = lt L j i := mir_lt h hi hjl
    have f1 : (i : Int) < L.length := by omega
    have f2 : (j : Int) < L.length := by omega
    refine Ev.shift ?_
    simp only [laws_FnMirrors.l1]
    refine Ev.pos f2 (Ev.bind (IsBetter_ev h hi hjl) (Ev.pos rfl (Ev.pos (by omega) (Ev.pos f1 (Ev.bindc (pIn_f (h.set hi).1 (h.set hi).2 (by omega)) (Ev.neg (by rw [show bit (rd L (i : Int)) j = lt L i j from rfl]; simp) ?_))))))
    rw [wrap64_id (by omega) (by omega), cast1]
    by_cases hij : (i : Int) = (j : Int)
    · exact Ev.pos hij e
    · refine Ev.neg hij (Ev.bindc (pIn_f hf.1.1 hf.1.2 (by omega)) ?_)
      rw [hf.2]
      by_cases hb : lt L i j = true
      · refine Ev.pos hb (Ev.neg ?_ e)
        unfold freeP; simp [hb]
      · refine Ev.neg hb (Ev.bindc (pIn_f hm.1 hm.2 (by omega)) (Ev.neg ?_ e))
        rw [hmb]
        unfold freeP
        have : ¬ j = i := by omega
        simp only [Bool.not_eq_true] at hb
        rw [hb]; simp [this]
theorem mirrors_l0 {n : Int} {L : List Int} (h : relP n L) (d : Nat) : ∀ i : Nat, i + d = L.length → Ev (fun k => laws_FnMirrors.l0 k (L.length : Int) (i : Int) n L n (mir L)) true := by
  have h1 := h.1; have h2 := h.2.1
  induction d with
  | zero =>
    intro i hi
    refine Ev.shift ?_
    simp only [laws_FnMirrors.l0]
    exact Ev.neg (by omega) (Ev.ret rfl)
  | succ d ih =>
    intro i hi
    have e := ih (i + 1) (by omega)
    have hil : i < L.length := by omega
    have hf := free_bit h hil hil
    have hI := IndifferentTo_ev (mir_relP h) (i := i) (by rw [mir_length]; exact hil)
    rw [free_mir h] at hI
    have f1 : (i : Int) < L.length := by omega
    have f2 : (i : Int) < (mir L).length := by rw [mir_length]; omega
    refine Ev.shift ?_
    simp only [laws_FnMirrors.l0]
    refine Ev.pos f1 (Ev.bind (BelowOf_ev h hil) (Ev.bind (IndifferentTo_ev h hil) (Ev.bind hI (Ev.pos rfl (Ev.pos rfl (Ev.pos rfl (Ev.pos (by omega) (Ev.pos f2 (Ev.pos rfl (Ev.pos rfl (Ev.bindc (pIn_f hf.1.1 hf.1.2 (by omega)) (Ev.shift ?_))))))))))))
    simp only [laws_FnMirrors.j3]
    refine Ev.neg ?_ (mirrors_l1 h i hil e L.length 0 (by omega))
    rw [hf.2]; unfold freeP; simp
theorem FnMirrors (l0 : List Int) (hm0 : l0.length ≤ maxLen) (hw0 : ∀ x ∈ l0, (Lit.int .u8 x).wf = true) (l1 : List Int) (hm1 : l1.length ≤ maxLen) (hw1 : ∀ x ∈ l1, (Lit.int .u8 x).wf = true) : ∃ k, laws_FnMirrors.f k l0 l1 = some true := by
  refine Ev.at1 ?_
  unfold laws_FnMirrors.f
  obtain ⟨b, hb⟩ := big_f l0 l1 hm0
  refine Ev.bindc hb ?_
  by_cases hbt : b = true
  · exact Ev.pos hbt (Ev.ret rfl)
  refine Ev.neg hbt ?_
  obtain ⟨n, L, a', s', he, hn, _, _⟩ := anyOrder_d (bytesP.of hw0) (a := 0) 0 7 (by omega) (by omega) ⟨by omega, by omega⟩
  have hd : Ev (fun k => spec_DrawMirrorOf.f k l0) (n, L) := by
    unfold spec_DrawMirrorOf.f
    exact Ev.bind he (Ev.ret rfl)
  have hl : L.length ≤ 10 := hn.2.1
  refine Ev.bind hd ?_
  by_cases h : relP n L
  · have hmr := mir_relP h
    refine Ev.bind (iMirrorOf_ev h) (Ev.bind (sMirrorOf_ev h) (Ev.neg (by simp) (Ev.bind (pSameOrder_self n (mir L) (by rw [mir_length]; omega)) (Ev.shift ?_))))
    simp only [laws_FnMirrors.j0]
    have hb2 := iMirrorOf_ev hmr
    rw [mir_mir h] at hb2
    refine Ev.neg (by simp) (Ev.pos (by simp) (Ev.bind hb2 (Ev.pos rfl (Ev.bind (pSameOrder_self n L (by omega)) (Ev.pos rfl (Ev.bind (isOrder_ev n L (by omega)) (Ev.bind (isOrder_ev n (mir L) (by rw [mir_length]; omega)) (Ev.shift ?_))))))))
    simp only [laws_FnMirrors.j1]
    refine Ev.neg ?_ (mirrors_l0 h L.length 0 (by omega))
    have e : decide (orderP n (mir L)) = decide (orderP n L) := by rw [Bool.eq_iff_iff, decide_eq_true_iff, decide_eq_true_iff]; exact mir_order_iff h
    rw [e]; simp
  · refine Ev.bind (iMirrorOf_no (show L.length ≤ 1048576 by omega) h) (Ev.bind (sMirrorOf_no (show L.length ≤ 1048576 by omega) h) (Ev.neg (by simp) (Ev.bind (pSameOrder_self 0 [] (by simp)) (Ev.shift ?_))))
    simp only [laws_FnMirrors.j0]
    exact Ev.neg (by simp) (Ev.neg (by simp) (Ev.ret rfl))

end Go.Proofs.YteechpappfagpaaDoor.Pure
