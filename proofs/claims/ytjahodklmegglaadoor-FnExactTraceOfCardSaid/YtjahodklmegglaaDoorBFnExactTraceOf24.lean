import Derived.Lib.SlicesCompact
import Derived.Lib.RowBridge
import Derived.Test.YtjahodklmegglaaDoorBFnExactTraceOf13
import Derived.Test.YtjahodklmegglaaDoorBFnExactTraceOf14
import Derived.Test.YtjahodklmegglaaDoorBFnExactTraceOf22
import Derived.Test.YtjahodklmegglaaDoorBFnExactTraceOf23
namespace Go.Proofs.YtjahodklmegglaaDoor.Pure
set_option linter.unusedVariables false
set_option linter.unusedSimpArgs false

-- plain
/-! orders as relations on the numbers below n: traces of semiorders, heights in weak orders -/
theorem cnt_le {n : Nat} {p q : Nat → Bool} (h : ∀ x, x < n → p x = true → q x = true) : (List.range n).countP p ≤ (List.range n).countP q := by
  induction n with
  | zero => simp
  | succ n ih =>
    have h1 := ih (fun x hx => h x (by omega))
    have h2 := h n (by omega)
    rw [List.range_succ, List.countP_append, List.countP_append, List.countP_singleton, List.countP_singleton]
    by_cases hp : p n = true
    · rw [if_pos hp, if_pos (h2 hp)]; omega
    · rw [if_neg hp]; split <;> omega
theorem cnt_lt {n : Nat} {p q : Nat → Bool} (h : ∀ x, x < n → p x = true → q x = true) (hx : ∃ x, x < n ∧ q x = true ∧ p x = false) : (List.range n).countP p < (List.range n).countP q := by
  induction n with
  | zero => obtain ⟨x, hx, _⟩ := hx; omega
  | succ n ih =>
    have h1 := cnt_le (n := n) (fun x hx => h x (by omega))
    have h2 := h n (by omega)
    rw [List.range_succ, List.countP_append, List.countP_append, List.countP_singleton, List.countP_singleton]
    by_cases hn : q n = true ∧ p n = false
    · rw [if_pos hn.1, if_neg (by simp [hn.2])]; omega
    · obtain ⟨x, hx, hq, hp⟩ := hx
      have hxn : x < n := by
        rcases Nat.lt_or_ge x n with h | h
        · exact h
        · obtain rfl : x = n := by omega
          exact absurd ⟨hq, hp⟩ hn
      have := ih (fun x hx => h x (by omega)) ⟨x, hxn, hq, hp⟩
      by_cases hpn : p n = true
      · rw [if_pos hpn, if_pos (h2 hpn)]; omega
      · rw [if_neg hpn]; split <;> omega
/-- an order on the numbers below n -/
structure Ord (n : Nat) (r : Nat → Nat → Bool) : Prop where
  irr : ∀ i, i < n → r i i = false
  trans : ∀ i j m, i < n → j < n → m < n → r i j = true → r j m = true → r i m = true
section
variable {n : Nat} {r : Nat → Nat → Bool}
theorem Ord.asym (h : Ord n r) {i j : Nat} (hi : i < n) (hj : j < n) (h1 : r i j = true) : r j i = false := by
  cases hb : r j i
  · rfl
  · have := h.trans i j i hi hj hi h1 hb; rw [h.irr i hi] at this; cases this
/-- two pairs that refuse -/
def No22 (n : Nat) (r : Nat → Nat → Bool) : Prop := ∀ a b c d, a < n → b < n → c < n → d < n → r a b = true → r c d = true → r c b = false → r a d = false → False
/-- a chain of three and one that is indifferent to all -/
def No31 (n : Nat) (r : Nat → Nat → Bool) : Prop := ∀ a b c d, a < n → b < n → c < n → d < n → r a b = true → r b c = true → r a d = false → r d a = false → d ≠ a → r b d = false → r d b = false → d ≠ b → r c d = false → r d c = false → d ≠ c → False
/-- an element above another one, and one indifferent to both -/
def No21 (n : Nat) (r : Nat → Nat → Bool) : Prop := ∀ a b c, a < n → b < n → c < n → r a b = true → r a c = false → r c a = false → c ≠ a → r b c = false → r c b = false → c ≠ b → False
def trR (n : Nat) (r : Nat → Nat → Bool) (i j : Nat) : Prop := (∃ x, x < n ∧ r x j = true ∧ r x i = false) ∨ (∃ y, y < n ∧ r i y = true ∧ r j y = false)
def num (n : Nat) (r : Nat → Nat → Bool) (i : Nat) : Int := ((List.range n).countP (fun x => r x i) : Int) - ((List.range n).countP (fun y => r i y) : Int)
theorem below_nested (h22 : No22 n r) {i j x : Nat} (hi : i < n) (hj : j < n) (hx : x < n) (h1 : r x j = true) (h2 : r x i = false) : ∀ z, z < n → r z i = true → r z j = true := by
  intro z hz hzi
  cases hb : r z j
  · exact (h22 x j z i hx hj hz hi h1 hzi hb h2).elim
  · rfl
theorem above_nested (h22 : No22 n r) {i j y : Nat} (hi : i < n) (hj : j < n) (hy : y < n) (h1 : r i y = true) (h2 : r j y = false) : ∀ z, z < n → r j z = true → r i z = true := by
  intro z hz hjz
  cases hb : r i z
  · exact (h22 i y j z hi hy hj hz h1 hjz h2 hb).elim
  · rfl
/-- more below, and more above: not both -/
theorem not_both (h : Ord n r) (h31 : No31 n r) {i j x y : Nat} (hi : i < n) (hj : j < n) (hx : x < n) (hy : y < n) (h1 : r x j = true) (h2 : r x i = false) (h3 : r j y = true) (h4 : r i y = false) : False := by
  have a1 : r i x = false := by
    cases hb : r i x
    · rfl
    · have := h.trans i x y hi hx hy hb (h.trans x j y hx hj hy h1 h3); rw [h4] at this; cases this
  have a2 : r i j = false := by
    cases hb : r i j
    · rfl
    · have := h.trans i j y hi hj hy hb h3; rw [h4] at this; cases this
  have a3 : r j i = false := by
    cases hb : r j i
    · rfl
    · have := h.trans x j i hx hj hi h1 hb; rw [h2] at this; cases this
  have a4 : r y i = false := by
    cases hb : r y i
    · rfl
    · have := h.trans x y i hx hy hi (h.trans x j y hx hj hy h1 h3) hb; rw [h2] at this; cases this
  refine h31 x j y i hx hj hy hi h1 h3 h2 a1 ?_ a3 a2 ?_ a4 h4 ?_
  · rintro rfl; rw [h.trans i j y hi hj hy h1 h3] at h4; cases h4
  · rintro rfl; rw [h1] at h2; cases h2
  · rintro rfl; rw [h.trans x j i hx hj hi h1 h3] at h2; cases h2
theorem trR_num (h : Ord n r) (h22 : No22 n r) (h31 : No31 n r) {i j : Nat} (hi : i < n) (hj : j < n) : trR n r i j ↔ num n r i < num n r j := by
  unfold num
  constructor
  · rintro (⟨x, hx, h1, h2⟩ | ⟨y, hy, h1, h2⟩)
    · have c1 := cnt_lt (n := n) (p := fun x => r x i) (q := fun x => r x j) (below_nested h22 hi hj hx h1 h2) ⟨x, hx, h1, h2⟩
      have c2 := cnt_le (n := n) (p := fun y => r j y) (q := fun y => r i y) (fun z hz hjz => by
        cases hb : r i z
        · exact (not_both h h31 hi hj hx hz h1 h2 hjz hb).elim
        · rfl)
      omega
    · have c1 := cnt_lt (n := n) (p := fun y => r j y) (q := fun y => r i y) (above_nested h22 hi hj hy h1 h2) ⟨y, hy, h1, h2⟩
      have c2 := cnt_le (n := n) (p := fun x => r x i) (q := fun x => r x j) (fun z hz hzi => by
        cases hb : r z j
        · exact (not_both h h31 hj hi hz hy hzi hb h1 h2).elim
        · rfl)
      omega
  · intro hlt
    refine Classical.byContradiction fun hn => ?_
    have c1 := cnt_le (n := n) (p := fun x => r x j) (q := fun x => r x i) (fun z hz h1 => by
      cases hb : r z i
      · exact (hn (.inl ⟨z, hz, h1, hb⟩)).elim
      · rfl)
    have c2 := cnt_le (n := n) (p := fun y => r i y) (q := fun y => r j y) (fun z hz h1 => by
      cases hb : r j z
      · exact (hn (.inr ⟨z, hz, h1, hb⟩)).elim
      · rfl)
    omega
/-- in a weak order what is below decides -/
theorem weak_below (h : Ord n r) (h21 : No21 n r) {i j : Nat} (hi : i < n) (hj : j < n) : r j i = true ↔ (∀ x, x < n → r x j = true → r x i = true) ∧ ∃ x, x < n ∧ r x i = true ∧ r x j = false := by
  constructor
  · intro hji
    exact ⟨fun x hx hxj => h.trans x j i hx hj hi hxj hji, j, hj, hji, h.irr j hj⟩
  · rintro ⟨h1, x, hx, hxi, hxj⟩
    cases hb : r j i
    · have a1 : r i j = false := by
        cases hc : r i j
        · rfl
        · have := h1 i hi hc; rw [h.irr i hi] at this; cases this
      have a2 : r j x = false := by
        cases hc : r j x
        · rfl
        · have := h.trans j x i hj hx hi hc hxi; rw [hb] at this; cases this
      refine (h21 x i j hx hi hj hxi hxj a2 ?_ a1 hb ?_).elim
      · rintro rfl; rw [hxi] at hb; cases hb
      · rintro rfl; rw [hxi] at hxj; cases hxj
    · rfl
/-- as many are below: the same are below, in a weak order -/
theorem weak_nested (h : Ord n r) (h21 : No21 n r) {i j : Nat} (hi : i < n) (hj : j < n) : (∀ x, x < n → r x j = true → r x i = true) ∨ (∀ x, x < n → r x i = true → r x j = true) := by
  refine Classical.or_iff_not_imp_left.2 fun hn => ?_
  have ⟨x, hx⟩ := Classical.not_forall.1 hn
  have ⟨hx, hx2⟩ := Classical.not_imp.1 hx
  have ⟨hxj, hxi⟩ := Classical.not_imp.1 hx2
  have hxi : r x i = false := by simpa using hxi
  intro z hz hzi
  cases hzj : r z j
  · -- x below j and not i; z below i and not j
    have a1 : r i j = false := by
      cases hc : r i j
      · rfl
      · have := h.trans z i j hz hi hj hzi hc; rw [hzj] at this; cases this
    have a2 : r j i = false := by
      cases hc : r j i
      · rfl
      · have := h.trans x j i hx hj hi hxj hc; rw [hxi] at this; cases this
    have a3 : r i x = false := by
      cases hc : r i x
      · rfl
      · have := h.trans i x j hi hx hj hc hxj; rw [a1] at this; cases this
    refine (h21 x j i hx hj hi hxj hxi a3 ?_ a2 a1 ?_).elim
    · rintro rfl; rw [hxj] at a1; cases a1
    · rintro rfl; rw [hzi] at hzj; cases hzj
  · rfl
end

end Go.Proofs.YtjahodklmegglaaDoor.Pure

namespace Go.Proofs.YtjahodklmegglaaDoor.Pure
open Go.RowKit Go.Proofs.YtjahodklmegglaaDoor.Q Go.Proofs.YtjahodklmegglaaDoorW.PrintWords Go.Proofs.YtjahodklmegglaaDoorW.PrintLast
set_option linter.unusedVariables false
set_option linter.unusedSimpArgs false

theorem ord_lt {n : Int} {L : List Int} (h : orderP n L) : Ord L.length (lt L) := ⟨fun i hi => h.irr hi, fun i j m hi hj hm h1 h2 => h.trans hi h1 h2⟩
/-- the rows of what is below -/
def dn (L : List Int) (i : Nat) : Int := rowf (fun j => lt L j i) L.length
def dns (L : List Int) : List Int := rel (fun i j => lt L j i) L.length
theorem dns_length (L : List Int) : (dns L).length = L.length := rel_length _ _
theorem dns_get (L : List Int) {i : Nat} (hi : i < L.length) : rd (dns L) (i : Int) = dn L i := rel_get _ _ i hi
theorem mem_dns {L : List Int} {x : Int} : x ∈ dns L ↔ ∃ i, i < L.length ∧ dn L i = x := by
  unfold dns rel dn
  simp only [List.mem_map, List.mem_range]
theorem dn_set {n : Int} {L : List Int} (h : relP n L) (i : Nat) : setP (dn L i) ∧ ∀ m, bit (dn L i) m = (decide (m < L.length) && lt L m i) := rowf_bits _ _ (by have := h.1; have := h.2.1; omega)
theorem dn_sub {n : Int} {L : List Int} (h : relP n L) (i j : Nat) : andN (dn L j) (dn L i) = 0 ↔ ∀ x, x < L.length → lt L x j = true → lt L x i = true := by
  have h10 : L.length ≤ 10 := by have := h.1; have := h.2.1; omega
  rw [andNot_zero (dn_set h j).1 (dn_set h i).1]
  constructor
  · intro h2 x hx hb
    have := h2 x (by omega) (by rw [(dn_set h j).2]; simp [hx, hb])
    rw [(dn_set h i).2] at this
    simp at this; exact this.2
  · intro h2 x hx hb
    rw [(dn_set h j).2] at hb
    simp at hb
    rw [(dn_set h i).2]; simp [hb.1, h2 x hb.1 hb.2]
theorem dn_eq {n : Int} {L : List Int} (h : relP n L) (i j : Nat) : dn L j = dn L i ↔ (∀ x, x < L.length → lt L x j = true → lt L x i = true) ∧ (∀ x, x < L.length → lt L x i = true → lt L x j = true) := by
  constructor
  · intro e
    have e0 : andN (dn L i) (dn L i) = 0 := (dn_sub h i i).2 fun x _ hx => hx
    exact ⟨(dn_sub h i j).1 (by rw [e]; exact e0), (dn_sub h j i).1 (by rw [e]; exact e0)⟩
  · rintro ⟨h1, h2⟩
    refine set_ext (dn_set h j).1 (dn_set h i).1 fun x hx => ?_
    rw [(dn_set h j).2, (dn_set h i).2]
    by_cases hxl : x < L.length
    · have a := h1 x hxl; have b := h2 x hxl
      cases e1 : lt L x j <;> cases e2 : lt L x i <;> simp_all
    · simp [hxl]

end Go.Proofs.YtjahodklmegglaaDoor.Pure

namespace Go.Proofs.YtjahodklmegglaaDoor.Pure
open Go.RowKit Go.Proofs.YtjahodklmegglaaDoor.Q Go.Proofs.YtjahodklmegglaaDoorW.PrintWords Go.Proofs.YtjahodklmegglaaDoorW.PrintLast
set_option linter.unusedVariables false
set_option linter.unusedSimpArgs false

theorem bang (zs : List Int) (i : Nat) (h : i < zs.length) : zs.toArray[i]! = zs[i] := by
  rw [getElem!_pos zs.toArray i (by simpa using h)]; simp
/-- the different numbers of a list, in order -/
def dif (l : List Int) : List Int := Lib.compact (l.mergeSort fun x y => decide (x ≤ y))
theorem compactUpTo_facts (d : Array Int) (hs : ∀ i j : Nat, i < j → j < d.size → d[i]! ≤ d[j]!) : ∀ m, m ≤ d.size →
    (Lib.compactUpTo d m).Pairwise (· < ·) ∧ (∀ x, x ∈ Lib.compactUpTo d m ↔ ∃ j, j < m ∧ d[j]! = x) ∧ (∀ x ∈ Lib.compactUpTo d m, ∀ j, m = j + 1 → x ≤ d[j]!) := by
  intro m
  induction m with
  | zero => intro _; simp [Lib.compactUpTo]
  | succ m ih =>
    intro hm
    obtain ⟨h1, h2, h3⟩ := ih (by omega)
    rw [Lib.compactUpTo_succ]
    by_cases h0 : m = 0
    · subst h0
      rw [Lib.keeps_lt_one d 0 (by omega)]
      simp [Lib.compactUpTo]
      intro x; exact eq_comm
    · obtain ⟨q, rfl⟩ : ∃ q, m = q + 1 := ⟨m - 1, by omega⟩
      have hle : d[q]! ≤ d[q + 1]! := hs q (q + 1) (by omega) (by omega)
      by_cases he : d[q + 1]! = d[q]!
      · rw [Lib.keeps_neg (by omega) (by simpa using he)]
        simp only [Bool.false_eq_true, if_false, List.append_nil]
        refine ⟨h1, fun x => ?_, fun x hx j hj => ?_⟩
        · rw [h2]
          constructor
          · rintro ⟨j, hj, e⟩; exact ⟨j, by omega, e⟩
          · rintro ⟨j, hj, e⟩
            by_cases hjq : j = q + 1
            · subst hjq; exact ⟨q, by omega, by rw [← he]; exact e⟩
            · exact ⟨j, by omega, e⟩
        · obtain rfl : j = q + 1 := by omega
          have := h3 x hx q rfl
          omega
      · rw [Lib.keeps_pos (by simpa using he)]
        simp only [if_true]
        refine ⟨?_, fun x => ?_, fun x hx j hj => ?_⟩
        · rw [List.pairwise_append]
          refine ⟨h1, by simp, fun x hx y hy => ?_⟩
          have := h3 x hx q rfl
          rw [List.mem_singleton] at hy
          subst hy
          omega
        · rw [List.mem_append, h2, List.mem_singleton]
          constructor
          · rintro (⟨j, hj, e⟩ | e)
            · exact ⟨j, by omega, e⟩
            · exact ⟨q + 1, by omega, e.symm⟩
          · rintro ⟨j, hj, e⟩
            by_cases hjq : j = q + 1
            · subst hjq; exact .inr e.symm
            · exact .inl ⟨j, by omega, e⟩
        · obtain rfl : j = q + 1 := by omega
          rw [List.mem_append, List.mem_singleton] at hx
          rcases hx with hx | rfl
          · have := h3 x hx q rfl; omega
          · omega
theorem sort_pairwise (l : List Int) : (l.mergeSort fun x y => decide (x ≤ y)).Pairwise (· ≤ ·) := by
  have := List.pairwise_mergeSort (le := fun x y : Int => decide (x ≤ y)) (by intro a b c h1 h2; simp at h1 h2 ⊢; omega) (by intro a b; simp; omega) l
  simpa using this
theorem dif_facts (l : List Int) : (dif l).Pairwise (· < ·) ∧ ∀ x, x ∈ dif l ↔ x ∈ l := by
  have hp := sort_pairwise l
  have h := compactUpTo_facts (l.mergeSort fun x y => decide (x ≤ y)).toArray (fun i j hij hj => by
    have hj' : j < (l.mergeSort fun x y => decide (x ≤ y)).length := by simpa using hj
    have := List.pairwise_iff_getElem.1 hp i j (by omega) hj' hij
    rw [bang _ i (by omega), bang _ j hj']
    exact this) (l.mergeSort fun x y => decide (x ≤ y)).length (by simp)
  refine ⟨h.1, fun x => ?_⟩
  show x ∈ Lib.compactUpTo _ _ ↔ _
  rw [h.2.1, ← List.mem_mergeSort (le := fun x y : Int => decide (x ≤ y)), List.mem_iff_getElem]
  constructor
  · rintro ⟨j, hj, e⟩; exact ⟨j, hj, by rw [bang _ j hj] at e; exact e⟩
  · rintro ⟨j, hj, e⟩; exact ⟨j, hj, by rw [bang _ j hj]; exact e⟩
theorem dif_sorted (l : List Int) : (dif l).Pairwise (· < ·) := (dif_facts l).1
theorem mem_dif {l : List Int} {x : Int} : x ∈ dif l ↔ x ∈ l := (dif_facts l).2 x
theorem dif_length (l : List Int) : (dif l).length ≤ l.length := by
  have := Lib.compact_length_le (l.mergeSort fun x y => decide (x ≤ y))
  rwa [List.length_mergeSort] at this
/-- two rising lists of the same numbers are one -/
theorem rising_ext : ∀ {a b : List Int}, a.Pairwise (· < ·) → b.Pairwise (· < ·) → (∀ x, x ∈ a ↔ x ∈ b) → a = b
  | [], [], _, _, _ => rfl
  | [], y :: b, _, _, h => by have := (h y).2 (by simp); simp at this
  | x :: a, [], _, _, h => by have := (h x).1 (by simp); simp at this
  | x :: a, y :: b, ha, hb, h => by
    rw [List.pairwise_cons] at ha hb
    have e : x = y := by
      rcases List.mem_cons.1 ((h x).1 (by simp)) with e | hx
      · exact e
      · rcases List.mem_cons.1 ((h y).2 (by simp)) with e | hy
        · exact e.symm
        · have := ha.1 y hy; have := hb.1 x hx; omega
    subst e
    congr 1
    refine rising_ext ha.2 hb.2 fun z => ?_
    constructor
    · intro hz
      rcases List.mem_cons.1 ((h z).1 (List.mem_cons_of_mem _ hz)) with e | hz'
      · have := ha.1 z hz; omega
      · exact hz'
    · intro hz
      rcases List.mem_cons.1 ((h z).2 (List.mem_cons_of_mem _ hz)) with e | hz'
      · have := hb.1 z hz; omega
      · exact hz'
theorem different_f (l : List Int) (h : l.length ≤ 1048576) : impl_different.f l = some (dif l) := by
  unfold impl_different.f dif
  rw [if_pos (by omega)]

end Go.Proofs.YtjahodklmegglaaDoor.Pure

namespace Go.Proofs.YtjahodklmegglaaDoor.Pure
open Go.RowKit Go.Proofs.YtjahodklmegglaaDoor.Q Go.Proofs.YtjahodklmegglaaDoorW.PrintWords Go.Proofs.YtjahodklmegglaaDoorW.PrintLast
set_option linter.unusedVariables false
set_option linter.unusedSimpArgs false

theorem countP_more {D : List Int} {p q : Int → Bool} (h : ∀ x ∈ D, p x = true → q x = true) (hx : ∃ a ∈ D, q a = true ∧ p a = false) : D.countP p + 1 ≤ D.countP q := by
  induction D with
  | nil => obtain ⟨a, ha, _⟩ := hx; simp at ha
  | cons y D ih =>
    have h1 : D.countP p ≤ D.countP q := List.countP_mono_left fun x hx => h x (List.mem_cons_of_mem _ hx)
    rw [List.countP_cons, List.countP_cons]
    by_cases hy : q y = true ∧ p y = false
    · rw [if_pos hy.1, if_neg (by simp [hy.2])]; omega
    · obtain ⟨a, ha, hq, hp⟩ := hx
      have ha' : a ∈ D := by
        rcases List.mem_cons.1 ha with rfl | h
        · exact absurd ⟨hq, hp⟩ hy
        · exact h
      have := ih (fun x hx => h x (List.mem_cons_of_mem _ hx)) ⟨a, ha', hq, hp⟩
      by_cases hpy : p y = true
      · rw [if_pos hpy, if_pos (h y List.mem_cons_self hpy)]; omega
      · rw [if_neg hpy]; split <;> omega
theorem countP_one {D : List Int} (hD : D.Nodup) {a : Int} (ha : a ∈ D) {p q : Int → Bool} (hp : p a = false) (hq : q a = true) (h : ∀ x ∈ D, x ≠ a → q x = p x) : D.countP q = D.countP p + 1 := by
  induction D with
  | nil => simp at ha
  | cons y D ih =>
    rw [List.nodup_cons] at hD
    rw [List.countP_cons, List.countP_cons]
    by_cases hy : y = a
    · subst hy
      rw [if_pos hq, if_neg (by simp [hp])]
      have : D.countP q = D.countP p := List.countP_congr fun x hx => by
        rw [h x (List.mem_cons_of_mem _ hx) (fun e => hD.1 (e ▸ hx))]
      omega
    · have ha' : a ∈ D := by
        rcases List.mem_cons.1 ha with h | h
        · exact absurd h.symm hy
        · exact h
      have := ih hD.2 ha' (fun x hx => h x (List.mem_cons_of_mem _ hx))
      rw [h y List.mem_cons_self hy]
      omega
theorem exists_max (n : Nat) (P : Nat → Prop) (f : Nat → Nat) (h : ∃ j, j < n ∧ P j) : ∃ j, j < n ∧ P j ∧ ∀ m, m < n → P m → f m ≤ f j := by
  induction n with
  | zero => obtain ⟨j, hj, _⟩ := h; omega
  | succ n ih =>
    by_cases h2 : ∃ j, j < n ∧ P j
    · obtain ⟨j, hj, hp, hm⟩ := ih h2
      by_cases hn : P n ∧ f j < f n
      · exact ⟨n, by omega, hn.1, fun m hm1 hm2 => by
          rcases Nat.lt_or_ge m n with h | h
          · have := hm m h hm2; omega
          · obtain rfl : m = n := by omega
            omega⟩
      · refine ⟨j, by omega, hp, fun m hm1 hm2 => ?_⟩
        rcases Nat.lt_or_ge m n with h | h
        · exact hm m h hm2
        · obtain rfl : m = n := by omega
          exact Nat.le_of_not_lt fun h => hn ⟨hm2, h⟩
    · obtain ⟨j, hj, hp⟩ := h
      have : j = n := by
        rcases Nat.lt_or_ge j n with h | h
        · exact absurd ⟨j, h, hp⟩ h2
        · omega
      subst this
      refine ⟨j, hj, hp, fun m hm1 hm2 => ?_⟩
      rcases Nat.lt_or_ge m j with h | h
      · exact absurd ⟨m, h, hm2⟩ h2
      · rw [show m = j by omega]; exact Nat.le_refl _
theorem foldl_most {f : Int → Int} {v : Int} : ∀ (l : List Int) (m : Int), m ≤ v → (∀ x ∈ l, f x ≤ v) → (m = v ∨ ∃ x ∈ l, f x = v) → l.foldl (fun m x => max m (f x)) m = v
  | [], m, _, _, h => by rcases h with h | ⟨x, hx, _⟩ <;> simp_all
  | y :: l, m, h1, h2, h3 => by
    rw [List.foldl_cons]
    have hy := h2 y List.mem_cons_self
    refine foldl_most l _ (by omega) (fun x hx => h2 x (List.mem_cons_of_mem _ hx)) ?_
    rcases h3 with h | ⟨x, hx, h⟩
    · left; omega
    · rcases List.mem_cons.1 hx with rfl | hx
      · left; omega
      · right; exact ⟨x, hx, h⟩
/-- a set that is a smaller one -/
def below1 (x s : Int) : Bool := decide (s ≠ x ∧ andN s x = 0)
/-- how many of the sets are smaller ones -/
def lvc (L : List Int) (i : Nat) : Nat := (dif (dns L)).countP (below1 (dn L i))
theorem dif_nodup (l : List Int) : (dif l).Nodup := List.Pairwise.imp (fun h e => by omega) (dif_sorted l)
theorem mem_difs {L : List Int} {x : Int} : x ∈ dif (dns L) ↔ ∃ i, i < L.length ∧ dn L i = x := by rw [mem_dif, mem_dns]
theorem lvc_less {n : Int} {L : List Int} (h : orderP n L) {i j : Nat} (hi : i < L.length) (hj : j < L.length) (hji : lt L j i = true) : lvc L j + 1 ≤ lvc L i := by
  have ho := ord_lt h
  have hne : dn L j ≠ dn L i := fun e => by
    have := ((dn_eq h.1 i j).1 e).2 j hj hji
    rw [h.irr hj] at this; cases this
  have hsub : ∀ x, x < L.length → lt L x j = true → lt L x i = true := fun x hx hxj => h.trans hx hxj hji
  refine countP_more (fun s hs hp => ?_) ⟨dn L j, mem_difs.2 ⟨j, hj, rfl⟩, ?_, ?_⟩
  · obtain ⟨m, hm, rfl⟩ := mem_difs.1 hs
    unfold below1 at hp ⊢
    rw [decide_eq_true_iff] at hp ⊢
    have h2 := (dn_sub h.1 j m).1 hp.2
    refine ⟨fun e => ?_, (dn_sub h.1 i m).2 fun x hx hxm => hsub x hx (h2 x hx hxm)⟩
    have := h2 j hj (((dn_eq h.1 i m).1 e).2 j hj hji)
    rw [h.irr hj] at this; cases this
  · unfold below1; rw [decide_eq_true_iff]; exact ⟨hne, (dn_sub h.1 i j).2 hsub⟩
  · unfold below1; simp
theorem lvc_step {n : Int} {L : List Int} (h : orderP n L) (h21 : No21 L.length (lt L)) {i : Nat} (hi : i < L.length) (hx : ∃ j, j < L.length ∧ lt L j i = true) : ∃ j, j < L.length ∧ lt L j i = true ∧ lvc L i = lvc L j + 1 := by
  have ho := ord_lt h
  obtain ⟨j, hj, hji, hmax⟩ := exists_max L.length (fun j => lt L j i = true) (lvc L) hx
  refine ⟨j, hj, hji, countP_one (dif_nodup _) (mem_difs.2 ⟨j, hj, rfl⟩) (by unfold below1; simp) ?_ fun s hs hsj => ?_⟩
  · unfold below1; rw [decide_eq_true_iff]
    refine ⟨fun e => ?_, (dn_sub h.1 i j).2 fun x hx hxj => h.trans hx hxj hji⟩
    have := ((dn_eq h.1 i j).1 e).2 j hj hji
    rw [h.irr hj] at this; cases this
  · obtain ⟨m, hm, rfl⟩ := mem_difs.1 hs
    unfold below1
    rw [Bool.eq_iff_iff, decide_eq_true_iff, decide_eq_true_iff]
    constructor
    · rintro ⟨h1, h2⟩
      refine ⟨hsj, (dn_sub h.1 j m).2 ?_⟩
      have h2' := (dn_sub h.1 i m).1 h2
      have hmi : lt L m i = true := by
        refine (weak_below ho h21 hi hm).2 ⟨h2', Classical.byContradiction fun hn => h1 ((dn_eq h.1 i m).2 ⟨h2', fun x hx hxi => ?_⟩)⟩
        cases hb : lt L x m
        · exact (hn ⟨x, hx, hxi, hb⟩).elim
        · rfl
      rcases weak_nested ho h21 (i := j) (j := m) hj hm with h3 | h3
      · exact h3
      · refine Classical.byContradiction fun hn => ?_
        have hjm : lt L j m = true := by
          refine (weak_below ho h21 hm hj).2 ⟨h3, Classical.byContradiction fun hn2 => hn fun x hx hxm => ?_⟩
          cases hb : lt L x j
          · exact (hn2 ⟨x, hx, hxm, hb⟩).elim
          · rfl
        have := lvc_less h hm hj hjm
        have := hmax m hm hmi
        omega
    · rintro ⟨h1, h2⟩
      have h2' := (dn_sub h.1 j m).1 h2
      refine ⟨fun e => ?_, (dn_sub h.1 i m).2 fun x hx hxm => h.trans hx (h2' x hx hxm) hji⟩
      have := h2' j hj (((dn_eq h.1 i m).1 e).2 j hj hji)
      rw [h.irr hj] at this; cases this
theorem lvc_none {n : Int} {L : List Int} (h : orderP n L) {i : Nat} (hx : ∀ j, j < L.length → lt L j i = false) : lvc L i = 0 := by
  unfold lvc
  rw [List.countP_eq_zero]
  intro s hs hp
  obtain ⟨m, hm, rfl⟩ := mem_difs.1 hs
  unfold below1 at hp
  rw [decide_eq_true_iff] at hp
  refine hp.1 ((dn_eq h.1 i m).2 ⟨(dn_sub h.1 i m).1 hp.2, fun x hx2 hxi => ?_⟩)
  rw [hx x hx2] at hxi; cases hxi
theorem lvc_le (L : List Int) (i : Nat) : lvc L i ≤ L.length := by
  have h1 := List.countP_le_length (p := below1 (dn L i)) (l := dif (dns L))
  have h2 := dif_length (dns L)
  rw [dns_length] at h2
  unfold lvc; omega
/-- the height that the fold tells -/
theorem height_fold {n : Int} {L : List Int} (h : orderP n L) (h21 : No21 L.length (lt L)) {i : Nat} (hi : i < L.length) : (bitsOf (dn L i)).foldl (fun m x => max m (1 + (lvc L x.toNat : Int))) 0 = lvc L i := by
  have hb := (dn_set h.1 i).2
  have hmem : ∀ x ∈ bitsOf (dn L i), ∃ j : Nat, j < L.length ∧ x = j ∧ lt L j i = true := fun x hx => by
    obtain ⟨j, hj, hbj, rfl⟩ := mem_bitsOf.1 hx
    rw [hb] at hbj; simp at hbj
    exact ⟨j, hbj.1, rfl, hbj.2⟩
  refine foldl_most (f := fun x => 1 + (lvc L x.toNat : Int)) (v := (lvc L i : Int)) _ _ (by omega) (fun x hx => ?_) ?_
  · obtain ⟨j, hj, rfl, hji⟩ := hmem x hx
    have := lvc_less h hi hj hji
    show 1 + (lvc L (j : Int).toNat : Int) ≤ lvc L i
    rw [Int.toNat_natCast]; omega
  · by_cases hx : ∃ j, j < L.length ∧ lt L j i = true
    · obtain ⟨j, hj, hji, e⟩ := lvc_step h h21 hi hx
      have h10 : L.length ≤ 10 := by have := h.1.1; have := h.1.2.1; omega
      refine .inr ⟨(j : Int), mem_bitsOf.2 ⟨j, by omega, by rw [hb]; simp [hj, hji], rfl⟩, ?_⟩
      show 1 + (lvc L (j : Int).toNat : Int) = lvc L i
      rw [Int.toNat_natCast]; omega
    · left
      rw [lvc_none h fun j hj => by
        cases hc : lt L j i
        · rfl
        · exact (hx ⟨j, hj, hc⟩).elim]
      rfl

end Go.Proofs.YtjahodklmegglaaDoor.Pure

namespace Go.Proofs.YtjahodklmegglaaDoor.Pure
open Go.RowKit Go.Proofs.YtjahodklmegglaaDoor.Q Go.Proofs.YtjahodklmegglaaDoorW.PrintWords Go.Proofs.YtjahodklmegglaaDoorW.PrintLast
set_option linter.unusedVariables false
set_option linter.unusedSimpArgs false

/-- the levels that the rows of what is below tell -/
def lvs (L : List Int) : List Int := (dns L).map fun x => ((dif (dns L)).countP (below1 x) : Int)
theorem lvs_eq (L : List Int) : lvs L = (List.range L.length).map fun i => (lvc L i : Int) := by
  unfold lvs lvc
  generalize dif (dns L) = D
  unfold dns rel
  rw [List.map_map]
  rfl
theorem lvs_length (L : List Int) : (lvs L).length = L.length := by rw [lvs_eq]; simp
theorem levels_in (x : Int) (x3 D M : List Int) (i : Nat) (hD : D.length ≤ 1000) (h3 : x3.length ≤ 1000) (R : List Int) (hR : Ev (fun k => impl_Order_levels.l0 k (x3 ++ [(D.countP (below1 x) : Int)]) D M (M.length : Int) ((i + 1 : Nat) : Int)) R) (hi : i < 1000) (d : Nat) :
    ∀ q : Nat, q + d = D.length → Ev (fun k => impl_Order_levels.l1 k x3 D x ((D.take q).countP (below1 x) : Int) M (M.length : Int) (i : Int) D (D.length : Int) (q : Int)) R := by
  induction d with
  | zero =>
    intro q hq
    refine Ev.shift ?_
    simp only [impl_Order_levels.l1]
    refine Ev.neg (by omega) (Ev.pos (by omega) ?_)
    rw [wrap64_id (by omega) (by omega), cast1, List.take_of_length_le (by omega)]
    exact hR
  | succ d ih =>
    intro q hq
    have hc := List.countP_le_length (p := below1 x) (l := D.take q)
    have hl : (D.take q).length ≤ q := by simp; omega
    have hn : (D.take (q + 1)).countP (below1 x) = (D.take q).countP (below1 x) + if below1 x (rd D (q : Int)) = true then 1 else 0 := by
      rw [List.take_succ_eq_append_getElem (show q < D.length by omega), List.countP_append, List.countP_singleton, rd_lt D q (by omega)]
    have hb : below1 x (rd D (q : Int)) = decide (rd D (q : Int) ≠ x ∧ Go.bits .andNot .i64 (rd D (q : Int)) x = 0) := rfl
    refine Ev.shift ?_
    simp only [impl_Order_levels.l1]
    refine Ev.pos (by omega) (Ev.pos (by omega) (Ev.pos (by omega) ?_))
    rw [wrap64_id (x := (q : Int) + 1) (by omega) (by omega), wrap64_id (x := ((D.take q).countP (below1 x) : Int) + 1) (by omega) (by omega), cast1]
    have := ih (q + 1) (by omega)
    rw [hn, hb] at this
    by_cases h1 : rd D (q : Int) = x
    · rw [if_neg (by simp [h1])] at this
      exact Ev.pos h1 this
    · refine Ev.neg h1 ?_
      by_cases h2 : Go.bits .andNot .i64 (rd D (q : Int)) x = 0
      · rw [if_pos (by simp [h1, h2])] at this
        rw [cast1]
        exact Ev.pos h2 this
      · rw [if_neg (by simp [h2])] at this
        exact Ev.neg h2 this
theorem levels_out (M D : List Int) (hD : D.length ≤ 1000) (hM : M.length ≤ 1000) (d : Nat) : ∀ i : Nat, i + d = M.length →
    Ev (fun k => impl_Order_levels.l0 k ((M.take i).map fun x => (D.countP (below1 x) : Int)) D M (M.length : Int) (i : Int)) (M.map fun x => (D.countP (below1 x) : Int)) := by
  induction d with
  | zero =>
    intro i hi
    refine Ev.shift ?_
    simp only [impl_Order_levels.l0]
    exact Ev.neg (by omega) (Ev.ret (by rw [List.take_of_length_le (by omega)]))
  | succ d ih =>
    intro i hi
    refine Ev.shift ?_
    simp only [impl_Order_levels.l0]
    refine Ev.pos (by omega) (Ev.pos (by omega) (Ev.pos (by omega) ?_))
    have := levels_in (rd M (i : Int)) ((M.take i).map fun x => (D.countP (below1 x) : Int)) D M i hD (by simp; omega) (M.map fun x => (D.countP (below1 x) : Int)) (by
      have := ih (i + 1) (by omega)
      rw [List.take_succ_eq_append_getElem (show i < M.length by omega), List.map_append, List.map_singleton, ← rd_lt M i (by omega)] at this
      exact this) (by omega) D.length 0 (by omega)
    simpa using this
theorem olevels_ev {n : Int} {L : List Int} (h : relP n L) : Ev (fun k => impl_Order_levels.f k n L) (lvs L) := by
  have h10 : L.length ≤ 10 := by have := h.1; have := h.2.1; omega
  have e1 := dns_length L
  have e2 := dif_length (dns L)
  unfold impl_Order_levels.f
  refine Ev.bind (mirror_ev h : Ev _ (n, dns L)) (Ev.bindc (different_f (dns L) (by omega)) ?_)
  have := levels_out (dns L) (dif (dns L)) (by omega) (by omega) (dns L).length 0 (by omega)
  have h2 : Ev (fun k => impl_Order_levels.l0 k [] (dif (dns L)) (dns L) ((dns L).length : Int) 0) (lvs L) := by
    unfold lvs; simpa using this
  exact h2

end Go.Proofs.YtjahodklmegglaaDoor.Pure
