namespace Go.Proofs.YtjahodklmegglaaDoor.Pure
set_option linter.unusedVariables false
set_option linter.unusedSimpArgs false

-- plain
/-! orders as relations on the numbers below n: traces of semiorders, heights in weak orders -/
theorem cnt_le {n : Nat} {p q : Nat → Bool} (h : ∀ x, x < n → p x = true → q x = true) : (List.range n).countP p ≤ (List.range n).countP q := by
  induction n with
  | zero => simp
  | succ n ih =>
    have h1 := ih (fun x hx => h x (by omega))
    have h2 := h n (by omega)
    rw [List.range_succ, List.countP_append, List.countP_append, List.countP_singleton, List.countP_singleton]
    by_cases hp : p n = true
    · rw [if_pos hp, if_pos (h2 hp)]; omega
    · rw [if_neg hp]; split <;> omega
theorem cnt_lt {n : Nat} {p q : Nat → Bool} (h : ∀ x, x < n → p x = true → q x = true) (hx : ∃ x, x < n ∧ q x = true ∧ p x = false) : (List.range n).countP p < (List.range n).countP q := by
  induction n with
  | zero => obtain ⟨x, hx, _⟩ := hx; omega
  | succ n ih =>
    have h1 := cnt_le (n := n) (fun x hx => h x (by omega))
    have h2 := h n (by omega)
    rw [List.range_succ, List.countP_append, List.countP_append, List.countP_singleton, List.countP_singleton]
    by_cases hn : q n = true ∧ p n = false
    · rw [if_pos hn.1, if_neg (by simp [hn.2])]; omega
    · obtain ⟨x, hx, hq, hp⟩ := hx
      have hxn : x < n := by
        rcases Nat.lt_or_ge x n with h | h
        · exact h
        · obtain rfl : x = n := by omega
          exact absurd ⟨hq, hp⟩ hn
      have := ih (fun x hx => h x (by omega)) ⟨x, hxn, hq, hp⟩
      by_cases hpn : p n = true
      · rw [if_pos hpn, if_pos (h2 hpn)]; omega
      · rw [if_neg hpn]; split <;> omega
/-- an order on the numbers below n -/
structure Ord (n : Nat) (r : Nat → Nat → Bool) : Prop where
  irr : ∀ i, i < n → r i i = false
  trans : ∀ i j m, i < n → j < n → m < n → r i j = true → r j m = true → r i m = true
section
variable {n : Nat} {r : Nat → Nat → Bool}
theorem Ord.asym (h : Ord n r) {i j : Nat} (hi : i < n) (hj : j < n) (h1 : r i j = true) : r j i = false := by
  cases hb : r j i
  · rfl
  · have := h.trans i j i hi hj hi h1 hb; rw [h.irr i hi] at this; cases this
/-- two pairs that refuse -/
def No22 (n : Nat) (r : Nat → Nat → Bool) : Prop := ∀ a b c d, a < n → b < n → c < n → d < n → r a b = true → r c d = true → r c b = false → r a d = false → False
/-- a chain of three and one that is indifferent to all -/
def No31 (n : Nat) (r : Nat → Nat → Bool) : Prop := ∀ a b c d, a < n → b < n → c < n → d < n → r a b = true → r b c = true → r a d = false → r d a = false → d ≠ a → r b d = false → r d b = false → d ≠ b → r c d = false → r d c = false → d ≠ c → False
/-- an element above another one, and one indifferent to both -/
def No21 (n : Nat) (r : Nat → Nat → Bool) : Prop := ∀ a b c, a < n → b < n → c < n → r a b = true → r a c = false → r c a = false → c ≠ a → r b c = false → r c b = false → c ≠ b → False
def trR (n : Nat) (r : Nat → Nat → Bool) (i j : Nat) : Prop := (∃ x, x < n ∧ r x j = true ∧ r x i = false) ∨ (∃ y, y < n ∧ r i y = true ∧ r j y = false)
def num (n : Nat) (r : Nat → Nat → Bool) (i : Nat) : Int := ((List.range n).countP (fun x => r x i) : Int) - ((List.range n).countP (fun y => r i y) : Int)
theorem below_nested (h22 : No22 n r) {i j x : Nat} (hi : i < n) (hj : j < n) (hx : x < n) (h1 : r x j = true) (h2 : r x i = false) : ∀ z, z < n → r z i = true → r z j = true := by
  intro z hz hzi
  cases hb : r z j
  · exact (h22 x j z i hx hj hz hi h1 hzi hb h2).elim
  · rfl
theorem above_nested (h22 : No22 n r) {i j y : Nat} (hi : i < n) (hj : j < n) (hy : y < n) (h1 : r i y = true) (h2 : r j y = false) : ∀ z, z < n → r j z = true → r i z = true := by
  intro z hz hjz
  cases hb : r i z
  · exact (h22 i y j z hi hy hj hz h1 hjz h2 hb).elim
  · rfl
/-- more below, and more above: not both -/
theorem not_both (h : Ord n r) (h31 : No31 n r) {i j x y : Nat} (hi : i < n) (hj : j < n) (hx : x < n) (hy : y < n) (h1 : r x j = true) (h2 : r x i = false) (h3 : r j y = true) (h4 : r i y = false) : False := by
  have a1 : r i x = false := by
    cases hb : r i x
    · rfl
    · have := h.trans i x y hi hx hy hb (h.trans x j y hx hj hy h1 h3); rw [h4] at this; cases this
  have a2 : r i j = false := by
    cases hb : r i j
    · rfl
    · have := h.trans i j y hi hj hy hb h3; rw [h4] at this; cases this
  have a3 : r j i = false := by
    cases hb : r j i
    · rfl
    · have := h.trans x j i hx hj hi h1 hb; rw [h2] at this; cases this
  have a4 : r y i = false := by
    cases hb : r y i
    · rfl
    · have := h.trans x y i hx hy hi (h.trans x j y hx hj hy h1 h3) hb; rw [h2] at this; cases this
  refine h31 x j y i hx hj hy hi h1 h3 h2 a1 ?_ a3 a2 ?_ a4 h4 ?_
  · rintro rfl; rw [h.trans i j y hi hj hy h1 h3] at h4; cases h4
  · rintro rfl; rw [h1] at h2; cases h2
  · rintro rfl; rw [h.trans x j i hx hj hi h1 h3] at h2; cases h2
theorem trR_num (h : Ord n r) (h22 : No22 n r) (h31 : No31 n r) {i j : Nat} (hi : i < n) (hj : j < n) : trR n r i j ↔ num n r i < num n r j := by
  unfold num
  constructor
  · rintro (⟨x, hx, h1, h2⟩ | ⟨y, hy, h1, h2⟩)
    · have c1 := cnt_lt (n := n) (p := fun x => r x i) (q := fun x => r x j) (below_nested h22 hi hj hx h1 h2) ⟨x, hx, h1, h2⟩
      have c2 := cnt_le (n := n) (p := fun y => r j y) (q := fun y => r i y) (fun z hz hjz => by
        cases hb : r i z
        · exact (not_both h h31 hi hj hx hz h1 h2 hjz hb).elim
        · rfl)
      omega
    · have c1 := cnt_lt (n := n) (p := fun y => r j y) (q := fun y => r i y) (above_nested h22 hi hj hy h1 h2) ⟨y, hy, h1, h2⟩
      have c2 := cnt_le (n := n) (p := fun x => r x i) (q := fun x => r x j) (fun z hz hzi => by
        cases hb : r z j
        · exact (not_both h h31 hj hi hz hy hzi hb h1 h2).elim
        · rfl)
      omega
  · intro hlt
    refine Classical.byContradiction fun hn => ?_
    have c1 := cnt_le (n := n) (p := fun x => r x j) (q := fun x => r x i) (fun z hz h1 => by
      cases hb : r z i
      · exact (hn (.inl ⟨z, hz, h1, hb⟩)).elim
      · rfl)
    have c2 := cnt_le (n := n) (p := fun y => r i y) (q := fun y => r j y) (fun z hz h1 => by
      cases hb : r j z
      · exact (hn (.inr ⟨z, hz, h1, hb⟩)).elim
      · rfl)
    omega
/-- in a weak order what is below decides -/
theorem weak_below (h : Ord n r) (h21 : No21 n r) {i j : Nat} (hi : i < n) (hj : j < n) : r j i = true ↔ (∀ x, x < n → r x j = true → r x i = true) ∧ ∃ x, x < n ∧ r x i = true ∧ r x j = false := by
  constructor
  · intro hji
    exact ⟨fun x hx hxj => h.trans x j i hx hj hi hxj hji, j, hj, hji, h.irr j hj⟩
  · rintro ⟨h1, x, hx, hxi, hxj⟩
    cases hb : r j i
    · have a1 : r i j = false := by
        cases hc : r i j
        · rfl
        · have := h1 i hi hc; rw [h.irr i hi] at this; cases this
      have a2 : r j x = false := by
        cases hc : r j x
        · rfl
        · have := h.trans j x i hj hx hi hc hxi; rw [hb] at this; cases this
      refine (h21 x i j hx hi hj hxi hxj a2 ?_ a1 hb ?_).elim
      · rintro rfl; rw [hxi] at hb; cases hb
      · rintro rfl; rw [hxi] at hxj; cases hxj
    · rfl
/-- as many are below: the same are below, in a weak order -/
theorem weak_nested (h : Ord n r) (h21 : No21 n r) {i j : Nat} (hi : i < n) (hj : j < n) : (∀ x, x < n → r x j = true → r x i = true) ∨ (∀ x, x < n → r x i = true → r x j = true) := by
  refine Classical.or_iff_not_imp_left.2 fun hn => ?_
  have ⟨x, hx⟩ := Classical.not_forall.1 hn
  have ⟨hx, hx2⟩ := Classical.not_imp.1 hx
  have ⟨hxj, hxi⟩ := Classical.not_imp.1 hx2
  have hxi : r x i = false := by simpa using hxi
  intro z hz hzi
  cases hzj : r z j
  · -- x below j and not i; z below i and not j
    have a1 : r i j = false := by
      cases hc : r i j
      · rfl
      · have := h.trans z i j hz hi hj hzi hc; rw [hzj] at this; cases this
    have a2 : r j i = false := by
      cases hc : r j i
      · rfl
      · have := h.trans x j i hx hj hi hxj hc; rw [hxi] at this; cases this
    have a3 : r i x = false := by
      cases hc : r i x
      · rfl
      · have := h.trans i x j hi hx hj hc hxj; rw [a1] at this; cases this
    refine (h21 x j i hx hj hi hxj hxi a3 ?_ a2 a1 ?_).elim
    · rintro rfl; rw [hxj] at a1; cases a1
    · rintro rfl; rw [hzi] at hzj; cases hzj
  · rfl
end

end Go.Proofs.YtjahodklmegglaaDoor.Pure
