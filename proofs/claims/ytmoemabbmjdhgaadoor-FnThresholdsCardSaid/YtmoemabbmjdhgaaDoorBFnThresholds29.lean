import Derived.Test.YtmoemabbmjdhgaaDoorBFnThresholds28
namespace Go.Proofs.YtmoemabbmjdhgaaDoor.Pure
open Go.RowKit Go.Proofs.YtmoemabbmjdhgaaDoor.Q Go.Proofs.YtmoemabbmjdhgaaDoorW.PrintWords Go.Proofs.YtmoemabbmjdhgaaDoorW.PrintLast
set_option linter.unusedVariables false
set_option linter.unusedSimpArgs false
-- rounds of demands: places that only rise, and stand still once all demands are met
def updF (p : Nat → Int) (j : Nat) (v : Int) : Nat → Int := fun i => if i = j then v else p i
def stepF (dem : Nat → Nat → Option Int) (p : Nat → Int) (j i : Nat) : Nat → Int := (dem i j).elim p fun w => if p j < p i + w then updF p j (p i + w) else p
def rowF (dem : Nat → Nat → Option Int) (p : Nat → Int) (j : Nat) : Nat → (Nat → Int)
 | 0 => p
 | i + 1 => stepF dem (rowF dem p j i) j i
def roundF (dem : Nat → Nat → Option Int) (n : Nat) (p : Nat → Int) : Nat → (Nat → Int)
 | 0 => p
 | j + 1 => rowF dem (roundF dem n p j) j n
def solF (dem : Nat → Nat → Option Int) (n : Nat) (q : Nat → Int) : Prop := (∀ x, x < n → 0 ≤ q x) ∧ ∀ i j w, i < n → j < n → dem i j = some w → q i + w ≤ q j
section
variable {dem : Nat → Nat → Option Int} {n : Nat} {p q : Nat → Int} {i j x : Nat} {w : Int}
theorem stepF_ge : p x ≤ stepF dem p j i x := by
 unfold stepF updF
 cases dem i j with
 | none => exact Int.le_refl _
 | some w =>
  simp only [Option.elim_some]
  split
  ·rename_i h
   by_cases e : x = j
   ·subst e; simp only [if_true]; omega
   ·simp only [if_neg e]; exact Int.le_refl _
  ·exact Int.le_refl _
theorem stepF_far (h : x ≠ j) : stepF dem p j i x = p x := by
 unfold stepF updF
 cases dem i j with
 | none => rfl
 | some w =>
  simp only [Option.elim_some]
  split
  ·exact if_neg h
  ·rfl
theorem stepF_le (hq : solF dem n q) (hi : i < n) (hj : j < n) (h : ∀ y, y < n → p y ≤ q y) (hx : x < n) : stepF dem p j i x ≤ q x := by
 unfold stepF updF
 cases hd : dem i j with
 | none => exact h x hx
 | some w =>
  simp only [Option.elim_some]
  split
  ·by_cases e : x = j
   ·subst e
    have := hq.2 i x w hi hx hd
    have := h i hi
    simp only [if_true]; omega
   ·simp only [if_neg e]; exact h x hx
  ·exact h x hx
theorem stepF_met (hd : dem i j = some w) : p i + w ≤ stepF dem p j i j := by
 unfold stepF updF
 rw [hd]
 simp only [Option.elim_some]
 split
 ·simp only [if_true]; omega
 ·omega
theorem rowF_ge : ∀ m, p x ≤ rowF dem p j m x
 | 0 => Int.le_refl _
 | m + 1 => Int.le_trans (rowF_ge m) stepF_ge
theorem rowF_far (h : x ≠ j) : ∀ m, rowF dem p j m x = p x
 | 0 => rfl
 | m + 1 => by unfold rowF; rw [stepF_far h, rowF_far h m]
theorem rowF_le (hq : solF dem n q) (hj : j < n) (h : ∀ y, y < n → p y ≤ q y) : ∀ m, m ≤ n → ∀ y, y < n → rowF dem p j m y ≤ q y
 | 0, _ => h
 | m + 1, hm => fun y hy => stepF_le hq (by omega) hj (rowF_le hq hj h m (by omega)) hy
theorem rowF_up {m m' : Nat} (h : m ≤ m') : rowF dem p j m x ≤ rowF dem p j m' x := by
 induction m' with
 | zero => rw [show m = 0 by omega]; exact Int.le_refl _
 | succ m' ih =>
  by_cases e : m = m' + 1
  ·rw [e]; exact Int.le_refl _
  ·exact Int.le_trans (ih (by omega)) stepF_ge
theorem rowF_met (hd : dem i j = some w) (hi : i < n) (hij : i ≠ j) : p i + w ≤ rowF dem p j n j := by
 have h1 : p i + w ≤ rowF dem p j (i + 1) j := by
  have := stepF_met (p := rowF dem p j i) hd
  rw [rowF_far hij] at this
  exact this
 exact Int.le_trans h1 (rowF_up (by omega))
theorem roundF_up {m m' : Nat} (h : m ≤ m') : roundF dem n p m x ≤ roundF dem n p m' x := by
 induction m' with
 | zero => rw [show m = 0 by omega]; exact Int.le_refl _
 | succ m' ih =>
  by_cases e : m = m' + 1
  ·rw [e]; exact Int.le_refl _
  ·exact Int.le_trans (ih (by omega)) (rowF_ge n)
theorem roundF_ge (m : Nat) : p x ≤ roundF dem n p m x := roundF_up (Nat.zero_le m)
theorem roundF_le (hq : solF dem n q) (h : ∀ y, y < n → p y ≤ q y) : ∀ m, m ≤ n → ∀ y, y < n → roundF dem n p m y ≤ q y
 | 0, _ => h
 | m + 1, hm => rowF_le hq (by omega) (roundF_le hq h m (by omega)) n (Nat.le_refl _)
theorem roundF_met (hd : dem i j = some w) (hi : i < n) (hj : j < n) (hij : i ≠ j) : p i + w ≤ roundF dem n p n j := by
 have h1 : roundF dem n p j i + w ≤ roundF dem n p (j + 1) j := rowF_met hd hi hij
 have h2 : p i ≤ roundF dem n p j i := roundF_ge j
 have h3 : roundF dem n p (j + 1) j ≤ roundF dem n p n j := roundF_up (by omega)
 omega
theorem roundF_still (hirr : ∀ i, dem i i = none) (h0 : ∀ x, x < n → 0 ≤ p x) (h : ∀ x, x < n → roundF dem n p n x = p x) : solF dem n p := by
 refine ⟨h0, fun i j w hi hj hd => ?_⟩
 have hij : i ≠ j := fun e => by subst e; rw [hirr] at hd; cases hd
 have := roundF_met (p := p) hd hi hj hij
 rw [h j hj] at this
 exact this
def restF (p q : Nat → Int) : Nat → Nat
 | 0 => 0
 | x + 1 => restF p q x + if p x = q x then 1 else 0
def sumF (q : Nat → Int) : Nat → Int
 | 0 => 0
 | x + 1 => sumF q x + q x
theorem restF_le : ∀ m, restF p q m ≤ m
 | 0 => Nat.le_refl _
 | m + 1 => by unfold restF; have := restF_le m; split <;> omega
theorem restF_all : ∀ m, m ≤ restF p q m → ∀ x, x < m → p x = q x
 | 0, _, x, hx => by omega
 | m + 1, h, x, hx => by
  unfold restF at h
  have h1 : restF p q m ≤ m := restF_le m
  split at h
  ·by_cases e : x = m
   ·rw [e]; assumption
   ·exact restF_all m (by omega) x (by omega)
  ·omega
theorem restF_more {p' : Nat → Int} (h : ∀ x, x < n → p x = q x → p' x = q x) : ∀ m, m ≤ n → restF p q m ≤ restF p' q m ∧ (restF p' q m = restF p q m → ∀ x, x < m → p' x = q x → p x = q x)
 | 0, _ => ⟨Nat.le_refl _, fun _ x hx => by omega⟩
 | m + 1, hm => by
  obtain ⟨h1, h2⟩ := restF_more h m (by omega)
  unfold restF
  by_cases e : p m = q m
  ·have e' := h m (by omega) e
   rw [if_pos e, if_pos e']
   refine ⟨by omega, fun hh x hx hp => ?_⟩
   by_cases ex : x = m
   ·rw [ex]; exact e
   ·exact h2 (by omega) x (by omega) hp
  ·rw [if_neg e]
   by_cases e' : p' m = q m
   ·rw [if_pos e']
    exact ⟨by omega, fun hh => by omega⟩
   ·rw [if_neg e']
    refine ⟨by omega, fun hh x hx hp => ?_⟩
    by_cases ex : x = m
    ·rw [ex] at hp; exact absurd hp e'
    ·exact h2 (by omega) x (by omega) hp
theorem sumF_less {q' : Nat → Int} : ∀ m, (∀ x, x < m → q' x ≤ q x) → sumF q' m ≤ sumF q m ∧ ((∃ x, x < m ∧ q' x < q x) → sumF q' m < sumF q m)
 | 0, _ => ⟨Int.le_refl _, fun ⟨x, hx, _⟩ => by omega⟩
 | m + 1, h => by
  obtain ⟨h1, h2⟩ := sumF_less m (fun x hx => h x (by omega))
  have h3 := h m (by omega)
  unfold sumF
  refine ⟨by omega, fun ⟨x, hx, hl⟩ => ?_⟩
  by_cases e : x = m
  ·rw [e] at hl; omega
  ·have := h2 ⟨x, by omega, hl⟩; omega
theorem sumF_pos : ∀ m, (∀ x, x < m → 0 ≤ q x) → 0 ≤ sumF q m
 | 0, _ => Int.le_refl _
 | m + 1, h => by unfold sumF; have := sumF_pos m (fun x hx => h x (by omega)); have := h m (by omega); omega
theorem least_ex {α : Type} (P : α → Prop) (f : α → Nat) : ∀ (b : Nat) (a : α), P a → f a ≤ b → ∃ a, P a ∧ ∀ c, P c → f a ≤ f c
 | 0, a, h, hb => ⟨a, h, fun _ _ => by omega⟩
 | b + 1, a, h, hb => by
  by_cases hc : ∃ c, P c ∧ f c < f a
  ·obtain ⟨c, h1, h2⟩ := hc
   exact least_ex P f b c h1 (by omega)
  ·exact ⟨a, h, fun c hcp => Nat.le_of_not_lt fun hl => hc ⟨c, hcp, hl⟩⟩
theorem round_more (hirr : ∀ i, dem i i = none) (hq : solF dem n q) (hmin : ∀ q', solF dem n q' → sumF q n ≤ sumF q' n) (h0 : ∀ x, x < n → 0 ≤ p x) (hp : ∀ x, x < n → p x ≤ q x) (hl : restF p q n < n) : restF p q n < restF (roundF dem n p n) q n := by
 have hle := roundF_le hq hp n (Nat.le_refl _)
 have hge : ∀ x, p x ≤ roundF dem n p n x := fun x => roundF_ge n
 obtain ⟨h1, h2⟩ := restF_more (p := p) (q := q) (p' := roundF dem n p n) (n := n) (fun x hx e => by have := hle x hx; have := hge x; omega) n (Nat.le_refl _)
 refine Nat.lt_of_le_of_ne h1 fun e => ?_
 have hback := h2 e.symm
 have hsel : ∀ (c : Prop) [Decidable c] (a : Int), (if c then a else a - 1) ≤ a ∧ a - 1 ≤ if c then a else a - 1 := fun c _ a => by split <;> omega
 -- the places of those that do not rest, less one, are places, too
 have hs : solF dem n (fun x => if roundF dem n p n x = q x then q x else q x - 1) := by
  refine ⟨fun x hx => ?_, fun i j w hi hj hd => ?_⟩
  ·show 0 ≤ if roundF dem n p n x = q x then q x else q x - 1
   have := h0 x hx; have := hge x; have := hle x hx
   split <;> omega
  ·show (if roundF dem n p n i = q i then q i else q i - 1) + w ≤ if roundF dem n p n j = q j then q j else q j - 1
   have hd2 := hq.2 i j w hi hj hd
   by_cases ei : roundF dem n p n i = q i
   ·rw [if_pos ei]
    by_cases ej : roundF dem n p n j = q j
    ·rw [if_pos ej]; exact hd2
    ·rw [if_neg ej]
     have hij : i ≠ j := fun e => by subst e; rw [hirr] at hd; cases hd
     have := roundF_met (p := p) hd hi hj hij
     have := hback i hi ei
     have := hle j hj
     omega
   ·rw [if_neg ei]
    have := (hsel (roundF dem n p n j = q j) (q j)).2
    omega
 have h3 := hmin _ hs
 have h4 := (sumF_less (q := q) (q' := fun x => if roundF dem n p n x = q x then q x else q x - 1) n (fun x hx => by
  exact (hsel _ _).1)).2 (by
   refine Classical.byContradiction fun hno => ?_
   have : ∀ m, m ≤ n → restF (roundF dem n p n) q m = m := by
    intro m
    induction m with
    | zero => intro _; rfl
    | succ m ih =>
     intro hm
     unfold restF
     rw [ih (by omega), if_pos]
     refine Classical.byContradiction fun hc => hno ⟨m, by omega, ?_⟩
     show (if roundF dem n p n m = q m then q m else q m - 1) < q m
     rw [if_neg hc]; omega
   have := this n (Nat.le_refl _)
   omega)
 omega
def roundsF (dem : Nat → Nat → Option Int) (n : Nat) : Nat → (Nat → Int)
 | 0 => fun _ => 0
 | r + 1 => roundF dem n (roundsF dem n r) n
theorem roundsF_pos : ∀ r, 0 ≤ roundsF dem n r x
 | 0 => Int.le_refl _
 | r + 1 => Int.le_trans (roundsF_pos r) (roundF_ge n)
theorem roundsF_le (hq : solF dem n q) : ∀ r, ∀ y, y < n → roundsF dem n r y ≤ q y
 | 0 => fun y hy => hq.1 y hy
 | r + 1 => roundF_le hq (roundsF_le hq r) n (Nat.le_refl _)
theorem roundsF_rest (hirr : ∀ i, dem i i = none) (hq : solF dem n q) : ∀ x, x < n → roundF dem n (roundsF dem n n) n x = roundsF dem n n x := by
 obtain ⟨L, hL, hmin⟩ := least_ex (solF dem n) (fun q => (sumF q n).toNat) _ q hq (Nat.le_refl _)
 have hmin : ∀ q', solF dem n q' → sumF L n ≤ sumF q' n := fun q' h' => by
  have := hmin q' h'
  have := sumF_pos n hL.1
  have := sumF_pos n h'.1
  omega
 have hr : ∀ r, r ≤ n → r ≤ restF (roundsF dem n r) L n := by
  intro r
  induction r with
  | zero => intro _; omega
  | succ r ih =>
   intro hr
   have h1 := ih (by omega)
   by_cases e : restF (roundsF dem n r) L n < n
   ·have := round_more hirr hL hmin (fun x _ => roundsF_pos r) (roundsF_le hL r) e
    have e2 : restF (roundsF dem n (r + 1)) L n = restF (roundF dem n (roundsF dem n r) n) L n := rfl
    rw [e2]
    exact Nat.lt_of_le_of_lt h1 this
   ·have h2 : ∀ x, x < n → roundsF dem n r x = L x := restF_all n (by omega)
    have h3 := (restF_more (p := roundsF dem n r) (q := L) (p' := roundsF dem n (r + 1)) (n := n) (fun x hx ex => by
     have a := roundsF_le hL (r + 1) x hx
     have b : roundsF dem n r x ≤ roundsF dem n (r + 1) x := roundF_ge n
     omega) n (Nat.le_refl _)).1
    omega
 have hall := restF_all n (hr n (Nat.le_refl _))
 intro x hx
 have a := roundsF_le hL (n + 1) x hx
 have b : roundsF dem n n x ≤ roundsF dem n (n + 1) x := roundF_ge n
 have c := hall x hx
 show roundsF dem n (n + 1) x = _
 omega
theorem rowF_high {B T : Int} (hT0 : 0 ≤ T) (hT : ∀ i j w, dem i j = some w → w ≤ T) (hirr : ∀ i, dem i i = none) (hj : j < n) (h : ∀ y, y < n → p y ≤ B) : ∀ m, m ≤ n → ∀ y, y < n → rowF dem p j m y ≤ B + T
 | 0, _ => fun y hy => by have := h y hy; show p y ≤ _; omega
 | m + 1, hm => fun y hy => by
  have ih := rowF_high hT0 hT hirr hj h m (by omega)
  by_cases e : y = j
  ·subst e
   unfold rowF stepF updF
   cases hd : dem m y with
   | none => exact ih y hy
   | some w =>
    simp only [Option.elim_some]
    have hne : m ≠ y := fun e => by subst e; rw [hirr] at hd; cases hd
    split
    ·simp only [if_true]
     rw [rowF_far hne]
     have := h m (by omega)
     have := hT m y w hd
     omega
    ·exact ih y hy
  ·rw [rowF_far e]; have := h y hy; omega
theorem roundF_high {B T : Int} (hT0 : 0 ≤ T) (hT : ∀ i j w, dem i j = some w → w ≤ T) (hirr : ∀ i, dem i i = none) (h : ∀ y, y < n → p y ≤ B) : ∀ m : Nat, m ≤ n → ∀ y, y < n → roundF dem n p m y ≤ B + m * T
 | 0, _ => fun y hy => by have := h y hy; show p y ≤ _; simp; omega
 | m + 1, hm => fun y hy => by
  have := rowF_high hT0 hT hirr (show m < n by omega) (roundF_high hT0 hT hirr h m (by omega)) n (Nat.le_refl _) y hy
  show rowF dem (roundF dem n p m) m n y ≤ _
  rw [show ((m + 1 : Nat) : Int) * T = m * T + T by rw [Int.natCast_add, Int.add_mul]; simp]
  omega
theorem roundsF_high {T : Int} (hT0 : 0 ≤ T) (hT : ∀ i j w, dem i j = some w → w ≤ T) (hirr : ∀ i, dem i i = none) : ∀ r : Nat, ∀ y, y < n → roundsF dem n r y ≤ r * (n * T)
 | 0 => fun y hy => by simp [roundsF]
 | r + 1 => fun y hy => by
  have := roundF_high hT0 hT hirr (roundsF_high hT0 hT hirr r) n (Nat.le_refl _) y hy
  show roundF dem n (roundsF dem n r) n y ≤ _
  rw [show ((r + 1 : Nat) : Int) * (n * T) = r * (n * T) + n * T by rw [Int.natCast_add, Int.add_mul]; simp]
  exact this
end
-- a semiorder of n elements has places for the threshold n
noncomputable section
open Classical
noncomputable def cntF (P : Nat → Prop) : Nat → Nat
 | 0 => 0
 | k + 1 => cntF P k + if P k then 1 else 0
theorem cntF_sub {P Q : Nat → Prop} : ∀ N, (∀ k, k < N → P k → Q k) → cntF P N ≤ cntF Q N
 | 0, _ => Nat.le_refl _
 | N + 1, h => by
  have := cntF_sub N (fun k hk => h k (by omega))
  unfold cntF
  by_cases hp : P N
  ·rw [if_pos hp, if_pos (h N (by omega) hp)]; omega
  ·rw [if_neg hp]; omega
theorem cntF_shift {P Q : Nat → Prop} (h : ∀ k, P (k + 1) → Q k) : ∀ N, cntF P (N + 1) ≤ cntF Q N + 1
 | 0 => by unfold cntF cntF; split <;> omega
 | N + 1 => by
  have := cntF_shift h N
  unfold cntF
  by_cases hp : P (N + 1)
  ·rw [if_pos hp]
   rw [show (if Q N then 1 else 0) = 1 from if_pos (h N hp)]; omega
  ·rw [if_neg hp]; omega
theorem cntF_up {P Q : Nat → Prop} (h0 : Q 0) (h : ∀ k, P k → Q (k + 1)) : ∀ N, cntF P N + 1 ≤ cntF Q (N + 1)
 | 0 => by unfold cntF cntF; rw [if_pos h0]; omega
 | N + 1 => by
  have := cntF_up h0 h N
  have e : cntF Q (N + 1 + 1) = cntF Q (N + 1) + if Q (N + 1) then 1 else 0 := rfl
  rw [e]
  unfold cntF
  by_cases hp : P N
  ·rw [if_pos hp, if_pos (h N hp)]
   have e2 : cntF Q (N + 1) = cntF Q N + if Q N then 1 else 0 := rfl
   omega
  ·rw [if_neg hp]
   have e2 : cntF Q (N + 1) = cntF Q N + if Q N then 1 else 0 := rfl
   omega
theorem cntF_zero {P : Nat → Prop} : ∀ N, (∀ k, k < N → ¬ P k) → cntF P N = 0
 | 0, _ => rfl
 | N + 1, h => by unfold cntF; rw [cntF_zero N (fun k hk => h k (by omega)), if_neg (h N (by omega))]
theorem cntF_pos {P : Nat → Prop} (h : P 0) (N : Nat) : 1 ≤ cntF P (N + 1) := by
 have := cntF_up (P := fun _ => False) (Q := P) h (fun _ h => h.elim) N
 omega
theorem cntF_last {P : Nat → Prop} {N : Nat} (h : ¬ P N) : cntF P (N + 1) = cntF P N := by
 show cntF P N + (if P N then 1 else 0) = _
 rw [if_neg h]; rfl
theorem cntF_le {P : Nat → Prop} : ∀ N, cntF P N ≤ N
 | 0 => Nat.le_refl _
 | N + 1 => by unfold cntF; have := cntF_le (P := P) N; split <;> omega
end
def Ups (n : Nat) (r : Nat → Nat → Bool) (x : Nat) : Nat → Nat → Prop
 | 0, b => num n r x ≤ num n r b
 | k + 1, b => ∃ y, y < n ∧ Ups n r x k y ∧ r y b = true
noncomputable def mUp (n : Nat) (r : Nat → Nat → Bool) (N x b : Nat) : Int := (cntF (fun k => Ups n r x (k + 1) b) N : Int) - (cntF (fun k => num n r b < num n r x ∧ Ups n r b k x) N : Int)
section
variable {n : Nat} {r : Nat → Nat → Bool} {x b c a : Nat}
theorem num_below (ho : Ord n r) (h22 : No22 n r) (h31 : No31 n r) (hb : b < n) (hc : c < n) (hl : num n r b ≤ num n r c) {z : Nat} (hz : z < n) (h : r z b = true) : r z c = true := by
 cases hr : r z c
 ·have := (trR_num ho h22 h31 hc hb).1 (.inl ⟨z, hz, h, hr⟩); omega
 ·rfl
theorem num_above (ho : Ord n r) (h22 : No22 n r) (h31 : No31 n r) (hb : b < n) (hc : c < n) (hl : num n r b ≤ num n r c) {z : Nat} (hz : z < n) (h : r c z = true) : r b z = true := by
 cases hr : r b z
 ·have := (trR_num ho h22 h31 hc hb).1 (.inr ⟨z, hz, h, hr⟩); omega
 ·rfl
theorem num_lt (ho : Ord n r) (h22 : No22 n r) (h31 : No31 n r) (hb : b < n) (hc : c < n) (h : r b c = true) : num n r b < num n r c := (trR_num ho h22 h31 hb hc).1 (.inl ⟨b, hb, h, ho.irr b hb⟩)
theorem Ups_num (ho : Ord n r) (h22 : No22 n r) (h31 : No31 n r) : ∀ k b, b < n → Ups n r x k b → num n r x + k ≤ num n r b
 | 0, b, hb, h => by unfold Ups at h; simpa using h
 | k + 1, b, hb, h => by
  unfold Ups at h
  obtain ⟨y, hy, h1, h2⟩ := h
  have := Ups_num ho h22 h31 k y hy h1
  have := num_lt ho h22 h31 hy hb h2
  omega
theorem Ups_up (ho : Ord n r) (h22 : No22 n r) (h31 : No31 n r) (hb : b < n) (hc : c < n) (hl : num n r b ≤ num n r c) : ∀ k, Ups n r x k b → Ups n r x k c
 | 0, h => by unfold Ups at h ⊢; omega
 | k + 1, h => by
  unfold Ups at h ⊢
  obtain ⟨y, hy, h1, h2⟩ := h
  exact ⟨y, hy, h1, num_below ho h22 h31 hb hc hl hy h2⟩
theorem Ups_low (hl : num n r a ≤ num n r x) : ∀ k b, Ups n r x k b → Ups n r a k b
 | 0, b, h => by unfold Ups at h ⊢; omega
 | k + 1, b, h => by
  unfold Ups at h ⊢
  obtain ⟨y, hy, h1, h2⟩ := h
  exact ⟨y, hy, Ups_low hl k y h1, h2⟩
theorem Ups_down (ho : Ord n r) (h22 : No22 n r) (h31 : No31 n r) : ∀ k b, b < n → Ups n r x (k + 1) b → Ups n r x k b
 | 0, b, hb, h => by
  obtain ⟨y, hy, h1, h2⟩ := h
  have h1 : num n r x ≤ num n r y := h1
  have := num_lt ho h22 h31 hy hb h2
  show num n r x ≤ num n r b
  omega
 | k + 1, b, hb, h => by
  obtain ⟨y, hy, h1, h2⟩ := h
  exact ⟨y, hy, Ups_down ho h22 h31 k y hy h1, h2⟩
theorem Ups_one (ho : Ord n r) (h22 : No22 n r) (h31 : No31 n r) (hb : b < n) : ∀ k, Ups n r x (k + 1) b → Ups n r x 1 b
 | 0, h => h
 | k + 1, h => Ups_one ho h22 h31 hb k (Ups_down ho h22 h31 (k + 1) b hb h)
theorem Ups_left (ho : Ord n r) (h22 : No22 n r) (h31 : No31 n r) (ha : a < n) (hx : x < n) (h : r a x = true) : ∀ k b, b < n → Ups n r x k b → Ups n r a (k + 1) b
 | 0, b, hb, hu => ⟨a, ha, Int.le_refl _, num_below ho h22 h31 hx hb hu ha h⟩
 | k + 1, b, hb, hu => by
  obtain ⟨y, hy, h1, h2⟩ := hu
  exact ⟨y, hy, Ups_left ho h22 h31 ha hx h k y hy h1, h2⟩
theorem mUp_lt (ho : Ord n r) (h22 : No22 n r) (h31 : No31 n r) {N : Nat} (hN : ∀ i j, i < n → j < n → num n r j - num n r i < N) (hx : x < n) (hb : b < n) (hc : c < n) (h : r b c = true) : mUp n r (N + 1) x b + 1 ≤ mUp n r (N + 1) x c := by
 have hbc := num_lt ho h22 h31 hb hc h
 unfold mUp
 by_cases h1 : num n r x ≤ num n r b
 ·rw [cntF_zero (P := fun k => num n r b < num n r x ∧ Ups n r b k x) _ (fun k _ hk => by have := hk.1; omega), cntF_zero (P := fun k => num n r c < num n r x ∧ Ups n r c k x) _ (fun k _ hk => by have := hk.1; omega)]
  have h2 := cntF_up (P := fun k => Ups n r x (k + 1) b) (Q := fun k => Ups n r x (k + 1) c) ⟨b, hb, h1, h⟩ (fun k hk => ⟨b, hb, hk, h⟩) N
  have e : cntF (fun k => Ups n r x (k + 1) b) (N + 1) = cntF (fun k => Ups n r x (k + 1) b) N := cntF_last (by
   intro hu
   have := Ups_num ho h22 h31 _ _ hb hu
   have := hN x b hx hb
   omega)
  omega
 ·by_cases h3 : num n r x ≤ num n r c
  ·rw [cntF_zero (P := fun k => Ups n r x (k + 1) b) _ (fun k _ hk => by have := Ups_num ho h22 h31 _ _ hb hk; omega), cntF_zero (P := fun k => num n r c < num n r x ∧ Ups n r c k x) _ (fun k _ hk => by have := hk.1; omega)]
   have := cntF_pos (P := fun k => num n r b < num n r x ∧ Ups n r b k x) ⟨by omega, show num n r b ≤ num n r x by omega⟩ N
   omega
  ·rw [cntF_zero (P := fun k => Ups n r x (k + 1) b) _ (fun k _ hk => by have := Ups_num ho h22 h31 _ _ hb hk; omega), cntF_zero (P := fun k => Ups n r x (k + 1) c) _ (fun k _ hk => by have := Ups_num ho h22 h31 _ _ hc hk; omega)]
   have h2 := cntF_up (P := fun k => num n r c < num n r x ∧ Ups n r c k x) (Q := fun k => num n r b < num n r x ∧ Ups n r b k x) ⟨by omega, show num n r b ≤ num n r x by omega⟩ (fun k hk => ⟨by omega, Ups_left ho h22 h31 hb hc h k x hx hk.2⟩) N
   have e : cntF (fun k => num n r c < num n r x ∧ Ups n r c k x) (N + 1) = cntF (fun k => num n r c < num n r x ∧ Ups n r c k x) N := cntF_last (by
    intro hu
    have := Ups_num ho h22 h31 _ _ hx hu.2
    have := hN c x hc hx
    omega)
   omega
theorem mUp_near (ho : Ord n r) (h22 : No22 n r) (h31 : No31 n r) {N : Nat} (hx : x < n) (hb : b < n) (hc : c < n) (h : r c b = false) : mUp n r (N + 1) x b ≤ mUp n r (N + 1) x c + 1 ∧ (x = c → mUp n r (N + 1) x b ≤ mUp n r (N + 1) x c) := by
 by_cases hl : num n r b ≤ num n r c
 ·have : mUp n r (N + 1) x b ≤ mUp n r (N + 1) x c := by
   unfold mUp
   have h1 := cntF_sub (P := fun k => Ups n r x (k + 1) b) (Q := fun k => Ups n r x (k + 1) c) (N + 1) (fun k _ hk => Ups_up ho h22 h31 hb hc hl (k + 1) hk)
   have h2 := cntF_sub (P := fun k => num n r c < num n r x ∧ Ups n r c k x) (Q := fun k => num n r b < num n r x ∧ Ups n r b k x) (N + 1) (fun k _ hk => ⟨by omega, Ups_low hl k x hk.2⟩)
   omega
  exact ⟨by omega, fun _ => this⟩
 ·have hno : ∀ y, y < n → num n r c ≤ num n r y → ¬ r y b = true := fun y hy h1 h2 => by
   rw [num_above ho h22 h31 hc hy h1 hb h2] at h; cases h
  by_cases h1 : num n r x ≤ num n r c
  ·have e1 : cntF (fun k => num n r b < num n r x ∧ Ups n r b k x) (N + 1) = 0 := cntF_zero _ (fun k _ hk => by have := hk.1; omega)
   have e2 : cntF (fun k => num n r c < num n r x ∧ Ups n r c k x) (N + 1) = 0 := cntF_zero _ (fun k _ hk => by have := hk.1; omega)
   refine ⟨?_, ?_⟩
   ·unfold mUp
    rw [e1, e2]
    have h2 := cntF_shift (P := fun k => Ups n r x (k + 1) b) (Q := fun k => Ups n r x (k + 1) c) (fun k hk => by
     obtain ⟨y, hy, ⟨z, hz, h3, h4⟩, h5⟩ := hk
     refine ⟨z, hz, h3, ?_⟩
     by_cases h6 : num n r y ≤ num n r c
     ·exact num_below ho h22 h31 hy hc h6 hz h4
     ·exact absurd h5 (hno y hy (by omega))) N
    have h3 : cntF (fun k => Ups n r x (k + 1) c) N ≤ cntF (fun k => Ups n r x (k + 1) c) (N + 1) := by
     show _ ≤ cntF _ N + _
     omega
    omega
   ·rintro rfl
    unfold mUp
    rw [e1, e2, cntF_zero (P := fun k => Ups n r x (k + 1) b) _ (fun k _ hk => by
     obtain ⟨y, hy, h2, h3⟩ := Ups_one ho h22 h31 hb k hk
     exact hno y hy h2 h3)]
    omega
  ·have e1 : cntF (fun k => Ups n r x (k + 1) c) (N + 1) = 0 := cntF_zero _ (fun k _ hk => by have := Ups_num ho h22 h31 _ _ hc hk; omega)
   refine ⟨?_, fun e => by rw [e] at h1; omega⟩
   by_cases h2 : num n r x ≤ num n r b
   ·have e2 : cntF (fun k => Ups n r x (k + 1) b) (N + 1) = 0 := cntF_zero _ (fun k _ hk => by
     obtain ⟨y, hy, h3, h4⟩ := Ups_one ho h22 h31 hb k hk
     have h3 : num n r x ≤ num n r y := h3
     exact hno y hy (by omega) h4)
    have e3 : cntF (fun k => num n r b < num n r x ∧ Ups n r b k x) (N + 1) = 0 := cntF_zero _ (fun k _ hk => by have := hk.1; omega)
    have h3 := cntF_shift (P := fun k => num n r c < num n r x ∧ Ups n r c k x) (Q := fun _ => False) (fun k hk => by
     obtain ⟨y, hy, h4, h5⟩ := Ups_one ho h22 h31 hx k hk.2
     exact hno y hy h4 (num_below ho h22 h31 hx hb h2 hy h5)) N
    rw [cntF_zero (P := fun _ => False) _ (fun _ _ h => h)] at h3
    unfold mUp
    rw [e1, e2, e3]
    omega
   ·have e2 : cntF (fun k => Ups n r x (k + 1) b) (N + 1) = 0 := cntF_zero _ (fun k _ hk => by have := Ups_num ho h22 h31 _ _ hb hk; omega)
    have hU : ∀ k z, z < n → Ups n r c (k + 1) z → Ups n r b k z := by
     intro k
     induction k with
     | zero =>
      intro z hz hu
      obtain ⟨y, hy, h3, h4⟩ := hu
      have h3 : num n r c ≤ num n r y := h3
      refine Classical.byContradiction fun h5 => ?_
      have h5 : ¬ num n r b ≤ num n r z := h5
      exact hno y hy h3 (num_below ho h22 h31 hz hb (by omega) hy h4)
     | succ k ih =>
      intro z hz hu
      obtain ⟨y, hy, h3, h4⟩ := hu
      exact ⟨y, hy, ih y hy h3, h4⟩
    have h3 := cntF_shift (P := fun k => num n r c < num n r x ∧ Ups n r c k x) (Q := fun k => num n r b < num n r x ∧ Ups n r b k x) (fun k hk => ⟨by omega, hU k x hx hk.2⟩) N
    have h4 : cntF (fun k => num n r b < num n r x ∧ Ups n r b k x) N ≤ cntF (fun k => num n r b < num n r x ∧ Ups n r b k x) (N + 1) := by
     show _ ≤ cntF _ N + _
     omega
    unfold mUp
    rw [e1, e2]
    omega
theorem sumF_ge {f g : Nat → Int} {d : Int} : ∀ m, (∀ x, x < m → f x + d ≤ g x) → sumF f m + m * d ≤ sumF g m
 | 0, _ => by simp [sumF]
 | m + 1, h => by
  have := sumF_ge m (fun x hx => h x (by omega))
  have := h m (by omega)
  unfold sumF
  rw [show ((m + 1 : Nat) : Int) * d = m * d + d by rw [Int.natCast_add, Int.add_mul]; simp]
  omega
theorem sumF_one {f g : Nat → Int} : ∀ m, (∀ x, x < m → f x - 1 ≤ g x) → (∃ x, x < m ∧ f x ≤ g x) → sumF f m - (m - 1) ≤ sumF g m
 | 0, _, ⟨x, hx, _⟩ => by omega
 | m + 1, h, ⟨x, hx, he⟩ => by
  have h1 := h m (by omega)
  unfold sumF
  by_cases e : x = m
  ·subst e
   have := sumF_ge (f := f) (g := g) (d := -1) x (fun y hy => by have := h y (by omega); omega)
   omega
  ·have := sumF_one m (fun y hy => h y (by omega)) ⟨x, by omega, he⟩
   omega
theorem semi_places (ho : Ord n r) (h22 : No22 n r) (h31 : No31 n r) (_hn : 0 < n) : ∃ q : Nat → Int, (∀ x, x < n → 0 ≤ q x) ∧ ∀ i j, i < n → j < n → (r i j = true → q i + n ≤ q j) ∧ (r j i = false → i ≠ j → q i + (1 - n) ≤ q j) := by
 obtain ⟨N, hN⟩ : ∃ N : Nat, ∀ i j, i < n → j < n → num n r j - num n r i < N := by
  have hb : ∀ i, -(n : Int) ≤ num n r i ∧ num n r i ≤ n := fun i => by
   unfold num
   have h1 : (List.range n).countP (fun x => r x i) ≤ n := by have := List.countP_le_length (p := fun x => r x i) (l := List.range n); simpa using this
   have h2 : (List.range n).countP (fun y => r i y) ≤ n := by have := List.countP_le_length (p := fun y => r i y) (l := List.range n); simpa using this
   omega
  exact ⟨2 * n + 1, fun i j _ _ => by have := hb i; have := hb j; omega⟩
 refine ⟨fun b => sumF (fun x => mUp n r (N + 1) x b) n + n * (N + 1), fun b hb => ?_, fun i j hi hj => ⟨fun h => ?_, fun h hij => ?_⟩⟩
 ·have := sumF_ge (f := fun _ => 0) (g := fun x => mUp n r (N + 1) x b) (d := -((N : Int) + 1)) n (fun x hx => by
   show 0 + -((N : Int) + 1) ≤ mUp n r (N + 1) x b
   unfold mUp
   have h1 := cntF_le (P := fun k => num n r b < num n r x ∧ Ups n r b k x) (N + 1)
   omega)
  have h0 : ∀ m, sumF (fun _ => 0) m = 0 := by
   intro m
   induction m with
   | zero => rfl
   | succ m ih => unfold sumF; rw [ih]; rfl
  rw [h0, Int.mul_neg] at this
  show 0 ≤ _ + _
  omega
 ·have := sumF_ge (f := fun x => mUp n r (N + 1) x i) (g := fun x => mUp n r (N + 1) x j) (d := 1) n (fun x hx => mUp_lt ho h22 h31 hN hx hi hj h)
  show _ + _ + _ ≤ _ + _
  omega
 ·have := sumF_one (f := fun x => mUp n r (N + 1) x i) (g := fun x => mUp n r (N + 1) x j) n (fun x hx => by have := (mUp_near (N := N) ho h22 h31 hx hi hj h).1; omega) ⟨j, hj, (mUp_near (N := N) ho h22 h31 hj hi hj h).2 rfl⟩
  show _ + _ + _ ≤ _ + _
  omega
end
def badS (L : List Int) (a b c d : Nat) : Prop := freeP L a d = true ∧ freeP L c b = true
theorem freeP_iff {L : List Int} {i j : Nat} : freeP L i j = true ↔ lt L i j = false ∧ lt L j i = false ∧ j ≠ i := by
 unfold freeP
 cases lt L i j <;> cases lt L j i <;> simp
theorem look_22 {n : Int} {L : List Int} (h : orderP n L) : (∀ a, a < L.length → ∀ q, q < (bitsOf (rd L (a : Int))).length → ∀ c, c < L.length → ∀ p, p < (bitsOf (rd L (c : Int))).length → ∀ b : Nat, rd (bitsOf (rd L (a : Int))) (q : Int) = b → ∀ d : Nat, rd (bitsOf (rd L (c : Int))) (p : Int) = d → ¬ badS L a b c d) ↔ ∀ a, a < L.length → ∀ b, b < L.length → ∀ c, c < L.length → ∀ d, d < L.length → ¬ bad22 L a b c d := by
 have h10 : L.length ≤ 10 := by have := h.1.1; have := h.1.2.1; omega
 have place : ∀ i j : Nat, i < L.length → j < L.length → lt L i j = true → ∃ q, q < (bitsOf (rd L (i : Int))).length ∧ rd (bitsOf (rd L (i : Int))) (q : Int) = j := fun i j hi hj hb => by
  obtain ⟨q, hq, e⟩ := List.mem_iff_getElem.1 (mem_bitsOf.2 ⟨j, by omega, hb, rfl⟩ : (j : Int) ∈ bitsOf (rd L (i : Int)))
  exact ⟨q, hq, by rw [rd_lt _ q hq]; exact e⟩
 constructor
 ·rintro r a ha b hb c hc d hd ⟨h1, h2, h3, h4⟩
  obtain ⟨q, hq, eq⟩ := place a b ha hb h1
  obtain ⟨p, hp, ep⟩ := place c d hc hd h2
  refine r a ha q hq c hc p hp b eq d ep ⟨freeP_iff.2 ⟨h4, ?_, ?_⟩, freeP_iff.2 ⟨h3, ?_, ?_⟩⟩
  ·cases e : lt L d a
   ·rfl
   ·have := h.trans hc (h.trans hc h2 e) h1; rw [h3] at this; cases this
  ·rintro rfl
   have := h.trans hc h2 h1; rw [h3] at this; cases this
  ·cases e : lt L b c
   ·rfl
   ·have := h.trans ha (h.trans ha h1 e) h2; rw [h4] at this; cases this
  ·rintro rfl
   have := h.trans ha h1 h2; rw [h4] at this; cases this
 ·rintro r a ha q hq c hc p hp b eb d ed ⟨h1, h2⟩
  obtain ⟨b', eb', hb, hab⟩ := row_el h.1 ha hq
  obtain ⟨d', ed', hd, hcd⟩ := row_el h.1 hc hp
  obtain rfl : b = b' := by omega
  obtain rfl : d = d' := by omega
  exact r a ha b hb c hc d hd ⟨hab, hcd, (freeP_iff.1 h2).1, (freeP_iff.1 h1).1⟩
theorem look_31 {n : Int} {L : List Int} (h : orderP n L) (hl : look31 L) : No31 L.length (lt L) := by
 have h10 : L.length ≤ 10 := by have := h.1.1; have := h.1.2.1; omega
 have place : ∀ i j : Nat, i < L.length → j < L.length → lt L i j = true → ∃ q, q < (bitsOf (rd L (i : Int))).length ∧ rd (bitsOf (rd L (i : Int))) (q : Int) = j := fun i j hi hj hb => by
  obtain ⟨q, hq, e⟩ := List.mem_iff_getElem.1 (mem_bitsOf.2 ⟨j, by omega, hb, rfl⟩ : (j : Int) ∈ bitsOf (rd L (i : Int)))
  exact ⟨q, hq, by rw [rd_lt _ q hq]; exact e⟩
 intro a b c d ha hb hc hd hab hbc a1 a2 a3 b1 b2 b3 c1 c2 c3
 obtain ⟨q, hq, eq⟩ := place a b ha hb hab
 obtain ⟨p, hp, ep⟩ := place b c hb hc hbc
 have hz := hl a ha q hq b eq p hp c ep
 have h3 := and3_set h.1 ha hb hc
 have := (set_eq_zero h3.1).1 hz d (by omega)
 rw [h3.2, freeP_iff.2 ⟨a1, a2, a3⟩, freeP_iff.2 ⟨b1, b2, b3⟩, freeP_iff.2 ⟨c1, c2, c3⟩] at this
 simp [hd] at this
theorem below_l {n : Int} {L : List Int} (h : relP n L) (i : Nat) (hi : i < L.length) (d : Nat) : ∀ (j : Nat), j + d = L.length → Ev (fun k => spec_orBelow.l0 k (i : Int) (rowf (fun j => lt L j i) j) L (L.length : Int) (j : Int)) (rowf (fun j => lt L j i) L.length) := by
 have e1 := h.2.1
 have e3 := h.1
 induction d with
 | zero =>
  intro j hj
  refine Ev.shift ?_
  simp only [spec_orBelow.l0]
  exact Ev.neg (by omega) (Ev.ret (by rw [show j = L.length by omega]))
 | succ d ih =>
  intro j hj
  have := ih (j + 1) (by omega)
  rw [rowf_succ] at this
  refine Ev.shift ?_
  simp only [spec_orBelow.l0]
  refine Ev.pos (by omega) (Ev.pos (by omega) (Ev.pos (by omega) (Ev.bindc (orHas_f (h.set (i := j) (by omega)).1 (h.set (i := j) (by omega)).2 (by omega)) ?_)))
  rw [wrap64_id (by omega) (by omega), cast1]
  by_cases hb : bit (rd L (j : Int)) i = true
  ·rw [if_pos (show lt L j i = true from hb)] at this
   exact Ev.pos hb this
  ·rw [if_neg (show ¬ lt L j i = true from hb)] at this
   exact Ev.neg hb this
theorem below_ev {n : Int} {L : List Int} (h : relP n L) {i : Nat} (hi : i < L.length) : Ev (fun k => spec_orBelow.f k n L (i : Int)) (rowf (fun j => lt L j i) L.length) := by
 unfold spec_orBelow.f
 exact below_l h i hi L.length 0 (by omega)
end Go.Proofs.YtmoemabbmjdhgaaDoor.Pure
