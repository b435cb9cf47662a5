import Derived.Test.YteechpappfagpaaDoorBFnExtensionsAccepted5
import Derived.Test.YteechpappfagpaaDoorBFnExtensionsAccepted6
import Derived.Test.YteechpappfagpaaDoorBFnExtensionsAccepted14
import Derived.Test.YteechpappfagpaaDoorBFnExtensionsAccepted15
import Derived.Test.YteechpappfagpaaDoorBFnExtensionsAccepted18
import Derived.Test.YteechpappfagpaaDoorBFnExtensionsAccepted24
import Derived.Test.YteechpappfagpaaDoorBFnExtensionsAccepted25
namespace Go.Proofs.YteechpappfagpaaDoor.Pure
open Go.RowKit Go.Proofs.YteechpappfagpaaDoor.Q Go.Proofs.YteechpappfagpaaDoorW.PrintWords Go.Proofs.YteechpappfagpaaDoorW.PrintLast
set_option linter.unusedVariables false
set_option linter.unusedSimpArgs false

-- lists that extend an order
def okAt (L l : List Int) (k : Nat) : Prop := andN (rd (mir L) (rd l (k : Int))) (setL (l.take k)) = 0
instance (L l : List Int) (k : Nat) : Decidable (okAt L l k) := by unfold okAt; infer_instance
def extP (n : Int) (L l : List Int) : Prop := namP n l ∧ ∀ k, k < l.length → okAt L l k
instance (n : Int) (L l : List Int) : Decidable (extP n L l) := by unfold extP; infer_instance
theorem split_at (P : Nat → Prop) (i n : Nat) (hi : i < n) : (∀ k, k < n → i ≤ k → P k) ↔ P i ∧ ∀ k, k < n → i + 1 ≤ k → P k := by
  constructor
  · intro h; exact ⟨h i hi (Nat.le_refl _), fun k h1 h2 => h k h1 (by omega)⟩
  · rintro ⟨h1, h2⟩ k h3 h4
    by_cases e : k = i
    · subst e; exact h1
    · exact h2 k h3 (by omega)
theorem iext_l {n : Int} {L : List Int} (h : relP n L) (l : List Int) (hn : namP n l) (d : Nat) : ∀ i : Nat, i + d = l.length → Ev (fun k => impl_Order_isExtension.l0 k (setL (l.take i)) l (l.length : Int) (i : Int) n (mir L)) (decide (∀ k, k < l.length → i ≤ k → okAt L l k)) := by
  have h1 := h.1; have h2 := h.2.1
  have hl : (l.length : Int) = n := hn.1
  induction d with
  | zero =>
    intro i hi
    refine Ev.shift ?_
    simp only [impl_Order_isExtension.l0]
    refine Ev.neg (by omega) (Ev.ret ?_)
    symm; rw [decide_eq_true_iff]; intro k h3 h4; omega
  | succ d ih =>
    intro i hi
    have e := ih (i + 1) (by omega)
    rw [take_snoc l i (by omega), setL_snoc] at e
    obtain ⟨m, hm, hm2⟩ := rd_in hn.2.1 (k := i) (by omega)
    have f0 : 0 ≤ rd l (i : Int) := by omega
    have f1 : rd l (i : Int) < ((mir L).length : Int) := by rw [mir_length]; omega
    have hs := split_at (okAt L l) i l.length (by omega)
    refine Ev.shift ?_
    simp only [impl_Order_isExtension.l0]
    refine Ev.pos (by omega) (Ev.pos (by omega) (Ev.pos (by omega) (Ev.pos f0 (Ev.pos f1 ?_))))
    rw [wrap64_id (by omega) (by omega), cast1]
    by_cases hc : Go.bits .andNot .i64 (rd (mir L) (rd l (i : Int))) (setL (l.take i)) = 0
    · refine Ev.pos hc (Ev.eq e ?_)
      rw [Bool.eq_iff_iff, decide_eq_true_iff, decide_eq_true_iff, hs]
      exact ⟨fun h3 => ⟨hc, h3⟩, fun h3 => h3.2⟩
    · refine Ev.neg hc (Ev.ret ?_)
      symm; rw [decide_eq_false_iff_not, hs]; exact fun h3 => hc h3.1
theorem isExt_ev {n : Int} {L : List Int} (h : relP n L) (l : List Int) (hl : l.length ≤ 1000) : Ev (fun k => impl_Order_isExtension.f k n L l) (decide (extP n L l)) := by
  have h1 := h.1; have h2 := h.2.1
  obtain ⟨N, rfl⟩ : ∃ N : Nat, n = N := ⟨n.toNat, by omega⟩
  unfold impl_Order_isExtension.f
  refine Ev.bind (isNaming_ev (by omega) l hl) ?_
  by_cases hn : namP (N : Int) l
  · refine Ev.pos (by simpa using hn) (Ev.bind (mirror_ev h) (Ev.eq (iext_l h l hn l.length 0 (by omega)) ?_))
    rw [Bool.eq_iff_iff, decide_eq_true_iff, decide_eq_true_iff]
    exact ⟨fun h3 => ⟨hn, fun k hk => h3 k hk (Nat.zero_le _)⟩, fun h3 k hk _ => h3.2 k hk⟩
  · refine Ev.neg (by simpa using hn) (Ev.ret ?_)
    symm; rw [decide_eq_false_iff_not]; exact fun h3 => hn h3.1
theorem sext_l {n : Int} {L : List Int} (h : relP n L) (l : List Int) (hn : namP n l) (d : Nat) : ∀ i : Nat, i + d = l.length → Ev (fun k => spec_orExtends.l0 k l l (l.length : Int) (i : Int) n L) (decide (∀ k, k < l.length → i ≤ k → okAt L l k)) := by
  have h1 := h.1; have h2 := h.2.1
  have hl : (l.length : Int) = n := hn.1
  induction d with
  | zero =>
    intro i hi
    refine Ev.shift ?_
    simp only [spec_orExtends.l0]
    refine Ev.neg (by omega) (Ev.ret ?_)
    symm; rw [decide_eq_true_iff]; intro k h3 h4; omega
  | succ d ih =>
    intro i hi
    have e := ih (i + 1) (by omega)
    obtain ⟨m, hm, hm2⟩ := rd_in hn.2.1 (k := i) (by omega)
    have hs := split_at (okAt L l) i l.length (by omega)
    have hb := below_ev h (i := m) (by omega)
    have hset := orSet_ev (l.take i) (by rw [List.length_take]; omega) (fun x hx => by have := hn.2.1 x (List.mem_of_mem_take hx); omega)
    refine Ev.shift ?_
    simp only [spec_orExtends.l0]
    rw [hm]
    refine Ev.pos (by omega) (Ev.pos (by omega) (Ev.pos (by omega) (Ev.bind hb (Ev.pos (by omega) ?_))))
    rw [Int.toNat_natCast]
    refine Ev.bind hset ?_
    rw [wrap64_id (by omega) (by omega), cast1]
    have eb : rd (mir L) (rd l (i : Int)) = rowf (fun j => lt L j m) L.length := by rw [hm]; exact rel_get _ _ m (by omega)
    by_cases hc : Go.bits .andNot .i64 (rowf (fun j => lt L j m) L.length) (setL (l.take i)) = 0
    · refine Ev.pos hc (Ev.eq e ?_)
      rw [Bool.eq_iff_iff, decide_eq_true_iff, decide_eq_true_iff, hs]
      exact ⟨fun h3 => ⟨by unfold okAt andN; rw [eb]; exact hc, h3⟩, fun h3 => h3.2⟩
    · refine Ev.neg hc (Ev.ret ?_)
      symm; rw [decide_eq_false_iff_not, hs]
      intro h3; have h4 := h3.1; unfold okAt andN at h4; rw [eb] at h4; exact hc h4
theorem orExtends_ev {n : Int} {L : List Int} (h : relP n L) (l : List Int) (hl : l.length ≤ 1000) : Ev (fun k => spec_orExtends.f k n L l) (decide (extP n L l)) := by
  have h1 := h.1; have h2 := h.2.1
  obtain ⟨N, rfl⟩ : ∃ N : Nat, n = N := ⟨n.toNat, by omega⟩
  unfold spec_orExtends.f
  refine Ev.bind (orNames_ev (by omega) l hl) ?_
  by_cases hn : namP (N : Int) l
  · refine Ev.pos (by simpa using hn) (Ev.eq (sext_l h l hn l.length 0 (by omega)) ?_)
    rw [Bool.eq_iff_iff, decide_eq_true_iff, decide_eq_true_iff]
    exact ⟨fun h3 => ⟨hn, fun k hk => h3 k hk (Nat.zero_le _)⟩, fun h3 k hk _ => h3.2 k hk⟩
  · refine Ev.neg (by simpa using hn) (Ev.ret ?_)
    symm; rw [decide_eq_false_iff_not]; exact fun h3 => hn h3.1
theorem okAt_iff {n : Int} {L l : List Int} (h : relP n L) (hx : ∀ x ∈ l, 0 ≤ x ∧ x < 10) {k m : Nat} (hm : rd l (k : Int) = m) (hml : m < L.length) : okAt L l k ↔ ∀ j, j < L.length → lt L j m = true → (j : Int) ∈ l.take k := by
  have h1 := h.1; have h2 := h.2.1
  have hs := setL_bits (l := l.take k) (fun y hy => hx y (List.mem_of_mem_take hy))
  unfold okAt
  rw [hm, andNot_zero ((mir_relP h).set (by rw [mir_length]; exact hml)) hs.1]
  constructor
  · intro h3 j hj hb
    have := h3 j (by omega) (show lt (mir L) m j = true by rw [mir_lt h hml hj]; exact hb)
    rw [hs.2] at this; simpa using this
  · intro h3 j hj hb
    rw [hs.2, decide_eq_true_iff]
    have hjl : j < L.length := by have := (mir_relP h).lt_len (i := m) (by rw [mir_length]; exact hml) hb; rwa [mir_length] at this
    exact h3 j hjl (by rw [← mir_lt h hml hjl]; exact hb)

end Go.Proofs.YteechpappfagpaaDoor.Pure

namespace Go.Proofs.YteechpappfagpaaDoor.Pure
set_option linter.unusedVariables false
set_option linter.unusedSimpArgs false

-- plain
/-! orders as relations on the numbers below n: traces of semiorders, heights in weak orders -/
theorem cnt_le {n : Nat} {p q : Nat → Bool} (h : ∀ x, x < n → p x = true → q x = true) : (List.range n).countP p ≤ (List.range n).countP q := by
  induction n with
  | zero => simp
  | succ n ih =>
    have h1 := ih (fun x hx => h x (by omega))
    have h2 := h n (by omega)
    rw [List.range_succ, List.countP_append, List.countP_append, List.countP_singleton, List.countP_singleton]
    by_cases hp : p n = true
    · rw [if_pos hp, if_pos (h2 hp)]; omega
    · rw [if_neg hp]; split <;> omega
theorem cnt_lt {n : Nat} {p q : Nat → Bool} (h : ∀ x, x < n → p x = true → q x = true) (hx : ∃ x, x < n ∧ q x = true ∧ p x = false) : (List.range n).countP p < (List.range n).countP q := by
  induction n with
  | zero => obtain ⟨x, hx, _⟩ := hx; omega
  | succ n ih =>
    have h1 := cnt_le (n := n) (fun x hx => h x (by omega))
    have h2 := h n (by omega)
    rw [List.range_succ, List.countP_append, List.countP_append, List.countP_singleton, List.countP_singleton]
    by_cases hn : q n = true ∧ p n = false
    · rw [if_pos hn.1, if_neg (by simp [hn.2])]; omega
    · obtain ⟨x, hx, hq, hp⟩ := hx
      have hxn : x < n := by
        rcases Nat.lt_or_ge x n with h | h
        · exact h
        · obtain rfl : x = n := by omega
          exact absurd ⟨hq, hp⟩ hn
      have := ih (fun x hx => h x (by omega)) ⟨x, hxn, hq, hp⟩
      by_cases hpn : p n = true
      · rw [if_pos hpn, if_pos (h2 hpn)]; omega
      · rw [if_neg hpn]; split <;> omega
/-- an order on the numbers below n -/
structure Ord (n : Nat) (r : Nat → Nat → Bool) : Prop where
  irr : ∀ i, i < n → r i i = false
  trans : ∀ i j m, i < n → j < n → m < n → r i j = true → r j m = true → r i m = true
section
variable {n : Nat} {r : Nat → Nat → Bool}
theorem Ord.asym (h : Ord n r) {i j : Nat} (hi : i < n) (hj : j < n) (h1 : r i j = true) : r j i = false := by
  cases hb : r j i
  · rfl
  · have := h.trans i j i hi hj hi h1 hb; rw [h.irr i hi] at this; cases this
/-- two pairs that refuse -/
def No22 (n : Nat) (r : Nat → Nat → Bool) : Prop := ∀ a b c d, a < n → b < n → c < n → d < n → r a b = true → r c d = true → r c b = false → r a d = false → False
/-- a chain of three and one that is indifferent to all -/
def No31 (n : Nat) (r : Nat → Nat → Bool) : Prop := ∀ a b c d, a < n → b < n → c < n → d < n → r a b = true → r b c = true → r a d = false → r d a = false → d ≠ a → r b d = false → r d b = false → d ≠ b → r c d = false → r d c = false → d ≠ c → False
/-- an element above another one, and one indifferent to both -/
def No21 (n : Nat) (r : Nat → Nat → Bool) : Prop := ∀ a b c, a < n → b < n → c < n → r a b = true → r a c = false → r c a = false → c ≠ a → r b c = false → r c b = false → c ≠ b → False
def trR (n : Nat) (r : Nat → Nat → Bool) (i j : Nat) : Prop := (∃ x, x < n ∧ r x j = true ∧ r x i = false) ∨ (∃ y, y < n ∧ r i y = true ∧ r j y = false)
def num (n : Nat) (r : Nat → Nat → Bool) (i : Nat) : Int := ((List.range n).countP (fun x => r x i) : Int) - ((List.range n).countP (fun y => r i y) : Int)
theorem below_nested (h22 : No22 n r) {i j x : Nat} (hi : i < n) (hj : j < n) (hx : x < n) (h1 : r x j = true) (h2 : r x i = false) : ∀ z, z < n → r z i = true → r z j = true := by
  intro z hz hzi
  cases hb : r z j
  · exact (h22 x j z i hx hj hz hi h1 hzi hb h2).elim
  · rfl
theorem above_nested (h22 : No22 n r) {i j y : Nat} (hi : i < n) (hj : j < n) (hy : y < n) (h1 : r i y = true) (h2 : r j y = false) : ∀ z, z < n → r j z = true → r i z = true := by
  intro z hz hjz
  cases hb : r i z
  · exact (h22 i y j z hi hy hj hz h1 hjz h2 hb).elim
  · rfl
/-- more below, and more above: not both -/
theorem not_both (h : Ord n r) (h31 : No31 n r) {i j x y : Nat} (hi : i < n) (hj : j < n) (hx : x < n) (hy : y < n) (h1 : r x j = true) (h2 : r x i = false) (h3 : r j y = true) (h4 : r i y = false) : False := by
  have a1 : r i x = false := by
    cases hb : r i x
    · rfl
    · have := h.trans i x y hi hx hy hb (h.trans x j y hx hj hy h1 h3); rw [h4] at this; cases this
  have a2 : r i j = false := by
    cases hb : r i j
    · rfl
    · have := h.trans i j y hi hj hy hb h3; rw [h4] at this; cases this
  have a3 : r j i = false := by
    cases hb : r j i
    · rfl
    · have := h.trans x j i hx hj hi h1 hb; rw [h2] at this; cases this
  have a4 : r y i = false := by
    cases hb : r y i
    · rfl
    · have := h.trans x y i hx hy hi (h.trans x j y hx hj hy h1 h3) hb; rw [h2] at this; cases this
  refine h31 x j y i hx hj hy hi h1 h3 h2 a1 ?_ a3 a2 ?_ a4 h4 ?_
  · rintro rfl; rw [h.trans i j y hi hj hy h1 h3] at h4; cases h4
  · rintro rfl; rw [h1] at h2; cases h2
  · rintro rfl; rw [h.trans x j i hx hj hi h1 h3] at h2; cases h2
theorem trR_num (h : Ord n r) (h22 : No22 n r) (h31 : No31 n r) {i j : Nat} (hi : i < n) (hj : j < n) : trR n r i j ↔ num n r i < num n r j := by
  unfold num
  constructor
  · rintro (⟨x, hx, h1, h2⟩ | ⟨y, hy, h1, h2⟩)
    · have c1 := cnt_lt (n := n) (p := fun x => r x i) (q := fun x => r x j) (below_nested h22 hi hj hx h1 h2) ⟨x, hx, h1, h2⟩
      have c2 := cnt_le (n := n) (p := fun y => r j y) (q := fun y => r i y) (fun z hz hjz => by
        cases hb : r i z
        · exact (not_both h h31 hi hj hx hz h1 h2 hjz hb).elim
        · rfl)
      omega
    · have c1 := cnt_lt (n := n) (p := fun y => r j y) (q := fun y => r i y) (above_nested h22 hi hj hy h1 h2) ⟨y, hy, h1, h2⟩
      have c2 := cnt_le (n := n) (p := fun x => r x i) (q := fun x => r x j) (fun z hz hzi => by
        cases hb : r z j
        · exact (not_both h h31 hj hi hz hy hzi hb h1 h2).elim
        · rfl)
      omega
  · intro hlt
    refine Classical.byContradiction fun hn => ?_
    have c1 := cnt_le (n := n) (p := fun x => r x j) (q := fun x => r x i) (fun z hz h1 => by
      cases hb : r z i
      · exact (hn (.inl ⟨z, hz, h1, hb⟩)).elim
      · rfl)
    have c2 := cnt_le (n := n) (p := fun y => r i y) (q := fun y => r j y) (fun z hz h1 => by
      cases hb : r j z
      · exact (hn (.inr ⟨z, hz, h1, hb⟩)).elim
      · rfl)
    omega
/-- in a weak order what is below decides -/
theorem weak_below (h : Ord n r) (h21 : No21 n r) {i j : Nat} (hi : i < n) (hj : j < n) : r j i = true ↔ (∀ x, x < n → r x j = true → r x i = true) ∧ ∃ x, x < n ∧ r x i = true ∧ r x j = false := by
  constructor
  · intro hji
    exact ⟨fun x hx hxj => h.trans x j i hx hj hi hxj hji, j, hj, hji, h.irr j hj⟩
  · rintro ⟨h1, x, hx, hxi, hxj⟩
    cases hb : r j i
    · have a1 : r i j = false := by
        cases hc : r i j
        · rfl
        · have := h1 i hi hc; rw [h.irr i hi] at this; cases this
      have a2 : r j x = false := by
        cases hc : r j x
        · rfl
        · have := h.trans j x i hj hx hi hc hxi; rw [hb] at this; cases this
      refine (h21 x i j hx hi hj hxi hxj a2 ?_ a1 hb ?_).elim
      · rintro rfl; rw [hxi] at hb; cases hb
      · rintro rfl; rw [hxi] at hxj; cases hxj
    · rfl
/-- as many are below: the same are below, in a weak order -/
theorem weak_nested (h : Ord n r) (h21 : No21 n r) {i j : Nat} (hi : i < n) (hj : j < n) : (∀ x, x < n → r x j = true → r x i = true) ∨ (∀ x, x < n → r x i = true → r x j = true) := by
  refine Classical.or_iff_not_imp_left.2 fun hn => ?_
  have ⟨x, hx⟩ := Classical.not_forall.1 hn
  have ⟨hx, hx2⟩ := Classical.not_imp.1 hx
  have ⟨hxj, hxi⟩ := Classical.not_imp.1 hx2
  have hxi : r x i = false := by simpa using hxi
  intro z hz hzi
  cases hzj : r z j
  · -- x below j and not i; z below i and not j
    have a1 : r i j = false := by
      cases hc : r i j
      · rfl
      · have := h.trans z i j hz hi hj hzi hc; rw [hzj] at this; cases this
    have a2 : r j i = false := by
      cases hc : r j i
      · rfl
      · have := h.trans x j i hx hj hi hxj hc; rw [hxi] at this; cases this
    have a3 : r i x = false := by
      cases hc : r i x
      · rfl
      · have := h.trans i x j hi hx hj hc hxj; rw [a1] at this; cases this
    refine (h21 x j i hx hj hi hxj hxi a3 ?_ a2 a1 ?_).elim
    · rintro rfl; rw [hxj] at a1; cases a1
    · rintro rfl; rw [hzi] at hzj; cases hzj
  · rfl
end

end Go.Proofs.YteechpappfagpaaDoor.Pure

namespace Go.Proofs.YteechpappfagpaaDoor.Pure
open Go.RowKit Go.Proofs.YteechpappfagpaaDoor.Q Go.Proofs.YteechpappfagpaaDoorW.PrintWords Go.Proofs.YteechpappfagpaaDoorW.PrintLast
set_option linter.unusedVariables false
set_option linter.unusedSimpArgs false

-- the first extension: each element is the least that may stand there
/-- c may stand behind the elements of F -/
def cand (L F : List Int) (c : Nat) : Prop := (c : Int) ∉ F ∧ ∀ j, j < L.length → lt L j c = true → (j : Int) ∈ F
/-- among what is left there is one with nothing of it below -/
theorem least_of {n : Int} {L : List Int} (h : orderP n L) (P : Nat → Prop) : ∀ d c, c < L.length → P c → ((List.range L.length).countP fun j => lt L j c) ≤ d → ∃ m, m < L.length ∧ P m ∧ ∀ j, j < L.length → lt L j m = true → ¬ P j := by
  intro d
  induction d with
  | zero =>
    intro c hc hp hd
    refine ⟨c, hc, hp, fun j hj hb => ?_⟩
    have := List.countP_eq_zero.1 (Nat.le_zero.1 hd) j (List.mem_range.2 hj)
    rw [hb] at this; exact absurd rfl this
  | succ d ih =>
    intro c hc hp hd
    by_cases hx : ∃ j, j < L.length ∧ lt L j c = true ∧ P j
    · obtain ⟨j, hj, hb, hpj⟩ := hx
      refine ih j hj hpj ?_
      have : ((List.range L.length).countP fun q => lt L q j) < ((List.range L.length).countP fun q => lt L q c) :=
        cnt_lt (fun q hq h1 => h.trans hq h1 hb) ⟨j, hj, hb, h.irr hj⟩
      omega
    · exact ⟨c, hc, hp, fun j hj hb hpj => hx ⟨j, hj, hb, hpj⟩⟩
theorem exists_cand {n : Int} {L F : List Int} (h : orderP n L) (hF : F.length < L.length) (hin : ∀ x ∈ F, 0 ≤ x ∧ x < L.length) : ∃ c, c < L.length ∧ cand L F c := by
  have hmiss : ∃ c, c < L.length ∧ (c : Int) ∉ F := by
    refine Classical.byContradiction fun hno => ?_
    have hall : ∀ m, m < L.length → (m : Int) ∈ F := fun m hm => Classical.byContradiction fun h2 => hno ⟨m, hm, h2⟩
    have := List.Nodup.length_le_of_subset (l₁ := List.range L.length) (l₂ := F.map Int.toNat) List.nodup_range (fun m hm => List.mem_map.2 ⟨(m : Int), hall m (List.mem_range.1 hm), by simp⟩)
    simp at this; omega
  obtain ⟨c, hc, hcF⟩ := hmiss
  obtain ⟨m, hm, hmF, hb⟩ := least_of h (fun c => (c : Int) ∉ F) _ c hc hcF (Nat.le_refl _)
  exact ⟨m, hm, hmF, fun j hj hbj => Classical.byContradiction fun h2 => hb j hj hbj h2⟩

theorem shr0_all : ∀ x : Fin 1024, ∀ j : Fin 10, decide (Go.bits .and .i64 (shr .i64 (x.val : Int) (j.val : Int)) 1 = 0) = !bit (x.val : Int) j.val := by decide +kernel
theorem shr0 {x : Int} (h : setP x) {j : Nat} (hj : j < 10) : Go.bits .and .i64 (shr .i64 x (j : Int)) 1 = 0 ↔ bit x j = false := by
  obtain ⟨m, rfl, hm⟩ := h.nat
  have := shr0_all ⟨m, hm⟩ ⟨j, hj⟩
  constructor
  · intro e; rw [decide_eq_true e] at this; simpa using this.symm
  · intro e; rw [e] at this; exact of_decide_eq_true this
/-- the elements of F stand as early as they may -/
def early (L F : List Int) : Prop := (∀ x ∈ F, 0 ≤ x ∧ x < L.length) ∧ ∀ q : Nat, q < F.length → ∀ c, c < L.length → cand L (F.take q) c → rd F (q : Int) ≤ c
theorem early_snoc {L F : List Int} (h : early L F) {c : Nat} (hc : c < L.length) (hmin : ∀ j, j < c → ¬ cand L F j) : early L (F ++ [(c : Int)]) := by
  refine ⟨fun x hx => ?_, fun q hq c2 hc2 hcand => ?_⟩
  · rcases List.mem_append.1 hx with hx | hx
    · exact h.1 x hx
    · rw [List.mem_singleton] at hx; omega
  · rw [List.length_append, List.length_singleton] at hq
    by_cases e : q = F.length
    · subst e
      rw [List.take_left'  rfl] at hcand
      rw [rd_lt _ _ (by simp)]
      simp
      exact Nat.le_of_not_lt fun hlt => hmin c2 hlt hcand
    · rw [List.take_append_of_le_length (by omega)] at hcand
      have := h.2 q (by omega) c2 hc2 hcand
      rw [rd_lt _ q (by omega)] at this
      rw [rd_lt _ q (by simp; omega), List.getElem_append_left (by omega)]
      exact this
theorem cand_iff {n : Int} {L F : List Int} (h : relP n L) (hin : ∀ x ∈ F, 0 ≤ x ∧ x < L.length) {c : Nat} (hc : c < L.length) : cand L F c ↔ bit (setL F) c = false ∧ Go.bits .andNot .i64 (rd (mir L) (c : Int)) (setL F) = 0 := by
  have h1 := h.1; have h2 := h.2.1
  have hs := setL_bits (l := F) (fun y hy => by have := hin y hy; omega)
  unfold cand
  rw [hs.2, decide_eq_false_iff_not]
  refine and_congr_right fun _ => ?_
  rw [show Go.bits .andNot .i64 (rd (mir L) (c : Int)) (setL F) = andN (rd (mir L) (c : Int)) (setL F) from rfl, andNot_zero ((mir_relP h).set (by rw [mir_length]; exact hc)) hs.1]
  constructor
  · intro h3 j hj hb
    have hjl : j < L.length := by have := (mir_relP h).lt_len (i := c) (by rw [mir_length]; exact hc) hb; rwa [mir_length] at this
    rw [hs.2, decide_eq_true_iff]
    exact h3 j hjl (by rw [← mir_lt h hc hjl]; exact hb)
  · intro h3 j hj hb
    have := h3 j (by omega) (show lt (mir L) c j = true by rw [mir_lt h hc hj]; exact hb)
    rw [hs.2] at this; simpa using this
theorem ifirst_l1 {n : Int} {L : List Int} (h : orderP n L) (F : List Int) (hF : early L F) (hl : F.length < L.length) (R : List Int × Bool) (c : Nat) (hc : c < L.length) (hcand : cand L F c) (hmin : ∀ j, j < c → ¬ cand L F j)
    (hk : Ev (fun k => impl_FirstExtension.l0 k (F ++ [(c : Int)]) (setL (F ++ [(c : Int)])) n L n (mir L)) R) (d : Nat) : ∀ i : Nat, i + d = c → Ev (fun k => impl_FirstExtension.l1 k F (setL F) n (i : Int) n L n (mir L)) R := by
  have h1 := h.1.1; have h2 := h.1.2.1
  have hs := (setL_bits (l := F) (fun y hy => by have := hF.1 y hy; omega)).1
  induction d with
  | zero =>
    intro i hi
    obtain rfl : i = c := by omega
    have hh := (cand_iff h.1 hF.1 hc).1 hcand
    have f1 : (i : Int) < ((mir L).length : Int) := by rw [mir_length]; omega
    refine Ev.shift ?_
    simp only [impl_FirstExtension.l1]
    refine Ev.pos (by omega) (Ev.pos (by omega) (Ev.pos ((shr0 hs (by omega)).2 hh.1) (Ev.pos f1 (Ev.pos hh.2 (Ev.pos (by omega) ?_)))))
    rw [← setL_snoc]; exact hk
  | succ d ih =>
    intro i hi
    have e := ih (i + 1) (by omega)
    have hno := fun hx => hmin i (by omega) ((cand_iff h.1 hF.1 (by omega)).2 hx)
    have f1 : (i : Int) < ((mir L).length : Int) := by rw [mir_length]; omega
    refine Ev.shift ?_
    simp only [impl_FirstExtension.l1]
    refine Ev.pos (by omega) (Ev.pos (by omega) ?_)
    rw [wrap64_id (by omega) (by omega), cast1]
    by_cases hb : bit (setL F) i = false
    · exact Ev.pos ((shr0 hs (by omega)).2 hb) (Ev.pos f1 (Ev.neg (fun hx => hno ⟨hb, hx⟩) e))
    · exact Ev.neg (fun hx => hb ((shr0 hs (by omega)).1 hx)) e
theorem least_nat (P : Nat → Prop) : ∀ c, P c → ∃ m, m ≤ c ∧ P m ∧ ∀ j, j < m → ¬ P j := by
  intro c
  induction c using Nat.strongRecOn with
  | ind c ih =>
    intro hp
    by_cases hx : ∃ j, j < c ∧ P j
    · obtain ⟨j, hj, hpj⟩ := hx
      obtain ⟨m, hm, h1, h2⟩ := ih j hj hpj
      exact ⟨m, by omega, h1, h2⟩
    · exact ⟨c, Nat.le_refl _, hp, fun j hj hpj => hx ⟨j, hj, hpj⟩⟩
theorem ifirst_l0 {n : Int} {L : List Int} (h : orderP n L) (d : Nat) : ∀ F : List Int, F.length + d = L.length → early L F → ∃ G, Ev (fun k => impl_FirstExtension.l0 k F (setL F) n L n (mir L)) (G, true) ∧ G.length = L.length ∧ early L G := by
  have h1 := h.1.1; have h2 := h.1.2.1
  induction d with
  | zero =>
    intro F hF he
    refine ⟨F, Ev.shift ?_, by omega, he⟩
    simp only [impl_FirstExtension.l0]
    exact Ev.neg (by omega) (Ev.ret rfl)
  | succ d ih =>
    intro F hF he
    obtain ⟨c0, hc0, hcand0⟩ := exists_cand h (by omega) he.1
    obtain ⟨c, hcle, hcand, hmin⟩ := least_nat (cand L F) c0 hcand0
    obtain ⟨G, hG, hGl, hGe⟩ := ih (F ++ [(c : Int)]) (by simp; omega) (early_snoc he (by omega) hmin)
    refine ⟨G, Ev.shift ?_, hGl, hGe⟩
    simp only [impl_FirstExtension.l0]
    exact Ev.pos (by omega) (ifirst_l1 h F he (by omega) _ c (by omega) hcand hmin hG c 0 (by omega))
theorem iFirst_ev {n : Int} {L : List Int} (h : orderP n L) : ∃ G, Ev (fun k => impl_FirstExtension.f k n L) (G, true) ∧ G.length = L.length ∧ early L G := by
  have h1 := h.1.1; have h2 := h.1.2.1
  obtain ⟨G, hG, hl, he⟩ := ifirst_l0 h L.length [] (by simp) ⟨fun x hx => (by cases hx), fun q hq => (by simp at hq)⟩
  refine ⟨G, ?_, hl, he⟩
  unfold impl_FirstExtension.f
  exact Ev.bind (isOrder_ev n L (by omega)) (Ev.pos (by simpa using h) (Ev.bind (mirror_ev h.1) hG))
/-- where two lists differ first, an extension's element is no less -/
theorem early_le {n : Int} {L F l : List Int} (h : orderP n L) (hF : early L F) (hl : extP n L l) (q : Nat) (hq : q < F.length) (hql : q < l.length) (hsame : l.take q = F.take q) : rd F (q : Int) ≤ rd l (q : Int) := by
  have h1 := h.1.1; have h2 := h.1.2.1
  obtain ⟨N, hN⟩ : ∃ N : Nat, n = N := ⟨n.toNat, by omega⟩
  obtain ⟨c, hc, hc2⟩ := rd_in hl.1.2.1 hql
  have hnod := namP.nodup (N := N) (by omega) (hN ▸ hl.1)
  rw [hc]
  refine hF.2 q hq c (by omega) ?_
  rw [← hsame]
  refine ⟨fun hx => ?_, (okAt_iff h.1 (fun x hx => by have := hl.1.2.1 x hx; omega) hc (by omega)).1 (hl.2 q hql)⟩
  obtain ⟨p, hp, he⟩ := (mem_take_rd (by omega)).1 hx
  have := nodup_at hnod (i := p) (j := q) (by omega) hql (by rw [he, hc])
  omega

end Go.Proofs.YteechpappfagpaaDoor.Pure

namespace Go.Proofs.YteechpappfagpaaDoor.Pure
open Go.RowKit Go.Proofs.YteechpappfagpaaDoor.Q Go.Proofs.YteechpappfagpaaDoorW.PrintWords Go.Proofs.YteechpappfagpaaDoorW.PrintLast
set_option linter.unusedVariables false
set_option linter.unusedSimpArgs false

theorem l1Has_l (l : List Int) (hl : l.length ≤ 1000) (x : Int) (d : Nat) : ∀ i : Nat, i + d = l.length → Ev (fun k => spec_l1Has.l0 k x l (l.length : Int) (i : Int)) (decide (x ∈ l.drop i)) := by
  induction d with
  | zero =>
    intro i hi
    refine Ev.shift ?_
    simp only [spec_l1Has.l0]
    refine Ev.neg (by omega) (Ev.ret ?_)
    rw [List.drop_of_length_le (by omega)]; simp
  | succ d ih =>
    intro i hi
    have e := ih (i + 1) (by omega)
    refine Ev.shift ?_
    simp only [spec_l1Has.l0]
    refine Ev.pos (by omega) (Ev.pos (by omega) (Ev.pos (by omega) ?_))
    rw [wrap64_id (by omega) (by omega), cast1, drop_rd l i (by omega)]
    by_cases hc : rd l (i : Int) = x
    · exact Ev.pos hc (Ev.ret (by rw [hc]; simp))
    · refine Ev.neg hc (Ev.eq e ?_)
      simp [Ne.symm hc]
theorem l1Has_ev (l : List Int) (hl : l.length ≤ 1000) (x : Int) : Ev (fun k => spec_l1Has.f k l x) (decide (x ∈ l)) := by
  unfold spec_l1Has.f
  simpa using l1Has_l l hl x l.length 0 (by omega)
theorem sfirst_l1 {n : Int} {L : List Int} (h : orderP n L) (F : List Int) (hF : ∀ x ∈ F, 0 ≤ x ∧ x < L.length) (hl : F.length < L.length) (R : List Int) (c : Nat) (hc : c < L.length) (hcand : cand L F c) (hmin : ∀ j, j < c → ¬ cand L F j)
    (hk : Ev (fun k => spec_orFirst.l0 k (F ++ [(c : Int)]) n L) R) (d : Nat) : ∀ i : Nat, i + d = c → Ev (fun k => spec_orFirst.l1 k F (i : Int) n L) R := by
  have h1 := h.1.1; have h2 := h.1.2.1
  have hb10 : ∀ y ∈ F, 0 ≤ y ∧ y < 10 := fun y hy => by have := hF y hy; omega
  have hs := (setL_bits hb10)
  induction d with
  | zero =>
    intro i hi
    obtain rfl : i = c := by omega
    have hh := (cand_iff h.1 hF hc).1 hcand
    rw [show rd (mir L) (i : Int) = rowf (fun j => lt L j i) L.length from rel_get _ _ i hc] at hh
    refine Ev.shift ?_
    simp only [spec_orFirst.l1]
    refine Ev.bind (l1Has_ev F (by omega) (i : Int)) (Ev.neg (by simpa using hcand.1) (Ev.bind (below_ev h.1 hc) (Ev.bind (orSet_ev F (by omega) hb10) (Ev.pos hh.2 (Ev.pos (by omega) hk)))))
  | succ d ih =>
    intro i hi
    have e := ih (i + 1) (by omega)
    have hno := fun hx => hmin i (by omega) ((cand_iff h.1 hF (by omega)).2 hx)
    rw [show rd (mir L) (i : Int) = rowf (fun j => lt L j i) L.length from rel_get _ _ i (by omega)] at hno
    refine Ev.shift ?_
    simp only [spec_orFirst.l1]
    refine Ev.bind (l1Has_ev F (by omega) (i : Int)) ?_
    rw [wrap64_id (by omega) (by omega), cast1]
    by_cases hm : (i : Int) ∈ F
    · exact Ev.pos (by simpa using hm) e
    · refine Ev.neg (by simpa using hm) (Ev.bind (below_ev h.1 (by omega)) (Ev.bind (orSet_ev F (by omega) hb10) (Ev.neg (fun hx => hno ⟨by rw [hs.2]; simpa using hm, hx⟩) e)))
theorem sfirst_l0 {n : Int} {L : List Int} (h : orderP n L) (d : Nat) : ∀ F : List Int, F.length + d = L.length → (∀ x ∈ F, 0 ≤ x ∧ x < L.length) → ∃ G, Ev (fun k => spec_orFirst.l0 k F n L) G ∧ G.length = L.length := by
  have h1 := h.1.1; have h2 := h.1.2.1
  induction d with
  | zero =>
    intro F hF he
    refine ⟨F, Ev.shift ?_, by omega⟩
    simp only [spec_orFirst.l0]
    exact Ev.neg (by omega) (Ev.ret rfl)
  | succ d ih =>
    intro F hF he
    obtain ⟨c0, hc0, hcand0⟩ := exists_cand h (by omega) he
    obtain ⟨c, hcle, hcand, hmin⟩ := least_nat (cand L F) c0 hcand0
    obtain ⟨G, hG, hGl⟩ := ih (F ++ [(c : Int)]) (by simp; omega) (fun x hx => by
      rcases List.mem_append.1 hx with hx | hx
      · exact he x hx
      · rw [List.mem_singleton] at hx; omega)
    refine ⟨G, Ev.shift ?_, hGl⟩
    simp only [spec_orFirst.l0]
    exact Ev.pos (by omega) (sfirst_l1 h F he (by omega) _ c (by omega) hcand hmin hG c 0 (by omega))
theorem orFirst_ev {n : Int} {L : List Int} (h : orderP n L) : ∃ G, Ev (fun k => spec_orFirst.f k n L) G ∧ G.length = L.length := by
  unfold spec_orFirst.f
  exact sfirst_l0 h L.length [] (by simp) (fun x hx => (by cases hx))

end Go.Proofs.YteechpappfagpaaDoor.Pure
