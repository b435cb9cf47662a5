import Derived.Test.YtgbdjchdfcodcaaGreatDoorBFnWeakOrders31
namespace Go.Proofs.YtgbdjchdfcodcaaGreatDoor.Pure
open Go.RowKit Go.Proofs.YtgbdjchdfcodcaaGreatDoor.Q Go.Proofs.YtgbdjchdfcodcaaGreatDoorW.PrintWords Go.Proofs.YtgbdjchdfcodcaaGreatDoorW.PrintLast
set_option linter.unusedVariables false
set_option linter.unusedSimpArgs false
theorem ord_lt {n : Int} {L : List Int} (h : orderP n L) : Ord L.length (lt L) := ⟨fun i hi => h.irr hi, fun i j m hi hj hm h1 h2 => h.trans hi h1 h2⟩
def dn (L : List Int) (i : Nat) : Int := rowf (fun j => lt L j i) L.length
def dns (L : List Int) : List Int := rel (fun i j => lt L j i) L.length
theorem dns_length (L : List Int) : (dns L).length = L.length := rel_length _ _
theorem dns_get (L : List Int) {i : Nat} (hi : i < L.length) : rd (dns L) (i : Int) = dn L i := rel_get _ _ i hi
theorem mem_dns {L : List Int} {x : Int} : x ∈ dns L ↔ ∃ i, i < L.length ∧ dn L i = x := by
 unfold dns rel dn
 simp only [List.mem_map, List.mem_range]
theorem dn_set {n : Int} {L : List Int} (h : relP n L) (i : Nat) : setP (dn L i) ∧ ∀ m, bit (dn L i) m = (decide (m < L.length) && lt L m i) := rowf_bits _ _ (by have := h.1; have := h.2.1; omega)
theorem dn_sub {n : Int} {L : List Int} (h : relP n L) (i j : Nat) : andN (dn L j) (dn L i) = 0 ↔ ∀ x, x < L.length → lt L x j = true → lt L x i = true := by
 have h10 : L.length ≤ 10 := by have := h.1; have := h.2.1; omega
 rw [andNot_zero (dn_set h j).1 (dn_set h i).1]
 constructor
 ·intro h2 x hx hb
  have := h2 x (by omega) (by rw [(dn_set h j).2]; simp [hx, hb])
  rw [(dn_set h i).2] at this
  simp at this; exact this.2
 ·intro h2 x hx hb
  rw [(dn_set h j).2] at hb
  simp at hb
  rw [(dn_set h i).2]; simp [hb.1, h2 x hb.1 hb.2]
theorem dn_eq {n : Int} {L : List Int} (h : relP n L) (i j : Nat) : dn L j = dn L i ↔ (∀ x, x < L.length → lt L x j = true → lt L x i = true) ∧ (∀ x, x < L.length → lt L x i = true → lt L x j = true) := by
 constructor
 ·intro e
  have e0 : andN (dn L i) (dn L i) = 0 := (dn_sub h i i).2 fun x _ hx => hx
  exact ⟨(dn_sub h i j).1 (by rw [e]; exact e0), (dn_sub h j i).1 (by rw [e]; exact e0)⟩
 ·rintro ⟨h1, h2⟩
  refine set_ext (dn_set h j).1 (dn_set h i).1 fun x hx => ?_
  rw [(dn_set h j).2, (dn_set h i).2]
  by_cases hxl : x < L.length
  ·have a := h1 x hxl; have b := h2 x hxl
   cases e1 : lt L x j <;> cases e2 : lt L x i <;> simp_all
  ·simp [hxl]
theorem countP_more {D : List Int} {p q : Int → Bool} (h : ∀ x ∈ D, p x = true → q x = true) (hx : ∃ a ∈ D, q a = true ∧ p a = false) : D.countP p + 1 ≤ D.countP q := by
 induction D with
 | nil => obtain ⟨a, ha, _⟩ := hx; simp at ha
 | cons y D ih =>
  have h1 : D.countP p ≤ D.countP q := List.countP_mono_left fun x hx => h x (List.mem_cons_of_mem _ hx)
  rw [List.countP_cons, List.countP_cons]
  by_cases hy : q y = true ∧ p y = false
  ·rw [if_pos hy.1, if_neg (by simp [hy.2])]; omega
  ·obtain ⟨a, ha, hq, hp⟩ := hx
   have ha' : a ∈ D := by
    rcases List.mem_cons.1 ha with rfl | h
    ·exact absurd ⟨hq, hp⟩ hy
    ·exact h
   have := ih (fun x hx => h x (List.mem_cons_of_mem _ hx)) ⟨a, ha', hq, hp⟩
   by_cases hpy : p y = true
   ·rw [if_pos hpy, if_pos (h y List.mem_cons_self hpy)]; omega
   ·rw [if_neg hpy]; split <;> omega
theorem countP_one {D : List Int} (hD : D.Nodup) {a : Int} (ha : a ∈ D) {p q : Int → Bool} (hp : p a = false) (hq : q a = true) (h : ∀ x ∈ D, x ≠ a → q x = p x) : D.countP q = D.countP p + 1 := by
 induction D with
 | nil => simp at ha
 | cons y D ih =>
  rw [List.nodup_cons] at hD
  rw [List.countP_cons, List.countP_cons]
  by_cases hy : y = a
  ·subst hy
   rw [if_pos hq, if_neg (by simp [hp])]
   have : D.countP q = D.countP p := List.countP_congr fun x hx => by
    rw [h x (List.mem_cons_of_mem _ hx) (fun e => hD.1 (e ▸ hx))]
   omega
  ·have ha' : a ∈ D := by
    rcases List.mem_cons.1 ha with h | h
    ·exact absurd h.symm hy
    ·exact h
   have := ih hD.2 ha' (fun x hx => h x (List.mem_cons_of_mem _ hx))
   rw [h y List.mem_cons_self hy]
   omega
theorem exists_max (n : Nat) (P : Nat → Prop) (f : Nat → Nat) (h : ∃ j, j < n ∧ P j) : ∃ j, j < n ∧ P j ∧ ∀ m, m < n → P m → f m ≤ f j := by
 induction n with
 | zero => obtain ⟨j, hj, _⟩ := h; omega
 | succ n ih =>
  by_cases h2 : ∃ j, j < n ∧ P j
  ·obtain ⟨j, hj, hp, hm⟩ := ih h2
   by_cases hn : P n ∧ f j < f n
   ·exact ⟨n, by omega, hn.1, fun m hm1 hm2 => by
     rcases Nat.lt_or_ge m n with h | h
     ·have := hm m h hm2; omega
     ·obtain rfl : m = n := by omega
      omega⟩
   ·refine ⟨j, by omega, hp, fun m hm1 hm2 => ?_⟩
    rcases Nat.lt_or_ge m n with h | h
    ·exact hm m h hm2
    ·obtain rfl : m = n := by omega
     exact Nat.le_of_not_lt fun h => hn ⟨hm2, h⟩
  ·obtain ⟨j, hj, hp⟩ := h
   have : j = n := by
    rcases Nat.lt_or_ge j n with h | h
    ·exact absurd ⟨j, h, hp⟩ h2
    ·omega
   subst this
   refine ⟨j, hj, hp, fun m hm1 hm2 => ?_⟩
   rcases Nat.lt_or_ge m j with h | h
   ·exact absurd ⟨m, h, hm2⟩ h2
   ·rw [show m = j by omega]; exact Nat.le_refl _
theorem foldl_most {f : Int → Int} {v : Int} : ∀ (l : List Int) (m : Int), m ≤ v → (∀ x ∈ l, f x ≤ v) → (m = v ∨ ∃ x ∈ l, f x = v) → l.foldl (fun m x => max m (f x)) m = v
 | [], m, _, _, h => by rcases h with h | ⟨x, hx, _⟩ <;> simp_all
 | y :: l, m, h1, h2, h3 => by
  rw [List.foldl_cons]
  have hy := h2 y List.mem_cons_self
  refine foldl_most l _ (by omega) (fun x hx => h2 x (List.mem_cons_of_mem _ hx)) ?_
  rcases h3 with h | ⟨x, hx, h⟩
  ·left; omega
  ·rcases List.mem_cons.1 hx with rfl | hx
   ·left; omega
   ·right; exact ⟨x, hx, h⟩
def below1 (x s : Int) : Bool := decide (s ≠ x ∧ andN s x = 0)
def lvc (L : List Int) (i : Nat) : Nat := (dif (dns L)).countP (below1 (dn L i))
theorem dif_nodup (l : List Int) : (dif l).Nodup := List.Pairwise.imp (fun h e => by omega) (dif_sorted l)
theorem mem_difs {L : List Int} {x : Int} : x ∈ dif (dns L) ↔ ∃ i, i < L.length ∧ dn L i = x := by rw [mem_dif, mem_dns]
theorem lvc_less {n : Int} {L : List Int} (h : orderP n L) {i j : Nat} (hi : i < L.length) (hj : j < L.length) (hji : lt L j i = true) : lvc L j + 1 ≤ lvc L i := by
 have ho := ord_lt h
 have hne : dn L j ≠ dn L i := fun e => by
  have := ((dn_eq h.1 i j).1 e).2 j hj hji
  rw [h.irr hj] at this; cases this
 have hsub : ∀ x, x < L.length → lt L x j = true → lt L x i = true := fun x hx hxj => h.trans hx hxj hji
 refine countP_more (fun s hs hp => ?_) ⟨dn L j, mem_difs.2 ⟨j, hj, rfl⟩, ?_, ?_⟩
 ·obtain ⟨m, hm, rfl⟩ := mem_difs.1 hs
  unfold below1 at hp ⊢
  rw [decide_eq_true_iff] at hp ⊢
  have h2 := (dn_sub h.1 j m).1 hp.2
  refine ⟨fun e => ?_, (dn_sub h.1 i m).2 fun x hx hxm => hsub x hx (h2 x hx hxm)⟩
  have := h2 j hj (((dn_eq h.1 i m).1 e).2 j hj hji)
  rw [h.irr hj] at this; cases this
 ·unfold below1; rw [decide_eq_true_iff]; exact ⟨hne, (dn_sub h.1 i j).2 hsub⟩
 ·unfold below1; simp
theorem lvc_step {n : Int} {L : List Int} (h : orderP n L) (h21 : No21 L.length (lt L)) {i : Nat} (hi : i < L.length) (hx : ∃ j, j < L.length ∧ lt L j i = true) : ∃ j, j < L.length ∧ lt L j i = true ∧ lvc L i = lvc L j + 1 := by
 have ho := ord_lt h
 obtain ⟨j, hj, hji, hmax⟩ := exists_max L.length (fun j => lt L j i = true) (lvc L) hx
 refine ⟨j, hj, hji, countP_one (dif_nodup _) (mem_difs.2 ⟨j, hj, rfl⟩) (by unfold below1; simp) ?_ fun s hs hsj => ?_⟩
 ·unfold below1; rw [decide_eq_true_iff]
  refine ⟨fun e => ?_, (dn_sub h.1 i j).2 fun x hx hxj => h.trans hx hxj hji⟩
  have := ((dn_eq h.1 i j).1 e).2 j hj hji
  rw [h.irr hj] at this; cases this
 ·obtain ⟨m, hm, rfl⟩ := mem_difs.1 hs
  unfold below1
  rw [Bool.eq_iff_iff, decide_eq_true_iff, decide_eq_true_iff]
  constructor
  ·rintro ⟨h1, h2⟩
   refine ⟨hsj, (dn_sub h.1 j m).2 ?_⟩
   have h2' := (dn_sub h.1 i m).1 h2
   have hmi : lt L m i = true := by
    refine (weak_below ho h21 hi hm).2 ⟨h2', Classical.byContradiction fun hn => h1 ((dn_eq h.1 i m).2 ⟨h2', fun x hx hxi => ?_⟩)⟩
    cases hb : lt L x m
    ·exact (hn ⟨x, hx, hxi, hb⟩).elim
    ·rfl
   rcases weak_nested ho h21 (i := j) (j := m) hj hm with h3 | h3
   ·exact h3
   ·refine Classical.byContradiction fun hn => ?_
    have hjm : lt L j m = true := by
     refine (weak_below ho h21 hm hj).2 ⟨h3, Classical.byContradiction fun hn2 => hn fun x hx hxm => ?_⟩
     cases hb : lt L x j
     ·exact (hn2 ⟨x, hx, hxm, hb⟩).elim
     ·rfl
    have := lvc_less h hm hj hjm
    have := hmax m hm hmi
    omega
  ·rintro ⟨h1, h2⟩
   have h2' := (dn_sub h.1 j m).1 h2
   refine ⟨fun e => ?_, (dn_sub h.1 i m).2 fun x hx hxm => h.trans hx (h2' x hx hxm) hji⟩
   have := h2' j hj (((dn_eq h.1 i m).1 e).2 j hj hji)
   rw [h.irr hj] at this; cases this
theorem lvc_none {n : Int} {L : List Int} (h : orderP n L) {i : Nat} (hx : ∀ j, j < L.length → lt L j i = false) : lvc L i = 0 := by
 unfold lvc
 rw [List.countP_eq_zero]
 intro s hs hp
 obtain ⟨m, hm, rfl⟩ := mem_difs.1 hs
 unfold below1 at hp
 rw [decide_eq_true_iff] at hp
 refine hp.1 ((dn_eq h.1 i m).2 ⟨(dn_sub h.1 i m).1 hp.2, fun x hx2 hxi => ?_⟩)
 rw [hx x hx2] at hxi; cases hxi
theorem lvc_le (L : List Int) (i : Nat) : lvc L i ≤ L.length := by
 have h1 := List.countP_le_length (p := below1 (dn L i)) (l := dif (dns L))
 have h2 := dif_length (dns L)
 rw [dns_length] at h2
 unfold lvc; omega
theorem height_fold {n : Int} {L : List Int} (h : orderP n L) (h21 : No21 L.length (lt L)) {i : Nat} (hi : i < L.length) : (bitsOf (dn L i)).foldl (fun m x => max m (1 + (lvc L x.toNat : Int))) 0 = lvc L i := by
 have hb := (dn_set h.1 i).2
 have hmem : ∀ x ∈ bitsOf (dn L i), ∃ j : Nat, j < L.length ∧ x = j ∧ lt L j i = true := fun x hx => by
  obtain ⟨j, hj, hbj, rfl⟩ := mem_bitsOf.1 hx
  rw [hb] at hbj; simp at hbj
  exact ⟨j, hbj.1, rfl, hbj.2⟩
 refine foldl_most (f := fun x => 1 + (lvc L x.toNat : Int)) (v := (lvc L i : Int)) _ _ (by omega) (fun x hx => ?_) ?_
 ·obtain ⟨j, hj, rfl, hji⟩ := hmem x hx
  have := lvc_less h hi hj hji
  show 1 + (lvc L (j : Int).toNat : Int) ≤ lvc L i
  rw [Int.toNat_natCast]; omega
 ·by_cases hx : ∃ j, j < L.length ∧ lt L j i = true
  ·obtain ⟨j, hj, hji, e⟩ := lvc_step h h21 hi hx
   have h10 : L.length ≤ 10 := by have := h.1.1; have := h.1.2.1; omega
   refine .inr ⟨(j : Int), mem_bitsOf.2 ⟨j, by omega, by rw [hb]; simp [hj, hji], rfl⟩, ?_⟩
   show 1 + (lvc L (j : Int).toNat : Int) = lvc L i
   rw [Int.toNat_natCast]; omega
  ·left
   rw [lvc_none h fun j hj => by
    cases hc : lt L j i
    ·rfl
    ·exact (hx ⟨j, hj, hc⟩).elim]
   rfl
def lvs (L : List Int) : List Int := (dns L).map fun x => ((dif (dns L)).countP (below1 x) : Int)
theorem lvs_eq (L : List Int) : lvs L = (List.range L.length).map fun i => (lvc L i : Int) := by
 unfold lvs lvc
 generalize dif (dns L) = D
 unfold dns rel
 rw [List.map_map]
 rfl
theorem lvs_length (L : List Int) : (lvs L).length = L.length := by rw [lvs_eq]; simp
theorem levels_in (x : Int) (x3 D M : List Int) (i : Nat) (hD : D.length ≤ 1000) (h3 : x3.length ≤ 1000) (R : List Int) (hR : Ev (fun k => impl_Order_levels.l0 k (x3 ++ [(D.countP (below1 x) : Int)]) D M (M.length : Int) ((i + 1 : Nat) : Int)) R) (hi : i < 1000) (d : Nat) :
  ∀ q : Nat, q + d = D.length → Ev (fun k => impl_Order_levels.l1 k x3 D x ((D.take q).countP (below1 x) : Int) M (M.length : Int) (i : Int) D (D.length : Int) (q : Int)) R := by
 induction d with
 | zero =>
  intro q hq
  refine Ev.shift ?_
  simp only [impl_Order_levels.l1]
  refine Ev.neg (by omega) (Ev.pos (by omega) ?_)
  rw [wrap64_id (by omega) (by omega), cast1, List.take_of_length_le (by omega)]
  exact hR
 | succ d ih =>
  intro q hq
  have hc := List.countP_le_length (p := below1 x) (l := D.take q)
  have hl : (D.take q).length ≤ q := by simp; omega
  have hn : (D.take (q + 1)).countP (below1 x) = (D.take q).countP (below1 x) + if below1 x (rd D (q : Int)) = true then 1 else 0 := by
   rw [List.take_succ_eq_append_getElem (show q < D.length by omega), List.countP_append, List.countP_singleton, rd_lt D q (by omega)]
  have hb : below1 x (rd D (q : Int)) = decide (rd D (q : Int) ≠ x ∧ Go.bits .andNot .i64 (rd D (q : Int)) x = 0) := rfl
  refine Ev.shift ?_
  simp only [impl_Order_levels.l1]
  refine Ev.pos (by omega) (Ev.pos (by omega) (Ev.pos (by omega) ?_))
  rw [wrap64_id (x := (q : Int) + 1) (by omega) (by omega), wrap64_id (x := ((D.take q).countP (below1 x) : Int) + 1) (by omega) (by omega), cast1]
  have := ih (q + 1) (by omega)
  rw [hn, hb] at this
  by_cases h1 : rd D (q : Int) = x
  ·rw [if_neg (by simp [h1])] at this
   exact Ev.pos h1 this
  ·refine Ev.neg h1 ?_
   by_cases h2 : Go.bits .andNot .i64 (rd D (q : Int)) x = 0
   ·rw [if_pos (by simp [h1, h2])] at this
    rw [cast1]
    exact Ev.pos h2 this
   ·rw [if_neg (by simp [h2])] at this
    exact Ev.neg h2 this
theorem levels_out (M D : List Int) (hD : D.length ≤ 1000) (hM : M.length ≤ 1000) (d : Nat) : ∀ i : Nat, i + d = M.length →
  Ev (fun k => impl_Order_levels.l0 k ((M.take i).map fun x => (D.countP (below1 x) : Int)) D M (M.length : Int) (i : Int)) (M.map fun x => (D.countP (below1 x) : Int)) := by
 induction d with
 | zero =>
  intro i hi
  refine Ev.shift ?_
  simp only [impl_Order_levels.l0]
  exact Ev.neg (by omega) (Ev.ret (by rw [List.take_of_length_le (by omega)]))
 | succ d ih =>
  intro i hi
  refine Ev.shift ?_
  simp only [impl_Order_levels.l0]
  refine Ev.pos (by omega) (Ev.pos (by omega) (Ev.pos (by omega) ?_))
  have := levels_in (rd M (i : Int)) ((M.take i).map fun x => (D.countP (below1 x) : Int)) D M i hD (by simp; omega) (M.map fun x => (D.countP (below1 x) : Int)) (by
   have := ih (i + 1) (by omega)
   rw [List.take_succ_eq_append_getElem (show i < M.length by omega), List.map_append, List.map_singleton, ← rd_lt M i (by omega)] at this
   exact this) (by omega) D.length 0 (by omega)
  simpa using this
theorem olevels_ev {n : Int} {L : List Int} (h : relP n L) : Ev (fun k => impl_Order_levels.f k n L) (lvs L) := by
 have h10 : L.length ≤ 10 := by have := h.1; have := h.2.1; omega
 have e1 := dns_length L
 have e2 := dif_length (dns L)
 unfold impl_Order_levels.f
 refine Ev.bind (mirror_ev h : Ev _ (n, dns L)) (Ev.bindc (different_f (dns L) (by omega)) ?_)
 have := levels_out (dns L) (dif (dns L)) (by omega) (by omega) (dns L).length 0 (by omega)
 have h2 : Ev (fun k => impl_Order_levels.l0 k [] (dif (dns L)) (dns L) ((dns L).length : Int) 0) (lvs L) := by
  unfold lvs; simpa using this
 exact h2
end Go.Proofs.YtgbdjchdfcodcaaGreatDoor.Pure
namespace Go.Proofs.YtgbdjchdfcodcaaGreatDoor.Pure
set_option linter.unusedVariables false
set_option linter.unusedSimpArgs false
-- plain
def reps (b : Nat → Int) (n : Nat) : List Nat := (List.range n).filter fun j => decide (∀ m, m < j → b m ≠ b j)
theorem mem_reps {b : Nat → Int} {n j : Nat} : j ∈ reps b n ↔ j < n ∧ ∀ m, m < j → b m ≠ b j := by simp [reps]
theorem reps_nodup (b : Nat → Int) (n : Nat) : (reps b n).Nodup := List.Pairwise.sublist List.filter_sublist List.nodup_range
theorem first_of {b : Nat → Int} {n : Nat} : ∀ j, j < n → ∃ m ∈ reps b n, b m = b j := by
 intro j
 induction j using Nat.strongRecOn with
 | ind j ih =>
  intro hj
  by_cases h : ∀ m, m < j → b m ≠ b j
  ·exact ⟨j, mem_reps.2 ⟨hj, h⟩, rfl⟩
  ·have ⟨m, h2⟩ := Classical.not_forall.1 h
   have ⟨h3, h4⟩ := Classical.not_imp.1 h2
   obtain ⟨q, hq, e⟩ := ih m h3 (by omega)
   exact ⟨q, hq, e.trans (Classical.not_not.1 h4)⟩
theorem reps_map_nodup (b : Nat → Int) (n : Nat) : ((reps b n).map b).Nodup := by
 rw [List.Nodup, List.pairwise_map]
 refine List.Pairwise.imp_of_mem ?_ (reps_nodup b n)
 intro x y hx hy hne e
 rw [mem_reps] at hx hy
 rcases Nat.lt_trichotomy x y with h | h | h
 ·exact hy.2 x h e
 ·exact hne h
 ·exact hx.2 y h e.symm
theorem reps_perm {b : Nat → Int} {n : Nat} {D : List Int} (hD : D.Nodup) (mD : ∀ x, x ∈ D ↔ ∃ j, j < n ∧ b j = x) : D.Perm ((reps b n).map b) := by
 rw [List.perm_ext_iff_of_nodup hD (reps_map_nodup b n)]
 intro x
 rw [mD, List.mem_map]
 constructor
 ·rintro ⟨j, hj, rfl⟩; obtain ⟨m, hm, e⟩ := first_of (b := b) j hj; exact ⟨m, hm, e⟩
 ·rintro ⟨j, hj, rfl⟩; exact ⟨j, (mem_reps.1 hj).1, rfl⟩
theorem reps_congr {b v : Nat → Int} {n : Nat} (h : ∀ i j, i < n → j < n → (b i = b j ↔ v i = v j)) : reps b n = reps v n := by
 unfold reps
 refine List.filter_congr fun j hj => ?_
 rw [List.mem_range] at hj
 rw [Bool.eq_iff_iff, decide_eq_true_iff, decide_eq_true_iff]
 constructor
 ·intro h2 m hm e; exact h2 m hm ((h m j (by omega) hj).2 e)
 ·intro h2 m hm e; exact h2 m hm ((h m j (by omega) hj).1 e)
theorem count_values {b v : Nat → Int} {n : Nat} {D E : List Int} (hD : D.Nodup) (hE : E.Nodup) (mD : ∀ x, x ∈ D ↔ ∃ j, j < n ∧ b j = x) (mE : ∀ x, x ∈ E ↔ ∃ j, j < n ∧ v j = x)
  (h : ∀ i j, i < n → j < n → (b i = b j ↔ v i = v j)) {p q : Int → Bool} (hp : ∀ j, j < n → p (b j) = q (v j)) : D.countP p = E.countP q := by
 rw [(reps_perm hD mD).countP_eq, (reps_perm hE mE).countP_eq, ← reps_congr h, List.countP_map, List.countP_map]
 exact List.countP_congr fun j hj => by
  have := hp j (mem_reps.1 hj).1
  simp only [Function.comp_apply, this]
end Go.Proofs.YtgbdjchdfcodcaaGreatDoor.Pure
namespace Go.Proofs.YtgbdjchdfcodcaaGreatDoor.Pure
open Go.RowKit Go.Proofs.YtgbdjchdfcodcaaGreatDoor.Q Go.Proofs.YtgbdjchdfcodcaaGreatDoorW.PrintWords Go.Proofs.YtgbdjchdfcodcaaGreatDoorW.PrintLast
set_option linter.unusedVariables false
set_option linter.unusedSimpArgs false
theorem loopN {α : Type} (isNil : α → Prop) (N : Nat) (good : Nat → Prop) (Rest : Prop) (g : Nat → Nat → Option α)
  (hend : ∃ x, Ev (g N) x ∧ (isNil x ↔ Rest)) (hstep : ∀ i, i < N → ∀ R : Prop, (∃ x, Ev (g (i + 1)) x ∧ (isNil x ↔ R)) → ∃ x, Ev (g i) x ∧ (isNil x ↔ good i ∧ R)) :
  ∃ x, Ev (g 0) x ∧ (isNil x ↔ (∀ i, i < N → good i) ∧ Rest) := by
 have key : ∀ d i, i + d = N → ∃ x, Ev (g i) x ∧ (isNil x ↔ (∀ j, i ≤ j → j < N → good j) ∧ Rest) := by
  intro d
  induction d with
  | zero =>
   intro i hi
   obtain rfl : i = N := by omega
   obtain ⟨x, h1, h2⟩ := hend
   exact ⟨x, h1, h2.trans ⟨fun h => ⟨fun j h3 h4 => by omega, h⟩, fun h => h.2⟩⟩
  | succ d ih =>
   intro i hi
   obtain ⟨x, h1, h2⟩ := hstep i (by omega) _ (ih (i + 1) (by omega))
   refine ⟨x, h1, h2.trans ⟨fun h => ⟨fun j h3 h4 => ?_, h.2.2⟩, fun h => ⟨h.1 i (Nat.le_refl _) (by omega), fun j h3 h4 => h.1 j (by omega) h4, h.2⟩⟩⟩
   by_cases e : j = i
   ·subst e; exact h.1
   ·exact h.2.1 j (by omega) h4
 obtain ⟨x, h1, h2⟩ := key N 0 (by omega)
 exact ⟨x, h1, h2.trans ⟨fun h => ⟨fun j h3 => h.1 j (Nat.zero_le _) h3, h.2⟩, fun h => ⟨fun j _ h3 => h.1 j h3, h.2⟩⟩⟩
theorem better_lt {n : Int} {L : List Int} (h : relP n L) {i j : Nat} (hi : i < L.length) (hj : j < L.length) : impl_Order_better.f n L (i : Int) (j : Int) = some (lt L i j) :=
 better_f n L hi ⟨(h.row hi).1, (h.row hi).2.1⟩ (by have := h.1; have := h.2.1; omega)
theorem row_el {n : Int} {L : List Int} (h : relP n L) {i q : Nat} (hi : i < L.length) (hq : q < (bitsOf (rd L (i : Int))).length) : ∃ j : Nat, rd (bitsOf (rd L (i : Int))) (q : Int) = j ∧ j < L.length ∧ lt L i j = true := by
 obtain ⟨j, h1, h2, h3⟩ := h.bits (i := i) hi (j := rd (bitsOf (rd L (i : Int))) (q : Int)) (by rw [rd_lt _ q hq]; exact List.getElem_mem _)
 exact ⟨j, h1, h2, h3⟩
def bad22 (L : List Int) (a b c d : Nat) : Prop := lt L a b = true ∧ lt L c d = true ∧ lt L c b = false ∧ lt L a d = false
theorem twoTwo_ev {n : Int} {L : List Int} (h : relP n L) : ∃ x, Ev (fun k => impl_Order_twoTwo.f k n L) x ∧ (x = [] ↔ (∀ a, a < L.length → ∀ b, b < L.length → ∀ c, c < L.length → ∀ d, d < L.length → ¬ bad22 L a b c d) ∧ True) := by
 have e1 := h.2.1
 have e3 := h.1
 unfold impl_Order_twoTwo.f
 refine loopN (fun x : List Int => x = []) L.length _ True (fun (a : Nat) k => impl_Order_twoTwo.l0 k n (a : Int) n L) ⟨[], ?_, by simp⟩ (fun a ha R hR => ?_)
 ·refine Ev.shift ?_
  simp only [impl_Order_twoTwo.l0]
  exact Ev.neg (by omega) (Ev.ret rfl)
 ·have := loopN (fun x : List Int => x = []) L.length R (fun (b : Nat) k => impl_Order_twoTwo.l1 k (a : Int) n (a : Int) n (b : Int) n L) (by
   obtain ⟨x, h1, h2⟩ := hR
   refine ⟨x, Ev.shift ?_, h2⟩
   simp only [impl_Order_twoTwo.l1]
   refine Ev.neg (by omega) ?_
   rw [wrap64_id (by omega) (by omega), cast1]
   exact h1) (good := fun b => ∀ c, c < L.length → ∀ d, d < L.length → ¬ bad22 L a b c d) (fun b hb R hR => ?_)
  ·obtain ⟨x, h1, h2⟩ := this
   refine ⟨x, Ev.shift ?_, h2⟩
   simp only [impl_Order_twoTwo.l0]
   exact Ev.pos (by omega) h1
  ·have := loopN (fun x : List Int => x = []) L.length R (fun (c : Nat) k => impl_Order_twoTwo.l2 k (a : Int) (b : Int) n (a : Int) n (b : Int) n (c : Int) n L) (by
    obtain ⟨x, h1, h2⟩ := hR
    refine ⟨x, Ev.shift ?_, h2⟩
    simp only [impl_Order_twoTwo.l2]
    refine Ev.neg (by omega) ?_
    rw [wrap64_id (by omega) (by omega), cast1]
    exact h1) (good := fun c => ∀ d, d < L.length → ¬ bad22 L a b c d) (fun c hc R hR => ?_)
   ·obtain ⟨x, h1, h2⟩ := this
    refine ⟨x, Ev.shift ?_, h2⟩
    simp only [impl_Order_twoTwo.l1]
    exact Ev.pos (by omega) h1
   ·have := loopN (fun x : List Int => x = []) L.length R (fun (d : Nat) k => impl_Order_twoTwo.l3 k (a : Int) (b : Int) (c : Int) n (a : Int) n (b : Int) n (c : Int) n (d : Int) n L) (by
     obtain ⟨x, h1, h2⟩ := hR
     refine ⟨x, Ev.shift ?_, h2⟩
     simp only [impl_Order_twoTwo.l3]
     refine Ev.neg (by omega) ?_
     rw [wrap64_id (by omega) (by omega), cast1]
     exact h1) (good := fun d => ¬ bad22 L a b c d) (fun d hd R hR => ?_)
    ·obtain ⟨x, h1, h2⟩ := this
     refine ⟨x, Ev.shift ?_, h2⟩
     simp only [impl_Order_twoTwo.l2]
     exact Ev.pos (by omega) h1
    ·obtain ⟨x, h1, h2⟩ := hR
     have w := wrap64_id (x := (d : Int) + 1) (by omega) (by omega)
     by_cases c1 : lt L a b = true
     ·by_cases c2 : lt L c d = true
      ·by_cases c3 : lt L c b = true
       ·refine ⟨x, Ev.shift ?_, h2.trans ⟨fun r => ⟨fun hb => (by rw [hb.2.2.1] at c3; cases c3), r⟩, fun r => r.2⟩⟩
        simp only [impl_Order_twoTwo.l3]
        rw [w, cast1]
        exact Ev.pos (by omega) (Ev.bindc (better_lt h ha hb) (Ev.pos c1 (Ev.bindc (better_lt h hc hd) (Ev.pos c2 (Ev.bindc (better_lt h hc hb) (Ev.pos c3 h1))))))
       ·by_cases c4 : lt L a d = true
        ·refine ⟨x, Ev.shift ?_, h2.trans ⟨fun r => ⟨fun hb => (by rw [hb.2.2.2] at c4; cases c4), r⟩, fun r => r.2⟩⟩
         simp only [impl_Order_twoTwo.l3]
         rw [w, cast1]
         exact Ev.pos (by omega) (Ev.bindc (better_lt h ha hb) (Ev.pos c1 (Ev.bindc (better_lt h hc hd) (Ev.pos c2 (Ev.bindc (better_lt h hc hb) (Ev.neg c3 (Ev.bindc (better_lt h ha hd) (Ev.pos c4 h1))))))))
        ·refine ⟨[(a : Int), (b : Int), (c : Int), (d : Int)], Ev.shift ?_, ⟨fun r => (by cases r), fun r => (r.1 ⟨c1, c2, by simpa using c3, by simpa using c4⟩).elim⟩⟩
         simp only [impl_Order_twoTwo.l3]
         exact Ev.pos (by omega) (Ev.bindc (better_lt h ha hb) (Ev.pos c1 (Ev.bindc (better_lt h hc hd) (Ev.pos c2 (Ev.bindc (better_lt h hc hb) (Ev.neg c3 (Ev.bindc (better_lt h ha hd) (Ev.neg c4 (Ev.ret rfl)))))))))
      ·refine ⟨x, Ev.shift ?_, h2.trans ⟨fun r => ⟨fun hb => c2 hb.2.1, r⟩, fun r => r.2⟩⟩
       simp only [impl_Order_twoTwo.l3]
       rw [w, cast1]
       exact Ev.pos (by omega) (Ev.bindc (better_lt h ha hb) (Ev.pos c1 (Ev.bindc (better_lt h hc hd) (Ev.neg c2 h1))))
     ·refine ⟨x, Ev.shift ?_, h2.trans ⟨fun r => ⟨fun hb => c1 hb.1, r⟩, fun r => r.2⟩⟩
      simp only [impl_Order_twoTwo.l3]
      rw [w, cast1]
      exact Ev.pos (by omega) (Ev.bindc (better_lt h ha hb) (Ev.neg c1 h1))
end Go.Proofs.YtgbdjchdfcodcaaGreatDoor.Pure
