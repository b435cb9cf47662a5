import Derived.Test.YtpphkeijklffgaaDoorBFnChainsAndAntichains20
import Derived.Test.YtpphkeijklffgaaDoorBFnChainsAndAntichains22
import Derived.Test.YtpphkeijklffgaaDoorBFnChainsAndAntichains25
namespace Go.Proofs.YtpphkeijklffgaaDoor.Pure
open Go.RowKit Go.Proofs.YtpphkeijklffgaaDoor.Q Go.Proofs.YtpphkeijklffgaaDoorW.PrintWords Go.Proofs.YtpphkeijklffgaaDoorW.PrintLast
set_option linter.unusedVariables false
set_option linter.unusedSimpArgs false
theorem Ev.up {α : Type} {g : Nat → Option α} {r : α} (h : Ev g r) : Ev (fun k => g (k + 1)) r := by
 obtain ⟨K, hK⟩ := h; exact ⟨K, fun k hk => hK (k + 1) (by omega)⟩
def orb (x : Int) (j : Nat) : Int := Go.bits .or .i64 x (shl .i64 1 (j : Int))
def rowf (p : Nat → Bool) (d : Nat) : Int := (List.range d).foldl (fun x j => if p j then orb x j else x) 0
theorem rowf_succ (p : Nat → Bool) (d : Nat) : rowf p (d + 1) = if p d then orb (rowf p d) d else rowf p d := by
 simp [rowf, List.range_succ, List.foldl_append]
def rel (p : Nat → Nat → Bool) (n : Nat) : List Int := (List.range n).map fun i => rowf (p i) n
theorem rel_length (p : Nat → Nat → Bool) (n : Nat) : (rel p n).length = n := by simp [rel]
theorem rel_get (p : Nat → Nat → Bool) (n i : Nat) (h : i < n) : rd (rel p n) (i : Int) = rowf (p i) n := by
 rw [rd_lt _ i (by rw [rel_length]; exact h)]; simp [rel]
def relUpto (p : Nat → Nat → Bool) (n i : Nat) : List Int := (rel p n).take i ++ List.replicate (n - i) 0
theorem relation_l1 (p : Nat → Nat → Bool) (n : Nat) (hn : n ≤ 1000) (i : Nat) (hi : i < n) (R : Int × List Int) (hR : ∀ g : Nat → Int → Int → Option Bool, (∀ i j : Nat, i < n → j < n → Ev (fun k => g k i j) (p i j)) → ∀ y : List Int, y.length = n → rd y (i : Int) = rowf (p i) n → (∀ m : Nat, m < n → m ≠ i → rd y (m : Int) = if m < i then rowf (p m) n else 0) → Ev (fun k => impl_relation.l0 k n (g k) n ((i + 1 : Nat) : Int) n y) R) (d : Nat) :
  ∀ (j : Nat) (y : List Int) (g : Nat → Int → Int → Option Bool), (∀ i j : Nat, i < n → j < n → Ev (fun k => g k i j) (p i j)) → j + d = n → y.length = n → rd y (i : Int) = rowf (p i) j → (∀ m : Nat, m < n → m ≠ i → rd y (m : Int) = if m < i then rowf (p m) n else 0) →
  Ev (fun k => impl_relation.l1 k n (g k) (i : Int) n (i : Int) n (j : Int) n y) R := by
 induction d with
 | zero =>
  intro j y g hg hj hy h1 h2
  obtain rfl : j = n := by omega
  refine Ev.shift ?_
  simp only [impl_relation.l1]
  refine Ev.neg (by omega) ?_
  rw [wrap64_id (x := (i : Int) + 1) (by omega) (by omega), cast1]
  exact hR (fun k => g (k + 1)) (fun a b ha hb => Ev.up (hg a b ha hb)) y hy h1 h2
 | succ d ih =>
  intro j y g hg hj hy h1 h2
  have hg' : ∀ i j : Nat, i < n → j < n → Ev (fun k => g (k + 1) i j) (p i j) := fun a b ha hb => Ev.up (hg a b ha hb)
  refine Ev.shift ?_
  simp only [impl_relation.l1]
  refine Ev.pos (by omega) (Ev.bind (hg' i j hi (by omega)) ?_)
  rw [wrap64_id (x := (j : Int) + 1) (by omega) (by omega), cast1]
  by_cases hp : p i j = true
  ·refine Ev.pos hp (Ev.pos (by omega) (Ev.pos (by omega) (Ev.pos (by omega) ?_)))
   rw [Int.toNat_natCast]
   refine ih (j + 1) _ (fun k => g (k + 1)) hg' (by omega) (by simp; omega) ?_ ?_
   ·rw [rd_lt _ i (by simp; omega), List.getElem_set_self, rowf_succ, if_pos hp, h1]; rfl
   ·intro m hm hmi
    rw [rd_lt _ m (by simp; omega), List.getElem_set_ne (Ne.symm hmi), ← rd_lt y m (by omega)]
    exact h2 m hm hmi
  ·refine Ev.neg hp (ih (j + 1) y (fun k => g (k + 1)) hg' (by omega) hy ?_ h2)
   rw [rowf_succ, if_neg hp]; exact h1
theorem relation_l0 (p : Nat → Nat → Bool) (n : Nat) (hn : n ≤ 1000) (d : Nat) : ∀ (i : Nat) (y : List Int) (g : Nat → Int → Int → Option Bool), (∀ i j : Nat, i < n → j < n → Ev (fun k => g k i j) (p i j)) → i + d = n → y.length = n → (∀ m : Nat, m < n → rd y (m : Int) = if m < i then rowf (p m) n else 0) →
  Ev (fun k => impl_relation.l0 k n (g k) n (i : Int) n y) ((n : Int), rel p n) := by
 induction d with
 | zero =>
  intro i y g hg hi hy h1
  refine Ev.shift ?_
  simp only [impl_relation.l0]
  refine Ev.neg (by omega) (Ev.ret ?_)
  congr 1
  apply List.ext_getElem (by rw [rel_length]; exact hy)
  intro m hm1 hm2
  have := h1 m (by omega)
  rw [if_pos (by omega), rd_lt y m hm1, ← rel_get p n m (by omega), rd_lt _ m hm2] at this
  exact this
 | succ d ih =>
  intro i y g hg hi hy h1
  refine Ev.shift ?_
  simp only [impl_relation.l0]
  refine Ev.pos (by omega) ?_
  refine relation_l1 p n hn i (by omega) _ (fun g' hg' y' hy' h1' h2' => ih (i + 1) y' g' hg' (by omega) hy' (fun m hm => ?_)) n 0 y (fun k => g (k + 1)) (fun a b ha hb => Ev.up (hg a b ha hb)) (by omega) hy ?_ ?_
  ·by_cases e : m = i
   ·subst e; rw [h1', if_pos (by omega)]
   ·rw [h2' m hm e]
    by_cases hlt : m < i
    ·rw [if_pos hlt, if_pos (by omega)]
    ·rw [if_neg hlt, if_neg (by omega)]
  ·rw [h1 i (by omega), if_neg (by omega)]; rfl
  ·intro m hm e; exact h1 m hm
theorem relation_ev (p : Nat → Nat → Bool) (n : Nat) (hn : n ≤ 1000) (g : Nat → Int → Int → Option Bool) (hg : ∀ i j : Nat, i < n → j < n → Ev (fun k => g k i j) (p i j)) : Ev (fun k => impl_relation.f k n (g k)) ((n : Int), rel p n) := by
 unfold impl_relation.f
 refine Ev.pos (by omega) (Ev.pos (by omega) ?_)
 rw [Int.toNat_natCast]
 exact relation_l0 p n hn n 0 _ g hg (by omega) (by simp) (fun m hm => by rw [rd_lt _ m (by simp; omega), List.getElem_replicate, if_neg (by omega)])
theorem rowf_bits (p : Nat → Bool) (d : Nat) : d ≤ 10 → setP (rowf p d) ∧ ∀ m, bit (rowf p d) m = (decide (m < d) && p m) := by
 induction d with
 | zero => intro _; exact ⟨set_zero, fun m => by rw [show rowf p 0 = 0 from rfl, bit_zero]; simp⟩
 | succ d ih =>
  intro hd
  obtain ⟨h1, h2⟩ := ih (by omega)
  rw [rowf_succ]
  by_cases hp : p d = true
  ·rw [if_pos hp]
   have hs := set_shl (j := d) (by omega)
   have ho := set_or h1 hs.1
   refine ⟨ho.1, fun m => ?_⟩
   show bit (Go.bits .or .i64 (rowf p d) (shl .i64 1 (d : Int))) m = _
   rw [ho.2, h2, hs.2]
   by_cases e : m = d
   ·subst e; simp [hp]
   ·by_cases l : m < d
    ·simp [l, e, show m < d + 1 by omega]
    ·simp [l, e, show ¬ m < d + 1 by omega]
  ·rw [if_neg hp]
   refine ⟨h1, fun m => ?_⟩
   rw [h2]
   by_cases e : m = d
   ·subst e; simp [hp]
   ·by_cases l : m < d
    ·simp [l, show m < d + 1 by omega]
    ·simp [l, show ¬ m < d + 1 by omega]
theorem rel_set {p : Nat → Nat → Bool} {n i : Nat} (hn : n ≤ 10) (hi : i < n) : setP (rd (rel p n) (i : Int)) := by
 rw [rel_get p n i hi]; exact (rowf_bits (p i) n hn).1
theorem rel_lt {p : Nat → Nat → Bool} {n i : Nat} (hn : n ≤ 10) (hi : i < n) (j : Nat) : lt (rel p n) i j = (decide (j < n) && p i j) := by
 unfold lt; rw [rel_get p n i hi]; exact (rowf_bits (p i) n hn).2 j
-- the relation of some elements, in an order
def eN (E : List Int) (k : Nat) : Nat := (rd E (k : Int)).toNat
def partR (L E : List Int) : List Int := rel (fun a b => lt L (eN E a) (eN E b)) E.length
section
variable {n : Int} {L : List Int}
theorem orPart_l1 (hL : relP n L) (E : List Int) (hE : ∀ x ∈ E, 0 ≤ x ∧ x < n) (hl : E.length ≤ 10) (i : Nat) (hi : i < E.length) (Y : List Int) (r : Int × List Int) (hr : Ev (fun k => spec_orPart.l0 k E E (E.length : Int) (wrap64 ((i : Int) + 1)) n L (E.length : Int) (Y ++ [rowf (fun b => lt L (eN E i) (eN E b)) E.length])) r) (hY : Y.length ≤ 10) (d : Nat) :
  ∀ j : Nat, j + d = E.length → Ev (fun k => spec_orPart.l1 k E (rd E (i : Int)) (rowf (fun b => lt L (eN E i) (eN E b)) j) E (E.length : Int) (i : Int) E (E.length : Int) (j : Int) n L (E.length : Int) Y) r := by
 have hn := hL.2.1
 have hn1 := hL.1
 have he : ∀ q : Nat, q < E.length → rd E (q : Int) = (eN E q : Int) ∧ eN E q < L.length := fun q hq => by
  have := hE (rd E (q : Int)) (by rw [rd_lt E q hq]; exact List.getElem_mem _)
  unfold eN
  omega
 obtain ⟨ei, eil⟩ := he i hi
 have hri := hL.row eil
 induction d with
 | zero =>
  intro j hj
  obtain rfl : j = E.length := by omega
  refine Ev.shift ?_
  simp only [spec_orPart.l1]
  exact Ev.neg (by omega) (Ev.pos (by omega) hr)
 | succ d ih =>
  intro j hj
  obtain ⟨ej, ejl⟩ := he j (by omega)
  have hnext := ih (j + 1) (by omega)
  rw [rowf_succ] at hnext
  rw [ei] at hnext ⊢
  refine Ev.shift ?_
  simp only [spec_orPart.l1]
  rw [wrap64_id (x := (j : Int) + 1) (by omega) (by omega), cast1, ej]
  refine Ev.pos (by omega) (Ev.pos (by omega) (Ev.pos (by omega) (Ev.pos (by omega) (Ev.pos (by omega) (Ev.bindc (orHas_f hri.1 hri.2.1 (show eN E j < 10 by omega)) ?_)))))
  by_cases hb : bit (rd L (eN E i : Int)) (eN E j) = true
  ·rw [if_pos (show lt L (eN E i) (eN E j) = true from hb)] at hnext
   exact Ev.pos hb hnext
  ·rw [if_neg (show ¬ lt L (eN E i) (eN E j) = true from hb)] at hnext
   exact Ev.neg hb hnext
theorem orPart_l0 (hL : relP n L) (E : List Int) (hE : ∀ x ∈ E, 0 ≤ x ∧ x < n) (hl : E.length ≤ 10) (d : Nat) :
  ∀ i : Nat, i + d = E.length → Ev (fun k => spec_orPart.l0 k E E (E.length : Int) (i : Int) n L (E.length : Int) ((List.range i).map fun a => rowf (fun b => lt L (eN E a) (eN E b)) E.length)) ((E.length : Int), partR L E) := by
 induction d with
 | zero =>
  intro i hi
  obtain rfl : i = E.length := by omega
  refine Ev.shift ?_
  simp only [spec_orPart.l0]
  exact Ev.neg (by omega) (Ev.ret rfl)
 | succ d ih =>
  intro i hi
  have hnext := ih (i + 1) (by omega)
  rw [List.range_succ, List.map_append, List.map_singleton] at hnext
  refine Ev.shift ?_
  simp only [spec_orPart.l0]
  refine Ev.pos (by omega) (Ev.pos (by omega) (Ev.pos (by omega) ?_))
  have := orPart_l1 hL E hE hl i (by omega) ((List.range i).map fun a => rowf (fun b => lt L (eN E a) (eN E b)) E.length) _ (by rw [wrap64_id (x := (i : Int) + 1) (by omega) (by omega), cast1]; exact hnext) (by simp; omega) E.length 0 (by omega)
  exact this
theorem orPart_ev (hL : relP n L) (E : List Int) (hE : ∀ x ∈ E, 0 ≤ x ∧ x < n) (hl : E.length ≤ 10) : Ev (fun k => spec_orPart.f k n L E) ((E.length : Int), partR L E) := by
 unfold spec_orPart.f
 exact orPart_l0 hL E hE hl E.length 0 (by omega)
end
theorem bitsOf_len (x : Int) : (bitsOf x).length ≤ 10 := by
 have := List.length_filter_le (bit x) (List.range 10)
 simpa [bitsOf] using this
-- sets of the elements of lists
def setL (l : List Int) : Int := l.foldl (fun x i => Go.bits .or .i64 x (shl .i64 1 i)) 0
theorem setL_fold (l : List Int) : ∀ x : Int, setP x → (∀ y ∈ l, 0 ≤ y ∧ y < 10) → setP (l.foldl (fun x i => Go.bits .or .i64 x (shl .i64 1 i)) x) ∧ ∀ m : Nat, bit (l.foldl (fun x i => Go.bits .or .i64 x (shl .i64 1 i)) x) m = (bit x m || decide ((m : Int) ∈ l)) := by
 induction l with
 | nil => intro x hx _; exact ⟨hx, fun m => by simp⟩
 | cons y l ih =>
  intro x hx hl
  have hy := hl y (by simp)
  obtain ⟨j, rfl⟩ : ∃ j : Nat, y = j := ⟨y.toNat, by omega⟩
  have hs := set_shl (j := j) (by omega)
  have ho := set_or hx hs.1
  obtain ⟨h1, h2⟩ := ih _ ho.1 (fun z hz => hl z (by simp [hz]))
  refine ⟨h1, fun m => ?_⟩
  rw [List.foldl_cons, h2, ho.2, hs.2]
  by_cases e : m = j
  ·subst e; simp
  ·have e2 : ¬ (m : Int) = (j : Int) := by omega
   simp [e, e2]
theorem setL_bits {l : List Int} (h : ∀ y ∈ l, 0 ≤ y ∧ y < 10) : setP (setL l) ∧ ∀ m : Nat, bit (setL l) m = decide ((m : Int) ∈ l) := by
 obtain ⟨h1, h2⟩ := setL_fold l 0 set_zero h
 exact ⟨h1, fun m => by rw [setL, h2, bit_zero, Bool.false_or]⟩
theorem setL_snoc (l : List Int) (x : Int) : setL (l ++ [x]) = Go.bits .or .i64 (setL l) (shl .i64 1 x) := by unfold setL; rw [List.foldl_append]; rfl
theorem take_snoc (l : List Int) (i : Nat) (h : i < l.length) : l.take (i + 1) = l.take i ++ [rd l (i : Int)] := by rw [List.take_succ_eq_append_getElem h, rd_lt l i h]
def namP (n : Int) (l : List Int) : Prop := (l.length : Int) = n ∧ (∀ x ∈ l, 0 ≤ x ∧ x ≤ n - 1) ∧ setL l = full n
instance (n : Int) (l : List Int) : Decidable (namP n l) := by unfold namP; infer_instance
theorem namP.all {N : Nat} {l : List Int} (hN : N ≤ 10) (h : namP (N : Int) l) {m : Nat} (hm : m < N) : (m : Int) ∈ l := by
 have h1 := (setL_bits (l := l) (fun y hy => by have := h.2.1 y hy; omega)).2 m
 rw [h.2.2, (set_full hN).2] at h1
 simpa [hm] using h1
end Go.Proofs.YtpphkeijklffgaaDoor.Pure
namespace Go.Proofs.YtpphkeijklffgaaDoor.Pure
open Go.RowKit Go.Proofs.YtpphkeijklffgaaDoor.Q Go.Proofs.YtpphkeijklffgaaDoorW.PrintWords Go.Proofs.YtpphkeijklffgaaDoorW.PrintLast
set_option linter.unusedVariables false
set_option linter.unusedSimpArgs false
end Go.Proofs.YtpphkeijklffgaaDoor.Pure
namespace Go.Proofs.YtpphkeijklffgaaDoor.Pure
open Go.RowKit Go.Proofs.YtpphkeijklffgaaDoor.Q Go.Proofs.YtpphkeijklffgaaDoorW.PrintWords Go.Proofs.YtpphkeijklffgaaDoorW.PrintLast
set_option linter.unusedVariables false
set_option linter.unusedSimpArgs false
theorem orSet_l (l : List Int) (hl : l.length ≤ 1000) (h : ∀ x ∈ l, 0 ≤ x ∧ x < 10) (d : Nat) : ∀ i : Nat, i + d = l.length → Ev (fun k => spec_orSet.l0 k (setL (l.take i)) l (l.length : Int) (i : Int)) (setL l) := by
 induction d with
 | zero =>
  intro i hi
  rw [List.take_of_length_le (by omega)]
  refine Ev.shift ?_
  simp only [spec_orSet.l0]
  exact Ev.neg (by omega) (Ev.ret rfl)
 | succ d ih =>
  intro i hi
  have e := ih (i + 1) (by omega)
  rw [take_snoc l i (by omega), setL_snoc] at e
  have hr := h (rd l (i : Int)) (by rw [rd_lt l i (by omega)]; exact List.getElem_mem _)
  refine Ev.shift ?_
  simp only [spec_orSet.l0]
  refine Ev.pos (by omega) (Ev.pos (by omega) (Ev.pos (by omega) (Ev.pos hr.1 ?_)))
  rw [wrap64_id (by omega) (by omega), cast1]; exact e
theorem orSet_ev (l : List Int) (hl : l.length ≤ 1000) (h : ∀ x ∈ l, 0 ≤ x ∧ x < 10) : Ev (fun k => spec_orSet.f k l) (setL l) := by
 unfold spec_orSet.f
 exact orSet_l l hl h l.length 0 (by omega)
theorem orNames_ev {N : Nat} (hN : N ≤ 10) (l : List Int) (hl : l.length ≤ 1000) : Ev (fun k => spec_orNames.f k (N : Int) l) (decide (namP (N : Int) l)) := by
 unfold spec_orNames.f
 rw [wrap64_id (by omega) (by omega)]
 by_cases h2 : (l.length : Int) = N
 ·refine Ev.pos h2 (Ev.bind (l1All_ev 0 ((N : Int) - 1) l (by omega)) ?_)
  by_cases h : ∀ x ∈ l, 0 ≤ x ∧ x ≤ (N : Int) - 1
  ·refine Ev.pos (by simpa using h) (Ev.bind (orSet_ev l hl (fun x hx => by have := h x hx; omega)) (Ev.pos (by omega) (Ev.ret ?_)))
   rw [Bool.eq_iff_iff, beq_iff_eq, decide_eq_true_iff]
   exact ⟨fun h3 => ⟨h2, h, h3⟩, fun h3 => h3.2.2⟩
  ·refine Ev.neg (by simpa using h) (Ev.ret ?_)
   symm; rw [decide_eq_false_iff_not]; exact fun h3 => h h3.2.1
 ·refine Ev.neg h2 (Ev.ret ?_)
  symm; rw [decide_eq_false_iff_not]; exact fun h3 => h2 h3.1
def mir (L : List Int) : List Int := rel (fun i j => lt L j i) L.length
-- other names: element i of a relation is called nm i
def ixOf (N : List Int) (a : Nat) : Nat := (N.idxOf (a : Int))
section
variable {W : Nat} {N : List Int}
end
def renR (L N : List Int) : List Int := rel (fun a b => lt L (ixOf N a) (ixOf N b)) L.length
section
variable {L N : List Int} {n : Int}
end
def renRes (n : Int) (L N : List Int) : Int × List Int × Bool := if relP n L ∧ namP n N then (n, renR L N, true) else (0, [], false)
-- the statements' own comparisons
theorem pSame_l (l m : List Int) (hlm : l.length = m.length) (hl : l.length ≤ 1048576) (d : Nat) : ∀ i : Nat, i + d = l.length → Ev (fun k => laws_pSame.l0 k l m (l.length : Int) (i : Int)) (l.drop i == m.drop i) := by
 induction d with
 | zero =>
  intro i hi
  refine Ev.shift ?_
  simp only [laws_pSame.l0]
  refine Ev.neg (by omega) (Ev.ret ?_)
  rw [List.drop_of_length_le (by omega), List.drop_of_length_le (by omega)]; rfl
 | succ d ih =>
  intro i hi
  have e := ih (i + 1) (by omega)
  have f1 : (i : Int) < l.length := by omega
  have f2 : (i : Int) < m.length := by omega
  refine Ev.shift ?_
  simp only [laws_pSame.l0]
  refine Ev.pos f1 (Ev.pos (by omega) (Ev.pos f1 (Ev.pos f2 ?_)))
  rw [wrap64_id (by omega) (by omega), cast1, drop_rd l i (by omega), drop_rd m i (by omega)]
  by_cases hc : rd l (i : Int) = rd m (i : Int)
  ·refine Ev.pos hc (Ev.eq e ?_)
   rw [hc]; simp
  ·refine Ev.neg hc (Ev.ret ?_)
   symm; rw [beq_eq_false_iff_ne]; intro h; exact hc (List.cons.inj h).1
theorem pSame_ev (l m : List Int) (hl : l.length ≤ 1048576) : Ev (fun k => laws_pSame.f k l m) (l == m) := by
 unfold laws_pSame.f
 by_cases h : (l.length : Int) = m.length
 ·refine Ev.pos h ?_
  simpa using pSame_l l m (by omega) hl l.length 0 (by omega)
 ·refine Ev.neg h (Ev.ret ?_)
  symm; rw [beq_eq_false_iff_ne]; intro e; exact h (by rw [e])
-- a set asked by the statements
theorem pIn_all : ∀ x : Fin 1024, ∀ j : Fin 10, laws_pIn.f (x.val : Int) (j.val : Int) = some (bit (x.val : Int) j.val) := by decide +kernel
theorem pIn_f {x : Int} (h0 : 0 ≤ x) (h1 : x < 1024) {j : Nat} (hj : j < 10) : laws_pIn.f x (j : Int) = some (bit x j) := by
 obtain ⟨m, rfl⟩ : ∃ m : Nat, x = m := ⟨x.toNat, by omega⟩
 exact pIn_all ⟨m, by omega⟩ ⟨j, hj⟩
theorem mirror_ev {n : Int} {L : List Int} (h : relP n L) : Ev (fun k => impl_Order_mirror.f k n L) (n, rel (fun i j => lt L j i) L.length) := by
 have e1 := h.2.1
 have e3 := h.1
 unfold impl_Order_mirror.f
 have hrel := relation_ev (fun i j => lt L j i) L.length (by omega) (fun _ u0_ u1_ => impl_Order_mirror_1.f u0_ u1_ n L) (fun i j hi hj => Ev.const (by
  unfold impl_Order_mirror_1.f
  rw [better_f n L hj (h.set hj) (by omega), Option.bind_some]; rfl))
 rw [e1] at hrel
 exact Ev.bind hrel (Ev.ret rfl)
theorem all_f {n : Int} {L : List Int} (h : relP n L) : impl_Order_all.f n L = some (full n) := by
 unfold impl_Order_all.f
 rw [if_pos h.1.1]; rfl
def freeP (L : List Int) (i j : Nat) : Bool := !lt L i j && !lt L j i && !decide (j = i)
theorem near_val {n : Int} {L : List Int} (h : relP n L) {i : Nat} (hi : i < L.length) :
  Go.bits .andNot .i64 (Go.bits .andNot .i64 (Go.bits .andNot .i64 (full n) (rd L (i : Int))) (rd (rel (fun i j => lt L j i) L.length) (i : Int))) (shl .i64 1 (i : Int)) = rowf (freeP L i) L.length := by
 have e1 := h.2.1
 have e3 := h.1
 have hf := set_full (n := L.length) (by omega)
 rw [e1] at hf
 have hm := rel_set (p := fun i j => lt L j i) (n := L.length) (by omega) hi
 have hm2 := rel_lt (p := fun i j => lt L j i) (n := L.length) (by omega) hi
 have a1 := set_andNot hf.1 (h.set hi)
 have a2 := set_andNot a1.1 hm
 have a3 := set_andNot a2.1 (set_shl (j := i) (by omega)).1
 have hr := rowf_bits (freeP L i) L.length (by omega)
 refine set_ext a3.1 hr.1 (fun j hj => ?_)
 rw [a3.2, a2.2, a1.2, hf.2, (set_shl (j := i) (by omega)).2, hr.2]
 rw [show bit (rd (rel (fun i j => lt L j i) L.length) (i : Int)) j = (decide (j < L.length) && lt L j i) from hm2 j]
 unfold freeP lt
 by_cases hjn : j < L.length
 ·simp [hjn]
  try (cases bit (rd L (i : Int)) j <;> cases bit (rd L (j : Int)) i <;> simp)
 ·simp [hjn]
theorem near_l {n : Int} {L : List Int} (h : relP n L) (d : Nat) : ∀ (i : Nat), i + d = L.length → Ev (fun k => impl_Order_indifferent.l0 k ((rel (freeP L) L.length).take i) n (i : Int) n L n (rel (fun i j => lt L j i) L.length)) (rel (freeP L) L.length) := by
 have e1 := h.2.1
 have e3 := h.1
 induction d with
 | zero =>
  intro i hi
  refine Ev.shift ?_
  simp only [impl_Order_indifferent.l0]
  exact Ev.neg (by omega) (Ev.ret (by rw [List.take_of_length_le (by rw [rel_length]; omega)]))
 | succ d ih =>
  intro i hi
  have := ih (i + 1) (by omega)
  rw [List.take_succ_eq_append_getElem (by rw [rel_length]; omega), ← rd_lt _ i (by rw [rel_length]; omega), rel_get _ _ i (by omega)] at this
  refine Ev.shift ?_
  simp only [impl_Order_indifferent.l0]
  refine Ev.pos (by omega) (Ev.bindc (all_f h) (Ev.pos (by omega) (Ev.pos (by omega) (Ev.pos (by rw [rel_length]; omega) (Ev.pos (by rw [List.length_take, rel_length]; omega) ?_)))))
  rw [wrap64_id (by omega) (by omega), cast1, near_val h (by omega)]
  exact this
theorem near_ev {n : Int} {L : List Int} (h : relP n L) : Ev (fun k => impl_Order_indifferent.f k n L) (rel (freeP L) L.length) := by
 unfold impl_Order_indifferent.f
 exact Ev.bind (mirror_ev h) (near_l h L.length 0 (by omega))
end Go.Proofs.YtpphkeijklffgaaDoor.Pure
namespace Go.Proofs.YtpphkeijklffgaaDoor.Pure
open Go.RowKit Go.Proofs.YtpphkeijklffgaaDoor.Q Go.Proofs.YtpphkeijklffgaaDoorW.PrintWords Go.Proofs.YtpphkeijklffgaaDoorW.PrintLast
set_option linter.unusedVariables false
set_option linter.unusedSimpArgs false
end Go.Proofs.YtpphkeijklffgaaDoor.Pure
namespace Go.Proofs.YtpphkeijklffgaaDoor.Pure
open Go.RowKit Go.Proofs.YtpphkeijklffgaaDoor.Q Go.Proofs.YtpphkeijklffgaaDoorW.PrintWords Go.Proofs.YtpphkeijklffgaaDoorW.PrintLast
set_option linter.unusedVariables false
set_option linter.unusedSimpArgs false
def fits (L : List Int) (S : Int) (i : Nat) : Prop := Go.bits .andNot .i64 (Go.bits .andNot .i64 S (rd (rel (freeP L) L.length) (i : Int))) (shl .i64 1 (i : Int)) = 0
instance (L : List Int) (S : Int) (i : Nat) : Decidable (fits L S i) := by unfold fits; infer_instance
def antiP (L : List Int) (S : Int) : Prop := ∀ i, i < L.length → bit S i = true → fits L S i
section
variable {n : Int} {L : List Int}
theorem fits_iff (h : relP n L) {S : Int} (hS : setP S) {i : Nat} (hi : i < L.length) : fits L S i ↔ ∀ j, j < 10 → bit S j = true → (j < L.length ∧ freeP L i j = true) ∨ j = i := by
 have h10 : L.length ≤ 10 := by have := h.1; have := h.2.1; omega
 have hm := rel_set (p := freeP L) (n := L.length) h10 hi
 have a1 := set_andNot hS hm
 have a2 := set_andNot a1.1 (set_shl (j := i) (by omega)).1
 unfold fits
 rw [set_eq_zero a2.1]
 refine forall_congr' fun j => ?_
 refine imp_congr_right fun hj => ?_
 rw [a2.2, a1.2, (set_shl (j := i) (by omega)).2, show bit (rd (rel (freeP L) L.length) (i : Int)) j = (decide (j < L.length) && freeP L i j) from rel_lt h10 hi j]
 constructor
 ·intro g hb
  by_cases e2 : j = i
  ·exact .inr e2
  ·refine .inl ?_
   rw [hb] at g
   simp only [Bool.true_and, e2, decide_false, Bool.not_false, Bool.and_true, Bool.not_eq_false', Bool.and_eq_true, decide_eq_true_eq] at g
   exact g
 ·intro g
  cases hb : bit S j
  ·rfl
  ·rcases g hb with ⟨g1, g2⟩ | g1
   ·simp [g1, g2]
   ·simp [g1]
theorem cmp_f (a b : Int) : cmp_Compare_int.f a b = some (if a < b then -1 else if a > b then 1 else 0) := by
 unfold cmp_Compare_int.f cmp_isNaN_int.f
 simp only [Option.bind_some, bne_self_eq_false, Bool.false_eq_true, if_false]
 by_cases h : a < b
 ·simp [h]
 ·by_cases h2 : a > b
  ·simp [h, h2]
  ·simp [h, h2]
theorem anti_no (h : relP n L) (S N : Int) (x3 : List Int) (hS : setP S) (R : List Int) (hR : Ev (fun k => impl_Order_antichain.l0 k x3 (rel (freeP L) L.length) N (wrap64 (S + 1))) R) (d : Nat) :
  ∀ q : Nat, q + d = (bitsOf S).length → Ev (fun k => impl_Order_antichain.l1 k x3 (rel (freeP L) L.length) S (bitsOf S) false N S (bitsOf S) ((bitsOf S).length : Int) (q : Int)) R := by
 have hl := bitsOf_len S
 induction d with
 | zero =>
  intro q hq
  refine Ev.shift ?_
  simp only [impl_Order_antichain.l1]
  exact Ev.neg (by omega) (Ev.neg (by simp) hR)
 | succ d ih =>
  intro q hq
  refine Ev.shift ?_
  simp only [impl_Order_antichain.l1]
  refine Ev.pos (by omega) (Ev.pos (by omega) (Ev.pos (by omega) (Ev.neg (by simp) ?_)))
  rw [wrap64_id (by omega) (by omega), cast1]
  exact ih (q + 1) (by omega)
theorem el_of (S : Int) {q : Nat} (hq : q < (bitsOf S).length) : ∃ i : Nat, i < 10 ∧ bit S i = true ∧ rd (bitsOf S) (q : Int) = i := by
 have := List.getElem_mem hq
 rw [← rd_lt _ q hq] at this
 obtain ⟨i, h1, h2, h3⟩ := mem_bitsOf.1 this
 exact ⟨i, h1, h2, h3⟩
theorem anti_l1 (h : relP n L) (S N : Int) (x3 : List Int) (hS : setP S) (hb : ∀ j, bit S j = true → j < L.length) (R : List Int) (hF : ¬ antiP L S → Ev (fun k => impl_Order_antichain.l0 k x3 (rel (freeP L) L.length) N (wrap64 (S + 1))) R)
  (hT : antiP L S → Ev (fun k => (if ((bitsOf S).length : Int) > (x3.length : Int) then (impl_Order_antichain.l0 k (bitsOf S) (rel (freeP L) L.length) N (wrap64 (S + 1))) else (if ((bitsOf S).length : Int) = (x3.length : Int) then ((slices_Compare_int_int.f k (bitsOf S) x3).bind fun t => (if t < 0 then (impl_Order_antichain.l0 k (bitsOf S) (rel (freeP L) L.length) N (wrap64 (S + 1))) else (impl_Order_antichain.l0 k x3 (rel (freeP L) L.length) N (wrap64 (S + 1))))) else (impl_Order_antichain.l0 k x3 (rel (freeP L) L.length) N (wrap64 (S + 1)))))) R) (d : Nat) :
  ∀ q : Nat, q + d = (bitsOf S).length → (∀ p : Nat, p < q → ∀ i : Nat, rd (bitsOf S) (p : Int) = i → fits L S i) → Ev (fun k => impl_Order_antichain.l1 k x3 (rel (freeP L) L.length) S (bitsOf S) true N S (bitsOf S) ((bitsOf S).length : Int) (q : Int)) R := by
 have hl := bitsOf_len S
 induction d with
 | zero =>
  intro q hq hp
  have ha : antiP L S := fun i hi hbi => by
   obtain ⟨p, hp2, e⟩ := List.mem_iff_getElem.1 (mem_bitsOf.2 ⟨i, by have := h.1; have := h.2.1; omega, hbi, rfl⟩ : (i : Int) ∈ bitsOf S)
   exact hp p (by omega) i (by rw [rd_lt _ p hp2]; exact e)
  refine Ev.shift ?_
  simp only [impl_Order_antichain.l1]
  exact Ev.neg (by omega) (Ev.pos ⟨⟩ (hT ha))
 | succ d ih =>
  intro q hq hp
  obtain ⟨i, h1, h2, h3⟩ := el_of S (q := q) (by omega)
  have hi := hb i h2
  refine Ev.shift ?_
  simp only [impl_Order_antichain.l1]
  rw [h3, wrap64_id (x := (q : Int) + 1) (by omega) (by omega), cast1]
  refine Ev.pos (by omega) (Ev.pos (by omega) (Ev.pos (by omega) (Ev.pos ⟨⟩ (Ev.pos (by omega) (Ev.pos (by rw [rel_length]; omega) ?_)))))
  by_cases hf : fits L S i
  ·have := ih (q + 1) (by omega) (fun p hp2 j hj => by
    by_cases e : p = q
    ·subst e
     have : j = i := by omega
     subst this; exact hf
    ·exact hp p (by omega) j hj)
   rw [show (Go.bits .andNot .i64 (Go.bits .andNot .i64 S (rd (rel (freeP L) L.length) (i : Int))) (shl .i64 1 (i : Int)) == 0) = true from beq_iff_eq.2 hf]
   exact this
  ·have := anti_no h S N x3 hS R (hF fun ha => hf (ha i hi h2)) d (q + 1) (by omega)
   rw [show (Go.bits .andNot .i64 (Go.bits .andNot .i64 S (rd (rel (freeP L) L.length) (i : Int))) (shl .i64 1 (i : Int)) == 0) = false from beq_eq_false_iff_ne.2 hf]
   exact this
def bestP (L : List Int) (x : List Int) : Prop := x = [] ∨ ∃ S, (setP S ∧ ∀ j, bit S j = true → j < L.length) ∧ antiP L S ∧ x = bitsOf S
theorem set_below {S : Nat} {N : Nat} (hN : N ≤ 10) (hS : S < 2 ^ N) : setP (S : Int) ∧ ∀ j, bit (S : Int) j = true → j < N := by
 have : 2 ^ N ≤ 2 ^ 10 := Nat.pow_le_pow_right (by omega) hN
 refine ⟨⟨by omega, by omega⟩, fun j hj => ?_⟩
 rw [bit_nat] at hj
 refine Nat.lt_of_not_le fun hle => ?_
 have h2 : S < 2 ^ j := Nat.lt_of_lt_of_le hS (Nat.pow_le_pow_right (by omega) hle)
 rw [Nat.testBit_lt_two_pow h2] at hj
 cases hj
theorem pow_all : ∀ m : Fin 11, shl .i64 1 (m.val : Int) = ((2 ^ m.val : Nat) : Int) := by decide +kernel
end
-- the first list of numbers below n that goes on another one and fits at each step
def findP (fits : List Int → Int → Bool) (n : Nat) : Nat → List Int → Option (List Int)
 | 0, l => some l
 | m + 1, l => (List.range n).findSome? fun x : Nat => if fits l (x : Int) = true then findP fits n m (l ++ [(x : Int)]) else none
def okS (fits : List Int → Int → Bool) : List Int → List Int → Prop
 | _, [] => True
 | l, x :: s => fits l x = true ∧ okS fits (l ++ [x]) s
theorem findP_sound {fits : List Int → Int → Bool} {n : Nat} : ∀ (m : Nat) (l r : List Int), findP fits n m l = some r → ∃ s, r = l ++ s ∧ s.length = m ∧ (∀ x ∈ s, 0 ≤ x ∧ x < (n : Int)) ∧ okS fits l s
 | 0, l, r, h => by
  unfold findP at h
  exact ⟨[], by rw [List.append_nil]; exact (Option.some.inj h).symm, rfl, by simp, trivial⟩
 | m + 1, l, r, h => by
  unfold findP at h
  obtain ⟨x, hx, h⟩ := List.exists_of_findSome?_eq_some h
  split at h
  ·rename_i hf
   obtain ⟨s, h1, h2, h3, h4⟩ := findP_sound m _ r h
   refine ⟨(x : Int) :: s, by rw [h1]; simp, by simp [h2], fun y hy => ?_, hf, h4⟩
   rcases List.mem_cons.1 hy with rfl | hy
   ·have := List.mem_range.1 hx; omega
   ·exact h3 y hy
  ·cases h
theorem findP_complete {fits : List Int → Int → Bool} {n : Nat} : ∀ (m : Nat) (l s : List Int), s.length = m → (∀ x ∈ s, 0 ≤ x ∧ x < (n : Int)) → okS fits l s → ∃ r, findP fits n m l = some r
 | 0, l, s, _, _, _ => ⟨l, rfl⟩
 | m + 1, l, [], h, _, _ => by cases h
 | m + 1, l, x :: s, h, hx, ho => by
  obtain ⟨r, hr⟩ := findP_complete m (l ++ [x]) s (by simpa using h) (fun y hy => hx y (List.mem_cons_of_mem _ hy)) ho.2
  have h0 := hx x List.mem_cons_self
  unfold findP
  cases hc : (List.range n).findSome? fun x : Nat => if fits l (x : Int) = true then findP fits n m (l ++ [(x : Int)]) else none with
  | some r => exact ⟨r, rfl⟩
  | none =>
   have := List.findSome?_eq_none_iff.1 hc x.toNat (List.mem_range.2 (by omega))
   rw [show ((x.toNat : Nat) : Int) = x by omega, if_pos ho.1, hr] at this
   cases this
def lexN : List Int → List Int → Prop
 | x :: s, y :: t => x < y ∨ x = y ∧ lexN s t
 | _, _ => False
end Go.Proofs.YtpphkeijklffgaaDoor.Pure
