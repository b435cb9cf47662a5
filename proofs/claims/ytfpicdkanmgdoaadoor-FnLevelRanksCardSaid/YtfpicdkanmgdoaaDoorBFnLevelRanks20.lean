import Derived.Test.YtfpicdkanmgdoaaDoorBFnLevelRanks19
namespace Go.Proofs.YtfpicdkanmgdoaaDoor.Pure
open Go.RowKit Go.Proofs.YtfpicdkanmgdoaaDoor.Q Go.Proofs.YtfpicdkanmgdoaaDoorW.PrintWords Go.Proofs.YtfpicdkanmgdoaaDoorW.PrintLast
set_option linter.unusedVariables false
set_option linter.unusedSimpArgs false
def vOf (l : List Int) (i : Nat) : Nat := (rd l (i : Int)).toNat
theorem linP_le (v : Nat → Nat) : ∀ n, n ≤ 10 → linP v n ≤ 10 ^ n
 | 0, _ => Nat.le_refl 1
 | n + 1, h => by
  have h1 := linP_le v n (by omega)
  have h2 : (sumR n fun i => if v i = v n then 1 else 0) ≤ n * 1 := sumR_le (fun i hi => by split <;> omega)
  rw [linP, Nat.pow_succ]
  exact Nat.mul_le_mul h1 (by omega)
theorem count_sumR (l : List Int) (hb : ∀ x ∈ l, 0 ≤ x ∧ x < 10) (x : Int) (hx : 0 ≤ x) : ∀ i, i ≤ l.length → List.count x (l.take i) = sumR i fun j => if vOf l j = x.toNat then 1 else 0
 | 0, _ => by simp [sumR]
 | i + 1, h => by
  rw [count_take l x i (by omega), count_sumR l hb x hx i (by omega), sumR]
  have h1 := hb (rd l (i : Int)) (by rw [rd_lt l i (by omega)]; exact List.getElem_mem _)
  congr 1
  unfold vOf
  by_cases e : rd l (i : Int) = x
  ·rw [if_pos e, if_pos (by rw [e])]
  ·rw [if_neg e, if_neg (by omega)]
theorem linear_val (l : List Int) (hl : l.length ≤ 10) (hb : ∀ x ∈ l, 0 ≤ x ∧ x < 10) (d : Nat) : ∀ (i : Nat) (y : List Int), i + d = l.length → y.length = 10 → (∀ v : Nat, v < 10 → rd y (v : Int) = (List.count (v : Int) (l.take i) : Int)) →
  Ev (fun k => impl_CountLinear.l0 k ((linP (vOf l) i : Nat) : Int) y l (l.length : Int) (i : Int)) (((linP (vOf l) l.length : Nat) : Int), true) := by
 induction d with
 | zero =>
  intro i y hi hy hv
  refine Ev.shift ?_
  simp only [impl_CountLinear.l0]
  refine Ev.neg (by omega) (Ev.ret ?_)
  rw [show i = l.length by omega]
 | succ d ih =>
  intro i y hi hy hv
  have hx := hb (rd l (i : Int)) (by rw [rd_lt l i (by omega)]; exact List.getElem_mem _)
  obtain ⟨v, hvx⟩ : ∃ v : Nat, rd l (i : Int) = v := ⟨(rd l (i : Int)).toNat, by omega⟩
  have hc : List.count (rd l (i : Int)) (l.take i) ≤ 10 := by
   have := List.count_le_length (a := rd l (i : Int)) (l := l.take i)
   simp at this; omega
  have hyv := hv v (by omega)
  have hs : rd (y.set v (wrap64 (rd y (v : Int) + 1))) (v : Int) = 1 + (List.count (v : Int) (l.take i) : Int) := by
   rw [rd_lt _ v (by simp; omega), List.getElem_set_self, hyv, wrap64_id (by rw [hvx] at hc; omega) (by rw [hvx] at hc; omega)]; omega
  have hcs := count_sumR l hb (v : Int) (by omega) i (by omega)
  have hlin : linP (vOf l) (i + 1) = linP (vOf l) i * (1 + List.count (v : Int) (l.take i)) := by
   rw [linP, hcs]
   congr 2
   refine sumR_congr fun j _ => ?_
   rw [show vOf l i = ((v : Nat) : Int).toNat by unfold vOf; rw [hvx]]
  have hle := linP_le (vOf l) (i + 1) (by omega)
  have hp : 10 ^ (i + 1) ≤ 10 ^ 10 := Nat.pow_le_pow_right (by omega) (by omega)
  have hw : wrap64 (((linP (vOf l) i : Nat) : Int) * (1 + (List.count (v : Int) (l.take i) : Int))) = ((linP (vOf l) (i + 1) : Nat) : Int) := by
   rw [show ((linP (vOf l) i : Nat) : Int) * (1 + (List.count (v : Int) (l.take i) : Int)) = ((linP (vOf l) i * (1 + List.count (v : Int) (l.take i)) : Nat) : Int) by push_cast; rfl, ← hlin]
   exact wrap64_id (by omega) (by omega)
  have h1 := ih (i + 1) (y.set v (wrap64 (rd y (v : Int) + 1))) (by omega) (by simp; omega) (fun u hu => by
   rw [count_take l _ i (by omega), hvx]
   by_cases e : v = u
   ·subst e; rw [hs]; simp; omega
   ·rw [rd_lt _ u (by simp; omega), List.getElem_set_ne e, ← rd_lt y u (by omega), hv u hu, if_neg (by omega)]; simp)
  refine Ev.shift ?_
  simp only [impl_CountLinear.l0]
  refine Ev.pos (by omega) (Ev.pos (by omega) (Ev.pos (by omega) (Ev.pos (by omega) (Ev.pos (by omega) (Ev.bindc rfl ?_)))))
  rw [wrap64_id (x := (i : Int) + 1) (by omega) (by omega), hvx, cast1, Int.toNat_natCast, hs, hw]
  exact h1
theorem CountLinear_val {l : List Int} (h : lvlP l) : Ev (fun k => impl_CountLinear.f k l) (((linP (vOf l) l.length : Nat) : Int), true) := by
 unfold impl_CountLinear.f
 obtain ⟨n, hn, hx⟩ := lvl_fill h
 have h1 := linear_val l h.1 (fun x hm => by have := (hx x).1 hm; omega) l.length 0 (List.replicate 10 0) (by omega) (by simp) (fun v hv => by rw [rd_lt _ v (by rw [List.length_replicate]; omega), List.getElem_replicate]; simp)
 exact Ev.bind (levels_impl l (by have := h.1; omega)) (Ev.pos (by simpa using h) (Ev.pos (by omega) h1))
end Go.Proofs.YtfpicdkanmgdoaaDoor.Pure
namespace Go.Proofs.YtfpicdkanmgdoaaDoor.Pure
open Go.RowKit Go.Proofs.YtfpicdkanmgdoaaDoor.Q Go.Proofs.YtfpicdkanmgdoaaDoorW.PrintWords Go.Proofs.YtfpicdkanmgdoaaDoorW.PrintLast
set_option linter.unusedVariables false
set_option linter.unusedSimpArgs false
end Go.Proofs.YtfpicdkanmgdoaaDoor.Pure
namespace Go.Proofs.YtfpicdkanmgdoaaDoor.Pure
open Go.RowKit Go.Proofs.YtfpicdkanmgdoaaDoor.Q Go.Proofs.YtfpicdkanmgdoaaDoorW.PrintWords Go.Proofs.YtfpicdkanmgdoaaDoorW.PrintLast
set_option linter.unusedVariables false
set_option linter.unusedSimpArgs false
theorem Ev.up {α : Type} {g : Nat → Option α} {r : α} (h : Ev g r) : Ev (fun k => g (k + 1)) r := by
 obtain ⟨K, hK⟩ := h; exact ⟨K, fun k hk => hK (k + 1) (by omega)⟩
def orb (x : Int) (j : Nat) : Int := Go.bits .or .i64 x (shl .i64 1 (j : Int))
def rowf (p : Nat → Bool) (d : Nat) : Int := (List.range d).foldl (fun x j => if p j then orb x j else x) 0
theorem rowf_succ (p : Nat → Bool) (d : Nat) : rowf p (d + 1) = if p d then orb (rowf p d) d else rowf p d := by
 simp [rowf, List.range_succ, List.foldl_append]
def rel (p : Nat → Nat → Bool) (n : Nat) : List Int := (List.range n).map fun i => rowf (p i) n
theorem rel_length (p : Nat → Nat → Bool) (n : Nat) : (rel p n).length = n := by simp [rel]
theorem rel_get (p : Nat → Nat → Bool) (n i : Nat) (h : i < n) : rd (rel p n) (i : Int) = rowf (p i) n := by
 rw [rd_lt _ i (by rw [rel_length]; exact h)]; simp [rel]
def relUpto (p : Nat → Nat → Bool) (n i : Nat) : List Int := (rel p n).take i ++ List.replicate (n - i) 0
theorem relation_l1 (p : Nat → Nat → Bool) (n : Nat) (hn : n ≤ 1000) (i : Nat) (hi : i < n) (R : Int × List Int) (hR : ∀ g : Nat → Int → Int → Option Bool, (∀ i j : Nat, i < n → j < n → Ev (fun k => g k i j) (p i j)) → ∀ y : List Int, y.length = n → rd y (i : Int) = rowf (p i) n → (∀ m : Nat, m < n → m ≠ i → rd y (m : Int) = if m < i then rowf (p m) n else 0) → Ev (fun k => impl_relation.l0 k n (g k) n ((i + 1 : Nat) : Int) n y) R) (d : Nat) :
  ∀ (j : Nat) (y : List Int) (g : Nat → Int → Int → Option Bool), (∀ i j : Nat, i < n → j < n → Ev (fun k => g k i j) (p i j)) → j + d = n → y.length = n → rd y (i : Int) = rowf (p i) j → (∀ m : Nat, m < n → m ≠ i → rd y (m : Int) = if m < i then rowf (p m) n else 0) →
  Ev (fun k => impl_relation.l1 k n (g k) (i : Int) n (i : Int) n (j : Int) n y) R := by
 induction d with
 | zero =>
  intro j y g hg hj hy h1 h2
  obtain rfl : j = n := by omega
  refine Ev.shift ?_
  simp only [impl_relation.l1]
  refine Ev.neg (by omega) ?_
  rw [wrap64_id (x := (i : Int) + 1) (by omega) (by omega), cast1]
  exact hR (fun k => g (k + 1)) (fun a b ha hb => Ev.up (hg a b ha hb)) y hy h1 h2
 | succ d ih =>
  intro j y g hg hj hy h1 h2
  have hg' : ∀ i j : Nat, i < n → j < n → Ev (fun k => g (k + 1) i j) (p i j) := fun a b ha hb => Ev.up (hg a b ha hb)
  refine Ev.shift ?_
  simp only [impl_relation.l1]
  refine Ev.pos (by omega) (Ev.bind (hg' i j hi (by omega)) ?_)
  rw [wrap64_id (x := (j : Int) + 1) (by omega) (by omega), cast1]
  by_cases hp : p i j = true
  ·refine Ev.pos hp (Ev.pos (by omega) (Ev.pos (by omega) (Ev.pos (by omega) ?_)))
   rw [Int.toNat_natCast]
   refine ih (j + 1) _ (fun k => g (k + 1)) hg' (by omega) (by simp; omega) ?_ ?_
   ·rw [rd_lt _ i (by simp; omega), List.getElem_set_self, rowf_succ, if_pos hp, h1]; rfl
   ·intro m hm hmi
    rw [rd_lt _ m (by simp; omega), List.getElem_set_ne (Ne.symm hmi), ← rd_lt y m (by omega)]
    exact h2 m hm hmi
  ·refine Ev.neg hp (ih (j + 1) y (fun k => g (k + 1)) hg' (by omega) hy ?_ h2)
   rw [rowf_succ, if_neg hp]; exact h1
theorem relation_l0 (p : Nat → Nat → Bool) (n : Nat) (hn : n ≤ 1000) (d : Nat) : ∀ (i : Nat) (y : List Int) (g : Nat → Int → Int → Option Bool), (∀ i j : Nat, i < n → j < n → Ev (fun k => g k i j) (p i j)) → i + d = n → y.length = n → (∀ m : Nat, m < n → rd y (m : Int) = if m < i then rowf (p m) n else 0) →
  Ev (fun k => impl_relation.l0 k n (g k) n (i : Int) n y) ((n : Int), rel p n) := by
 induction d with
 | zero =>
  intro i y g hg hi hy h1
  refine Ev.shift ?_
  simp only [impl_relation.l0]
  refine Ev.neg (by omega) (Ev.ret ?_)
  congr 1
  apply List.ext_getElem (by rw [rel_length]; exact hy)
  intro m hm1 hm2
  have := h1 m (by omega)
  rw [if_pos (by omega), rd_lt y m hm1, ← rel_get p n m (by omega), rd_lt _ m hm2] at this
  exact this
 | succ d ih =>
  intro i y g hg hi hy h1
  refine Ev.shift ?_
  simp only [impl_relation.l0]
  refine Ev.pos (by omega) ?_
  refine relation_l1 p n hn i (by omega) _ (fun g' hg' y' hy' h1' h2' => ih (i + 1) y' g' hg' (by omega) hy' (fun m hm => ?_)) n 0 y (fun k => g (k + 1)) (fun a b ha hb => Ev.up (hg a b ha hb)) (by omega) hy ?_ ?_
  ·by_cases e : m = i
   ·subst e; rw [h1', if_pos (by omega)]
   ·rw [h2' m hm e]
    by_cases hlt : m < i
    ·rw [if_pos hlt, if_pos (by omega)]
    ·rw [if_neg hlt, if_neg (by omega)]
  ·rw [h1 i (by omega), if_neg (by omega)]; rfl
  ·intro m hm e; exact h1 m hm
theorem relation_ev (p : Nat → Nat → Bool) (n : Nat) (hn : n ≤ 1000) (g : Nat → Int → Int → Option Bool) (hg : ∀ i j : Nat, i < n → j < n → Ev (fun k => g k i j) (p i j)) : Ev (fun k => impl_relation.f k n (g k)) ((n : Int), rel p n) := by
 unfold impl_relation.f
 refine Ev.pos (by omega) (Ev.pos (by omega) ?_)
 rw [Int.toNat_natCast]
 exact relation_l0 p n hn n 0 _ g hg (by omega) (by simp) (fun m hm => by rw [rd_lt _ m (by simp; omega), List.getElem_replicate, if_neg (by omega)])
def lvlLt (l : List Int) (i j : Nat) : Bool := decide (rd l (j : Int) > rd l (i : Int))
theorem ofLevels_ev (l : List Int) (hl : l.length ≤ 1000) : Ev (fun k => impl_ofLevels.f k l) ((l.length : Int), rel (lvlLt l) l.length) := by
 unfold impl_ofLevels.f
 refine Ev.bind (relation_ev (lvlLt l) l.length hl (fun _ u0_ u1_ => impl_ofLevels_1.f u0_ u1_ l) (fun i j hi hj => ?_)) (Ev.ret rfl)
 refine Ev.const ?_
 unfold impl_ofLevels_1.f
 rw [if_pos (by omega), if_pos (by omega), if_pos (by omega), if_pos (by omega)]
 rfl
-- sets of elements 0 to 9, as numbers below 1024
theorem Ev.of_mono {α : Type} {g : Nat → Option α} {r : α} (hm : ∀ k, LeO (g k) (g (k + 1))) {K : Nat} (h : g K = some r) : Ev g r := ⟨K, fun _ hk => at_rounds hm hk h⟩
def bit (x : Int) (j : Nat) : Bool := x.toNat.testBit j
def bitsOf (x : Int) : List Int := ((List.range 10).filter (bit x)).map fun (j : Nat) => (j : Int)
theorem members_all : ∀ x : Fin 1024, impl_members.f 12 (x.val : Int) = some (bitsOf (x.val : Int)) := by decide +kernel
theorem shr_all : ∀ x : Fin 1024, ∀ j : Fin 10, ((Go.bits .and .i64 (shr .i64 (x.val : Int) (j.val : Int)) 1) == 1) = bit (x.val : Int) j.val := by decide +kernel
theorem members_ev {x : Int} (h0 : 0 ≤ x) (h1 : x < 1024) : Ev (fun k => impl_members.f k x) (bitsOf x) := by
 obtain ⟨m, rfl⟩ : ∃ m : Nat, x = m := ⟨x.toNat, by omega⟩
 exact Ev.of_mono (impl_members.mono _) (members_all ⟨m, by omega⟩)
theorem shr_bit {x : Int} (h0 : 0 ≤ x) (h1 : x < 1024) {j : Nat} (hj : j < 10) : ((Go.bits .and .i64 (shr .i64 x (j : Int)) 1) == 1) = bit x j := by
 obtain ⟨m, rfl⟩ : ∃ m : Nat, x = m := ⟨x.toNat, by omega⟩
 exact shr_all ⟨m, by omega⟩ ⟨j, hj⟩
theorem better_f (n : Int) (L : List Int) {i j : Nat} (hi : i < L.length) (hx : 0 ≤ rd L (i : Int) ∧ rd L (i : Int) < 1024) (hj : j < 10) : impl_Order_better.f n L (i : Int) (j : Int) = some (bit (rd L (i : Int)) j) := by
 unfold impl_Order_better.f
 rw [if_pos (by omega), if_pos (by omega), if_pos (by omega), shr_bit hx.1 hx.2 hj]
theorem mem_bitsOf {x j : Int} : j ∈ bitsOf x ↔ ∃ i : Nat, i < 10 ∧ bit x i = true ∧ j = i := by
 simp only [bitsOf, List.mem_map, List.mem_filter, List.mem_range]
 constructor
 ·rintro ⟨i, ⟨h1, h2⟩, rfl⟩; exact ⟨i, h1, h2, rfl⟩
 ·rintro ⟨i, h1, h2, rfl⟩; exact ⟨i, ⟨h1, h2⟩, rfl⟩
theorem bit_lt {x : Int} {j n : Nat} (h0 : 0 ≤ x) (hx : x < (2 : Int) ^ n) (h : bit x j = true) : j < n := by
 have h1 := Nat.ge_two_pow_of_testBit h
 have h2 : x.toNat < 2 ^ n := by
  have : (x.toNat : Int) < ((2 ^ n : Nat) : Int) := by rw [Int.toNat_of_nonneg h0]; simpa using hx
  omega
 exact (Nat.pow_lt_pow_iff_right (by omega)).1 (Nat.lt_of_le_of_lt h1 h2)
theorem full_val : ∀ n : Fin 11, wrap64 (shl .i64 1 (n.val : Int) - 1) = (2 : Int) ^ n.val - 1 := by decide +kernel
theorem full_le : ∀ n : Fin 11, (2 : Int) ^ n.val - 1 ≤ 1023 := by decide +kernel
def full (n : Int) : Int := wrap64 (shl .i64 1 n - 1)
theorem full_pow {n : Nat} (h : n ≤ 10) : full (n : Int) = (2 : Int) ^ n - 1 := full_val ⟨n, by omega⟩
theorem full_1023 {n : Nat} (h : n ≤ 10) : full (n : Int) ≤ 1023 := by rw [full_pow h]; exact full_le ⟨n, by omega⟩
def andN (x y : Int) : Int := Go.bits .andNot .i64 x y
def relP (n : Int) (L : List Int) : Prop := (0 ≤ n ∧ n ≤ 10) ∧ (L.length : Int) = n ∧ ∀ x ∈ L, 0 ≤ x ∧ x ≤ full n
instance (n : Int) (L : List Int) : Decidable (relP n L) := by unfold relP; infer_instance
def rowOk (L : List Int) (m : Nat) : Prop := bit (rd L (m : Int)) m = false ∧ ∀ j ∈ bitsOf (rd L (m : Int)), andN (rd L j) (rd L (m : Int)) = 0
instance (L : List Int) (m : Nat) : Decidable (rowOk L m) := by unfold rowOk; infer_instance
def orderP (n : Int) (L : List Int) : Prop := relP n L ∧ ∀ m : Nat, m < L.length → rowOk L m
instance (n : Int) (L : List Int) : Decidable (orderP n L) := by unfold orderP; infer_instance
theorem relP.row {n : Int} {L : List Int} (h : relP n L) {i : Nat} (hi : i < L.length) : 0 ≤ rd L (i : Int) ∧ rd L (i : Int) < 1024 ∧ rd L (i : Int) < (2 : Int) ^ L.length := by
 obtain ⟨⟨h0, h1⟩, h2, h3⟩ := h
 have := h3 (rd L (i : Int)) (by rw [rd_lt L i hi]; exact List.getElem_mem _)
 have e : n = (L.length : Int) := h2.symm
 subst e
 have f := full_pow (n := L.length) (by omega)
 have g := full_1023 (n := L.length) (by omega)
 omega
theorem relP.bits {n : Int} {L : List Int} (h : relP n L) {i : Nat} (hi : i < L.length) {j : Int} (hj : j ∈ bitsOf (rd L (i : Int))) : ∃ m : Nat, j = m ∧ m < L.length ∧ bit (rd L (i : Int)) m = true := by
 obtain ⟨m, _, hb, rfl⟩ := mem_bitsOf.1 hj
 have := h.row hi
 exact ⟨m, rfl, bit_lt this.1 this.2.2 hb, hb⟩
theorem allWithin_l (a b : Int) (l : List Int) (hl : l.length ≤ 1048576) (d : Nat) : ∀ i : Nat, i + d = l.length → Ev (fun k => impl_allWithin.l0 k a b l (l.length : Int) i) (decide (∀ x ∈ l.drop i, a ≤ x ∧ x ≤ b)) := by
 induction d with
 | zero =>
  intro i hi
  refine Ev.shift ?_
  simp only [impl_allWithin.l0]
  refine Ev.neg (by omega) (Ev.ret ?_)
  rw [List.drop_of_length_le (by omega)]; simp
 | succ d ih =>
  intro i hi
  refine Ev.shift ?_
  simp only [impl_allWithin.l0]
  refine Ev.pos (by omega) (Ev.pos (by omega) (Ev.pos (by omega) (Ev.bindc (impl_in _ _ _) ?_)))
  rw [wrap64_id (by omega) (by omega), cast1, drop_rd l i (by omega)]
  by_cases hc : a ≤ rd l (i : Int) ∧ rd l (i : Int) ≤ b
  ·exact Ev.pos (by simpa using hc) (Ev.eq (ih (i + 1) (by omega)) (by simp [hc]))
  ·refine Ev.neg (by simpa using hc) (Ev.ret ?_)
   symm; rw [decide_eq_false_iff_not]; intro h; exact hc (h _ (by simp))
theorem allWithin_ev (a b : Int) (l : List Int) (hl : l.length ≤ 1048576) : Ev (fun k => impl_allWithin.f k l a b) (decide (∀ x ∈ l, a ≤ x ∧ x ≤ b)) := by
 unfold impl_allWithin.f
 simpa using allWithin_l a b l hl l.length 0 (by omega)
theorem isRelation_ev (n : Int) (L : List Int) (hl : L.length ≤ 1048576) : Ev (fun k => impl_IsRelation.f k n L) (decide (relP n L)) := by
 unfold impl_IsRelation.f
 refine Ev.bindc (impl_in _ _ _) ?_
 by_cases h : 0 ≤ n ∧ n ≤ 10
 ·refine Ev.pos (by simpa using h) ?_
  by_cases h2 : (L.length : Int) = n
  ·refine Ev.pos h2 (Ev.pos h.1 (Ev.bind (allWithin_ev 0 (full n) L hl) (Ev.ret ?_)))
   rw [Bool.eq_iff_iff, decide_eq_true_iff, decide_eq_true_iff]
   exact ⟨fun h3 => ⟨h, h2, h3⟩, fun h3 => h3.2.2⟩
  ·refine Ev.neg h2 (Ev.ret ?_)
   symm; rw [decide_eq_false_iff_not]; exact fun h3 => h2 h3.2.1
 ·refine Ev.neg (by simpa using h) (Ev.ret ?_)
  symm; rw [decide_eq_false_iff_not]; exact fun h3 => h h3.1
theorem isOrder_l1 (n : Int) (L : List Int) (hr : relP n L) (i : Nat) (hi : i < L.length) (r : Bool) (hk : Ev (fun k => impl_IsOrder.l0 k L (L.length : Int) ((i + 1 : Nat) : Int) n L) r) (d : Nat) :
  ∀ q : Nat, q + d = (bitsOf (rd L (i : Int))).length → Ev (fun k => impl_IsOrder.l1 k (rd L (i : Int)) L (L.length : Int) (i : Int) (bitsOf (rd L (i : Int))) ((bitsOf (rd L (i : Int))).length : Int) (q : Int) n L) (decide (∀ j ∈ (bitsOf (rd L (i : Int))).drop q, andN (rd L j) (rd L (i : Int)) = 0) && r) := by
 have hle : L.length ≤ 10 := by have := hr.1; have := hr.2.1; omega
 have hbl : (bitsOf (rd L (i : Int))).length ≤ 10 := by
  have := List.length_filter_le (bit (rd L (i : Int))) (List.range 10)
  simpa [bitsOf] using this
 induction d with
 | zero =>
  intro q hq
  refine Ev.shift ?_
  simp only [impl_IsOrder.l1]
  refine Ev.neg (by omega) ?_
  rw [wrap64_id (by omega) (by omega), cast1, List.drop_of_length_le (by omega)]
  exact Ev.eq hk (by simp)
 | succ d ih =>
  intro q hq
  obtain ⟨m, hm, hml, _⟩ := hr.bits hi (j := rd (bitsOf (rd L (i : Int))) (q : Int)) (by rw [rd_lt _ q (by omega)]; exact List.getElem_mem _)
  refine Ev.shift ?_
  simp only [impl_IsOrder.l1]
  refine Ev.pos (by omega) (Ev.pos (by omega) (Ev.pos (by omega) (Ev.pos (by omega) (Ev.pos (by omega) ?_))))
  rw [wrap64_id (x := (q : Int) + 1) (by omega) (by omega), cast1, drop_rd _ q (by omega)]
  by_cases hc : Go.bits .andNot .i64 (rd L (rd (bitsOf (rd L (i : Int))) (q : Int))) (rd L (i : Int)) = 0
  ·exact Ev.pos hc (Ev.eq (ih (q + 1) (by omega)) (by
    have hc' : andN (rd L (rd (bitsOf (rd L (i : Int))) (q : Int))) (rd L (i : Int)) = 0 := hc
    simp [hc']))
  ·refine Ev.neg hc (Ev.ret ?_)
   have hc' : ¬ andN (rd L (rd (bitsOf (rd L (i : Int))) (q : Int))) (rd L (i : Int)) = 0 := hc
   simp [hc']
theorem isOrder_l0 (n : Int) (L : List Int) (hr : relP n L) (d : Nat) : ∀ i : Nat, i + d = L.length → Ev (fun k => impl_IsOrder.l0 k L (L.length : Int) (i : Int) n L) (decide (∀ m : Nat, m < L.length → i ≤ m → rowOk L m)) := by
 have hle : L.length ≤ 10 := by have := hr.1; have := hr.2.1; omega
 induction d with
 | zero =>
  intro i hi
  refine Ev.shift ?_
  simp only [impl_IsOrder.l0]
  refine Ev.neg (by omega) (Ev.ret ?_)
  symm; rw [decide_eq_true_iff]; intro m h1 h2; omega
 | succ d ih =>
  intro i hi
  have hrow := hr.row (i := i) (by omega)
  have hsplit : (∀ m : Nat, m < L.length → i ≤ m → rowOk L m) ↔ rowOk L i ∧ ∀ m : Nat, m < L.length → i + 1 ≤ m → rowOk L m := by
   constructor
   ·intro h; exact ⟨h i (by omega) (Nat.le_refl _), fun m h1 h2 => h m h1 (by omega)⟩
   ·rintro ⟨h1, h2⟩ m h3 h4
    by_cases e : m = i
    ·subst e; exact h1
    ·exact h2 m h3 (by omega)
  refine Ev.shift ?_
  simp only [impl_IsOrder.l0]
  refine Ev.pos (by omega) (Ev.pos (by omega) (Ev.pos (by omega) (Ev.bindc (better_f n L (by omega) ⟨hrow.1, hrow.2.1⟩ (by omega)) ?_)))
  by_cases hb : bit (rd L (i : Int)) i = true
  ·refine Ev.pos hb (Ev.ret ?_)
   symm; rw [decide_eq_false_iff_not, hsplit]; intro h
   rw [h.1.1] at hb; cases hb
  ·refine Ev.neg hb (Ev.bind (members_ev hrow.1 hrow.2.1) ?_)
   refine Ev.eq (isOrder_l1 n L hr i (by omega) _ (ih (i + 1) (by omega)) (bitsOf (rd L (i : Int))).length 0 (by omega)) ?_
   rw [Bool.eq_iff_iff, Bool.and_eq_true, decide_eq_true_iff, decide_eq_true_iff, decide_eq_true_iff, hsplit, List.drop_zero]
   constructor
   ·rintro ⟨h1, h2⟩; exact ⟨⟨by simpa using hb, h1⟩, h2⟩
   ·rintro ⟨h1, h2⟩; exact ⟨h1.2, h2⟩
theorem isOrder_ev (n : Int) (L : List Int) (hl : L.length ≤ 1048576) : Ev (fun k => impl_IsOrder.f k n L) (decide (orderP n L)) := by
 unfold impl_IsOrder.f
 refine Ev.bind (isRelation_ev n L hl) ?_
 by_cases h : relP n L
 ·refine Ev.pos (by simpa using h) (Ev.eq (isOrder_l0 n L h L.length 0 (by omega)) ?_)
  rw [Bool.eq_iff_iff, decide_eq_true_iff, decide_eq_true_iff]
  exact ⟨fun h2 => ⟨h, fun m hm => h2 m hm (Nat.zero_le _)⟩, fun h2 m hm _ => h2.2 m hm⟩
 ·refine Ev.neg (by simpa using h) (Ev.ret ?_)
  symm; rw [decide_eq_false_iff_not]; exact fun h2 => h h2.1
theorem ofInt64 (a : Nat) (h : a < 18446744073709551616) : (BitVec.ofInt 64 (a : Int)).toNat = a := by
  rw [BitVec.ofInt_natCast, BitVec.toNat_ofNat]; exact Nat.mod_eq_of_lt (by omega)
theorem wrapi64 (a : Nat) (h : a < 9223372036854775808) : IntKind.i64.wrap (a : Int) = a := by
  simp [IntKind.wrap, IntKind.signed, IntKind.bits]; omega
theorem or_nat (a b : Nat) (ha : a < 1024) (hb : b < 1024) : Go.bits .or .i64 (a : Int) (b : Int) = ((a ||| b : Nat) : Int) := by
  have hx : a ||| b < 2 ^ 10 := Nat.or_lt_two_pow (by omega) (by omega)
  show IntKind.i64.wrap ((BitVec.ofInt 64 (a : Int) ||| BitVec.ofInt 64 (b : Int)).toNat : Int) = _
  rw [BitVec.toNat_or, ofInt64 a (by omega), ofInt64 b (by omega), wrapi64 _ (by omega)]
theorem andNot_nat (a b : Nat) (ha : a < 1024) (hb : b < 1024) : Go.bits .andNot .i64 (a : Int) (b : Int) = ((a &&& (18446744073709551615 - b) : Nat) : Int) := by
  have hx : a &&& (18446744073709551615 - b) < 2 ^ 10 := Nat.lt_of_le_of_lt Nat.and_le_left (by omega)
  show IntKind.i64.wrap ((BitVec.ofInt 64 (a : Int) &&& ~~~ BitVec.ofInt 64 (b : Int)).toNat : Int) = _
  rw [BitVec.toNat_and, BitVec.toNat_not, ofInt64 a (by omega), ofInt64 b (by omega)]
  exact wrapi64 (a &&& (18446744073709551615 - b)) (by omega)
def setP (x : Int) : Prop := 0 ≤ x ∧ x < 1024
theorem setP.nat {x : Int} (h : setP x) : ∃ m : Nat, x = m ∧ m < 1024 := by
  obtain ⟨h0, h1⟩ := h; exact ⟨x.toNat, by omega, by omega⟩
theorem bit_nat (m j : Nat) : bit (m : Int) j = m.testBit j := by simp [bit]
theorem set_or {x y : Int} (hx : setP x) (hy : setP y) : setP (Go.bits .or .i64 x y) ∧ ∀ j, bit (Go.bits .or .i64 x y) j = (bit x j || bit y j) := by
  obtain ⟨a, rfl, ha⟩ := hx.nat; obtain ⟨b, rfl, hb⟩ := hy.nat
  have h : a ||| b < 2 ^ 10 := Nat.or_lt_two_pow (by omega) (by omega)
  rw [or_nat a b ha hb]
  exact ⟨⟨by omega, by omega⟩, fun j => by rw [bit_nat, bit_nat, bit_nat, Nat.testBit_or]⟩
theorem set_bit_lt {x : Int} (hx : setP x) {j : Nat} (h : bit x j = true) : j < 10 := bit_lt hx.1 (by have := hx.2; simpa using this) h
theorem set_andNot {x y : Int} (hx : setP x) (hy : setP y) : setP (Go.bits .andNot .i64 x y) ∧ ∀ j, bit (Go.bits .andNot .i64 x y) j = (bit x j && !bit y j) := by
  obtain ⟨a, rfl, ha⟩ := hx.nat; obtain ⟨b, rfl, hb⟩ := hy.nat
  have h : a &&& (18446744073709551615 - b) ≤ a := Nat.and_le_left
  rw [andNot_nat a b ha hb]
  refine ⟨⟨by omega, by omega⟩, fun j => ?_⟩
  rw [bit_nat, bit_nat, bit_nat, Nat.testBit_and]
  by_cases hj : j < 10
  · congr 1
    have e : 18446744073709551615 - b = 2 ^ 64 - (b + 1) := by omega
    rw [e, Nat.testBit_two_pow_sub_succ (by omega)]
    simp; omega
  · have : a.testBit j = false := Nat.testBit_lt_two_pow (Nat.lt_of_lt_of_le ha (by have := Nat.pow_le_pow_right (n := 2) (by omega) (show 10 ≤ j by omega); omega))
    simp [this]
theorem set_ext {x y : Int} (hx : setP x) (hy : setP y) (h : ∀ j, j < 10 → bit x j = bit y j) : x = y := by
  have hall : ∀ j, bit x j = bit y j := by
    intro j
    by_cases hj : j < 10
    · exact h j hj
    · rw [Bool.eq_iff_iff]
      exact ⟨fun h => absurd (set_bit_lt hx h) hj, fun h => absurd (set_bit_lt hy h) hj⟩
  obtain ⟨a, rfl, ha⟩ := hx.nat; obtain ⟨b, rfl, hb⟩ := hy.nat
  have : a = b := Nat.eq_of_testBit_eq fun j => by have := hall j; rwa [bit_nat, bit_nat] at this
  rw [this]
theorem set_zero : setP 0 := ⟨by omega, by omega⟩
theorem bit_zero (j : Nat) : bit 0 j = false := by simp [bit]
theorem set_eq_zero {x : Int} (hx : setP x) : x = 0 ↔ ∀ j, j < 10 → bit x j = false :=
  ⟨fun h j _ => by rw [h]; exact bit_zero j, fun h => set_ext hx set_zero fun j hj => by rw [h j hj, bit_zero]⟩
theorem shl_all : ∀ j : Fin 10, shl .i64 1 (j.val : Int) = ((2 ^ j.val : Nat) : Int) := by decide +kernel
theorem set_shl {j : Nat} (hj : j < 10) : setP (shl .i64 1 (j : Int)) ∧ ∀ m, bit (shl .i64 1 (j : Int)) m = decide (m = j) := by
  have e : shl .i64 1 (j : Int) = ((2 ^ j : Nat) : Int) := shl_all ⟨j, hj⟩
  rw [e]
  have h : 2 ^ j ≤ 2 ^ 9 := Nat.pow_le_pow_right (by omega) (by omega)
  have h2 : (2 ^ j : Nat) < 1024 := by omega
  refine ⟨⟨Int.natCast_nonneg _, Int.ofNat_lt.2 h2⟩, fun m => ?_⟩
  rw [bit_nat, Nat.testBit_two_pow]
  by_cases e : j = m <;> simp [e] <;> omega
theorem set_full {n : Nat} (hn : n ≤ 10) : setP (full (n : Int)) ∧ ∀ m, bit (full (n : Int)) m = decide (m < n) := by
  have h : (2 : Nat) ^ n ≤ 2 ^ 10 := Nat.pow_le_pow_right (by omega) hn
  have e : full (n : Int) = ((2 ^ n - 1 : Nat) : Int) := by
    rw [full_pow hn, Int.natCast_sub (Nat.one_le_two_pow)]; simp
  rw [e]
  refine ⟨⟨by omega, by have : (2 ^ n - 1 : Nat) < 1024 := by omega
                        omega⟩, fun m => ?_⟩
  rw [bit_nat, Nat.testBit_two_pow_sub_one]
theorem andNot_zero {x y : Int} (hx : setP x) (hy : setP y) : andN x y = 0 ↔ ∀ j, j < 10 → bit x j = true → bit y j = true := by
  unfold andN
  rw [set_eq_zero (set_andNot hx hy).1]
  constructor
  · intro h j hj hb
    have := h j hj
    rw [(set_andNot hx hy).2, hb] at this
    simpa using this
  · intro h j hj
    rw [(set_andNot hx hy).2]
    cases hb : bit x j
    · rfl
    · simp [h j hj hb]
theorem relP.set {n : Int} {L : List Int} (h : relP n L) {i : Nat} (hi : i < L.length) : setP (rd L (i : Int)) := ⟨(h.row hi).1, (h.row hi).2.1⟩
def lt (L : List Int) (i j : Nat) : Bool := bit (rd L (i : Int)) j
theorem relP.lt_len {n : Int} {L : List Int} (h : relP n L) {i j : Nat} (hi : i < L.length) (hb : lt L i j = true) : j < L.length := bit_lt (h.row hi).1 (h.row hi).2.2 hb
theorem orderP.trans {n : Int} {L : List Int} (h : orderP n L) {i j m : Nat} (hi : i < L.length) (h1 : lt L i j = true) (h2 : lt L j m = true) : lt L i m = true := by
  have hj := h.1.lt_len hi h1
  have hm := set_bit_lt (h.1.set hj) h2
  have := (h.2 i hi).2 (j : Int) (mem_bitsOf.2 ⟨j, by have := h.1.1; have := h.1.2.1; omega, h1, rfl⟩)
  exact (andNot_zero (h.1.set hj) (h.1.set hi)).1 this m hm h2
theorem rowf_bits (p : Nat → Bool) (d : Nat) : d ≤ 10 → setP (rowf p d) ∧ ∀ m, bit (rowf p d) m = (decide (m < d) && p m) := by
 induction d with
 | zero => intro _; exact ⟨set_zero, fun m => by rw [show rowf p 0 = 0 from rfl, bit_zero]; simp⟩
 | succ d ih =>
  intro hd
  obtain ⟨h1, h2⟩ := ih (by omega)
  rw [rowf_succ]
  by_cases hp : p d = true
  ·rw [if_pos hp]
   have hs := set_shl (j := d) (by omega)
   have ho := set_or h1 hs.1
   refine ⟨ho.1, fun m => ?_⟩
   show bit (Go.bits .or .i64 (rowf p d) (shl .i64 1 (d : Int))) m = _
   rw [ho.2, h2, hs.2]
   by_cases e : m = d
   ·subst e; simp [hp]
   ·by_cases l : m < d
    ·simp [l, e, show m < d + 1 by omega]
    ·simp [l, e, show ¬ m < d + 1 by omega]
  ·rw [if_neg hp]
   refine ⟨h1, fun m => ?_⟩
   rw [h2]
   by_cases e : m = d
   ·subst e; simp [hp]
   ·by_cases l : m < d
    ·simp [l, show m < d + 1 by omega]
    ·simp [l, show ¬ m < d + 1 by omega]
theorem rel_set {p : Nat → Nat → Bool} {n i : Nat} (hn : n ≤ 10) (hi : i < n) : setP (rd (rel p n) (i : Int)) := by
 rw [rel_get p n i hi]; exact (rowf_bits (p i) n hn).1
theorem rel_lt {p : Nat → Nat → Bool} {n i : Nat} (hn : n ≤ 10) (hi : i < n) (j : Nat) : lt (rel p n) i j = (decide (j < n) && p i j) := by
 unfold lt; rw [rel_get p n i hi]; exact (rowf_bits (p i) n hn).2 j
end Go.Proofs.YtfpicdkanmgdoaaDoor.Pure
