import Derived.Test.YtgbdjchdfcodcaaGreatDoorBFnWeakOrders23
import Derived.Test.YtgbdjchdfcodcaaGreatDoorBFnWeakOrders24
import Derived.Test.YtgbdjchdfcodcaaGreatDoorBFnWeakOrders30
namespace Go.Proofs.YtgbdjchdfcodcaaGreatDoor.Pure
open Go.RowKit Go.Proofs.YtgbdjchdfcodcaaGreatDoor.Q Go.Proofs.YtgbdjchdfcodcaaGreatDoorW.PrintWords Go.Proofs.YtgbdjchdfcodcaaGreatDoorW.PrintLast
set_option linter.unusedVariables false
set_option linter.unusedSimpArgs false
-- drawn levels: short lists
theorem elements_d {c : List Int} (hc : bytesP c) {a : Int} (s : Int) (h0 : 0 ≤ a) (h1 : a ≤ 1000000) : Drw (spec_l1Cur_elements.f c a s) (fun x => 0 ≤ x ∧ x ≤ 11) a 4 := by
 unfold spec_l1Cur_elements.f
 obtain ⟨b, a1, s1, e, _, h2, h3⟩ := one_d hc (a := a) s 15 h0 (by omega) (by omega)
 rw [e, Option.bind_some]
 dsimp only
 by_cases hb : b = true
 ·rw [if_pos hb]
  obtain ⟨x, a2, s2, e2, hx, h4, h5⟩ := among_d hc (a := a1) s1 [0, 10, 11] (by omega) (by omega) (by simp)
  rw [e2, Option.bind_some]
  refine ⟨_, _, _, rfl, ?_, by dsimp only; omega, by dsimp only; omega⟩
  simp at hx; dsimp only; omega
 ·rw [if_neg hb]
  obtain ⟨x, a2, s2, e2, hx, h4, h5⟩ := pick_d hc (a := a1) s1 7 (by omega) (by omega) (by omega)
  rw [e2, Option.bind_some]
  refine ⟨_, _, _, rfl, ?_, by dsimp only; omega, by dsimp only; omega⟩
  dsimp only; omega
def DrV (g : Nat → Option (List Int × Int × Int)) (P : List Int → Prop) (a n : Int) : Prop := ∃ l a' s', Ev g (l, a', s') ∧ P l ∧ a ≤ a' ∧ a' ≤ a + n
theorem levels_dj {c : List Int} (hc : bytesP c) (l : List Int) (b : Bool) (hb : b = true → 0 < l.length) {a : Int} (s : Int) (h0 : 0 ≤ a) (h1 : a ≤ 1000000) : DrV (fun k => spec_l1Cur_levels.j1 k l b c a s) (fun m => m.length = l.length) a 4 := by
 cases b with
 | false =>
  refine ⟨l, a, s, Ev.shift ?_, rfl, by omega, by omega⟩
  simp only [spec_l1Cur_levels.j1]
  exact Ev.neg (by simp) (Ev.ret rfl)
 | true =>
  have := hb rfl
  obtain ⟨x, a1, s1, e1, hx, h2, h3⟩ := pick_d hc (a := a) s (l.length : Int) h0 (by omega) (by omega)
  obtain ⟨y, a2, s2, e2, hy, h4, h5⟩ := among_d hc (a := a1) s1 [(-1), 0, 1, 9, 11, (-9223372036854775808)] (by omega) (by omega) (by simp)
  refine ⟨l.set x.toNat y, a2, s2, Ev.shift ?_, by simp, by omega, by omega⟩
  simp only [spec_l1Cur_levels.j1]
  exact Ev.pos (by simp) (Ev.bindc e1 (Ev.bindc e2 (Ev.pos hx.1 (Ev.pos hx.2 (Ev.ret rfl)))))
theorem levels_dl {c : List Int} (hc : bytesP c) (d : Nat) : ∀ (l : List Int) (a s : Int), l.length + d ≤ 1000 → 0 ≤ a → a + 2 * d ≤ 100000 → DrV (fun k => spec_l1Cur_levels.l0 k (d : Int) l c a s) (fun m => m.length = l.length + d) a (2 * d + 6) := by
 induction d with
 | zero =>
  intro l a s hl h0 h1
  by_cases hp : 0 < l.length
  ·obtain ⟨b, a1, s1, e1, _, h2, h3⟩ := one_d hc (a := a) s 20 h0 (by omega) (by omega)
   obtain ⟨m, a2, s2, e2, hm, h4, h5⟩ := levels_dj hc (lev l) b (fun _ => by rw [lev_length]; exact hp) (a := a1) s1 (by omega) (by omega)
   refine ⟨m, a2, s2, Ev.shift ?_, by dsimp only; rw [hm, lev_length]; omega, by omega, by omega⟩
   simp only [spec_l1Cur_levels.l0]
   exact Ev.neg (by omega) (Ev.bind (ofNumbers_ev l (by omega)) (Ev.pos (by rw [lev_length]; omega) (Ev.bindc e1 e2)))
  ·obtain ⟨m, a2, s2, e2, hm, h4, h5⟩ := levels_dj hc (lev l) false (fun h => by cases h) (a := a) s (by omega) (by omega)
   refine ⟨m, a2, s2, Ev.shift ?_, by dsimp only; rw [hm, lev_length]; omega, by omega, by omega⟩
   simp only [spec_l1Cur_levels.l0]
   exact Ev.neg (by omega) (Ev.bind (ofNumbers_ev l (by omega)) (Ev.neg (by rw [lev_length]; omega) e2))
 | succ d ih =>
  intro l a s hl h0 h1
  obtain ⟨x, a1, s1, e, hx, h2, h3⟩ := pick_d hc (a := a) s 5 h0 (by omega) (by omega)
  obtain ⟨m, a2, s2, e2, hm, h4, h5⟩ := ih (l ++ [x]) a1 s1 (by simp; omega) (by omega) (by omega)
  refine ⟨m, a2, s2, Ev.shift ?_, by dsimp only; rw [hm]; simp; omega, by omega, by omega⟩
  simp only [spec_l1Cur_levels.l0]
  refine Ev.pos (by omega) (Ev.bindc e (Ev.pos (by omega) ?_))
  rw [show wrap64 ((d + 1 : Nat) - 1 : Int) = (d : Int) by rw [wrap64_id (by omega) (by omega)]; omega]
  exact e2
theorem levels_d {c : List Int} (hc : bytesP c) {a : Int} (s n : Int) (hn : 0 ≤ n ∧ n ≤ 20) (h0 : 0 ≤ a) (h1 : a ≤ 10000) : DrV (fun k => spec_l1Cur_levels.f k c a s n) (fun m => (m.length : Int) = n) a 50 := by
 obtain ⟨N, rfl⟩ : ∃ N : Nat, n = N := ⟨n.toNat, by omega⟩
 obtain ⟨m, a2, s2, e2, hm, h4, h5⟩ := levels_dl hc N [] a s (by simp; omega) h0 (by omega)
 refine ⟨m, a2, s2, ?_, by dsimp only; rw [hm]; simp, h4, by omega⟩
 unfold spec_l1Cur_levels.f
 exact e2
-- the statements' own comparisons
theorem vSame_l (l m : List Int) (hlm : l.length = m.length) (hl : l.length ≤ 1048576) (d : Nat) : ∀ i : Nat, i + d = l.length → Ev (fun k => laws_vSame.l0 k l m (l.length : Int) (i : Int)) (l.drop i == m.drop i) := by
 induction d with
 | zero =>
  intro i hi
  refine Ev.shift ?_
  simp only [laws_vSame.l0]
  refine Ev.neg (by omega) (Ev.ret ?_)
  rw [List.drop_of_length_le (by omega), List.drop_of_length_le (by omega)]; rfl
 | succ d ih =>
  intro i hi
  have e := ih (i + 1) (by omega)
  have f1 : (i : Int) < l.length := by omega
  have f2 : (i : Int) < m.length := by omega
  refine Ev.shift ?_
  simp only [laws_vSame.l0]
  refine Ev.pos f1 (Ev.pos (by omega) (Ev.pos f1 (Ev.pos f2 ?_)))
  rw [wrap64_id (by omega) (by omega), cast1, drop_rd l i (by omega), drop_rd m i (by omega)]
  by_cases hc : rd l (i : Int) = rd m (i : Int)
  ·refine Ev.pos hc (Ev.eq e ?_)
   rw [hc]; simp
  ·refine Ev.neg hc (Ev.ret ?_)
   symm; rw [beq_eq_false_iff_ne]; intro h; exact hc (List.cons.inj h).1
theorem vSame_ev (l m : List Int) (hl : l.length ≤ 1048576) : Ev (fun k => laws_vSame.f k l m) (l == m) := by
 unfold laws_vSame.f
 by_cases h : (l.length : Int) = m.length
 ·refine Ev.pos h ?_
  simpa using vSame_l l m (by omega) hl l.length 0 (by omega)
 ·refine Ev.neg h (Ev.ret ?_)
  symm; rw [beq_eq_false_iff_ne]; intro e; exact h (by rw [e])
theorem vOrder_ev (n : Int) (l : List Int) (n' : Int) (m : List Int) (hl : l.length ≤ 1048576) : Ev (fun k => laws_vOrder.f k n l n' m) (decide (n = n') && (l == m)) := by
 unfold laws_vOrder.f
 by_cases h : n = n'
 ·exact Ev.pos h (Ev.bind (vSame_ev l m hl) (Ev.ret (by simp [h])))
 ·exact Ev.neg h (Ev.ret (by simp [h]))
theorem vOrder_self (n : Int) (l : List Int) (hl : l.length ≤ 1048576) : Ev (fun k => laws_vOrder.f k n l n l) true := Ev.eq (vOrder_ev n l n l hl) (by simp)
theorem Ev.up {α : Type} {g : Nat → Option α} {r : α} (h : Ev g r) : Ev (fun k => g (k + 1)) r := by
 obtain ⟨K, hK⟩ := h; exact ⟨K, fun k hk => hK (k + 1) (by omega)⟩
def orb (x : Int) (j : Nat) : Int := Go.bits .or .i64 x (shl .i64 1 (j : Int))
def rowf (p : Nat → Bool) (d : Nat) : Int := (List.range d).foldl (fun x j => if p j then orb x j else x) 0
theorem rowf_succ (p : Nat → Bool) (d : Nat) : rowf p (d + 1) = if p d then orb (rowf p d) d else rowf p d := by
 simp [rowf, List.range_succ, List.foldl_append]
def rel (p : Nat → Nat → Bool) (n : Nat) : List Int := (List.range n).map fun i => rowf (p i) n
theorem rel_length (p : Nat → Nat → Bool) (n : Nat) : (rel p n).length = n := by simp [rel]
theorem rel_get (p : Nat → Nat → Bool) (n i : Nat) (h : i < n) : rd (rel p n) (i : Int) = rowf (p i) n := by
 rw [rd_lt _ i (by rw [rel_length]; exact h)]; simp [rel]
def relUpto (p : Nat → Nat → Bool) (n i : Nat) : List Int := (rel p n).take i ++ List.replicate (n - i) 0
theorem relation_l1 (p : Nat → Nat → Bool) (n : Nat) (hn : n ≤ 1000) (i : Nat) (hi : i < n) (R : Int × List Int) (hR : ∀ g : Nat → Int → Int → Option Bool, (∀ i j : Nat, i < n → j < n → Ev (fun k => g k i j) (p i j)) → ∀ y : List Int, y.length = n → rd y (i : Int) = rowf (p i) n → (∀ m : Nat, m < n → m ≠ i → rd y (m : Int) = if m < i then rowf (p m) n else 0) → Ev (fun k => impl_relation.l0 k n (g k) n ((i + 1 : Nat) : Int) n y) R) (d : Nat) :
  ∀ (j : Nat) (y : List Int) (g : Nat → Int → Int → Option Bool), (∀ i j : Nat, i < n → j < n → Ev (fun k => g k i j) (p i j)) → j + d = n → y.length = n → rd y (i : Int) = rowf (p i) j → (∀ m : Nat, m < n → m ≠ i → rd y (m : Int) = if m < i then rowf (p m) n else 0) →
  Ev (fun k => impl_relation.l1 k n (g k) (i : Int) n (i : Int) n (j : Int) n y) R := by
 induction d with
 | zero =>
  intro j y g hg hj hy h1 h2
  obtain rfl : j = n := by omega
  refine Ev.shift ?_
  simp only [impl_relation.l1]
  refine Ev.neg (by omega) ?_
  rw [wrap64_id (x := (i : Int) + 1) (by omega) (by omega), cast1]
  exact hR (fun k => g (k + 1)) (fun a b ha hb => Ev.up (hg a b ha hb)) y hy h1 h2
 | succ d ih =>
  intro j y g hg hj hy h1 h2
  have hg' : ∀ i j : Nat, i < n → j < n → Ev (fun k => g (k + 1) i j) (p i j) := fun a b ha hb => Ev.up (hg a b ha hb)
  refine Ev.shift ?_
  simp only [impl_relation.l1]
  refine Ev.pos (by omega) (Ev.bind (hg' i j hi (by omega)) ?_)
  rw [wrap64_id (x := (j : Int) + 1) (by omega) (by omega), cast1]
  by_cases hp : p i j = true
  ·refine Ev.pos hp (Ev.pos (by omega) (Ev.pos (by omega) (Ev.pos (by omega) ?_)))
   rw [Int.toNat_natCast]
   refine ih (j + 1) _ (fun k => g (k + 1)) hg' (by omega) (by simp; omega) ?_ ?_
   ·rw [rd_lt _ i (by simp; omega), List.getElem_set_self, rowf_succ, if_pos hp, h1]; rfl
   ·intro m hm hmi
    rw [rd_lt _ m (by simp; omega), List.getElem_set_ne (Ne.symm hmi), ← rd_lt y m (by omega)]
    exact h2 m hm hmi
  ·refine Ev.neg hp (ih (j + 1) y (fun k => g (k + 1)) hg' (by omega) hy ?_ h2)
   rw [rowf_succ, if_neg hp]; exact h1
theorem relation_l0 (p : Nat → Nat → Bool) (n : Nat) (hn : n ≤ 1000) (d : Nat) : ∀ (i : Nat) (y : List Int) (g : Nat → Int → Int → Option Bool), (∀ i j : Nat, i < n → j < n → Ev (fun k => g k i j) (p i j)) → i + d = n → y.length = n → (∀ m : Nat, m < n → rd y (m : Int) = if m < i then rowf (p m) n else 0) →
  Ev (fun k => impl_relation.l0 k n (g k) n (i : Int) n y) ((n : Int), rel p n) := by
 induction d with
 | zero =>
  intro i y g hg hi hy h1
  refine Ev.shift ?_
  simp only [impl_relation.l0]
  refine Ev.neg (by omega) (Ev.ret ?_)
  congr 1
  apply List.ext_getElem (by rw [rel_length]; exact hy)
  intro m hm1 hm2
  have := h1 m (by omega)
  rw [if_pos (by omega), rd_lt y m hm1, ← rel_get p n m (by omega), rd_lt _ m hm2] at this
  exact this
 | succ d ih =>
  intro i y g hg hi hy h1
  refine Ev.shift ?_
  simp only [impl_relation.l0]
  refine Ev.pos (by omega) ?_
  refine relation_l1 p n hn i (by omega) _ (fun g' hg' y' hy' h1' h2' => ih (i + 1) y' g' hg' (by omega) hy' (fun m hm => ?_)) n 0 y (fun k => g (k + 1)) (fun a b ha hb => Ev.up (hg a b ha hb)) (by omega) hy ?_ ?_
  ·by_cases e : m = i
   ·subst e; rw [h1', if_pos (by omega)]
   ·rw [h2' m hm e]
    by_cases hlt : m < i
    ·rw [if_pos hlt, if_pos (by omega)]
    ·rw [if_neg hlt, if_neg (by omega)]
  ·rw [h1 i (by omega), if_neg (by omega)]; rfl
  ·intro m hm e; exact h1 m hm
theorem relation_ev (p : Nat → Nat → Bool) (n : Nat) (hn : n ≤ 1000) (g : Nat → Int → Int → Option Bool) (hg : ∀ i j : Nat, i < n → j < n → Ev (fun k => g k i j) (p i j)) : Ev (fun k => impl_relation.f k n (g k)) ((n : Int), rel p n) := by
 unfold impl_relation.f
 refine Ev.pos (by omega) (Ev.pos (by omega) ?_)
 rw [Int.toNat_natCast]
 exact relation_l0 p n hn n 0 _ g hg (by omega) (by simp) (fun m hm => by rw [rd_lt _ m (by simp; omega), List.getElem_replicate, if_neg (by omega)])
theorem rowf_bits (p : Nat → Bool) (d : Nat) : d ≤ 10 → setP (rowf p d) ∧ ∀ m, bit (rowf p d) m = (decide (m < d) && p m) := by
 induction d with
 | zero => intro _; exact ⟨set_zero, fun m => by rw [show rowf p 0 = 0 from rfl, bit_zero]; simp⟩
 | succ d ih =>
  intro hd
  obtain ⟨h1, h2⟩ := ih (by omega)
  rw [rowf_succ]
  by_cases hp : p d = true
  ·rw [if_pos hp]
   have hs := set_shl (j := d) (by omega)
   have ho := set_or h1 hs.1
   refine ⟨ho.1, fun m => ?_⟩
   show bit (Go.bits .or .i64 (rowf p d) (shl .i64 1 (d : Int))) m = _
   rw [ho.2, h2, hs.2]
   by_cases e : m = d
   ·subst e; simp [hp]
   ·by_cases l : m < d
    ·simp [l, e, show m < d + 1 by omega]
    ·simp [l, e, show ¬ m < d + 1 by omega]
  ·rw [if_neg hp]
   refine ⟨h1, fun m => ?_⟩
   rw [h2]
   by_cases e : m = d
   ·subst e; simp [hp]
   ·by_cases l : m < d
    ·simp [l, show m < d + 1 by omega]
    ·simp [l, show ¬ m < d + 1 by omega]
theorem rel_set {p : Nat → Nat → Bool} {n i : Nat} (hn : n ≤ 10) (hi : i < n) : setP (rd (rel p n) (i : Int)) := by
 rw [rel_get p n i hi]; exact (rowf_bits (p i) n hn).1
theorem rel_lt {p : Nat → Nat → Bool} {n i : Nat} (hn : n ≤ 10) (hi : i < n) (j : Nat) : lt (rel p n) i j = (decide (j < n) && p i j) := by
 unfold lt; rw [rel_get p n i hi]; exact (rowf_bits (p i) n hn).2 j
theorem mirror_ev {n : Int} {L : List Int} (h : relP n L) : Ev (fun k => impl_Order_mirror.f k n L) (n, rel (fun i j => lt L j i) L.length) := by
 have e1 := h.2.1
 have e3 := h.1
 unfold impl_Order_mirror.f
 have hrel := relation_ev (fun i j => lt L j i) L.length (by omega) (fun _ u0_ u1_ => impl_Order_mirror_1.f u0_ u1_ n L) (fun i j hi hj => Ev.const (by
  unfold impl_Order_mirror_1.f
  rw [better_f n L hj (h.set hj) (by omega), Option.bind_some]; rfl))
 rw [e1] at hrel
 exact Ev.bind hrel (Ev.ret rfl)
theorem all_f {n : Int} {L : List Int} (h : relP n L) : impl_Order_all.f n L = some (full n) := by
 unfold impl_Order_all.f
 rw [if_pos h.1.1]; rfl
theorem below_l {n : Int} {L : List Int} (h : relP n L) (i : Nat) (hi : i < L.length) (d : Nat) : ∀ (j : Nat), j + d = L.length → Ev (fun k => spec_orBelow.l0 k (i : Int) (rowf (fun j => lt L j i) j) L (L.length : Int) (j : Int)) (rowf (fun j => lt L j i) L.length) := by
 have e1 := h.2.1
 have e3 := h.1
 induction d with
 | zero =>
  intro j hj
  refine Ev.shift ?_
  simp only [spec_orBelow.l0]
  exact Ev.neg (by omega) (Ev.ret (by rw [show j = L.length by omega]))
 | succ d ih =>
  intro j hj
  have := ih (j + 1) (by omega)
  rw [rowf_succ] at this
  refine Ev.shift ?_
  simp only [spec_orBelow.l0]
  refine Ev.pos (by omega) (Ev.pos (by omega) (Ev.pos (by omega) (Ev.bindc (orHas_f (h.set (i := j) (by omega)).1 (h.set (i := j) (by omega)).2 (by omega)) ?_)))
  rw [wrap64_id (by omega) (by omega), cast1]
  by_cases hb : bit (rd L (j : Int)) i = true
  ·rw [if_pos (show lt L j i = true from hb)] at this
   exact Ev.pos hb this
  ·rw [if_neg (show ¬ lt L j i = true from hb)] at this
   exact Ev.neg hb this
theorem below_ev {n : Int} {L : List Int} (h : relP n L) {i : Nat} (hi : i < L.length) : Ev (fun k => spec_orBelow.f k n L (i : Int)) (rowf (fun j => lt L j i) L.length) := by
 unfold spec_orBelow.f
 exact below_l h i hi L.length 0 (by omega)
def freeP (L : List Int) (i j : Nat) : Bool := !lt L i j && !lt L j i && !decide (j = i)
theorem near_val {n : Int} {L : List Int} (h : relP n L) {i : Nat} (hi : i < L.length) :
  Go.bits .andNot .i64 (Go.bits .andNot .i64 (Go.bits .andNot .i64 (full n) (rd L (i : Int))) (rd (rel (fun i j => lt L j i) L.length) (i : Int))) (shl .i64 1 (i : Int)) = rowf (freeP L i) L.length := by
 have e1 := h.2.1
 have e3 := h.1
 have hf := set_full (n := L.length) (by omega)
 rw [e1] at hf
 have hm := rel_set (p := fun i j => lt L j i) (n := L.length) (by omega) hi
 have hm2 := rel_lt (p := fun i j => lt L j i) (n := L.length) (by omega) hi
 have a1 := set_andNot hf.1 (h.set hi)
 have a2 := set_andNot a1.1 hm
 have a3 := set_andNot a2.1 (set_shl (j := i) (by omega)).1
 have hr := rowf_bits (freeP L i) L.length (by omega)
 refine set_ext a3.1 hr.1 (fun j hj => ?_)
 rw [a3.2, a2.2, a1.2, hf.2, (set_shl (j := i) (by omega)).2, hr.2]
 rw [show bit (rd (rel (fun i j => lt L j i) L.length) (i : Int)) j = (decide (j < L.length) && lt L j i) from hm2 j]
 unfold freeP lt
 by_cases hjn : j < L.length
 ·simp [hjn]
  try (cases bit (rd L (i : Int)) j <;> cases bit (rd L (j : Int)) i <;> simp)
 ·simp [hjn]
theorem near_l {n : Int} {L : List Int} (h : relP n L) (d : Nat) : ∀ (i : Nat), i + d = L.length → Ev (fun k => impl_Order_indifferent.l0 k ((rel (freeP L) L.length).take i) n (i : Int) n L n (rel (fun i j => lt L j i) L.length)) (rel (freeP L) L.length) := by
 have e1 := h.2.1
 have e3 := h.1
 induction d with
 | zero =>
  intro i hi
  refine Ev.shift ?_
  simp only [impl_Order_indifferent.l0]
  exact Ev.neg (by omega) (Ev.ret (by rw [List.take_of_length_le (by rw [rel_length]; omega)]))
 | succ d ih =>
  intro i hi
  have := ih (i + 1) (by omega)
  rw [List.take_succ_eq_append_getElem (by rw [rel_length]; omega), ← rd_lt _ i (by rw [rel_length]; omega), rel_get _ _ i (by omega)] at this
  refine Ev.shift ?_
  simp only [impl_Order_indifferent.l0]
  refine Ev.pos (by omega) (Ev.bindc (all_f h) (Ev.pos (by omega) (Ev.pos (by omega) (Ev.pos (by rw [rel_length]; omega) (Ev.pos (by rw [List.length_take, rel_length]; omega) ?_)))))
  rw [wrap64_id (by omega) (by omega), cast1, near_val h (by omega)]
  exact this
theorem near_ev {n : Int} {L : List Int} (h : relP n L) : Ev (fun k => impl_Order_indifferent.f k n L) (rel (freeP L) L.length) := by
 unfold impl_Order_indifferent.f
 exact Ev.bind (mirror_ev h) (near_l h L.length 0 (by omega))
theorem free_ev {n : Int} {L : List Int} (h : relP n L) {i : Nat} (hi : i < L.length) : Ev (fun k => spec_orFree.f k n L (i : Int)) (rowf (freeP L i) L.length) := by
 have e1 := h.2.1
 have e3 := h.1
 unfold spec_orFree.f
 refine Ev.pos h.1.1 (Ev.pos (by omega) (Ev.pos (by omega) (Ev.bind (below_ev h hi) (Ev.ret ?_))))
 have hf := set_full (n := L.length) (by omega)
 rw [e1] at hf
 have hb := rowf_bits (fun j => lt L j i) L.length (by omega)
 have o1 := set_or (h.set hi) hb.1
 have o2 := set_or o1.1 (set_shl (j := i) (by omega)).1
 have a1 := set_andNot hf.1 o2.1
 have hr := rowf_bits (freeP L i) L.length (by omega)
 refine set_ext a1.1 hr.1 (fun j hj => ?_)
 show bit (Go.bits .andNot .i64 (full n) _) j = _
 rw [a1.2, o2.2, o1.2, hb.2, hf.2, (set_shl (j := i) (by omega)).2, hr.2]
 unfold freeP lt
 by_cases hjn : j < L.length
 ·simp [hjn]
  try (cases bit (rd L (i : Int)) j <;> cases bit (rd L (j : Int)) i <;> simp)
 ·simp [hjn]
theorem bitsOf_nil {x : Int} (hx : setP x) : bitsOf x = [] ↔ x = 0 := by
 rw [set_eq_zero hx, List.eq_nil_iff_forall_not_mem]
 constructor
 ·intro h j hj
  cases hb : bit x j
  ·rfl
  ·exact absurd (mem_bitsOf.2 ⟨j, hj, hb, rfl⟩) (h _)
 ·intro h y hy
  obtain ⟨j, hj, hb, _⟩ := mem_bitsOf.1 hy
  rw [h j hj] at hb; cases hb
theorem bitsOf_len (x : Int) : (bitsOf x).length ≤ 10 := by
 have := List.length_filter_le (bit x) (List.range 10)
 simpa [bitsOf] using this
end Go.Proofs.YtgbdjchdfcodcaaGreatDoor.Pure
namespace Go.Proofs.YtgbdjchdfcodcaaGreatDoor.Pure
set_option linter.unusedVariables false
set_option linter.unusedSimpArgs false
-- plain
theorem cnt_le {n : Nat} {p q : Nat → Bool} (h : ∀ x, x < n → p x = true → q x = true) : (List.range n).countP p ≤ (List.range n).countP q := by
 induction n with
 | zero => simp
 | succ n ih =>
  have h1 := ih (fun x hx => h x (by omega))
  have h2 := h n (by omega)
  rw [List.range_succ, List.countP_append, List.countP_append, List.countP_singleton, List.countP_singleton]
  by_cases hp : p n = true
  ·rw [if_pos hp, if_pos (h2 hp)]; omega
  ·rw [if_neg hp]; split <;> omega
theorem cnt_lt {n : Nat} {p q : Nat → Bool} (h : ∀ x, x < n → p x = true → q x = true) (hx : ∃ x, x < n ∧ q x = true ∧ p x = false) : (List.range n).countP p < (List.range n).countP q := by
 induction n with
 | zero => obtain ⟨x, hx, _⟩ := hx; omega
 | succ n ih =>
  have h1 := cnt_le (n := n) (fun x hx => h x (by omega))
  have h2 := h n (by omega)
  rw [List.range_succ, List.countP_append, List.countP_append, List.countP_singleton, List.countP_singleton]
  by_cases hn : q n = true ∧ p n = false
  ·rw [if_pos hn.1, if_neg (by simp [hn.2])]; omega
  ·obtain ⟨x, hx, hq, hp⟩ := hx
   have hxn : x < n := by
    rcases Nat.lt_or_ge x n with h | h
    ·exact h
    ·obtain rfl : x = n := by omega
     exact absurd ⟨hq, hp⟩ hn
   have := ih (fun x hx => h x (by omega)) ⟨x, hxn, hq, hp⟩
   by_cases hpn : p n = true
   ·rw [if_pos hpn, if_pos (h2 hpn)]; omega
   ·rw [if_neg hpn]; split <;> omega
-- plain
structure Ord (n : Nat) (r : Nat → Nat → Bool) : Prop where
 irr : ∀ i, i < n → r i i = false
 trans : ∀ i j m, i < n → j < n → m < n → r i j = true → r j m = true → r i m = true
section
variable {n : Nat} {r : Nat → Nat → Bool}
theorem Ord.asym (h : Ord n r) {i j : Nat} (hi : i < n) (hj : j < n) (h1 : r i j = true) : r j i = false := by
 cases hb : r j i
 ·rfl
 ·have := h.trans i j i hi hj hi h1 hb; rw [h.irr i hi] at this; cases this
def No22 (n : Nat) (r : Nat → Nat → Bool) : Prop := ∀ a b c d, a < n → b < n → c < n → d < n → r a b = true → r c d = true → r c b = false → r a d = false → False
def No31 (n : Nat) (r : Nat → Nat → Bool) : Prop := ∀ a b c d, a < n → b < n → c < n → d < n → r a b = true → r b c = true → r a d = false → r d a = false → d ≠ a → r b d = false → r d b = false → d ≠ b → r c d = false → r d c = false → d ≠ c → False
def No21 (n : Nat) (r : Nat → Nat → Bool) : Prop := ∀ a b c, a < n → b < n → c < n → r a b = true → r a c = false → r c a = false → c ≠ a → r b c = false → r c b = false → c ≠ b → False
def trR (n : Nat) (r : Nat → Nat → Bool) (i j : Nat) : Prop := (∃ x, x < n ∧ r x j = true ∧ r x i = false) ∨ (∃ y, y < n ∧ r i y = true ∧ r j y = false)
def num (n : Nat) (r : Nat → Nat → Bool) (i : Nat) : Int := ((List.range n).countP (fun x => r x i) : Int) - ((List.range n).countP (fun y => r i y) : Int)
theorem below_nested (h22 : No22 n r) {i j x : Nat} (hi : i < n) (hj : j < n) (hx : x < n) (h1 : r x j = true) (h2 : r x i = false) : ∀ z, z < n → r z i = true → r z j = true := by
 intro z hz hzi
 cases hb : r z j
 ·exact (h22 x j z i hx hj hz hi h1 hzi hb h2).elim
 ·rfl
theorem above_nested (h22 : No22 n r) {i j y : Nat} (hi : i < n) (hj : j < n) (hy : y < n) (h1 : r i y = true) (h2 : r j y = false) : ∀ z, z < n → r j z = true → r i z = true := by
 intro z hz hjz
 cases hb : r i z
 ·exact (h22 i y j z hi hy hj hz h1 hjz h2 hb).elim
 ·rfl
theorem not_both (h : Ord n r) (h31 : No31 n r) {i j x y : Nat} (hi : i < n) (hj : j < n) (hx : x < n) (hy : y < n) (h1 : r x j = true) (h2 : r x i = false) (h3 : r j y = true) (h4 : r i y = false) : False := by
 have a1 : r i x = false := by
  cases hb : r i x
  ·rfl
  ·have := h.trans i x y hi hx hy hb (h.trans x j y hx hj hy h1 h3); rw [h4] at this; cases this
 have a2 : r i j = false := by
  cases hb : r i j
  ·rfl
  ·have := h.trans i j y hi hj hy hb h3; rw [h4] at this; cases this
 have a3 : r j i = false := by
  cases hb : r j i
  ·rfl
  ·have := h.trans x j i hx hj hi h1 hb; rw [h2] at this; cases this
 have a4 : r y i = false := by
  cases hb : r y i
  ·rfl
  ·have := h.trans x y i hx hy hi (h.trans x j y hx hj hy h1 h3) hb; rw [h2] at this; cases this
 refine h31 x j y i hx hj hy hi h1 h3 h2 a1 ?_ a3 a2 ?_ a4 h4 ?_
 ·rintro rfl; rw [h.trans i j y hi hj hy h1 h3] at h4; cases h4
 ·rintro rfl; rw [h1] at h2; cases h2
 ·rintro rfl; rw [h.trans x j i hx hj hi h1 h3] at h2; cases h2
theorem trR_num (h : Ord n r) (h22 : No22 n r) (h31 : No31 n r) {i j : Nat} (hi : i < n) (hj : j < n) : trR n r i j ↔ num n r i < num n r j := by
 unfold num
 constructor
 ·rintro (⟨x, hx, h1, h2⟩ | ⟨y, hy, h1, h2⟩)
  ·have c1 := cnt_lt (n := n) (p := fun x => r x i) (q := fun x => r x j) (below_nested h22 hi hj hx h1 h2) ⟨x, hx, h1, h2⟩
   have c2 := cnt_le (n := n) (p := fun y => r j y) (q := fun y => r i y) (fun z hz hjz => by
    cases hb : r i z
    ·exact (not_both h h31 hi hj hx hz h1 h2 hjz hb).elim
    ·rfl)
   omega
  ·have c1 := cnt_lt (n := n) (p := fun y => r j y) (q := fun y => r i y) (above_nested h22 hi hj hy h1 h2) ⟨y, hy, h1, h2⟩
   have c2 := cnt_le (n := n) (p := fun x => r x i) (q := fun x => r x j) (fun z hz hzi => by
    cases hb : r z j
    ·exact (not_both h h31 hj hi hz hy hzi hb h1 h2).elim
    ·rfl)
   omega
 ·intro hlt
  refine Classical.byContradiction fun hn => ?_
  have c1 := cnt_le (n := n) (p := fun x => r x j) (q := fun x => r x i) (fun z hz h1 => by
   cases hb : r z i
   ·exact (hn (.inl ⟨z, hz, h1, hb⟩)).elim
   ·rfl)
  have c2 := cnt_le (n := n) (p := fun y => r i y) (q := fun y => r j y) (fun z hz h1 => by
   cases hb : r j z
   ·exact (hn (.inr ⟨z, hz, h1, hb⟩)).elim
   ·rfl)
  omega
theorem weak_below (h : Ord n r) (h21 : No21 n r) {i j : Nat} (hi : i < n) (hj : j < n) : r j i = true ↔ (∀ x, x < n → r x j = true → r x i = true) ∧ ∃ x, x < n ∧ r x i = true ∧ r x j = false := by
 constructor
 ·intro hji
  exact ⟨fun x hx hxj => h.trans x j i hx hj hi hxj hji, j, hj, hji, h.irr j hj⟩
 ·rintro ⟨h1, x, hx, hxi, hxj⟩
  cases hb : r j i
  ·have a1 : r i j = false := by
    cases hc : r i j
    ·rfl
    ·have := h1 i hi hc; rw [h.irr i hi] at this; cases this
   have a2 : r j x = false := by
    cases hc : r j x
    ·rfl
    ·have := h.trans j x i hj hx hi hc hxi; rw [hb] at this; cases this
   refine (h21 x i j hx hi hj hxi hxj a2 ?_ a1 hb ?_).elim
   ·rintro rfl; rw [hxi] at hb; cases hb
   ·rintro rfl; rw [hxi] at hxj; cases hxj
  ·rfl
theorem weak_nested (h : Ord n r) (h21 : No21 n r) {i j : Nat} (hi : i < n) (hj : j < n) : (∀ x, x < n → r x j = true → r x i = true) ∨ (∀ x, x < n → r x i = true → r x j = true) := by
 refine Classical.or_iff_not_imp_left.2 fun hn => ?_
 have ⟨x, hx⟩ := Classical.not_forall.1 hn
 have ⟨hx, hx2⟩ := Classical.not_imp.1 hx
 have ⟨hxj, hxi⟩ := Classical.not_imp.1 hx2
 have hxi : r x i = false := by simpa using hxi
 intro z hz hzi
 cases hzj : r z j
 ·have a1 : r i j = false := by
   cases hc : r i j
   ·rfl
   ·have := h.trans z i j hz hi hj hzi hc; rw [hzj] at this; cases this
  have a2 : r j i = false := by
   cases hc : r j i
   ·rfl
   ·have := h.trans x j i hx hj hi hxj hc; rw [hxi] at this; cases this
  have a3 : r i x = false := by
   cases hc : r i x
   ·rfl
   ·have := h.trans i x j hi hx hj hc hxj; rw [a1] at this; cases this
  refine (h21 x j i hx hj hi hxj hxi a3 ?_ a2 a1 ?_).elim
  ·rintro rfl; rw [hxj] at a1; cases a1
  ·rintro rfl; rw [hzi] at hzj; cases hzj
 ·rfl
end
end Go.Proofs.YtgbdjchdfcodcaaGreatDoor.Pure
