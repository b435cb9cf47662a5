import Derived.Test.YtgdnljpallpjiaaDoorBFnExtensions20
import Derived.Test.YtgdnljpallpjiaaDoorBFnExtensions21
import Derived.Test.YtgdnljpallpjiaaDoorBFnExtensions26
namespace Go.Proofs.YtgdnljpallpjiaaDoor.Pure
open Go.RowKit Go.Proofs.YtgdnljpallpjiaaDoor.Q Go.Proofs.YtgdnljpallpjiaaDoorW.PrintWords Go.Proofs.YtgdnljpallpjiaaDoorW.PrintLast
set_option linter.unusedVariables false
set_option linter.unusedSimpArgs false
-- the array of ways, filled set by set
theorem flip_less : ∀ T : Fin 1024, ∀ j : Fin 10, T.val.testBit j.val = true → T.val ^^^ 2 ^ j.val < T.val := by decide +kernel
theorem flip_lt {N T j : Nat} (hN : N ≤ 10) (hT : T < 2 ^ N) (hj : j < N) (hb : T.testBit j = true) : flip T j < T := by
 have : 2 ^ N ≤ 2 ^ 10 := Nat.pow_le_pow_right (by omega) hN
 exact flip_less ⟨T, by omega⟩ ⟨j, by omega⟩ hb
theorem flip_or {s i T : Nat} : (T.testBit i = true ∧ flip T i = s) ↔ (s.testBit i = false ∧ T = s ||| 2 ^ i) := by
 constructor
 ·rintro ⟨h1, rfl⟩
  refine ⟨by rw [bit_flip, h1]; simp, Nat.eq_of_testBit_eq fun k => ?_⟩
  rw [Nat.testBit_or, bit_flip, Nat.testBit_two_pow]
  by_cases e : i = k
  ·subst e; simp [h1]
  ·simp [e]
 ·rintro ⟨h1, rfl⟩
  refine ⟨by rw [Nat.testBit_or, Nat.testBit_two_pow]; simp, Nat.eq_of_testBit_eq fun k => ?_⟩
  rw [bit_flip, Nat.testBit_or, Nat.testBit_two_pow]
  by_cases e : i = k
  ·subst e; simp [h1]
  ·simp [e]
def pw (N : Nat) (c : Nat → Nat → Bool) (s i T : Nat) : Nat := if T = 0 then 1 else sumR N fun j => if T.testBit j && c (flip T j) j && (decide (flip T j < s) || (decide (flip T j = s) && decide (j < i))) then wS N c (flip T j) else 0
theorem pc_pos {N T : Nat} (h0 : T ≠ 0) (hT : T < 2 ^ N) : 0 < pc N T := by
 refine Nat.pos_of_ne_zero fun h => h0 ?_
 apply Nat.eq_of_testBit_eq
 intro k
 rw [Nat.zero_testBit]
 by_cases hk : k < N
 ·exact pc_zero h hk
 ·exact Nat.testBit_lt_two_pow (Nat.lt_of_lt_of_le hT (Nat.pow_le_pow_right (by omega) (by omega)))
theorem pw_all {N : Nat} {c : Nat → Nat → Bool} {s i T : Nat} (hT : T < 2 ^ N) (h : ∀ j, j < N → T.testBit j = true → flip T j < s) : pw N c s i T = wS N c T := by
 unfold pw
 by_cases h0 : T = 0
 ·subst h0
  rw [if_pos rfl, wS_zero]
  unfold pc; exact sumR_zero fun j _ => by simp
 ·rw [if_neg h0, wS_step (pc_pos h0 hT)]
  refine sumR_congr fun j hj => ?_
  by_cases hb : T.testBit j = true
  ·rw [decide_eq_true (h j hj hb)]; simp
  ·simp [hb]
theorem pw_le {N : Nat} {c : Nat → Nat → Bool} (hN : N ≤ 10) (s i T : Nat) : pw N c s i T ≤ 100000000000 := by
 unfold pw
 split
 ·omega
 ·refine Nat.le_trans (sumR_le (b := 10000000000) fun j _ => ?_) (by omega)
  split
  ·have h1 := wS_le (N := N) (c := c) hN _ (flip T j) rfl
   have h2 := pc_le N (flip T j)
   have h3 : 10 ^ pc N (flip T j) ≤ 10 ^ 10 := Nat.pow_le_pow_right (by omega) (by omega)
   omega
  ·omega
theorem pw_next {N : Nat} {c : Nat → Nat → Bool} {s T : Nat} : pw N c s N T = pw N c (s + 1) 0 T := by
 unfold pw
 split
 ·rfl
 ·refine sumR_congr fun j hj => ?_
  have e : (decide (flip T j < s) || (decide (flip T j = s) && decide (j < N))) = (decide (flip T j < s + 1) || (decide (flip T j = s + 1) && decide (j < 0))) := by
   rw [Bool.eq_iff_iff]; simp; omega
  rw [e]
theorem pw_keep {N : Nat} {c : Nat → Nat → Bool} {s i T : Nat} (h : T.testBit i = true → flip T i = s → c s i = false) : pw N c s (i + 1) T = pw N c s i T := by
 unfold pw
 split
 ·rfl
 ·refine sumR_congr fun j hj => ?_
  by_cases hb : T.testBit j = true ∧ flip T j = s ∧ j = i
  ·obtain ⟨h1, h2, rfl⟩ := hb
   have := h h1 h2
   rw [← h2] at this
   simp [this]
  ·by_cases h1 : T.testBit j = true
   ·have e : (decide (flip T j < s) || (decide (flip T j = s) && decide (j < i + 1))) = (decide (flip T j < s) || (decide (flip T j = s) && decide (j < i))) := by
     rw [Bool.eq_iff_iff]; simp
     constructor
     ·rintro (h3 | ⟨h3, h4⟩)
      ·exact .inl h3
      ·by_cases e2 : j = i
       ·exact absurd ⟨h1, h3, e2⟩ hb
       ·exact .inr ⟨h3, by omega⟩
     ·rintro (h3 | ⟨h3, h4⟩)
      ·exact .inl h3
      ·exact .inr ⟨h3, by omega⟩
    rw [e]
   ·simp [h1]
theorem pw_put {N : Nat} {c : Nat → Nat → Bool} {s i : Nat} (hi : i < N) (hb : s.testBit i = false) (hc : c s i = true) : pw N c s (i + 1) (s ||| 2 ^ i) = pw N c s i (s ||| 2 ^ i) + wS N c s := by
 obtain ⟨h1, h2⟩ := flip_or.2 ⟨hb, rfl⟩
 have h0 : ¬ (s ||| 2 ^ i) = 0 := fun e => by rw [e] at h1; simp at h1
 unfold pw
 rw [if_neg h0, if_neg h0]
 refine sumR_at hi ?_ (fun j hj hne => ?_)
 ·rw [h1, h2, hc]; simp
 ·have e : (decide (flip (s ||| 2 ^ i) j < s) || (decide (flip (s ||| 2 ^ i) j = s) && decide (j < i + 1))) = (decide (flip (s ||| 2 ^ i) j < s) || (decide (flip (s ||| 2 ^ i) j = s) && decide (j < i))) := by
   rw [Bool.eq_iff_iff]; simp
   constructor
   ·rintro (h3 | ⟨h3, h4⟩)
    ·exact .inl h3
    ·exact .inr ⟨h3, by omega⟩
   ·rintro (h3 | ⟨h3, h4⟩)
    ·exact .inl h3
    ·exact .inr ⟨h3, by omega⟩
  rw [e]
def arrOk (N : Nat) (c : Nat → Nat → Bool) (s i : Nat) (y : List Int) : Prop := y.length = 2 ^ N ∧ ∀ T : Nat, T < 2 ^ N → rd y (T : Int) = (pw N c s i T : Int)
theorem arr_start (N : Nat) (c : Nat → Nat → Bool) : arrOk N c 0 0 ((List.replicate (2 ^ N) 0).set 0 1) := by
 have hp : 0 < 2 ^ N := Nat.two_pow_pos N
 refine ⟨by simp, fun T hT => ?_⟩
 rw [set_rd _ 0 1 (by simp [hp]) T]
 unfold pw
 by_cases h0 : T = 0
 ·subst h0; rfl
 ·rw [if_neg h0, if_neg h0, sumR_zero (fun j _ => by simp)]
  rw [rd_lt _ T (by simpa using hT)]; simp
theorem arr_self {N : Nat} {c : Nat → Nat → Bool} {s i : Nat} {y : List Int} (hN : N ≤ 10) (h : arrOk N c s i y) (hs : s < 2 ^ N) : rd y (s : Int) = (wS N c s : Int) := by
 rw [h.2 s hs, pw_all hs fun j hj hb => flip_lt hN hs hj hb]
theorem arr_put {N : Nat} {c : Nat → Nat → Bool} {s i : Nat} {y : List Int} (hN : N ≤ 10) (h : arrOk N c s i y) (hs : s < 2 ^ N) (hi : i < N) (hb : s.testBit i = false) (hc : c s i = true) :
  (s ||| 2 ^ i) < 2 ^ N ∧ arrOk N c s (i + 1) (y.set (s ||| 2 ^ i) (wrap64 (rd y ((s ||| 2 ^ i : Nat) : Int) + rd y (s : Int)))) := by
 have hT : (s ||| 2 ^ i) < 2 ^ N := Nat.or_lt_two_pow hs (Nat.pow_lt_pow_right (by omega) hi)
 have e1 := h.2 _ hT
 have e2 := arr_self hN h hs
 have b1 := pw_le (c := c) hN s i (s ||| 2 ^ i)
 have b2 := pw_le (c := c) hN s (i + 1) (s ||| 2 ^ i)
 have e3 := pw_put (c := c) hi hb hc
 refine ⟨hT, by simpa using h.1, fun T hT2 => ?_⟩
 rw [set_rd y _ _ (by rw [h.1]; exact hT) T]
 by_cases e : T = s ||| 2 ^ i
 ·subst e
  rw [if_pos rfl, e1, e2, wrap64_id (by omega) (by omega), e3]; omega
 ·rw [if_neg e, h.2 T hT2, pw_keep]
  intro h3 h4
  exact absurd (flip_or.1 ⟨h3, h4⟩).2 e
theorem arr_keep {N : Nat} {c : Nat → Nat → Bool} {s i : Nat} {y : List Int} (h : arrOk N c s i y) (hn : s.testBit i = true ∨ c s i = false) : arrOk N c s (i + 1) y := by
 refine ⟨h.1, fun T hT => ?_⟩
 rw [h.2 T hT, pw_keep]
 intro h3 h4
 rcases hn with hn | hn
 ·have := (flip_or.1 ⟨h3, h4⟩).1
  rw [hn] at this; cases this
 ·exact hn
theorem arr_next {N : Nat} {c : Nat → Nat → Bool} {s : Nat} {y : List Int} (h : arrOk N c s N y) : arrOk N c (s + 1) 0 y := ⟨h.1, fun T hT => by rw [h.2 T hT, pw_next]⟩
theorem arr_end {N : Nat} {c : Nat → Nat → Bool} {y : List Int} (hN : N ≤ 10) (h : arrOk N c (2 ^ N) 0 y) {T : Nat} (hT : T < 2 ^ N) : rd y (T : Int) = (wS N c T : Int) := by
 rw [h.2 T hT, pw_all hT fun j hj hb => Nat.lt_trans (flip_lt hN hT hj hb) hT]
-- sets of the elements of lists
def setL (l : List Int) : Int := l.foldl (fun x i => Go.bits .or .i64 x (shl .i64 1 i)) 0
theorem setL_fold (l : List Int) : ∀ x : Int, setP x → (∀ y ∈ l, 0 ≤ y ∧ y < 10) → setP (l.foldl (fun x i => Go.bits .or .i64 x (shl .i64 1 i)) x) ∧ ∀ m : Nat, bit (l.foldl (fun x i => Go.bits .or .i64 x (shl .i64 1 i)) x) m = (bit x m || decide ((m : Int) ∈ l)) := by
 induction l with
 | nil => intro x hx _; exact ⟨hx, fun m => by simp⟩
 | cons y l ih =>
  intro x hx hl
  have hy := hl y (by simp)
  obtain ⟨j, rfl⟩ : ∃ j : Nat, y = j := ⟨y.toNat, by omega⟩
  have hs := set_shl (j := j) (by omega)
  have ho := set_or hx hs.1
  obtain ⟨h1, h2⟩ := ih _ ho.1 (fun z hz => hl z (by simp [hz]))
  refine ⟨h1, fun m => ?_⟩
  rw [List.foldl_cons, h2, ho.2, hs.2]
  by_cases e : m = j
  ·subst e; simp
  ·have e2 : ¬ (m : Int) = (j : Int) := by omega
   simp [e, e2]
theorem setL_bits {l : List Int} (h : ∀ y ∈ l, 0 ≤ y ∧ y < 10) : setP (setL l) ∧ ∀ m : Nat, bit (setL l) m = decide ((m : Int) ∈ l) := by
 obtain ⟨h1, h2⟩ := setL_fold l 0 set_zero h
 exact ⟨h1, fun m => by rw [setL, h2, bit_zero, Bool.false_or]⟩
theorem setL_snoc (l : List Int) (x : Int) : setL (l ++ [x]) = Go.bits .or .i64 (setL l) (shl .i64 1 x) := by unfold setL; rw [List.foldl_append]; rfl
theorem take_snoc (l : List Int) (i : Nat) (h : i < l.length) : l.take (i + 1) = l.take i ++ [rd l (i : Int)] := by rw [List.take_succ_eq_append_getElem h, rd_lt l i h]
theorem full_list : ∀ (N : Nat) (l : List Nat), l.length ≤ N → (∀ m, m < N → m ∈ l) → l.Nodup ∧ ∀ x ∈ l, x < N := by
 intro N
 induction N with
 | zero => intro l hl _; obtain rfl := List.eq_nil_of_length_eq_zero (Nat.le_zero.1 hl); simp
 | succ N ih =>
  intro l hl hm
  have hN := hm N (by omega)
  have hp := List.perm_cons_erase hN
  obtain ⟨h1, h2⟩ := ih (l.erase N) (by rw [List.length_erase_of_mem hN]; omega) (fun m hm2 => (List.mem_erase_of_ne (by omega)).2 (hm m (by omega)))
  refine ⟨hp.nodup_iff.2 (List.nodup_cons.2 ⟨fun h => by have := h2 N h; omega, h1⟩), fun x hx => ?_⟩
  rcases List.mem_cons.1 (hp.mem_iff.1 hx) with rfl | hx
  ·omega
  ·have := h2 x hx; omega
/-- each number below n once -/
def namP (n : Int) (l : List Int) : Prop := (l.length : Int) = n ∧ (∀ x ∈ l, 0 ≤ x ∧ x ≤ n - 1) ∧ setL l = full n
instance (n : Int) (l : List Int) : Decidable (namP n l) := by unfold namP; infer_instance
theorem namP.all {N : Nat} {l : List Int} (hN : N ≤ 10) (h : namP (N : Int) l) {m : Nat} (hm : m < N) : (m : Int) ∈ l := by
 have h1 := (setL_bits (l := l) (fun y hy => by have := h.2.1 y hy; omega)).2 m
 rw [h.2.2, (set_full hN).2] at h1
 simpa [hm] using h1
theorem namP.nodup {N : Nat} {l : List Int} (hN : N ≤ 10) (h : namP (N : Int) l) : l.Nodup := by
 have hl : l.length = N := by have := h.1; omega
 obtain ⟨h1, _⟩ := full_list N (l.map Int.toNat) (by simp; omega) (fun m hm => List.mem_map.2 ⟨(m : Int), h.all hN hm, by simp⟩)
 exact List.Pairwise.of_map Int.toNat (fun a b hab e => hab (by rw [e])) h1
theorem nodup_at {l : List Int} (h : l.Nodup) {i j : Nat} (hi : i < l.length) (hj : j < l.length) (e : rd l (i : Int) = rd l (j : Int)) : i = j := by
 rw [rd_lt l i hi, rd_lt l j hj] at e
 have hp := List.pairwise_iff_getElem.1 h
 rcases Nat.lt_trichotomy i j with h1 | h1 | h1
 ·exact absurd e (hp i j hi hj h1)
 ·exact h1
 ·exact absurd e.symm (hp j i hj hi h1)
theorem mem_take_rd {l : List Int} {k : Nat} (hk : k ≤ l.length) {x : Int} : x ∈ l.take k ↔ ∃ q : Nat, q < k ∧ rd l (q : Int) = x := by
 rw [List.mem_iff_getElem]
 constructor
 ·rintro ⟨q, hq, rfl⟩
  rw [List.length_take] at hq
  exact ⟨q, by omega, by rw [rd_lt l q (by omega)]; simp⟩
 ·rintro ⟨q, hq, rfl⟩
  exact ⟨q, by rw [List.length_take]; omega, by rw [rd_lt l q (by omega)]; simp⟩
theorem rd_in {l : List Int} {n : Int} (h : ∀ x ∈ l, 0 ≤ x ∧ x ≤ n - 1) {k : Nat} (hk : k < l.length) : ∃ m : Nat, rd l (k : Int) = m ∧ (m : Int) < n := by
 have := h (rd l (k : Int)) (by rw [rd_lt l k hk]; exact List.getElem_mem _)
 exact ⟨(rd l (k : Int)).toNat, by omega, by omega⟩
theorem isNaming_l {N : Nat} (hN : N ≤ 10) (l : List Int) (hl : l.length ≤ 1000) (h : ∀ x ∈ l, 0 ≤ x ∧ x ≤ (N : Int) - 1) (d : Nat) : ∀ i : Nat, i + d = l.length → Ev (fun k => impl_isNaming.l0 k l (N : Int) (setL (l.take i)) l (l.length : Int) (i : Int)) (decide (namP (N : Int) l)) := by
 induction d with
 | zero =>
  intro i hi
  rw [List.take_of_length_le (by omega)]
  refine Ev.shift ?_
  simp only [impl_isNaming.l0]
  refine Ev.neg (by omega) ?_
  by_cases h2 : (l.length : Int) = N
  ·refine Ev.pos h2 (Ev.pos (by omega) (Ev.ret ?_))
   rw [Bool.eq_iff_iff, beq_iff_eq, decide_eq_true_iff]
   exact ⟨fun h3 => ⟨h2, h, h3⟩, fun h3 => h3.2.2⟩
  ·refine Ev.neg h2 (Ev.ret ?_)
   symm; rw [decide_eq_false_iff_not]; exact fun h3 => h2 h3.1
 | succ d ih =>
  intro i hi
  have e := ih (i + 1) (by omega)
  rw [take_snoc l i (by omega), setL_snoc] at e
  obtain ⟨m, hm, hm2⟩ := rd_in h (k := i) (by omega)
  have f0 : 0 ≤ rd l (i : Int) := by omega
  refine Ev.shift ?_
  simp only [impl_isNaming.l0]
  refine Ev.pos (by omega) (Ev.pos (by omega) (Ev.pos (by omega) (Ev.pos f0 ?_)))
  rw [wrap64_id (by omega) (by omega), cast1]; exact e
theorem isNaming_ev {N : Nat} (hN : N ≤ 10) (l : List Int) (hl : l.length ≤ 1000) : Ev (fun k => impl_isNaming.f k l (N : Int)) (decide (namP (N : Int) l)) := by
 unfold impl_isNaming.f
 rw [wrap64_id (by omega) (by omega)]
 refine Ev.bind (allWithin_ev 0 ((N : Int) - 1) l (by omega)) ?_
 by_cases h : ∀ x ∈ l, 0 ≤ x ∧ x ≤ (N : Int) - 1
 ·exact Ev.pos (by simpa using h) (isNaming_l hN l hl h l.length 0 (by omega))
 ·refine Ev.neg (by simpa using h) (Ev.ret ?_)
  symm; rw [decide_eq_false_iff_not]; exact fun h3 => h h3.2.1
-- lists that extend an order
def okAt (L l : List Int) (k : Nat) : Prop := andN (rd (mir L) (rd l (k : Int))) (setL (l.take k)) = 0
instance (L l : List Int) (k : Nat) : Decidable (okAt L l k) := by unfold okAt; infer_instance
def extP (n : Int) (L l : List Int) : Prop := namP n l ∧ ∀ k, k < l.length → okAt L l k
instance (n : Int) (L l : List Int) : Decidable (extP n L l) := by unfold extP; infer_instance
theorem split_at (P : Nat → Prop) (i n : Nat) (hi : i < n) : (∀ k, k < n → i ≤ k → P k) ↔ P i ∧ ∀ k, k < n → i + 1 ≤ k → P k := by
 constructor
 ·intro h; exact ⟨h i hi (Nat.le_refl _), fun k h1 h2 => h k h1 (by omega)⟩
 ·rintro ⟨h1, h2⟩ k h3 h4
  by_cases e : k = i
  ·subst e; exact h1
  ·exact h2 k h3 (by omega)
theorem iext_l {n : Int} {L : List Int} (h : relP n L) (l : List Int) (hn : namP n l) (d : Nat) : ∀ i : Nat, i + d = l.length → Ev (fun k => impl_Order_isExtension.l0 k (setL (l.take i)) l (l.length : Int) (i : Int) n (mir L)) (decide (∀ k, k < l.length → i ≤ k → okAt L l k)) := by
 have h1 := h.1; have h2 := h.2.1
 have hl : (l.length : Int) = n := hn.1
 induction d with
 | zero =>
  intro i hi
  refine Ev.shift ?_
  simp only [impl_Order_isExtension.l0]
  refine Ev.neg (by omega) (Ev.ret ?_)
  symm; rw [decide_eq_true_iff]; intro k h3 h4; omega
 | succ d ih =>
  intro i hi
  have e := ih (i + 1) (by omega)
  rw [take_snoc l i (by omega), setL_snoc] at e
  obtain ⟨m, hm, hm2⟩ := rd_in hn.2.1 (k := i) (by omega)
  have f0 : 0 ≤ rd l (i : Int) := by omega
  have f1 : rd l (i : Int) < ((mir L).length : Int) := by rw [mir_length]; omega
  have hs := split_at (okAt L l) i l.length (by omega)
  refine Ev.shift ?_
  simp only [impl_Order_isExtension.l0]
  refine Ev.pos (by omega) (Ev.pos (by omega) (Ev.pos (by omega) (Ev.pos f0 (Ev.pos f1 ?_))))
  rw [wrap64_id (by omega) (by omega), cast1]
  by_cases hc : Go.bits .andNot .i64 (rd (mir L) (rd l (i : Int))) (setL (l.take i)) = 0
  ·refine Ev.pos hc (Ev.eq e ?_)
   rw [Bool.eq_iff_iff, decide_eq_true_iff, decide_eq_true_iff, hs]
   exact ⟨fun h3 => ⟨hc, h3⟩, fun h3 => h3.2⟩
  ·refine Ev.neg hc (Ev.ret ?_)
   symm; rw [decide_eq_false_iff_not, hs]; exact fun h3 => hc h3.1
theorem isExt_ev {n : Int} {L : List Int} (h : relP n L) (l : List Int) (hl : l.length ≤ 1000) : Ev (fun k => impl_Order_isExtension.f k n L l) (decide (extP n L l)) := by
 have h1 := h.1; have h2 := h.2.1
 obtain ⟨N, rfl⟩ : ∃ N : Nat, n = N := ⟨n.toNat, by omega⟩
 unfold impl_Order_isExtension.f
 refine Ev.bind (isNaming_ev (by omega) l hl) ?_
 by_cases hn : namP (N : Int) l
 ·refine Ev.pos (by simpa using hn) (Ev.bind (mirror_ev h) (Ev.eq (iext_l h l hn l.length 0 (by omega)) ?_))
  rw [Bool.eq_iff_iff, decide_eq_true_iff, decide_eq_true_iff]
  exact ⟨fun h3 => ⟨hn, fun k hk => h3 k hk (Nat.zero_le _)⟩, fun h3 k hk _ => h3.2 k hk⟩
 ·refine Ev.neg (by simpa using hn) (Ev.ret ?_)
  symm; rw [decide_eq_false_iff_not]; exact fun h3 => hn h3.1
theorem okAt_iff {n : Int} {L l : List Int} (h : relP n L) (hx : ∀ x ∈ l, 0 ≤ x ∧ x < 10) {k m : Nat} (hm : rd l (k : Int) = m) (hml : m < L.length) : okAt L l k ↔ ∀ j, j < L.length → lt L j m = true → (j : Int) ∈ l.take k := by
 have h1 := h.1; have h2 := h.2.1
 have hs := setL_bits (l := l.take k) (fun y hy => hx y (List.mem_of_mem_take hy))
 unfold okAt
 rw [hm, andNot_zero ((mir_relP h).set (by rw [mir_length]; exact hml)) hs.1]
 constructor
 ·intro h3 j hj hb
  have := h3 j (by omega) (show lt (mir L) m j = true by rw [mir_lt h hml hj]; exact hb)
  rw [hs.2] at this; simpa using this
 ·intro h3 j hj hb
  rw [hs.2, decide_eq_true_iff]
  have hjl : j < L.length := by have := (mir_relP h).lt_len (i := m) (by rw [mir_length]; exact hml) hb; rwa [mir_length] at this
  exact h3 j hjl (by rw [← mir_lt h hml hjl]; exact hb)
end Go.Proofs.YtgdnljpallpjiaaDoor.Pure
namespace Go.Proofs.YtgdnljpallpjiaaDoor.Pure
set_option linter.unusedVariables false
set_option linter.unusedSimpArgs false
-- plain
theorem cnt_le {n : Nat} {p q : Nat → Bool} (h : ∀ x, x < n → p x = true → q x = true) : (List.range n).countP p ≤ (List.range n).countP q := by
 induction n with
 | zero => simp
 | succ n ih =>
  have h1 := ih (fun x hx => h x (by omega))
  have h2 := h n (by omega)
  rw [List.range_succ, List.countP_append, List.countP_append, List.countP_singleton, List.countP_singleton]
  by_cases hp : p n = true
  ·rw [if_pos hp, if_pos (h2 hp)]; omega
  ·rw [if_neg hp]; split <;> omega
theorem cnt_lt {n : Nat} {p q : Nat → Bool} (h : ∀ x, x < n → p x = true → q x = true) (hx : ∃ x, x < n ∧ q x = true ∧ p x = false) : (List.range n).countP p < (List.range n).countP q := by
 induction n with
 | zero => obtain ⟨x, hx, _⟩ := hx; omega
 | succ n ih =>
  have h1 := cnt_le (n := n) (fun x hx => h x (by omega))
  have h2 := h n (by omega)
  rw [List.range_succ, List.countP_append, List.countP_append, List.countP_singleton, List.countP_singleton]
  by_cases hn : q n = true ∧ p n = false
  ·rw [if_pos hn.1, if_neg (by simp [hn.2])]; omega
  ·obtain ⟨x, hx, hq, hp⟩ := hx
   have hxn : x < n := by
    rcases Nat.lt_or_ge x n with h | h
    ·exact h
    ·obtain rfl : x = n := by omega
     exact absurd ⟨hq, hp⟩ hn
   have := ih (fun x hx => h x (by omega)) ⟨x, hxn, hq, hp⟩
   by_cases hpn : p n = true
   ·rw [if_pos hpn, if_pos (h2 hpn)]; omega
   ·rw [if_neg hpn]; split <;> omega
end Go.Proofs.YtgdnljpallpjiaaDoor.Pure
namespace Go.Proofs.YtgdnljpallpjiaaDoor.Pure
open Go.RowKit Go.Proofs.YtgdnljpallpjiaaDoor.Q Go.Proofs.YtgdnljpallpjiaaDoorW.PrintWords Go.Proofs.YtgdnljpallpjiaaDoorW.PrintLast
set_option linter.unusedVariables false
set_option linter.unusedSimpArgs false
-- the first extension: each element is the least that may stand there
/-- c may stand behind the elements of F -/
def cand (L F : List Int) (c : Nat) : Prop := (c : Int) ∉ F ∧ ∀ j, j < L.length → lt L j c = true → (j : Int) ∈ F
/-- among what is left there is one with nothing of it below -/
theorem least_of {n : Int} {L : List Int} (h : orderP n L) (P : Nat → Prop) : ∀ d c, c < L.length → P c → ((List.range L.length).countP fun j => lt L j c) ≤ d → ∃ m, m < L.length ∧ P m ∧ ∀ j, j < L.length → lt L j m = true → ¬ P j := by
 intro d
 induction d with
 | zero =>
  intro c hc hp hd
  refine ⟨c, hc, hp, fun j hj hb => ?_⟩
  have := List.countP_eq_zero.1 (Nat.le_zero.1 hd) j (List.mem_range.2 hj)
  rw [hb] at this; exact absurd rfl this
 | succ d ih =>
  intro c hc hp hd
  by_cases hx : ∃ j, j < L.length ∧ lt L j c = true ∧ P j
  ·obtain ⟨j, hj, hb, hpj⟩ := hx
   refine ih j hj hpj ?_
   have : ((List.range L.length).countP fun q => lt L q j) < ((List.range L.length).countP fun q => lt L q c) :=
    cnt_lt (fun q hq h1 => h.trans hq h1 hb) ⟨j, hj, hb, h.irr hj⟩
   omega
  ·exact ⟨c, hc, hp, fun j hj hb hpj => hx ⟨j, hj, hb, hpj⟩⟩
theorem exists_cand {n : Int} {L F : List Int} (h : orderP n L) (hF : F.length < L.length) (hin : ∀ x ∈ F, 0 ≤ x ∧ x < L.length) : ∃ c, c < L.length ∧ cand L F c := by
 have hmiss : ∃ c, c < L.length ∧ (c : Int) ∉ F := by
  refine Classical.byContradiction fun hno => ?_
  have hall : ∀ m, m < L.length → (m : Int) ∈ F := fun m hm => Classical.byContradiction fun h2 => hno ⟨m, hm, h2⟩
  have := List.Nodup.length_le_of_subset (l₁ := List.range L.length) (l₂ := F.map Int.toNat) List.nodup_range (fun m hm => List.mem_map.2 ⟨(m : Int), hall m (List.mem_range.1 hm), by simp⟩)
  simp at this; omega
 obtain ⟨c, hc, hcF⟩ := hmiss
 obtain ⟨m, hm, hmF, hb⟩ := least_of h (fun c => (c : Int) ∉ F) _ c hc hcF (Nat.le_refl _)
 exact ⟨m, hm, hmF, fun j hj hbj => Classical.byContradiction fun h2 => hb j hj hbj h2⟩
theorem shr0_all : ∀ x : Fin 1024, ∀ j : Fin 10, decide (Go.bits .and .i64 (shr .i64 (x.val : Int) (j.val : Int)) 1 = 0) = !bit (x.val : Int) j.val := by decide +kernel
theorem shr0 {x : Int} (h : setP x) {j : Nat} (hj : j < 10) : Go.bits .and .i64 (shr .i64 x (j : Int)) 1 = 0 ↔ bit x j = false := by
 obtain ⟨m, rfl, hm⟩ := h.nat
 have := shr0_all ⟨m, hm⟩ ⟨j, hj⟩
 constructor
 ·intro e; rw [decide_eq_true e] at this; simpa using this.symm
 ·intro e; rw [e] at this; exact of_decide_eq_true this
/-- the elements of F stand as early as they may -/
def early (L F : List Int) : Prop := (∀ x ∈ F, 0 ≤ x ∧ x < L.length) ∧ ∀ q : Nat, q < F.length → ∀ c, c < L.length → cand L (F.take q) c → rd F (q : Int) ≤ c
theorem early_snoc {L F : List Int} (h : early L F) {c : Nat} (hc : c < L.length) (hmin : ∀ j, j < c → ¬ cand L F j) : early L (F ++ [(c : Int)]) := by
 refine ⟨fun x hx => ?_, fun q hq c2 hc2 hcand => ?_⟩
 ·rcases List.mem_append.1 hx with hx | hx
  ·exact h.1 x hx
  ·rw [List.mem_singleton] at hx; omega
 ·rw [List.length_append, List.length_singleton] at hq
  by_cases e : q = F.length
  ·subst e
   rw [List.take_left'  rfl] at hcand
   rw [rd_lt _ _ (by simp)]
   simp
   exact Nat.le_of_not_lt fun hlt => hmin c2 hlt hcand
  ·rw [List.take_append_of_le_length (by omega)] at hcand
   have := h.2 q (by omega) c2 hc2 hcand
   rw [rd_lt _ q (by omega)] at this
   rw [rd_lt _ q (by simp; omega), List.getElem_append_left (by omega)]
   exact this
theorem cand_iff {n : Int} {L F : List Int} (h : relP n L) (hin : ∀ x ∈ F, 0 ≤ x ∧ x < L.length) {c : Nat} (hc : c < L.length) : cand L F c ↔ bit (setL F) c = false ∧ Go.bits .andNot .i64 (rd (mir L) (c : Int)) (setL F) = 0 := by
 have h1 := h.1; have h2 := h.2.1
 have hs := setL_bits (l := F) (fun y hy => by have := hin y hy; omega)
 unfold cand
 rw [hs.2, decide_eq_false_iff_not]
 refine and_congr_right fun _ => ?_
 rw [show Go.bits .andNot .i64 (rd (mir L) (c : Int)) (setL F) = andN (rd (mir L) (c : Int)) (setL F) from rfl, andNot_zero ((mir_relP h).set (by rw [mir_length]; exact hc)) hs.1]
 constructor
 ·intro h3 j hj hb
  have hjl : j < L.length := by have := (mir_relP h).lt_len (i := c) (by rw [mir_length]; exact hc) hb; rwa [mir_length] at this
  rw [hs.2, decide_eq_true_iff]
  exact h3 j hjl (by rw [← mir_lt h hc hjl]; exact hb)
 ·intro h3 j hj hb
  have := h3 j (by omega) (show lt (mir L) c j = true by rw [mir_lt h hc hj]; exact hb)
  rw [hs.2] at this; simpa using this
theorem ifirst_l1 {n : Int} {L : List Int} (h : orderP n L) (F : List Int) (hF : early L F) (hl : F.length < L.length) (R : List Int × Bool) (c : Nat) (hc : c < L.length) (hcand : cand L F c) (hmin : ∀ j, j < c → ¬ cand L F j)
  (hk : Ev (fun k => impl_FirstExtension.l0 k (F ++ [(c : Int)]) (setL (F ++ [(c : Int)])) n L n (mir L)) R) (d : Nat) : ∀ i : Nat, i + d = c → Ev (fun k => impl_FirstExtension.l1 k F (setL F) n (i : Int) n L n (mir L)) R := by
 have h1 := h.1.1; have h2 := h.1.2.1
 have hs := (setL_bits (l := F) (fun y hy => by have := hF.1 y hy; omega)).1
 induction d with
 | zero =>
  intro i hi
  obtain rfl : i = c := by omega
  have hh := (cand_iff h.1 hF.1 hc).1 hcand
  have f1 : (i : Int) < ((mir L).length : Int) := by rw [mir_length]; omega
  refine Ev.shift ?_
  simp only [impl_FirstExtension.l1]
  refine Ev.pos (by omega) (Ev.pos (by omega) (Ev.pos ((shr0 hs (by omega)).2 hh.1) (Ev.pos f1 (Ev.pos hh.2 (Ev.pos (by omega) ?_)))))
  rw [← setL_snoc]; exact hk
 | succ d ih =>
  intro i hi
  have e := ih (i + 1) (by omega)
  have hno := fun hx => hmin i (by omega) ((cand_iff h.1 hF.1 (by omega)).2 hx)
  have f1 : (i : Int) < ((mir L).length : Int) := by rw [mir_length]; omega
  refine Ev.shift ?_
  simp only [impl_FirstExtension.l1]
  refine Ev.pos (by omega) (Ev.pos (by omega) ?_)
  rw [wrap64_id (by omega) (by omega), cast1]
  by_cases hb : bit (setL F) i = false
  ·exact Ev.pos ((shr0 hs (by omega)).2 hb) (Ev.pos f1 (Ev.neg (fun hx => hno ⟨hb, hx⟩) e))
  ·exact Ev.neg (fun hx => hb ((shr0 hs (by omega)).1 hx)) e
theorem least_nat (P : Nat → Prop) : ∀ c, P c → ∃ m, m ≤ c ∧ P m ∧ ∀ j, j < m → ¬ P j := by
 intro c
 induction c using Nat.strongRecOn with
 | ind c ih =>
  intro hp
  by_cases hx : ∃ j, j < c ∧ P j
  ·obtain ⟨j, hj, hpj⟩ := hx
   obtain ⟨m, hm, h1, h2⟩ := ih j hj hpj
   exact ⟨m, by omega, h1, h2⟩
  ·exact ⟨c, Nat.le_refl _, hp, fun j hj hpj => hx ⟨j, hj, hpj⟩⟩
theorem ifirst_l0 {n : Int} {L : List Int} (h : orderP n L) (d : Nat) : ∀ F : List Int, F.length + d = L.length → early L F → ∃ G, Ev (fun k => impl_FirstExtension.l0 k F (setL F) n L n (mir L)) (G, true) ∧ G.length = L.length ∧ early L G := by
 have h1 := h.1.1; have h2 := h.1.2.1
 induction d with
 | zero =>
  intro F hF he
  refine ⟨F, Ev.shift ?_, by omega, he⟩
  simp only [impl_FirstExtension.l0]
  exact Ev.neg (by omega) (Ev.ret rfl)
 | succ d ih =>
  intro F hF he
  obtain ⟨c0, hc0, hcand0⟩ := exists_cand h (by omega) he.1
  obtain ⟨c, hcle, hcand, hmin⟩ := least_nat (cand L F) c0 hcand0
  obtain ⟨G, hG, hGl, hGe⟩ := ih (F ++ [(c : Int)]) (by simp; omega) (early_snoc he (by omega) hmin)
  refine ⟨G, Ev.shift ?_, hGl, hGe⟩
  simp only [impl_FirstExtension.l0]
  exact Ev.pos (by omega) (ifirst_l1 h F he (by omega) _ c (by omega) hcand hmin hG c 0 (by omega))
theorem iFirst_ev {n : Int} {L : List Int} (h : orderP n L) : ∃ G, Ev (fun k => impl_FirstExtension.f k n L) (G, true) ∧ G.length = L.length ∧ early L G := by
 have h1 := h.1.1; have h2 := h.1.2.1
 obtain ⟨G, hG, hl, he⟩ := ifirst_l0 h L.length [] (by simp) ⟨fun x hx => (by cases hx), fun q hq => (by simp at hq)⟩
 refine ⟨G, ?_, hl, he⟩
 unfold impl_FirstExtension.f
 exact Ev.bind (isOrder_ev n L (by omega)) (Ev.pos (by simpa using h) (Ev.bind (mirror_ev h.1) hG))
/-- where two lists differ first, an extension's element is no less -/
theorem early_le {n : Int} {L F l : List Int} (h : orderP n L) (hF : early L F) (hl : extP n L l) (q : Nat) (hq : q < F.length) (hql : q < l.length) (hsame : l.take q = F.take q) : rd F (q : Int) ≤ rd l (q : Int) := by
 have h1 := h.1.1; have h2 := h.1.2.1
 obtain ⟨N, hN⟩ : ∃ N : Nat, n = N := ⟨n.toNat, by omega⟩
 obtain ⟨c, hc, hc2⟩ := rd_in hl.1.2.1 hql
 have hnod := namP.nodup (N := N) (by omega) (hN ▸ hl.1)
 rw [hc]
 refine hF.2 q hq c (by omega) ?_
 rw [← hsame]
 refine ⟨fun hx => ?_, (okAt_iff h.1 (fun x hx => by have := hl.1.2.1 x hx; omega) hc (by omega)).1 (hl.2 q hql)⟩
 obtain ⟨p, hp, he⟩ := (mem_take_rd (by omega)).1 hx
 have := nodup_at hnod (i := p) (j := q) (by omega) hql (by rw [he, hc])
 omega
theorem all_f {n : Int} {L : List Int} (h : relP n L) : impl_Order_all.f n L = some (full n) := by
 unfold impl_Order_all.f
 rw [if_pos h.1.1]; rfl
end Go.Proofs.YtgdnljpallpjiaaDoor.Pure
