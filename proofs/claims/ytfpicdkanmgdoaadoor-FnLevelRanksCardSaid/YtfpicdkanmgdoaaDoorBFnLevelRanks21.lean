import Derived.Test.YtfpicdkanmgdoaaDoorBFnLevelRanks20
namespace Go.Proofs.YtfpicdkanmgdoaaDoor.Pure
open Go.RowKit Go.Proofs.YtfpicdkanmgdoaaDoor.Q Go.Proofs.YtfpicdkanmgdoaaDoorW.PrintWords Go.Proofs.YtfpicdkanmgdoaaDoorW.PrintLast
set_option linter.unusedVariables false
set_option linter.unusedSimpArgs false
theorem orderP_of {n : Int} {L : List Int} (h : relP n L) (h1 : ∀ i, i < L.length → lt L i i = false) (h2 : ∀ i j m, i < L.length → j < L.length → lt L i j = true → lt L j m = true → lt L i m = true) : orderP n L :=
 ⟨h, fun m hm => ⟨h1 m hm, fun j hj => by
  obtain ⟨j', rfl, hj', hb⟩ := h.bits hm hj
  exact (andNot_zero (h.set hj') (h.set hm)).2 fun q _ hb2 => h2 m j' q hm hj' hb hb2⟩⟩
theorem rel_relP {n : Int} {N : Nat} (hn : n = N) (h10 : N ≤ 10) (p : Nat → Nat → Bool) : relP n (rel p N) := by
 subst hn
 refine ⟨⟨by omega, by omega⟩, by rw [rel_length], fun x hx => ?_⟩
 obtain ⟨i, hi, rfl⟩ := List.mem_iff_getElem.1 hx
 rw [rel_length] at hi
 rw [← rd_lt _ i (by rw [rel_length]; exact hi)]
 have hs := rel_set (p := p) h10 hi
 refine ⟨hs.1, ?_⟩
 rw [full_pow h10]
 obtain ⟨a, ha, hlt⟩ := hs.nat
 rw [ha]
 have : a < 2 ^ N := by
  refine Nat.lt_pow_two_of_testBit a fun m hm => ?_
  have := rel_lt (p := p) h10 hi m
  unfold lt at this
  rw [ha, bit_nat] at this
  rw [this]; simp; omega
 have h2 : ((2 ^ N : Nat) : Int) = (2 : Int) ^ N := by simp
 omega
def mir (L : List Int) : List Int := rel (fun i j => lt L j i) L.length
theorem mir_length (L : List Int) : (mir L).length = L.length := rel_length _ _
theorem mir_relP {n : Int} {L : List Int} (h : relP n L) : relP n (mir L) := rel_relP h.2.1.symm (by have := h.1; have := h.2.1; omega) _
theorem mir_lt {n : Int} {L : List Int} (h : relP n L) {i j : Nat} (hi : i < L.length) (hj : j < L.length) : lt (mir L) i j = lt L j i := by
 have h1 := h.1; have h2 := h.2.1
 unfold mir; rw [rel_lt (by omega) hi]; simp [hj]
theorem iOrderOfLevels_yes {l : List Int} (h : lvlP l) : Ev (fun k => impl_OrderOfLevels.f k l) ((l.length : Int), rel (lvlLt l) l.length, true) := by
 have := h.1
 unfold impl_OrderOfLevels.f
 exact Ev.bind (levels_impl l (by omega)) (Ev.pos (by simpa using h) (Ev.bind (ofLevels_ev l (by omega)) (Ev.ret rfl)))
theorem lvl_order {l : List Int} (h : l.length ≤ 10) : orderP (l.length : Int) (rel (lvlLt l) l.length) := by
 have hr := rel_relP (n := (l.length : Int)) rfl h (lvlLt l)
 have hlt : ∀ {i j : Nat}, i < l.length → j < l.length → lt (rel (lvlLt l) l.length) i j = lvlLt l i j := fun {i j} hi hj => by rw [rel_lt h hi]; simp [hj]
 refine orderP_of hr (fun i hi => ?_) (fun i j q hi hj a b => ?_)
 ·rw [rel_length] at hi
  rw [hlt hi hi]; unfold lvlLt; simp
 ·have hq := hr.lt_len hj b
  rw [rel_length] at hi hj hq
  rw [hlt hi hj] at a
  rw [hlt hj hq] at b
  rw [hlt hi hq]
  unfold lvlLt at a b ⊢
  simp at a b ⊢; omega
-- closing a relation, step by step
def wst (L : List Int) (k i : Nat) : List Int := if lt L i k = true then L.set i (Go.bits .or .i64 (rd L (i : Int)) (rd L (k : Int))) else L
def wrow (k : Nat) : Nat → List Int → List Int
 | 0, L => L
 | d + 1, L => wst (wrow k d L) k d
def wsh : Nat → List Int → List Int
 | 0, L => L
 | d + 1, L => wrow d (wsh d L).length (wsh d L)
theorem set_rd (L : List Int) (i : Nat) (x : Int) (hi : i < L.length) (m : Nat) : rd (L.set i x) (m : Int) = if m = i then x else rd L (m : Int) := by
 rw [rd_nat, rd_nat, List.getD_eq_getElem?_getD, List.getD_eq_getElem?_getD, List.getElem?_set]
 by_cases e : i = m
 ·subst e; simp [hi]
 ·simp [e, Ne.symm e]
def clo (L : List Int) : List Int := wsh L.length L
-- the array of ways, filled set by set
theorem flip_less : ∀ T : Fin 1024, ∀ j : Fin 10, T.val.testBit j.val = true → T.val ^^^ 2 ^ j.val < T.val := by decide +kernel
theorem flip_lt {N T j : Nat} (hN : N ≤ 10) (hT : T < 2 ^ N) (hj : j < N) (hb : T.testBit j = true) : flip T j < T := by
 have : 2 ^ N ≤ 2 ^ 10 := Nat.pow_le_pow_right (by omega) hN
 exact flip_less ⟨T, by omega⟩ ⟨j, by omega⟩ hb
theorem flip_or {s i T : Nat} : (T.testBit i = true ∧ flip T i = s) ↔ (s.testBit i = false ∧ T = s ||| 2 ^ i) := by
 constructor
 ·rintro ⟨h1, rfl⟩
  refine ⟨by rw [bit_flip, h1]; simp, Nat.eq_of_testBit_eq fun k => ?_⟩
  rw [Nat.testBit_or, bit_flip, Nat.testBit_two_pow]
  by_cases e : i = k
  ·subst e; simp [h1]
  ·simp [e]
 ·rintro ⟨h1, rfl⟩
  refine ⟨by rw [Nat.testBit_or, Nat.testBit_two_pow]; simp, Nat.eq_of_testBit_eq fun k => ?_⟩
  rw [bit_flip, Nat.testBit_or, Nat.testBit_two_pow]
  by_cases e : i = k
  ·subst e; simp [h1]
  ·simp [e]
def pw (N : Nat) (c : Nat → Nat → Bool) (s i T : Nat) : Nat := if T = 0 then 1 else sumR N fun j => if T.testBit j && c (flip T j) j && (decide (flip T j < s) || (decide (flip T j = s) && decide (j < i))) then wS N c (flip T j) else 0
theorem pc_pos {N T : Nat} (h0 : T ≠ 0) (hT : T < 2 ^ N) : 0 < pc N T := by
 refine Nat.pos_of_ne_zero fun h => h0 ?_
 apply Nat.eq_of_testBit_eq
 intro k
 rw [Nat.zero_testBit]
 by_cases hk : k < N
 ·exact pc_zero h hk
 ·exact Nat.testBit_lt_two_pow (Nat.lt_of_lt_of_le hT (Nat.pow_le_pow_right (by omega) (by omega)))
theorem pw_all {N : Nat} {c : Nat → Nat → Bool} {s i T : Nat} (hT : T < 2 ^ N) (h : ∀ j, j < N → T.testBit j = true → flip T j < s) : pw N c s i T = wS N c T := by
 unfold pw
 by_cases h0 : T = 0
 ·subst h0
  rw [if_pos rfl, wS_zero]
  unfold pc; exact sumR_zero fun j _ => by simp
 ·rw [if_neg h0, wS_step (pc_pos h0 hT)]
  refine sumR_congr fun j hj => ?_
  by_cases hb : T.testBit j = true
  ·rw [decide_eq_true (h j hj hb)]; simp
  ·simp [hb]
theorem pw_le {N : Nat} {c : Nat → Nat → Bool} (hN : N ≤ 10) (s i T : Nat) : pw N c s i T ≤ 100000000000 := by
 unfold pw
 split
 ·omega
 ·refine Nat.le_trans (sumR_le (b := 10000000000) fun j _ => ?_) (by omega)
  split
  ·have h1 := wS_le (N := N) (c := c) hN _ (flip T j) rfl
   have h2 := pc_le N (flip T j)
   have h3 : 10 ^ pc N (flip T j) ≤ 10 ^ 10 := Nat.pow_le_pow_right (by omega) (by omega)
   omega
  ·omega
theorem pw_next {N : Nat} {c : Nat → Nat → Bool} {s T : Nat} : pw N c s N T = pw N c (s + 1) 0 T := by
 unfold pw
 split
 ·rfl
 ·refine sumR_congr fun j hj => ?_
  have e : (decide (flip T j < s) || (decide (flip T j = s) && decide (j < N))) = (decide (flip T j < s + 1) || (decide (flip T j = s + 1) && decide (j < 0))) := by
   rw [Bool.eq_iff_iff]; simp; omega
  rw [e]
theorem pw_keep {N : Nat} {c : Nat → Nat → Bool} {s i T : Nat} (h : T.testBit i = true → flip T i = s → c s i = false) : pw N c s (i + 1) T = pw N c s i T := by
 unfold pw
 split
 ·rfl
 ·refine sumR_congr fun j hj => ?_
  by_cases hb : T.testBit j = true ∧ flip T j = s ∧ j = i
  ·obtain ⟨h1, h2, rfl⟩ := hb
   have := h h1 h2
   rw [← h2] at this
   simp [this]
  ·by_cases h1 : T.testBit j = true
   ·have e : (decide (flip T j < s) || (decide (flip T j = s) && decide (j < i + 1))) = (decide (flip T j < s) || (decide (flip T j = s) && decide (j < i))) := by
     rw [Bool.eq_iff_iff]; simp
     constructor
     ·rintro (h3 | ⟨h3, h4⟩)
      ·exact .inl h3
      ·by_cases e2 : j = i
       ·exact absurd ⟨h1, h3, e2⟩ hb
       ·exact .inr ⟨h3, by omega⟩
     ·rintro (h3 | ⟨h3, h4⟩)
      ·exact .inl h3
      ·exact .inr ⟨h3, by omega⟩
    rw [e]
   ·simp [h1]
theorem pw_put {N : Nat} {c : Nat → Nat → Bool} {s i : Nat} (hi : i < N) (hb : s.testBit i = false) (hc : c s i = true) : pw N c s (i + 1) (s ||| 2 ^ i) = pw N c s i (s ||| 2 ^ i) + wS N c s := by
 obtain ⟨h1, h2⟩ := flip_or.2 ⟨hb, rfl⟩
 have h0 : ¬ (s ||| 2 ^ i) = 0 := fun e => by rw [e] at h1; simp at h1
 unfold pw
 rw [if_neg h0, if_neg h0]
 refine sumR_at hi ?_ (fun j hj hne => ?_)
 ·rw [h1, h2, hc]; simp
 ·have e : (decide (flip (s ||| 2 ^ i) j < s) || (decide (flip (s ||| 2 ^ i) j = s) && decide (j < i + 1))) = (decide (flip (s ||| 2 ^ i) j < s) || (decide (flip (s ||| 2 ^ i) j = s) && decide (j < i))) := by
   rw [Bool.eq_iff_iff]; simp
   constructor
   ·rintro (h3 | ⟨h3, h4⟩)
    ·exact .inl h3
    ·exact .inr ⟨h3, by omega⟩
   ·rintro (h3 | ⟨h3, h4⟩)
    ·exact .inl h3
    ·exact .inr ⟨h3, by omega⟩
  rw [e]
def arrOk (N : Nat) (c : Nat → Nat → Bool) (s i : Nat) (y : List Int) : Prop := y.length = 2 ^ N ∧ ∀ T : Nat, T < 2 ^ N → rd y (T : Int) = (pw N c s i T : Int)
theorem arr_start (N : Nat) (c : Nat → Nat → Bool) : arrOk N c 0 0 ((List.replicate (2 ^ N) 0).set 0 1) := by
 have hp : 0 < 2 ^ N := Nat.two_pow_pos N
 refine ⟨by simp, fun T hT => ?_⟩
 rw [set_rd _ 0 1 (by simp [hp]) T]
 unfold pw
 by_cases h0 : T = 0
 ·subst h0; rfl
 ·rw [if_neg h0, if_neg h0, sumR_zero (fun j _ => by simp)]
  rw [rd_lt _ T (by simpa using hT)]; simp
theorem arr_self {N : Nat} {c : Nat → Nat → Bool} {s i : Nat} {y : List Int} (hN : N ≤ 10) (h : arrOk N c s i y) (hs : s < 2 ^ N) : rd y (s : Int) = (wS N c s : Int) := by
 rw [h.2 s hs, pw_all hs fun j hj hb => flip_lt hN hs hj hb]
theorem arr_put {N : Nat} {c : Nat → Nat → Bool} {s i : Nat} {y : List Int} (hN : N ≤ 10) (h : arrOk N c s i y) (hs : s < 2 ^ N) (hi : i < N) (hb : s.testBit i = false) (hc : c s i = true) :
  (s ||| 2 ^ i) < 2 ^ N ∧ arrOk N c s (i + 1) (y.set (s ||| 2 ^ i) (wrap64 (rd y ((s ||| 2 ^ i : Nat) : Int) + rd y (s : Int)))) := by
 have hT : (s ||| 2 ^ i) < 2 ^ N := Nat.or_lt_two_pow hs (Nat.pow_lt_pow_right (by omega) hi)
 have e1 := h.2 _ hT
 have e2 := arr_self hN h hs
 have b1 := pw_le (c := c) hN s i (s ||| 2 ^ i)
 have b2 := pw_le (c := c) hN s (i + 1) (s ||| 2 ^ i)
 have e3 := pw_put (c := c) hi hb hc
 refine ⟨hT, by simpa using h.1, fun T hT2 => ?_⟩
 rw [set_rd y _ _ (by rw [h.1]; exact hT) T]
 by_cases e : T = s ||| 2 ^ i
 ·subst e
  rw [if_pos rfl, e1, e2, wrap64_id (by omega) (by omega), e3]; omega
 ·rw [if_neg e, h.2 T hT2, pw_keep]
  intro h3 h4
  exact absurd (flip_or.1 ⟨h3, h4⟩).2 e
theorem arr_keep {N : Nat} {c : Nat → Nat → Bool} {s i : Nat} {y : List Int} (h : arrOk N c s i y) (hn : s.testBit i = true ∨ c s i = false) : arrOk N c s (i + 1) y := by
 refine ⟨h.1, fun T hT => ?_⟩
 rw [h.2 T hT, pw_keep]
 intro h3 h4
 rcases hn with hn | hn
 ·have := (flip_or.1 ⟨h3, h4⟩).1
  rw [hn] at this; cases this
 ·exact hn
theorem arr_next {N : Nat} {c : Nat → Nat → Bool} {s : Nat} {y : List Int} (h : arrOk N c s N y) : arrOk N c (s + 1) 0 y := ⟨h.1, fun T hT => by rw [h.2 T hT, pw_next]⟩
theorem arr_end {N : Nat} {c : Nat → Nat → Bool} {y : List Int} (hN : N ≤ 10) (h : arrOk N c (2 ^ N) 0 y) {T : Nat} (hT : T < 2 ^ N) : rd y (T : Int) = (wS N c T : Int) := by
 rw [h.2 T hT, pw_all hT fun j hj hb => Nat.lt_trans (flip_lt hN hT hj hb) hT]
-- sets of the elements of lists
def setL (l : List Int) : Int := l.foldl (fun x i => Go.bits .or .i64 x (shl .i64 1 i)) 0
theorem setL_fold (l : List Int) : ∀ x : Int, setP x → (∀ y ∈ l, 0 ≤ y ∧ y < 10) → setP (l.foldl (fun x i => Go.bits .or .i64 x (shl .i64 1 i)) x) ∧ ∀ m : Nat, bit (l.foldl (fun x i => Go.bits .or .i64 x (shl .i64 1 i)) x) m = (bit x m || decide ((m : Int) ∈ l)) := by
 induction l with
 | nil => intro x hx _; exact ⟨hx, fun m => by simp⟩
 | cons y l ih =>
  intro x hx hl
  have hy := hl y (by simp)
  obtain ⟨j, rfl⟩ : ∃ j : Nat, y = j := ⟨y.toNat, by omega⟩
  have hs := set_shl (j := j) (by omega)
  have ho := set_or hx hs.1
  obtain ⟨h1, h2⟩ := ih _ ho.1 (fun z hz => hl z (by simp [hz]))
  refine ⟨h1, fun m => ?_⟩
  rw [List.foldl_cons, h2, ho.2, hs.2]
  by_cases e : m = j
  ·subst e; simp
  ·have e2 : ¬ (m : Int) = (j : Int) := by omega
   simp [e, e2]
theorem setL_bits {l : List Int} (h : ∀ y ∈ l, 0 ≤ y ∧ y < 10) : setP (setL l) ∧ ∀ m : Nat, bit (setL l) m = decide ((m : Int) ∈ l) := by
 obtain ⟨h1, h2⟩ := setL_fold l 0 set_zero h
 exact ⟨h1, fun m => by rw [setL, h2, bit_zero, Bool.false_or]⟩
def namP (n : Int) (l : List Int) : Prop := (l.length : Int) = n ∧ (∀ x ∈ l, 0 ≤ x ∧ x ≤ n - 1) ∧ setL l = full n
instance (n : Int) (l : List Int) : Decidable (namP n l) := by unfold namP; infer_instance
theorem namP.all {N : Nat} {l : List Int} (hN : N ≤ 10) (h : namP (N : Int) l) {m : Nat} (hm : m < N) : (m : Int) ∈ l := by
 have h1 := (setL_bits (l := l) (fun y hy => by have := h.2.1 y hy; omega)).2 m
 rw [h.2.2, (set_full hN).2] at h1
 simpa [hm] using h1
end Go.Proofs.YtfpicdkanmgdoaaDoor.Pure
namespace Go.Proofs.YtfpicdkanmgdoaaDoor.Pure
open Go.RowKit Go.Proofs.YtfpicdkanmgdoaaDoor.Q Go.Proofs.YtfpicdkanmgdoaaDoorW.PrintWords Go.Proofs.YtfpicdkanmgdoaaDoorW.PrintLast
set_option linter.unusedVariables false
set_option linter.unusedSimpArgs false
end Go.Proofs.YtfpicdkanmgdoaaDoor.Pure
namespace Go.Proofs.YtfpicdkanmgdoaaDoor.Pure
open Go.RowKit Go.Proofs.YtfpicdkanmgdoaaDoor.Q Go.Proofs.YtfpicdkanmgdoaaDoorW.PrintWords Go.Proofs.YtfpicdkanmgdoaaDoorW.PrintLast
set_option linter.unusedVariables false
set_option linter.unusedSimpArgs false
theorem mirror_ev {n : Int} {L : List Int} (h : relP n L) : Ev (fun k => impl_Order_mirror.f k n L) (n, rel (fun i j => lt L j i) L.length) := by
 have e1 := h.2.1
 have e3 := h.1
 unfold impl_Order_mirror.f
 have hrel := relation_ev (fun i j => lt L j i) L.length (by omega) (fun _ u0_ u1_ => impl_Order_mirror_1.f u0_ u1_ n L) (fun i j hi hj => Ev.const (by
  unfold impl_Order_mirror_1.f
  rw [better_f n L hj (h.set hj) (by omega), Option.bind_some]; rfl))
 rw [e1] at hrel
 exact Ev.bind hrel (Ev.ret rfl)
-- lists that extend an order
def okAt (L l : List Int) (k : Nat) : Prop := andN (rd (mir L) (rd l (k : Int))) (setL (l.take k)) = 0
instance (L l : List Int) (k : Nat) : Decidable (okAt L l k) := by unfold okAt; infer_instance
def extP (n : Int) (L l : List Int) : Prop := namP n l ∧ ∀ k, k < l.length → okAt L l k
instance (n : Int) (L l : List Int) : Decidable (extP n L l) := by unfold extP; infer_instance
end Go.Proofs.YtfpicdkanmgdoaaDoor.Pure
namespace Go.Proofs.YtfpicdkanmgdoaaDoor.Pure
set_option linter.unusedVariables false
set_option linter.unusedSimpArgs false
-- plain
end Go.Proofs.YtfpicdkanmgdoaaDoor.Pure
namespace Go.Proofs.YtfpicdkanmgdoaaDoor.Pure
open Go.RowKit Go.Proofs.YtfpicdkanmgdoaaDoor.Q Go.Proofs.YtfpicdkanmgdoaaDoorW.PrintWords Go.Proofs.YtfpicdkanmgdoaaDoorW.PrintLast
set_option linter.unusedVariables false
set_option linter.unusedSimpArgs false
-- the first extension: each element is the least that may stand there
def cand (L F : List Int) (c : Nat) : Prop := (c : Int) ∉ F ∧ ∀ j, j < L.length → lt L j c = true → (j : Int) ∈ F
theorem shr0_all : ∀ x : Fin 1024, ∀ j : Fin 10, decide (Go.bits .and .i64 (shr .i64 (x.val : Int) (j.val : Int)) 1 = 0) = !bit (x.val : Int) j.val := by decide +kernel
theorem shr0 {x : Int} (h : setP x) {j : Nat} (hj : j < 10) : Go.bits .and .i64 (shr .i64 x (j : Int)) 1 = 0 ↔ bit x j = false := by
 obtain ⟨m, rfl, hm⟩ := h.nat
 have := shr0_all ⟨m, hm⟩ ⟨j, hj⟩
 constructor
 ·intro e; rw [decide_eq_true e] at this; simpa using this.symm
 ·intro e; rw [e] at this; exact of_decide_eq_true this
def early (L F : List Int) : Prop := (∀ x ∈ F, 0 ≤ x ∧ x < L.length) ∧ ∀ q : Nat, q < F.length → ∀ c, c < L.length → cand L (F.take q) c → rd F (q : Int) ≤ c
theorem all_f {n : Int} {L : List Int} (h : relP n L) : impl_Order_all.f n L = some (full n) := by
 unfold impl_Order_all.f
 rw [if_pos h.1.1]; rfl
-- the program's count of extensions
def cO (L : List Int) (T i : Nat) : Bool := decide (andN (rd (mir L) (i : Int)) (T : Int) = 0)
theorem setP_nat {N s : Nat} (hN : N ≤ 10) (hs : s < 2 ^ N) : setP (s : Int) := by
 have : 2 ^ N ≤ 2 ^ 10 := Nat.pow_le_pow_right (by omega) hN
 exact ⟨by omega, by omega⟩
theorem or_shl {N s i : Nat} (hN : N ≤ 10) (hs : s < 2 ^ N) (hi : i < N) : Go.bits .or .i64 (s : Int) (shl .i64 1 (i : Int)) = ((s ||| 2 ^ i : Nat) : Int) := by
 have h1 : 2 ^ N ≤ 2 ^ 10 := Nat.pow_le_pow_right (by omega) hN
 have h2 : 2 ^ i < 2 ^ N := Nat.pow_lt_pow_right (by omega) hi
 have e : shl .i64 1 (i : Int) = ((2 ^ i : Nat) : Int) := shl_all ⟨i, by omega⟩
 rw [e]
 exact or_nat s (2 ^ i) (by omega) (by omega)
theorem shl_pow {N : Nat} (hN : N ≤ 10) : shl .i64 1 (N : Int) = ((2 ^ N : Nat) : Int) := by
 have : ∀ n : Fin 11, shl .i64 1 (n.val : Int) = ((2 ^ n.val : Nat) : Int) := by decide +kernel
 exact this ⟨N, by omega⟩
theorem full_nat {N : Nat} (hN : N ≤ 10) : full (N : Int) = ((2 ^ N - 1 : Nat) : Int) := by
 have := Nat.one_le_two_pow (n := N)
 rw [full_pow hN, Int.natCast_sub this]; simp
theorem icount_l1 {n : Int} {L : List Int} (h : orderP n L) (s : Nat) (hs : s < 2 ^ L.length) (R : Int × Bool) (hk : ∀ y, arrOk L.length (cO L) (s + 1) 0 y → Ev (fun k => impl_CountExtensions.l0 k y ((2 ^ L.length : Nat) : Int) ((s + 1 : Nat) : Int) n L n (mir L)) R) (d : Nat) :
  ∀ (i : Nat) (y : List Int), i + d = L.length → arrOk L.length (cO L) s i y → Ev (fun k => impl_CountExtensions.l1 k y (s : Int) ((2 ^ L.length : Nat) : Int) (s : Int) n (i : Int) n L n (mir L)) R := by
 have h1 := h.1.1; have h2 := h.1.2.1
 have h10 : 2 ^ L.length ≤ 2 ^ 10 := Nat.pow_le_pow_right (by omega) (by omega)
 induction d with
 | zero =>
  intro i y hi hy
  obtain rfl : i = L.length := by omega
  refine Ev.shift ?_
  simp only [impl_CountExtensions.l1]
  refine Ev.neg (by omega) ?_
  rw [wrap64_id (by omega) (by omega), cast1]
  exact hk y (arr_next hy)
 | succ d ih =>
  intro i y hi hy
  have hil : i < L.length := by omega
  have hsp := setP_nat (N := L.length) (by omega) hs
  have hb0 := shr0 hsp (j := i) (by omega)
  rw [bit_nat] at hb0
  have f1 : (i : Int) < ((mir L).length : Int) := by rw [mir_length]; omega
  have fs : (s : Int) < (y.length : Int) := by rw [hy.1]; omega
  refine Ev.shift ?_
  simp only [impl_CountExtensions.l1]
  refine Ev.pos (by omega) (Ev.pos (by omega) ?_)
  rw [wrap64_id (x := (i : Int) + 1) (by omega) (by omega), cast1]
  by_cases hb : s.testBit i = false
  ·refine Ev.pos (hb0.2 hb) (Ev.pos f1 ?_)
   by_cases hc : Go.bits .andNot .i64 (rd (mir L) (i : Int)) (s : Int) = 0
   ·have hp := arr_put (by omega) hy hs hil hb (show cO L s i = true from decide_eq_true hc)
    have ft : ((s ||| 2 ^ i : Nat) : Int) < (y.length : Int) := by rw [hy.1]; exact Int.ofNat_lt.2 hp.1
    refine Ev.pos hc ?_
    rw [or_shl (by omega) hs hil]
    refine Ev.pos (by omega) (Ev.pos ft (Ev.pos (by omega) (Ev.pos fs ?_)))
    rw [Int.toNat_natCast]
    exact ih (i + 1) _ (by omega) hp.2
   ·exact Ev.neg hc (ih (i + 1) y (by omega) (arr_keep hy (.inr (decide_eq_false hc))))
  ·refine Ev.neg (fun hx => hb (hb0.1 hx)) (ih (i + 1) y (by omega) (arr_keep hy (.inl ?_)))
   simpa using hb
theorem icount_l0 {n : Int} {L : List Int} (h : orderP n L) (d : Nat) : ∀ (s : Nat) (y : List Int), s + d = 2 ^ L.length → arrOk L.length (cO L) s 0 y → Ev (fun k => impl_CountExtensions.l0 k y ((2 ^ L.length : Nat) : Int) (s : Int) n L n (mir L)) ((wS L.length (cO L) (2 ^ L.length - 1) : Int), true) := by
 have h1 := h.1.1; have h2 := h.1.2.1
 have hp : 0 < 2 ^ L.length := Nat.two_pow_pos _
 have e : n = (L.length : Int) := h2.symm
 induction d with
 | zero =>
  intro s y hs hy
  obtain rfl : s = 2 ^ L.length := by omega
  refine Ev.shift ?_
  simp only [impl_CountExtensions.l0]
  have hf : full n = ((2 ^ L.length - 1 : Nat) : Int) := by rw [e]; exact full_nat (by omega)
  refine Ev.neg (by omega) (Ev.bindc (all_f h.1) ?_)
  rw [hf]
  refine Ev.pos (by omega) (Ev.pos (by rw [hy.1]; omega) (Ev.ret ?_))
  rw [arr_end (by omega) hy (by omega)]
 | succ d ih =>
  intro s y hs hy
  refine Ev.shift ?_
  simp only [impl_CountExtensions.l0]
  refine Ev.pos (by omega) ?_
  exact icount_l1 h s (by omega) _ (fun y hy => ih (s + 1) y (by omega) hy) L.length 0 y (by omega) hy
theorem iCount_ev {n : Int} {L : List Int} (h : orderP n L) : Ev (fun k => impl_CountExtensions.f k n L) ((wS L.length (cO L) (2 ^ L.length - 1) : Int), true) := by
 have h1 := h.1.1; have h2 := h.1.2.1
 have h10 : 2 ^ L.length ≤ 2 ^ 10 := Nat.pow_le_pow_right (by omega) (by omega)
 have hp : 0 < 2 ^ L.length := Nat.two_pow_pos _
 have e : n = (L.length : Int) := h2.symm
 unfold impl_CountExtensions.f
 refine Ev.bind (isOrder_ev n L (by omega)) (Ev.pos (by simpa using h) (Ev.bind (mirror_ev h.1) (Ev.pos (by omega) ?_)))
 rw [show shl .i64 1 n = ((2 ^ L.length : Nat) : Int) by rw [e]; exact shl_pow (by omega)]
 refine Ev.pos (by omega) (Ev.pos (by rw [Int.toNat_natCast]; omega) (Ev.bindc rfl (Ev.pos (by rw [List.length_replicate, Int.toNat_natCast]; omega) ?_)))
 rw [Int.toNat_natCast, List.length_replicate]
 exact icount_l0 h (2 ^ L.length) 0 _ (by omega) (arr_start _ _)
-- two orders beside or above each other
def tg (b : Bool) (L M : List Int) (i j : Nat) : Bool :=
 if i < L.length ∧ j < L.length then lt L i j else if L.length ≤ i ∧ L.length ≤ j then lt M (i - L.length) (j - L.length) else b && decide (i < L.length)
def tgR (b : Bool) (L M : List Int) : List Int := rel (tg b L M) (L.length + M.length)
-- how many extensions two orders beside or above each other have
def cB (L : List Int) (T i : Nat) : Bool := decide (∀ j, j < L.length → lt L j i = true → T.testBit j = true)
theorem cO_cB {n : Int} {L : List Int} (h : relP n L) {T i : Nat} (hT : T < 2 ^ L.length) (hi : i < L.length) : cO L T i = cB L T i := by
 have h1 := h.1; have h2 := h.2.1
 unfold cO cB
 rw [decide_eq_decide, andNot_zero ((mir_relP h).set (by rw [mir_length]; exact hi)) (setP_nat (by omega) hT)]
 constructor
 ·intro h3 j hj hb
  have := h3 j (by omega) (show lt (mir L) i j = true by rw [mir_lt h hi hj]; exact hb)
  rwa [bit_nat] at this
 ·intro h3 j hj hb
  have hjl : j < L.length := by have := (mir_relP h).lt_len (i := i) (by rw [mir_length]; exact hi) hb; rwa [mir_length] at this
  rw [bit_nat]
  exact h3 j hjl (by rw [← mir_lt h hi hjl]; exact hb)
theorem wS_congr {N : Nat} {c c' : Nat → Nat → Bool} (hN : N ≤ 10) (h : ∀ T i, T < 2 ^ N → i < N → c T i = c' T i) : ∀ f s, pc N s = f → s < 2 ^ N → wS N c s = wS N c' s := by
 intro f
 induction f with
 | zero => intro s hs _; rw [wS_zero hs, wS_zero hs]
 | succ f ih =>
  intro s hs hl
  rw [wS_step (by omega), wS_step (by omega)]
  refine sumR_congr fun i hi => ?_
  by_cases hb : s.testBit i = true
  ·have hf := flip_lt hN hl hi hb
   have hp := pc_flip hi hb
   rw [h _ i (by omega) hi, ih (flip s i) (by omega) (by omega)]
  ·simp [hb]
def extN (L : List Int) : Nat := wS L.length (cO L) (2 ^ L.length - 1)
theorem ext_weak {l : List Int} (h : lvlP l) : Ev (fun k => impl_CountExtensions.f k (l.length : Int) (rel (lvlLt l) l.length)) (((linP (vOf l) l.length : Nat) : Int), true) := by
 have hl := h.1
 have ho : orderP (l.length : Int) (rel (lvlLt l) l.length) := lvl_order h.1
 have hlen : (rel (lvlLt l) l.length).length = l.length := by simp [rel]
 refine Ev.eq (iCount_ev ho) ?_
 have hv : ∀ i, i < l.length → vOf l i < 11 := fun i hi => by
  have := h.2.1 (rd l (i : Int)) (by rw [rd_lt l i hi]; exact List.getElem_mem _)
  unfold vOf; omega
 have e : wS l.length (cO (rel (lvlLt l) l.length)) (2 ^ l.length - 1) = wS l.length (cV l.length (vOf l)) (2 ^ l.length - 1) := by
  refine wS_congr hl (fun T i hT hi => ?_) _ _ rfl (by have := Nat.two_pow_pos l.length; omega)
  rw [cO_cB ho.1 (by rw [hlen]; exact hT) (by rw [hlen]; exact hi)]
  unfold cB cV
  rw [hlen]
  refine decide_eq_decide.2 ⟨fun hh j hj hlt => hh j hj ?_, fun hh j hj hlt => hh j hj ?_⟩
  ·have h1 := h.2.1 (rd l (i : Int)) (by rw [rd_lt l i hi]; exact List.getElem_mem _)
   have h2 := h.2.1 (rd l (j : Int)) (by rw [rd_lt l j hj]; exact List.getElem_mem _)
   rw [rel_lt hl hj]
   simp only [lvlLt, Bool.and_eq_true, decide_eq_true_eq]
   unfold vOf at hlt
   exact ⟨hi, by omega⟩
  ·rw [rel_lt hl hj] at hlt
   simp only [lvlLt, Bool.and_eq_true, decide_eq_true_eq] at hlt
   have h1 := h.2.1 (rd l (j : Int)) (by rw [rd_lt l j hj]; exact List.getElem_mem _)
   unfold vOf
   omega
 rw [hlen, e, wS_weak hv]
end Go.Proofs.YtfpicdkanmgdoaaDoor.Pure
