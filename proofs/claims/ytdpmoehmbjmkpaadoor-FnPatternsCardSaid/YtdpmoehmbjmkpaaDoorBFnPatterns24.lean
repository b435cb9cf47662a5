import Derived.Test.YtdpmoehmbjmkpaaDoorBFnPatterns16
import Derived.Test.YtdpmoehmbjmkpaaDoorBFnPatterns20
import Derived.Test.YtdpmoehmbjmkpaaDoorBFnPatterns23
namespace Go.Proofs.YtdpmoehmbjmkpaaDoor.Pure
open Go.RowKit Go.Proofs.YtdpmoehmbjmkpaaDoor.Q Go.Proofs.YtdpmoehmbjmkpaaDoorW.PrintWords Go.Proofs.YtdpmoehmbjmkpaaDoorW.PrintLast
set_option linter.unusedVariables false
set_option linter.unusedSimpArgs false
-- sets of the elements of lists
def setL (l : List Int) : Int := l.foldl (fun x i => Go.bits .or .i64 x (shl .i64 1 i)) 0
theorem setL_fold (l : List Int) : ∀ x : Int, setP x → (∀ y ∈ l, 0 ≤ y ∧ y < 10) → setP (l.foldl (fun x i => Go.bits .or .i64 x (shl .i64 1 i)) x) ∧ ∀ m : Nat, bit (l.foldl (fun x i => Go.bits .or .i64 x (shl .i64 1 i)) x) m = (bit x m || decide ((m : Int) ∈ l)) := by
 induction l with
 | nil => intro x hx _; exact ⟨hx, fun m => by simp⟩
 | cons y l ih =>
  intro x hx hl
  have hy := hl y (by simp)
  obtain ⟨j, rfl⟩ : ∃ j : Nat, y = j := ⟨y.toNat, by omega⟩
  have hs := set_shl (j := j) (by omega)
  have ho := set_or hx hs.1
  obtain ⟨h1, h2⟩ := ih _ ho.1 (fun z hz => hl z (by simp [hz]))
  refine ⟨h1, fun m => ?_⟩
  rw [List.foldl_cons, h2, ho.2, hs.2]
  by_cases e : m = j
  ·subst e; simp
  ·have e2 : ¬ (m : Int) = (j : Int) := by omega
   simp [e, e2]
theorem setL_bits {l : List Int} (h : ∀ y ∈ l, 0 ≤ y ∧ y < 10) : setP (setL l) ∧ ∀ m : Nat, bit (setL l) m = decide ((m : Int) ∈ l) := by
 obtain ⟨h1, h2⟩ := setL_fold l 0 set_zero h
 exact ⟨h1, fun m => by rw [setL, h2, bit_zero, Bool.false_or]⟩
theorem setL_snoc (l : List Int) (x : Int) : setL (l ++ [x]) = Go.bits .or .i64 (setL l) (shl .i64 1 x) := by unfold setL; rw [List.foldl_append]; rfl
theorem take_snoc (l : List Int) (i : Nat) (h : i < l.length) : l.take (i + 1) = l.take i ++ [rd l (i : Int)] := by rw [List.take_succ_eq_append_getElem h, rd_lt l i h]
theorem full_list : ∀ (N : Nat) (l : List Nat), l.length ≤ N → (∀ m, m < N → m ∈ l) → l.Nodup ∧ ∀ x ∈ l, x < N := by
 intro N
 induction N with
 | zero => intro l hl _; obtain rfl := List.eq_nil_of_length_eq_zero (Nat.le_zero.1 hl); simp
 | succ N ih =>
  intro l hl hm
  have hN := hm N (by omega)
  have hp := List.perm_cons_erase hN
  obtain ⟨h1, h2⟩ := ih (l.erase N) (by rw [List.length_erase_of_mem hN]; omega) (fun m hm2 => (List.mem_erase_of_ne (by omega)).2 (hm m (by omega)))
  refine ⟨hp.nodup_iff.2 (List.nodup_cons.2 ⟨fun h => by have := h2 N h; omega, h1⟩), fun x hx => ?_⟩
  rcases List.mem_cons.1 (hp.mem_iff.1 hx) with rfl | hx
  ·omega
  ·have := h2 x hx; omega
def namP (n : Int) (l : List Int) : Prop := (l.length : Int) = n ∧ (∀ x ∈ l, 0 ≤ x ∧ x ≤ n - 1) ∧ setL l = full n
instance (n : Int) (l : List Int) : Decidable (namP n l) := by unfold namP; infer_instance
theorem namP.all {N : Nat} {l : List Int} (hN : N ≤ 10) (h : namP (N : Int) l) {m : Nat} (hm : m < N) : (m : Int) ∈ l := by
 have h1 := (setL_bits (l := l) (fun y hy => by have := h.2.1 y hy; omega)).2 m
 rw [h.2.2, (set_full hN).2] at h1
 simpa [hm] using h1
theorem namP.nodup {N : Nat} {l : List Int} (hN : N ≤ 10) (h : namP (N : Int) l) : l.Nodup := by
 have hl : l.length = N := by have := h.1; omega
 obtain ⟨h1, _⟩ := full_list N (l.map Int.toNat) (by simp; omega) (fun m hm => List.mem_map.2 ⟨(m : Int), h.all hN hm, by simp⟩)
 exact List.Pairwise.of_map Int.toNat (fun a b hab e => hab (by rw [e])) h1
theorem nodup_at {l : List Int} (h : l.Nodup) {i j : Nat} (hi : i < l.length) (hj : j < l.length) (e : rd l (i : Int) = rd l (j : Int)) : i = j := by
 rw [rd_lt l i hi, rd_lt l j hj] at e
 have hp := List.pairwise_iff_getElem.1 h
 rcases Nat.lt_trichotomy i j with h1 | h1 | h1
 ·exact absurd e (hp i j hi hj h1)
 ·exact h1
 ·exact absurd e.symm (hp j i hj hi h1)
theorem rd_in {l : List Int} {n : Int} (h : ∀ x ∈ l, 0 ≤ x ∧ x ≤ n - 1) {k : Nat} (hk : k < l.length) : ∃ m : Nat, rd l (k : Int) = m ∧ (m : Int) < n := by
 have := h (rd l (k : Int)) (by rw [rd_lt l k hk]; exact List.getElem_mem _)
 exact ⟨(rd l (k : Int)).toNat, by omega, by omega⟩
-- lists of elements that are as a pattern
def fitP (L M l : List Int) (x : Int) : Bool := !(decide (x ∈ l)) && (lt L x.toNat x.toNat == lt M l.length l.length) && (List.range l.length).all fun b => (lt L x.toNat (rd l (b : Int)).toNat == lt M l.length b) && (lt L (rd l (b : Int)).toNat x.toNat == lt M b l.length)
def pairsOk (L M r : List Int) : Prop := ∀ a b, a < r.length → b < r.length → (a ≠ b → rd r (a : Int) ≠ rd r (b : Int)) ∧ lt L (rd r (a : Int)).toNat (rd r (b : Int)).toNat = lt M a b
theorem rd_app (l : List Int) (x : Int) : rd (l ++ [x]) (l.length : Int) = x := by rw [rd_lt _ _ (by simp)]; simp
theorem rd_app_lt (l s : List Int) {a : Nat} (h : a < l.length) : rd (l ++ s) (a : Int) = rd l (a : Int) := by rw [rd_lt _ a (by simp; omega), rd_lt l a h, List.getElem_append_left h]
theorem fitP_iff {L M l : List Int} {x : Int} : fitP L M l x = true ↔ x ∉ l ∧ lt L x.toNat x.toNat = lt M l.length l.length ∧ ∀ b, b < l.length → lt L x.toNat (rd l (b : Int)).toNat = lt M l.length b ∧ lt L (rd l (b : Int)).toNat x.toNat = lt M b l.length := by
 unfold fitP
 simp only [Bool.and_eq_true, Bool.not_eq_true', decide_eq_false_iff_not, beq_iff_eq, List.all_eq_true, List.mem_range, and_assoc]
theorem pairsOk_snoc {L M l : List Int} {x : Int} (h : pairsOk L M l) : pairsOk L M (l ++ [x]) ↔ fitP L M l x = true := by
 rw [fitP_iff]
 constructor
 ·intro hp
  refine ⟨fun hx => ?_, ?_, fun b hb => ?_⟩
  ·obtain ⟨i, hi, he⟩ := List.mem_iff_getElem.1 hx
   refine (hp i l.length (by simp; omega) (by simp)).1 (by omega) ?_
   rw [rd_app, rd_app_lt l _ hi, rd_lt l i hi, he]
  ·have := (hp l.length l.length (by simp) (by simp)).2
   rwa [rd_app] at this
  ·have h1 := (hp l.length b (by simp) (by simp; omega)).2
   have h2 := (hp b l.length (by simp; omega) (by simp)).2
   rw [rd_app, rd_app_lt l _ hb] at h1 h2
   exact ⟨h1, h2⟩
 ·rintro ⟨h1, h2, h3⟩ a b ha hb
  simp only [List.length_append, List.length_cons, List.length_nil] at ha hb
  by_cases ea : a = l.length <;> by_cases eb : b = l.length
  ·subst ea; subst eb
   rw [rd_app]
   exact ⟨fun e => absurd rfl e, h2⟩
  ·subst ea
   rw [rd_app, rd_app_lt l _ (show b < l.length by omega)]
   refine ⟨fun _ e => h1 ?_, (h3 b (by omega)).1⟩
   rw [e, rd_lt l b (by omega)]; exact List.getElem_mem _
  ·subst eb
   rw [rd_app, rd_app_lt l _ (show a < l.length by omega)]
   refine ⟨fun _ e => h1 ?_, (h3 a (by omega)).2⟩
   rw [← e, rd_lt l a (by omega)]; exact List.getElem_mem _
  ·rw [rd_app_lt l _ (show a < l.length by omega), rd_app_lt l _ (show b < l.length by omega)]
   exact h a b (by omega) (by omega)
theorem pairsOk_take {L M l s : List Int} (h : pairsOk L M (l ++ s)) : pairsOk L M l := fun a b ha hb => by
 have := h a b (by simp; omega) (by simp; omega)
 rwa [rd_app_lt l _ ha, rd_app_lt l _ hb] at this
theorem okS_pairs {L M : List Int} : ∀ (s l : List Int), pairsOk L M l → (okS (fitP L M) l s ↔ pairsOk L M (l ++ s))
 | [], l, h => by rw [List.append_nil]; exact ⟨fun _ => h, fun _ => trivial⟩
 | x :: s, l, h => by
  show (fitP L M l x = true ∧ okS (fitP L M) (l ++ [x]) s) ↔ _
  rw [show l ++ x :: s = (l ++ [x]) ++ s by simp]
  constructor
  ·rintro ⟨h1, h2⟩
   exact (okS_pairs s (l ++ [x]) ((pairsOk_snoc h).2 h1)).1 h2
  ·intro h2
   have h3 := pairsOk_take h2
   exact ⟨(pairsOk_snoc h).1 h3, (okS_pairs s (l ++ [x]) h3).2 h2⟩
theorem pairsOk_nil (L M : List Int) : pairsOk L M [] := fun a b ha => by simp at ha
theorem found_ok {L M r : List Int} {N m : Nat} (h : findP (fitP L M) N m [] = some r) : r.length = m ∧ (∀ x ∈ r, 0 ≤ x ∧ x < (N : Int)) ∧ pairsOk L M r := by
 obtain ⟨s, h1, h2, h3, h4⟩ := findP_sound m [] r h
 rw [List.nil_append] at h1
 subst h1
 exact ⟨h2, h3, by simpa using (okS_pairs r [] (pairsOk_nil L M)).1 h4⟩
theorem found_ex {L M s : List Int} {N : Nat} (hs : ∀ x ∈ s, 0 ≤ x ∧ x < (N : Int)) (hp : pairsOk L M s) : ∃ r, findP (fitP L M) N s.length [] = some r := findP_complete s.length [] s rfl hs ((okS_pairs s [] (pairsOk_nil L M)).2 (by simpa using hp))
theorem drop_range {N x : Nat} (h : x < N) : (List.range N).drop x = x :: (List.range N).drop (x + 1) := by rw [List.drop_eq_getElem_cons (by simpa using h)]; simp
theorem index_l (l : List Int) (hl : l.length ≤ 1000) (x : Int) (d : Nat) : ∀ i : Nat, i + d = l.length → ∃ r, Ev (fun k => slices_Index_int_int.l0 k l x (l.length : Int) (i : Int)) r ∧ (decide (r ≥ 0) = decide (x ∈ l.drop i)) := by
 induction d with
 | zero =>
  intro i hi
  refine ⟨-1, Ev.shift ?_, ?_⟩
  ·simp only [slices_Index_int_int.l0]
   exact Ev.neg (by omega) (Ev.ret rfl)
  ·rw [List.drop_of_length_le (by omega)]; simp
 | succ d ih =>
  intro i hi
  rw [drop_rd l i (by omega)]
  by_cases hc : x = rd l (i : Int)
  ·refine ⟨(i : Int), Ev.shift ?_, ?_⟩
   ·simp only [slices_Index_int_int.l0]
    exact Ev.pos (by omega) (Ev.pos (by omega) (Ev.pos (by omega) (Ev.pos hc (Ev.ret rfl))))
   ·rw [decide_eq_true (by omega), decide_eq_true (by rw [hc]; exact List.mem_cons_self)]
  ·obtain ⟨r, h1, h2⟩ := ih (i + 1) (by omega)
   refine ⟨r, Ev.shift ?_, ?_⟩
   ·simp only [slices_Index_int_int.l0]
    rw [wrap64_id (x := (i : Int) + 1) (by omega) (by omega), cast1]
    exact Ev.pos (by omega) (Ev.pos (by omega) (Ev.pos (by omega) (Ev.neg hc h1)))
   ·rw [h2]; simp [hc]
theorem contains_ev (l : List Int) (hl : l.length ≤ 1000) (x : Int) : Ev (fun k => slices_Contains_int_int.f k l x) (decide (x ∈ l)) := by
 obtain ⟨r, h1, h2⟩ := index_l l hl x l.length 0 (by omega)
 unfold slices_Contains_int_int.f slices_Index_int_int.f
 exact Ev.bind h1 (Ev.ret (by rw [h2]; simp))
section
variable {n m : Int} {L M : List Int}
theorem pat_l1 (hL : relP n L) (hM : relP m M) (l : List Int) (hl : l.length < M.length) (hx : ∀ y ∈ l, 0 ≤ y ∧ y < n) (x : Nat) (hxn : x < L.length) (R : List Int)
  (hR : ∀ f : Bool, (f = true ↔ (lt L x x = lt M l.length l.length ∧ (x : Int) ∉ l ∧ ∀ b, b < l.length → lt L x (rd l (b : Int)).toNat = lt M l.length b ∧ lt L (rd l (b : Int)).toNat x = lt M b l.length)) → Ev (fun k => impl_Order_pattern_1.l1 k l (l.length : Int) (x : Int) f n (x : Int) l (l.length : Int) (l.length : Int) m M n L) R) (d : Nat) :
  ∀ (b : Nat) (f : Bool), b + d = l.length → (f = true ↔ (lt L x x = lt M l.length l.length ∧ (x : Int) ∉ l ∧ ∀ q, q < b → lt L x (rd l (q : Int)).toNat = lt M l.length q ∧ lt L (rd l (q : Int)).toNat x = lt M q l.length)) → Ev (fun k => impl_Order_pattern_1.l1 k l (l.length : Int) (x : Int) f n (x : Int) l (l.length : Int) (b : Int) m M n L) R := by
 have hn := hL.2.1
 have hn1 := hL.1
 have hm := hM.2.1
 have hm1 := hM.1
 induction d with
 | zero =>
  intro b f hb hf
  obtain rfl : b = l.length := by omega
  exact hR f hf
 | succ d ih =>
  intro b f hb hf
  have hbl : b < l.length := by omega
  obtain ⟨y, hy⟩ : ∃ y : Nat, rd l (b : Int) = y := by
   have := hx (rd l (b : Int)) (by rw [rd_lt l b hbl]; exact List.getElem_mem _)
   exact ⟨(rd l (b : Int)).toNat, by omega⟩
  have hyn : y < L.length := by
   have := hx (rd l (b : Int)) (by rw [rd_lt l b hbl]; exact List.getElem_mem _)
   omega
  have hrx := hL.row hxn
  have hry := hL.row hyn
  have hra := hM.row hl
  have hrb := hM.row (show b < M.length by omega)
  have hsplit : ∀ (P : Nat → Prop), (∀ q, q < b + 1 → P q) ↔ ((∀ q, q < b → P q) ∧ P b) := fun P => ⟨fun h => ⟨fun q hq => h q (by omega), h b (by omega)⟩, fun h q hq => by
   by_cases e : q = b
   ·rw [e]; exact h.2
   ·exact h.1 q (by omega)⟩
  refine Ev.shift ?_
  simp only [impl_Order_pattern_1.l1]
  rw [wrap64_id (x := (b : Int) + 1) (by omega) (by omega), cast1, hy]
  refine Ev.pos (by omega) (Ev.pos (by omega) (Ev.pos (by omega) ?_))
  have e1 := better_f n L hxn ⟨hrx.1, hrx.2.1⟩ (show y < 10 by omega)
  have e2 := better_f m M hl ⟨hra.1, hra.2.1⟩ (show b < 10 by omega)
  have e3 := better_f n L hyn ⟨hry.1, hry.2.1⟩ (show x < 10 by omega)
  have e4 := better_f m M (show b < M.length by omega) ⟨hrb.1, hrb.2.1⟩ (show l.length < 10 by omega)
  by_cases hft : f = true
  ·have hf2 := hf.1 hft
   refine Ev.pos hft (Ev.bindc e1 (Ev.bindc e2 ?_))
   by_cases hc : (bit (rd L (x : Int)) y == bit (rd M (l.length : Int)) b) = true
   ·refine Ev.pos hc (Ev.bindc e3 (Ev.bindc e4 (ih (b + 1) _ (by omega) ?_)))
    rw [hsplit, hy]
    have hc' : lt L x y = lt M l.length b := beq_iff_eq.1 hc
    simp only [Int.toNat_natCast]
    show (bit (rd L (y : Int)) x == bit (rd M (b : Int)) l.length) = true ↔ _
    rw [beq_iff_eq]
    exact ⟨fun h => ⟨hf2.1, hf2.2.1, hf2.2.2, hc', h⟩, fun h => h.2.2.2.2⟩
   ·refine Ev.neg hc (ih (b + 1) false (by omega) ?_)
    rw [hsplit, hy]
    simp only [Int.toNat_natCast]
    constructor
    ·intro h; cases h
    ·intro h
     exact absurd (show bit (rd L (x : Int)) y = bit (rd M (l.length : Int)) b from h.2.2.2.1) (by simpa using hc)
  ·refine Ev.neg hft (ih (b + 1) false (by omega) ?_)
   rw [hsplit]
   constructor
   ·intro h; cases h
   ·intro h; exact absurd (hf.2 ⟨h.1, h.2.1, h.2.2.1⟩) hft
theorem pat_l0 (hL : relP n L) (hM : relP m M) (l : List Int) (hl : l.length < M.length) (hx : ∀ y ∈ l, 0 ≤ y ∧ y < n) (g : Nat)
  (hg : ∀ x : Nat, x < L.length → Ev (fun k => impl_Order_pattern_1.f k (l ++ [(x : Int)]) m M n L) ((findP (fitP L M) L.length g (l ++ [(x : Int)])).getD [])) (d : Nat) : ∀ x : Nat, x + d = L.length → Ev (fun k => impl_Order_pattern_1.l0 k l (l.length : Int) n (x : Int) m M n L) ((((List.range L.length).drop x).findSome? fun y : Nat => if fitP L M l (y : Int) = true then findP (fitP L M) L.length g (l ++ [(y : Int)]) else none).getD []) := by
 have hn := hL.2.1
 have hn1 := hL.1
 have hm := hM.2.1
 have hm1 := hM.1
 induction d with
 | zero =>
  intro x hxd
  refine Ev.shift ?_
  simp only [impl_Order_pattern_1.l0]
  refine Ev.neg (by omega) (Ev.ret ?_)
  rw [List.drop_of_length_le (by simp; omega)]; rfl
 | succ d ih =>
  intro x hxd
  have hxl : x < L.length := by omega
  have hrx := hL.row hxl
  have hra := hM.row hl
  have e1 := better_f n L hxl ⟨hrx.1, hrx.2.1⟩ (show x < 10 by omega)
  have e2 := better_f m M hl ⟨hra.1, hra.2.1⟩ (show l.length < 10 by omega)
  have hnext := ih (x + 1) (by omega)
  have key : ∀ f : Bool, (f = true ↔ (lt L x x = lt M l.length l.length ∧ (x : Int) ∉ l ∧ ∀ b, b < l.length → lt L x (rd l (b : Int)).toNat = lt M l.length b ∧ lt L (rd l (b : Int)).toNat x = lt M b l.length)) → f = fitP L M l (x : Int) := fun f hf => by
   rw [Bool.eq_iff_iff, hf, fitP_iff]
   simp only [Int.toNat_natCast]
   exact ⟨fun h => ⟨h.2.1, h.1, h.2.2⟩, fun h => ⟨h.2.1, h.1, h.2.2⟩⟩
  have hend : ∀ f : Bool, (f = true ↔ (lt L x x = lt M l.length l.length ∧ (x : Int) ∉ l ∧ ∀ b, b < l.length → lt L x (rd l (b : Int)).toNat = lt M l.length b ∧ lt L (rd l (b : Int)).toNat x = lt M b l.length)) → Ev (fun k => impl_Order_pattern_1.l1 k l (l.length : Int) (x : Int) f n (x : Int) l (l.length : Int) (l.length : Int) m M n L) ((((List.range L.length).drop x).findSome? fun y : Nat => if fitP L M l (y : Int) = true then findP (fitP L M) L.length g (l ++ [(y : Int)]) else none).getD []) := fun f hf => by
   have hff := key f hf
   rw [drop_range hxl, List.findSome?_cons]
   refine Ev.shift ?_
   simp only [impl_Order_pattern_1.l1]
   rw [wrap64_id (x := (x : Int) + 1) (by omega) (by omega), cast1]
   refine Ev.neg (by omega) ?_
   by_cases hft : f = true
   ·rw [← hff, if_pos hft]
    have hcl : slices_Clone_int_int.f l = some l := by unfold slices_Clone_int_int.f; rw [if_pos (by omega)]
    refine Ev.pos hft (Ev.bindc hcl (Ev.bindc rfl (Ev.pos (by simp; omega) (Ev.bind (hg x hxl) ?_))))
    cases hfd : findP (fitP L M) L.length g (l ++ [(x : Int)]) with
    | none => exact Ev.pos rfl hnext
    | some r =>
     obtain ⟨s, hs, _⟩ := findP_sound _ _ _ hfd
     refine Ev.neg ?_ (Ev.ret rfl)
     show ¬ r = []
     rw [hs]; simp
   ·rw [← hff, if_neg hft]
    exact Ev.neg hft hnext
  have hgo := fun (f : Bool) (hf : f = true ↔ (lt L x x = lt M l.length l.length ∧ (x : Int) ∉ l)) => pat_l1 hL hM l hl hx x hxl _ hend l.length 0 f (by omega) (by rw [hf]; exact ⟨fun h => ⟨h.1, h.2, fun q hq => by omega⟩, fun h => ⟨h.1, h.2.1⟩⟩)
  have e0 : ((0 : Nat) : Int) = 0 := rfl
  simp only [e0] at hgo
  refine Ev.shift ?_
  simp only [impl_Order_pattern_1.l0]
  refine Ev.pos (by omega) (Ev.bind (contains_ev l (by omega) (x : Int)) ?_)
  by_cases hc : (x : Int) ∈ l
  ·refine Ev.pos (by simpa using hc) (Ev.shift ?_)
   simp only [impl_Order_pattern_1.j1]
   exact hgo false (show false = true ↔ _ from ⟨fun h => (by cases h), fun h => absurd hc h.2⟩)
  ·refine Ev.neg (by simpa using hc) (Ev.bindc e1 (Ev.bindc e2 (Ev.shift ?_)))
   simp only [impl_Order_pattern_1.j1]
   refine hgo _ ?_
   rw [beq_iff_eq]
   exact ⟨fun h => ⟨h, hc⟩, fun h => h.1⟩
theorem pat_f (hL : relP n L) (hM : relP m M) (g : Nat) : ∀ (l : List Int), l.length + g = M.length → (∀ y ∈ l, 0 ≤ y ∧ y < n) → Ev (fun k => impl_Order_pattern_1.f k l m M n L) ((findP (fitP L M) L.length g l).getD []) := by
 have hn := hL.2.1
 have hm := hM.2.1
 induction g with
 | zero =>
  intro l hl hx
  refine Ev.shift ?_
  simp only [impl_Order_pattern_1.f]
  exact Ev.pos (by omega) (Ev.ret rfl)
 | succ g ih =>
  intro l hl hx
  refine Ev.shift ?_
  simp only [impl_Order_pattern_1.f]
  refine Ev.neg (by omega) ?_
  have := pat_l0 hL hM l (by omega) hx g (fun x hxl => ih (l ++ [(x : Int)]) (by simp; omega) (fun y hy => by
   rcases List.mem_append.1 hy with hy | hy
   ·exact hx y hy
   ·rw [List.mem_singleton.1 hy]; omega)) L.length 0 (by omega)
  rw [List.drop_zero] at this
  exact this
theorem pattern_ev (hL : relP n L) (hM : relP m M) : Ev (fun k => impl_Order_pattern.f k n L m M) ((findP (fitP L M) L.length M.length []).getD []) := by
 unfold impl_Order_pattern.f
 exact Ev.bind (pat_f hL hM M.length [] (by simp) (by simp)) (Ev.ret rfl)
end
def findRes (n : Int) (L : List Int) (m : Int) (M : List Int) : List Int × Bool := if relP n L ∧ relP m M ∧ m ≤ 6 then ((findP (fitP L M) L.length M.length []).getD [], (findP (fitP L M) L.length M.length []).isSome) else ([], false)
theorem iFind (n : Int) (L : List Int) (m : Int) (M : List Int) (hl : L.length ≤ 1000) (hm : M.length ≤ 1000) : Ev (fun k => impl_FindPattern.f k n L m M) (findRes n L m M) := by
 unfold impl_FindPattern.f findRes
 refine Ev.bind (isRelation_ev n L (by omega)) ?_
 by_cases h1 : relP n L
 ·refine Ev.pos (by simpa using h1) (Ev.bind (isRelation_ev m M (by omega)) ?_)
  by_cases h2 : relP m M
  ·refine Ev.pos (by simpa using h2) ?_
   by_cases h3 : m > 6
   ·rw [if_neg (by omega)]
    exact Ev.pos h3 (Ev.ret rfl)
   ·rw [if_pos ⟨h1, h2, by omega⟩]
    refine Ev.neg h3 (Ev.bind (pattern_ev h1 h2) (Ev.ret ?_))
    have := h2.2.1
    cases hf : findP (fitP L M) L.length M.length [] with
    | none =>
     have hne : ¬ m = 0 := fun e => by
      have : M.length = 0 := by omega
      rw [this] at hf
      cases hf
     simp [hne]
    | some r =>
     obtain ⟨s, h4, h5, _⟩ := findP_sound _ _ _ hf
     rw [List.nil_append] at h4
     subst h4
     by_cases e : r = []
     ·have : m = 0 := by rw [e] at h5; simp at h5; omega
      simp [this]
     ·simp [e]
  ·rw [if_neg (fun h => h2 h.2.1)]
   exact Ev.neg (by simpa using h2) (Ev.ret rfl)
 ·rw [if_neg (fun h => h1 h.1)]
  exact Ev.neg (by simpa using h1) (Ev.ret rfl)
theorem iSameKind {n m : Int} {L M : List Int} (h1 : relP n L) (h2 : relP m M) : Ev (fun k => impl_IsSameKind.f k n L m M) (if n ≤ 6 ∧ m ≤ 6 then (decide (n = m) && (findP (fitP L M) L.length M.length []).isSome, true) else (false, false)) := by
 have hn := h1.1
 have hn1 := h1.2.1
 have hm := h2.1
 have hm1 := h2.2.1
 unfold impl_IsSameKind.f
 refine Ev.bind (isRelation_ev n L (by omega)) (Ev.pos (by simpa using h1) (Ev.bind (isRelation_ev m M (by omega)) (Ev.pos (by simpa using h2) ?_)))
 by_cases h6 : n ≤ 6 ∧ m ≤ 6
 ·rw [if_pos h6]
  refine Ev.neg (by unfold mx; split <;> omega) ?_
  by_cases he : n = m
  ·refine Ev.pos he (Ev.bind (pattern_ev h1 h2) (Ev.ret ?_))
   rw [decide_eq_true he, Bool.true_and]
   cases hf : findP (fitP L M) L.length M.length [] with
   | none =>
    have hne : ¬ m = 0 := fun e => by
     have : M.length = 0 := by omega
     rw [this] at hf
     cases hf
    simp [hne]
   | some r =>
    obtain ⟨s, h4, h5, _⟩ := findP_sound _ _ _ hf
    rw [List.nil_append] at h4
    subst h4
    by_cases e : r = []
    ·have : m = 0 := by rw [e] at h5; simp at h5; omega
     simp [this]
    ·simp [e]
  ·refine Ev.neg he (Ev.ret ?_)
   rw [decide_eq_false he]; rfl
 ·rw [if_neg h6]
  refine Ev.pos (by unfold mx; split <;> omega) (Ev.ret rfl)
section
variable {n m : Int} {L M : List Int}
theorem orFits_l (hL : relP n L) (hM : relP m M) (l : List Int) (hl : l.length < M.length) (hx : ∀ y ∈ l, 0 ≤ y ∧ y < n) (x : Nat) (hxn : x < L.length) (d : Nat) :
  ∀ b : Nat, b + d = l.length → Ev (fun k => spec_orFits.l0 k (x : Int) (l.length : Int) l (l.length : Int) (b : Int) n L m M) (decide ((lt L x x = lt M l.length l.length) ∧ ∀ q, q < l.length → b ≤ q → rd l (q : Int) ≠ x ∧ lt L x (rd l (q : Int)).toNat = lt M l.length q ∧ lt L (rd l (q : Int)).toNat x = lt M q l.length)) := by
 have hn := hL.2.1
 have hn1 := hL.1
 have hm := hM.2.1
 have hm1 := hM.1
 have hrx := hL.row hxn
 have hra := hM.row hl
 induction d with
 | zero =>
  intro b hb
  have e1 := orHas_f hrx.1 hrx.2.1 (show x < 10 by omega)
  have e2 := orHas_f hra.1 hra.2.1 (show l.length < 10 by omega)
  refine Ev.shift ?_
  simp only [spec_orFits.l0]
  refine Ev.neg (by omega) (Ev.pos (by omega) (Ev.pos (by omega) (Ev.bindc e1 (Ev.pos (by omega) (Ev.pos (by omega) (Ev.bindc e2 (Ev.ret ?_)))))))
  rw [Bool.eq_iff_iff, beq_iff_eq, decide_eq_true_iff]
  exact ⟨fun h => ⟨h, fun q h1 h2 => by omega⟩, fun h => h.1⟩
 | succ d ih =>
  intro b hb
  have hbl : b < l.length := by omega
  obtain ⟨y, hy⟩ : ∃ y : Nat, rd l (b : Int) = y := by
   have := hx (rd l (b : Int)) (by rw [rd_lt l b hbl]; exact List.getElem_mem _)
   exact ⟨(rd l (b : Int)).toNat, by omega⟩
  have hyn : y < L.length := by
   have := hx (rd l (b : Int)) (by rw [rd_lt l b hbl]; exact List.getElem_mem _)
   omega
  have hry := hL.row hyn
  have hrb := hM.row (show b < M.length by omega)
  have e1 := orHas_f hry.1 hry.2.1 (show x < 10 by omega)
  have e2 := orHas_f hrb.1 hrb.2.1 (show l.length < 10 by omega)
  have e3 := orHas_f hrx.1 hrx.2.1 (show y < 10 by omega)
  have e4 := orHas_f hra.1 hra.2.1 (show b < 10 by omega)
  have hsplit : ∀ (P : Nat → Prop), (∀ q, q < l.length → b ≤ q → P q) ↔ (P b ∧ ∀ q, q < l.length → b + 1 ≤ q → P q) := fun P => ⟨fun h => ⟨h b hbl (Nat.le_refl _), fun q h1 h2 => h q h1 (by omega)⟩, fun h q h1 h2 => by
   by_cases e : q = b
   ·rw [e]; exact h.1
   ·exact h.2 q h1 (by omega)⟩
  have hnext := ih (b + 1) (by omega)
  refine Ev.shift ?_
  simp only [spec_orFits.l0]
  rw [wrap64_id (x := (b : Int) + 1) (by omega) (by omega), cast1, hy]
  refine Ev.pos (by omega) (Ev.pos (by omega) (Ev.pos (by omega) ?_))
  by_cases h1 : (y : Int) = x
  ·refine Ev.pos h1 (Ev.ret ?_)
   symm; rw [decide_eq_false_iff_not]
   exact fun h => (h.2 b hbl (Nat.le_refl _)).1 (by rw [hy]; exact h1)
  ·refine Ev.neg h1 (Ev.pos (by omega) (Ev.pos (by omega) (Ev.bindc e1 (Ev.pos (by omega) (Ev.bindc e2 ?_)))))
   by_cases h2 : bit (rd L (y : Int)) x = bit (rd M (b : Int)) l.length
   ·refine Ev.neg (by simp [h2]) (Ev.pos (by omega) (Ev.pos (by omega) (Ev.bindc e3 (Ev.pos (by omega) (Ev.pos (by omega) (Ev.bindc e4 ?_))))))
    by_cases h3 : bit (rd L (x : Int)) y = bit (rd M (l.length : Int)) b
    ·refine Ev.neg (by simp [h3]) (Ev.eq hnext ?_)
     rw [Bool.eq_iff_iff, decide_eq_true_iff, decide_eq_true_iff]
     refine ⟨fun h => ⟨h.1, (hsplit _).2 ⟨?_, h.2⟩⟩, fun h => ⟨h.1, ((hsplit _).1 h.2).2⟩⟩
     rw [hy, Int.toNat_natCast]
     exact ⟨h1, h3, h2⟩
    ·refine Ev.pos (by simpa using h3) (Ev.ret ?_)
     symm; rw [decide_eq_false_iff_not]
     intro h
     have := (h.2 b hbl (Nat.le_refl _)).2.1
     rw [hy, Int.toNat_natCast] at this
     exact h3 this
   ·refine Ev.pos (by simpa using h2) (Ev.ret ?_)
    symm; rw [decide_eq_false_iff_not]
    intro h
    have := (h.2 b hbl (Nat.le_refl _)).2.2
    rw [hy, Int.toNat_natCast] at this
    exact h2 this
theorem orFits_ev (hL : relP n L) (hM : relP m M) (l : List Int) (hl : l.length < M.length) (hx : ∀ y ∈ l, 0 ≤ y ∧ y < n) (x : Nat) (hxn : x < L.length) : Ev (fun k => spec_orFits.f k n L m M l (x : Int)) (fitP L M l (x : Int)) := by
 unfold spec_orFits.f
 refine Ev.eq (orFits_l hL hM l hl hx x hxn l.length 0 (by omega)) ?_
 rw [Bool.eq_iff_iff, decide_eq_true_iff, fitP_iff]
 simp only [Int.toNat_natCast]
 constructor
 ·rintro ⟨h1, h2⟩
  refine ⟨fun hmem => ?_, h1, fun b hb => (h2 b hb (Nat.zero_le _)).2⟩
  obtain ⟨q, hq, he⟩ := List.mem_iff_getElem.1 hmem
  exact (h2 q hq (Nat.zero_le _)).1 (by rw [rd_lt l q hq, he])
 ·rintro ⟨h1, h2, h3⟩
  refine ⟨h2, fun q hq _ => ⟨fun e => h1 ?_, h3 q hq⟩⟩
  rw [← e, rd_lt l q hq]; exact List.getElem_mem _
def resP (r : Option (List Int)) : List Int × Bool := (r.getD [], r.isSome)
theorem orFind_l (hL : relP n L) (hM : relP m M) (l : List Int) (hl : l.length < M.length) (hx : ∀ y ∈ l, 0 ≤ y ∧ y < n) (g : Nat)
  (hg : ∀ x : Nat, x < L.length → Ev (fun k => spec_orFind.f k n L m M (l ++ [(x : Int)])) (resP (findP (fitP L M) L.length g (l ++ [(x : Int)])))) (d : Nat) : ∀ x : Nat, x + d = L.length → Ev (fun k => spec_orFind.l0 k l (x : Int) n L m M) (resP (((List.range L.length).drop x).findSome? fun y : Nat => if fitP L M l (y : Int) = true then findP (fitP L M) L.length g (l ++ [(y : Int)]) else none)) := by
 have hn := hL.2.1
 have hn1 := hL.1
 have hm := hM.2.1
 have hm1 := hM.1
 induction d with
 | zero =>
  intro x hxd
  refine Ev.shift ?_
  simp only [spec_orFind.l0]
  refine Ev.neg (by omega) (Ev.ret ?_)
  rw [List.drop_of_length_le (by simp; omega)]; rfl
 | succ d ih =>
  intro x hxd
  have hxl : x < L.length := by omega
  have hnext := ih (x + 1) (by omega)
  refine Ev.shift ?_
  simp only [spec_orFind.l0]
  rw [wrap64_id (x := (x : Int) + 1) (by omega) (by omega), cast1, drop_range hxl, List.findSome?_cons]
  refine Ev.pos (by omega) (Ev.bind (orFits_ev hL hM l hl hx x hxl) ?_)
  by_cases hf : fitP L M l (x : Int) = true
  ·have ho : spec_l1Own.f l = some l := by
    unfold spec_l1Own.f
    rw [Option.bind_some, if_pos (by simp; omega)]; simp
   rw [if_pos hf]
   refine Ev.pos hf (Ev.bindc ho (Ev.bindc rfl (Ev.pos (by simp; omega) (Ev.bind (hg x hxl) ?_))))
   cases hfd : findP (fitP L M) L.length g (l ++ [(x : Int)]) with
   | none => exact Ev.neg (by simp [resP]) hnext
   | some r => exact Ev.pos rfl (Ev.ret rfl)
  ·rw [if_neg hf]
   exact Ev.neg hf hnext
theorem orFind_f (hL : relP n L) (hM : relP m M) (g : Nat) : ∀ (l : List Int), l.length + g = M.length → (∀ y ∈ l, 0 ≤ y ∧ y < n) → Ev (fun k => spec_orFind.f k n L m M l) (resP (findP (fitP L M) L.length g l)) := by
 have hn := hL.2.1
 have hm := hM.2.1
 induction g with
 | zero =>
  intro l hl hx
  refine Ev.shift ?_
  simp only [spec_orFind.f]
  exact Ev.pos (by omega) (Ev.ret rfl)
 | succ g ih =>
  intro l hl hx
  refine Ev.shift ?_
  simp only [spec_orFind.f]
  refine Ev.neg (by omega) ?_
  have := orFind_l hL hM l (by omega) hx g (fun x hxl => ih (l ++ [(x : Int)]) (by simp; omega) (fun y hy => by
   rcases List.mem_append.1 hy with hy | hy
   ·exact hx y hy
   ·rw [List.mem_singleton.1 hy]; omega)) L.length 0 (by omega)
  rw [List.drop_zero] at this
  exact this
end
theorem sFind (n : Int) (L : List Int) (m : Int) (M : List Int) (hl : L.length ≤ 1000) (hm : M.length ≤ 1000) : Ev (fun k => spec_FindPattern.f k n L m M) (findRes n L m M) := by
 unfold spec_FindPattern.f findRes
 refine Ev.bind (orRelation_ev n L (by omega)) ?_
 by_cases h1 : relP n L
 ·refine Ev.pos (by simpa using h1) (Ev.bind (orRelation_ev m M (by omega)) ?_)
  by_cases h2 : relP m M
  ·refine Ev.pos (by simpa using h2) ?_
   by_cases h3 : m > 6
   ·rw [if_neg (by omega)]
    exact Ev.pos h3 (Ev.ret rfl)
   ·rw [if_pos ⟨h1, h2, by omega⟩]
    exact Ev.neg h3 (Ev.bind (orFind_f h1 h2 M.length [] (by simp) (by simp)) (Ev.ret rfl))
  ·rw [if_neg (fun h => h2 h.2.1)]
   exact Ev.neg (by simpa using h2) (Ev.ret rfl)
 ·rw [if_neg (fun h => h1 h.1)]
  exact Ev.neg (by simpa using h1) (Ev.ret rfl)
end Go.Proofs.YtdpmoehmbjmkpaaDoor.Pure
