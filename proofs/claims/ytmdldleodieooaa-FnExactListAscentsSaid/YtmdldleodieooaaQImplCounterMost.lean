-- printed by this project's own program (wip/mp/mp.py) over the kit's print, for this seat; Lean checks it
import Derived.Test.YtmdldleodieooaaQx0
namespace Go.Proofs.Ytmdldleodieooaa.Q
open Go.RowKit Go.Proofs.YtmdldleodieooaaW.PrintWords Go.Proofs.YtmdldleodieooaaW.PrintLast Go.Proofs.YtmdldleodieooaaW.PrintMore
attribute [local go_sem] max2_int min2_int max_two min_two max_three min_three max_four min_four   -- for this text's walks alone
set_option linter.unusedVariables false
set_option maxHeartbeats 8000000
set_option maxRecDepth 100000
set_option linter.unusedSimpArgs false

/-! The numbers of ways to go on with ascent sequences, ranks, the next one: plain. -/
def sumTo (f : Int → Int) : Nat → Int
  | 0 => 0
  | n + 1 => sumTo f n + f n
/-- the ascents behind one more number -/
def nx (last a x : Int) : Int := if last ≥ 0 ∧ x > last then a + 1 else a
/-- the greatest number that can come next -/
def topN (last a : Int) : Int := if last < 0 then 0 else a + 1
/-- the number of ways to go on by so many numbers -/
def wys : Nat → Int → Int → Int
  | 0, _, _ => 1
  | m + 1, last, a => sumTo (fun x => wys m x (nx last a x)) (topN last a + 1).toNat
theorem sumTo_nonneg {f : Int → Int} : ∀ {n : Nat}, (∀ i : Nat, i < n → 0 ≤ f i) → 0 ≤ sumTo f n
  | 0, _ => Int.le_refl 0
  | n + 1, h => by
    have h1 := sumTo_nonneg (f := f) (n := n) (fun i hi => h i (by omega))
    have h2 := h n (by omega)
    simp only [sumTo]; omega
theorem sumTo_mono {f : Int → Int} {m : Nat} : ∀ {n : Nat}, m ≤ n → (∀ i : Nat, i < n → 0 ≤ f i) → sumTo f m ≤ sumTo f n
  | 0, h, _ => by simp [show m = 0 by omega]
  | n + 1, h, h0 => by
    by_cases e : m = n + 1
    · subst e; exact Int.le_refl _
    · have h1 := sumTo_mono (f := f) (m := m) (n := n) (by omega) (fun i hi => h0 i (by omega))
      have h2 := h0 n (by omega)
      simp only [sumTo]; omega
theorem sumTo_congr {f g : Int → Int} : ∀ {n : Nat}, (∀ i : Nat, i < n → f i = g i) → sumTo f n = sumTo g n
  | 0, _ => rfl
  | n + 1, h => by simp only [sumTo]; rw [sumTo_congr (fun i hi => h i (by omega)), h n (by omega)]
theorem sumTo_le {f : Int → Int} {B : Int} : ∀ {n : Nat}, (∀ i : Nat, i < n → f i ≤ B) → sumTo f n ≤ n * B
  | 0, _ => by simp [sumTo]
  | n + 1, h => by
    have h1 := sumTo_le (f := f) (n := n) (fun i hi => h i (by omega))
    have h2 := h n (by omega)
    simp only [sumTo]; rw [show ((n + 1 : Nat) : Int) * B = (n : Int) * B + B by rw [show ((n + 1 : Nat) : Int) = (n : Int) + 1 by omega, Int.add_mul, Int.one_mul]]
    omega
theorem wys_nonneg : ∀ (m : Nat) (last a : Int), 0 ≤ wys m last a
  | 0, _, _ => by simp [wys]
  | m + 1, last, a => by simp only [wys]; exact sumTo_nonneg (fun i _ => wys_nonneg m _ _)
theorem nx_range {last a x : Int} : a ≤ nx last a x ∧ nx last a x ≤ a + 1 := by unfold nx; split <;> omega
theorem topN_range {last a : Int} (h : 0 ≤ a) : 0 ≤ topN last a ∧ topN last a ≤ a + 1 := by unfold topN; split <;> omega
theorem wys_le : ∀ (m : Nat) (last a : Int), 0 ≤ a → a + m ≤ 13 → wys m last a ≤ 15 ^ m
  | 0, _, _, _, _ => by simp [wys]
  | m + 1, last, a, h0, h1 => by
    simp only [wys]
    have ht := topN_range (last := last) h0
    have h2 : sumTo (fun x => wys m x (nx last a x)) (topN last a + 1).toNat ≤ ((topN last a + 1).toNat : Int) * 15 ^ m :=
      sumTo_le (fun i _ => wys_le m _ _ (by have := nx_range (last := last) (a := a) (x := i); omega) (by have := nx_range (last := last) (a := a) (x := i); omega))
    have h3 : ((topN last a + 1).toNat : Int) ≤ 15 := by omega
    have h4 : (0 : Int) ≤ 15 ^ m := Int.pow_nonneg (by omega)
    calc sumTo (fun x => wys m x (nx last a x)) (topN last a + 1).toNat ≤ ((topN last a + 1).toNat : Int) * 15 ^ m := h2
      _ ≤ 15 * 15 ^ m := Int.mul_le_mul_of_nonneg_right h3 h4
      _ = 15 ^ (m + 1) := by rw [Int.pow_succ, Int.mul_comm]
theorem wys_big {m : Nat} {last a : Int} (h0 : 0 ≤ a) (h1 : a + m ≤ 13) : wys m last a ≤ 1946195068359375 := by
  have h := wys_le m last a h0 h1
  have h2 : (15 : Int) ^ m ≤ 15 ^ 13 := by
    have : m ≤ 13 := by omega
    match m, this with
    | 0, _ | 1, _ | 2, _ | 3, _ | 4, _ | 5, _ | 6, _ | 7, _ | 8, _ | 9, _ | 10, _ | 11, _ | 12, _ | 13, _ => decide
  have : (15 : Int) ^ 13 = 1946195068359375 := by decide
  omega
/-- a list goes on behind a last number and some ascents -/
def Goes : Int → Int → List Int → Prop
  | _, _, [] => True
  | last, a, x :: t => 0 ≤ x ∧ x ≤ topN last a ∧ Goes x (nx last a x) t
/-- the rank of a list among those that go on -/
def rank : Int → Int → List Int → Int
  | _, _, [] => 0
  | last, a, x :: t => sumTo (fun y => wys t.length y (nx last a y)) x.toNat + rank x (nx last a x) t
theorem rank_range : ∀ (l : List Int) (last a : Int), Goes last a l → 0 ≤ rank last a l ∧ rank last a l < wys l.length last a
  | [], _, _, _ => by simp [rank, wys]
  | x :: t, last, a, h => by
    obtain ⟨h1, h2, h3⟩ := h
    have ih := rank_range t x (nx last a x) h3
    simp only [rank, List.length_cons, wys]
    have hn : ∀ i : Nat, i < (topN last a + 1).toNat → 0 ≤ (fun x => wys t.length x (nx last a x)) (i : Int) := fun i _ => wys_nonneg _ _ _
    have h5 := sumTo_mono (f := fun x => wys t.length x (nx last a x)) (m := x.toNat + 1) (n := (topN last a + 1).toNat) (by omega) hn
    have h6 := sumTo_nonneg (f := fun x => wys t.length x (nx last a x)) (n := x.toNat) (fun i _ => wys_nonneg _ _ _)
    simp only [sumTo] at h5
    rw [show ((x.toNat : Nat) : Int) = x by omega] at h5
    omega
/-- the next list of the same length -/
def nextL : Int → Int → List Int → Option (List Int)
  | _, _, [] => none
  | last, a, x :: t => match nextL x (nx last a x) t with
    | some t' => some (x :: t')
    | none => if x < topN last a then some ((x + 1) :: List.replicate t.length 0) else none
theorem goes_zeros : ∀ (n : Nat) (last a : Int), 0 ≤ a → Goes last a (List.replicate n 0)
  | 0, _, _, _ => trivial
  | n + 1, last, a, h => ⟨Int.le_refl 0, (topN_range h).1, goes_zeros n _ _ (by have := nx_range (last := last) (a := a) (x := 0); omega)⟩
theorem rank_zeros : ∀ (n : Nat) (last a : Int), rank last a (List.replicate n 0) = 0
  | 0, _, _ => rfl
  | n + 1, last, a => by simp only [List.replicate_succ, rank]; rw [rank_zeros n]; simp [sumTo]
theorem next_spec : ∀ (l : List Int) (last a : Int), 0 ≤ a → Goes last a l → (∀ l', nextL last a l = some l' → Goes last a l' ∧ l'.length = l.length ∧ rank last a l' = rank last a l + 1) ∧ (nextL last a l = none → rank last a l + 1 = wys l.length last a)
  | [], _, _, _, _ => ⟨fun l' h => by simp [nextL] at h, fun _ => by simp [rank, wys]⟩
  | x :: t, last, a, ha, h => by
    obtain ⟨h1, h2, h3⟩ := h
    have hr := nx_range (last := last) (a := a) (x := x)
    have hr1 := nx_range (last := last) (a := a) (x := x + 1)
    obtain ⟨i1, i2⟩ := next_spec t x (nx last a x) (by omega) h3
    refine ⟨fun l' h => ?_, fun h => ?_⟩
    · simp only [nextL] at h
      split at h
      · rename_i t' ht
        obtain rfl := Option.some.inj h
        obtain ⟨g1, g2, g3⟩ := i1 t' ht
        exact ⟨⟨h1, h2, g1⟩, by simp [g2], by simp only [rank]; rw [g3, g2]; omega⟩
      · rename_i ht
        split at h
        · rename_i hx
          obtain rfl := Option.some.inj h
          refine ⟨⟨by omega, by omega, goes_zeros _ _ _ (by omega)⟩, by simp, ?_⟩
          have := i2 ht
          simp only [rank, rank_zeros, List.length_replicate]
          rw [show (x + 1).toNat = x.toNat + 1 by omega]
          simp only [sumTo]
          rw [show ((x.toNat : Nat) : Int) = x by omega]
          omega
        · cases h
    · simp only [nextL] at h
      split at h
      · cases h
      · rename_i ht
        split at h
        · cases h
        · have := i2 ht
          simp only [rank, List.length_cons, wys]
          rw [show (topN last a + 1).toNat = x.toNat + 1 by omega]
          simp only [sumTo]
          rw [show ((x.toNat : Nat) : Int) = x by omega]
          omega
/-- the reference's tables: rows are ascents, columns last numbers -/
def tab : Nat → Nat → Nat → Int
  | 0, _, _ => 1
  | m + 1, a, l => sumTo (fun x => if x > (l : Int) then tab m (a + 1) x.toNat else tab m a x.toNat) (if a + 1 < 14 then a + 2 else 0)
def tabL (m : Nat) : List (List Int) := (List.range 14).map fun a => (List.range 14).map fun l => tab m a l
theorem tab_range : ∀ (m a l : Nat), 0 ≤ tab m a l ∧ tab m a l ≤ 15 ^ m
  | 0, _, _ => by simp [tab]
  | m + 1, a, l => by
    simp only [tab]
    refine ⟨sumTo_nonneg (fun i _ => by split <;> exact (tab_range m _ _).1), ?_⟩
    have h2 := sumTo_le (f := fun x => if x > (l : Int) then tab m (a + 1) x.toNat else tab m a x.toNat) (B := 15 ^ m) (n := if a + 1 < 14 then a + 2 else 0) (fun i _ => by show (if (i : Int) > (l : Int) then _ else _) ≤ _; split <;> exact (tab_range m _ _).2)
    have h3 : ((if a + 1 < 14 then a + 2 else 0 : Nat) : Int) ≤ 15 := by split <;> omega
    have h4 : (0 : Int) ≤ 15 ^ m := Int.pow_nonneg (by omega)
    calc _ ≤ ((if a + 1 < 14 then a + 2 else 0 : Nat) : Int) * 15 ^ m := h2
      _ ≤ 15 * 15 ^ m := Int.mul_le_mul_of_nonneg_right h3 h4
      _ = 15 ^ (m + 1) := by rw [Int.pow_succ, Int.mul_comm]
theorem pow_big {m : Nat} (h : m ≤ 13) : (15 : Int) ^ m ≤ 1946195068359375 := by
  match m, h with
  | 0, _ | 1, _ | 2, _ | 3, _ | 4, _ | 5, _ | 6, _ | 7, _ | 8, _ | 9, _ | 10, _ | 11, _ | 12, _ | 13, _ => decide
theorem tab_wys : ∀ (m a l : Nat), a + m ≤ 13 → tab m a l = wys m (l : Int) (a : Int)
  | 0, _, _, _ => rfl
  | m + 1, a, l, h => by
    simp only [tab, wys]
    rw [if_pos (by omega), show topN (l : Int) (a : Int) = (a : Int) + 1 by unfold topN; rw [if_neg (by omega)], show ((a : Int) + 1 + 1).toNat = a + 2 by omega]
    refine sumTo_congr fun i hi => ?_
    show (if (i : Int) > (l : Int) then _ else _) = _
    by_cases hc : (i : Int) > (l : Int)
    · rw [if_pos hc, show nx (l : Int) (a : Int) (i : Int) = ((a + 1 : Nat) : Int) by unfold nx; rw [if_pos ⟨by omega, hc⟩]; omega, tab_wys m (a + 1) _ (by omega)]; rfl
    · rw [if_neg hc, show nx (l : Int) (a : Int) (i : Int) = (a : Int) by unfold nx; rw [if_neg (fun e => hc e.2)], tab_wys m a _ (by omega)]; rfl
/-- the list with a rank -/
def findK (f : Int → Int) : Nat → Int → Int → Int × Int
  | 0, k, r => (k, r)
  | d + 1, k, r => if r < f k then (k, r) else findK f d (k + 1) (r - f k)
def unrank : Nat → Int → Int → Int → List Int
  | 0, _, _, _ => []
  | m + 1, last, a, r =>
    let kr := findK (fun x => wys m x (nx last a x)) (topN last a).toNat 0 r
    kr.1 :: unrank m kr.1 (nx last a kr.1) kr.2
theorem findK_spec (f : Int → Int) (hf : ∀ i, 0 ≤ i → 0 ≤ f i) (x r : Int) (hr : 0 ≤ r ∧ r < f x) : ∀ (d : Nat) (k : Int), 0 ≤ k → k ≤ x → x ≤ k + d → findK f d k (sumTo f x.toNat - sumTo f k.toNat + r) = (x, r)
  | 0, k, h0, h1, h2 => by obtain rfl : k = x := by omega
                           simp only [findK]; congr 1; omega
  | d + 1, k, h0, h1, h2 => by
    simp only [findK]
    by_cases e : k = x
    · subst e; rw [if_pos (by omega)]; congr 1; omega
    · have h3 := sumTo_mono (f := f) (m := k.toNat + 1) (n := x.toNat) (by omega) (fun i _ => hf i (by omega))
      simp only [sumTo] at h3
      rw [show ((k.toNat : Nat) : Int) = k by omega] at h3
      rw [if_neg (by omega)]
      have := findK_spec f hf x r hr d (k + 1) (by omega) (by omega) (by omega)
      rw [show (k + 1).toNat = k.toNat + 1 by omega] at this
      simp only [sumTo] at this
      rw [show ((k.toNat : Nat) : Int) = k by omega] at this
      rw [← this]; congr 1; omega
theorem unrank_rank : ∀ (l : List Int) (last a : Int), 0 ≤ a → Goes last a l → unrank l.length last a (rank last a l) = l
  | [], _, _, _, _ => rfl
  | x :: t, last, a, ha, h => by
    obtain ⟨h1, h2, h3⟩ := h
    have hr := rank_range t x (nx last a x) h3
    have ha' := nx_range (last := last) (a := a) (x := x)
    have hk := findK_spec (fun x => wys t.length x (nx last a x)) (fun i _ => wys_nonneg _ _ _) x (rank x (nx last a x) t) hr (topN last a).toNat 0 (by omega) h1 (by omega)
    simp only [List.length_cons, unrank, rank]
    rw [show sumTo (fun x => wys t.length x (nx last a x)) (0 : Int).toNat = 0 from rfl, Int.sub_zero] at hk
    rw [hk]
    simp only
    rw [unrank_rank t x (nx last a x) (by omega) h3]
/-- the r-th list after the one of zeros -/
theorem exists_rank (n : Nat) : ∀ r : Nat, (r : Int) < wys n (-1) 0 → ∃ l, Goes (-1) 0 l ∧ l.length = n ∧ rank (-1) 0 l = r ∧ unrank n (-1) 0 r = l
  | 0, _ => ⟨List.replicate n 0, goes_zeros n _ _ (by omega), by simp, by rw [rank_zeros]; rfl, by
      have := unrank_rank (List.replicate n 0) (-1) 0 (by omega) (goes_zeros n _ _ (by omega))
      rw [rank_zeros, List.length_replicate] at this; exact this⟩
  | r + 1, h => by
    obtain ⟨l, h1, h2, h3, _⟩ := exists_rank n r (by omega)
    obtain ⟨g1, g2⟩ := next_spec l (-1) 0 (by omega) h1
    cases hn : nextL (-1) 0 l with
    | none => have := g2 hn; rw [h2, h3] at this; omega
    | some l' =>
      obtain ⟨i1, i2, i3⟩ := g1 l' hn
      have hu := unrank_rank l' (-1) 0 (by omega) i1
      have e : rank (-1) 0 l' = ((r + 1 : Nat) : Int) := by rw [i3, h3]; omega
      rw [e, i2, h2] at hu
      exact ⟨l', i1, i2.trans h2, e, hu⟩

/-- A key of the map: how many more numbers, the last one, the ascents. -/
def keyV (m l a : Int) : Value := .agg #[.int .i64 m, .int .i64 l, .int .i64 a]
/-- All entries are right. -/
def MapOk (es : Array MapEntry) : Prop := ∀ e ∈ es.toList, ∃ (m : Nat) (l a : Int), 0 ≤ a ∧ a + m ≤ 13 ∧ -1 ≤ l ∧ l ≤ 14 ∧ e.key = keyV m l a ∧ e.val = .int .i64 (wys m l a)
theorem MapOk.none : MapOk #[] := fun e h => by simp at h
section
variable {P : Program} {ops : Array Oper} {rest : List Oper} {o : Oper} {a : Act} {Q : Exit → Act → World → Prop}
theorem map_event {W : World} (hgd : o.guard = none) {N : Tmp} (_hd : o.dst = some N)
    (hrun : (execOp a.eval o).run P W = .ok (.value (.map (some W.heap.size))) (W.alloc (.map #[] 0)))
    (h : ∀ g, g = W.heap.size → ∀ w1, w1.heap[g]? = some (.map #[] 0) → Below W.heap.size W w1 → wpList P ops Q rest (a.put o.dst (.map (some g))) w1) : wpList P ops Q (o :: rest) a W :=
  Kd.event_run hgd hrun (h _ rfl _ (blk_new W _) (below_alloc (Below.refl _ _) _))
end

/-- A map of type 33 at block g of W, all of whose entries are right. -/
def IsS33 (w0 W : World) (g : Nat) : Prop := ∃ es clock, W.heap[g]? = some (.map es clock) ∧ MapOk es ∧ w0.heap.size ≤ g
theorem IsS33.grown {w0 W : World} {g : Nat} {W1 : World} {row : Option Nat} (h : IsS33 w0 W g) (hw : W.grownBy W1 row) (hne : some g ≠ row) : IsS33 w0 W1 g := by
  obtain ⟨es, clock, hb, hm, hg⟩ := h
  exact ⟨es, clock, blk_grown hb hw hne, hm, hg⟩
theorem IsS33.own_neN {w0 W : World} {g : Nat} {α : Type} {d : Kd α} {e : Nat} {base : Nat} {ok : Nat → Prop} {v : Value} {xs : List α} (h : IsS33 w0 W g) (ho : Kd.N d e W base ok v xs) (_ : e ≠ 33) : some g ≠ v.ownBlock := by
  obtain ⟨es, clock, hb, hm, hg⟩ := h
  intro he
  obtain ⟨c_, hc⟩ := Kd.N_typed ho g he.symm
  rw [hc] at hb; cases hb
theorem IsS33.fresh {w0 W : World} {g : Nat} (h : IsS33 w0 W g) : ∀ k, W.heap.size ≤ k → k ≠ g := by
  obtain ⟨es, clock, hb, hm, hg⟩ := h
  exact Kd.freshB hb
theorem IsS33.kept {w0 W : World} {g : Nat} {W1 : World} {S : Nat → Prop} (h : IsS33 w0 W g) (hk : Kept W W1 S) (hne : ¬ S g) : IsS33 w0 W1 g := by
  obtain ⟨es, clock, hb, hm, hg⟩ := h
  exact ⟨es, clock, blk_kept hb hk hne, hm, hg⟩
theorem IsS33.below {w0 W : World} {g : Nat} {W1 : World} (h : IsS33 w0 W g) (hw : Below W.heap.size W W1) : IsS33 w0 W1 g := h.grown (grown_of_below hw none) (by simp)
theorem IsS33.alloc {w0 W : World} {g : Nat} (h : IsS33 w0 W g) (o : Obj) : IsS33 w0 (W.alloc o) g := h.below (below_alloc (Below.refl _ _) o)
theorem IsS33.drewN {w0 W : World} {g : Nat} (h : IsS33 w0 W g) (m : Nat) : IsS33 w0 (W.drewN m) g := h
theorem IsS33.drew {w0 W : World} {g : Nat} (h : IsS33 w0 W g) : IsS33 w0 W.drew g := h
theorem IsS33.at_ {w0 W : World} {g : Nat} {w' : World} {m : Nat} (hq : W.drewN m = w') (h : IsS33 w0 W g) : IsS33 w0 w' g := by subst hq; exact IsS33.drewN h m
theorem IsS33.apart' {w0 W : World} {g : Nat} {α : Type} {d : Kd α} {e : Nat} {base : Nat} {ok : Nat → Prop} {v : Value} {xs : List α} (h : IsS33 w0 W g) (ho : d.R e W base ok v xs) : d.R e W base (fun k => ok k ∧ k ≠ g) v xs := by
  obtain ⟨es, clock, hb, hm, hg⟩ := h
  refine Kd.R_mono (Kd.R_bound ho) (fun k hk => ⟨hk.1, ?_⟩)
  obtain ⟨_, _, _, q, hq, c_, hc⟩ := hk
  rintro rfl
  rw [hc] at hb; cases hb
theorem IsS33.apart {w0 W : World} {g : Nat} {α : Type} {d : Kd α} {e : Nat} {base : Nat} {ok : Nat → Prop} {v : Value} {xs : List α} (h : IsS33 w0 W g) (ho : d.R e W base ok v xs) (_ : ∀ q, q ∈ e :: d.E → q ≠ 33) : d.R e W base (fun k => ok k ∧ k ≠ g) v xs := by
  obtain ⟨es, clock, hb, hm, hg⟩ := h
  refine Kd.R_mono (Kd.R_bound ho) (fun k hk => ⟨hk.1, ?_⟩)
  obtain ⟨_, _, _, q, hq, c_, hc⟩ := hk
  rintro rfl
  rw [hc] at hb; cases hb
theorem IsS33.own_ne {w0 W : World} {g : Nat} {α : Type} {d : Kd α} {e : Nat} {base : Nat} {ok : Nat → Prop} {v : Value} {xs : List α} (h : IsS33 w0 W g) (ho : d.R e W base ok v xs) (ht : e ≠ 33) : some g ≠ v.ownBlock := by
  intro he
  have h2 := (IsS33.apart' h ho).1 g he.symm
  exact h2.2 rfl
theorem IsS33.apartQ' {w0 W : World} {g : Nat} {α : Type} {d : Kd α} {e : Nat} {base : Nat} {ok : Nat → Prop} {v : Value} {xs : List α} (h : IsS33 w0 W g) (ho : d.Q e W base ok v xs) : d.Q e W base (fun k => ok k ∧ k ≠ g) v xs := by
  obtain ⟨es, clock, hb, hm, hg⟩ := h
  refine Kd.Q_mono (Kd.Q_bound ho) (fun k hk => ⟨hk.1, ?_⟩)
  obtain ⟨_, _, _, q, hq, c_, hc⟩ := hk
  rintro rfl
  rw [hc] at hb; cases hb
theorem IsS33.apartQ {w0 W : World} {g : Nat} {α : Type} {d : Kd α} {e : Nat} {base : Nat} {ok : Nat → Prop} {v : Value} {xs : List α} (h : IsS33 w0 W g) (ho : d.Q e W base ok v xs) (_ : ∀ q, q ∈ e :: d.E → q ≠ 33) : d.Q e W base (fun k => ok k ∧ k ≠ g) v xs := by
  obtain ⟨es, clock, hb, hm, hg⟩ := h
  refine Kd.Q_mono (Kd.Q_bound ho) (fun k hk => ⟨hk.1, ?_⟩)
  obtain ⟨_, _, _, q, hq, c_, hc⟩ := hk
  rintro rfl
  rw [hc] at hb; cases hb
theorem IsS33.own_neQ {w0 W : World} {g : Nat} {α : Type} {d : Kd α} {e : Nat} {base : Nat} {ok : Nat → Prop} {v : Value} {xs : List α} (h : IsS33 w0 W g) (ho : d.Q e W base ok v xs) (ht : e ≠ 33) : some g ≠ v.ownBlock := by
  intro he
  have h2 := (IsS33.apartQ' h ho).1 g he.symm
  exact h2.2 rfl
theorem IsS33.apartS {w0 W : World} {g : Nat} {α : Type} {d : Kd α} {e : Nat} {base : Nat} {ok : Nat → Prop} {v : Value} {xs : List α} (h : IsS33 w0 W g) (ho : Kd.S d e W base ok v xs) (_ : ∀ q, q ∈ e :: d.E → q ≠ 33) : Kd.S d e W base (fun k => ok k ∧ k ≠ g) v xs := by
  obtain ⟨f, hR⟩ := ho
  exact ⟨f, IsS33.apart' h hR⟩
theorem IsS33.own_neS {w0 W : World} {g : Nat} {α : Type} {d : Kd α} {e : Nat} {base : Nat} {ok : Nat → Prop} {v : Value} {xs : List α} (h : IsS33 w0 W g) (ho : Kd.S d e W base ok v xs) (ht : e ≠ 33) : some g ≠ v.ownBlock := IsS33.own_ne h (Kd.S_R ho) ht
theorem IsS33.lt {w0 W : World} {g : Nat} (h : IsS33 w0 W g) : g < W.heap.size := by
  obtain ⟨es, clock, hb, hm, hg⟩ := h
  exact blk_lt hb
theorem IsS33.ge {w0 W : World} {g : Nat} (h : IsS33 w0 W g) : w0.heap.size ≤ g := by
  obtain ⟨es, clock, hb, hm, hg⟩ := h
  exact hg
theorem IsS33.ne_blk {w0 W : World} {g : Nat} {a : Nat} {cs : Array Value} {t : TypeId} {fr : Nat × Nat} (h : IsS33 w0 W g) (hb2 : W.heap[a]? = some (.cells cs t fr)) (_ : t ≠ 33) : g ≠ a := by
  obtain ⟨es, clock, hb, hm, hg⟩ := h
  rintro rfl
  rw [hb] at hb2; cases hb2
theorem IsS33.far {w0 W : World} {g : Nat} {p : Addr} (h : IsS33 w0 W g) (hne : g ≠ p.block) (u : Value) : IsS33 w0 (W.setCell p u) g := by
  obtain ⟨es, clock, hb, hm, hg⟩ := h
  exact ⟨es, clock, (Below.heap_setCell W p u g hne).trans hb, hm, hg⟩

theorem bl33_0 {q p r : Prop} (h : q) (hr : r) (t : q → r → p := by intro x_ z_; repeat (first | (with_reducible first | exact x_ | apply below_alloc | apply pw_below_drewN | apply below_drew1 | refine below_set ?_ (IsS33.ge z_)) | exact x_)) : p := t h hr
theorem kb33_0 {q p : Prop} (h : q) (t : q → p := by intro x_; repeat (first | (with_reducible first | exact x_ | apply KeepBut.set_ | apply keep_drewN | apply keep_drew | apply keep_alloc) | exact x_)) : p := t h
theorem st33_0 {q p : Prop} (h : q) (t : q → p := by intro x_; repeat (first | (with_reducible first | exact x_ | apply IsS33.alloc | apply IsS33.drewN | apply IsS33.drew) | exact x_)) : p := t h
/-! ### impl_counter_most: function 19 -/
def impl_counter_most.f  (a1 : Int) (a2 : Int) : Option (Int) := if a1 < 0 then (some 0) else (some (wrap64 (a2 + 1)))
theorem impl_counter_most.calls (g : Nat)  (a1 : Int) (a2 : Int) (r : Int) (w0 w : World) (hI : IsS33 w0 w g ) (hB : Below w0.heap.size w0 w) (h : impl_counter_most.f a1 a2 = some r) :
  Calls Try.prog 19 #[.map (some g), .int .i64 a1, .int .i64 a2] w fun e w' => e = .returned (.int .i64 r) ∧ IsS33 w0 w' g  ∧ Below w0.heap.size w0 w' ∧ KeepBut w w' g none := by
 have HI0 := mkA hI
 have HK := mkA (KeepBut.refl w g none)
 have HL := mkA hB.size
 clear hI
 have HW0 := mkA hB.size
 have HB := mkA hB
 clear hB
 have H := h
 clear h
 unfold impl_counter_most.f at H
 rcases iteE H with ⟨c4b0, H⟩ | ⟨c4b0, H⟩
 ·obtain rfl := Option.some.inj H
  go_enter Try.func19, Try.ntmps19
  go_wp2
  go_ret
  exact ⟨eqE, by exact st33_0 HI0.out, by exact bl33_0 HB.out HI0.out, by exact kb33_0 HK.out⟩
 ·obtain rfl := Option.some.inj H
  go_enter Try.func19, Try.ntmps19
  go_wp2
  go_ret
  exact ⟨eqE, by exact st33_0 HI0.out, by exact bl33_0 HB.out HI0.out, by exact kb33_0 HK.out⟩

end Go.Proofs.Ytmdldleodieooaa.Q
