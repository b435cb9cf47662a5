namespace Go.Proofs.YtojappijhehlpaaDoor.Pure
set_option linter.unusedVariables false
set_option linter.unusedSimpArgs false

-- plain
/-! The numbers of ways to go on with ascent sequences, ranks, the next one: plain. -/
def sumTo (f : Int → Int) : Nat → Int
  | 0 => 0
  | n + 1 => sumTo f n + f n
/-- the ascents behind one more number -/
def nx (last a x : Int) : Int := if last ≥ 0 ∧ x > last then a + 1 else a
/-- the greatest number that can come next -/
def topN (last a : Int) : Int := if last < 0 then 0 else a + 1
/-- the number of ways to go on by so many numbers -/
def wys : Nat → Int → Int → Int
  | 0, _, _ => 1
  | m + 1, last, a => sumTo (fun x => wys m x (nx last a x)) (topN last a + 1).toNat
theorem sumTo_nonneg {f : Int → Int} : ∀ {n : Nat}, (∀ i : Nat, i < n → 0 ≤ f i) → 0 ≤ sumTo f n
  | 0, _ => Int.le_refl 0
  | n + 1, h => by
    have h1 := sumTo_nonneg (f := f) (n := n) (fun i hi => h i (by omega))
    have h2 := h n (by omega)
    simp only [sumTo]; omega
theorem sumTo_mono {f : Int → Int} {m : Nat} : ∀ {n : Nat}, m ≤ n → (∀ i : Nat, i < n → 0 ≤ f i) → sumTo f m ≤ sumTo f n
  | 0, h, _ => by simp [show m = 0 by omega]
  | n + 1, h, h0 => by
    by_cases e : m = n + 1
    · subst e; exact Int.le_refl _
    · have h1 := sumTo_mono (f := f) (m := m) (n := n) (by omega) (fun i hi => h0 i (by omega))
      have h2 := h0 n (by omega)
      simp only [sumTo]; omega
theorem sumTo_congr {f g : Int → Int} : ∀ {n : Nat}, (∀ i : Nat, i < n → f i = g i) → sumTo f n = sumTo g n
  | 0, _ => rfl
  | n + 1, h => by simp only [sumTo]; rw [sumTo_congr (fun i hi => h i (by omega)), h n (by omega)]
theorem sumTo_le {f : Int → Int} {B : Int} : ∀ {n : Nat}, (∀ i : Nat, i < n → f i ≤ B) → sumTo f n ≤ n * B
  | 0, _ => by simp [sumTo]
  | n + 1, h => by
    have h1 := sumTo_le (f := f) (n := n) (fun i hi => h i (by omega))
    have h2 := h n (by omega)
    simp only [sumTo]; rw [show ((n + 1 : Nat) : Int) * B = (n : Int) * B + B by rw [show ((n + 1 : Nat) : Int) = (n : Int) + 1 by omega, Int.add_mul, Int.one_mul]]
    omega
theorem wys_nonneg : ∀ (m : Nat) (last a : Int), 0 ≤ wys m last a
  | 0, _, _ => by simp [wys]
  | m + 1, last, a => by simp only [wys]; exact sumTo_nonneg (fun i _ => wys_nonneg m _ _)
theorem nx_range {last a x : Int} : a ≤ nx last a x ∧ nx last a x ≤ a + 1 := by unfold nx; split <;> omega
theorem topN_range {last a : Int} (h : 0 ≤ a) : 0 ≤ topN last a ∧ topN last a ≤ a + 1 := by unfold topN; split <;> omega
theorem wys_le : ∀ (m : Nat) (last a : Int), 0 ≤ a → a + m ≤ 13 → wys m last a ≤ 15 ^ m
  | 0, _, _, _, _ => by simp [wys]
  | m + 1, last, a, h0, h1 => by
    simp only [wys]
    have ht := topN_range (last := last) h0
    have h2 : sumTo (fun x => wys m x (nx last a x)) (topN last a + 1).toNat ≤ ((topN last a + 1).toNat : Int) * 15 ^ m :=
      sumTo_le (fun i _ => wys_le m _ _ (by have := nx_range (last := last) (a := a) (x := i); omega) (by have := nx_range (last := last) (a := a) (x := i); omega))
    have h3 : ((topN last a + 1).toNat : Int) ≤ 15 := by omega
    have h4 : (0 : Int) ≤ 15 ^ m := Int.pow_nonneg (by omega)
    calc sumTo (fun x => wys m x (nx last a x)) (topN last a + 1).toNat ≤ ((topN last a + 1).toNat : Int) * 15 ^ m := h2
      _ ≤ 15 * 15 ^ m := Int.mul_le_mul_of_nonneg_right h3 h4
      _ = 15 ^ (m + 1) := by rw [Int.pow_succ, Int.mul_comm]
theorem wys_big {m : Nat} {last a : Int} (h0 : 0 ≤ a) (h1 : a + m ≤ 13) : wys m last a ≤ 1946195068359375 := by
  have h := wys_le m last a h0 h1
  have h2 : (15 : Int) ^ m ≤ 15 ^ 13 := by
    have : m ≤ 13 := by omega
    match m, this with
    | 0, _ | 1, _ | 2, _ | 3, _ | 4, _ | 5, _ | 6, _ | 7, _ | 8, _ | 9, _ | 10, _ | 11, _ | 12, _ | 13, _ => decide
  have : (15 : Int) ^ 13 = 1946195068359375 := by decide
  omega
/-- a list goes on behind a last number and some ascents -/
def Goes : Int → Int → List Int → Prop
  | _, _, [] => True
  | last, a, x :: t => 0 ≤ x ∧ x ≤ topN last a ∧ Goes x (nx last a x) t
/-- the rank of a list among those that go on -/
def rank : Int → Int → List Int → Int
  | _, _, [] => 0
  | last, a, x :: t => sumTo (fun y => wys t.length y (nx last a y)) x.toNat + rank x (nx last a x) t
theorem rank_range : ∀ (l : List Int) (last a : Int), Goes last a l → 0 ≤ rank last a l ∧ rank last a l < wys l.length last a
  | [], _, _, _ => by simp [rank, wys]
  | x :: t, last, a, h => by
    obtain ⟨h1, h2, h3⟩ := h
    have ih := rank_range t x (nx last a x) h3
    simp only [rank, List.length_cons, wys]
    have hn : ∀ i : Nat, i < (topN last a + 1).toNat → 0 ≤ (fun x => wys t.length x (nx last a x)) (i : Int) := fun i _ => wys_nonneg _ _ _
    have h5 := sumTo_mono (f := fun x => wys t.length x (nx last a x)) (m := x.toNat + 1) (n := (topN last a + 1).toNat) (by omega) hn
    have h6 := sumTo_nonneg (f := fun x => wys t.length x (nx last a x)) (n := x.toNat) (fun i _ => wys_nonneg _ _ _)
    simp only [sumTo] at h5
    rw [show ((x.toNat : Nat) : Int) = x by omega] at h5
    omega
/-- the next list of the same length -/
def nextL : Int → Int → List Int → Option (List Int)
  | _, _, [] => none
  | last, a, x :: t => match nextL x (nx last a x) t with
    | some t' => some (x :: t')
    | none => if x < topN last a then some ((x + 1) :: List.replicate t.length 0) else none
theorem goes_zeros : ∀ (n : Nat) (last a : Int), 0 ≤ a → Goes last a (List.replicate n 0)
  | 0, _, _, _ => trivial
  | n + 1, last, a, h => ⟨Int.le_refl 0, (topN_range h).1, goes_zeros n _ _ (by have := nx_range (last := last) (a := a) (x := 0); omega)⟩
theorem rank_zeros : ∀ (n : Nat) (last a : Int), rank last a (List.replicate n 0) = 0
  | 0, _, _ => rfl
  | n + 1, last, a => by simp only [List.replicate_succ, rank]; rw [rank_zeros n]; simp [sumTo]
theorem next_spec : ∀ (l : List Int) (last a : Int), 0 ≤ a → Goes last a l → (∀ l', nextL last a l = some l' → Goes last a l' ∧ l'.length = l.length ∧ rank last a l' = rank last a l + 1) ∧ (nextL last a l = none → rank last a l + 1 = wys l.length last a)
  | [], _, _, _, _ => ⟨fun l' h => by simp [nextL] at h, fun _ => by simp [rank, wys]⟩
  | x :: t, last, a, ha, h => by
    obtain ⟨h1, h2, h3⟩ := h
    have hr := nx_range (last := last) (a := a) (x := x)
    have hr1 := nx_range (last := last) (a := a) (x := x + 1)
    obtain ⟨i1, i2⟩ := next_spec t x (nx last a x) (by omega) h3
    refine ⟨fun l' h => ?_, fun h => ?_⟩
    · simp only [nextL] at h
      split at h
      · rename_i t' ht
        obtain rfl := Option.some.inj h
        obtain ⟨g1, g2, g3⟩ := i1 t' ht
        exact ⟨⟨h1, h2, g1⟩, by simp [g2], by simp only [rank]; rw [g3, g2]; omega⟩
      · rename_i ht
        split at h
        · rename_i hx
          obtain rfl := Option.some.inj h
          refine ⟨⟨by omega, by omega, goes_zeros _ _ _ (by omega)⟩, by simp, ?_⟩
          have := i2 ht
          simp only [rank, rank_zeros, List.length_replicate]
          rw [show (x + 1).toNat = x.toNat + 1 by omega]
          simp only [sumTo]
          rw [show ((x.toNat : Nat) : Int) = x by omega]
          omega
        · cases h
    · simp only [nextL] at h
      split at h
      · cases h
      · rename_i ht
        split at h
        · cases h
        · have := i2 ht
          simp only [rank, List.length_cons, wys]
          rw [show (topN last a + 1).toNat = x.toNat + 1 by omega]
          simp only [sumTo]
          rw [show ((x.toNat : Nat) : Int) = x by omega]
          omega
/-- the reference's tables: rows are ascents, columns last numbers -/
def tab : Nat → Nat → Nat → Int
  | 0, _, _ => 1
  | m + 1, a, l => sumTo (fun x => if x > (l : Int) then tab m (a + 1) x.toNat else tab m a x.toNat) (if a + 1 < 14 then a + 2 else 0)
def tabL (m : Nat) : List (List Int) := (List.range 14).map fun a => (List.range 14).map fun l => tab m a l
theorem tab_range : ∀ (m a l : Nat), 0 ≤ tab m a l ∧ tab m a l ≤ 15 ^ m
  | 0, _, _ => by simp [tab]
  | m + 1, a, l => by
    simp only [tab]
    refine ⟨sumTo_nonneg (fun i _ => by split <;> exact (tab_range m _ _).1), ?_⟩
    have h2 := sumTo_le (f := fun x => if x > (l : Int) then tab m (a + 1) x.toNat else tab m a x.toNat) (B := 15 ^ m) (n := if a + 1 < 14 then a + 2 else 0) (fun i _ => by show (if (i : Int) > (l : Int) then _ else _) ≤ _; split <;> exact (tab_range m _ _).2)
    have h3 : ((if a + 1 < 14 then a + 2 else 0 : Nat) : Int) ≤ 15 := by split <;> omega
    have h4 : (0 : Int) ≤ 15 ^ m := Int.pow_nonneg (by omega)
    calc _ ≤ ((if a + 1 < 14 then a + 2 else 0 : Nat) : Int) * 15 ^ m := h2
      _ ≤ 15 * 15 ^ m := Int.mul_le_mul_of_nonneg_right h3 h4
      _ = 15 ^ (m + 1) := by rw [Int.pow_succ, Int.mul_comm]
theorem pow_big {m : Nat} (h : m ≤ 13) : (15 : Int) ^ m ≤ 1946195068359375 := by
  match m, h with
  | 0, _ | 1, _ | 2, _ | 3, _ | 4, _ | 5, _ | 6, _ | 7, _ | 8, _ | 9, _ | 10, _ | 11, _ | 12, _ | 13, _ => decide
theorem tab_wys : ∀ (m a l : Nat), a + m ≤ 13 → tab m a l = wys m (l : Int) (a : Int)
  | 0, _, _, _ => rfl
  | m + 1, a, l, h => by
    simp only [tab, wys]
    rw [if_pos (by omega), show topN (l : Int) (a : Int) = (a : Int) + 1 by unfold topN; rw [if_neg (by omega)], show ((a : Int) + 1 + 1).toNat = a + 2 by omega]
    refine sumTo_congr fun i hi => ?_
    show (if (i : Int) > (l : Int) then _ else _) = _
    by_cases hc : (i : Int) > (l : Int)
    · rw [if_pos hc, show nx (l : Int) (a : Int) (i : Int) = ((a + 1 : Nat) : Int) by unfold nx; rw [if_pos ⟨by omega, hc⟩]; omega, tab_wys m (a + 1) _ (by omega)]; rfl
    · rw [if_neg hc, show nx (l : Int) (a : Int) (i : Int) = (a : Int) by unfold nx; rw [if_neg (fun e => hc e.2)], tab_wys m a _ (by omega)]; rfl
/-- the list with a rank -/
def findK (f : Int → Int) : Nat → Int → Int → Int × Int
  | 0, k, r => (k, r)
  | d + 1, k, r => if r < f k then (k, r) else findK f d (k + 1) (r - f k)
def unrank : Nat → Int → Int → Int → List Int
  | 0, _, _, _ => []
  | m + 1, last, a, r =>
    let kr := findK (fun x => wys m x (nx last a x)) (topN last a).toNat 0 r
    kr.1 :: unrank m kr.1 (nx last a kr.1) kr.2
theorem findK_spec (f : Int → Int) (hf : ∀ i, 0 ≤ i → 0 ≤ f i) (x r : Int) (hr : 0 ≤ r ∧ r < f x) : ∀ (d : Nat) (k : Int), 0 ≤ k → k ≤ x → x ≤ k + d → findK f d k (sumTo f x.toNat - sumTo f k.toNat + r) = (x, r)
  | 0, k, h0, h1, h2 => by obtain rfl : k = x := by omega
                           simp only [findK]; congr 1; omega
  | d + 1, k, h0, h1, h2 => by
    simp only [findK]
    by_cases e : k = x
    · subst e; rw [if_pos (by omega)]; congr 1; omega
    · have h3 := sumTo_mono (f := f) (m := k.toNat + 1) (n := x.toNat) (by omega) (fun i _ => hf i (by omega))
      simp only [sumTo] at h3
      rw [show ((k.toNat : Nat) : Int) = k by omega] at h3
      rw [if_neg (by omega)]
      have := findK_spec f hf x r hr d (k + 1) (by omega) (by omega) (by omega)
      rw [show (k + 1).toNat = k.toNat + 1 by omega] at this
      simp only [sumTo] at this
      rw [show ((k.toNat : Nat) : Int) = k by omega] at this
      rw [← this]; congr 1; omega
theorem unrank_rank : ∀ (l : List Int) (last a : Int), 0 ≤ a → Goes last a l → unrank l.length last a (rank last a l) = l
  | [], _, _, _, _ => rfl
  | x :: t, last, a, ha, h => by
    obtain ⟨h1, h2, h3⟩ := h
    have hr := rank_range t x (nx last a x) h3
    have ha' := nx_range (last := last) (a := a) (x := x)
    have hk := findK_spec (fun x => wys t.length x (nx last a x)) (fun i _ => wys_nonneg _ _ _) x (rank x (nx last a x) t) hr (topN last a).toNat 0 (by omega) h1 (by omega)
    simp only [List.length_cons, unrank, rank]
    rw [show sumTo (fun x => wys t.length x (nx last a x)) (0 : Int).toNat = 0 from rfl, Int.sub_zero] at hk
    rw [hk]
    simp only
    rw [unrank_rank t x (nx last a x) (by omega) h3]
/-- the r-th list after the one of zeros -/
theorem exists_rank (n : Nat) : ∀ r : Nat, (r : Int) < wys n (-1) 0 → ∃ l, Goes (-1) 0 l ∧ l.length = n ∧ rank (-1) 0 l = r ∧ unrank n (-1) 0 r = l
  | 0, _ => ⟨List.replicate n 0, goes_zeros n _ _ (by omega), by simp, by rw [rank_zeros]; rfl, by
      have := unrank_rank (List.replicate n 0) (-1) 0 (by omega) (goes_zeros n _ _ (by omega))
      rw [rank_zeros, List.length_replicate] at this; exact this⟩
  | r + 1, h => by
    obtain ⟨l, h1, h2, h3, _⟩ := exists_rank n r (by omega)
    obtain ⟨g1, g2⟩ := next_spec l (-1) 0 (by omega) h1
    cases hn : nextL (-1) 0 l with
    | none => have := g2 hn; rw [h2, h3] at this; omega
    | some l' =>
      obtain ⟨i1, i2, i3⟩ := g1 l' hn
      have hu := unrank_rank l' (-1) 0 (by omega) i1
      have e : rank (-1) 0 l' = ((r + 1 : Nat) : Int) := by rw [i3, h3]; omega
      rw [e, i2, h2] at hu
      exact ⟨l', i1, i2.trans h2, e, hu⟩

end Go.Proofs.YtojappijhehlpaaDoor.Pure
