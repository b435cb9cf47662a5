import Derived.Test.YtpphkeijklffgaaDoorBFnChainsAndAntichains15
import Derived.Test.YtpphkeijklffgaaDoorBFnChainsAndAntichains27
namespace Go.Proofs.YtpphkeijklffgaaDoor.Pure
open Go.RowKit Go.Proofs.YtpphkeijklffgaaDoor.Q Go.Proofs.YtpphkeijklffgaaDoorW.PrintWords Go.Proofs.YtpphkeijklffgaaDoorW.PrintLast
set_option linter.unusedVariables false
set_option linter.unusedSimpArgs false
def antiL (lt : Nat → Nat → Prop) (S A : List Nat) : Prop := A.Nodup ∧ (∀ x ∈ A, x ∈ S) ∧ ∀ x ∈ A, ∀ y ∈ A, ¬ lt x y
def covL (lt : Nat → Nat → Prop) (S : List Nat) (w : Nat) (f : Nat → Nat) : Prop := (∀ x ∈ S, f x < w) ∧ ∀ x ∈ S, ∀ y ∈ S, f x = f y → x = y ∨ lt x y ∨ lt y x
theorem nodup_le : ∀ (l l' : List Nat), l.Nodup → (∀ x ∈ l, x ∈ l') → l.length ≤ l'.length
 | [], _, _, _ => by simp
 | x :: l, l', hn, hs => by
  have h1 := List.nodup_cons.1 hn
  have hx := hs x List.mem_cons_self
  have h2 := nodup_le l (l'.erase x) h1.2 (fun y hy => (List.mem_erase_of_ne (fun e => h1.1 (by rw [← e]; exact hy))).2 (hs y (List.mem_cons_of_mem _ hy)))
  have h3 := List.length_erase_of_mem hx
  have h4 := List.length_pos_of_mem hx
  simp only [List.length_cons]
  omega
theorem top_ex {lt : Nat → Nat → Prop} (hi : ∀ x, ¬ lt x x) (ht : ∀ x y z, lt x y → lt y z → lt x z) : ∀ (S : List Nat), S ≠ [] → ∃ a, a ∈ S ∧ ∀ y ∈ S, ¬ lt a y
 | [], h => absurd rfl h
 | [x], _ => ⟨x, by simp, by simpa using hi x⟩
 | x :: y :: S, _ => by
  obtain ⟨a, ha, hm⟩ := top_ex hi ht (y :: S) (by simp)
  by_cases hc : lt a x
  ·refine ⟨x, by simp, fun z hz => ?_⟩
   rcases List.mem_cons.1 hz with rfl | hz
   ·exact hi _
   ·exact fun h => hm z hz (ht _ _ _ hc h)
  ·refine ⟨a, List.mem_cons_of_mem _ ha, fun z hz => ?_⟩
   rcases List.mem_cons.1 hz with rfl | hz
   ·exact hc
   ·exact hm z hz
open Classical in
theorem top_of_pred {lt : Nat → Nat → Prop} (hi : ∀ x, ¬ lt x x) (ht : ∀ x y z, lt x y → lt y z → lt x z) (S : List Nat) (Q : Nat → Prop) (h : ∃ x, x ∈ S ∧ Q x) : ∃ a, a ∈ S ∧ Q a ∧ ∀ y ∈ S, Q y → ¬ lt a y := by
 obtain ⟨x, hx, hq⟩ := h
 have hm : x ∈ S.filter (fun z => decide (Q z)) := List.mem_filter.2 ⟨hx, by simpa using hq⟩
 obtain ⟨a, ha, hall⟩ := top_ex hi ht (S.filter (fun z => decide (Q z))) (fun e => by rw [e] at hm; cases hm)
 have h1 := List.mem_filter.1 ha
 exact ⟨a, h1.1, by simpa using h1.2, fun y hy hqy => hall y (List.mem_filter.2 ⟨hy, by simpa using hqy⟩)⟩
theorem wide_ex {lt : Nat → Nat → Prop} {S : List Nat} : ∀ w, (∀ A, antiL lt S A → A.length ≤ w) → ∃ k, k ≤ w ∧ (∀ A, antiL lt S A → A.length ≤ k) ∧ ∃ A, antiL lt S A ∧ A.length = k
 | 0, h => ⟨0, Nat.le_refl _, h, [], ⟨List.nodup_nil, by simp, by simp⟩, rfl⟩
 | w + 1, h => by
  by_cases hc : ∃ A, antiL lt S A ∧ A.length = w + 1
  ·exact ⟨w + 1, Nat.le_refl _, h, hc⟩
  ·obtain ⟨k, h1, h2, h3⟩ := wide_ex (lt := lt) (S := S) w (fun A hA => by
    have := h A hA
    have : A.length ≠ w + 1 := fun e => hc ⟨A, hA, e⟩
    omega)
   exact ⟨k, by omega, h2, h3⟩
theorem hit {lt : Nat → Nat → Prop} {S A : List Nat} {k : Nat} {f : Nat → Nat} (hf : covL lt S k f) (hA : antiL lt S A) (hk : A.length = k) (c : Nat) (hc : c < k) : ∃ x, x ∈ A ∧ f x = c := by
 refine Classical.byContradiction fun hno => ?_
 have hn : (A.map f).Nodup := by
  refine List.pairwise_map.2 (List.Pairwise.imp_of_mem ?_ hA.1)
  intro a b ha hb hne e
  rcases hf.2 a (hA.2.1 a ha) b (hA.2.1 b hb) e with h | h | h
  ·exact hne h
  ·exact hA.2.2 a ha b hb h
  ·exact hA.2.2 b hb a ha h
 have h1 := nodup_le (A.map f) ((List.range k).erase c) hn (fun y hy => by
  obtain ⟨x, hx, rfl⟩ := List.mem_map.1 hy
  exact (List.mem_erase_of_ne (fun e => hno ⟨x, hx, e⟩)).2 (List.mem_range.2 (hf.1 x (hA.2.1 x hx))))
 rw [List.length_map, List.length_erase_of_mem (List.mem_range.2 hc), List.length_range] at h1
 omega
open Classical in
theorem dilworth {lt : Nat → Nat → Prop} (hi : ∀ x, ¬ lt x x) (ht : ∀ x y z, lt x y → lt y z → lt x z) : ∀ (m : Nat) (S : List Nat), S.length ≤ m → ∀ w, (∀ A, antiL lt S A → A.length ≤ w) → ∃ f, covL lt S w f := by
 intro m
 induction m with
 | zero =>
  intro S hS w _
  have : S = [] := List.eq_nil_of_length_eq_zero (by omega)
  subst this
  exact ⟨fun _ => 0, by simp, by simp⟩
 | succ m ih =>
  intro S hS w hw
  by_cases hne : S = []
  ·subst hne; exact ⟨fun _ => 0, by simp, by simp⟩
  obtain ⟨a, ha, hmax⟩ := top_ex hi ht S hne
  have hlen : ∀ p : Nat → Bool, p a = false → (S.filter p).length ≤ m := fun p hp => by
   have h1 : (S.filter p).length < S.length := by
    refine Nat.lt_of_le_of_ne (List.length_filter_le _ _) (fun e => ?_)
    have := List.length_filter_eq_length_iff.1 e a ha
    rw [hp] at this; cases this
   omega
  have hP : ∀ x, x ∈ S.filter (fun x => decide (x ≠ a)) ↔ x ∈ S ∧ x ≠ a := fun x => by rw [List.mem_filter]; simp
  have hPl := hlen (fun x => decide (x ≠ a)) (by simp)
  generalize S.filter (fun x => decide (x ≠ a)) = P at hP hPl
  have hPS : ∀ A, antiL lt P A → antiL lt S A := fun A hA => ⟨hA.1, fun x hx => ((hP x).1 (hA.2.1 x hx)).1, hA.2.2⟩
  obtain ⟨k, hkw, hk, A0, hA0, hA0k⟩ := wide_ex (lt := lt) (S := P) w (fun A hA => hw A (hPS A hA))
  obtain ⟨f, hf⟩ := ih P hPl k hk
  by_cases hlt : k < w
  ·refine ⟨fun x => if x = a then k else f x, fun x hx => ?_, fun x hx y hy he => ?_⟩
   ·show (if x = a then k else f x) < w
    by_cases hxa : x = a
    ·rw [if_pos hxa]; exact hlt
    ·rw [if_neg hxa]; have := hf.1 x ((hP x).2 ⟨hx, hxa⟩); omega
   ·by_cases hxa : x = a <;> by_cases hya : y = a
    ·exact .inl (hxa.trans hya.symm)
    ·have := hf.1 y ((hP y).2 ⟨hy, hya⟩)
     simp only [hxa, if_true, if_neg hya] at he; omega
    ·have := hf.1 x ((hP x).2 ⟨hx, hxa⟩)
     simp only [hya, if_true, if_neg hxa] at he; omega
    ·simp only [if_neg hxa, if_neg hya] at he
     exact hf.2 x ((hP x).2 ⟨hx, hxa⟩) y ((hP y).2 ⟨hy, hya⟩) he
  ·have hkw : k = w := by omega
   subst hkw
   -- of each colour the highest element that is in an antichain of k elements
   have hch : ∀ c : Nat, ∃ x, c < k → (x ∈ P ∧ (f x = c ∧ ∃ A, antiL lt P A ∧ A.length = k ∧ x ∈ A) ∧ ∀ y ∈ P, (f y = c ∧ ∃ A, antiL lt P A ∧ A.length = k ∧ y ∈ A) → ¬ lt x y) := fun c => by
    by_cases hc : c < k
    ·obtain ⟨x, hx, hfx⟩ := hit hf hA0 hA0k c hc
     obtain ⟨b, h1, h2, h3⟩ := top_of_pred hi ht P (fun y => f y = c ∧ ∃ A, antiL lt P A ∧ A.length = k ∧ y ∈ A) ⟨x, hA0.2.1 x hx, hfx, A0, hA0, hA0k, hx⟩
     exact ⟨b, fun _ => ⟨h1, h2, h3⟩⟩
    ·exact ⟨0, fun h => absurd h hc⟩
   obtain ⟨X, hX⟩ := Classical.axiomOfChoice hch
   have hpair : ∀ c d, c < k → d < k → ¬ lt (X c) (X d) := fun c d hc hd hlt => by
    obtain ⟨h1, ⟨h2, A, hA, hAk, hxA⟩, _⟩ := hX d hd
    obtain ⟨g1, ⟨g2, _⟩, g3⟩ := hX c hc
    obtain ⟨y, hy, hfy⟩ := hit hf hA hAk c hc
    have hyP := hA.2.1 y hy
    rcases hf.2 (X c) g1 y hyP (by rw [g2, hfy]) with e | e | e
    ·rw [e] at hlt; exact hA.2.2 y hy _ hxA hlt
    ·exact g3 y hyP ⟨hfy, A, hA, hAk, hy⟩ e
    ·exact hA.2.2 y hy _ hxA (ht _ _ _ e hlt)
   have hex : ∃ c, c < k ∧ lt (X c) a := by
    refine Classical.byContradiction fun hno => ?_
    have := hw (a :: (List.range k).map X) ⟨List.nodup_cons.2 ⟨fun hm => ?_, ?_⟩, ?_, ?_⟩
    ·simp only [List.length_cons, List.length_map, List.length_range] at this; omega
    ·obtain ⟨c, hc, he⟩ := List.mem_map.1 hm
     exact ((hP _).1 (hX c (List.mem_range.1 hc)).1).2 he
    ·refine List.pairwise_map.2 (List.Pairwise.imp_of_mem ?_ List.nodup_range)
     intro c d hc hd hne e
     have h1 := (hX c (List.mem_range.1 hc)).2.1.1
     have h2 := (hX d (List.mem_range.1 hd)).2.1.1
     rw [e, h2] at h1
     exact hne h1.symm
    ·intro x hx
     rcases List.mem_cons.1 hx with rfl | hx
     ·exact ha
     ·obtain ⟨c, hc, rfl⟩ := List.mem_map.1 hx
      exact ((hP _).1 (hX c (List.mem_range.1 hc)).1).1
    ·intro x hx y hy hl
     rcases List.mem_cons.1 hx with rfl | hx
     ·rcases List.mem_cons.1 hy with rfl | hy
      ·exact hi _ hl
      ·obtain ⟨c, hc, rfl⟩ := List.mem_map.1 hy
       exact hmax _ ((hP _).1 (hX c (List.mem_range.1 hc)).1).1 hl
     ·obtain ⟨c, hc, rfl⟩ := List.mem_map.1 hx
      rcases List.mem_cons.1 hy with rfl | hy
      ·exact hno ⟨c, List.mem_range.1 hc, hl⟩
      ·obtain ⟨d, hd, rfl⟩ := List.mem_map.1 hy
       exact hpair c d (List.mem_range.1 hc) (List.mem_range.1 hd) hl
   obtain ⟨c, hc, hca⟩ := hex
   obtain ⟨x1, ⟨x2, _⟩, x3⟩ := hX c hc
   have hxa := ((hP _).1 x1).2
   -- the chain that is taken away
   let K : Nat → Prop := fun z => z = a ∨ (z ∈ P ∧ f z = c ∧ (z = X c ∨ lt z (X c)))
   have hQ : ∀ x, x ∈ S.filter (fun x => decide (¬ K x)) ↔ x ∈ S ∧ ¬ K x := fun x => by rw [List.mem_filter]; simp
   have hQl := hlen (fun x => decide (¬ K x)) (by simp [K])
   generalize S.filter (fun x => decide (¬ K x)) = R at hQ hQl
   have hRw : ∀ A, antiL lt R A → A.length ≤ k - 1 := fun A hA => by
    have hAP : antiL lt P A := ⟨hA.1, fun x hx => (hP x).2 ⟨((hQ x).1 (hA.2.1 x hx)).1, fun e => ((hQ x).1 (hA.2.1 x hx)).2 (.inl e)⟩, hA.2.2⟩
    have h1 := hk A hAP
    refine Classical.byContradiction fun h2 => ?_
    have h3 : A.length = k := by omega
    obtain ⟨z, hz, hfz⟩ := hit hf hAP h3 c hc
    have hzP := hAP.2.1 z hz
    refine ((hQ z).1 (hA.2.1 z hz)).2 (.inr ⟨hzP, hfz, ?_⟩)
    rcases hf.2 z hzP (X c) x1 (by rw [hfz, x2]) with e | e | e
    ·exact .inl e
    ·exact .inr e
    ·exact absurd e (x3 z hzP ⟨hfz, A, hAP, h3, hz⟩)
   obtain ⟨g, hg⟩ := ih R hQl (k - 1) hRw
   have hcmp : ∀ x, K x → ∀ y, K y → x = y ∨ lt x y ∨ lt y x := by
    have hlow : ∀ z, (z = X c ∨ lt z (X c)) → lt z a := fun z hz => by
     rcases hz with rfl | hz
     ·exact hca
     ·exact ht _ _ _ hz hca
    rintro x (rfl | ⟨hx1, hx2, hx3⟩) y (rfl | ⟨hy1, hy2, hy3⟩)
    ·exact .inl rfl
    ·exact .inr (.inr (hlow y hy3))
    ·exact .inr (.inl (hlow x hx3))
    ·exact hf.2 x hx1 y hy1 (by rw [hx2, hy2])
   refine ⟨fun x => if K x then k - 1 else g x, fun x hx => ?_, fun x hx y hy he => ?_⟩
   ·show (if K x then k - 1 else g x) < k
    by_cases hKx : K x
    ·rw [if_pos hKx]; omega
    ·rw [if_neg hKx]; have := hg.1 x ((hQ x).2 ⟨hx, hKx⟩); omega
   ·have he : (if K x then k - 1 else g x) = (if K y then k - 1 else g y) := he
    by_cases hKx : K x <;> by_cases hKy : K y
    ·exact hcmp x hKx y hKy
    ·have := hg.1 y ((hQ y).2 ⟨hy, hKy⟩)
     rw [if_pos hKx, if_neg hKy] at he; omega
    ·have := hg.1 x ((hQ x).2 ⟨hx, hKx⟩)
     rw [if_neg hKx, if_pos hKy] at he; omega
    ·rw [if_neg hKx, if_neg hKy] at he
     exact hg.2 x ((hQ x).2 ⟨hx, hKx⟩) y ((hQ y).2 ⟨hy, hKy⟩) he
theorem drop_range {N x : Nat} (h : x < N) : (List.range N).drop x = x :: (List.range N).drop (x + 1) := by rw [List.drop_eq_getElem_cons (by simpa using h)]; simp
-- lists of elements that are as a pattern
def fitP (L M l : List Int) (x : Int) : Bool := !(decide (x ∈ l)) && (lt L x.toNat x.toNat == lt M l.length l.length) && (List.range l.length).all fun b => (lt L x.toNat (rd l (b : Int)).toNat == lt M l.length b) && (lt L (rd l (b : Int)).toNat x.toNat == lt M b l.length)
def pairsOk (L M r : List Int) : Prop := ∀ a b, a < r.length → b < r.length → (a ≠ b → rd r (a : Int) ≠ rd r (b : Int)) ∧ lt L (rd r (a : Int)).toNat (rd r (b : Int)).toNat = lt M a b
theorem rd_app (l : List Int) (x : Int) : rd (l ++ [x]) (l.length : Int) = x := by rw [rd_lt _ _ (by simp)]; simp
theorem rd_app_lt (l s : List Int) {a : Nat} (h : a < l.length) : rd (l ++ s) (a : Int) = rd l (a : Int) := by rw [rd_lt _ a (by simp; omega), rd_lt l a h, List.getElem_append_left h]
section
variable {n m : Int} {L M : List Int}
end
def findRes (n : Int) (L : List Int) (m : Int) (M : List Int) : List Int × Bool := if relP n L ∧ relP m M ∧ m ≤ 6 then ((findP (fitP L M) L.length M.length []).getD [], (findP (fitP L M) L.length M.length []).isSome) else ([], false)
section
variable {n m : Int} {L M : List Int}
def resP (r : Option (List Int)) : List Int × Bool := (r.getD [], r.isSome)
end
end Go.Proofs.YtpphkeijklffgaaDoor.Pure
namespace Go.Proofs.YtpphkeijklffgaaDoor.Pure
open Go.RowKit Go.Proofs.YtpphkeijklffgaaDoor.Q Go.Proofs.YtpphkeijklffgaaDoorW.PrintWords Go.Proofs.YtpphkeijklffgaaDoorW.PrintLast
set_option linter.unusedVariables false
set_option linter.unusedSimpArgs false
end Go.Proofs.YtpphkeijklffgaaDoor.Pure
namespace Go.Proofs.YtpphkeijklffgaaDoor.Pure
open Go.RowKit Go.Proofs.YtpphkeijklffgaaDoor.Q Go.Proofs.YtpphkeijklffgaaDoorW.PrintWords Go.Proofs.YtpphkeijklffgaaDoorW.PrintLast
set_option linter.unusedVariables false
set_option linter.unusedSimpArgs false
-- copying, comparing, marking, looking again: what the statements' own helpers answer
-- what the statements' own helpers answer at orders
-- the first numbers of chains
def fitC (L l : List Int) (x : Int) : Bool := decide (∀ j, j < l.length → rd l (j : Int) = x → freeP L l.length j = false)
theorem fitC_iff {L l : List Int} {x : Int} : fitC L l x = true ↔ ∀ j, j < l.length → rd l (j : Int) = x → freeP L l.length j = false := by unfold fitC; exact decide_eq_true_iff
def okC (L s : List Int) : Prop := ∀ i j, j < i → i < s.length → rd s (j : Int) = rd s (i : Int) → freeP L i j = false
theorem okC_snoc {L l : List Int} {x : Int} (h : okC L l) : okC L (l ++ [x]) ↔ fitC L l x = true := by
 rw [fitC_iff]
 constructor
 ·intro g j hj e
  exact g l.length j hj (by simp) (by rw [rd_app, rd_app_lt l _ hj, e])
 ·intro g i j hji hi e
  simp only [List.length_append, List.length_singleton] at hi
  by_cases hil : i = l.length
  ·subst hil
   rw [rd_app, rd_app_lt l _ hji] at e
   exact g j hji e
  ·rw [rd_app_lt l _ (show i < l.length by omega), rd_app_lt l _ (show j < l.length by omega)] at e
   exact h i j hji (by omega) e
theorem okC_take {L l s : List Int} (h : okC L (l ++ s)) : okC L l := fun i j hji hi e => h i j hji (by simp; omega) (by rw [rd_app_lt l _ hi, rd_app_lt l _ (show j < l.length by omega), e])
theorem okS_C {L : List Int} : ∀ (s l : List Int), okC L l → (okS (fitC L) l s ↔ okC L (l ++ s))
 | [], l, h => by rw [List.append_nil]; exact ⟨fun _ => h, fun _ => trivial⟩
 | x :: s, l, h => by
  show (fitC L l x = true ∧ okS (fitC L) (l ++ [x]) s) ↔ _
  rw [show l ++ x :: s = (l ++ [x]) ++ s by simp]
  constructor
  ·rintro ⟨h1, h2⟩
   exact (okS_C s (l ++ [x]) ((okC_snoc h).2 h1)).1 h2
  ·intro h2
   have h3 := okC_take h2
   exact ⟨(okC_snoc h).1 h3, (okS_C s (l ++ [x]) h3).2 h2⟩
theorem okC_nil (L : List Int) : okC L [] := fun i j _ hi => by simp at hi
theorem shr0_all : ∀ x : Fin 1024, ∀ j : Fin 10, ((Go.bits .and .i64 (shr .i64 (x.val : Int) (j.val : Int)) 1) == 0) = !bit (x.val : Int) j.val := by decide +kernel
theorem shr0_bit {x : Int} (h0 : 0 ≤ x) (h1 : x < 1024) {j : Nat} (hj : j < 10) : ((Go.bits .and .i64 (shr .i64 x (j : Int)) 1) == 0) = !bit x j := by
 have := shr0_all ⟨x.toNat, by omega⟩ ⟨j, hj⟩
 simpa [show ((x.toNat : Nat) : Int) = x by omega] using this
section
variable {n : Int} {L : List Int}
def upC (L l : List Int) (x : Int) (b : Nat) : Prop := ∀ j, j < b → rd l (j : Int) = x → freeP L l.length j = false
theorem upC_succ {l : List Int} {x : Int} {b : Nat} : upC L l x (b + 1) ↔ upC L l x b ∧ (rd l (b : Int) = x → freeP L l.length b = false) := ⟨fun h => ⟨fun j hj => h j (by omega), h b (by omega)⟩, fun h j hj => by
 by_cases e : j = b
 ·rw [e]; exact h.2
 ·exact h.1 j (by omega)⟩
theorem num_l1 (h : relP n L) (l : List Int) (hl : l.length < L.length) (w x : Nat) (R : List Int) (hR : Ev (fun k => impl_ChainNumbers_1.l1 k l (l.length : Int) (x : Int) (fitC L l (x : Int)) (w : Int) (x : Int) l (l.length : Int) (l.length : Int) n L (w : Int) (rel (freeP L) L.length)) R) (d : Nat) :
  ∀ (b : Nat) (f : Bool), b + d = l.length → (f = true ↔ upC L l (x : Int) b) → Ev (fun k => impl_ChainNumbers_1.l1 k l (l.length : Int) (x : Int) f (w : Int) (x : Int) l (l.length : Int) (b : Int) n L (w : Int) (rel (freeP L) L.length)) R := by
 have h10 : L.length ≤ 10 := by have := h.1; have := h.2.1; omega
 have hn := h.2.1
 have hlen : (rel (freeP L) L.length).length = L.length := rel_length _ _
 have hset := rel_set (p := freeP L) (n := L.length) h10 hl
 induction d with
 | zero =>
  intro b f hb hf
  obtain rfl : b = l.length := by omega
  have : f = fitC L l (x : Int) := by rw [Bool.eq_iff_iff, hf, fitC_iff]; exact Iff.rfl
  rw [this]; exact hR
 | succ d ih =>
  intro b f hb hf
  have hbl : b < l.length := by omega
  refine Ev.shift ?_
  simp only [impl_ChainNumbers_1.l1]
  rw [wrap64_id (x := (b : Int) + 1) (by omega) (by omega), cast1, shr0_bit hset.1 hset.2 (show b < 10 by omega)]
  refine Ev.pos (by omega) (Ev.pos (by omega) (Ev.pos (by omega) ?_))
  by_cases hft : f = true
  ·have hf2 := hf.1 hft
   refine Ev.pos hft ?_
   by_cases hc : rd l (b : Int) = (x : Int)
   ·refine Ev.pos hc (Ev.pos (by omega) (Ev.pos (by omega) (ih (b + 1) _ (by omega) ?_)))
    have := rel_lt (p := freeP L) h10 hl b
    rw [show bit (rd (rel (freeP L) L.length) (l.length : Int)) b = (decide (b < L.length) && freeP L l.length b) from this, decide_eq_true (show b < L.length by omega), Bool.true_and, Bool.not_eq_true', upC_succ]
    exact ⟨fun e => ⟨hf2, fun _ => e⟩, fun e => e.2 hc⟩
   ·refine Ev.neg hc (ih (b + 1) true (by omega) ?_)
    rw [upC_succ]
    exact ⟨fun _ => ⟨hf2, fun e => absurd e hc⟩, fun _ => rfl⟩
  ·refine Ev.neg hft (ih (b + 1) false (by omega) ?_)
   rw [upC_succ]
   exact ⟨fun e => (by cases e), fun e => absurd (hf.2 e.1) hft⟩
theorem num_l0 (h : relP n L) (l : List Int) (hl : l.length < L.length) (w : Nat) (hw : w ≤ 1000) (g : Nat)
  (hg : ∀ x : Nat, x < w → Ev (fun k => impl_ChainNumbers_1.f k (l ++ [(x : Int)]) n L (w : Int) (rel (freeP L) L.length)) ((findP (fitC L) w g (l ++ [(x : Int)])).getD [])) (d : Nat) : ∀ x : Nat, x + d = w → Ev (fun k => impl_ChainNumbers_1.l0 k l (l.length : Int) (w : Int) (x : Int) n L (w : Int) (rel (freeP L) L.length)) ((((List.range w).drop x).findSome? fun y : Nat => if fitC L l (y : Int) = true then findP (fitC L) w g (l ++ [(y : Int)]) else none).getD []) := by
 have h10 : L.length ≤ 10 := by have := h.1; have := h.2.1; omega
 induction d with
 | zero =>
  intro x hxd
  refine Ev.shift ?_
  simp only [impl_ChainNumbers_1.l0]
  refine Ev.neg (by omega) (Ev.ret ?_)
  rw [List.drop_of_length_le (by simp; omega)]; rfl
 | succ d ih =>
  intro x hxd
  have hxl : x < w := by omega
  have hnext := ih (x + 1) (by omega)
  have hend : Ev (fun k => impl_ChainNumbers_1.l1 k l (l.length : Int) (x : Int) (fitC L l (x : Int)) (w : Int) (x : Int) l (l.length : Int) (l.length : Int) n L (w : Int) (rel (freeP L) L.length)) ((((List.range w).drop x).findSome? fun y : Nat => if fitC L l (y : Int) = true then findP (fitC L) w g (l ++ [(y : Int)]) else none).getD []) := by
   rw [drop_range hxl, List.findSome?_cons]
   refine Ev.shift ?_
   simp only [impl_ChainNumbers_1.l1]
   rw [wrap64_id (x := (x : Int) + 1) (by omega) (by omega), cast1]
   refine Ev.neg (by omega) ?_
   by_cases hft : fitC L l (x : Int) = true
   ·rw [if_pos hft]
    have hcl : slices_Clone_int_int.f l = some l := by unfold slices_Clone_int_int.f; rw [if_pos (by omega)]
    refine Ev.pos hft (Ev.bindc hcl (Ev.bindc rfl (Ev.pos (by simp; omega) (Ev.bind (hg x hxl) ?_))))
    cases hfd : findP (fitC L) w g (l ++ [(x : Int)]) with
    | none => exact Ev.pos rfl hnext
    | some r =>
     obtain ⟨s, hs, _⟩ := findP_sound _ _ _ hfd
     refine Ev.neg ?_ (Ev.ret rfl)
     show ¬ r = []
     rw [hs]; simp
   ·rw [if_neg hft]
    exact Ev.neg hft hnext
  refine Ev.shift ?_
  simp only [impl_ChainNumbers_1.l0]
  refine Ev.pos (by omega) ?_
  have hgo := num_l1 h l hl w x _ hend l.length 0 true (by omega) ⟨fun _ j hj => by omega, fun _ => rfl⟩
  have e0 : ((0 : Nat) : Int) = 0 := rfl
  simp only [e0] at hgo
  exact hgo
theorem num_f (h : relP n L) (w : Nat) (hw : w ≤ 1000) (g : Nat) : ∀ (l : List Int), l.length + g = L.length → Ev (fun k => impl_ChainNumbers_1.f k l n L (w : Int) (rel (freeP L) L.length)) ((findP (fitC L) w g l).getD []) := by
 have hn := h.2.1
 induction g with
 | zero =>
  intro l hl
  refine Ev.shift ?_
  simp only [impl_ChainNumbers_1.f]
  exact Ev.pos (by omega) (Ev.ret rfl)
 | succ g ih =>
  intro l hl
  refine Ev.shift ?_
  simp only [impl_ChainNumbers_1.f]
  refine Ev.neg (by omega) ?_
  have := num_l0 h l (by omega) w hw g (fun x hxl => ih (l ++ [(x : Int)]) (by simp; omega)) w 0 (by omega)
  rw [List.drop_zero] at this
  exact this
theorem snum_l1 (h : relP n L) (l : List Int) (hl : l.length < L.length) (w x : Nat) (R : List Int × Bool) (hR : Ev (fun k => spec_orNumbers.l1 k l (w : Int) (l.length : Int) (x : Int) (fitC L l (x : Int)) l (l.length : Int) (l.length : Int) n L) R) (d : Nat) :
  ∀ (b : Nat) (f : Bool), b + d = l.length → (f = true ↔ upC L l (x : Int) b) → Ev (fun k => spec_orNumbers.l1 k l (w : Int) (l.length : Int) (x : Int) f l (l.length : Int) (b : Int) n L) R := by
 have h10 : L.length ≤ 10 := by have := h.1; have := h.2.1; omega
 have hr := rowf_bits (freeP L l.length) L.length h10
 induction d with
 | zero =>
  intro b f hb hf
  obtain rfl : b = l.length := by omega
  have : f = fitC L l (x : Int) := by rw [Bool.eq_iff_iff, hf, fitC_iff]; exact Iff.rfl
  rw [this]; exact hR
 | succ d ih =>
  intro b f hb hf
  have hbl : b < l.length := by omega
  refine Ev.shift ?_
  simp only [spec_orNumbers.l1]
  rw [wrap64_id (x := (b : Int) + 1) (by omega) (by omega), cast1]
  refine Ev.pos (by omega) (Ev.pos (by omega) (Ev.pos (by omega) ?_))
  by_cases hft : f = true
  ·have hf2 := hf.1 hft
   refine Ev.pos hft ?_
   by_cases hc : rd l (b : Int) = (x : Int)
   ·refine Ev.pos hc (Ev.bind (free_ev h hl) (Ev.bindc (orHas_f hr.1.1 hr.1.2 (show b < 10 by omega)) (ih (b + 1) _ (by omega) ?_)))
    rw [hr.2, decide_eq_true (show b < L.length by omega), Bool.true_and, Bool.not_eq_true', upC_succ]
    exact ⟨fun e => ⟨hf2, fun _ => e⟩, fun e => e.2 hc⟩
   ·refine Ev.neg hc (ih (b + 1) true (by omega) ?_)
    rw [upC_succ]
    exact ⟨fun _ => ⟨hf2, fun e => absurd e hc⟩, fun _ => rfl⟩
  ·refine Ev.neg hft (ih (b + 1) false (by omega) ?_)
   rw [upC_succ]
   exact ⟨fun e => (by cases e), fun e => absurd (hf.2 e.1) hft⟩
theorem snum_l0 (h : relP n L) (l : List Int) (hl : l.length < L.length) (w : Nat) (hw : w ≤ 1000) (g : Nat)
  (hg : ∀ x : Nat, x < w → Ev (fun k => spec_orNumbers.f k n L (l ++ [(x : Int)]) (w : Int)) (resP (findP (fitC L) w g (l ++ [(x : Int)])))) (d : Nat) : ∀ x : Nat, x + d = w → Ev (fun k => spec_orNumbers.l0 k l (w : Int) (l.length : Int) (x : Int) n L) (resP (((List.range w).drop x).findSome? fun y : Nat => if fitC L l (y : Int) = true then findP (fitC L) w g (l ++ [(y : Int)]) else none)) := by
 have h10 : L.length ≤ 10 := by have := h.1; have := h.2.1; omega
 induction d with
 | zero =>
  intro x hxd
  refine Ev.shift ?_
  simp only [spec_orNumbers.l0]
  refine Ev.neg (by omega) (Ev.ret ?_)
  rw [List.drop_of_length_le (by simp; omega)]; rfl
 | succ d ih =>
  intro x hxd
  have hxl : x < w := by omega
  have hnext := ih (x + 1) (by omega)
  have hend : Ev (fun k => spec_orNumbers.l1 k l (w : Int) (l.length : Int) (x : Int) (fitC L l (x : Int)) l (l.length : Int) (l.length : Int) n L) (resP (((List.range w).drop x).findSome? fun y : Nat => if fitC L l (y : Int) = true then findP (fitC L) w g (l ++ [(y : Int)]) else none)) := by
   rw [drop_range hxl, List.findSome?_cons]
   refine Ev.shift ?_
   simp only [spec_orNumbers.l1]
   rw [wrap64_id (x := (x : Int) + 1) (by omega) (by omega), cast1]
   refine Ev.neg (by omega) ?_
   by_cases hft : fitC L l (x : Int) = true
   ·rw [if_pos hft]
    have ho : spec_l1Own.f l = some l := by
     unfold spec_l1Own.f
     rw [Option.bind_some, if_pos (by simp; omega)]; simp
    refine Ev.pos hft (Ev.bindc ho (Ev.bindc rfl (Ev.pos (by simp; omega) (Ev.bind (hg x hxl) ?_))))
    cases hfd : findP (fitC L) w g (l ++ [(x : Int)]) with
    | none => exact Ev.neg (by simp [resP]) hnext
    | some r => exact Ev.pos rfl (Ev.ret rfl)
   ·rw [if_neg hft]
    exact Ev.neg hft hnext
  refine Ev.shift ?_
  simp only [spec_orNumbers.l0]
  refine Ev.pos (by omega) ?_
  have hgo := snum_l1 h l hl w x _ hend l.length 0 true (by omega) ⟨fun _ j hj => by omega, fun _ => rfl⟩
  have e0 : ((0 : Nat) : Int) = 0 := rfl
  simp only [e0] at hgo
  exact hgo
theorem snum_f (h : relP n L) (w : Nat) (hw : w ≤ 1000) (g : Nat) : ∀ (l : List Int), l.length + g = L.length → Ev (fun k => spec_orNumbers.f k n L l (w : Int)) (resP (findP (fitC L) w g l)) := by
 have hn := h.2.1
 induction g with
 | zero =>
  intro l hl
  refine Ev.shift ?_
  simp only [spec_orNumbers.f]
  exact Ev.pos (by omega) (Ev.ret rfl)
 | succ g ih =>
  intro l hl
  refine Ev.shift ?_
  simp only [spec_orNumbers.f]
  refine Ev.neg (by omega) ?_
  have := snum_l0 h l (by omega) w hw g (fun x hxl => ih (l ++ [(x : Int)]) (by simp; omega)) w 0 (by omega)
  rw [List.drop_zero] at this
  exact this
theorem num_ex (h : orderP n L) {y : List Int} (hy : ∀ t, AL L (full n) t → t.length ≤ y.length) : ∃ r, findP (fitC L) y.length L.length [] = some r := by
 have h10 : L.length ≤ 10 := by have := h.1.1; have := h.1.2.1; omega
 have hf := set_full (n := L.length) h10
 rw [h.1.2.1] at hf
 obtain ⟨f, f1, f2⟩ := dilworth (lt := fun i j => i < L.length ∧ j < L.length ∧ lt L i j = true) (fun x e => by
  have := h.irr e.1
  rw [this] at e; exact Bool.false_ne_true e.2.2) (fun x y z a b => ⟨a.1, b.2.1, h.trans a.1 a.2.2 b.2.2⟩) (List.range L.length).length (List.range L.length) (Nat.le_refl _) y.length (fun A hA => by
  have h1 := nodup_le A ((List.range L.length).filter fun m => decide (m ∈ A)) hA.1 (fun m hm => List.mem_filter.2 ⟨hA.2.1 m hm, by simpa using hm⟩)
  have h2 := hy (((List.range L.length).filter fun m => decide (m ∈ A)).map fun (m : Nat) => (m : Int)) ⟨?_, ?_, ?_⟩
  ·rw [List.length_map] at h2; omega
  ·exact List.pairwise_map.2 (List.Pairwise.imp (fun hab => by omega) (List.Pairwise.filter _ List.pairwise_lt_range))
  ·intro x hx
   obtain ⟨m, hm, rfl⟩ := List.mem_map.1 hx
   have := List.mem_range.1 (List.mem_filter.1 hm).1
   exact mem_bitsOf.2 ⟨m, by omega, by rw [hf.2]; simpa using this, rfl⟩
  ·refine List.pairwise_map.2 (List.Pairwise.imp_of_mem ?_ (List.Pairwise.filter _ List.pairwise_lt_range))
   intro a b ha hb hab
   have a1 := List.mem_range.1 (List.mem_filter.1 ha).1
   have b1 := List.mem_range.1 (List.mem_filter.1 hb).1
   have a2 : a ∈ A := by simpa using (List.mem_filter.1 ha).2
   have b2 : b ∈ A := by simpa using (List.mem_filter.1 hb).2
   have c1 := hA.2.2 a a2 b b2
   have c2 := hA.2.2 b b2 a a2
   simp only [Int.toNat_natCast]
   unfold freeP
   cases e1 : lt L a b
   ·cases e2 : lt L b a
    ·simp; omega
    ·exact absurd ⟨b1, a1, e2⟩ c2
   ·exact absurd ⟨a1, b1, e1⟩ c1)
 have hl : ((List.range L.length).map fun m => ((f m : Nat) : Int)).length = L.length := by simp
 have hrd : ∀ a, a < L.length → rd ((List.range L.length).map fun m => ((f m : Nat) : Int)) (a : Int) = (f a : Nat) := fun a ha => by
  rw [rd_lt _ a (by omega)]; simp
 have := findP_complete (fits := fitC L) (n := y.length) _ [] ((List.range L.length).map fun m => ((f m : Nat) : Int)) hl (fun x hx => by
  obtain ⟨m, hm, rfl⟩ := List.mem_map.1 hx
  have := f1 m hm
  omega) ((okS_C _ _ (okC_nil L)).2 (fun i j hji hi e => by
   rw [List.nil_append] at hi e
   rw [hl] at hi
   rw [hrd i hi, hrd j (by omega)] at e
   rcases f2 i (List.mem_range.2 hi) j (List.mem_range.2 (by omega)) (by omega) with g | g | g
   ·omega
   ·unfold freeP; rw [g.2.2]; rfl
   ·unfold freeP; rw [g.2.2]; simp))
 exact this
theorem num_both (h : orderP n L) {y : List Int} (hy10 : y.length ≤ 10) (hy : ∀ t, AL L (full n) t → t.length ≤ y.length) : ∃ r, Ev (fun k => impl_ChainNumbers_1.f k [] n L (y.length : Int) (rel (freeP L) L.length)) r ∧ Ev (fun k => spec_orNumbers.f k n L [] (y.length : Int)) (r, true) ∧ r.length = L.length ∧ (∀ x ∈ r, 0 ≤ x ∧ x < (y.length : Int)) ∧ okC L r := by
 obtain ⟨r, hr⟩ := num_ex h hy
 have e1 := num_f h.1 y.length (by omega) L.length [] (by simp)
 have e2 := snum_f h.1 y.length (by omega) L.length [] (by simp)
 rw [hr] at e1 e2
 obtain ⟨s, s1, s2, s3, s4⟩ := findP_sound _ _ _ hr
 rw [List.nil_append] at s1
 subst s1
 exact ⟨r, e1, e2, s2, s3, by simpa using (okS_C r [] (okC_nil L)).1 s4⟩
end
end Go.Proofs.YtpphkeijklffgaaDoor.Pure
