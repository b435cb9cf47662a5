import Derived.Test.YtfpicdkanmgdoaaDoorBFnLevelRanks3
namespace Go.Proofs.YtfpicdkanmgdoaaDoor.Q
open Go.RowKit Go.Proofs.YtfpicdkanmgdoaaDoorW.PrintWords Go.Proofs.YtfpicdkanmgdoaaDoorW.PrintLast Go.Proofs.YtfpicdkanmgdoaaDoorW.PrintMore
attribute [local go_sem] max2_int min2_int max_two min_two max_three min_three max_four min_four neB_f
set_option linter.unusedVariables false
set_option maxHeartbeats 8000000
set_option maxRecDepth 100000
set_option linter.unusedSimpArgs false
namespace All
def AppAt (W w1 : World) (v v1 : Value) (n : Nat) : Prop := (∃ g cap, v = .slice (some ⟨g, 0, none⟩) n cap ∧ v1 = .slice (some ⟨g, 0, none⟩) (n + 1) cap) ∨ ((∃ b, v1.ownBlock = some b ∧ W.heap.size ≤ b) ∧ ∀ k, k < W.heap.size → w1.heap[k]? = W.heap[k]?)
section
variable {P : Program} {ops : Array Oper} {o : Oper} {a : Act} {Q : Exit → Act → World → Prop} {K : Act → World → Prop}
theorem app_step {base : Nat} {W : World} (hw : Region.wanted o (yielded ops a.tmps) = true) (s x : Operand) (t e : TypeId) (z : Value) (bytes : Nat)
  (ho : o.op = .call { callee := .builtin .append, args := #[s, x], argTypes := #[t, t] })
  (ht : P.underlying t = some (.slice e)) (hinfo : (P.info? e).map (fun i => (i.zero, i.size, i.bytes)) = some (some z, 1, bytes)) (hz : z.cells.size = 1) (hb0 : 0 < bytes)
  (v : Value) (n : Nat) (xs : List Value) (y : Value) (hs : a.eval s = v) (hx : a.eval x = .slice (some ⟨W.heap.size, 0, none⟩) 1 1) (h1 : y.oneCell' = true)
  (HO : W.ownsRow base e 1 v n xs) (hbase : base ≤ W.heap.size) (hl : (n + 1) * bytes ≤ 140737488355328)
  (h : ∀ v1 w1, w1.ownsRow base e 1 v1 (n + 1) (xs ++ [y]) → Below base W w1 → W.grownBy w1 v.ownBlock → AppAt W w1 v v1 n → K (a.put o.dst v1) w1) :
  if Region.wanted o (yielded ops a.tmps) = true then Oper.wp P o a (W.alloc (.cells #[y] e)) K Q else K (a.put o.dst undef) (W.alloc (.cells #[y] e)) := by
 obtain ⟨i0, hi, hzz⟩ := Option.map_eq_some_iff.1 hinfo
 simp only [Prod.mk.injEq] at hzz
 obtain ⟨hz0, hz1, hz2⟩ := hzz
 have hlen : n + 1 ≤ 140737488355328 := Nat.le_trans (Nat.le_mul_of_pos_right _ hb0) hl
 have hnews : ∀ j u, [y][j]? = some u → (W.alloc (.cells #[y] e)).cell? ((⟨W.heap.size, 0, none⟩ : Addr).add j) = some u := by
  simpa using World.news_of_block (cs := #[y]) (t := e) (fr := (0, 0)) (heap_alloc_new W (.cells #[y] e))
 have h1' : ∀ u ∈ [y], u.oneCell' = true := by simpa using h1
 have h63 : n + 1 ≤ maxLen := by simp only [maxLen]; omega
 rw [if_pos hw]
 obtain ⟨v1, w1, hr, hown, hg, _, hat⟩ := run_append_own_at (P := P) (W.alloc (.cells #[y] e)) base t o.type e i0 z 1 bytes ht hi hz0 hz1 hz2 hz (by omega) v n xs (HO.alloc _) ⟨W.heap.size, 0, none⟩ 1 1 [y] rfl
  hnews h1' h63 hl (by simp; omega)
 have hAt : AppAt W w1 v v1 n := by
  have hnew : v1.ownBlock = some (W.alloc (.cells #[y] e)).heap.size → ∃ b, v1.ownBlock = some b ∧ W.heap.size ≤ b := fun e => ⟨_, e, by simp⟩
  rcases (HO.alloc (.cells #[y] e)).2 with ⟨rfl, rfl⟩ | ⟨g, cap, cur, rfl, hbg, hgc, hnc, hcm, hcs, htake⟩
  ·refine .inr ⟨hnew ?_, fun k hk => ?_⟩
   ·rcases hat with hat | hat
    ·exfalso
     rcases hown.2 with ⟨_, h0⟩ | ⟨g, cap, cur, rfl, _⟩
     ·omega
     ·simp [Value.ownBlock] at hat
    ·exact hat
   ·rw [hg.block k (by simp; omega) (by simp [Value.ownBlock])]
    exact Below.heap_alloc W _ k hk
  ·by_cases hroom : n + 1 ≤ cap
   ·have hr2 := run_append_room (P := P) (W.alloc (.cells #[y] e)) t o.type e i0 ht hi g n cap cur hgc ⟨W.heap.size, 0, none⟩ 1 1 [y] (by rw [hz1]; rfl) hnews h1' hroom (by rw [hz1, hcs]; simp; omega)
    rw [hr] at hr2
    injection hr2 with e1 e2
    exact .inl ⟨g, cap, rfl, e1⟩
   ·have holds : ∀ j u, xs[j]? = some u → (W.alloc (.cells #[y] e)).cell? ((⟨g, 0, none⟩ : Addr).add j) = some u := (HO.alloc (.cells #[y] e)).cells (g := g) rfl
    have hr2 := run_append_grow (P := P) (W.alloc (.cells #[y] e)) t o.type e i0 z ht hi hz0 ⟨g, 0, none⟩ n cap xs (by rw [hz1]; exact HO.1) holds ⟨W.heap.size, 0, none⟩ 1 1 [y] (by rw [hz1]; rfl) hnews (by omega) (by simp only [maxLen] at h63; omega) (growslice_fits (by omega) (by rw [hz2]; exact hl))
    rw [hr] at hr2
    injection hr2 with e1 e2
    subst e1 e2
    refine .inr ⟨⟨_, rfl, by simp⟩, fun k hk => ?_⟩
    have hk1 : k < (W.alloc (.cells #[y] e)).heap.size := by simp; omega
    exact (Below.heap_alloc (W.alloc (.cells #[y] e)).drew _ k hk1).trans (Below.heap_alloc W _ k hk)
 unfold Oper.wp execOp
 simp only [ho, resolve, invoke, builtin, Sem.run_bind, Sem.run_pure, Result.andThen_ok, List.map_toArray, List.map_cons, List.map_nil, hs, hx, hr]
 exact h v1 w1 hown (((Below.refl base W).alloc hbase _).grown hg (by simp; omega) (own_base HO)) (World.grownBy.trans (World.grownBy_alloc W _ _) hg) hAt
end
theorem app_back {W W1 W2 : World} {v v1 : Value} {n base : Nat} {xs : List Value} {y : Value} {e : TypeId} (hA : AppAt W W1 v v1 n) (HO : W.ownsRow base e 1 v n xs)
  (hk : ∀ k, v.ownBlock = some k → v1.ownBlock ≠ some k → W2.heap[k]? = W1.heap[k]?) (H1 : W2.ownsRow base e 1 v1 (n + 1) (xs ++ [y])) : W2.ownsRow base e 1 v n xs := by
 rcases hA with ⟨g, cap, rfl, rfl⟩ | ⟨⟨b, hb, hle⟩, hold⟩
 ·obtain ⟨h1, ⟨h2, _⟩ | ⟨g', cap', cur, h2, h3, h4, h5, h6, h7, h8⟩⟩ := H1
  ·cases h2
  ·simp only [Value.slice.injEq, Option.some.injEq, Addr.mk.injEq] at h2
   obtain ⟨⟨rfl, _⟩, _, rfl⟩ := h2
   have hx := HO.1
   refine ⟨hx, .inr ⟨g, cap, cur, rfl, h3, h4, by omega, h6, h7, ?_⟩⟩
   have h9 : (cur.toList.take ((n + 1) * 1)).take (n * 1) = (xs ++ [y]).take (n * 1) := by rw [h8]
   rw [List.take_take, Nat.min_eq_left (by omega)] at h9
   rw [h9, ← hx, List.take_left]
 ·refine own_move HO (fun k hk2 => ?_)
  have hlt := own_lt HO k hk2
  rw [hk k hk2 (by rw [hb]; intro e; injection e with e; omega), hold k hlt]
def fillR (lv : List Int → Bool) (n : Nat) : Nat → List Int → List (List Int)
 | 0, l => if lv l = true then [l] else []
 | m + 1, l => (List.range n).flatMap fun j : Nat => fillR lv n m (l ++ [(j : Int)])
def fillTo (lv : List Int → Bool) (n m : Nat) (l : List Int) (i : Nat) : List (List Int) := (List.range i).flatMap fun j : Nat => fillR lv n m (l ++ [(j : Int)])
theorem fillTo_succ (lv : List Int → Bool) (n m : Nat) (l : List Int) (i : Nat) : fillTo lv n m l (i + 1) = fillTo lv n m l i ++ fillR lv n m (l ++ [(i : Int)]) := by simp [fillTo, List.range_succ]
theorem fillR_len (lv : List Int → Bool) (n : Nat) : ∀ m l, (fillR lv n m l).length ≤ n ^ m
 | 0, l => by unfold fillR; split <;> simp
 | m + 1, l => by
  have : ∀ i, (fillTo lv n m l i).length ≤ i * n ^ m := by
   intro i
   induction i with
   | zero => simp [fillTo]
   | succ i ih => rw [fillTo_succ, List.length_append, Nat.add_mul, Nat.one_mul]; have := fillR_len lv n m (l ++ [(i : Int)]); omega
  rw [Nat.pow_succ, Nat.mul_comm]
  exact this n
theorem fillTo_len (lv : List Int → Bool) (n m : Nat) (l : List Int) (i : Nat) : (fillTo lv n m l i).length ≤ i * n ^ m := by
 induction i with
 | zero => simp [fillTo]
 | succ i ih => rw [fillTo_succ, List.length_append, Nat.add_mul, Nat.one_mul]; have := fillR_len lv n m (l ++ [(i : Int)]); omega
def fillOk (g : List Int → Option Bool) (n : Nat) : Nat → List Int → Bool
 | 0, l => (g l).isSome
 | m + 1, l => (List.range n).all fun j : Nat => fillOk g n m (l ++ [(j : Int)])
theorem fillOk_told {g : List Int → Option Bool} {n : Nat} : ∀ (m : Nat) (l : List Int), fillOk g n m l = true → ∀ s : List Int, s.length = m → (∀ x ∈ s, 0 ≤ x ∧ x < n) → g (l ++ s) = some (g (l ++ s) == some true)
 | 0, l, h, s, hs, _ => by
  rw [List.eq_nil_of_length_eq_zero hs, List.append_nil]
  unfold fillOk at h
  rcases hg : g l with _ | _ | _
  ·rw [hg] at h; cases h
  ·rfl
  ·rfl
 | m + 1, l, h, [], hs, _ => by cases hs
 | m + 1, l, h, x :: s, hs, hx => by
  unfold fillOk at h
  have h0 := hx x List.mem_cons_self
  have h1 := List.all_eq_true.1 h x.toNat (List.mem_range.2 (by omega))
  rw [show ((x.toNat : Nat) : Int) = x by omega] at h1
  have h2 := fillOk_told m (l ++ [x]) h1 s (by simpa using hs) (fun y hy => hx y (List.mem_cons_of_mem _ hy))
  simpa using h2
theorem fillOk_mono {g g' : List Int → Option Bool} (hg : ∀ l, LeO (g l) (g' l)) {n : Nat} : ∀ (m : Nat) (l : List Int), fillOk g n m l = true → fillOk g' n m l = true ∧ fillR (fun l => g' l == some true) n m l = fillR (fun l => g l == some true) n m l
 | 0, l, h => by
  unfold fillOk at h ⊢
  obtain ⟨b, hb⟩ := Option.isSome_iff_exists.1 h
  have h2 := hg l b hb
  unfold fillR
  rw [h2, hb]
  exact ⟨rfl, rfl⟩
 | m + 1, l, h => by
  unfold fillOk at h ⊢
  have h1 := List.all_eq_true.1 h
  refine ⟨List.all_eq_true.2 (fun j hj => (fillOk_mono hg m _ (h1 j hj)).1), ?_⟩
  unfold fillR
  have : ∀ (ys : List Nat), (∀ j ∈ ys, j ∈ List.range n) → ys.flatMap (fun j : Nat => fillR (fun l => g' l == some true) n m (l ++ [(j : Int)])) = ys.flatMap (fun j : Nat => fillR (fun l => g l == some true) n m (l ++ [(j : Int)])) := by
   intro ys
   induction ys with
   | nil => intro _; rfl
   | cons y ys ih =>
    intro hy
    rw [List.flatMap_cons, List.flatMap_cons, (fillOk_mono hg m _ (h1 y (hy y List.mem_cons_self))).2, ih (fun j hj => hy j (List.mem_cons_of_mem _ hj))]
  exact this _ (fun j hj => hj)
end All
open All
def impl_allLevels.f (k : Nat) (a0 : Int) : Option (List (List Int)) :=
 if 0 ≤ a0 ∧ a0 ≤ 6 ∧ fillOk (impl_AreLevels.f k) a0.toNat a0.toNat [] = true then some (fillR (fun l => impl_AreLevels.f k l == some true) a0.toNat a0.toNat []) else none
theorem impl_allLevels.mono : ∀ a0 k, LeO (impl_allLevels.f k a0) (impl_allLevels.f (k + 1) a0) := by
 intro a0 k r h
 unfold impl_allLevels.f at h ⊢
 split at h
 ·rename_i hc
  have h1 := fillOk_mono (fun l => impl_AreLevels.mono l k) a0.toNat [] hc.2.2
  rw [if_pos ⟨hc.1, hc.2.1, h1.1⟩, h1.2]
  exact h
 ·cases h
namespace All
def FV (bn bo bf : Nat) : Value := .func (.func 43) #[] #[.pointer (some ⟨bn, 0, none⟩), .pointer (some ⟨bo, 0, none⟩), .pointer (some ⟨bf, 0, none⟩)]
structure FI (w0 : World) (s1 : Nat) (n : Int) (bn bo bf : Nat) (ok : Nat → Prop) (lv : Value) (l : List Int) (W : World) (vo : Value) (xs : List (List Int)) : Prop where
 hn : W.heap[bn]? = some (.cells #[.int .i64 n] 3 (0, 0))
 ho : W.heap[bo]? = some (.cells #[vo] 48 (0, 0))
 hf : W.heap[bf]? = some (.cells #[FV bn bo bf] 58 (0, 0))
 own : W.ownsRow s1 3 1 lv l.length (encs (Value.int .i64) l)
 row : Kd.S (Kd.slice 3 (Kd.int .i64)) 26 W w0.heap.size (fun k => ok k ∧ some k ≠ lv.ownBlock) vo xs
 below : Below w0.heap.size w0 W
 fresh : ∀ k, W.heap.size ≤ k → ok k
 sz : s1 ≤ W.heap.size
 ln : bn < s1
 lo : bo < s1
 lf : bf < s1
 ge : w0.heap.size ≤ bo
 ge1 : w0.heap.size ≤ s1
 okb : ∀ k, ok k → k ≠ bn ∧ k ≠ bo ∧ k ≠ bf
section
variable {w0 W W' W1 : World} {s1 bn bo bf : Nat} {n : Int} {ok : Nat → Prop} {lv lv1 vo vo1 vo2 : Value} {l : List Int} {xs : List (List Int)}
theorem FI.step (h : FI w0 s1 n bn bo bf ok lv l W vo xs) (hb : Below W.heap.size W W') : FI w0 s1 n bn bo bf ok lv l W' vo xs :=
 ⟨blk_below h.hn hb, blk_below h.ho hb, blk_below h.hf hb, own_move h.own (fun k hk => hb.block k (own_lt h.own k hk)), Kd.S_below h.row hb, below_step h.below hb, fun k hk => h.fresh k (Nat.le_trans hb.size hk), Nat.le_trans h.sz hb.size, h.ln, h.lo, h.lf, h.ge, h.ge1, h.okb⟩
theorem FI.R (h : FI w0 s1 n bn bo bf ok lv l W vo xs) : Kd.R (Kd.int .i64) 3 W s1 (fun _ => True) lv l := Kd.R_of_own h.own (fun _ _ => trivial)
def Fr (bo : Nat) (lv vo vo' : Value) (W W' : World) : Prop := W.heap.size ≤ W'.heap.size ∧ (∀ k, k < W.heap.size → k ≠ bo → some k ≠ lv.ownBlock → some k ≠ vo.ownBlock → W'.heap[k]? = W.heap[k]?) ∧ (vo'.ownBlock = vo.ownBlock ∨ ∃ b, vo'.ownBlock = some b ∧ W.heap.size ≤ b)
theorem Fr.refl (bo : Nat) (lv vo : Value) (W : World) : Fr bo lv vo vo W W := ⟨Nat.le_refl _, fun _ _ _ _ _ => rfl, .inl rfl⟩
theorem Fr.trans (h1 : Fr bo lv vo vo1 W W1) (h2 : Fr bo lv vo1 vo2 W1 W') : Fr bo lv vo vo2 W W' := by
 obtain ⟨a1, a2, a3⟩ := h1
 obtain ⟨b1, b2, b3⟩ := h2
 refine ⟨Nat.le_trans a1 b1, fun k hk h1 h2 h3 => ?_, ?_⟩
 ·rw [b2 k (by omega) h1 h2 ?_, a2 k hk h1 h2 h3]
  rcases a3 with a3 | ⟨b, a3, a4⟩
  ·rw [a3]; exact h3
  ·rw [a3]; intro e; injection e with e; omega
 ·rcases b3 with b3 | ⟨b, b3, b4⟩
  ·rw [b3]; exact a3
  ·exact .inr ⟨b, b3, by omega⟩
theorem Fr.below (hb : Below W.heap.size W W') : Fr bo lv vo vo W W' := ⟨hb.size, fun k hk _ _ _ => hb.block k hk, .inl rfl⟩
end
section
variable {w0 W W' W1 : World} {s1 bn bo bf : Nat} {n : Int} {ok : Nat → Prop} {lv lv1 vo vo1 v1 : Value} {l : List Int} {xs ys : List (List Int)}
theorem FI.put (h : FI w0 s1 n bn bo bf ok lv l W vo xs) (hg : W.grownBy W1 vo.ownBlock) (hr : Kd.S (Kd.slice 3 (Kd.int .i64)) 26 W1 w0.heap.size (fun k => ok k ∧ some k ≠ lv.ownBlock) v1 ys)
  (hat : v1.ownBlock = vo.ownBlock ∨ ∃ b, v1.ownBlock = some b ∧ W.heap.size ≤ b) : FI w0 s1 n bn bo bf ok lv l (W1.setCell ⟨bo, 0, none⟩ v1) v1 ys ∧ Fr bo lv vo v1 W (W1.setCell ⟨bo, 0, none⟩ v1) := by
 have hlow : ∀ g, g = bn ∨ g = bo ∨ g = bf → some g ≠ vo.ownBlock := fun g hg2 e => by
  obtain ⟨h1, h2, h3⟩ := h.okb g ((Kd.S_R h.row).1 g e.symm).1
  rcases hg2 with h4 | h4 | h4
  ·exact h1 h4
  ·exact h2 h4
  ·exact h3 h4
 have hvl : ∀ k, lv.ownBlock = some k → some k ≠ vo.ownBlock := fun k hk e => (Kd.S_R h.row).1 k e.symm |>.2 hk.symm
 have hbs : ∀ g, g = bn ∨ g = bo ∨ g = bf → W1.heap[g]? = W.heap[g]? := fun g hg2 => hg.block g (by have := h.sz; have := h.ln; have := h.lo; have := h.lf; omega) (hlow g hg2)
 have hs : Below 0 W1 (W1.setCell ⟨bo, 0, none⟩ v1) := (Below.refl 0 W1).setCell (Nat.zero_le _) v1
 have hsize := hs.size
 have hfar : ∀ k, k ≠ bo → (W1.setCell ⟨bo, 0, none⟩ v1).heap[k]? = W1.heap[k]? := fun k hk => Below.heap_setCell W1 ⟨bo, 0, none⟩ v1 k hk
 have hob : bn ≠ bo := blk_ne h.hn h.ho (by decide)
 have hofb : bf ≠ bo := blk_ne h.hf h.ho (by decide)
 refine ⟨⟨(hfar bn hob).trans ((hbs bn (.inl rfl)).trans h.hn), ?_, (hfar bf hofb).trans ((hbs bf (.inr (.inr rfl))).trans h.hf), ?_, ?_, ?_, ?_, ?_, h.ln, h.lo, h.lf, h.ge, h.ge1, h.okb⟩, ?_, ?_, hat⟩
 ·exact blk_put ((hbs bo (.inr (.inl rfl))).trans h.ho) 0 v1 rfl
 ·refine own_move h.own (fun k hk => ?_)
  have hk1 := own_base h.own k hk
  rw [hfar k (by have := h.lo; omega)]
  exact hg.block k (own_lt h.own k hk) (hvl k hk)
 ·refine Kd.S_mono (Kd.S_step (Kd.S_bound hr) (fun k hk _ => hfar k (h.okb k hk.1.1).2.1)) (fun k hk => hk.1)
 ·refine ⟨?_, ?_, ?_, ?_, fun k hk => ?_⟩
  ·exact hs.os.trans (hg.os.trans h.below.os)
  ·exact hs.tape.trans (hg.tape.trans h.below.tape)
  ·exact hs.output.trans (hg.output.trans h.below.output)
  ·have := h.below.size; have := hg.size; omega
  ·rw [hfar k (by have := h.ge; omega), hg.block k (by have := h.below.size; omega) (fun e => by have := Kd.S_base h.row k e.symm; omega)]
   exact h.below.block k hk
 ·intro k hk; exact h.fresh k (by have := hg.size; omega)
 ·have := h.sz; have := hg.size; omega
 ·have := hg.size; omega
 ·intro k hk h1 h2 h3
  rw [hfar k h1]
  exact hg.block k hk h3
end
theorem fill_leaf (k : Nat) (b : Bool) (w0 : World) (s1 : Nat) (n : Int) (bn bo bf : Nat) (ok : Nat → Prop) (A : Option Addr) (c : Nat) (l : List Int) (w : World) (vo : Value) (xs : List (List Int))
  (hI : FI w0 s1 n bn bo bf ok (.slice A l.length c) l w vo xs) (hl : (l.length : Int) = n) (hA : impl_AreLevels.f k l = some b) (hx : xs.length < 1000000) (hll : l.length < 1000) :
  Calls Tryd.prog 43 #[.slice A l.length c, .pointer (some ⟨bn, 0, none⟩), .pointer (some ⟨bo, 0, none⟩), .pointer (some ⟨bf, 0, none⟩)] w fun e w' => e = .returned (.tuple #[]) ∧ ∃ vo', FI w0 s1 n bn bo bf ok (.slice A l.length c) l w' vo' (if b = true then xs ++ [l] else xs) ∧ Fr bo (.slice A l.length c) vo vo' w w' := by
 have c0 : ((l.length : Int) == n) = true := beq_iff_eq.mpr hl
 have HI := mkA hI
 have HR := mkA (Kd.R_reads' hI.R)
 have hcn : w.cell? ⟨bn, 0, none⟩ = some (.int .i64 n) := (blk_cell hI.hn 0).trans rfl
 have hfn := blk_frozen hI.hn 0
 have HLL := mkA hll
 clear hI hl hll
 have HX := mkA hx
 clear hx
 have HB := mkA (Below.refl w.heap.size w)
 cases b with
 | false =>
  go_enter Tryd.func43, Tryd.ntmps43
  go_wp2_with (first | ((with_reducible refine gate_callee (f := 29) rfl ?_); refine goesL_ (some 11) rfl rfl Tryd.func29 (by kernel_rfl) rfl #[.slice A l.length c] rfl (by (try simp only [List.map_toArray, List.map_cons, List.map_nil]); first | done | rfl) ?_; (with_reducible refine (impl_AreLevels.calls k _ _ l false _ ?s1 ?s2 hA).mono ?_); (case s1 => repeat (first | exact HR.out.2.2 | (with_reducible refine Kd.C_alloc ?_ _) | (with_reducible refine Kd.C_drewN ?_ _) | (with_reducible refine Kd.C_drew ?_))); (case s2 => exact HR.out.2.1); rintro e w5 ⟨rfl, hb⟩; refine ⟨_, rfl, ?_⟩; have n1_ := bst HB hb; clear HB hb; have HB := n1_; clear n1_))
  first | go_end0 | ((try simp only [Exit.inBlock, Exit.then]); refine bodyPost_ret (results_none rfl _ _ _) rfl ?_)
  have hb : Below w.heap.size w _ := HB.out
  exact ⟨rfl, vo, HI.out.step hb, Fr.below hb⟩
 | true =>
  go_enter Tryd.func43, Tryd.ntmps43
  go_wp2_with (first | ((with_reducible refine gate_callee (f := 29) rfl ?_); refine goesL_ (some 11) rfl rfl Tryd.func29 (by kernel_rfl) rfl #[.slice A l.length c] rfl (by (try simp only [List.map_toArray, List.map_cons, List.map_nil]); first | done | rfl) ?_; (with_reducible refine (impl_AreLevels.calls k _ _ l true _ ?s1 ?s2 hA).mono ?_); (case s1 => repeat (first | exact HR.out.2.2 | (with_reducible refine Kd.C_alloc ?_ _) | (with_reducible refine Kd.C_drewN ?_ _) | (with_reducible refine Kd.C_drew ?_))); (case s2 => exact HR.out.2.1); rintro e w5 ⟨rfl, hb⟩; refine ⟨_, rfl, ?_⟩; have n1_ := bst HB hb; clear HB hb; have HB := n1_; clear n1_))
  have HI5 := mkA (HI.out.step (below_drew1 HB.out))
  have HF5 := mkA (Fr.below (bo := bo) (lv := .slice A l.length c) (vo := vo) (below_drew1 HB.out))
  clear HI HR hcn hfn
  refine start_ (n := 6) (S := fun w' => w'.cell? ⟨bo, 0, none⟩ = some vo) (ds := [5]) (bm 6 0) (by kernel_rfl) rfl rfl ((blk_cell HI5.out.ho 0).trans rfl) (fun hHeld => ?_)
  generalize w5.drew = w6 at HI5 HF5 hHeld ⊢
  clear HB
  refine pure_ (i := 1) (N := some 13) (v := ?_) (a' := ?_) (bm 6 2) rfl rfl (by kernel_rfl) (fun _ _ _ h => h) (Or.inl ⟨by rfl, ?_⟩) ?_ ?_
  rotate_left
  ·intro w'
   go_simp
   with_reducible rfl
  rotate_left
  ·simp only [Act.put, List.setIfInBounds_toArray, List.set_cons_zero, List.set_cons_succ, i64_w, i32_w]
   rfl
  refine take_ (i := 0) (N := some 12) (v := vo) (a' := ?_) (bm 6 3) rfl rfl (by kernel_rfl) (fun _ _ _ h => h) (Or.inl ⟨by rfl, ?_⟩) hHeld ?_ ?_
  ·intro w' s0
   go_simp
   done
  rotate_left
  ·simp only [Act.put, List.setIfInBounds_toArray, List.set_cons_zero, List.set_cons_succ, i64_w, i32_w]
   rfl
  refine one_ (i := 2) (N := some 14) (bm 6 7) rfl rfl (by kernel_rfl) (by decide) (fun K hK => ?_)
  refine goes_ Tryd.func44 (by kernel_rfl) rfl #[.slice A l.length c] (by rfl) rfl rfl (by (try simp only [List.map_toArray, List.map_cons, List.map_nil]); first | done | rfl) ?_
  refine (slices_Clone_int_int.calls _ _ l l _ (Kd.R_reads' HI5.out.R).2.2 (Kd.R_reads' HI5.out.R).2.1 (by unfold slices_Clone_int_int.f; rw [if_pos (by have := HLL.out; omega)])).mono ?_
  rintro e w7 ⟨v7, rfl, hr7, hb7⟩
  refine ⟨_, rfl, ?_⟩
  obtain ⟨A7, c7, rfl⟩ := Kd.R_slice hr7
  have HI7 := mkA (HI5.out.step hb7)
  have HF7 := mkA (Fr.trans HF5.out (Fr.below (bo := bo) (lv := .slice A l.length c) (vo := vo) hb7))
  have HE7 := mkA (Kd.S_elder' HI5.out.row (Kd.R_base hr7) hb7)
  have HR7 := mkA hr7
  have HBS := mkA (own_lt HI5.out.own)
  have HZ := mkA HI5.out.below.size
  have HFr := mkA HI5.out.fresh
  have HVL := mkA (Kd.S_lt HI5.out.row)
  clear hr7 hb7 HI5 HF5
  refine hK.out _ _ ((blk_cell HI7.out.ho 0).trans rfl) (fun hHeld => ?_)
  clear hK K
  refine normW 14 ?_
  refine one_ (i := 3) (N := some 15) (bm 6 15) rfl rfl (by kernel_rfl) (by decide) (fun K hK => ?_)
  refine value_ (w1 := ?_) (v := ?_) (by rfl) rfl ?_ ?_
  rotate_left 2
  ·go_simp
   constructor
   ·rfl
   ·rfl
  refine hK.out _ _ ((blk_cell (blk_alloc HI7.out.ho _) 0).trans rfl) (fun hHeld => ?_)
  clear hK K
  refine normW 15 ?_
  refine one_ (i := 4) (N := some 16) (bm 6 31) rfl rfl (by kernel_rfl) (by decide) (fun K hK => ?_)
  refine Kd.S_append_step (Kd.slice 3 (Kd.int .i64)) (w0 := w7) w0.heap.size (by rfl) (.tmp 12) (.tmp 15) 48 26 (.slice none 0 0) 24 (by rfl) Tryd.underlying48 info26 rfl (by decide) (by omega) vo xs l [.slice A7 l.length c7] (fun k => ok k ∧ some k ≠ (Value.slice A l.length c).ownBlock) (fun k => some k = (Value.slice A7 l.length c7).ownBlock) rfl rfl ?aP ?aK ?aF ?aO ?aB ?aS ?aL ?_
  (case aP => exact ⟨_, rfl, Kd.R_lower (Kd.R_tight rfl HR7.out) HZ.out⟩)
  (case aK => exact fun k hk => ⟨⟨HFr.out k (Kd.R_base HR7.out k hk.symm), fun e => by have := HBS.out k e.symm; have := Kd.R_base HR7.out k hk.symm; omega⟩, fun e => by have := HVL.out k e.symm; have := Kd.R_base HR7.out k hk.symm; omega⟩)
  (case aF => exact fun k hk => ⟨HI7.out.fresh k hk, fun e => by have := own_lt HI7.out.own k e.symm; omega⟩)
  (case aO => exact Kd.S_mono HE7.out (fun k hk => ⟨hk.1, hk.2⟩))
  (case aB => exact Below.refl _ _)
  (case aS => exact HI7.out.below.size)
  (case aL => have := HX.out; omega)
  intro v8 w8 ho8 hb8 hg8 hat8
  have HO8 := mkA ho8
  obtain ⟨A8, c8, rfl⟩ := Kd.S_slice ho8
  have HH := mkA (HI7.out.put hg8 ho8 hat8)
  have hbo := mkA (blk_grown HI7.out.ho hg8 (fun e => (HI7.out.okb bo ((Kd.S_R HI7.out.row).1 bo e.symm).1).2.1 rfl))
  clear ho8 hb8 hg8 hat8 HE7 HR7 HO8
  refine hK.out _ _ ((blk_cell hbo.out 0).trans rfl) (fun hHeld => ?_)
  clear hK K
  refine normW 16 ?_
  have hfz := blk_frozen hbo.out 0
  refine last_ (i := 5) (N := none) (bm 6 63) rfl rfl (by kernel_rfl) (by decide) (fun K hK => ?_)
  refine skip_ (w1 := ?_) (by rfl) rfl ?_ ?_
  rotate_left
  ·go_simp
   rfl
  refine hK.out _ _ ?_
  clear hK K
  refine done_ (by kernel_rfl) ?_
  try go_wp2
  first | go_end0 | ((try simp only [Exit.inBlock, Exit.then]); refine bodyPost_ret (results_none rfl _ _ _) rfl ?_)
  have e8 : xs.length + 1 = (xs ++ [l]).length := by simp
  rw [e8]
  exact ⟨rfl, _, HH.out.1, Fr.trans HF7.out HH.out.2⟩
theorem goesv_ {P : Program} {ops : Array Oper} {Q : Exit → Act → World → Prop} {oi : Oper} {N : Option Tmp} {a : Act} {w : World} {K : Act → World → Prop} {g : FuncId} {lb : Array Value} {x : Operand} {ax : Array Operand} {ts : Array TypeId}
  (he : ∀ args W, (callFunc g args).run P W = .ok (.enter g args) W) (args : Array Value) (hw : Region.wanted oi (yielded ops a.tmps) = true) (hN : oi.dst = N) (hop : oi.op = .call { callee := .value x, args := ax, argTypes := ts }) (hx : a.eval x = .func (.func g) #[] lb) (hargs : ax.map a.eval ++ lb = args)
  (h : Calls P g args w fun e w' => ∃ v, e = .returned v ∧ K (a.put N v) w') : if Region.wanted oi (yielded ops a.tmps) = true then Oper.wp P oi a w K Q else K (a.put N undef) w := by
 refine call_ g args hw hN ?_ h
 have he := he args w
 unfold execOp
 simp [hop, resolve, Deferred.ofValue, invoke, hx, hargs, he]
theorem FI.app {w0 W W1 : World} {s1 bn bo bf : Nat} {n : Int} {ok : Nat → Prop} {lv lv1 vo : Value} {l : List Int} {xs : List (List Int)} {y : Int} (h : FI w0 s1 n bn bo bf ok lv l W vo xs)
  (hown : W1.ownsRow s1 3 1 lv1 (l.length + 1) (encs (Value.int .i64) l ++ [.int .i64 y])) (hb : Below s1 W W1) (hg : W.grownBy W1 lv.ownBlock) (hA : AppAt W W1 lv lv1 l.length) :
  FI w0 s1 n bn bo bf (fun k => ok k ∧ some k ≠ lv.ownBlock) lv1 (l ++ [y]) W1 vo xs := by
 have hbs : ∀ g, g < s1 → W1.heap[g]? = W.heap[g]? := fun g hg2 => hb.block g hg2
 refine ⟨(hbs _ h.ln).trans h.hn, (hbs _ h.lo).trans h.ho, (hbs _ h.lf).trans h.hf, ?_, ?_, below_weaken h.below h.ge1 hb, fun k hk => ⟨h.fresh k (Nat.le_trans hb.size hk), fun e => by have := own_lt h.own k e.symm; have := hb.size; omega⟩, Nat.le_trans h.sz hb.size, h.ln, h.lo, h.lf, h.ge, h.ge1, fun k hk => h.okb k hk.1⟩
 ·rw [List.length_append, List.length_singleton]
  simpa [encs] using hown
 ·have h1 := Kd.S_step (Kd.S_bound h.row) (fun k hk _ => hg.block k hk.2.2.1 hk.1.2)
  refine Kd.S_mono h1 (fun k hk => ⟨hk.1, ?_⟩)
  rcases hA with ⟨g, cap, rfl, rfl⟩ | ⟨⟨b, hb1, hle⟩, _⟩
  ·exact hk.1.2
  ·rw [hb1]; intro e; injection e with e; have := hk.2.2.1; omega
theorem FI.back {w0 W W1 W2 : World} {s1 bn bo bf : Nat} {n : Int} {ok : Nat → Prop} {lv lv1 vo vo2 : Value} {l : List Int} {xs ys : List (List Int)} {y : Int} (h : FI w0 s1 n bn bo bf ok lv l W vo xs)
  (hb : Below s1 W W1) (hg : W.grownBy W1 lv.ownBlock) (hA : AppAt W W1 lv lv1 l.length)
  (h2 : FI w0 s1 n bn bo bf (fun k => ok k ∧ some k ≠ lv.ownBlock) lv1 (l ++ [y]) W2 vo2 ys) (hf : Fr bo lv1 vo vo2 W1 W2) :
  FI w0 s1 n bn bo bf ok lv l W2 vo2 ys ∧ Fr bo lv vo vo2 W W2 := by
 have hvl : ∀ k, lv.ownBlock = some k → some k ≠ vo.ownBlock := fun k hk e => (Kd.S_R h.row).1 k e.symm |>.2 hk.symm
 have hsz := hb.size
 refine ⟨⟨h2.hn, h2.ho, h2.hf, ?_, Kd.S_mono h2.row (fun k hk => hk.1), h2.below, fun k hk => (h2.fresh k hk).1, h2.sz, h.ln, h.lo, h.lf, h.ge, h.ge1, h.okb⟩, ?_, ?_, ?_⟩
 ·refine app_back hA h.own (y := .int .i64 y) (fun k hk hk2 => ?_) ?_
  ·have := own_base h.own k hk
   have := own_lt h.own k hk
   exact hf.2.1 k (by omega) (by have := h.lo; omega) (fun e => hk2 e.symm) (hvl k hk)
  ·have := h2.own
   rw [List.length_append, List.length_singleton] at this
   simpa [encs] using this
 ·have := hf.1; omega
 ·intro k hk h1 h3 h4
  rw [hf.2.1 k (by omega) h1 ?_ h4]
  ·exact hg.block k hk h3
  ·rcases hA with ⟨g, cap, rfl, rfl⟩ | ⟨⟨b, hb1, hle⟩, _⟩
   ·exact h3
   ·rw [hb1]; intro e; injection e with e; omega
 ·rcases hf.2.2 with h1 | ⟨b, h1, h3⟩
  ·exact .inl h1
  ·exact .inr ⟨b, h1, by omega⟩
theorem slice_form {W : World} {b e : Nat} {v : Value} {n : Nat} {xs : List Value} (h : W.ownsRow b e 1 v n xs) : ∃ A c, v = .slice A n c := by
 rcases h.2 with ⟨rfl, rfl⟩ | ⟨g, cap, cur, rfl, _⟩
 ·exact ⟨_, _, rfl⟩
 ·exact ⟨_, _, rfl⟩
theorem fill_calls (k : Nat) (lv : List Int → Bool) (N : Nat) (n : Int) (hn : (N : Int) = n) (hN : N ≤ 6) (hA : ∀ l : List Int, l.length = N → (∀ x ∈ l, 0 ≤ x ∧ x < n) → impl_AreLevels.f k l = some (lv l)) (w0 : World) (s1 bn bo bf : Nat) :
  ∀ (m : Nat) (ok : Nat → Prop) (A : Option Addr) (c : Nat) (l : List Int) (w : World) (vo : Value) (xs : List (List Int)), FI w0 s1 n bn bo bf ok (.slice A l.length c) l w vo xs → l.length + m = N → (∀ x ∈ l, 0 ≤ x ∧ x < n) → xs.length + N ^ m < 1000000 →
  Calls Tryd.prog 43 #[.slice A l.length c, .pointer (some ⟨bn, 0, none⟩), .pointer (some ⟨bo, 0, none⟩), .pointer (some ⟨bf, 0, none⟩)] w fun e w' => e = .returned (.tuple #[]) ∧ ∃ vo', FI w0 s1 n bn bo bf ok (.slice A l.length c) l w' vo' (xs ++ fillR lv N m l) ∧ Fr bo (.slice A l.length c) vo vo' w w'
 | 0, ok, A, c, l, w, vo, xs, hI, hl, hx, hs => by
  refine (fill_leaf k (lv l) w0 s1 n bn bo bf ok A c l w vo xs hI (by omega) (hA l (by omega) hx) (by simp at hs; omega) (by omega)).mono ?_
  rintro e w' ⟨h1, vo', h2, h3⟩
  refine ⟨h1, vo', ?_, h3⟩
  unfold fillR
  split at h2
  ·rename_i hb; rw [if_pos hb]; exact h2
  ·rename_i hb; rw [if_neg hb, List.append_nil]; exact h2
 | m + 1, ok, A, c, l, w, vo, xs, hI, hl, hx, hs => by
  have ih := mkA (fill_calls k lv N n hn hN hA w0 s1 bn bo bf m)
  have c0 : ((l.length : Int) == n) = false := beq_eq_false_iff_ne.mpr (by omega)
  have HI := mkA hI
  have hcn : w.cell? ⟨bn, 0, none⟩ = some (.int .i64 n) := (blk_cell hI.hn 0).trans rfl
  have hfn := blk_frozen hI.hn 0
  have HL := mkA hl
  have HX := mkA hx
  have HS := mkA hs
  have HN := mkA hn
  have HN6 := mkA hN
  clear hI hl hx hs hn hN hA
  go_enter Tryd.func43, Tryd.ntmps43
  go_wp2
  go_loopg [18] N (fun kq v18 w' => ∃ (i : Nat) (vo1 : Value), v18 = .int .i64 (i : Int) ∧ Fc (i + kq = N) ∧ Fc (FI w0 s1 n bn bo bf ok (.slice A l.length c) l w' vo1 (xs ++ fillTo lv N m l i)) ∧ Fc (Fr bo (.slice A l.length c) vo vo1 w w'))
  case atStart => exact ⟨0, vo, rfl, ⟨by omega⟩, ⟨by rw [show fillTo lv N m l 0 = [] by simp [fillTo], List.append_nil]; exact HI.out.step (by repeat (first | exact Below.refl _ _ | apply below_alloc | apply pw_below_drewN | apply below_drew1))⟩, ⟨Fr.below (by repeat (first | exact Below.refl _ _ | apply below_alloc | apply pw_below_drewN | apply below_drew1))⟩⟩
  case round =>
   clear HI hcn hfn
   obtain ⟨i, vo1, rfl, HK, HI, HF⟩ := hrel
   cases gk with
   | zero =>
    have c1 : decide ((i : Int) < n) = false := decide_eq_false (by have := HK.out; have := HN.out; omega)
    go_wp2
    first | go_end0 | ((try simp only [Exit.inBlock, Exit.then]); refine bodyPost_ret (results_none rfl _ _ _) rfl ?_)
    have hi : i = N := by have := HK.out; omega
    subst hi
    exact ⟨rfl, vo1, HI.out.step (by repeat (first | exact Below.refl _ _ | apply below_alloc | apply pw_below_drewN | apply below_drew1)), Fr.trans HF.out (Fr.below (by repeat (first | exact Below.refl _ _ | apply below_alloc | apply pw_below_drewN | apply below_drew1)))⟩
   | succ k1 =>
    have c1 : decide ((i : Int) < n) = true := decide_eq_true (by have := HK.out; have := HN.out; omega)
    go_wp2
    refine start_ (n := 6) (S := fun w' => w'.cell? ⟨bf, 0, none⟩ = some (FV bn bo bf)) (ds := []) (bm 6 0) (by kernel_rfl) rfl (by kernel_rfl) ((blk_cell (blk_g HI.out.hf) 0).trans rfl) (fun hHeld => ?_)
    generalize hw6 : World.drew _ = w6 at hHeld ⊢
    have hb6 : Below wr.heap.size wr w6 := by rw [← hw6]; repeat (first | exact Below.refl _ _ | apply below_alloc | apply pw_below_drewN | apply below_drew1)
    have HI6 := mkA (HI.out.step hb6)
    have HF6 := mkA (Fr.trans HF.out (Fr.below (bo := bo) (lv := .slice A l.length c) (vo := vo1) hb6))
    clear HI HF hb6 hw6
    refine pure_ (i := 1) (N := some 22) (v := ?_) (a' := ?_) (bm 6 2) rfl rfl (by kernel_rfl) (fun _ _ _ h => h) (Or.inl ⟨by rfl, ?_⟩) ?_ ?_
    rotate_left
    ·intro w'
     go_simp
     with_reducible rfl
    rotate_left
    ·simp only [Act.put, List.setIfInBounds_toArray, List.set_cons_zero, List.set_cons_succ, i64_w, i32_w]
     rfl
    refine pure_ (i := 2) (N := some 23) (v := ?_) (a' := ?_) (bm 6 6) rfl rfl (by kernel_rfl) (fun _ _ _ h => h) (Or.inl ⟨by rfl, ?_⟩) ?_ ?_
    rotate_left
    ·intro w'
     go_simp
     with_reducible rfl
    rotate_left
    ·simp only [Act.put, List.setIfInBounds_toArray, List.set_cons_zero, List.set_cons_succ, i64_w, i32_w]
     rfl
    refine take_ (i := 0) (N := some 21) (v := FV bn bo bf) (a' := ?_) (bm 6 7) rfl rfl (by kernel_rfl) (fun _ _ _ h => h) (Or.inl ⟨by rfl, ?_⟩) hHeld ?_ ?_
    ·intro w' s0
     go_simp
     done
    rotate_left
    ·simp only [Act.put, List.setIfInBounds_toArray, List.set_cons_zero, List.set_cons_succ, i64_w, i32_w]
     rfl
    refine one_ (i := 3) (N := some 24) (bm 6 15) rfl rfl (by kernel_rfl) (by decide) (fun K hK => ?_)
    refine value_ (w1 := ?_) (v := ?_) (by rfl) rfl ?_ ?_
    rotate_left 2
    ·go_simp
     constructor
     ·rfl
     ·rfl
    refine hK.out _ _ ((blk_cell (blk_alloc HI6.out.hf _) 0).trans rfl) (fun hHeld => ?_)
    clear hK K
    refine normW 24 ?_
    refine one_ (i := 4) (N := some 25) (bm 6 31) rfl rfl (by kernel_rfl) (by decide) (fun K hK => ?_)
    refine app_step (base := s1) (by rfl) (.tmp 22) (.tmp 24) 26 3 (.int .i64 0) 8 (by rfl) Tryd.underlying26 info3 rfl (by omega) (.slice A l.length c) l.length (encs (Value.int .i64) l) (.int .i64 (i : Int)) rfl rfl rfl HI6.out.own HI6.out.sz (by have := HL.out; have := HN6.out; omega) ?_
    intro v7 w7 hown hb hg hA
    obtain ⟨A7, c7, rfl⟩ := slice_form hown
    have HI7 := mkA (HI6.out.app hown hb hg hA)
    have HBK := mkA (fun (vo2 : Value) (ys : List (List Int)) (W2 : World) h2 hf => HI6.out.back (y := (i : Int)) (vo2 := vo2) (ys := ys) (W2 := W2) hb hg hA h2 hf)
    clear hown hb hg hA HI6
    refine hK.out _ _ ((blk_cell HI7.out.hf 0).trans rfl) (fun hHeld => ?_)
    clear hK K
    refine normW 25 ?_
    refine one_ (i := 5) (N := some 26) (bm 6 63) rfl rfl (by kernel_rfl) (by decide) (fun K hK => ?_)
    refine goesv_ (fun args_ W_ => enters_ Tryd.func43 (by kernel_rfl) rfl args_ W_) #[.slice A7 (l.length + 1) c7, .pointer (some ⟨bn, 0, none⟩), .pointer (some ⟨bo, 0, none⟩), .pointer (some ⟨bf, 0, none⟩)] (by rfl) rfl rfl (by rfl) (by (try simp only [List.map_toArray, List.map_cons, List.map_nil]); first | done | rfl) ?_
    have hl7 : l.length + 1 = (l ++ [(i : Int)]).length := by simp
    rw [hl7] at HI7 HBK ⊢
    refine (ih.out _ A7 c7 (l ++ [(i : Int)]) w7 vo1 _ HI7.out ?aL ?aX ?aS).mono ?_
    (case aL => have := HL.out; rw [← hl7]; omega)
    (case aX =>
     intro x hx
     rcases List.mem_append.1 hx with hx | hx
     ·exact HX.out x hx
     ·rw [List.mem_singleton.1 hx]; have := HK.out; have := HN.out; omega)
    (case aS =>
     have h1 := fillTo_len lv N m l i
     have h2 : (i + 1) * N ^ m ≤ N * N ^ m := Nat.mul_le_mul_right _ (by have := HK.out; omega)
     have h3 := HS.out
     rw [Nat.pow_succ, Nat.mul_comm] at h3
     rw [Nat.add_mul, Nat.one_mul] at h2
     rw [List.length_append]
     omega)
    rintro e w8 ⟨rfl, vo8, h8, hf8⟩
    refine ⟨_, rfl, ?_⟩
    obtain ⟨hI8, hF8⟩ := HBK.out vo8 _ w8 h8 hf8
    rw [List.append_assoc, ← fillTo_succ] at hI8
    have HI8 := mkA hI8
    have HF8 := mkA (Fr.trans HF6.out hF8)
    clear hI8 hF8 h8 hf8 HBK HI7 HF6
    refine hK.out _ _ ((blk_cell HI8.out.hf 0).trans rfl) (fun hHeld => ?_)
    clear hK K
    refine normW 26 ?_
    refine done_ (by kernel_rfl) ?_
    have hwr : wrap64 ((i : Int) + 1) = ((i + 1 : Nat) : Int) := by have := HK.out; have := HN6.out; unfold wrap64; omega
    try go_wp2
    go_roundg k1
    case measure => omega
    case rel => exact ⟨i + 1, vo8, by first | (rw [hwr]; done) | (simp [hwr]; done), ⟨by have := HK.out; omega⟩, ⟨HI8.out.step (by repeat (first | exact Below.refl _ _ | apply below_alloc | apply pw_below_drewN | apply below_drew1))⟩, ⟨Fr.trans HF8.out (Fr.below (by repeat (first | exact Below.refl _ _ | apply below_alloc | apply pw_below_drewN | apply below_drew1)))⟩⟩
theorem store_func (P : Program) (w : World) (a : Addr) (m : Mode) (fn : Fn) (first captured : Array Value) : (store a (.func fn first captured) m).run P w = stored P w a (.func fn first captured) m := run_store P w a _ m rfl
attribute [local go_sem] store_func
theorem goesV_ {P : Program} {ops : Array Oper} {Q : Exit → Act → World → Prop} {rest : List Oper} {oi : Oper} {a : Act} {w : World} (N : Option Tmp) (hd : oi.dst = N) (hg : oi.guard = none) {g : FuncId} {lb : Array Value} {x : Operand} {ax : Array Operand} {ts : Array TypeId}
  (he : ∀ args W, (callFunc g args).run P W = .ok (.enter g args) W) (args : Array Value) (hop : oi.op = .call { callee := .value x, args := ax, argTypes := ts }) (hx : a.eval x = .func (.func g) #[] lb) (hargs : ax.map a.eval ++ lb = args)
  (h : Calls P g args w fun e w' => ∃ v, e = .returned v ∧ wpList P ops Q rest (a.put N v) w') : wpList P ops Q (oi :: rest) a w := by
 refine wpList_plain hg fun K hK => ?_
 have he := he args w
 have hrun : (execOp a.eval oi).run P w = .ok (.enter g args) w := by
  unfold execOp
  simp [hop, resolve, Deferred.ofValue, invoke, hx, hargs, he]
 unfold Oper.wp
 rw [hrun, Oper.upon_enter]
 refine h.mono fun e w'' hh => ?_
 obtain ⟨v, rfl, hk⟩ := hh
 subst hd
 exact hK _ _ hk
theorem FI.start {w W : World} {n : Int} {bn bo bf : Nat} {vo : Value} (h1 : W.heap[bn]? = some (.cells #[.int .i64 n] 3 (0, 0))) (h2 : W.heap[bo]? = some (.cells #[vo] 48 (0, 0))) (h3 : W.heap[bf]? = some (.cells #[FV bn bo bf] 58 (0, 0)))
  (hr : Kd.S (Kd.slice 3 (Kd.int .i64)) 26 W w.heap.size (fun k => k ≠ bn ∧ k ≠ bo ∧ k ≠ bf) vo []) (hb : Below w.heap.size w W) (hg : w.heap.size ≤ bo) :
  FI w W.heap.size n bn bo bf (fun k => k ≠ bn ∧ k ≠ bo ∧ k ≠ bf) (.slice none 0 (0 : Nat)) [] W vo [] := by
 have l1 := blk_lt h1
 have l2 := blk_lt h2
 have l3 := blk_lt h3
 exact ⟨h1, h2, h3, World.ownsRow_nil W _ 3 1, Kd.S_mono hr (fun k hk => ⟨hk, by simp [Value.ownBlock]⟩), hb, fun k hk => ⟨by omega, by omega, by omega⟩, Nat.le_refl _, l1, l2, l3, hg, hb.size, fun k hk => hk⟩
end All
attribute [local go_sem] store_func
theorem impl_allLevels.calls (k : Nat) (a0 : Int) (r : List (List Int)) (w : World) (h : impl_allLevels.f k a0 = some r) :
  Calls Tryd.prog 26 #[.int .i64 a0] w fun e w' => ∃ v0_ : Value, e = .returned (v0_) ∧ Kd.S (Kd.slice 3 (Kd.int .i64)) 26 w' w.heap.size (fun _ => True) v0_ r ∧ Below w.heap.size w w' := by
 unfold impl_allLevels.f at h
 split at h
 case isFalse => cases h
 rename_i hc
 obtain ⟨ha, hb6, hok⟩ := hc
 obtain rfl := Option.some.inj h
 have HT := mkA (fillOk_told a0.toNat [] hok)
 have HA := mkA (And.intro ha hb6)
 clear h hok ha hb6
 have HB := mkA (Below.refl w.heap.size w)
 go_enter Tryd.func26, Tryd.ntmps26
 go_upto_region 2 with (first | ((with_reducible refine gate_dst (N := 1) rfl ?_); refine boxE (N := 1) (cs := #[.int .i64 a0]) (t := 3) ?_; intro bn hgn w1 hbox hb; have BN1 := mkA hbox; have HB1 := bst HB hb; clear hb hbox hgn HB) | ((with_reducible refine gate_dst (N := 5) rfl ?_); refine Kd.S_lit (Kd.slice 3 (Kd.int .i64)) _ 26 ?hg (N := 5) ?hd (xs := ([] : List (List Int))) (inner := []) (ok := fun _ => True) (okp := fun _ => True) ?hr ?hp (fun _ hk => hk) trivial (Below.refl _ _) (Nat.le_refl _) (by simp) ?_; (case hd => rfl); (case hg => rfl); (case hr => first | (go_simp; done) | (go_simp; rfl)); (case hp => exact (Reps.none _ _)); intro v5 w5 ho5 hb hg_ hnew_; obtain ⟨A5, c5, rfl⟩ := Kd.S_slice ho5; have BN5 := mkA (blk_below (blk_g BN1.out) hb); have HB5 := bst HB1 hb; have HO5 := mkA (Kd.S_lower (Kd.S_newB ho5 (blk_g BN1.out)) (below_size (bel_g HB1.out))); clear BN1 HB1 ho5 hb hg_ hnew_))
 have BO6 := blk_new w5 (.cells #[.slice A5 0 c5] 48)
 have BN6 := blk_alloc BN5.out (.cells #[.slice A5 0 c5] 48)
 have HO6 := Kd.S_alloc (Kd.S_elderB HO5.out w5.heap.size (Nat.le_refl _)) (.cells #[.slice A5 0 c5] 48)
 have HB6 := below_alloc HB5.out (.cells #[.slice A5 0 c5] 48)
 have HG6 := HB5.out.size
 clear BN5 HO5 HB5
 generalize w5.heap.size = bo at BO6 HO6 HG6 ⊢
 generalize w5.alloc (.cells #[.slice A5 0 c5] 48) = w6 at BO6 BN6 HO6 HB6 ⊢
 have BO6 := mkA BO6
 have BN6 := mkA BN6
 have HO6 := mkA HO6
 have HB6 := mkA HB6
 have HG6 := mkA HG6
 go_upto_region 3 with (fail)
 have hn7 : w6.heap.size ≠ bo := fun e => by have := blk_lt BO6.out; omega
 have BF7 := blk_new w6 (.cells #[.nilFunc] 58)
 have BO7 := blk_alloc BO6.out (.cells #[.nilFunc] 58)
 have BN7 := blk_alloc BN6.out (.cells #[.nilFunc] 58)
 have HO7 := Kd.S_alloc (Kd.S_elderB HO6.out w6.heap.size (Nat.le_refl _)) (.cells #[.nilFunc] 58)
 have HB7 := below_alloc HB6.out (.cells #[.nilFunc] 58)
 have HG7 := HB6.out.size
 clear BN6 BO6 HO6 HB6
 generalize w6.heap.size = bf at BF7 HO7 HG7 ⊢
 generalize w6.alloc (.cells #[.nilFunc] 58) = w7 at BF7 BO7 BN7 HO7 HB7 ⊢
 have BF7 := mkA BF7
 have BO7 := mkA BO7
 have BN7 := mkA BN7
 have HO7 := mkA HO7
 have HB7 := mkA HB7
 have HG7 := mkA HG7
 have hcz := (blk_cell BF7.out 0).trans (show _ = some Value.nilFunc from rfl)
 have hfz := blk_frozen BF7.out 0
 go_upto_region 4 with (fail)
 have n1 : bo ≠ bf := blk_ne BO7.out BF7.out (by decide)
 have n2 : bn ≠ bf := blk_ne BN7.out BF7.out (by decide)
 have BF8 := blk_put BF7.out 0 (FV bn bo bf) rfl
 have BO8 := blk_far (p := ⟨bf, 0, none⟩) BO7.out n1 (FV bn bo bf)
 have BN8 := blk_far (p := ⟨bf, 0, none⟩) BN7.out n2 (FV bn bo bf)
 have HO8 := Kd.S_far (p := ⟨bf, 0, none⟩) HO7.out (fun k hk => hk.2) (FV bn bo bf)
 have HB8 := below_set (j := 0) (v := FV bn bo bf) HB7.out HG7.out
 clear hcz hfz BO7 BN7 HO7 HB7 HG7 BF7 n1 n2 hn7
 unfold FV at BF8 BO8 BN8 HO8 HB8
 generalize w7.setCell ⟨bf, 0, none⟩ (.func (.func 43) #[] #[.pointer (some ⟨bn, 0, none⟩), .pointer (some ⟨bo, 0, none⟩), .pointer (some ⟨bf, 0, none⟩)]) = w8 at BF8 BO8 BN8 HO8 HB8 ⊢
 have HI := mkA (FI.start BN8 BO8 BF8 (Kd.S_mono HO8 (fun k hk => ⟨hk.1.1.2, hk.1.2, hk.2⟩)) HB8 HG6.out)
 have hcz := (blk_cell BF8 0).trans (show _ = some (FV bn bo bf) from rfl)
 unfold FV at hcz
 clear BF8 BO8 BN8 HO8 HB8
 go_wp2_with (first | ((with_reducible refine gate_dst (N := 8) rfl ?_); refine goesV_ (some 8) rfl rfl (fun args_ W_ => enters_ Tryd.func43 (by kernel_rfl) rfl args_ W_) #[.slice none 0 0, .pointer (some ⟨bn, 0, none⟩), .pointer (some ⟨bo, 0, none⟩), .pointer (some ⟨bf, 0, none⟩)] rfl rfl (by (try simp only [List.map_toArray, List.map_cons, List.map_nil]); first | done | rfl) ?_; refine (fill_calls k (fun l => impl_AreLevels.f k l == some true) a0.toNat a0 (by have := HA.out; omega) (by have := HA.out; omega) ?s1 w w8.heap.size bn bo bf a0.toNat _ none 0 [] _ _ [] (HI.out.step ?s2) ?s3 ?s4 ?s5).mono ?_; (case s1 => intro l hl hx; exact HT.out l hl (by have := HA.out; intro x hx2; have := hx x hx2; omega)); (case s2 => repeat (first | exact Below.refl _ _ | apply below_alloc | apply pw_below_drewN | apply below_drew1)); (case s3 => simp); (case s4 => intro x hx; cases hx); (case s5 => (have h6 : a0.toNat ≤ 6 := by have := HA.out; omega); (have h7 : a0.toNat ^ a0.toNat ≤ 6 ^ 6 := Nat.le_trans (Nat.pow_le_pow_left h6 _) (Nat.pow_le_pow_right (by omega) h6)); (simp only [List.length_nil]; omega)); rintro e w9 ⟨rfl, vo9, hI9, hF9⟩; refine ⟨_, rfl, ?_⟩; obtain ⟨A9, c9, rfl⟩ := Kd.S_slice hI9.row; (have hcz9 := (blk_cell hI9.ho 0).trans rfl); have HI9 := mkA hI9; clear hcz hI9 hF9))
 go_ret
 have HI10 := HI9.out.step (W' := _) (by first | exact Below.refl _ w9 | exact below_drew1 (Below.refl _ w9))
 simp only [List.nil_append] at HI10
 exact ⟨_, rfl, Kd.S_mono HI10.row (fun _ _ => trivial), HI10.below⟩
end Go.Proofs.YtfpicdkanmgdoaaDoor.Q
