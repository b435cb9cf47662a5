import Derived.Test.YtgdnljpallpjiaaDoorProg
import Derived.Below
import Derived.Deep.Draws
import Derived.Deep.AppendLies
import Derived.Maps.AppendAt
import Derived.OwnWalk
import Derived.Laws.BytesArg
import Derived.Laws.MakeOwn
import Derived.Laws.OwnMore
import Derived.Deep.OwnRows
import Derived.Tactics
import Derived.Lib.ConvBytes
import Derived.Laws.Slices
import Derived.WalkKit
import Derived.KernelRfl
import Derived.RowKit3
import Derived.Deep.LoopGhost
import Derived.Deep.QuietTactic
import Derived.BigQuiet
import Derived.WideLaws
import Derived.Deep.DeepCutAuto
import Derived.Deep.CutBlock
import Derived.Deep.RegionHeld3
import Derived.Laws.Rows
import Derived.Lib.AppendStr
import Derived.ArgAppend
import Derived.Laws.IdiomCopy
import Derived.OrdersHeld
import Derived.Laws.BitsLemmas
import Derived.RowKit
import Derived.Test.YtgdnljpallpjiaaDoorWWords
import Derived.Test.YtgdnljpallpjiaaDoorWLast
import Derived.Test.YtgdnljpallpjiaaDoorWTab
import Derived.Test.YtgdnljpallpjiaaDoorWQPut
import Derived.Test.YtgdnljpallpjiaaDoorWApart
import Derived.Test.YtgdnljpallpjiaaDoorWArr
import Derived.Test.YtgdnljpallpjiaaDoorWZeros
import Derived.Test.YtgdnljpallpjiaaDoorWFoot
import Derived.Test.YtgdnljpallpjiaaDoorWKept
import Derived.Test.YtgdnljpallpjiaaDoorWShare
import Derived.Test.YtgdnljpallpjiaaDoorWN
import Derived.Test.YtgdnljpallpjiaaDoorWRepsOne
import Derived.Test.YtgdnljpallpjiaaDoorWGuard
import Derived.Test.YtgdnljpallpjiaaDoorWNEv
import Derived.Test.YtgdnljpallpjiaaDoorWMore
import Derived.Test.YtgdnljpallpjiaaDoorTie
import Derived.ProofKit
import Derived.LaidMore
import Derived.LaidOnce
import Derived.OpenShut
import Derived.MakeChecks
namespace Go.Proofs.YtgdnljpallpjiaaDoor.Q
open Go.RowKit Go.Proofs.YtgdnljpallpjiaaDoorW.PrintWords Go.Proofs.YtgdnljpallpjiaaDoorW.PrintLast Go.Proofs.YtgdnljpallpjiaaDoorW.PrintMore
attribute [local go_sem] max2_int min2_int max_two min_two max_three min_three max_four min_four
set_option linter.unusedVariables false
set_option linter.unusedSimpArgs false
def errW : Option Int → Value
  | none => .nilIface
  | some c => .iface 0 (.int .i64 c)
theorem errW_none : errW none = .nilIface := rfl
theorem errW_some (c : Int) : errW (some c) = .iface 0 (.int .i64 c) := rfl
theorem info3 : (Tryd.prog.info? 3).map (fun i => (i.zero, i.size, i.bytes)) = some (some (.int .i64 0), 1, 8) := by kernel_rfl
-- the values' own types
structure Grown (w w1 : World) : Prop where b : Below w.heap.size w w1
theorem Grown.rfl_ (w : World) : Grown w w := ⟨Below.refl _ _⟩
theorem Grown.alloc {w w1 : World} (g : Grown w w1) (o : Obj) : Grown w (w1.alloc o) := ⟨below_alloc g.b o⟩
theorem Grown.drew {w w1 : World} (g : Grown w w1) : Grown w w1.drew := ⟨below_drew1 g.b⟩
theorem Grown.drewN {w w1 : World} (g : Grown w w1) (n : Nat) : Grown w (w1.drewN n) := ⟨pw_below_drewN g.b n⟩
theorem Kd.R_g {α : Type} {d : Kd α} {e : Nat} {w w1 : World} {base : Nat} {ok : Nat → Prop} {v : Value} {xs : List α} (h : d.R e w base ok v xs) (g : Grown w w1 := by (with_reducible repeat (first | apply Grown.alloc | apply Grown.drewN | apply Grown.drew)); exact Grown.rfl_ _) : d.R e w1 base ok v xs := Kd.R_below h g.b
theorem blk_g {w w1 : World} {g : Nat} {o : Obj} (h : w.heap[g]? = some o) (gr : Grown w w1 := by (with_reducible repeat (first | apply Grown.alloc | apply Grown.drewN | apply Grown.drew)); exact Grown.rfl_ _) : w1.heap[g]? = some o := (gr.b.block g (blk_lt h)).trans h
theorem blkB {w w1 w2 : World} {g : Nat} {o : Obj} (h : Aside0 (w.heap[g]? = some o)) (hb : Below w1.heap.size w1 w2) (gr : Grown w w1 := by (with_reducible repeat (first | apply Grown.alloc | apply Grown.drewN | apply Grown.drew)); exact Grown.rfl_ _) : Aside0 (w2.heap[g]? = some o) := ⟨blk_below (blk_g h.out gr) hb⟩
theorem ltG {w w1 : World} {g : Nat} {o : Obj} (h : Aside0 (w.heap[g]? = some o)) (gr : Grown w w1 := by (with_reducible repeat (first | apply Grown.alloc | apply Grown.drewN | apply Grown.drew)); exact Grown.rfl_ _) : g < w1.heap.size := blk_lt (blk_g h.out gr)
class Ge (n g : Nat) : Prop where out : n ≤ g
class GrownS (w0 w w1 : World) : Prop where b : Below w0.heap.size w0 w → Below w0.heap.size w0 w1
instance (w0 w : World) : GrownS w0 w w := ⟨id⟩
instance (w0 w w1 : World) (g j : Nat) (v : Value) [r : GrownS w0 w w1] [ge : Ge w0.heap.size g] : GrownS w0 w (w1.setCell ⟨g, j, none⟩ v) := ⟨fun h => below_set (r.b h) ge.out⟩
instance (w0 w w1 : World) (o : Obj) [r : GrownS w0 w w1] : GrownS w0 w (w1.alloc o) := ⟨fun h => below_alloc (r.b h) o⟩
instance (w0 w w1 : World) [r : GrownS w0 w w1] : GrownS w0 w w1.drew := ⟨fun h => below_drew1 (r.b h)⟩
instance (w0 w w1 : World) (n : Nat) [r : GrownS w0 w w1] : GrownS w0 w (w1.drewN n) := ⟨fun h => pw_below_drewN (r.b h) n⟩
theorem bel_g {w0 w w1 : World} [g : GrownS w0 w w1] (h : Below w0.heap.size w0 w) : Below w0.heap.size w0 w1 := g.b h
theorem obE {α β : Type} {x : Option α} {f : α → Option β} {r : β} (h : x.bind f = some r) : ∃ a, Aside0 (x = some a) ∧ f a = some r := by obtain ⟨a, h1, h2⟩ := Option.bind_eq_some_iff.mp h; exact ⟨a, ⟨h1⟩, h2⟩
theorem iteE {α : Type} {c : Prop} [d : Decidable c] {a b : Option α} {r : α} (h : (if c then a else b) = some r) : (decide c = true ∧ a = some r) ∨ (decide c = false ∧ b = some r) := by by_cases hc : c; exact .inl ⟨decide_eq_true hc, by rwa [if_pos hc] at h⟩; exact .inr ⟨decide_eq_false hc, by rwa [if_neg hc] at h⟩
theorem bst {w0 w w1 w2 : World} [GrownS w0 w w1] (h : Aside0 (Below w0.heap.size w0 w)) (hb : Below w1.heap.size w1 w2) : Aside0 (Below w0.heap.size w0 w2) := ⟨below_step (bel_g h.out) hb⟩
theorem iteP {α : Type} {c : Prop} [d : Decidable c] {a b : Option α} {r : α} (h : (if c then a else b) = some r) : (c ∧ a = some r) ∨ (¬ c ∧ b = some r) := by by_cases hc : c; exact .inl ⟨hc, by rwa [if_pos hc] at h⟩; exact .inr ⟨hc, by rwa [if_neg hc] at h⟩
theorem ifT {α : Type} {a b : Option α} {r : α} (h : (if true = true then a else b) = some r) : a = some r := by rwa [if_pos rfl] at h
theorem ifF {α : Type} {a b : Option α} {r : α} (h : (if false = true then a else b) = some r) : b = some r := by rwa [if_neg (show ¬ (false = true) by decide)] at h
theorem ofd {p : Prop} [d : Decidable p] (h : decide p = true := by first | (with_reducible assumption) | assumption) : p := of_decide_eq_true h
theorem eqS {α : Type} {a b : α} (h : a = b := by first | rfl | (simp; done) | (simp [*]; done)) : a = b := h
theorem eqE {α : Type} {a b : α} (h : a = b := by first | rfl | (simp [errW_none, errW_some] <;> rfl) | (simp [*, errW_none, errW_some] <;> rfl)) : a = b := h
theorem C_g {α : Type} {d : Kd α} {w w1 W : World} {A : Option Addr} {n : Nat} {xs : List α} (h : Aside0 (d.C w A n xs)) (hb : Aside0 (Below w.heap.size w w1)) [g : GrownS w w1 W] : d.C W A n xs := Kd.C_below h.out (bel_g hb.out)
theorem C_h {α : Type} {d : Kd α} {w W : World} {A : Option Addr} {n : Nat} {xs : List α} (h : Aside0 (d.C w A n xs)) (g : Grown w W := by (with_reducible repeat (first | apply Grown.alloc | apply Grown.drewN | apply Grown.drew)); exact Grown.rfl_ _) : d.C W A n xs := Kd.C_below h.out g.b
section
variable {w : World} {g : Nat} {t : TypeId} {a b c d : Value}
theorem blk1 (h : Aside0 (w.heap[g]? = some (.cells #[a] t (0, 0)))) : w.cell? ⟨g, 0, none⟩ = some a ∧ w.frozen? ⟨g, 0, none⟩ = false := ⟨(blk_cell h.out 0).trans rfl, blk_frozen h.out 0⟩
theorem blk2 (h : Aside0 (w.heap[g]? = some (.cells #[a, b] t (0, 0)))) : w.cell? ⟨g, 0, none⟩ = some a ∧ w.cell? ⟨g, 1, none⟩ = some b ∧ w.frozen? ⟨g, 0, none⟩ = false ∧ w.frozen? ⟨g, 1, none⟩ = false := ⟨(blk_cell h.out 0).trans rfl, (blk_cell h.out 1).trans rfl, blk_frozen h.out 0, blk_frozen h.out 1⟩
theorem blk3 (h : Aside0 (w.heap[g]? = some (.cells #[a, b, c] t (0, 0)))) : w.cell? ⟨g, 0, none⟩ = some a ∧ w.cell? ⟨g, 1, none⟩ = some b ∧ w.cell? ⟨g, 2, none⟩ = some c ∧ w.frozen? ⟨g, 0, none⟩ = false ∧ w.frozen? ⟨g, 1, none⟩ = false ∧ w.frozen? ⟨g, 2, none⟩ = false := ⟨(blk_cell h.out 0).trans rfl, (blk_cell h.out 1).trans rfl, (blk_cell h.out 2).trans rfl, blk_frozen h.out 0, blk_frozen h.out 1, blk_frozen h.out 2⟩
theorem neL {w w1 : World} {g g' : Nat} {o : Obj} (h : Aside0 (w.heap[g]? = some o)) (hg : g' = w1.heap.size) (gr : Grown w w1 := by (with_reducible repeat (first | apply Grown.alloc | apply Grown.drewN | apply Grown.drew)); exact Grown.rfl_ _) : Aside0 (g ≠ g') := ⟨by rw [hg]; exact Nat.ne_of_lt (ltG h gr)⟩
theorem neR {w w1 : World} {g g' : Nat} {o : Obj} (h : Aside0 (w.heap[g]? = some o)) (hg : g' = w1.heap.size) (gr : Grown w w1 := by (with_reducible repeat (first | apply Grown.alloc | apply Grown.drewN | apply Grown.drew)); exact Grown.rfl_ _) : Aside0 (g' ≠ g) := ⟨fun e => (neL h hg gr).out e.symm⟩
theorem geB {w0 w w1 : World} {g : Nat} [gr : GrownS w0 w w1] (h : Aside0 (Below w0.heap.size w0 w)) (hg : g = w1.heap.size) : Ge w0.heap.size g := ⟨by rw [hg]; exact below_size (bel_g h.out)⟩
end
def bm (n m : Nat) : Array Bool := ((List.range n).map fun i => m.testBit i).toArray
section
variable {P : Program} {ops : Array Oper} {Q : Exit → Act → World → Prop} {md : Region.Mode} {S : World → Prop} {ds : List Nat} {T : Bool × List (List Nat × List Nat)} {B : List Nat} {oi : Oper} {v : Value} {fuel : Nat} {l : Array Bool} {a a' : Act} {w W : World}
theorem pureW (i : Nat) (N : Option Tmp) (l' : Array Bool) (HT : Aside0 (rtab md ops = T)) (h : wpAnyLast P md ops Q S ds fuel l' a' w) (hi : ops[i]? = some oi := by rfl) (hN : oi.dst = N := by rfl) (hc : anyT T l.toList l'.toList i = true := by kernel_rfl) (hy : Yields P ops oi v a := by exact Or.inl ⟨by rfl, by intro w'; go_simp; with_reducible rfl⟩) (ha : a.put N v = a' := by simp only [Act.put, List.setIfInBounds_toArray, List.set_cons_zero, List.set_cons_succ, i64_w, i32_w]; rfl) (hQ : ∀ c a w, Q (.panic c) (a.put oi.dst v) w → Q (.panic c) a w := by exact fun _ _ _ h => h) : wpAnyLast P md ops Q S ds (fuel + 1) l a w := pure_ l' hi hN (any_of HT.out hc) hQ hy ha h
theorem takeW (i : Nat) (N : Option Tmp) (l' : Array Bool) (HT : Aside0 (rtab md ops = T)) (HW : Aside0 (waitsOk T.2 B = true)) (hS : S w) (h : wpAnyLast P md ops Q S ds fuel l' a' w) (hi : ops[i]? = some oi := by rfl) (hN : oi.dst = N := by rfl) (hc : takeW T B ds l.toList l'.toList i = true := by kernel_rfl) (hy : Region.wanted oi (yielded ops a.tmps) = true ∧ ∀ w', S w' → (execOp a.eval oi).run P w' = .ok (.value v) w' := by exact ⟨by rfl, by intro w' hs; go_simp; with_reducible rfl⟩) (ha : a.put N v = a' := by simp only [Act.put, List.setIfInBounds_toArray, List.set_cons_zero, List.set_cons_succ, i64_w, i32_w]; rfl) (hQ : ∀ c a w, Q (.panic c) (a.put oi.dst v) w → Q (.panic c) a w := by exact fun _ _ _ h => h) : wpAnyLast P md ops Q S ds (fuel + 1) l a w := take_ l' hi hN (take_ofW HT.out HW.out hc) hQ (Or.inl hy) hS ha h
theorem oneW (i : Nat) (N : Option Tmp) (l' : Array Bool) (HT : Aside0 (rtab md ops = T)) (h : ∀ K : Act → World → Prop, Shut (∀ a' w', S w' → (S w' → wpAnyLast P md ops Q S ds fuel l' a' w') → K a' w') → if Region.wanted oi (yielded ops a.tmps) = true then Oper.wp P oi a w K Q else K (a.put N undef) w) (hi : ops[i]? = some oi := by rfl) (hN : oi.dst = N := by rfl) (hc : (readyT T.2 l.toList == [i] && l.toList.set i true == l'.toList) = true := by kernel_rfl) (hd : i ∉ ds := by decide) : wpAnyLast P md ops Q S ds (fuel + 1) l a w := one_ l' hi hN (one_of HT.out hc) hd h
theorem normW (N : Tmp) (h : wpAnyLast P md ops Q S ds fuel l a' w) (ha : Act.put a (some N) v = a' := by simp only [Act.put, List.setIfInBounds_toArray, List.set_cons_zero, List.set_cons_succ, i64_w, i32_w]; rfl) : wpAnyLast P md ops Q S ds fuel l (Act.put a (some N) v) w := norm_ ha h
theorem doneW (HT : Aside0 (rtab md ops = T)) (h : Q .normal a w) {n : Nat} (hc : (readyT T.2 l.toList == []) = true := by kernel_rfl) : wpAnyLast P md ops Q S ds n l a w := done_ (done_of HT.out hc) h
theorem goesR {N : Option Tmp} {K : Act → World → Prop} {f : FuncId} {fn : Func} {asx : Array Operand} {ts : Array TypeId} (hf : P.funcs[f]? = some fn) (args : Array Value) (h : Calls P f args w fun e w' => ∃ v, e = .returned v ∧ K (a.put N v) w') (hname : (fn.name == "runtime.NumGoroutine") = false := by kernel_rfl) (hb : fn.body.isSome = true := by rfl) (hw : Region.wanted oi (yielded ops a.tmps) = true := by rfl) (hN : oi.dst = N := by rfl) (hop : oi.op = .call { callee := .value (.func f), args := asx, argTypes := ts } := by rfl) (hargs : asx.map a.eval = args := by (try simp only [List.map_toArray, List.map_cons, List.map_nil]); first | done | rfl | (simp only [List.length_drop, List.length_take]; rfl)) : if Region.wanted oi (yielded ops a.tmps) = true then Oper.wp P oi a w K Q else K (a.put N undef) w := goes_ hf hname hb args hw hN hop hargs h
theorem goesQ {rest : List Oper} (N : Option Tmp) {f : FuncId} {fn : Func} {asx : Array Operand} {ts : Array TypeId} (hf : P.funcs[f]? = some fn) (args : Array Value) (h : Calls P f args w fun e w' => ∃ v, e = .returned v ∧ wpList P ops Q rest (a.put N v) w') (hd : oi.dst = N := by rfl) (hg : oi.guard = none := by rfl) (hname : (fn.name == "runtime.NumGoroutine") = false := by kernel_rfl) (hb : fn.body.isSome = true := by rfl) (hop : oi.op = .call { callee := .value (.func f), args := asx, argTypes := ts } := by rfl) (hargs : asx.map a.eval = args := by (try simp only [List.map_toArray, List.map_cons, List.map_nil]); first | done | rfl | (simp only [List.length_drop, List.length_take]; rfl)) : wpList P ops Q (oi :: rest) a w := goesL_ N hd hg hf hname hb args hop hargs h
theorem boxE {rest : List Oper} {N : Tmp} {cs : Array Value} {t : TypeId} (h : ∀ g, g = W.heap.size → ∀ w1, w1.heap[g]? = some (.cells cs t (0, 0)) → Below W.heap.size W w1 → wpList P ops Q rest (a.put oi.dst (.pointer (some ⟨g, 0, none⟩))) w1) (hgd : oi.guard = none := by rfl) (hd : oi.dst = some N := by rfl) (hrun : (execOp a.eval oi).run P W = .ok (.value (.pointer (some ⟨W.heap.size, 0, none⟩))) (W.alloc (.cells cs t (0, 0))) := by first | (go_simp; done) | (go_simp; rfl)) : wpList P ops Q (oi :: rest) a W := box_event hgd hd hrun h
end
theorem itND {α : Type} {c : Prop} [d : Decidable c] {a : Option α} {r : α} (h : (if c then a else none) = some r) : decide c = true ∧ a = some r := by by_cases hc : c; exact ⟨decide_eq_true hc, by rwa [if_pos hc] at h⟩; rw [if_neg hc] at h; cases h
theorem itNP {α : Type} {c : Prop} [d : Decidable c] {a : Option α} {r : α} (h : (if c then a else none) = some r) : c ∧ a = some r := by by_cases hc : c; exact ⟨hc, by rwa [if_pos hc] at h⟩; rw [if_neg hc] at h; cases h
theorem itMD {α : Type} {c : Prop} [d : Decidable c] {b : Option α} {r : α} (h : (if c then none else b) = some r) : decide c = false ∧ b = some r := by by_cases hc : c; rw [if_pos hc] at h; cases h; exact ⟨decide_eq_false hc, by rwa [if_neg hc] at h⟩
theorem itMP {α : Type} {c : Prop} [d : Decidable c] {b : Option α} {r : α} (h : (if c then none else b) = some r) : ¬ c ∧ b = some r := by by_cases hc : c; rw [if_pos hc] at h; cases h; exact ⟨hc, by rwa [if_neg hc] at h⟩
class NeB (g g' : Nat) : Prop where out : g ≠ g'
class SetA (cs : Array Value) (i : Nat) (u : Value) (cs' : outParam (Array Value)) : Prop where out : cs.setIfInBounds i u = cs'
instance (a u : Value) : SetA #[a] 0 u #[u] := ⟨rfl⟩
instance (a b u : Value) : SetA #[a, b] 0 u #[u, b] := ⟨rfl⟩
instance (a b u : Value) : SetA #[a, b] 1 u #[a, u] := ⟨rfl⟩
instance (a b c u : Value) : SetA #[a, b, c] 0 u #[u, b, c] := ⟨rfl⟩
instance (a b c u : Value) : SetA #[a, b, c] 1 u #[a, u, c] := ⟨rfl⟩
instance (a b c u : Value) : SetA #[a, b, c] 2 u #[a, b, u] := ⟨rfl⟩
class Reach (w W : World) (g : Nat) (t : TypeId) (cs : Array Value) (cs' : outParam (Array Value)) : Prop where out : w.heap[g]? = some (.cells cs t (0, 0)) → W.heap[g]? = some (.cells cs' t (0, 0))
instance (w : World) (g : Nat) (t : TypeId) (cs : Array Value) : Reach w w g t cs cs := ⟨id⟩
instance (w W : World) (g : Nat) (t : TypeId) (cs cs' : Array Value) (o : Obj) [r : Reach w W g t cs cs'] : Reach w (W.alloc o) g t cs cs' := ⟨fun h => blk_alloc (r.out h) o⟩
instance (w W : World) (g : Nat) (t : TypeId) (cs cs' : Array Value) [r : Reach w W g t cs cs'] : Reach w W.drew g t cs cs' := ⟨fun h => blk_drew (r.out h)⟩
instance (w W : World) (g : Nat) (t : TypeId) (cs cs' : Array Value) (n : Nat) [r : Reach w W g t cs cs'] : Reach w (W.drewN n) g t cs cs' := ⟨fun h => blk_drewN (r.out h) n⟩
instance (w W : World) (g g' i : Nat) (t : TypeId) (cs cs' : Array Value) (u : Value) [r : Reach w W g t cs cs'] [n : NeB g g'] : Reach w (W.setCell ⟨g', i, none⟩ u) g t cs cs' := ⟨fun h => blk_far (r.out h) n.out u⟩
instance (priority := 2000) (w W : World) (g i : Nat) (t : TypeId) (cs cs' cs2 : Array Value) (u : Value) [r : Reach w W g t cs cs'] [e : SetA cs' i u cs2] : Reach w (W.setCell ⟨g, i, none⟩ u) g t cs cs2 := ⟨fun h => blk_put (r.out h) i u e.out⟩
theorem blkT {w W : World} {g : Nat} {t : TypeId} {cs cs' : Array Value} (h : Aside0 (w.heap[g]? = some (.cells cs t (0, 0)))) [r : Reach w W g t cs cs'] : W.heap[g]? = some (.cells cs' t (0, 0)) := r.out h.out
theorem blkS {w W w2 : World} {g : Nat} {t : TypeId} {cs cs' : Array Value} (h : Aside0 (w.heap[g]? = some (.cells cs t (0, 0)))) (hb : Below W.heap.size W w2) [r : Reach w W g t cs cs'] : Aside0 (w2.heap[g]? = some (.cells cs' t (0, 0))) := ⟨blk_below (r.out h.out) hb⟩
theorem neL7 {w w1 : World} {g g' : Nat} {o : Obj} (h : Aside0 (w.heap[g]? = some o)) (hg : g' = w1.heap.size) (gr : Grown w w1 := by (with_reducible repeat (first | apply Grown.alloc | apply Grown.drewN | apply Grown.drew)); exact Grown.rfl_ _) : NeB g g' := ⟨(neL h hg gr).out⟩
theorem neR7 {w w1 : World} {g g' : Nat} {o : Obj} (h : Aside0 (w.heap[g]? = some o)) (hg : g' = w1.heap.size) (gr : Grown w w1 := by (with_reducible repeat (first | apply Grown.alloc | apply Grown.drewN | apply Grown.drew)); exact Grown.rfl_ _) : NeB g' g := ⟨(neR h hg gr).out⟩
theorem rB {α : Type} {d : Kd α} {e : Nat} {w w1 w2 : World} {base : Nat} {ok : Nat → Prop} {v : Value} {xs : List α} (h : Aside0 (d.R e w base ok v xs)) (hb : Below w1.heap.size w1 w2) (gr : Grown w w1 := by (with_reducible repeat (first | apply Grown.alloc | apply Grown.drewN | apply Grown.drew)); exact Grown.rfl_ _) : Aside0 (d.R e w2 base ok v xs) := ⟨Kd.R_below (Kd.R_g h.out gr) hb⟩
theorem neB_f {g g' : Nat} [n : NeB g g'] : (g = g') = False := eq_false n.out
theorem mkA {p : Prop} (h : p) : Aside0 p := ⟨h⟩
abbrev Fc (p : Prop) : Prop := Aside0 p
section
variable {P : Program} {ops : Array Oper} {Q : Exit → Act → World → Prop} {md : Region.Mode} {S : World → Prop} {ds : List Nat} {T : Bool × List (List Nat × List Nat)} {oi : Oper} {fuel : Nat} {l : Array Bool} {a a' : Act} {w : World}
theorem pureG (i : Nat) (N : Option Tmp) (l' : Array Bool) (HT : Aside0 (rtab md ops = T)) (h : wpAnyLast P md ops Q S ds fuel l' a' w) (hi : ops[i]? = some oi := by rfl) (hN : oi.dst = N := by rfl) (hc : anyT T l.toList l'.toList i = true := by kernel_rfl) (hy : Yields P ops oi undef a := by exact Or.inr ⟨by rfl, rfl⟩) (ha : a.put N undef = a' := by simp only [Act.put, List.setIfInBounds_toArray, List.set_cons_zero, List.set_cons_succ, i64_w, i32_w]; rfl) (hQ : ∀ c a w, Q (.panic c) (a.put oi.dst undef) w → Q (.panic c) a w := by exact fun _ _ _ h => h) : wpAnyLast P md ops Q S ds (fuel + 1) l a w := pure_ l' hi hN (any_of HT.out hc) hQ hy ha h
end
end Go.Proofs.YtgdnljpallpjiaaDoor.Q
namespace Go.Proofs.YtgdnljpallpjiaaDoor.Q
open Go.RowKit Go.Proofs.YtgdnljpallpjiaaDoorW.PrintWords Go.Proofs.YtgdnljpallpjiaaDoorW.PrintLast Go.Proofs.YtgdnljpallpjiaaDoorW.PrintMore
attribute [local go_sem] max2_int min2_int max_two min_two max_three min_three max_four min_four neB_f
set_option linter.unusedVariables false
set_option maxHeartbeats 8000000
set_option maxRecDepth 100000
set_option linter.unusedSimpArgs false
-- the table of a 64 bit number's last set bit, as the variable holds it
def dbtab : List Int := [0, 1, 56, 2, 57, 49, 28, 3, 61, 58, 42, 50, 38, 29, 17, 4, 62, 47, 59, 36, 45, 43, 51, 22, 53, 39, 33, 30, 24, 18, 12, 5, 63, 55, 48, 27, 60, 41, 37, 16, 46, 35, 44, 21, 52, 32, 23, 11, 54, 26, 40, 15, 34, 20, 31, 10, 25, 14, 19, 9, 13, 8, 7, 6]
/-- The variable holds its table. -/
def Tab (w : World) : Prop := 1 < w.heap.size ∧ ∀ i : Nat, i < 64 → w.cell? ⟨1, i, none⟩ = some (.int .u8 (dbtab.getD i 0))
theorem Tab.below {w W : World} (h : Tab w) (hb : Below w.heap.size w W) : Tab W := ⟨Nat.lt_of_lt_of_le h.1 hb.size, fun i hi => (hb.cell h.1).trans (h.2 i hi)⟩
theorem Tab.below' {w W : World} (hb : Below w.heap.size w W) (h : Tab w) : Tab W := h.below hb
theorem Tab.drewN {w : World} (h : Tab w) (m : Nat) : Tab (w.drewN m) := h.below (pw_below_drewN (Below.refl _ _) m)
/-- where the table tells a number's last set bit -/
def tzIdx (x : Int) : Int := IntKind.u64.wrap (Go.bits .and .u64 x (IntKind.u64.wrap (-x)) * 285870213051353865) / 288230376151711744
theorem tzIdx_range (x : Int) : 0 ≤ tzIdx x ∧ tzIdx x < 64 := by
 unfold tzIdx
 have : ∀ y : Int, 0 ≤ IntKind.u64.wrap y ∧ IntKind.u64.wrap y < 18446744073709551616 := by
  intro y; simp [IntKind.wrap, IntKind.signed, IntKind.bits]; omega
 have := this (Go.bits .and .u64 x (IntKind.u64.wrap (-x)) * 285870213051353865)
 omega
def bits_TrailingZeros64.f (a0 : Int) : Option Int := some (if a0 = 0 then 64 else wrap64 (dbtab.getD (tzIdx a0).toNat 0))
set_option maxHeartbeats 8000000 in
theorem bits_TrailingZeros64.calls (a0 : Int) (r : Int) (w : World) (hG : Tab w) (h : bits_TrailingZeros64.f a0 = some r) :
  Calls Tryd.prog 50 #[.int .u64 a0] w fun e w' => e = .returned (.int .i64 r) ∧ Drawn0 w w' := by
 obtain rfl := Option.some.inj h
 by_cases h0 : a0 = 0
 ·subst h0
  go_enter Tryd.func50, Tryd.ntmps50
  go_wp2
  go_ret
  exact ⟨rfl, Drawn0.refl _⟩
 ·rw [if_neg h0]
  have c1 : (a0 == 0) = false := beq_eq_false_iff_ne.mpr h0
  have hp := tzIdx_range a0
  have hx := hG.2 (tzIdx a0).toNat (by omega)
  unfold tzIdx at hp hx ⊢
  have hp1 := eq_true hp.1
  have hp2 := eq_true hp.2
  clear hp h hG h0
  go_enter Tryd.func50, Tryd.ntmps50
  go_wp2
  go_ret
  exact ⟨rfl, Drawn0.refl _⟩
end Go.Proofs.YtgdnljpallpjiaaDoor.Q
/- What the listed variables' condition gives: the table of last set bits lies in its variable; and a world that meets the condition. -/
namespace Go.Proofs.YtgdnljpallpjiaaDoor.Tied
open Go Go.ChangeShapes Go.WideShapes Go.ChangeAt Go.RowKit
theorem own : ownKnob Tryd.prog.godebug = none := by kernel_rfl
theorem laidOut : laidOutB Tryd.prog = true := by kernel_rfl
abbrev laid : List (String × DataW Unit) := [("math/bits.deBruijn32tab", Rows.laid_math_bits_deBruijn32tab), ("math/bits.deBruijn64tab", Rows.laid_math_bits_deBruijn64tab)]
theorem door_met (os : Os) (args : Array Value) : laidMetH Tryd.prog laid ((World.doorLaid Tryd.prog 19 os).forCall (fun _ _ => 0) ⟨#[], args, []⟩).memory :=
  laidMetH_of_parts3 (fuel := 8) (laidMet_of_run' 8 (by kernel_rfl) (by kernel_rfl)) (by kernel_rfl) (by kernel_rfl)
theorem table {H : Type} : (Rows.laid_math_bits_deBruijn64tab : DataW H) = .agg (Q.dbtab.map fun n => .lit (.int .u8 n)) := rfl
theorem tab_of_laid {W : World} (h : laidMetH Tryd.prog laid W) : Q.Tab W := by
  replace h : laidMet Tryd.prog laid W := h
  obtain ⟨ps, ⟨g0, t0, cs0, f0, p0, q0, hg0, ht0, hv0, hd0, ⟨g1, t1, cs1, f1, p1, q1, hg1, ht1, hv1, hd1, hrest, _⟩, _⟩, _, _⟩ := h
  obtain rfl := Option.some.inj ((show Tryd.prog.globalNamed "math/bits.deBruijn64tab" = some 1 by kernel_rfl).symm.trans hg1)
  obtain rfl := Option.some.inj ((show (Tryd.prog.globals[1]?).map (·.type) = some 69 by kernel_rfl).symm.trans ht1)
  rw [table] at hd1
  obtain ⟨xs, m, _, hx, hl, hlen, hf⟩ := DataW.trod_array (n := 64) (e := 5) (by kernel_rfl) hd1
  simp only [Prod.mk.injEq, DataW.agg.injEq] at hx
  have hc : Tryd.prog.cellsOf 5 = 1 := by kernel_rfl
  have key : ∀ i : Nat, i < 64 → W.cell? ⟨1, i, none⟩ = some (.int .u8 (Q.dbtab.getD i 0)) := by
    intro i hi
    have h1 := hf i hi
    rw [hc, Nat.mul_one, List.getElem?_eq_getElem (by omega)] at h1
    obtain ⟨n, e1, e2, _⟩ := DataW.trod_int (k := .u8) Tryd.underlying5 h1
    have h2 := congrArg (fun l : List (DataW Unit) => l[i]?) hx.1
    simp only [List.getElem?_map, List.getElem?_eq_getElem (show i < xs.length by omega), Option.map_some, e2] at h2
    have hb : i < Q.dbtab.length := hi
    rw [List.getElem?_eq_getElem hb] at h2
    simp only [Option.map_some, Option.some.injEq, DataW.lit.injEq, Lit.int.injEq, true_and] at h2
    have h3 := World.var?_cell hg1 hv1 i
    rw [h3, List.getD_eq_getElem?_getD, List.getElem?_eq_getElem hb, Option.getD_some, h2]
    have h4 : (cs1.toList.drop i)[0]? = some (.int .u8 n) := by
      have := congrArg (fun l : List Value => l[0]?) e1
      simpa using this
    simpa using h4
  exact ⟨World.block_lt_of_cell? W _ (key 0 (by omega)), key⟩
end Go.Proofs.YtgdnljpallpjiaaDoor.Tied
namespace Go.Proofs.YtgdnljpallpjiaaDoor.Q
open Go.RowKit Go.Proofs.YtgdnljpallpjiaaDoorW.PrintWords Go.Proofs.YtgdnljpallpjiaaDoorW.PrintLast Go.Proofs.YtgdnljpallpjiaaDoorW.PrintMore
attribute [local go_sem] max2_int min2_int max_two min_two max_three min_three max_four min_four neB_f
set_option linter.unusedVariables false
set_option maxHeartbeats 8000000
set_option maxRecDepth 100000
set_option linter.unusedSimpArgs false
def laws_big.f (l0 : List Int) (l1 : List Int) : Option (Bool) := if (l0.length : Int) > 1048576 then (some true) else (some (decide ((l1.length : Int) > (wrap64 (1048576 - (l0.length : Int))))))
theorem laws_big.calls (A0 : Option Addr) (c0 : Nat) (l0 : List Int) (A1 : Option Addr) (c1 : Nat) (l1 : List Int) (r : Bool) (w : World) (hr0 : Kd.C (Kd.int .u8) w A0 l0.length l0) (hc0 : l0.length ≤ c0) (hr1 : Kd.C (Kd.int .u8) w A1 l1.length l1) (hc1 : l1.length ≤ c1) (h : laws_big.f l0 l1 = some r) :
  Calls Tryd.prog 4 #[.slice A0 l0.length c0, .slice A1 l1.length c1] w fun e w' => e = .returned (.bool r) ∧ Drawn0 w w' := by
 have HR0 := mkA hr0
 have HC0 := mkA hc0
 clear hr0 hc0
 have HR1 := mkA hr1
 have HC1 := mkA hc1
 clear hr1 hc1
 have H := h
 clear h
 unfold laws_big.f at H
 rcases iteP H with ⟨c3, H⟩ | ⟨c3, H⟩
 ·have c3b0 : decide (1048576 < (l0.length : Int)) = true := decide_eq_true c3
  have c3b1 : decide (1048576 < l0.length) = true := decide_eq_true (by omega)
  clear c3
  obtain rfl := Option.some.inj H
  go_enter Tryd.func4, Tryd.ntmps4
  go_wp2
  go_ret
  exact ⟨by first | rfl | (simp; done) | (simp [*]; done), by repeat (first | exact Drawn0.refl _ | apply Drawn0.step)⟩
 ·have c3b0 : decide (1048576 < (l0.length : Int)) = false := decide_eq_false c3
  have c3b1 : decide (1048576 < l0.length) = false := decide_eq_false (by omega)
  clear c3
  obtain rfl := Option.some.inj H
  go_enter Tryd.func4, Tryd.ntmps4
  go_wp2
  go_ret
  exact ⟨by first | rfl | (simp; done) | (simp [*]; done), by repeat (first | exact Drawn0.refl _ | apply Drawn0.step)⟩
end Go.Proofs.YtgdnljpallpjiaaDoor.Q
