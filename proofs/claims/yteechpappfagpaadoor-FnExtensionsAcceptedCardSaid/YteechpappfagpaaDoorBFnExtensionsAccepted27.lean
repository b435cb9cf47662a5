import Derived.Test.YteechpappfagpaaDoorBFnExtensionsAccepted0
import Derived.Test.YteechpappfagpaaDoorBFnExtensionsAccepted6
import Derived.Test.YteechpappfagpaaDoorBFnExtensionsAccepted8
import Derived.Test.YteechpappfagpaaDoorBFnExtensionsAccepted17
import Derived.Test.YteechpappfagpaaDoorBFnExtensionsAccepted18
import Derived.Test.YteechpappfagpaaDoorBFnExtensionsAccepted19
import Derived.Test.YteechpappfagpaaDoorBFnExtensionsAccepted20
import Derived.Test.YteechpappfagpaaDoorBFnExtensionsAccepted21
import Derived.Test.YteechpappfagpaaDoorBFnExtensionsAccepted23
import Derived.Test.YteechpappfagpaaDoorBFnExtensionsAccepted26
-- printed by this project's own program (wip/mp/mp.py) over the kit's print, for this seat; Lean checks it
namespace Go.Proofs.YteechpappfagpaaDoor.Q
open Go.RowKit Go.Proofs.YteechpappfagpaaDoorW.PrintWords Go.Proofs.YteechpappfagpaaDoorW.PrintLast Go.Proofs.YteechpappfagpaaDoorW.PrintMore
attribute [local go_sem] max2_int min2_int max_two min_two max_three min_three max_four min_four   -- for this text's walks alone
set_option linter.unusedVariables false
set_option maxHeartbeats 8000000
set_option maxRecDepth 100000
set_option linter.unusedSimpArgs false

/-! ### laws_pSame: function 70 -/
def laws_pSame.l0 : Nat → List Int → List Int → Int → Int → Option (Bool)
 | 0, _, _, _, _ => none
 | k + 1, x0, x1, x12, x13 => if x13 < x12 then (if 0 ≤ x13 then (if x13 < (x0.length : Int) then (if x13 < (x1.length : Int) then (if (rd x0 x13) = (rd x1 x13) then (laws_pSame.l0 k x0 x1 x12 (wrap64 (x13 + 1))) else (some false)) else (none)) else (none)) else (none)) else (some true)
def laws_pSame.f (k : Nat) (l0 : List Int) (l1 : List Int) : Option (Bool) := if (l0.length : Int) = (l1.length : Int) then (laws_pSame.l0 k l0 l1 (l0.length : Int) 0) else (some false)
theorem laws_pSame.mono_l : ∀ k, (∀ y0 y1 y2 y3, LeO (laws_pSame.l0 k y0 y1 y2 y3) (laws_pSame.l0 (k + 1) y0 y1 y2 y3))
 | 0 => fun _ _ _ _ r h => by simp [laws_pSame.l0] at h
 | k + 1 => by
  have ih0 := laws_pSame.mono_l k
  ·intro y0 y1 y2 y3
   unfold laws_pSame.l0
   repeat' (with_reducible first|exact ih0 _ _ _ _|exact LeO.refl _|exact LeO.none _|refine LeO.ite ?_ ?_|refine LeO.bind ?_ (fun _ => ?_))
theorem laws_pSame.mono : ∀ a0 a1 k, LeO (laws_pSame.f k a0 a1) (laws_pSame.f (k + 1) a0 a1) := by
 intro a0 a1 k
 have ih0 := laws_pSame.mono_l k
 unfold laws_pSame.f
 repeat' (with_reducible first|exact ih0 _ _ _ _|exact LeO.refl _|exact LeO.none _|refine LeO.ite ?_ ?_|refine LeO.bind ?_ (fun _ => ?_))
theorem laws_pSame.calls (k : Nat) (A0 : Option Addr) (c0 : Nat) (l0 : List Int) (A1 : Option Addr) (c1 : Nat) (l1 : List Int) (r : Bool) (w : World) (hr0 : Kd.C (Kd.int .i64) w A0 l0.length l0) (hc0 : l0.length ≤ c0) (hr1 : Kd.C (Kd.int .i64) w A1 l1.length l1) (hc1 : l1.length ≤ c1) (h : laws_pSame.f k l0 l1 = some r) :
  Calls Tryd.prog 70 #[.slice A0 l0.length c0, .slice A1 l1.length c1] w fun e w' => e = .returned (.bool r) ∧ Drawn0 w w' := by
 have HR0 := Aside0.mk hr0
 have HC0 := Aside0.mk hc0
 clear hr0 hc0
 have HR1 := Aside0.mk hr1
 have HC1 := Aside0.mk hc1
 clear hr1 hc1
 have H : (if (l0.length : Int) = (l1.length : Int) then (laws_pSame.l0 k l0 l1 (l0.length : Int) 0) else (some false)) = some r := h
 clear h
 rcases iteP H with ⟨c3, H⟩ | ⟨c3, H⟩
 ·have c3b0 : ((l0.length : Int) == (l1.length : Int)) = true := beq_iff_eq.mpr c3
  have c3b1 : ((l0.length : Int) != (l1.length : Int)) = false := bne_eq_false_iff_eq.mpr c3
  have c3b2 : (l0.length == l1.length) = true := by first | simpa using c3 | (simp at c3 ⊢; omega)
  clear c3
  have H' := Aside0.mk H
  clear H
  go_enter Tryd.func70, Tryd.ntmps70
  go_wp2
  repeat (go_quiet (fail); try go_wp2)
  go_loopg [13] k (fun kq v13 w' => ∃ (x13_1 : Int), v13 = .int .i64 x13_1 ∧ Aside0 (laws_pSame.l0 kq l0 l1 (l0.length : Int) x13_1 = some r) ∧ Aside0 (kq ≤ k) ∧ Drawn0 w w')
  case atStart => exact ⟨(0), eqS, H', ⟨Nat.le_refl _⟩, by repeat (first | exact Drawn0.refl _ | apply Drawn0.step)⟩
  case round =>
   clear H'
   try clear c1
   try clear c3
   try clear c3b0
   try clear c3b1
   try clear c3b2
   obtain ⟨x13_1, rfl, HA, HK1, ⟨m1, rfl⟩⟩ := hrel
   cases gk with
   | zero => exact absurd HA.out (by simp [laws_pSame.l0])
   | succ k1 =>
    have H := HA.out
    clear HA
    simp only [laws_pSame.l0] at H
    rcases iteE H with ⟨c4b0, H⟩ | ⟨c4b0, H⟩
    ·rcases iteP H with ⟨c5, H⟩ | ⟨c5, H⟩
     ·have c5b0 : decide (0 ≤ x13_1) = true := decide_eq_true c5
      clear c5
      rcases iteP H with ⟨c6, H⟩ | ⟨c6, H⟩
      ·have c6b0 : decide (x13_1 < (l0.length : Int)) = true := decide_eq_true c6
       clear c6
       rcases iteP H with ⟨c7, H⟩ | ⟨c7, H⟩
       ·have c7b0 : decide (x13_1 < (l1.length : Int)) = true := decide_eq_true c7
        clear c7
        rcases iteP H with ⟨c8, H⟩ | ⟨c8, H⟩
        ·have c8b0 : ((rd l0 x13_1) == (rd l1 x13_1)) = true := beq_iff_eq.mpr c8
         have c8b1 : ((rd l0 x13_1) != (rd l1 x13_1)) = false := bne_eq_false_iff_eq.mpr c8
         clear c8
         have H' := Aside0.mk H
         clear H
         have p866 : 0 ≤ (x13_1 : Int) := ofd
         have q866 : x13_1 < (l0.length : Int) := ofd
         obtain ⟨ad866, e866, hx866_0⟩ := Kd.at_int HR0.out x13_1 p866 q866
         cases e866
         replace p866 := eq_true p866
         replace q866 := eq_true q866
         have p867 : 0 ≤ (x13_1 : Int) := ofd
         have q867 : x13_1 < (l1.length : Int) := ofd
         obtain ⟨ad867, e867, hx867_0⟩ := Kd.at_int HR1.out x13_1 p867 q867
         cases e867
         replace p867 := eq_true p867
         replace q867 := eq_true q867
         go_wp2
         repeat (go_quiet (fail); try go_wp2)
         go_roundg k1
         case measure => have := HK1.out; omega
         case rel => exact ⟨(wrap64 (x13_1 + 1)), eqS, H', ⟨by have := HK1.out; omega⟩, by repeat (first | exact Drawn0.refl _ | apply Drawn0.step)⟩
        ·have c8b0 : ((rd l0 x13_1) == (rd l1 x13_1)) = false := beq_eq_false_iff_ne.mpr c8
         have c8b1 : ((rd l0 x13_1) != (rd l1 x13_1)) = true := bne_iff_ne.mpr c8
         obtain rfl := Option.some.inj H
         have p866 : 0 ≤ (x13_1 : Int) := ofd
         have q866 : x13_1 < (l0.length : Int) := ofd
         obtain ⟨ad866, e866, hx866_0⟩ := Kd.at_int HR0.out x13_1 p866 q866
         cases e866
         replace p866 := eq_true p866
         replace q866 := eq_true q866
         have p867 : 0 ≤ (x13_1 : Int) := ofd
         have q867 : x13_1 < (l1.length : Int) := ofd
         obtain ⟨ad867, e867, hx867_0⟩ := Kd.at_int HR1.out x13_1 p867 q867
         cases e867
         replace p867 := eq_true p867
         replace q867 := eq_true q867
         go_wp2
         repeat (go_quiet (fail); try go_wp2)
         go_ret
         exact ⟨by first | rfl | (simp; done) | (simp [*]; done), by repeat (first | exact Drawn0.refl _ | apply Drawn0.step)⟩
       ·exact absurd H (by simp)
      ·exact absurd H (by simp)
     ·exact absurd H (by simp)
    ·obtain rfl := Option.some.inj H
     go_wp2
     repeat (go_quiet (fail); try go_wp2)
     go_ret
     exact ⟨by first | rfl | (simp; done) | (simp [*]; done), by repeat (first | exact Drawn0.refl _ | apply Drawn0.step)⟩
 ·have c3b0 : ((l0.length : Int) == (l1.length : Int)) = false := beq_eq_false_iff_ne.mpr c3
  have c3b1 : ((l0.length : Int) != (l1.length : Int)) = true := bne_iff_ne.mpr c3
  have c3b2 : (l0.length == l1.length) = false := by first | simpa using c3 | (simp at c3 ⊢; omega)
  obtain rfl := Option.some.inj H
  go_enter Tryd.func70, Tryd.ntmps70
  go_wp2
  repeat (go_quiet (fail); try go_wp2)
  go_ret
  exact ⟨by first | rfl | (simp; done) | (simp [*]; done), by repeat (first | exact Drawn0.refl _ | apply Drawn0.step)⟩

end Go.Proofs.YteechpappfagpaaDoor.Q

-- printed by this project's own program (wip/mp/mp.py) over the kit's print, for this seat; Lean checks it
namespace Go.Proofs.YteechpappfagpaaDoor.Q
open Go.RowKit Go.Proofs.YteechpappfagpaaDoorW.PrintWords Go.Proofs.YteechpappfagpaaDoorW.PrintLast Go.Proofs.YteechpappfagpaaDoorW.PrintMore
attribute [local go_sem] max2_int min2_int max_two min_two max_three min_three max_four min_four   -- for this text's walks alone
set_option linter.unusedVariables false
set_option maxHeartbeats 8000000
set_option maxRecDepth 100000
set_option linter.unusedSimpArgs false

/-! ### laws_pSameOrder: function 44 -/
def laws_pSameOrder.f (k : Nat) (a0_0 : Int) (l0_1 : List Int) (a1_0 : Int) (l1_1 : List Int) : Option (Bool) := if a0_0 = a1_0 then ((laws_pSame.f k l0_1 l1_1).bind fun t870 => (some t870)) else (some false)
theorem laws_pSameOrder.mono : ∀ a0 a1 a2 a3 k, LeO (laws_pSameOrder.f k a0 a1 a2 a3) (laws_pSameOrder.f (k + 1) a0 a1 a2 a3) := by
 intro a0 a1 a2 a3 k
 unfold laws_pSameOrder.f
 repeat' (with_reducible first|exact laws_pSame.mono _ _ _|exact LeO.refl _|exact LeO.none _|refine LeO.ite ?_ ?_|refine LeO.bind ?_ (fun _ => ?_))
theorem laws_pSameOrder.calls (k : Nat) (a0_0 : Int) (A0_1 : Option Addr) (c0_1 : Nat) (l0_1 : List Int) (a1_0 : Int) (A1_1 : Option Addr) (c1_1 : Nat) (l1_1 : List Int) (r : Bool) (w : World) (hr0_1 : Kd.C (Kd.int .i64) w A0_1 l0_1.length l0_1) (hc0_1 : l0_1.length ≤ c0_1) (hr1_1 : Kd.C (Kd.int .i64) w A1_1 l1_1.length l1_1) (hc1_1 : l1_1.length ≤ c1_1) (h : laws_pSameOrder.f k a0_0 l0_1 a1_0 l1_1 = some r) :
  Calls Tryd.prog 44 #[.agg #[.int .i64 a0_0, .slice A0_1 l0_1.length c0_1], .agg #[.int .i64 a1_0, .slice A1_1 l1_1.length c1_1]] w fun e w' => e = .returned (.bool r) ∧ Below w.heap.size w w' := by
 have hu28 := Tryd.underlying28
 have HR0_1 := Aside0.mk hr0_1
 have HC0_1 := Aside0.mk hc0_1
 clear hr0_1 hc0_1
 have HR1_1 := Aside0.mk hr1_1
 have HC1_1 := Aside0.mk hc1_1
 clear hr1_1 hc1_1
 have HB := Aside0.mk (Below.refl w.heap.size w)
 have H : (if a0_0 = a1_0 then ((laws_pSame.f k l0_1 l1_1).bind fun t870 => (some t870)) else (some false)) = some r := h
 clear h
 rcases iteP H with ⟨c3, H⟩ | ⟨c3, H⟩
 ·have c3b0 : (a0_0 == a1_0) = true := beq_iff_eq.mpr c3
  have c3b1 : (a0_0 != a1_0) = false := bne_eq_false_iff_eq.mpr c3
  clear c3
  obtain ⟨t870, A4, H⟩ := obE H
  obtain rfl := Option.some.inj H
  go_enter Tryd.func44, Tryd.ntmps44
  go_wp2_with (first | ((with_reducible refine gate_dst (N := 2) rfl ?_); refine boxE (N := 2) (cs := #[.int .i64 a0_0, .slice A0_1 l0_1.length c0_1]) (t := 28) ?_; intro gb868 hg w5 hbox hb; have BK868 := Aside0.mk (hbox); have GE868 := geB HB hg; replace HB := bst HB hb; clear hb hbox hg) | ((with_reducible refine gate_dst (N := 3) rfl ?_); refine boxE (N := 3) (cs := #[.int .i64 a1_0, .slice A1_1 l1_1.length c1_1]) (t := 28) ?_; intro gb869 hg w6 hbox hb; have BK869 := Aside0.mk (hbox); have GE869 := geB HB hg; have NB868_869 := neL BK868 hg; have NB869_868 := neR BK868 hg; replace BK868 := blkB BK868 hb; replace HB := bst HB hb; clear hb hbox hg; have hnb7 := NB868_869.out; have hnc7 := NB869_868.out; obtain ⟨hcz8_0, hcz8_1, hfz8_0, hfz8_1⟩ := blk2 BK868; obtain ⟨hcz9_0, hcz9_1, hfz9_0, hfz9_1⟩ := blk2 BK869) | (go_at_call 70; (with_reducible refine (laws_pSame.calls k _ _ l0_1 _ _ l1_1 t870 _ ?side1 ?side2 ?side3 ?side4 A4.out).mono ?_); (case side1 => exact C_g HR0_1 HB); (case side2 => exact HC0_1.out); (case side3 => exact C_g HR1_1 HB); (case side4 => exact HC1_1.out); rintro e w' ⟨rfl, ⟨nd, rfl⟩⟩))
  go_ret
  exact ⟨eqE, bel_g HB.out⟩
 ·have c3b0 : (a0_0 == a1_0) = false := beq_eq_false_iff_ne.mpr c3
  have c3b1 : (a0_0 != a1_0) = true := bne_iff_ne.mpr c3
  obtain rfl := Option.some.inj H
  go_enter Tryd.func44, Tryd.ntmps44
  go_wp2_with (first | ((with_reducible refine gate_dst (N := 2) rfl ?_); refine boxE (N := 2) (cs := #[.int .i64 a0_0, .slice A0_1 l0_1.length c0_1]) (t := 28) ?_; intro gb868 hg w10 hbox hb; have BK868 := Aside0.mk (hbox); have GE868 := geB HB hg; replace HB := bst HB hb; clear hb hbox hg) | ((with_reducible refine gate_dst (N := 3) rfl ?_); refine boxE (N := 3) (cs := #[.int .i64 a1_0, .slice A1_1 l1_1.length c1_1]) (t := 28) ?_; intro gb869 hg w11 hbox hb; have BK869 := Aside0.mk (hbox); have GE869 := geB HB hg; have NB868_869 := neL BK868 hg; have NB869_868 := neR BK868 hg; replace BK868 := blkB BK868 hb; replace HB := bst HB hb; clear hb hbox hg; have hnb12 := NB868_869.out; have hnc12 := NB869_868.out; obtain ⟨hcz13_0, hcz13_1, hfz13_0, hfz13_1⟩ := blk2 BK868; obtain ⟨hcz14_0, hcz14_1, hfz14_0, hfz14_1⟩ := blk2 BK869))
  go_ret
  exact ⟨eqE, bel_g HB.out⟩

end Go.Proofs.YteechpappfagpaaDoor.Q

namespace Go.Proofs.YteechpappfagpaaDoor.Pure
open Go.RowKit Go.Proofs.YteechpappfagpaaDoor.Q Go.Proofs.YteechpappfagpaaDoorW.PrintWords Go.Proofs.YteechpappfagpaaDoorW.PrintLast
set_option linter.unusedVariables false
set_option linter.unusedSimpArgs false

-- the statements' own comparisons
theorem pIn_all : ∀ x : Fin 1024, ∀ j : Fin 10, laws_pIn.f (x.val : Int) (j.val : Int) = some (bit (x.val : Int) j.val) := by decide +kernel
theorem pIn_f {x : Int} (h0 : 0 ≤ x) (h1 : x < 1024) {j : Nat} (hj : j < 10) : laws_pIn.f x (j : Int) = some (bit x j) := by
  obtain ⟨m, rfl⟩ : ∃ m : Nat, x = m := ⟨x.toNat, by omega⟩
  exact pIn_all ⟨m, by omega⟩ ⟨j, hj⟩
theorem pSame_l (l m : List Int) (hlm : l.length = m.length) (hl : l.length ≤ 1048576) (d : Nat) : ∀ i : Nat, i + d = l.length → Ev (fun k => laws_pSame.l0 k l m (l.length : Int) (i : Int)) (l.drop i == m.drop i) := by
  induction d with
  | zero =>
    intro i hi
    refine Ev.shift ?_
    simp only [laws_pSame.l0]
    refine Ev.neg (by omega) (Ev.ret ?_)
    rw [List.drop_of_length_le (by omega), List.drop_of_length_le (by omega)]; rfl
  | succ d ih =>
    intro i hi
    have e := ih (i + 1) (by omega)
    have f1 : (i : Int) < l.length := by omega
    have f2 : (i : Int) < m.length := by omega
    refine Ev.shift ?_
    simp only [laws_pSame.l0]
    refine Ev.pos f1 (Ev.pos (by omega) (Ev.pos f1 (Ev.pos f2 ?_)))
    rw [wrap64_id (by omega) (by omega), cast1, drop_rd l i (by omega), drop_rd m i (by omega)]
    by_cases hc : rd l (i : Int) = rd m (i : Int)
    · refine Ev.pos hc (Ev.eq e ?_)
      rw [hc]; simp
    · refine Ev.neg hc (Ev.ret ?_)
      symm; rw [beq_eq_false_iff_ne]; intro h; exact hc (List.cons.inj h).1
theorem pSame_ev (l m : List Int) (hl : l.length ≤ 1048576) : Ev (fun k => laws_pSame.f k l m) (l == m) := by
  unfold laws_pSame.f
  by_cases h : (l.length : Int) = m.length
  · refine Ev.pos h ?_
    simpa using pSame_l l m (by omega) hl l.length 0 (by omega)
  · refine Ev.neg h (Ev.ret ?_)
    symm; rw [beq_eq_false_iff_ne]; intro e; exact h (by rw [e])
theorem pSameOrder_ev (n : Int) (l : List Int) (n' : Int) (m : List Int) (hl : l.length ≤ 1048576) : Ev (fun k => laws_pSameOrder.f k n l n' m) (decide (n = n') && (l == m)) := by
  unfold laws_pSameOrder.f
  by_cases h : n = n'
  · exact Ev.pos h (Ev.bind (pSame_ev l m hl) (Ev.ret (by simp [h])))
  · exact Ev.neg h (Ev.ret (by simp [h]))
theorem pSameOrder_self (n : Int) (l : List Int) (hl : l.length ≤ 1048576) : Ev (fun k => laws_pSameOrder.f k n l n l) true := Ev.eq (pSameOrder_ev n l n l hl) (by simp)

end Go.Proofs.YteechpappfagpaaDoor.Pure

/- A list is accepted as an extension exactly if it has each element once and what is better later, for every two strings of bytes. Condition: the listed variables, tied to the program's text by the card. -/
namespace Go.Proofs.YteechpappfagpaaDoor.Pure
open Go.RowKit Go.Proofs.YteechpappfagpaaDoor.Q Go.Proofs.YteechpappfagpaaDoorW.PrintWords Go.Proofs.YteechpappfagpaaDoorW.PrintLast
set_option linter.unusedVariables false
set_option linter.unusedSimpArgs false

theorem iIsExt_ev {n : Int} {L : List Int} (h : orderP n L) (l : List Int) (hl : l.length ≤ 1000) : Ev (fun k => impl_IsExtension.f k n L l) (decide (extP n L l), true) := by
  have h1 := h.1.1; have h2 := h.1.2.1
  unfold impl_IsExtension.f
  exact Ev.bind (isOrder_ev n L (by omega)) (Ev.pos (by simpa using h) (Ev.bind (isExt_ev h.1 l hl) (Ev.ret rfl)))
theorem iIsExt_no {n : Int} {L : List Int} (hL : L.length ≤ 1048576) (h : ¬ orderP n L) (l : List Int) : Ev (fun k => impl_IsExtension.f k n L l) (false, false) := by
  unfold impl_IsExtension.f
  exact Ev.bind (isOrder_ev n L hL) (Ev.neg (by simpa using h) (Ev.ret rfl))
theorem sIsExt_ev {n : Int} {L : List Int} (h : orderP n L) (l : List Int) (hl : l.length ≤ 1000) : Ev (fun k => spec_IsExtension.f k n L l) (decide (extP n L l), true) := by
  have h1 := h.1.1; have h2 := h.1.2.1
  unfold spec_IsExtension.f
  exact Ev.bind (orGood_ev n L (by omega)) (Ev.pos (by simpa using h) (Ev.bind (orExtends_ev h.1 l hl) (Ev.ret rfl)))
theorem sIsExt_no {n : Int} {L : List Int} (hL : L.length ≤ 1048576) (h : ¬ orderP n L) (l : List Int) : Ev (fun k => spec_IsExtension.f k n L l) (false, false) := by
  unfold spec_IsExtension.f
  exact Ev.bind (orGood_ev n L hL) (Ev.neg (by simpa using h) (Ev.ret rfl))
theorem drawExt {c : List Int} (hc : bytesP c) : ∃ n L l, Ev (fun k => spec_DrawIsExtension.f k c) (n, L, l) ∧ nearW (n, L) ∧ l.length ≤ 12 := by
  obtain ⟨n, L, a', s', he, hn, h2, h3⟩ := anyOrder_d hc (a := 0) 0 6 (by omega) (by omega) ⟨by omega, by omega⟩
  have hl : L.length ≤ 10 := hn.2.1
  unfold spec_DrawIsExtension.f
  have hm : ∃ m : Int, spec_l1Most.f 0 n = some m ∧ 0 ≤ m := by
    unfold spec_l1Most.f
    by_cases h : (0 : Int) > n
    · exact ⟨0, if_pos h, by omega⟩
    · exact ⟨n, if_neg h, by omega⟩
  obtain ⟨m, hm, hm0⟩ := hm
  have hnames : ∀ (a s : Int), 0 ≤ a → a ≤ 1000 → ∃ l, Ev (fun k => spec_DrawIsExtension.j0 k false c a s n L) (n, L, l) ∧ l.length ≤ 12 := by
    intro a s h0 h1
    obtain ⟨l, a2, s2, e2, hl2, _, _⟩ := names_d hc (a := a) s m hm0 h0 (by omega)
    refine ⟨l, Ev.shift ?_, hl2⟩
    simp only [spec_DrawIsExtension.j0]
    exact Ev.neg (by simp) (Ev.bindc hm (Ev.bind e2 (Ev.ret rfl)))
  by_cases h : orderP n L
  · obtain ⟨b, a1, s1, e1, _, h4, h5⟩ := one_d hc (a := a') s' 2 (by omega) (by omega) (by omega)
    cases b with
    | true =>
      obtain ⟨G, hG, hGl⟩ := orFirst_ev h
      refine ⟨n, L, G, Ev.bind he (Ev.bind (orGood_ev n L (by omega)) (Ev.pos (by simpa using h) (Ev.bindc e1 (Ev.shift ?_)))), hn, by omega⟩
      simp only [spec_DrawIsExtension.j0]
      exact Ev.pos (by simp) (Ev.bind hG (Ev.ret rfl))
    | false =>
      obtain ⟨l, hl1, hl2⟩ := hnames a1 s1 (by omega) (by omega)
      exact ⟨n, L, l, Ev.bind he (Ev.bind (orGood_ev n L (by omega)) (Ev.pos (by simpa using h) (Ev.bindc e1 hl1))), hn, hl2⟩
  · obtain ⟨l, hl1, hl2⟩ := hnames a' s' (by omega) (by omega)
    exact ⟨n, L, l, Ev.bind he (Ev.bind (orGood_ev n L (show L.length ≤ 1048576 by omega)) (Ev.neg (by simpa using h) hl1)), hn, hl2⟩
theorem pLess_l {n : Int} {L F l : List Int} (h : orderP n L) (hF : early L F) (hFl : F.length = L.length) (hl : extP n L l) (d : Nat) : ∀ q : Nat, q + d = l.length → l.take q = F.take q → Ev (fun k => laws_pLess.l0 k l F (q : Int)) false := by
  have h1 := h.1.1; have h2 := h.1.2.1
  have hll : (l.length : Int) = n := hl.1.1
  induction d with
  | zero =>
    intro q hq hs
    refine Ev.shift ?_
    simp only [laws_pLess.l0]
    refine Ev.neg (by omega) (Ev.shift ?_)
    simp only [laws_pLess.j1]
    exact Ev.neg (by simp) (Ev.ret (by simp; omega))
  | succ d ih =>
    intro q hq hs
    have hle := early_le h hF hl q (by omega) (by omega) hs
    have f1 : (q : Int) < (F.length : Int) := by omega
    refine Ev.shift ?_
    simp only [laws_pLess.l0]
    refine Ev.pos (by omega) (Ev.shift ?_)
    simp only [laws_pLess.j1]
    refine Ev.pos (by simpa using f1) (Ev.pos (by omega) (Ev.pos (by omega) (Ev.pos f1 ?_)))
    rw [wrap64_id (by omega) (by omega), cast1]
    by_cases hc : rd l (q : Int) = rd F (q : Int)
    · exact Ev.pos hc (ih (q + 1) (by omega) (by rw [take_snoc l q (by omega), take_snoc F q (by omega), hs, hc]))
    · exact Ev.neg hc (Ev.ret (by simp; omega))
theorem acc_l1 {n : Int} {L l : List Int} (h : orderP n L) (hl : extP n L l) (i : Nat) (hi : i < l.length) (hk : Ev (fun k => laws_FnExtensionsAccepted.l0 k l l (l.length : Int) ((i + 1 : Nat) : Int) n L) true) (d : Nat) : ∀ q : Nat, q + d = i →
    Ev (fun k => laws_FnExtensionsAccepted.l1 k l (rd l (i : Int)) l (l.length : Int) (i : Int) (l.take i) ((l.take i).length : Int) (q : Int) n L) true := by
  have h1 := h.1.1; have h2 := h.1.2.1
  have hll : (l.length : Int) = n := hl.1.1
  have htl : (l.take i).length = i := by rw [List.length_take]; omega
  obtain ⟨N, hN⟩ : ∃ N : Nat, n = N := ⟨n.toNat, by omega⟩
  have hnod := namP.nodup (N := N) (by omega) (hN ▸ hl.1)
  induction d with
  | zero =>
    intro q hq
    refine Ev.shift ?_
    simp only [laws_FnExtensionsAccepted.l1]
    refine Ev.neg (by omega) ?_
    rw [wrap64_id (by omega) (by omega), cast1]; exact hk
  | succ d ih =>
    intro q hq
    have e := ih (q + 1) (by omega)
    have er : rd (l.take i) (q : Int) = rd l (q : Int) := by rw [rd_lt _ q (by omega), rd_lt l q (by omega)]; simp
    obtain ⟨a, ha, ha2⟩ := rd_in hl.1.2.1 (k := i) (by omega)
    obtain ⟨b, hb, hb2⟩ := rd_in hl.1.2.1 (k := q) (by omega)
    have hne : ¬ rd l (i : Int) = rd l (q : Int) := fun e2 => by have := nodup_at hnod hi (by omega) e2; omega
    have hnb : bit (rd L (a : Int)) b = false := by
      cases hq2 : bit (rd L (a : Int)) b
      · rfl
      · have := (okAt_iff h.1 (fun x hx => by have := hl.1.2.1 x hx; omega) hb (by omega)).1 (hl.2 q (by omega)) a (by omega) hq2
        obtain ⟨p, hp, he⟩ := (mem_take_rd (by omega)).1 this
        have := nodup_at hnod (i := p) (j := i) (by omega) hi (by rw [he, ha])
        omega
    refine Ev.shift ?_
    simp only [laws_FnExtensionsAccepted.l1]
    rw [er]
    refine Ev.pos (by omega) (Ev.pos (by omega) (Ev.pos (by omega) (Ev.neg hne ?_)))
    rw [ha, hb]
    refine Ev.pos (by omega) (Ev.pos (by omega) (Ev.bindc (pIn_f (h.1.set (by omega)).1 (h.1.set (by omega)).2 (by omega)) (Ev.neg (by rw [hnb]; simp) ?_)))
    rw [wrap64_id (by omega) (by omega), cast1, ← ha]; exact e
theorem acc_l0 {n : Int} {L l : List Int} (h : orderP n L) (hl : extP n L l) (d : Nat) : ∀ i : Nat, i + d = l.length → Ev (fun k => laws_FnExtensionsAccepted.l0 k l l (l.length : Int) (i : Int) n L) true := by
  have h1 := h.1.1; have h2 := h.1.2.1
  have hll : (l.length : Int) = n := hl.1.1
  induction d with
  | zero =>
    intro i hi
    refine Ev.shift ?_
    simp only [laws_FnExtensionsAccepted.l0]
    exact Ev.neg (by omega) (Ev.ret rfl)
  | succ d ih =>
    intro i hi
    refine Ev.shift ?_
    simp only [laws_FnExtensionsAccepted.l0]
    refine Ev.pos (by omega) (Ev.pos (by omega) (Ev.pos (by omega) (Ev.pos (by omega) (Ev.bindc rfl ?_))))
    rw [Int.toNat_natCast]
    exact acc_l1 h hl i (by omega) (ih (i + 1) (by omega)) i 0 (by omega)
theorem FnExtensionsAccepted (l0 : List Int) (hm0 : l0.length ≤ maxLen) (hw0 : ∀ x ∈ l0, (Lit.int .u8 x).wf = true) (l1 : List Int) (hm1 : l1.length ≤ maxLen) (hw1 : ∀ x ∈ l1, (Lit.int .u8 x).wf = true) : ∃ k, laws_FnExtensionsAccepted.f k l0 l1 = some true := by
  refine Ev.at1 ?_
  unfold laws_FnExtensionsAccepted.f
  obtain ⟨b, hb⟩ := big_f l0 l1 hm0
  refine Ev.bindc hb ?_
  by_cases hbt : b = true
  · exact Ev.pos hbt (Ev.ret rfl)
  refine Ev.neg hbt ?_
  obtain ⟨n, L, l, hd, hn, hll⟩ := drawExt (bytesP.of hw0)
  have hL : L.length ≤ 10 := hn.2.1
  refine Ev.bind hd ?_
  by_cases h : orderP n L
  · refine Ev.bind (iIsExt_ev h l (by omega)) (Ev.bind (sIsExt_ev h l (by omega)) (Ev.neg (by simp) (Ev.shift ?_)))
    simp only [laws_FnExtensionsAccepted.j0]
    refine Ev.neg (by simp) ?_
    by_cases he : extP n L l
    · obtain ⟨F, hF, hFl, hFe⟩ := iFirst_ev h
      have hp : Ev (fun k => laws_pLess.f k l F) false := by
        unfold laws_pLess.f
        exact pLess_l h hFe hFl he l.length 0 (by omega) (by simp)
      refine Ev.pos (by simpa using he) (Ev.bind hF (Ev.pos rfl (Ev.bind hp (Ev.neg (by simp) (Ev.shift ?_)))))
      simp only [laws_FnExtensionsAccepted.j1]
      have e1 : (l.length : Int) = n := he.1.1
      exact Ev.neg (by simp [e1]) (acc_l0 h he l.length 0 (by omega))
    · exact Ev.neg (by simpa using he) (Ev.ret rfl)
  · refine Ev.bind (iIsExt_no (show L.length ≤ 1048576 by omega) h l) (Ev.bind (sIsExt_no (show L.length ≤ 1048576 by omega) h l) (Ev.neg (by simp) (Ev.shift ?_)))
    simp only [laws_FnExtensionsAccepted.j0]
    exact Ev.neg (by simp) (Ev.neg (by simp) (Ev.ret rfl))

end Go.Proofs.YteechpappfagpaaDoor.Pure
