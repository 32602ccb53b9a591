import Derived.Test.YtoadabodhdgdjaaDoorProg
import Derived.Below
import Derived.Deep.Draws
import Derived.Deep.AppendLies
import Derived.Maps.AppendAt
import Derived.OwnWalk
import Derived.Laws.BytesArg
import Derived.Laws.MakeOwn
import Derived.Laws.OwnMore
import Derived.Deep.OwnRows
import Derived.Tactics
import Derived.Lib.ConvBytes
import Derived.Laws.Slices
import Derived.WalkKit
import Derived.KernelRfl
import Derived.RowKit3
import Derived.Deep.LoopGhost
import Derived.Deep.QuietTactic
import Derived.BigQuiet
import Derived.WideLaws
import Derived.Deep.DeepCutAuto
import Derived.Deep.CutBlock
import Derived.Deep.RegionHeld3
import Derived.Laws.Rows
import Derived.Lib.AppendStr
import Derived.ArgAppend
import Derived.Laws.IdiomCopy
import Derived.OrdersHeld
import Derived.Laws.BitsLemmas
import Derived.RowKit
import Derived.Test.YtoadabodhdgdjaaDoorQStZe
import Derived.Test.YtoadabodhdgdjaaDoorQW1
import Derived.Test.YtoadabodhdgdjaaDoorQS0
namespace Go.Proofs.YtoadabodhdgdjaaDoor.CD
open Go.RowKit Go.Proofs.YtoadabodhdgdjaaDoorW.PrintWords Go.Proofs.YtoadabodhdgdjaaDoorW.PrintLast Go.Proofs.YtoadabodhdgdjaaDoorW.PrintMore
attribute [local go_sem] max2_int min2_int max_two min_two max_three min_three max_four min_four   
open Go.Proofs.YtoadabodhdgdjaaDoor.Sg
set_option linter.unusedVariables false
set_option linter.unusedSimpArgs false
def errW : Option Int → Value
 | none => .nilIface
 | some c => .iface 0 (.int .i64 c)
theorem errW_none : errW none = .nilIface := rfl
theorem errW_some (c : Int) : errW (some c) = .iface 0 (.int .i64 c) := rfl
end Go.Proofs.YtoadabodhdgdjaaDoor.CD
namespace Go.Proofs.YtoadabodhdgdjaaDoor.CD
open Go.Proofs.YtoadabodhdgdjaaDoor.S0
open Go.RowKit Go.Proofs.YtoadabodhdgdjaaDoorW.PrintWords Go.Proofs.YtoadabodhdgdjaaDoorW.PrintLast Go.Proofs.YtoadabodhdgdjaaDoorW.PrintMore
attribute [local go_sem] max2_int min2_int max_two min_two max_three min_three max_four min_four   
open Go.Proofs.YtoadabodhdgdjaaDoor.Sg
set_option linter.unusedVariables false
set_option linter.unusedSimpArgs false
def barscanlaw29_same.l0 : Nat → List Int → List Int → Int → Option (Bool)
 | 0, _, _, _ => none
 | k + 1, x0, x1, x5 => if x5 < (x0.length : Int) then (if 0 ≤ x5 then (if x5 < (x1.length : Int) then (if (rd x0 x5) = (rd x1 x5) then (barscanlaw29_same.l0 k x0 x1 (wrap64 (x5 + 1))) else (some false)) else (none)) else (none)) else (some true)
def barscanlaw29_same.f (k : Nat) (l0 : List Int) (l1 : List Int) : Option (Bool) := if (l0.length : Int) = (l1.length : Int) then (barscanlaw29_same.l0 k l0 l1 0) else (some false)
set_option maxHeartbeats 8000000 in
set_option maxRecDepth 100000 in
theorem barscanlaw29_same.calls (k : Nat) (A0 : Option Addr) (c0 : Nat) (l0 : List Int) (A1 : Option Addr) (c1 : Nat) (l1 : List Int) (r : Bool) (w : World) (hr0 : Kd.C (Kd.int .i64) w A0 l0.length l0) (hc0 : l0.length ≤ c0) (hr1 : Kd.C (Kd.int .i64) w A1 l1.length l1) (hc1 : l1.length ≤ c1) (h : barscanlaw29_same.f k l0 l1 = some r) :
  Calls Tryd.prog 15 #[.slice A0 l0.length c0, .slice A1 l1.length c1] w fun e w' => e = .returned (.bool r) ∧ Drawn0 w w' := by
 have HR0 := am hr0
 have HC0 := am hc0
 clear hr0 hc0
 have HR1 := am hr1
 have HC1 := am hc1
 clear hr1 hc1
 have H : (if (l0.length : Int) = (l1.length : Int) then (barscanlaw29_same.l0 k l0 l1 0) else (some false)) = some r := h
 clear h
 by_cases c3 : (l0.length : Int) = (l1.length : Int)
 ·rw [if_pos c3] at H
  have c3b0 : ((l0.length : Int) == (l1.length : Int)) = true := beq_iff_eq.mpr c3
  have c3b1 : ((l0.length : Int) != (l1.length : Int)) = false := bne_eq_false_iff_eq.mpr c3
  have c3b2 : (l0.length == l1.length) = true := by first | simpa using c3 | (simp at c3 ⊢; omega)
  clear c3
  have H' := am H
  clear H
  go_enter Tryd.func15, Tryd.ntmps15
  go_wp2
  repeat (go_quiet (fail); try go_wp2)
  go_loopg [5] k (fun kq v5 w' => ∃ (x5_1 : Int), v5 = .int .i64 x5_1 ∧ Aside0 (barscanlaw29_same.l0 kq l0 l1 x5_1 = some r) ∧ Aside0 (kq ≤ k) ∧ Drawn0 w w')
  case atStart => exact ⟨(0), (by first | rfl | (simp; done) | (simp [*]; done)), H', ⟨Nat.le_refl _⟩, by repeat (first | exact Drawn0.refl _ | apply Drawn0.step)⟩
  case round =>
   clear H'
   try clear c1
   try clear p2
   try clear c3
   try clear c3b0
   try clear c3b1
   try clear c3b2
   obtain ⟨x5_1, rfl, HA, HK1, ⟨m1, rfl⟩⟩ := hrel
   cases gk with
   | zero => exact absurd HA.out (by simp [barscanlaw29_same.l0])
   | succ k1 =>
    have H := HA.out
    clear HA
    simp only [barscanlaw29_same.l0] at H
    by_cases c4 : x5_1 < (l0.length : Int)
    ·rw [if_pos c4] at H
     have c4b0 : decide (x5_1 < (l0.length : Int)) = true := decide_eq_true c4
     clear c4
     by_cases c5 : 0 ≤ x5_1
     ·rw [if_pos c5] at H
      have c5b0 : decide (0 ≤ x5_1) = true := decide_eq_true c5
      clear c5
      by_cases c6 : x5_1 < (l1.length : Int)
      ·rw [if_pos c6] at H
       have c6b0 : decide (x5_1 < (l1.length : Int)) = true := decide_eq_true c6
       clear c6
       by_cases c7 : (rd l0 x5_1) = (rd l1 x5_1)
       ·rw [if_pos c7] at H
        have c7b0 : ((rd l0 x5_1) == (rd l1 x5_1)) = true := beq_iff_eq.mpr c7
        have c7b1 : ((rd l0 x5_1) != (rd l1 x5_1)) = false := bne_eq_false_iff_eq.mpr c7
        clear c7
        have H' := am H
        clear H
        have p101 : 0 ≤ (x5_1 : Int) := of_decide_eq_true (by first | (with_reducible assumption) | assumption)
        have q101 : x5_1 < (l0.length : Int) := of_decide_eq_true (by first | (with_reducible assumption) | assumption)
        obtain ⟨ad101, e101, hx101_0⟩ := Kd.at_int HR0.out x5_1 p101 q101
        cases e101
        replace p101 := eq_true p101
        replace q101 := eq_true q101
        have p102 : 0 ≤ (x5_1 : Int) := of_decide_eq_true (by first | (with_reducible assumption) | assumption)
        have q102 : x5_1 < (l1.length : Int) := of_decide_eq_true (by first | (with_reducible assumption) | assumption)
        obtain ⟨ad102, e102, hx102_0⟩ := Kd.at_int HR1.out x5_1 p102 q102
        cases e102
        replace p102 := eq_true p102
        replace q102 := eq_true q102
        go_wp2
        repeat (go_quiet (fail); try go_wp2)
        go_roundg k1
        case measure => have := HK1.out; omega
        case rel => exact ⟨(wrap64 (x5_1 + 1)), (by first | rfl | (simp; done) | (simp [*]; done)), H', ⟨by have := HK1.out; omega⟩, by repeat (first | exact Drawn0.refl _ | apply Drawn0.step)⟩
       ·rw [if_neg c7] at H
        have c7b0 : ((rd l0 x5_1) == (rd l1 x5_1)) = false := beq_eq_false_iff_ne.mpr c7
        have c7b1 : ((rd l0 x5_1) != (rd l1 x5_1)) = true := bne_iff_ne.mpr c7
        obtain rfl := Option.some.inj H
        have p101 : 0 ≤ (x5_1 : Int) := of_decide_eq_true (by first | (with_reducible assumption) | assumption)
        have q101 : x5_1 < (l0.length : Int) := of_decide_eq_true (by first | (with_reducible assumption) | assumption)
        obtain ⟨ad101, e101, hx101_0⟩ := Kd.at_int HR0.out x5_1 p101 q101
        cases e101
        replace p101 := eq_true p101
        replace q101 := eq_true q101
        have p102 : 0 ≤ (x5_1 : Int) := of_decide_eq_true (by first | (with_reducible assumption) | assumption)
        have q102 : x5_1 < (l1.length : Int) := of_decide_eq_true (by first | (with_reducible assumption) | assumption)
        obtain ⟨ad102, e102, hx102_0⟩ := Kd.at_int HR1.out x5_1 p102 q102
        cases e102
        replace p102 := eq_true p102
        replace q102 := eq_true q102
        go_wp2
        repeat (go_quiet (fail); try go_wp2)
        go_ret
        exact ⟨by first | rfl | (simp; done) | (simp [*]; done), by repeat (first | exact Drawn0.refl _ | apply Drawn0.step)⟩
      ·rw [if_neg c6] at H
       exact absurd H (by simp)
     ·rw [if_neg c5] at H
      exact absurd H (by simp)
    ·rw [if_neg c4] at H
     have c4b0 : decide (x5_1 < (l0.length : Int)) = false := decide_eq_false c4
     clear c4
     obtain rfl := Option.some.inj H
     go_wp2
     repeat (go_quiet (fail); try go_wp2)
     go_ret
     exact ⟨by first | rfl | (simp; done) | (simp [*]; done), by repeat (first | exact Drawn0.refl _ | apply Drawn0.step)⟩
 ·rw [if_neg c3] at H
  have c3b0 : ((l0.length : Int) == (l1.length : Int)) = false := beq_eq_false_iff_ne.mpr c3
  have c3b1 : ((l0.length : Int) != (l1.length : Int)) = true := bne_iff_ne.mpr c3
  have c3b2 : (l0.length == l1.length) = false := by first | simpa using c3 | (simp at c3 ⊢; omega)
  obtain rfl := Option.some.inj H
  go_enter Tryd.func15, Tryd.ntmps15
  go_wp2
  repeat (go_quiet (fail); try go_wp2)
  go_ret
  exact ⟨by first | rfl | (simp; done) | (simp [*]; done), by repeat (first | exact Drawn0.refl _ | apply Drawn0.step)⟩
mutual
def barscanlaw29_StacktextDigits.j0 : Nat → ByteArray → List Int → Bool → Option (Bool)
 | 0, _, _, _ => none
 | k + 1, x0, x1, x21 => if x21 = true then ((barscanlaw29_exampleHolds.f).bind fun t103 => (some t103)) else ((stacktext_FromNumeric.f x1).bind fun bt104 => (if bt104.2 = 0 then ((stacktext_Numeric.f bt104.1).bind fun bt106 => (if bt106.2 = 0 then ((barscanlaw29_same.f k bt106.1 x1).bind fun t110 => (if t110 = true then (barscanlaw29_StacktextDigits.j1 k x0) else (some false))) else (some false))) else (barscanlaw29_StacktextDigits.j1 k x0)))
def barscanlaw29_StacktextDigits.j1 : Nat → ByteArray → Option (Bool)
 | 0, _ => none
 | k + 1, x0 => (stacktext_Numeric.f x0).bind fun bt111 => (if bt111.2 = 0 then (if ((x0.size : Int) % 44) > 0 then ((stacktext_FromNumeric.f bt111.1).bind fun bt116 => (if (bt111.1.length : Int) = (wrap64 ((wrap64 ((wrap64 ((wrap64 ((x0.size : Int) / 44)) * 15)) + (((x0.size : Int) % 44) / 3))) + 1)) then (if bt116.2 = 0 then (if bt116.1.toList = x0.toList then ((barscanlaw29_exampleHolds.f).bind fun t118 => (some t118)) else (some false)) else (some false)) else (some false))) else ((stacktext_FromNumeric.f bt111.1).bind fun bt119 => (if (bt111.1.length : Int) = (wrap64 ((wrap64 ((x0.size : Int) / 44)) * 15)) then (if bt119.2 = 0 then (if bt119.1.toList = x0.toList then ((barscanlaw29_exampleHolds.f).bind fun t121 => (some t121)) else (some false)) else (some false)) else (some false)))) else (if bt111.2 = 6 then ((barscanlaw29_exampleHolds.f).bind fun t115 => (some t115)) else (some false)))
end
def barscanlaw29_StacktextDigits.f (k : Nat) (a0 : ByteArray) (l1 : List Int) : Option (Bool) := if (a0.size : Int) > 300 then (barscanlaw29_StacktextDigits.j0 k a0 l1 true) else (barscanlaw29_StacktextDigits.j0 k a0 l1 (decide ((l1.length : Int) > 100)))
set_option maxHeartbeats 8000000 in
set_option maxRecDepth 100000 in
theorem barscanlaw29_StacktextDigits.calls (k : Nat) (a0 : ByteArray) (A1 : Option Addr) (c1 : Nat) (l1 : List Int) (r : Bool) (w : World) (hr1 : Kd.C (Kd.int .i64) w A1 l1.length l1) (hc1 : l1.length ≤ c1) (h : barscanlaw29_StacktextDigits.f k a0 l1 = some r) :
  Calls Tryd.prog 6 #[.string a0, .slice A1 l1.length c1] w fun e w' => e = .returned (.bool r) ∧ Below w.heap.size w w' := by
 have HR1 := am hr1
 have HC1 := am hc1
 clear hr1 hc1
 have HB := am (Below.refl w.heap.size w)
 have H : (if (a0.size : Int) > 300 then (barscanlaw29_StacktextDigits.j0 k a0 l1 true) else (barscanlaw29_StacktextDigits.j0 k a0 l1 (decide ((l1.length : Int) > 100)))) = some r := h
 clear h
 have HC3 := am H
 clear H
 go_enter Tryd.func6, Tryd.ntmps6
 go_upto_region 1 with (fail)
 go_cut [21] (fun v21 wc => ∃ (kq : Nat) (x21_2 : Bool), v21 = .bool x21_2 ∧ Aside0 (barscanlaw29_StacktextDigits.j0 kq a0 l1 x21_2 = some r) ∧ Aside0 (kq ≤ k) ∧ Aside0 (Below w.heap.size w wc))
 case first =>
  have H := HC3.out
  clear HC3
  by_cases c4 : (a0.size : Int) > 300
  ·rw [if_pos c4] at H
   have c4b0 : decide (300 < (a0.size : Int)) = true := decide_eq_true c4
   have c4b1 : decide (300 < a0.size) = true := decide_eq_true (by omega)
   clear c4
   (first | rw [c4b0] | (simp only [i64_w, i32_w]; rw [c4b0]) | skip)
   have H' := am H
   clear H
   go_wp2
   go_meet
   case rel => exact ⟨_, (true), (by first | rfl | (simp; done) | (simp [*]; done)), H', ⟨by first | omega | exact Nat.le_refl _⟩, ⟨by repeat (first | (with_reducible first | exact HB.out | apply below_alloc | apply pw_below_drewN | apply below_drew1) | exact HB.out)⟩⟩
  ·rw [if_neg c4] at H
   have c4b0 : decide (300 < (a0.size : Int)) = false := decide_eq_false c4
   have c4b1 : decide (300 < a0.size) = false := decide_eq_false (by omega)
   clear c4
   (first | rw [c4b0] | (simp only [i64_w, i32_w]; rw [c4b0]) | skip)
   have H' := am H
   clear H
   go_wp2
   go_meet
   case rel => exact ⟨_, (decide ((l1.length : Int) > 100)), (by first | rfl | (simp; done) | (simp [*]; done)), H', ⟨by first | omega | exact Nat.le_refl _⟩, ⟨by repeat (first | (with_reducible first | exact HB.out | apply below_alloc | apply pw_below_drewN | apply below_drew1) | exact HB.out)⟩⟩
 case rest =>
  clear HC3
  try clear c1
  try clear p2
  try clear c4
  try clear c4b0
  try clear c4b1
  obtain ⟨kq, x21_2, rfl, HA, HJ2, HB⟩ := hcut
  cases kq with
  | zero => exact absurd HA.out (by simp [barscanlaw29_StacktextDigits.j0])
  | succ kj2 =>
   have H := HA.out
   clear HA
   simp only [barscanlaw29_StacktextDigits.j0] at H
   by_cases c5 : x21_2 = true
   ·subst c5
    have H1 : ((barscanlaw29_exampleHolds.f).bind fun t103 => (some t103)) = some r := by rw [if_pos rfl] at H; exact H
    clear H
    have H := H1
    clear H1
    replace H := Option.bind_eq_some_iff.mp H
    obtain ⟨t103, A60, H⟩ := H
    replace H : (some t103) = some r := H
    have A6 := am A60
    clear A60
    obtain rfl := Option.some.inj H
    go_wp2_with (first | ((with_reducible refine gate_callee (f := 10) rfl ?_); refine gL (some 22) Tryd.func10 #[] (h := ?_); (with_reducible refine (barscanlaw29_exampleHolds.calls  t103 _ A6.out).mono ?_); rintro e w7 ⟨rfl, hb⟩; refine ⟨_, rfl, ?_⟩; have n0_ := am (below_step (bA0 HB.out) hb); clear HB; have HB := n0_; clear n0_; (try clear hb); (try clear hb2); (try clear hk); (try clear hi)))
    go_ret
    exact ⟨by first | rfl | (simp [errW_none, errW_some] <;> rfl) | (simp [*, errW_none, errW_some] <;> rfl), by repeat (first | (with_reducible first | exact HB.out | apply below_alloc | apply pw_below_drewN | apply below_drew1) | exact HB.out)⟩
   ·replace c5 := Bool.eq_false_iff.mpr c5
    subst c5
    have H1 : ((stacktext_FromNumeric.f l1).bind fun bt104 => (if bt104.2 = 0 then ((stacktext_Numeric.f bt104.1).bind fun bt106 => (if bt106.2 = 0 then ((barscanlaw29_same.f kj2 bt106.1 l1).bind fun t110 => (if t110 = true then (barscanlaw29_StacktextDigits.j1 kj2 a0) else (some false))) else (some false))) else (barscanlaw29_StacktextDigits.j1 kj2 a0))) = some r := by rw [if_neg (show ¬ (false = true) by decide)] at H; exact H
    clear H
    have H := H1
    clear H1
    replace H := Option.bind_eq_some_iff.mp H
    obtain ⟨⟨t104, t105⟩, A80, H⟩ := H
    replace H : (if t105 = 0 then ((stacktext_Numeric.f t104).bind fun bt106 => (if bt106.2 = 0 then ((barscanlaw29_same.f kj2 bt106.1 l1).bind fun t110 => (if t110 = true then (barscanlaw29_StacktextDigits.j1 kj2 a0) else (some false))) else (some false))) else (barscanlaw29_StacktextDigits.j1 kj2 a0)) = some r := H
    have A8 := am A80
    clear A80
    have HC9 := am H
    clear H
    go_upto_if 29 with (first | ((with_reducible refine gate_callee (f := 13) rfl ?_); refine gL (some 25) Tryd.func13 #[.slice A1 l1.length c1] (h := ?_); (with_reducible refine (stacktext_FromNumeric.calls _ _ l1 t104 t105 _ ?side1 ?side2 A8.out).mono ?_); (case side1 => repeat (first | exact (Kd.C_below HR1.out HB.out) | (with_reducible refine Kd.C_alloc ?_ _) | (with_reducible refine Kd.C_drewN ?_ _) | (with_reducible refine Kd.C_drew ?_))); (case side2 => exact HC1.out); rintro e w10 ⟨rfl, hb⟩; refine ⟨_, rfl, ?_⟩; have n0_ := am (below_step (bA0 HB.out) hb); clear HB; have HB := n0_; clear n0_; (try clear hb); (try clear hb2); (try clear hk); (try clear hi)))
    (try simp only [Act.put, List.setIfInBounds_toArray, List.set_cons_zero, List.set_cons_succ])
    go_cut [] (fun wc => ∃ (kq : Nat), Aside0 (barscanlaw29_StacktextDigits.j1 kq a0 = some r) ∧ Aside0 (kq ≤ kj2) ∧ Aside0 (Below w.heap.size w wc))
    case first =>
     have H := HC9.out
     clear HC9
     by_cases c11 : t105 = 0
     ·rw [if_pos c11] at H
      have c11b0 : (t105 == 0) = true := beq_iff_eq.mpr c11
      have c11b1 : (t105 != 0) = false := bne_eq_false_iff_eq.mpr c11
      clear c11
      (first | rw [c11b0] | (simp only [i64_w, i32_w]; rw [c11b0]) | skip)
      replace H := Option.bind_eq_some_iff.mp H
      obtain ⟨⟨t106, t107⟩, A120, H⟩ := H
      replace H : (if t107 = 0 then ((barscanlaw29_same.f kj2 t106 l1).bind fun t110 => (if t110 = true then (barscanlaw29_StacktextDigits.j1 kj2 a0) else (some false))) else (some false)) = some r := H
      have A12 := am A120
      clear A120
      by_cases c13 : t107 = 0
      ·rw [if_pos c13] at H
       have c13b0 : (t107 == 0) = true := beq_iff_eq.mpr c13
       have c13b1 : (t107 != 0) = false := bne_eq_false_iff_eq.mpr c13
       clear c13
       replace H := Option.bind_eq_some_iff.mp H
       obtain ⟨t110, A140, H⟩ := H
       replace H : (if t110 = true then (barscanlaw29_StacktextDigits.j1 kj2 a0) else (some false)) = some r := H
       have A14 := am A140
       clear A140
       by_cases c15 : t110 = true
       ·subst c15
        have H1 : (barscanlaw29_StacktextDigits.j1 kj2 a0) = some r := by rw [if_pos rfl] at H; exact H
        clear H
        have H := H1
        clear H1
        have H' := am H
        clear H
        go_wp2_with (first | ((with_reducible refine gate_callee (f := 11) rfl ?_); refine gL (some 32) Tryd.func11 #[.string t104] (h := ?_); (with_reducible refine (stacktext_Numeric.calls t104 t106 t107 _ A12.out).mono ?_); rintro e w16 ⟨v108, rfl, ho0, hb⟩; refine ⟨_, rfl, ?_⟩; have n0_ := am (Kd.R_lower ho0 (below_size (bA0 HB.out))); have n1_ := am (below_step (bA0 HB.out) hb); clear HB; have HO109 := n0_; have HB := n1_; clear n0_ n1_; (try clear hb); (try clear hb2); (try clear hk); (try clear hi); (try clear ho0); obtain ⟨Ao17, co17, eo17⟩ := Kd.R_slice HO109.out; subst eo17) | (go_at_call 15; (with_reducible refine (barscanlaw29_same.calls kj2 _ _ t106 _ _ l1 true _ ?side1 ?side2 ?side3 ?side4 A14.out).mono ?_); (case side1 => repeat (first | exact (Kd.R_reads' HO109.out).2.2 | (with_reducible refine Kd.C_alloc ?_ _) | (with_reducible refine Kd.C_drewN ?_ _) | (with_reducible refine Kd.C_drew ?_))); (case side2 => exact (Kd.R_reads' HO109.out).2.1); (case side3 => repeat (first | exact (Kd.C_below HR1.out HB.out) | (with_reducible refine Kd.C_alloc ?_ _) | (with_reducible refine Kd.C_drewN ?_ _) | (with_reducible refine Kd.C_drew ?_))); (case side4 => exact HC1.out); rintro e w' ⟨rfl, ⟨nd, rfl⟩⟩))
        go_meet
        case rel => exact ⟨_, H', ⟨by have := HJ2.out; first | omega | exact Nat.le_refl _⟩, ⟨by repeat (first | (with_reducible first | exact HB.out | apply below_alloc | apply pw_below_drewN | apply below_drew1) | exact HB.out)⟩⟩
       ·replace c15 := Bool.eq_false_iff.mpr c15
        subst c15
        have H1 : (some false) = some r := by rw [if_neg (show ¬ (false = true) by decide)] at H; exact H
        clear H
        have H := H1
        clear H1
        obtain rfl := Option.some.inj H
        go_wp2_with (first | ((with_reducible refine gate_callee (f := 11) rfl ?_); refine gL (some 32) Tryd.func11 #[.string t104] (h := ?_); (with_reducible refine (stacktext_Numeric.calls t104 t106 t107 _ A12.out).mono ?_); rintro e w18 ⟨v108, rfl, ho0, hb⟩; refine ⟨_, rfl, ?_⟩; have n0_ := am (Kd.R_lower ho0 (below_size (bA0 HB.out))); have n1_ := am (below_step (bA0 HB.out) hb); clear HB; have HO109 := n0_; have HB := n1_; clear n0_ n1_; (try clear hb); (try clear hb2); (try clear hk); (try clear hi); (try clear ho0); obtain ⟨Ao19, co19, eo19⟩ := Kd.R_slice HO109.out; subst eo19) | (go_at_call 15; (with_reducible refine (barscanlaw29_same.calls kj2 _ _ t106 _ _ l1 false _ ?side1 ?side2 ?side3 ?side4 A14.out).mono ?_); (case side1 => repeat (first | exact (Kd.R_reads' HO109.out).2.2 | (with_reducible refine Kd.C_alloc ?_ _) | (with_reducible refine Kd.C_drewN ?_ _) | (with_reducible refine Kd.C_drew ?_))); (case side2 => exact (Kd.R_reads' HO109.out).2.1); (case side3 => repeat (first | exact (Kd.C_below HR1.out HB.out) | (with_reducible refine Kd.C_alloc ?_ _) | (with_reducible refine Kd.C_drewN ?_ _) | (with_reducible refine Kd.C_drew ?_))); (case side4 => exact HC1.out); rintro e w' ⟨rfl, ⟨nd, rfl⟩⟩))
        go_ret
        exact ⟨by first | rfl | (simp [errW_none, errW_some] <;> rfl) | (simp [*, errW_none, errW_some] <;> rfl), by repeat (first | (with_reducible first | exact HB.out | apply below_alloc | apply pw_below_drewN | apply below_drew1) | exact HB.out)⟩
      ·rw [if_neg c13] at H
       have c13b0 : (t107 == 0) = false := beq_eq_false_iff_ne.mpr c13
       have c13b1 : (t107 != 0) = true := bne_iff_ne.mpr c13
       obtain rfl := Option.some.inj H
       go_wp2_with (first | ((with_reducible refine gate_callee (f := 11) rfl ?_); refine gL (some 32) Tryd.func11 #[.string t104] (h := ?_); (with_reducible refine (stacktext_Numeric.calls t104 t106 t107 _ A12.out).mono ?_); rintro e w20 ⟨v108, rfl, ho0, hb⟩; refine ⟨_, rfl, ?_⟩; have n0_ := am (Kd.R_lower ho0 (below_size (bA0 HB.out))); have n1_ := am (below_step (bA0 HB.out) hb); clear HB; have HO109 := n0_; have HB := n1_; clear n0_ n1_; (try clear hb); (try clear hb2); (try clear hk); (try clear hi); (try clear ho0)))
       go_ret
       exact ⟨by first | rfl | (simp [errW_none, errW_some] <;> rfl) | (simp [*, errW_none, errW_some] <;> rfl), by repeat (first | (with_reducible first | exact HB.out | apply below_alloc | apply pw_below_drewN | apply below_drew1) | exact HB.out)⟩
     ·rw [if_neg c11] at H
      have c11b0 : (t105 == 0) = false := beq_eq_false_iff_ne.mpr c11
      have c11b1 : (t105 != 0) = true := bne_iff_ne.mpr c11
      (first | rw [c11b0] | (simp only [i64_w, i32_w]; rw [c11b0]) | skip)
      have H' := am H
      clear H
      go_wp2
      go_meet
      case rel => exact ⟨_, H', ⟨by have := HJ2.out; first | omega | exact Nat.le_refl _⟩, ⟨by repeat (first | (with_reducible first | exact HB.out | apply below_alloc | apply pw_below_drewN | apply below_drew1) | exact HB.out)⟩⟩
    case rest =>
     clear HC9
     try clear c1
     try clear p2
     try clear c4
     try clear c4b0
     try clear c4b1
     try clear c5
     try clear c6
     try clear c10
     try clear c11
     try clear c11b0
     try clear c11b1
     try clear c13
     try clear c13b0
     try clear c13b1
     try clear c15
     try clear p2
     obtain ⟨kq, HA, HJ8, HB⟩ := hcut
     cases kq with
     | zero => exact absurd HA.out (by simp [barscanlaw29_StacktextDigits.j1])
     | succ kj8 =>
      have H := HA.out
      clear HA
      simp only [barscanlaw29_StacktextDigits.j1] at H
      replace H := Option.bind_eq_some_iff.mp H
      obtain ⟨⟨t111, t112⟩, A210, H⟩ := H
      replace H : (if t112 = 0 then (if ((a0.size : Int) % 44) > 0 then ((stacktext_FromNumeric.f t111).bind fun bt116 => (if (t111.length : Int) = (wrap64 ((wrap64 ((wrap64 ((wrap64 ((a0.size : Int) / 44)) * 15)) + (((a0.size : Int) % 44) / 3))) + 1)) then (if bt116.2 = 0 then (if bt116.1.toList = a0.toList then ((barscanlaw29_exampleHolds.f).bind fun t118 => (some t118)) else (some false)) else (some false)) else (some false))) else ((stacktext_FromNumeric.f t111).bind fun bt119 => (if (t111.length : Int) = (wrap64 ((wrap64 ((a0.size : Int) / 44)) * 15)) then (if bt119.2 = 0 then (if bt119.1.toList = a0.toList then ((barscanlaw29_exampleHolds.f).bind fun t121 => (some t121)) else (some false)) else (some false)) else (some false)))) else (if t112 = 6 then ((barscanlaw29_exampleHolds.f).bind fun t115 => (some t115)) else (some false))) = some r := H
      have A21 := am A210
      clear A210
      by_cases c22 : t112 = 0
      ·rw [if_pos c22] at H
       have c22b0 : (t112 == 0) = true := beq_iff_eq.mpr c22
       have c22b1 : (t112 != 0) = false := bne_eq_false_iff_eq.mpr c22
       clear c22
       by_cases c23 : ((a0.size : Int) % 44) > 0
       ·rw [if_pos c23] at H
        have c23b0 : decide (0 < ((a0.size : Int) % 44)) = true := decide_eq_true c23
        clear c23
        replace H := Option.bind_eq_some_iff.mp H
        obtain ⟨⟨t116, t117⟩, A240, H⟩ := H
        replace H : (if (t111.length : Int) = (wrap64 ((wrap64 ((wrap64 ((wrap64 ((a0.size : Int) / 44)) * 15)) + (((a0.size : Int) % 44) / 3))) + 1)) then (if t117 = 0 then (if t116.toList = a0.toList then ((barscanlaw29_exampleHolds.f).bind fun t118 => (some t118)) else (some false)) else (some false)) else (some false)) = some r := H
        have A24 := am A240
        clear A240
        by_cases c25 : (t111.length : Int) = (wrap64 ((wrap64 ((wrap64 ((wrap64 ((a0.size : Int) / 44)) * 15)) + (((a0.size : Int) % 44) / 3))) + 1))
        ·rw [if_pos c25] at H
         have c25b0 : ((t111.length : Int) == (wrap64 ((wrap64 ((wrap64 ((wrap64 ((a0.size : Int) / 44)) * 15)) + (((a0.size : Int) % 44) / 3))) + 1))) = true := beq_iff_eq.mpr c25
         have c25b1 : ((t111.length : Int) != (wrap64 ((wrap64 ((wrap64 ((wrap64 ((a0.size : Int) / 44)) * 15)) + (((a0.size : Int) % 44) / 3))) + 1))) = false := bne_eq_false_iff_eq.mpr c25
         clear c25
         by_cases c26 : t117 = 0
         ·rw [if_pos c26] at H
          have c26b0 : (t117 == 0) = true := beq_iff_eq.mpr c26
          have c26b1 : (t117 != 0) = false := bne_eq_false_iff_eq.mpr c26
          clear c26
          by_cases c27 : t116.toList = a0.toList
          ·rw [if_pos c27] at H
           have c27b0 : (t116.toList == a0.toList) = true := beq_iff_eq.mpr c27
           have c27b1 : (t116.toList != a0.toList) = false := bne_eq_false_iff_eq.mpr c27
           clear c27
           replace H := Option.bind_eq_some_iff.mp H
           obtain ⟨t118, A280, H⟩ := H
           replace H : (some t118) = some r := H
           have A28 := am A280
           clear A280
           obtain rfl := Option.some.inj H
           go_wp2_with (first | ((with_reducible refine gate_callee (f := 11) rfl ?_); refine gL (some 45) Tryd.func11 #[.string a0] (h := ?_); (with_reducible refine (stacktext_Numeric.calls a0 t111 t112 _ A21.out).mono ?_); rintro e w29 ⟨v113, rfl, ho0, hb⟩; refine ⟨_, rfl, ?_⟩; have n0_ := am (Kd.R_lower ho0 (below_size (bA0 HB.out))); have n1_ := am (below_step (bA0 HB.out) hb); clear HB; have HO114 := n0_; have HB := n1_; clear n0_ n1_; (try clear hb); (try clear hb2); (try clear hk); (try clear hi); (try clear ho0); obtain ⟨Ao30, co30, eo30⟩ := Kd.R_slice HO114.out; subst eo30) | ((with_reducible refine gate_callee (f := 13) rfl ?_); refine gL (some 72) Tryd.func13 #[.slice Ao30 t111.length co30] (h := ?_); (with_reducible refine (stacktext_FromNumeric.calls _ _ t111 t116 t117 _ ?side1 ?side2 A24.out).mono ?_); (case side1 => repeat (first | exact (Kd.R_reads' HO114.out).2.2 | (with_reducible refine Kd.C_alloc ?_ _) | (with_reducible refine Kd.C_drewN ?_ _) | (with_reducible refine Kd.C_drew ?_))); (case side2 => exact (Kd.R_reads' HO114.out).2.1); rintro e w31 ⟨rfl, hb⟩; refine ⟨_, rfl, ?_⟩; have n0_ := am (Kd.R_below (rA HO114.out) hb); have n1_ := am (below_step (bA0 HB.out) hb); clear HO114; clear HB; have HO114 := n0_; have HB := n1_; clear n0_ n1_; (try clear hb); (try clear hb2); (try clear hk); (try clear hi)) | (go_at_call 10; (with_reducible refine (barscanlaw29_exampleHolds.calls  t118 _ A28.out).mono ?_); rintro e w32 ⟨rfl, hb⟩; have n0_ := am (Kd.R_below (rA HO114.out) hb); have n1_ := am (below_step (bA0 HB.out) hb); clear HO114; clear HB; have HO114 := n0_; have HB := n1_; clear n0_ n1_; (try clear hb); (try clear hb2); (try clear hk); (try clear hi)))
           go_ret
           exact ⟨by first | rfl | (simp [errW_none, errW_some] <;> rfl) | (simp [*, errW_none, errW_some] <;> rfl), by repeat (first | (with_reducible first | exact HB.out | apply below_alloc | apply pw_below_drewN | apply below_drew1) | exact HB.out)⟩
          ·rw [if_neg c27] at H
           have c27b0 : (t116.toList == a0.toList) = false := beq_eq_false_iff_ne.mpr c27
           have c27b1 : (t116.toList != a0.toList) = true := bne_iff_ne.mpr c27
           obtain rfl := Option.some.inj H
           go_wp2_with (first | ((with_reducible refine gate_callee (f := 11) rfl ?_); refine gL (some 45) Tryd.func11 #[.string a0] (h := ?_); (with_reducible refine (stacktext_Numeric.calls a0 t111 t112 _ A21.out).mono ?_); rintro e w33 ⟨v113, rfl, ho0, hb⟩; refine ⟨_, rfl, ?_⟩; have n0_ := am (Kd.R_lower ho0 (below_size (bA0 HB.out))); have n1_ := am (below_step (bA0 HB.out) hb); clear HB; have HO114 := n0_; have HB := n1_; clear n0_ n1_; (try clear hb); (try clear hb2); (try clear hk); (try clear hi); (try clear ho0); obtain ⟨Ao34, co34, eo34⟩ := Kd.R_slice HO114.out; subst eo34) | ((with_reducible refine gate_callee (f := 13) rfl ?_); refine gL (some 72) Tryd.func13 #[.slice Ao34 t111.length co34] (h := ?_); (with_reducible refine (stacktext_FromNumeric.calls _ _ t111 t116 t117 _ ?side1 ?side2 A24.out).mono ?_); (case side1 => repeat (first | exact (Kd.R_reads' HO114.out).2.2 | (with_reducible refine Kd.C_alloc ?_ _) | (with_reducible refine Kd.C_drewN ?_ _) | (with_reducible refine Kd.C_drew ?_))); (case side2 => exact (Kd.R_reads' HO114.out).2.1); rintro e w35 ⟨rfl, hb⟩; refine ⟨_, rfl, ?_⟩; have n0_ := am (Kd.R_below (rA HO114.out) hb); have n1_ := am (below_step (bA0 HB.out) hb); clear HO114; clear HB; have HO114 := n0_; have HB := n1_; clear n0_ n1_; (try clear hb); (try clear hb2); (try clear hk); (try clear hi)))
           go_ret
           exact ⟨by first | rfl | (simp [errW_none, errW_some] <;> rfl) | (simp [*, errW_none, errW_some] <;> rfl), by repeat (first | (with_reducible first | exact HB.out | apply below_alloc | apply pw_below_drewN | apply below_drew1) | exact HB.out)⟩
         ·rw [if_neg c26] at H
          have c26b0 : (t117 == 0) = false := beq_eq_false_iff_ne.mpr c26
          have c26b1 : (t117 != 0) = true := bne_iff_ne.mpr c26
          obtain rfl := Option.some.inj H
          go_wp2_with (first | ((with_reducible refine gate_callee (f := 11) rfl ?_); refine gL (some 45) Tryd.func11 #[.string a0] (h := ?_); (with_reducible refine (stacktext_Numeric.calls a0 t111 t112 _ A21.out).mono ?_); rintro e w36 ⟨v113, rfl, ho0, hb⟩; refine ⟨_, rfl, ?_⟩; have n0_ := am (Kd.R_lower ho0 (below_size (bA0 HB.out))); have n1_ := am (below_step (bA0 HB.out) hb); clear HB; have HO114 := n0_; have HB := n1_; clear n0_ n1_; (try clear hb); (try clear hb2); (try clear hk); (try clear hi); (try clear ho0); obtain ⟨Ao37, co37, eo37⟩ := Kd.R_slice HO114.out; subst eo37) | ((with_reducible refine gate_callee (f := 13) rfl ?_); refine gL (some 72) Tryd.func13 #[.slice Ao37 t111.length co37] (h := ?_); (with_reducible refine (stacktext_FromNumeric.calls _ _ t111 t116 t117 _ ?side1 ?side2 A24.out).mono ?_); (case side1 => repeat (first | exact (Kd.R_reads' HO114.out).2.2 | (with_reducible refine Kd.C_alloc ?_ _) | (with_reducible refine Kd.C_drewN ?_ _) | (with_reducible refine Kd.C_drew ?_))); (case side2 => exact (Kd.R_reads' HO114.out).2.1); rintro e w38 ⟨rfl, hb⟩; refine ⟨_, rfl, ?_⟩; have n0_ := am (Kd.R_below (rA HO114.out) hb); have n1_ := am (below_step (bA0 HB.out) hb); clear HO114; clear HB; have HO114 := n0_; have HB := n1_; clear n0_ n1_; (try clear hb); (try clear hb2); (try clear hk); (try clear hi)))
          go_ret
          exact ⟨by first | rfl | (simp [errW_none, errW_some] <;> rfl) | (simp [*, errW_none, errW_some] <;> rfl), by repeat (first | (with_reducible first | exact HB.out | apply below_alloc | apply pw_below_drewN | apply below_drew1) | exact HB.out)⟩
        ·rw [if_neg c25] at H
         have c25b0 : ((t111.length : Int) == (wrap64 ((wrap64 ((wrap64 ((wrap64 ((a0.size : Int) / 44)) * 15)) + (((a0.size : Int) % 44) / 3))) + 1))) = false := beq_eq_false_iff_ne.mpr c25
         have c25b1 : ((t111.length : Int) != (wrap64 ((wrap64 ((wrap64 ((wrap64 ((a0.size : Int) / 44)) * 15)) + (((a0.size : Int) % 44) / 3))) + 1))) = true := bne_iff_ne.mpr c25
         obtain rfl := Option.some.inj H
         go_wp2_with (first | ((with_reducible refine gate_callee (f := 11) rfl ?_); refine gL (some 45) Tryd.func11 #[.string a0] (h := ?_); (with_reducible refine (stacktext_Numeric.calls a0 t111 t112 _ A21.out).mono ?_); rintro e w39 ⟨v113, rfl, ho0, hb⟩; refine ⟨_, rfl, ?_⟩; have n0_ := am (Kd.R_lower ho0 (below_size (bA0 HB.out))); have n1_ := am (below_step (bA0 HB.out) hb); clear HB; have HO114 := n0_; have HB := n1_; clear n0_ n1_; (try clear hb); (try clear hb2); (try clear hk); (try clear hi); (try clear ho0); obtain ⟨Ao40, co40, eo40⟩ := Kd.R_slice HO114.out; subst eo40) | ((with_reducible refine gate_callee (f := 13) rfl ?_); refine gL (some 72) Tryd.func13 #[.slice Ao40 t111.length co40] (h := ?_); (with_reducible refine (stacktext_FromNumeric.calls _ _ t111 t116 t117 _ ?side1 ?side2 A24.out).mono ?_); (case side1 => repeat (first | exact (Kd.R_reads' HO114.out).2.2 | (with_reducible refine Kd.C_alloc ?_ _) | (with_reducible refine Kd.C_drewN ?_ _) | (with_reducible refine Kd.C_drew ?_))); (case side2 => exact (Kd.R_reads' HO114.out).2.1); rintro e w41 ⟨rfl, hb⟩; refine ⟨_, rfl, ?_⟩; have n0_ := am (Kd.R_below (rA HO114.out) hb); have n1_ := am (below_step (bA0 HB.out) hb); clear HO114; clear HB; have HO114 := n0_; have HB := n1_; clear n0_ n1_; (try clear hb); (try clear hb2); (try clear hk); (try clear hi)))
         go_ret
         exact ⟨by first | rfl | (simp [errW_none, errW_some] <;> rfl) | (simp [*, errW_none, errW_some] <;> rfl), by repeat (first | (with_reducible first | exact HB.out | apply below_alloc | apply pw_below_drewN | apply below_drew1) | exact HB.out)⟩
       ·rw [if_neg c23] at H
        have c23b0 : decide (0 < ((a0.size : Int) % 44)) = false := decide_eq_false c23
        clear c23
        replace H := Option.bind_eq_some_iff.mp H
        obtain ⟨⟨t119, t120⟩, A420, H⟩ := H
        replace H : (if (t111.length : Int) = (wrap64 ((wrap64 ((a0.size : Int) / 44)) * 15)) then (if t120 = 0 then (if t119.toList = a0.toList then ((barscanlaw29_exampleHolds.f).bind fun t121 => (some t121)) else (some false)) else (some false)) else (some false)) = some r := H
        have A42 := am A420
        clear A420
        by_cases c43 : (t111.length : Int) = (wrap64 ((wrap64 ((a0.size : Int) / 44)) * 15))
        ·rw [if_pos c43] at H
         have c43b0 : ((t111.length : Int) == (wrap64 ((wrap64 ((a0.size : Int) / 44)) * 15))) = true := beq_iff_eq.mpr c43
         have c43b1 : ((t111.length : Int) != (wrap64 ((wrap64 ((a0.size : Int) / 44)) * 15))) = false := bne_eq_false_iff_eq.mpr c43
         clear c43
         by_cases c44 : t120 = 0
         ·rw [if_pos c44] at H
          have c44b0 : (t120 == 0) = true := beq_iff_eq.mpr c44
          have c44b1 : (t120 != 0) = false := bne_eq_false_iff_eq.mpr c44
          clear c44
          by_cases c45 : t119.toList = a0.toList
          ·rw [if_pos c45] at H
           have c45b0 : (t119.toList == a0.toList) = true := beq_iff_eq.mpr c45
           have c45b1 : (t119.toList != a0.toList) = false := bne_eq_false_iff_eq.mpr c45
           clear c45
           replace H := Option.bind_eq_some_iff.mp H
           obtain ⟨t121, A460, H⟩ := H
           replace H : (some t121) = some r := H
           have A46 := am A460
           clear A460
           obtain rfl := Option.some.inj H
           go_wp2_with (first | ((with_reducible refine gate_callee (f := 11) rfl ?_); refine gL (some 45) Tryd.func11 #[.string a0] (h := ?_); (with_reducible refine (stacktext_Numeric.calls a0 t111 t112 _ A21.out).mono ?_); rintro e w47 ⟨v113, rfl, ho0, hb⟩; refine ⟨_, rfl, ?_⟩; have n0_ := am (Kd.R_lower ho0 (below_size (bA0 HB.out))); have n1_ := am (below_step (bA0 HB.out) hb); clear HB; have HO114 := n0_; have HB := n1_; clear n0_ n1_; (try clear hb); (try clear hb2); (try clear hk); (try clear hi); (try clear ho0); obtain ⟨Ao48, co48, eo48⟩ := Kd.R_slice HO114.out; subst eo48) | ((with_reducible refine gate_callee (f := 13) rfl ?_); refine gL (some 72) Tryd.func13 #[.slice Ao48 t111.length co48] (h := ?_); (with_reducible refine (stacktext_FromNumeric.calls _ _ t111 t119 t120 _ ?side1 ?side2 A42.out).mono ?_); (case side1 => repeat (first | exact (Kd.R_reads' HO114.out).2.2 | (with_reducible refine Kd.C_alloc ?_ _) | (with_reducible refine Kd.C_drewN ?_ _) | (with_reducible refine Kd.C_drew ?_))); (case side2 => exact (Kd.R_reads' HO114.out).2.1); rintro e w49 ⟨rfl, hb⟩; refine ⟨_, rfl, ?_⟩; have n0_ := am (Kd.R_below (rA HO114.out) hb); have n1_ := am (below_step (bA0 HB.out) hb); clear HO114; clear HB; have HO114 := n0_; have HB := n1_; clear n0_ n1_; (try clear hb); (try clear hb2); (try clear hk); (try clear hi)) | (go_at_call 10; (with_reducible refine (barscanlaw29_exampleHolds.calls  t121 _ A46.out).mono ?_); rintro e w50 ⟨rfl, hb⟩; have n0_ := am (Kd.R_below (rA HO114.out) hb); have n1_ := am (below_step (bA0 HB.out) hb); clear HO114; clear HB; have HO114 := n0_; have HB := n1_; clear n0_ n1_; (try clear hb); (try clear hb2); (try clear hk); (try clear hi)))
           go_ret
           exact ⟨by first | rfl | (simp [errW_none, errW_some] <;> rfl) | (simp [*, errW_none, errW_some] <;> rfl), by repeat (first | (with_reducible first | exact HB.out | apply below_alloc | apply pw_below_drewN | apply below_drew1) | exact HB.out)⟩
          ·rw [if_neg c45] at H
           have c45b0 : (t119.toList == a0.toList) = false := beq_eq_false_iff_ne.mpr c45
           have c45b1 : (t119.toList != a0.toList) = true := bne_iff_ne.mpr c45
           obtain rfl := Option.some.inj H
           go_wp2_with (first | ((with_reducible refine gate_callee (f := 11) rfl ?_); refine gL (some 45) Tryd.func11 #[.string a0] (h := ?_); (with_reducible refine (stacktext_Numeric.calls a0 t111 t112 _ A21.out).mono ?_); rintro e w51 ⟨v113, rfl, ho0, hb⟩; refine ⟨_, rfl, ?_⟩; have n0_ := am (Kd.R_lower ho0 (below_size (bA0 HB.out))); have n1_ := am (below_step (bA0 HB.out) hb); clear HB; have HO114 := n0_; have HB := n1_; clear n0_ n1_; (try clear hb); (try clear hb2); (try clear hk); (try clear hi); (try clear ho0); obtain ⟨Ao52, co52, eo52⟩ := Kd.R_slice HO114.out; subst eo52) | ((with_reducible refine gate_callee (f := 13) rfl ?_); refine gL (some 72) Tryd.func13 #[.slice Ao52 t111.length co52] (h := ?_); (with_reducible refine (stacktext_FromNumeric.calls _ _ t111 t119 t120 _ ?side1 ?side2 A42.out).mono ?_); (case side1 => repeat (first | exact (Kd.R_reads' HO114.out).2.2 | (with_reducible refine Kd.C_alloc ?_ _) | (with_reducible refine Kd.C_drewN ?_ _) | (with_reducible refine Kd.C_drew ?_))); (case side2 => exact (Kd.R_reads' HO114.out).2.1); rintro e w53 ⟨rfl, hb⟩; refine ⟨_, rfl, ?_⟩; have n0_ := am (Kd.R_below (rA HO114.out) hb); have n1_ := am (below_step (bA0 HB.out) hb); clear HO114; clear HB; have HO114 := n0_; have HB := n1_; clear n0_ n1_; (try clear hb); (try clear hb2); (try clear hk); (try clear hi)))
           go_ret
           exact ⟨by first | rfl | (simp [errW_none, errW_some] <;> rfl) | (simp [*, errW_none, errW_some] <;> rfl), by repeat (first | (with_reducible first | exact HB.out | apply below_alloc | apply pw_below_drewN | apply below_drew1) | exact HB.out)⟩
         ·rw [if_neg c44] at H
          have c44b0 : (t120 == 0) = false := beq_eq_false_iff_ne.mpr c44
          have c44b1 : (t120 != 0) = true := bne_iff_ne.mpr c44
          obtain rfl := Option.some.inj H
          go_wp2_with (first | ((with_reducible refine gate_callee (f := 11) rfl ?_); refine gL (some 45) Tryd.func11 #[.string a0] (h := ?_); (with_reducible refine (stacktext_Numeric.calls a0 t111 t112 _ A21.out).mono ?_); rintro e w54 ⟨v113, rfl, ho0, hb⟩; refine ⟨_, rfl, ?_⟩; have n0_ := am (Kd.R_lower ho0 (below_size (bA0 HB.out))); have n1_ := am (below_step (bA0 HB.out) hb); clear HB; have HO114 := n0_; have HB := n1_; clear n0_ n1_; (try clear hb); (try clear hb2); (try clear hk); (try clear hi); (try clear ho0); obtain ⟨Ao55, co55, eo55⟩ := Kd.R_slice HO114.out; subst eo55) | ((with_reducible refine gate_callee (f := 13) rfl ?_); refine gL (some 72) Tryd.func13 #[.slice Ao55 t111.length co55] (h := ?_); (with_reducible refine (stacktext_FromNumeric.calls _ _ t111 t119 t120 _ ?side1 ?side2 A42.out).mono ?_); (case side1 => repeat (first | exact (Kd.R_reads' HO114.out).2.2 | (with_reducible refine Kd.C_alloc ?_ _) | (with_reducible refine Kd.C_drewN ?_ _) | (with_reducible refine Kd.C_drew ?_))); (case side2 => exact (Kd.R_reads' HO114.out).2.1); rintro e w56 ⟨rfl, hb⟩; refine ⟨_, rfl, ?_⟩; have n0_ := am (Kd.R_below (rA HO114.out) hb); have n1_ := am (below_step (bA0 HB.out) hb); clear HO114; clear HB; have HO114 := n0_; have HB := n1_; clear n0_ n1_; (try clear hb); (try clear hb2); (try clear hk); (try clear hi)))
          go_ret
          exact ⟨by first | rfl | (simp [errW_none, errW_some] <;> rfl) | (simp [*, errW_none, errW_some] <;> rfl), by repeat (first | (with_reducible first | exact HB.out | apply below_alloc | apply pw_below_drewN | apply below_drew1) | exact HB.out)⟩
        ·rw [if_neg c43] at H
         have c43b0 : ((t111.length : Int) == (wrap64 ((wrap64 ((a0.size : Int) / 44)) * 15))) = false := beq_eq_false_iff_ne.mpr c43
         have c43b1 : ((t111.length : Int) != (wrap64 ((wrap64 ((a0.size : Int) / 44)) * 15))) = true := bne_iff_ne.mpr c43
         obtain rfl := Option.some.inj H
         go_wp2_with (first | ((with_reducible refine gate_callee (f := 11) rfl ?_); refine gL (some 45) Tryd.func11 #[.string a0] (h := ?_); (with_reducible refine (stacktext_Numeric.calls a0 t111 t112 _ A21.out).mono ?_); rintro e w57 ⟨v113, rfl, ho0, hb⟩; refine ⟨_, rfl, ?_⟩; have n0_ := am (Kd.R_lower ho0 (below_size (bA0 HB.out))); have n1_ := am (below_step (bA0 HB.out) hb); clear HB; have HO114 := n0_; have HB := n1_; clear n0_ n1_; (try clear hb); (try clear hb2); (try clear hk); (try clear hi); (try clear ho0); obtain ⟨Ao58, co58, eo58⟩ := Kd.R_slice HO114.out; subst eo58) | ((with_reducible refine gate_callee (f := 13) rfl ?_); refine gL (some 72) Tryd.func13 #[.slice Ao58 t111.length co58] (h := ?_); (with_reducible refine (stacktext_FromNumeric.calls _ _ t111 t119 t120 _ ?side1 ?side2 A42.out).mono ?_); (case side1 => repeat (first | exact (Kd.R_reads' HO114.out).2.2 | (with_reducible refine Kd.C_alloc ?_ _) | (with_reducible refine Kd.C_drewN ?_ _) | (with_reducible refine Kd.C_drew ?_))); (case side2 => exact (Kd.R_reads' HO114.out).2.1); rintro e w59 ⟨rfl, hb⟩; refine ⟨_, rfl, ?_⟩; have n0_ := am (Kd.R_below (rA HO114.out) hb); have n1_ := am (below_step (bA0 HB.out) hb); clear HO114; clear HB; have HO114 := n0_; have HB := n1_; clear n0_ n1_; (try clear hb); (try clear hb2); (try clear hk); (try clear hi)))
         go_ret
         exact ⟨by first | rfl | (simp [errW_none, errW_some] <;> rfl) | (simp [*, errW_none, errW_some] <;> rfl), by repeat (first | (with_reducible first | exact HB.out | apply below_alloc | apply pw_below_drewN | apply below_drew1) | exact HB.out)⟩
      ·rw [if_neg c22] at H
       have c22b0 : (t112 == 0) = false := beq_eq_false_iff_ne.mpr c22
       have c22b1 : (t112 != 0) = true := bne_iff_ne.mpr c22
       by_cases c60 : t112 = 6
       ·rw [if_pos c60] at H
        have c60b0 : (t112 == 6) = true := beq_iff_eq.mpr c60
        have c60b1 : (t112 != 6) = false := bne_eq_false_iff_eq.mpr c60
        clear c60
        replace H := Option.bind_eq_some_iff.mp H
        obtain ⟨t115, A610, H⟩ := H
        replace H : (some t115) = some r := H
        have A61 := am A610
        clear A610
        obtain rfl := Option.some.inj H
        go_wp2_with (first | ((with_reducible refine gate_callee (f := 11) rfl ?_); refine gL (some 45) Tryd.func11 #[.string a0] (h := ?_); (with_reducible refine (stacktext_Numeric.calls a0 t111 t112 _ A21.out).mono ?_); rintro e w62 ⟨v113, rfl, ho0, hb⟩; refine ⟨_, rfl, ?_⟩; have n0_ := am (Kd.R_lower ho0 (below_size (bA0 HB.out))); have n1_ := am (below_step (bA0 HB.out) hb); clear HB; have HO114 := n0_; have HB := n1_; clear n0_ n1_; (try clear hb); (try clear hb2); (try clear hk); (try clear hi); (try clear ho0)) | (go_at_call 10; (with_reducible refine (barscanlaw29_exampleHolds.calls  t115 _ A61.out).mono ?_); rintro e w63 ⟨rfl, hb⟩; have n0_ := am (Kd.R_below (rA HO114.out) hb); have n1_ := am (below_step (bA0 HB.out) hb); clear HO114; clear HB; have HO114 := n0_; have HB := n1_; clear n0_ n1_; (try clear hb); (try clear hb2); (try clear hk); (try clear hi)))
        go_ret
        exact ⟨by first | rfl | (simp [errW_none, errW_some] <;> rfl) | (simp [*, errW_none, errW_some] <;> rfl), by repeat (first | (with_reducible first | exact HB.out | apply below_alloc | apply pw_below_drewN | apply below_drew1) | exact HB.out)⟩
       ·rw [if_neg c60] at H
        have c60b0 : (t112 == 6) = false := beq_eq_false_iff_ne.mpr c60
        have c60b1 : (t112 != 6) = true := bne_iff_ne.mpr c60
        obtain rfl := Option.some.inj H
        go_wp2_with (first | ((with_reducible refine gate_callee (f := 11) rfl ?_); refine gL (some 45) Tryd.func11 #[.string a0] (h := ?_); (with_reducible refine (stacktext_Numeric.calls a0 t111 t112 _ A21.out).mono ?_); rintro e w64 ⟨v113, rfl, ho0, hb⟩; refine ⟨_, rfl, ?_⟩; have n0_ := am (Kd.R_lower ho0 (below_size (bA0 HB.out))); have n1_ := am (below_step (bA0 HB.out) hb); clear HB; have HO114 := n0_; have HB := n1_; clear n0_ n1_; (try clear hb); (try clear hb2); (try clear hk); (try clear hi); (try clear ho0)))
        go_ret
        exact ⟨by first | rfl | (simp [errW_none, errW_some] <;> rfl) | (simp [*, errW_none, errW_some] <;> rfl), by repeat (first | (with_reducible first | exact HB.out | apply below_alloc | apply pw_below_drewN | apply below_drew1) | exact HB.out)⟩
def barscanlaw29_StacktextDigits.Pure : Prop := ∀ (a0 : ByteArray) (l1 : List Int), a0.size ≤ 140737488351232 → l1.length ≤ maxLen → l1.length * 8 ≤ 140737488351232 → (∀ x ∈ l1, (Lit.int .i64 x).wf = true) → ∃ k, barscanlaw29_StacktextDigits.f k a0 l1 = some true
theorem barscanlaw29_StacktextDigits.walk (P : barscanlaw29_StacktextDigits.Pure) (a0 : ByteArray) (a1 : Option Addr) (len1 cap1 : Nat) (z1 : List Int) (w : World) (w0 : a0.size ≤ 140737488351232) (w1 : (a1 = none ∧ len1 = 0 ∧ cap1 = 0 ∧ z1 = []) ∨ ∃ x, a1 = some x ∧ len1 ≤ cap1 ∧ cap1 ≤ maxLen ∧ z1.length = cap1 ∧ (∀ i, i < z1.length → w.cell? (x.add i) = some (.int .i64 (z1.getD i 0))) ∧ ∀ n ∈ z1, (Lit.int .i64 n).wf = true) (y1 : len1 * 8 ≤ 140737488351232) :
  Calls Tryd.prog 6 #[.string a0, .slice a1 len1 cap1] w fun e w' => e = .returned (.bool true) ∧ Below w.heap.size w w' := by
 obtain ⟨l1, rfl, hr1, hm1, hw1, hc1⟩ := ReadsInt.ofRowC w1
 obtain ⟨k, h⟩ := P a0 l1 w0 hm1 y1 hw1
 refine (barscanlaw29_StacktextDigits.calls k a0 _ _ l1 true w (Kd.C_of_reads (d := (0 : Int)) (h1 := fun _ => rfl) hr1) hc1 h).mono ?_
 rintro e w' ⟨rfl, hd⟩
 exact ⟨rfl, hd⟩
end Go.Proofs.YtoadabodhdgdjaaDoor.CD
