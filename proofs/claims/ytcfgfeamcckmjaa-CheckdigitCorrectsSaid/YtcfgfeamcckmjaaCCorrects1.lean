-- Written by a program of ours around the kit's print, functions of ours put in.
import Derived.Test.YtcfgfeamcckmjaaCCorrects0
namespace Go.Proofs.Ytcfgfeamcckmjaa.CCorrects
open Go.RowKit Go.Proofs.YtcfgfeamcckmjaaW.PrintWords Go.Proofs.YtcfgfeamcckmjaaW.PrintLast Go.Proofs.YtcfgfeamcckmjaaW.PrintMore
attribute [local go_sem] max2_int min2_int max_two min_two max_three min_three max_four min_four   -- for this text's walks alone
open Go.Proofs.Ytcfgfeamcckmjaa.Chk
set_option linter.unusedVariables false
set_option linter.unusedSimpArgs false

/-! ### barscanlaw09_has: function 28 -/
def barscanlaw09_has.l0 : Nat → List ByteArray → ByteArray → Int → Option (Bool)
  | 0, _, _, _ => none
  | k + 1, x0, x1, x5 => if x5 < (x0.length : Int) then (if 0 ≤ x5 then (if (rdOf ByteArray.empty x0 x5).toList = x1.toList then (some true) else (barscanlaw09_has.l0 k x0 x1 (wrap64 (x5 + 1)))) else (none)) else (some false)
def barscanlaw09_has.f (k : Nat) (l0 : List ByteArray) (a1 : ByteArray) : Option (Bool) := barscanlaw09_has.l0 k l0 a1 0
theorem barscanlaw09_has.mono_l : ∀ k, (∀ y0 y1 y2, LeO (barscanlaw09_has.l0 k y0 y1 y2) (barscanlaw09_has.l0 (k + 1) y0 y1 y2))
  | 0 => fun _ _ _ r h => by simp [barscanlaw09_has.l0] at h
  | k + 1 => by
    have ih0 := barscanlaw09_has.mono_l k
    · intro y0 y1 y2
      unfold barscanlaw09_has.l0
      repeat' first
      | (with_reducible exact ih0 _ _ _)
      | (with_reducible exact LeO.refl _)
      | (with_reducible exact LeO.none _)
      | (with_reducible refine LeO.ite ?_ ?_)
      | (with_reducible refine LeO.bind ?_ (fun _ => ?_))
      | exact ih0 _ _ _
      | exact LeO.none _
      | refine LeO.ite ?_ ?_
      | refine LeO.bind ?_ (fun _ => ?_)
theorem barscanlaw09_has.mono : ∀ a0 a1 k, LeO (barscanlaw09_has.f k a0 a1) (barscanlaw09_has.f (k + 1) a0 a1) := by
  intro a0 a1 k
  have ih0 := barscanlaw09_has.mono_l k
  unfold barscanlaw09_has.f
  repeat' first
      | (with_reducible exact ih0 _ _ _)
      | (with_reducible exact LeO.refl _)
      | (with_reducible exact LeO.none _)
      | (with_reducible refine LeO.ite ?_ ?_)
      | (with_reducible refine LeO.bind ?_ (fun _ => ?_))
      | exact ih0 _ _ _
      | exact LeO.none _
      | refine LeO.ite ?_ ?_
      | refine LeO.bind ?_ (fun _ => ?_)
set_option maxHeartbeats 8000000 in
set_option maxRecDepth 100000 in
theorem barscanlaw09_has.calls (k : Nat) (A0 : Option Addr) (c0 : Nat) (l0 : List ByteArray) (a1 : ByteArray) (r : Bool) (w : World) (hr0 : Kd.C Kd.string w A0 l0.length l0) (hc0 : l0.length ≤ c0) (h : barscanlaw09_has.f k l0 a1 = some r) :
    Calls Try.prog 28 #[.slice A0 l0.length c0, .string a1] w fun e w' => e = .returned (.bool r) ∧ Drawn0 w w' := by
  have HR0 := Aside0.mk hr0
  have HC0 := Aside0.mk hc0
  clear hr0 hc0
  have H : (barscanlaw09_has.l0 k l0 a1 0) = some r := h
  clear h
  have H' := Aside0.mk H
  clear H
  go_enter Try.func28, Try.ntmps28
  go_wp2
  go_loopg [5] k (fun kq v5 w' => ∃ (x5_1 : Int), v5 = .int .i64 x5_1 ∧ Aside0 (barscanlaw09_has.l0 kq l0 a1 x5_1 = some r) ∧ Aside0 (kq ≤ k) ∧ Drawn0 w w')
  case atStart => exact ⟨(0), (by first | rfl | (simp; done) | (simp [*]; done)), H', ⟨Nat.le_refl _⟩, by repeat (first | exact Drawn0.refl _ | apply Drawn0.step)⟩
  case round =>
    clear H'
    try clear c2
    try clear p2
    obtain ⟨x5_1, rfl, HA, HK1, ⟨m1, rfl⟩⟩ := hrel
    cases gk with
    | zero => exact absurd HA.out (by simp [barscanlaw09_has.l0])
    | succ k1 =>
      have H := HA.out
      clear HA
      simp only [barscanlaw09_has.l0] at H
      by_cases c3 : x5_1 < (l0.length : Int)
      · rw [if_pos c3] at H
        have c3b0 : decide (x5_1 < (l0.length : Int)) = true := decide_eq_true c3
        clear c3
        by_cases c4 : 0 ≤ x5_1
        · rw [if_pos c4] at H
          have c4b0 : decide (0 ≤ x5_1) = true := decide_eq_true c4
          clear c4
          by_cases c5 : (rdOf ByteArray.empty l0 x5_1).toList = a1.toList
          · rw [if_pos c5] at H
            have c5b0 : ((rdOf ByteArray.empty l0 x5_1).toList == a1.toList) = true := beq_iff_eq.mpr c5
            have c5b1 : ((rdOf ByteArray.empty l0 x5_1).toList != a1.toList) = false := bne_eq_false_iff_eq.mpr c5
            clear c5
            obtain rfl := Option.some.inj H
            have p101 : 0 ≤ (x5_1 : Int) := of_decide_eq_true (by first | (with_reducible assumption) | assumption)
            have q101 : x5_1 < (l0.length : Int) := of_decide_eq_true (by first | (with_reducible assumption) | assumption)
            obtain ⟨ad101, e101, hx101_0⟩ := Kd.at_string HR0.out x5_1 p101 q101
            cases e101
            replace p101 := eq_true p101
            replace q101 := eq_true q101
            go_wp2
            go_ret
            exact ⟨by first | rfl | (simp; done) | (simp [*]; done), by repeat (first | exact Drawn0.refl _ | apply Drawn0.step)⟩
          · rw [if_neg c5] at H
            have c5b0 : ((rdOf ByteArray.empty l0 x5_1).toList == a1.toList) = false := beq_eq_false_iff_ne.mpr c5
            have c5b1 : ((rdOf ByteArray.empty l0 x5_1).toList != a1.toList) = true := bne_iff_ne.mpr c5
            have H' := Aside0.mk H
            clear H
            have p101 : 0 ≤ (x5_1 : Int) := of_decide_eq_true (by first | (with_reducible assumption) | assumption)
            have q101 : x5_1 < (l0.length : Int) := of_decide_eq_true (by first | (with_reducible assumption) | assumption)
            obtain ⟨ad101, e101, hx101_0⟩ := Kd.at_string HR0.out x5_1 p101 q101
            cases e101
            replace p101 := eq_true p101
            replace q101 := eq_true q101
            go_wp2
            go_roundg k1
            case measure => have := HK1.out; omega
            case rel => exact ⟨(wrap64 (x5_1 + 1)), (by first | rfl | (simp; done) | (simp [*]; done)), H', ⟨by have := HK1.out; omega⟩, by repeat (first | exact Drawn0.refl _ | apply Drawn0.step)⟩
        · rw [if_neg c4] at H
          exact absurd H (by simp)
      · rw [if_neg c3] at H
        have c3b0 : decide (x5_1 < (l0.length : Int)) = false := decide_eq_false c3
        clear c3
        obtain rfl := Option.some.inj H
        go_wp2
        go_ret
        exact ⟨by first | rfl | (simp; done) | (simp [*]; done), by repeat (first | exact Drawn0.refl _ | apply Drawn0.step)⟩

/-! ### barscanlaw09_gives: function 31 -/
def barscanlaw09_gives.f (a0 : Int) (a1 : ByteArray) (a2 : ByteArray) : Option (Bool) := (checkdigit_Compute.f a0 a1).bind fun bt102 => (if bt102.1.toList = a2.toList then (some (bt102.2 == 0)) else (some false))
set_option maxHeartbeats 8000000 in
set_option maxRecDepth 100000 in
theorem barscanlaw09_gives.calls (a0 : Int) (a1 : ByteArray) (a2 : ByteArray) (r : Bool) (w : World) (h : barscanlaw09_gives.f a0 a1 a2 = some r) :
    Calls Try.prog 31 #[.int .i64 a0, .string a1, .string a2] w fun e w' => e = .returned (.bool r) ∧ Below w.heap.size w w' := by
  have HB := Aside0.mk (Below.refl w.heap.size w)
  have H : ((checkdigit_Compute.f a0 a1).bind fun bt102 => (if bt102.1.toList = a2.toList then (some (bt102.2 == 0)) else (some false))) = some r := h
  clear h
  replace H := Option.bind_eq_some_iff.mp H
  obtain ⟨⟨t102, t103⟩, A40, H⟩ := H
  replace H : (if t102.toList = a2.toList then (some (t103 == 0)) else (some false)) = some r := H
  have A4 := Aside0.mk A40
  clear A40
  by_cases c5 : t102.toList = a2.toList
  · rw [if_pos c5] at H
    have c5b0 : (t102.toList == a2.toList) = true := beq_iff_eq.mpr c5
    have c5b1 : (t102.toList != a2.toList) = false := bne_eq_false_iff_eq.mpr c5
    clear c5
    obtain rfl := Option.some.inj H
    go_enter Try.func31, Try.ntmps31
    go_wp2_with (first | ((with_reducible refine gate_callee (f := 22) rfl ?_); refine goesL_ (some 12) rfl rfl Try.func22 (by kernel_rfl) rfl #[.int .i64 a0, .string a1] rfl (by (try simp only [List.map_toArray, List.map_cons, List.map_nil]); first | done | rfl | (simp only [List.length_drop, List.length_take]; rfl)) ?_; (with_reducible refine (checkdigit_Compute.calls a0 a1 t102 t103 _ A4.out).mono ?_); rintro e w6 ⟨rfl, hb⟩; refine ⟨_, rfl, ?_⟩; have n0_ := Aside0.mk (below_step (by repeat (first | (with_reducible first | exact HB.out | apply below_alloc | apply pw_below_drewN | apply below_drew1) | exact HB.out)) hb); clear HB; have HB := n0_; clear n0_; (try clear hb); (try clear hb2); (try clear hk); (try clear hi)))
    go_ret
    exact ⟨by first | rfl | (simp [errW_none, errW_some] <;> rfl) | (simp [*, errW_none, errW_some] <;> rfl), by repeat (first | (with_reducible first | exact HB.out | apply below_alloc | apply pw_below_drewN | apply below_drew1) | exact HB.out)⟩
  · rw [if_neg c5] at H
    have c5b0 : (t102.toList == a2.toList) = false := beq_eq_false_iff_ne.mpr c5
    have c5b1 : (t102.toList != a2.toList) = true := bne_iff_ne.mpr c5
    obtain rfl := Option.some.inj H
    go_enter Try.func31, Try.ntmps31
    go_wp2_with (first | ((with_reducible refine gate_callee (f := 22) rfl ?_); refine goesL_ (some 12) rfl rfl Try.func22 (by kernel_rfl) rfl #[.int .i64 a0, .string a1] rfl (by (try simp only [List.map_toArray, List.map_cons, List.map_nil]); first | done | rfl | (simp only [List.length_drop, List.length_take]; rfl)) ?_; (with_reducible refine (checkdigit_Compute.calls a0 a1 t102 t103 _ A4.out).mono ?_); rintro e w7 ⟨rfl, hb⟩; refine ⟨_, rfl, ?_⟩; have n0_ := Aside0.mk (below_step (by repeat (first | (with_reducible first | exact HB.out | apply below_alloc | apply pw_below_drewN | apply below_drew1) | exact HB.out)) hb); clear HB; have HB := n0_; clear n0_; (try clear hb); (try clear hb2); (try clear hk); (try clear hi)))
    go_ret
    exact ⟨by first | rfl | (simp [errW_none, errW_some] <;> rfl) | (simp [*, errW_none, errW_some] <;> rfl), by repeat (first | (with_reducible first | exact HB.out | apply below_alloc | apply pw_below_drewN | apply below_drew1) | exact HB.out)⟩

/-! ### barscanlaw09_exampleHolds: function 12 -/
def barscanlaw09_exampleHolds.j0 : Nat → Bool → Option (Bool)
  | 0, _ => none
  | k + 1, x34 => if x34 = true then (some false) else ((checkdigit_Weighted.f (⟨#[49, 50, 51]⟩ : ByteArray) (([1, 3] : List Int)) 10).bind fun bt115 => ((checkdigit_Corrections.f 5 (⟨#[53, 55, 52, 50]⟩ : ByteArray)).bind fun bt117 => (if bt115.1 = 0 then (if bt115.2 = 0 then (if bt117.2 = 0 then ((barscanlaw09_has.f k bt117.1 (⟨#[53, 55, 50, 52]⟩ : ByteArray)).bind fun t121 => (if t121 = true then ((checkdigit_Verify.f 6 (⟨#[49, 50, 51, 50, 48]⟩ : ByteArray)).bind fun t122 => (if t122 = 0 then ((checkdigit_Verify.f 6 (⟨#[49, 50, 51, 50, 49]⟩ : ByteArray)).bind fun t123 => (some (t123 == 8))) else (some false))) else (some false))) else (some false)) else (some false)) else (some false))))
def barscanlaw09_exampleHolds.f (k : Nat)  : Option (Bool) := (barscanlaw09_gives.f 1 (⟨#[53, 57, 48, 49, 50, 51, 52, 49, 50, 51, 52, 53]⟩ : ByteArray) (⟨#[55]⟩ : ByteArray)).bind fun t104 => (if t104 = true then ((barscanlaw09_gives.f 2 (⟨#[55, 57, 57, 50, 55, 51, 57, 56, 55, 49]⟩ : ByteArray) (⟨#[51]⟩ : ByteArray)).bind fun t105 => (if t105 = true then ((barscanlaw09_gives.f 3 (⟨#[48, 51, 48, 54, 52, 48, 54, 49, 53]⟩ : ByteArray) (⟨#[50]⟩ : ByteArray)).bind fun t106 => (if t106 = true then ((barscanlaw09_gives.f 4 (⟨#[50, 51, 54]⟩ : ByteArray) (⟨#[51]⟩ : ByteArray)).bind fun t107 => (if t107 = true then ((barscanlaw09_gives.f 5 (⟨#[53, 55, 50]⟩ : ByteArray) (⟨#[52]⟩ : ByteArray)).bind fun t108 => (if t108 = true then ((barscanlaw09_gives.f 6 (⟨#[49, 50, 51]⟩ : ByteArray) (⟨#[50, 48]⟩ : ByteArray)).bind fun t109 => (if t109 = true then ((barscanlaw09_gives.f 7 (⟨#[67, 79, 68, 69, 51, 57]⟩ : ByteArray) (⟨#[87]⟩ : ByteArray)).bind fun t110 => (if t110 = true then ((barscanlaw09_gives.f 8 (⟨#[48, 48, 48, 48, 48, 48, 48, 50, 49, 56, 50, 53, 48, 48, 57]⟩ : ByteArray) (⟨#[55]⟩ : ByteArray)).bind fun t111 => (barscanlaw09_exampleHolds.j0 k (!t111))) else (barscanlaw09_exampleHolds.j0 k true))) else (barscanlaw09_exampleHolds.j0 k true))) else (barscanlaw09_exampleHolds.j0 k true))) else (barscanlaw09_exampleHolds.j0 k true))) else (barscanlaw09_exampleHolds.j0 k true))) else (barscanlaw09_exampleHolds.j0 k true))) else (barscanlaw09_exampleHolds.j0 k true))
theorem barscanlaw09_exampleHolds.mono_l : ∀ k, (∀ y0, LeO (barscanlaw09_exampleHolds.j0 k y0) (barscanlaw09_exampleHolds.j0 (k + 1) y0))
  | 0 => fun _ r h => by simp [barscanlaw09_exampleHolds.j0] at h
  | k + 1 => by
    have ih0 := barscanlaw09_exampleHolds.mono_l k
    · intro y0
      unfold barscanlaw09_exampleHolds.j0
      repeat' first
      | (with_reducible exact ih0 _)
      | (with_reducible exact barscanlaw09_has.mono _ _ _)
      | (with_reducible exact LeO.refl _)
      | (with_reducible exact LeO.none _)
      | (with_reducible refine LeO.ite ?_ ?_)
      | (with_reducible refine LeO.bind ?_ (fun _ => ?_))
      | exact ih0 _
      | exact barscanlaw09_has.mono _ _ _
      | exact LeO.none _
      | refine LeO.ite ?_ ?_
      | refine LeO.bind ?_ (fun _ => ?_)
theorem barscanlaw09_exampleHolds.mono : ∀ k, LeO (barscanlaw09_exampleHolds.f k ) (barscanlaw09_exampleHolds.f (k + 1) ) := by
  intro  k
  have ih0 := barscanlaw09_exampleHolds.mono_l k
  unfold barscanlaw09_exampleHolds.f
  repeat' first
      | (with_reducible exact ih0 _)
      | (with_reducible exact barscanlaw09_has.mono _ _ _)
      | (with_reducible exact LeO.refl _)
      | (with_reducible exact LeO.none _)
      | (with_reducible refine LeO.ite ?_ ?_)
      | (with_reducible refine LeO.bind ?_ (fun _ => ?_))
      | exact ih0 _
      | exact barscanlaw09_has.mono _ _ _
      | exact LeO.none _
      | refine LeO.ite ?_ ?_
      | refine LeO.bind ?_ (fun _ => ?_)
set_option maxHeartbeats 8000000 in
set_option maxRecDepth 100000 in
theorem barscanlaw09_exampleHolds.calls (k : Nat)  (r : Bool) (w : World) (h : barscanlaw09_exampleHolds.f k  = some r) :
    Calls Try.prog 12 #[] w fun e w' => e = .returned (.bool r) ∧ Below w.heap.size w w' := by
  have HB := Aside0.mk (Below.refl w.heap.size w)
  have H : ((barscanlaw09_gives.f 1 (⟨#[53, 57, 48, 49, 50, 51, 52, 49, 50, 51, 52, 53]⟩ : ByteArray) (⟨#[55]⟩ : ByteArray)).bind fun t104 => (if t104 = true then ((barscanlaw09_gives.f 2 (⟨#[55, 57, 57, 50, 55, 51, 57, 56, 55, 49]⟩ : ByteArray) (⟨#[51]⟩ : ByteArray)).bind fun t105 => (if t105 = true then ((barscanlaw09_gives.f 3 (⟨#[48, 51, 48, 54, 52, 48, 54, 49, 53]⟩ : ByteArray) (⟨#[50]⟩ : ByteArray)).bind fun t106 => (if t106 = true then ((barscanlaw09_gives.f 4 (⟨#[50, 51, 54]⟩ : ByteArray) (⟨#[51]⟩ : ByteArray)).bind fun t107 => (if t107 = true then ((barscanlaw09_gives.f 5 (⟨#[53, 55, 50]⟩ : ByteArray) (⟨#[52]⟩ : ByteArray)).bind fun t108 => (if t108 = true then ((barscanlaw09_gives.f 6 (⟨#[49, 50, 51]⟩ : ByteArray) (⟨#[50, 48]⟩ : ByteArray)).bind fun t109 => (if t109 = true then ((barscanlaw09_gives.f 7 (⟨#[67, 79, 68, 69, 51, 57]⟩ : ByteArray) (⟨#[87]⟩ : ByteArray)).bind fun t110 => (if t110 = true then ((barscanlaw09_gives.f 8 (⟨#[48, 48, 48, 48, 48, 48, 48, 50, 49, 56, 50, 53, 48, 48, 57]⟩ : ByteArray) (⟨#[55]⟩ : ByteArray)).bind fun t111 => (barscanlaw09_exampleHolds.j0 k (!t111))) else (barscanlaw09_exampleHolds.j0 k true))) else (barscanlaw09_exampleHolds.j0 k true))) else (barscanlaw09_exampleHolds.j0 k true))) else (barscanlaw09_exampleHolds.j0 k true))) else (barscanlaw09_exampleHolds.j0 k true))) else (barscanlaw09_exampleHolds.j0 k true))) else (barscanlaw09_exampleHolds.j0 k true))) = some r := h
  clear h
  have HC1 := Aside0.mk H
  clear H
  go_enter Try.func12, Try.ntmps12
  go_upto_region 1 with (fail)
  go_cut [34] (fun v34 wc => ∃ (kq : Nat) (x34_0 : Bool), v34 = .bool x34_0 ∧ Aside0 (barscanlaw09_exampleHolds.j0 kq x34_0 = some r) ∧ Aside0 (kq ≤ k) ∧ Aside0 (Below w.heap.size w wc))
  case first =>
    have H := HC1.out
    clear HC1
    replace H := Option.bind_eq_some_iff.mp H
    obtain ⟨t104, A20, H⟩ := H
    replace H : (if t104 = true then ((barscanlaw09_gives.f 2 (⟨#[55, 57, 57, 50, 55, 51, 57, 56, 55, 49]⟩ : ByteArray) (⟨#[51]⟩ : ByteArray)).bind fun t105 => (if t105 = true then ((barscanlaw09_gives.f 3 (⟨#[48, 51, 48, 54, 52, 48, 54, 49, 53]⟩ : ByteArray) (⟨#[50]⟩ : ByteArray)).bind fun t106 => (if t106 = true then ((barscanlaw09_gives.f 4 (⟨#[50, 51, 54]⟩ : ByteArray) (⟨#[51]⟩ : ByteArray)).bind fun t107 => (if t107 = true then ((barscanlaw09_gives.f 5 (⟨#[53, 55, 50]⟩ : ByteArray) (⟨#[52]⟩ : ByteArray)).bind fun t108 => (if t108 = true then ((barscanlaw09_gives.f 6 (⟨#[49, 50, 51]⟩ : ByteArray) (⟨#[50, 48]⟩ : ByteArray)).bind fun t109 => (if t109 = true then ((barscanlaw09_gives.f 7 (⟨#[67, 79, 68, 69, 51, 57]⟩ : ByteArray) (⟨#[87]⟩ : ByteArray)).bind fun t110 => (if t110 = true then ((barscanlaw09_gives.f 8 (⟨#[48, 48, 48, 48, 48, 48, 48, 50, 49, 56, 50, 53, 48, 48, 57]⟩ : ByteArray) (⟨#[55]⟩ : ByteArray)).bind fun t111 => (barscanlaw09_exampleHolds.j0 k (!t111))) else (barscanlaw09_exampleHolds.j0 k true))) else (barscanlaw09_exampleHolds.j0 k true))) else (barscanlaw09_exampleHolds.j0 k true))) else (barscanlaw09_exampleHolds.j0 k true))) else (barscanlaw09_exampleHolds.j0 k true))) else (barscanlaw09_exampleHolds.j0 k true))) else (barscanlaw09_exampleHolds.j0 k true)) = some r := H
    have A2 := Aside0.mk A20
    clear A20
    by_cases c3 : t104 = true
    · subst c3
      have H1 : ((barscanlaw09_gives.f 2 (⟨#[55, 57, 57, 50, 55, 51, 57, 56, 55, 49]⟩ : ByteArray) (⟨#[51]⟩ : ByteArray)).bind fun t105 => (if t105 = true then ((barscanlaw09_gives.f 3 (⟨#[48, 51, 48, 54, 52, 48, 54, 49, 53]⟩ : ByteArray) (⟨#[50]⟩ : ByteArray)).bind fun t106 => (if t106 = true then ((barscanlaw09_gives.f 4 (⟨#[50, 51, 54]⟩ : ByteArray) (⟨#[51]⟩ : ByteArray)).bind fun t107 => (if t107 = true then ((barscanlaw09_gives.f 5 (⟨#[53, 55, 50]⟩ : ByteArray) (⟨#[52]⟩ : ByteArray)).bind fun t108 => (if t108 = true then ((barscanlaw09_gives.f 6 (⟨#[49, 50, 51]⟩ : ByteArray) (⟨#[50, 48]⟩ : ByteArray)).bind fun t109 => (if t109 = true then ((barscanlaw09_gives.f 7 (⟨#[67, 79, 68, 69, 51, 57]⟩ : ByteArray) (⟨#[87]⟩ : ByteArray)).bind fun t110 => (if t110 = true then ((barscanlaw09_gives.f 8 (⟨#[48, 48, 48, 48, 48, 48, 48, 50, 49, 56, 50, 53, 48, 48, 57]⟩ : ByteArray) (⟨#[55]⟩ : ByteArray)).bind fun t111 => (barscanlaw09_exampleHolds.j0 k (!t111))) else (barscanlaw09_exampleHolds.j0 k true))) else (barscanlaw09_exampleHolds.j0 k true))) else (barscanlaw09_exampleHolds.j0 k true))) else (barscanlaw09_exampleHolds.j0 k true))) else (barscanlaw09_exampleHolds.j0 k true))) else (barscanlaw09_exampleHolds.j0 k true))) = some r := by rw [if_pos rfl] at H; exact H
      clear H
      have H := H1
      clear H1
      replace H := Option.bind_eq_some_iff.mp H
      obtain ⟨t105, A40, H⟩ := H
      replace H : (if t105 = true then ((barscanlaw09_gives.f 3 (⟨#[48, 51, 48, 54, 52, 48, 54, 49, 53]⟩ : ByteArray) (⟨#[50]⟩ : ByteArray)).bind fun t106 => (if t106 = true then ((barscanlaw09_gives.f 4 (⟨#[50, 51, 54]⟩ : ByteArray) (⟨#[51]⟩ : ByteArray)).bind fun t107 => (if t107 = true then ((barscanlaw09_gives.f 5 (⟨#[53, 55, 50]⟩ : ByteArray) (⟨#[52]⟩ : ByteArray)).bind fun t108 => (if t108 = true then ((barscanlaw09_gives.f 6 (⟨#[49, 50, 51]⟩ : ByteArray) (⟨#[50, 48]⟩ : ByteArray)).bind fun t109 => (if t109 = true then ((barscanlaw09_gives.f 7 (⟨#[67, 79, 68, 69, 51, 57]⟩ : ByteArray) (⟨#[87]⟩ : ByteArray)).bind fun t110 => (if t110 = true then ((barscanlaw09_gives.f 8 (⟨#[48, 48, 48, 48, 48, 48, 48, 50, 49, 56, 50, 53, 48, 48, 57]⟩ : ByteArray) (⟨#[55]⟩ : ByteArray)).bind fun t111 => (barscanlaw09_exampleHolds.j0 k (!t111))) else (barscanlaw09_exampleHolds.j0 k true))) else (barscanlaw09_exampleHolds.j0 k true))) else (barscanlaw09_exampleHolds.j0 k true))) else (barscanlaw09_exampleHolds.j0 k true))) else (barscanlaw09_exampleHolds.j0 k true))) else (barscanlaw09_exampleHolds.j0 k true)) = some r := H
      have A4 := Aside0.mk A40
      clear A40
      by_cases c5 : t105 = true
      · subst c5
        have H1 : ((barscanlaw09_gives.f 3 (⟨#[48, 51, 48, 54, 52, 48, 54, 49, 53]⟩ : ByteArray) (⟨#[50]⟩ : ByteArray)).bind fun t106 => (if t106 = true then ((barscanlaw09_gives.f 4 (⟨#[50, 51, 54]⟩ : ByteArray) (⟨#[51]⟩ : ByteArray)).bind fun t107 => (if t107 = true then ((barscanlaw09_gives.f 5 (⟨#[53, 55, 50]⟩ : ByteArray) (⟨#[52]⟩ : ByteArray)).bind fun t108 => (if t108 = true then ((barscanlaw09_gives.f 6 (⟨#[49, 50, 51]⟩ : ByteArray) (⟨#[50, 48]⟩ : ByteArray)).bind fun t109 => (if t109 = true then ((barscanlaw09_gives.f 7 (⟨#[67, 79, 68, 69, 51, 57]⟩ : ByteArray) (⟨#[87]⟩ : ByteArray)).bind fun t110 => (if t110 = true then ((barscanlaw09_gives.f 8 (⟨#[48, 48, 48, 48, 48, 48, 48, 50, 49, 56, 50, 53, 48, 48, 57]⟩ : ByteArray) (⟨#[55]⟩ : ByteArray)).bind fun t111 => (barscanlaw09_exampleHolds.j0 k (!t111))) else (barscanlaw09_exampleHolds.j0 k true))) else (barscanlaw09_exampleHolds.j0 k true))) else (barscanlaw09_exampleHolds.j0 k true))) else (barscanlaw09_exampleHolds.j0 k true))) else (barscanlaw09_exampleHolds.j0 k true))) = some r := by rw [if_pos rfl] at H; exact H
        clear H
        have H := H1
        clear H1
        replace H := Option.bind_eq_some_iff.mp H
        obtain ⟨t106, A60, H⟩ := H
        replace H : (if t106 = true then ((barscanlaw09_gives.f 4 (⟨#[50, 51, 54]⟩ : ByteArray) (⟨#[51]⟩ : ByteArray)).bind fun t107 => (if t107 = true then ((barscanlaw09_gives.f 5 (⟨#[53, 55, 50]⟩ : ByteArray) (⟨#[52]⟩ : ByteArray)).bind fun t108 => (if t108 = true then ((barscanlaw09_gives.f 6 (⟨#[49, 50, 51]⟩ : ByteArray) (⟨#[50, 48]⟩ : ByteArray)).bind fun t109 => (if t109 = true then ((barscanlaw09_gives.f 7 (⟨#[67, 79, 68, 69, 51, 57]⟩ : ByteArray) (⟨#[87]⟩ : ByteArray)).bind fun t110 => (if t110 = true then ((barscanlaw09_gives.f 8 (⟨#[48, 48, 48, 48, 48, 48, 48, 50, 49, 56, 50, 53, 48, 48, 57]⟩ : ByteArray) (⟨#[55]⟩ : ByteArray)).bind fun t111 => (barscanlaw09_exampleHolds.j0 k (!t111))) else (barscanlaw09_exampleHolds.j0 k true))) else (barscanlaw09_exampleHolds.j0 k true))) else (barscanlaw09_exampleHolds.j0 k true))) else (barscanlaw09_exampleHolds.j0 k true))) else (barscanlaw09_exampleHolds.j0 k true)) = some r := H
        have A6 := Aside0.mk A60
        clear A60
        by_cases c7 : t106 = true
        · subst c7
          have H1 : ((barscanlaw09_gives.f 4 (⟨#[50, 51, 54]⟩ : ByteArray) (⟨#[51]⟩ : ByteArray)).bind fun t107 => (if t107 = true then ((barscanlaw09_gives.f 5 (⟨#[53, 55, 50]⟩ : ByteArray) (⟨#[52]⟩ : ByteArray)).bind fun t108 => (if t108 = true then ((barscanlaw09_gives.f 6 (⟨#[49, 50, 51]⟩ : ByteArray) (⟨#[50, 48]⟩ : ByteArray)).bind fun t109 => (if t109 = true then ((barscanlaw09_gives.f 7 (⟨#[67, 79, 68, 69, 51, 57]⟩ : ByteArray) (⟨#[87]⟩ : ByteArray)).bind fun t110 => (if t110 = true then ((barscanlaw09_gives.f 8 (⟨#[48, 48, 48, 48, 48, 48, 48, 50, 49, 56, 50, 53, 48, 48, 57]⟩ : ByteArray) (⟨#[55]⟩ : ByteArray)).bind fun t111 => (barscanlaw09_exampleHolds.j0 k (!t111))) else (barscanlaw09_exampleHolds.j0 k true))) else (barscanlaw09_exampleHolds.j0 k true))) else (barscanlaw09_exampleHolds.j0 k true))) else (barscanlaw09_exampleHolds.j0 k true))) = some r := by rw [if_pos rfl] at H; exact H
          clear H
          have H := H1
          clear H1
          replace H := Option.bind_eq_some_iff.mp H
          obtain ⟨t107, A80, H⟩ := H
          replace H : (if t107 = true then ((barscanlaw09_gives.f 5 (⟨#[53, 55, 50]⟩ : ByteArray) (⟨#[52]⟩ : ByteArray)).bind fun t108 => (if t108 = true then ((barscanlaw09_gives.f 6 (⟨#[49, 50, 51]⟩ : ByteArray) (⟨#[50, 48]⟩ : ByteArray)).bind fun t109 => (if t109 = true then ((barscanlaw09_gives.f 7 (⟨#[67, 79, 68, 69, 51, 57]⟩ : ByteArray) (⟨#[87]⟩ : ByteArray)).bind fun t110 => (if t110 = true then ((barscanlaw09_gives.f 8 (⟨#[48, 48, 48, 48, 48, 48, 48, 50, 49, 56, 50, 53, 48, 48, 57]⟩ : ByteArray) (⟨#[55]⟩ : ByteArray)).bind fun t111 => (barscanlaw09_exampleHolds.j0 k (!t111))) else (barscanlaw09_exampleHolds.j0 k true))) else (barscanlaw09_exampleHolds.j0 k true))) else (barscanlaw09_exampleHolds.j0 k true))) else (barscanlaw09_exampleHolds.j0 k true)) = some r := H
          have A8 := Aside0.mk A80
          clear A80
          by_cases c9 : t107 = true
          · subst c9
            have H1 : ((barscanlaw09_gives.f 5 (⟨#[53, 55, 50]⟩ : ByteArray) (⟨#[52]⟩ : ByteArray)).bind fun t108 => (if t108 = true then ((barscanlaw09_gives.f 6 (⟨#[49, 50, 51]⟩ : ByteArray) (⟨#[50, 48]⟩ : ByteArray)).bind fun t109 => (if t109 = true then ((barscanlaw09_gives.f 7 (⟨#[67, 79, 68, 69, 51, 57]⟩ : ByteArray) (⟨#[87]⟩ : ByteArray)).bind fun t110 => (if t110 = true then ((barscanlaw09_gives.f 8 (⟨#[48, 48, 48, 48, 48, 48, 48, 50, 49, 56, 50, 53, 48, 48, 57]⟩ : ByteArray) (⟨#[55]⟩ : ByteArray)).bind fun t111 => (barscanlaw09_exampleHolds.j0 k (!t111))) else (barscanlaw09_exampleHolds.j0 k true))) else (barscanlaw09_exampleHolds.j0 k true))) else (barscanlaw09_exampleHolds.j0 k true))) = some r := by rw [if_pos rfl] at H; exact H
            clear H
            have H := H1
            clear H1
            replace H := Option.bind_eq_some_iff.mp H
            obtain ⟨t108, A100, H⟩ := H
            replace H : (if t108 = true then ((barscanlaw09_gives.f 6 (⟨#[49, 50, 51]⟩ : ByteArray) (⟨#[50, 48]⟩ : ByteArray)).bind fun t109 => (if t109 = true then ((barscanlaw09_gives.f 7 (⟨#[67, 79, 68, 69, 51, 57]⟩ : ByteArray) (⟨#[87]⟩ : ByteArray)).bind fun t110 => (if t110 = true then ((barscanlaw09_gives.f 8 (⟨#[48, 48, 48, 48, 48, 48, 48, 50, 49, 56, 50, 53, 48, 48, 57]⟩ : ByteArray) (⟨#[55]⟩ : ByteArray)).bind fun t111 => (barscanlaw09_exampleHolds.j0 k (!t111))) else (barscanlaw09_exampleHolds.j0 k true))) else (barscanlaw09_exampleHolds.j0 k true))) else (barscanlaw09_exampleHolds.j0 k true)) = some r := H
            have A10 := Aside0.mk A100
            clear A100
            by_cases c11 : t108 = true
            · subst c11
              have H1 : ((barscanlaw09_gives.f 6 (⟨#[49, 50, 51]⟩ : ByteArray) (⟨#[50, 48]⟩ : ByteArray)).bind fun t109 => (if t109 = true then ((barscanlaw09_gives.f 7 (⟨#[67, 79, 68, 69, 51, 57]⟩ : ByteArray) (⟨#[87]⟩ : ByteArray)).bind fun t110 => (if t110 = true then ((barscanlaw09_gives.f 8 (⟨#[48, 48, 48, 48, 48, 48, 48, 50, 49, 56, 50, 53, 48, 48, 57]⟩ : ByteArray) (⟨#[55]⟩ : ByteArray)).bind fun t111 => (barscanlaw09_exampleHolds.j0 k (!t111))) else (barscanlaw09_exampleHolds.j0 k true))) else (barscanlaw09_exampleHolds.j0 k true))) = some r := by rw [if_pos rfl] at H; exact H
              clear H
              have H := H1
              clear H1
              replace H := Option.bind_eq_some_iff.mp H
              obtain ⟨t109, A120, H⟩ := H
              replace H : (if t109 = true then ((barscanlaw09_gives.f 7 (⟨#[67, 79, 68, 69, 51, 57]⟩ : ByteArray) (⟨#[87]⟩ : ByteArray)).bind fun t110 => (if t110 = true then ((barscanlaw09_gives.f 8 (⟨#[48, 48, 48, 48, 48, 48, 48, 50, 49, 56, 50, 53, 48, 48, 57]⟩ : ByteArray) (⟨#[55]⟩ : ByteArray)).bind fun t111 => (barscanlaw09_exampleHolds.j0 k (!t111))) else (barscanlaw09_exampleHolds.j0 k true))) else (barscanlaw09_exampleHolds.j0 k true)) = some r := H
              have A12 := Aside0.mk A120
              clear A120
              by_cases c13 : t109 = true
              · subst c13
                have H1 : ((barscanlaw09_gives.f 7 (⟨#[67, 79, 68, 69, 51, 57]⟩ : ByteArray) (⟨#[87]⟩ : ByteArray)).bind fun t110 => (if t110 = true then ((barscanlaw09_gives.f 8 (⟨#[48, 48, 48, 48, 48, 48, 48, 50, 49, 56, 50, 53, 48, 48, 57]⟩ : ByteArray) (⟨#[55]⟩ : ByteArray)).bind fun t111 => (barscanlaw09_exampleHolds.j0 k (!t111))) else (barscanlaw09_exampleHolds.j0 k true))) = some r := by rw [if_pos rfl] at H; exact H
                clear H
                have H := H1
                clear H1
                replace H := Option.bind_eq_some_iff.mp H
                obtain ⟨t110, A140, H⟩ := H
                replace H : (if t110 = true then ((barscanlaw09_gives.f 8 (⟨#[48, 48, 48, 48, 48, 48, 48, 50, 49, 56, 50, 53, 48, 48, 57]⟩ : ByteArray) (⟨#[55]⟩ : ByteArray)).bind fun t111 => (barscanlaw09_exampleHolds.j0 k (!t111))) else (barscanlaw09_exampleHolds.j0 k true)) = some r := H
                have A14 := Aside0.mk A140
                clear A140
                by_cases c15 : t110 = true
                · subst c15
                  have H1 : ((barscanlaw09_gives.f 8 (⟨#[48, 48, 48, 48, 48, 48, 48, 50, 49, 56, 50, 53, 48, 48, 57]⟩ : ByteArray) (⟨#[55]⟩ : ByteArray)).bind fun t111 => (barscanlaw09_exampleHolds.j0 k (!t111))) = some r := by rw [if_pos rfl] at H; exact H
                  clear H
                  have H := H1
                  clear H1
                  replace H := Option.bind_eq_some_iff.mp H
                  obtain ⟨t111, A160, H⟩ := H
                  replace H : (barscanlaw09_exampleHolds.j0 k (!t111)) = some r := H
                  have A16 := Aside0.mk A160
                  clear A160
                  have H' := Aside0.mk H
                  clear H
                  go_wp2_with (first | ((with_reducible refine gate_callee (f := 31) rfl ?_); refine goesL_ (some 5) rfl rfl Try.func31 (by kernel_rfl) rfl #[.int .i64 1, .string (⟨#[53, 57, 48, 49, 50, 51, 52, 49, 50, 51, 52, 53]⟩ : ByteArray), .string (⟨#[55]⟩ : ByteArray)] rfl (by (try simp only [List.map_toArray, List.map_cons, List.map_nil]); first | done | rfl | (simp only [List.length_drop, List.length_take]; rfl)) ?_; (with_reducible refine (barscanlaw09_gives.calls 1 (⟨#[53, 57, 48, 49, 50, 51, 52, 49, 50, 51, 52, 53]⟩ : ByteArray) (⟨#[55]⟩ : ByteArray) true _ A2.out).mono ?_); rintro e w17 ⟨rfl, hb⟩; refine ⟨_, rfl, ?_⟩; have n0_ := Aside0.mk (below_step (by repeat (first | (with_reducible first | exact HB.out | apply below_alloc | apply pw_below_drewN | apply below_drew1) | exact HB.out)) hb); clear HB; have HB := n0_; clear n0_; (try clear hb); (try clear hb2); (try clear hk); (try clear hi)) | (go_at_call 31; (with_reducible refine (barscanlaw09_gives.calls 2 (⟨#[55, 57, 57, 50, 55, 51, 57, 56, 55, 49]⟩ : ByteArray) (⟨#[51]⟩ : ByteArray) true _ A4.out).mono ?_); rintro e w18 ⟨rfl, hb⟩; have n0_ := Aside0.mk (below_step (by repeat (first | (with_reducible first | exact HB.out | apply below_alloc | apply pw_below_drewN | apply below_drew1) | exact HB.out)) hb); clear HB; have HB := n0_; clear n0_; (try clear hb); (try clear hb2); (try clear hk); (try clear hi)) | (go_at_call 31; (with_reducible refine (barscanlaw09_gives.calls 3 (⟨#[48, 51, 48, 54, 52, 48, 54, 49, 53]⟩ : ByteArray) (⟨#[50]⟩ : ByteArray) true _ A6.out).mono ?_); rintro e w19 ⟨rfl, hb⟩; have n0_ := Aside0.mk (below_step (by repeat (first | (with_reducible first | exact HB.out | apply below_alloc | apply pw_below_drewN | apply below_drew1) | exact HB.out)) hb); clear HB; have HB := n0_; clear n0_; (try clear hb); (try clear hb2); (try clear hk); (try clear hi)) | (go_at_call 31; (with_reducible refine (barscanlaw09_gives.calls 4 (⟨#[50, 51, 54]⟩ : ByteArray) (⟨#[51]⟩ : ByteArray) true _ A8.out).mono ?_); rintro e w20 ⟨rfl, hb⟩; have n0_ := Aside0.mk (below_step (by repeat (first | (with_reducible first | exact HB.out | apply below_alloc | apply pw_below_drewN | apply below_drew1) | exact HB.out)) hb); clear HB; have HB := n0_; clear n0_; (try clear hb); (try clear hb2); (try clear hk); (try clear hi)) | (go_at_call 31; (with_reducible refine (barscanlaw09_gives.calls 5 (⟨#[53, 55, 50]⟩ : ByteArray) (⟨#[52]⟩ : ByteArray) true _ A10.out).mono ?_); rintro e w21 ⟨rfl, hb⟩; have n0_ := Aside0.mk (below_step (by repeat (first | (with_reducible first | exact HB.out | apply below_alloc | apply pw_below_drewN | apply below_drew1) | exact HB.out)) hb); clear HB; have HB := n0_; clear n0_; (try clear hb); (try clear hb2); (try clear hk); (try clear hi)) | (go_at_call 31; (with_reducible refine (barscanlaw09_gives.calls 6 (⟨#[49, 50, 51]⟩ : ByteArray) (⟨#[50, 48]⟩ : ByteArray) true _ A12.out).mono ?_); rintro e w22 ⟨rfl, hb⟩; have n0_ := Aside0.mk (below_step (by repeat (first | (with_reducible first | exact HB.out | apply below_alloc | apply pw_below_drewN | apply below_drew1) | exact HB.out)) hb); clear HB; have HB := n0_; clear n0_; (try clear hb); (try clear hb2); (try clear hk); (try clear hi)) | (go_at_call 31; (with_reducible refine (barscanlaw09_gives.calls 7 (⟨#[67, 79, 68, 69, 51, 57]⟩ : ByteArray) (⟨#[87]⟩ : ByteArray) true _ A14.out).mono ?_); rintro e w23 ⟨rfl, hb⟩; have n0_ := Aside0.mk (below_step (by repeat (first | (with_reducible first | exact HB.out | apply below_alloc | apply pw_below_drewN | apply below_drew1) | exact HB.out)) hb); clear HB; have HB := n0_; clear n0_; (try clear hb); (try clear hb2); (try clear hk); (try clear hi)) | (go_at_call 31; (with_reducible refine (barscanlaw09_gives.calls 8 (⟨#[48, 48, 48, 48, 48, 48, 48, 50, 49, 56, 50, 53, 48, 48, 57]⟩ : ByteArray) (⟨#[55]⟩ : ByteArray) t111 _ A16.out).mono ?_); rintro e w24 ⟨rfl, hb⟩; have n0_ := Aside0.mk (below_step (by repeat (first | (with_reducible first | exact HB.out | apply below_alloc | apply pw_below_drewN | apply below_drew1) | exact HB.out)) hb); clear HB; have HB := n0_; clear n0_; (try clear hb); (try clear hb2); (try clear hk); (try clear hi)))
                  go_meet
                  case rel => exact ⟨_, (!t111), (by first | rfl | (simp; done) | (simp [*]; done)), H', ⟨by first | omega | exact Nat.le_refl _⟩, ⟨by repeat (first | (with_reducible first | exact HB.out | apply below_alloc | apply pw_below_drewN | apply below_drew1) | exact HB.out)⟩⟩
                · replace c15 := Bool.eq_false_iff.mpr c15
                  subst c15
                  have H1 : (barscanlaw09_exampleHolds.j0 k true) = some r := by rw [if_neg (show ¬ (false = true) by decide)] at H; exact H
                  clear H
                  have H := H1
                  clear H1
                  have H' := Aside0.mk H
                  clear H
                  go_wp2_with (first | ((with_reducible refine gate_callee (f := 31) rfl ?_); refine goesL_ (some 5) rfl rfl Try.func31 (by kernel_rfl) rfl #[.int .i64 1, .string (⟨#[53, 57, 48, 49, 50, 51, 52, 49, 50, 51, 52, 53]⟩ : ByteArray), .string (⟨#[55]⟩ : ByteArray)] rfl (by (try simp only [List.map_toArray, List.map_cons, List.map_nil]); first | done | rfl | (simp only [List.length_drop, List.length_take]; rfl)) ?_; (with_reducible refine (barscanlaw09_gives.calls 1 (⟨#[53, 57, 48, 49, 50, 51, 52, 49, 50, 51, 52, 53]⟩ : ByteArray) (⟨#[55]⟩ : ByteArray) true _ A2.out).mono ?_); rintro e w25 ⟨rfl, hb⟩; refine ⟨_, rfl, ?_⟩; have n0_ := Aside0.mk (below_step (by repeat (first | (with_reducible first | exact HB.out | apply below_alloc | apply pw_below_drewN | apply below_drew1) | exact HB.out)) hb); clear HB; have HB := n0_; clear n0_; (try clear hb); (try clear hb2); (try clear hk); (try clear hi)) | (go_at_call 31; (with_reducible refine (barscanlaw09_gives.calls 2 (⟨#[55, 57, 57, 50, 55, 51, 57, 56, 55, 49]⟩ : ByteArray) (⟨#[51]⟩ : ByteArray) true _ A4.out).mono ?_); rintro e w26 ⟨rfl, hb⟩; have n0_ := Aside0.mk (below_step (by repeat (first | (with_reducible first | exact HB.out | apply below_alloc | apply pw_below_drewN | apply below_drew1) | exact HB.out)) hb); clear HB; have HB := n0_; clear n0_; (try clear hb); (try clear hb2); (try clear hk); (try clear hi)) | (go_at_call 31; (with_reducible refine (barscanlaw09_gives.calls 3 (⟨#[48, 51, 48, 54, 52, 48, 54, 49, 53]⟩ : ByteArray) (⟨#[50]⟩ : ByteArray) true _ A6.out).mono ?_); rintro e w27 ⟨rfl, hb⟩; have n0_ := Aside0.mk (below_step (by repeat (first | (with_reducible first | exact HB.out | apply below_alloc | apply pw_below_drewN | apply below_drew1) | exact HB.out)) hb); clear HB; have HB := n0_; clear n0_; (try clear hb); (try clear hb2); (try clear hk); (try clear hi)) | (go_at_call 31; (with_reducible refine (barscanlaw09_gives.calls 4 (⟨#[50, 51, 54]⟩ : ByteArray) (⟨#[51]⟩ : ByteArray) true _ A8.out).mono ?_); rintro e w28 ⟨rfl, hb⟩; have n0_ := Aside0.mk (below_step (by repeat (first | (with_reducible first | exact HB.out | apply below_alloc | apply pw_below_drewN | apply below_drew1) | exact HB.out)) hb); clear HB; have HB := n0_; clear n0_; (try clear hb); (try clear hb2); (try clear hk); (try clear hi)) | (go_at_call 31; (with_reducible refine (barscanlaw09_gives.calls 5 (⟨#[53, 55, 50]⟩ : ByteArray) (⟨#[52]⟩ : ByteArray) true _ A10.out).mono ?_); rintro e w29 ⟨rfl, hb⟩; have n0_ := Aside0.mk (below_step (by repeat (first | (with_reducible first | exact HB.out | apply below_alloc | apply pw_below_drewN | apply below_drew1) | exact HB.out)) hb); clear HB; have HB := n0_; clear n0_; (try clear hb); (try clear hb2); (try clear hk); (try clear hi)) | (go_at_call 31; (with_reducible refine (barscanlaw09_gives.calls 6 (⟨#[49, 50, 51]⟩ : ByteArray) (⟨#[50, 48]⟩ : ByteArray) true _ A12.out).mono ?_); rintro e w30 ⟨rfl, hb⟩; have n0_ := Aside0.mk (below_step (by repeat (first | (with_reducible first | exact HB.out | apply below_alloc | apply pw_below_drewN | apply below_drew1) | exact HB.out)) hb); clear HB; have HB := n0_; clear n0_; (try clear hb); (try clear hb2); (try clear hk); (try clear hi)) | (go_at_call 31; (with_reducible refine (barscanlaw09_gives.calls 7 (⟨#[67, 79, 68, 69, 51, 57]⟩ : ByteArray) (⟨#[87]⟩ : ByteArray) false _ A14.out).mono ?_); rintro e w31 ⟨rfl, hb⟩; have n0_ := Aside0.mk (below_step (by repeat (first | (with_reducible first | exact HB.out | apply below_alloc | apply pw_below_drewN | apply below_drew1) | exact HB.out)) hb); clear HB; have HB := n0_; clear n0_; (try clear hb); (try clear hb2); (try clear hk); (try clear hi)))
                  go_meet
                  case rel => exact ⟨_, (true), (by first | rfl | (simp; done) | (simp [*]; done)), H', ⟨by first | omega | exact Nat.le_refl _⟩, ⟨by repeat (first | (with_reducible first | exact HB.out | apply below_alloc | apply pw_below_drewN | apply below_drew1) | exact HB.out)⟩⟩
              · replace c13 := Bool.eq_false_iff.mpr c13
                subst c13
                have H1 : (barscanlaw09_exampleHolds.j0 k true) = some r := by rw [if_neg (show ¬ (false = true) by decide)] at H; exact H
                clear H
                have H := H1
                clear H1
                have H' := Aside0.mk H
                clear H
                go_wp2_with (first | ((with_reducible refine gate_callee (f := 31) rfl ?_); refine goesL_ (some 5) rfl rfl Try.func31 (by kernel_rfl) rfl #[.int .i64 1, .string (⟨#[53, 57, 48, 49, 50, 51, 52, 49, 50, 51, 52, 53]⟩ : ByteArray), .string (⟨#[55]⟩ : ByteArray)] rfl (by (try simp only [List.map_toArray, List.map_cons, List.map_nil]); first | done | rfl | (simp only [List.length_drop, List.length_take]; rfl)) ?_; (with_reducible refine (barscanlaw09_gives.calls 1 (⟨#[53, 57, 48, 49, 50, 51, 52, 49, 50, 51, 52, 53]⟩ : ByteArray) (⟨#[55]⟩ : ByteArray) true _ A2.out).mono ?_); rintro e w32 ⟨rfl, hb⟩; refine ⟨_, rfl, ?_⟩; have n0_ := Aside0.mk (below_step (by repeat (first | (with_reducible first | exact HB.out | apply below_alloc | apply pw_below_drewN | apply below_drew1) | exact HB.out)) hb); clear HB; have HB := n0_; clear n0_; (try clear hb); (try clear hb2); (try clear hk); (try clear hi)) | (go_at_call 31; (with_reducible refine (barscanlaw09_gives.calls 2 (⟨#[55, 57, 57, 50, 55, 51, 57, 56, 55, 49]⟩ : ByteArray) (⟨#[51]⟩ : ByteArray) true _ A4.out).mono ?_); rintro e w33 ⟨rfl, hb⟩; have n0_ := Aside0.mk (below_step (by repeat (first | (with_reducible first | exact HB.out | apply below_alloc | apply pw_below_drewN | apply below_drew1) | exact HB.out)) hb); clear HB; have HB := n0_; clear n0_; (try clear hb); (try clear hb2); (try clear hk); (try clear hi)) | (go_at_call 31; (with_reducible refine (barscanlaw09_gives.calls 3 (⟨#[48, 51, 48, 54, 52, 48, 54, 49, 53]⟩ : ByteArray) (⟨#[50]⟩ : ByteArray) true _ A6.out).mono ?_); rintro e w34 ⟨rfl, hb⟩; have n0_ := Aside0.mk (below_step (by repeat (first | (with_reducible first | exact HB.out | apply below_alloc | apply pw_below_drewN | apply below_drew1) | exact HB.out)) hb); clear HB; have HB := n0_; clear n0_; (try clear hb); (try clear hb2); (try clear hk); (try clear hi)) | (go_at_call 31; (with_reducible refine (barscanlaw09_gives.calls 4 (⟨#[50, 51, 54]⟩ : ByteArray) (⟨#[51]⟩ : ByteArray) true _ A8.out).mono ?_); rintro e w35 ⟨rfl, hb⟩; have n0_ := Aside0.mk (below_step (by repeat (first | (with_reducible first | exact HB.out | apply below_alloc | apply pw_below_drewN | apply below_drew1) | exact HB.out)) hb); clear HB; have HB := n0_; clear n0_; (try clear hb); (try clear hb2); (try clear hk); (try clear hi)) | (go_at_call 31; (with_reducible refine (barscanlaw09_gives.calls 5 (⟨#[53, 55, 50]⟩ : ByteArray) (⟨#[52]⟩ : ByteArray) true _ A10.out).mono ?_); rintro e w36 ⟨rfl, hb⟩; have n0_ := Aside0.mk (below_step (by repeat (first | (with_reducible first | exact HB.out | apply below_alloc | apply pw_below_drewN | apply below_drew1) | exact HB.out)) hb); clear HB; have HB := n0_; clear n0_; (try clear hb); (try clear hb2); (try clear hk); (try clear hi)) | (go_at_call 31; (with_reducible refine (barscanlaw09_gives.calls 6 (⟨#[49, 50, 51]⟩ : ByteArray) (⟨#[50, 48]⟩ : ByteArray) false _ A12.out).mono ?_); rintro e w37 ⟨rfl, hb⟩; have n0_ := Aside0.mk (below_step (by repeat (first | (with_reducible first | exact HB.out | apply below_alloc | apply pw_below_drewN | apply below_drew1) | exact HB.out)) hb); clear HB; have HB := n0_; clear n0_; (try clear hb); (try clear hb2); (try clear hk); (try clear hi)))
                go_meet
                case rel => exact ⟨_, (true), (by first | rfl | (simp; done) | (simp [*]; done)), H', ⟨by first | omega | exact Nat.le_refl _⟩, ⟨by repeat (first | (with_reducible first | exact HB.out | apply below_alloc | apply pw_below_drewN | apply below_drew1) | exact HB.out)⟩⟩
            · replace c11 := Bool.eq_false_iff.mpr c11
              subst c11
              have H1 : (barscanlaw09_exampleHolds.j0 k true) = some r := by rw [if_neg (show ¬ (false = true) by decide)] at H; exact H
              clear H
              have H := H1
              clear H1
              have H' := Aside0.mk H
              clear H
              go_wp2_with (first | ((with_reducible refine gate_callee (f := 31) rfl ?_); refine goesL_ (some 5) rfl rfl Try.func31 (by kernel_rfl) rfl #[.int .i64 1, .string (⟨#[53, 57, 48, 49, 50, 51, 52, 49, 50, 51, 52, 53]⟩ : ByteArray), .string (⟨#[55]⟩ : ByteArray)] rfl (by (try simp only [List.map_toArray, List.map_cons, List.map_nil]); first | done | rfl | (simp only [List.length_drop, List.length_take]; rfl)) ?_; (with_reducible refine (barscanlaw09_gives.calls 1 (⟨#[53, 57, 48, 49, 50, 51, 52, 49, 50, 51, 52, 53]⟩ : ByteArray) (⟨#[55]⟩ : ByteArray) true _ A2.out).mono ?_); rintro e w38 ⟨rfl, hb⟩; refine ⟨_, rfl, ?_⟩; have n0_ := Aside0.mk (below_step (by repeat (first | (with_reducible first | exact HB.out | apply below_alloc | apply pw_below_drewN | apply below_drew1) | exact HB.out)) hb); clear HB; have HB := n0_; clear n0_; (try clear hb); (try clear hb2); (try clear hk); (try clear hi)) | (go_at_call 31; (with_reducible refine (barscanlaw09_gives.calls 2 (⟨#[55, 57, 57, 50, 55, 51, 57, 56, 55, 49]⟩ : ByteArray) (⟨#[51]⟩ : ByteArray) true _ A4.out).mono ?_); rintro e w39 ⟨rfl, hb⟩; have n0_ := Aside0.mk (below_step (by repeat (first | (with_reducible first | exact HB.out | apply below_alloc | apply pw_below_drewN | apply below_drew1) | exact HB.out)) hb); clear HB; have HB := n0_; clear n0_; (try clear hb); (try clear hb2); (try clear hk); (try clear hi)) | (go_at_call 31; (with_reducible refine (barscanlaw09_gives.calls 3 (⟨#[48, 51, 48, 54, 52, 48, 54, 49, 53]⟩ : ByteArray) (⟨#[50]⟩ : ByteArray) true _ A6.out).mono ?_); rintro e w40 ⟨rfl, hb⟩; have n0_ := Aside0.mk (below_step (by repeat (first | (with_reducible first | exact HB.out | apply below_alloc | apply pw_below_drewN | apply below_drew1) | exact HB.out)) hb); clear HB; have HB := n0_; clear n0_; (try clear hb); (try clear hb2); (try clear hk); (try clear hi)) | (go_at_call 31; (with_reducible refine (barscanlaw09_gives.calls 4 (⟨#[50, 51, 54]⟩ : ByteArray) (⟨#[51]⟩ : ByteArray) true _ A8.out).mono ?_); rintro e w41 ⟨rfl, hb⟩; have n0_ := Aside0.mk (below_step (by repeat (first | (with_reducible first | exact HB.out | apply below_alloc | apply pw_below_drewN | apply below_drew1) | exact HB.out)) hb); clear HB; have HB := n0_; clear n0_; (try clear hb); (try clear hb2); (try clear hk); (try clear hi)) | (go_at_call 31; (with_reducible refine (barscanlaw09_gives.calls 5 (⟨#[53, 55, 50]⟩ : ByteArray) (⟨#[52]⟩ : ByteArray) false _ A10.out).mono ?_); rintro e w42 ⟨rfl, hb⟩; have n0_ := Aside0.mk (below_step (by repeat (first | (with_reducible first | exact HB.out | apply below_alloc | apply pw_below_drewN | apply below_drew1) | exact HB.out)) hb); clear HB; have HB := n0_; clear n0_; (try clear hb); (try clear hb2); (try clear hk); (try clear hi)))
              go_meet
              case rel => exact ⟨_, (true), (by first | rfl | (simp; done) | (simp [*]; done)), H', ⟨by first | omega | exact Nat.le_refl _⟩, ⟨by repeat (first | (with_reducible first | exact HB.out | apply below_alloc | apply pw_below_drewN | apply below_drew1) | exact HB.out)⟩⟩
          · replace c9 := Bool.eq_false_iff.mpr c9
            subst c9
            have H1 : (barscanlaw09_exampleHolds.j0 k true) = some r := by rw [if_neg (show ¬ (false = true) by decide)] at H; exact H
            clear H
            have H := H1
            clear H1
            have H' := Aside0.mk H
            clear H
            go_wp2_with (first | ((with_reducible refine gate_callee (f := 31) rfl ?_); refine goesL_ (some 5) rfl rfl Try.func31 (by kernel_rfl) rfl #[.int .i64 1, .string (⟨#[53, 57, 48, 49, 50, 51, 52, 49, 50, 51, 52, 53]⟩ : ByteArray), .string (⟨#[55]⟩ : ByteArray)] rfl (by (try simp only [List.map_toArray, List.map_cons, List.map_nil]); first | done | rfl | (simp only [List.length_drop, List.length_take]; rfl)) ?_; (with_reducible refine (barscanlaw09_gives.calls 1 (⟨#[53, 57, 48, 49, 50, 51, 52, 49, 50, 51, 52, 53]⟩ : ByteArray) (⟨#[55]⟩ : ByteArray) true _ A2.out).mono ?_); rintro e w43 ⟨rfl, hb⟩; refine ⟨_, rfl, ?_⟩; have n0_ := Aside0.mk (below_step (by repeat (first | (with_reducible first | exact HB.out | apply below_alloc | apply pw_below_drewN | apply below_drew1) | exact HB.out)) hb); clear HB; have HB := n0_; clear n0_; (try clear hb); (try clear hb2); (try clear hk); (try clear hi)) | (go_at_call 31; (with_reducible refine (barscanlaw09_gives.calls 2 (⟨#[55, 57, 57, 50, 55, 51, 57, 56, 55, 49]⟩ : ByteArray) (⟨#[51]⟩ : ByteArray) true _ A4.out).mono ?_); rintro e w44 ⟨rfl, hb⟩; have n0_ := Aside0.mk (below_step (by repeat (first | (with_reducible first | exact HB.out | apply below_alloc | apply pw_below_drewN | apply below_drew1) | exact HB.out)) hb); clear HB; have HB := n0_; clear n0_; (try clear hb); (try clear hb2); (try clear hk); (try clear hi)) | (go_at_call 31; (with_reducible refine (barscanlaw09_gives.calls 3 (⟨#[48, 51, 48, 54, 52, 48, 54, 49, 53]⟩ : ByteArray) (⟨#[50]⟩ : ByteArray) true _ A6.out).mono ?_); rintro e w45 ⟨rfl, hb⟩; have n0_ := Aside0.mk (below_step (by repeat (first | (with_reducible first | exact HB.out | apply below_alloc | apply pw_below_drewN | apply below_drew1) | exact HB.out)) hb); clear HB; have HB := n0_; clear n0_; (try clear hb); (try clear hb2); (try clear hk); (try clear hi)) | (go_at_call 31; (with_reducible refine (barscanlaw09_gives.calls 4 (⟨#[50, 51, 54]⟩ : ByteArray) (⟨#[51]⟩ : ByteArray) false _ A8.out).mono ?_); rintro e w46 ⟨rfl, hb⟩; have n0_ := Aside0.mk (below_step (by repeat (first | (with_reducible first | exact HB.out | apply below_alloc | apply pw_below_drewN | apply below_drew1) | exact HB.out)) hb); clear HB; have HB := n0_; clear n0_; (try clear hb); (try clear hb2); (try clear hk); (try clear hi)))
            go_meet
            case rel => exact ⟨_, (true), (by first | rfl | (simp; done) | (simp [*]; done)), H', ⟨by first | omega | exact Nat.le_refl _⟩, ⟨by repeat (first | (with_reducible first | exact HB.out | apply below_alloc | apply pw_below_drewN | apply below_drew1) | exact HB.out)⟩⟩
        · replace c7 := Bool.eq_false_iff.mpr c7
          subst c7
          have H1 : (barscanlaw09_exampleHolds.j0 k true) = some r := by rw [if_neg (show ¬ (false = true) by decide)] at H; exact H
          clear H
          have H := H1
          clear H1
          have H' := Aside0.mk H
          clear H
          go_wp2_with (first | ((with_reducible refine gate_callee (f := 31) rfl ?_); refine goesL_ (some 5) rfl rfl Try.func31 (by kernel_rfl) rfl #[.int .i64 1, .string (⟨#[53, 57, 48, 49, 50, 51, 52, 49, 50, 51, 52, 53]⟩ : ByteArray), .string (⟨#[55]⟩ : ByteArray)] rfl (by (try simp only [List.map_toArray, List.map_cons, List.map_nil]); first | done | rfl | (simp only [List.length_drop, List.length_take]; rfl)) ?_; (with_reducible refine (barscanlaw09_gives.calls 1 (⟨#[53, 57, 48, 49, 50, 51, 52, 49, 50, 51, 52, 53]⟩ : ByteArray) (⟨#[55]⟩ : ByteArray) true _ A2.out).mono ?_); rintro e w47 ⟨rfl, hb⟩; refine ⟨_, rfl, ?_⟩; have n0_ := Aside0.mk (below_step (by repeat (first | (with_reducible first | exact HB.out | apply below_alloc | apply pw_below_drewN | apply below_drew1) | exact HB.out)) hb); clear HB; have HB := n0_; clear n0_; (try clear hb); (try clear hb2); (try clear hk); (try clear hi)) | (go_at_call 31; (with_reducible refine (barscanlaw09_gives.calls 2 (⟨#[55, 57, 57, 50, 55, 51, 57, 56, 55, 49]⟩ : ByteArray) (⟨#[51]⟩ : ByteArray) true _ A4.out).mono ?_); rintro e w48 ⟨rfl, hb⟩; have n0_ := Aside0.mk (below_step (by repeat (first | (with_reducible first | exact HB.out | apply below_alloc | apply pw_below_drewN | apply below_drew1) | exact HB.out)) hb); clear HB; have HB := n0_; clear n0_; (try clear hb); (try clear hb2); (try clear hk); (try clear hi)) | (go_at_call 31; (with_reducible refine (barscanlaw09_gives.calls 3 (⟨#[48, 51, 48, 54, 52, 48, 54, 49, 53]⟩ : ByteArray) (⟨#[50]⟩ : ByteArray) false _ A6.out).mono ?_); rintro e w49 ⟨rfl, hb⟩; have n0_ := Aside0.mk (below_step (by repeat (first | (with_reducible first | exact HB.out | apply below_alloc | apply pw_below_drewN | apply below_drew1) | exact HB.out)) hb); clear HB; have HB := n0_; clear n0_; (try clear hb); (try clear hb2); (try clear hk); (try clear hi)))
          go_meet
          case rel => exact ⟨_, (true), (by first | rfl | (simp; done) | (simp [*]; done)), H', ⟨by first | omega | exact Nat.le_refl _⟩, ⟨by repeat (first | (with_reducible first | exact HB.out | apply below_alloc | apply pw_below_drewN | apply below_drew1) | exact HB.out)⟩⟩
      · replace c5 := Bool.eq_false_iff.mpr c5
        subst c5
        have H1 : (barscanlaw09_exampleHolds.j0 k true) = some r := by rw [if_neg (show ¬ (false = true) by decide)] at H; exact H
        clear H
        have H := H1
        clear H1
        have H' := Aside0.mk H
        clear H
        go_wp2_with (first | ((with_reducible refine gate_callee (f := 31) rfl ?_); refine goesL_ (some 5) rfl rfl Try.func31 (by kernel_rfl) rfl #[.int .i64 1, .string (⟨#[53, 57, 48, 49, 50, 51, 52, 49, 50, 51, 52, 53]⟩ : ByteArray), .string (⟨#[55]⟩ : ByteArray)] rfl (by (try simp only [List.map_toArray, List.map_cons, List.map_nil]); first | done | rfl | (simp only [List.length_drop, List.length_take]; rfl)) ?_; (with_reducible refine (barscanlaw09_gives.calls 1 (⟨#[53, 57, 48, 49, 50, 51, 52, 49, 50, 51, 52, 53]⟩ : ByteArray) (⟨#[55]⟩ : ByteArray) true _ A2.out).mono ?_); rintro e w50 ⟨rfl, hb⟩; refine ⟨_, rfl, ?_⟩; have n0_ := Aside0.mk (below_step (by repeat (first | (with_reducible first | exact HB.out | apply below_alloc | apply pw_below_drewN | apply below_drew1) | exact HB.out)) hb); clear HB; have HB := n0_; clear n0_; (try clear hb); (try clear hb2); (try clear hk); (try clear hi)) | (go_at_call 31; (with_reducible refine (barscanlaw09_gives.calls 2 (⟨#[55, 57, 57, 50, 55, 51, 57, 56, 55, 49]⟩ : ByteArray) (⟨#[51]⟩ : ByteArray) false _ A4.out).mono ?_); rintro e w51 ⟨rfl, hb⟩; have n0_ := Aside0.mk (below_step (by repeat (first | (with_reducible first | exact HB.out | apply below_alloc | apply pw_below_drewN | apply below_drew1) | exact HB.out)) hb); clear HB; have HB := n0_; clear n0_; (try clear hb); (try clear hb2); (try clear hk); (try clear hi)))
        go_meet
        case rel => exact ⟨_, (true), (by first | rfl | (simp; done) | (simp [*]; done)), H', ⟨by first | omega | exact Nat.le_refl _⟩, ⟨by repeat (first | (with_reducible first | exact HB.out | apply below_alloc | apply pw_below_drewN | apply below_drew1) | exact HB.out)⟩⟩
    · replace c3 := Bool.eq_false_iff.mpr c3
      subst c3
      have H1 : (barscanlaw09_exampleHolds.j0 k true) = some r := by rw [if_neg (show ¬ (false = true) by decide)] at H; exact H
      clear H
      have H := H1
      clear H1
      have H' := Aside0.mk H
      clear H
      go_wp2_with (first | ((with_reducible refine gate_callee (f := 31) rfl ?_); refine goesL_ (some 5) rfl rfl Try.func31 (by kernel_rfl) rfl #[.int .i64 1, .string (⟨#[53, 57, 48, 49, 50, 51, 52, 49, 50, 51, 52, 53]⟩ : ByteArray), .string (⟨#[55]⟩ : ByteArray)] rfl (by (try simp only [List.map_toArray, List.map_cons, List.map_nil]); first | done | rfl | (simp only [List.length_drop, List.length_take]; rfl)) ?_; (with_reducible refine (barscanlaw09_gives.calls 1 (⟨#[53, 57, 48, 49, 50, 51, 52, 49, 50, 51, 52, 53]⟩ : ByteArray) (⟨#[55]⟩ : ByteArray) false _ A2.out).mono ?_); rintro e w52 ⟨rfl, hb⟩; refine ⟨_, rfl, ?_⟩; have n0_ := Aside0.mk (below_step (by repeat (first | (with_reducible first | exact HB.out | apply below_alloc | apply pw_below_drewN | apply below_drew1) | exact HB.out)) hb); clear HB; have HB := n0_; clear n0_; (try clear hb); (try clear hb2); (try clear hk); (try clear hi)))
      go_meet
      case rel => exact ⟨_, (true), (by first | rfl | (simp; done) | (simp [*]; done)), H', ⟨by first | omega | exact Nat.le_refl _⟩, ⟨by repeat (first | (with_reducible first | exact HB.out | apply below_alloc | apply pw_below_drewN | apply below_drew1) | exact HB.out)⟩⟩
  case rest =>
    clear HC1
    try clear c1
    try clear p2
    try clear c3
    try clear c5
    try clear c7
    try clear c9
    try clear c11
    try clear c12
    try clear c13
    try clear c15
    try clear c31
    obtain ⟨kq, x34_0, rfl, HA, HJ0, HB⟩ := hcut
    cases kq with
    | zero => exact absurd HA.out (by simp [barscanlaw09_exampleHolds.j0])
    | succ kj0 =>
      have H := HA.out
      clear HA
      simp only [barscanlaw09_exampleHolds.j0] at H
      by_cases c53 : x34_0 = true
      · subst c53
        have H1 : (some false) = some r := by rw [if_pos rfl] at H; exact H
        clear H
        have H := H1
        clear H1
        obtain rfl := Option.some.inj H
        go_wp2
        go_ret
        exact ⟨by first | rfl | (simp [errW_none, errW_some] <;> rfl) | (simp [*, errW_none, errW_some] <;> rfl), by repeat (first | (with_reducible first | exact HB.out | apply below_alloc | apply pw_below_drewN | apply below_drew1) | exact HB.out)⟩
      · replace c53 := Bool.eq_false_iff.mpr c53
        subst c53
        have H1 : ((checkdigit_Weighted.f (⟨#[49, 50, 51]⟩ : ByteArray) (([1, 3] : List Int)) 10).bind fun bt115 => ((checkdigit_Corrections.f 5 (⟨#[53, 55, 52, 50]⟩ : ByteArray)).bind fun bt117 => (if bt115.1 = 0 then (if bt115.2 = 0 then (if bt117.2 = 0 then ((barscanlaw09_has.f kj0 bt117.1 (⟨#[53, 55, 50, 52]⟩ : ByteArray)).bind fun t121 => (if t121 = true then ((checkdigit_Verify.f 6 (⟨#[49, 50, 51, 50, 48]⟩ : ByteArray)).bind fun t122 => (if t122 = 0 then ((checkdigit_Verify.f 6 (⟨#[49, 50, 51, 50, 49]⟩ : ByteArray)).bind fun t123 => (some (t123 == 8))) else (some false))) else (some false))) else (some false)) else (some false)) else (some false)))) = some r := by rw [if_neg (show ¬ (false = true) by decide)] at H; exact H
        clear H
        have H := H1
        clear H1
        obtain ⟨y112, hy112⟩ : ∃ y_ : List Int, y_ = (([1, 3] : List Int)) := ⟨_, rfl⟩
        replace H : ((checkdigit_Weighted.f (⟨#[49, 50, 51]⟩ : ByteArray) y112 10).bind fun bt115 => ((checkdigit_Corrections.f 5 (⟨#[53, 55, 52, 50]⟩ : ByteArray)).bind fun bt117 => (if bt115.1 = 0 then (if bt115.2 = 0 then (if bt117.2 = 0 then ((barscanlaw09_has.f kj0 bt117.1 (⟨#[53, 55, 50, 52]⟩ : ByteArray)).bind fun t121 => (if t121 = true then ((checkdigit_Verify.f 6 (⟨#[49, 50, 51, 50, 48]⟩ : ByteArray)).bind fun t122 => (if t122 = 0 then ((checkdigit_Verify.f 6 (⟨#[49, 50, 51, 50, 49]⟩ : ByteArray)).bind fun t123 => (some (t123 == 8))) else (some false))) else (some false))) else (some false)) else (some false)) else (some false)))) = some r := by first | (rw [hy112]; with_reducible exact H) | (have H2_ := (Option.bind_some _ _).symm.trans H; rw [hy112]; with_reducible exact H2_) | (have H2_ := (Option.bind_some _ _).symm.trans H; with_reducible exact H2_) | with_reducible exact H | (rw [hy112]; exact H) | exact H
        have Ny112 := Aside0.mk hy112
        clear hy112
        replace H := Option.bind_eq_some_iff.mp H
        obtain ⟨⟨t115, t116⟩, A540, H⟩ := H
        replace H : ((checkdigit_Corrections.f 5 (⟨#[53, 55, 52, 50]⟩ : ByteArray)).bind fun bt117 => (if t115 = 0 then (if t116 = 0 then (if bt117.2 = 0 then ((barscanlaw09_has.f kj0 bt117.1 (⟨#[53, 55, 50, 52]⟩ : ByteArray)).bind fun t121 => (if t121 = true then ((checkdigit_Verify.f 6 (⟨#[49, 50, 51, 50, 48]⟩ : ByteArray)).bind fun t122 => (if t122 = 0 then ((checkdigit_Verify.f 6 (⟨#[49, 50, 51, 50, 49]⟩ : ByteArray)).bind fun t123 => (some (t123 == 8))) else (some false))) else (some false))) else (some false)) else (some false)) else (some false))) = some r := H
        have A54 := Aside0.mk A540
        clear A540
        replace H := Option.bind_eq_some_iff.mp H
        obtain ⟨⟨t117, t118⟩, A550, H⟩ := H
        replace H : (if t115 = 0 then (if t116 = 0 then (if t118 = 0 then ((barscanlaw09_has.f kj0 t117 (⟨#[53, 55, 50, 52]⟩ : ByteArray)).bind fun t121 => (if t121 = true then ((checkdigit_Verify.f 6 (⟨#[49, 50, 51, 50, 48]⟩ : ByteArray)).bind fun t122 => (if t122 = 0 then ((checkdigit_Verify.f 6 (⟨#[49, 50, 51, 50, 49]⟩ : ByteArray)).bind fun t123 => (some (t123 == 8))) else (some false))) else (some false))) else (some false)) else (some false)) else (some false)) = some r := H
        have A55 := Aside0.mk A550
        clear A550
        by_cases c56 : t115 = 0
        · rw [if_pos c56] at H
          have c56b0 : (t115 == 0) = true := beq_iff_eq.mpr c56
          have c56b1 : (t115 != 0) = false := bne_eq_false_iff_eq.mpr c56
          clear c56
          by_cases c57 : t116 = 0
          · rw [if_pos c57] at H
            have c57b0 : (t116 == 0) = true := beq_iff_eq.mpr c57
            have c57b1 : (t116 != 0) = false := bne_eq_false_iff_eq.mpr c57
            clear c57
            by_cases c58 : t118 = 0
            · rw [if_pos c58] at H
              have c58b0 : (t118 == 0) = true := beq_iff_eq.mpr c58
              have c58b1 : (t118 != 0) = false := bne_eq_false_iff_eq.mpr c58
              clear c58
              replace H := Option.bind_eq_some_iff.mp H
              obtain ⟨t121, A590, H⟩ := H
              replace H : (if t121 = true then ((checkdigit_Verify.f 6 (⟨#[49, 50, 51, 50, 48]⟩ : ByteArray)).bind fun t122 => (if t122 = 0 then ((checkdigit_Verify.f 6 (⟨#[49, 50, 51, 50, 49]⟩ : ByteArray)).bind fun t123 => (some (t123 == 8))) else (some false))) else (some false)) = some r := H
              have A59 := Aside0.mk A590
              clear A590
              by_cases c60 : t121 = true
              · subst c60
                have H1 : ((checkdigit_Verify.f 6 (⟨#[49, 50, 51, 50, 48]⟩ : ByteArray)).bind fun t122 => (if t122 = 0 then ((checkdigit_Verify.f 6 (⟨#[49, 50, 51, 50, 49]⟩ : ByteArray)).bind fun t123 => (some (t123 == 8))) else (some false))) = some r := by rw [if_pos rfl] at H; exact H
                clear H
                have H := H1
                clear H1
                replace H := Option.bind_eq_some_iff.mp H
                obtain ⟨t122, A610, H⟩ := H
                replace H : (if t122 = 0 then ((checkdigit_Verify.f 6 (⟨#[49, 50, 51, 50, 49]⟩ : ByteArray)).bind fun t123 => (some (t123 == 8))) else (some false)) = some r := H
                have A61 := Aside0.mk A610
                clear A610
                by_cases c62 : t122 = 0
                · rw [if_pos c62] at H
                  have c62b0 : (t122 == 0) = true := beq_iff_eq.mpr c62
                  have c62b1 : (t122 != 0) = false := bne_eq_false_iff_eq.mpr c62
                  clear c62
                  replace H := Option.bind_eq_some_iff.mp H
                  obtain ⟨t123, A630, H⟩ := H
                  replace H : (some (t123 == 8)) = some r := H
                  have A63 := Aside0.mk A630
                  clear A630
                  obtain rfl := Option.some.inj H
                  go_wp2_with (first | ((with_reducible refine gate_dst (N := 36) rfl ?_); refine Kd.R_lit (Kd.int .i64) _ 3 ?hg (N := 36) ?hd (xs := ([1, 3] : List Int)) (inner := [.int .i64 1, .int .i64 3]) (ok := fun _ => True) (okp := fun _ => True) ?hr ?hp (fun _ hk => hk) trivial (Below.refl _ _) (Nat.le_refl _) (by simp) ?_; (case hd => rfl); (case hg => rfl); (case hr => first | (go_simp; done) | (go_simp; rfl)); (case hp => exact (Reps.one (show Kd.M (Kd.int .i64) _ _ _ 1 [.int .i64 1] from rfl) (Reps.one (show Kd.M (Kd.int .i64) _ _ _ 3 [.int .i64 3] from rfl) (Reps.none _ _)))); intro v113 w64 ho65 hb hg_ hnew_; clear hg_ hnew_; (first | rw [← Ny112.out] at ho65 | (simp only [Int.reduceToNat] at ho65; rw [← Ny112.out] at ho65)); have n0_ := Aside0.mk (Kd.R_lower ho65 (below_size (by repeat (first | (with_reducible first | exact HB.out | apply below_alloc | apply pw_below_drewN | apply below_drew1) | exact HB.out)))); have n1_ := Aside0.mk (below_step (by repeat (first | (with_reducible first | exact HB.out | apply below_alloc | apply pw_below_drewN | apply below_drew1) | exact HB.out)) hb); clear HB; have HO114 := n0_; have HB := n1_; clear n0_ n1_; clear hb ho65; obtain ⟨Ao66, co66, eo66⟩ := Kd.R_slice HO114.out; subst eo66) | ((with_reducible refine gate_callee (f := 15) rfl ?_); refine goesL_ (some 37) rfl rfl Try.func15 (by kernel_rfl) rfl #[.string (⟨#[49, 50, 51]⟩ : ByteArray), .slice Ao66 y112.length co66, .int .i64 10] rfl (by (try simp only [List.map_toArray, List.map_cons, List.map_nil]); first | done | rfl | (simp only [List.length_drop, List.length_take]; rfl)) ?_; (with_reducible refine (checkdigit_Weighted.calls (⟨#[49, 50, 51]⟩ : ByteArray) _ _ y112 10 t115 t116 _ ?side1 ?side2 A54.out).mono ?_); (case side1 => repeat (first | exact (Kd.R_reads' HO114.out).2.2 | (with_reducible refine Kd.C_alloc ?_ _) | (with_reducible refine Kd.C_drewN ?_ _) | (with_reducible refine Kd.C_drew ?_))); (case side2 => exact (Kd.R_reads' HO114.out).2.1); rintro e w67 ⟨rfl, hb⟩; refine ⟨_, rfl, ?_⟩; have n0_ := Aside0.mk (Kd.R_below (by (with_reducible repeat (first | apply Kd.R_alloc | apply Kd.R_drewN | apply Kd.R_drew)); exact HO114.out) hb); have n1_ := Aside0.mk (below_step (by repeat (first | (with_reducible first | exact HB.out | apply below_alloc | apply pw_below_drewN | apply below_drew1) | exact HB.out)) hb); clear HO114; clear HB; have HO114 := n0_; have HB := n1_; clear n0_ n1_; (try clear hb); (try clear hb2); (try clear hk); (try clear hi)) | ((with_reducible refine gate_callee (f := 17) rfl ?_); refine goesL_ (some 41) rfl rfl Try.func17 (by kernel_rfl) rfl #[.int .i64 5, .string (⟨#[53, 55, 52, 50]⟩ : ByteArray)] rfl (by (try simp only [List.map_toArray, List.map_cons, List.map_nil]); first | done | rfl | (simp only [List.length_drop, List.length_take]; rfl)) ?_; (with_reducible refine (checkdigit_Corrections.calls 5 (⟨#[53, 55, 52, 50]⟩ : ByteArray) t117 t118 _ A55.out).mono ?_); rintro e w68 ⟨v119, rfl, ho0, hb⟩; refine ⟨_, rfl, ?_⟩; have n0_ := Aside0.mk (Kd.R_below (by (with_reducible repeat (first | apply Kd.R_alloc | apply Kd.R_drewN | apply Kd.R_drew)); exact HO114.out) hb); have n1_ := Aside0.mk (Kd.R_lower ho0 (below_size (by repeat (first | (with_reducible first | exact HB.out | apply below_alloc | apply pw_below_drewN | apply below_drew1) | exact HB.out)))); have n2_ := Aside0.mk (below_step (by repeat (first | (with_reducible first | exact HB.out | apply below_alloc | apply pw_below_drewN | apply below_drew1) | exact HB.out)) hb); clear HO114; clear HB; have HO114 := n0_; have HO120 := n1_; have HB := n2_; clear n0_ n1_ n2_; (try clear hb); (try clear hb2); (try clear hk); (try clear hi); (try clear ho0); obtain ⟨Ao69, co69, eo69⟩ := Kd.R_slice HO120.out; subst eo69) | (go_at_call 28; (with_reducible refine (barscanlaw09_has.calls kj0 _ _ t117 (⟨#[53, 55, 50, 52]⟩ : ByteArray) true _ ?side1 ?side2 A59.out).mono ?_); (case side1 => repeat (first | exact (Kd.R_reads' HO120.out).2.2 | (with_reducible refine Kd.C_alloc ?_ _) | (with_reducible refine Kd.C_drewN ?_ _) | (with_reducible refine Kd.C_drew ?_))); (case side2 => exact (Kd.R_reads' HO120.out).2.1); rintro e w' ⟨rfl, ⟨nd, rfl⟩⟩) | (go_at_call 13; (with_reducible refine (checkdigit_Verify.calls 6 (⟨#[49, 50, 51, 50, 48]⟩ : ByteArray) t122 _ A61.out).mono ?_); rintro e w70 ⟨rfl, hb⟩; have n0_ := Aside0.mk (Kd.R_below (by (with_reducible repeat (first | apply Kd.R_alloc | apply Kd.R_drewN | apply Kd.R_drew)); exact HO114.out) hb); have n1_ := Aside0.mk (Kd.R_below (by (with_reducible repeat (first | apply Kd.R_alloc | apply Kd.R_drewN | apply Kd.R_drew)); exact HO120.out) hb); have n2_ := Aside0.mk (below_step (by repeat (first | (with_reducible first | exact HB.out | apply below_alloc | apply pw_below_drewN | apply below_drew1) | exact HB.out)) hb); clear HO114; clear HO120; clear HB; have HO114 := n0_; have HO120 := n1_; have HB := n2_; clear n0_ n1_ n2_; (try clear hb); (try clear hb2); (try clear hk); (try clear hi)) | (go_at_call 13; (with_reducible refine (checkdigit_Verify.calls 6 (⟨#[49, 50, 51, 50, 49]⟩ : ByteArray) t123 _ A63.out).mono ?_); rintro e w71 ⟨rfl, hb⟩; have n0_ := Aside0.mk (Kd.R_below (by (with_reducible repeat (first | apply Kd.R_alloc | apply Kd.R_drewN | apply Kd.R_drew)); exact HO114.out) hb); have n1_ := Aside0.mk (Kd.R_below (by (with_reducible repeat (first | apply Kd.R_alloc | apply Kd.R_drewN | apply Kd.R_drew)); exact HO120.out) hb); have n2_ := Aside0.mk (below_step (by repeat (first | (with_reducible first | exact HB.out | apply below_alloc | apply pw_below_drewN | apply below_drew1) | exact HB.out)) hb); clear HO114; clear HO120; clear HB; have HO114 := n0_; have HO120 := n1_; have HB := n2_; clear n0_ n1_ n2_; (try clear hb); (try clear hb2); (try clear hk); (try clear hi)))
                  go_ret
                  exact ⟨by first | rfl | (simp [errW_none, errW_some] <;> rfl) | (simp [*, errW_none, errW_some] <;> rfl), by repeat (first | (with_reducible first | exact HB.out | apply below_alloc | apply pw_below_drewN | apply below_drew1) | exact HB.out)⟩
                · rw [if_neg c62] at H
                  have c62b0 : (t122 == 0) = false := beq_eq_false_iff_ne.mpr c62
                  have c62b1 : (t122 != 0) = true := bne_iff_ne.mpr c62
                  obtain rfl := Option.some.inj H
                  go_wp2_with (first | ((with_reducible refine gate_dst (N := 36) rfl ?_); refine Kd.R_lit (Kd.int .i64) _ 3 ?hg (N := 36) ?hd (xs := ([1, 3] : List Int)) (inner := [.int .i64 1, .int .i64 3]) (ok := fun _ => True) (okp := fun _ => True) ?hr ?hp (fun _ hk => hk) trivial (Below.refl _ _) (Nat.le_refl _) (by simp) ?_; (case hd => rfl); (case hg => rfl); (case hr => first | (go_simp; done) | (go_simp; rfl)); (case hp => exact (Reps.one (show Kd.M (Kd.int .i64) _ _ _ 1 [.int .i64 1] from rfl) (Reps.one (show Kd.M (Kd.int .i64) _ _ _ 3 [.int .i64 3] from rfl) (Reps.none _ _)))); intro v113 w72 ho73 hb hg_ hnew_; clear hg_ hnew_; (first | rw [← Ny112.out] at ho73 | (simp only [Int.reduceToNat] at ho73; rw [← Ny112.out] at ho73)); have n0_ := Aside0.mk (Kd.R_lower ho73 (below_size (by repeat (first | (with_reducible first | exact HB.out | apply below_alloc | apply pw_below_drewN | apply below_drew1) | exact HB.out)))); have n1_ := Aside0.mk (below_step (by repeat (first | (with_reducible first | exact HB.out | apply below_alloc | apply pw_below_drewN | apply below_drew1) | exact HB.out)) hb); clear HB; have HO114 := n0_; have HB := n1_; clear n0_ n1_; clear hb ho73; obtain ⟨Ao74, co74, eo74⟩ := Kd.R_slice HO114.out; subst eo74) | ((with_reducible refine gate_callee (f := 15) rfl ?_); refine goesL_ (some 37) rfl rfl Try.func15 (by kernel_rfl) rfl #[.string (⟨#[49, 50, 51]⟩ : ByteArray), .slice Ao74 y112.length co74, .int .i64 10] rfl (by (try simp only [List.map_toArray, List.map_cons, List.map_nil]); first | done | rfl | (simp only [List.length_drop, List.length_take]; rfl)) ?_; (with_reducible refine (checkdigit_Weighted.calls (⟨#[49, 50, 51]⟩ : ByteArray) _ _ y112 10 t115 t116 _ ?side1 ?side2 A54.out).mono ?_); (case side1 => repeat (first | exact (Kd.R_reads' HO114.out).2.2 | (with_reducible refine Kd.C_alloc ?_ _) | (with_reducible refine Kd.C_drewN ?_ _) | (with_reducible refine Kd.C_drew ?_))); (case side2 => exact (Kd.R_reads' HO114.out).2.1); rintro e w75 ⟨rfl, hb⟩; refine ⟨_, rfl, ?_⟩; have n0_ := Aside0.mk (Kd.R_below (by (with_reducible repeat (first | apply Kd.R_alloc | apply Kd.R_drewN | apply Kd.R_drew)); exact HO114.out) hb); have n1_ := Aside0.mk (below_step (by repeat (first | (with_reducible first | exact HB.out | apply below_alloc | apply pw_below_drewN | apply below_drew1) | exact HB.out)) hb); clear HO114; clear HB; have HO114 := n0_; have HB := n1_; clear n0_ n1_; (try clear hb); (try clear hb2); (try clear hk); (try clear hi)) | ((with_reducible refine gate_callee (f := 17) rfl ?_); refine goesL_ (some 41) rfl rfl Try.func17 (by kernel_rfl) rfl #[.int .i64 5, .string (⟨#[53, 55, 52, 50]⟩ : ByteArray)] rfl (by (try simp only [List.map_toArray, List.map_cons, List.map_nil]); first | done | rfl | (simp only [List.length_drop, List.length_take]; rfl)) ?_; (with_reducible refine (checkdigit_Corrections.calls 5 (⟨#[53, 55, 52, 50]⟩ : ByteArray) t117 t118 _ A55.out).mono ?_); rintro e w76 ⟨v119, rfl, ho0, hb⟩; refine ⟨_, rfl, ?_⟩; have n0_ := Aside0.mk (Kd.R_below (by (with_reducible repeat (first | apply Kd.R_alloc | apply Kd.R_drewN | apply Kd.R_drew)); exact HO114.out) hb); have n1_ := Aside0.mk (Kd.R_lower ho0 (below_size (by repeat (first | (with_reducible first | exact HB.out | apply below_alloc | apply pw_below_drewN | apply below_drew1) | exact HB.out)))); have n2_ := Aside0.mk (below_step (by repeat (first | (with_reducible first | exact HB.out | apply below_alloc | apply pw_below_drewN | apply below_drew1) | exact HB.out)) hb); clear HO114; clear HB; have HO114 := n0_; have HO120 := n1_; have HB := n2_; clear n0_ n1_ n2_; (try clear hb); (try clear hb2); (try clear hk); (try clear hi); (try clear ho0); obtain ⟨Ao77, co77, eo77⟩ := Kd.R_slice HO120.out; subst eo77) | (go_at_call 28; (with_reducible refine (barscanlaw09_has.calls kj0 _ _ t117 (⟨#[53, 55, 50, 52]⟩ : ByteArray) true _ ?side1 ?side2 A59.out).mono ?_); (case side1 => repeat (first | exact (Kd.R_reads' HO120.out).2.2 | (with_reducible refine Kd.C_alloc ?_ _) | (with_reducible refine Kd.C_drewN ?_ _) | (with_reducible refine Kd.C_drew ?_))); (case side2 => exact (Kd.R_reads' HO120.out).2.1); rintro e w' ⟨rfl, ⟨nd, rfl⟩⟩) | (go_at_call 13; (with_reducible refine (checkdigit_Verify.calls 6 (⟨#[49, 50, 51, 50, 48]⟩ : ByteArray) t122 _ A61.out).mono ?_); rintro e w78 ⟨rfl, hb⟩; have n0_ := Aside0.mk (Kd.R_below (by (with_reducible repeat (first | apply Kd.R_alloc | apply Kd.R_drewN | apply Kd.R_drew)); exact HO114.out) hb); have n1_ := Aside0.mk (Kd.R_below (by (with_reducible repeat (first | apply Kd.R_alloc | apply Kd.R_drewN | apply Kd.R_drew)); exact HO120.out) hb); have n2_ := Aside0.mk (below_step (by repeat (first | (with_reducible first | exact HB.out | apply below_alloc | apply pw_below_drewN | apply below_drew1) | exact HB.out)) hb); clear HO114; clear HO120; clear HB; have HO114 := n0_; have HO120 := n1_; have HB := n2_; clear n0_ n1_ n2_; (try clear hb); (try clear hb2); (try clear hk); (try clear hi)))
                  go_ret
                  exact ⟨by first | rfl | (simp [errW_none, errW_some] <;> rfl) | (simp [*, errW_none, errW_some] <;> rfl), by repeat (first | (with_reducible first | exact HB.out | apply below_alloc | apply pw_below_drewN | apply below_drew1) | exact HB.out)⟩
              · replace c60 := Bool.eq_false_iff.mpr c60
                subst c60
                have H1 : (some false) = some r := by rw [if_neg (show ¬ (false = true) by decide)] at H; exact H
                clear H
                have H := H1
                clear H1
                obtain rfl := Option.some.inj H
                go_wp2_with (first | ((with_reducible refine gate_dst (N := 36) rfl ?_); refine Kd.R_lit (Kd.int .i64) _ 3 ?hg (N := 36) ?hd (xs := ([1, 3] : List Int)) (inner := [.int .i64 1, .int .i64 3]) (ok := fun _ => True) (okp := fun _ => True) ?hr ?hp (fun _ hk => hk) trivial (Below.refl _ _) (Nat.le_refl _) (by simp) ?_; (case hd => rfl); (case hg => rfl); (case hr => first | (go_simp; done) | (go_simp; rfl)); (case hp => exact (Reps.one (show Kd.M (Kd.int .i64) _ _ _ 1 [.int .i64 1] from rfl) (Reps.one (show Kd.M (Kd.int .i64) _ _ _ 3 [.int .i64 3] from rfl) (Reps.none _ _)))); intro v113 w79 ho80 hb hg_ hnew_; clear hg_ hnew_; (first | rw [← Ny112.out] at ho80 | (simp only [Int.reduceToNat] at ho80; rw [← Ny112.out] at ho80)); have n0_ := Aside0.mk (Kd.R_lower ho80 (below_size (by repeat (first | (with_reducible first | exact HB.out | apply below_alloc | apply pw_below_drewN | apply below_drew1) | exact HB.out)))); have n1_ := Aside0.mk (below_step (by repeat (first | (with_reducible first | exact HB.out | apply below_alloc | apply pw_below_drewN | apply below_drew1) | exact HB.out)) hb); clear HB; have HO114 := n0_; have HB := n1_; clear n0_ n1_; clear hb ho80; obtain ⟨Ao81, co81, eo81⟩ := Kd.R_slice HO114.out; subst eo81) | ((with_reducible refine gate_callee (f := 15) rfl ?_); refine goesL_ (some 37) rfl rfl Try.func15 (by kernel_rfl) rfl #[.string (⟨#[49, 50, 51]⟩ : ByteArray), .slice Ao81 y112.length co81, .int .i64 10] rfl (by (try simp only [List.map_toArray, List.map_cons, List.map_nil]); first | done | rfl | (simp only [List.length_drop, List.length_take]; rfl)) ?_; (with_reducible refine (checkdigit_Weighted.calls (⟨#[49, 50, 51]⟩ : ByteArray) _ _ y112 10 t115 t116 _ ?side1 ?side2 A54.out).mono ?_); (case side1 => repeat (first | exact (Kd.R_reads' HO114.out).2.2 | (with_reducible refine Kd.C_alloc ?_ _) | (with_reducible refine Kd.C_drewN ?_ _) | (with_reducible refine Kd.C_drew ?_))); (case side2 => exact (Kd.R_reads' HO114.out).2.1); rintro e w82 ⟨rfl, hb⟩; refine ⟨_, rfl, ?_⟩; have n0_ := Aside0.mk (Kd.R_below (by (with_reducible repeat (first | apply Kd.R_alloc | apply Kd.R_drewN | apply Kd.R_drew)); exact HO114.out) hb); have n1_ := Aside0.mk (below_step (by repeat (first | (with_reducible first | exact HB.out | apply below_alloc | apply pw_below_drewN | apply below_drew1) | exact HB.out)) hb); clear HO114; clear HB; have HO114 := n0_; have HB := n1_; clear n0_ n1_; (try clear hb); (try clear hb2); (try clear hk); (try clear hi)) | ((with_reducible refine gate_callee (f := 17) rfl ?_); refine goesL_ (some 41) rfl rfl Try.func17 (by kernel_rfl) rfl #[.int .i64 5, .string (⟨#[53, 55, 52, 50]⟩ : ByteArray)] rfl (by (try simp only [List.map_toArray, List.map_cons, List.map_nil]); first | done | rfl | (simp only [List.length_drop, List.length_take]; rfl)) ?_; (with_reducible refine (checkdigit_Corrections.calls 5 (⟨#[53, 55, 52, 50]⟩ : ByteArray) t117 t118 _ A55.out).mono ?_); rintro e w83 ⟨v119, rfl, ho0, hb⟩; refine ⟨_, rfl, ?_⟩; have n0_ := Aside0.mk (Kd.R_below (by (with_reducible repeat (first | apply Kd.R_alloc | apply Kd.R_drewN | apply Kd.R_drew)); exact HO114.out) hb); have n1_ := Aside0.mk (Kd.R_lower ho0 (below_size (by repeat (first | (with_reducible first | exact HB.out | apply below_alloc | apply pw_below_drewN | apply below_drew1) | exact HB.out)))); have n2_ := Aside0.mk (below_step (by repeat (first | (with_reducible first | exact HB.out | apply below_alloc | apply pw_below_drewN | apply below_drew1) | exact HB.out)) hb); clear HO114; clear HB; have HO114 := n0_; have HO120 := n1_; have HB := n2_; clear n0_ n1_ n2_; (try clear hb); (try clear hb2); (try clear hk); (try clear hi); (try clear ho0); obtain ⟨Ao84, co84, eo84⟩ := Kd.R_slice HO120.out; subst eo84) | (go_at_call 28; (with_reducible refine (barscanlaw09_has.calls kj0 _ _ t117 (⟨#[53, 55, 50, 52]⟩ : ByteArray) false _ ?side1 ?side2 A59.out).mono ?_); (case side1 => repeat (first | exact (Kd.R_reads' HO120.out).2.2 | (with_reducible refine Kd.C_alloc ?_ _) | (with_reducible refine Kd.C_drewN ?_ _) | (with_reducible refine Kd.C_drew ?_))); (case side2 => exact (Kd.R_reads' HO120.out).2.1); rintro e w' ⟨rfl, ⟨nd, rfl⟩⟩))
                go_ret
                exact ⟨by first | rfl | (simp [errW_none, errW_some] <;> rfl) | (simp [*, errW_none, errW_some] <;> rfl), by repeat (first | (with_reducible first | exact HB.out | apply below_alloc | apply pw_below_drewN | apply below_drew1) | exact HB.out)⟩
            · rw [if_neg c58] at H
              have c58b0 : (t118 == 0) = false := beq_eq_false_iff_ne.mpr c58
              have c58b1 : (t118 != 0) = true := bne_iff_ne.mpr c58
              obtain rfl := Option.some.inj H
              go_wp2_with (first | ((with_reducible refine gate_dst (N := 36) rfl ?_); refine Kd.R_lit (Kd.int .i64) _ 3 ?hg (N := 36) ?hd (xs := ([1, 3] : List Int)) (inner := [.int .i64 1, .int .i64 3]) (ok := fun _ => True) (okp := fun _ => True) ?hr ?hp (fun _ hk => hk) trivial (Below.refl _ _) (Nat.le_refl _) (by simp) ?_; (case hd => rfl); (case hg => rfl); (case hr => first | (go_simp; done) | (go_simp; rfl)); (case hp => exact (Reps.one (show Kd.M (Kd.int .i64) _ _ _ 1 [.int .i64 1] from rfl) (Reps.one (show Kd.M (Kd.int .i64) _ _ _ 3 [.int .i64 3] from rfl) (Reps.none _ _)))); intro v113 w85 ho86 hb hg_ hnew_; clear hg_ hnew_; (first | rw [← Ny112.out] at ho86 | (simp only [Int.reduceToNat] at ho86; rw [← Ny112.out] at ho86)); have n0_ := Aside0.mk (Kd.R_lower ho86 (below_size (by repeat (first | (with_reducible first | exact HB.out | apply below_alloc | apply pw_below_drewN | apply below_drew1) | exact HB.out)))); have n1_ := Aside0.mk (below_step (by repeat (first | (with_reducible first | exact HB.out | apply below_alloc | apply pw_below_drewN | apply below_drew1) | exact HB.out)) hb); clear HB; have HO114 := n0_; have HB := n1_; clear n0_ n1_; clear hb ho86; obtain ⟨Ao87, co87, eo87⟩ := Kd.R_slice HO114.out; subst eo87) | ((with_reducible refine gate_callee (f := 15) rfl ?_); refine goesL_ (some 37) rfl rfl Try.func15 (by kernel_rfl) rfl #[.string (⟨#[49, 50, 51]⟩ : ByteArray), .slice Ao87 y112.length co87, .int .i64 10] rfl (by (try simp only [List.map_toArray, List.map_cons, List.map_nil]); first | done | rfl | (simp only [List.length_drop, List.length_take]; rfl)) ?_; (with_reducible refine (checkdigit_Weighted.calls (⟨#[49, 50, 51]⟩ : ByteArray) _ _ y112 10 t115 t116 _ ?side1 ?side2 A54.out).mono ?_); (case side1 => repeat (first | exact (Kd.R_reads' HO114.out).2.2 | (with_reducible refine Kd.C_alloc ?_ _) | (with_reducible refine Kd.C_drewN ?_ _) | (with_reducible refine Kd.C_drew ?_))); (case side2 => exact (Kd.R_reads' HO114.out).2.1); rintro e w88 ⟨rfl, hb⟩; refine ⟨_, rfl, ?_⟩; have n0_ := Aside0.mk (Kd.R_below (by (with_reducible repeat (first | apply Kd.R_alloc | apply Kd.R_drewN | apply Kd.R_drew)); exact HO114.out) hb); have n1_ := Aside0.mk (below_step (by repeat (first | (with_reducible first | exact HB.out | apply below_alloc | apply pw_below_drewN | apply below_drew1) | exact HB.out)) hb); clear HO114; clear HB; have HO114 := n0_; have HB := n1_; clear n0_ n1_; (try clear hb); (try clear hb2); (try clear hk); (try clear hi)) | ((with_reducible refine gate_callee (f := 17) rfl ?_); refine goesL_ (some 41) rfl rfl Try.func17 (by kernel_rfl) rfl #[.int .i64 5, .string (⟨#[53, 55, 52, 50]⟩ : ByteArray)] rfl (by (try simp only [List.map_toArray, List.map_cons, List.map_nil]); first | done | rfl | (simp only [List.length_drop, List.length_take]; rfl)) ?_; (with_reducible refine (checkdigit_Corrections.calls 5 (⟨#[53, 55, 52, 50]⟩ : ByteArray) t117 t118 _ A55.out).mono ?_); rintro e w89 ⟨v119, rfl, ho0, hb⟩; refine ⟨_, rfl, ?_⟩; have n0_ := Aside0.mk (Kd.R_below (by (with_reducible repeat (first | apply Kd.R_alloc | apply Kd.R_drewN | apply Kd.R_drew)); exact HO114.out) hb); have n1_ := Aside0.mk (Kd.R_lower ho0 (below_size (by repeat (first | (with_reducible first | exact HB.out | apply below_alloc | apply pw_below_drewN | apply below_drew1) | exact HB.out)))); have n2_ := Aside0.mk (below_step (by repeat (first | (with_reducible first | exact HB.out | apply below_alloc | apply pw_below_drewN | apply below_drew1) | exact HB.out)) hb); clear HO114; clear HB; have HO114 := n0_; have HO120 := n1_; have HB := n2_; clear n0_ n1_ n2_; (try clear hb); (try clear hb2); (try clear hk); (try clear hi); (try clear ho0)))
              go_ret
              exact ⟨by first | rfl | (simp [errW_none, errW_some] <;> rfl) | (simp [*, errW_none, errW_some] <;> rfl), by repeat (first | (with_reducible first | exact HB.out | apply below_alloc | apply pw_below_drewN | apply below_drew1) | exact HB.out)⟩
          · rw [if_neg c57] at H
            have c57b0 : (t116 == 0) = false := beq_eq_false_iff_ne.mpr c57
            have c57b1 : (t116 != 0) = true := bne_iff_ne.mpr c57
            obtain rfl := Option.some.inj H
            go_wp2_with (first | ((with_reducible refine gate_dst (N := 36) rfl ?_); refine Kd.R_lit (Kd.int .i64) _ 3 ?hg (N := 36) ?hd (xs := ([1, 3] : List Int)) (inner := [.int .i64 1, .int .i64 3]) (ok := fun _ => True) (okp := fun _ => True) ?hr ?hp (fun _ hk => hk) trivial (Below.refl _ _) (Nat.le_refl _) (by simp) ?_; (case hd => rfl); (case hg => rfl); (case hr => first | (go_simp; done) | (go_simp; rfl)); (case hp => exact (Reps.one (show Kd.M (Kd.int .i64) _ _ _ 1 [.int .i64 1] from rfl) (Reps.one (show Kd.M (Kd.int .i64) _ _ _ 3 [.int .i64 3] from rfl) (Reps.none _ _)))); intro v113 w90 ho91 hb hg_ hnew_; clear hg_ hnew_; (first | rw [← Ny112.out] at ho91 | (simp only [Int.reduceToNat] at ho91; rw [← Ny112.out] at ho91)); have n0_ := Aside0.mk (Kd.R_lower ho91 (below_size (by repeat (first | (with_reducible first | exact HB.out | apply below_alloc | apply pw_below_drewN | apply below_drew1) | exact HB.out)))); have n1_ := Aside0.mk (below_step (by repeat (first | (with_reducible first | exact HB.out | apply below_alloc | apply pw_below_drewN | apply below_drew1) | exact HB.out)) hb); clear HB; have HO114 := n0_; have HB := n1_; clear n0_ n1_; clear hb ho91; obtain ⟨Ao92, co92, eo92⟩ := Kd.R_slice HO114.out; subst eo92) | ((with_reducible refine gate_callee (f := 15) rfl ?_); refine goesL_ (some 37) rfl rfl Try.func15 (by kernel_rfl) rfl #[.string (⟨#[49, 50, 51]⟩ : ByteArray), .slice Ao92 y112.length co92, .int .i64 10] rfl (by (try simp only [List.map_toArray, List.map_cons, List.map_nil]); first | done | rfl | (simp only [List.length_drop, List.length_take]; rfl)) ?_; (with_reducible refine (checkdigit_Weighted.calls (⟨#[49, 50, 51]⟩ : ByteArray) _ _ y112 10 t115 t116 _ ?side1 ?side2 A54.out).mono ?_); (case side1 => repeat (first | exact (Kd.R_reads' HO114.out).2.2 | (with_reducible refine Kd.C_alloc ?_ _) | (with_reducible refine Kd.C_drewN ?_ _) | (with_reducible refine Kd.C_drew ?_))); (case side2 => exact (Kd.R_reads' HO114.out).2.1); rintro e w93 ⟨rfl, hb⟩; refine ⟨_, rfl, ?_⟩; have n0_ := Aside0.mk (Kd.R_below (by (with_reducible repeat (first | apply Kd.R_alloc | apply Kd.R_drewN | apply Kd.R_drew)); exact HO114.out) hb); have n1_ := Aside0.mk (below_step (by repeat (first | (with_reducible first | exact HB.out | apply below_alloc | apply pw_below_drewN | apply below_drew1) | exact HB.out)) hb); clear HO114; clear HB; have HO114 := n0_; have HB := n1_; clear n0_ n1_; (try clear hb); (try clear hb2); (try clear hk); (try clear hi)) | ((with_reducible refine gate_callee (f := 17) rfl ?_); refine goesL_ (some 41) rfl rfl Try.func17 (by kernel_rfl) rfl #[.int .i64 5, .string (⟨#[53, 55, 52, 50]⟩ : ByteArray)] rfl (by (try simp only [List.map_toArray, List.map_cons, List.map_nil]); first | done | rfl | (simp only [List.length_drop, List.length_take]; rfl)) ?_; (with_reducible refine (checkdigit_Corrections.calls 5 (⟨#[53, 55, 52, 50]⟩ : ByteArray) t117 t118 _ A55.out).mono ?_); rintro e w94 ⟨v119, rfl, ho0, hb⟩; refine ⟨_, rfl, ?_⟩; have n0_ := Aside0.mk (Kd.R_below (by (with_reducible repeat (first | apply Kd.R_alloc | apply Kd.R_drewN | apply Kd.R_drew)); exact HO114.out) hb); have n1_ := Aside0.mk (Kd.R_lower ho0 (below_size (by repeat (first | (with_reducible first | exact HB.out | apply below_alloc | apply pw_below_drewN | apply below_drew1) | exact HB.out)))); have n2_ := Aside0.mk (below_step (by repeat (first | (with_reducible first | exact HB.out | apply below_alloc | apply pw_below_drewN | apply below_drew1) | exact HB.out)) hb); clear HO114; clear HB; have HO114 := n0_; have HO120 := n1_; have HB := n2_; clear n0_ n1_ n2_; (try clear hb); (try clear hb2); (try clear hk); (try clear hi); (try clear ho0)))
            go_ret
            exact ⟨by first | rfl | (simp [errW_none, errW_some] <;> rfl) | (simp [*, errW_none, errW_some] <;> rfl), by repeat (first | (with_reducible first | exact HB.out | apply below_alloc | apply pw_below_drewN | apply below_drew1) | exact HB.out)⟩
        · rw [if_neg c56] at H
          have c56b0 : (t115 == 0) = false := beq_eq_false_iff_ne.mpr c56
          have c56b1 : (t115 != 0) = true := bne_iff_ne.mpr c56
          obtain rfl := Option.some.inj H
          go_wp2_with (first | ((with_reducible refine gate_dst (N := 36) rfl ?_); refine Kd.R_lit (Kd.int .i64) _ 3 ?hg (N := 36) ?hd (xs := ([1, 3] : List Int)) (inner := [.int .i64 1, .int .i64 3]) (ok := fun _ => True) (okp := fun _ => True) ?hr ?hp (fun _ hk => hk) trivial (Below.refl _ _) (Nat.le_refl _) (by simp) ?_; (case hd => rfl); (case hg => rfl); (case hr => first | (go_simp; done) | (go_simp; rfl)); (case hp => exact (Reps.one (show Kd.M (Kd.int .i64) _ _ _ 1 [.int .i64 1] from rfl) (Reps.one (show Kd.M (Kd.int .i64) _ _ _ 3 [.int .i64 3] from rfl) (Reps.none _ _)))); intro v113 w95 ho96 hb hg_ hnew_; clear hg_ hnew_; (first | rw [← Ny112.out] at ho96 | (simp only [Int.reduceToNat] at ho96; rw [← Ny112.out] at ho96)); have n0_ := Aside0.mk (Kd.R_lower ho96 (below_size (by repeat (first | (with_reducible first | exact HB.out | apply below_alloc | apply pw_below_drewN | apply below_drew1) | exact HB.out)))); have n1_ := Aside0.mk (below_step (by repeat (first | (with_reducible first | exact HB.out | apply below_alloc | apply pw_below_drewN | apply below_drew1) | exact HB.out)) hb); clear HB; have HO114 := n0_; have HB := n1_; clear n0_ n1_; clear hb ho96; obtain ⟨Ao97, co97, eo97⟩ := Kd.R_slice HO114.out; subst eo97) | ((with_reducible refine gate_callee (f := 15) rfl ?_); refine goesL_ (some 37) rfl rfl Try.func15 (by kernel_rfl) rfl #[.string (⟨#[49, 50, 51]⟩ : ByteArray), .slice Ao97 y112.length co97, .int .i64 10] rfl (by (try simp only [List.map_toArray, List.map_cons, List.map_nil]); first | done | rfl | (simp only [List.length_drop, List.length_take]; rfl)) ?_; (with_reducible refine (checkdigit_Weighted.calls (⟨#[49, 50, 51]⟩ : ByteArray) _ _ y112 10 t115 t116 _ ?side1 ?side2 A54.out).mono ?_); (case side1 => repeat (first | exact (Kd.R_reads' HO114.out).2.2 | (with_reducible refine Kd.C_alloc ?_ _) | (with_reducible refine Kd.C_drewN ?_ _) | (with_reducible refine Kd.C_drew ?_))); (case side2 => exact (Kd.R_reads' HO114.out).2.1); rintro e w98 ⟨rfl, hb⟩; refine ⟨_, rfl, ?_⟩; have n0_ := Aside0.mk (Kd.R_below (by (with_reducible repeat (first | apply Kd.R_alloc | apply Kd.R_drewN | apply Kd.R_drew)); exact HO114.out) hb); have n1_ := Aside0.mk (below_step (by repeat (first | (with_reducible first | exact HB.out | apply below_alloc | apply pw_below_drewN | apply below_drew1) | exact HB.out)) hb); clear HO114; clear HB; have HO114 := n0_; have HB := n1_; clear n0_ n1_; (try clear hb); (try clear hb2); (try clear hk); (try clear hi)) | ((with_reducible refine gate_callee (f := 17) rfl ?_); refine goesL_ (some 41) rfl rfl Try.func17 (by kernel_rfl) rfl #[.int .i64 5, .string (⟨#[53, 55, 52, 50]⟩ : ByteArray)] rfl (by (try simp only [List.map_toArray, List.map_cons, List.map_nil]); first | done | rfl | (simp only [List.length_drop, List.length_take]; rfl)) ?_; (with_reducible refine (checkdigit_Corrections.calls 5 (⟨#[53, 55, 52, 50]⟩ : ByteArray) t117 t118 _ A55.out).mono ?_); rintro e w99 ⟨v119, rfl, ho0, hb⟩; refine ⟨_, rfl, ?_⟩; have n0_ := Aside0.mk (Kd.R_below (by (with_reducible repeat (first | apply Kd.R_alloc | apply Kd.R_drewN | apply Kd.R_drew)); exact HO114.out) hb); have n1_ := Aside0.mk (Kd.R_lower ho0 (below_size (by repeat (first | (with_reducible first | exact HB.out | apply below_alloc | apply pw_below_drewN | apply below_drew1) | exact HB.out)))); have n2_ := Aside0.mk (below_step (by repeat (first | (with_reducible first | exact HB.out | apply below_alloc | apply pw_below_drewN | apply below_drew1) | exact HB.out)) hb); clear HO114; clear HB; have HO114 := n0_; have HO120 := n1_; have HB := n2_; clear n0_ n1_ n2_; (try clear hb); (try clear hb2); (try clear hk); (try clear hi); (try clear ho0)))
          go_ret
          exact ⟨by first | rfl | (simp [errW_none, errW_some] <;> rfl) | (simp [*, errW_none, errW_some] <;> rfl), by repeat (first | (with_reducible first | exact HB.out | apply below_alloc | apply pw_below_drewN | apply below_drew1) | exact HB.out)⟩

/-! ### barscanlaw09_CheckdigitCorrects: function 5 -/
mutual
def barscanlaw09_CheckdigitCorrects.j0 : Nat → List ByteArray → List ByteArray → Bool → Option (Bool)
  | 0, _, _, _ => none
  | k + 1, x5, x7, x35 => if x35 = true then (some false) else (barscanlaw09_CheckdigitCorrects.l0 k x5 x7 0)
def barscanlaw09_CheckdigitCorrects.l0 : Nat → List ByteArray → List ByteArray → Int → Option (Bool)
  | 0, _, _, _ => none
  | k + 1, x5, x7, x9 => if x9 < (x5.length : Int) then (if 0 ≤ x9 then (if x9 < (x7.length : Int) then (if (rdOf ByteArray.empty x5 x9).toList = (rdOf ByteArray.empty x7 x9).toList then (barscanlaw09_CheckdigitCorrects.l0 k x5 x7 (wrap64 (x9 + 1))) else (some false)) else (none)) else (none)) else ((barscanlaw09_exampleHolds.f k).bind fun t135 => (some t135))
end
def barscanlaw09_CheckdigitCorrects.f (k : Nat) (a0 : Int) (a1 : ByteArray) : Option (Bool) := if (a1.size : Int) > 24 then ((barscanlaw09_exampleHolds.f k).bind fun t124 => (some t124)) else ((checkdigit_Corrections.f a0 a1).bind fun bt125 => ((barscanref09_Corrections.f a0 a1).bind fun bt129 => (if bt125.2 = bt129.2 then (barscanlaw09_CheckdigitCorrects.j0 k bt125.1 bt129.1 ((bt125.1.length : Int) != (bt129.1.length : Int))) else (barscanlaw09_CheckdigitCorrects.j0 k bt125.1 bt129.1 true))))
theorem barscanlaw09_CheckdigitCorrects.mono_l : ∀ k, (∀ y0 y1 y2, LeO (barscanlaw09_CheckdigitCorrects.j0 k y0 y1 y2) (barscanlaw09_CheckdigitCorrects.j0 (k + 1) y0 y1 y2)) ∧ (∀ y0 y1 y2, LeO (barscanlaw09_CheckdigitCorrects.l0 k y0 y1 y2) (barscanlaw09_CheckdigitCorrects.l0 (k + 1) y0 y1 y2))
  | 0 => ⟨fun _ _ _ r h => by simp [barscanlaw09_CheckdigitCorrects.j0] at h, fun _ _ _ r h => by simp [barscanlaw09_CheckdigitCorrects.l0] at h⟩
  | k + 1 => by
    obtain ⟨ih0, ih1⟩ := barscanlaw09_CheckdigitCorrects.mono_l k
    refine ⟨?_, ?_⟩
    · intro y0 y1 y2
      unfold barscanlaw09_CheckdigitCorrects.j0
      repeat' first
      | (with_reducible exact ih0 _ _ _)
      | (with_reducible exact ih1 _ _ _)
      | (with_reducible exact barscanlaw09_exampleHolds.mono _)
      | (with_reducible exact LeO.refl _)
      | (with_reducible exact LeO.none _)
      | (with_reducible refine LeO.ite ?_ ?_)
      | (with_reducible refine LeO.bind ?_ (fun _ => ?_))
      | exact ih0 _ _ _
      | exact ih1 _ _ _
      | exact barscanlaw09_exampleHolds.mono _
      | exact LeO.none _
      | refine LeO.ite ?_ ?_
      | refine LeO.bind ?_ (fun _ => ?_)
    · intro y0 y1 y2
      unfold barscanlaw09_CheckdigitCorrects.l0
      repeat' first
      | (with_reducible exact ih0 _ _ _)
      | (with_reducible exact ih1 _ _ _)
      | (with_reducible exact barscanlaw09_exampleHolds.mono _)
      | (with_reducible exact LeO.refl _)
      | (with_reducible exact LeO.none _)
      | (with_reducible refine LeO.ite ?_ ?_)
      | (with_reducible refine LeO.bind ?_ (fun _ => ?_))
      | exact ih0 _ _ _
      | exact ih1 _ _ _
      | exact barscanlaw09_exampleHolds.mono _
      | exact LeO.none _
      | refine LeO.ite ?_ ?_
      | refine LeO.bind ?_ (fun _ => ?_)
theorem barscanlaw09_CheckdigitCorrects.mono : ∀ a0 a1 k, LeO (barscanlaw09_CheckdigitCorrects.f k a0 a1) (barscanlaw09_CheckdigitCorrects.f (k + 1) a0 a1) := by
  intro a0 a1 k
  obtain ⟨ih0, ih1⟩ := barscanlaw09_CheckdigitCorrects.mono_l k
  unfold barscanlaw09_CheckdigitCorrects.f
  repeat' first
      | (with_reducible exact ih0 _ _ _)
      | (with_reducible exact ih1 _ _ _)
      | (with_reducible exact barscanlaw09_exampleHolds.mono _)
      | (with_reducible exact LeO.refl _)
      | (with_reducible exact LeO.none _)
      | (with_reducible refine LeO.ite ?_ ?_)
      | (with_reducible refine LeO.bind ?_ (fun _ => ?_))
      | exact ih0 _ _ _
      | exact ih1 _ _ _
      | exact barscanlaw09_exampleHolds.mono _
      | exact LeO.none _
      | refine LeO.ite ?_ ?_
      | refine LeO.bind ?_ (fun _ => ?_)
set_option maxHeartbeats 8000000 in
set_option maxRecDepth 100000 in
theorem barscanlaw09_CheckdigitCorrects.calls (k : Nat) (a0 : Int) (a1 : ByteArray) (r : Bool) (w : World) (h : barscanlaw09_CheckdigitCorrects.f k a0 a1 = some r) :
    Calls Try.prog 5 #[.int .i64 a0, .string a1] w fun e w' => e = .returned (.bool r) ∧ Below w.heap.size w w' := by
  have HB := Aside0.mk (Below.refl w.heap.size w)
  have H : (if (a1.size : Int) > 24 then ((barscanlaw09_exampleHolds.f k).bind fun t124 => (some t124)) else ((checkdigit_Corrections.f a0 a1).bind fun bt125 => ((barscanref09_Corrections.f a0 a1).bind fun bt129 => (if bt125.2 = bt129.2 then (barscanlaw09_CheckdigitCorrects.j0 k bt125.1 bt129.1 ((bt125.1.length : Int) != (bt129.1.length : Int))) else (barscanlaw09_CheckdigitCorrects.j0 k bt125.1 bt129.1 true))))) = some r := h
  clear h
  by_cases c3 : (a1.size : Int) > 24
  · rw [if_pos c3] at H
    have c3b0 : decide (24 < (a1.size : Int)) = true := decide_eq_true c3
    have c3b1 : decide (24 < a1.size) = true := decide_eq_true (by omega)
    clear c3
    replace H := Option.bind_eq_some_iff.mp H
    obtain ⟨t124, A40, H⟩ := H
    replace H : (some t124) = some r := H
    have A4 := Aside0.mk A40
    clear A40
    obtain rfl := Option.some.inj H
    go_enter Try.func5, Try.ntmps5
    go_wp2_with (first | (go_at_call 12; (with_reducible refine (barscanlaw09_exampleHolds.calls k  t124 _ A4.out).mono ?_); rintro e w5 ⟨rfl, hb⟩; have n0_ := Aside0.mk (below_step (by repeat (first | (with_reducible first | exact HB.out | apply below_alloc | apply pw_below_drewN | apply below_drew1) | exact HB.out)) hb); clear HB; have HB := n0_; clear n0_; (try clear hb); (try clear hb2); (try clear hk); (try clear hi)))
    repeat (go_quiet (first | (go_at_call 12; (with_reducible refine (barscanlaw09_exampleHolds.calls k  t124 _ A4.out).mono ?_); rintro e w5 ⟨rfl, hb⟩; have n0_ := Aside0.mk (below_step (by repeat (first | (with_reducible first | exact HB.out | apply below_alloc | apply pw_below_drewN | apply below_drew1) | exact HB.out)) hb); clear HB; have HB := n0_; clear n0_; (try clear hb); (try clear hb2); (try clear hk); (try clear hi))); try go_wp2_with (first | (go_at_call 12; (with_reducible refine (barscanlaw09_exampleHolds.calls k  t124 _ A4.out).mono ?_); rintro e w5 ⟨rfl, hb⟩; have n0_ := Aside0.mk (below_step (by repeat (first | (with_reducible first | exact HB.out | apply below_alloc | apply pw_below_drewN | apply below_drew1) | exact HB.out)) hb); clear HB; have HB := n0_; clear n0_; (try clear hb); (try clear hb2); (try clear hk); (try clear hi))))
    go_ret
    exact ⟨by first | rfl | (simp [errW_none, errW_some] <;> rfl) | (simp [*, errW_none, errW_some] <;> rfl), by repeat (first | (with_reducible first | exact HB.out | apply below_alloc | apply pw_below_drewN | apply below_drew1) | exact HB.out)⟩
  · rw [if_neg c3] at H
    have c3b0 : decide (24 < (a1.size : Int)) = false := decide_eq_false c3
    have c3b1 : decide (24 < a1.size) = false := decide_eq_false (by omega)
    clear c3
    replace H := Option.bind_eq_some_iff.mp H
    obtain ⟨⟨t125, t126⟩, A60, H⟩ := H
    replace H : ((barscanref09_Corrections.f a0 a1).bind fun bt129 => (if t126 = bt129.2 then (barscanlaw09_CheckdigitCorrects.j0 k t125 bt129.1 ((t125.length : Int) != (bt129.1.length : Int))) else (barscanlaw09_CheckdigitCorrects.j0 k t125 bt129.1 true))) = some r := H
    have A6 := Aside0.mk A60
    clear A60
    replace H := Option.bind_eq_some_iff.mp H
    obtain ⟨⟨t129, t130⟩, A70, H⟩ := H
    replace H : (if t126 = t130 then (barscanlaw09_CheckdigitCorrects.j0 k t125 t129 ((t125.length : Int) != (t129.length : Int))) else (barscanlaw09_CheckdigitCorrects.j0 k t125 t129 true)) = some r := H
    have A7 := Aside0.mk A70
    clear A70
    have HC8 := Aside0.mk H
    clear H
    go_enter Try.func5, Try.ntmps5
    go_upto_region 5 with (first | (go_at_call 17; (with_reducible refine (checkdigit_Corrections.calls a0 a1 t125 t126 _ A6.out).mono ?_); rintro e w9 ⟨v127, rfl, ho0, hb⟩; have n0_ := Aside0.mk (Kd.R_lower ho0 (below_size (by repeat (first | (with_reducible first | exact HB.out | apply below_alloc | apply pw_below_drewN | apply below_drew1) | exact HB.out)))); have n1_ := Aside0.mk (below_step (by repeat (first | (with_reducible first | exact HB.out | apply below_alloc | apply pw_below_drewN | apply below_drew1) | exact HB.out)) hb); clear HB; have HO128 := n0_; have HB := n1_; clear n0_ n1_; (try clear hb); (try clear hb2); (try clear hk); (try clear hi); (try clear ho0)) | (go_at_call 18; (with_reducible refine (barscanref09_Corrections.calls a0 a1 t129 t130 _ A7.out).mono ?_); rintro e w10 ⟨v131, rfl, ho0, hb⟩; have n0_ := Aside0.mk (Kd.R_elder' (by (with_reducible repeat (first | apply Kd.R_alloc | apply Kd.R_drewN | apply Kd.R_drew)); exact HO128.out) (Kd.R_base ho0) hb); have n1_ := Aside0.mk (Kd.R_lower (Kd.R_new' ho0 (Kd.R_lt (by (with_reducible repeat (first | apply Kd.R_alloc | apply Kd.R_drewN | apply Kd.R_drew)); exact HO128.out))) (below_size (by repeat (first | (with_reducible first | exact HB.out | apply below_alloc | apply pw_below_drewN | apply below_drew1) | exact HB.out)))); have n2_ := Aside0.mk (below_step (by repeat (first | (with_reducible first | exact HB.out | apply below_alloc | apply pw_below_drewN | apply below_drew1) | exact HB.out)) hb); clear HO128; clear HB; have HO128 := n0_; have HO132 := n1_; have HB := n2_; clear n0_ n1_ n2_; (try clear hb); (try clear hb2); (try clear hk); (try clear hi); (try clear ho0)))
    repeat (go_quiet (first | (go_at_call 17; (with_reducible refine (checkdigit_Corrections.calls a0 a1 t125 t126 _ A6.out).mono ?_); rintro e w9 ⟨v127, rfl, ho0, hb⟩; have n0_ := Aside0.mk (Kd.R_lower ho0 (below_size (by repeat (first | (with_reducible first | exact HB.out | apply below_alloc | apply pw_below_drewN | apply below_drew1) | exact HB.out)))); have n1_ := Aside0.mk (below_step (by repeat (first | (with_reducible first | exact HB.out | apply below_alloc | apply pw_below_drewN | apply below_drew1) | exact HB.out)) hb); clear HB; have HO128 := n0_; have HB := n1_; clear n0_ n1_; (try clear hb); (try clear hb2); (try clear hk); (try clear hi); (try clear ho0)) | (go_at_call 18; (with_reducible refine (barscanref09_Corrections.calls a0 a1 t129 t130 _ A7.out).mono ?_); rintro e w10 ⟨v131, rfl, ho0, hb⟩; have n0_ := Aside0.mk (Kd.R_elder' (by (with_reducible repeat (first | apply Kd.R_alloc | apply Kd.R_drewN | apply Kd.R_drew)); exact HO128.out) (Kd.R_base ho0) hb); have n1_ := Aside0.mk (Kd.R_lower (Kd.R_new' ho0 (Kd.R_lt (by (with_reducible repeat (first | apply Kd.R_alloc | apply Kd.R_drewN | apply Kd.R_drew)); exact HO128.out))) (below_size (by repeat (first | (with_reducible first | exact HB.out | apply below_alloc | apply pw_below_drewN | apply below_drew1) | exact HB.out)))); have n2_ := Aside0.mk (below_step (by repeat (first | (with_reducible first | exact HB.out | apply below_alloc | apply pw_below_drewN | apply below_drew1) | exact HB.out)) hb); clear HO128; clear HB; have HO128 := n0_; have HO132 := n1_; have HB := n2_; clear n0_ n1_ n2_; (try clear hb); (try clear hb2); (try clear hk); (try clear hi); (try clear ho0))); go_upto_region 5 with (first | (go_at_call 17; (with_reducible refine (checkdigit_Corrections.calls a0 a1 t125 t126 _ A6.out).mono ?_); rintro e w9 ⟨v127, rfl, ho0, hb⟩; have n0_ := Aside0.mk (Kd.R_lower ho0 (below_size (by repeat (first | (with_reducible first | exact HB.out | apply below_alloc | apply pw_below_drewN | apply below_drew1) | exact HB.out)))); have n1_ := Aside0.mk (below_step (by repeat (first | (with_reducible first | exact HB.out | apply below_alloc | apply pw_below_drewN | apply below_drew1) | exact HB.out)) hb); clear HB; have HO128 := n0_; have HB := n1_; clear n0_ n1_; (try clear hb); (try clear hb2); (try clear hk); (try clear hi); (try clear ho0)) | (go_at_call 18; (with_reducible refine (barscanref09_Corrections.calls a0 a1 t129 t130 _ A7.out).mono ?_); rintro e w10 ⟨v131, rfl, ho0, hb⟩; have n0_ := Aside0.mk (Kd.R_elder' (by (with_reducible repeat (first | apply Kd.R_alloc | apply Kd.R_drewN | apply Kd.R_drew)); exact HO128.out) (Kd.R_base ho0) hb); have n1_ := Aside0.mk (Kd.R_lower (Kd.R_new' ho0 (Kd.R_lt (by (with_reducible repeat (first | apply Kd.R_alloc | apply Kd.R_drewN | apply Kd.R_drew)); exact HO128.out))) (below_size (by repeat (first | (with_reducible first | exact HB.out | apply below_alloc | apply pw_below_drewN | apply below_drew1) | exact HB.out)))); have n2_ := Aside0.mk (below_step (by repeat (first | (with_reducible first | exact HB.out | apply below_alloc | apply pw_below_drewN | apply below_drew1) | exact HB.out)) hb); clear HO128; clear HB; have HO128 := n0_; have HO132 := n1_; have HB := n2_; clear n0_ n1_ n2_; (try clear hb); (try clear hb2); (try clear hk); (try clear hi); (try clear ho0))))
    (try simp only [Act.put, List.setIfInBounds_toArray, List.set_cons_zero, List.set_cons_succ])
    go_cut [35] (fun v35 wc => ∃ (kq : Nat) (x35_7 : Bool), v35 = .bool x35_7 ∧ Aside0 (barscanlaw09_CheckdigitCorrects.j0 kq t125 t129 x35_7 = some r) ∧ Aside0 (kq ≤ k) ∧ Aside0 (Kd.R Kd.string 9 wc w.heap.size (fun k_ => some k_ ≠ (v131 : Value).ownBlock) v127 t125) ∧ Aside0 (Kd.R Kd.string 9 wc w.heap.size (fun k_ => some k_ ≠ (v127 : Value).ownBlock) v131 t129) ∧ Aside0 (Below w.heap.size w wc))
    case first =>
      have H := HC8.out
      clear HC8
      by_cases c11 : t126 = t130
      · rw [if_pos c11] at H
        have c11b0 : (t126 == t130) = true := beq_iff_eq.mpr c11
        have c11b1 : (t126 != t130) = false := bne_eq_false_iff_eq.mpr c11
        clear c11
        (first | rw [c11b0] | (simp only [i64_w, i32_w]; rw [c11b0]) | skip)
        have H' := Aside0.mk H
        clear H
        obtain ⟨Ao12, co12, eo12⟩ := Kd.R_slice HO128.out
        subst eo12
        obtain ⟨Ao13, co13, eo13⟩ := Kd.R_slice HO132.out
        subst eo13
        go_wp2
        repeat (go_quiet (fail); try go_wp2)
        go_meet
        case rel => exact ⟨_, (((t125.length : Int) != (t129.length : Int))), (by first | rfl | (simp; done) | (simp [*]; done)), H', ⟨by first | omega | exact Nat.le_refl _⟩, ⟨by (with_reducible repeat (first | apply Kd.R_alloc | apply Kd.R_drewN | apply Kd.R_drew)); exact Kd.R_mono HO128.out (fun _ hk => hk.2)⟩, ⟨by (with_reducible repeat (first | apply Kd.R_alloc | apply Kd.R_drewN | apply Kd.R_drew)); exact Kd.R_mono HO132.out (fun _ hk => hk.2)⟩, ⟨by repeat (first | (with_reducible first | exact HB.out | apply below_alloc | apply pw_below_drewN | apply below_drew1) | exact HB.out)⟩⟩
      · rw [if_neg c11] at H
        have c11b0 : (t126 == t130) = false := beq_eq_false_iff_ne.mpr c11
        have c11b1 : (t126 != t130) = true := bne_iff_ne.mpr c11
        (first | rw [c11b0] | (simp only [i64_w, i32_w]; rw [c11b0]) | skip)
        have H' := Aside0.mk H
        clear H
        go_wp2
        repeat (go_quiet (fail); try go_wp2)
        go_meet
        case rel => exact ⟨_, (true), (by first | rfl | (simp; done) | (simp [*]; done)), H', ⟨by first | omega | exact Nat.le_refl _⟩, ⟨by (with_reducible repeat (first | apply Kd.R_alloc | apply Kd.R_drewN | apply Kd.R_drew)); exact Kd.R_mono HO128.out (fun _ hk => hk.2)⟩, ⟨by (with_reducible repeat (first | apply Kd.R_alloc | apply Kd.R_drewN | apply Kd.R_drew)); exact Kd.R_mono HO132.out (fun _ hk => hk.2)⟩, ⟨by repeat (first | (with_reducible first | exact HB.out | apply below_alloc | apply pw_below_drewN | apply below_drew1) | exact HB.out)⟩⟩
    case rest =>
      clear HC8
      try clear c1
      try clear p2
      try clear c3
      try clear c3b0
      try clear c3b1
      try clear c5
      try clear c11
      try clear c11b0
      try clear c11b1
      obtain ⟨kq, x35_7, rfl, HA, HJ7, HO_5, HO_7, HB⟩ := hcut
      cases kq with
      | zero => exact absurd HA.out (by simp [barscanlaw09_CheckdigitCorrects.j0])
      | succ kj7 =>
        have H := HA.out
        clear HA
        simp only [barscanlaw09_CheckdigitCorrects.j0] at H
        by_cases c14 : x35_7 = true
        · subst c14
          have H1 : (some false) = some r := by rw [if_pos rfl] at H; exact H
          clear H
          have H := H1
          clear H1
          obtain rfl := Option.some.inj H
          go_wp2
          repeat (go_quiet (fail); try go_wp2)
          go_ret
          exact ⟨by first | rfl | (simp [errW_none, errW_some] <;> rfl) | (simp [*, errW_none, errW_some] <;> rfl), by repeat (first | (with_reducible first | exact HB.out | apply below_alloc | apply pw_below_drewN | apply below_drew1) | exact HB.out)⟩
        · replace c14 := Bool.eq_false_iff.mpr c14
          subst c14
          have H1 : (barscanlaw09_CheckdigitCorrects.l0 kj7 t125 t129 0) = some r := by rw [if_neg (show ¬ (false = true) by decide)] at H; exact H
          clear H
          have H := H1
          clear H1
          have H' := Aside0.mk H
          clear H
          go_wp2
          repeat (go_quiet (fail); try go_wp2)
          go_loopg [9] kj7 (fun kq v9 w' => ∃ (x9_2 : Int), v9 = .int .i64 x9_2 ∧ Aside0 (barscanlaw09_CheckdigitCorrects.l0 kq t125 t129 x9_2 = some r) ∧ Aside0 (kq ≤ kj7) ∧ Aside0 (Kd.R Kd.string 9 w' w.heap.size (fun k_ => some k_ ≠ (v131 : Value).ownBlock) v127 t125) ∧ Aside0 (Kd.R Kd.string 9 w' w.heap.size (fun k_ => some k_ ≠ (v127 : Value).ownBlock) v131 t129) ∧ Aside0 (Below w.heap.size w w'))
          case atStart => exact ⟨(0), (by first | rfl | (simp; done) | (simp [*]; done)), H', ⟨Nat.le_refl _⟩, ⟨by (with_reducible repeat (first | apply Kd.R_alloc | apply Kd.R_drewN | apply Kd.R_drew)); exact HO_5.out⟩, ⟨by (with_reducible repeat (first | apply Kd.R_alloc | apply Kd.R_drewN | apply Kd.R_drew)); exact HO_7.out⟩, ⟨by repeat (first | (with_reducible first | exact HB.out | apply below_alloc | apply pw_below_drewN | apply below_drew1) | exact HB.out)⟩⟩
          case round =>
            clear H'
            try clear c1
            try clear p2
            try clear c3
            try clear c3b0
            try clear c3b1
            try clear c5
            try clear c11
            try clear c11b0
            try clear c11b1
            try clear c14
            try clear p2
            obtain ⟨x9_2, rfl, HA, HK2, HO_5, HO_7, HB⟩ := hrel
            cases gk with
            | zero => exact absurd HA.out (by simp [barscanlaw09_CheckdigitCorrects.l0])
            | succ k2 =>
              have H := HA.out
              clear HA
              simp only [barscanlaw09_CheckdigitCorrects.l0] at H
              by_cases c15 : x9_2 < (t125.length : Int)
              · rw [if_pos c15] at H
                have c15b0 : decide (x9_2 < (t125.length : Int)) = true := decide_eq_true c15
                clear c15
                by_cases c16 : 0 ≤ x9_2
                · rw [if_pos c16] at H
                  have c16b0 : decide (0 ≤ x9_2) = true := decide_eq_true c16
                  clear c16
                  by_cases c17 : x9_2 < (t129.length : Int)
                  · rw [if_pos c17] at H
                    have c17b0 : decide (x9_2 < (t129.length : Int)) = true := decide_eq_true c17
                    clear c17
                    by_cases c18 : (rdOf ByteArray.empty t125 x9_2).toList = (rdOf ByteArray.empty t129 x9_2).toList
                    · rw [if_pos c18] at H
                      have c18b0 : ((rdOf ByteArray.empty t125 x9_2).toList == (rdOf ByteArray.empty t129 x9_2).toList) = true := beq_iff_eq.mpr c18
                      have c18b1 : ((rdOf ByteArray.empty t125 x9_2).toList != (rdOf ByteArray.empty t129 x9_2).toList) = false := bne_eq_false_iff_eq.mpr c18
                      clear c18
                      have H' := Aside0.mk H
                      clear H
                      obtain ⟨Ao19, co19, eo19⟩ := Kd.R_slice HO_5.out
                      subst eo19
                      have p133 : 0 ≤ (x9_2 : Int) := of_decide_eq_true (by first | (with_reducible assumption) | assumption)
                      have q133 : x9_2 < (t125.length : Int) := of_decide_eq_true (by first | (with_reducible assumption) | assumption)
                      obtain ⟨ad133, e133, hx133_0⟩ := Kd.at_string (Kd.R_reads' HO_5.out).2.2 x9_2 p133 q133
                      cases e133
                      replace p133 := eq_true p133
                      replace q133 := eq_true q133
                      obtain ⟨Ao20, co20, eo20⟩ := Kd.R_slice HO_7.out
                      subst eo20
                      have p134 : 0 ≤ (x9_2 : Int) := of_decide_eq_true (by first | (with_reducible assumption) | assumption)
                      have q134 : x9_2 < (t129.length : Int) := of_decide_eq_true (by first | (with_reducible assumption) | assumption)
                      obtain ⟨ad134, e134, hx134_0⟩ := Kd.at_string (Kd.R_reads' HO_7.out).2.2 x9_2 p134 q134
                      cases e134
                      replace p134 := eq_true p134
                      replace q134 := eq_true q134
                      go_wp2
                      repeat (go_quiet (fail); try go_wp2)
                      go_roundg k2
                      case measure => have := HJ7.out; have := HK2.out; omega
                      case rel => exact ⟨(wrap64 (x9_2 + 1)), (by first | rfl | (simp; done) | (simp [*]; done)), H', ⟨by have := HJ7.out; have := HK2.out; omega⟩, ⟨by (with_reducible repeat (first | apply Kd.R_alloc | apply Kd.R_drewN | apply Kd.R_drew)); exact HO_5.out⟩, ⟨by (with_reducible repeat (first | apply Kd.R_alloc | apply Kd.R_drewN | apply Kd.R_drew)); exact HO_7.out⟩, ⟨by repeat (first | (with_reducible first | exact HB.out | apply below_alloc | apply pw_below_drewN | apply below_drew1) | exact HB.out)⟩⟩
                    · rw [if_neg c18] at H
                      have c18b0 : ((rdOf ByteArray.empty t125 x9_2).toList == (rdOf ByteArray.empty t129 x9_2).toList) = false := beq_eq_false_iff_ne.mpr c18
                      have c18b1 : ((rdOf ByteArray.empty t125 x9_2).toList != (rdOf ByteArray.empty t129 x9_2).toList) = true := bne_iff_ne.mpr c18
                      obtain rfl := Option.some.inj H
                      obtain ⟨Ao21, co21, eo21⟩ := Kd.R_slice HO_5.out
                      subst eo21
                      have p133 : 0 ≤ (x9_2 : Int) := of_decide_eq_true (by first | (with_reducible assumption) | assumption)
                      have q133 : x9_2 < (t125.length : Int) := of_decide_eq_true (by first | (with_reducible assumption) | assumption)
                      obtain ⟨ad133, e133, hx133_0⟩ := Kd.at_string (Kd.R_reads' HO_5.out).2.2 x9_2 p133 q133
                      cases e133
                      replace p133 := eq_true p133
                      replace q133 := eq_true q133
                      obtain ⟨Ao22, co22, eo22⟩ := Kd.R_slice HO_7.out
                      subst eo22
                      have p134 : 0 ≤ (x9_2 : Int) := of_decide_eq_true (by first | (with_reducible assumption) | assumption)
                      have q134 : x9_2 < (t129.length : Int) := of_decide_eq_true (by first | (with_reducible assumption) | assumption)
                      obtain ⟨ad134, e134, hx134_0⟩ := Kd.at_string (Kd.R_reads' HO_7.out).2.2 x9_2 p134 q134
                      cases e134
                      replace p134 := eq_true p134
                      replace q134 := eq_true q134
                      go_wp2
                      repeat (go_quiet (fail); try go_wp2)
                      go_ret
                      exact ⟨by first | rfl | (simp [errW_none, errW_some] <;> rfl) | (simp [*, errW_none, errW_some] <;> rfl), by repeat (first | (with_reducible first | exact HB.out | apply below_alloc | apply pw_below_drewN | apply below_drew1) | exact HB.out)⟩
                  · rw [if_neg c17] at H
                    exact absurd H (by simp)
                · rw [if_neg c16] at H
                  exact absurd H (by simp)
              · rw [if_neg c15] at H
                have c15b0 : decide (x9_2 < (t125.length : Int)) = false := decide_eq_false c15
                clear c15
                replace H := Option.bind_eq_some_iff.mp H
                obtain ⟨t135, A230, H⟩ := H
                replace H : (some t135) = some r := H
                have A23 := Aside0.mk A230
                clear A230
                obtain rfl := Option.some.inj H
                obtain ⟨Ao24, co24, eo24⟩ := Kd.R_slice HO_5.out
                subst eo24
                go_wp2_with (first | (go_at_call 12; (with_reducible refine (barscanlaw09_exampleHolds.calls k2  t135 _ A23.out).mono ?_); rintro e w25 ⟨rfl, hb⟩; have n0_ := Aside0.mk (Kd.R_below (by (with_reducible repeat (first | apply Kd.R_alloc | apply Kd.R_drewN | apply Kd.R_drew)); exact HO_5.out) hb); have n1_ := Aside0.mk (Kd.R_below (by (with_reducible repeat (first | apply Kd.R_alloc | apply Kd.R_drewN | apply Kd.R_drew)); exact HO_7.out) hb); have n2_ := Aside0.mk (below_step (by repeat (first | (with_reducible first | exact HB.out | apply below_alloc | apply pw_below_drewN | apply below_drew1) | exact HB.out)) hb); clear HO_5; clear HO_7; clear HB; have HO_5 := n0_; have HO_7 := n1_; have HB := n2_; clear n0_ n1_ n2_; (try clear hb); (try clear hb2); (try clear hk); (try clear hi)))
                repeat (go_quiet (first | (go_at_call 12; (with_reducible refine (barscanlaw09_exampleHolds.calls k2  t135 _ A23.out).mono ?_); rintro e w25 ⟨rfl, hb⟩; have n0_ := Aside0.mk (Kd.R_below (by (with_reducible repeat (first | apply Kd.R_alloc | apply Kd.R_drewN | apply Kd.R_drew)); exact HO_5.out) hb); have n1_ := Aside0.mk (Kd.R_below (by (with_reducible repeat (first | apply Kd.R_alloc | apply Kd.R_drewN | apply Kd.R_drew)); exact HO_7.out) hb); have n2_ := Aside0.mk (below_step (by repeat (first | (with_reducible first | exact HB.out | apply below_alloc | apply pw_below_drewN | apply below_drew1) | exact HB.out)) hb); clear HO_5; clear HO_7; clear HB; have HO_5 := n0_; have HO_7 := n1_; have HB := n2_; clear n0_ n1_ n2_; (try clear hb); (try clear hb2); (try clear hk); (try clear hi))); try go_wp2_with (first | (go_at_call 12; (with_reducible refine (barscanlaw09_exampleHolds.calls k2  t135 _ A23.out).mono ?_); rintro e w25 ⟨rfl, hb⟩; have n0_ := Aside0.mk (Kd.R_below (by (with_reducible repeat (first | apply Kd.R_alloc | apply Kd.R_drewN | apply Kd.R_drew)); exact HO_5.out) hb); have n1_ := Aside0.mk (Kd.R_below (by (with_reducible repeat (first | apply Kd.R_alloc | apply Kd.R_drewN | apply Kd.R_drew)); exact HO_7.out) hb); have n2_ := Aside0.mk (below_step (by repeat (first | (with_reducible first | exact HB.out | apply below_alloc | apply pw_below_drewN | apply below_drew1) | exact HB.out)) hb); clear HO_5; clear HO_7; clear HB; have HO_5 := n0_; have HO_7 := n1_; have HB := n2_; clear n0_ n1_ n2_; (try clear hb); (try clear hb2); (try clear hk); (try clear hi))))
                go_ret
                exact ⟨by first | rfl | (simp [errW_none, errW_some] <;> rfl) | (simp [*, errW_none, errW_some] <;> rfl), by repeat (first | (with_reducible first | exact HB.out | apply below_alloc | apply pw_below_drewN | apply below_drew1) | exact HB.out)⟩

/-- THE ONE PURE STATEMENT of barscanlaw09_CheckdigitCorrects: yours. -/
def barscanlaw09_CheckdigitCorrects.Pure : Prop := ∀ (a0 : Int) (a1 : ByteArray), (Lit.int .i64 a0).wf = true → a1.size ≤ 140737488351232 → ∃ k, barscanlaw09_CheckdigitCorrects.f k a0 a1 = some true
theorem barscanlaw09_CheckdigitCorrects.walk (P : barscanlaw09_CheckdigitCorrects.Pure) (a0 : Int) (a1 : ByteArray) (w : World) (w0 : (Lit.int .i64 a0).wf = true) (w1 : a1.size ≤ 140737488351232) :
    Calls Try.prog 5 #[.int .i64 a0, .string a1] w fun e w' => e = .returned (.bool true) ∧ Below w.heap.size w w' := by
  obtain ⟨k, h⟩ := P a0 a1 w0 w1
  refine (barscanlaw09_CheckdigitCorrects.calls k a0 a1 true w h).mono ?_
  rintro e w' ⟨rfl, hd⟩
  exact ⟨rfl, hd⟩

end Go.Proofs.Ytcfgfeamcckmjaa.CCorrects
