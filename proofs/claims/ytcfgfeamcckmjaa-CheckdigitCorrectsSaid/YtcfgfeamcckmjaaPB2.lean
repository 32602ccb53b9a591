-- Written by a program of ours around the kit's print, functions of ours put in.
import Derived.Test.YtcfgfeamcckmjaaPB0
import Derived.Test.YtcfgfeamcckmjaaPB1
namespace Go.Proofs.Ytcfgfeamcckmjaa.PB
open Go.RowKit Go.Proofs.YtcfgfeamcckmjaaW.PrintWords Go.Proofs.YtcfgfeamcckmjaaW.PrintLast Go.Proofs.YtcfgfeamcckmjaaW.PrintMore
attribute [local go_sem] max2_int min2_int max_two min_two max_three min_three max_four min_four   -- for this text's walks alone
set_option linter.unusedVariables false
set_option linter.unusedSimpArgs false

/-! ### barscanref09_product: function 62 -/
def barscanref09_product.j0 : Nat → Int → Int → Bool → Option (Int)
  | 0, _, _, _ => none
  | k + 1, x0, x1, x10 => if x10 = true then (some (Int.tmod (wrap64 (x0 + x1)) 5)) else (if x0 < 5 then (some (wrap64 (5 + (Int.tmod (wrap64 ((wrap64 (x0 + x1)) - 5)) 5)))) else (if x1 < 5 then (some (wrap64 (5 + (Int.tmod (wrap64 (x0 - x1)) 5)))) else (some (Int.tmod (wrap64 ((wrap64 (x0 - x1)) + 5)) 5))))
def barscanref09_product.f (k : Nat) (a0 : Int) (a1 : Int) : Option (Int) := if a0 < 5 then (barscanref09_product.j0 k a0 a1 (decide (a1 < 5))) else (barscanref09_product.j0 k a0 a1 false)
theorem barscanref09_product.mono_l : ∀ k, (∀ y0 y1 y2, LeO (barscanref09_product.j0 k y0 y1 y2) (barscanref09_product.j0 (k + 1) y0 y1 y2))
  | 0 => fun _ _ _ r h => by simp [barscanref09_product.j0] at h
  | k + 1 => by
    have ih0 := barscanref09_product.mono_l k
    · intro y0 y1 y2
      unfold barscanref09_product.j0
      repeat' first
      | (with_reducible exact ih0 _ _ _)
      | (with_reducible exact LeO.refl _)
      | (with_reducible exact LeO.none _)
      | (with_reducible refine LeO.ite ?_ ?_)
      | (with_reducible refine LeO.bind ?_ (fun _ => ?_))
      | exact ih0 _ _ _
      | exact LeO.none _
      | refine LeO.ite ?_ ?_
      | refine LeO.bind ?_ (fun _ => ?_)
theorem barscanref09_product.mono : ∀ a0 a1 k, LeO (barscanref09_product.f k a0 a1) (barscanref09_product.f (k + 1) a0 a1) := by
  intro a0 a1 k
  have ih0 := barscanref09_product.mono_l k
  unfold barscanref09_product.f
  repeat' first
      | (with_reducible exact ih0 _ _ _)
      | (with_reducible exact LeO.refl _)
      | (with_reducible exact LeO.none _)
      | (with_reducible refine LeO.ite ?_ ?_)
      | (with_reducible refine LeO.bind ?_ (fun _ => ?_))
      | exact ih0 _ _ _
      | exact LeO.none _
      | refine LeO.ite ?_ ?_
      | refine LeO.bind ?_ (fun _ => ?_)
set_option maxHeartbeats 8000000 in
set_option maxRecDepth 100000 in
theorem barscanref09_product.calls (k : Nat) (a0 : Int) (a1 : Int) (r : Int) (w : World) (h : barscanref09_product.f k a0 a1 = some r) :
    Calls Try.prog 62 #[.int .i64 a0, .int .i64 a1] w fun e w' => e = .returned (.int .i64 r) ∧ Drawn0 w w' := by
  have H : (if a0 < 5 then (barscanref09_product.j0 k a0 a1 (decide (a1 < 5))) else (barscanref09_product.j0 k a0 a1 false)) = some r := h
  clear h
  have HC3 := Aside0.mk H
  clear H
  go_enter Try.func62, Try.ntmps62
  go_upto_region 1 with (fail)
  go_cut [10] (fun v10 wc => ∃ (kq : Nat) (x10_2 : Bool), v10 = .bool x10_2 ∧ Aside0 (barscanref09_product.j0 kq a0 a1 x10_2 = some r) ∧ Aside0 (kq ≤ k) ∧ Drawn0 w wc)
  case first =>
    have H := HC3.out
    clear HC3
    by_cases c4 : a0 < 5
    · rw [if_pos c4] at H
      have c4b0 : decide (a0 < 5) = true := decide_eq_true c4
      clear c4
      (first | rw [c4b0] | (simp only [i64_w, i32_w]; rw [c4b0]) | skip)
      have H' := Aside0.mk H
      clear H
      go_wp2
      go_meet
      case rel => exact ⟨_, (decide (a1 < 5)), (by first | rfl | (simp; done) | (simp [*]; done)), H', ⟨by first | omega | exact Nat.le_refl _⟩, by repeat (first | exact Drawn0.refl _ | apply Drawn0.step)⟩
    · rw [if_neg c4] at H
      have c4b0 : decide (a0 < 5) = false := decide_eq_false c4
      clear c4
      (first | rw [c4b0] | (simp only [i64_w, i32_w]; rw [c4b0]) | skip)
      have H' := Aside0.mk H
      clear H
      go_wp2
      go_meet
      case rel => exact ⟨_, (false), (by first | rfl | (simp; done) | (simp [*]; done)), H', ⟨by first | omega | exact Nat.le_refl _⟩, by repeat (first | exact Drawn0.refl _ | apply Drawn0.step)⟩
  case rest =>
    clear HC3
    try clear p2
    try clear c4
    try clear c4b0
    obtain ⟨kq, x10_2, rfl, HA, HJ2, ⟨mc2, rfl⟩⟩ := hcut
    cases kq with
    | zero => exact absurd HA.out (by simp [barscanref09_product.j0])
    | succ kj2 =>
      have H := HA.out
      clear HA
      simp only [barscanref09_product.j0] at H
      by_cases c5 : x10_2 = true
      · subst c5
        have H1 : (some (Int.tmod (wrap64 (a0 + a1)) 5)) = some r := by rw [if_pos rfl] at H; exact H
        clear H
        have H := H1
        clear H1
        obtain rfl := Option.some.inj H
        go_wp2
        go_ret
        exact ⟨by first | rfl | (simp; done) | (simp [*]; done), by repeat (first | exact Drawn0.refl _ | apply Drawn0.step)⟩
      · replace c5 := Bool.eq_false_iff.mpr c5
        subst c5
        have H1 : (if a0 < 5 then (some (wrap64 (5 + (Int.tmod (wrap64 ((wrap64 (a0 + a1)) - 5)) 5)))) else (if a1 < 5 then (some (wrap64 (5 + (Int.tmod (wrap64 (a0 - a1)) 5)))) else (some (Int.tmod (wrap64 ((wrap64 (a0 - a1)) + 5)) 5)))) = some r := by rw [if_neg (show ¬ (false = true) by decide)] at H; exact H
        clear H
        have H := H1
        clear H1
        by_cases c6 : a0 < 5
        · rw [if_pos c6] at H
          have c6b0 : decide (a0 < 5) = true := decide_eq_true c6
          clear c6
          obtain rfl := Option.some.inj H
          go_wp2
          go_ret
          exact ⟨by first | rfl | (simp; done) | (simp [*]; done), by repeat (first | exact Drawn0.refl _ | apply Drawn0.step)⟩
        · rw [if_neg c6] at H
          have c6b0 : decide (a0 < 5) = false := decide_eq_false c6
          clear c6
          by_cases c7 : a1 < 5
          · rw [if_pos c7] at H
            have c7b0 : decide (a1 < 5) = true := decide_eq_true c7
            clear c7
            obtain rfl := Option.some.inj H
            go_wp2
            go_ret
            exact ⟨by first | rfl | (simp; done) | (simp [*]; done), by repeat (first | exact Drawn0.refl _ | apply Drawn0.step)⟩
          · rw [if_neg c7] at H
            have c7b0 : decide (a1 < 5) = false := decide_eq_false c7
            clear c7
            obtain rfl := Option.some.inj H
            go_wp2
            go_ret
            exact ⟨by first | rfl | (simp; done) | (simp [*]; done), by repeat (first | exact Drawn0.refl _ | apply Drawn0.step)⟩

/-! ### barscanref09_verhoeff: function 54 -/
mutual
def barscanref09_verhoeff.l0 : Nat → ByteArray → Int → Int → Option (Int)
  | 0, _, _, _ => none
  | k + 1, x0, x3, x4 => if x4 < (x0.size : Int) then ((barscanref09_value.f x0 x4).bind fun t112 => (barscanref09_verhoeff.l1 k x0 x3 x4 t112 0)) else (barscanref09_verhoeff.l2 k x3 0)
def barscanref09_verhoeff.l1 : Nat → ByteArray → Int → Int → Int → Int → Option (Int)
  | 0, _, _, _, _, _ => none
  | k + 1, x0, x3, x4, x5, x6 => if x6 ≤ (Int.tmod x4 8) then (if 0 ≤ x5 then (if x5 < 10 then (barscanref09_verhoeff.l1 k x0 x3 x4 (((bt (⟨#[49, 53, 55, 54, 50, 56, 51, 48, 57, 52]⟩ : ByteArray) x5) - 48) % 256) (wrap64 (x6 + 1))) else (none)) else (none)) else ((barscanref09_product.f k x3 x5).bind fun t113 => (barscanref09_verhoeff.l0 k x0 t113 (wrap64 (x4 + 1))))
def barscanref09_verhoeff.l2 : Nat → Int → Int → Option (Int)
  | 0, _, _ => none
  | k + 1, x3, x7 => if x7 < 10 then ((barscanref09_product.f k x7 x3).bind fun t114 => (if t114 = 0 then (some x7) else (barscanref09_verhoeff.l2 k x3 (wrap64 (x7 + 1))))) else (some 0)
end
def barscanref09_verhoeff.f (k : Nat) (a0 : ByteArray) : Option (Int) := barscanref09_verhoeff.l0 k a0 0 0
theorem barscanref09_verhoeff.mono_l : ∀ k, (∀ y0 y1 y2, LeO (barscanref09_verhoeff.l0 k y0 y1 y2) (barscanref09_verhoeff.l0 (k + 1) y0 y1 y2)) ∧ (∀ y0 y1 y2 y3 y4, LeO (barscanref09_verhoeff.l1 k y0 y1 y2 y3 y4) (barscanref09_verhoeff.l1 (k + 1) y0 y1 y2 y3 y4)) ∧ (∀ y0 y1, LeO (barscanref09_verhoeff.l2 k y0 y1) (barscanref09_verhoeff.l2 (k + 1) y0 y1))
  | 0 => ⟨fun _ _ _ r h => by simp [barscanref09_verhoeff.l0] at h, fun _ _ _ _ _ r h => by simp [barscanref09_verhoeff.l1] at h, fun _ _ r h => by simp [barscanref09_verhoeff.l2] at h⟩
  | k + 1 => by
    obtain ⟨ih0, ih1, ih2⟩ := barscanref09_verhoeff.mono_l k
    refine ⟨?_, ?_, ?_⟩
    · intro y0 y1 y2
      unfold barscanref09_verhoeff.l0
      repeat' first
      | (with_reducible exact ih0 _ _ _)
      | (with_reducible exact ih1 _ _ _ _ _)
      | (with_reducible exact ih2 _ _)
      | (with_reducible exact barscanref09_product.mono _ _ _)
      | (with_reducible exact LeO.refl _)
      | (with_reducible exact LeO.none _)
      | (with_reducible refine LeO.ite ?_ ?_)
      | (with_reducible refine LeO.bind ?_ (fun _ => ?_))
      | exact ih0 _ _ _
      | exact ih1 _ _ _ _ _
      | exact ih2 _ _
      | exact barscanref09_product.mono _ _ _
      | exact LeO.none _
      | refine LeO.ite ?_ ?_
      | refine LeO.bind ?_ (fun _ => ?_)
    · intro y0 y1 y2 y3 y4
      unfold barscanref09_verhoeff.l1
      repeat' first
      | (with_reducible exact ih0 _ _ _)
      | (with_reducible exact ih1 _ _ _ _ _)
      | (with_reducible exact ih2 _ _)
      | (with_reducible exact barscanref09_product.mono _ _ _)
      | (with_reducible exact LeO.refl _)
      | (with_reducible exact LeO.none _)
      | (with_reducible refine LeO.ite ?_ ?_)
      | (with_reducible refine LeO.bind ?_ (fun _ => ?_))
      | exact ih0 _ _ _
      | exact ih1 _ _ _ _ _
      | exact ih2 _ _
      | exact barscanref09_product.mono _ _ _
      | exact LeO.none _
      | refine LeO.ite ?_ ?_
      | refine LeO.bind ?_ (fun _ => ?_)
    · intro y0 y1
      unfold barscanref09_verhoeff.l2
      repeat' first
      | (with_reducible exact ih0 _ _ _)
      | (with_reducible exact ih1 _ _ _ _ _)
      | (with_reducible exact ih2 _ _)
      | (with_reducible exact barscanref09_product.mono _ _ _)
      | (with_reducible exact LeO.refl _)
      | (with_reducible exact LeO.none _)
      | (with_reducible refine LeO.ite ?_ ?_)
      | (with_reducible refine LeO.bind ?_ (fun _ => ?_))
      | exact ih0 _ _ _
      | exact ih1 _ _ _ _ _
      | exact ih2 _ _
      | exact barscanref09_product.mono _ _ _
      | exact LeO.none _
      | refine LeO.ite ?_ ?_
      | refine LeO.bind ?_ (fun _ => ?_)
theorem barscanref09_verhoeff.mono : ∀ a0 k, LeO (barscanref09_verhoeff.f k a0) (barscanref09_verhoeff.f (k + 1) a0) := by
  intro a0 k
  obtain ⟨ih0, ih1, ih2⟩ := barscanref09_verhoeff.mono_l k
  unfold barscanref09_verhoeff.f
  repeat' first
      | (with_reducible exact ih0 _ _ _)
      | (with_reducible exact ih1 _ _ _ _ _)
      | (with_reducible exact ih2 _ _)
      | (with_reducible exact barscanref09_product.mono _ _ _)
      | (with_reducible exact LeO.refl _)
      | (with_reducible exact LeO.none _)
      | (with_reducible refine LeO.ite ?_ ?_)
      | (with_reducible refine LeO.bind ?_ (fun _ => ?_))
      | exact ih0 _ _ _
      | exact ih1 _ _ _ _ _
      | exact ih2 _ _
      | exact barscanref09_product.mono _ _ _
      | exact LeO.none _
      | refine LeO.ite ?_ ?_
      | refine LeO.bind ?_ (fun _ => ?_)
set_option maxHeartbeats 8000000 in
set_option maxRecDepth 100000 in
theorem barscanref09_verhoeff.calls (k : Nat) (a0 : ByteArray) (r : Int) (w : World) (h : barscanref09_verhoeff.f k a0 = some r) :
    Calls Try.prog 54 #[.string a0] w fun e w' => e = .returned (.int .i64 r) ∧ Drawn0 w w' := by
  have H : (barscanref09_verhoeff.l0 k a0 0 0) = some r := h
  clear h
  have H' := Aside0.mk H
  clear H
  go_enter Try.func54, Try.ntmps54
  go_wp2
  go_loopg [3, 4] k (fun kq v3 v4 w' => ∃ (x3_1 : Int) (x4_1 : Int), v3 = .int .i64 x3_1 ∧ v4 = .int .i64 x4_1 ∧ Aside0 (barscanref09_verhoeff.l0 kq a0 x3_1 x4_1 = some r) ∧ Aside0 (kq ≤ k) ∧ Drawn0 w w')
  case atStart => exact ⟨(0), (0), (by first | rfl | (simp; done) | (simp [*]; done)), (by first | rfl | (simp; done) | (simp [*]; done)), H', ⟨Nat.le_refl _⟩, by repeat (first | exact Drawn0.refl _ | apply Drawn0.step)⟩
  case round =>
    clear H'
    obtain ⟨x3_1, x4_1, rfl, rfl, HA, HK1, ⟨m1, rfl⟩⟩ := hrel
    cases gk with
    | zero => exact absurd HA.out (by simp [barscanref09_verhoeff.l0])
    | succ k1 =>
      have H := HA.out
      clear HA
      simp only [barscanref09_verhoeff.l0] at H
      by_cases c2 : x4_1 < (a0.size : Int)
      · rw [if_pos c2] at H
        have c2b0 : decide (x4_1 < (a0.size : Int)) = true := decide_eq_true c2
        clear c2
        replace H := Option.bind_eq_some_iff.mp H
        obtain ⟨t112, A30, H⟩ := H
        replace H : (barscanref09_verhoeff.l1 k1 a0 x3_1 x4_1 t112 0) = some r := H
        have A3 := Aside0.mk A30
        clear A30
        have H' := Aside0.mk H
        clear H
        go_wp2_with (first | ((with_reducible refine gate_callee (f := 43) rfl ?_); refine goesL_ (some 16) rfl rfl Try.func43 (by kernel_rfl) rfl #[.string a0, .int .i64 x4_1] rfl (by (try simp only [List.map_toArray, List.map_cons, List.map_nil]); first | done | rfl | (simp only [List.length_drop, List.length_take]; rfl)) ?_; (with_reducible refine (barscanref09_value.calls a0 x4_1 t112 _ A3.out).mono ?_); rintro e w' ⟨rfl, ⟨nd, rfl⟩⟩; refine ⟨_, rfl, ?_⟩))
        go_loopg [5, 6] k1 (fun kq v5 v6 w' => ∃ (x5_2 : Int) (x6_2 : Int), v5 = .int .i64 x5_2 ∧ v6 = .int .i64 x6_2 ∧ Aside0 (barscanref09_verhoeff.l1 kq a0 x3_1 x4_1 x5_2 x6_2 = some r) ∧ Aside0 (kq ≤ k1) ∧ Drawn0 w w')
        case atStart => exact ⟨(t112), (0), (by first | rfl | (simp; done) | (simp [*]; done)), (by first | rfl | (simp; done) | (simp [*]; done)), H', ⟨Nat.le_refl _⟩, by repeat (first | exact Drawn0.refl _ | apply Drawn0.step)⟩
        case round =>
          clear H'
          try clear c2
          try clear c2b0
          try clear p2
          obtain ⟨x5_2, x6_2, rfl, rfl, HA, HK2, ⟨m2, rfl⟩⟩ := hrel
          cases gk with
          | zero => exact absurd HA.out (by simp [barscanref09_verhoeff.l1])
          | succ k2 =>
            have H := HA.out
            clear HA
            simp only [barscanref09_verhoeff.l1] at H
            by_cases c4 : x6_2 ≤ (Int.tmod x4_1 8)
            · rw [if_pos c4] at H
              have c4b0 : decide (x6_2 ≤ (Int.tmod x4_1 8)) = true := decide_eq_true c4
              clear c4
              by_cases c5 : 0 ≤ x5_2
              · rw [if_pos c5] at H
                have c5b0 : decide (0 ≤ x5_2) = true := decide_eq_true c5
                clear c5
                by_cases c6 : x5_2 < 10
                · rw [if_pos c6] at H
                  have c6b0 : decide (x5_2 < 10) = true := decide_eq_true c6
                  clear c6
                  have H' := Aside0.mk H
                  clear H
                  have p7 : 0 ≤ (x5_2 : Int) := of_decide_eq_true (by first | (with_reducible assumption) | assumption)
                  have q7 : x5_2 < (10 : Int) := of_decide_eq_true (by first | (with_reducible assumption) | assumption)
                  have hx7 := bt_at (⟨#[49, 53, 55, 54, 50, 56, 51, 48, 57, 52]⟩ : ByteArray) x5_2
                  replace p7 := eq_true p7
                  replace q7 := eq_true q7
                  go_wp2
                  go_roundg k2
                  case measure => have := HK1.out; have := HK2.out; omega
                  case rel => exact ⟨(((bt (⟨#[49, 53, 55, 54, 50, 56, 51, 48, 57, 52]⟩ : ByteArray) x5_2) - 48) % 256), (wrap64 (x6_2 + 1)), (by first | rfl | (simp; done) | (simp [*]; done)), (by first | rfl | (simp; done) | (simp [*]; done)), H', ⟨by have := HK1.out; have := HK2.out; omega⟩, by repeat (first | exact Drawn0.refl _ | apply Drawn0.step)⟩
                · rw [if_neg c6] at H
                  exact absurd H (by simp)
              · rw [if_neg c5] at H
                exact absurd H (by simp)
            · rw [if_neg c4] at H
              have c4b0 : decide (x6_2 ≤ (Int.tmod x4_1 8)) = false := decide_eq_false c4
              clear c4
              replace H := Option.bind_eq_some_iff.mp H
              obtain ⟨t113, A80, H⟩ := H
              replace H : (barscanref09_verhoeff.l0 k2 a0 t113 (wrap64 (x4_1 + 1))) = some r := H
              have A8 := Aside0.mk A80
              clear A80
              have H' := Aside0.mk H
              clear H
              go_wp2_with (first | ((with_reducible refine gate_callee (f := 62) rfl ?_); refine goesL_ (some 29) rfl rfl Try.func62 (by kernel_rfl) rfl #[.int .i64 x3_1, .int .i64 x5_2] rfl (by (try simp only [List.map_toArray, List.map_cons, List.map_nil]); first | done | rfl | (simp only [List.length_drop, List.length_take]; rfl)) ?_; (with_reducible refine (barscanref09_product.calls k2 x3_1 x5_2 t113 _ A8.out).mono ?_); rintro e w' ⟨rfl, ⟨nd, rfl⟩⟩; refine ⟨_, rfl, ?_⟩))
              go_roundg k2
              case measure => have := HK1.out; have := HK2.out; omega
              case rel => exact ⟨(t113), (wrap64 (x4_1 + 1)), (by first | rfl | (simp; done) | (simp [*]; done)), (by first | rfl | (simp; done) | (simp [*]; done)), H', ⟨by have := HK1.out; have := HK2.out; omega⟩, by repeat (first | exact Drawn0.refl _ | apply Drawn0.step)⟩
      · rw [if_neg c2] at H
        have c2b0 : decide (x4_1 < (a0.size : Int)) = false := decide_eq_false c2
        clear c2
        have H' := Aside0.mk H
        clear H
        go_wp2
        go_loopg [7] k1 (fun kq v7 w' => ∃ (x7_2 : Int), v7 = .int .i64 x7_2 ∧ Aside0 (barscanref09_verhoeff.l2 kq x3_1 x7_2 = some r) ∧ Aside0 (kq ≤ k1) ∧ Drawn0 w w')
        case atStart => exact ⟨(0), (by first | rfl | (simp; done) | (simp [*]; done)), H', ⟨Nat.le_refl _⟩, by repeat (first | exact Drawn0.refl _ | apply Drawn0.step)⟩
        case round =>
          clear H'
          try clear c2
          try clear c2b0
          try clear p2
          try clear c4
          try clear c4b0
          try clear c5
          try clear c5b0
          try clear c6
          try clear c6b0
          try clear p6
          try clear p7
          try clear q7
          try clear hx7
          try clear p2
          try clear p7
          try clear q7
          obtain ⟨x7_2, rfl, HA, HK2, ⟨m2, rfl⟩⟩ := hrel
          cases gk with
          | zero => exact absurd HA.out (by simp [barscanref09_verhoeff.l2])
          | succ k2 =>
            have H := HA.out
            clear HA
            simp only [barscanref09_verhoeff.l2] at H
            by_cases c9 : x7_2 < 10
            · rw [if_pos c9] at H
              have c9b0 : decide (x7_2 < 10) = true := decide_eq_true c9
              clear c9
              replace H := Option.bind_eq_some_iff.mp H
              obtain ⟨t114, A100, H⟩ := H
              replace H : (if t114 = 0 then (some x7_2) else (barscanref09_verhoeff.l2 k2 x3_1 (wrap64 (x7_2 + 1)))) = some r := H
              have A10 := Aside0.mk A100
              clear A100
              by_cases c11 : t114 = 0
              · rw [if_pos c11] at H
                have c11b0 : (t114 == 0) = true := beq_iff_eq.mpr c11
                have c11b1 : (t114 != 0) = false := bne_eq_false_iff_eq.mpr c11
                clear c11
                obtain rfl := Option.some.inj H
                go_wp2_with (first | ((with_reducible refine gate_callee (f := 62) rfl ?_); refine goesL_ (some 36) rfl rfl Try.func62 (by kernel_rfl) rfl #[.int .i64 x7_2, .int .i64 x3_1] rfl (by (try simp only [List.map_toArray, List.map_cons, List.map_nil]); first | done | rfl | (simp only [List.length_drop, List.length_take]; rfl)) ?_; (with_reducible refine (barscanref09_product.calls k2 x7_2 x3_1 t114 _ A10.out).mono ?_); rintro e w' ⟨rfl, ⟨nd, rfl⟩⟩; refine ⟨_, rfl, ?_⟩))
                go_ret
                exact ⟨by first | rfl | (simp; done) | (simp [*]; done), by repeat (first | exact Drawn0.refl _ | apply Drawn0.step)⟩
              · rw [if_neg c11] at H
                have c11b0 : (t114 == 0) = false := beq_eq_false_iff_ne.mpr c11
                have c11b1 : (t114 != 0) = true := bne_iff_ne.mpr c11
                have H' := Aside0.mk H
                clear H
                go_wp2_with (first | ((with_reducible refine gate_callee (f := 62) rfl ?_); refine goesL_ (some 36) rfl rfl Try.func62 (by kernel_rfl) rfl #[.int .i64 x7_2, .int .i64 x3_1] rfl (by (try simp only [List.map_toArray, List.map_cons, List.map_nil]); first | done | rfl | (simp only [List.length_drop, List.length_take]; rfl)) ?_; (with_reducible refine (barscanref09_product.calls k2 x7_2 x3_1 t114 _ A10.out).mono ?_); rintro e w' ⟨rfl, ⟨nd, rfl⟩⟩; refine ⟨_, rfl, ?_⟩))
                go_roundg k2
                case measure => have := HK1.out; have := HK2.out; omega
                case rel => exact ⟨(wrap64 (x7_2 + 1)), (by first | rfl | (simp; done) | (simp [*]; done)), H', ⟨by have := HK1.out; have := HK2.out; omega⟩, by repeat (first | exact Drawn0.refl _ | apply Drawn0.step)⟩
            · rw [if_neg c9] at H
              have c9b0 : decide (x7_2 < 10) = false := decide_eq_false c9
              clear c9
              obtain rfl := Option.some.inj H
              go_wp2
              go_ret
              exact ⟨by first | rfl | (simp; done) | (simp [*]; done), by repeat (first | exact Drawn0.refl _ | apply Drawn0.step)⟩

/-! ### barscanref09_quasi: function 55 -/
def barscanref09_quasi.l0 : Nat → ByteArray → Int → Int → Option (Int)
  | 0, _, _, _ => none
  | k + 1, x0, x3, x4 => if x4 ≥ 0 then ((barscanref09_value.f x0 x4).bind fun t115 => (if 0 ≤ (wrap64 ((wrap64 (10 * x3)) + t115)) then (if (wrap64 ((wrap64 (10 * x3)) + t115)) < 100 then (barscanref09_quasi.l0 k x0 (((bt (⟨#[48, 51, 49, 55, 53, 57, 56, 54, 52, 50, 55, 48, 57, 50, 49, 53, 52, 56, 54, 51, 52, 50, 48, 54, 56, 55, 49, 51, 53, 57, 49, 55, 53, 48, 57, 56, 51, 52, 50, 54, 54, 49, 50, 51, 48, 52, 53, 57, 55, 56, 51, 54, 55, 52, 50, 48, 57, 53, 56, 49, 53, 56, 54, 57, 55, 50, 48, 49, 51, 52, 56, 57, 52, 53, 51, 54, 50, 48, 49, 55, 57, 52, 51, 56, 54, 49, 55, 50, 48, 53, 50, 53, 56, 49, 52, 51, 54, 55, 57, 48]⟩ : ByteArray) (wrap64 ((wrap64 (10 * x3)) + t115))) - 48) % 256) (wrap64 (x4 - 1))) else (none)) else (none))) else (some x3)
def barscanref09_quasi.f (k : Nat) (a0 : ByteArray) : Option (Int) := barscanref09_quasi.l0 k a0 0 (wrap64 ((a0.size : Int) - 1))
theorem barscanref09_quasi.mono_l : ∀ k, (∀ y0 y1 y2, LeO (barscanref09_quasi.l0 k y0 y1 y2) (barscanref09_quasi.l0 (k + 1) y0 y1 y2))
  | 0 => fun _ _ _ r h => by simp [barscanref09_quasi.l0] at h
  | k + 1 => by
    have ih0 := barscanref09_quasi.mono_l k
    · intro y0 y1 y2
      unfold barscanref09_quasi.l0
      repeat' first
      | (with_reducible exact ih0 _ _ _)
      | (with_reducible exact LeO.refl _)
      | (with_reducible exact LeO.none _)
      | (with_reducible refine LeO.ite ?_ ?_)
      | (with_reducible refine LeO.bind ?_ (fun _ => ?_))
      | exact ih0 _ _ _
      | exact LeO.none _
      | refine LeO.ite ?_ ?_
      | refine LeO.bind ?_ (fun _ => ?_)
theorem barscanref09_quasi.mono : ∀ a0 k, LeO (barscanref09_quasi.f k a0) (barscanref09_quasi.f (k + 1) a0) := by
  intro a0 k
  have ih0 := barscanref09_quasi.mono_l k
  unfold barscanref09_quasi.f
  repeat' first
      | (with_reducible exact ih0 _ _ _)
      | (with_reducible exact LeO.refl _)
      | (with_reducible exact LeO.none _)
      | (with_reducible refine LeO.ite ?_ ?_)
      | (with_reducible refine LeO.bind ?_ (fun _ => ?_))
      | exact ih0 _ _ _
      | exact LeO.none _
      | refine LeO.ite ?_ ?_
      | refine LeO.bind ?_ (fun _ => ?_)
set_option maxHeartbeats 8000000 in
set_option maxRecDepth 100000 in
theorem barscanref09_quasi.calls (k : Nat) (a0 : ByteArray) (r : Int) (w : World) (h : barscanref09_quasi.f k a0 = some r) :
    Calls Try.prog 55 #[.string a0] w fun e w' => e = .returned (.int .i64 r) ∧ Drawn0 w w' := by
  have H : (barscanref09_quasi.l0 k a0 0 (wrap64 ((a0.size : Int) - 1))) = some r := h
  clear h
  have H' := Aside0.mk H
  clear H
  go_enter Try.func55, Try.ntmps55
  go_wp2
  go_loopg [3, 4] k (fun kq v3 v4 w' => ∃ (x3_1 : Int) (x4_1 : Int), v3 = .int .i64 x3_1 ∧ v4 = .int .i64 x4_1 ∧ Aside0 (barscanref09_quasi.l0 kq a0 x3_1 x4_1 = some r) ∧ Aside0 (kq ≤ k) ∧ Drawn0 w w')
  case atStart => exact ⟨(0), (wrap64 ((a0.size : Int) - 1)), (by first | rfl | (simp; done) | (simp [*]; done)), (by first | rfl | (simp; done) | (simp [*]; done)), H', ⟨Nat.le_refl _⟩, by repeat (first | exact Drawn0.refl _ | apply Drawn0.step)⟩
  case round =>
    clear H'
    obtain ⟨x3_1, x4_1, rfl, rfl, HA, HK1, ⟨m1, rfl⟩⟩ := hrel
    cases gk with
    | zero => exact absurd HA.out (by simp [barscanref09_quasi.l0])
    | succ k1 =>
      have H := HA.out
      clear HA
      simp only [barscanref09_quasi.l0] at H
      by_cases c2 : x4_1 ≥ 0
      · rw [if_pos c2] at H
        have c2b0 : decide (0 ≤ x4_1) = true := decide_eq_true c2
        clear c2
        replace H := Option.bind_eq_some_iff.mp H
        obtain ⟨t115, A30, H⟩ := H
        replace H : (if 0 ≤ (wrap64 ((wrap64 (10 * x3_1)) + t115)) then (if (wrap64 ((wrap64 (10 * x3_1)) + t115)) < 100 then (barscanref09_quasi.l0 k1 a0 (((bt (⟨#[48, 51, 49, 55, 53, 57, 56, 54, 52, 50, 55, 48, 57, 50, 49, 53, 52, 56, 54, 51, 52, 50, 48, 54, 56, 55, 49, 51, 53, 57, 49, 55, 53, 48, 57, 56, 51, 52, 50, 54, 54, 49, 50, 51, 48, 52, 53, 57, 55, 56, 51, 54, 55, 52, 50, 48, 57, 53, 56, 49, 53, 56, 54, 57, 55, 50, 48, 49, 51, 52, 56, 57, 52, 53, 51, 54, 50, 48, 49, 55, 57, 52, 51, 56, 54, 49, 55, 50, 48, 53, 50, 53, 56, 49, 52, 51, 54, 55, 57, 48]⟩ : ByteArray) (wrap64 ((wrap64 (10 * x3_1)) + t115))) - 48) % 256) (wrap64 (x4_1 - 1))) else (none)) else (none)) = some r := H
        have A3 := Aside0.mk A30
        clear A30
        obtain ⟨ji4, hji4⟩ : ∃ j_ : Int, (wrap64 ((wrap64 (10 * x3_1)) + t115)) = j_ := ⟨_, rfl⟩
        replace H : (if 0 ≤ (ji4) then (if (ji4) < 100 then (barscanref09_quasi.l0 k1 a0 (((bt (⟨#[48, 51, 49, 55, 53, 57, 56, 54, 52, 50, 55, 48, 57, 50, 49, 53, 52, 56, 54, 51, 52, 50, 48, 54, 56, 55, 49, 51, 53, 57, 49, 55, 53, 48, 57, 56, 51, 52, 50, 54, 54, 49, 50, 51, 48, 52, 53, 57, 55, 56, 51, 54, 55, 52, 50, 48, 57, 53, 56, 49, 53, 56, 54, 57, 55, 50, 48, 49, 51, 52, 56, 57, 52, 53, 51, 54, 50, 48, 49, 55, 57, 52, 51, 56, 54, 49, 55, 50, 48, 53, 50, 53, 56, 49, 52, 51, 54, 55, 57, 48]⟩ : ByteArray) (ji4)) - 48) % 256) (wrap64 (x4_1 - 1))) else (none)) else (none)) = some r := by first | (rw [hji4] at H; exact H) | (simp only [hji4] at H ⊢; exact H)
        (try rw [hji4] at A3)
        have hji4w : (IntKind.i64.wrap ((wrap64 (10 * x3_1)) + t115)) = ji4 := (i64_w _).trans hji4
        by_cases c5 : 0 ≤ (ji4)
        · rw [if_pos c5] at H
          have c5b0 : decide (0 ≤ (ji4)) = true := decide_eq_true c5
          clear c5
          by_cases c6 : (ji4) < 100
          · rw [if_pos c6] at H
            have c6b0 : decide ((ji4) < 100) = true := decide_eq_true c6
            clear c6
            have H' := Aside0.mk H
            clear H
            go_wp2_with (first | ((with_reducible refine gate_callee (f := 43) rfl ?_); refine goesL_ (some 16) rfl rfl Try.func43 (by kernel_rfl) rfl #[.string a0, .int .i64 x4_1] rfl (by (try simp only [List.map_toArray, List.map_cons, List.map_nil]); first | done | rfl | (simp only [List.length_drop, List.length_take]; rfl)) ?_; (with_reducible refine (barscanref09_value.calls a0 x4_1 t115 _ A3.out).mono ?_); rintro e w' ⟨rfl, ⟨nd, rfl⟩⟩; refine ⟨_, rfl, ?_⟩; have p7 : 0 ≤ ((ji4) : Int) := of_decide_eq_true (by first | (with_reducible assumption) | assumption); have q7 : (ji4) < (100 : Int) := of_decide_eq_true (by first | (with_reducible assumption) | assumption); have hx7 := bt_at (⟨#[48, 51, 49, 55, 53, 57, 56, 54, 52, 50, 55, 48, 57, 50, 49, 53, 52, 56, 54, 51, 52, 50, 48, 54, 56, 55, 49, 51, 53, 57, 49, 55, 53, 48, 57, 56, 51, 52, 50, 54, 54, 49, 50, 51, 48, 52, 53, 57, 55, 56, 51, 54, 55, 52, 50, 48, 57, 53, 56, 49, 53, 56, 54, 57, 55, 50, 48, 49, 51, 52, 56, 57, 52, 53, 51, 54, 50, 48, 49, 55, 57, 52, 51, 56, 54, 49, 55, 50, 48, 53, 50, 53, 56, 49, 52, 51, 54, 55, 57, 48]⟩ : ByteArray) (ji4); replace p7 := eq_true p7; replace q7 := eq_true q7))
            go_roundg k1
            case measure => have := HK1.out; omega
            case rel => exact ⟨(((bt (⟨#[48, 51, 49, 55, 53, 57, 56, 54, 52, 50, 55, 48, 57, 50, 49, 53, 52, 56, 54, 51, 52, 50, 48, 54, 56, 55, 49, 51, 53, 57, 49, 55, 53, 48, 57, 56, 51, 52, 50, 54, 54, 49, 50, 51, 48, 52, 53, 57, 55, 56, 51, 54, 55, 52, 50, 48, 57, 53, 56, 49, 53, 56, 54, 57, 55, 50, 48, 49, 51, 52, 56, 57, 52, 53, 51, 54, 50, 48, 49, 55, 57, 52, 51, 56, 54, 49, 55, 50, 48, 53, 50, 53, 56, 49, 52, 51, 54, 55, 57, 48]⟩ : ByteArray) (ji4)) - 48) % 256), (wrap64 (x4_1 - 1)), (by first | rfl | (simp; done) | (simp only [← hji4] <;> (first | rfl | simp)) | (simp [*]; done)), (by first | rfl | (simp; done) | (simp [*]; done)), H', ⟨by have := HK1.out; omega⟩, by repeat (first | exact Drawn0.refl _ | apply Drawn0.step)⟩
          · rw [if_neg c6] at H
            exact absurd H (by simp)
        · rw [if_neg c5] at H
          exact absurd H (by simp)
      · rw [if_neg c2] at H
        have c2b0 : decide (0 ≤ x4_1) = false := decide_eq_false c2
        clear c2
        obtain rfl := Option.some.inj H
        go_wp2
        go_ret
        exact ⟨by first | rfl | (simp; done) | (simp [*]; done), by repeat (first | exact Drawn0.refl _ | apply Drawn0.step)⟩

/-! ### barscanref09_iso97: function 56 -/
def barscanref09_iso97.l0 : Nat → ByteArray → Int → Int → Option (Int)
  | 0, _, _, _ => none
  | k + 1, x0, x3, x4 => if x4 ≥ 0 then ((barscanref09_value.f x0 x4).bind fun t116 => (barscanref09_iso97.l0 k x0 (Int.tmod (wrap64 ((wrap64 (10 * x3)) + t116)) 97) (wrap64 (x4 - 1)))) else (some (wrap64 (98 - (Int.tmod (wrap64 (100 * x3)) 97))))
def barscanref09_iso97.f (k : Nat) (a0 : ByteArray) : Option (Int) := barscanref09_iso97.l0 k a0 0 (wrap64 ((a0.size : Int) - 1))
theorem barscanref09_iso97.mono_l : ∀ k, (∀ y0 y1 y2, LeO (barscanref09_iso97.l0 k y0 y1 y2) (barscanref09_iso97.l0 (k + 1) y0 y1 y2))
  | 0 => fun _ _ _ r h => by simp [barscanref09_iso97.l0] at h
  | k + 1 => by
    have ih0 := barscanref09_iso97.mono_l k
    · intro y0 y1 y2
      unfold barscanref09_iso97.l0
      repeat' first
      | (with_reducible exact ih0 _ _ _)
      | (with_reducible exact LeO.refl _)
      | (with_reducible exact LeO.none _)
      | (with_reducible refine LeO.ite ?_ ?_)
      | (with_reducible refine LeO.bind ?_ (fun _ => ?_))
      | exact ih0 _ _ _
      | exact LeO.none _
      | refine LeO.ite ?_ ?_
      | refine LeO.bind ?_ (fun _ => ?_)
theorem barscanref09_iso97.mono : ∀ a0 k, LeO (barscanref09_iso97.f k a0) (barscanref09_iso97.f (k + 1) a0) := by
  intro a0 k
  have ih0 := barscanref09_iso97.mono_l k
  unfold barscanref09_iso97.f
  repeat' first
      | (with_reducible exact ih0 _ _ _)
      | (with_reducible exact LeO.refl _)
      | (with_reducible exact LeO.none _)
      | (with_reducible refine LeO.ite ?_ ?_)
      | (with_reducible refine LeO.bind ?_ (fun _ => ?_))
      | exact ih0 _ _ _
      | exact LeO.none _
      | refine LeO.ite ?_ ?_
      | refine LeO.bind ?_ (fun _ => ?_)
set_option maxHeartbeats 8000000 in
set_option maxRecDepth 100000 in
theorem barscanref09_iso97.calls (k : Nat) (a0 : ByteArray) (r : Int) (w : World) (h : barscanref09_iso97.f k a0 = some r) :
    Calls Try.prog 56 #[.string a0] w fun e w' => e = .returned (.int .i64 r) ∧ Drawn0 w w' := by
  have H : (barscanref09_iso97.l0 k a0 0 (wrap64 ((a0.size : Int) - 1))) = some r := h
  clear h
  have H' := Aside0.mk H
  clear H
  go_enter Try.func56, Try.ntmps56
  go_wp2
  go_loopg [3, 4] k (fun kq v3 v4 w' => ∃ (x3_1 : Int) (x4_1 : Int), v3 = .int .i64 x3_1 ∧ v4 = .int .i64 x4_1 ∧ Aside0 (barscanref09_iso97.l0 kq a0 x3_1 x4_1 = some r) ∧ Aside0 (kq ≤ k) ∧ Drawn0 w w')
  case atStart => exact ⟨(0), (wrap64 ((a0.size : Int) - 1)), (by first | rfl | (simp; done) | (simp [*]; done)), (by first | rfl | (simp; done) | (simp [*]; done)), H', ⟨Nat.le_refl _⟩, by repeat (first | exact Drawn0.refl _ | apply Drawn0.step)⟩
  case round =>
    clear H'
    obtain ⟨x3_1, x4_1, rfl, rfl, HA, HK1, ⟨m1, rfl⟩⟩ := hrel
    cases gk with
    | zero => exact absurd HA.out (by simp [barscanref09_iso97.l0])
    | succ k1 =>
      have H := HA.out
      clear HA
      simp only [barscanref09_iso97.l0] at H
      by_cases c2 : x4_1 ≥ 0
      · rw [if_pos c2] at H
        have c2b0 : decide (0 ≤ x4_1) = true := decide_eq_true c2
        clear c2
        replace H := Option.bind_eq_some_iff.mp H
        obtain ⟨t116, A30, H⟩ := H
        replace H : (barscanref09_iso97.l0 k1 a0 (Int.tmod (wrap64 ((wrap64 (10 * x3_1)) + t116)) 97) (wrap64 (x4_1 - 1))) = some r := H
        have A3 := Aside0.mk A30
        clear A30
        have H' := Aside0.mk H
        clear H
        go_wp2_with (first | ((with_reducible refine gate_callee (f := 43) rfl ?_); refine goesL_ (some 16) rfl rfl Try.func43 (by kernel_rfl) rfl #[.string a0, .int .i64 x4_1] rfl (by (try simp only [List.map_toArray, List.map_cons, List.map_nil]); first | done | rfl | (simp only [List.length_drop, List.length_take]; rfl)) ?_; (with_reducible refine (barscanref09_value.calls a0 x4_1 t116 _ A3.out).mono ?_); rintro e w' ⟨rfl, ⟨nd, rfl⟩⟩; refine ⟨_, rfl, ?_⟩))
        go_roundg k1
        case measure => have := HK1.out; omega
        case rel => exact ⟨(Int.tmod (wrap64 ((wrap64 (10 * x3_1)) + t116)) 97), (wrap64 (x4_1 - 1)), (by first | rfl | (simp; done) | (simp [*]; done)), (by first | rfl | (simp; done) | (simp [*]; done)), H', ⟨by have := HK1.out; omega⟩, by repeat (first | exact Drawn0.refl _ | apply Drawn0.step)⟩
      · rw [if_neg c2] at H
        have c2b0 : decide (0 ≤ x4_1) = false := decide_eq_false c2
        clear c2
        obtain rfl := Option.some.inj H
        go_wp2
        go_ret
        exact ⟨by first | rfl | (simp; done) | (simp [*]; done), by repeat (first | exact Drawn0.refl _ | apply Drawn0.step)⟩

/-! ### barscanref09_iso11: function 57 -/
def barscanref09_iso11.l0 : Nat → ByteArray → Int → Int → Option (Int)
  | 0, _, _, _ => none
  | k + 1, x0, x3, x4 => if x4 ≥ 0 then ((barscanref09_value.f x0 x4).bind fun t117 => (barscanref09_iso11.l0 k x0 (Int.tmod (wrap64 (2 * (wrap64 (x3 + t117)))) 11) (wrap64 (x4 - 1)))) else (some (Int.tmod (wrap64 (12 - x3)) 11))
def barscanref09_iso11.f (k : Nat) (a0 : ByteArray) : Option (Int) := barscanref09_iso11.l0 k a0 0 (wrap64 ((a0.size : Int) - 1))
theorem barscanref09_iso11.mono_l : ∀ k, (∀ y0 y1 y2, LeO (barscanref09_iso11.l0 k y0 y1 y2) (barscanref09_iso11.l0 (k + 1) y0 y1 y2))
  | 0 => fun _ _ _ r h => by simp [barscanref09_iso11.l0] at h
  | k + 1 => by
    have ih0 := barscanref09_iso11.mono_l k
    · intro y0 y1 y2
      unfold barscanref09_iso11.l0
      repeat' first
      | (with_reducible exact ih0 _ _ _)
      | (with_reducible exact LeO.refl _)
      | (with_reducible exact LeO.none _)
      | (with_reducible refine LeO.ite ?_ ?_)
      | (with_reducible refine LeO.bind ?_ (fun _ => ?_))
      | exact ih0 _ _ _
      | exact LeO.none _
      | refine LeO.ite ?_ ?_
      | refine LeO.bind ?_ (fun _ => ?_)
theorem barscanref09_iso11.mono : ∀ a0 k, LeO (barscanref09_iso11.f k a0) (barscanref09_iso11.f (k + 1) a0) := by
  intro a0 k
  have ih0 := barscanref09_iso11.mono_l k
  unfold barscanref09_iso11.f
  repeat' first
      | (with_reducible exact ih0 _ _ _)
      | (with_reducible exact LeO.refl _)
      | (with_reducible exact LeO.none _)
      | (with_reducible refine LeO.ite ?_ ?_)
      | (with_reducible refine LeO.bind ?_ (fun _ => ?_))
      | exact ih0 _ _ _
      | exact LeO.none _
      | refine LeO.ite ?_ ?_
      | refine LeO.bind ?_ (fun _ => ?_)
set_option maxHeartbeats 8000000 in
set_option maxRecDepth 100000 in
theorem barscanref09_iso11.calls (k : Nat) (a0 : ByteArray) (r : Int) (w : World) (h : barscanref09_iso11.f k a0 = some r) :
    Calls Try.prog 57 #[.string a0] w fun e w' => e = .returned (.int .i64 r) ∧ Drawn0 w w' := by
  have H : (barscanref09_iso11.l0 k a0 0 (wrap64 ((a0.size : Int) - 1))) = some r := h
  clear h
  have H' := Aside0.mk H
  clear H
  go_enter Try.func57, Try.ntmps57
  go_wp2
  go_loopg [3, 4] k (fun kq v3 v4 w' => ∃ (x3_1 : Int) (x4_1 : Int), v3 = .int .i64 x3_1 ∧ v4 = .int .i64 x4_1 ∧ Aside0 (barscanref09_iso11.l0 kq a0 x3_1 x4_1 = some r) ∧ Aside0 (kq ≤ k) ∧ Drawn0 w w')
  case atStart => exact ⟨(0), (wrap64 ((a0.size : Int) - 1)), (by first | rfl | (simp; done) | (simp [*]; done)), (by first | rfl | (simp; done) | (simp [*]; done)), H', ⟨Nat.le_refl _⟩, by repeat (first | exact Drawn0.refl _ | apply Drawn0.step)⟩
  case round =>
    clear H'
    obtain ⟨x3_1, x4_1, rfl, rfl, HA, HK1, ⟨m1, rfl⟩⟩ := hrel
    cases gk with
    | zero => exact absurd HA.out (by simp [barscanref09_iso11.l0])
    | succ k1 =>
      have H := HA.out
      clear HA
      simp only [barscanref09_iso11.l0] at H
      by_cases c2 : x4_1 ≥ 0
      · rw [if_pos c2] at H
        have c2b0 : decide (0 ≤ x4_1) = true := decide_eq_true c2
        clear c2
        replace H := Option.bind_eq_some_iff.mp H
        obtain ⟨t117, A30, H⟩ := H
        replace H : (barscanref09_iso11.l0 k1 a0 (Int.tmod (wrap64 (2 * (wrap64 (x3_1 + t117)))) 11) (wrap64 (x4_1 - 1))) = some r := H
        have A3 := Aside0.mk A30
        clear A30
        have H' := Aside0.mk H
        clear H
        go_wp2_with (first | ((with_reducible refine gate_callee (f := 43) rfl ?_); refine goesL_ (some 15) rfl rfl Try.func43 (by kernel_rfl) rfl #[.string a0, .int .i64 x4_1] rfl (by (try simp only [List.map_toArray, List.map_cons, List.map_nil]); first | done | rfl | (simp only [List.length_drop, List.length_take]; rfl)) ?_; (with_reducible refine (barscanref09_value.calls a0 x4_1 t117 _ A3.out).mono ?_); rintro e w' ⟨rfl, ⟨nd, rfl⟩⟩; refine ⟨_, rfl, ?_⟩))
        go_roundg k1
        case measure => have := HK1.out; omega
        case rel => exact ⟨(Int.tmod (wrap64 (2 * (wrap64 (x3_1 + t117)))) 11), (wrap64 (x4_1 - 1)), (by first | rfl | (simp; done) | (simp [*]; done)), (by first | rfl | (simp; done) | (simp [*]; done)), H', ⟨by have := HK1.out; omega⟩, by repeat (first | exact Drawn0.refl _ | apply Drawn0.step)⟩
      · rw [if_neg c2] at H
        have c2b0 : decide (0 ≤ x4_1) = false := decide_eq_false c2
        clear c2
        obtain rfl := Option.some.inj H
        go_wp2
        go_ret
        exact ⟨by first | rfl | (simp; done) | (simp [*]; done), by repeat (first | exact Drawn0.refl _ | apply Drawn0.step)⟩

/-! ### barscanref09_mod43: function 58 -/
def barscanref09_mod43.l0 : Nat → ByteArray → Int → Int → Option (Int)
  | 0, _, _, _ => none
  | k + 1, x0, x3, x4 => if x4 < (x0.size : Int) then (if 0 ≤ x4 then ((barscanref09_Place.f k (⟨#[48, 49, 50, 51, 52, 53, 54, 55, 56, 57, 65, 66, 67, 68, 69, 70, 71, 72, 73, 74, 75, 76, 77, 78, 79, 80, 81, 82, 83, 84, 85, 86, 87, 88, 89, 90, 45, 46, 32, 36, 47, 43, 37]⟩ : ByteArray) (bt x0 x4)).bind fun t118 => (barscanref09_mod43.l0 k x0 (wrap64 (x3 + t118)) (wrap64 (x4 + 1)))) else (none)) else (some (Int.tmod x3 43))
def barscanref09_mod43.f (k : Nat) (a0 : ByteArray) : Option (Int) := barscanref09_mod43.l0 k a0 0 0
theorem barscanref09_mod43.mono_l : ∀ k, (∀ y0 y1 y2, LeO (barscanref09_mod43.l0 k y0 y1 y2) (barscanref09_mod43.l0 (k + 1) y0 y1 y2))
  | 0 => fun _ _ _ r h => by simp [barscanref09_mod43.l0] at h
  | k + 1 => by
    have ih0 := barscanref09_mod43.mono_l k
    · intro y0 y1 y2
      unfold barscanref09_mod43.l0
      repeat' first
      | (with_reducible exact ih0 _ _ _)
      | (with_reducible exact barscanref09_Place.mono _ _ _)
      | (with_reducible exact LeO.refl _)
      | (with_reducible exact LeO.none _)
      | (with_reducible refine LeO.ite ?_ ?_)
      | (with_reducible refine LeO.bind ?_ (fun _ => ?_))
      | exact ih0 _ _ _
      | exact barscanref09_Place.mono _ _ _
      | exact LeO.none _
      | refine LeO.ite ?_ ?_
      | refine LeO.bind ?_ (fun _ => ?_)
theorem barscanref09_mod43.mono : ∀ a0 k, LeO (barscanref09_mod43.f k a0) (barscanref09_mod43.f (k + 1) a0) := by
  intro a0 k
  have ih0 := barscanref09_mod43.mono_l k
  unfold barscanref09_mod43.f
  repeat' first
      | (with_reducible exact ih0 _ _ _)
      | (with_reducible exact barscanref09_Place.mono _ _ _)
      | (with_reducible exact LeO.refl _)
      | (with_reducible exact LeO.none _)
      | (with_reducible refine LeO.ite ?_ ?_)
      | (with_reducible refine LeO.bind ?_ (fun _ => ?_))
      | exact ih0 _ _ _
      | exact barscanref09_Place.mono _ _ _
      | exact LeO.none _
      | refine LeO.ite ?_ ?_
      | refine LeO.bind ?_ (fun _ => ?_)
set_option maxHeartbeats 8000000 in
set_option maxRecDepth 100000 in
theorem barscanref09_mod43.calls (k : Nat) (a0 : ByteArray) (r : Int) (w : World) (h : barscanref09_mod43.f k a0 = some r) :
    Calls Try.prog 58 #[.string a0] w fun e w' => e = .returned (.int .i64 r) ∧ Drawn0 w w' := by
  have H : (barscanref09_mod43.l0 k a0 0 0) = some r := h
  clear h
  have H' := Aside0.mk H
  clear H
  go_enter Try.func58, Try.ntmps58
  go_wp2
  go_loopg [3, 4] k (fun kq v3 v4 w' => ∃ (x3_1 : Int) (x4_1 : Int), v3 = .int .i64 x3_1 ∧ v4 = .int .i64 x4_1 ∧ Aside0 (barscanref09_mod43.l0 kq a0 x3_1 x4_1 = some r) ∧ Aside0 (kq ≤ k) ∧ Drawn0 w w')
  case atStart => exact ⟨(0), (0), (by first | rfl | (simp; done) | (simp [*]; done)), (by first | rfl | (simp; done) | (simp [*]; done)), H', ⟨Nat.le_refl _⟩, by repeat (first | exact Drawn0.refl _ | apply Drawn0.step)⟩
  case round =>
    clear H'
    obtain ⟨x3_1, x4_1, rfl, rfl, HA, HK1, ⟨m1, rfl⟩⟩ := hrel
    cases gk with
    | zero => exact absurd HA.out (by simp [barscanref09_mod43.l0])
    | succ k1 =>
      have H := HA.out
      clear HA
      simp only [barscanref09_mod43.l0] at H
      by_cases c2 : x4_1 < (a0.size : Int)
      · rw [if_pos c2] at H
        have c2b0 : decide (x4_1 < (a0.size : Int)) = true := decide_eq_true c2
        clear c2
        by_cases c3 : 0 ≤ x4_1
        · rw [if_pos c3] at H
          have c3b0 : decide (0 ≤ x4_1) = true := decide_eq_true c3
          clear c3
          replace H := Option.bind_eq_some_iff.mp H
          obtain ⟨t118, A50, H⟩ := H
          replace H : (barscanref09_mod43.l0 k1 a0 (wrap64 (x3_1 + t118)) (wrap64 (x4_1 + 1))) = some r := H
          have A5 := Aside0.mk A50
          clear A50
          have H' := Aside0.mk H
          clear H
          have p4 : 0 ≤ (x4_1 : Int) := of_decide_eq_true (by first | (with_reducible assumption) | assumption)
          have q4 : x4_1 < (a0.size : Int) := of_decide_eq_true (by first | (with_reducible assumption) | assumption)
          have hx4 := bt_at a0 x4_1
          replace p4 := eq_true p4
          replace q4 := eq_true q4
          go_wp2_with (first | ((with_reducible refine gate_callee (f := 49) rfl ?_); refine goesL_ (some 15) rfl rfl Try.func49 (by kernel_rfl) rfl #[.string (⟨#[48, 49, 50, 51, 52, 53, 54, 55, 56, 57, 65, 66, 67, 68, 69, 70, 71, 72, 73, 74, 75, 76, 77, 78, 79, 80, 81, 82, 83, 84, 85, 86, 87, 88, 89, 90, 45, 46, 32, 36, 47, 43, 37]⟩ : ByteArray), .int .u8 (bt a0 x4_1)] rfl (by (try simp only [List.map_toArray, List.map_cons, List.map_nil]); first | done | rfl | (simp only [List.length_drop, List.length_take]; rfl)) ?_; (with_reducible refine (barscanref09_Place.calls k1 (⟨#[48, 49, 50, 51, 52, 53, 54, 55, 56, 57, 65, 66, 67, 68, 69, 70, 71, 72, 73, 74, 75, 76, 77, 78, 79, 80, 81, 82, 83, 84, 85, 86, 87, 88, 89, 90, 45, 46, 32, 36, 47, 43, 37]⟩ : ByteArray) (bt a0 x4_1) t118 _ A5.out).mono ?_); rintro e w' ⟨rfl, ⟨nd, rfl⟩⟩; refine ⟨_, rfl, ?_⟩))
          go_roundg k1
          case measure => have := HK1.out; omega
          case rel => exact ⟨(wrap64 (x3_1 + t118)), (wrap64 (x4_1 + 1)), (by first | rfl | (simp; done) | (simp [*]; done)), (by first | rfl | (simp; done) | (simp [*]; done)), H', ⟨by have := HK1.out; omega⟩, by repeat (first | exact Drawn0.refl _ | apply Drawn0.step)⟩
        · rw [if_neg c3] at H
          exact absurd H (by simp)
      · rw [if_neg c2] at H
        have c2b0 : decide (x4_1 < (a0.size : Int)) = false := decide_eq_false c2
        clear c2
        obtain rfl := Option.some.inj H
        go_wp2
        go_ret
        exact ⟨by first | rfl | (simp; done) | (simp [*]; done), by repeat (first | exact Drawn0.refl _ | apply Drawn0.step)⟩

end Go.Proofs.Ytcfgfeamcckmjaa.PB
