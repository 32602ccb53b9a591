-- Written by a program of ours around the kit's print, functions of ours put in.
import Derived.Test.YtcfgfeamcckmjaaPB0
import Derived.Test.YtcfgfeamcckmjaaPB1
import Derived.Test.YtcfgfeamcckmjaaPB3
import Derived.Test.YtcfgfeamcckmjaaPB4
namespace Go.Proofs.Ytcfgfeamcckmjaa.PB
open Go.RowKit Go.Proofs.YtcfgfeamcckmjaaW.PrintWords Go.Proofs.YtcfgfeamcckmjaaW.PrintLast Go.Proofs.YtcfgfeamcckmjaaW.PrintMore
attribute [local go_sem] max2_int min2_int max_two min_two max_three min_three max_four min_four   -- for this text's walks alone
set_option linter.unusedVariables false
set_option linter.unusedSimpArgs false

/-! ### barscanref09_Corrections: function 18 -/
mutual
def barscanref09_Corrections.j0 : Nat → Int → ByteArray → Bool → Option (List ByteArray × Int)
  | 0, _, _, _ => none
  | k + 1, x0, x1, x16 => if x16 = true then (some (([] : List ByteArray), 1)) else (if (x1.size : Int) > 64 then (some (([] : List ByteArray), 4)) else ((barscanref09_lengthFits.f k x0 (x1.size : Int)).bind fun t166 => (if t166 = true then (barscanref09_Corrections.l0 k x0 x1 ([] : List ByteArray) 0) else (some (([] : List ByteArray), 7)))))
def barscanref09_Corrections.l0 : Nat → Int → ByteArray → List ByteArray → Int → Option (List ByteArray × Int)
  | 0, _, _, _, _ => none
  | k + 1, x0, x1, x6, x7 => if x7 < (x1.size : Int) then (barscanref09_Corrections.l1 k x0 x1 x6 x7 0) else (some (x6, 0))
def barscanref09_Corrections.l1 : Nat → Int → ByteArray → List ByteArray → Int → Int → Option (List ByteArray × Int)
  | 0, _, _, _, _, _ => none
  | k + 1, x0, x1, x6, x7, x8 => if x8 < 43 then (if 0 ≤ x7 then (if x7 ≤ (x1.size : Int) then (if 0 ≤ x8 then (if x8 ≤ (wrap64 (x8 + 1)) then (if (wrap64 (x8 + 1)) ≤ 43 then (if (x1.extract 0 (x7 : Int).toNat).size + ((⟨#[48, 49, 50, 51, 52, 53, 54, 55, 56, 57, 65, 66, 67, 68, 69, 70, 71, 72, 73, 74, 75, 76, 77, 78, 79, 80, 81, 82, 83, 84, 85, 86, 87, 88, 89, 90, 45, 46, 32, 36, 47, 43, 37]⟩ : ByteArray).extract (x8 : Int).toNat ((wrap64 (x8 + 1)) : Int).toNat).size ≤ 9223372036854775807 then (if 0 ≤ (wrap64 (x7 + 1)) then (if (wrap64 (x7 + 1)) ≤ (x1.size : Int) then (if ((x1.extract 0 (x7 : Int).toNat) ++ ((⟨#[48, 49, 50, 51, 52, 53, 54, 55, 56, 57, 65, 66, 67, 68, 69, 70, 71, 72, 73, 74, 75, 76, 77, 78, 79, 80, 81, 82, 83, 84, 85, 86, 87, 88, 89, 90, 45, 46, 32, 36, 47, 43, 37]⟩ : ByteArray).extract (x8 : Int).toNat ((wrap64 (x8 + 1)) : Int).toNat)).size + (x1.extract ((wrap64 (x7 + 1)) : Int).toNat x1.size).size ≤ 9223372036854775807 then (if (((x1.extract 0 (x7 : Int).toNat) ++ ((⟨#[48, 49, 50, 51, 52, 53, 54, 55, 56, 57, 65, 66, 67, 68, 69, 70, 71, 72, 73, 74, 75, 76, 77, 78, 79, 80, 81, 82, 83, 84, 85, 86, 87, 88, 89, 90, 45, 46, 32, 36, 47, 43, 37]⟩ : ByteArray).extract (x8 : Int).toNat ((wrap64 (x8 + 1)) : Int).toNat)) ++ (x1.extract ((wrap64 (x7 + 1)) : Int).toNat x1.size)).toList = x1.toList then (barscanref09_Corrections.l1 k x0 x1 x6 x7 (wrap64 (x8 + 1))) else ((barscanref09_Verify.f k x0 (((x1.extract 0 (x7 : Int).toNat) ++ ((⟨#[48, 49, 50, 51, 52, 53, 54, 55, 56, 57, 65, 66, 67, 68, 69, 70, 71, 72, 73, 74, 75, 76, 77, 78, 79, 80, 81, 82, 83, 84, 85, 86, 87, 88, 89, 90, 45, 46, 32, 36, 47, 43, 37]⟩ : ByteArray).extract (x8 : Int).toNat ((wrap64 (x8 + 1)) : Int).toNat)) ++ (x1.extract ((wrap64 (x7 + 1)) : Int).toNat x1.size))).bind fun t167 => (if t167 = 0 then ((barscanref09_insert.f k x6 (((x1.extract 0 (x7 : Int).toNat) ++ ((⟨#[48, 49, 50, 51, 52, 53, 54, 55, 56, 57, 65, 66, 67, 68, 69, 70, 71, 72, 73, 74, 75, 76, 77, 78, 79, 80, 81, 82, 83, 84, 85, 86, 87, 88, 89, 90, 45, 46, 32, 36, 47, 43, 37]⟩ : ByteArray).extract (x8 : Int).toNat ((wrap64 (x8 + 1)) : Int).toNat)) ++ (x1.extract ((wrap64 (x7 + 1)) : Int).toNat x1.size))).bind fun t168 => (barscanref09_Corrections.l1 k x0 x1 t168 x7 (wrap64 (x8 + 1)))) else (barscanref09_Corrections.l1 k x0 x1 x6 x7 (wrap64 (x8 + 1)))))) else (none)) else (none)) else (none)) else (none)) else (none)) else (none)) else (none)) else (none)) else (none)) else (if (wrap64 (x7 + 1)) < (x1.size : Int) then (if 0 ≤ x7 then (if x7 < (x1.size : Int) then (if 0 ≤ (wrap64 (x7 + 1)) then (barscanref09_Corrections.j3 k x0 x1 x6 x7 ((bt x1 x7) != (bt x1 (wrap64 (x7 + 1))))) else (none)) else (none)) else (none)) else (barscanref09_Corrections.j3 k x0 x1 x6 x7 false))
def barscanref09_Corrections.j3 : Nat → Int → ByteArray → List ByteArray → Int → Bool → Option (List ByteArray × Int)
  | 0, _, _, _, _, _ => none
  | k + 1, x0, x1, x6, x7, x74 => if x74 = true then (if 0 ≤ x7 then (if x7 ≤ (x1.size : Int) then (if 0 ≤ (wrap64 (x7 + 1)) then (if (wrap64 (x7 + 1)) ≤ (wrap64 (x7 + 2)) then (if (wrap64 (x7 + 2)) ≤ (x1.size : Int) then (if (x1.extract 0 (x7 : Int).toNat).size + (x1.extract ((wrap64 (x7 + 1)) : Int).toNat ((wrap64 (x7 + 2)) : Int).toNat).size ≤ 9223372036854775807 then (if x7 ≤ (wrap64 (x7 + 1)) then (if (wrap64 (x7 + 1)) ≤ (x1.size : Int) then (if ((x1.extract 0 (x7 : Int).toNat) ++ (x1.extract ((wrap64 (x7 + 1)) : Int).toNat ((wrap64 (x7 + 2)) : Int).toNat)).size + (x1.extract (x7 : Int).toNat ((wrap64 (x7 + 1)) : Int).toNat).size ≤ 9223372036854775807 then (if 0 ≤ (wrap64 (x7 + 2)) then (if (((x1.extract 0 (x7 : Int).toNat) ++ (x1.extract ((wrap64 (x7 + 1)) : Int).toNat ((wrap64 (x7 + 2)) : Int).toNat)) ++ (x1.extract (x7 : Int).toNat ((wrap64 (x7 + 1)) : Int).toNat)).size + (x1.extract ((wrap64 (x7 + 2)) : Int).toNat x1.size).size ≤ 9223372036854775807 then ((barscanref09_Verify.f k x0 ((((x1.extract 0 (x7 : Int).toNat) ++ (x1.extract ((wrap64 (x7 + 1)) : Int).toNat ((wrap64 (x7 + 2)) : Int).toNat)) ++ (x1.extract (x7 : Int).toNat ((wrap64 (x7 + 1)) : Int).toNat)) ++ (x1.extract ((wrap64 (x7 + 2)) : Int).toNat x1.size))).bind fun t171 => (if t171 = 0 then ((barscanref09_insert.f k x6 ((((x1.extract 0 (x7 : Int).toNat) ++ (x1.extract ((wrap64 (x7 + 1)) : Int).toNat ((wrap64 (x7 + 2)) : Int).toNat)) ++ (x1.extract (x7 : Int).toNat ((wrap64 (x7 + 1)) : Int).toNat)) ++ (x1.extract ((wrap64 (x7 + 2)) : Int).toNat x1.size))).bind fun t172 => (barscanref09_Corrections.l0 k x0 x1 t172 (wrap64 (x7 + 1)))) else (barscanref09_Corrections.l0 k x0 x1 x6 (wrap64 (x7 + 1))))) else (none)) else (none)) else (none)) else (none)) else (none)) else (none)) else (none)) else (none)) else (none)) else (none)) else (none)) else (barscanref09_Corrections.l0 k x0 x1 x6 (wrap64 (x7 + 1)))
end
def barscanref09_Corrections.f (k : Nat) (a0 : Int) (a1 : ByteArray) : Option (List ByteArray × Int) := if a0 < 1 then (barscanref09_Corrections.j0 k a0 a1 true) else (barscanref09_Corrections.j0 k a0 a1 (decide (a0 > 8)))
theorem barscanref09_Corrections.mono_l : ∀ k, (∀ y0 y1 y2, LeO (barscanref09_Corrections.j0 k y0 y1 y2) (barscanref09_Corrections.j0 (k + 1) y0 y1 y2)) ∧ (∀ y0 y1 y2 y3, LeO (barscanref09_Corrections.l0 k y0 y1 y2 y3) (barscanref09_Corrections.l0 (k + 1) y0 y1 y2 y3)) ∧ (∀ y0 y1 y2 y3 y4, LeO (barscanref09_Corrections.l1 k y0 y1 y2 y3 y4) (barscanref09_Corrections.l1 (k + 1) y0 y1 y2 y3 y4)) ∧ (∀ y0 y1 y2 y3 y4, LeO (barscanref09_Corrections.j3 k y0 y1 y2 y3 y4) (barscanref09_Corrections.j3 (k + 1) y0 y1 y2 y3 y4))
  | 0 => ⟨fun _ _ _ r h => by simp [barscanref09_Corrections.j0] at h, fun _ _ _ _ r h => by simp [barscanref09_Corrections.l0] at h, fun _ _ _ _ _ r h => by simp [barscanref09_Corrections.l1] at h, fun _ _ _ _ _ r h => by simp [barscanref09_Corrections.j3] at h⟩
  | k + 1 => by
    obtain ⟨ih0, ih1, ih2, ih3⟩ := barscanref09_Corrections.mono_l k
    refine ⟨?_, ?_, ?_, ?_⟩
    · intro y0 y1 y2
      unfold barscanref09_Corrections.j0
      repeat' first
      | (with_reducible exact ih0 _ _ _)
      | (with_reducible exact ih1 _ _ _ _)
      | (with_reducible exact ih2 _ _ _ _ _)
      | (with_reducible exact ih3 _ _ _ _ _)
      | (with_reducible exact barscanref09_Verify.mono _ _ _)
      | (with_reducible exact barscanref09_insert.mono _ _ _)
      | (with_reducible exact barscanref09_lengthFits.mono _ _ _)
      | (with_reducible exact LeO.refl _)
      | (with_reducible exact LeO.none _)
      | (with_reducible refine LeO.ite ?_ ?_)
      | (with_reducible refine LeO.bind ?_ (fun _ => ?_))
      | exact ih0 _ _ _
      | exact ih1 _ _ _ _
      | exact ih2 _ _ _ _ _
      | exact ih3 _ _ _ _ _
      | exact barscanref09_Verify.mono _ _ _
      | exact barscanref09_insert.mono _ _ _
      | exact barscanref09_lengthFits.mono _ _ _
      | exact LeO.none _
      | refine LeO.ite ?_ ?_
      | refine LeO.bind ?_ (fun _ => ?_)
    · intro y0 y1 y2 y3
      unfold barscanref09_Corrections.l0
      repeat' first
      | (with_reducible exact ih0 _ _ _)
      | (with_reducible exact ih1 _ _ _ _)
      | (with_reducible exact ih2 _ _ _ _ _)
      | (with_reducible exact ih3 _ _ _ _ _)
      | (with_reducible exact barscanref09_Verify.mono _ _ _)
      | (with_reducible exact barscanref09_insert.mono _ _ _)
      | (with_reducible exact barscanref09_lengthFits.mono _ _ _)
      | (with_reducible exact LeO.refl _)
      | (with_reducible exact LeO.none _)
      | (with_reducible refine LeO.ite ?_ ?_)
      | (with_reducible refine LeO.bind ?_ (fun _ => ?_))
      | exact ih0 _ _ _
      | exact ih1 _ _ _ _
      | exact ih2 _ _ _ _ _
      | exact ih3 _ _ _ _ _
      | exact barscanref09_Verify.mono _ _ _
      | exact barscanref09_insert.mono _ _ _
      | exact barscanref09_lengthFits.mono _ _ _
      | exact LeO.none _
      | refine LeO.ite ?_ ?_
      | refine LeO.bind ?_ (fun _ => ?_)
    · intro y0 y1 y2 y3 y4
      unfold barscanref09_Corrections.l1
      repeat' first
      | (with_reducible exact ih0 _ _ _)
      | (with_reducible exact ih1 _ _ _ _)
      | (with_reducible exact ih2 _ _ _ _ _)
      | (with_reducible exact ih3 _ _ _ _ _)
      | (with_reducible exact barscanref09_Verify.mono _ _ _)
      | (with_reducible exact barscanref09_insert.mono _ _ _)
      | (with_reducible exact barscanref09_lengthFits.mono _ _ _)
      | (with_reducible exact LeO.refl _)
      | (with_reducible exact LeO.none _)
      | (with_reducible refine LeO.ite ?_ ?_)
      | (with_reducible refine LeO.bind ?_ (fun _ => ?_))
      | exact ih0 _ _ _
      | exact ih1 _ _ _ _
      | exact ih2 _ _ _ _ _
      | exact ih3 _ _ _ _ _
      | exact barscanref09_Verify.mono _ _ _
      | exact barscanref09_insert.mono _ _ _
      | exact barscanref09_lengthFits.mono _ _ _
      | exact LeO.none _
      | refine LeO.ite ?_ ?_
      | refine LeO.bind ?_ (fun _ => ?_)
    · intro y0 y1 y2 y3 y4
      unfold barscanref09_Corrections.j3
      repeat' first
      | (with_reducible exact ih0 _ _ _)
      | (with_reducible exact ih1 _ _ _ _)
      | (with_reducible exact ih2 _ _ _ _ _)
      | (with_reducible exact ih3 _ _ _ _ _)
      | (with_reducible exact barscanref09_Verify.mono _ _ _)
      | (with_reducible exact barscanref09_insert.mono _ _ _)
      | (with_reducible exact barscanref09_lengthFits.mono _ _ _)
      | (with_reducible exact LeO.refl _)
      | (with_reducible exact LeO.none _)
      | (with_reducible refine LeO.ite ?_ ?_)
      | (with_reducible refine LeO.bind ?_ (fun _ => ?_))
      | exact ih0 _ _ _
      | exact ih1 _ _ _ _
      | exact ih2 _ _ _ _ _
      | exact ih3 _ _ _ _ _
      | exact barscanref09_Verify.mono _ _ _
      | exact barscanref09_insert.mono _ _ _
      | exact barscanref09_lengthFits.mono _ _ _
      | exact LeO.none _
      | refine LeO.ite ?_ ?_
      | refine LeO.bind ?_ (fun _ => ?_)
theorem barscanref09_Corrections.mono : ∀ a0 a1 k, LeO (barscanref09_Corrections.f k a0 a1) (barscanref09_Corrections.f (k + 1) a0 a1) := by
  intro a0 a1 k
  obtain ⟨ih0, ih1, ih2, ih3⟩ := barscanref09_Corrections.mono_l k
  unfold barscanref09_Corrections.f
  repeat' first
      | (with_reducible exact ih0 _ _ _)
      | (with_reducible exact ih1 _ _ _ _)
      | (with_reducible exact ih2 _ _ _ _ _)
      | (with_reducible exact ih3 _ _ _ _ _)
      | (with_reducible exact barscanref09_Verify.mono _ _ _)
      | (with_reducible exact barscanref09_insert.mono _ _ _)
      | (with_reducible exact barscanref09_lengthFits.mono _ _ _)
      | (with_reducible exact LeO.refl _)
      | (with_reducible exact LeO.none _)
      | (with_reducible refine LeO.ite ?_ ?_)
      | (with_reducible refine LeO.bind ?_ (fun _ => ?_))
      | exact ih0 _ _ _
      | exact ih1 _ _ _ _
      | exact ih2 _ _ _ _ _
      | exact ih3 _ _ _ _ _
      | exact barscanref09_Verify.mono _ _ _
      | exact barscanref09_insert.mono _ _ _
      | exact barscanref09_lengthFits.mono _ _ _
      | exact LeO.none _
      | refine LeO.ite ?_ ?_
      | refine LeO.bind ?_ (fun _ => ?_)
set_option maxHeartbeats 8000000 in
set_option maxRecDepth 100000 in
theorem barscanref09_Corrections.calls (k : Nat) (a0 : Int) (a1 : ByteArray) (r1 : List ByteArray) (r2 : Int) (w : World) (h : barscanref09_Corrections.f k a0 a1 = some (r1, r2)) :
    Calls Try.prog 18 #[.int .i64 a0, .string a1] w fun e w' => ∃ v0_ : Value, e = .returned (.tuple #[v0_, .int .i64 r2]) ∧ Kd.R Kd.string 9 w' w.heap.size (fun _ => True) v0_ r1 ∧ Below w.heap.size w w' := by
  have HB := Aside0.mk (Below.refl w.heap.size w)
  have H : (if a0 < 1 then (barscanref09_Corrections.j0 k a0 a1 true) else (barscanref09_Corrections.j0 k a0 a1 (decide (a0 > 8)))) = some (r1, r2) := h
  clear h
  have HC3 := Aside0.mk H
  clear H
  go_enter Try.func18, Try.ntmps18
  go_upto_region 1 with (fail)
  repeat (go_quiet (fail); go_upto_region 1 with (fail))
  go_cut [16] (fun v16 wc => ∃ (kq : Nat) (x16_2 : Bool), v16 = .bool x16_2 ∧ Aside0 (barscanref09_Corrections.j0 kq a0 a1 x16_2 = some (r1, r2)) ∧ Aside0 (kq ≤ k) ∧ Aside0 (Below w.heap.size w wc))
  case first =>
    have H := HC3.out
    clear HC3
    by_cases c4 : a0 < 1
    · rw [if_pos c4] at H
      have c4b0 : decide (a0 < 1) = true := decide_eq_true c4
      clear c4
      (first | rw [c4b0] | (simp only [i64_w, i32_w]; rw [c4b0]) | skip)
      have H' := Aside0.mk H
      clear H
      go_wp2
      repeat (go_quiet (fail); try go_wp2)
      go_meet
      case rel => exact ⟨_, (true), (by first | rfl | (simp; done) | (simp [*]; done)), H', ⟨by first | omega | exact Nat.le_refl _⟩, ⟨by repeat (first | (with_reducible first | exact HB.out | apply below_alloc | apply pw_below_drewN | apply below_drew1) | exact HB.out)⟩⟩
    · rw [if_neg c4] at H
      have c4b0 : decide (a0 < 1) = false := decide_eq_false c4
      clear c4
      (first | rw [c4b0] | (simp only [i64_w, i32_w]; rw [c4b0]) | skip)
      have H' := Aside0.mk H
      clear H
      go_wp2
      repeat (go_quiet (fail); try go_wp2)
      go_meet
      case rel => exact ⟨_, (decide (a0 > 8)), (by first | rfl | (simp; done) | (simp [*]; done)), H', ⟨by first | omega | exact Nat.le_refl _⟩, ⟨by repeat (first | (with_reducible first | exact HB.out | apply below_alloc | apply pw_below_drewN | apply below_drew1) | exact HB.out)⟩⟩
  case rest =>
    clear HC3
    try clear c1
    try clear p2
    try clear c4
    try clear c4b0
    obtain ⟨kq, x16_2, rfl, HA, HJ2, HB⟩ := hcut
    cases kq with
    | zero => exact absurd HA.out (by simp [barscanref09_Corrections.j0])
    | succ kj2 =>
      have H := HA.out
      clear HA
      simp only [barscanref09_Corrections.j0] at H
      by_cases c5 : x16_2 = true
      · subst c5
        have H1 : (some (([] : List ByteArray), 1)) = some (r1, r2) := by rw [if_pos rfl] at H; exact H
        clear H
        have H := H1
        clear H1
        simp only [Option.some.injEq, Prod.mk.injEq] at H
        obtain ⟨rfl, rfl⟩ := H
        go_wp2
        repeat (go_quiet (fail); try go_wp2)
        go_ret2
        exact ⟨_, by first | rfl | (simp [errW_none, errW_some] <;> rfl) | (simp [*, errW_none, errW_some] <;> rfl), by first | exact Kd.R_nil _ _ _ _ _ | exact Kd.N_nil _ _ _ _ _ | exact Kd.V_nil _ _ _ _ _ | exact Kd.Q_nil _ _ _ _ _ | exact Kd.S_nil _ _ _ _ _, by repeat (first | (with_reducible first | exact HB.out | apply below_alloc | apply pw_below_drewN | apply below_drew1) | exact HB.out)⟩
      · replace c5 := Bool.eq_false_iff.mpr c5
        subst c5
        have H1 : (if (a1.size : Int) > 64 then (some (([] : List ByteArray), 4)) else ((barscanref09_lengthFits.f kj2 a0 (a1.size : Int)).bind fun t166 => (if t166 = true then (barscanref09_Corrections.l0 kj2 a0 a1 ([] : List ByteArray) 0) else (some (([] : List ByteArray), 7))))) = some (r1, r2) := by rw [if_neg (show ¬ (false = true) by decide)] at H; exact H
        clear H
        have H := H1
        clear H1
        by_cases c6 : (a1.size : Int) > 64
        · rw [if_pos c6] at H
          have c6b0 : decide (64 < (a1.size : Int)) = true := decide_eq_true c6
          have c6b1 : decide (64 < a1.size) = true := decide_eq_true (by omega)
          clear c6
          simp only [Option.some.injEq, Prod.mk.injEq] at H
          obtain ⟨rfl, rfl⟩ := H
          go_wp2
          repeat (go_quiet (fail); try go_wp2)
          go_ret2
          exact ⟨_, by first | rfl | (simp [errW_none, errW_some] <;> rfl) | (simp [*, errW_none, errW_some] <;> rfl), by first | exact Kd.R_nil _ _ _ _ _ | exact Kd.N_nil _ _ _ _ _ | exact Kd.V_nil _ _ _ _ _ | exact Kd.Q_nil _ _ _ _ _ | exact Kd.S_nil _ _ _ _ _, by repeat (first | (with_reducible first | exact HB.out | apply below_alloc | apply pw_below_drewN | apply below_drew1) | exact HB.out)⟩
        · rw [if_neg c6] at H
          have c6b0 : decide (64 < (a1.size : Int)) = false := decide_eq_false c6
          have c6b1 : decide (64 < a1.size) = false := decide_eq_false (by omega)
          clear c6
          replace H := Option.bind_eq_some_iff.mp H
          obtain ⟨t166, A70, H⟩ := H
          replace H : (if t166 = true then (barscanref09_Corrections.l0 kj2 a0 a1 ([] : List ByteArray) 0) else (some (([] : List ByteArray), 7))) = some (r1, r2) := H
          have A7 := Aside0.mk A70
          clear A70
          by_cases c8 : t166 = true
          · subst c8
            have H1 : (barscanref09_Corrections.l0 kj2 a0 a1 ([] : List ByteArray) 0) = some (r1, r2) := by rw [if_pos rfl] at H; exact H
            clear H
            have H := H1
            clear H1
            have H' := Aside0.mk H
            clear H
            go_wp2_with (first | (go_at_call 36; (with_reducible refine (barscanref09_lengthFits.calls kj2 a0 (a1.size : Int) true _ A7.out).mono ?_); rintro e w' ⟨rfl, ⟨nd, rfl⟩⟩; (try first | exact ⟨rfl, _, World.drewN_drewN _ _ _⟩ | exact ⟨rfl, _, Eq.trans (World.drewN_drewN _ _ _) (congrArg (World.drewN _) (Nat.add_assoc _ _ _))⟩)))
            repeat (go_quiet (first | (go_at_call 36; (with_reducible refine (barscanref09_lengthFits.calls kj2 a0 (a1.size : Int) true _ A7.out).mono ?_); rintro e w' ⟨rfl, ⟨nd, rfl⟩⟩; (try first | exact ⟨rfl, _, World.drewN_drewN _ _ _⟩ | exact ⟨rfl, _, Eq.trans (World.drewN_drewN _ _ _) (congrArg (World.drewN _) (Nat.add_assoc _ _ _))⟩))); try go_wp2_with (first | (go_at_call 36; (with_reducible refine (barscanref09_lengthFits.calls kj2 a0 (a1.size : Int) true _ A7.out).mono ?_); rintro e w' ⟨rfl, ⟨nd, rfl⟩⟩; (try first | exact ⟨rfl, _, World.drewN_drewN _ _ _⟩ | exact ⟨rfl, _, Eq.trans (World.drewN_drewN _ _ _) (congrArg (World.drewN _) (Nat.add_assoc _ _ _))⟩))))
            go_loopg [6, 7] kj2 (fun kq v6 v7 w' => ∃ (x6_2 : List ByteArray) (x7_2 : Int), v7 = .int .i64 x7_2 ∧ Aside0 (barscanref09_Corrections.l0 kq a0 a1 x6_2 x7_2 = some (r1, r2)) ∧ Aside0 (kq ≤ kj2) ∧ Aside0 (Kd.R Kd.string 9 w' w.heap.size (fun _ => True) v6 x6_2) ∧ Aside0 (Below w.heap.size w w'))
            case atStart => exact ⟨(([] : List ByteArray)), (0), (by first | rfl | (simp; done) | (simp [*]; done)), H', ⟨Nat.le_refl _⟩, ⟨by first | exact Kd.R_nil _ _ _ _ _ | exact Kd.N_nil _ _ _ _ _ | exact Kd.V_nil _ _ _ _ _ | exact Kd.Q_nil _ _ _ _ _ | exact Kd.S_nil _ _ _ _ _⟩, ⟨by repeat (first | (with_reducible first | exact HB.out | apply below_alloc | apply pw_below_drewN | apply below_drew1) | exact HB.out)⟩⟩
            case round =>
              clear H'
              try clear c1
              try clear p2
              try clear c4
              try clear c4b0
              try clear c5
              try clear c6
              try clear c6b0
              try clear c6b1
              try clear c8
              try clear p2
              obtain ⟨x6_2, x7_2, rfl, HA, HK2, HO_6, HB⟩ := hrel
              cases gk with
              | zero => exact absurd HA.out (by simp [barscanref09_Corrections.l0])
              | succ k2 =>
                have H := HA.out
                clear HA
                simp only [barscanref09_Corrections.l0] at H
                by_cases c9 : x7_2 < (a1.size : Int)
                · rw [if_pos c9] at H
                  have c9b0 : decide (x7_2 < (a1.size : Int)) = true := decide_eq_true c9
                  clear c9
                  have H' := Aside0.mk H
                  clear H
                  go_wp2
                  repeat (go_quiet (fail); try go_wp2)
                  go_loopg [6, 8] k2 (fun kq v6 v8 w' => ∃ (x6_3 : List ByteArray) (x8_3 : Int), v8 = .int .i64 x8_3 ∧ Aside0 (barscanref09_Corrections.l1 kq a0 a1 x6_3 x7_2 x8_3 = some (r1, r2)) ∧ Aside0 (kq ≤ k2) ∧ Aside0 (Kd.R Kd.string 9 w' w.heap.size (fun _ => True) v6 x6_3) ∧ Aside0 (Below w.heap.size w w'))
                  case atStart => exact ⟨(x6_2), (0), (by first | rfl | (simp; done) | (simp [*]; done)), H', ⟨Nat.le_refl _⟩, ⟨by (with_reducible repeat (first | apply Kd.R_alloc | apply Kd.R_drewN | apply Kd.R_drew)); exact HO_6.out⟩, ⟨by repeat (first | (with_reducible first | exact HB.out | apply below_alloc | apply pw_below_drewN | apply below_drew1) | exact HB.out)⟩⟩
                  case round =>
                    clear H'
                    try clear c1
                    try clear p2
                    try clear c4
                    try clear c4b0
                    try clear c5
                    try clear c6
                    try clear c6b0
                    try clear c6b1
                    try clear c8
                    try clear c9
                    try clear c9b0
                    try clear p2
                    obtain ⟨x6_3, x8_3, rfl, HA, HK3, HO_6, HB⟩ := hrel
                    cases gk with
                    | zero => exact absurd HA.out (by simp [barscanref09_Corrections.l1])
                    | succ k3 =>
                      have H := HA.out
                      clear HA
                      simp only [barscanref09_Corrections.l1] at H
                      by_cases c10 : x8_3 < 43
                      · rw [if_pos c10] at H
                        have c10b0 : decide (x8_3 < 43) = true := decide_eq_true c10
                        clear c10
                        by_cases c11 : 0 ≤ x7_2
                        · rw [if_pos c11] at H
                          have c11b0 := eq_true c11
                          have c11b1 : decide (0 ≤ x7_2) = true := decide_eq_true c11
                          clear c11
                          by_cases c12 : x7_2 ≤ (a1.size : Int)
                          · rw [if_pos c12] at H
                            have c12b0 := eq_true c12
                            have c12b1 : decide (x7_2 ≤ (a1.size : Int)) = true := decide_eq_true c12
                            clear c12
                            by_cases c13 : 0 ≤ x8_3
                            · rw [if_pos c13] at H
                              have c13b0 := eq_true c13
                              have c13b1 : decide (0 ≤ x8_3) = true := decide_eq_true c13
                              clear c13
                              by_cases c14 : x8_3 ≤ (wrap64 (x8_3 + 1))
                              · rw [if_pos c14] at H
                                have c14b0 := eq_true c14
                                have c14b1 : decide (x8_3 ≤ (wrap64 (x8_3 + 1))) = true := decide_eq_true c14
                                by_cases c15 : (wrap64 (x8_3 + 1)) ≤ 43
                                · rw [if_pos c15] at H
                                  have c15b0 := eq_true c15
                                  have c15b1 : decide ((wrap64 (x8_3 + 1)) ≤ 43) = true := decide_eq_true c15
                                  by_cases c16 : (a1.extract 0 (x7_2 : Int).toNat).size + ((⟨#[48, 49, 50, 51, 52, 53, 54, 55, 56, 57, 65, 66, 67, 68, 69, 70, 71, 72, 73, 74, 75, 76, 77, 78, 79, 80, 81, 82, 83, 84, 85, 86, 87, 88, 89, 90, 45, 46, 32, 36, 47, 43, 37]⟩ : ByteArray).extract (x8_3 : Int).toNat ((wrap64 (x8_3 + 1)) : Int).toNat).size ≤ 9223372036854775807
                                  · rw [if_pos c16] at H
                                    have c16b0 := eq_true c16
                                    have c16b1 : decide ((a1.extract 0 (x7_2 : Int).toNat).size + ((⟨#[48, 49, 50, 51, 52, 53, 54, 55, 56, 57, 65, 66, 67, 68, 69, 70, 71, 72, 73, 74, 75, 76, 77, 78, 79, 80, 81, 82, 83, 84, 85, 86, 87, 88, 89, 90, 45, 46, 32, 36, 47, 43, 37]⟩ : ByteArray).extract (x8_3 : Int).toNat ((wrap64 (x8_3 + 1)) : Int).toNat).size ≤ 9223372036854775807) = true := decide_eq_true c16
                                    try have c16b2 : (9223372036854775807 < (a1.extract 0 (x7_2 : Int).toNat).size + ((⟨#[48, 49, 50, 51, 52, 53, 54, 55, 56, 57, 65, 66, 67, 68, 69, 70, 71, 72, 73, 74, 75, 76, 77, 78, 79, 80, 81, 82, 83, 84, 85, 86, 87, 88, 89, 90, 45, 46, 32, 36, 47, 43, 37]⟩ : ByteArray).extract (x8_3 : Int).toNat ((wrap64 (x8_3 + 1)) : Int).toNat).size) = False := eq_false (Nat.not_lt.2 c16)
                                    obtain ⟨ji17, hji17⟩ : ∃ j_ : Int, (wrap64 (x7_2 + 1)) = j_ := ⟨_, rfl⟩
                                    replace H : (if 0 ≤ (ji17) then (if (ji17) ≤ (a1.size : Int) then (if ((a1.extract 0 (x7_2 : Int).toNat) ++ ((⟨#[48, 49, 50, 51, 52, 53, 54, 55, 56, 57, 65, 66, 67, 68, 69, 70, 71, 72, 73, 74, 75, 76, 77, 78, 79, 80, 81, 82, 83, 84, 85, 86, 87, 88, 89, 90, 45, 46, 32, 36, 47, 43, 37]⟩ : ByteArray).extract (x8_3 : Int).toNat ((wrap64 (x8_3 + 1)) : Int).toNat)).size + (a1.extract ((ji17) : Int).toNat a1.size).size ≤ 9223372036854775807 then (if (((a1.extract 0 (x7_2 : Int).toNat) ++ ((⟨#[48, 49, 50, 51, 52, 53, 54, 55, 56, 57, 65, 66, 67, 68, 69, 70, 71, 72, 73, 74, 75, 76, 77, 78, 79, 80, 81, 82, 83, 84, 85, 86, 87, 88, 89, 90, 45, 46, 32, 36, 47, 43, 37]⟩ : ByteArray).extract (x8_3 : Int).toNat ((wrap64 (x8_3 + 1)) : Int).toNat)) ++ (a1.extract ((ji17) : Int).toNat a1.size)).toList = a1.toList then (barscanref09_Corrections.l1 k3 a0 a1 x6_3 x7_2 (wrap64 (x8_3 + 1))) else ((barscanref09_Verify.f k3 a0 (((a1.extract 0 (x7_2 : Int).toNat) ++ ((⟨#[48, 49, 50, 51, 52, 53, 54, 55, 56, 57, 65, 66, 67, 68, 69, 70, 71, 72, 73, 74, 75, 76, 77, 78, 79, 80, 81, 82, 83, 84, 85, 86, 87, 88, 89, 90, 45, 46, 32, 36, 47, 43, 37]⟩ : ByteArray).extract (x8_3 : Int).toNat ((wrap64 (x8_3 + 1)) : Int).toNat)) ++ (a1.extract ((ji17) : Int).toNat a1.size))).bind fun t167 => (if t167 = 0 then ((barscanref09_insert.f k3 x6_3 (((a1.extract 0 (x7_2 : Int).toNat) ++ ((⟨#[48, 49, 50, 51, 52, 53, 54, 55, 56, 57, 65, 66, 67, 68, 69, 70, 71, 72, 73, 74, 75, 76, 77, 78, 79, 80, 81, 82, 83, 84, 85, 86, 87, 88, 89, 90, 45, 46, 32, 36, 47, 43, 37]⟩ : ByteArray).extract (x8_3 : Int).toNat ((wrap64 (x8_3 + 1)) : Int).toNat)) ++ (a1.extract ((ji17) : Int).toNat a1.size))).bind fun t168 => (barscanref09_Corrections.l1 k3 a0 a1 t168 x7_2 (wrap64 (x8_3 + 1)))) else (barscanref09_Corrections.l1 k3 a0 a1 x6_3 x7_2 (wrap64 (x8_3 + 1)))))) else (none)) else (none)) else (none)) = some (r1, r2) := by first | (rw [hji17] at H; exact H) | (simp only [hji17] at H ⊢; exact H)
                                    have hji17w : (IntKind.i64.wrap (x7_2 + 1)) = ji17 := (i64_w _).trans hji17
                                    by_cases c18 : 0 ≤ (ji17)
                                    · rw [if_pos c18] at H
                                      have c18b0 := eq_true c18
                                      have c18b1 : decide (0 ≤ (ji17)) = true := decide_eq_true c18
                                      clear c18
                                      by_cases c19 : (ji17) ≤ (a1.size : Int)
                                      · rw [if_pos c19] at H
                                        have c19b0 := eq_true c19
                                        have c19b1 : decide ((ji17) ≤ (a1.size : Int)) = true := decide_eq_true c19
                                        clear c19
                                        by_cases c20 : ((a1.extract 0 (x7_2 : Int).toNat) ++ ((⟨#[48, 49, 50, 51, 52, 53, 54, 55, 56, 57, 65, 66, 67, 68, 69, 70, 71, 72, 73, 74, 75, 76, 77, 78, 79, 80, 81, 82, 83, 84, 85, 86, 87, 88, 89, 90, 45, 46, 32, 36, 47, 43, 37]⟩ : ByteArray).extract (x8_3 : Int).toNat ((wrap64 (x8_3 + 1)) : Int).toNat)).size + (a1.extract ((ji17) : Int).toNat a1.size).size ≤ 9223372036854775807
                                        · rw [if_pos c20] at H
                                          have c20b0 := eq_true c20
                                          have c20b1 : decide (((a1.extract 0 (x7_2 : Int).toNat) ++ ((⟨#[48, 49, 50, 51, 52, 53, 54, 55, 56, 57, 65, 66, 67, 68, 69, 70, 71, 72, 73, 74, 75, 76, 77, 78, 79, 80, 81, 82, 83, 84, 85, 86, 87, 88, 89, 90, 45, 46, 32, 36, 47, 43, 37]⟩ : ByteArray).extract (x8_3 : Int).toNat ((wrap64 (x8_3 + 1)) : Int).toNat)).size + (a1.extract ((ji17) : Int).toNat a1.size).size ≤ 9223372036854775807) = true := decide_eq_true c20
                                          try have c20b2 : (9223372036854775807 < ((a1.extract 0 (x7_2 : Int).toNat) ++ ((⟨#[48, 49, 50, 51, 52, 53, 54, 55, 56, 57, 65, 66, 67, 68, 69, 70, 71, 72, 73, 74, 75, 76, 77, 78, 79, 80, 81, 82, 83, 84, 85, 86, 87, 88, 89, 90, 45, 46, 32, 36, 47, 43, 37]⟩ : ByteArray).extract (x8_3 : Int).toNat ((wrap64 (x8_3 + 1)) : Int).toNat)).size + (a1.extract ((ji17) : Int).toNat a1.size).size) = False := eq_false (Nat.not_lt.2 c20)
                                          by_cases c21 : (((a1.extract 0 (x7_2 : Int).toNat) ++ ((⟨#[48, 49, 50, 51, 52, 53, 54, 55, 56, 57, 65, 66, 67, 68, 69, 70, 71, 72, 73, 74, 75, 76, 77, 78, 79, 80, 81, 82, 83, 84, 85, 86, 87, 88, 89, 90, 45, 46, 32, 36, 47, 43, 37]⟩ : ByteArray).extract (x8_3 : Int).toNat ((wrap64 (x8_3 + 1)) : Int).toNat)) ++ (a1.extract ((ji17) : Int).toNat a1.size)).toList = a1.toList
                                          · rw [if_pos c21] at H
                                            have c21b0 : ((((a1.extract 0 (x7_2 : Int).toNat) ++ ((⟨#[48, 49, 50, 51, 52, 53, 54, 55, 56, 57, 65, 66, 67, 68, 69, 70, 71, 72, 73, 74, 75, 76, 77, 78, 79, 80, 81, 82, 83, 84, 85, 86, 87, 88, 89, 90, 45, 46, 32, 36, 47, 43, 37]⟩ : ByteArray).extract (x8_3 : Int).toNat ((wrap64 (x8_3 + 1)) : Int).toNat)) ++ (a1.extract ((ji17) : Int).toNat a1.size)).toList == a1.toList) = true := beq_iff_eq.mpr c21
                                            have c21b1 : ((((a1.extract 0 (x7_2 : Int).toNat) ++ ((⟨#[48, 49, 50, 51, 52, 53, 54, 55, 56, 57, 65, 66, 67, 68, 69, 70, 71, 72, 73, 74, 75, 76, 77, 78, 79, 80, 81, 82, 83, 84, 85, 86, 87, 88, 89, 90, 45, 46, 32, 36, 47, 43, 37]⟩ : ByteArray).extract (x8_3 : Int).toNat ((wrap64 (x8_3 + 1)) : Int).toNat)) ++ (a1.extract ((ji17) : Int).toNat a1.size)).toList != a1.toList) = false := bne_eq_false_iff_eq.mpr c21
                                            clear c21
                                            have H' := Aside0.mk H
                                            clear H
                                            go_wp2
                                            repeat (go_quiet (fail); try go_wp2)
                                            go_roundg k3
                                            case measure => have := HJ2.out; have := HK2.out; have := HK3.out; omega
                                            case rel => exact ⟨(x6_3), (wrap64 (x8_3 + 1)), (by first | rfl | (simp; done) | (simp [*]; done)), H', ⟨by have := HJ2.out; have := HK2.out; have := HK3.out; omega⟩, ⟨by (with_reducible repeat (first | apply Kd.R_alloc | apply Kd.R_drewN | apply Kd.R_drew)); exact HO_6.out⟩, ⟨by repeat (first | (with_reducible first | exact HB.out | apply below_alloc | apply pw_below_drewN | apply below_drew1) | exact HB.out)⟩⟩
                                          · rw [if_neg c21] at H
                                            have c21b0 : ((((a1.extract 0 (x7_2 : Int).toNat) ++ ((⟨#[48, 49, 50, 51, 52, 53, 54, 55, 56, 57, 65, 66, 67, 68, 69, 70, 71, 72, 73, 74, 75, 76, 77, 78, 79, 80, 81, 82, 83, 84, 85, 86, 87, 88, 89, 90, 45, 46, 32, 36, 47, 43, 37]⟩ : ByteArray).extract (x8_3 : Int).toNat ((wrap64 (x8_3 + 1)) : Int).toNat)) ++ (a1.extract ((ji17) : Int).toNat a1.size)).toList == a1.toList) = false := beq_eq_false_iff_ne.mpr c21
                                            have c21b1 : ((((a1.extract 0 (x7_2 : Int).toNat) ++ ((⟨#[48, 49, 50, 51, 52, 53, 54, 55, 56, 57, 65, 66, 67, 68, 69, 70, 71, 72, 73, 74, 75, 76, 77, 78, 79, 80, 81, 82, 83, 84, 85, 86, 87, 88, 89, 90, 45, 46, 32, 36, 47, 43, 37]⟩ : ByteArray).extract (x8_3 : Int).toNat ((wrap64 (x8_3 + 1)) : Int).toNat)) ++ (a1.extract ((ji17) : Int).toNat a1.size)).toList != a1.toList) = true := bne_iff_ne.mpr c21
                                            replace H := Option.bind_eq_some_iff.mp H
                                            obtain ⟨t167, A220, H⟩ := H
                                            replace H : (if t167 = 0 then ((barscanref09_insert.f k3 x6_3 (((a1.extract 0 (x7_2 : Int).toNat) ++ ((⟨#[48, 49, 50, 51, 52, 53, 54, 55, 56, 57, 65, 66, 67, 68, 69, 70, 71, 72, 73, 74, 75, 76, 77, 78, 79, 80, 81, 82, 83, 84, 85, 86, 87, 88, 89, 90, 45, 46, 32, 36, 47, 43, 37]⟩ : ByteArray).extract (x8_3 : Int).toNat ((wrap64 (x8_3 + 1)) : Int).toNat)) ++ (a1.extract ((ji17) : Int).toNat a1.size))).bind fun t168 => (barscanref09_Corrections.l1 k3 a0 a1 t168 x7_2 (wrap64 (x8_3 + 1)))) else (barscanref09_Corrections.l1 k3 a0 a1 x6_3 x7_2 (wrap64 (x8_3 + 1)))) = some (r1, r2) := H
                                            have A22 := Aside0.mk A220
                                            clear A220
                                            by_cases c23 : t167 = 0
                                            · rw [if_pos c23] at H
                                              have c23b0 : (t167 == 0) = true := beq_iff_eq.mpr c23
                                              have c23b1 : (t167 != 0) = false := bne_eq_false_iff_eq.mpr c23
                                              clear c23
                                              replace H := Option.bind_eq_some_iff.mp H
                                              obtain ⟨t168, A240, H⟩ := H
                                              replace H : (barscanref09_Corrections.l1 k3 a0 a1 t168 x7_2 (wrap64 (x8_3 + 1))) = some (r1, r2) := H
                                              have A24 := Aside0.mk A240
                                              clear A240
                                              have H' := Aside0.mk H
                                              clear H
                                              go_wp2_with (first | (go_at_call 14; (with_reducible refine (barscanref09_Verify.calls k3 a0 (((a1.extract 0 (x7_2 : Int).toNat) ++ ((⟨#[48, 49, 50, 51, 52, 53, 54, 55, 56, 57, 65, 66, 67, 68, 69, 70, 71, 72, 73, 74, 75, 76, 77, 78, 79, 80, 81, 82, 83, 84, 85, 86, 87, 88, 89, 90, 45, 46, 32, 36, 47, 43, 37]⟩ : ByteArray).extract (x8_3 : Int).toNat ((wrap64 (x8_3 + 1)) : Int).toNat)) ++ (a1.extract ((ji17) : Int).toNat a1.size)) t167 _ A22.out).mono ?_); rintro e w' ⟨rfl, ⟨nd, rfl⟩⟩; (try first | exact ⟨rfl, _, World.drewN_drewN _ _ _⟩ | exact ⟨rfl, _, Eq.trans (World.drewN_drewN _ _ _) (congrArg (World.drewN _) (Nat.add_assoc _ _ _))⟩); obtain ⟨Ao25, co25, eo25⟩ := Kd.R_slice HO_6.out; subst eo25) | (go_at_call 47; (with_reducible refine (barscanref09_insert.calls k3 _ _ x6_3 (((a1.extract 0 (x7_2 : Int).toNat) ++ ((⟨#[48, 49, 50, 51, 52, 53, 54, 55, 56, 57, 65, 66, 67, 68, 69, 70, 71, 72, 73, 74, 75, 76, 77, 78, 79, 80, 81, 82, 83, 84, 85, 86, 87, 88, 89, 90, 45, 46, 32, 36, 47, 43, 37]⟩ : ByteArray).extract (x8_3 : Int).toNat ((wrap64 (x8_3 + 1)) : Int).toNat)) ++ (a1.extract ((ji17) : Int).toNat a1.size)) t168 _ ?side1 ?side2 A24.out).mono ?_); (case side1 => repeat (first | exact (Kd.R_reads' HO_6.out).2.2 | (with_reducible refine Kd.C_alloc ?_ _) | (with_reducible refine Kd.C_drewN ?_ _) | (with_reducible refine Kd.C_drew ?_))); (case side2 => exact (Kd.R_reads' HO_6.out).2.1); rintro e w26 ⟨v169, rfl, ho0, hb⟩; have n0_ := Aside0.mk (Kd.R_elder' (by (with_reducible repeat (first | apply Kd.R_alloc | apply Kd.R_drewN | apply Kd.R_drew)); exact HO_6.out) (Kd.R_base ho0) hb); have n1_ := Aside0.mk (Kd.R_lower (Kd.R_new' ho0 (Kd.R_lt (by (with_reducible repeat (first | apply Kd.R_alloc | apply Kd.R_drewN | apply Kd.R_drew)); exact HO_6.out))) (below_size (by repeat (first | (with_reducible first | exact HB.out | apply below_alloc | apply pw_below_drewN | apply below_drew1) | exact HB.out)))); have n2_ := Aside0.mk (below_step (by repeat (first | (with_reducible first | exact HB.out | apply below_alloc | apply pw_below_drewN | apply below_drew1) | exact HB.out)) hb); clear HO_6; clear HB; have HO_6 := n0_; have HO170 := n1_; have HB := n2_; clear n0_ n1_ n2_; (try clear hb); (try clear hb2); (try clear hk); (try clear hi); (try clear ho0)))
                                              repeat (go_quiet (first | (go_at_call 14; (with_reducible refine (barscanref09_Verify.calls k3 a0 (((a1.extract 0 (x7_2 : Int).toNat) ++ ((⟨#[48, 49, 50, 51, 52, 53, 54, 55, 56, 57, 65, 66, 67, 68, 69, 70, 71, 72, 73, 74, 75, 76, 77, 78, 79, 80, 81, 82, 83, 84, 85, 86, 87, 88, 89, 90, 45, 46, 32, 36, 47, 43, 37]⟩ : ByteArray).extract (x8_3 : Int).toNat ((wrap64 (x8_3 + 1)) : Int).toNat)) ++ (a1.extract ((ji17) : Int).toNat a1.size)) t167 _ A22.out).mono ?_); rintro e w' ⟨rfl, ⟨nd, rfl⟩⟩; (try first | exact ⟨rfl, _, World.drewN_drewN _ _ _⟩ | exact ⟨rfl, _, Eq.trans (World.drewN_drewN _ _ _) (congrArg (World.drewN _) (Nat.add_assoc _ _ _))⟩); obtain ⟨Ao25, co25, eo25⟩ := Kd.R_slice HO_6.out; subst eo25) | (go_at_call 47; (with_reducible refine (barscanref09_insert.calls k3 _ _ x6_3 (((a1.extract 0 (x7_2 : Int).toNat) ++ ((⟨#[48, 49, 50, 51, 52, 53, 54, 55, 56, 57, 65, 66, 67, 68, 69, 70, 71, 72, 73, 74, 75, 76, 77, 78, 79, 80, 81, 82, 83, 84, 85, 86, 87, 88, 89, 90, 45, 46, 32, 36, 47, 43, 37]⟩ : ByteArray).extract (x8_3 : Int).toNat ((wrap64 (x8_3 + 1)) : Int).toNat)) ++ (a1.extract ((ji17) : Int).toNat a1.size)) t168 _ ?side1 ?side2 A24.out).mono ?_); (case side1 => repeat (first | exact (Kd.R_reads' HO_6.out).2.2 | (with_reducible refine Kd.C_alloc ?_ _) | (with_reducible refine Kd.C_drewN ?_ _) | (with_reducible refine Kd.C_drew ?_))); (case side2 => exact (Kd.R_reads' HO_6.out).2.1); rintro e w26 ⟨v169, rfl, ho0, hb⟩; have n0_ := Aside0.mk (Kd.R_elder' (by (with_reducible repeat (first | apply Kd.R_alloc | apply Kd.R_drewN | apply Kd.R_drew)); exact HO_6.out) (Kd.R_base ho0) hb); have n1_ := Aside0.mk (Kd.R_lower (Kd.R_new' ho0 (Kd.R_lt (by (with_reducible repeat (first | apply Kd.R_alloc | apply Kd.R_drewN | apply Kd.R_drew)); exact HO_6.out))) (below_size (by repeat (first | (with_reducible first | exact HB.out | apply below_alloc | apply pw_below_drewN | apply below_drew1) | exact HB.out)))); have n2_ := Aside0.mk (below_step (by repeat (first | (with_reducible first | exact HB.out | apply below_alloc | apply pw_below_drewN | apply below_drew1) | exact HB.out)) hb); clear HO_6; clear HB; have HO_6 := n0_; have HO170 := n1_; have HB := n2_; clear n0_ n1_ n2_; (try clear hb); (try clear hb2); (try clear hk); (try clear hi); (try clear ho0))); try go_wp2_with (first | (go_at_call 14; (with_reducible refine (barscanref09_Verify.calls k3 a0 (((a1.extract 0 (x7_2 : Int).toNat) ++ ((⟨#[48, 49, 50, 51, 52, 53, 54, 55, 56, 57, 65, 66, 67, 68, 69, 70, 71, 72, 73, 74, 75, 76, 77, 78, 79, 80, 81, 82, 83, 84, 85, 86, 87, 88, 89, 90, 45, 46, 32, 36, 47, 43, 37]⟩ : ByteArray).extract (x8_3 : Int).toNat ((wrap64 (x8_3 + 1)) : Int).toNat)) ++ (a1.extract ((ji17) : Int).toNat a1.size)) t167 _ A22.out).mono ?_); rintro e w' ⟨rfl, ⟨nd, rfl⟩⟩; (try first | exact ⟨rfl, _, World.drewN_drewN _ _ _⟩ | exact ⟨rfl, _, Eq.trans (World.drewN_drewN _ _ _) (congrArg (World.drewN _) (Nat.add_assoc _ _ _))⟩); obtain ⟨Ao25, co25, eo25⟩ := Kd.R_slice HO_6.out; subst eo25) | (go_at_call 47; (with_reducible refine (barscanref09_insert.calls k3 _ _ x6_3 (((a1.extract 0 (x7_2 : Int).toNat) ++ ((⟨#[48, 49, 50, 51, 52, 53, 54, 55, 56, 57, 65, 66, 67, 68, 69, 70, 71, 72, 73, 74, 75, 76, 77, 78, 79, 80, 81, 82, 83, 84, 85, 86, 87, 88, 89, 90, 45, 46, 32, 36, 47, 43, 37]⟩ : ByteArray).extract (x8_3 : Int).toNat ((wrap64 (x8_3 + 1)) : Int).toNat)) ++ (a1.extract ((ji17) : Int).toNat a1.size)) t168 _ ?side1 ?side2 A24.out).mono ?_); (case side1 => repeat (first | exact (Kd.R_reads' HO_6.out).2.2 | (with_reducible refine Kd.C_alloc ?_ _) | (with_reducible refine Kd.C_drewN ?_ _) | (with_reducible refine Kd.C_drew ?_))); (case side2 => exact (Kd.R_reads' HO_6.out).2.1); rintro e w26 ⟨v169, rfl, ho0, hb⟩; have n0_ := Aside0.mk (Kd.R_elder' (by (with_reducible repeat (first | apply Kd.R_alloc | apply Kd.R_drewN | apply Kd.R_drew)); exact HO_6.out) (Kd.R_base ho0) hb); have n1_ := Aside0.mk (Kd.R_lower (Kd.R_new' ho0 (Kd.R_lt (by (with_reducible repeat (first | apply Kd.R_alloc | apply Kd.R_drewN | apply Kd.R_drew)); exact HO_6.out))) (below_size (by repeat (first | (with_reducible first | exact HB.out | apply below_alloc | apply pw_below_drewN | apply below_drew1) | exact HB.out)))); have n2_ := Aside0.mk (below_step (by repeat (first | (with_reducible first | exact HB.out | apply below_alloc | apply pw_below_drewN | apply below_drew1) | exact HB.out)) hb); clear HO_6; clear HB; have HO_6 := n0_; have HO170 := n1_; have HB := n2_; clear n0_ n1_ n2_; (try clear hb); (try clear hb2); (try clear hk); (try clear hi); (try clear ho0))))
                                              go_roundg k3
                                              case measure => have := HJ2.out; have := HK2.out; have := HK3.out; omega
                                              case rel => exact ⟨(t168), (wrap64 (x8_3 + 1)), (by first | rfl | (simp; done) | (simp [*]; done)), H', ⟨by have := HJ2.out; have := HK2.out; have := HK3.out; omega⟩, ⟨by (with_reducible repeat (first | apply Kd.R_alloc | apply Kd.R_drewN | apply Kd.R_drew)); exact Kd.R_mono HO170.out (fun _ hk => trivial)⟩, ⟨by repeat (first | (with_reducible first | exact HB.out | apply below_alloc | apply pw_below_drewN | apply below_drew1) | exact HB.out)⟩⟩
                                            · rw [if_neg c23] at H
                                              have c23b0 : (t167 == 0) = false := beq_eq_false_iff_ne.mpr c23
                                              have c23b1 : (t167 != 0) = true := bne_iff_ne.mpr c23
                                              have H' := Aside0.mk H
                                              clear H
                                              go_wp2_with (first | (go_at_call 14; (with_reducible refine (barscanref09_Verify.calls k3 a0 (((a1.extract 0 (x7_2 : Int).toNat) ++ ((⟨#[48, 49, 50, 51, 52, 53, 54, 55, 56, 57, 65, 66, 67, 68, 69, 70, 71, 72, 73, 74, 75, 76, 77, 78, 79, 80, 81, 82, 83, 84, 85, 86, 87, 88, 89, 90, 45, 46, 32, 36, 47, 43, 37]⟩ : ByteArray).extract (x8_3 : Int).toNat ((wrap64 (x8_3 + 1)) : Int).toNat)) ++ (a1.extract ((ji17) : Int).toNat a1.size)) t167 _ A22.out).mono ?_); rintro e w' ⟨rfl, ⟨nd, rfl⟩⟩; (try first | exact ⟨rfl, _, World.drewN_drewN _ _ _⟩ | exact ⟨rfl, _, Eq.trans (World.drewN_drewN _ _ _) (congrArg (World.drewN _) (Nat.add_assoc _ _ _))⟩)))
                                              repeat (go_quiet (first | (go_at_call 14; (with_reducible refine (barscanref09_Verify.calls k3 a0 (((a1.extract 0 (x7_2 : Int).toNat) ++ ((⟨#[48, 49, 50, 51, 52, 53, 54, 55, 56, 57, 65, 66, 67, 68, 69, 70, 71, 72, 73, 74, 75, 76, 77, 78, 79, 80, 81, 82, 83, 84, 85, 86, 87, 88, 89, 90, 45, 46, 32, 36, 47, 43, 37]⟩ : ByteArray).extract (x8_3 : Int).toNat ((wrap64 (x8_3 + 1)) : Int).toNat)) ++ (a1.extract ((ji17) : Int).toNat a1.size)) t167 _ A22.out).mono ?_); rintro e w' ⟨rfl, ⟨nd, rfl⟩⟩; (try first | exact ⟨rfl, _, World.drewN_drewN _ _ _⟩ | exact ⟨rfl, _, Eq.trans (World.drewN_drewN _ _ _) (congrArg (World.drewN _) (Nat.add_assoc _ _ _))⟩))); try go_wp2_with (first | (go_at_call 14; (with_reducible refine (barscanref09_Verify.calls k3 a0 (((a1.extract 0 (x7_2 : Int).toNat) ++ ((⟨#[48, 49, 50, 51, 52, 53, 54, 55, 56, 57, 65, 66, 67, 68, 69, 70, 71, 72, 73, 74, 75, 76, 77, 78, 79, 80, 81, 82, 83, 84, 85, 86, 87, 88, 89, 90, 45, 46, 32, 36, 47, 43, 37]⟩ : ByteArray).extract (x8_3 : Int).toNat ((wrap64 (x8_3 + 1)) : Int).toNat)) ++ (a1.extract ((ji17) : Int).toNat a1.size)) t167 _ A22.out).mono ?_); rintro e w' ⟨rfl, ⟨nd, rfl⟩⟩; (try first | exact ⟨rfl, _, World.drewN_drewN _ _ _⟩ | exact ⟨rfl, _, Eq.trans (World.drewN_drewN _ _ _) (congrArg (World.drewN _) (Nat.add_assoc _ _ _))⟩))))
                                              go_roundg k3
                                              case measure => have := HJ2.out; have := HK2.out; have := HK3.out; omega
                                              case rel => exact ⟨(x6_3), (wrap64 (x8_3 + 1)), (by first | rfl | (simp; done) | (simp [*]; done)), H', ⟨by have := HJ2.out; have := HK2.out; have := HK3.out; omega⟩, ⟨by (with_reducible repeat (first | apply Kd.R_alloc | apply Kd.R_drewN | apply Kd.R_drew)); exact HO_6.out⟩, ⟨by repeat (first | (with_reducible first | exact HB.out | apply below_alloc | apply pw_below_drewN | apply below_drew1) | exact HB.out)⟩⟩
                                        · rw [if_neg c20] at H
                                          exact absurd H (by simp)
                                      · rw [if_neg c19] at H
                                        exact absurd H (by simp)
                                    · rw [if_neg c18] at H
                                      exact absurd H (by simp)
                                  · rw [if_neg c16] at H
                                    exact absurd H (by simp)
                                · rw [if_neg c15] at H
                                  exact absurd H (by simp)
                              · rw [if_neg c14] at H
                                exact absurd H (by simp)
                            · rw [if_neg c13] at H
                              exact absurd H (by simp)
                          · rw [if_neg c12] at H
                            exact absurd H (by simp)
                        · rw [if_neg c11] at H
                          exact absurd H (by simp)
                      · rw [if_neg c10] at H
                        have c10b0 : decide (x8_3 < 43) = false := decide_eq_false c10
                        clear c10
                        have HC27 := Aside0.mk H
                        clear H
                        go_upto_region 17 with (fail)
                        repeat (go_quiet (fail); go_upto_region 17 with (fail))
                        go_cut [74] (fun v74 wc => ∃ (kq : Nat) (x74_26 : Bool), v74 = .bool x74_26 ∧ Aside0 (barscanref09_Corrections.j3 kq a0 a1 x6_3 x7_2 x74_26 = some (r1, r2)) ∧ Aside0 (kq ≤ k3) ∧ Aside0 (Kd.R Kd.string 9 wc w.heap.size (fun _ => True) u6 x6_3) ∧ Aside0 (Below w.heap.size w wc))
                        case first =>
                          have H := HC27.out
                          clear HC27
                          by_cases c28 : (wrap64 (x7_2 + 1)) < (a1.size : Int)
                          · rw [if_pos c28] at H
                            have c28b0 : decide ((wrap64 (x7_2 + 1)) < (a1.size : Int)) = true := decide_eq_true c28
                            clear c28
                            (first | rw [c28b0] | (simp only [i64_w, i32_w]; rw [c28b0]) | skip)
                            by_cases c29 : 0 ≤ x7_2
                            · rw [if_pos c29] at H
                              have c29b0 : decide (0 ≤ x7_2) = true := decide_eq_true c29
                              clear c29
                              by_cases c30 : x7_2 < (a1.size : Int)
                              · rw [if_pos c30] at H
                                have c30b0 : decide (x7_2 < (a1.size : Int)) = true := decide_eq_true c30
                                clear c30
                                obtain ⟨ji32, hji32⟩ : ∃ j_ : Int, (wrap64 (x7_2 + 1)) = j_ := ⟨_, rfl⟩
                                replace H : (if 0 ≤ (ji32) then (barscanref09_Corrections.j3 k3 a0 a1 x6_3 x7_2 ((bt a1 x7_2) != (bt a1 (ji32)))) else (none)) = some (r1, r2) := by first | (rw [hji32] at H; exact H) | (simp only [hji32] at H ⊢; exact H)
                                (try rw [hji32] at c28b0)
                                have hji32w : (IntKind.i64.wrap (x7_2 + 1)) = ji32 := (i64_w _).trans hji32
                                by_cases c33 : 0 ≤ (ji32)
                                · rw [if_pos c33] at H
                                  have c33b0 : decide (0 ≤ (ji32)) = true := decide_eq_true c33
                                  clear c33
                                  have H' := Aside0.mk H
                                  clear H
                                  have p31 : 0 ≤ (x7_2 : Int) := of_decide_eq_true (by first | (with_reducible assumption) | assumption)
                                  have q31 : x7_2 < (a1.size : Int) := of_decide_eq_true (by first | (with_reducible assumption) | assumption)
                                  have hx31 := bt_at a1 x7_2
                                  replace p31 := eq_true p31
                                  replace q31 := eq_true q31
                                  have p34 : 0 ≤ ((ji32) : Int) := of_decide_eq_true (by first | (with_reducible assumption) | assumption)
                                  have q34 : (ji32) < (a1.size : Int) := of_decide_eq_true (by first | (with_reducible assumption) | assumption)
                                  have hx34 := bt_at a1 (ji32)
                                  replace p34 := eq_true p34
                                  replace q34 := eq_true q34
                                  go_wp2
                                  repeat (go_quiet (fail); try go_wp2)
                                  go_meet
                                  case rel => exact ⟨_, (((bt a1 x7_2) != (bt a1 (ji32)))), (by first | rfl | (simp; done) | (simp only [← hji32] <;> (first | rfl | simp)) | (simp [*]; done)), H', ⟨by have := HJ2.out; have := HK2.out; have := HK3.out; first | omega | exact Nat.le_refl _⟩, ⟨by (with_reducible repeat (first | apply Kd.R_alloc | apply Kd.R_drewN | apply Kd.R_drew)); exact HO_6.out⟩, ⟨by repeat (first | (with_reducible first | exact HB.out | apply below_alloc | apply pw_below_drewN | apply below_drew1) | exact HB.out)⟩⟩
                                · rw [if_neg c33] at H
                                  exact absurd H (by simp)
                              · rw [if_neg c30] at H
                                exact absurd H (by simp)
                            · rw [if_neg c29] at H
                              exact absurd H (by simp)
                          · rw [if_neg c28] at H
                            have c28b0 : decide ((wrap64 (x7_2 + 1)) < (a1.size : Int)) = false := decide_eq_false c28
                            clear c28
                            (first | rw [c28b0] | (simp only [i64_w, i32_w]; rw [c28b0]) | skip)
                            have H' := Aside0.mk H
                            clear H
                            go_wp2
                            repeat (go_quiet (fail); try go_wp2)
                            go_meet
                            case rel => exact ⟨_, (false), (by first | rfl | (simp; done) | (simp [*]; done)), H', ⟨by have := HJ2.out; have := HK2.out; have := HK3.out; first | omega | exact Nat.le_refl _⟩, ⟨by (with_reducible repeat (first | apply Kd.R_alloc | apply Kd.R_drewN | apply Kd.R_drew)); exact HO_6.out⟩, ⟨by repeat (first | (with_reducible first | exact HB.out | apply below_alloc | apply pw_below_drewN | apply below_drew1) | exact HB.out)⟩⟩
                        case rest =>
                          clear HC27
                          try clear c1
                          try clear c2
                          try clear p2
                          try clear c3
                          try clear p3
                          try clear q3
                          try clear hx3
                          try clear c4
                          try clear c4b0
                          try clear c5
                          try clear c6
                          try clear c6b0
                          try clear c6b1
                          try clear p6
                          try clear c8
                          try clear c9
                          try clear c9b0
                          try clear c10
                          try clear c10b0
                          try clear c11
                          try clear c11b0
                          try clear c11b1
                          try clear c12
                          try clear c12b0
                          try clear c12b1
                          try clear c13
                          try clear c13b0
                          try clear c13b1
                          try clear c14
                          try clear c14b0
                          try clear c14b1
                          try clear c15
                          try clear c15b0
                          try clear c15b1
                          try clear c16
                          try clear c16b0
                          try clear c16b1
                          try clear c16b2
                          try clear c18
                          try clear c18b0
                          try clear c18b1
                          try clear c19
                          try clear c19b0
                          try clear c19b1
                          try clear c20
                          try clear c20b0
                          try clear c20b1
                          try clear c20b2
                          try clear c21
                          try clear c21b0
                          try clear c21b1
                          try clear c23
                          try clear c23b0
                          try clear c23b1
                          try clear c28
                          try clear c28b0
                          try clear c29
                          try clear c29b0
                          try clear c30
                          try clear c30b0
                          try clear p31
                          try clear q31
                          try clear hx31
                          try clear c33
                          try clear c33b0
                          try clear p34
                          try clear q34
                          try clear hx34
                          try clear p2
                          try clear p31
                          try clear p34
                          try clear q31
                          try clear q34
                          obtain ⟨kq, x74_26, rfl, HA, HJ26, HO_6, HB⟩ := hcut
                          cases kq with
                          | zero => exact absurd HA.out (by simp [barscanref09_Corrections.j3])
                          | succ kj26 =>
                            have H := HA.out
                            clear HA
                            simp only [barscanref09_Corrections.j3] at H
                            by_cases c35 : x74_26 = true
                            · subst c35
                              have H1 : (if 0 ≤ x7_2 then (if x7_2 ≤ (a1.size : Int) then (if 0 ≤ (wrap64 (x7_2 + 1)) then (if (wrap64 (x7_2 + 1)) ≤ (wrap64 (x7_2 + 2)) then (if (wrap64 (x7_2 + 2)) ≤ (a1.size : Int) then (if (a1.extract 0 (x7_2 : Int).toNat).size + (a1.extract ((wrap64 (x7_2 + 1)) : Int).toNat ((wrap64 (x7_2 + 2)) : Int).toNat).size ≤ 9223372036854775807 then (if x7_2 ≤ (wrap64 (x7_2 + 1)) then (if (wrap64 (x7_2 + 1)) ≤ (a1.size : Int) then (if ((a1.extract 0 (x7_2 : Int).toNat) ++ (a1.extract ((wrap64 (x7_2 + 1)) : Int).toNat ((wrap64 (x7_2 + 2)) : Int).toNat)).size + (a1.extract (x7_2 : Int).toNat ((wrap64 (x7_2 + 1)) : Int).toNat).size ≤ 9223372036854775807 then (if 0 ≤ (wrap64 (x7_2 + 2)) then (if (((a1.extract 0 (x7_2 : Int).toNat) ++ (a1.extract ((wrap64 (x7_2 + 1)) : Int).toNat ((wrap64 (x7_2 + 2)) : Int).toNat)) ++ (a1.extract (x7_2 : Int).toNat ((wrap64 (x7_2 + 1)) : Int).toNat)).size + (a1.extract ((wrap64 (x7_2 + 2)) : Int).toNat a1.size).size ≤ 9223372036854775807 then ((barscanref09_Verify.f kj26 a0 ((((a1.extract 0 (x7_2 : Int).toNat) ++ (a1.extract ((wrap64 (x7_2 + 1)) : Int).toNat ((wrap64 (x7_2 + 2)) : Int).toNat)) ++ (a1.extract (x7_2 : Int).toNat ((wrap64 (x7_2 + 1)) : Int).toNat)) ++ (a1.extract ((wrap64 (x7_2 + 2)) : Int).toNat a1.size))).bind fun t171 => (if t171 = 0 then ((barscanref09_insert.f kj26 x6_3 ((((a1.extract 0 (x7_2 : Int).toNat) ++ (a1.extract ((wrap64 (x7_2 + 1)) : Int).toNat ((wrap64 (x7_2 + 2)) : Int).toNat)) ++ (a1.extract (x7_2 : Int).toNat ((wrap64 (x7_2 + 1)) : Int).toNat)) ++ (a1.extract ((wrap64 (x7_2 + 2)) : Int).toNat a1.size))).bind fun t172 => (barscanref09_Corrections.l0 kj26 a0 a1 t172 (wrap64 (x7_2 + 1)))) else (barscanref09_Corrections.l0 kj26 a0 a1 x6_3 (wrap64 (x7_2 + 1))))) else (none)) else (none)) else (none)) else (none)) else (none)) else (none)) else (none)) else (none)) else (none)) else (none)) else (none)) = some (r1, r2) := by rw [if_pos rfl] at H; exact H
                              clear H
                              have H := H1
                              clear H1
                              by_cases c36 : 0 ≤ x7_2
                              · rw [if_pos c36] at H
                                have c36b0 := eq_true c36
                                have c36b1 : decide (0 ≤ x7_2) = true := decide_eq_true c36
                                clear c36
                                by_cases c37 : x7_2 ≤ (a1.size : Int)
                                · rw [if_pos c37] at H
                                  have c37b0 := eq_true c37
                                  have c37b1 : decide (x7_2 ≤ (a1.size : Int)) = true := decide_eq_true c37
                                  clear c37
                                  obtain ⟨ji38, hji38⟩ : ∃ j_ : Int, (wrap64 (x7_2 + 1)) = j_ := ⟨_, rfl⟩
                                  replace H : (if 0 ≤ (ji38) then (if (ji38) ≤ (wrap64 (x7_2 + 2)) then (if (wrap64 (x7_2 + 2)) ≤ (a1.size : Int) then (if (a1.extract 0 (x7_2 : Int).toNat).size + (a1.extract ((ji38) : Int).toNat ((wrap64 (x7_2 + 2)) : Int).toNat).size ≤ 9223372036854775807 then (if x7_2 ≤ (ji38) then (if (ji38) ≤ (a1.size : Int) then (if ((a1.extract 0 (x7_2 : Int).toNat) ++ (a1.extract ((ji38) : Int).toNat ((wrap64 (x7_2 + 2)) : Int).toNat)).size + (a1.extract (x7_2 : Int).toNat ((ji38) : Int).toNat).size ≤ 9223372036854775807 then (if 0 ≤ (wrap64 (x7_2 + 2)) then (if (((a1.extract 0 (x7_2 : Int).toNat) ++ (a1.extract ((ji38) : Int).toNat ((wrap64 (x7_2 + 2)) : Int).toNat)) ++ (a1.extract (x7_2 : Int).toNat ((ji38) : Int).toNat)).size + (a1.extract ((wrap64 (x7_2 + 2)) : Int).toNat a1.size).size ≤ 9223372036854775807 then ((barscanref09_Verify.f kj26 a0 ((((a1.extract 0 (x7_2 : Int).toNat) ++ (a1.extract ((ji38) : Int).toNat ((wrap64 (x7_2 + 2)) : Int).toNat)) ++ (a1.extract (x7_2 : Int).toNat ((ji38) : Int).toNat)) ++ (a1.extract ((wrap64 (x7_2 + 2)) : Int).toNat a1.size))).bind fun t171 => (if t171 = 0 then ((barscanref09_insert.f kj26 x6_3 ((((a1.extract 0 (x7_2 : Int).toNat) ++ (a1.extract ((ji38) : Int).toNat ((wrap64 (x7_2 + 2)) : Int).toNat)) ++ (a1.extract (x7_2 : Int).toNat ((ji38) : Int).toNat)) ++ (a1.extract ((wrap64 (x7_2 + 2)) : Int).toNat a1.size))).bind fun t172 => (barscanref09_Corrections.l0 kj26 a0 a1 t172 ji38)) else (barscanref09_Corrections.l0 kj26 a0 a1 x6_3 ji38))) else (none)) else (none)) else (none)) else (none)) else (none)) else (none)) else (none)) else (none)) else (none)) = some (r1, r2) := by first | (rw [hji38] at H; exact H) | (simp only [hji38] at H ⊢; exact H)
                                  have hji38w : (IntKind.i64.wrap (x7_2 + 1)) = ji38 := (i64_w _).trans hji38
                                  by_cases c39 : 0 ≤ (ji38)
                                  · rw [if_pos c39] at H
                                    have c39b0 := eq_true c39
                                    have c39b1 : decide (0 ≤ (ji38)) = true := decide_eq_true c39
                                    clear c39
                                    by_cases c40 : (ji38) ≤ (wrap64 (x7_2 + 2))
                                    · rw [if_pos c40] at H
                                      have c40b0 := eq_true c40
                                      have c40b1 : decide ((ji38) ≤ (wrap64 (x7_2 + 2))) = true := decide_eq_true c40
                                      by_cases c41 : (wrap64 (x7_2 + 2)) ≤ (a1.size : Int)
                                      · rw [if_pos c41] at H
                                        have c41b0 := eq_true c41
                                        have c41b1 : decide ((wrap64 (x7_2 + 2)) ≤ (a1.size : Int)) = true := decide_eq_true c41
                                        by_cases c42 : (a1.extract 0 (x7_2 : Int).toNat).size + (a1.extract ((ji38) : Int).toNat ((wrap64 (x7_2 + 2)) : Int).toNat).size ≤ 9223372036854775807
                                        · rw [if_pos c42] at H
                                          have c42b0 := eq_true c42
                                          have c42b1 : decide ((a1.extract 0 (x7_2 : Int).toNat).size + (a1.extract ((ji38) : Int).toNat ((wrap64 (x7_2 + 2)) : Int).toNat).size ≤ 9223372036854775807) = true := decide_eq_true c42
                                          try have c42b2 : (9223372036854775807 < (a1.extract 0 (x7_2 : Int).toNat).size + (a1.extract ((ji38) : Int).toNat ((wrap64 (x7_2 + 2)) : Int).toNat).size) = False := eq_false (Nat.not_lt.2 c42)
                                          have c43b0 := eq_true (of_decide_eq_true (by first | (with_reducible assumption) | assumption) : 0 ≤ x7_2)
                                          by_cases c44 : x7_2 ≤ (ji38)
                                          · rw [if_pos c44] at H
                                            have c44b0 := eq_true c44
                                            have c44b1 : decide (x7_2 ≤ (ji38)) = true := decide_eq_true c44
                                            clear c44
                                            by_cases c45 : (ji38) ≤ (a1.size : Int)
                                            · rw [if_pos c45] at H
                                              have c45b0 := eq_true c45
                                              have c45b1 : decide ((ji38) ≤ (a1.size : Int)) = true := decide_eq_true c45
                                              clear c45
                                              by_cases c46 : ((a1.extract 0 (x7_2 : Int).toNat) ++ (a1.extract ((ji38) : Int).toNat ((wrap64 (x7_2 + 2)) : Int).toNat)).size + (a1.extract (x7_2 : Int).toNat ((ji38) : Int).toNat).size ≤ 9223372036854775807
                                              · rw [if_pos c46] at H
                                                have c46b0 := eq_true c46
                                                have c46b1 : decide (((a1.extract 0 (x7_2 : Int).toNat) ++ (a1.extract ((ji38) : Int).toNat ((wrap64 (x7_2 + 2)) : Int).toNat)).size + (a1.extract (x7_2 : Int).toNat ((ji38) : Int).toNat).size ≤ 9223372036854775807) = true := decide_eq_true c46
                                                try have c46b2 : (9223372036854775807 < ((a1.extract 0 (x7_2 : Int).toNat) ++ (a1.extract ((ji38) : Int).toNat ((wrap64 (x7_2 + 2)) : Int).toNat)).size + (a1.extract (x7_2 : Int).toNat ((ji38) : Int).toNat).size) = False := eq_false (Nat.not_lt.2 c46)
                                                obtain ⟨ji47, hji47⟩ : ∃ j_ : Int, (wrap64 (x7_2 + 2)) = j_ := ⟨_, rfl⟩
                                                replace H : (if 0 ≤ (ji47) then (if (((a1.extract 0 (x7_2 : Int).toNat) ++ (a1.extract ((ji38) : Int).toNat ((ji47) : Int).toNat)) ++ (a1.extract (x7_2 : Int).toNat ((ji38) : Int).toNat)).size + (a1.extract ((ji47) : Int).toNat a1.size).size ≤ 9223372036854775807 then ((barscanref09_Verify.f kj26 a0 ((((a1.extract 0 (x7_2 : Int).toNat) ++ (a1.extract ((ji38) : Int).toNat ((ji47) : Int).toNat)) ++ (a1.extract (x7_2 : Int).toNat ((ji38) : Int).toNat)) ++ (a1.extract ((ji47) : Int).toNat a1.size))).bind fun t171 => (if t171 = 0 then ((barscanref09_insert.f kj26 x6_3 ((((a1.extract 0 (x7_2 : Int).toNat) ++ (a1.extract ((ji38) : Int).toNat ((ji47) : Int).toNat)) ++ (a1.extract (x7_2 : Int).toNat ((ji38) : Int).toNat)) ++ (a1.extract ((ji47) : Int).toNat a1.size))).bind fun t172 => (barscanref09_Corrections.l0 kj26 a0 a1 t172 ji38)) else (barscanref09_Corrections.l0 kj26 a0 a1 x6_3 ji38))) else (none)) else (none)) = some (r1, r2) := by first | (rw [hji47] at H; exact H) | (simp only [hji47] at H ⊢; exact H)
                                                (try rw [hji47] at c40b0)
                                                (try rw [hji47] at c40b1)
                                                (try rw [hji47] at c40)
                                                (try rw [hji47] at c41b0)
                                                (try rw [hji47] at c41b1)
                                                (try rw [hji47] at c41)
                                                (try rw [hji47] at c42b0)
                                                (try rw [hji47] at c42b1)
                                                (try rw [hji47] at c42)
                                                (try rw [hji47] at c46b0)
                                                (try rw [hji47] at c46b1)
                                                (try rw [hji47] at c46)
                                                have hji47w : (IntKind.i64.wrap (x7_2 + 2)) = ji47 := (i64_w _).trans hji47
                                                by_cases c48 : 0 ≤ (ji47)
                                                · rw [if_pos c48] at H
                                                  have c48b0 := eq_true c48
                                                  have c48b1 : decide (0 ≤ (ji47)) = true := decide_eq_true c48
                                                  clear c48
                                                  have c49b0 := eq_true (of_decide_eq_true (by first | (with_reducible assumption) | assumption) : (ji47) ≤ (a1.size : Int))
                                                  by_cases c50 : (((a1.extract 0 (x7_2 : Int).toNat) ++ (a1.extract ((ji38) : Int).toNat ((ji47) : Int).toNat)) ++ (a1.extract (x7_2 : Int).toNat ((ji38) : Int).toNat)).size + (a1.extract ((ji47) : Int).toNat a1.size).size ≤ 9223372036854775807
                                                  · rw [if_pos c50] at H
                                                    have c50b0 := eq_true c50
                                                    have c50b1 : decide ((((a1.extract 0 (x7_2 : Int).toNat) ++ (a1.extract ((ji38) : Int).toNat ((ji47) : Int).toNat)) ++ (a1.extract (x7_2 : Int).toNat ((ji38) : Int).toNat)).size + (a1.extract ((ji47) : Int).toNat a1.size).size ≤ 9223372036854775807) = true := decide_eq_true c50
                                                    try have c50b2 : (9223372036854775807 < (((a1.extract 0 (x7_2 : Int).toNat) ++ (a1.extract ((ji38) : Int).toNat ((ji47) : Int).toNat)) ++ (a1.extract (x7_2 : Int).toNat ((ji38) : Int).toNat)).size + (a1.extract ((ji47) : Int).toNat a1.size).size) = False := eq_false (Nat.not_lt.2 c50)
                                                    replace H := Option.bind_eq_some_iff.mp H
                                                    obtain ⟨t171, A510, H⟩ := H
                                                    replace H : (if t171 = 0 then ((barscanref09_insert.f kj26 x6_3 ((((a1.extract 0 (x7_2 : Int).toNat) ++ (a1.extract ((ji38) : Int).toNat ((ji47) : Int).toNat)) ++ (a1.extract (x7_2 : Int).toNat ((ji38) : Int).toNat)) ++ (a1.extract ((ji47) : Int).toNat a1.size))).bind fun t172 => (barscanref09_Corrections.l0 kj26 a0 a1 t172 ji38)) else (barscanref09_Corrections.l0 kj26 a0 a1 x6_3 ji38)) = some (r1, r2) := H
                                                    have A51 := Aside0.mk A510
                                                    clear A510
                                                    by_cases c52 : t171 = 0
                                                    · rw [if_pos c52] at H
                                                      have c52b0 : (t171 == 0) = true := beq_iff_eq.mpr c52
                                                      have c52b1 : (t171 != 0) = false := bne_eq_false_iff_eq.mpr c52
                                                      clear c52
                                                      replace H := Option.bind_eq_some_iff.mp H
                                                      obtain ⟨t172, A530, H⟩ := H
                                                      replace H : (barscanref09_Corrections.l0 kj26 a0 a1 t172 ji38) = some (r1, r2) := H
                                                      have A53 := Aside0.mk A530
                                                      clear A530
                                                      have H' := Aside0.mk H
                                                      clear H
                                                      go_wp2_with (first | (go_at_call 14; (with_reducible refine (barscanref09_Verify.calls kj26 a0 ((((a1.extract 0 (x7_2 : Int).toNat) ++ (a1.extract ((ji38) : Int).toNat ((ji47) : Int).toNat)) ++ (a1.extract (x7_2 : Int).toNat ((ji38) : Int).toNat)) ++ (a1.extract ((ji47) : Int).toNat a1.size)) t171 _ A51.out).mono ?_); rintro e w' ⟨rfl, ⟨nd, rfl⟩⟩; (try first | exact ⟨rfl, _, World.drewN_drewN _ _ _⟩ | exact ⟨rfl, _, Eq.trans (World.drewN_drewN _ _ _) (congrArg (World.drewN _) (Nat.add_assoc _ _ _))⟩); obtain ⟨Ao54, co54, eo54⟩ := Kd.R_slice HO_6.out; subst eo54) | (go_at_call 47; (with_reducible refine (barscanref09_insert.calls kj26 _ _ x6_3 ((((a1.extract 0 (x7_2 : Int).toNat) ++ (a1.extract ((ji38) : Int).toNat ((ji47) : Int).toNat)) ++ (a1.extract (x7_2 : Int).toNat ((ji38) : Int).toNat)) ++ (a1.extract ((ji47) : Int).toNat a1.size)) t172 _ ?side1 ?side2 A53.out).mono ?_); (case side1 => repeat (first | exact (Kd.R_reads' HO_6.out).2.2 | (with_reducible refine Kd.C_alloc ?_ _) | (with_reducible refine Kd.C_drewN ?_ _) | (with_reducible refine Kd.C_drew ?_))); (case side2 => exact (Kd.R_reads' HO_6.out).2.1); rintro e w55 ⟨v173, rfl, ho0, hb⟩; have n0_ := Aside0.mk (Kd.R_elder' (by (with_reducible repeat (first | apply Kd.R_alloc | apply Kd.R_drewN | apply Kd.R_drew)); exact HO_6.out) (Kd.R_base ho0) hb); have n1_ := Aside0.mk (Kd.R_lower (Kd.R_new' ho0 (Kd.R_lt (by (with_reducible repeat (first | apply Kd.R_alloc | apply Kd.R_drewN | apply Kd.R_drew)); exact HO_6.out))) (below_size (by repeat (first | (with_reducible first | exact HB.out | apply below_alloc | apply pw_below_drewN | apply below_drew1) | exact HB.out)))); have n2_ := Aside0.mk (below_step (by repeat (first | (with_reducible first | exact HB.out | apply below_alloc | apply pw_below_drewN | apply below_drew1) | exact HB.out)) hb); clear HO_6; clear HB; have HO_6 := n0_; have HO174 := n1_; have HB := n2_; clear n0_ n1_ n2_; (try clear hb); (try clear hb2); (try clear hk); (try clear hi); (try clear ho0)))
                                                      repeat (go_quiet (first | (go_at_call 14; (with_reducible refine (barscanref09_Verify.calls kj26 a0 ((((a1.extract 0 (x7_2 : Int).toNat) ++ (a1.extract ((ji38) : Int).toNat ((ji47) : Int).toNat)) ++ (a1.extract (x7_2 : Int).toNat ((ji38) : Int).toNat)) ++ (a1.extract ((ji47) : Int).toNat a1.size)) t171 _ A51.out).mono ?_); rintro e w' ⟨rfl, ⟨nd, rfl⟩⟩; (try first | exact ⟨rfl, _, World.drewN_drewN _ _ _⟩ | exact ⟨rfl, _, Eq.trans (World.drewN_drewN _ _ _) (congrArg (World.drewN _) (Nat.add_assoc _ _ _))⟩); obtain ⟨Ao54, co54, eo54⟩ := Kd.R_slice HO_6.out; subst eo54) | (go_at_call 47; (with_reducible refine (barscanref09_insert.calls kj26 _ _ x6_3 ((((a1.extract 0 (x7_2 : Int).toNat) ++ (a1.extract ((ji38) : Int).toNat ((ji47) : Int).toNat)) ++ (a1.extract (x7_2 : Int).toNat ((ji38) : Int).toNat)) ++ (a1.extract ((ji47) : Int).toNat a1.size)) t172 _ ?side1 ?side2 A53.out).mono ?_); (case side1 => repeat (first | exact (Kd.R_reads' HO_6.out).2.2 | (with_reducible refine Kd.C_alloc ?_ _) | (with_reducible refine Kd.C_drewN ?_ _) | (with_reducible refine Kd.C_drew ?_))); (case side2 => exact (Kd.R_reads' HO_6.out).2.1); rintro e w55 ⟨v173, rfl, ho0, hb⟩; have n0_ := Aside0.mk (Kd.R_elder' (by (with_reducible repeat (first | apply Kd.R_alloc | apply Kd.R_drewN | apply Kd.R_drew)); exact HO_6.out) (Kd.R_base ho0) hb); have n1_ := Aside0.mk (Kd.R_lower (Kd.R_new' ho0 (Kd.R_lt (by (with_reducible repeat (first | apply Kd.R_alloc | apply Kd.R_drewN | apply Kd.R_drew)); exact HO_6.out))) (below_size (by repeat (first | (with_reducible first | exact HB.out | apply below_alloc | apply pw_below_drewN | apply below_drew1) | exact HB.out)))); have n2_ := Aside0.mk (below_step (by repeat (first | (with_reducible first | exact HB.out | apply below_alloc | apply pw_below_drewN | apply below_drew1) | exact HB.out)) hb); clear HO_6; clear HB; have HO_6 := n0_; have HO174 := n1_; have HB := n2_; clear n0_ n1_ n2_; (try clear hb); (try clear hb2); (try clear hk); (try clear hi); (try clear ho0))); try go_wp2_with (first | (go_at_call 14; (with_reducible refine (barscanref09_Verify.calls kj26 a0 ((((a1.extract 0 (x7_2 : Int).toNat) ++ (a1.extract ((ji38) : Int).toNat ((ji47) : Int).toNat)) ++ (a1.extract (x7_2 : Int).toNat ((ji38) : Int).toNat)) ++ (a1.extract ((ji47) : Int).toNat a1.size)) t171 _ A51.out).mono ?_); rintro e w' ⟨rfl, ⟨nd, rfl⟩⟩; (try first | exact ⟨rfl, _, World.drewN_drewN _ _ _⟩ | exact ⟨rfl, _, Eq.trans (World.drewN_drewN _ _ _) (congrArg (World.drewN _) (Nat.add_assoc _ _ _))⟩); obtain ⟨Ao54, co54, eo54⟩ := Kd.R_slice HO_6.out; subst eo54) | (go_at_call 47; (with_reducible refine (barscanref09_insert.calls kj26 _ _ x6_3 ((((a1.extract 0 (x7_2 : Int).toNat) ++ (a1.extract ((ji38) : Int).toNat ((ji47) : Int).toNat)) ++ (a1.extract (x7_2 : Int).toNat ((ji38) : Int).toNat)) ++ (a1.extract ((ji47) : Int).toNat a1.size)) t172 _ ?side1 ?side2 A53.out).mono ?_); (case side1 => repeat (first | exact (Kd.R_reads' HO_6.out).2.2 | (with_reducible refine Kd.C_alloc ?_ _) | (with_reducible refine Kd.C_drewN ?_ _) | (with_reducible refine Kd.C_drew ?_))); (case side2 => exact (Kd.R_reads' HO_6.out).2.1); rintro e w55 ⟨v173, rfl, ho0, hb⟩; have n0_ := Aside0.mk (Kd.R_elder' (by (with_reducible repeat (first | apply Kd.R_alloc | apply Kd.R_drewN | apply Kd.R_drew)); exact HO_6.out) (Kd.R_base ho0) hb); have n1_ := Aside0.mk (Kd.R_lower (Kd.R_new' ho0 (Kd.R_lt (by (with_reducible repeat (first | apply Kd.R_alloc | apply Kd.R_drewN | apply Kd.R_drew)); exact HO_6.out))) (below_size (by repeat (first | (with_reducible first | exact HB.out | apply below_alloc | apply pw_below_drewN | apply below_drew1) | exact HB.out)))); have n2_ := Aside0.mk (below_step (by repeat (first | (with_reducible first | exact HB.out | apply below_alloc | apply pw_below_drewN | apply below_drew1) | exact HB.out)) hb); clear HO_6; clear HB; have HO_6 := n0_; have HO174 := n1_; have HB := n2_; clear n0_ n1_ n2_; (try clear hb); (try clear hb2); (try clear hk); (try clear hi); (try clear ho0))))
                                                      go_roundg kj26
                                                      case measure => have := HJ2.out; have := HK2.out; have := HK3.out; have := HJ26.out; omega
                                                      case rel => exact ⟨(t172), (ji38), (by first | rfl | (simp; done) | (simp only [← hji38] <;> (first | rfl | simp)) | (simp [*]; done)), H', ⟨by have := HJ2.out; have := HK2.out; have := HK3.out; have := HJ26.out; omega⟩, ⟨by (with_reducible repeat (first | apply Kd.R_alloc | apply Kd.R_drewN | apply Kd.R_drew)); exact Kd.R_mono HO174.out (fun _ hk => trivial)⟩, ⟨by repeat (first | (with_reducible first | exact HB.out | apply below_alloc | apply pw_below_drewN | apply below_drew1) | exact HB.out)⟩⟩
                                                    · rw [if_neg c52] at H
                                                      have c52b0 : (t171 == 0) = false := beq_eq_false_iff_ne.mpr c52
                                                      have c52b1 : (t171 != 0) = true := bne_iff_ne.mpr c52
                                                      have H' := Aside0.mk H
                                                      clear H
                                                      go_wp2_with (first | (go_at_call 14; (with_reducible refine (barscanref09_Verify.calls kj26 a0 ((((a1.extract 0 (x7_2 : Int).toNat) ++ (a1.extract ((ji38) : Int).toNat ((ji47) : Int).toNat)) ++ (a1.extract (x7_2 : Int).toNat ((ji38) : Int).toNat)) ++ (a1.extract ((ji47) : Int).toNat a1.size)) t171 _ A51.out).mono ?_); rintro e w' ⟨rfl, ⟨nd, rfl⟩⟩; (try first | exact ⟨rfl, _, World.drewN_drewN _ _ _⟩ | exact ⟨rfl, _, Eq.trans (World.drewN_drewN _ _ _) (congrArg (World.drewN _) (Nat.add_assoc _ _ _))⟩)))
                                                      repeat (go_quiet (first | (go_at_call 14; (with_reducible refine (barscanref09_Verify.calls kj26 a0 ((((a1.extract 0 (x7_2 : Int).toNat) ++ (a1.extract ((ji38) : Int).toNat ((ji47) : Int).toNat)) ++ (a1.extract (x7_2 : Int).toNat ((ji38) : Int).toNat)) ++ (a1.extract ((ji47) : Int).toNat a1.size)) t171 _ A51.out).mono ?_); rintro e w' ⟨rfl, ⟨nd, rfl⟩⟩; (try first | exact ⟨rfl, _, World.drewN_drewN _ _ _⟩ | exact ⟨rfl, _, Eq.trans (World.drewN_drewN _ _ _) (congrArg (World.drewN _) (Nat.add_assoc _ _ _))⟩))); try go_wp2_with (first | (go_at_call 14; (with_reducible refine (barscanref09_Verify.calls kj26 a0 ((((a1.extract 0 (x7_2 : Int).toNat) ++ (a1.extract ((ji38) : Int).toNat ((ji47) : Int).toNat)) ++ (a1.extract (x7_2 : Int).toNat ((ji38) : Int).toNat)) ++ (a1.extract ((ji47) : Int).toNat a1.size)) t171 _ A51.out).mono ?_); rintro e w' ⟨rfl, ⟨nd, rfl⟩⟩; (try first | exact ⟨rfl, _, World.drewN_drewN _ _ _⟩ | exact ⟨rfl, _, Eq.trans (World.drewN_drewN _ _ _) (congrArg (World.drewN _) (Nat.add_assoc _ _ _))⟩))))
                                                      go_roundg kj26
                                                      case measure => have := HJ2.out; have := HK2.out; have := HK3.out; have := HJ26.out; omega
                                                      case rel => exact ⟨(x6_3), (ji38), (by first | rfl | (simp; done) | (simp only [← hji38] <;> (first | rfl | simp)) | (simp [*]; done)), H', ⟨by have := HJ2.out; have := HK2.out; have := HK3.out; have := HJ26.out; omega⟩, ⟨by (with_reducible repeat (first | apply Kd.R_alloc | apply Kd.R_drewN | apply Kd.R_drew)); exact HO_6.out⟩, ⟨by repeat (first | (with_reducible first | exact HB.out | apply below_alloc | apply pw_below_drewN | apply below_drew1) | exact HB.out)⟩⟩
                                                  · rw [if_neg c50] at H
                                                    exact absurd H (by simp)
                                                · rw [if_neg c48] at H
                                                  exact absurd H (by simp)
                                              · rw [if_neg c46] at H
                                                exact absurd H (by simp)
                                            · rw [if_neg c45] at H
                                              exact absurd H (by simp)
                                          · rw [if_neg c44] at H
                                            exact absurd H (by simp)
                                        · rw [if_neg c42] at H
                                          exact absurd H (by simp)
                                      · rw [if_neg c41] at H
                                        exact absurd H (by simp)
                                    · rw [if_neg c40] at H
                                      exact absurd H (by simp)
                                  · rw [if_neg c39] at H
                                    exact absurd H (by simp)
                                · rw [if_neg c37] at H
                                  exact absurd H (by simp)
                              · rw [if_neg c36] at H
                                exact absurd H (by simp)
                            · replace c35 := Bool.eq_false_iff.mpr c35
                              subst c35
                              have H1 : (barscanref09_Corrections.l0 kj26 a0 a1 x6_3 (wrap64 (x7_2 + 1))) = some (r1, r2) := by rw [if_neg (show ¬ (false = true) by decide)] at H; exact H
                              clear H
                              have H := H1
                              clear H1
                              have H' := Aside0.mk H
                              clear H
                              go_wp2
                              repeat (go_quiet (fail); try go_wp2)
                              go_roundg kj26
                              case measure => have := HJ2.out; have := HK2.out; have := HK3.out; have := HJ26.out; omega
                              case rel => exact ⟨(x6_3), (wrap64 (x7_2 + 1)), (by first | rfl | (simp; done) | (simp [*]; done)), H', ⟨by have := HJ2.out; have := HK2.out; have := HK3.out; have := HJ26.out; omega⟩, ⟨by (with_reducible repeat (first | apply Kd.R_alloc | apply Kd.R_drewN | apply Kd.R_drew)); exact HO_6.out⟩, ⟨by repeat (first | (with_reducible first | exact HB.out | apply below_alloc | apply pw_below_drewN | apply below_drew1) | exact HB.out)⟩⟩
                · rw [if_neg c9] at H
                  have c9b0 : decide (x7_2 < (a1.size : Int)) = false := decide_eq_false c9
                  clear c9
                  simp only [Option.some.injEq, Prod.mk.injEq] at H
                  obtain ⟨rfl, rfl⟩ := H
                  go_wp2
                  repeat (go_quiet (fail); try go_wp2)
                  go_ret2
                  exact ⟨_, by first | rfl | (simp [errW_none, errW_some] <;> rfl) | (simp [*, errW_none, errW_some] <;> rfl), by (with_reducible repeat (first | apply Kd.R_alloc | apply Kd.R_drewN | apply Kd.R_drew)); exact HO_6.out, by repeat (first | (with_reducible first | exact HB.out | apply below_alloc | apply pw_below_drewN | apply below_drew1) | exact HB.out)⟩
          · replace c8 := Bool.eq_false_iff.mpr c8
            subst c8
            have H1 : (some (([] : List ByteArray), 7)) = some (r1, r2) := by rw [if_neg (show ¬ (false = true) by decide)] at H; exact H
            clear H
            have H := H1
            clear H1
            simp only [Option.some.injEq, Prod.mk.injEq] at H
            obtain ⟨rfl, rfl⟩ := H
            go_wp2_with (first | (go_at_call 36; (with_reducible refine (barscanref09_lengthFits.calls kj2 a0 (a1.size : Int) false _ A7.out).mono ?_); rintro e w' ⟨rfl, ⟨nd, rfl⟩⟩; (try first | exact ⟨rfl, _, World.drewN_drewN _ _ _⟩ | exact ⟨rfl, _, Eq.trans (World.drewN_drewN _ _ _) (congrArg (World.drewN _) (Nat.add_assoc _ _ _))⟩)))
            repeat (go_quiet (first | (go_at_call 36; (with_reducible refine (barscanref09_lengthFits.calls kj2 a0 (a1.size : Int) false _ A7.out).mono ?_); rintro e w' ⟨rfl, ⟨nd, rfl⟩⟩; (try first | exact ⟨rfl, _, World.drewN_drewN _ _ _⟩ | exact ⟨rfl, _, Eq.trans (World.drewN_drewN _ _ _) (congrArg (World.drewN _) (Nat.add_assoc _ _ _))⟩))); try go_wp2_with (first | (go_at_call 36; (with_reducible refine (barscanref09_lengthFits.calls kj2 a0 (a1.size : Int) false _ A7.out).mono ?_); rintro e w' ⟨rfl, ⟨nd, rfl⟩⟩; (try first | exact ⟨rfl, _, World.drewN_drewN _ _ _⟩ | exact ⟨rfl, _, Eq.trans (World.drewN_drewN _ _ _) (congrArg (World.drewN _) (Nat.add_assoc _ _ _))⟩))))
            go_ret2
            exact ⟨_, by first | rfl | (simp [errW_none, errW_some] <;> rfl) | (simp [*, errW_none, errW_some] <;> rfl), by first | exact Kd.R_nil _ _ _ _ _ | exact Kd.N_nil _ _ _ _ _ | exact Kd.V_nil _ _ _ _ _ | exact Kd.Q_nil _ _ _ _ _ | exact Kd.S_nil _ _ _ _ _, by repeat (first | (with_reducible first | exact HB.out | apply below_alloc | apply pw_below_drewN | apply below_drew1) | exact HB.out)⟩

/-! ### barscanlaw09_has: function 28 -/
def barscanlaw09_has.l0 : Nat → List ByteArray → ByteArray → Int → Option (Bool)
  | 0, _, _, _ => none
  | k + 1, x0, x1, x5 => if x5 < (x0.length : Int) then (if 0 ≤ x5 then (if (rdOf ByteArray.empty x0 x5).toList = x1.toList then (some true) else (barscanlaw09_has.l0 k x0 x1 (wrap64 (x5 + 1)))) else (none)) else (some false)
def barscanlaw09_has.f (k : Nat) (l0 : List ByteArray) (a1 : ByteArray) : Option (Bool) := barscanlaw09_has.l0 k l0 a1 0
theorem barscanlaw09_has.mono_l : ∀ k, (∀ y0 y1 y2, LeO (barscanlaw09_has.l0 k y0 y1 y2) (barscanlaw09_has.l0 (k + 1) y0 y1 y2))
  | 0 => fun _ _ _ r h => by simp [barscanlaw09_has.l0] at h
  | k + 1 => by
    have ih0 := barscanlaw09_has.mono_l k
    · intro y0 y1 y2
      unfold barscanlaw09_has.l0
      repeat' first
      | (with_reducible exact ih0 _ _ _)
      | (with_reducible exact LeO.refl _)
      | (with_reducible exact LeO.none _)
      | (with_reducible refine LeO.ite ?_ ?_)
      | (with_reducible refine LeO.bind ?_ (fun _ => ?_))
      | exact ih0 _ _ _
      | exact LeO.none _
      | refine LeO.ite ?_ ?_
      | refine LeO.bind ?_ (fun _ => ?_)
theorem barscanlaw09_has.mono : ∀ a0 a1 k, LeO (barscanlaw09_has.f k a0 a1) (barscanlaw09_has.f (k + 1) a0 a1) := by
  intro a0 a1 k
  have ih0 := barscanlaw09_has.mono_l k
  unfold barscanlaw09_has.f
  repeat' first
      | (with_reducible exact ih0 _ _ _)
      | (with_reducible exact LeO.refl _)
      | (with_reducible exact LeO.none _)
      | (with_reducible refine LeO.ite ?_ ?_)
      | (with_reducible refine LeO.bind ?_ (fun _ => ?_))
      | exact ih0 _ _ _
      | exact LeO.none _
      | refine LeO.ite ?_ ?_
      | refine LeO.bind ?_ (fun _ => ?_)
set_option maxHeartbeats 8000000 in
set_option maxRecDepth 100000 in
theorem barscanlaw09_has.calls (k : Nat) (A0 : Option Addr) (c0 : Nat) (l0 : List ByteArray) (a1 : ByteArray) (r : Bool) (w : World) (hr0 : Kd.C Kd.string w A0 l0.length l0) (hc0 : l0.length ≤ c0) (h : barscanlaw09_has.f k l0 a1 = some r) :
    Calls Try.prog 28 #[.slice A0 l0.length c0, .string a1] w fun e w' => e = .returned (.bool r) ∧ Drawn0 w w' := by
  have HR0 := Aside0.mk hr0
  have HC0 := Aside0.mk hc0
  clear hr0 hc0
  have H : (barscanlaw09_has.l0 k l0 a1 0) = some r := h
  clear h
  have H' := Aside0.mk H
  clear H
  go_enter Try.func28, Try.ntmps28
  go_wp2
  go_loopg [5] k (fun kq v5 w' => ∃ (x5_1 : Int), v5 = .int .i64 x5_1 ∧ Aside0 (barscanlaw09_has.l0 kq l0 a1 x5_1 = some r) ∧ Aside0 (kq ≤ k) ∧ Drawn0 w w')
  case atStart => exact ⟨(0), (by first | rfl | (simp; done) | (simp [*]; done)), H', ⟨Nat.le_refl _⟩, by repeat (first | exact Drawn0.refl _ | apply Drawn0.step)⟩
  case round =>
    clear H'
    try clear c2
    try clear p2
    obtain ⟨x5_1, rfl, HA, HK1, ⟨m1, rfl⟩⟩ := hrel
    cases gk with
    | zero => exact absurd HA.out (by simp [barscanlaw09_has.l0])
    | succ k1 =>
      have H := HA.out
      clear HA
      simp only [barscanlaw09_has.l0] at H
      by_cases c3 : x5_1 < (l0.length : Int)
      · rw [if_pos c3] at H
        have c3b0 : decide (x5_1 < (l0.length : Int)) = true := decide_eq_true c3
        clear c3
        by_cases c4 : 0 ≤ x5_1
        · rw [if_pos c4] at H
          have c4b0 : decide (0 ≤ x5_1) = true := decide_eq_true c4
          clear c4
          by_cases c5 : (rdOf ByteArray.empty l0 x5_1).toList = a1.toList
          · rw [if_pos c5] at H
            have c5b0 : ((rdOf ByteArray.empty l0 x5_1).toList == a1.toList) = true := beq_iff_eq.mpr c5
            have c5b1 : ((rdOf ByteArray.empty l0 x5_1).toList != a1.toList) = false := bne_eq_false_iff_eq.mpr c5
            clear c5
            obtain rfl := Option.some.inj H
            have p175 : 0 ≤ (x5_1 : Int) := of_decide_eq_true (by first | (with_reducible assumption) | assumption)
            have q175 : x5_1 < (l0.length : Int) := of_decide_eq_true (by first | (with_reducible assumption) | assumption)
            obtain ⟨ad175, e175, hx175_0⟩ := Kd.at_string HR0.out x5_1 p175 q175
            cases e175
            replace p175 := eq_true p175
            replace q175 := eq_true q175
            go_wp2
            go_ret
            exact ⟨by first | rfl | (simp; done) | (simp [*]; done), by repeat (first | exact Drawn0.refl _ | apply Drawn0.step)⟩
          · rw [if_neg c5] at H
            have c5b0 : ((rdOf ByteArray.empty l0 x5_1).toList == a1.toList) = false := beq_eq_false_iff_ne.mpr c5
            have c5b1 : ((rdOf ByteArray.empty l0 x5_1).toList != a1.toList) = true := bne_iff_ne.mpr c5
            have H' := Aside0.mk H
            clear H
            have p175 : 0 ≤ (x5_1 : Int) := of_decide_eq_true (by first | (with_reducible assumption) | assumption)
            have q175 : x5_1 < (l0.length : Int) := of_decide_eq_true (by first | (with_reducible assumption) | assumption)
            obtain ⟨ad175, e175, hx175_0⟩ := Kd.at_string HR0.out x5_1 p175 q175
            cases e175
            replace p175 := eq_true p175
            replace q175 := eq_true q175
            go_wp2
            go_roundg k1
            case measure => have := HK1.out; omega
            case rel => exact ⟨(wrap64 (x5_1 + 1)), (by first | rfl | (simp; done) | (simp [*]; done)), H', ⟨by have := HK1.out; omega⟩, by repeat (first | exact Drawn0.refl _ | apply Drawn0.step)⟩
        · rw [if_neg c4] at H
          exact absurd H (by simp)
      · rw [if_neg c3] at H
        have c3b0 : decide (x5_1 < (l0.length : Int)) = false := decide_eq_false c3
        clear c3
        obtain rfl := Option.some.inj H
        go_wp2
        go_ret
        exact ⟨by first | rfl | (simp; done) | (simp [*]; done), by repeat (first | exact Drawn0.refl _ | apply Drawn0.step)⟩

end Go.Proofs.Ytcfgfeamcckmjaa.PB
