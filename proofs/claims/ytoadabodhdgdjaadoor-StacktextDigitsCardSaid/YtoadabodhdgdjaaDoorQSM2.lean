import Derived.Test.YtoadabodhdgdjaaDoorQSM1
import Derived.Test.YtoadabodhdgdjaaDoorQS0
namespace Go.Proofs.YtoadabodhdgdjaaDoor.SM
open Go.Proofs.YtoadabodhdgdjaaDoor.S0
open Go.RowKit Go.Proofs.YtoadabodhdgdjaaDoorW.PrintWords Go.Proofs.YtoadabodhdgdjaaDoorW.PrintLast Go.Proofs.YtoadabodhdgdjaaDoorW.PrintMore
attribute [local go_sem] max2_int min2_int max_two min_two max_three min_three max_four min_four   
open Go.Proofs.YtoadabodhdgdjaaDoor.SB
set_option linter.unusedVariables false
set_option linter.unusedSimpArgs false
def stacktext_encoder_values.l0 : Nat → List Int → List (S58) → Int → List Int → Option Nat → Int → Int → Int → Option (List Int × (List (S58)) × Option Nat)
 | 0, _, _, _, _, _, _, _, _ => none
 | k + 1, x6, x7, x13, x1000, x1001, x111000, x111001, x111002 => if x13 < 30 then ((stacktext_text_read.f k x111001 x111002 x13).bind fun bt111 => (if bt111.2.2.2.2 = true then (if bt111.2.1 = true then (if x111000 < (x1000.length : Int) then (if 0 ≤ x111000 then (if (rd x1000 x111000) = bt111.1 then ((some (([x13] : List Int) : List Int)).bind fun y118 => (if x6.length + y118.length < 17592186044416 then ((some (([(⟨wrap64 (x111000 + 1), (⟨bt111.2.2.1, bt111.2.2.2.1⟩ : S56)⟩ : S58)] : List (S58)) : List (S58))).bind fun y124 => (if x7.length + y124.length < 5864062014805 then (stacktext_encoder_values.l0 k (x6 ++ y118) (x7 ++ y124) (wrap64 (x13 + 1)) x1000 x1001 x111000 x111001 x111002) else (none))) else (none))) else (stacktext_encoder_values.l0 k x6 x7 (wrap64 (x13 + 1)) x1000 x1001 x111000 x111001 x111002)) else (none)) else (stacktext_encoder_values.l0 k x6 x7 (wrap64 (x13 + 1)) x1000 x1001 x111000 x111001 x111002)) else ((some (([x13] : List Int) : List Int)).bind fun y130 => (if x6.length + y130.length < 17592186044416 then ((some (([(⟨x111000, (⟨bt111.2.2.1, bt111.2.2.2.1⟩ : S56)⟩ : S58)] : List (S58)) : List (S58))).bind fun y136 => (if x7.length + y136.length < 5864062014805 then (stacktext_encoder_values.l0 k (x6 ++ y130) (x7 ++ y136) (wrap64 (x13 + 1)) x1000 x1001 x111000 x111001 x111002) else (none))) else (none)))) else (stacktext_encoder_values.l0 k x6 x7 (wrap64 (x13 + 1)) x1000 x1001 x111000 x111001 x111002))) else (some (x6, x7, x1001))
def stacktext_encoder_values.f (k : Nat) (s0_0 : List Int) (s0_1 : Option Nat) (a1_0 : Int) (a1_1 : Int) (a1_2 : Int) : Option (List Int × (List (S58)) × Option Nat) := stacktext_encoder_values.l0 k ([] : List Int) ([] : List (S58)) 0 s0_0 s0_1 a1_0 a1_1 a1_2
def stacktext_encoder_values.T9 : Bool × List (List Nat × List Nat) := (true, [([], []), ([], []), ([1], [1]), ([0, 2], [0, 2]), ([], []), ([], []), ([5], [5]), ([], []), ([6, 7], [6, 7]), ([8], [8]), ([4, 9, 3], [4, 9]), ([3, 10, 0, 1, 2, 3], [0, 3]), ([10, 11, 0, 1, 2, 3, 4, 5, 6, 7, 8, 9, 10, 11], [4, 10])])
def stacktext_encoder_values.B9 : List Nat := [0, 0, 2, 7, 0, 0, 32, 0, 224, 480, 1023, 2047, 4095]
theorem stacktext_encoder_values.tab9 : rtab .any (opsOf Tryd.f81 9) = stacktext_encoder_values.T9 := by kernel_rfl
theorem stacktext_encoder_values.bits9 : waitsOk stacktext_encoder_values.T9.2 stacktext_encoder_values.B9 = true := by kernel_rfl
def stacktext_encoder_values.T10 : Bool × List (List Nat × List Nat) := (true, [([], []), ([0], [0]), ([], []), ([2], [2]), ([3], [3]), ([4], [4]), ([5], [5]), ([1, 6], [1, 6]), ([7], [7]), ([8], [8]), ([9, 8], [8, 9]), ([10, 8], [8, 10]), ([11, 8], [8, 11]), ([8], [8]), ([13, 8], [8, 13]), ([12, 14, 8], [8, 12, 14]), ([15, 8], [8, 15]), ([8], [8]), ([16, 17, 8], [8, 16, 17]), ([8, 18], [8, 18]), ([19, 8], [19])])
def stacktext_encoder_values.B10 : List Nat := [0, 1, 0, 4, 12, 28, 60, 127, 255, 511, 1023, 2047, 4095, 511, 8703, 32767, 65535, 511, 262143, 524287, 1048575]
theorem stacktext_encoder_values.tab10 : rtab .any (opsOf Tryd.f81 10) = stacktext_encoder_values.T10 := by kernel_rfl
theorem stacktext_encoder_values.bits10 : waitsOk stacktext_encoder_values.T10.2 stacktext_encoder_values.B10 = true := by kernel_rfl
def stacktext_encoder_values.T11 : Bool × List (List Nat × List Nat) := (true, [([], []), ([], []), ([1], [1]), ([0, 2], [0, 2]), ([], []), ([], []), ([5], [5]), ([6], [6]), ([], []), ([7, 8], [7, 8]), ([9], [9]), ([4, 10, 3], [4, 10]), ([3, 11, 0, 1, 2, 3], [0, 3]), ([11, 12, 0, 1, 2, 3, 4, 5, 6, 7, 8, 9, 10, 11, 12], [4, 11])])
def stacktext_encoder_values.B11 : List Nat := [0, 0, 2, 7, 0, 0, 32, 96, 0, 480, 992, 2047, 4095, 8191]
theorem stacktext_encoder_values.tab11 : rtab .any (opsOf Tryd.f81 11) = stacktext_encoder_values.T11 := by kernel_rfl
theorem stacktext_encoder_values.bits11 : waitsOk stacktext_encoder_values.T11.2 stacktext_encoder_values.B11 = true := by kernel_rfl
set_option maxHeartbeats 8000000 in
set_option maxRecDepth 100000 in
theorem stacktext_encoder_values.calls (k : Nat) (g : Nat) (s0_0 : List Int) (s0_1 : Option Nat) (a1_0 : Int) (a1_1 : Int) (a1_2 : Int) (r1 : List Int) (r2 : List (S58)) (r3 : Option Nat) (w0 w : World) (hI : IsS65 w0 w g s0_0 s0_1) (hB : Below w0.heap.size w0 w) (h : stacktext_encoder_values.f k s0_0 s0_1 a1_0 a1_1 a1_2 = some (r1, r2, r3)) :
  Calls Tryd.prog 81 #[.pointer (some ⟨g, 0, none⟩), .agg #[.int .i64 a1_0, .int .i64 a1_1, .int .i64 a1_2]] w fun e w' => ∃ v0_ v1_ : Value, e = .returned (.tuple #[v0_, v1_]) ∧ Kd.R (Kd.int .i64) 3 w' w.heap.size (fun _ => True) v0_ r1 ∧ Kd.R k58 58 w' w.heap.size (fun _ => True) v1_ r2 ∧ IsS65 w0 w' g s0_0 r3 ∧ Below w0.heap.size w0 w' ∧ KeepBut w w' g none := by
 have hu58 := Tryd.underlying58
 have hu56 := Tryd.underlying56
 have HI0 := am hI
 have HK := am (KeepBut.refl w g none)
 have HL := am hB.size
 clear hI
 have HW0 := am hB.size
 have HB := am hB
 clear hB
 have H : (stacktext_encoder_values.l0 k ([] : List Int) ([] : List (S58)) 0 s0_0 s0_1 a1_0 a1_1 a1_2) = some (r1, r2, r3) := h
 clear h
 have H' := am H
 clear H
 go_enter Tryd.func81, Tryd.ntmps81
 go_wp2_with (first | ((with_reducible refine gate_dst (N := 3) rfl ?_); refine box_event ?hg (N := 3) ?hd (cs := #[.int .i64 a1_0, .int .i64 a1_1, .int .i64 a1_2]) (t := 58) ?hr ?_; (case hd => rfl); (case hg => rfl); (case hr => first | (go_simp; done) | (go_simp; rfl)); intro gb110 hg w3 hbox hb; have n0_ := am (IsS65.below (iS0 HI0.out) hb); have n1_ := am (KeepBut.trans (kB0 HK.out) (KeepBut.of_below hb g none) (.inl rfl)); have n2_ := am (below_step (bA1 HB.out (IsS65.ge HI0.out)) hb); have n3_ := am (hbox); have n4_ := am ((by rw [hg]; exact (keep_size (w := w) (g := g) (row := none) (kB0 HK.out)) : w.heap.size ≤ gb110)); have n5_ := am ((Nat.le_trans HW0.out (by rw [hg]; exact (keep_size (w := w) (g := g) (row := none) (kB0 HK.out)) : w.heap.size ≤ gb110) : w0.heap.size ≤ gb110)); have n6_ := am ((by rw [hg]; exact Nat.ne_of_lt (IsS65.lt (show IsS65 w0 _ g s0_0 s0_1 from by repeat (first | (with_reducible first | exact HI0.out | apply IsS65.alloc | apply IsS65.drewN | apply IsS65.drew | apply IsS65.set_1) | exact HI0.out))) : g ≠ gb110)); have n7_ := am ((by rw [hg]; exact Nat.ne_of_gt (IsS65.lt (show IsS65 w0 _ g s0_0 s0_1 from by repeat (first | (with_reducible first | exact HI0.out | apply IsS65.alloc | apply IsS65.drewN | apply IsS65.drew | apply IsS65.set_1) | exact HI0.out))) : gb110 ≠ g)); clear HI0; clear HK; clear HB; have HI0 := n0_; have HK := n1_; have HB := n2_; have BK110 := n3_; have GW110 := n4_; have GE110 := n5_; have NB0_110 := n6_; have NB110_0 := n7_; clear n0_ n1_ n2_ n3_ n4_ n5_ n6_ n7_; clear hb hbox hg))
 go_loopg [6, 7, 13] k (fun kq v6 v7 v13 w' => ∃ (x6_1 : List Int) (x7_1 : List (S58)) (x13_1 : Int), v13 = .int .i64 x13_1 ∧ Aside0 (stacktext_encoder_values.l0 kq x6_1 x7_1 x13_1 s0_0 s0_1 a1_0 a1_1 a1_2 = some (r1, r2, r3)) ∧ Aside0 (kq ≤ k) ∧ Aside0 (Kd.R (Kd.int .i64) 3 w' w.heap.size (fun _ => True) v6 x6_1) ∧ Aside0 (Kd.R k58 58 w' w.heap.size (fun k_ => k_ ≠ gb110) v7 x7_1) ∧ Aside0 (w'.heap[gb110]? = some (.cells #[.int .i64 a1_0, .int .i64 a1_1, .int .i64 a1_2] 58 (0, 0))) ∧ Aside0 (IsS65 w0 w' g s0_0 s0_1) ∧ Aside0 (KeepBut w w' g none) ∧ Aside0 (Below w0.heap.size w0 w'))
 case atStart => exact ⟨(([] : List Int)), (([] : List (S58))), (0), (by first | rfl | (simp; done) | (simp [*]; done)), H', ⟨Nat.le_refl _⟩, ⟨by first | exact Kd.R_nil _ _ _ _ _ | exact Kd.N_nil _ _ _ _ _ | exact Kd.V_nil _ _ _ _ _ | exact Kd.Q_nil _ _ _ _ _ | exact Kd.S_nil _ _ _ _ _⟩, ⟨by first | exact Kd.R_nil _ _ _ _ _ | exact Kd.N_nil _ _ _ _ _ | exact Kd.V_nil _ _ _ _ _ | exact Kd.Q_nil _ _ _ _ _ | exact Kd.S_nil _ _ _ _ _⟩, ⟨by (with_reducible repeat (first | refine blk_drewN ?_ _ | refine blk_drew ?_ | refine blk_alloc ?_ _)); exact BK110.out⟩, ⟨by repeat (first | (with_reducible first | exact HI0.out | apply IsS65.alloc | apply IsS65.drewN | apply IsS65.drew | apply IsS65.set_1 | refine IsS65.far ?_ NB0_110.out _) | exact HI0.out)⟩, ⟨by repeat (first | (with_reducible first | exact HK.out | apply KeepBut.set_ | apply keep_drewN | apply keep_drew | apply keep_alloc | refine keep_far ?_ GW110.out _) | exact HK.out)⟩, ⟨by repeat (first | (with_reducible first | exact HB.out | apply below_alloc | apply pw_below_drewN | apply below_drew1 | refine below_set ?_ (IsS65.ge HI0.out) | refine below_set ?_ GE110.out) | exact HB.out)⟩⟩
 case round =>
  clear H'
  try clear p2
  obtain ⟨x6_1, x7_1, x13_1, rfl, HA, HK1, HO_6, HO_7, BK110, HI0, HK, HB⟩ := hrel
  cases gk with
  | zero => exact absurd HA.out (by simp [stacktext_encoder_values.l0])
  | succ k1 =>
   have H := HA.out
   clear HA
   simp only [stacktext_encoder_values.l0] at H
   by_cases c4 : x13_1 < 30
   ·rw [if_pos c4] at H
    have c4b0 : decide (x13_1 < 30) = true := decide_eq_true c4
    clear c4
    replace H := Option.bind_eq_some_iff.mp H
    obtain ⟨⟨t111, t112, t113, t114, t115⟩, A50, H⟩ := H
    replace H : (if t115 = true then (if t112 = true then (if a1_0 < (s0_0.length : Int) then (if 0 ≤ a1_0 then (if (rd s0_0 a1_0) = t111 then ((some (([x13_1] : List Int) : List Int)).bind fun y118 => (if x6_1.length + y118.length < 17592186044416 then ((some (([(⟨wrap64 (a1_0 + 1), (⟨t113, t114⟩ : S56)⟩ : S58)] : List (S58)) : List (S58))).bind fun y124 => (if x7_1.length + y124.length < 5864062014805 then (stacktext_encoder_values.l0 k1 (x6_1 ++ y118) (x7_1 ++ y124) (wrap64 (x13_1 + 1)) s0_0 s0_1 a1_0 a1_1 a1_2) else (none))) else (none))) else (stacktext_encoder_values.l0 k1 x6_1 x7_1 (wrap64 (x13_1 + 1)) s0_0 s0_1 a1_0 a1_1 a1_2)) else (none)) else (stacktext_encoder_values.l0 k1 x6_1 x7_1 (wrap64 (x13_1 + 1)) s0_0 s0_1 a1_0 a1_1 a1_2)) else ((some (([x13_1] : List Int) : List Int)).bind fun y130 => (if x6_1.length + y130.length < 17592186044416 then ((some (([(⟨a1_0, (⟨t113, t114⟩ : S56)⟩ : S58)] : List (S58)) : List (S58))).bind fun y136 => (if x7_1.length + y136.length < 5864062014805 then (stacktext_encoder_values.l0 k1 (x6_1 ++ y130) (x7_1 ++ y136) (wrap64 (x13_1 + 1)) s0_0 s0_1 a1_0 a1_1 a1_2) else (none))) else (none)))) else (stacktext_encoder_values.l0 k1 x6_1 x7_1 (wrap64 (x13_1 + 1)) s0_0 s0_1 a1_0 a1_1 a1_2)) = some (r1, r2, r3) := H
    have A5 := am A50
    clear A50
    by_cases c6 : t115 = true
    ·subst c6
     have H1 : (if t112 = true then (if a1_0 < (s0_0.length : Int) then (if 0 ≤ a1_0 then (if (rd s0_0 a1_0) = t111 then ((some (([x13_1] : List Int) : List Int)).bind fun y118 => (if x6_1.length + y118.length < 17592186044416 then ((some (([(⟨wrap64 (a1_0 + 1), (⟨t113, t114⟩ : S56)⟩ : S58)] : List (S58)) : List (S58))).bind fun y124 => (if x7_1.length + y124.length < 5864062014805 then (stacktext_encoder_values.l0 k1 (x6_1 ++ y118) (x7_1 ++ y124) (wrap64 (x13_1 + 1)) s0_0 s0_1 a1_0 a1_1 a1_2) else (none))) else (none))) else (stacktext_encoder_values.l0 k1 x6_1 x7_1 (wrap64 (x13_1 + 1)) s0_0 s0_1 a1_0 a1_1 a1_2)) else (none)) else (stacktext_encoder_values.l0 k1 x6_1 x7_1 (wrap64 (x13_1 + 1)) s0_0 s0_1 a1_0 a1_1 a1_2)) else ((some (([x13_1] : List Int) : List Int)).bind fun y130 => (if x6_1.length + y130.length < 17592186044416 then ((some (([(⟨a1_0, (⟨t113, t114⟩ : S56)⟩ : S58)] : List (S58)) : List (S58))).bind fun y136 => (if x7_1.length + y136.length < 5864062014805 then (stacktext_encoder_values.l0 k1 (x6_1 ++ y130) (x7_1 ++ y136) (wrap64 (x13_1 + 1)) s0_0 s0_1 a1_0 a1_1 a1_2) else (none))) else (none)))) = some (r1, r2, r3) := by rw [if_pos rfl] at H; exact H
     clear H
     have H := H1
     clear H1
     by_cases c7 : t112 = true
     ·subst c7
      have H1 : (if a1_0 < (s0_0.length : Int) then (if 0 ≤ a1_0 then (if (rd s0_0 a1_0) = t111 then ((some (([x13_1] : List Int) : List Int)).bind fun y118 => (if x6_1.length + y118.length < 17592186044416 then ((some (([(⟨wrap64 (a1_0 + 1), (⟨t113, t114⟩ : S56)⟩ : S58)] : List (S58)) : List (S58))).bind fun y124 => (if x7_1.length + y124.length < 5864062014805 then (stacktext_encoder_values.l0 k1 (x6_1 ++ y118) (x7_1 ++ y124) (wrap64 (x13_1 + 1)) s0_0 s0_1 a1_0 a1_1 a1_2) else (none))) else (none))) else (stacktext_encoder_values.l0 k1 x6_1 x7_1 (wrap64 (x13_1 + 1)) s0_0 s0_1 a1_0 a1_1 a1_2)) else (none)) else (stacktext_encoder_values.l0 k1 x6_1 x7_1 (wrap64 (x13_1 + 1)) s0_0 s0_1 a1_0 a1_1 a1_2)) = some (r1, r2, r3) := by rw [if_pos rfl] at H; exact H
      clear H
      have H := H1
      clear H1
      by_cases c8 : a1_0 < (s0_0.length : Int)
      ·rw [if_pos c8] at H
       have c8b0 : decide (a1_0 < (s0_0.length : Int)) = true := decide_eq_true c8
       clear c8
       by_cases c9 : 0 ≤ a1_0
       ·rw [if_pos c9] at H
        have c9b0 : decide (0 ≤ a1_0) = true := decide_eq_true c9
        clear c9
        by_cases c10 : (rd s0_0 a1_0) = t111
        ·rw [if_pos c10] at H
         have c10b0 : ((rd s0_0 a1_0) == t111) = true := beq_iff_eq.mpr c10
         have c10b1 : ((rd s0_0 a1_0) != t111) = false := bne_eq_false_iff_eq.mpr c10
         clear c10
         obtain ⟨y118, hy118⟩ : ∃ y_ : List Int, y_ = (([x13_1] : List Int)) := ⟨_, rfl⟩
         replace H : (if x6_1.length + y118.length < 17592186044416 then ((some (([(⟨wrap64 (a1_0 + 1), (⟨t113, t114⟩ : S56)⟩ : S58)] : List (S58)) : List (S58))).bind fun y124 => (if x7_1.length + y124.length < 5864062014805 then (stacktext_encoder_values.l0 k1 (x6_1 ++ y118) (x7_1 ++ y124) (wrap64 (x13_1 + 1)) s0_0 s0_1 a1_0 a1_1 a1_2) else (none))) else (none)) = some (r1, r2, r3) := by first | (rw [hy118]; with_reducible exact H) | (have H2_ := (Option.bind_some _ _).symm.trans H; rw [hy118]; with_reducible exact H2_) | (have H2_ := (Option.bind_some _ _).symm.trans H; with_reducible exact H2_) | with_reducible exact H | (rw [hy118]; exact H) | exact H
         have Ny118 := am hy118
         clear hy118
         by_cases c11 : x6_1.length + y118.length < 17592186044416
         ·rw [if_pos c11] at H
          have LMc11 := am c11
          clear c11
          obtain ⟨y121, hy121⟩ : ∃ y_ : List Int, y_ = (x6_1 ++ y118) := ⟨_, rfl⟩
          replace H : ((some (([(⟨wrap64 (a1_0 + 1), (⟨t113, t114⟩ : S56)⟩ : S58)] : List (S58)) : List (S58))).bind fun y124 => (if x7_1.length + y124.length < 5864062014805 then (stacktext_encoder_values.l0 k1 y121 (x7_1 ++ y124) (wrap64 (x13_1 + 1)) s0_0 s0_1 a1_0 a1_1 a1_2) else (none))) = some (r1, r2, r3) := by first | (rw [hy121]; with_reducible exact H) | (have H2_ := (Option.bind_some _ _).symm.trans H; rw [hy121]; with_reducible exact H2_) | (have H2_ := (Option.bind_some _ _).symm.trans H; with_reducible exact H2_) | with_reducible exact H | (rw [hy121]; exact H) | exact H
          have Ny121 := am hy121
          clear hy121
          obtain ⟨y124, hy124⟩ : ∃ y_ : List (S58), y_ = (([(⟨wrap64 (a1_0 + 1), (⟨t113, t114⟩ : S56)⟩ : S58)] : List (S58))) := ⟨_, rfl⟩
          replace H : (if x7_1.length + y124.length < 5864062014805 then (stacktext_encoder_values.l0 k1 y121 (x7_1 ++ y124) (wrap64 (x13_1 + 1)) s0_0 s0_1 a1_0 a1_1 a1_2) else (none)) = some (r1, r2, r3) := by first | (rw [hy124]; with_reducible exact H) | (have H2_ := (Option.bind_some _ _).symm.trans H; rw [hy124]; with_reducible exact H2_) | (have H2_ := (Option.bind_some _ _).symm.trans H; with_reducible exact H2_) | with_reducible exact H | (rw [hy124]; exact H) | exact H
          have Ny124 := am hy124
          clear hy124
          by_cases c12 : x7_1.length + y124.length < 5864062014805
          ·rw [if_pos c12] at H
           have LMc12 := am c12
           clear c12
           obtain ⟨y127, hy127⟩ : ∃ y_ : List (S58), y_ = (x7_1 ++ y124) := ⟨_, rfl⟩
           replace H : (stacktext_encoder_values.l0 k1 y121 y127 (wrap64 (x13_1 + 1)) s0_0 s0_1 a1_0 a1_1 a1_2) = some (r1, r2, r3) := by first | (rw [hy127]; with_reducible exact H) | (have H2_ := (Option.bind_some _ _).symm.trans H; rw [hy127]; with_reducible exact H2_) | (have H2_ := (Option.bind_some _ _).symm.trans H; with_reducible exact H2_) | with_reducible exact H | (rw [hy127]; exact H) | exact H
           have Ny127 := am hy127
           clear hy127
           have H' := am H
           clear H
           have hnb13 := NB110_0.out
           have hnc13 := NB0_110.out
           have hcz14_0 : wr.cell? ⟨gb110, 0, none⟩ = some (.int .i64 a1_0) := (blk_cell BK110.out 0).trans rfl
           have hcz14_1 : wr.cell? ⟨gb110, 1, none⟩ = some (.int .i64 a1_1) := (blk_cell BK110.out 1).trans rfl
           have hcz14_2 : wr.cell? ⟨gb110, 2, none⟩ = some (.int .i64 a1_2) := (blk_cell BK110.out 2).trans rfl
           have hfz14_0 := blk_frozen BK110.out 0
           have hfz14_1 := blk_frozen BK110.out 1
           have hfz14_2 := blk_frozen BK110.out 2
           try go_wp2_with (first | ((with_reducible refine gate_callee (f := 73) rfl ?_); refine gL (some 20) Tryd.func73 #[.agg #[.int .i64 a1_1, .int .i64 a1_2], .int .i64 x13_1] (h := ?_); (with_reducible refine (stacktext_text_read.calls k1 a1_1 a1_2 x13_1 t111 true t113 t114 true _ A5.out).mono ?_); rintro e w15 ⟨rfl, hb⟩; refine ⟨_, rfl, ?_⟩; have n0_ := am (Kd.R_below (rA HO_6.out) hb); have n1_ := am (Kd.R_below (rA HO_7.out) hb); have n2_ := am (blk_below (g := gb110) (o := .cells #[.int .i64 a1_0, .int .i64 a1_1, .int .i64 a1_2] 58 (0, 0)) (kA BK110.out) hb); have n3_ := am (IsS65.below (iS1 HI0.out NB0_110.out) hb); have n4_ := am (KeepBut.trans (kB1 HK.out GW110.out) (KeepBut.of_below hb g none) (.inl rfl)); have n5_ := am (below_step (bA2 HB.out (IsS65.ge HI0.out) GE110.out) hb); clear HO_6; clear HO_7; clear BK110; clear HI0; clear HK; clear HB; have HO_6 := n0_; have HO_7 := n1_; have BK110 := n2_; have HI0 := n3_; have HK := n4_; have HB := n5_; clear n0_ n1_ n2_ n3_ n4_ n5_; (try clear hb); (try clear hb2); (try clear hk); (try clear hi)) | ((with_reducible refine gate_dst (N := 11) rfl ?_); refine box_event ?hg (N := 11) ?hd (cs := #[.int .i64 0, .int .i64 0]) (t := 56) ?hr ?_; (case hd => rfl); (case hg => rfl); (case hr => first | (go_simp; done) | (go_simp; rfl)); intro gb116 hg w16 hbox hb; have n0_ := am (Kd.R_below (rA HO_6.out) hb); have n1_ := am (Kd.R_below (rA HO_7.out) hb); have n2_ := am (blk_below (g := gb110) (o := .cells #[.int .i64 a1_0, .int .i64 a1_1, .int .i64 a1_2] 58 (0, 0)) (kA BK110.out) hb); have n3_ := am (IsS65.below (iS1 HI0.out NB0_110.out) hb); have n4_ := am (KeepBut.trans (kB1 HK.out GW110.out) (KeepBut.of_below hb g none) (.inl rfl)); have n5_ := am (below_step (bA2 HB.out (IsS65.ge HI0.out) GE110.out) hb); have n6_ := am (hbox); have n7_ := am ((by rw [hg]; exact (keep_size (w := w) (g := g) (row := none) (kB1 HK.out GW110.out)) : w.heap.size ≤ gb116)); have n8_ := am ((Nat.le_trans HW0.out (by rw [hg]; exact (keep_size (w := w) (g := g) (row := none) (kB1 HK.out GW110.out)) : w.heap.size ≤ gb116) : w0.heap.size ≤ gb116)); have n9_ := am ((by rw [hg]; exact Nat.ne_of_lt (blk_lt (g := gb110) (o := .cells #[.int .i64 a1_0, .int .i64 a1_1, .int .i64 a1_2] 58 (0, 0)) (kA BK110.out)) : gb110 ≠ gb116)); have n10_ := am ((by rw [hg]; exact Nat.ne_of_gt (blk_lt (g := gb110) (o := .cells #[.int .i64 a1_0, .int .i64 a1_1, .int .i64 a1_2] 58 (0, 0)) (kA BK110.out)) : gb116 ≠ gb110)); have n11_ := am ((by rw [hg]; exact Nat.ne_of_lt (IsS65.lt (show IsS65 w0 _ g s0_0 s0_1 from by repeat (first | (with_reducible first | exact HI0.out | apply IsS65.alloc | apply IsS65.drewN | apply IsS65.drew | apply IsS65.set_1 | refine IsS65.far ?_ NB0_110.out _) | exact HI0.out))) : g ≠ gb116)); have n12_ := am ((by rw [hg]; exact Nat.ne_of_gt (IsS65.lt (show IsS65 w0 _ g s0_0 s0_1 from by repeat (first | (with_reducible first | exact HI0.out | apply IsS65.alloc | apply IsS65.drewN | apply IsS65.drew | apply IsS65.set_1 | refine IsS65.far ?_ NB0_110.out _) | exact HI0.out))) : gb116 ≠ g)); clear HO_6; clear HO_7; clear BK110; clear HI0; clear HK; clear HB; have HO_6 := n0_; have HO_7 := n1_; have BK110 := n2_; have HI0 := n3_; have HK := n4_; have HB := n5_; have BK116 := n6_; have GW116 := n7_; have GE116 := n8_; have NB110_116 := n9_; have NB116_110 := n10_; have NB0_116 := n11_; have NB116_0 := n12_; clear n0_ n1_ n2_ n3_ n4_ n5_ n6_ n7_ n8_ n9_ n10_ n11_ n12_; clear hb hbox hg; have hnb17 := NB116_110.out; have hnc17 := NB110_116.out; have hnb18 := NB116_0.out; have hnc18 := NB0_116.out; have hcz19_0 : w16.cell? ⟨gb116, 0, none⟩ = some (.int .i64 0) := (blk_cell BK116.out 0).trans rfl; have hcz19_1 : w16.cell? ⟨gb116, 1, none⟩ = some (.int .i64 0) := (blk_cell BK116.out 1).trans rfl; have hfz19_0 := blk_frozen BK116.out 0; have hfz19_1 := blk_frozen BK116.out 1))
           have n0_ : Aside0 (Kd.R (Kd.int .i64) 3 ((w16.setCell ⟨gb116, 0, none⟩ (.int .i64 t113)).setCell ⟨gb116, 1, none⟩ (.int .i64 t114)) w.heap.size (fun _ => True) u6 x6_1) := ⟨by (with_reducible repeat (first | apply Kd.R_alloc | apply Kd.R_drewN | apply Kd.R_drew)); exact Kd.R_mono (Kd.R_far (p := ⟨gb116, 1, none⟩) (Kd.R_far (p := ⟨gb116, 0, none⟩) (Kd.R_types HO_6.out BK116.out (by decide)) (fun _ hk => hk.2) (.int .i64 t113)) (fun _ hk => hk.2) (.int .i64 t114)) (fun _ hk => trivial)⟩
           have n1_ : Aside0 (Kd.R k58 58 ((w16.setCell ⟨gb116, 0, none⟩ (.int .i64 t113)).setCell ⟨gb116, 1, none⟩ (.int .i64 t114)) w.heap.size (fun k_ => k_ ≠ gb110) u7 x7_1) := ⟨by (with_reducible repeat (first | apply Kd.R_alloc | apply Kd.R_drewN | apply Kd.R_drew)); exact Kd.R_mono (Kd.R_far (p := ⟨gb116, 1, none⟩) (Kd.R_far (p := ⟨gb116, 0, none⟩) (Kd.R_types HO_7.out BK116.out (by decide)) (fun _ hk => hk.2) (.int .i64 t113)) (fun _ hk => hk.2) (.int .i64 t114)) (fun _ hk => hk.1)⟩
           have n2_ : Aside0 (((w16.setCell ⟨gb116, 0, none⟩ (.int .i64 t113)).setCell ⟨gb116, 1, none⟩ (.int .i64 t114)).heap[gb110]? = some (.cells #[.int .i64 a1_0, .int .i64 a1_1, .int .i64 a1_2] 58 (0, 0))) := ⟨by (with_reducible repeat (first | refine blk_drewN ?_ _ | refine blk_drew ?_ | refine blk_alloc ?_ _)); refine blk_far ?_ NB110_116.out _; (with_reducible repeat (first | refine blk_drewN ?_ _ | refine blk_drew ?_ | refine blk_alloc ?_ _)); refine blk_far ?_ NB110_116.out _; (with_reducible repeat (first | refine blk_drewN ?_ _ | refine blk_drew ?_ | refine blk_alloc ?_ _)); exact BK110.out⟩
           have n3_ : Aside0 (((w16.setCell ⟨gb116, 0, none⟩ (.int .i64 t113)).setCell ⟨gb116, 1, none⟩ (.int .i64 t114)).heap[gb116]? = some (.cells #[.int .i64 t113, .int .i64 t114] 56 (0, 0))) := ⟨by (with_reducible repeat (first | refine blk_drewN ?_ _ | refine blk_drew ?_ | refine blk_alloc ?_ _)); refine blk_put (cs := #[.int .i64 t113, .int .i64 0]) ?_ 1 _ rfl; (with_reducible repeat (first | refine blk_drewN ?_ _ | refine blk_drew ?_ | refine blk_alloc ?_ _)); refine blk_put (cs := #[.int .i64 0, .int .i64 0]) ?_ 0 _ rfl; (with_reducible repeat (first | refine blk_drewN ?_ _ | refine blk_drew ?_ | refine blk_alloc ?_ _)); exact BK116.out⟩
           have n4_ : Aside0 (IsS65 w0 ((w16.setCell ⟨gb116, 0, none⟩ (.int .i64 t113)).setCell ⟨gb116, 1, none⟩ (.int .i64 t114)) g s0_0 s0_1) := ⟨by repeat (first | (with_reducible first | exact HI0.out | apply IsS65.alloc | apply IsS65.drewN | apply IsS65.drew | apply IsS65.set_1 | refine IsS65.far ?_ NB0_110.out _ | refine IsS65.far ?_ NB0_116.out _) | exact HI0.out)⟩
           have n5_ : Aside0 (KeepBut w ((w16.setCell ⟨gb116, 0, none⟩ (.int .i64 t113)).setCell ⟨gb116, 1, none⟩ (.int .i64 t114)) g none) := ⟨by repeat (first | (with_reducible first | exact HK.out | apply KeepBut.set_ | apply keep_drewN | apply keep_drew | apply keep_alloc | refine keep_far ?_ GW110.out _ | refine keep_far ?_ GW116.out _) | exact HK.out)⟩
           have n6_ : Aside0 (Below w0.heap.size w0 ((w16.setCell ⟨gb116, 0, none⟩ (.int .i64 t113)).setCell ⟨gb116, 1, none⟩ (.int .i64 t114))) := ⟨by repeat (first | (with_reducible first | exact HB.out | apply below_alloc | apply pw_below_drewN | apply below_drew1 | refine below_set ?_ (IsS65.ge HI0.out) | refine below_set ?_ GE110.out | refine below_set ?_ GE116.out) | exact HB.out)⟩
           (try clear HO_6)
           (try clear HO_7)
           (try clear BK110)
           (try clear BK116)
           (try clear HI0)
           (try clear HK)
           (try clear HB)
           generalize ((w16.setCell ⟨gb116, 0, none⟩ (.int .i64 t113)).setCell ⟨gb116, 1, none⟩ (.int .i64 t114)) = w20 at n0_ n1_ n2_ n3_ n4_ n5_ n6_ ⊢
           have HO_6 := n0_
           have HO_7 := n1_
           have BK110 := n2_
           have BK116 := n3_
           have HI0 := n4_
           have HK := n5_
           have HB := n6_
           clear n0_ n1_ n2_ n3_ n4_ n5_ n6_
           have n0_ := am (Kd.R_drew HO_6.out)
           have n1_ := am (Kd.R_drew HO_7.out)
           have n2_ := am (blk_drew BK110.out)
           have n3_ := am (blk_drew BK116.out)
           have n4_ := am (IsS65.drew HI0.out)
           have n5_ := am (keep_drew HK.out)
           have n6_ := am (below_drew1 HB.out)
           clear HO_6
           clear HO_7
           clear BK110
           clear BK116
           clear HI0
           clear HK
           clear HB
           have HO_6 := n0_
           have HO_7 := n1_
           have BK110 := n2_
           have BK116 := n3_
           have HI0 := n4_
           have HK := n5_
           have HB := n6_
           clear n0_ n1_ n2_ n3_ n4_ n5_ n6_
           obtain ⟨ASz22_0, cSz22_0, HGz22, hgz22, HSz22_0⟩ := HI0.out
           have hcz22_0 := cellS65_0 HGz22
           have hcz22_1 := cellS65_1 HGz22
           have hfz22_1 := blk_frozen HGz22 1
           clear HGz22 hgz22
           have p117 : 0 ≤ (a1_0 : Int) := of_decide_eq_true (by first | (with_reducible assumption) | assumption)
           have q117 : a1_0 < (s0_0.length : Int) := of_decide_eq_true (by first | (with_reducible assumption) | assumption)
           obtain ⟨ad117, e117, hx117_0⟩ := Kd.at_int HSz22_0 a1_0 p117 q117
           have hw117_0 := hx117_0
           cases e117
           replace hx117_0 := pw_cell_below HB.out hx117_0
           replace p117 := eq_true p117
           replace q117 := eq_true q117
           refine start_ (n := 21) (S := fun w' => w'.cell? ⟨gb110, 0, none⟩ = some (.int .i64 a1_0) ∧ w'.cell? ⟨gb110, 1, none⟩ = some (.int .i64 a1_1) ∧ w'.cell? ⟨gb110, 2, none⟩ = some (.int .i64 a1_2) ∧ w'.cell? ⟨g, 0, none⟩ = some (.slice (some ad117) s0_0.length (s0_0.length + cSz22_0)) ∧ w'.cell? ⟨g, 1, none⟩ = some (.map s0_1) ∧ w'.cell? (ad117.add (a1_0).toNat) = some (.int .u8 (rd s0_0 a1_0))) (ds := []) (bs 21 0) (by kernel_rfl) rfl rfl ⟨(blk_cell BK110.out 0).trans rfl, (blk_cell BK110.out 1).trans rfl, (blk_cell BK110.out 2).trans rfl, hcz22_0, hcz22_1, ((HB.out.cell (World.block_lt_of_cell? _ _ hw117_0)).trans hw117_0)⟩ (fun hHeld => ?_); refine with_tabW stacktext_encoder_values.tab10 stacktext_encoder_values.bits10 (fun HT_ HW_ => ?_)
           generalize w20.drew = w21 at HO_6 HO_7 BK110 BK116 HI0 HK HB hx117_0 hHeld ⊢
           refine pS 0 (some 43) (bs 21 1) (h := ?_)
           refine pS 2 (some 45) (bs 21 5) (h := ?_)
           refine pS 3 (some 46) (bs 21 13) (h := ?_)
           refine pS 4 (some 47) (bs 21 29) (h := ?_)
           refine tS 1 (some 44) (bs 21 31) hHeld (h := ?_)
           refine tS 5 (some 48) (bs 21 63) hHeld (h := ?_)
           refine pS 6 (some 49) (bs 21 127) (h := ?_)
           refine pS 7 (some 50) (bs 21 255) (h := ?_)
           refine pS 8 (some 51) (bs 21 511) (h := ?_)
           refine pS 9 (some 52) (bs 21 1023) (h := ?_)
           refine pS 10 (some 53) (bs 21 2047) (h := ?_)
           refine pS 11 (some 54) (bs 21 4095) (h := ?_)
           refine pS 13 (some 56) (bs 21 12287) (h := ?_)
           refine pS 17 (some 60) (bs 21 143359) (h := ?_)
           refine tS 12 (some 55) (bs 21 147455) hHeld (h := ?_)
           refine tS 14 (some 57) (bs 21 163839) hHeld (h := ?_)
           refine pS 15 (some 58) (bs 21 196607) (h := ?_)
           refine tS 16 (some 59) (bs 21 262143) hHeld (h := ?_)
           refine pS 18 (some 61) (bs 21 524287) (h := ?_)
           refine pS 19 (some 62) (bs 21 1048575) (h := ?_)
           refine pS 20 (some 42) (bs 21 2097151) (h := ?_)
           refine done_ (done_of HT_.out (by kernel_rfl)) ?_
           obtain ⟨Ao23, co23, eo23⟩ := Kd.R_slice HO_6.out
           subst eo23
           obtain ⟨Ao24, co24, eo24⟩ := Kd.R_slice HO_7.out
           subst eo24
           try go_wp2
           have n0_ := am (Kd.R_drew HO_6.out)
           have n1_ := am (Kd.R_drew HO_7.out)
           have n2_ := am (blk_drew BK110.out)
           have n3_ := am (blk_drew BK116.out)
           have n4_ := am (IsS65.drew HI0.out)
           have n5_ := am (keep_drew HK.out)
           have n6_ := am (below_drew1 HB.out)
           clear HO_6
           clear HO_7
           clear BK110
           clear BK116
           clear HI0
           clear HK
           clear HB
           have HO_6 := n0_
           have HO_7 := n1_
           have BK110 := n2_
           have BK116 := n3_
           have HI0 := n4_
           have HK := n5_
           have HB := n6_
           clear n0_ n1_ n2_ n3_ n4_ n5_ n6_
           refine start_ (n := 14) (S := fun w' => w'.cell? ⟨gb110, 0, none⟩ = some (.int .i64 a1_0) ∧ w'.cell? ⟨gb110, 1, none⟩ = some (.int .i64 a1_1) ∧ w'.cell? ⟨gb110, 2, none⟩ = some (.int .i64 a1_2) ∧ w'.cell? ⟨gb116, 0, none⟩ = some (.int .i64 t113) ∧ w'.cell? ⟨gb116, 1, none⟩ = some (.int .i64 t114)) (ds := []) (bs 14 0) (by kernel_rfl) rfl rfl ⟨(blk_cell BK110.out 0).trans rfl, (blk_cell BK110.out 1).trans rfl, (blk_cell BK110.out 2).trans rfl, (blk_cell BK116.out 0).trans rfl, (blk_cell BK116.out 1).trans rfl⟩ (fun hHeld => ?_); refine with_tabW stacktext_encoder_values.tab11 stacktext_encoder_values.bits11 (fun HT_ HW_ => ?_)
           generalize w21.drew = w25 at HO_6 HO_7 BK110 BK116 HI0 HK HB hHeld ⊢
           refine pS 0 (some 63) (bs 14 1) (h := ?_)
           refine pS 1 (some 64) (bs 14 3) (h := ?_)
           refine pS 4 (some 67) (bs 14 19) (h := ?_)
           refine pS 5 (some 68) (bs 14 51) (h := ?_)
           refine tS 6 (some 69) (bs 14 115) hHeld (h := ?_)
           refine pS 7 (some 70) (bs 14 243) (h := ?_)
           refine tS 8 (some 71) (bs 14 499) hHeld (h := ?_)
           refine pS 9 (some 72) (bs 14 1011) (h := ?_)
           refine join_ (σ := Value × Value × Value) 3 #[true, true, true, true, true, true, true, true, true, true, true, false, false, false] (fun s_ => [(65, s_.1), (66, s_.2.1), (73, s_.2.2)]) (fun s_ w' => (w'.cell? ⟨gb110, 0, none⟩ = some (.int .i64 a1_0) ∧ w'.cell? ⟨gb110, 1, none⟩ = some (.int .i64 a1_1) ∧ w'.cell? ⟨gb110, 2, none⟩ = some (.int .i64 a1_2) ∧ w'.cell? ⟨gb116, 0, none⟩ = some (.int .i64 t113) ∧ w'.cell? ⟨gb116, 1, none⟩ = some (.int .i64 t114)) ∧ (Kd.R (Kd.int .i64) 3 w' w.heap.size (fun k_ => some k_ ≠ (s_.2.1 : Value).ownBlock) s_.1 y118) ∧ (Kd.R (Kd.int .i64) 3 w' w.heap.size (fun k_ => some k_ ≠ (s_.1 : Value).ownBlock) s_.2.1 y121) ∧ (Kd.R k58 58 w' w.heap.size (fun k_ => some k_ ≠ (.slice Ao24 x7_1.length co24 : Value).ownBlock ∧ k_ ≠ gb110) s_.2.2 y124) ∧ (Kd.R k58 58 w' w.heap.size (fun k_ => some k_ ≠ (s_.2.2 : Value).ownBlock ∧ k_ ≠ gb110) (.slice Ao24 x7_1.length co24) x7_1) ∧ (w'.heap[gb110]? = some (.cells #[.int .i64 a1_0, .int .i64 a1_1, .int .i64 a1_2] 58 (0, 0))) ∧ (w'.heap[gb116]? = some (.cells #[.int .i64 t113, .int .i64 t114] 56 (0, 0))) ∧ (IsS65 w0 w' g s0_0 s0_1) ∧ (KeepBut w w' g none) ∧ (Below w0.heap.size w0 w')) ?_ ?_
           rotate_left
           ·intro hCont
            refine two_ (i := 2) (j := 10) (Ni := some 65) (Nj := some 73) (bs 14 1015) #[true, true, false, false, true, true, true, true, true, true, true, false, false, false] rfl rfl rfl rfl (two_of HT_.out (by kernel_rfl)) (by decide) (by decide) (fun K hK => ?_) (fun K hK => ?_)
            ·skip
             refine Kd.R_lit_step (Kd.int .i64) _ 3 ?hg (N := 65) ?hd (xs := ([x13_1] : List Int)) (inner := [.int .i64 x13_1]) (ok := fun _ => True) (okp := fun _ => True) ?hr ?hp (fun _ hk => hk) trivial (Below.refl _ _) (Nat.le_refl _) (by simp) ?_; (case hd => rfl); (case hg => rfl); (case hr => first | (go_simp; done) | (go_simp; rfl)); (case hp => exact (Reps.one (show Kd.M (Kd.int .i64) _ _ _ x13_1 [.int .i64 x13_1] from rfl) (Reps.none _ _)))
             intro v119 w26 ho27 hb hg_ hnew_
             clear hg_ hnew_
             (first | rw [← Ny118.out] at ho27 | (simp only [Int.reduceToNat] at ho27; rw [← Ny118.out] at ho27))
             have n0_ := am (Kd.R_elder' (rA HO_6.out) (Kd.R_base ho27) hb)
             have n1_ := am (Kd.R_below (rA HO_7.out) hb)
             have n2_ := am (Kd.R_lower (Kd.R_new' ho27 (Kd.R_lt (rA HO_6.out))) (keep_size (w := w) (g := g) (row := none) (kB2 HK.out GW110.out GW116.out)))
             have n3_ := am (blk_below (g := gb110) (o := .cells #[.int .i64 a1_0, .int .i64 a1_1, .int .i64 a1_2] 58 (0, 0)) (kA BK110.out) hb)
             have n4_ := am (IsS65.below (iS2 HI0.out NB0_110.out NB0_116.out) hb)
             have n5_ := am (blk_below (g := gb116) (o := .cells #[.int .i64 t113, .int .i64 t114] 56 (0, 0)) (kA BK116.out) hb)
             have n6_ := am (KeepBut.trans (kB2 HK.out GW110.out GW116.out) (KeepBut.of_below hb g none) (.inl rfl))
             have n7_ := am (below_step (bA3 HB.out (IsS65.ge HI0.out) GE110.out GE116.out) hb)
             clear HO_6
             clear HO_7
             clear BK110
             clear HI0
             clear BK116
             clear HK
             clear HB
             have HO_6 := n0_
             have HO_7 := n1_
             have HO120 := n2_
             have BK110 := n3_
             have HI0 := n4_
             have BK116 := n5_
             have HK := n6_
             have HB := n7_
             clear n0_ n1_ n2_ n3_ n4_ n5_ n6_ n7_
             clear hb ho27
             obtain ⟨Ao29, co29, eo29⟩ := Kd.R_slice HO120.out
             (first | subst eo29 | (injection eo29 with f1_ f2_ f3_; have f4_ := f1_.symm; have f5_ := f3_.symm; clear f1_ f2_ f3_; subst f4_; subst f5_))
             refine hK.out _ _ ⟨(blk_cell BK110.out 0).trans rfl, (blk_cell BK110.out 1).trans rfl, (blk_cell BK110.out 2).trans rfl, (blk_cell BK116.out 0).trans rfl, (blk_cell BK116.out 1).trans rfl⟩ (fun hHeld => ?_)
             clear hK K
             refine norm_ (a' := ?_) ?_ ?_
             rotate_left
             ·show Act.put _ (some 65) _ = _
              simp only [Act.put, List.setIfInBounds_toArray, List.set_cons_zero, List.set_cons_succ, i64_w, i32_w]
              rfl
             refine two_ (i := 3) (j := 10) (Ni := some 66) (Nj := some 73) (bs 14 1023) #[true, true, true, false, true, true, true, true, true, true, true, false, false, false] rfl rfl rfl rfl (two_of HT_.out (by kernel_rfl)) (by decide) (by decide) (fun K hK => ?_) (fun K hK => ?_)
             ·skip
              refine Kd.R_append_rows_step (Kd.int .i64) w.heap.size (by rfl) (.tmp 63) (.tmp 65) 22 3 (.int .i64 0) 8 rfl Tryd.underlying22 info3 rfl (by decide) (by omega) (.slice Ao23 x6_1.length co23) x6_1 y118 _ _ _ (fun k_ => some k_ ≠ (.slice Ao29 y118.length co29 : Value).ownBlock) (fun _ => False) rfl rfl ?aO ?aR (fun _ _ h => h) (fun _ h => h.elim) ?aF (Below.refl _ _) ?aS ?aL ?_
              (case aR => repeat (first | exact (Kd.R_reads' HO120.out).2.2 | (with_reducible refine Kd.C_alloc ?_ _) | (with_reducible refine Kd.C_drewN ?_ _) | (with_reducible refine Kd.C_drew ?_)))
              (case aF => exact (fun k_ hk => Kd.fresh' (Kd.R_lt (rA HO120.out)) k_ hk))
              (case aO => exact (by (with_reducible repeat (first | apply Kd.R_alloc | apply Kd.R_drewN | apply Kd.R_drew)); exact Kd.R_mono HO_6.out (fun _ hk => hk.2)))
              (case aS => exact (keep_size (w := w) (g := g) (row := none) (kB2 HK.out GW110.out GW116.out)))
              (case aL => have := LMc11.out; omega)
              intro v122 w28 ho hb hg hat
              rw [← Ny121.out] at ho
              have n0_ := am (Kd.R_over' (rA HO_7.out) (Kd.R_typed (rA HO_6.out)) (by decide) hg)
              have n1_ := am (blk_grown (g := gb110) (o := .cells #[.int .i64 a1_0, .int .i64 a1_1, .int .i64 a1_2] 58 (0, 0)) (kA BK110.out) hg (Kd.R_ne HO_6.out BK110.out (by decide)))
              have n2_ := am (IsS65.grown (iS2 HI0.out NB0_110.out NB0_116.out) hg (IsS65.own_ne HI0.out HO_6.out (by decide)))
              have n3_ := am (blk_grown (g := gb116) (o := .cells #[.int .i64 t113, .int .i64 t114] 56 (0, 0)) (kA BK116.out) hg (Kd.R_ne HO_6.out BK116.out (by decide)))
              have n4_ := am (Kd.R_after (ok := (fun _ => True)) (rA HO120.out) hg hat)
              have n5_ := am (below_weaken (bA3 HB.out (IsS65.ge HI0.out) GE110.out GE116.out) HL.out hb)
              have n6_ := am (KeepBut.trans (kB2 HK.out GW110.out GW116.out) (KeepBut.of_grown hg g) (Kd.R_base2 HO_6.out))
              have n7_ := am (ho)
              clear HO_7
              clear BK110
              clear HI0
              clear BK116
              clear HO120
              clear HB
              clear HK
              clear HO_6
              have HO_7 := n0_
              have BK110 := n1_
              have HI0 := n2_
              have BK116 := n3_
              have HO120 := n4_
              have HB := n5_
              have HK := n6_
              have HO123 := n7_
              clear n0_ n1_ n2_ n3_ n4_ n5_ n6_ n7_
              clear ho hb hg hat
              refine hK.out _ _ ⟨(blk_cell BK110.out 0).trans rfl, (blk_cell BK110.out 1).trans rfl, (blk_cell BK110.out 2).trans rfl, (blk_cell BK116.out 0).trans rfl, (blk_cell BK116.out 1).trans rfl⟩ (fun hHeld => ?_)
              clear hK K
              refine norm_ (a' := ?_) ?_ ?_
              rotate_left
              ·show Act.put _ (some 66) _ = _
               simp only [Act.put, List.setIfInBounds_toArray, List.set_cons_zero, List.set_cons_succ, i64_w, i32_w]
               rfl
              refine one_ (i := 10) (N := some 73) (bs 14 2047) rfl rfl (one_of HT_.out (by kernel_rfl)) (by decide) (fun K hK => ?_)
              refine Kd.R_lit_step k58 _ 58 ?hg (N := 73) ?hd (xs := ([(⟨wrap64 (a1_0 + 1), (⟨t113, t114⟩ : S56)⟩ : S58)] : List (S58))) (inner := [.int .i64 (wrap64 (a1_0 + 1)), .int .i64 t113, .int .i64 t114]) (ok := fun _ => True) (okp := fun _ => True) ?hr ?hp (fun _ hk => hk) trivial (Below.refl _ _) (Nat.le_refl _) (by simp) ?_; (case hd => rfl); (case hg => rfl); (case hr => first | (go_simp; done) | (go_simp; rfl)); (case hp => exact (Reps.c3 (show Kd.M k58 _ _ _ (⟨wrap64 (a1_0 + 1), (⟨t113, t114⟩ : S56)⟩ : S58) [.int .i64 (wrap64 (a1_0 + 1)), .int .i64 t113, .int .i64 t114] from (k58_mkM _ _ _ (⟨wrap64 (a1_0 + 1), (⟨t113, t114⟩ : S56)⟩ : S58) )) (Reps.none _ _)))
              intro v125 w30 ho31 hb hg_ hnew_
              clear hg_ hnew_
              (first | rw [← Ny124.out] at ho31 | (simp only [Int.reduceToNat] at ho31; rw [← Ny124.out] at ho31))
              have n0_ := am (Kd.R_elder' (rA HO_7.out) (Kd.R_base ho31) hb)
              have n1_ := am (Kd.R_below (rA HO120.out) hb)
              have n2_ := am (Kd.R_below (rA HO123.out) hb)
              have n3_ := am (Kd.R_lower (Kd.R_newB (Kd.R_new' ho31 (Kd.R_lt (rA HO_7.out))) (g := gb110) (o := .cells #[.int .i64 a1_0, .int .i64 a1_1, .int .i64 a1_2] 58 (0, 0)) (kA BK110.out)) (keep_size (w := w) (g := g) (row := none) (kB2 HK.out GW110.out GW116.out)))
              have n4_ := am (blk_below (g := gb110) (o := .cells #[.int .i64 a1_0, .int .i64 a1_1, .int .i64 a1_2] 58 (0, 0)) (kA BK110.out) hb)
              have n5_ := am (IsS65.below (iS2 HI0.out NB0_110.out NB0_116.out) hb)
              have n6_ := am (blk_below (g := gb116) (o := .cells #[.int .i64 t113, .int .i64 t114] 56 (0, 0)) (kA BK116.out) hb)
              have n7_ := am (KeepBut.trans (kB2 HK.out GW110.out GW116.out) (KeepBut.of_below hb g none) (.inl rfl))
              have n8_ := am (below_step (bA3 HB.out (IsS65.ge HI0.out) GE110.out GE116.out) hb)
              clear HO_7
              clear HO120
              clear HO123
              clear BK110
              clear HI0
              clear BK116
              clear HK
              clear HB
              have HO_7 := n0_
              have HO120 := n1_
              have HO123 := n2_
              have HO126 := n3_
              have BK110 := n4_
              have HI0 := n5_
              have BK116 := n6_
              have HK := n7_
              have HB := n8_
              clear n0_ n1_ n2_ n3_ n4_ n5_ n6_ n7_ n8_
              clear hb ho31
              refine hK.out _ _ ⟨(blk_cell BK110.out 0).trans rfl, (blk_cell BK110.out 1).trans rfl, (blk_cell BK110.out 2).trans rfl, (blk_cell BK116.out 0).trans rfl, (blk_cell BK116.out 1).trans rfl⟩ (fun hHeld => ?_)
              clear hK K
              refine norm_ (a' := ?_) ?_ ?_
              rotate_left
              ·show Act.put _ (some 73) _ = _
               simp only [Act.put, List.setIfInBounds_toArray, List.set_cons_zero, List.set_cons_succ, i64_w, i32_w]
               rfl
              exact norm_ (by simp only [putAll, Act.put, List.setIfInBounds_toArray, List.set_cons_zero, List.set_cons_succ]) (hCont (.slice Ao29 y118.length co29, v122, v125) _ ⟨hHeld, (by (with_reducible repeat (first | apply Kd.R_alloc | apply Kd.R_drewN | apply Kd.R_drew)); exact Kd.R_mono HO120.out (fun _ hk => hk.2)), (rA HO123.out), (by (with_reducible repeat (first | apply Kd.R_alloc | apply Kd.R_drewN | apply Kd.R_drew)); exact Kd.R_mono HO126.out (fun _ hk => ⟨hk.1.2, hk.2⟩)), (by (with_reducible repeat (first | apply Kd.R_alloc | apply Kd.R_drewN | apply Kd.R_drew)); exact Kd.R_mono HO_7.out (fun _ hk => ⟨hk.2, hk.1⟩)), (kA BK110.out), (kA BK116.out), (iS2 HI0.out NB0_110.out NB0_116.out), (kB2 HK.out GW110.out GW116.out), (bA3 HB.out (IsS65.ge HI0.out) GE110.out GE116.out)⟩)
             ·skip
              refine Kd.R_lit_step k58 _ 58 ?hg (N := 73) ?hd (xs := ([(⟨wrap64 (a1_0 + 1), (⟨t113, t114⟩ : S56)⟩ : S58)] : List (S58))) (inner := [.int .i64 (wrap64 (a1_0 + 1)), .int .i64 t113, .int .i64 t114]) (ok := fun _ => True) (okp := fun _ => True) ?hr ?hp (fun _ hk => hk) trivial (Below.refl _ _) (Nat.le_refl _) (by simp) ?_; (case hd => rfl); (case hg => rfl); (case hr => first | (go_simp; done) | (go_simp; rfl)); (case hp => exact (Reps.c3 (show Kd.M k58 _ _ _ (⟨wrap64 (a1_0 + 1), (⟨t113, t114⟩ : S56)⟩ : S58) [.int .i64 (wrap64 (a1_0 + 1)), .int .i64 t113, .int .i64 t114] from (k58_mkM _ _ _ (⟨wrap64 (a1_0 + 1), (⟨t113, t114⟩ : S56)⟩ : S58) )) (Reps.none _ _)))
              intro v125 w28 ho29 hb hg_ hnew_
              clear hg_ hnew_
              (first | rw [← Ny124.out] at ho29 | (simp only [Int.reduceToNat] at ho29; rw [← Ny124.out] at ho29))
              have n0_ := am (Kd.R_below (rA HO_6.out) hb)
              have n1_ := am (Kd.R_elder' (rA HO_7.out) (Kd.R_base ho29) hb)
              have n2_ := am (Kd.R_below (rA HO120.out) hb)
              have n3_ := am (Kd.R_lower (Kd.R_newB (Kd.R_new' ho29 (Kd.R_lt (rA HO_7.out))) (g := gb110) (o := .cells #[.int .i64 a1_0, .int .i64 a1_1, .int .i64 a1_2] 58 (0, 0)) (kA BK110.out)) (keep_size (w := w) (g := g) (row := none) (kB2 HK.out GW110.out GW116.out)))
              have n4_ := am (blk_below (g := gb110) (o := .cells #[.int .i64 a1_0, .int .i64 a1_1, .int .i64 a1_2] 58 (0, 0)) (kA BK110.out) hb)
              have n5_ := am (IsS65.below (iS2 HI0.out NB0_110.out NB0_116.out) hb)
              have n6_ := am (blk_below (g := gb116) (o := .cells #[.int .i64 t113, .int .i64 t114] 56 (0, 0)) (kA BK116.out) hb)
              have n7_ := am (KeepBut.trans (kB2 HK.out GW110.out GW116.out) (KeepBut.of_below hb g none) (.inl rfl))
              have n8_ := am (below_step (bA3 HB.out (IsS65.ge HI0.out) GE110.out GE116.out) hb)
              clear HO_6
              clear HO_7
              clear HO120
              clear BK110
              clear HI0
              clear BK116
              clear HK
              clear HB
              have HO_6 := n0_
              have HO_7 := n1_
              have HO120 := n2_
              have HO126 := n3_
              have BK110 := n4_
              have HI0 := n5_
              have BK116 := n6_
              have HK := n7_
              have HB := n8_
              clear n0_ n1_ n2_ n3_ n4_ n5_ n6_ n7_ n8_
              clear hb ho29
              obtain ⟨Ao31, co31, eo31⟩ := Kd.R_slice HO120.out
              (first | subst eo31 | (injection eo31 with f1_ f2_ f3_; have f4_ := f1_.symm; have f5_ := f3_.symm; clear f1_ f2_ f3_; subst f4_; subst f5_))
              refine hK.out _ _ ⟨(blk_cell BK110.out 0).trans rfl, (blk_cell BK110.out 1).trans rfl, (blk_cell BK110.out 2).trans rfl, (blk_cell BK116.out 0).trans rfl, (blk_cell BK116.out 1).trans rfl⟩ (fun hHeld => ?_)
              clear hK K
              refine norm_ (a' := ?_) ?_ ?_
              rotate_left
              ·show Act.put _ (some 73) _ = _
               simp only [Act.put, List.setIfInBounds_toArray, List.set_cons_zero, List.set_cons_succ, i64_w, i32_w]
               rfl
              refine one_ (i := 3) (N := some 66) (bs 14 2047) rfl rfl (one_of HT_.out (by kernel_rfl)) (by decide) (fun K hK => ?_)
              refine Kd.R_append_rows_step (Kd.int .i64) w.heap.size (by rfl) (.tmp 63) (.tmp 65) 22 3 (.int .i64 0) 8 rfl Tryd.underlying22 info3 rfl (by decide) (by omega) (.slice Ao23 x6_1.length co23) x6_1 y118 _ _ _ (fun k_ => some k_ ≠ (.slice Ao31 y118.length co31 : Value).ownBlock) (fun _ => False) rfl rfl ?aO ?aR (fun _ _ h => h) (fun _ h => h.elim) ?aF (Below.refl _ _) ?aS ?aL ?_
              (case aR => repeat (first | exact (Kd.R_reads' HO120.out).2.2 | (with_reducible refine Kd.C_alloc ?_ _) | (with_reducible refine Kd.C_drewN ?_ _) | (with_reducible refine Kd.C_drew ?_)))
              (case aF => exact (fun k_ hk => Kd.fresh' (Kd.R_lt (rA HO120.out)) k_ hk))
              (case aO => exact (by (with_reducible repeat (first | apply Kd.R_alloc | apply Kd.R_drewN | apply Kd.R_drew)); exact Kd.R_mono HO_6.out (fun _ hk => hk.2)))
              (case aS => exact (keep_size (w := w) (g := g) (row := none) (kB2 HK.out GW110.out GW116.out)))
              (case aL => have := LMc11.out; omega)
              intro v122 w30 ho hb hg hat
              rw [← Ny121.out] at ho
              have n0_ := am (Kd.R_over' (rA HO_7.out) (Kd.R_typed (rA HO_6.out)) (by decide) hg)
              have n1_ := am (blk_grown (g := gb110) (o := .cells #[.int .i64 a1_0, .int .i64 a1_1, .int .i64 a1_2] 58 (0, 0)) (kA BK110.out) hg (Kd.R_ne HO_6.out BK110.out (by decide)))
              have n2_ := am (IsS65.grown (iS2 HI0.out NB0_110.out NB0_116.out) hg (IsS65.own_ne HI0.out HO_6.out (by decide)))
              have n3_ := am (blk_grown (g := gb116) (o := .cells #[.int .i64 t113, .int .i64 t114] 56 (0, 0)) (kA BK116.out) hg (Kd.R_ne HO_6.out BK116.out (by decide)))
              have n4_ := am (Kd.R_after (ok := (fun _ => True)) (rA HO120.out) hg hat)
              have n5_ := am (Kd.R_over' (rA HO126.out) (Kd.R_typed (rA HO_6.out)) (by decide) hg)
              have n6_ := am (below_weaken (bA3 HB.out (IsS65.ge HI0.out) GE110.out GE116.out) HL.out hb)
              have n7_ := am (KeepBut.trans (kB2 HK.out GW110.out GW116.out) (KeepBut.of_grown hg g) (Kd.R_base2 HO_6.out))
              have n8_ := am (ho)
              clear HO_7
              clear BK110
              clear HI0
              clear BK116
              clear HO120
              clear HO126
              clear HB
              clear HK
              clear HO_6
              have HO_7 := n0_
              have BK110 := n1_
              have HI0 := n2_
              have BK116 := n3_
              have HO120 := n4_
              have HO126 := n5_
              have HB := n6_
              have HK := n7_
              have HO123 := n8_
              clear n0_ n1_ n2_ n3_ n4_ n5_ n6_ n7_ n8_
              clear ho hb hg hat
              refine hK.out _ _ ⟨(blk_cell BK110.out 0).trans rfl, (blk_cell BK110.out 1).trans rfl, (blk_cell BK110.out 2).trans rfl, (blk_cell BK116.out 0).trans rfl, (blk_cell BK116.out 1).trans rfl⟩ (fun hHeld => ?_)
              clear hK K
              refine norm_ (a' := ?_) ?_ ?_
              rotate_left
              ·show Act.put _ (some 66) _ = _
               simp only [Act.put, List.setIfInBounds_toArray, List.set_cons_zero, List.set_cons_succ, i64_w, i32_w]
               rfl
              exact norm_ (by simp only [putAll, Act.put, List.setIfInBounds_toArray, List.set_cons_zero, List.set_cons_succ]) (hCont (.slice Ao31 y118.length co31, v122, v125) _ ⟨hHeld, (by (with_reducible repeat (first | apply Kd.R_alloc | apply Kd.R_drewN | apply Kd.R_drew)); exact Kd.R_mono HO120.out (fun _ hk => hk.2)), (rA HO123.out), (by (with_reducible repeat (first | apply Kd.R_alloc | apply Kd.R_drewN | apply Kd.R_drew)); exact Kd.R_mono HO126.out (fun _ hk => ⟨hk.1.2, hk.2⟩)), (by (with_reducible repeat (first | apply Kd.R_alloc | apply Kd.R_drewN | apply Kd.R_drew)); exact Kd.R_mono HO_7.out (fun _ hk => ⟨hk.2, hk.1⟩)), (kA BK110.out), (kA BK116.out), (iS2 HI0.out NB0_110.out NB0_116.out), (kB2 HK.out GW110.out GW116.out), (bA3 HB.out (IsS65.ge HI0.out) GE110.out GE116.out)⟩)
            ·skip
             refine Kd.R_lit_step k58 _ 58 ?hg (N := 73) ?hd (xs := ([(⟨wrap64 (a1_0 + 1), (⟨t113, t114⟩ : S56)⟩ : S58)] : List (S58))) (inner := [.int .i64 (wrap64 (a1_0 + 1)), .int .i64 t113, .int .i64 t114]) (ok := fun _ => True) (okp := fun _ => True) ?hr ?hp (fun _ hk => hk) trivial (Below.refl _ _) (Nat.le_refl _) (by simp) ?_; (case hd => rfl); (case hg => rfl); (case hr => first | (go_simp; done) | (go_simp; rfl)); (case hp => exact (Reps.c3 (show Kd.M k58 _ _ _ (⟨wrap64 (a1_0 + 1), (⟨t113, t114⟩ : S56)⟩ : S58) [.int .i64 (wrap64 (a1_0 + 1)), .int .i64 t113, .int .i64 t114] from (k58_mkM _ _ _ (⟨wrap64 (a1_0 + 1), (⟨t113, t114⟩ : S56)⟩ : S58) )) (Reps.none _ _)))
             intro v125 w26 ho27 hb hg_ hnew_
             clear hg_ hnew_
             (first | rw [← Ny124.out] at ho27 | (simp only [Int.reduceToNat] at ho27; rw [← Ny124.out] at ho27))
             have n0_ := am (Kd.R_below (rA HO_6.out) hb)
             have n1_ := am (Kd.R_elder' (rA HO_7.out) (Kd.R_base ho27) hb)
             have n2_ := am (Kd.R_lower (Kd.R_newB (Kd.R_new' ho27 (Kd.R_lt (rA HO_7.out))) (g := gb110) (o := .cells #[.int .i64 a1_0, .int .i64 a1_1, .int .i64 a1_2] 58 (0, 0)) (kA BK110.out)) (keep_size (w := w) (g := g) (row := none) (kB2 HK.out GW110.out GW116.out)))
             have n3_ := am (blk_below (g := gb110) (o := .cells #[.int .i64 a1_0, .int .i64 a1_1, .int .i64 a1_2] 58 (0, 0)) (kA BK110.out) hb)
             have n4_ := am (IsS65.below (iS2 HI0.out NB0_110.out NB0_116.out) hb)
             have n5_ := am (blk_below (g := gb116) (o := .cells #[.int .i64 t113, .int .i64 t114] 56 (0, 0)) (kA BK116.out) hb)
             have n6_ := am (KeepBut.trans (kB2 HK.out GW110.out GW116.out) (KeepBut.of_below hb g none) (.inl rfl))
             have n7_ := am (below_step (bA3 HB.out (IsS65.ge HI0.out) GE110.out GE116.out) hb)
             clear HO_6
             clear HO_7
             clear BK110
             clear HI0
             clear BK116
             clear HK
             clear HB
             have HO_6 := n0_
             have HO_7 := n1_
             have HO126 := n2_
             have BK110 := n3_
             have HI0 := n4_
             have BK116 := n5_
             have HK := n6_
             have HB := n7_
             clear n0_ n1_ n2_ n3_ n4_ n5_ n6_ n7_
             clear hb ho27
             refine hK.out _ _ ⟨(blk_cell BK110.out 0).trans rfl, (blk_cell BK110.out 1).trans rfl, (blk_cell BK110.out 2).trans rfl, (blk_cell BK116.out 0).trans rfl, (blk_cell BK116.out 1).trans rfl⟩ (fun hHeld => ?_)
             clear hK K
             refine norm_ (a' := ?_) ?_ ?_
             rotate_left
             ·show Act.put _ (some 73) _ = _
              simp only [Act.put, List.setIfInBounds_toArray, List.set_cons_zero, List.set_cons_succ, i64_w, i32_w]
              rfl
             refine one_ (i := 2) (N := some 65) (bs 14 2039) rfl rfl (one_of HT_.out (by kernel_rfl)) (by decide) (fun K hK => ?_)
             refine Kd.R_lit_step (Kd.int .i64) _ 3 ?hg (N := 65) ?hd (xs := ([x13_1] : List Int)) (inner := [.int .i64 x13_1]) (ok := fun _ => True) (okp := fun _ => True) ?hr ?hp (fun _ hk => hk) trivial (Below.refl _ _) (Nat.le_refl _) (by simp) ?_; (case hd => rfl); (case hg => rfl); (case hr => first | (go_simp; done) | (go_simp; rfl)); (case hp => exact (Reps.one (show Kd.M (Kd.int .i64) _ _ _ x13_1 [.int .i64 x13_1] from rfl) (Reps.none _ _)))
             intro v119 w28 ho29 hb hg_ hnew_
             clear hg_ hnew_
             (first | rw [← Ny118.out] at ho29 | (simp only [Int.reduceToNat] at ho29; rw [← Ny118.out] at ho29))
             have n0_ := am (Kd.R_elder' (rA HO_6.out) (Kd.R_base ho29) hb)
             have n1_ := am (Kd.R_below (rA HO_7.out) hb)
             have n2_ := am (Kd.R_below (rA HO126.out) hb)
             have n3_ := am (Kd.R_lower (Kd.R_new' ho29 (Kd.R_lt (rA HO_6.out))) (keep_size (w := w) (g := g) (row := none) (kB2 HK.out GW110.out GW116.out)))
             have n4_ := am (blk_below (g := gb110) (o := .cells #[.int .i64 a1_0, .int .i64 a1_1, .int .i64 a1_2] 58 (0, 0)) (kA BK110.out) hb)
             have n5_ := am (IsS65.below (iS2 HI0.out NB0_110.out NB0_116.out) hb)
             have n6_ := am (blk_below (g := gb116) (o := .cells #[.int .i64 t113, .int .i64 t114] 56 (0, 0)) (kA BK116.out) hb)
             have n7_ := am (KeepBut.trans (kB2 HK.out GW110.out GW116.out) (KeepBut.of_below hb g none) (.inl rfl))
             have n8_ := am (below_step (bA3 HB.out (IsS65.ge HI0.out) GE110.out GE116.out) hb)
             clear HO_6
             clear HO_7
             clear HO126
             clear BK110
             clear HI0
             clear BK116
             clear HK
             clear HB
             have HO_6 := n0_
             have HO_7 := n1_
             have HO126 := n2_
             have HO120 := n3_
             have BK110 := n4_
             have HI0 := n5_
             have BK116 := n6_
             have HK := n7_
             have HB := n8_
             clear n0_ n1_ n2_ n3_ n4_ n5_ n6_ n7_ n8_
             clear hb ho29
             obtain ⟨Ao31, co31, eo31⟩ := Kd.R_slice HO120.out
             (first | subst eo31 | (injection eo31 with f1_ f2_ f3_; have f4_ := f1_.symm; have f5_ := f3_.symm; clear f1_ f2_ f3_; subst f4_; subst f5_))
             refine hK.out _ _ ⟨(blk_cell BK110.out 0).trans rfl, (blk_cell BK110.out 1).trans rfl, (blk_cell BK110.out 2).trans rfl, (blk_cell BK116.out 0).trans rfl, (blk_cell BK116.out 1).trans rfl⟩ (fun hHeld => ?_)
             clear hK K
             refine norm_ (a' := ?_) ?_ ?_
             rotate_left
             ·show Act.put _ (some 65) _ = _
              simp only [Act.put, List.setIfInBounds_toArray, List.set_cons_zero, List.set_cons_succ, i64_w, i32_w]
              rfl
             refine one_ (i := 3) (N := some 66) (bs 14 2047) rfl rfl (one_of HT_.out (by kernel_rfl)) (by decide) (fun K hK => ?_)
             refine Kd.R_append_rows_step (Kd.int .i64) w.heap.size (by rfl) (.tmp 63) (.tmp 65) 22 3 (.int .i64 0) 8 rfl Tryd.underlying22 info3 rfl (by decide) (by omega) (.slice Ao23 x6_1.length co23) x6_1 y118 _ _ _ (fun k_ => some k_ ≠ (.slice Ao31 y118.length co31 : Value).ownBlock) (fun _ => False) rfl rfl ?aO ?aR (fun _ _ h => h) (fun _ h => h.elim) ?aF (Below.refl _ _) ?aS ?aL ?_
             (case aR => repeat (first | exact (Kd.R_reads' HO120.out).2.2 | (with_reducible refine Kd.C_alloc ?_ _) | (with_reducible refine Kd.C_drewN ?_ _) | (with_reducible refine Kd.C_drew ?_)))
             (case aF => exact (fun k_ hk => Kd.fresh' (Kd.R_lt (rA HO120.out)) k_ hk))
             (case aO => exact (by (with_reducible repeat (first | apply Kd.R_alloc | apply Kd.R_drewN | apply Kd.R_drew)); exact Kd.R_mono HO_6.out (fun _ hk => hk.2)))
             (case aS => exact (keep_size (w := w) (g := g) (row := none) (kB2 HK.out GW110.out GW116.out)))
             (case aL => have := LMc11.out; omega)
             intro v122 w30 ho hb hg hat
             rw [← Ny121.out] at ho
             have n0_ := am (Kd.R_over' (rA HO_7.out) (Kd.R_typed (rA HO_6.out)) (by decide) hg)
             have n1_ := am (blk_grown (g := gb110) (o := .cells #[.int .i64 a1_0, .int .i64 a1_1, .int .i64 a1_2] 58 (0, 0)) (kA BK110.out) hg (Kd.R_ne HO_6.out BK110.out (by decide)))
             have n2_ := am (IsS65.grown (iS2 HI0.out NB0_110.out NB0_116.out) hg (IsS65.own_ne HI0.out HO_6.out (by decide)))
             have n3_ := am (blk_grown (g := gb116) (o := .cells #[.int .i64 t113, .int .i64 t114] 56 (0, 0)) (kA BK116.out) hg (Kd.R_ne HO_6.out BK116.out (by decide)))
             have n4_ := am (Kd.R_over' (rA HO126.out) (Kd.R_typed (rA HO_6.out)) (by decide) hg)
             have n5_ := am (Kd.R_after (ok := (fun _ => True)) (rA HO120.out) hg hat)
             have n6_ := am (below_weaken (bA3 HB.out (IsS65.ge HI0.out) GE110.out GE116.out) HL.out hb)
             have n7_ := am (KeepBut.trans (kB2 HK.out GW110.out GW116.out) (KeepBut.of_grown hg g) (Kd.R_base2 HO_6.out))
             have n8_ := am (ho)
             clear HO_7
             clear BK110
             clear HI0
             clear BK116
             clear HO126
             clear HO120
             clear HB
             clear HK
             clear HO_6
             have HO_7 := n0_
             have BK110 := n1_
             have HI0 := n2_
             have BK116 := n3_
             have HO126 := n4_
             have HO120 := n5_
             have HB := n6_
             have HK := n7_
             have HO123 := n8_
             clear n0_ n1_ n2_ n3_ n4_ n5_ n6_ n7_ n8_
             clear ho hb hg hat
             refine hK.out _ _ ⟨(blk_cell BK110.out 0).trans rfl, (blk_cell BK110.out 1).trans rfl, (blk_cell BK110.out 2).trans rfl, (blk_cell BK116.out 0).trans rfl, (blk_cell BK116.out 1).trans rfl⟩ (fun hHeld => ?_)
             clear hK K
             refine norm_ (a' := ?_) ?_ ?_
             rotate_left
             ·show Act.put _ (some 66) _ = _
              simp only [Act.put, List.setIfInBounds_toArray, List.set_cons_zero, List.set_cons_succ, i64_w, i32_w]
              rfl
             exact norm_ (by simp only [putAll, Act.put, List.setIfInBounds_toArray, List.set_cons_zero, List.set_cons_succ]) (hCont (.slice Ao31 y118.length co31, v122, v125) _ ⟨hHeld, (by (with_reducible repeat (first | apply Kd.R_alloc | apply Kd.R_drewN | apply Kd.R_drew)); exact Kd.R_mono HO120.out (fun _ hk => hk.2)), (rA HO123.out), (by (with_reducible repeat (first | apply Kd.R_alloc | apply Kd.R_drewN | apply Kd.R_drew)); exact Kd.R_mono HO126.out (fun _ hk => ⟨hk.1.2, hk.2⟩)), (by (with_reducible repeat (first | apply Kd.R_alloc | apply Kd.R_drewN | apply Kd.R_drew)); exact Kd.R_mono HO_7.out (fun _ hk => ⟨hk.2, hk.1⟩)), (kA BK110.out), (kA BK116.out), (iS2 HI0.out NB0_110.out NB0_116.out), (kB2 HK.out GW110.out GW116.out), (bA3 HB.out (IsS65.ge HI0.out) GE110.out GE116.out)⟩)
           rintro ⟨v119, v122, v125⟩ w32 ⟨hS_, h0_, h1_, h2_, h3_, h4_, h5_, h6_, h7_, h8_⟩
           have n0_ : Aside0 (Kd.R (Kd.int .i64) 3 w32 w.heap.size (fun k_ => some k_ ≠ (v122 : Value).ownBlock) v119 y118) := ⟨h0_⟩
           have n1_ : Aside0 (Kd.R (Kd.int .i64) 3 w32 w.heap.size (fun k_ => some k_ ≠ (v119 : Value).ownBlock) v122 y121) := ⟨h1_⟩
           have n2_ : Aside0 (Kd.R k58 58 w32 w.heap.size (fun k_ => some k_ ≠ (.slice Ao24 x7_1.length co24 : Value).ownBlock ∧ k_ ≠ gb110) v125 y124) := ⟨h2_⟩
           have n3_ : Aside0 (Kd.R k58 58 w32 w.heap.size (fun k_ => some k_ ≠ (v125 : Value).ownBlock ∧ k_ ≠ gb110) (.slice Ao24 x7_1.length co24) x7_1) := ⟨h3_⟩
           have n4_ : Aside0 (w32.heap[gb110]? = some (.cells #[.int .i64 a1_0, .int .i64 a1_1, .int .i64 a1_2] 58 (0, 0))) := ⟨h4_⟩
           have n5_ : Aside0 (w32.heap[gb116]? = some (.cells #[.int .i64 t113, .int .i64 t114] 56 (0, 0))) := ⟨h5_⟩
           have n6_ : Aside0 (IsS65 w0 w32 g s0_0 s0_1) := ⟨h6_⟩
           have n7_ : Aside0 (KeepBut w w32 g none) := ⟨h7_⟩
           have n8_ : Aside0 (Below w0.heap.size w0 w32) := ⟨h8_⟩
           clear HO_6
           clear HO_7
           clear BK110
           clear BK116
           clear HI0
           clear HK
           clear HB
           clear h0_ h1_ h2_ h3_ h4_ h5_ h6_ h7_ h8_
           have HO120 := n0_
           have HO123 := n1_
           have HO126 := n2_
           have HO_7 := n3_
           have BK110 := n4_
           have BK116 := n5_
           have HI0 := n6_
           have HK := n7_
           have HB := n8_
           clear n0_ n1_ n2_ n3_ n4_ n5_ n6_ n7_ n8_
           have hHeld : w32.cell? ⟨gb110, 0, none⟩ = some (.int .i64 a1_0) ∧ w32.cell? ⟨gb110, 1, none⟩ = some (.int .i64 a1_1) ∧ w32.cell? ⟨gb110, 2, none⟩ = some (.int .i64 a1_2) ∧ w32.cell? ⟨gb116, 0, none⟩ = some (.int .i64 t113) ∧ w32.cell? ⟨gb116, 1, none⟩ = some (.int .i64 t114) := hS_
           obtain ⟨Ao34, co34, eo34⟩ := Kd.R_slice HO126.out
           (first | subst eo34 | (injection eo34 with f1_ f2_ f3_; have f4_ := f1_.symm; have f5_ := f3_.symm; clear f1_ f2_ f3_; subst f4_; subst f5_))
           refine norm_ (a' := ?_) ?_ ?_
           rotate_left
           ·simp only [putAll, Act.put, List.setIfInBounds_toArray, List.set_cons_zero, List.set_cons_succ]
            rfl
           refine one_ (i := 11) (N := some 74) (bs 14 4095) rfl rfl (one_of HT_.out (by kernel_rfl)) (by decide) (fun K hK => ?_)
           refine Kd.R_append_rows_step k58 w.heap.size (by rfl) (.tmp 67) (.tmp 73) 116 58 (.agg #[(.int .i64 0), (.int .i64 0), (.int .i64 0)]) 24 rfl Tryd.underlying116 info58 rfl (by decide) (by omega) (.slice Ao24 x7_1.length co24) x7_1 y124 _ _ _ (fun k_ => some k_ ≠ (.slice Ao34 y124.length co34 : Value).ownBlock ∧ k_ ≠ gb110) (fun _ => False) rfl rfl ?aO ?aR (fun _ _ h => h) (fun _ h => h.elim) ?aF (Below.refl _ _) ?aS ?aL ?_
           (case aR => repeat (first | exact (Kd.R_reads' HO126.out).2.2 | (with_reducible refine Kd.C_alloc ?_ _) | (with_reducible refine Kd.C_drewN ?_ _) | (with_reducible refine Kd.C_drew ?_)))
           (case aF => exact (fun k_ hk => ⟨Kd.fresh' (Kd.R_lt (rA HO126.out)) k_ hk, Kd.freshB (g := gb110) (o := .cells #[.int .i64 a1_0, .int .i64 a1_1, .int .i64 a1_2] 58 (0, 0)) (kA BK110.out) k_ hk⟩))
           (case aO => exact (rA HO_7.out))
           (case aS => exact (keep_size (w := w) (g := g) (row := none) (kB2 HK.out GW110.out GW116.out)))
           (case aL => have := LMc12.out; omega)
           intro v128 w33 ho hb hg hat
           rw [← Ny127.out] at ho
           have n0_ := am (blk_grown (g := gb110) (o := .cells #[.int .i64 a1_0, .int .i64 a1_1, .int .i64 a1_2] 58 (0, 0)) (kA BK110.out) hg (Kd.R_away HO_7.out (fun _ hk => hk.2)))
           have n1_ := am (IsS65.grown (iS2 HI0.out NB0_110.out NB0_116.out) hg (IsS65.own_ne HI0.out HO_7.out (by decide)))
           have n2_ := am (blk_grown (g := gb116) (o := .cells #[.int .i64 t113, .int .i64 t114] 56 (0, 0)) (kA BK116.out) hg (Kd.R_ne HO_7.out BK116.out (by decide)))
           have n3_ := am (Kd.R_over' (rA HO120.out) (Kd.R_typed (rA HO_7.out)) (by decide) hg)
           have n4_ := am (Kd.R_over' (rA HO123.out) (Kd.R_typed (rA HO_7.out)) (by decide) hg)
           have n5_ := am (Kd.R_after (ok := (fun k_ => k_ ≠ gb110)) (by (with_reducible repeat (first | apply Kd.R_alloc | apply Kd.R_drewN | apply Kd.R_drew)); exact Kd.R_mono HO126.out (fun _ hk => ⟨hk.2, hk.1⟩)) hg hat)
           have n6_ := am (below_weaken (bA3 HB.out (IsS65.ge HI0.out) GE110.out GE116.out) HL.out hb)
           have n7_ := am (KeepBut.trans (kB2 HK.out GW110.out GW116.out) (KeepBut.of_grown hg g) (Kd.R_base2 HO_7.out))
           have n8_ := am (ho)
           clear BK110
           clear HI0
           clear BK116
           clear HO120
           clear HO123
           clear HO126
           clear HB
           clear HK
           clear HO_7
           have BK110 := n0_
           have HI0 := n1_
           have BK116 := n2_
           have HO120 := n3_
           have HO123 := n4_
           have HO126 := n5_
           have HB := n6_
           have HK := n7_
           have HO129 := n8_
           clear n0_ n1_ n2_ n3_ n4_ n5_ n6_ n7_ n8_
           clear ho hb hg hat
           refine hK.out _ _ ⟨(blk_cell BK110.out 0).trans rfl, (blk_cell BK110.out 1).trans rfl, (blk_cell BK110.out 2).trans rfl, (blk_cell BK116.out 0).trans rfl, (blk_cell BK116.out 1).trans rfl⟩ (fun hHeld => ?_)
           clear hK K
           refine norm_ (a' := ?_) ?_ ?_
           rotate_left
           ·show Act.put _ (some 74) _ = _
            simp only [Act.put, List.setIfInBounds_toArray, List.set_cons_zero, List.set_cons_succ, i64_w, i32_w]
            rfl
           refine pS 12 (some 6) (bs 14 8191) (h := ?_)
           refine pS 13 (some 7) (bs 14 16383) (h := ?_)
           refine done_ (done_of HT_.out (by kernel_rfl)) ?_
           try go_wp2
           go_roundg k1
           case measure => have := HK1.out; omega
           case rel => exact ⟨(y121), (y127), (wrap64 (x13_1 + 1)), (by first | rfl | (simp; done) | (simp [*]; done)), H', ⟨by have := HK1.out; omega⟩, ⟨by (with_reducible repeat (first | apply Kd.R_alloc | apply Kd.R_drewN | apply Kd.R_drew)); exact Kd.R_mono HO123.out (fun _ hk => trivial)⟩, ⟨by (with_reducible repeat (first | apply Kd.R_alloc | apply Kd.R_drewN | apply Kd.R_drew)); exact Kd.R_mono HO129.out (fun _ hk => hk.2)⟩, ⟨by (with_reducible repeat (first | refine blk_drewN ?_ _ | refine blk_drew ?_ | refine blk_alloc ?_ _)); exact BK110.out⟩, ⟨by repeat (first | (with_reducible first | exact HI0.out | apply IsS65.alloc | apply IsS65.drewN | apply IsS65.drew | apply IsS65.set_1 | refine IsS65.far ?_ NB0_110.out _ | refine IsS65.far ?_ NB0_116.out _) | exact HI0.out)⟩, ⟨by repeat (first | (with_reducible first | exact HK.out | apply KeepBut.set_ | apply keep_drewN | apply keep_drew | apply keep_alloc | refine keep_far ?_ GW110.out _ | refine keep_far ?_ GW116.out _) | exact HK.out)⟩, ⟨by repeat (first | (with_reducible first | exact HB.out | apply below_alloc | apply pw_below_drewN | apply below_drew1 | refine below_set ?_ (IsS65.ge HI0.out) | refine below_set ?_ GE110.out | refine below_set ?_ GE116.out) | exact HB.out)⟩⟩
          ·rw [if_neg c12] at H
           exact absurd H (by simp)
         ·rw [if_neg c11] at H
          exact absurd H (by simp)
        ·rw [if_neg c10] at H
         have c10b0 : ((rd s0_0 a1_0) == t111) = false := beq_eq_false_iff_ne.mpr c10
         have c10b1 : ((rd s0_0 a1_0) != t111) = true := bne_iff_ne.mpr c10
         have H' := am H
         clear H
         have hnb35 := NB110_0.out
         have hnc35 := NB0_110.out
         have hcz36_0 : wr.cell? ⟨gb110, 0, none⟩ = some (.int .i64 a1_0) := (blk_cell BK110.out 0).trans rfl
         have hcz36_1 : wr.cell? ⟨gb110, 1, none⟩ = some (.int .i64 a1_1) := (blk_cell BK110.out 1).trans rfl
         have hcz36_2 : wr.cell? ⟨gb110, 2, none⟩ = some (.int .i64 a1_2) := (blk_cell BK110.out 2).trans rfl
         have hfz36_0 := blk_frozen BK110.out 0
         have hfz36_1 := blk_frozen BK110.out 1
         have hfz36_2 := blk_frozen BK110.out 2
         try go_wp2_with (first | ((with_reducible refine gate_callee (f := 73) rfl ?_); refine gL (some 20) Tryd.func73 #[.agg #[.int .i64 a1_1, .int .i64 a1_2], .int .i64 x13_1] (h := ?_); (with_reducible refine (stacktext_text_read.calls k1 a1_1 a1_2 x13_1 t111 true t113 t114 true _ A5.out).mono ?_); rintro e w37 ⟨rfl, hb⟩; refine ⟨_, rfl, ?_⟩; have n0_ := am (Kd.R_below (rA HO_6.out) hb); have n1_ := am (Kd.R_below (rA HO_7.out) hb); have n2_ := am (blk_below (g := gb110) (o := .cells #[.int .i64 a1_0, .int .i64 a1_1, .int .i64 a1_2] 58 (0, 0)) (kA BK110.out) hb); have n3_ := am (IsS65.below (iS1 HI0.out NB0_110.out) hb); have n4_ := am (KeepBut.trans (kB1 HK.out GW110.out) (KeepBut.of_below hb g none) (.inl rfl)); have n5_ := am (below_step (bA2 HB.out (IsS65.ge HI0.out) GE110.out) hb); clear HO_6; clear HO_7; clear BK110; clear HI0; clear HK; clear HB; have HO_6 := n0_; have HO_7 := n1_; have BK110 := n2_; have HI0 := n3_; have HK := n4_; have HB := n5_; clear n0_ n1_ n2_ n3_ n4_ n5_; (try clear hb); (try clear hb2); (try clear hk); (try clear hi)) | ((with_reducible refine gate_dst (N := 11) rfl ?_); refine box_event ?hg (N := 11) ?hd (cs := #[.int .i64 0, .int .i64 0]) (t := 56) ?hr ?_; (case hd => rfl); (case hg => rfl); (case hr => first | (go_simp; done) | (go_simp; rfl)); intro gb116 hg w38 hbox hb; have n0_ := am (Kd.R_below (rA HO_6.out) hb); have n1_ := am (Kd.R_below (rA HO_7.out) hb); have n2_ := am (blk_below (g := gb110) (o := .cells #[.int .i64 a1_0, .int .i64 a1_1, .int .i64 a1_2] 58 (0, 0)) (kA BK110.out) hb); have n3_ := am (IsS65.below (iS1 HI0.out NB0_110.out) hb); have n4_ := am (KeepBut.trans (kB1 HK.out GW110.out) (KeepBut.of_below hb g none) (.inl rfl)); have n5_ := am (below_step (bA2 HB.out (IsS65.ge HI0.out) GE110.out) hb); have n6_ := am (hbox); have n7_ := am ((by rw [hg]; exact (keep_size (w := w) (g := g) (row := none) (kB1 HK.out GW110.out)) : w.heap.size ≤ gb116)); have n8_ := am ((Nat.le_trans HW0.out (by rw [hg]; exact (keep_size (w := w) (g := g) (row := none) (kB1 HK.out GW110.out)) : w.heap.size ≤ gb116) : w0.heap.size ≤ gb116)); have n9_ := am ((by rw [hg]; exact Nat.ne_of_lt (blk_lt (g := gb110) (o := .cells #[.int .i64 a1_0, .int .i64 a1_1, .int .i64 a1_2] 58 (0, 0)) (kA BK110.out)) : gb110 ≠ gb116)); have n10_ := am ((by rw [hg]; exact Nat.ne_of_gt (blk_lt (g := gb110) (o := .cells #[.int .i64 a1_0, .int .i64 a1_1, .int .i64 a1_2] 58 (0, 0)) (kA BK110.out)) : gb116 ≠ gb110)); have n11_ := am ((by rw [hg]; exact Nat.ne_of_lt (IsS65.lt (show IsS65 w0 _ g s0_0 s0_1 from by repeat (first | (with_reducible first | exact HI0.out | apply IsS65.alloc | apply IsS65.drewN | apply IsS65.drew | apply IsS65.set_1 | refine IsS65.far ?_ NB0_110.out _) | exact HI0.out))) : g ≠ gb116)); have n12_ := am ((by rw [hg]; exact Nat.ne_of_gt (IsS65.lt (show IsS65 w0 _ g s0_0 s0_1 from by repeat (first | (with_reducible first | exact HI0.out | apply IsS65.alloc | apply IsS65.drewN | apply IsS65.drew | apply IsS65.set_1 | refine IsS65.far ?_ NB0_110.out _) | exact HI0.out))) : gb116 ≠ g)); clear HO_6; clear HO_7; clear BK110; clear HI0; clear HK; clear HB; have HO_6 := n0_; have HO_7 := n1_; have BK110 := n2_; have HI0 := n3_; have HK := n4_; have HB := n5_; have BK116 := n6_; have GW116 := n7_; have GE116 := n8_; have NB110_116 := n9_; have NB116_110 := n10_; have NB0_116 := n11_; have NB116_0 := n12_; clear n0_ n1_ n2_ n3_ n4_ n5_ n6_ n7_ n8_ n9_ n10_ n11_ n12_; clear hb hbox hg; have hnb39 := NB116_110.out; have hnc39 := NB110_116.out; have hnb40 := NB116_0.out; have hnc40 := NB0_116.out; have hcz41_0 : w38.cell? ⟨gb116, 0, none⟩ = some (.int .i64 0) := (blk_cell BK116.out 0).trans rfl; have hcz41_1 : w38.cell? ⟨gb116, 1, none⟩ = some (.int .i64 0) := (blk_cell BK116.out 1).trans rfl; have hfz41_0 := blk_frozen BK116.out 0; have hfz41_1 := blk_frozen BK116.out 1))
         have n0_ : Aside0 (Kd.R (Kd.int .i64) 3 ((w38.setCell ⟨gb116, 0, none⟩ (.int .i64 t113)).setCell ⟨gb116, 1, none⟩ (.int .i64 t114)) w.heap.size (fun _ => True) u6 x6_1) := ⟨by (with_reducible repeat (first | apply Kd.R_alloc | apply Kd.R_drewN | apply Kd.R_drew)); exact Kd.R_mono (Kd.R_far (p := ⟨gb116, 1, none⟩) (Kd.R_far (p := ⟨gb116, 0, none⟩) (Kd.R_types HO_6.out BK116.out (by decide)) (fun _ hk => hk.2) (.int .i64 t113)) (fun _ hk => hk.2) (.int .i64 t114)) (fun _ hk => trivial)⟩
         have n1_ : Aside0 (Kd.R k58 58 ((w38.setCell ⟨gb116, 0, none⟩ (.int .i64 t113)).setCell ⟨gb116, 1, none⟩ (.int .i64 t114)) w.heap.size (fun k_ => k_ ≠ gb110) u7 x7_1) := ⟨by (with_reducible repeat (first | apply Kd.R_alloc | apply Kd.R_drewN | apply Kd.R_drew)); exact Kd.R_mono (Kd.R_far (p := ⟨gb116, 1, none⟩) (Kd.R_far (p := ⟨gb116, 0, none⟩) (Kd.R_types HO_7.out BK116.out (by decide)) (fun _ hk => hk.2) (.int .i64 t113)) (fun _ hk => hk.2) (.int .i64 t114)) (fun _ hk => hk.1)⟩
         have n2_ : Aside0 (((w38.setCell ⟨gb116, 0, none⟩ (.int .i64 t113)).setCell ⟨gb116, 1, none⟩ (.int .i64 t114)).heap[gb110]? = some (.cells #[.int .i64 a1_0, .int .i64 a1_1, .int .i64 a1_2] 58 (0, 0))) := ⟨by (with_reducible repeat (first | refine blk_drewN ?_ _ | refine blk_drew ?_ | refine blk_alloc ?_ _)); refine blk_far ?_ NB110_116.out _; (with_reducible repeat (first | refine blk_drewN ?_ _ | refine blk_drew ?_ | refine blk_alloc ?_ _)); refine blk_far ?_ NB110_116.out _; (with_reducible repeat (first | refine blk_drewN ?_ _ | refine blk_drew ?_ | refine blk_alloc ?_ _)); exact BK110.out⟩
         have n3_ : Aside0 (((w38.setCell ⟨gb116, 0, none⟩ (.int .i64 t113)).setCell ⟨gb116, 1, none⟩ (.int .i64 t114)).heap[gb116]? = some (.cells #[.int .i64 t113, .int .i64 t114] 56 (0, 0))) := ⟨by (with_reducible repeat (first | refine blk_drewN ?_ _ | refine blk_drew ?_ | refine blk_alloc ?_ _)); refine blk_put (cs := #[.int .i64 t113, .int .i64 0]) ?_ 1 _ rfl; (with_reducible repeat (first | refine blk_drewN ?_ _ | refine blk_drew ?_ | refine blk_alloc ?_ _)); refine blk_put (cs := #[.int .i64 0, .int .i64 0]) ?_ 0 _ rfl; (with_reducible repeat (first | refine blk_drewN ?_ _ | refine blk_drew ?_ | refine blk_alloc ?_ _)); exact BK116.out⟩
         have n4_ : Aside0 (IsS65 w0 ((w38.setCell ⟨gb116, 0, none⟩ (.int .i64 t113)).setCell ⟨gb116, 1, none⟩ (.int .i64 t114)) g s0_0 s0_1) := ⟨by repeat (first | (with_reducible first | exact HI0.out | apply IsS65.alloc | apply IsS65.drewN | apply IsS65.drew | apply IsS65.set_1 | refine IsS65.far ?_ NB0_110.out _ | refine IsS65.far ?_ NB0_116.out _) | exact HI0.out)⟩
         have n5_ : Aside0 (KeepBut w ((w38.setCell ⟨gb116, 0, none⟩ (.int .i64 t113)).setCell ⟨gb116, 1, none⟩ (.int .i64 t114)) g none) := ⟨by repeat (first | (with_reducible first | exact HK.out | apply KeepBut.set_ | apply keep_drewN | apply keep_drew | apply keep_alloc | refine keep_far ?_ GW110.out _ | refine keep_far ?_ GW116.out _) | exact HK.out)⟩
         have n6_ : Aside0 (Below w0.heap.size w0 ((w38.setCell ⟨gb116, 0, none⟩ (.int .i64 t113)).setCell ⟨gb116, 1, none⟩ (.int .i64 t114))) := ⟨by repeat (first | (with_reducible first | exact HB.out | apply below_alloc | apply pw_below_drewN | apply below_drew1 | refine below_set ?_ (IsS65.ge HI0.out) | refine below_set ?_ GE110.out | refine below_set ?_ GE116.out) | exact HB.out)⟩
         (try clear HO_6)
         (try clear HO_7)
         (try clear BK110)
         (try clear BK116)
         (try clear HI0)
         (try clear HK)
         (try clear HB)
         generalize ((w38.setCell ⟨gb116, 0, none⟩ (.int .i64 t113)).setCell ⟨gb116, 1, none⟩ (.int .i64 t114)) = w42 at n0_ n1_ n2_ n3_ n4_ n5_ n6_ ⊢
         have HO_6 := n0_
         have HO_7 := n1_
         have BK110 := n2_
         have BK116 := n3_
         have HI0 := n4_
         have HK := n5_
         have HB := n6_
         clear n0_ n1_ n2_ n3_ n4_ n5_ n6_
         have n0_ := am (Kd.R_drew HO_6.out)
         have n1_ := am (Kd.R_drew HO_7.out)
         have n2_ := am (blk_drew BK110.out)
         have n3_ := am (blk_drew BK116.out)
         have n4_ := am (IsS65.drew HI0.out)
         have n5_ := am (keep_drew HK.out)
         have n6_ := am (below_drew1 HB.out)
         clear HO_6
         clear HO_7
         clear BK110
         clear BK116
         clear HI0
         clear HK
         clear HB
         have HO_6 := n0_
         have HO_7 := n1_
         have BK110 := n2_
         have BK116 := n3_
         have HI0 := n4_
         have HK := n5_
         have HB := n6_
         clear n0_ n1_ n2_ n3_ n4_ n5_ n6_
         obtain ⟨ASz44_0, cSz44_0, HGz44, hgz44, HSz44_0⟩ := HI0.out
         have hcz44_0 := cellS65_0 HGz44
         have hcz44_1 := cellS65_1 HGz44
         have hfz44_1 := blk_frozen HGz44 1
         clear HGz44 hgz44
         have p117 : 0 ≤ (a1_0 : Int) := of_decide_eq_true (by first | (with_reducible assumption) | assumption)
         have q117 : a1_0 < (s0_0.length : Int) := of_decide_eq_true (by first | (with_reducible assumption) | assumption)
         obtain ⟨ad117, e117, hx117_0⟩ := Kd.at_int HSz44_0 a1_0 p117 q117
         have hw117_0 := hx117_0
         cases e117
         replace hx117_0 := pw_cell_below HB.out hx117_0
         replace p117 := eq_true p117
         replace q117 := eq_true q117
         refine start_ (n := 21) (S := fun w' => w'.cell? ⟨gb110, 0, none⟩ = some (.int .i64 a1_0) ∧ w'.cell? ⟨gb110, 1, none⟩ = some (.int .i64 a1_1) ∧ w'.cell? ⟨gb110, 2, none⟩ = some (.int .i64 a1_2) ∧ w'.cell? ⟨g, 0, none⟩ = some (.slice (some ad117) s0_0.length (s0_0.length + cSz44_0)) ∧ w'.cell? ⟨g, 1, none⟩ = some (.map s0_1) ∧ w'.cell? (ad117.add (a1_0).toNat) = some (.int .u8 (rd s0_0 a1_0))) (ds := []) (bs 21 0) (by kernel_rfl) rfl rfl ⟨(blk_cell BK110.out 0).trans rfl, (blk_cell BK110.out 1).trans rfl, (blk_cell BK110.out 2).trans rfl, hcz44_0, hcz44_1, ((HB.out.cell (World.block_lt_of_cell? _ _ hw117_0)).trans hw117_0)⟩ (fun hHeld => ?_); refine with_tabW stacktext_encoder_values.tab10 stacktext_encoder_values.bits10 (fun HT_ HW_ => ?_)
         generalize w42.drew = w43 at HO_6 HO_7 BK110 BK116 HI0 HK HB hx117_0 hHeld ⊢
         refine pS 0 (some 43) (bs 21 1) (h := ?_)
         refine pS 2 (some 45) (bs 21 5) (h := ?_)
         refine pS 3 (some 46) (bs 21 13) (h := ?_)
         refine pS 4 (some 47) (bs 21 29) (h := ?_)
         refine tS 1 (some 44) (bs 21 31) hHeld (h := ?_)
         refine tS 5 (some 48) (bs 21 63) hHeld (h := ?_)
         refine pS 6 (some 49) (bs 21 127) (h := ?_)
         refine pS 7 (some 50) (bs 21 255) (h := ?_)
         refine pS 8 (some 51) (bs 21 511) (h := ?_)
         refine pS 9 (some 52) (bs 21 1023) (h := ?_)
         refine pS 10 (some 53) (bs 21 2047) (h := ?_)
         refine pS 11 (some 54) (bs 21 4095) (h := ?_)
         refine pS 13 (some 56) (bs 21 12287) (h := ?_)
         refine pS 17 (some 60) (bs 21 143359) (h := ?_)
         refine tS 12 (some 55) (bs 21 147455) hHeld (h := ?_)
         refine tS 14 (some 57) (bs 21 163839) hHeld (h := ?_)
         refine pS 15 (some 58) (bs 21 196607) (h := ?_)
         refine tS 16 (some 59) (bs 21 262143) hHeld (h := ?_)
         refine pS 18 (some 61) (bs 21 524287) (h := ?_)
         refine pS 19 (some 62) (bs 21 1048575) (h := ?_)
         refine pS 20 (some 42) (bs 21 2097151) (h := ?_)
         refine done_ (done_of HT_.out (by kernel_rfl)) ?_
         try go_wp2
         go_roundg k1
         case measure => have := HK1.out; omega
         case rel => exact ⟨(x6_1), (x7_1), (wrap64 (x13_1 + 1)), (by first | rfl | (simp; done) | (simp [*]; done)), H', ⟨by have := HK1.out; omega⟩, ⟨by (with_reducible repeat (first | apply Kd.R_alloc | apply Kd.R_drewN | apply Kd.R_drew)); exact HO_6.out⟩, ⟨by (with_reducible repeat (first | apply Kd.R_alloc | apply Kd.R_drewN | apply Kd.R_drew)); exact HO_7.out⟩, ⟨by (with_reducible repeat (first | refine blk_drewN ?_ _ | refine blk_drew ?_ | refine blk_alloc ?_ _)); exact BK110.out⟩, ⟨by repeat (first | (with_reducible first | exact HI0.out | apply IsS65.alloc | apply IsS65.drewN | apply IsS65.drew | apply IsS65.set_1 | refine IsS65.far ?_ NB0_110.out _ | refine IsS65.far ?_ NB0_116.out _) | exact HI0.out)⟩, ⟨by repeat (first | (with_reducible first | exact HK.out | apply KeepBut.set_ | apply keep_drewN | apply keep_drew | apply keep_alloc | refine keep_far ?_ GW110.out _ | refine keep_far ?_ GW116.out _) | exact HK.out)⟩, ⟨by repeat (first | (with_reducible first | exact HB.out | apply below_alloc | apply pw_below_drewN | apply below_drew1 | refine below_set ?_ (IsS65.ge HI0.out) | refine below_set ?_ GE110.out | refine below_set ?_ GE116.out) | exact HB.out)⟩⟩
       ·rw [if_neg c9] at H
        exact absurd H (by simp)
      ·rw [if_neg c8] at H
       have c8b0 : decide (a1_0 < (s0_0.length : Int)) = false := decide_eq_false c8
       clear c8
       have H' := am H
       clear H
       have hnb45 := NB110_0.out
       have hnc45 := NB0_110.out
       have hcz46_0 : wr.cell? ⟨gb110, 0, none⟩ = some (.int .i64 a1_0) := (blk_cell BK110.out 0).trans rfl
       have hcz46_1 : wr.cell? ⟨gb110, 1, none⟩ = some (.int .i64 a1_1) := (blk_cell BK110.out 1).trans rfl
       have hcz46_2 : wr.cell? ⟨gb110, 2, none⟩ = some (.int .i64 a1_2) := (blk_cell BK110.out 2).trans rfl
       have hfz46_0 := blk_frozen BK110.out 0
       have hfz46_1 := blk_frozen BK110.out 1
       have hfz46_2 := blk_frozen BK110.out 2
       try go_wp2_with (first | ((with_reducible refine gate_callee (f := 73) rfl ?_); refine gL (some 20) Tryd.func73 #[.agg #[.int .i64 a1_1, .int .i64 a1_2], .int .i64 x13_1] (h := ?_); (with_reducible refine (stacktext_text_read.calls k1 a1_1 a1_2 x13_1 t111 true t113 t114 true _ A5.out).mono ?_); rintro e w47 ⟨rfl, hb⟩; refine ⟨_, rfl, ?_⟩; have n0_ := am (Kd.R_below (rA HO_6.out) hb); have n1_ := am (Kd.R_below (rA HO_7.out) hb); have n2_ := am (blk_below (g := gb110) (o := .cells #[.int .i64 a1_0, .int .i64 a1_1, .int .i64 a1_2] 58 (0, 0)) (kA BK110.out) hb); have n3_ := am (IsS65.below (iS1 HI0.out NB0_110.out) hb); have n4_ := am (KeepBut.trans (kB1 HK.out GW110.out) (KeepBut.of_below hb g none) (.inl rfl)); have n5_ := am (below_step (bA2 HB.out (IsS65.ge HI0.out) GE110.out) hb); clear HO_6; clear HO_7; clear BK110; clear HI0; clear HK; clear HB; have HO_6 := n0_; have HO_7 := n1_; have BK110 := n2_; have HI0 := n3_; have HK := n4_; have HB := n5_; clear n0_ n1_ n2_ n3_ n4_ n5_; (try clear hb); (try clear hb2); (try clear hk); (try clear hi)) | ((with_reducible refine gate_dst (N := 11) rfl ?_); refine box_event ?hg (N := 11) ?hd (cs := #[.int .i64 0, .int .i64 0]) (t := 56) ?hr ?_; (case hd => rfl); (case hg => rfl); (case hr => first | (go_simp; done) | (go_simp; rfl)); intro gb116 hg w48 hbox hb; have n0_ := am (Kd.R_below (rA HO_6.out) hb); have n1_ := am (Kd.R_below (rA HO_7.out) hb); have n2_ := am (blk_below (g := gb110) (o := .cells #[.int .i64 a1_0, .int .i64 a1_1, .int .i64 a1_2] 58 (0, 0)) (kA BK110.out) hb); have n3_ := am (IsS65.below (iS1 HI0.out NB0_110.out) hb); have n4_ := am (KeepBut.trans (kB1 HK.out GW110.out) (KeepBut.of_below hb g none) (.inl rfl)); have n5_ := am (below_step (bA2 HB.out (IsS65.ge HI0.out) GE110.out) hb); have n6_ := am (hbox); have n7_ := am ((by rw [hg]; exact (keep_size (w := w) (g := g) (row := none) (kB1 HK.out GW110.out)) : w.heap.size ≤ gb116)); have n8_ := am ((Nat.le_trans HW0.out (by rw [hg]; exact (keep_size (w := w) (g := g) (row := none) (kB1 HK.out GW110.out)) : w.heap.size ≤ gb116) : w0.heap.size ≤ gb116)); have n9_ := am ((by rw [hg]; exact Nat.ne_of_lt (blk_lt (g := gb110) (o := .cells #[.int .i64 a1_0, .int .i64 a1_1, .int .i64 a1_2] 58 (0, 0)) (kA BK110.out)) : gb110 ≠ gb116)); have n10_ := am ((by rw [hg]; exact Nat.ne_of_gt (blk_lt (g := gb110) (o := .cells #[.int .i64 a1_0, .int .i64 a1_1, .int .i64 a1_2] 58 (0, 0)) (kA BK110.out)) : gb116 ≠ gb110)); have n11_ := am ((by rw [hg]; exact Nat.ne_of_lt (IsS65.lt (show IsS65 w0 _ g s0_0 s0_1 from by repeat (first | (with_reducible first | exact HI0.out | apply IsS65.alloc | apply IsS65.drewN | apply IsS65.drew | apply IsS65.set_1 | refine IsS65.far ?_ NB0_110.out _) | exact HI0.out))) : g ≠ gb116)); have n12_ := am ((by rw [hg]; exact Nat.ne_of_gt (IsS65.lt (show IsS65 w0 _ g s0_0 s0_1 from by repeat (first | (with_reducible first | exact HI0.out | apply IsS65.alloc | apply IsS65.drewN | apply IsS65.drew | apply IsS65.set_1 | refine IsS65.far ?_ NB0_110.out _) | exact HI0.out))) : gb116 ≠ g)); clear HO_6; clear HO_7; clear BK110; clear HI0; clear HK; clear HB; have HO_6 := n0_; have HO_7 := n1_; have BK110 := n2_; have HI0 := n3_; have HK := n4_; have HB := n5_; have BK116 := n6_; have GW116 := n7_; have GE116 := n8_; have NB110_116 := n9_; have NB116_110 := n10_; have NB0_116 := n11_; have NB116_0 := n12_; clear n0_ n1_ n2_ n3_ n4_ n5_ n6_ n7_ n8_ n9_ n10_ n11_ n12_; clear hb hbox hg; have hnb49 := NB116_110.out; have hnc49 := NB110_116.out; have hnb50 := NB116_0.out; have hnc50 := NB0_116.out; have hcz51_0 : w48.cell? ⟨gb116, 0, none⟩ = some (.int .i64 0) := (blk_cell BK116.out 0).trans rfl; have hcz51_1 : w48.cell? ⟨gb116, 1, none⟩ = some (.int .i64 0) := (blk_cell BK116.out 1).trans rfl; have hfz51_0 := blk_frozen BK116.out 0; have hfz51_1 := blk_frozen BK116.out 1))
       have n0_ : Aside0 (Kd.R (Kd.int .i64) 3 ((w48.setCell ⟨gb116, 0, none⟩ (.int .i64 t113)).setCell ⟨gb116, 1, none⟩ (.int .i64 t114)) w.heap.size (fun _ => True) u6 x6_1) := ⟨by (with_reducible repeat (first | apply Kd.R_alloc | apply Kd.R_drewN | apply Kd.R_drew)); exact Kd.R_mono (Kd.R_far (p := ⟨gb116, 1, none⟩) (Kd.R_far (p := ⟨gb116, 0, none⟩) (Kd.R_types HO_6.out BK116.out (by decide)) (fun _ hk => hk.2) (.int .i64 t113)) (fun _ hk => hk.2) (.int .i64 t114)) (fun _ hk => trivial)⟩
       have n1_ : Aside0 (Kd.R k58 58 ((w48.setCell ⟨gb116, 0, none⟩ (.int .i64 t113)).setCell ⟨gb116, 1, none⟩ (.int .i64 t114)) w.heap.size (fun k_ => k_ ≠ gb110) u7 x7_1) := ⟨by (with_reducible repeat (first | apply Kd.R_alloc | apply Kd.R_drewN | apply Kd.R_drew)); exact Kd.R_mono (Kd.R_far (p := ⟨gb116, 1, none⟩) (Kd.R_far (p := ⟨gb116, 0, none⟩) (Kd.R_types HO_7.out BK116.out (by decide)) (fun _ hk => hk.2) (.int .i64 t113)) (fun _ hk => hk.2) (.int .i64 t114)) (fun _ hk => hk.1)⟩
       have n2_ : Aside0 (((w48.setCell ⟨gb116, 0, none⟩ (.int .i64 t113)).setCell ⟨gb116, 1, none⟩ (.int .i64 t114)).heap[gb110]? = some (.cells #[.int .i64 a1_0, .int .i64 a1_1, .int .i64 a1_2] 58 (0, 0))) := ⟨by (with_reducible repeat (first | refine blk_drewN ?_ _ | refine blk_drew ?_ | refine blk_alloc ?_ _)); refine blk_far ?_ NB110_116.out _; (with_reducible repeat (first | refine blk_drewN ?_ _ | refine blk_drew ?_ | refine blk_alloc ?_ _)); refine blk_far ?_ NB110_116.out _; (with_reducible repeat (first | refine blk_drewN ?_ _ | refine blk_drew ?_ | refine blk_alloc ?_ _)); exact BK110.out⟩
       have n3_ : Aside0 (((w48.setCell ⟨gb116, 0, none⟩ (.int .i64 t113)).setCell ⟨gb116, 1, none⟩ (.int .i64 t114)).heap[gb116]? = some (.cells #[.int .i64 t113, .int .i64 t114] 56 (0, 0))) := ⟨by (with_reducible repeat (first | refine blk_drewN ?_ _ | refine blk_drew ?_ | refine blk_alloc ?_ _)); refine blk_put (cs := #[.int .i64 t113, .int .i64 0]) ?_ 1 _ rfl; (with_reducible repeat (first | refine blk_drewN ?_ _ | refine blk_drew ?_ | refine blk_alloc ?_ _)); refine blk_put (cs := #[.int .i64 0, .int .i64 0]) ?_ 0 _ rfl; (with_reducible repeat (first | refine blk_drewN ?_ _ | refine blk_drew ?_ | refine blk_alloc ?_ _)); exact BK116.out⟩
       have n4_ : Aside0 (IsS65 w0 ((w48.setCell ⟨gb116, 0, none⟩ (.int .i64 t113)).setCell ⟨gb116, 1, none⟩ (.int .i64 t114)) g s0_0 s0_1) := ⟨by repeat (first | (with_reducible first | exact HI0.out | apply IsS65.alloc | apply IsS65.drewN | apply IsS65.drew | apply IsS65.set_1 | refine IsS65.far ?_ NB0_110.out _ | refine IsS65.far ?_ NB0_116.out _) | exact HI0.out)⟩
       have n5_ : Aside0 (KeepBut w ((w48.setCell ⟨gb116, 0, none⟩ (.int .i64 t113)).setCell ⟨gb116, 1, none⟩ (.int .i64 t114)) g none) := ⟨by repeat (first | (with_reducible first | exact HK.out | apply KeepBut.set_ | apply keep_drewN | apply keep_drew | apply keep_alloc | refine keep_far ?_ GW110.out _ | refine keep_far ?_ GW116.out _) | exact HK.out)⟩
       have n6_ : Aside0 (Below w0.heap.size w0 ((w48.setCell ⟨gb116, 0, none⟩ (.int .i64 t113)).setCell ⟨gb116, 1, none⟩ (.int .i64 t114))) := ⟨by repeat (first | (with_reducible first | exact HB.out | apply below_alloc | apply pw_below_drewN | apply below_drew1 | refine below_set ?_ (IsS65.ge HI0.out) | refine below_set ?_ GE110.out | refine below_set ?_ GE116.out) | exact HB.out)⟩
       (try clear HO_6)
       (try clear HO_7)
       (try clear BK110)
       (try clear BK116)
       (try clear HI0)
       (try clear HK)
       (try clear HB)
       generalize ((w48.setCell ⟨gb116, 0, none⟩ (.int .i64 t113)).setCell ⟨gb116, 1, none⟩ (.int .i64 t114)) = w52 at n0_ n1_ n2_ n3_ n4_ n5_ n6_ ⊢
       have HO_6 := n0_
       have HO_7 := n1_
       have BK110 := n2_
       have BK116 := n3_
       have HI0 := n4_
       have HK := n5_
       have HB := n6_
       clear n0_ n1_ n2_ n3_ n4_ n5_ n6_
       have n0_ := am (Kd.R_drew HO_6.out)
       have n1_ := am (Kd.R_drew HO_7.out)
       have n2_ := am (blk_drew BK110.out)
       have n3_ := am (blk_drew BK116.out)
       have n4_ := am (IsS65.drew HI0.out)
       have n5_ := am (keep_drew HK.out)
       have n6_ := am (below_drew1 HB.out)
       clear HO_6
       clear HO_7
       clear BK110
       clear BK116
       clear HI0
       clear HK
       clear HB
       have HO_6 := n0_
       have HO_7 := n1_
       have BK110 := n2_
       have BK116 := n3_
       have HI0 := n4_
       have HK := n5_
       have HB := n6_
       clear n0_ n1_ n2_ n3_ n4_ n5_ n6_
       obtain ⟨ASz54_0, cSz54_0, HGz54, hgz54, HSz54_0⟩ := HI0.out
       have hcz54_0 := cellS65_0 HGz54
       have hcz54_1 := cellS65_1 HGz54
       have hfz54_1 := blk_frozen HGz54 1
       clear HGz54 hgz54
       refine start_ (n := 21) (S := fun w' => w'.cell? ⟨gb110, 0, none⟩ = some (.int .i64 a1_0) ∧ w'.cell? ⟨gb110, 1, none⟩ = some (.int .i64 a1_1) ∧ w'.cell? ⟨gb110, 2, none⟩ = some (.int .i64 a1_2) ∧ w'.cell? ⟨g, 0, none⟩ = some (.slice ASz54_0 s0_0.length (s0_0.length + cSz54_0)) ∧ w'.cell? ⟨g, 1, none⟩ = some (.map s0_1)) (ds := []) (bs 21 0) (by kernel_rfl) rfl rfl ⟨(blk_cell BK110.out 0).trans rfl, (blk_cell BK110.out 1).trans rfl, (blk_cell BK110.out 2).trans rfl, hcz54_0, hcz54_1⟩ (fun hHeld => ?_); refine with_tabW stacktext_encoder_values.tab10 stacktext_encoder_values.bits10 (fun HT_ HW_ => ?_)
       generalize w52.drew = w53 at HO_6 HO_7 BK110 BK116 HI0 HK HB hHeld ⊢
       refine pS 0 (some 43) (bs 21 1) (h := ?_)
       refine pS 2 (some 45) (bs 21 5) (h := ?_)
       refine pS 3 (some 46) (bs 21 13) (h := ?_)
       refine pS 4 (some 47) (bs 21 29) (h := ?_)
       refine tS 1 (some 44) (bs 21 31) hHeld (h := ?_)
       refine tS 5 (some 48) (bs 21 63) hHeld (h := ?_)
       refine pS 6 (some 49) (bs 21 127) (h := ?_)
       refine pS 7 (some 50) (bs 21 255) (h := ?_)
       refine pS 8 (some 51) (bs 21 511) (h := ?_)
       refine pO 9 (some 52) (bs 21 1023) (h := ?_)
       refine pO 10 (some 53) (bs 21 2047) (h := ?_)
       refine pO 11 (some 54) (bs 21 4095) (h := ?_)
       refine pO 12 (some 55) (bs 21 8191) (h := ?_)
       refine pO 13 (some 56) (bs 21 16383) (h := ?_)
       refine pO 14 (some 57) (bs 21 32767) (h := ?_)
       refine pO 15 (some 58) (bs 21 65535) (h := ?_)
       refine pO 16 (some 59) (bs 21 131071) (h := ?_)
       refine pO 17 (some 60) (bs 21 262143) (h := ?_)
       refine pO 18 (some 61) (bs 21 524287) (h := ?_)
       refine pS 19 (some 62) (bs 21 1048575) (h := ?_)
       refine pS 20 (some 42) (bs 21 2097151) (h := ?_)
       refine done_ (done_of HT_.out (by kernel_rfl)) ?_
       try go_wp2
       go_roundg k1
       case measure => have := HK1.out; omega
       case rel => exact ⟨(x6_1), (x7_1), (wrap64 (x13_1 + 1)), (by first | rfl | (simp; done) | (simp [*]; done)), H', ⟨by have := HK1.out; omega⟩, ⟨by (with_reducible repeat (first | apply Kd.R_alloc | apply Kd.R_drewN | apply Kd.R_drew)); exact HO_6.out⟩, ⟨by (with_reducible repeat (first | apply Kd.R_alloc | apply Kd.R_drewN | apply Kd.R_drew)); exact HO_7.out⟩, ⟨by (with_reducible repeat (first | refine blk_drewN ?_ _ | refine blk_drew ?_ | refine blk_alloc ?_ _)); exact BK110.out⟩, ⟨by repeat (first | (with_reducible first | exact HI0.out | apply IsS65.alloc | apply IsS65.drewN | apply IsS65.drew | apply IsS65.set_1 | refine IsS65.far ?_ NB0_110.out _ | refine IsS65.far ?_ NB0_116.out _) | exact HI0.out)⟩, ⟨by repeat (first | (with_reducible first | exact HK.out | apply KeepBut.set_ | apply keep_drewN | apply keep_drew | apply keep_alloc | refine keep_far ?_ GW110.out _ | refine keep_far ?_ GW116.out _) | exact HK.out)⟩, ⟨by repeat (first | (with_reducible first | exact HB.out | apply below_alloc | apply pw_below_drewN | apply below_drew1 | refine below_set ?_ (IsS65.ge HI0.out) | refine below_set ?_ GE110.out | refine below_set ?_ GE116.out) | exact HB.out)⟩⟩
     ·replace c7 := Bool.eq_false_iff.mpr c7
      subst c7
      have H1 : ((some (([x13_1] : List Int) : List Int)).bind fun y130 => (if x6_1.length + y130.length < 17592186044416 then ((some (([(⟨a1_0, (⟨t113, t114⟩ : S56)⟩ : S58)] : List (S58)) : List (S58))).bind fun y136 => (if x7_1.length + y136.length < 5864062014805 then (stacktext_encoder_values.l0 k1 (x6_1 ++ y130) (x7_1 ++ y136) (wrap64 (x13_1 + 1)) s0_0 s0_1 a1_0 a1_1 a1_2) else (none))) else (none))) = some (r1, r2, r3) := by rw [if_neg (show ¬ (false = true) by decide)] at H; exact H
      clear H
      have H := H1
      clear H1
      obtain ⟨y130, hy130⟩ : ∃ y_ : List Int, y_ = (([x13_1] : List Int)) := ⟨_, rfl⟩
      replace H : (if x6_1.length + y130.length < 17592186044416 then ((some (([(⟨a1_0, (⟨t113, t114⟩ : S56)⟩ : S58)] : List (S58)) : List (S58))).bind fun y136 => (if x7_1.length + y136.length < 5864062014805 then (stacktext_encoder_values.l0 k1 (x6_1 ++ y130) (x7_1 ++ y136) (wrap64 (x13_1 + 1)) s0_0 s0_1 a1_0 a1_1 a1_2) else (none))) else (none)) = some (r1, r2, r3) := by first | (rw [hy130]; with_reducible exact H) | (have H2_ := (Option.bind_some _ _).symm.trans H; rw [hy130]; with_reducible exact H2_) | (have H2_ := (Option.bind_some _ _).symm.trans H; with_reducible exact H2_) | with_reducible exact H | (rw [hy130]; exact H) | exact H
      have Ny130 := am hy130
      clear hy130
      by_cases c55 : x6_1.length + y130.length < 17592186044416
      ·rw [if_pos c55] at H
       have LMc55 := am c55
       clear c55
       obtain ⟨y133, hy133⟩ : ∃ y_ : List Int, y_ = (x6_1 ++ y130) := ⟨_, rfl⟩
       replace H : ((some (([(⟨a1_0, (⟨t113, t114⟩ : S56)⟩ : S58)] : List (S58)) : List (S58))).bind fun y136 => (if x7_1.length + y136.length < 5864062014805 then (stacktext_encoder_values.l0 k1 y133 (x7_1 ++ y136) (wrap64 (x13_1 + 1)) s0_0 s0_1 a1_0 a1_1 a1_2) else (none))) = some (r1, r2, r3) := by first | (rw [hy133]; with_reducible exact H) | (have H2_ := (Option.bind_some _ _).symm.trans H; rw [hy133]; with_reducible exact H2_) | (have H2_ := (Option.bind_some _ _).symm.trans H; with_reducible exact H2_) | with_reducible exact H | (rw [hy133]; exact H) | exact H
       have Ny133 := am hy133
       clear hy133
       obtain ⟨y136, hy136⟩ : ∃ y_ : List (S58), y_ = (([(⟨a1_0, (⟨t113, t114⟩ : S56)⟩ : S58)] : List (S58))) := ⟨_, rfl⟩
       replace H : (if x7_1.length + y136.length < 5864062014805 then (stacktext_encoder_values.l0 k1 y133 (x7_1 ++ y136) (wrap64 (x13_1 + 1)) s0_0 s0_1 a1_0 a1_1 a1_2) else (none)) = some (r1, r2, r3) := by first | (rw [hy136]; with_reducible exact H) | (have H2_ := (Option.bind_some _ _).symm.trans H; rw [hy136]; with_reducible exact H2_) | (have H2_ := (Option.bind_some _ _).symm.trans H; with_reducible exact H2_) | with_reducible exact H | (rw [hy136]; exact H) | exact H
       have Ny136 := am hy136
       clear hy136
       by_cases c56 : x7_1.length + y136.length < 5864062014805
       ·rw [if_pos c56] at H
        have LMc56 := am c56
        clear c56
        obtain ⟨y139, hy139⟩ : ∃ y_ : List (S58), y_ = (x7_1 ++ y136) := ⟨_, rfl⟩
        replace H : (stacktext_encoder_values.l0 k1 y133 y139 (wrap64 (x13_1 + 1)) s0_0 s0_1 a1_0 a1_1 a1_2) = some (r1, r2, r3) := by first | (rw [hy139]; with_reducible exact H) | (have H2_ := (Option.bind_some _ _).symm.trans H; rw [hy139]; with_reducible exact H2_) | (have H2_ := (Option.bind_some _ _).symm.trans H; with_reducible exact H2_) | with_reducible exact H | (rw [hy139]; exact H) | exact H
        have Ny139 := am hy139
        clear hy139
        have H' := am H
        clear H
        have hnb57 := NB110_0.out
        have hnc57 := NB0_110.out
        have hcz58_0 : wr.cell? ⟨gb110, 0, none⟩ = some (.int .i64 a1_0) := (blk_cell BK110.out 0).trans rfl
        have hcz58_1 : wr.cell? ⟨gb110, 1, none⟩ = some (.int .i64 a1_1) := (blk_cell BK110.out 1).trans rfl
        have hcz58_2 : wr.cell? ⟨gb110, 2, none⟩ = some (.int .i64 a1_2) := (blk_cell BK110.out 2).trans rfl
        have hfz58_0 := blk_frozen BK110.out 0
        have hfz58_1 := blk_frozen BK110.out 1
        have hfz58_2 := blk_frozen BK110.out 2
        try go_wp2_with (first | ((with_reducible refine gate_callee (f := 73) rfl ?_); refine gL (some 20) Tryd.func73 #[.agg #[.int .i64 a1_1, .int .i64 a1_2], .int .i64 x13_1] (h := ?_); (with_reducible refine (stacktext_text_read.calls k1 a1_1 a1_2 x13_1 t111 false t113 t114 true _ A5.out).mono ?_); rintro e w59 ⟨rfl, hb⟩; refine ⟨_, rfl, ?_⟩; have n0_ := am (Kd.R_below (rA HO_6.out) hb); have n1_ := am (Kd.R_below (rA HO_7.out) hb); have n2_ := am (blk_below (g := gb110) (o := .cells #[.int .i64 a1_0, .int .i64 a1_1, .int .i64 a1_2] 58 (0, 0)) (kA BK110.out) hb); have n3_ := am (IsS65.below (iS1 HI0.out NB0_110.out) hb); have n4_ := am (KeepBut.trans (kB1 HK.out GW110.out) (KeepBut.of_below hb g none) (.inl rfl)); have n5_ := am (below_step (bA2 HB.out (IsS65.ge HI0.out) GE110.out) hb); clear HO_6; clear HO_7; clear BK110; clear HI0; clear HK; clear HB; have HO_6 := n0_; have HO_7 := n1_; have BK110 := n2_; have HI0 := n3_; have HK := n4_; have HB := n5_; clear n0_ n1_ n2_ n3_ n4_ n5_; (try clear hb); (try clear hb2); (try clear hk); (try clear hi)) | ((with_reducible refine gate_dst (N := 11) rfl ?_); refine box_event ?hg (N := 11) ?hd (cs := #[.int .i64 0, .int .i64 0]) (t := 56) ?hr ?_; (case hd => rfl); (case hg => rfl); (case hr => first | (go_simp; done) | (go_simp; rfl)); intro gb116 hg w60 hbox hb; have n0_ := am (Kd.R_below (rA HO_6.out) hb); have n1_ := am (Kd.R_below (rA HO_7.out) hb); have n2_ := am (blk_below (g := gb110) (o := .cells #[.int .i64 a1_0, .int .i64 a1_1, .int .i64 a1_2] 58 (0, 0)) (kA BK110.out) hb); have n3_ := am (IsS65.below (iS1 HI0.out NB0_110.out) hb); have n4_ := am (KeepBut.trans (kB1 HK.out GW110.out) (KeepBut.of_below hb g none) (.inl rfl)); have n5_ := am (below_step (bA2 HB.out (IsS65.ge HI0.out) GE110.out) hb); have n6_ := am (hbox); have n7_ := am ((by rw [hg]; exact (keep_size (w := w) (g := g) (row := none) (kB1 HK.out GW110.out)) : w.heap.size ≤ gb116)); have n8_ := am ((Nat.le_trans HW0.out (by rw [hg]; exact (keep_size (w := w) (g := g) (row := none) (kB1 HK.out GW110.out)) : w.heap.size ≤ gb116) : w0.heap.size ≤ gb116)); have n9_ := am ((by rw [hg]; exact Nat.ne_of_lt (blk_lt (g := gb110) (o := .cells #[.int .i64 a1_0, .int .i64 a1_1, .int .i64 a1_2] 58 (0, 0)) (kA BK110.out)) : gb110 ≠ gb116)); have n10_ := am ((by rw [hg]; exact Nat.ne_of_gt (blk_lt (g := gb110) (o := .cells #[.int .i64 a1_0, .int .i64 a1_1, .int .i64 a1_2] 58 (0, 0)) (kA BK110.out)) : gb116 ≠ gb110)); have n11_ := am ((by rw [hg]; exact Nat.ne_of_lt (IsS65.lt (show IsS65 w0 _ g s0_0 s0_1 from by repeat (first | (with_reducible first | exact HI0.out | apply IsS65.alloc | apply IsS65.drewN | apply IsS65.drew | apply IsS65.set_1 | refine IsS65.far ?_ NB0_110.out _) | exact HI0.out))) : g ≠ gb116)); have n12_ := am ((by rw [hg]; exact Nat.ne_of_gt (IsS65.lt (show IsS65 w0 _ g s0_0 s0_1 from by repeat (first | (with_reducible first | exact HI0.out | apply IsS65.alloc | apply IsS65.drewN | apply IsS65.drew | apply IsS65.set_1 | refine IsS65.far ?_ NB0_110.out _) | exact HI0.out))) : gb116 ≠ g)); clear HO_6; clear HO_7; clear BK110; clear HI0; clear HK; clear HB; have HO_6 := n0_; have HO_7 := n1_; have BK110 := n2_; have HI0 := n3_; have HK := n4_; have HB := n5_; have BK116 := n6_; have GW116 := n7_; have GE116 := n8_; have NB110_116 := n9_; have NB116_110 := n10_; have NB0_116 := n11_; have NB116_0 := n12_; clear n0_ n1_ n2_ n3_ n4_ n5_ n6_ n7_ n8_ n9_ n10_ n11_ n12_; clear hb hbox hg; have hnb61 := NB116_110.out; have hnc61 := NB110_116.out; have hnb62 := NB116_0.out; have hnc62 := NB0_116.out; have hcz63_0 : w60.cell? ⟨gb116, 0, none⟩ = some (.int .i64 0) := (blk_cell BK116.out 0).trans rfl; have hcz63_1 : w60.cell? ⟨gb116, 1, none⟩ = some (.int .i64 0) := (blk_cell BK116.out 1).trans rfl; have hfz63_0 := blk_frozen BK116.out 0; have hfz63_1 := blk_frozen BK116.out 1; obtain ⟨Ao64, co64, eo64⟩ := Kd.R_slice HO_6.out; subst eo64; obtain ⟨Ao65, co65, eo65⟩ := Kd.R_slice HO_7.out; subst eo65))
        have n0_ : Aside0 (Kd.R (Kd.int .i64) 3 ((w60.setCell ⟨gb116, 0, none⟩ (.int .i64 t113)).setCell ⟨gb116, 1, none⟩ (.int .i64 t114)) w.heap.size (fun _ => True) (.slice Ao64 x6_1.length co64) x6_1) := ⟨by (with_reducible repeat (first | apply Kd.R_alloc | apply Kd.R_drewN | apply Kd.R_drew)); exact Kd.R_mono (Kd.R_far (p := ⟨gb116, 1, none⟩) (Kd.R_far (p := ⟨gb116, 0, none⟩) (Kd.R_types HO_6.out BK116.out (by decide)) (fun _ hk => hk.2) (.int .i64 t113)) (fun _ hk => hk.2) (.int .i64 t114)) (fun _ hk => trivial)⟩
        have n1_ : Aside0 (Kd.R k58 58 ((w60.setCell ⟨gb116, 0, none⟩ (.int .i64 t113)).setCell ⟨gb116, 1, none⟩ (.int .i64 t114)) w.heap.size (fun k_ => k_ ≠ gb110) (.slice Ao65 x7_1.length co65) x7_1) := ⟨by (with_reducible repeat (first | apply Kd.R_alloc | apply Kd.R_drewN | apply Kd.R_drew)); exact Kd.R_mono (Kd.R_far (p := ⟨gb116, 1, none⟩) (Kd.R_far (p := ⟨gb116, 0, none⟩) (Kd.R_types HO_7.out BK116.out (by decide)) (fun _ hk => hk.2) (.int .i64 t113)) (fun _ hk => hk.2) (.int .i64 t114)) (fun _ hk => hk.1)⟩
        have n2_ : Aside0 (((w60.setCell ⟨gb116, 0, none⟩ (.int .i64 t113)).setCell ⟨gb116, 1, none⟩ (.int .i64 t114)).heap[gb110]? = some (.cells #[.int .i64 a1_0, .int .i64 a1_1, .int .i64 a1_2] 58 (0, 0))) := ⟨by (with_reducible repeat (first | refine blk_drewN ?_ _ | refine blk_drew ?_ | refine blk_alloc ?_ _)); refine blk_far ?_ NB110_116.out _; (with_reducible repeat (first | refine blk_drewN ?_ _ | refine blk_drew ?_ | refine blk_alloc ?_ _)); refine blk_far ?_ NB110_116.out _; (with_reducible repeat (first | refine blk_drewN ?_ _ | refine blk_drew ?_ | refine blk_alloc ?_ _)); exact BK110.out⟩
        have n3_ : Aside0 (((w60.setCell ⟨gb116, 0, none⟩ (.int .i64 t113)).setCell ⟨gb116, 1, none⟩ (.int .i64 t114)).heap[gb116]? = some (.cells #[.int .i64 t113, .int .i64 t114] 56 (0, 0))) := ⟨by (with_reducible repeat (first | refine blk_drewN ?_ _ | refine blk_drew ?_ | refine blk_alloc ?_ _)); refine blk_put (cs := #[.int .i64 t113, .int .i64 0]) ?_ 1 _ rfl; (with_reducible repeat (first | refine blk_drewN ?_ _ | refine blk_drew ?_ | refine blk_alloc ?_ _)); refine blk_put (cs := #[.int .i64 0, .int .i64 0]) ?_ 0 _ rfl; (with_reducible repeat (first | refine blk_drewN ?_ _ | refine blk_drew ?_ | refine blk_alloc ?_ _)); exact BK116.out⟩
        have n4_ : Aside0 (IsS65 w0 ((w60.setCell ⟨gb116, 0, none⟩ (.int .i64 t113)).setCell ⟨gb116, 1, none⟩ (.int .i64 t114)) g s0_0 s0_1) := ⟨by repeat (first | (with_reducible first | exact HI0.out | apply IsS65.alloc | apply IsS65.drewN | apply IsS65.drew | apply IsS65.set_1 | refine IsS65.far ?_ NB0_110.out _ | refine IsS65.far ?_ NB0_116.out _) | exact HI0.out)⟩
        have n5_ : Aside0 (KeepBut w ((w60.setCell ⟨gb116, 0, none⟩ (.int .i64 t113)).setCell ⟨gb116, 1, none⟩ (.int .i64 t114)) g none) := ⟨by repeat (first | (with_reducible first | exact HK.out | apply KeepBut.set_ | apply keep_drewN | apply keep_drew | apply keep_alloc | refine keep_far ?_ GW110.out _ | refine keep_far ?_ GW116.out _) | exact HK.out)⟩
        have n6_ : Aside0 (Below w0.heap.size w0 ((w60.setCell ⟨gb116, 0, none⟩ (.int .i64 t113)).setCell ⟨gb116, 1, none⟩ (.int .i64 t114))) := ⟨by repeat (first | (with_reducible first | exact HB.out | apply below_alloc | apply pw_below_drewN | apply below_drew1 | refine below_set ?_ (IsS65.ge HI0.out) | refine below_set ?_ GE110.out | refine below_set ?_ GE116.out) | exact HB.out)⟩
        (try clear HO_6)
        (try clear HO_7)
        (try clear BK110)
        (try clear BK116)
        (try clear HI0)
        (try clear HK)
        (try clear HB)
        generalize ((w60.setCell ⟨gb116, 0, none⟩ (.int .i64 t113)).setCell ⟨gb116, 1, none⟩ (.int .i64 t114)) = w66 at n0_ n1_ n2_ n3_ n4_ n5_ n6_ ⊢
        have HO_6 := n0_
        have HO_7 := n1_
        have BK110 := n2_
        have BK116 := n3_
        have HI0 := n4_
        have HK := n5_
        have HB := n6_
        clear n0_ n1_ n2_ n3_ n4_ n5_ n6_
        have n0_ := am (Kd.R_drew HO_6.out)
        have n1_ := am (Kd.R_drew HO_7.out)
        have n2_ := am (blk_drew BK110.out)
        have n3_ := am (blk_drew BK116.out)
        have n4_ := am (IsS65.drew HI0.out)
        have n5_ := am (keep_drew HK.out)
        have n6_ := am (below_drew1 HB.out)
        clear HO_6
        clear HO_7
        clear BK110
        clear BK116
        clear HI0
        clear HK
        clear HB
        have HO_6 := n0_
        have HO_7 := n1_
        have BK110 := n2_
        have BK116 := n3_
        have HI0 := n4_
        have HK := n5_
        have HB := n6_
        clear n0_ n1_ n2_ n3_ n4_ n5_ n6_
        refine start_ (n := 13) (S := fun w' => w'.cell? ⟨gb110, 0, none⟩ = some (.int .i64 a1_0) ∧ w'.cell? ⟨gb110, 1, none⟩ = some (.int .i64 a1_1) ∧ w'.cell? ⟨gb110, 2, none⟩ = some (.int .i64 a1_2) ∧ w'.cell? ⟨gb116, 0, none⟩ = some (.int .i64 t113) ∧ w'.cell? ⟨gb116, 1, none⟩ = some (.int .i64 t114)) (ds := []) (bs 13 0) (by kernel_rfl) rfl rfl ⟨(blk_cell BK110.out 0).trans rfl, (blk_cell BK110.out 1).trans rfl, (blk_cell BK110.out 2).trans rfl, (blk_cell BK116.out 0).trans rfl, (blk_cell BK116.out 1).trans rfl⟩ (fun hHeld => ?_); refine with_tabW stacktext_encoder_values.tab9 stacktext_encoder_values.bits9 (fun HT_ HW_ => ?_)
        generalize w66.drew = w67 at HO_6 HO_7 BK110 BK116 HI0 HK HB hHeld ⊢
        refine pS 0 (some 31) (bs 13 1) (h := ?_)
        refine pS 1 (some 32) (bs 13 3) (h := ?_)
        refine pS 4 (some 35) (bs 13 19) (h := ?_)
        refine pS 5 (some 36) (bs 13 51) (h := ?_)
        refine tS 6 (some 37) (bs 13 115) hHeld (h := ?_)
        refine tS 7 (some 38) (bs 13 243) hHeld (h := ?_)
        refine pS 8 (some 39) (bs 13 499) (h := ?_)
        refine join_ (σ := Value × Value × Value) 3 #[true, true, true, true, true, true, true, true, true, true, false, false, false] (fun s_ => [(33, s_.1), (34, s_.2.1), (40, s_.2.2)]) (fun s_ w' => (w'.cell? ⟨gb110, 0, none⟩ = some (.int .i64 a1_0) ∧ w'.cell? ⟨gb110, 1, none⟩ = some (.int .i64 a1_1) ∧ w'.cell? ⟨gb110, 2, none⟩ = some (.int .i64 a1_2) ∧ w'.cell? ⟨gb116, 0, none⟩ = some (.int .i64 t113) ∧ w'.cell? ⟨gb116, 1, none⟩ = some (.int .i64 t114)) ∧ (Kd.R (Kd.int .i64) 3 w' w.heap.size (fun k_ => some k_ ≠ (s_.2.1 : Value).ownBlock) s_.1 y130) ∧ (Kd.R (Kd.int .i64) 3 w' w.heap.size (fun k_ => some k_ ≠ (s_.1 : Value).ownBlock) s_.2.1 y133) ∧ (Kd.R k58 58 w' w.heap.size (fun k_ => some k_ ≠ (.slice Ao65 x7_1.length co65 : Value).ownBlock ∧ k_ ≠ gb110) s_.2.2 y136) ∧ (Kd.R k58 58 w' w.heap.size (fun k_ => some k_ ≠ (s_.2.2 : Value).ownBlock ∧ k_ ≠ gb110) (.slice Ao65 x7_1.length co65) x7_1) ∧ (w'.heap[gb110]? = some (.cells #[.int .i64 a1_0, .int .i64 a1_1, .int .i64 a1_2] 58 (0, 0))) ∧ (w'.heap[gb116]? = some (.cells #[.int .i64 t113, .int .i64 t114] 56 (0, 0))) ∧ (IsS65 w0 w' g s0_0 s0_1) ∧ (KeepBut w w' g none) ∧ (Below w0.heap.size w0 w')) ?_ ?_
        rotate_left
        ·intro hCont
         refine two_ (i := 2) (j := 9) (Ni := some 33) (Nj := some 40) (bs 13 503) #[true, true, false, false, true, true, true, true, true, true, false, false, false] rfl rfl rfl rfl (two_of HT_.out (by kernel_rfl)) (by decide) (by decide) (fun K hK => ?_) (fun K hK => ?_)
         ·skip
          refine Kd.R_lit_step (Kd.int .i64) _ 3 ?hg (N := 33) ?hd (xs := ([x13_1] : List Int)) (inner := [.int .i64 x13_1]) (ok := fun _ => True) (okp := fun _ => True) ?hr ?hp (fun _ hk => hk) trivial (Below.refl _ _) (Nat.le_refl _) (by simp) ?_; (case hd => rfl); (case hg => rfl); (case hr => first | (go_simp; done) | (go_simp; rfl)); (case hp => exact (Reps.one (show Kd.M (Kd.int .i64) _ _ _ x13_1 [.int .i64 x13_1] from rfl) (Reps.none _ _)))
          intro v131 w68 ho69 hb hg_ hnew_
          clear hg_ hnew_
          (first | rw [← Ny130.out] at ho69 | (simp only [Int.reduceToNat] at ho69; rw [← Ny130.out] at ho69))
          have n0_ := am (Kd.R_elder' (rA HO_6.out) (Kd.R_base ho69) hb)
          have n1_ := am (Kd.R_below (rA HO_7.out) hb)
          have n2_ := am (Kd.R_lower (Kd.R_new' ho69 (Kd.R_lt (rA HO_6.out))) (keep_size (w := w) (g := g) (row := none) (kB2 HK.out GW110.out GW116.out)))
          have n3_ := am (blk_below (g := gb110) (o := .cells #[.int .i64 a1_0, .int .i64 a1_1, .int .i64 a1_2] 58 (0, 0)) (kA BK110.out) hb)
          have n4_ := am (IsS65.below (iS2 HI0.out NB0_110.out NB0_116.out) hb)
          have n5_ := am (blk_below (g := gb116) (o := .cells #[.int .i64 t113, .int .i64 t114] 56 (0, 0)) (kA BK116.out) hb)
          have n6_ := am (KeepBut.trans (kB2 HK.out GW110.out GW116.out) (KeepBut.of_below hb g none) (.inl rfl))
          have n7_ := am (below_step (bA3 HB.out (IsS65.ge HI0.out) GE110.out GE116.out) hb)
          clear HO_6
          clear HO_7
          clear BK110
          clear HI0
          clear BK116
          clear HK
          clear HB
          have HO_6 := n0_
          have HO_7 := n1_
          have HO132 := n2_
          have BK110 := n3_
          have HI0 := n4_
          have BK116 := n5_
          have HK := n6_
          have HB := n7_
          clear n0_ n1_ n2_ n3_ n4_ n5_ n6_ n7_
          clear hb ho69
          obtain ⟨Ao71, co71, eo71⟩ := Kd.R_slice HO132.out
          (first | subst eo71 | (injection eo71 with f1_ f2_ f3_; have f4_ := f1_.symm; have f5_ := f3_.symm; clear f1_ f2_ f3_; subst f4_; subst f5_))
          refine hK.out _ _ ⟨(blk_cell BK110.out 0).trans rfl, (blk_cell BK110.out 1).trans rfl, (blk_cell BK110.out 2).trans rfl, (blk_cell BK116.out 0).trans rfl, (blk_cell BK116.out 1).trans rfl⟩ (fun hHeld => ?_)
          clear hK K
          refine norm_ (a' := ?_) ?_ ?_
          rotate_left
          ·show Act.put _ (some 33) _ = _
           simp only [Act.put, List.setIfInBounds_toArray, List.set_cons_zero, List.set_cons_succ, i64_w, i32_w]
           rfl
          refine two_ (i := 3) (j := 9) (Ni := some 34) (Nj := some 40) (bs 13 511) #[true, true, true, false, true, true, true, true, true, true, false, false, false] rfl rfl rfl rfl (two_of HT_.out (by kernel_rfl)) (by decide) (by decide) (fun K hK => ?_) (fun K hK => ?_)
          ·skip
           refine Kd.R_append_rows_step (Kd.int .i64) w.heap.size (by rfl) (.tmp 31) (.tmp 33) 22 3 (.int .i64 0) 8 rfl Tryd.underlying22 info3 rfl (by decide) (by omega) (.slice Ao64 x6_1.length co64) x6_1 y130 _ _ _ (fun k_ => some k_ ≠ (.slice Ao71 y130.length co71 : Value).ownBlock) (fun _ => False) rfl rfl ?aO ?aR (fun _ _ h => h) (fun _ h => h.elim) ?aF (Below.refl _ _) ?aS ?aL ?_
           (case aR => repeat (first | exact (Kd.R_reads' HO132.out).2.2 | (with_reducible refine Kd.C_alloc ?_ _) | (with_reducible refine Kd.C_drewN ?_ _) | (with_reducible refine Kd.C_drew ?_)))
           (case aF => exact (fun k_ hk => Kd.fresh' (Kd.R_lt (rA HO132.out)) k_ hk))
           (case aO => exact (by (with_reducible repeat (first | apply Kd.R_alloc | apply Kd.R_drewN | apply Kd.R_drew)); exact Kd.R_mono HO_6.out (fun _ hk => hk.2)))
           (case aS => exact (keep_size (w := w) (g := g) (row := none) (kB2 HK.out GW110.out GW116.out)))
           (case aL => have := LMc55.out; omega)
           intro v134 w70 ho hb hg hat
           rw [← Ny133.out] at ho
           have n0_ := am (Kd.R_over' (rA HO_7.out) (Kd.R_typed (rA HO_6.out)) (by decide) hg)
           have n1_ := am (blk_grown (g := gb110) (o := .cells #[.int .i64 a1_0, .int .i64 a1_1, .int .i64 a1_2] 58 (0, 0)) (kA BK110.out) hg (Kd.R_ne HO_6.out BK110.out (by decide)))
           have n2_ := am (IsS65.grown (iS2 HI0.out NB0_110.out NB0_116.out) hg (IsS65.own_ne HI0.out HO_6.out (by decide)))
           have n3_ := am (blk_grown (g := gb116) (o := .cells #[.int .i64 t113, .int .i64 t114] 56 (0, 0)) (kA BK116.out) hg (Kd.R_ne HO_6.out BK116.out (by decide)))
           have n4_ := am (Kd.R_after (ok := (fun _ => True)) (rA HO132.out) hg hat)
           have n5_ := am (below_weaken (bA3 HB.out (IsS65.ge HI0.out) GE110.out GE116.out) HL.out hb)
           have n6_ := am (KeepBut.trans (kB2 HK.out GW110.out GW116.out) (KeepBut.of_grown hg g) (Kd.R_base2 HO_6.out))
           have n7_ := am (ho)
           clear HO_7
           clear BK110
           clear HI0
           clear BK116
           clear HO132
           clear HB
           clear HK
           clear HO_6
           have HO_7 := n0_
           have BK110 := n1_
           have HI0 := n2_
           have BK116 := n3_
           have HO132 := n4_
           have HB := n5_
           have HK := n6_
           have HO135 := n7_
           clear n0_ n1_ n2_ n3_ n4_ n5_ n6_ n7_
           clear ho hb hg hat
           refine hK.out _ _ ⟨(blk_cell BK110.out 0).trans rfl, (blk_cell BK110.out 1).trans rfl, (blk_cell BK110.out 2).trans rfl, (blk_cell BK116.out 0).trans rfl, (blk_cell BK116.out 1).trans rfl⟩ (fun hHeld => ?_)
           clear hK K
           refine norm_ (a' := ?_) ?_ ?_
           rotate_left
           ·show Act.put _ (some 34) _ = _
            simp only [Act.put, List.setIfInBounds_toArray, List.set_cons_zero, List.set_cons_succ, i64_w, i32_w]
            rfl
           refine one_ (i := 9) (N := some 40) (bs 13 1023) rfl rfl (one_of HT_.out (by kernel_rfl)) (by decide) (fun K hK => ?_)
           refine Kd.R_lit_step k58 _ 58 ?hg (N := 40) ?hd (xs := ([(⟨a1_0, (⟨t113, t114⟩ : S56)⟩ : S58)] : List (S58))) (inner := [.int .i64 a1_0, .int .i64 t113, .int .i64 t114]) (ok := fun _ => True) (okp := fun _ => True) ?hr ?hp (fun _ hk => hk) trivial (Below.refl _ _) (Nat.le_refl _) (by simp) ?_; (case hd => rfl); (case hg => rfl); (case hr => first | (go_simp; done) | (go_simp; rfl)); (case hp => exact (Reps.c3 (show Kd.M k58 _ _ _ (⟨a1_0, (⟨t113, t114⟩ : S56)⟩ : S58) [.int .i64 a1_0, .int .i64 t113, .int .i64 t114] from (k58_mkM _ _ _ (⟨a1_0, (⟨t113, t114⟩ : S56)⟩ : S58) )) (Reps.none _ _)))
           intro v137 w72 ho73 hb hg_ hnew_
           clear hg_ hnew_
           (first | rw [← Ny136.out] at ho73 | (simp only [Int.reduceToNat] at ho73; rw [← Ny136.out] at ho73))
           have n0_ := am (Kd.R_elder' (rA HO_7.out) (Kd.R_base ho73) hb)
           have n1_ := am (Kd.R_below (rA HO132.out) hb)
           have n2_ := am (Kd.R_below (rA HO135.out) hb)
           have n3_ := am (Kd.R_lower (Kd.R_newB (Kd.R_new' ho73 (Kd.R_lt (rA HO_7.out))) (g := gb110) (o := .cells #[.int .i64 a1_0, .int .i64 a1_1, .int .i64 a1_2] 58 (0, 0)) (kA BK110.out)) (keep_size (w := w) (g := g) (row := none) (kB2 HK.out GW110.out GW116.out)))
           have n4_ := am (blk_below (g := gb110) (o := .cells #[.int .i64 a1_0, .int .i64 a1_1, .int .i64 a1_2] 58 (0, 0)) (kA BK110.out) hb)
           have n5_ := am (IsS65.below (iS2 HI0.out NB0_110.out NB0_116.out) hb)
           have n6_ := am (blk_below (g := gb116) (o := .cells #[.int .i64 t113, .int .i64 t114] 56 (0, 0)) (kA BK116.out) hb)
           have n7_ := am (KeepBut.trans (kB2 HK.out GW110.out GW116.out) (KeepBut.of_below hb g none) (.inl rfl))
           have n8_ := am (below_step (bA3 HB.out (IsS65.ge HI0.out) GE110.out GE116.out) hb)
           clear HO_7
           clear HO132
           clear HO135
           clear BK110
           clear HI0
           clear BK116
           clear HK
           clear HB
           have HO_7 := n0_
           have HO132 := n1_
           have HO135 := n2_
           have HO138 := n3_
           have BK110 := n4_
           have HI0 := n5_
           have BK116 := n6_
           have HK := n7_
           have HB := n8_
           clear n0_ n1_ n2_ n3_ n4_ n5_ n6_ n7_ n8_
           clear hb ho73
           refine hK.out _ _ ⟨(blk_cell BK110.out 0).trans rfl, (blk_cell BK110.out 1).trans rfl, (blk_cell BK110.out 2).trans rfl, (blk_cell BK116.out 0).trans rfl, (blk_cell BK116.out 1).trans rfl⟩ (fun hHeld => ?_)
           clear hK K
           refine norm_ (a' := ?_) ?_ ?_
           rotate_left
           ·show Act.put _ (some 40) _ = _
            simp only [Act.put, List.setIfInBounds_toArray, List.set_cons_zero, List.set_cons_succ, i64_w, i32_w]
            rfl
           exact norm_ (by simp only [putAll, Act.put, List.setIfInBounds_toArray, List.set_cons_zero, List.set_cons_succ]) (hCont (.slice Ao71 y130.length co71, v134, v137) _ ⟨hHeld, (by (with_reducible repeat (first | apply Kd.R_alloc | apply Kd.R_drewN | apply Kd.R_drew)); exact Kd.R_mono HO132.out (fun _ hk => hk.2)), (rA HO135.out), (by (with_reducible repeat (first | apply Kd.R_alloc | apply Kd.R_drewN | apply Kd.R_drew)); exact Kd.R_mono HO138.out (fun _ hk => ⟨hk.1.2, hk.2⟩)), (by (with_reducible repeat (first | apply Kd.R_alloc | apply Kd.R_drewN | apply Kd.R_drew)); exact Kd.R_mono HO_7.out (fun _ hk => ⟨hk.2, hk.1⟩)), (kA BK110.out), (kA BK116.out), (iS2 HI0.out NB0_110.out NB0_116.out), (kB2 HK.out GW110.out GW116.out), (bA3 HB.out (IsS65.ge HI0.out) GE110.out GE116.out)⟩)
          ·skip
           refine Kd.R_lit_step k58 _ 58 ?hg (N := 40) ?hd (xs := ([(⟨a1_0, (⟨t113, t114⟩ : S56)⟩ : S58)] : List (S58))) (inner := [.int .i64 a1_0, .int .i64 t113, .int .i64 t114]) (ok := fun _ => True) (okp := fun _ => True) ?hr ?hp (fun _ hk => hk) trivial (Below.refl _ _) (Nat.le_refl _) (by simp) ?_; (case hd => rfl); (case hg => rfl); (case hr => first | (go_simp; done) | (go_simp; rfl)); (case hp => exact (Reps.c3 (show Kd.M k58 _ _ _ (⟨a1_0, (⟨t113, t114⟩ : S56)⟩ : S58) [.int .i64 a1_0, .int .i64 t113, .int .i64 t114] from (k58_mkM _ _ _ (⟨a1_0, (⟨t113, t114⟩ : S56)⟩ : S58) )) (Reps.none _ _)))
           intro v137 w70 ho71 hb hg_ hnew_
           clear hg_ hnew_
           (first | rw [← Ny136.out] at ho71 | (simp only [Int.reduceToNat] at ho71; rw [← Ny136.out] at ho71))
           have n0_ := am (Kd.R_below (rA HO_6.out) hb)
           have n1_ := am (Kd.R_elder' (rA HO_7.out) (Kd.R_base ho71) hb)
           have n2_ := am (Kd.R_below (rA HO132.out) hb)
           have n3_ := am (Kd.R_lower (Kd.R_newB (Kd.R_new' ho71 (Kd.R_lt (rA HO_7.out))) (g := gb110) (o := .cells #[.int .i64 a1_0, .int .i64 a1_1, .int .i64 a1_2] 58 (0, 0)) (kA BK110.out)) (keep_size (w := w) (g := g) (row := none) (kB2 HK.out GW110.out GW116.out)))
           have n4_ := am (blk_below (g := gb110) (o := .cells #[.int .i64 a1_0, .int .i64 a1_1, .int .i64 a1_2] 58 (0, 0)) (kA BK110.out) hb)
           have n5_ := am (IsS65.below (iS2 HI0.out NB0_110.out NB0_116.out) hb)
           have n6_ := am (blk_below (g := gb116) (o := .cells #[.int .i64 t113, .int .i64 t114] 56 (0, 0)) (kA BK116.out) hb)
           have n7_ := am (KeepBut.trans (kB2 HK.out GW110.out GW116.out) (KeepBut.of_below hb g none) (.inl rfl))
           have n8_ := am (below_step (bA3 HB.out (IsS65.ge HI0.out) GE110.out GE116.out) hb)
           clear HO_6
           clear HO_7
           clear HO132
           clear BK110
           clear HI0
           clear BK116
           clear HK
           clear HB
           have HO_6 := n0_
           have HO_7 := n1_
           have HO132 := n2_
           have HO138 := n3_
           have BK110 := n4_
           have HI0 := n5_
           have BK116 := n6_
           have HK := n7_
           have HB := n8_
           clear n0_ n1_ n2_ n3_ n4_ n5_ n6_ n7_ n8_
           clear hb ho71
           obtain ⟨Ao73, co73, eo73⟩ := Kd.R_slice HO132.out
           (first | subst eo73 | (injection eo73 with f1_ f2_ f3_; have f4_ := f1_.symm; have f5_ := f3_.symm; clear f1_ f2_ f3_; subst f4_; subst f5_))
           refine hK.out _ _ ⟨(blk_cell BK110.out 0).trans rfl, (blk_cell BK110.out 1).trans rfl, (blk_cell BK110.out 2).trans rfl, (blk_cell BK116.out 0).trans rfl, (blk_cell BK116.out 1).trans rfl⟩ (fun hHeld => ?_)
           clear hK K
           refine norm_ (a' := ?_) ?_ ?_
           rotate_left
           ·show Act.put _ (some 40) _ = _
            simp only [Act.put, List.setIfInBounds_toArray, List.set_cons_zero, List.set_cons_succ, i64_w, i32_w]
            rfl
           refine one_ (i := 3) (N := some 34) (bs 13 1023) rfl rfl (one_of HT_.out (by kernel_rfl)) (by decide) (fun K hK => ?_)
           refine Kd.R_append_rows_step (Kd.int .i64) w.heap.size (by rfl) (.tmp 31) (.tmp 33) 22 3 (.int .i64 0) 8 rfl Tryd.underlying22 info3 rfl (by decide) (by omega) (.slice Ao64 x6_1.length co64) x6_1 y130 _ _ _ (fun k_ => some k_ ≠ (.slice Ao73 y130.length co73 : Value).ownBlock) (fun _ => False) rfl rfl ?aO ?aR (fun _ _ h => h) (fun _ h => h.elim) ?aF (Below.refl _ _) ?aS ?aL ?_
           (case aR => repeat (first | exact (Kd.R_reads' HO132.out).2.2 | (with_reducible refine Kd.C_alloc ?_ _) | (with_reducible refine Kd.C_drewN ?_ _) | (with_reducible refine Kd.C_drew ?_)))
           (case aF => exact (fun k_ hk => Kd.fresh' (Kd.R_lt (rA HO132.out)) k_ hk))
           (case aO => exact (by (with_reducible repeat (first | apply Kd.R_alloc | apply Kd.R_drewN | apply Kd.R_drew)); exact Kd.R_mono HO_6.out (fun _ hk => hk.2)))
           (case aS => exact (keep_size (w := w) (g := g) (row := none) (kB2 HK.out GW110.out GW116.out)))
           (case aL => have := LMc55.out; omega)
           intro v134 w72 ho hb hg hat
           rw [← Ny133.out] at ho
           have n0_ := am (Kd.R_over' (rA HO_7.out) (Kd.R_typed (rA HO_6.out)) (by decide) hg)
           have n1_ := am (blk_grown (g := gb110) (o := .cells #[.int .i64 a1_0, .int .i64 a1_1, .int .i64 a1_2] 58 (0, 0)) (kA BK110.out) hg (Kd.R_ne HO_6.out BK110.out (by decide)))
           have n2_ := am (IsS65.grown (iS2 HI0.out NB0_110.out NB0_116.out) hg (IsS65.own_ne HI0.out HO_6.out (by decide)))
           have n3_ := am (blk_grown (g := gb116) (o := .cells #[.int .i64 t113, .int .i64 t114] 56 (0, 0)) (kA BK116.out) hg (Kd.R_ne HO_6.out BK116.out (by decide)))
           have n4_ := am (Kd.R_after (ok := (fun _ => True)) (rA HO132.out) hg hat)
           have n5_ := am (Kd.R_over' (rA HO138.out) (Kd.R_typed (rA HO_6.out)) (by decide) hg)
           have n6_ := am (below_weaken (bA3 HB.out (IsS65.ge HI0.out) GE110.out GE116.out) HL.out hb)
           have n7_ := am (KeepBut.trans (kB2 HK.out GW110.out GW116.out) (KeepBut.of_grown hg g) (Kd.R_base2 HO_6.out))
           have n8_ := am (ho)
           clear HO_7
           clear BK110
           clear HI0
           clear BK116
           clear HO132
           clear HO138
           clear HB
           clear HK
           clear HO_6
           have HO_7 := n0_
           have BK110 := n1_
           have HI0 := n2_
           have BK116 := n3_
           have HO132 := n4_
           have HO138 := n5_
           have HB := n6_
           have HK := n7_
           have HO135 := n8_
           clear n0_ n1_ n2_ n3_ n4_ n5_ n6_ n7_ n8_
           clear ho hb hg hat
           refine hK.out _ _ ⟨(blk_cell BK110.out 0).trans rfl, (blk_cell BK110.out 1).trans rfl, (blk_cell BK110.out 2).trans rfl, (blk_cell BK116.out 0).trans rfl, (blk_cell BK116.out 1).trans rfl⟩ (fun hHeld => ?_)
           clear hK K
           refine norm_ (a' := ?_) ?_ ?_
           rotate_left
           ·show Act.put _ (some 34) _ = _
            simp only [Act.put, List.setIfInBounds_toArray, List.set_cons_zero, List.set_cons_succ, i64_w, i32_w]
            rfl
           exact norm_ (by simp only [putAll, Act.put, List.setIfInBounds_toArray, List.set_cons_zero, List.set_cons_succ]) (hCont (.slice Ao73 y130.length co73, v134, v137) _ ⟨hHeld, (by (with_reducible repeat (first | apply Kd.R_alloc | apply Kd.R_drewN | apply Kd.R_drew)); exact Kd.R_mono HO132.out (fun _ hk => hk.2)), (rA HO135.out), (by (with_reducible repeat (first | apply Kd.R_alloc | apply Kd.R_drewN | apply Kd.R_drew)); exact Kd.R_mono HO138.out (fun _ hk => ⟨hk.1.2, hk.2⟩)), (by (with_reducible repeat (first | apply Kd.R_alloc | apply Kd.R_drewN | apply Kd.R_drew)); exact Kd.R_mono HO_7.out (fun _ hk => ⟨hk.2, hk.1⟩)), (kA BK110.out), (kA BK116.out), (iS2 HI0.out NB0_110.out NB0_116.out), (kB2 HK.out GW110.out GW116.out), (bA3 HB.out (IsS65.ge HI0.out) GE110.out GE116.out)⟩)
         ·skip
          refine Kd.R_lit_step k58 _ 58 ?hg (N := 40) ?hd (xs := ([(⟨a1_0, (⟨t113, t114⟩ : S56)⟩ : S58)] : List (S58))) (inner := [.int .i64 a1_0, .int .i64 t113, .int .i64 t114]) (ok := fun _ => True) (okp := fun _ => True) ?hr ?hp (fun _ hk => hk) trivial (Below.refl _ _) (Nat.le_refl _) (by simp) ?_; (case hd => rfl); (case hg => rfl); (case hr => first | (go_simp; done) | (go_simp; rfl)); (case hp => exact (Reps.c3 (show Kd.M k58 _ _ _ (⟨a1_0, (⟨t113, t114⟩ : S56)⟩ : S58) [.int .i64 a1_0, .int .i64 t113, .int .i64 t114] from (k58_mkM _ _ _ (⟨a1_0, (⟨t113, t114⟩ : S56)⟩ : S58) )) (Reps.none _ _)))
          intro v137 w68 ho69 hb hg_ hnew_
          clear hg_ hnew_
          (first | rw [← Ny136.out] at ho69 | (simp only [Int.reduceToNat] at ho69; rw [← Ny136.out] at ho69))
          have n0_ := am (Kd.R_below (rA HO_6.out) hb)
          have n1_ := am (Kd.R_elder' (rA HO_7.out) (Kd.R_base ho69) hb)
          have n2_ := am (Kd.R_lower (Kd.R_newB (Kd.R_new' ho69 (Kd.R_lt (rA HO_7.out))) (g := gb110) (o := .cells #[.int .i64 a1_0, .int .i64 a1_1, .int .i64 a1_2] 58 (0, 0)) (kA BK110.out)) (keep_size (w := w) (g := g) (row := none) (kB2 HK.out GW110.out GW116.out)))
          have n3_ := am (blk_below (g := gb110) (o := .cells #[.int .i64 a1_0, .int .i64 a1_1, .int .i64 a1_2] 58 (0, 0)) (kA BK110.out) hb)
          have n4_ := am (IsS65.below (iS2 HI0.out NB0_110.out NB0_116.out) hb)
          have n5_ := am (blk_below (g := gb116) (o := .cells #[.int .i64 t113, .int .i64 t114] 56 (0, 0)) (kA BK116.out) hb)
          have n6_ := am (KeepBut.trans (kB2 HK.out GW110.out GW116.out) (KeepBut.of_below hb g none) (.inl rfl))
          have n7_ := am (below_step (bA3 HB.out (IsS65.ge HI0.out) GE110.out GE116.out) hb)
          clear HO_6
          clear HO_7
          clear BK110
          clear HI0
          clear BK116
          clear HK
          clear HB
          have HO_6 := n0_
          have HO_7 := n1_
          have HO138 := n2_
          have BK110 := n3_
          have HI0 := n4_
          have BK116 := n5_
          have HK := n6_
          have HB := n7_
          clear n0_ n1_ n2_ n3_ n4_ n5_ n6_ n7_
          clear hb ho69
          refine hK.out _ _ ⟨(blk_cell BK110.out 0).trans rfl, (blk_cell BK110.out 1).trans rfl, (blk_cell BK110.out 2).trans rfl, (blk_cell BK116.out 0).trans rfl, (blk_cell BK116.out 1).trans rfl⟩ (fun hHeld => ?_)
          clear hK K
          refine norm_ (a' := ?_) ?_ ?_
          rotate_left
          ·show Act.put _ (some 40) _ = _
           simp only [Act.put, List.setIfInBounds_toArray, List.set_cons_zero, List.set_cons_succ, i64_w, i32_w]
           rfl
          refine one_ (i := 2) (N := some 33) (bs 13 1015) rfl rfl (one_of HT_.out (by kernel_rfl)) (by decide) (fun K hK => ?_)
          refine Kd.R_lit_step (Kd.int .i64) _ 3 ?hg (N := 33) ?hd (xs := ([x13_1] : List Int)) (inner := [.int .i64 x13_1]) (ok := fun _ => True) (okp := fun _ => True) ?hr ?hp (fun _ hk => hk) trivial (Below.refl _ _) (Nat.le_refl _) (by simp) ?_; (case hd => rfl); (case hg => rfl); (case hr => first | (go_simp; done) | (go_simp; rfl)); (case hp => exact (Reps.one (show Kd.M (Kd.int .i64) _ _ _ x13_1 [.int .i64 x13_1] from rfl) (Reps.none _ _)))
          intro v131 w70 ho71 hb hg_ hnew_
          clear hg_ hnew_
          (first | rw [← Ny130.out] at ho71 | (simp only [Int.reduceToNat] at ho71; rw [← Ny130.out] at ho71))
          have n0_ := am (Kd.R_elder' (rA HO_6.out) (Kd.R_base ho71) hb)
          have n1_ := am (Kd.R_below (rA HO_7.out) hb)
          have n2_ := am (Kd.R_below (rA HO138.out) hb)
          have n3_ := am (Kd.R_lower (Kd.R_new' ho71 (Kd.R_lt (rA HO_6.out))) (keep_size (w := w) (g := g) (row := none) (kB2 HK.out GW110.out GW116.out)))
          have n4_ := am (blk_below (g := gb110) (o := .cells #[.int .i64 a1_0, .int .i64 a1_1, .int .i64 a1_2] 58 (0, 0)) (kA BK110.out) hb)
          have n5_ := am (IsS65.below (iS2 HI0.out NB0_110.out NB0_116.out) hb)
          have n6_ := am (blk_below (g := gb116) (o := .cells #[.int .i64 t113, .int .i64 t114] 56 (0, 0)) (kA BK116.out) hb)
          have n7_ := am (KeepBut.trans (kB2 HK.out GW110.out GW116.out) (KeepBut.of_below hb g none) (.inl rfl))
          have n8_ := am (below_step (bA3 HB.out (IsS65.ge HI0.out) GE110.out GE116.out) hb)
          clear HO_6
          clear HO_7
          clear HO138
          clear BK110
          clear HI0
          clear BK116
          clear HK
          clear HB
          have HO_6 := n0_
          have HO_7 := n1_
          have HO138 := n2_
          have HO132 := n3_
          have BK110 := n4_
          have HI0 := n5_
          have BK116 := n6_
          have HK := n7_
          have HB := n8_
          clear n0_ n1_ n2_ n3_ n4_ n5_ n6_ n7_ n8_
          clear hb ho71
          obtain ⟨Ao73, co73, eo73⟩ := Kd.R_slice HO132.out
          (first | subst eo73 | (injection eo73 with f1_ f2_ f3_; have f4_ := f1_.symm; have f5_ := f3_.symm; clear f1_ f2_ f3_; subst f4_; subst f5_))
          refine hK.out _ _ ⟨(blk_cell BK110.out 0).trans rfl, (blk_cell BK110.out 1).trans rfl, (blk_cell BK110.out 2).trans rfl, (blk_cell BK116.out 0).trans rfl, (blk_cell BK116.out 1).trans rfl⟩ (fun hHeld => ?_)
          clear hK K
          refine norm_ (a' := ?_) ?_ ?_
          rotate_left
          ·show Act.put _ (some 33) _ = _
           simp only [Act.put, List.setIfInBounds_toArray, List.set_cons_zero, List.set_cons_succ, i64_w, i32_w]
           rfl
          refine one_ (i := 3) (N := some 34) (bs 13 1023) rfl rfl (one_of HT_.out (by kernel_rfl)) (by decide) (fun K hK => ?_)
          refine Kd.R_append_rows_step (Kd.int .i64) w.heap.size (by rfl) (.tmp 31) (.tmp 33) 22 3 (.int .i64 0) 8 rfl Tryd.underlying22 info3 rfl (by decide) (by omega) (.slice Ao64 x6_1.length co64) x6_1 y130 _ _ _ (fun k_ => some k_ ≠ (.slice Ao73 y130.length co73 : Value).ownBlock) (fun _ => False) rfl rfl ?aO ?aR (fun _ _ h => h) (fun _ h => h.elim) ?aF (Below.refl _ _) ?aS ?aL ?_
          (case aR => repeat (first | exact (Kd.R_reads' HO132.out).2.2 | (with_reducible refine Kd.C_alloc ?_ _) | (with_reducible refine Kd.C_drewN ?_ _) | (with_reducible refine Kd.C_drew ?_)))
          (case aF => exact (fun k_ hk => Kd.fresh' (Kd.R_lt (rA HO132.out)) k_ hk))
          (case aO => exact (by (with_reducible repeat (first | apply Kd.R_alloc | apply Kd.R_drewN | apply Kd.R_drew)); exact Kd.R_mono HO_6.out (fun _ hk => hk.2)))
          (case aS => exact (keep_size (w := w) (g := g) (row := none) (kB2 HK.out GW110.out GW116.out)))
          (case aL => have := LMc55.out; omega)
          intro v134 w72 ho hb hg hat
          rw [← Ny133.out] at ho
          have n0_ := am (Kd.R_over' (rA HO_7.out) (Kd.R_typed (rA HO_6.out)) (by decide) hg)
          have n1_ := am (blk_grown (g := gb110) (o := .cells #[.int .i64 a1_0, .int .i64 a1_1, .int .i64 a1_2] 58 (0, 0)) (kA BK110.out) hg (Kd.R_ne HO_6.out BK110.out (by decide)))
          have n2_ := am (IsS65.grown (iS2 HI0.out NB0_110.out NB0_116.out) hg (IsS65.own_ne HI0.out HO_6.out (by decide)))
          have n3_ := am (blk_grown (g := gb116) (o := .cells #[.int .i64 t113, .int .i64 t114] 56 (0, 0)) (kA BK116.out) hg (Kd.R_ne HO_6.out BK116.out (by decide)))
          have n4_ := am (Kd.R_over' (rA HO138.out) (Kd.R_typed (rA HO_6.out)) (by decide) hg)
          have n5_ := am (Kd.R_after (ok := (fun _ => True)) (rA HO132.out) hg hat)
          have n6_ := am (below_weaken (bA3 HB.out (IsS65.ge HI0.out) GE110.out GE116.out) HL.out hb)
          have n7_ := am (KeepBut.trans (kB2 HK.out GW110.out GW116.out) (KeepBut.of_grown hg g) (Kd.R_base2 HO_6.out))
          have n8_ := am (ho)
          clear HO_7
          clear BK110
          clear HI0
          clear BK116
          clear HO138
          clear HO132
          clear HB
          clear HK
          clear HO_6
          have HO_7 := n0_
          have BK110 := n1_
          have HI0 := n2_
          have BK116 := n3_
          have HO138 := n4_
          have HO132 := n5_
          have HB := n6_
          have HK := n7_
          have HO135 := n8_
          clear n0_ n1_ n2_ n3_ n4_ n5_ n6_ n7_ n8_
          clear ho hb hg hat
          refine hK.out _ _ ⟨(blk_cell BK110.out 0).trans rfl, (blk_cell BK110.out 1).trans rfl, (blk_cell BK110.out 2).trans rfl, (blk_cell BK116.out 0).trans rfl, (blk_cell BK116.out 1).trans rfl⟩ (fun hHeld => ?_)
          clear hK K
          refine norm_ (a' := ?_) ?_ ?_
          rotate_left
          ·show Act.put _ (some 34) _ = _
           simp only [Act.put, List.setIfInBounds_toArray, List.set_cons_zero, List.set_cons_succ, i64_w, i32_w]
           rfl
          exact norm_ (by simp only [putAll, Act.put, List.setIfInBounds_toArray, List.set_cons_zero, List.set_cons_succ]) (hCont (.slice Ao73 y130.length co73, v134, v137) _ ⟨hHeld, (by (with_reducible repeat (first | apply Kd.R_alloc | apply Kd.R_drewN | apply Kd.R_drew)); exact Kd.R_mono HO132.out (fun _ hk => hk.2)), (rA HO135.out), (by (with_reducible repeat (first | apply Kd.R_alloc | apply Kd.R_drewN | apply Kd.R_drew)); exact Kd.R_mono HO138.out (fun _ hk => ⟨hk.1.2, hk.2⟩)), (by (with_reducible repeat (first | apply Kd.R_alloc | apply Kd.R_drewN | apply Kd.R_drew)); exact Kd.R_mono HO_7.out (fun _ hk => ⟨hk.2, hk.1⟩)), (kA BK110.out), (kA BK116.out), (iS2 HI0.out NB0_110.out NB0_116.out), (kB2 HK.out GW110.out GW116.out), (bA3 HB.out (IsS65.ge HI0.out) GE110.out GE116.out)⟩)
        rintro ⟨v131, v134, v137⟩ w74 ⟨hS_, h0_, h1_, h2_, h3_, h4_, h5_, h6_, h7_, h8_⟩
        have n0_ : Aside0 (Kd.R (Kd.int .i64) 3 w74 w.heap.size (fun k_ => some k_ ≠ (v134 : Value).ownBlock) v131 y130) := ⟨h0_⟩
        have n1_ : Aside0 (Kd.R (Kd.int .i64) 3 w74 w.heap.size (fun k_ => some k_ ≠ (v131 : Value).ownBlock) v134 y133) := ⟨h1_⟩
        have n2_ : Aside0 (Kd.R k58 58 w74 w.heap.size (fun k_ => some k_ ≠ (.slice Ao65 x7_1.length co65 : Value).ownBlock ∧ k_ ≠ gb110) v137 y136) := ⟨h2_⟩
        have n3_ : Aside0 (Kd.R k58 58 w74 w.heap.size (fun k_ => some k_ ≠ (v137 : Value).ownBlock ∧ k_ ≠ gb110) (.slice Ao65 x7_1.length co65) x7_1) := ⟨h3_⟩
        have n4_ : Aside0 (w74.heap[gb110]? = some (.cells #[.int .i64 a1_0, .int .i64 a1_1, .int .i64 a1_2] 58 (0, 0))) := ⟨h4_⟩
        have n5_ : Aside0 (w74.heap[gb116]? = some (.cells #[.int .i64 t113, .int .i64 t114] 56 (0, 0))) := ⟨h5_⟩
        have n6_ : Aside0 (IsS65 w0 w74 g s0_0 s0_1) := ⟨h6_⟩
        have n7_ : Aside0 (KeepBut w w74 g none) := ⟨h7_⟩
        have n8_ : Aside0 (Below w0.heap.size w0 w74) := ⟨h8_⟩
        clear HO_6
        clear HO_7
        clear BK110
        clear BK116
        clear HI0
        clear HK
        clear HB
        clear h0_ h1_ h2_ h3_ h4_ h5_ h6_ h7_ h8_
        have HO132 := n0_
        have HO135 := n1_
        have HO138 := n2_
        have HO_7 := n3_
        have BK110 := n4_
        have BK116 := n5_
        have HI0 := n6_
        have HK := n7_
        have HB := n8_
        clear n0_ n1_ n2_ n3_ n4_ n5_ n6_ n7_ n8_
        have hHeld : w74.cell? ⟨gb110, 0, none⟩ = some (.int .i64 a1_0) ∧ w74.cell? ⟨gb110, 1, none⟩ = some (.int .i64 a1_1) ∧ w74.cell? ⟨gb110, 2, none⟩ = some (.int .i64 a1_2) ∧ w74.cell? ⟨gb116, 0, none⟩ = some (.int .i64 t113) ∧ w74.cell? ⟨gb116, 1, none⟩ = some (.int .i64 t114) := hS_
        obtain ⟨Ao76, co76, eo76⟩ := Kd.R_slice HO138.out
        (first | subst eo76 | (injection eo76 with f1_ f2_ f3_; have f4_ := f1_.symm; have f5_ := f3_.symm; clear f1_ f2_ f3_; subst f4_; subst f5_))
        refine norm_ (a' := ?_) ?_ ?_
        rotate_left
        ·simp only [putAll, Act.put, List.setIfInBounds_toArray, List.set_cons_zero, List.set_cons_succ]
         rfl
        refine one_ (i := 10) (N := some 41) (bs 13 2047) rfl rfl (one_of HT_.out (by kernel_rfl)) (by decide) (fun K hK => ?_)
        refine Kd.R_append_rows_step k58 w.heap.size (by rfl) (.tmp 35) (.tmp 40) 116 58 (.agg #[(.int .i64 0), (.int .i64 0), (.int .i64 0)]) 24 rfl Tryd.underlying116 info58 rfl (by decide) (by omega) (.slice Ao65 x7_1.length co65) x7_1 y136 _ _ _ (fun k_ => some k_ ≠ (.slice Ao76 y136.length co76 : Value).ownBlock ∧ k_ ≠ gb110) (fun _ => False) rfl rfl ?aO ?aR (fun _ _ h => h) (fun _ h => h.elim) ?aF (Below.refl _ _) ?aS ?aL ?_
        (case aR => repeat (first | exact (Kd.R_reads' HO138.out).2.2 | (with_reducible refine Kd.C_alloc ?_ _) | (with_reducible refine Kd.C_drewN ?_ _) | (with_reducible refine Kd.C_drew ?_)))
        (case aF => exact (fun k_ hk => ⟨Kd.fresh' (Kd.R_lt (rA HO138.out)) k_ hk, Kd.freshB (g := gb110) (o := .cells #[.int .i64 a1_0, .int .i64 a1_1, .int .i64 a1_2] 58 (0, 0)) (kA BK110.out) k_ hk⟩))
        (case aO => exact (rA HO_7.out))
        (case aS => exact (keep_size (w := w) (g := g) (row := none) (kB2 HK.out GW110.out GW116.out)))
        (case aL => have := LMc56.out; omega)
        intro v140 w75 ho hb hg hat
        rw [← Ny139.out] at ho
        have n0_ := am (blk_grown (g := gb110) (o := .cells #[.int .i64 a1_0, .int .i64 a1_1, .int .i64 a1_2] 58 (0, 0)) (kA BK110.out) hg (Kd.R_away HO_7.out (fun _ hk => hk.2)))
        have n1_ := am (IsS65.grown (iS2 HI0.out NB0_110.out NB0_116.out) hg (IsS65.own_ne HI0.out HO_7.out (by decide)))
        have n2_ := am (blk_grown (g := gb116) (o := .cells #[.int .i64 t113, .int .i64 t114] 56 (0, 0)) (kA BK116.out) hg (Kd.R_ne HO_7.out BK116.out (by decide)))
        have n3_ := am (Kd.R_over' (rA HO132.out) (Kd.R_typed (rA HO_7.out)) (by decide) hg)
        have n4_ := am (Kd.R_over' (rA HO135.out) (Kd.R_typed (rA HO_7.out)) (by decide) hg)
        have n5_ := am (Kd.R_after (ok := (fun k_ => k_ ≠ gb110)) (by (with_reducible repeat (first | apply Kd.R_alloc | apply Kd.R_drewN | apply Kd.R_drew)); exact Kd.R_mono HO138.out (fun _ hk => ⟨hk.2, hk.1⟩)) hg hat)
        have n6_ := am (below_weaken (bA3 HB.out (IsS65.ge HI0.out) GE110.out GE116.out) HL.out hb)
        have n7_ := am (KeepBut.trans (kB2 HK.out GW110.out GW116.out) (KeepBut.of_grown hg g) (Kd.R_base2 HO_7.out))
        have n8_ := am (ho)
        clear BK110
        clear HI0
        clear BK116
        clear HO132
        clear HO135
        clear HO138
        clear HB
        clear HK
        clear HO_7
        have BK110 := n0_
        have HI0 := n1_
        have BK116 := n2_
        have HO132 := n3_
        have HO135 := n4_
        have HO138 := n5_
        have HB := n6_
        have HK := n7_
        have HO141 := n8_
        clear n0_ n1_ n2_ n3_ n4_ n5_ n6_ n7_ n8_
        clear ho hb hg hat
        refine hK.out _ _ ⟨(blk_cell BK110.out 0).trans rfl, (blk_cell BK110.out 1).trans rfl, (blk_cell BK110.out 2).trans rfl, (blk_cell BK116.out 0).trans rfl, (blk_cell BK116.out 1).trans rfl⟩ (fun hHeld => ?_)
        clear hK K
        refine norm_ (a' := ?_) ?_ ?_
        rotate_left
        ·show Act.put _ (some 41) _ = _
         simp only [Act.put, List.setIfInBounds_toArray, List.set_cons_zero, List.set_cons_succ, i64_w, i32_w]
         rfl
        refine pS 11 (some 6) (bs 13 4095) (h := ?_)
        refine pS 12 (some 7) (bs 13 8191) (h := ?_)
        refine done_ (done_of HT_.out (by kernel_rfl)) ?_
        try go_wp2
        go_roundg k1
        case measure => have := HK1.out; omega
        case rel => exact ⟨(y133), (y139), (wrap64 (x13_1 + 1)), (by first | rfl | (simp; done) | (simp [*]; done)), H', ⟨by have := HK1.out; omega⟩, ⟨by (with_reducible repeat (first | apply Kd.R_alloc | apply Kd.R_drewN | apply Kd.R_drew)); exact Kd.R_mono HO135.out (fun _ hk => trivial)⟩, ⟨by (with_reducible repeat (first | apply Kd.R_alloc | apply Kd.R_drewN | apply Kd.R_drew)); exact Kd.R_mono HO141.out (fun _ hk => hk.2)⟩, ⟨by (with_reducible repeat (first | refine blk_drewN ?_ _ | refine blk_drew ?_ | refine blk_alloc ?_ _)); exact BK110.out⟩, ⟨by repeat (first | (with_reducible first | exact HI0.out | apply IsS65.alloc | apply IsS65.drewN | apply IsS65.drew | apply IsS65.set_1 | refine IsS65.far ?_ NB0_110.out _ | refine IsS65.far ?_ NB0_116.out _) | exact HI0.out)⟩, ⟨by repeat (first | (with_reducible first | exact HK.out | apply KeepBut.set_ | apply keep_drewN | apply keep_drew | apply keep_alloc | refine keep_far ?_ GW110.out _ | refine keep_far ?_ GW116.out _) | exact HK.out)⟩, ⟨by repeat (first | (with_reducible first | exact HB.out | apply below_alloc | apply pw_below_drewN | apply below_drew1 | refine below_set ?_ (IsS65.ge HI0.out) | refine below_set ?_ GE110.out | refine below_set ?_ GE116.out) | exact HB.out)⟩⟩
       ·rw [if_neg c56] at H
        exact absurd H (by simp)
      ·rw [if_neg c55] at H
       exact absurd H (by simp)
    ·replace c6 := Bool.eq_false_iff.mpr c6
     subst c6
     have H1 : (stacktext_encoder_values.l0 k1 x6_1 x7_1 (wrap64 (x13_1 + 1)) s0_0 s0_1 a1_0 a1_1 a1_2) = some (r1, r2, r3) := by rw [if_neg (show ¬ (false = true) by decide)] at H; exact H
     clear H
     have H := H1
     clear H1
     have H' := am H
     clear H
     have hnb77 := NB110_0.out
     have hnc77 := NB0_110.out
     have hcz78_0 : wr.cell? ⟨gb110, 0, none⟩ = some (.int .i64 a1_0) := (blk_cell BK110.out 0).trans rfl
     have hcz78_1 : wr.cell? ⟨gb110, 1, none⟩ = some (.int .i64 a1_1) := (blk_cell BK110.out 1).trans rfl
     have hcz78_2 : wr.cell? ⟨gb110, 2, none⟩ = some (.int .i64 a1_2) := (blk_cell BK110.out 2).trans rfl
     have hfz78_0 := blk_frozen BK110.out 0
     have hfz78_1 := blk_frozen BK110.out 1
     have hfz78_2 := blk_frozen BK110.out 2
     go_wp2_with (first | ((with_reducible refine gate_callee (f := 73) rfl ?_); refine gL (some 20) Tryd.func73 #[.agg #[.int .i64 a1_1, .int .i64 a1_2], .int .i64 x13_1] (h := ?_); (with_reducible refine (stacktext_text_read.calls k1 a1_1 a1_2 x13_1 t111 t112 t113 t114 false _ A5.out).mono ?_); rintro e w79 ⟨rfl, hb⟩; refine ⟨_, rfl, ?_⟩; have n0_ := am (Kd.R_below (rA HO_6.out) hb); have n1_ := am (Kd.R_below (rA HO_7.out) hb); have n2_ := am (blk_below (g := gb110) (o := .cells #[.int .i64 a1_0, .int .i64 a1_1, .int .i64 a1_2] 58 (0, 0)) (kA BK110.out) hb); have n3_ := am (IsS65.below (iS1 HI0.out NB0_110.out) hb); have n4_ := am (KeepBut.trans (kB1 HK.out GW110.out) (KeepBut.of_below hb g none) (.inl rfl)); have n5_ := am (below_step (bA2 HB.out (IsS65.ge HI0.out) GE110.out) hb); clear HO_6; clear HO_7; clear BK110; clear HI0; clear HK; clear HB; have HO_6 := n0_; have HO_7 := n1_; have BK110 := n2_; have HI0 := n3_; have HK := n4_; have HB := n5_; clear n0_ n1_ n2_ n3_ n4_ n5_; (try clear hb); (try clear hb2); (try clear hk); (try clear hi)) | ((with_reducible refine gate_dst (N := 11) rfl ?_); refine box_event ?hg (N := 11) ?hd (cs := #[.int .i64 0, .int .i64 0]) (t := 56) ?hr ?_; (case hd => rfl); (case hg => rfl); (case hr => first | (go_simp; done) | (go_simp; rfl)); intro gb116 hg w80 hbox hb; have n0_ := am (Kd.R_below (rA HO_6.out) hb); have n1_ := am (Kd.R_below (rA HO_7.out) hb); have n2_ := am (blk_below (g := gb110) (o := .cells #[.int .i64 a1_0, .int .i64 a1_1, .int .i64 a1_2] 58 (0, 0)) (kA BK110.out) hb); have n3_ := am (IsS65.below (iS1 HI0.out NB0_110.out) hb); have n4_ := am (KeepBut.trans (kB1 HK.out GW110.out) (KeepBut.of_below hb g none) (.inl rfl)); have n5_ := am (below_step (bA2 HB.out (IsS65.ge HI0.out) GE110.out) hb); have n6_ := am (hbox); have n7_ := am ((by rw [hg]; exact (keep_size (w := w) (g := g) (row := none) (kB1 HK.out GW110.out)) : w.heap.size ≤ gb116)); have n8_ := am ((Nat.le_trans HW0.out (by rw [hg]; exact (keep_size (w := w) (g := g) (row := none) (kB1 HK.out GW110.out)) : w.heap.size ≤ gb116) : w0.heap.size ≤ gb116)); have n9_ := am ((by rw [hg]; exact Nat.ne_of_lt (blk_lt (g := gb110) (o := .cells #[.int .i64 a1_0, .int .i64 a1_1, .int .i64 a1_2] 58 (0, 0)) (kA BK110.out)) : gb110 ≠ gb116)); have n10_ := am ((by rw [hg]; exact Nat.ne_of_gt (blk_lt (g := gb110) (o := .cells #[.int .i64 a1_0, .int .i64 a1_1, .int .i64 a1_2] 58 (0, 0)) (kA BK110.out)) : gb116 ≠ gb110)); have n11_ := am ((by rw [hg]; exact Nat.ne_of_lt (IsS65.lt (show IsS65 w0 _ g s0_0 s0_1 from by repeat (first | (with_reducible first | exact HI0.out | apply IsS65.alloc | apply IsS65.drewN | apply IsS65.drew | apply IsS65.set_1 | refine IsS65.far ?_ NB0_110.out _) | exact HI0.out))) : g ≠ gb116)); have n12_ := am ((by rw [hg]; exact Nat.ne_of_gt (IsS65.lt (show IsS65 w0 _ g s0_0 s0_1 from by repeat (first | (with_reducible first | exact HI0.out | apply IsS65.alloc | apply IsS65.drewN | apply IsS65.drew | apply IsS65.set_1 | refine IsS65.far ?_ NB0_110.out _) | exact HI0.out))) : gb116 ≠ g)); clear HO_6; clear HO_7; clear BK110; clear HI0; clear HK; clear HB; have HO_6 := n0_; have HO_7 := n1_; have BK110 := n2_; have HI0 := n3_; have HK := n4_; have HB := n5_; have BK116 := n6_; have GW116 := n7_; have GE116 := n8_; have NB110_116 := n9_; have NB116_110 := n10_; have NB0_116 := n11_; have NB116_0 := n12_; clear n0_ n1_ n2_ n3_ n4_ n5_ n6_ n7_ n8_ n9_ n10_ n11_ n12_; clear hb hbox hg; have hnb81 := NB116_110.out; have hnc81 := NB110_116.out; have hnb82 := NB116_0.out; have hnc82 := NB0_116.out; have hcz83_0 : w80.cell? ⟨gb116, 0, none⟩ = some (.int .i64 0) := (blk_cell BK116.out 0).trans rfl; have hcz83_1 : w80.cell? ⟨gb116, 1, none⟩ = some (.int .i64 0) := (blk_cell BK116.out 1).trans rfl; have hfz83_0 := blk_frozen BK116.out 0; have hfz83_1 := blk_frozen BK116.out 1))
     go_roundg k1
     case measure => have := HK1.out; omega
     case rel => exact ⟨(x6_1), (x7_1), (wrap64 (x13_1 + 1)), (by first | rfl | (simp; done) | (simp [*]; done)), H', ⟨by have := HK1.out; omega⟩, ⟨by (with_reducible repeat (first | apply Kd.R_alloc | apply Kd.R_drewN | apply Kd.R_drew)); exact Kd.R_mono (Kd.R_far (p := ⟨gb116, 1, none⟩) (Kd.R_far (p := ⟨gb116, 0, none⟩) (Kd.R_types HO_6.out BK116.out (by decide)) (fun _ hk => hk.2) (.int .i64 t113)) (fun _ hk => hk.2) (.int .i64 t114)) (fun _ hk => trivial)⟩, ⟨by (with_reducible repeat (first | apply Kd.R_alloc | apply Kd.R_drewN | apply Kd.R_drew)); exact Kd.R_mono (Kd.R_far (p := ⟨gb116, 1, none⟩) (Kd.R_far (p := ⟨gb116, 0, none⟩) (Kd.R_types HO_7.out BK116.out (by decide)) (fun _ hk => hk.2) (.int .i64 t113)) (fun _ hk => hk.2) (.int .i64 t114)) (fun _ hk => hk.1)⟩, ⟨by (with_reducible repeat (first | refine blk_drewN ?_ _ | refine blk_drew ?_ | refine blk_alloc ?_ _)); refine blk_far ?_ NB110_116.out _; (with_reducible repeat (first | refine blk_drewN ?_ _ | refine blk_drew ?_ | refine blk_alloc ?_ _)); refine blk_far ?_ NB110_116.out _; (with_reducible repeat (first | refine blk_drewN ?_ _ | refine blk_drew ?_ | refine blk_alloc ?_ _)); exact BK110.out⟩, ⟨by repeat (first | (with_reducible first | exact HI0.out | apply IsS65.alloc | apply IsS65.drewN | apply IsS65.drew | apply IsS65.set_1 | refine IsS65.far ?_ NB0_110.out _ | refine IsS65.far ?_ NB0_116.out _) | exact HI0.out)⟩, ⟨by repeat (first | (with_reducible first | exact HK.out | apply KeepBut.set_ | apply keep_drewN | apply keep_drew | apply keep_alloc | refine keep_far ?_ GW110.out _ | refine keep_far ?_ GW116.out _) | exact HK.out)⟩, ⟨by repeat (first | (with_reducible first | exact HB.out | apply below_alloc | apply pw_below_drewN | apply below_drew1 | refine below_set ?_ (IsS65.ge HI0.out) | refine below_set ?_ GE110.out | refine below_set ?_ GE116.out) | exact HB.out)⟩⟩
   ·rw [if_neg c4] at H
    have c4b0 : decide (x13_1 < 30) = false := decide_eq_false c4
    clear c4
    simp only [Option.some.injEq, Prod.mk.injEq] at H
    obtain ⟨rfl, rfl, rfl⟩ := H
    go_wp2
    go_ret2
    exact ⟨_, _, by first | rfl | (simp [errW_none, errW_some] <;> rfl) | (simp [*, errW_none, errW_some] <;> rfl), by (with_reducible repeat (first | apply Kd.R_alloc | apply Kd.R_drewN | apply Kd.R_drew)); exact HO_6.out, by (with_reducible repeat (first | apply Kd.R_alloc | apply Kd.R_drewN | apply Kd.R_drew)); exact Kd.R_mono HO_7.out (fun _ hk => trivial), by repeat (first | (with_reducible first | exact HI0.out | apply IsS65.alloc | apply IsS65.drewN | apply IsS65.drew | apply IsS65.set_1 | refine IsS65.far ?_ NB0_110.out _) | exact HI0.out), by repeat (first | (with_reducible first | exact HB.out | apply below_alloc | apply pw_below_drewN | apply below_drew1 | refine below_set ?_ (IsS65.ge HI0.out) | refine below_set ?_ GE110.out) | exact HB.out), by repeat (first | (with_reducible first | exact HK.out | apply KeepBut.set_ | apply keep_drewN | apply keep_drew | apply keep_alloc | refine keep_far ?_ GW110.out _) | exact HK.out)⟩
end Go.Proofs.YtoadabodhdgdjaaDoor.SM
