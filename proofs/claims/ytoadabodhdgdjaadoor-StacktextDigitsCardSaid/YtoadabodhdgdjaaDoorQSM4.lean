import Derived.Test.YtoadabodhdgdjaaDoorQSM1
import Derived.Test.YtoadabodhdgdjaaDoorQSM2
import Derived.Test.YtoadabodhdgdjaaDoorQS0
namespace Go.Proofs.YtoadabodhdgdjaaDoor.SM
open Go.Proofs.YtoadabodhdgdjaaDoor.S0
open Go.RowKit Go.Proofs.YtoadabodhdgdjaaDoorW.PrintWords Go.Proofs.YtoadabodhdgdjaaDoorW.PrintLast Go.Proofs.YtoadabodhdgdjaaDoorW.PrintMore
attribute [local go_sem] max2_int min2_int max_two min_two max_three min_three max_four min_four   
open Go.Proofs.YtoadabodhdgdjaaDoor.SB
set_option linter.unusedVariables false
set_option linter.unusedSimpArgs false
mutual
def stacktext_encoder_texts.l0 : Nat → List (S62) → List (S58) → List Int → Int → Int → List Int → Option Nat → Option ((List (S62)) × Option Nat)
 | 0, _, _, _, _, _, _, _ => none
 | k + 1, x5, x7, x20, x21, x22, x1000, x1001 => if x22 < x21 then (if 0 ≤ x22 then (if x22 < (x20.length : Int) then (if x22 < (x7.length : Int) then ((stacktext_encoder_values.f k x1000 x1001 ((rd_T58 x7 x22).f0) ((rd_T58 x7 x22).f1.f0) ((rd_T58 x7 x22).f1.f1)).bind fun bt152 => (stacktext_encoder_texts.l1 k x5 x7 (rd x20 x22) bt152.2.1 x20 x21 x22 bt152.1 (bt152.1.length : Int) 0 x1000 bt152.2.2)) else (none)) else (none)) else (none)) else (some (x5, x1001))
def stacktext_encoder_texts.l1 : Nat → List (S62) → List (S58) → Int → List (S58) → List Int → Int → Int → List Int → Int → Int → List Int → Option Nat → Option ((List (S62)) × Option Nat)
 | 0, _, _, _, _, _, _, _, _, _, _, _, _ => none
 | k + 1, x5, x7, x9, x11, x20, x21, x22, x36, x37, x38, x1000, x1001 => if x38 < x37 then (if 0 ≤ x38 then (if x38 < (x36.length : Int) then (if x38 < (x11.length : Int) then (if x5.length < 2199023255552 then (stacktext_encoder_texts.l1 k (x5 ++ [(⟨1, 0, (([wrap64 ((wrap64 (30 * x9)) + (rd x36 x38))] : List Int)), (⟨(rd_T58 x11 x38).f0, (⟨(rd_T58 x11 x38).f1.f0, (rd_T58 x11 x38).f1.f1⟩ : S56)⟩ : S58)⟩ : S62)]) x7 x9 x11 x20 x21 x22 x36 x37 (wrap64 (x38 + 1)) x1000 x1001) else (none)) else (none)) else (none)) else (none)) else (stacktext_encoder_texts.l0 k x5 x7 x20 x21 (wrap64 (x22 + 1)) x1000 x1001)
end
def stacktext_encoder_texts.f (k : Nat) (s0_0 : List Int) (s0_1 : Option Nat) (a1_0 : Int) (a1_1 : Int) (a1_2 : Int) : Option ((List (S62)) × Option Nat) := (stacktext_encoder_values.f k s0_0 s0_1 a1_0 a1_1 a1_2).bind fun bt143 => (stacktext_encoder_texts.l0 k ([] : List (S62)) bt143.2.1 bt143.1 (bt143.1.length : Int) 0 s0_0 bt143.2.2)
set_option maxHeartbeats 8000000 in
set_option maxRecDepth 100000 in
theorem stacktext_encoder_texts.calls (k : Nat) (g : Nat) (s0_0 : List Int) (s0_1 : Option Nat) (a1_0 : Int) (a1_1 : Int) (a1_2 : Int) (r1 : List (S62)) (r2 : Option Nat) (w0 w : World) (hI : IsS65 w0 w g s0_0 s0_1) (hB : Below w0.heap.size w0 w) (h : stacktext_encoder_texts.f k s0_0 s0_1 a1_0 a1_1 a1_2 = some (r1, r2)) :
  Calls Tryd.prog 57 #[.pointer (some ⟨g, 0, none⟩), .agg #[.int .i64 a1_0, .int .i64 a1_1, .int .i64 a1_2]] w fun e w' => ∃ v0_ : Value, e = .returned (v0_) ∧ Kd.S k62 62 w' w.heap.size (fun _ => True) v0_ r1 ∧ IsS65 w0 w' g s0_0 r2 ∧ Below w0.heap.size w0 w' ∧ KeepBut w w' g none := by
 have hu58 := Tryd.underlying58
 have hu62 := Tryd.underlying62
 have HI0 := am hI
 have HK := am (KeepBut.refl w g none)
 have HL := am hB.size
 clear hI
 have HW0 := am hB.size
 have HB := am hB
 clear hB
 have H : ((stacktext_encoder_values.f k s0_0 s0_1 a1_0 a1_1 a1_2).bind fun bt143 => (stacktext_encoder_texts.l0 k ([] : List (S62)) bt143.2.1 bt143.1 (bt143.1.length : Int) 0 s0_0 bt143.2.2)) = some (r1, r2) := h
 clear h
 replace H := Option.bind_eq_some_iff.mp H
 obtain ⟨⟨t143, t146, t149⟩, A30, H⟩ := H
 replace H : (stacktext_encoder_texts.l0 k ([] : List (S62)) t146 t143 (t143.length : Int) 0 s0_0 t149) = some (r1, r2) := H
 have A3 := am A30
 clear A30
 have H' := am H
 clear H
 go_enter Tryd.func57, Tryd.ntmps57
 go_wp2_with (first | ((with_reducible refine gate_dst (N := 3) rfl ?_); refine box_event ?hg (N := 3) ?hd (cs := #[.int .i64 a1_0, .int .i64 a1_1, .int .i64 a1_2]) (t := 58) ?hr ?_; (case hd => rfl); (case hg => rfl); (case hr => first | (go_simp; done) | (go_simp; rfl)); intro gb142 hg w4 hbox hb; have n0_ := am (IsS65.below (iS0 HI0.out) hb); have n1_ := am (KeepBut.trans (kB0 HK.out) (KeepBut.of_below hb g none) (.inl rfl)); have n2_ := am (below_step (bA1 HB.out (IsS65.ge HI0.out)) hb); have n3_ := am (hbox); have n4_ := am ((by rw [hg]; exact (keep_size (w := w) (g := g) (row := none) (kB0 HK.out)) : w.heap.size ≤ gb142)); have n5_ := am ((Nat.le_trans HW0.out (by rw [hg]; exact (keep_size (w := w) (g := g) (row := none) (kB0 HK.out)) : w.heap.size ≤ gb142) : w0.heap.size ≤ gb142)); have n6_ := am ((by rw [hg]; exact Nat.ne_of_lt (IsS65.lt (show IsS65 w0 _ g s0_0 s0_1 from by repeat (first | (with_reducible first | exact HI0.out | apply IsS65.alloc | apply IsS65.drewN | apply IsS65.drew | apply IsS65.set_1) | exact HI0.out))) : g ≠ gb142)); have n7_ := am ((by rw [hg]; exact Nat.ne_of_gt (IsS65.lt (show IsS65 w0 _ g s0_0 s0_1 from by repeat (first | (with_reducible first | exact HI0.out | apply IsS65.alloc | apply IsS65.drewN | apply IsS65.drew | apply IsS65.set_1) | exact HI0.out))) : gb142 ≠ g)); clear HI0; clear HK; clear HB; have HI0 := n0_; have HK := n1_; have HB := n2_; have BK142 := n3_; have GW142 := n4_; have GE142 := n5_; have NB0_142 := n6_; have NB142_0 := n7_; clear n0_ n1_ n2_ n3_ n4_ n5_ n6_ n7_; clear hb hbox hg; have hnb5 := NB142_0.out; have hnc5 := NB0_142.out; have hcz6_0 : w4.cell? ⟨gb142, 0, none⟩ = some (.int .i64 a1_0) := (blk_cell BK142.out 0).trans rfl; have hcz6_1 : w4.cell? ⟨gb142, 1, none⟩ = some (.int .i64 a1_1) := (blk_cell BK142.out 1).trans rfl; have hcz6_2 : w4.cell? ⟨gb142, 2, none⟩ = some (.int .i64 a1_2) := (blk_cell BK142.out 2).trans rfl; have hfz6_0 := blk_frozen BK142.out 0; have hfz6_1 := blk_frozen BK142.out 1; have hfz6_2 := blk_frozen BK142.out 2) | ((with_reducible refine gate_callee (f := 81) rfl ?_); refine gL (some 17) Tryd.func81 #[.pointer (some ⟨g, 0, none⟩), .agg #[.int .i64 a1_0, .int .i64 a1_1, .int .i64 a1_2]] (h := ?_); (with_reducible refine (stacktext_encoder_values.calls k g s0_0 s0_1 a1_0 a1_1 a1_2 t143 t146 t149 w0 _ ?side1 ?side2 A3.out).mono ?_); (case side1 => repeat (first | (with_reducible first | exact HI0.out | apply IsS65.alloc | apply IsS65.drewN | apply IsS65.drew | apply IsS65.set_1 | refine IsS65.far ?_ NB0_142.out _) | exact HI0.out)); (case side2 => repeat (first | (with_reducible first | exact HB.out | apply below_alloc | apply pw_below_drewN | apply below_drew1 | refine below_set ?_ (IsS65.ge HI0.out) | refine below_set ?_ GE142.out) | exact HB.out)); rintro e w7 ⟨v144, v147, rfl, ho0, ho1, hi, hb, hk⟩; refine ⟨_, rfl, ?_⟩; have n0_ := am (KeepBut.blk hk (g' := gb142) (o := .cells #[.int .i64 a1_0, .int .i64 a1_1, .int .i64 a1_2] 58 (0, 0)) (kA BK142.out) NB142_0.out (by simp)); have n1_ := am (Kd.R_lower ho0 (keep_size (w := w) (g := g) (row := none) (kB1 HK.out GW142.out))); have n2_ := am (Kd.R_lower (Kd.R_newB ho1 (g := gb142) (o := .cells #[.int .i64 a1_0, .int .i64 a1_1, .int .i64 a1_2] 58 (0, 0)) (kA BK142.out)) (keep_size (w := w) (g := g) (row := none) (kB1 HK.out GW142.out))); have n3_ := am (KeepBut.trans (kB1 HK.out GW142.out) hk (.inl rfl)); have n4_ := am (hb); have n5_ := am (hi); clear BK142; clear HK; clear HB; clear HI0; have BK142 := n0_; have HO145 := n1_; have HO148 := n2_; have HK := n3_; have HB := n4_; have HI0 := n5_; clear n0_ n1_ n2_ n3_ n4_ n5_; (try clear hb); (try clear hb2); (try clear hk); (try clear hi); (try clear ho0); (try clear ho1); obtain ⟨Ao8, co8, eo8⟩ := Kd.R_slice HO145.out; subst eo8))
 go_loopg [5, 22] k (fun kq v5 v22 w' => ∃ (x5_1 : List (S62)) (x22_1 : Int) (x1001_1 : Option Nat), v22 = .int .i64 x22_1 ∧ Aside0 (stacktext_encoder_texts.l0 kq x5_1 t146 t143 (t143.length : Int) x22_1 s0_0 x1001_1 = some (r1, r2)) ∧ Aside0 (kq ≤ k) ∧ Aside0 (Kd.S k62 62 w' w.heap.size (fun k_ => some k_ ≠ ((.slice Ao8 t143.length co8) : Value).ownBlock) v5 x5_1) ∧ Aside0 (Kd.R k58 58 w' w.heap.size (fun k_ => k_ ≠ gb142) v147 t146) ∧ Aside0 (Kd.R (Kd.int .i64) 3 w' w.heap.size (fun _ => True) (.slice Ao8 t143.length co8) t143) ∧ Aside0 (w'.heap[gb142]? = some (.cells #[.int .i64 a1_0, .int .i64 a1_1, .int .i64 a1_2] 58 (0, 0))) ∧ Aside0 (IsS65 w0 w' g s0_0 x1001_1) ∧ Aside0 (KeepBut w w' g none) ∧ Aside0 (Below w0.heap.size w0 w'))
 case atStart => exact ⟨(([] : List (S62))), (0), (t149), (by first | rfl | (simp; done) | (simp [*]; done)), H', ⟨Nat.le_refl _⟩, ⟨by first | exact Kd.S_nil _ _ _ _ _ | exact Kd.N_nil _ _ _ _ _ | exact Kd.V_nil _ _ _ _ _ | exact Kd.Q_nil _ _ _ _ _ | exact Kd.R_nil _ _ _ _ _⟩, ⟨by (with_reducible repeat (first | apply Kd.R_alloc | apply Kd.R_drewN | apply Kd.R_drew)); exact Kd.R_mono HO148.out (fun _ hk => hk.2)⟩, ⟨by (with_reducible repeat (first | apply Kd.R_alloc | apply Kd.R_drewN | apply Kd.R_drew)); exact HO145.out⟩, ⟨by (with_reducible repeat (first | refine blk_drewN ?_ _ | refine blk_drew ?_ | refine blk_alloc ?_ _)); exact BK142.out⟩, ⟨by repeat (first | (with_reducible first | exact HI0.out | apply IsS65.alloc | apply IsS65.drewN | apply IsS65.drew | apply IsS65.set_1 | refine IsS65.far ?_ NB0_142.out _) | exact HI0.out)⟩, ⟨by repeat (first | (with_reducible first | exact HK.out | apply KeepBut.set_ | apply keep_drewN | apply keep_drew | apply keep_alloc | refine keep_far ?_ GW142.out _) | exact HK.out)⟩, ⟨by repeat (first | (with_reducible first | exact HB.out | apply below_alloc | apply pw_below_drewN | apply below_drew1 | refine below_set ?_ (IsS65.ge HI0.out) | refine below_set ?_ GE142.out) | exact HB.out)⟩⟩
 case round =>
  clear H'
  try clear p2
  try clear c5
  try clear c8
  try clear hcz6_0
  try clear hcz6_1
  try clear hcz6_2
  try clear hfz6_0
  try clear hfz6_1
  try clear hfz6_2
  obtain ⟨x5_1, x22_1, x1001_1, rfl, HA, HK1, HO_5, HO_7, HO_20, BK142, HI0, HK, HB⟩ := hrel
  cases gk with
  | zero => exact absurd HA.out (by simp [stacktext_encoder_texts.l0])
  | succ k1 =>
   have H := HA.out
   clear HA
   simp only [stacktext_encoder_texts.l0] at H
   by_cases c9 : x22_1 < (t143.length : Int)
   ·rw [if_pos c9] at H
    have c9b0 : decide (x22_1 < (t143.length : Int)) = true := decide_eq_true c9
    clear c9
    by_cases c10 : 0 ≤ x22_1
    ·rw [if_pos c10] at H
     have c10b0 : decide (0 ≤ x22_1) = true := decide_eq_true c10
     clear c10
     by_cases c11 : x22_1 < (t143.length : Int)
     ·rw [if_pos c11] at H
      have c11b0 : decide (x22_1 < (t143.length : Int)) = true := decide_eq_true c11
      clear c11
      by_cases c12 : x22_1 < (t146.length : Int)
      ·rw [if_pos c12] at H
       have c12b0 : decide (x22_1 < (t146.length : Int)) = true := decide_eq_true c12
       clear c12
       replace H := Option.bind_eq_some_iff.mp H
       obtain ⟨⟨t152, t155, t158⟩, A130, H⟩ := H
       replace H : (stacktext_encoder_texts.l1 k1 x5_1 t146 (rd t143 x22_1) t155 t143 (t143.length : Int) x22_1 t152 (t152.length : Int) 0 s0_0 t158) = some (r1, r2) := H
       have A13 := am A130
       clear A130
       have H' := am H
       clear H
       have p150 : 0 ≤ (x22_1 : Int) := of_decide_eq_true (by first | (with_reducible assumption) | assumption)
       have q150 : x22_1 < (t143.length : Int) := of_decide_eq_true (by first | (with_reducible assumption) | assumption)
       obtain ⟨ad150, e150, hx150_0⟩ := Kd.at_int (Kd.R_reads' HO_20.out).2.2 x22_1 p150 q150
       cases e150
       replace p150 := eq_true p150
       replace q150 := eq_true q150
       obtain ⟨Ao14, co14, eo14⟩ := Kd.R_slice HO_7.out
       subst eo14
       have p151 : 0 ≤ (x22_1 : Int) := of_decide_eq_true (by first | (with_reducible assumption) | assumption)
       have q151 : x22_1 < (t146.length : Int) := of_decide_eq_true (by first | (with_reducible assumption) | assumption)
       obtain ⟨ad151, e151, hx151_0, hx151_1, hx151_2⟩ := at_T58 (Kd.R_reads' HO_7.out).2.2 x22_1 p151 q151
       cases e151
       replace p151 := eq_true p151
       replace q151 := eq_true q151
       go_wp2_with (first | ((with_reducible refine gate_callee (f := 81) rfl ?_); refine gL (some 33) Tryd.func81 #[.pointer (some ⟨g, 0, none⟩), .agg #[.int .i64 ((rd_T58 t146 x22_1).f0), .int .i64 ((rd_T58 t146 x22_1).f1.f0), .int .i64 ((rd_T58 t146 x22_1).f1.f1)]] (h := ?_); (with_reducible refine (stacktext_encoder_values.calls k1 g s0_0 x1001_1 ((rd_T58 t146 x22_1).f0) ((rd_T58 t146 x22_1).f1.f0) ((rd_T58 t146 x22_1).f1.f1) t152 t155 t158 w0 _ ?side1 ?side2 A13.out).mono ?_); (case side1 => repeat (first | (with_reducible first | exact HI0.out | apply IsS65.alloc | apply IsS65.drewN | apply IsS65.drew | apply IsS65.set_1 | refine IsS65.far ?_ NB0_142.out _) | exact HI0.out)); (case side2 => repeat (first | (with_reducible first | exact HB.out | apply below_alloc | apply pw_below_drewN | apply below_drew1 | refine below_set ?_ (IsS65.ge HI0.out) | refine below_set ?_ GE142.out) | exact HB.out)); rintro e w15 ⟨v153, v156, rfl, ho0, ho1, hi, hb, hk⟩; refine ⟨_, rfl, ?_⟩; have n0_ := am (Kd.S_mono (Kd.S_told (Kd.S_oldK (IsS65.apartS (show IsS65 w0 _ g s0_0 x1001_1 from by repeat (first | (with_reducible first | exact HI0.out | apply IsS65.alloc | apply IsS65.drewN | apply IsS65.drew | apply IsS65.set_1 | refine IsS65.far ?_ NB0_142.out _) | exact HI0.out)) (by (with_reducible repeat (first | apply Kd.S_alloc | apply Kd.S_drewN | apply Kd.S_drew)); exact HO_5.out) (by decide)) hk) (Kd.R_base ho0)) (fun _ h_ => h_.1)); have n1_ := am (Kd.R_mono (Kd.R_told (Kd.R_oldK (IsS65.apart (show IsS65 w0 _ g s0_0 x1001_1 from by repeat (first | (with_reducible first | exact HI0.out | apply IsS65.alloc | apply IsS65.drewN | apply IsS65.drew | apply IsS65.set_1 | refine IsS65.far ?_ NB0_142.out _) | exact HI0.out)) (rA HO_7.out) (by decide)) hk) (Kd.R_base ho1)) (fun _ h_ => h_.1)); have n2_ := am (Kd.R_mono (Kd.R_told (Kd.R_oldK (IsS65.apart (show IsS65 w0 _ g s0_0 x1001_1 from by repeat (first | (with_reducible first | exact HI0.out | apply IsS65.alloc | apply IsS65.drewN | apply IsS65.drew | apply IsS65.set_1 | refine IsS65.far ?_ NB0_142.out _) | exact HI0.out)) (rA HO_20.out) (by decide)) hk) (Kd.R_base ho0)) (fun _ h_ => h_.1)); have n3_ := am (KeepBut.blk hk (g' := gb142) (o := .cells #[.int .i64 a1_0, .int .i64 a1_1, .int .i64 a1_2] 58 (0, 0)) (kA BK142.out) NB142_0.out (by simp)); have n4_ := am (Kd.R_lower (Kd.R_new' ho0 (Kd.R_lt (rA HO_20.out))) (keep_size (w := w) (g := g) (row := none) (kB1 HK.out GW142.out))); have n5_ := am (Kd.R_lower (Kd.R_newB (Kd.R_new' ho1 (Kd.R_lt (rA HO_7.out))) (g := gb142) (o := .cells #[.int .i64 a1_0, .int .i64 a1_1, .int .i64 a1_2] 58 (0, 0)) (kA BK142.out)) (keep_size (w := w) (g := g) (row := none) (kB1 HK.out GW142.out))); have n6_ := am (KeepBut.trans (kB1 HK.out GW142.out) hk (.inl rfl)); have n7_ := am (hb); have n8_ := am (hi); clear HO_5; clear HO_7; clear HO_20; clear BK142; clear HK; clear HB; clear HI0; have HO_5 := n0_; have HO_7 := n1_; have HO_20 := n2_; have BK142 := n3_; have HO154 := n4_; have HO157 := n5_; have HK := n6_; have HB := n7_; have HI0 := n8_; clear n0_ n1_ n2_ n3_ n4_ n5_ n6_ n7_ n8_; (try clear hb); (try clear hb2); (try clear hk); (try clear hi); (try clear ho0); (try clear ho1); obtain ⟨Ao16, co16, eo16⟩ := Kd.R_slice HO154.out; subst eo16))
       go_loopg [5, 38] k1 (fun kq v5 v38 w' => ∃ (x5_2 : List (S62)) (x38_2 : Int), v38 = .int .i64 x38_2 ∧ Aside0 (stacktext_encoder_texts.l1 kq x5_2 t146 (rd t143 x22_1) t155 t143 (t143.length : Int) x22_1 t152 (t152.length : Int) x38_2 s0_0 t158 = some (r1, r2)) ∧ Aside0 (kq ≤ k1) ∧ Aside0 (Kd.S k62 62 w' w.heap.size (fun k_ => some k_ ≠ ((.slice (some ad150) t143.length co8) : Value).ownBlock ∧ some k_ ≠ ((.slice Ao16 t152.length co16) : Value).ownBlock) v5 x5_2) ∧ Aside0 (Kd.R k58 58 w' w.heap.size (fun k_ => some k_ ≠ (v156 : Value).ownBlock ∧ k_ ≠ gb142) (.slice (some ad151) t146.length co14) t146) ∧ Aside0 (Kd.R k58 58 w' w.heap.size (fun k_ => some k_ ≠ ((.slice (some ad151) t146.length co14) : Value).ownBlock ∧ k_ ≠ gb142) v156 t155) ∧ Aside0 (Kd.R (Kd.int .i64) 3 w' w.heap.size (fun k_ => some k_ ≠ ((.slice Ao16 t152.length co16) : Value).ownBlock) (.slice (some ad150) t143.length co8) t143) ∧ Aside0 (Kd.R (Kd.int .i64) 3 w' w.heap.size (fun k_ => some k_ ≠ ((.slice (some ad150) t143.length co8) : Value).ownBlock) (.slice Ao16 t152.length co16) t152) ∧ Aside0 (w'.heap[gb142]? = some (.cells #[.int .i64 a1_0, .int .i64 a1_1, .int .i64 a1_2] 58 (0, 0))) ∧ Aside0 (IsS65 w0 w' g s0_0 t158) ∧ Aside0 (KeepBut w w' g none) ∧ Aside0 (Below w0.heap.size w0 w'))
       case atStart => exact ⟨(x5_1), (0), (by first | rfl | (simp; done) | (simp [*]; done)), H', ⟨Nat.le_refl _⟩, ⟨by (with_reducible repeat (first | apply Kd.S_alloc | apply Kd.S_drewN | apply Kd.S_drew)); exact HO_5.out⟩, ⟨by (with_reducible repeat (first | apply Kd.R_alloc | apply Kd.R_drewN | apply Kd.R_drew)); exact Kd.R_mono HO_7.out (fun _ hk => ⟨hk.2, hk.1⟩)⟩, ⟨by (with_reducible repeat (first | apply Kd.R_alloc | apply Kd.R_drewN | apply Kd.R_drew)); exact Kd.R_mono HO157.out (fun _ hk => ⟨hk.1.2, hk.2⟩)⟩, ⟨by (with_reducible repeat (first | apply Kd.R_alloc | apply Kd.R_drewN | apply Kd.R_drew)); exact Kd.R_mono HO_20.out (fun _ hk => hk.2)⟩, ⟨by (with_reducible repeat (first | apply Kd.R_alloc | apply Kd.R_drewN | apply Kd.R_drew)); exact Kd.R_mono HO154.out (fun _ hk => hk.2)⟩, ⟨by (with_reducible repeat (first | refine blk_drewN ?_ _ | refine blk_drew ?_ | refine blk_alloc ?_ _)); exact BK142.out⟩, ⟨by repeat (first | (with_reducible first | exact HI0.out | apply IsS65.alloc | apply IsS65.drewN | apply IsS65.drew | apply IsS65.set_1 | refine IsS65.far ?_ NB0_142.out _) | exact HI0.out)⟩, ⟨by repeat (first | (with_reducible first | exact HK.out | apply KeepBut.set_ | apply keep_drewN | apply keep_drew | apply keep_alloc | refine keep_far ?_ GW142.out _) | exact HK.out)⟩, ⟨by repeat (first | (with_reducible first | exact HB.out | apply below_alloc | apply pw_below_drewN | apply below_drew1 | refine below_set ?_ (IsS65.ge HI0.out) | refine below_set ?_ GE142.out) | exact HB.out)⟩⟩
       case round =>
        clear H'
        try clear c1
        try clear p1
        try clear q1
        try clear hx1
        try clear p2
        try clear c5
        try clear c8
        try clear c9
        try clear c9b0
        try clear c10
        try clear c10b0
        try clear c11
        try clear c11b0
        try clear c12
        try clear c12b0
        try clear p15
        try clear q15
        try clear hx15
        try clear hcz6_0
        try clear hcz6_1
        try clear hcz6_2
        try clear hfz6_0
        try clear hfz6_1
        try clear hfz6_2
        try clear hx150_0
        try clear hx151_0
        try clear hx151_1
        try clear hx151_2
        try clear p150
        try clear p151
        try clear p2
        try clear q150
        try clear q151
        obtain ⟨x5_2, x38_2, rfl, HA, HK2, HO_5, HO_7, HO_11, HO_20, HO_36, BK142, HI0, HK, HB⟩ := hrel
        cases gk with
        | zero => exact absurd HA.out (by simp [stacktext_encoder_texts.l1])
        | succ k2 =>
         have H := HA.out
         clear HA
         simp only [stacktext_encoder_texts.l1] at H
         by_cases c17 : x38_2 < (t152.length : Int)
         ·rw [if_pos c17] at H
          have c17b0 : decide (x38_2 < (t152.length : Int)) = true := decide_eq_true c17
          clear c17
          by_cases c18 : 0 ≤ x38_2
          ·rw [if_pos c18] at H
           have c18b0 : decide (0 ≤ x38_2) = true := decide_eq_true c18
           clear c18
           by_cases c19 : x38_2 < (t152.length : Int)
           ·rw [if_pos c19] at H
            have c19b0 : decide (x38_2 < (t152.length : Int)) = true := decide_eq_true c19
            clear c19
            obtain ⟨y160, hy160⟩ : ∃ y_ : List Int, y_ = (([wrap64 ((wrap64 (30 * (rd t143 x22_1))) + (rd t152 x38_2))] : List Int)) := ⟨_, rfl⟩
            replace H : (if x38_2 < (t155.length : Int) then (if x5_2.length < 2199023255552 then (stacktext_encoder_texts.l1 k2 (x5_2 ++ [(⟨1, 0, y160, (⟨(rd_T58 t155 x38_2).f0, (⟨(rd_T58 t155 x38_2).f1.f0, (rd_T58 t155 x38_2).f1.f1⟩ : S56)⟩ : S58)⟩ : S62)]) t146 (rd t143 x22_1) t155 t143 (t143.length : Int) x22_1 t152 (t152.length : Int) (wrap64 (x38_2 + 1)) s0_0 t158) else (none)) else (none)) = some (r1, r2) := by first | (rw [hy160]; with_reducible exact H) | (have H2_ := (Option.bind_some _ _).symm.trans H; rw [hy160]; with_reducible exact H2_) | (have H2_ := (Option.bind_some _ _).symm.trans H; with_reducible exact H2_) | with_reducible exact H | (rw [hy160]; exact H) | exact H
            have Ny160 := am hy160
            clear hy160
            by_cases c20 : x38_2 < (t155.length : Int)
            ·rw [if_pos c20] at H
             have c20b0 : decide (x38_2 < (t155.length : Int)) = true := decide_eq_true c20
             clear c20
             by_cases c21 : x5_2.length < 2199023255552
             ·rw [if_pos c21] at H
              have LMc21 := am c21
              clear c21
              obtain ⟨y164, hy164⟩ : ∃ y_ : List (S62), y_ = (x5_2 ++ [(⟨1, 0, y160, (⟨(rd_T58 t155 x38_2).f0, (⟨(rd_T58 t155 x38_2).f1.f0, (rd_T58 t155 x38_2).f1.f1⟩ : S56)⟩ : S58)⟩ : S62)]) := ⟨_, rfl⟩
              replace H : (stacktext_encoder_texts.l1 k2 y164 t146 (rd t143 x22_1) t155 t143 (t143.length : Int) x22_1 t152 (t152.length : Int) (wrap64 (x38_2 + 1)) s0_0 t158) = some (r1, r2) := by first | (rw [hy164]; with_reducible exact H) | (have H2_ := (Option.bind_some _ _).symm.trans H; rw [hy164]; with_reducible exact H2_) | (have H2_ := (Option.bind_some _ _).symm.trans H; with_reducible exact H2_) | with_reducible exact H | (rw [hy164]; exact H) | exact H
              have Ny164 := am hy164
              clear hy164
              have H' := am H
              clear H
              have p159 : 0 ≤ (x38_2 : Int) := of_decide_eq_true (by first | (with_reducible assumption) | assumption)
              have q159 : x38_2 < (t152.length : Int) := of_decide_eq_true (by first | (with_reducible assumption) | assumption)
              obtain ⟨ad159, e159, hx159_0⟩ := Kd.at_int (Kd.R_reads' HO_36.out).2.2 x38_2 p159 q159
              cases e159
              replace p159 := eq_true p159
              replace q159 := eq_true q159
              go_wp2_with (first | ((with_reducible refine gate_dst (N := 48) rfl ?_); refine Kd.R_lit (Kd.int .i64) _ 3 ?hg (N := 48) ?hd (xs := ([wrap64 ((wrap64 (30 * (rd t143 x22_1))) + (rd t152 x38_2))] : List Int)) (inner := [.int .i64 (wrap64 ((wrap64 (30 * (rd t143 x22_1))) + (rd t152 x38_2)))]) (ok := fun _ => True) (okp := fun _ => True) ?hr ?hp (fun _ hk => hk) trivial (Below.refl _ _) (Nat.le_refl _) (by simp) ?_; (case hd => rfl); (case hg => rfl); (case hr => first | (go_simp; done) | (go_simp; rfl)); (case hp => exact (Reps.one (show Kd.M (Kd.int .i64) _ _ _ (wrap64 ((wrap64 (30 * (rd t143 x22_1))) + (rd t152 x38_2))) [.int .i64 (wrap64 ((wrap64 (30 * (rd t143 x22_1))) + (rd t152 x38_2)))] from rfl) (Reps.none _ _))); intro v161 w22 ho23 hb hg_ hnew_; clear hg_ hnew_; (first | rw [← Ny160.out] at ho23 | (simp only [Int.reduceToNat] at ho23; rw [← Ny160.out] at ho23)); have n0_ := am (Kd.S_elder' (by (with_reducible repeat (first | apply Kd.S_alloc | apply Kd.S_drewN | apply Kd.S_drew)); exact HO_5.out) (Kd.R_base ho23) hb); have n1_ := am (Kd.R_below (rA HO_7.out) hb); have n2_ := am (Kd.R_below (rA HO_11.out) hb); have n3_ := am (Kd.R_elder' (rA HO_20.out) (Kd.R_base ho23) hb); have n4_ := am (Kd.R_elder' (rA HO_36.out) (Kd.R_base ho23) hb); have n5_ := am (Kd.R_lower (Kd.R_new' (Kd.R_new' ho23 (Kd.R_lt (rA HO_20.out))) (Kd.R_lt (rA HO_36.out))) (keep_size (w := w) (g := g) (row := none) (kB1 HK.out GW142.out))); have n6_ := am (blk_below (g := gb142) (o := .cells #[.int .i64 a1_0, .int .i64 a1_1, .int .i64 a1_2] 58 (0, 0)) (kA BK142.out) hb); have n7_ := am (IsS65.below (iS1 HI0.out NB0_142.out) hb); have n8_ := am (KeepBut.trans (kB1 HK.out GW142.out) (KeepBut.of_below hb g none) (.inl rfl)); have n9_ := am (below_step (bA2 HB.out (IsS65.ge HI0.out) GE142.out) hb); clear HO_5; clear HO_7; clear HO_11; clear HO_20; clear HO_36; clear BK142; clear HI0; clear HK; clear HB; have HO_5 := n0_; have HO_7 := n1_; have HO_11 := n2_; have HO_20 := n3_; have HO_36 := n4_; have HO162 := n5_; have BK142 := n6_; have HI0 := n7_; have HK := n8_; have HB := n9_; clear n0_ n1_ n2_ n3_ n4_ n5_ n6_ n7_ n8_ n9_; clear hb ho23; obtain ⟨Ao24, co24, eo24⟩ := Kd.R_slice HO_11.out; subst eo24; have p163 : 0 ≤ (x38_2 : Int) := of_decide_eq_true (by first | (with_reducible assumption) | assumption); have q163 : x38_2 < (t155.length : Int) := of_decide_eq_true (by first | (with_reducible assumption) | assumption); obtain ⟨ad163, e163, hx163_0, hx163_1, hx163_2⟩ := at_T58 (Kd.R_reads' HO_11.out).2.2 x38_2 p163 q163; cases e163; replace p163 := eq_true p163; replace q163 := eq_true q163; obtain ⟨Ao25, co25, eo25⟩ := Kd.R_slice HO162.out; subst eo25) | ((with_reducible refine gate_builtin (b := .append) (xs := #[.tmp 43, .tmp 54]) rfl ?_); at_builtin; refine Kd.S_append k62 w.heap.size rfl (.tmp 43) (.tmp 54) 59 62 (.agg #[(.int .i64 0), (.int .i64 0), (.slice none 0 0), (.int .i64 0), (.int .i64 0), (.int .i64 0)]) 64 rfl Tryd.underlying59 info62 rfl (by decide) (by omega) u5 x5_2 (⟨1, 0, y160, (⟨(rd_T58 t155 x38_2).f0, (⟨(rd_T58 t155 x38_2).f1.f0, (rd_T58 t155 x38_2).f1.f1⟩ : S56)⟩ : S58)⟩ : S62) [.int .i64 1, .int .i64 0, .slice Ao25 y160.length co25, .int .i64 ((rd_T58 t155 x38_2).f0), .int .i64 ((rd_T58 t155 x38_2).f1.f0), .int .i64 ((rd_T58 t155 x38_2).f1.f1)] (fun k_ => some k_ ≠ (.slice (some ad150) t143.length co8 : Value).ownBlock ∧ some k_ ≠ (.slice (some ad159) t152.length co16 : Value).ownBlock) (fun k_ => some k_ = (.slice Ao25 y160.length co25 : Value).ownBlock) rfl rfl ?aP (fun k_ hk_ => ((Kd.R_mono (ok' := fun k_ => ((fun k_ => some k_ ≠ (.slice (some ad150) t143.length co8 : Value).ownBlock ∧ some k_ ≠ (.slice (some ad159) t152.length co16 : Value).ownBlock)) k_ ∧ some k_ ≠ (u5 : Value).ownBlock) (Kd.R_apart' (HO162.out) (Kd.S_typed HO_5.out) (by decide)) (fun k_ hk => ⟨⟨hk.1.1.2, hk.1.2⟩, hk.2⟩))).1 k_ hk_.symm) ?aF ?aO (Below.refl _ _) ?aS ?aL ?_; (case aP => exact k62_mkM _ _ _ (⟨1, 0, y160, (⟨(rd_T58 t155 x38_2).f0, (⟨(rd_T58 t155 x38_2).f1.f0, (rd_T58 t155 x38_2).f1.f1⟩ : S56)⟩ : S58)⟩ : S62) (Kd.R_mono (Kd.R_tight rfl (Kd.R_mono (ok' := fun k_ => ((fun k_ => some k_ ≠ (.slice (some ad150) t143.length co8 : Value).ownBlock ∧ some k_ ≠ (.slice (some ad159) t152.length co16 : Value).ownBlock)) k_ ∧ some k_ ≠ (u5 : Value).ownBlock) (Kd.R_apart' (HO162.out) (Kd.S_typed HO_5.out) (by decide)) (fun k_ hk => ⟨⟨hk.1.1.2, hk.1.2⟩, hk.2⟩))) (fun _ h_ => h_))); (case aF => exact (fun k_ hk => ⟨Kd.fresh' (Kd.R_lt (rA HO_20.out)) k_ hk, Kd.fresh' (Kd.R_lt (rA HO_36.out)) k_ hk⟩)); (case aO => exact (by (with_reducible repeat (first | apply Kd.S_alloc | apply Kd.S_drewN | apply Kd.S_drew)); exact Kd.S_mono HO_5.out (fun k_ hk => ⟨⟨hk.1.1, hk.1.2⟩, fun e_ => hk.2 e_⟩))); (case aS => exact (keep_size (w := w) (g := g) (row := none) (kB1 HK.out GW142.out))); (case aL => have := LMc21.out; omega); intro v165 w26 ho hb hg hat; rw [← Ny164.out] at ho; have n0_ := am (Kd.R_over' (rA HO_7.out) (Kd.S_typed (by (with_reducible repeat (first | apply Kd.S_alloc | apply Kd.S_drewN | apply Kd.S_drew)); exact HO_5.out)) (by decide) hg); have n1_ := am (Kd.R_over' (rA HO_11.out) (Kd.S_typed (by (with_reducible repeat (first | apply Kd.S_alloc | apply Kd.S_drewN | apply Kd.S_drew)); exact HO_5.out)) (by decide) hg); have n2_ := am (Kd.R_over' (rA HO_20.out) (Kd.S_typed (by (with_reducible repeat (first | apply Kd.S_alloc | apply Kd.S_drewN | apply Kd.S_drew)); exact HO_5.out)) (by decide) hg); have n3_ := am (Kd.R_over' (rA HO_36.out) (Kd.S_typed (by (with_reducible repeat (first | apply Kd.S_alloc | apply Kd.S_drewN | apply Kd.S_drew)); exact HO_5.out)) (by decide) hg); have n4_ := am (blk_grown (g := gb142) (o := .cells #[.int .i64 a1_0, .int .i64 a1_1, .int .i64 a1_2] 58 (0, 0)) (kA BK142.out) hg (Kd.S_ne HO_5.out BK142.out (by decide))); have n5_ := am (IsS65.grown (iS1 HI0.out NB0_142.out) hg (IsS65.own_neS HI0.out HO_5.out (by decide))); have n6_ := am (below_weaken (bA2 HB.out (IsS65.ge HI0.out) GE142.out) HL.out hb); have n7_ := am (KeepBut.trans (kB1 HK.out GW142.out) (KeepBut.of_grown hg g) (Kd.S_base2 HO_5.out)); have n8_ := am (ho); clear HO_7; clear HO_11; clear HO_20; clear HO_36; clear BK142; clear HI0; clear HB; clear HK; clear HO_5; clear HO162; have HO_7 := n0_; have HO_11 := n1_; have HO_20 := n2_; have HO_36 := n3_; have BK142 := n4_; have HI0 := n5_; have HB := n6_; have HK := n7_; have HO166 := n8_; clear n0_ n1_ n2_ n3_ n4_ n5_ n6_ n7_ n8_; clear ho hb hg hat))
              go_roundg k2
              case measure => have := HK1.out; have := HK2.out; omega
              case rel => exact ⟨(y164), (wrap64 (x38_2 + 1)), (by first | rfl | (simp; done) | (simp [*]; done)), H', ⟨by have := HK1.out; have := HK2.out; omega⟩, ⟨by (with_reducible repeat (first | apply Kd.S_alloc | apply Kd.S_drewN | apply Kd.S_drew)); exact HO166.out⟩, ⟨by (with_reducible repeat (first | apply Kd.R_alloc | apply Kd.R_drewN | apply Kd.R_drew)); exact HO_7.out⟩, ⟨by (with_reducible repeat (first | apply Kd.R_alloc | apply Kd.R_drewN | apply Kd.R_drew)); exact HO_11.out⟩, ⟨by (with_reducible repeat (first | apply Kd.R_alloc | apply Kd.R_drewN | apply Kd.R_drew)); exact Kd.R_mono HO_20.out (fun _ hk => hk.1)⟩, ⟨by (with_reducible repeat (first | apply Kd.R_alloc | apply Kd.R_drewN | apply Kd.R_drew)); exact Kd.R_mono HO_36.out (fun _ hk => hk.1)⟩, ⟨by (with_reducible repeat (first | refine blk_drewN ?_ _ | refine blk_drew ?_ | refine blk_alloc ?_ _)); exact BK142.out⟩, ⟨by repeat (first | (with_reducible first | exact HI0.out | apply IsS65.alloc | apply IsS65.drewN | apply IsS65.drew | apply IsS65.set_1 | refine IsS65.far ?_ NB0_142.out _) | exact HI0.out)⟩, ⟨by repeat (first | (with_reducible first | exact HK.out | apply KeepBut.set_ | apply keep_drewN | apply keep_drew | apply keep_alloc | refine keep_far ?_ GW142.out _) | exact HK.out)⟩, ⟨by repeat (first | (with_reducible first | exact HB.out | apply below_alloc | apply pw_below_drewN | apply below_drew1 | refine below_set ?_ (IsS65.ge HI0.out) | refine below_set ?_ GE142.out) | exact HB.out)⟩⟩
             ·rw [if_neg c21] at H
              exact absurd H (by simp)
            ·rw [if_neg c20] at H
             exact absurd H (by simp)
           ·rw [if_neg c19] at H
            exact absurd H (by simp)
          ·rw [if_neg c18] at H
           exact absurd H (by simp)
         ·rw [if_neg c17] at H
          have c17b0 : decide (x38_2 < (t152.length : Int)) = false := decide_eq_false c17
          clear c17
          have H' := am H
          clear H
          go_wp2
          go_roundg k2
          case measure => have := HK1.out; have := HK2.out; omega
          case rel => exact ⟨(x5_2), (wrap64 (x22_1 + 1)), (t158), (by first | rfl | (simp; done) | (simp [*]; done)), H', ⟨by have := HK1.out; have := HK2.out; omega⟩, ⟨by (with_reducible repeat (first | apply Kd.S_alloc | apply Kd.S_drewN | apply Kd.S_drew)); exact Kd.S_mono HO_5.out (fun _ hk => hk.1)⟩, ⟨by (with_reducible repeat (first | apply Kd.R_alloc | apply Kd.R_drewN | apply Kd.R_drew)); exact Kd.R_mono HO_7.out (fun _ hk => hk.2)⟩, ⟨by (with_reducible repeat (first | apply Kd.R_alloc | apply Kd.R_drewN | apply Kd.R_drew)); exact Kd.R_mono HO_20.out (fun _ hk => trivial)⟩, ⟨by (with_reducible repeat (first | refine blk_drewN ?_ _ | refine blk_drew ?_ | refine blk_alloc ?_ _)); exact BK142.out⟩, ⟨by repeat (first | (with_reducible first | exact HI0.out | apply IsS65.alloc | apply IsS65.drewN | apply IsS65.drew | apply IsS65.set_1 | refine IsS65.far ?_ NB0_142.out _) | exact HI0.out)⟩, ⟨by repeat (first | (with_reducible first | exact HK.out | apply KeepBut.set_ | apply keep_drewN | apply keep_drew | apply keep_alloc | refine keep_far ?_ GW142.out _) | exact HK.out)⟩, ⟨by repeat (first | (with_reducible first | exact HB.out | apply below_alloc | apply pw_below_drewN | apply below_drew1 | refine below_set ?_ (IsS65.ge HI0.out) | refine below_set ?_ GE142.out) | exact HB.out)⟩⟩
      ·rw [if_neg c12] at H
       exact absurd H (by simp)
     ·rw [if_neg c11] at H
      exact absurd H (by simp)
    ·rw [if_neg c10] at H
     exact absurd H (by simp)
   ·rw [if_neg c9] at H
    have c9b0 : decide (x22_1 < (t143.length : Int)) = false := decide_eq_false c9
    clear c9
    simp only [Option.some.injEq, Prod.mk.injEq] at H
    obtain ⟨rfl, rfl⟩ := H
    go_wp2
    go_ret
    exact ⟨_, by first | rfl | (simp [errW_none, errW_some] <;> rfl) | (simp [*, errW_none, errW_some] <;> rfl), by (with_reducible repeat (first | apply Kd.S_alloc | apply Kd.S_drewN | apply Kd.S_drew)); exact Kd.S_mono HO_5.out (fun _ hk => trivial), by repeat (first | (with_reducible first | exact HI0.out | apply IsS65.alloc | apply IsS65.drewN | apply IsS65.drew | apply IsS65.set_1 | refine IsS65.far ?_ NB0_142.out _) | exact HI0.out), by repeat (first | (with_reducible first | exact HB.out | apply below_alloc | apply pw_below_drewN | apply below_drew1 | refine below_set ?_ (IsS65.ge HI0.out) | refine below_set ?_ GE142.out) | exact HB.out), by repeat (first | (with_reducible first | exact HK.out | apply KeepBut.set_ | apply keep_drewN | apply keep_drew | apply keep_alloc | refine keep_far ?_ GW142.out _) | exact HK.out)⟩
def stacktext_afterRun.f (a0 : Int) : Option (Int × Int × Int) := some (a0, 4, (-1))
set_option maxHeartbeats 8000000 in
set_option maxRecDepth 100000 in
theorem stacktext_afterRun.calls (a0 : Int) (r1 : Int) (r2 : Int) (r3 : Int) (w : World) (h : stacktext_afterRun.f a0 = some (r1, r2, r3)) :
  Calls Tryd.prog 77 #[.int .i64 a0] w fun e w' => e = .returned (.agg #[.int .i64 r1, .int .i64 r2, .int .i64 r3]) ∧ Below w.heap.size w w' := by
 have hu58 := Tryd.underlying58
 have hu56 := Tryd.underlying56
 have HB := am (Below.refl w.heap.size w)
 have H : (some (a0, 4, (-1))) = some (r1, r2, r3) := h
 clear h
 simp only [Option.some.injEq, Prod.mk.injEq] at H
 obtain ⟨rfl, rfl, rfl⟩ := H
 go_enter Tryd.func77, Tryd.ntmps77
 go_wp2_with (first | ((with_reducible refine gate_dst (N := 2) rfl ?_); refine box_event ?hg (N := 2) ?hd (cs := #[.int .i64 0, .int .i64 0, .int .i64 0]) (t := 58) ?hr ?_; (case hd => rfl); (case hg => rfl); (case hr => first | (go_simp; done) | (go_simp; rfl)); intro gb167 hg w2 hbox hb; have n0_ := am (below_step (bA0 HB.out) hb); have n1_ := am (hbox); have n2_ := am ((by rw [hg]; exact (below_size (bA0 HB.out)) : w.heap.size ≤ gb167)); have n3_ := am ((by rw [hg]; exact (below_size (bA0 HB.out)) : w.heap.size ≤ gb167)); clear HB; have HB := n0_; have BK167 := n1_; have GW167 := n2_; have GE167 := n3_; clear n0_ n1_ n2_ n3_; clear hb hbox hg; have hcz3_0 : w2.cell? ⟨gb167, 0, none⟩ = some (.int .i64 0) := (blk_cell BK167.out 0).trans rfl; have hcz3_1 : w2.cell? ⟨gb167, 1, none⟩ = some (.int .i64 0) := (blk_cell BK167.out 1).trans rfl; have hcz3_2 : w2.cell? ⟨gb167, 2, none⟩ = some (.int .i64 0) := (blk_cell BK167.out 2).trans rfl; have hfz3_0 := blk_frozen BK167.out 0; have hfz3_1 := blk_frozen BK167.out 1; have hfz3_2 := blk_frozen BK167.out 2))
 refine bodyPost_ret (results_cell_row rfl _ _ gb167 58 #[.int .i64 a0, .int .i64 4, .int .i64 (-1)] (0, 0) _ rfl (by (with_reducible repeat (first | refine blk_drewN ?_ _ | refine blk_drew ?_ | refine blk_alloc ?_ _)); refine blk_put (cs := #[.int .i64 a0, .int .i64 4, .int .i64 0]) ?_ 2 _ rfl; (with_reducible repeat (first | refine blk_drewN ?_ _ | refine blk_drew ?_ | refine blk_alloc ?_ _)); refine blk_put (cs := #[.int .i64 a0, .int .i64 0, .int .i64 0]) ?_ 1 _ rfl; (with_reducible repeat (first | refine blk_drewN ?_ _ | refine blk_drew ?_ | refine blk_alloc ?_ _)); refine blk_put (cs := #[.int .i64 0, .int .i64 0, .int .i64 0]) ?_ 0 _ rfl; (with_reducible repeat (first | refine blk_drewN ?_ _ | refine blk_drew ?_ | refine blk_alloc ?_ _)); exact BK167.out) Tryd.underlying58 rfl (by kernel_rfl)) rfl ?_
 exact ⟨by first | rfl | (simp [errW_none, errW_some] <;> rfl) | (simp [*, errW_none, errW_some] <;> rfl), by repeat (first | (with_reducible first | exact HB.out | apply below_alloc | apply pw_below_drewN | apply below_drew1 | refine below_set ?_ GE167.out) | exact HB.out)⟩
def stacktext_bytesCost.f (a0 : Int) : Option (Int) := some (wrap64 ((wrap64 (1 + (wrap64 (5 * (wrap64 (Int.tdiv a0 6)))))) + (Int.tmod a0 6)))
set_option maxHeartbeats 8000000 in
set_option maxRecDepth 100000 in
theorem stacktext_bytesCost.calls (a0 : Int) (r : Int) (w : World) (h : stacktext_bytesCost.f a0 = some r) :
  Calls Tryd.prog 78 #[.int .i64 a0] w fun e w' => e = .returned (.int .i64 r) ∧ Drawn0 w w' := by
 have H : (some (wrap64 ((wrap64 (1 + (wrap64 (5 * (wrap64 (Int.tdiv a0 6)))))) + (Int.tmod a0 6)))) = some r := h
 clear h
 obtain rfl := Option.some.inj H
 go_enter Tryd.func78, Tryd.ntmps78
 go_wp2
 go_ret
 exact ⟨by first | rfl | (simp; done) | (simp [*]; done), by repeat (first | exact Drawn0.refl _ | apply Drawn0.step)⟩
def stacktext_digitsCost.f (a0 : Int) : Option (Int) := if (Int.tmod a0 44) > 0 then (some (wrap64 ((wrap64 (1 + (wrap64 (15 * (wrap64 (Int.tdiv a0 44)))))) + (wrap64 ((wrap64 (Int.tdiv (Int.tmod a0 44) 3)) + 1))))) else (some (wrap64 ((wrap64 (1 + (wrap64 (15 * (wrap64 (Int.tdiv a0 44)))))) + (Int.tmod a0 44))))
set_option maxHeartbeats 8000000 in
set_option maxRecDepth 100000 in
theorem stacktext_digitsCost.calls (a0 : Int) (r : Int) (w : World) (h : stacktext_digitsCost.f a0 = some r) :
  Calls Tryd.prog 80 #[.int .i64 a0] w fun e w' => e = .returned (.int .i64 r) ∧ Drawn0 w w' := by
 have H : (if (Int.tmod a0 44) > 0 then (some (wrap64 ((wrap64 (1 + (wrap64 (15 * (wrap64 (Int.tdiv a0 44)))))) + (wrap64 ((wrap64 (Int.tdiv (Int.tmod a0 44) 3)) + 1))))) else (some (wrap64 ((wrap64 (1 + (wrap64 (15 * (wrap64 (Int.tdiv a0 44)))))) + (Int.tmod a0 44))))) = some r := h
 clear h
 by_cases c2 : (Int.tmod a0 44) > 0
 ·rw [if_pos c2] at H
  have c2b0 : decide (0 < (Int.tmod a0 44)) = true := decide_eq_true c2
  clear c2
  obtain rfl := Option.some.inj H
  go_enter Tryd.func80, Tryd.ntmps80
  go_wp2
  go_ret
  exact ⟨by first | rfl | (simp; done) | (simp [*]; done), by repeat (first | exact Drawn0.refl _ | apply Drawn0.step)⟩
 ·rw [if_neg c2] at H
  have c2b0 : decide (0 < (Int.tmod a0 44)) = false := decide_eq_false c2
  clear c2
  obtain rfl := Option.some.inj H
  go_enter Tryd.func80, Tryd.ntmps80
  go_wp2
  go_ret
  exact ⟨by first | rfl | (simp; done) | (simp [*]; done), by repeat (first | exact Drawn0.refl _ | apply Drawn0.step)⟩
mutual
def stacktext_encoder_runs.l0 : Nat → Int → List (S62) → Int → List Int → Option Nat → Option ((List (S62)) × Option Nat)
 | 0, _, _, _, _, _ => none
 | k + 1, x1, x5, x6, x1000, x1001 => if x6 ≤ (wrap64 ((x1000.length : Int) - x1)) then (if (Int.tmod x6 6) = 0 then (stacktext_encoder_runs.j1 k x1 x5 x6 924 x1000 x1001) else (stacktext_encoder_runs.j1 k x1 x5 x6 901 x1000 x1001)) else ((stacktext_encoder_digits.f k x1000 x1001 x1).bind fun bt175 => (stacktext_encoder_runs.l1 k x1 x5 bt175.1 0 x1000 bt175.2))
def stacktext_encoder_runs.j1 : Nat → Int → List (S62) → Int → Int → List Int → Option Nat → Option ((List (S62)) × Option Nat)
 | 0, _, _, _, _, _, _ => none
 | k + 1, x1, x5, x6, x7, x1000, x1001 => (stacktext_bytesCost.f x6).bind fun t168 => ((stacktext_afterRun.f (wrap64 (x1 + x6))).bind fun bt169 => (if x5.length < 2199023255552 then (stacktext_encoder_runs.l0 k x1 (x5 ++ [(⟨t168, x7, ([] : List Int), (⟨bt169.1, (⟨bt169.2.1, bt169.2.2⟩ : S56)⟩ : S58)⟩ : S62)]) (wrap64 (x6 + 1)) x1000 x1001) else (none)))
def stacktext_encoder_runs.l1 : Nat → Int → List (S62) → Int → Int → List Int → Option Nat → Option ((List (S62)) × Option Nat)
 | 0, _, _, _, _, _, _ => none
 | k + 1, x1, x5, x36, x37, x1000, x1001 => if x37 < x36 then ((stacktext_digitsCost.f (wrap64 (x37 + 1))).bind fun t177 => ((stacktext_afterRun.f (wrap64 ((wrap64 (x1 + x37)) + 1))).bind fun bt178 => (if x5.length < 2199023255552 then (stacktext_encoder_runs.l1 k x1 (x5 ++ [(⟨t177, 902, ([] : List Int), (⟨bt178.1, (⟨bt178.2.1, bt178.2.2⟩ : S56)⟩ : S58)⟩ : S62)]) x36 (wrap64 (x37 + 1)) x1000 x1001) else (none)))) else (some (x5, x1001))
end
def stacktext_encoder_runs.f (k : Nat) (s0_0 : List Int) (s0_1 : Option Nat) (a1 : Int) : Option ((List (S62)) × Option Nat) := stacktext_encoder_runs.l0 k a1 ([] : List (S62)) 1 s0_0 s0_1
set_option maxHeartbeats 8000000 in
set_option maxRecDepth 100000 in
theorem stacktext_encoder_runs.calls (k : Nat) (g : Nat) (s0_0 : List Int) (s0_1 : Option Nat) (a1 : Int) (r1 : List (S62)) (r2 : Option Nat) (w0 w : World) (hI : IsS65 w0 w g s0_0 s0_1) (hB : Below w0.heap.size w0 w) (h : stacktext_encoder_runs.f k s0_0 s0_1 a1 = some (r1, r2)) :
  Calls Tryd.prog 56 #[.pointer (some ⟨g, 0, none⟩), .int .i64 a1] w fun e w' => ∃ v0_ : Value, e = .returned (v0_) ∧ Kd.S k62 62 w' w.heap.size (fun _ => True) v0_ r1 ∧ IsS65 w0 w' g s0_0 r2 ∧ Below w0.heap.size w0 w' ∧ KeepBut w w' g none := by
 have hu62 := Tryd.underlying62
 have HI0 := am hI
 have HK := am (KeepBut.refl w g none)
 have HL := am hB.size
 clear hI
 have HW0 := am hB.size
 have HB := am hB
 clear hB
 have H : (stacktext_encoder_runs.l0 k a1 ([] : List (S62)) 1 s0_0 s0_1) = some (r1, r2) := h
 clear h
 have H' := am H
 clear H
 go_enter Tryd.func56, Tryd.ntmps56
 go_wp2
 go_loopg [5, 6] k (fun kq v5 v6 w' => ∃ (x5_1 : List (S62)) (x6_1 : Int), v6 = .int .i64 x6_1 ∧ Aside0 (stacktext_encoder_runs.l0 kq a1 x5_1 x6_1 s0_0 s0_1 = some (r1, r2)) ∧ Aside0 (kq ≤ k) ∧ Aside0 (Kd.S k62 62 w' w.heap.size (fun _ => True) v5 x5_1) ∧ Aside0 (IsS65 w0 w' g s0_0 s0_1) ∧ Aside0 (KeepBut w w' g none) ∧ Aside0 (Below w0.heap.size w0 w'))
 case atStart => exact ⟨(([] : List (S62))), (1), (by first | rfl | (simp; done) | (simp [*]; done)), H', ⟨Nat.le_refl _⟩, ⟨by first | exact Kd.S_nil _ _ _ _ _ | exact Kd.N_nil _ _ _ _ _ | exact Kd.V_nil _ _ _ _ _ | exact Kd.Q_nil _ _ _ _ _ | exact Kd.R_nil _ _ _ _ _⟩, ⟨by repeat (first | (with_reducible first | exact HI0.out | apply IsS65.alloc | apply IsS65.drewN | apply IsS65.drew | apply IsS65.set_1) | exact HI0.out)⟩, ⟨by repeat (first | (with_reducible first | exact HK.out | apply KeepBut.set_ | apply keep_drewN | apply keep_drew | apply keep_alloc) | exact HK.out)⟩, ⟨by repeat (first | (with_reducible first | exact HB.out | apply below_alloc | apply pw_below_drewN | apply below_drew1 | refine below_set ?_ (IsS65.ge HI0.out)) | exact HB.out)⟩⟩
 case round =>
  clear H'
  try clear p2
  obtain ⟨x5_1, x6_1, rfl, HA, HK1, HO_5, HI0, HK, HB⟩ := hrel
  cases gk with
  | zero => exact absurd HA.out (by simp [stacktext_encoder_runs.l0])
  | succ k1 =>
   have H := HA.out
   clear HA
   simp only [stacktext_encoder_runs.l0] at H
   by_cases c3 : x6_1 ≤ (wrap64 ((s0_0.length : Int) - a1))
   ·rw [if_pos c3] at H
    have c3b0 : decide (x6_1 ≤ (wrap64 ((s0_0.length : Int) - a1))) = true := decide_eq_true c3
    clear c3
    have HC4 := am H
    clear H
    obtain ⟨ASz5_0, cSz5_0, HGz5, hgz5, HSz5_0⟩ := HI0.out
    have hcz5_0 := cellS65_0 HGz5
    have hcz5_1 := cellS65_1 HGz5
    have hfz5_1 := blk_frozen HGz5 1
    clear HGz5 hgz5
    go_upto_if 22 with (fail)
    go_cut [7] (fun v7 wc => ∃ (kq : Nat) (x7_3 : Int), v7 = .int .i64 x7_3 ∧ Aside0 (stacktext_encoder_runs.j1 kq a1 x5_1 x6_1 x7_3 s0_0 s0_1 = some (r1, r2)) ∧ Aside0 (kq ≤ k1) ∧ Aside0 (Kd.S k62 62 wc w.heap.size (fun _ => True) u5 x5_1) ∧ Aside0 (IsS65 w0 wc g s0_0 s0_1) ∧ Aside0 (KeepBut w wc g none) ∧ Aside0 (Below w0.heap.size w0 wc))
    case first =>
     have H := HC4.out
     clear HC4
     by_cases c6 : (Int.tmod x6_1 6) = 0
     ·rw [if_pos c6] at H
      have c6b0 : ((Int.tmod x6_1 6) == 0) = true := beq_iff_eq.mpr c6
      have c6b1 : ((Int.tmod x6_1 6) != 0) = false := bne_eq_false_iff_eq.mpr c6
      clear c6
      (first | rw [c6b0] | (simp only [i64_w, i32_w]; rw [c6b0]) | skip)
      have H' := am H
      clear H
      go_wp2
      go_meet
      case rel => exact ⟨_, (924), (by first | rfl | (simp; done) | (simp [*]; done)), H', ⟨by have := HK1.out; first | omega | exact Nat.le_refl _⟩, ⟨by (with_reducible repeat (first | apply Kd.S_alloc | apply Kd.S_drewN | apply Kd.S_drew)); exact HO_5.out⟩, ⟨by repeat (first | (with_reducible first | exact HI0.out | apply IsS65.alloc | apply IsS65.drewN | apply IsS65.drew | apply IsS65.set_1) | exact HI0.out)⟩, ⟨by repeat (first | (with_reducible first | exact HK.out | apply KeepBut.set_ | apply keep_drewN | apply keep_drew | apply keep_alloc) | exact HK.out)⟩, ⟨by repeat (first | (with_reducible first | exact HB.out | apply below_alloc | apply pw_below_drewN | apply below_drew1 | refine below_set ?_ (IsS65.ge HI0.out)) | exact HB.out)⟩⟩
     ·rw [if_neg c6] at H
      have c6b0 : ((Int.tmod x6_1 6) == 0) = false := beq_eq_false_iff_ne.mpr c6
      have c6b1 : ((Int.tmod x6_1 6) != 0) = true := bne_iff_ne.mpr c6
      (first | rw [c6b0] | (simp only [i64_w, i32_w]; rw [c6b0]) | skip)
      have H' := am H
      clear H
      go_wp2
      go_meet
      case rel => exact ⟨_, (901), (by first | rfl | (simp; done) | (simp [*]; done)), H', ⟨by have := HK1.out; first | omega | exact Nat.le_refl _⟩, ⟨by (with_reducible repeat (first | apply Kd.S_alloc | apply Kd.S_drewN | apply Kd.S_drew)); exact HO_5.out⟩, ⟨by repeat (first | (with_reducible first | exact HI0.out | apply IsS65.alloc | apply IsS65.drewN | apply IsS65.drew | apply IsS65.set_1) | exact HI0.out)⟩, ⟨by repeat (first | (with_reducible first | exact HK.out | apply KeepBut.set_ | apply keep_drewN | apply keep_drew | apply keep_alloc) | exact HK.out)⟩, ⟨by repeat (first | (with_reducible first | exact HB.out | apply below_alloc | apply pw_below_drewN | apply below_drew1 | refine below_set ?_ (IsS65.ge HI0.out)) | exact HB.out)⟩⟩
    case rest =>
     clear HC4
     try clear p2
     try clear c3
     try clear c3b0
     try clear c5
     try clear c6
     try clear c6b0
     try clear c6b1
     try clear p6
     try clear hcz5_0
     try clear hcz5_1
     try clear hfz5_1
     try clear p2
     obtain ⟨kq, x7_3, rfl, HA, HJ3, HO_5, HI0, HK, HB⟩ := hcut
     cases kq with
     | zero => exact absurd HA.out (by simp [stacktext_encoder_runs.j1])
     | succ kj3 =>
      have H := HA.out
      clear HA
      simp only [stacktext_encoder_runs.j1] at H
      replace H := Option.bind_eq_some_iff.mp H
      obtain ⟨t168, A70, H⟩ := H
      replace H : ((stacktext_afterRun.f (wrap64 (a1 + x6_1))).bind fun bt169 => (if x5_1.length < 2199023255552 then (stacktext_encoder_runs.l0 kj3 a1 (x5_1 ++ [(⟨t168, x7_3, ([] : List Int), (⟨bt169.1, (⟨bt169.2.1, bt169.2.2⟩ : S56)⟩ : S58)⟩ : S62)]) (wrap64 (x6_1 + 1)) s0_0 s0_1) else (none))) = some (r1, r2) := H
      have A7 := am A70
      clear A70
      replace H := Option.bind_eq_some_iff.mp H
      obtain ⟨⟨t169, t170, t171⟩, A80, H⟩ := H
      replace H : (if x5_1.length < 2199023255552 then (stacktext_encoder_runs.l0 kj3 a1 (x5_1 ++ [(⟨t168, x7_3, ([] : List Int), (⟨t169, (⟨t170, t171⟩ : S56)⟩ : S58)⟩ : S62)]) (wrap64 (x6_1 + 1)) s0_0 s0_1) else (none)) = some (r1, r2) := H
      have A8 := am A80
      clear A80
      by_cases c9 : x5_1.length < 2199023255552
      ·rw [if_pos c9] at H
       have LMc9 := am c9
       clear c9
       obtain ⟨y172, hy172⟩ : ∃ y_ : List (S62), y_ = (x5_1 ++ [(⟨t168, x7_3, ([] : List Int), (⟨t169, (⟨t170, t171⟩ : S56)⟩ : S58)⟩ : S62)]) := ⟨_, rfl⟩
       replace H : (stacktext_encoder_runs.l0 kj3 a1 y172 (wrap64 (x6_1 + 1)) s0_0 s0_1) = some (r1, r2) := by first | (rw [hy172]; with_reducible exact H) | (have H2_ := (Option.bind_some _ _).symm.trans H; rw [hy172]; with_reducible exact H2_) | (have H2_ := (Option.bind_some _ _).symm.trans H; with_reducible exact H2_) | with_reducible exact H | (rw [hy172]; exact H) | exact H
       have Ny172 := am hy172
       clear hy172
       have H' := am H
       clear H
       go_wp2_with (first | ((with_reducible refine gate_callee (f := 78) rfl ?_); refine gL (some 25) Tryd.func78 #[.int .i64 x6_1] (h := ?_); (with_reducible refine (stacktext_bytesCost.calls x6_1 t168 _ A7.out).mono ?_); rintro e w' ⟨rfl, ⟨nd, rfl⟩⟩; refine ⟨_, rfl, ?_⟩) | ((with_reducible refine gate_callee (f := 77) rfl ?_); refine gL (some 30) Tryd.func77 #[.int .i64 (wrap64 (a1 + x6_1))] (h := ?_); (with_reducible refine (stacktext_afterRun.calls (wrap64 (a1 + x6_1)) t169 t170 t171 _ A8.out).mono ?_); rintro e w10 ⟨rfl, hb⟩; refine ⟨_, rfl, ?_⟩; have n0_ := am (Kd.S_below (by (with_reducible repeat (first | apply Kd.S_alloc | apply Kd.S_drewN | apply Kd.S_drew)); exact HO_5.out) hb); have n1_ := am (IsS65.below (iS0 HI0.out) hb); have n2_ := am (KeepBut.trans (kB0 HK.out) (KeepBut.of_below hb g none) (.inl rfl)); have n3_ := am (below_step (bA1 HB.out (IsS65.ge HI0.out)) hb); clear HO_5; clear HI0; clear HK; clear HB; have HO_5 := n0_; have HI0 := n1_; have HK := n2_; have HB := n3_; clear n0_ n1_ n2_ n3_; (try clear hb); (try clear hb2); (try clear hk); (try clear hi)) | ((with_reducible refine gate_builtin (b := .append) (xs := #[.tmp 23, .tmp 32]) rfl ?_); at_builtin; refine Kd.S_append k62 w.heap.size rfl (.tmp 23) (.tmp 32) 59 62 (.agg #[(.int .i64 0), (.int .i64 0), (.slice none 0 0), (.int .i64 0), (.int .i64 0), (.int .i64 0)]) 64 rfl Tryd.underlying59 info62 rfl (by decide) (by omega) u5 x5_1 (⟨t168, x7_3, ([] : List Int), (⟨t169, (⟨t170, t171⟩ : S56)⟩ : S58)⟩ : S62) [.int .i64 t168, .int .i64 x7_3, .slice none 0 0, .int .i64 t169, .int .i64 t170, .int .i64 t171] (fun _ => True) (fun _ => False) rfl rfl ?aP (fun k_ hk_ => hk_.elim) ?aF ?aO (Below.refl _ _) ?aS ?aL ?_; (case aP => exact k62_mkM _ _ _ (⟨t168, x7_3, ([] : List Int), (⟨t169, (⟨t170, t171⟩ : S56)⟩ : S58)⟩ : S62) (Kd.R_nil _ _ _ _ _)); (case aF => exact (fun _ _ => trivial)); (case aO => exact (by (with_reducible repeat (first | apply Kd.S_alloc | apply Kd.S_drewN | apply Kd.S_drew)); exact Kd.S_mono HO_5.out (fun k_ hk => ⟨trivial, fun e_ => e_⟩))); (case aS => exact (keep_size (w := w) (g := g) (row := none) (kB0 HK.out))); (case aL => have := LMc9.out; omega); intro v173 w11 ho hb hg hat; rw [← Ny172.out] at ho; have n0_ := am (IsS65.grown (iS0 HI0.out) hg (IsS65.own_neS HI0.out HO_5.out (by decide))); have n1_ := am (below_weaken (bA1 HB.out (IsS65.ge HI0.out)) HL.out hb); have n2_ := am (KeepBut.trans (kB0 HK.out) (KeepBut.of_grown hg g) (Kd.S_base2 HO_5.out)); have n3_ := am (ho); clear HI0; clear HB; clear HK; clear HO_5; have HI0 := n0_; have HB := n1_; have HK := n2_; have HO174 := n3_; clear n0_ n1_ n2_ n3_; clear ho hb hg hat))
       go_roundg kj3
       case measure => have := HK1.out; have := HJ3.out; omega
       case rel => exact ⟨(y172), (wrap64 (x6_1 + 1)), (by first | rfl | (simp; done) | (simp [*]; done)), H', ⟨by have := HK1.out; have := HJ3.out; omega⟩, ⟨by (with_reducible repeat (first | apply Kd.S_alloc | apply Kd.S_drewN | apply Kd.S_drew)); exact HO174.out⟩, ⟨by repeat (first | (with_reducible first | exact HI0.out | apply IsS65.alloc | apply IsS65.drewN | apply IsS65.drew | apply IsS65.set_1) | exact HI0.out)⟩, ⟨by repeat (first | (with_reducible first | exact HK.out | apply KeepBut.set_ | apply keep_drewN | apply keep_drew | apply keep_alloc) | exact HK.out)⟩, ⟨by repeat (first | (with_reducible first | exact HB.out | apply below_alloc | apply pw_below_drewN | apply below_drew1 | refine below_set ?_ (IsS65.ge HI0.out)) | exact HB.out)⟩⟩
      ·rw [if_neg c9] at H
       exact absurd H (by simp)
   ·rw [if_neg c3] at H
    have c3b0 : decide (x6_1 ≤ (wrap64 ((s0_0.length : Int) - a1))) = false := decide_eq_false c3
    clear c3
    replace H := Option.bind_eq_some_iff.mp H
    obtain ⟨⟨t175, t176⟩, A120, H⟩ := H
    replace H : (stacktext_encoder_runs.l1 k1 a1 x5_1 t175 0 s0_0 t176) = some (r1, r2) := H
    have A12 := am A120
    clear A120
    have H' := am H
    clear H
    obtain ⟨ASz13_0, cSz13_0, HGz13, hgz13, HSz13_0⟩ := HI0.out
    have hcz13_0 := cellS65_0 HGz13
    have hcz13_1 := cellS65_1 HGz13
    have hfz13_1 := blk_frozen HGz13 1
    clear HGz13 hgz13
    go_wp2_with (first | ((with_reducible refine gate_callee (f := 79) rfl ?_); refine gL (some 36) Tryd.func79 #[.pointer (some ⟨g, 0, none⟩), .int .i64 a1] (h := ?_); (with_reducible refine (stacktext_encoder_digits.calls k1 g s0_0 s0_1 a1 t175 t176 w0 _ ?side1 ?side2 A12.out).mono ?_); (case side1 => repeat (first | (with_reducible first | exact HI0.out | apply IsS65.alloc | apply IsS65.drewN | apply IsS65.drew | apply IsS65.set_1) | exact HI0.out)); (case side2 => repeat (first | (with_reducible first | exact HB.out | apply below_alloc | apply pw_below_drewN | apply below_drew1 | refine below_set ?_ (IsS65.ge HI0.out)) | exact HB.out)); rintro e w14 ⟨rfl, hi, hb, hk⟩; refine ⟨_, rfl, ?_⟩; have n0_ := am (Kd.S_mono (Kd.S_keep (IsS65.apartS (show IsS65 w0 _ g s0_0 s0_1 from by repeat (first | (with_reducible first | exact HI0.out | apply IsS65.alloc | apply IsS65.drewN | apply IsS65.drew | apply IsS65.set_1) | exact HI0.out)) (by (with_reducible repeat (first | apply Kd.S_alloc | apply Kd.S_drewN | apply Kd.S_drew)); exact HO_5.out) (by decide)) hk (fun _ h => h.2)) (fun _ h => h.1)); have n1_ := am (KeepBut.trans (kB0 HK.out) hk (.inl rfl)); have n2_ := am (hb); have n3_ := am (hi); clear HO_5; clear HK; clear HB; clear HI0; have HO_5 := n0_; have HK := n1_; have HB := n2_; have HI0 := n3_; clear n0_ n1_ n2_ n3_; (try clear hb); (try clear hb2); (try clear hk); (try clear hi)))
    go_loopg [5, 37] k1 (fun kq v5 v37 w' => ∃ (x5_2 : List (S62)) (x37_2 : Int), v37 = .int .i64 x37_2 ∧ Aside0 (stacktext_encoder_runs.l1 kq a1 x5_2 t175 x37_2 s0_0 t176 = some (r1, r2)) ∧ Aside0 (kq ≤ k1) ∧ Aside0 (Kd.S k62 62 w' w.heap.size (fun _ => True) v5 x5_2) ∧ Aside0 (IsS65 w0 w' g s0_0 t176) ∧ Aside0 (KeepBut w w' g none) ∧ Aside0 (Below w0.heap.size w0 w'))
    case atStart => exact ⟨(x5_1), (0), (by first | rfl | (simp; done) | (simp [*]; done)), H', ⟨Nat.le_refl _⟩, ⟨by (with_reducible repeat (first | apply Kd.S_alloc | apply Kd.S_drewN | apply Kd.S_drew)); exact HO_5.out⟩, ⟨by repeat (first | (with_reducible first | exact HI0.out | apply IsS65.alloc | apply IsS65.drewN | apply IsS65.drew | apply IsS65.set_1) | exact HI0.out)⟩, ⟨by repeat (first | (with_reducible first | exact HK.out | apply KeepBut.set_ | apply keep_drewN | apply keep_drew | apply keep_alloc) | exact HK.out)⟩, ⟨by repeat (first | (with_reducible first | exact HB.out | apply below_alloc | apply pw_below_drewN | apply below_drew1 | refine below_set ?_ (IsS65.ge HI0.out)) | exact HB.out)⟩⟩
    case round =>
     clear H'
     try clear p2
     try clear c3
     try clear c3b0
     try clear c5
     try clear c6
     try clear c6b0
     try clear c6b1
     try clear p6
     try clear c7
     try clear c9
     try clear hcz13_0
     try clear hcz13_1
     try clear hcz5_0
     try clear hcz5_1
     try clear hfz13_1
     try clear hfz5_1
     try clear p2
     try clear p6
     obtain ⟨x5_2, x37_2, rfl, HA, HK2, HO_5, HI0, HK, HB⟩ := hrel
     cases gk with
     | zero => exact absurd HA.out (by simp [stacktext_encoder_runs.l1])
     | succ k2 =>
      have H := HA.out
      clear HA
      simp only [stacktext_encoder_runs.l1] at H
      by_cases c15 : x37_2 < t175
      ·rw [if_pos c15] at H
       have c15b0 : decide (x37_2 < t175) = true := decide_eq_true c15
       clear c15
       replace H := Option.bind_eq_some_iff.mp H
       obtain ⟨t177, A160, H⟩ := H
       replace H : ((stacktext_afterRun.f (wrap64 ((wrap64 (a1 + x37_2)) + 1))).bind fun bt178 => (if x5_2.length < 2199023255552 then (stacktext_encoder_runs.l1 k2 a1 (x5_2 ++ [(⟨t177, 902, ([] : List Int), (⟨bt178.1, (⟨bt178.2.1, bt178.2.2⟩ : S56)⟩ : S58)⟩ : S62)]) t175 (wrap64 (x37_2 + 1)) s0_0 t176) else (none))) = some (r1, r2) := H
       have A16 := am A160
       clear A160
       replace H := Option.bind_eq_some_iff.mp H
       obtain ⟨⟨t178, t179, t180⟩, A170, H⟩ := H
       replace H : (if x5_2.length < 2199023255552 then (stacktext_encoder_runs.l1 k2 a1 (x5_2 ++ [(⟨t177, 902, ([] : List Int), (⟨t178, (⟨t179, t180⟩ : S56)⟩ : S58)⟩ : S62)]) t175 (wrap64 (x37_2 + 1)) s0_0 t176) else (none)) = some (r1, r2) := H
       have A17 := am A170
       clear A170
       by_cases c18 : x5_2.length < 2199023255552
       ·rw [if_pos c18] at H
        have LMc18 := am c18
        clear c18
        obtain ⟨y181, hy181⟩ : ∃ y_ : List (S62), y_ = (x5_2 ++ [(⟨t177, 902, ([] : List Int), (⟨t178, (⟨t179, t180⟩ : S56)⟩ : S58)⟩ : S62)]) := ⟨_, rfl⟩
        replace H : (stacktext_encoder_runs.l1 k2 a1 y181 t175 (wrap64 (x37_2 + 1)) s0_0 t176) = some (r1, r2) := by first | (rw [hy181]; with_reducible exact H) | (have H2_ := (Option.bind_some _ _).symm.trans H; rw [hy181]; with_reducible exact H2_) | (have H2_ := (Option.bind_some _ _).symm.trans H; with_reducible exact H2_) | with_reducible exact H | (rw [hy181]; exact H) | exact H
        have Ny181 := am hy181
        clear hy181
        have H' := am H
        clear H
        go_wp2_with (first | ((with_reducible refine gate_callee (f := 80) rfl ?_); refine gL (some 43) Tryd.func80 #[.int .i64 (wrap64 (x37_2 + 1))] (h := ?_); (with_reducible refine (stacktext_digitsCost.calls (wrap64 (x37_2 + 1)) t177 _ A16.out).mono ?_); rintro e w' ⟨rfl, ⟨nd, rfl⟩⟩; refine ⟨_, rfl, ?_⟩) | ((with_reducible refine gate_callee (f := 77) rfl ?_); refine gL (some 48) Tryd.func77 #[.int .i64 (wrap64 ((wrap64 (a1 + x37_2)) + 1))] (h := ?_); (with_reducible refine (stacktext_afterRun.calls (wrap64 ((wrap64 (a1 + x37_2)) + 1)) t178 t179 t180 _ A17.out).mono ?_); rintro e w19 ⟨rfl, hb⟩; refine ⟨_, rfl, ?_⟩; have n0_ := am (Kd.S_below (by (with_reducible repeat (first | apply Kd.S_alloc | apply Kd.S_drewN | apply Kd.S_drew)); exact HO_5.out) hb); have n1_ := am (IsS65.below (iS0 HI0.out) hb); have n2_ := am (KeepBut.trans (kB0 HK.out) (KeepBut.of_below hb g none) (.inl rfl)); have n3_ := am (below_step (bA1 HB.out (IsS65.ge HI0.out)) hb); clear HO_5; clear HI0; clear HK; clear HB; have HO_5 := n0_; have HI0 := n1_; have HK := n2_; have HB := n3_; clear n0_ n1_ n2_ n3_; (try clear hb); (try clear hb2); (try clear hk); (try clear hi)) | ((with_reducible refine gate_builtin (b := .append) (xs := #[.tmp 40, .tmp 50]) rfl ?_); at_builtin; refine Kd.S_append k62 w.heap.size rfl (.tmp 40) (.tmp 50) 59 62 (.agg #[(.int .i64 0), (.int .i64 0), (.slice none 0 0), (.int .i64 0), (.int .i64 0), (.int .i64 0)]) 64 rfl Tryd.underlying59 info62 rfl (by decide) (by omega) u5 x5_2 (⟨t177, 902, ([] : List Int), (⟨t178, (⟨t179, t180⟩ : S56)⟩ : S58)⟩ : S62) [.int .i64 t177, .int .i64 902, .slice none 0 0, .int .i64 t178, .int .i64 t179, .int .i64 t180] (fun _ => True) (fun _ => False) rfl rfl ?aP (fun k_ hk_ => hk_.elim) ?aF ?aO (Below.refl _ _) ?aS ?aL ?_; (case aP => exact k62_mkM _ _ _ (⟨t177, 902, ([] : List Int), (⟨t178, (⟨t179, t180⟩ : S56)⟩ : S58)⟩ : S62) (Kd.R_nil _ _ _ _ _)); (case aF => exact (fun _ _ => trivial)); (case aO => exact (by (with_reducible repeat (first | apply Kd.S_alloc | apply Kd.S_drewN | apply Kd.S_drew)); exact Kd.S_mono HO_5.out (fun k_ hk => ⟨trivial, fun e_ => e_⟩))); (case aS => exact (keep_size (w := w) (g := g) (row := none) (kB0 HK.out))); (case aL => have := LMc18.out; omega); intro v182 w20 ho hb hg hat; rw [← Ny181.out] at ho; have n0_ := am (IsS65.grown (iS0 HI0.out) hg (IsS65.own_neS HI0.out HO_5.out (by decide))); have n1_ := am (below_weaken (bA1 HB.out (IsS65.ge HI0.out)) HL.out hb); have n2_ := am (KeepBut.trans (kB0 HK.out) (KeepBut.of_grown hg g) (Kd.S_base2 HO_5.out)); have n3_ := am (ho); clear HI0; clear HB; clear HK; clear HO_5; have HI0 := n0_; have HB := n1_; have HK := n2_; have HO183 := n3_; clear n0_ n1_ n2_ n3_; clear ho hb hg hat))
        go_roundg k2
        case measure => have := HK1.out; have := HK2.out; omega
        case rel => exact ⟨(y181), (wrap64 (x37_2 + 1)), (by first | rfl | (simp; done) | (simp [*]; done)), H', ⟨by have := HK1.out; have := HK2.out; omega⟩, ⟨by (with_reducible repeat (first | apply Kd.S_alloc | apply Kd.S_drewN | apply Kd.S_drew)); exact HO183.out⟩, ⟨by repeat (first | (with_reducible first | exact HI0.out | apply IsS65.alloc | apply IsS65.drewN | apply IsS65.drew | apply IsS65.set_1) | exact HI0.out)⟩, ⟨by repeat (first | (with_reducible first | exact HK.out | apply KeepBut.set_ | apply keep_drewN | apply keep_drew | apply keep_alloc) | exact HK.out)⟩, ⟨by repeat (first | (with_reducible first | exact HB.out | apply below_alloc | apply pw_below_drewN | apply below_drew1 | refine below_set ?_ (IsS65.ge HI0.out)) | exact HB.out)⟩⟩
       ·rw [if_neg c18] at H
        exact absurd H (by simp)
      ·rw [if_neg c15] at H
       have c15b0 : decide (x37_2 < t175) = false := decide_eq_false c15
       clear c15
       simp only [Option.some.injEq, Prod.mk.injEq] at H
       obtain ⟨rfl, rfl⟩ := H
       go_wp2
       go_ret
       exact ⟨_, by first | rfl | (simp [errW_none, errW_some] <;> rfl) | (simp [*, errW_none, errW_some] <;> rfl), by (with_reducible repeat (first | apply Kd.S_alloc | apply Kd.S_drewN | apply Kd.S_drew)); exact HO_5.out, by repeat (first | (with_reducible first | exact HI0.out | apply IsS65.alloc | apply IsS65.drewN | apply IsS65.drew | apply IsS65.set_1) | exact HI0.out), by repeat (first | (with_reducible first | exact HB.out | apply below_alloc | apply pw_below_drewN | apply below_drew1 | refine below_set ?_ (IsS65.ge HI0.out)) | exact HB.out), by repeat (first | (with_reducible first | exact HK.out | apply KeepBut.set_ | apply keep_drewN | apply keep_drew | apply keep_alloc) | exact HK.out)⟩
end Go.Proofs.YtoadabodhdgdjaaDoor.SM
namespace Go.Proofs.YtoadabodhdgdjaaDoor.SM
open Go.Proofs.YtoadabodhdgdjaaDoor.S0
open Go.RowKit Go.Proofs.YtoadabodhdgdjaaDoorW.PrintWords Go.Proofs.YtoadabodhdgdjaaDoorW.PrintLast Go.Proofs.YtoadabodhdgdjaaDoorW.PrintMore
attribute [local go_sem] max2_int min2_int max_two min_two max_three min_three max_four min_four   
open Go.Proofs.YtoadabodhdgdjaaDoor.SB
set_option linter.unusedVariables false
set_option linter.unusedSimpArgs false
def stacktext_encoder_steps.j0 : Nat → List (S62) → List Int → Option Nat → Int → Int → Int → Option ((List (S62)) × Option Nat)
 | 0, _, _, _, _, _, _ => none
 | k + 1, x5, x1000, x1001, x185000, x185001, x185002 => (stacktext_encoder_texts.f k x1000 x1001 x185000 x185001 x185002).bind fun bt208 => (if x5.length + bt208.1.length < 2199023255552 then (some ((x5 ++ bt208.1), bt208.2)) else (none))
def stacktext_encoder_steps.f (k : Nat) (s0_0 : List Int) (s0_1 : Option Nat) (a1_0 : Int) (a1_1 : Int) (a1_2 : Int) : Option ((List (S62)) × Option Nat) := (stacktext_encoder_runs.f k s0_0 s0_1 a1_0).bind fun bt185 => ((some (([(⟨1, 0, (([900] : List Int)), (⟨a1_0, (⟨0, (-1)⟩ : S56)⟩ : S58)⟩ : S62)] : List (S62)) : List (S62))).bind fun y192 => (if bt185.1.length + y192.length < 2199023255552 then ((some (bt185.1 ++ y192 : List (S62))).bind fun y195 => (if a1_1 = 4 then (some (y195, bt185.2)) else (if a1_0 < (s0_0.length : Int) then (if 0 ≤ a1_0 then ((some (([(⟨2, 0, (([913, wrap64 (rd s0_0 a1_0)] : List Int)), (⟨wrap64 (a1_0 + 1), (⟨a1_1, (-1)⟩ : S56)⟩ : S58)⟩ : S62)] : List (S62)) : List (S62))).bind fun y202 => (if y195.length + y202.length < 2199023255552 then (stacktext_encoder_steps.j0 k (y195 ++ y202) s0_0 bt185.2 a1_0 a1_1 a1_2) else (none))) else (none)) else (stacktext_encoder_steps.j0 k y195 s0_0 bt185.2 a1_0 a1_1 a1_2)))) else (none)))
def stacktext_encoder_steps.T1 : Bool × List (List Nat × List Nat) := (true, [([], []), ([], []), ([1], [1]), ([0, 2], [0, 2]), ([], []), ([], []), ([5], [5]), ([], []), ([6, 7], [6, 7]), ([4, 8], [4, 8]), ([9], [9]), ([3, 10, 3], [3, 10]), ([11, 11, 0, 1, 2, 3, 4, 5, 6, 7, 8, 9, 10, 11], [11])])
def stacktext_encoder_steps.B1 : List Nat := [0, 0, 2, 7, 0, 0, 32, 0, 224, 496, 1008, 2047, 4095]
theorem stacktext_encoder_steps.tab1 : rtab .any (opsOf Tryd.f32 1) = stacktext_encoder_steps.T1 := by kernel_rfl
theorem stacktext_encoder_steps.bits1 : waitsOk stacktext_encoder_steps.T1.2 stacktext_encoder_steps.B1 = true := by kernel_rfl
def stacktext_encoder_steps.T4 : Bool × List (List Nat × List Nat) := (true, [([], []), ([0], [0]), ([], []), ([2], [2]), ([3], [3]), ([4], [4]), ([5], [5]), ([1, 6], [1, 6])])
def stacktext_encoder_steps.B4 : List Nat := [0, 1, 0, 4, 12, 28, 60, 127]
theorem stacktext_encoder_steps.tab4 : rtab .any (opsOf Tryd.f32 4) = stacktext_encoder_steps.T4 := by kernel_rfl
theorem stacktext_encoder_steps.bits4 : waitsOk stacktext_encoder_steps.T4.2 stacktext_encoder_steps.B4 = true := by kernel_rfl
def stacktext_encoder_steps.T5 : Bool × List (List Nat × List Nat) := (true, [([], []), ([], []), ([1], [1]), ([2], [2]), ([3], [3]), ([], []), ([5], [5]), ([4, 6], [4, 6]), ([7], [7]), ([8], [8]), ([9], [9]), ([], []), ([11], [11]), ([12], [12]), ([], []), ([14], [14]), ([15], [15]), ([16], [16]), ([13, 17], [13, 17]), ([10, 18], [10, 18]), ([19], [19]), ([0, 20], [0, 20]), ([21, 21, 0, 1, 2, 3, 4, 5, 6, 7, 8, 9, 10, 11, 12, 13, 14, 15, 16, 17, 18, 19, 20, 21], [0, 21])])
def stacktext_encoder_steps.B5 : List Nat := [0, 0, 2, 6, 14, 0, 32, 126, 254, 510, 1022, 0, 2048, 6144, 0, 16384, 49152, 114688, 260096, 524286, 1048574, 2097151, 4194303]
theorem stacktext_encoder_steps.tab5 : rtab .any (opsOf Tryd.f32 5) = stacktext_encoder_steps.T5 := by kernel_rfl
theorem stacktext_encoder_steps.bits5 : waitsOk stacktext_encoder_steps.T5.2 stacktext_encoder_steps.B5 = true := by kernel_rfl
set_option maxHeartbeats 8000000 in
set_option maxRecDepth 100000 in
theorem stacktext_encoder_steps.calls (k : Nat) (g : Nat) (s0_0 : List Int) (s0_1 : Option Nat) (a1_0 : Int) (a1_1 : Int) (a1_2 : Int) (r1 : List (S62)) (r2 : Option Nat) (w0 w : World) (hI : IsS65 w0 w g s0_0 s0_1) (hB : Below w0.heap.size w0 w) (h : stacktext_encoder_steps.f k s0_0 s0_1 a1_0 a1_1 a1_2 = some (r1, r2)) :
  Calls Tryd.prog 32 #[.pointer (some ⟨g, 0, none⟩), .agg #[.int .i64 a1_0, .int .i64 a1_1, .int .i64 a1_2]] w fun e w' => ∃ v0_ : Value, e = .returned (v0_) ∧ Kd.N k62 62 w' w.heap.size (fun k_ => (w.heap.size ≤ k_)) v0_ r1 ∧ IsS65 w0 w' g s0_0 r2 ∧ Below w0.heap.size w0 w' ∧ KeepBut w w' g none := by
 have hu58 := Tryd.underlying58
 have hu56 := Tryd.underlying56
 have hu62 := Tryd.underlying62
 have HI0 := am hI
 have HK := am (KeepBut.refl w g none)
 have HL := am hB.size
 clear hI
 have HW0 := am hB.size
 have HB := am hB
 clear hB
 have H : ((stacktext_encoder_runs.f k s0_0 s0_1 a1_0).bind fun bt185 => ((some (([(⟨1, 0, (([900] : List Int)), (⟨a1_0, (⟨0, (-1)⟩ : S56)⟩ : S58)⟩ : S62)] : List (S62)) : List (S62))).bind fun y192 => (if bt185.1.length + y192.length < 2199023255552 then ((some (bt185.1 ++ y192 : List (S62))).bind fun y195 => (if a1_1 = 4 then (some (y195, bt185.2)) else (if a1_0 < (s0_0.length : Int) then (if 0 ≤ a1_0 then ((some (([(⟨2, 0, (([913, wrap64 (rd s0_0 a1_0)] : List Int)), (⟨wrap64 (a1_0 + 1), (⟨a1_1, (-1)⟩ : S56)⟩ : S58)⟩ : S62)] : List (S62)) : List (S62))).bind fun y202 => (if y195.length + y202.length < 2199023255552 then (stacktext_encoder_steps.j0 k (y195 ++ y202) s0_0 bt185.2 a1_0 a1_1 a1_2) else (none))) else (none)) else (stacktext_encoder_steps.j0 k y195 s0_0 bt185.2 a1_0 a1_1 a1_2)))) else (none)))) = some (r1, r2) := h
 clear h
 replace H := Option.bind_eq_some_iff.mp H
 obtain ⟨⟨t185, t188⟩, A30, H⟩ := H
 replace H : ((some (([(⟨1, 0, (([900] : List Int)), (⟨a1_0, (⟨0, (-1)⟩ : S56)⟩ : S58)⟩ : S62)] : List (S62)) : List (S62))).bind fun y192 => (if t185.length + y192.length < 2199023255552 then ((some (t185 ++ y192 : List (S62))).bind fun y195 => (if a1_1 = 4 then (some (y195, t188)) else (if a1_0 < (s0_0.length : Int) then (if 0 ≤ a1_0 then ((some (([(⟨2, 0, (([913, wrap64 (rd s0_0 a1_0)] : List Int)), (⟨wrap64 (a1_0 + 1), (⟨a1_1, (-1)⟩ : S56)⟩ : S58)⟩ : S62)] : List (S62)) : List (S62))).bind fun y202 => (if y195.length + y202.length < 2199023255552 then (stacktext_encoder_steps.j0 k (y195 ++ y202) s0_0 t188 a1_0 a1_1 a1_2) else (none))) else (none)) else (stacktext_encoder_steps.j0 k y195 s0_0 t188 a1_0 a1_1 a1_2)))) else (none))) = some (r1, r2) := H
 have A3 := am A30
 clear A30
 obtain ⟨y189, hy189⟩ : ∃ y_ : List Int, y_ = (([900] : List Int)) := ⟨_, rfl⟩
 replace H : ((some (([(⟨1, 0, y189, (⟨a1_0, (⟨0, (-1)⟩ : S56)⟩ : S58)⟩ : S62)] : List (S62)) : List (S62))).bind fun y192 => (if t185.length + y192.length < 2199023255552 then ((some (t185 ++ y192 : List (S62))).bind fun y195 => (if a1_1 = 4 then (some (y195, t188)) else (if a1_0 < (s0_0.length : Int) then (if 0 ≤ a1_0 then ((some (([(⟨2, 0, (([913, wrap64 (rd s0_0 a1_0)] : List Int)), (⟨wrap64 (a1_0 + 1), (⟨a1_1, (-1)⟩ : S56)⟩ : S58)⟩ : S62)] : List (S62)) : List (S62))).bind fun y202 => (if y195.length + y202.length < 2199023255552 then (stacktext_encoder_steps.j0 k (y195 ++ y202) s0_0 t188 a1_0 a1_1 a1_2) else (none))) else (none)) else (stacktext_encoder_steps.j0 k y195 s0_0 t188 a1_0 a1_1 a1_2)))) else (none))) = some (r1, r2) := by first | (rw [hy189]; with_reducible exact H) | (have H2_ := (Option.bind_some _ _).symm.trans H; rw [hy189]; with_reducible exact H2_) | (have H2_ := (Option.bind_some _ _).symm.trans H; with_reducible exact H2_) | with_reducible exact H | (rw [hy189]; exact H) | exact H
 have Ny189 := am hy189
 clear hy189
 obtain ⟨y192, hy192⟩ : ∃ y_ : List (S62), y_ = (([(⟨1, 0, y189, (⟨a1_0, (⟨0, (-1)⟩ : S56)⟩ : S58)⟩ : S62)] : List (S62))) := ⟨_, rfl⟩
 replace H : (if t185.length + y192.length < 2199023255552 then ((some (t185 ++ y192 : List (S62))).bind fun y195 => (if a1_1 = 4 then (some (y195, t188)) else (if a1_0 < (s0_0.length : Int) then (if 0 ≤ a1_0 then ((some (([(⟨2, 0, (([913, wrap64 (rd s0_0 a1_0)] : List Int)), (⟨wrap64 (a1_0 + 1), (⟨a1_1, (-1)⟩ : S56)⟩ : S58)⟩ : S62)] : List (S62)) : List (S62))).bind fun y202 => (if y195.length + y202.length < 2199023255552 then (stacktext_encoder_steps.j0 k (y195 ++ y202) s0_0 t188 a1_0 a1_1 a1_2) else (none))) else (none)) else (stacktext_encoder_steps.j0 k y195 s0_0 t188 a1_0 a1_1 a1_2)))) else (none)) = some (r1, r2) := by first | (rw [hy192]; with_reducible exact H) | (have H2_ := (Option.bind_some _ _).symm.trans H; rw [hy192]; with_reducible exact H2_) | (have H2_ := (Option.bind_some _ _).symm.trans H; with_reducible exact H2_) | with_reducible exact H | (rw [hy192]; exact H) | exact H
 have Ny192 := am hy192
 clear hy192
 by_cases c4 : t185.length + y192.length < 2199023255552
 ·rw [if_pos c4] at H
  have LMc4 := am c4
  clear c4
  obtain ⟨y195, hy195⟩ : ∃ y_ : List (S62), y_ = (t185 ++ y192) := ⟨_, rfl⟩
  replace H : (if a1_1 = 4 then (some (y195, t188)) else (if a1_0 < (s0_0.length : Int) then (if 0 ≤ a1_0 then ((some (([(⟨2, 0, (([913, wrap64 (rd s0_0 a1_0)] : List Int)), (⟨wrap64 (a1_0 + 1), (⟨a1_1, (-1)⟩ : S56)⟩ : S58)⟩ : S62)] : List (S62)) : List (S62))).bind fun y202 => (if y195.length + y202.length < 2199023255552 then (stacktext_encoder_steps.j0 k (y195 ++ y202) s0_0 t188 a1_0 a1_1 a1_2) else (none))) else (none)) else (stacktext_encoder_steps.j0 k y195 s0_0 t188 a1_0 a1_1 a1_2))) = some (r1, r2) := by first | (rw [hy195]; with_reducible exact H) | (have H2_ := (Option.bind_some _ _).symm.trans H; rw [hy195]; with_reducible exact H2_) | (have H2_ := (Option.bind_some _ _).symm.trans H; with_reducible exact H2_) | with_reducible exact H | (rw [hy195]; exact H) | exact H
  have Ny195 := am hy195
  clear hy195
  by_cases c5 : a1_1 = 4
  ·rw [if_pos c5] at H
   have c5b0 : (a1_1 == 4) = true := beq_iff_eq.mpr c5
   have c5b1 : (a1_1 != 4) = false := bne_eq_false_iff_eq.mpr c5
   clear c5
   simp only [Option.some.injEq, Prod.mk.injEq] at H
   obtain ⟨rfl, rfl⟩ := H
   go_enter Tryd.func32, Tryd.ntmps32
   try go_wp2_with (first | ((with_reducible refine gate_dst (N := 3) rfl ?_); refine box_event ?hg (N := 3) ?hd (cs := #[.int .i64 a1_0, .int .i64 a1_1, .int .i64 a1_2]) (t := 58) ?hr ?_; (case hd => rfl); (case hg => rfl); (case hr => first | (go_simp; done) | (go_simp; rfl)); intro gb184 hg w6 hbox hb; have n0_ := am (IsS65.below (iS0 HI0.out) hb); have n1_ := am (KeepBut.trans (kB0 HK.out) (KeepBut.of_below hb g none) (.inl rfl)); have n2_ := am (below_step (bA1 HB.out (IsS65.ge HI0.out)) hb); have n3_ := am (hbox); have n4_ := am ((by rw [hg]; exact (keep_size (w := w) (g := g) (row := none) (kB0 HK.out)) : w.heap.size ≤ gb184)); have n5_ := am ((Nat.le_trans HW0.out (by rw [hg]; exact (keep_size (w := w) (g := g) (row := none) (kB0 HK.out)) : w.heap.size ≤ gb184) : w0.heap.size ≤ gb184)); have n6_ := am ((by rw [hg]; exact Nat.ne_of_lt (IsS65.lt (show IsS65 w0 _ g s0_0 s0_1 from by repeat (first | (with_reducible first | exact HI0.out | apply IsS65.alloc | apply IsS65.drewN | apply IsS65.drew | apply IsS65.set_1) | exact HI0.out))) : g ≠ gb184)); have n7_ := am ((by rw [hg]; exact Nat.ne_of_gt (IsS65.lt (show IsS65 w0 _ g s0_0 s0_1 from by repeat (first | (with_reducible first | exact HI0.out | apply IsS65.alloc | apply IsS65.drewN | apply IsS65.drew | apply IsS65.set_1) | exact HI0.out))) : gb184 ≠ g)); clear HI0; clear HK; clear HB; have HI0 := n0_; have HK := n1_; have HB := n2_; have BK184 := n3_; have GW184 := n4_; have GE184 := n5_; have NB0_184 := n6_; have NB184_0 := n7_; clear n0_ n1_ n2_ n3_ n4_ n5_ n6_ n7_; clear hb hbox hg))
   have n0_ := am (blk_drew BK184.out)
   have n1_ := am (IsS65.drew HI0.out)
   have n2_ := am (keep_drew HK.out)
   have n3_ := am (below_drew1 HB.out)
   clear BK184
   clear HI0
   clear HK
   clear HB
   have BK184 := n0_
   have HI0 := n1_
   have HK := n2_
   have HB := n3_
   clear n0_ n1_ n2_ n3_
   refine start_ (n := 13) (S := fun w' => w'.cell? ⟨gb184, 0, none⟩ = some (.int .i64 a1_0) ∧ w'.cell? ⟨gb184, 1, none⟩ = some (.int .i64 a1_1) ∧ w'.cell? ⟨gb184, 2, none⟩ = some (.int .i64 a1_2)) (ds := []) (bs 13 0) (by kernel_rfl) rfl rfl ⟨(blk_cell BK184.out 0).trans rfl, (blk_cell BK184.out 1).trans rfl, (blk_cell BK184.out 2).trans rfl⟩ (fun hHeld => ?_); refine with_tabW stacktext_encoder_steps.tab1 stacktext_encoder_steps.bits1 (fun HT_ HW_ => ?_)
   generalize w6.drew = w7 at BK184 HI0 HK HB hHeld ⊢
   refine pS 0 (some 6) (bs 13 1) (h := ?_)
   refine pS 1 (some 7) (bs 13 3) (h := ?_)
   refine pS 5 (some 11) (bs 13 35) (h := ?_)
   refine pS 7 (some 13) (bs 13 163) (h := ?_)
   refine tS 2 (some 8) (bs 13 167) hHeld (h := ?_)
   refine tS 6 (some 12) (bs 13 231) hHeld (h := ?_)
   refine pS 8 (some 14) (bs 13 487) (h := ?_)
   refine join_ (σ := Value × Value × Value) 2 #[true, true, true, true, true, true, true, true, true, true, true, false, false] (fun s_ => [(9, s_.1), (10, s_.2.1), (16, s_.2.2), (15, .agg #[.int .i64 1, .int .i64 0, s_.2.1, .int .i64 a1_0, .int .i64 0, .int .i64 (-1)])]) (fun s_ w' => (w'.cell? ⟨gb184, 0, none⟩ = some (.int .i64 a1_0) ∧ w'.cell? ⟨gb184, 1, none⟩ = some (.int .i64 a1_1) ∧ w'.cell? ⟨gb184, 2, none⟩ = some (.int .i64 a1_2)) ∧ (Kd.N k62 62 w' w.heap.size (fun k_ => (w.heap.size ≤ k_) ∧ some k_ ≠ (s_.2.2 : Value).ownBlock ∧ k_ ≠ g ∧ k_ ≠ gb184) s_.1 t185) ∧ (Kd.N k62 62 w' w.heap.size (fun k_ => (w.heap.size ≤ k_) ∧ some k_ ≠ (s_.1 : Value).ownBlock ∧ k_ ≠ g ∧ k_ ≠ gb184) s_.2.2 y192) ∧ (w'.heap[gb184]? = some (.cells #[.int .i64 a1_0, .int .i64 a1_1, .int .i64 a1_2] 58 (0, 0))) ∧ (IsS65 w0 w' g s0_0 t188) ∧ (KeepBut w w' g none) ∧ (Below w0.heap.size w0 w')) ?_ ?_
   rotate_left
   ·intro hCont
    refine two_ (i := 3) (j := 4) (Ni := some 9) (Nj := some 10) (bs 13 495) #[true, true, true, false, true, true, true, true, true, false, false, false, false] rfl rfl rfl rfl (two_of HT_.out (by kernel_rfl)) (by decide) (by decide) (fun K hK => ?_) (fun K hK => ?_)
    ·skip
     refine goes_ Tryd.func56 (by kernel_rfl) rfl #[.pointer (some ⟨g, 0, none⟩), .int .i64 a1_0] (by rfl) rfl rfl (by (try simp only [List.map_toArray, List.map_cons, List.map_nil]); first | done | rfl | (simp only [List.length_drop, List.length_take]; rfl)) ?_
     with_reducible refine (stacktext_encoder_runs.calls k g s0_0 s0_1 a1_0 t185 t188 w0 _ ?side1 ?side2 A3.out).mono ?_
     (case side1 => repeat (first | (with_reducible first | exact HI0.out | apply IsS65.alloc | apply IsS65.drewN | apply IsS65.drew | apply IsS65.set_1 | refine IsS65.far ?_ NB0_184.out _) | exact HI0.out))
     (case side2 => repeat (first | (with_reducible first | exact HB.out | apply below_alloc | apply pw_below_drewN | apply below_drew1 | refine below_set ?_ (IsS65.ge HI0.out) | refine below_set ?_ GE184.out) | exact HB.out))
     rintro e w8 ⟨v186, rfl, ho0, hi, hb, hk⟩
     refine ⟨_, rfl, ?_⟩
     have n0_ := am (KeepBut.blk hk (g' := gb184) (o := .cells #[.int .i64 a1_0, .int .i64 a1_1, .int .i64 a1_2] 58 (0, 0)) (kA BK184.out) NB184_0.out (by simp))
     have n1_ := am (Kd.N_lower (Kd.N_mono (ok' := fun k_ => (w.heap.size ≤ k_) ∧ k_ ≠ gb184 ∧ k_ ≠ g) (Kd.S_N (Kd.S_bound ho0)) (fun k_ hk_ => ⟨(Nat.le_trans (keep_size (w := w) (g := g) (row := none) (kB1 HK.out GW184.out)) hk_.2.1), (Kd.freshB (g := gb184) (o := .cells #[.int .i64 a1_0, .int .i64 a1_1, .int .i64 a1_2] 58 (0, 0)) (kA BK184.out) k_ hk_.2.1), (IsS65.fresh (iS1 HI0.out NB0_184.out) k_ hk_.2.1)⟩)) (keep_size (w := w) (g := g) (row := none) (kB1 HK.out GW184.out)))
     have n2_ := am (KeepBut.trans (kB1 HK.out GW184.out) hk (.inl rfl))
     have n3_ := am (hb)
     have n4_ := am (hi)
     clear BK184
     clear HK
     clear HB
     clear HI0
     have BK184 := n0_
     have HO187 := n1_
     have HK := n2_
     have HB := n3_
     have HI0 := n4_
     clear n0_ n1_ n2_ n3_ n4_
     (try clear hb)
     (try clear hb2)
     (try clear hk)
     (try clear hi)
     (try clear ho0)
     refine hK.out _ _ ⟨(blk_cell BK184.out 0).trans rfl, (blk_cell BK184.out 1).trans rfl, (blk_cell BK184.out 2).trans rfl⟩ (fun hHeld => ?_)
     clear hK K
     refine norm_ (a' := ?_) ?_ ?_
     rotate_left
     ·show Act.put _ (some 9) _ = _
      simp only [Act.put, List.setIfInBounds_toArray, List.set_cons_zero, List.set_cons_succ, i64_w, i32_w]
      rfl
     refine one_ (i := 4) (N := some 10) (bs 13 511) rfl rfl (one_of HT_.out (by kernel_rfl)) (by decide) (fun K hK => ?_)
     refine Kd.R_lit_step (Kd.int .i64) _ 3 ?hg (N := 10) ?hd (xs := ([900] : List Int)) (inner := [.int .i64 900]) (ok := fun _ => True) (okp := fun _ => True) ?hr ?hp (fun _ hk => hk) trivial (Below.refl _ _) (Nat.le_refl _) (by simp) ?_; (case hd => rfl); (case hg => rfl); (case hr => first | (go_simp; done) | (go_simp; rfl)); (case hp => exact (Reps.one (show Kd.M (Kd.int .i64) _ _ _ 900 [.int .i64 900] from rfl) (Reps.none _ _)))
     intro v190 w9 ho10 hb hg_ hnew_
     clear hg_ hnew_
     (first | rw [← Ny189.out] at ho10 | (simp only [Int.reduceToNat] at ho10; rw [← Ny189.out] at ho10))
     have n0_ := am (Kd.N_elder' (nA HO187.out) (Kd.R_base ho10) hb)
     have n1_ := am (Kd.R_lower (Kd.R_newM (M := fun k_ => (w.heap.size ≤ k_)) ho10 (keep_size (w := w) (g := g) (row := none) (kB1 HK.out GW184.out)) (fun k_ h_ => h_)) (keep_size (w := w) (g := g) (row := none) (kB1 HK.out GW184.out)))
     have n2_ := am (IsS65.below (iS1 HI0.out NB0_184.out) hb)
     have n3_ := am (blk_below (g := gb184) (o := .cells #[.int .i64 a1_0, .int .i64 a1_1, .int .i64 a1_2] 58 (0, 0)) (kA BK184.out) hb)
     have n4_ := am (KeepBut.trans (kB1 HK.out GW184.out) (KeepBut.of_below hb g none) (.inl rfl))
     have n5_ := am (below_step (bA2 HB.out (IsS65.ge HI0.out) GE184.out) hb)
     clear HO187
     clear HI0
     clear BK184
     clear HK
     clear HB
     have HO187 := n0_
     have HO191 := n1_
     have HI0 := n2_
     have BK184 := n3_
     have HK := n4_
     have HB := n5_
     clear n0_ n1_ n2_ n3_ n4_ n5_
     clear hb ho10
     obtain ⟨Ao11, co11, eo11⟩ := Kd.R_slice HO191.out
     (first | subst eo11 | (injection eo11 with f1_ f2_ f3_; have f4_ := f1_.symm; have f5_ := f3_.symm; clear f1_ f2_ f3_; subst f4_; subst f5_))
     refine hK.out _ _ ⟨(blk_cell BK184.out 0).trans rfl, (blk_cell BK184.out 1).trans rfl, (blk_cell BK184.out 2).trans rfl⟩ (fun hHeld => ?_)
     clear hK K
     refine norm_ (a' := ?_) ?_ ?_
     rotate_left
     ·show Act.put _ (some 10) _ = _
      simp only [Act.put, List.setIfInBounds_toArray, List.set_cons_zero, List.set_cons_succ, i64_w, i32_w]
      rfl
     refine pS 9 (some 15) (bs 13 1023) (h := ?_)
     refine one_ (i := 10) (N := some 16) (bs 13 2047) rfl rfl (one_of HT_.out (by kernel_rfl)) (by decide) (fun K hK => ?_)
     refine Kd.N_lit_step k62 _ 62 ?hg (N' := 16) ?hd (xs := ([(⟨1, 0, y189, (⟨a1_0, (⟨0, (-1)⟩ : S56)⟩ : S58)⟩ : S62)] : List (S62))) (inner := [.int .i64 1, .int .i64 0, .slice Ao11 y189.length co11, .int .i64 a1_0, .int .i64 0, .int .i64 (-1)]) (ok := (fun k_ => (w.heap.size ≤ k_) ∧ some k_ ≠ (v186 : Value).ownBlock ∧ k_ ≠ gb184 ∧ k_ ≠ g)) (okp := (fun k_ => (w.heap.size ≤ k_) ∧ some k_ ≠ (v186 : Value).ownBlock ∧ k_ ≠ gb184 ∧ k_ ≠ g)) ?hr ?hp (fun _ hk => hk) ((show ∀ k_, w9.heap.size ≤ k_ → (fun k_ => (w.heap.size ≤ k_) ∧ some k_ ≠ (v186 : Value).ownBlock ∧ k_ ≠ gb184 ∧ k_ ≠ g) k_ from fun k_ hk => ⟨(Nat.le_trans (keep_size (w := w) (g := g) (row := none) (kB1 HK.out GW184.out)) hk), Kd.fresh' (Kd.N_lt (nA HO187.out)) k_ hk, Kd.freshB (g := gb184) (o := .cells #[.int .i64 a1_0, .int .i64 a1_1, .int .i64 a1_2] 58 (0, 0)) (kA BK184.out) k_ hk, IsS65.fresh (iS1 HI0.out NB0_184.out) k_ hk⟩) _ (Nat.le_refl _)) (Below.refl _ _) (Nat.le_refl _) (by simp) ?_; (case hd => rfl); (case hg => rfl); (case hr => first | (go_simp; done) | (go_simp; rfl)); (case hp => exact (Reps.c6 (show Kd.FK k62 _ _ (⟨1, 0, y189, (⟨a1_0, (⟨0, (-1)⟩ : S56)⟩ : S58)⟩ : S62) [.int .i64 1, .int .i64 0, .slice Ao11 y189.length co11, .int .i64 a1_0, .int .i64 0, .int .i64 (-1)] from (k62_mkF _ _ (⟨1, 0, y189, (⟨a1_0, (⟨0, (-1)⟩ : S56)⟩ : S58)⟩ : S62) (Kd.R_reads' (Kd.R_mono (ok' := (fun k_ => (w.heap.size ≤ k_) ∧ some k_ ≠ (v186 : Value).ownBlock ∧ k_ ≠ gb184 ∧ k_ ≠ g)) (IsS65.apart HI0.out (Kd.R_types (Kd.R_apart' (HO191.out) (Kd.N_typed HO187.out) (by decide)) BK184.out (by decide)) (by decide)) (fun k_ hk => ⟨hk.1.1.1.1, ⟨hk.1.1.2, ⟨hk.1.2, hk.2⟩⟩⟩))).2.1 (Kd.R_F (Kd.R_mono (ok' := (fun k_ => (w.heap.size ≤ k_) ∧ some k_ ≠ (v186 : Value).ownBlock ∧ k_ ≠ gb184 ∧ k_ ≠ g)) (IsS65.apart HI0.out (Kd.R_types (Kd.R_apart' (HO191.out) (Kd.N_typed HO187.out) (by decide)) BK184.out (by decide)) (by decide)) (fun k_ hk => ⟨hk.1.1.1.1, ⟨hk.1.1.2, ⟨hk.1.2, hk.2⟩⟩⟩))))) (Reps.none _ _)))
     intro v193 w12 ho13 hb hg_ hnew_
     clear hg_ hnew_
     (first | rw [← Ny192.out] at ho13 | (simp only [Int.reduceToNat] at ho13; rw [← Ny192.out] at ho13))
     have n0_ := am (Kd.N_elder' (nA HO187.out) (Kd.N_base ho13) hb)
     have n1_ := am (Kd.N_lower ho13 (keep_size (w := w) (g := g) (row := none) (kB1 HK.out GW184.out)))
     have n2_ := am (IsS65.below (iS1 HI0.out NB0_184.out) hb)
     have n3_ := am (blk_below (g := gb184) (o := .cells #[.int .i64 a1_0, .int .i64 a1_1, .int .i64 a1_2] 58 (0, 0)) (kA BK184.out) hb)
     have n4_ := am (KeepBut.trans (kB1 HK.out GW184.out) (KeepBut.of_below hb g none) (.inl rfl))
     have n5_ := am (below_step (bA2 HB.out (IsS65.ge HI0.out) GE184.out) hb)
     clear HO187
     clear HI0
     clear BK184
     clear HK
     clear HB
     clear HO191
     have HO187 := n0_
     have HO194 := n1_
     have HI0 := n2_
     have BK184 := n3_
     have HK := n4_
     have HB := n5_
     clear n0_ n1_ n2_ n3_ n4_ n5_
     clear hb ho13
     refine hK.out _ _ ⟨(blk_cell BK184.out 0).trans rfl, (blk_cell BK184.out 1).trans rfl, (blk_cell BK184.out 2).trans rfl⟩ (fun hHeld => ?_)
     clear hK K
     refine norm_ (a' := ?_) ?_ ?_
     rotate_left
     ·show Act.put _ (some 16) _ = _
      simp only [Act.put, List.setIfInBounds_toArray, List.set_cons_zero, List.set_cons_succ, i64_w, i32_w]
      rfl
     exact norm_ (by simp only [putAll, Act.put, List.setIfInBounds_toArray, List.set_cons_zero, List.set_cons_succ]) (hCont (v186, .slice Ao11 y189.length co11, v193) _ ⟨hHeld, (by (with_reducible repeat (first | apply Kd.N_alloc | apply Kd.N_drewN | apply Kd.N_drew)); exact Kd.N_mono HO187.out (fun _ hk => ⟨hk.1.1.1, ⟨hk.2, ⟨hk.1.1.2.2, hk.1.1.2.1⟩⟩⟩)), (by (with_reducible repeat (first | apply Kd.N_alloc | apply Kd.N_drewN | apply Kd.N_drew)); exact Kd.N_mono HO194.out (fun _ hk => ⟨hk.1, ⟨hk.2.1, ⟨hk.2.2.2, hk.2.2.1⟩⟩⟩)), (kA BK184.out), (iS1 HI0.out NB0_184.out), (kB1 HK.out GW184.out), (bA2 HB.out (IsS65.ge HI0.out) GE184.out)⟩)
    ·skip
     refine Kd.R_lit_step (Kd.int .i64) _ 3 ?hg (N := 10) ?hd (xs := ([900] : List Int)) (inner := [.int .i64 900]) (ok := fun _ => True) (okp := fun _ => True) ?hr ?hp (fun _ hk => hk) trivial (Below.refl _ _) (Nat.le_refl _) (by simp) ?_; (case hd => rfl); (case hg => rfl); (case hr => first | (go_simp; done) | (go_simp; rfl)); (case hp => exact (Reps.one (show Kd.M (Kd.int .i64) _ _ _ 900 [.int .i64 900] from rfl) (Reps.none _ _)))
     intro v190 w8 ho9 hb hg_ hnew_
     clear hg_ hnew_
     (first | rw [← Ny189.out] at ho9 | (simp only [Int.reduceToNat] at ho9; rw [← Ny189.out] at ho9))
     have n0_ := am (Kd.R_lower (Kd.R_newM (M := fun k_ => (w.heap.size ≤ k_)) ho9 (keep_size (w := w) (g := g) (row := none) (kB1 HK.out GW184.out)) (fun k_ h_ => h_)) (keep_size (w := w) (g := g) (row := none) (kB1 HK.out GW184.out)))
     have n1_ := am (IsS65.below (iS1 HI0.out NB0_184.out) hb)
     have n2_ := am (blk_below (g := gb184) (o := .cells #[.int .i64 a1_0, .int .i64 a1_1, .int .i64 a1_2] 58 (0, 0)) (kA BK184.out) hb)
     have n3_ := am (KeepBut.trans (kB1 HK.out GW184.out) (KeepBut.of_below hb g none) (.inl rfl))
     have n4_ := am (below_step (bA2 HB.out (IsS65.ge HI0.out) GE184.out) hb)
     clear HI0
     clear BK184
     clear HK
     clear HB
     have HO191 := n0_
     have HI0 := n1_
     have BK184 := n2_
     have HK := n3_
     have HB := n4_
     clear n0_ n1_ n2_ n3_ n4_
     clear hb ho9
     obtain ⟨Ao10, co10, eo10⟩ := Kd.R_slice HO191.out
     (first | subst eo10 | (injection eo10 with f1_ f2_ f3_; have f4_ := f1_.symm; have f5_ := f3_.symm; clear f1_ f2_ f3_; subst f4_; subst f5_))
     refine hK.out _ _ ⟨(blk_cell BK184.out 0).trans rfl, (blk_cell BK184.out 1).trans rfl, (blk_cell BK184.out 2).trans rfl⟩ (fun hHeld => ?_)
     clear hK K
     refine norm_ (a' := ?_) ?_ ?_
     rotate_left
     ·show Act.put _ (some 10) _ = _
      simp only [Act.put, List.setIfInBounds_toArray, List.set_cons_zero, List.set_cons_succ, i64_w, i32_w]
      rfl
     refine pS 9 (some 15) (bs 13 1015) (h := ?_)
     refine two_ (i := 3) (j := 10) (Ni := some 9) (Nj := some 16) (bs 13 1023) #[true, true, true, false, true, true, true, true, true, true, true, false, false] rfl rfl rfl rfl (two_of HT_.out (by kernel_rfl)) (by decide) (by decide) (fun K hK => ?_) (fun K hK => ?_)
     ·skip
      refine goes_ Tryd.func56 (by kernel_rfl) rfl #[.pointer (some ⟨g, 0, none⟩), .int .i64 a1_0] (by rfl) rfl rfl (by (try simp only [List.map_toArray, List.map_cons, List.map_nil]); first | done | rfl | (simp only [List.length_drop, List.length_take]; rfl)) ?_
      with_reducible refine (stacktext_encoder_runs.calls k g s0_0 s0_1 a1_0 t185 t188 w0 _ ?side1 ?side2 A3.out).mono ?_
      (case side1 => repeat (first | (with_reducible first | exact HI0.out | apply IsS65.alloc | apply IsS65.drewN | apply IsS65.drew | apply IsS65.set_1 | refine IsS65.far ?_ NB0_184.out _) | exact HI0.out))
      (case side2 => repeat (first | (with_reducible first | exact HB.out | apply below_alloc | apply pw_below_drewN | apply below_drew1 | refine below_set ?_ (IsS65.ge HI0.out) | refine below_set ?_ GE184.out) | exact HB.out))
      rintro e w11 ⟨v186, rfl, ho0, hi, hb, hk⟩
      refine ⟨_, rfl, ?_⟩
      have n0_ := am (KeepBut.blk hk (g' := gb184) (o := .cells #[.int .i64 a1_0, .int .i64 a1_1, .int .i64 a1_2] 58 (0, 0)) (kA BK184.out) NB184_0.out (by simp))
      have n1_ := am (Kd.R_mono (Kd.R_keep (IsS65.apart (show IsS65 w0 _ g s0_0 s0_1 from by repeat (first | (with_reducible first | exact HI0.out | apply IsS65.alloc | apply IsS65.drewN | apply IsS65.drew | apply IsS65.set_1 | refine IsS65.far ?_ NB0_184.out _) | exact HI0.out)) (rA HO191.out) (by decide)) hk (fun _ h => h.2)) (fun _ h => h.1))
      have n2_ := am (Kd.N_lower (Kd.N_mono (ok' := fun k_ => (w.heap.size ≤ k_) ∧ some k_ ≠ (.slice Ao10 y189.length co10 : Value).ownBlock ∧ k_ ≠ gb184 ∧ k_ ≠ g) (Kd.S_N (Kd.S_bound ho0)) (fun k_ hk_ => ⟨(Nat.le_trans (keep_size (w := w) (g := g) (row := none) (kB1 HK.out GW184.out)) hk_.2.1), (Kd.fresh' (Kd.R_lt (rA HO191.out)) k_ hk_.2.1), (Kd.freshB (g := gb184) (o := .cells #[.int .i64 a1_0, .int .i64 a1_1, .int .i64 a1_2] 58 (0, 0)) (kA BK184.out) k_ hk_.2.1), (IsS65.fresh (iS1 HI0.out NB0_184.out) k_ hk_.2.1)⟩)) (keep_size (w := w) (g := g) (row := none) (kB1 HK.out GW184.out)))
      have n3_ := am (KeepBut.trans (kB1 HK.out GW184.out) hk (.inl rfl))
      have n4_ := am (hb)
      have n5_ := am (hi)
      clear BK184
      clear HO191
      clear HK
      clear HB
      clear HI0
      have BK184 := n0_
      have HO191 := n1_
      have HO187 := n2_
      have HK := n3_
      have HB := n4_
      have HI0 := n5_
      clear n0_ n1_ n2_ n3_ n4_ n5_
      (try clear hb)
      (try clear hb2)
      (try clear hk)
      (try clear hi)
      (try clear ho0)
      refine hK.out _ _ ⟨(blk_cell BK184.out 0).trans rfl, (blk_cell BK184.out 1).trans rfl, (blk_cell BK184.out 2).trans rfl⟩ (fun hHeld => ?_)
      clear hK K
      refine norm_ (a' := ?_) ?_ ?_
      rotate_left
      ·show Act.put _ (some 9) _ = _
       simp only [Act.put, List.setIfInBounds_toArray, List.set_cons_zero, List.set_cons_succ, i64_w, i32_w]
       rfl
      refine one_ (i := 10) (N := some 16) (bs 13 2047) rfl rfl (one_of HT_.out (by kernel_rfl)) (by decide) (fun K hK => ?_)
      refine Kd.N_lit_step k62 _ 62 ?hg (N' := 16) ?hd (xs := ([(⟨1, 0, y189, (⟨a1_0, (⟨0, (-1)⟩ : S56)⟩ : S58)⟩ : S62)] : List (S62))) (inner := [.int .i64 1, .int .i64 0, .slice Ao10 y189.length co10, .int .i64 a1_0, .int .i64 0, .int .i64 (-1)]) (ok := (fun k_ => (w.heap.size ≤ k_) ∧ some k_ ≠ (v186 : Value).ownBlock ∧ k_ ≠ gb184 ∧ k_ ≠ g)) (okp := (fun k_ => (w.heap.size ≤ k_) ∧ some k_ ≠ (v186 : Value).ownBlock ∧ k_ ≠ gb184 ∧ k_ ≠ g)) ?hr ?hp (fun _ hk => hk) ((show ∀ k_, w11.heap.size ≤ k_ → (fun k_ => (w.heap.size ≤ k_) ∧ some k_ ≠ (v186 : Value).ownBlock ∧ k_ ≠ gb184 ∧ k_ ≠ g) k_ from fun k_ hk => ⟨(Nat.le_trans (keep_size (w := w) (g := g) (row := none) (kB1 HK.out GW184.out)) hk), Kd.fresh' (Kd.N_lt (nA HO187.out)) k_ hk, Kd.freshB (g := gb184) (o := .cells #[.int .i64 a1_0, .int .i64 a1_1, .int .i64 a1_2] 58 (0, 0)) (kA BK184.out) k_ hk, IsS65.fresh (iS1 HI0.out NB0_184.out) k_ hk⟩) _ (Nat.le_refl _)) (Below.refl _ _) (Nat.le_refl _) (by simp) ?_; (case hd => rfl); (case hg => rfl); (case hr => first | (go_simp; done) | (go_simp; rfl)); (case hp => exact (Reps.c6 (show Kd.FK k62 _ _ (⟨1, 0, y189, (⟨a1_0, (⟨0, (-1)⟩ : S56)⟩ : S58)⟩ : S62) [.int .i64 1, .int .i64 0, .slice Ao10 y189.length co10, .int .i64 a1_0, .int .i64 0, .int .i64 (-1)] from (k62_mkF _ _ (⟨1, 0, y189, (⟨a1_0, (⟨0, (-1)⟩ : S56)⟩ : S58)⟩ : S62) (Kd.R_reads' (Kd.R_mono (ok' := (fun k_ => (w.heap.size ≤ k_) ∧ some k_ ≠ (v186 : Value).ownBlock ∧ k_ ≠ gb184 ∧ k_ ≠ g)) (IsS65.apart HI0.out (Kd.R_types (Kd.R_apart' (HO191.out) (Kd.N_typed HO187.out) (by decide)) BK184.out (by decide)) (by decide)) (fun k_ hk => ⟨hk.1.1.1.1, ⟨hk.1.1.2, ⟨hk.1.2, hk.2⟩⟩⟩))).2.1 (Kd.R_F (Kd.R_mono (ok' := (fun k_ => (w.heap.size ≤ k_) ∧ some k_ ≠ (v186 : Value).ownBlock ∧ k_ ≠ gb184 ∧ k_ ≠ g)) (IsS65.apart HI0.out (Kd.R_types (Kd.R_apart' (HO191.out) (Kd.N_typed HO187.out) (by decide)) BK184.out (by decide)) (by decide)) (fun k_ hk => ⟨hk.1.1.1.1, ⟨hk.1.1.2, ⟨hk.1.2, hk.2⟩⟩⟩))))) (Reps.none _ _)))
      intro v193 w12 ho13 hb hg_ hnew_
      clear hg_ hnew_
      (first | rw [← Ny192.out] at ho13 | (simp only [Int.reduceToNat] at ho13; rw [← Ny192.out] at ho13))
      have n0_ := am (Kd.N_elder' (nA HO187.out) (Kd.N_base ho13) hb)
      have n1_ := am (Kd.N_lower ho13 (keep_size (w := w) (g := g) (row := none) (kB1 HK.out GW184.out)))
      have n2_ := am (IsS65.below (iS1 HI0.out NB0_184.out) hb)
      have n3_ := am (blk_below (g := gb184) (o := .cells #[.int .i64 a1_0, .int .i64 a1_1, .int .i64 a1_2] 58 (0, 0)) (kA BK184.out) hb)
      have n4_ := am (KeepBut.trans (kB1 HK.out GW184.out) (KeepBut.of_below hb g none) (.inl rfl))
      have n5_ := am (below_step (bA2 HB.out (IsS65.ge HI0.out) GE184.out) hb)
      clear HO187
      clear HI0
      clear BK184
      clear HK
      clear HB
      clear HO191
      have HO187 := n0_
      have HO194 := n1_
      have HI0 := n2_
      have BK184 := n3_
      have HK := n4_
      have HB := n5_
      clear n0_ n1_ n2_ n3_ n4_ n5_
      clear hb ho13
      refine hK.out _ _ ⟨(blk_cell BK184.out 0).trans rfl, (blk_cell BK184.out 1).trans rfl, (blk_cell BK184.out 2).trans rfl⟩ (fun hHeld => ?_)
      clear hK K
      refine norm_ (a' := ?_) ?_ ?_
      rotate_left
      ·show Act.put _ (some 16) _ = _
       simp only [Act.put, List.setIfInBounds_toArray, List.set_cons_zero, List.set_cons_succ, i64_w, i32_w]
       rfl
      exact norm_ (by simp only [putAll, Act.put, List.setIfInBounds_toArray, List.set_cons_zero, List.set_cons_succ]) (hCont (v186, .slice Ao10 y189.length co10, v193) _ ⟨hHeld, (by (with_reducible repeat (first | apply Kd.N_alloc | apply Kd.N_drewN | apply Kd.N_drew)); exact Kd.N_mono HO187.out (fun _ hk => ⟨hk.1.1, ⟨hk.2, ⟨hk.1.2.2.2, hk.1.2.2.1⟩⟩⟩)), (by (with_reducible repeat (first | apply Kd.N_alloc | apply Kd.N_drewN | apply Kd.N_drew)); exact Kd.N_mono HO194.out (fun _ hk => ⟨hk.1, ⟨hk.2.1, ⟨hk.2.2.2, hk.2.2.1⟩⟩⟩)), (kA BK184.out), (iS1 HI0.out NB0_184.out), (kB1 HK.out GW184.out), (bA2 HB.out (IsS65.ge HI0.out) GE184.out)⟩)
     ·skip
      refine Kd.N_lit_step k62 _ 62 ?hg (N' := 16) ?hd (xs := ([(⟨1, 0, y189, (⟨a1_0, (⟨0, (-1)⟩ : S56)⟩ : S58)⟩ : S62)] : List (S62))) (inner := [.int .i64 1, .int .i64 0, .slice Ao10 y189.length co10, .int .i64 a1_0, .int .i64 0, .int .i64 (-1)]) (ok := (fun k_ => (w.heap.size ≤ k_) ∧ k_ ≠ gb184 ∧ k_ ≠ g)) (okp := (fun k_ => (w.heap.size ≤ k_) ∧ k_ ≠ gb184 ∧ k_ ≠ g)) ?hr ?hp (fun _ hk => hk) ((show ∀ k_, w8.heap.size ≤ k_ → (fun k_ => (w.heap.size ≤ k_) ∧ k_ ≠ gb184 ∧ k_ ≠ g) k_ from fun k_ hk => ⟨(Nat.le_trans (keep_size (w := w) (g := g) (row := none) (kB1 HK.out GW184.out)) hk), Kd.freshB (g := gb184) (o := .cells #[.int .i64 a1_0, .int .i64 a1_1, .int .i64 a1_2] 58 (0, 0)) (kA BK184.out) k_ hk, IsS65.fresh (iS1 HI0.out NB0_184.out) k_ hk⟩) _ (Nat.le_refl _)) (Below.refl _ _) (Nat.le_refl _) (by simp) ?_; (case hd => rfl); (case hg => rfl); (case hr => first | (go_simp; done) | (go_simp; rfl)); (case hp => exact (Reps.c6 (show Kd.FK k62 _ _ (⟨1, 0, y189, (⟨a1_0, (⟨0, (-1)⟩ : S56)⟩ : S58)⟩ : S62) [.int .i64 1, .int .i64 0, .slice Ao10 y189.length co10, .int .i64 a1_0, .int .i64 0, .int .i64 (-1)] from (k62_mkF _ _ (⟨1, 0, y189, (⟨a1_0, (⟨0, (-1)⟩ : S56)⟩ : S58)⟩ : S62) (Kd.R_reads' (Kd.R_mono (ok' := (fun k_ => (w.heap.size ≤ k_) ∧ k_ ≠ gb184 ∧ k_ ≠ g)) (IsS65.apart HI0.out (Kd.R_types (HO191.out) BK184.out (by decide)) (by decide)) (fun k_ hk => ⟨hk.1.1.1, ⟨hk.1.2, hk.2⟩⟩))).2.1 (Kd.R_F (Kd.R_mono (ok' := (fun k_ => (w.heap.size ≤ k_) ∧ k_ ≠ gb184 ∧ k_ ≠ g)) (IsS65.apart HI0.out (Kd.R_types (HO191.out) BK184.out (by decide)) (by decide)) (fun k_ hk => ⟨hk.1.1.1, ⟨hk.1.2, hk.2⟩⟩))))) (Reps.none _ _)))
      intro v193 w11 ho12 hb hg_ hnew_
      clear hg_ hnew_
      (first | rw [← Ny192.out] at ho12 | (simp only [Int.reduceToNat] at ho12; rw [← Ny192.out] at ho12))
      have n0_ := am (Kd.N_lower ho12 (keep_size (w := w) (g := g) (row := none) (kB1 HK.out GW184.out)))
      have n1_ := am (IsS65.below (iS1 HI0.out NB0_184.out) hb)
      have n2_ := am (blk_below (g := gb184) (o := .cells #[.int .i64 a1_0, .int .i64 a1_1, .int .i64 a1_2] 58 (0, 0)) (kA BK184.out) hb)
      have n3_ := am (KeepBut.trans (kB1 HK.out GW184.out) (KeepBut.of_below hb g none) (.inl rfl))
      have n4_ := am (below_step (bA2 HB.out (IsS65.ge HI0.out) GE184.out) hb)
      clear HI0
      clear BK184
      clear HK
      clear HB
      clear HO191
      have HO194 := n0_
      have HI0 := n1_
      have BK184 := n2_
      have HK := n3_
      have HB := n4_
      clear n0_ n1_ n2_ n3_ n4_
      clear hb ho12
      refine hK.out _ _ ⟨(blk_cell BK184.out 0).trans rfl, (blk_cell BK184.out 1).trans rfl, (blk_cell BK184.out 2).trans rfl⟩ (fun hHeld => ?_)
      clear hK K
      refine norm_ (a' := ?_) ?_ ?_
      rotate_left
      ·show Act.put _ (some 16) _ = _
       simp only [Act.put, List.setIfInBounds_toArray, List.set_cons_zero, List.set_cons_succ, i64_w, i32_w]
       rfl
      refine one_ (i := 3) (N := some 9) (bs 13 2047) rfl rfl (one_of HT_.out (by kernel_rfl)) (by decide) (fun K hK => ?_)
      refine goes_ Tryd.func56 (by kernel_rfl) rfl #[.pointer (some ⟨g, 0, none⟩), .int .i64 a1_0] (by rfl) rfl rfl (by (try simp only [List.map_toArray, List.map_cons, List.map_nil]); first | done | rfl | (simp only [List.length_drop, List.length_take]; rfl)) ?_
      with_reducible refine (stacktext_encoder_runs.calls k g s0_0 s0_1 a1_0 t185 t188 w0 _ ?side1 ?side2 A3.out).mono ?_
      (case side1 => repeat (first | (with_reducible first | exact HI0.out | apply IsS65.alloc | apply IsS65.drewN | apply IsS65.drew | apply IsS65.set_1 | refine IsS65.far ?_ NB0_184.out _) | exact HI0.out))
      (case side2 => repeat (first | (with_reducible first | exact HB.out | apply below_alloc | apply pw_below_drewN | apply below_drew1 | refine below_set ?_ (IsS65.ge HI0.out) | refine below_set ?_ GE184.out) | exact HB.out))
      rintro e w13 ⟨v186, rfl, ho0, hi, hb, hk⟩
      refine ⟨_, rfl, ?_⟩
      have n0_ := am (KeepBut.blk hk (g' := gb184) (o := .cells #[.int .i64 a1_0, .int .i64 a1_1, .int .i64 a1_2] 58 (0, 0)) (kA BK184.out) NB184_0.out (by simp))
      have n1_ := am (Kd.N_mono (Kd.N_told (Kd.N_oldK (Kd.N_mono (ok := fun k_ => (((w.heap.size ≤ k_)) ∧ (k_ ≠ gb184 ∧ k_ ≠ g))) (nA HO194.out) (fun k_ hk_ => (⟨hk_, hk_.2.2⟩ : _ ∧ k_ ≠ g))) hk) (Kd.N_base (Kd.S_N ho0))) (fun _ h_ => h_.1))
      have n2_ := am (Kd.N_lower (Kd.N_mono (ok' := fun k_ => (w.heap.size ≤ k_) ∧ some k_ ≠ (v193 : Value).ownBlock ∧ k_ ≠ gb184 ∧ k_ ≠ g) (Kd.S_N (Kd.S_bound ho0)) (fun k_ hk_ => ⟨(Nat.le_trans (keep_size (w := w) (g := g) (row := none) (kB1 HK.out GW184.out)) hk_.2.1), (Kd.fresh' (Kd.N_lt (nA HO194.out)) k_ hk_.2.1), (Kd.freshB (g := gb184) (o := .cells #[.int .i64 a1_0, .int .i64 a1_1, .int .i64 a1_2] 58 (0, 0)) (kA BK184.out) k_ hk_.2.1), (IsS65.fresh (iS1 HI0.out NB0_184.out) k_ hk_.2.1)⟩)) (keep_size (w := w) (g := g) (row := none) (kB1 HK.out GW184.out)))
      have n3_ := am (KeepBut.trans (kB1 HK.out GW184.out) hk (.inl rfl))
      have n4_ := am (hb)
      have n5_ := am (hi)
      clear BK184
      clear HO194
      clear HK
      clear HB
      clear HI0
      have BK184 := n0_
      have HO194 := n1_
      have HO187 := n2_
      have HK := n3_
      have HB := n4_
      have HI0 := n5_
      clear n0_ n1_ n2_ n3_ n4_ n5_
      (try clear hb)
      (try clear hb2)
      (try clear hk)
      (try clear hi)
      (try clear ho0)
      refine hK.out _ _ ⟨(blk_cell BK184.out 0).trans rfl, (blk_cell BK184.out 1).trans rfl, (blk_cell BK184.out 2).trans rfl⟩ (fun hHeld => ?_)
      clear hK K
      refine norm_ (a' := ?_) ?_ ?_
      rotate_left
      ·show Act.put _ (some 9) _ = _
       simp only [Act.put, List.setIfInBounds_toArray, List.set_cons_zero, List.set_cons_succ, i64_w, i32_w]
       rfl
      exact norm_ (by simp only [putAll, Act.put, List.setIfInBounds_toArray, List.set_cons_zero, List.set_cons_succ]) (hCont (v186, .slice Ao10 y189.length co10, v193) _ ⟨hHeld, (by (with_reducible repeat (first | apply Kd.N_alloc | apply Kd.N_drewN | apply Kd.N_drew)); exact Kd.N_mono HO187.out (fun _ hk => ⟨hk.1, ⟨hk.2.1, ⟨hk.2.2.2, hk.2.2.1⟩⟩⟩)), (by (with_reducible repeat (first | apply Kd.N_alloc | apply Kd.N_drewN | apply Kd.N_drew)); exact Kd.N_mono HO194.out (fun _ hk => ⟨hk.1.1, ⟨hk.2, ⟨hk.1.2.2, hk.1.2.1⟩⟩⟩)), (kA BK184.out), (iS1 HI0.out NB0_184.out), (kB1 HK.out GW184.out), (bA2 HB.out (IsS65.ge HI0.out) GE184.out)⟩)
   rintro ⟨v186, v190, v193⟩ w14 ⟨hS_, h0_, h1_, h2_, h3_, h4_, h5_⟩
   have n0_ : Aside0 (Kd.N k62 62 w14 w.heap.size (fun k_ => (w.heap.size ≤ k_) ∧ some k_ ≠ (v193 : Value).ownBlock ∧ k_ ≠ g ∧ k_ ≠ gb184) v186 t185) := ⟨h0_⟩
   have n1_ : Aside0 (Kd.N k62 62 w14 w.heap.size (fun k_ => (w.heap.size ≤ k_) ∧ some k_ ≠ (v186 : Value).ownBlock ∧ k_ ≠ g ∧ k_ ≠ gb184) v193 y192) := ⟨h1_⟩
   have n2_ : Aside0 (w14.heap[gb184]? = some (.cells #[.int .i64 a1_0, .int .i64 a1_1, .int .i64 a1_2] 58 (0, 0))) := ⟨h2_⟩
   have n3_ : Aside0 (IsS65 w0 w14 g s0_0 t188) := ⟨h3_⟩
   have n4_ : Aside0 (KeepBut w w14 g none) := ⟨h4_⟩
   have n5_ : Aside0 (Below w0.heap.size w0 w14) := ⟨h5_⟩
   clear BK184
   clear HI0
   clear HK
   clear HB
   clear h0_ h1_ h2_ h3_ h4_ h5_
   have HO187 := n0_
   have HO194 := n1_
   have BK184 := n2_
   have HI0 := n3_
   have HK := n4_
   have HB := n5_
   clear n0_ n1_ n2_ n3_ n4_ n5_
   have hHeld : w14.cell? ⟨gb184, 0, none⟩ = some (.int .i64 a1_0) ∧ w14.cell? ⟨gb184, 1, none⟩ = some (.int .i64 a1_1) ∧ w14.cell? ⟨gb184, 2, none⟩ = some (.int .i64 a1_2) := hS_
   obtain ⟨Ao16, co16, eo16⟩ := Kd.N_slice HO194.out
   (first | subst eo16 | (injection eo16 with f1_ f2_ f3_; have f4_ := f1_.symm; have f5_ := f3_.symm; clear f1_ f2_ f3_; subst f4_; subst f5_))
   refine norm_ (a' := ?_) ?_ ?_
   rotate_left
   ·simp only [putAll, Act.put, List.setIfInBounds_toArray, List.set_cons_zero, List.set_cons_succ]
    rfl
   refine one_ (i := 11) (N := some 17) (bs 13 4095) rfl rfl (one_of HT_.out (by kernel_rfl)) (by decide) (fun K hK => ?_)
   refine Kd.N_append_rows_step k62 w.heap.size (by rfl) (.tmp 9) (.tmp 16) 59 62 (.agg #[(.int .i64 0), (.int .i64 0), (.slice none 0 0), (.int .i64 0), (.int .i64 0), (.int .i64 0)]) 64 rfl Tryd.underlying59 info62 rfl (by decide) (by omega) v186 t185 y192 _ _ _ (fun k_ => (w.heap.size ≤ k_) ∧ k_ ≠ gb184 ∧ k_ ≠ g) (fun k_ => ((fun k_ => (w.heap.size ≤ k_) ∧ k_ ≠ gb184 ∧ k_ ≠ g)) k_ ∧ some k_ ≠ (v186 : Value).ownBlock) rfl rfl ?aO ?aR (fun _ hk => hk) ?aF (Below.refl _ _) ?aS ?aL ?_
   (case aR => exact (by skip; exact Kd.N_F (Kd.N_mono (ok' := (fun k_ => ((fun k_ => (w.heap.size ≤ k_) ∧ k_ ≠ gb184 ∧ k_ ≠ g)) k_ ∧ some k_ ≠ (v186 : Value).ownBlock)) (HO194.out) (fun k_ hk => ⟨⟨hk.1, ⟨hk.2.2.2, hk.2.2.1⟩⟩, hk.2.1⟩))))
   (case aF => exact (fun k_ hk => ⟨(Nat.le_trans (keep_size (w := w) (g := g) (row := none) (kB1 HK.out GW184.out)) hk), Kd.freshB (g := gb184) (o := .cells #[.int .i64 a1_0, .int .i64 a1_1, .int .i64 a1_2] 58 (0, 0)) (kA BK184.out) k_ hk, IsS65.fresh (iS1 HI0.out NB0_184.out) k_ hk⟩))
   (case aO => exact (by (with_reducible repeat (first | apply Kd.N_alloc | apply Kd.N_drewN | apply Kd.N_drew)); exact Kd.N_mono HO187.out (fun _ hk => ⟨hk.1, ⟨hk.2.2.2, hk.2.2.1⟩⟩)))
   (case aS => exact (keep_size (w := w) (g := g) (row := none) (kB1 HK.out GW184.out)))
   (case aL => have := LMc4.out; omega)
   intro v196 w15 ho hb hg hat
   rw [← Ny195.out] at ho
   have n0_ := am (IsS65.grown (iS1 HI0.out NB0_184.out) hg (IsS65.own_neN HI0.out HO187.out (by decide)))
   have n1_ := am (blk_grown (g := gb184) (o := .cells #[.int .i64 a1_0, .int .i64 a1_1, .int .i64 a1_2] 58 (0, 0)) (kA BK184.out) hg (Kd.N_ne HO187.out BK184.out (by decide)))
   have n2_ := am (Kd.N_afterv (ok := (fun k_ => (w.heap.size ≤ k_) ∧ k_ ≠ g ∧ k_ ≠ gb184)) (by (with_reducible repeat (first | apply Kd.N_alloc | apply Kd.N_drewN | apply Kd.N_drew)); exact Kd.N_mono HO194.out (fun _ hk => ⟨⟨hk.1, ⟨hk.2.2.1, hk.2.2.2⟩⟩, hk.2.1⟩)) hg hat)
   have n3_ := am (below_weaken (bA2 HB.out (IsS65.ge HI0.out) GE184.out) HL.out hb)
   have n4_ := am (KeepBut.trans (kB1 HK.out GW184.out) (KeepBut.of_grown hg g) (Kd.N_base2 HO187.out))
   have n5_ := am (ho)
   clear HI0
   clear BK184
   clear HO194
   clear HB
   clear HK
   clear HO187
   have HI0 := n0_
   have BK184 := n1_
   have HO194 := n2_
   have HB := n3_
   have HK := n4_
   have HO197 := n5_
   clear n0_ n1_ n2_ n3_ n4_ n5_
   clear ho hb hg hat
   refine hK.out _ _ ⟨(blk_cell BK184.out 0).trans rfl, (blk_cell BK184.out 1).trans rfl, (blk_cell BK184.out 2).trans rfl⟩ (fun hHeld => ?_)
   clear hK K
   refine norm_ (a' := ?_) ?_ ?_
   rotate_left
   ·show Act.put _ (some 17) _ = _
    simp only [Act.put, List.setIfInBounds_toArray, List.set_cons_zero, List.set_cons_succ, i64_w, i32_w]
    rfl
   refine pS 12 (some 5) (bs 13 8191) (h := ?_)
   refine done_ (done_of HT_.out (by kernel_rfl)) ?_
   have hnb17 := NB184_0.out
   have hnc17 := NB0_184.out
   have hcz18_0 : w15.cell? ⟨gb184, 0, none⟩ = some (.int .i64 a1_0) := (blk_cell BK184.out 0).trans rfl
   have hcz18_1 : w15.cell? ⟨gb184, 1, none⟩ = some (.int .i64 a1_1) := (blk_cell BK184.out 1).trans rfl
   have hcz18_2 : w15.cell? ⟨gb184, 2, none⟩ = some (.int .i64 a1_2) := (blk_cell BK184.out 2).trans rfl
   have hfz18_0 := blk_frozen BK184.out 0
   have hfz18_1 := blk_frozen BK184.out 1
   have hfz18_2 := blk_frozen BK184.out 2
   try go_wp2
   go_ret
   exact ⟨_, by first | rfl | (simp [errW_none, errW_some] <;> rfl) | (simp [*, errW_none, errW_some] <;> rfl), by (with_reducible repeat (first | apply Kd.N_alloc | apply Kd.N_drewN | apply Kd.N_drew)); exact Kd.N_mono HO197.out (fun _ hk => hk.1), by repeat (first | (with_reducible first | exact HI0.out | apply IsS65.alloc | apply IsS65.drewN | apply IsS65.drew | apply IsS65.set_1 | refine IsS65.far ?_ NB0_184.out _) | exact HI0.out), by repeat (first | (with_reducible first | exact HB.out | apply below_alloc | apply pw_below_drewN | apply below_drew1 | refine below_set ?_ (IsS65.ge HI0.out) | refine below_set ?_ GE184.out) | exact HB.out), by repeat (first | (with_reducible first | exact HK.out | apply KeepBut.set_ | apply keep_drewN | apply keep_drew | apply keep_alloc | refine keep_far ?_ GW184.out _) | exact HK.out)⟩
  ·rw [if_neg c5] at H
   have c5b0 : (a1_1 == 4) = false := beq_eq_false_iff_ne.mpr c5
   have c5b1 : (a1_1 != 4) = true := bne_iff_ne.mpr c5
   have HC19 := am H
   clear H
   go_enter Tryd.func32, Tryd.ntmps32
   try go_wp2_with (first | ((with_reducible refine gate_dst (N := 3) rfl ?_); refine box_event ?hg (N := 3) ?hd (cs := #[.int .i64 a1_0, .int .i64 a1_1, .int .i64 a1_2]) (t := 58) ?hr ?_; (case hd => rfl); (case hg => rfl); (case hr => first | (go_simp; done) | (go_simp; rfl)); intro gb184 hg w20 hbox hb; have n0_ := am (IsS65.below (iS0 HI0.out) hb); have n1_ := am (KeepBut.trans (kB0 HK.out) (KeepBut.of_below hb g none) (.inl rfl)); have n2_ := am (below_step (bA1 HB.out (IsS65.ge HI0.out)) hb); have n3_ := am (hbox); have n4_ := am ((by rw [hg]; exact (keep_size (w := w) (g := g) (row := none) (kB0 HK.out)) : w.heap.size ≤ gb184)); have n5_ := am ((Nat.le_trans HW0.out (by rw [hg]; exact (keep_size (w := w) (g := g) (row := none) (kB0 HK.out)) : w.heap.size ≤ gb184) : w0.heap.size ≤ gb184)); have n6_ := am ((by rw [hg]; exact Nat.ne_of_lt (IsS65.lt (show IsS65 w0 _ g s0_0 s0_1 from by repeat (first | (with_reducible first | exact HI0.out | apply IsS65.alloc | apply IsS65.drewN | apply IsS65.drew | apply IsS65.set_1) | exact HI0.out))) : g ≠ gb184)); have n7_ := am ((by rw [hg]; exact Nat.ne_of_gt (IsS65.lt (show IsS65 w0 _ g s0_0 s0_1 from by repeat (first | (with_reducible first | exact HI0.out | apply IsS65.alloc | apply IsS65.drewN | apply IsS65.drew | apply IsS65.set_1) | exact HI0.out))) : gb184 ≠ g)); clear HI0; clear HK; clear HB; have HI0 := n0_; have HK := n1_; have HB := n2_; have BK184 := n3_; have GW184 := n4_; have GE184 := n5_; have NB0_184 := n6_; have NB184_0 := n7_; clear n0_ n1_ n2_ n3_ n4_ n5_ n6_ n7_; clear hb hbox hg))
   have n0_ := am (blk_drew BK184.out)
   have n1_ := am (IsS65.drew HI0.out)
   have n2_ := am (keep_drew HK.out)
   have n3_ := am (below_drew1 HB.out)
   clear BK184
   clear HI0
   clear HK
   clear HB
   have BK184 := n0_
   have HI0 := n1_
   have HK := n2_
   have HB := n3_
   clear n0_ n1_ n2_ n3_
   refine start_ (n := 13) (S := fun w' => w'.cell? ⟨gb184, 0, none⟩ = some (.int .i64 a1_0) ∧ w'.cell? ⟨gb184, 1, none⟩ = some (.int .i64 a1_1) ∧ w'.cell? ⟨gb184, 2, none⟩ = some (.int .i64 a1_2)) (ds := []) (bs 13 0) (by kernel_rfl) rfl rfl ⟨(blk_cell BK184.out 0).trans rfl, (blk_cell BK184.out 1).trans rfl, (blk_cell BK184.out 2).trans rfl⟩ (fun hHeld => ?_); refine with_tabW stacktext_encoder_steps.tab1 stacktext_encoder_steps.bits1 (fun HT_ HW_ => ?_)
   generalize w20.drew = w21 at BK184 HI0 HK HB hHeld ⊢
   refine pS 0 (some 6) (bs 13 1) (h := ?_)
   refine pS 1 (some 7) (bs 13 3) (h := ?_)
   refine pS 5 (some 11) (bs 13 35) (h := ?_)
   refine pS 7 (some 13) (bs 13 163) (h := ?_)
   refine tS 2 (some 8) (bs 13 167) hHeld (h := ?_)
   refine tS 6 (some 12) (bs 13 231) hHeld (h := ?_)
   refine pS 8 (some 14) (bs 13 487) (h := ?_)
   refine join_ (σ := Value × Value × Value) 2 #[true, true, true, true, true, true, true, true, true, true, true, false, false] (fun s_ => [(9, s_.1), (10, s_.2.1), (16, s_.2.2), (15, .agg #[.int .i64 1, .int .i64 0, s_.2.1, .int .i64 a1_0, .int .i64 0, .int .i64 (-1)])]) (fun s_ w' => (w'.cell? ⟨gb184, 0, none⟩ = some (.int .i64 a1_0) ∧ w'.cell? ⟨gb184, 1, none⟩ = some (.int .i64 a1_1) ∧ w'.cell? ⟨gb184, 2, none⟩ = some (.int .i64 a1_2)) ∧ (Kd.N k62 62 w' w.heap.size (fun k_ => (w.heap.size ≤ k_) ∧ some k_ ≠ (s_.2.2 : Value).ownBlock ∧ k_ ≠ g ∧ k_ ≠ gb184) s_.1 t185) ∧ (Kd.N k62 62 w' w.heap.size (fun k_ => (w.heap.size ≤ k_) ∧ some k_ ≠ (s_.1 : Value).ownBlock ∧ k_ ≠ g ∧ k_ ≠ gb184) s_.2.2 y192) ∧ (w'.heap[gb184]? = some (.cells #[.int .i64 a1_0, .int .i64 a1_1, .int .i64 a1_2] 58 (0, 0))) ∧ (IsS65 w0 w' g s0_0 t188) ∧ (KeepBut w w' g none) ∧ (Below w0.heap.size w0 w')) ?_ ?_
   rotate_left
   ·intro hCont
    refine two_ (i := 3) (j := 4) (Ni := some 9) (Nj := some 10) (bs 13 495) #[true, true, true, false, true, true, true, true, true, false, false, false, false] rfl rfl rfl rfl (two_of HT_.out (by kernel_rfl)) (by decide) (by decide) (fun K hK => ?_) (fun K hK => ?_)
    ·skip
     refine goes_ Tryd.func56 (by kernel_rfl) rfl #[.pointer (some ⟨g, 0, none⟩), .int .i64 a1_0] (by rfl) rfl rfl (by (try simp only [List.map_toArray, List.map_cons, List.map_nil]); first | done | rfl | (simp only [List.length_drop, List.length_take]; rfl)) ?_
     with_reducible refine (stacktext_encoder_runs.calls k g s0_0 s0_1 a1_0 t185 t188 w0 _ ?side1 ?side2 A3.out).mono ?_
     (case side1 => repeat (first | (with_reducible first | exact HI0.out | apply IsS65.alloc | apply IsS65.drewN | apply IsS65.drew | apply IsS65.set_1 | refine IsS65.far ?_ NB0_184.out _) | exact HI0.out))
     (case side2 => repeat (first | (with_reducible first | exact HB.out | apply below_alloc | apply pw_below_drewN | apply below_drew1 | refine below_set ?_ (IsS65.ge HI0.out) | refine below_set ?_ GE184.out) | exact HB.out))
     rintro e w22 ⟨v186, rfl, ho0, hi, hb, hk⟩
     refine ⟨_, rfl, ?_⟩
     have n0_ := am (KeepBut.blk hk (g' := gb184) (o := .cells #[.int .i64 a1_0, .int .i64 a1_1, .int .i64 a1_2] 58 (0, 0)) (kA BK184.out) NB184_0.out (by simp))
     have n1_ := am (Kd.N_lower (Kd.N_mono (ok' := fun k_ => (w.heap.size ≤ k_) ∧ k_ ≠ gb184 ∧ k_ ≠ g) (Kd.S_N (Kd.S_bound ho0)) (fun k_ hk_ => ⟨(Nat.le_trans (keep_size (w := w) (g := g) (row := none) (kB1 HK.out GW184.out)) hk_.2.1), (Kd.freshB (g := gb184) (o := .cells #[.int .i64 a1_0, .int .i64 a1_1, .int .i64 a1_2] 58 (0, 0)) (kA BK184.out) k_ hk_.2.1), (IsS65.fresh (iS1 HI0.out NB0_184.out) k_ hk_.2.1)⟩)) (keep_size (w := w) (g := g) (row := none) (kB1 HK.out GW184.out)))
     have n2_ := am (KeepBut.trans (kB1 HK.out GW184.out) hk (.inl rfl))
     have n3_ := am (hb)
     have n4_ := am (hi)
     clear BK184
     clear HK
     clear HB
     clear HI0
     have BK184 := n0_
     have HO187 := n1_
     have HK := n2_
     have HB := n3_
     have HI0 := n4_
     clear n0_ n1_ n2_ n3_ n4_
     (try clear hb)
     (try clear hb2)
     (try clear hk)
     (try clear hi)
     (try clear ho0)
     refine hK.out _ _ ⟨(blk_cell BK184.out 0).trans rfl, (blk_cell BK184.out 1).trans rfl, (blk_cell BK184.out 2).trans rfl⟩ (fun hHeld => ?_)
     clear hK K
     refine norm_ (a' := ?_) ?_ ?_
     rotate_left
     ·show Act.put _ (some 9) _ = _
      simp only [Act.put, List.setIfInBounds_toArray, List.set_cons_zero, List.set_cons_succ, i64_w, i32_w]
      rfl
     refine one_ (i := 4) (N := some 10) (bs 13 511) rfl rfl (one_of HT_.out (by kernel_rfl)) (by decide) (fun K hK => ?_)
     refine Kd.R_lit_step (Kd.int .i64) _ 3 ?hg (N := 10) ?hd (xs := ([900] : List Int)) (inner := [.int .i64 900]) (ok := fun _ => True) (okp := fun _ => True) ?hr ?hp (fun _ hk => hk) trivial (Below.refl _ _) (Nat.le_refl _) (by simp) ?_; (case hd => rfl); (case hg => rfl); (case hr => first | (go_simp; done) | (go_simp; rfl)); (case hp => exact (Reps.one (show Kd.M (Kd.int .i64) _ _ _ 900 [.int .i64 900] from rfl) (Reps.none _ _)))
     intro v190 w23 ho24 hb hg_ hnew_
     clear hg_ hnew_
     (first | rw [← Ny189.out] at ho24 | (simp only [Int.reduceToNat] at ho24; rw [← Ny189.out] at ho24))
     have n0_ := am (Kd.N_elder' (nA HO187.out) (Kd.R_base ho24) hb)
     have n1_ := am (Kd.R_lower (Kd.R_newM (M := fun k_ => (w.heap.size ≤ k_)) ho24 (keep_size (w := w) (g := g) (row := none) (kB1 HK.out GW184.out)) (fun k_ h_ => h_)) (keep_size (w := w) (g := g) (row := none) (kB1 HK.out GW184.out)))
     have n2_ := am (IsS65.below (iS1 HI0.out NB0_184.out) hb)
     have n3_ := am (blk_below (g := gb184) (o := .cells #[.int .i64 a1_0, .int .i64 a1_1, .int .i64 a1_2] 58 (0, 0)) (kA BK184.out) hb)
     have n4_ := am (KeepBut.trans (kB1 HK.out GW184.out) (KeepBut.of_below hb g none) (.inl rfl))
     have n5_ := am (below_step (bA2 HB.out (IsS65.ge HI0.out) GE184.out) hb)
     clear HO187
     clear HI0
     clear BK184
     clear HK
     clear HB
     have HO187 := n0_
     have HO191 := n1_
     have HI0 := n2_
     have BK184 := n3_
     have HK := n4_
     have HB := n5_
     clear n0_ n1_ n2_ n3_ n4_ n5_
     clear hb ho24
     obtain ⟨Ao25, co25, eo25⟩ := Kd.R_slice HO191.out
     (first | subst eo25 | (injection eo25 with f1_ f2_ f3_; have f4_ := f1_.symm; have f5_ := f3_.symm; clear f1_ f2_ f3_; subst f4_; subst f5_))
     refine hK.out _ _ ⟨(blk_cell BK184.out 0).trans rfl, (blk_cell BK184.out 1).trans rfl, (blk_cell BK184.out 2).trans rfl⟩ (fun hHeld => ?_)
     clear hK K
     refine norm_ (a' := ?_) ?_ ?_
     rotate_left
     ·show Act.put _ (some 10) _ = _
      simp only [Act.put, List.setIfInBounds_toArray, List.set_cons_zero, List.set_cons_succ, i64_w, i32_w]
      rfl
     refine pS 9 (some 15) (bs 13 1023) (h := ?_)
     refine one_ (i := 10) (N := some 16) (bs 13 2047) rfl rfl (one_of HT_.out (by kernel_rfl)) (by decide) (fun K hK => ?_)
     refine Kd.N_lit_step k62 _ 62 ?hg (N' := 16) ?hd (xs := ([(⟨1, 0, y189, (⟨a1_0, (⟨0, (-1)⟩ : S56)⟩ : S58)⟩ : S62)] : List (S62))) (inner := [.int .i64 1, .int .i64 0, .slice Ao25 y189.length co25, .int .i64 a1_0, .int .i64 0, .int .i64 (-1)]) (ok := (fun k_ => (w.heap.size ≤ k_) ∧ some k_ ≠ (v186 : Value).ownBlock ∧ k_ ≠ gb184 ∧ k_ ≠ g)) (okp := (fun k_ => (w.heap.size ≤ k_) ∧ some k_ ≠ (v186 : Value).ownBlock ∧ k_ ≠ gb184 ∧ k_ ≠ g)) ?hr ?hp (fun _ hk => hk) ((show ∀ k_, w23.heap.size ≤ k_ → (fun k_ => (w.heap.size ≤ k_) ∧ some k_ ≠ (v186 : Value).ownBlock ∧ k_ ≠ gb184 ∧ k_ ≠ g) k_ from fun k_ hk => ⟨(Nat.le_trans (keep_size (w := w) (g := g) (row := none) (kB1 HK.out GW184.out)) hk), Kd.fresh' (Kd.N_lt (nA HO187.out)) k_ hk, Kd.freshB (g := gb184) (o := .cells #[.int .i64 a1_0, .int .i64 a1_1, .int .i64 a1_2] 58 (0, 0)) (kA BK184.out) k_ hk, IsS65.fresh (iS1 HI0.out NB0_184.out) k_ hk⟩) _ (Nat.le_refl _)) (Below.refl _ _) (Nat.le_refl _) (by simp) ?_; (case hd => rfl); (case hg => rfl); (case hr => first | (go_simp; done) | (go_simp; rfl)); (case hp => exact (Reps.c6 (show Kd.FK k62 _ _ (⟨1, 0, y189, (⟨a1_0, (⟨0, (-1)⟩ : S56)⟩ : S58)⟩ : S62) [.int .i64 1, .int .i64 0, .slice Ao25 y189.length co25, .int .i64 a1_0, .int .i64 0, .int .i64 (-1)] from (k62_mkF _ _ (⟨1, 0, y189, (⟨a1_0, (⟨0, (-1)⟩ : S56)⟩ : S58)⟩ : S62) (Kd.R_reads' (Kd.R_mono (ok' := (fun k_ => (w.heap.size ≤ k_) ∧ some k_ ≠ (v186 : Value).ownBlock ∧ k_ ≠ gb184 ∧ k_ ≠ g)) (IsS65.apart HI0.out (Kd.R_types (Kd.R_apart' (HO191.out) (Kd.N_typed HO187.out) (by decide)) BK184.out (by decide)) (by decide)) (fun k_ hk => ⟨hk.1.1.1.1, ⟨hk.1.1.2, ⟨hk.1.2, hk.2⟩⟩⟩))).2.1 (Kd.R_F (Kd.R_mono (ok' := (fun k_ => (w.heap.size ≤ k_) ∧ some k_ ≠ (v186 : Value).ownBlock ∧ k_ ≠ gb184 ∧ k_ ≠ g)) (IsS65.apart HI0.out (Kd.R_types (Kd.R_apart' (HO191.out) (Kd.N_typed HO187.out) (by decide)) BK184.out (by decide)) (by decide)) (fun k_ hk => ⟨hk.1.1.1.1, ⟨hk.1.1.2, ⟨hk.1.2, hk.2⟩⟩⟩))))) (Reps.none _ _)))
     intro v193 w26 ho27 hb hg_ hnew_
     clear hg_ hnew_
     (first | rw [← Ny192.out] at ho27 | (simp only [Int.reduceToNat] at ho27; rw [← Ny192.out] at ho27))
     have n0_ := am (Kd.N_elder' (nA HO187.out) (Kd.N_base ho27) hb)
     have n1_ := am (Kd.N_lower ho27 (keep_size (w := w) (g := g) (row := none) (kB1 HK.out GW184.out)))
     have n2_ := am (IsS65.below (iS1 HI0.out NB0_184.out) hb)
     have n3_ := am (blk_below (g := gb184) (o := .cells #[.int .i64 a1_0, .int .i64 a1_1, .int .i64 a1_2] 58 (0, 0)) (kA BK184.out) hb)
     have n4_ := am (KeepBut.trans (kB1 HK.out GW184.out) (KeepBut.of_below hb g none) (.inl rfl))
     have n5_ := am (below_step (bA2 HB.out (IsS65.ge HI0.out) GE184.out) hb)
     clear HO187
     clear HI0
     clear BK184
     clear HK
     clear HB
     clear HO191
     have HO187 := n0_
     have HO194 := n1_
     have HI0 := n2_
     have BK184 := n3_
     have HK := n4_
     have HB := n5_
     clear n0_ n1_ n2_ n3_ n4_ n5_
     clear hb ho27
     refine hK.out _ _ ⟨(blk_cell BK184.out 0).trans rfl, (blk_cell BK184.out 1).trans rfl, (blk_cell BK184.out 2).trans rfl⟩ (fun hHeld => ?_)
     clear hK K
     refine norm_ (a' := ?_) ?_ ?_
     rotate_left
     ·show Act.put _ (some 16) _ = _
      simp only [Act.put, List.setIfInBounds_toArray, List.set_cons_zero, List.set_cons_succ, i64_w, i32_w]
      rfl
     exact norm_ (by simp only [putAll, Act.put, List.setIfInBounds_toArray, List.set_cons_zero, List.set_cons_succ]) (hCont (v186, .slice Ao25 y189.length co25, v193) _ ⟨hHeld, (by (with_reducible repeat (first | apply Kd.N_alloc | apply Kd.N_drewN | apply Kd.N_drew)); exact Kd.N_mono HO187.out (fun _ hk => ⟨hk.1.1.1, ⟨hk.2, ⟨hk.1.1.2.2, hk.1.1.2.1⟩⟩⟩)), (by (with_reducible repeat (first | apply Kd.N_alloc | apply Kd.N_drewN | apply Kd.N_drew)); exact Kd.N_mono HO194.out (fun _ hk => ⟨hk.1, ⟨hk.2.1, ⟨hk.2.2.2, hk.2.2.1⟩⟩⟩)), (kA BK184.out), (iS1 HI0.out NB0_184.out), (kB1 HK.out GW184.out), (bA2 HB.out (IsS65.ge HI0.out) GE184.out)⟩)
    ·skip
     refine Kd.R_lit_step (Kd.int .i64) _ 3 ?hg (N := 10) ?hd (xs := ([900] : List Int)) (inner := [.int .i64 900]) (ok := fun _ => True) (okp := fun _ => True) ?hr ?hp (fun _ hk => hk) trivial (Below.refl _ _) (Nat.le_refl _) (by simp) ?_; (case hd => rfl); (case hg => rfl); (case hr => first | (go_simp; done) | (go_simp; rfl)); (case hp => exact (Reps.one (show Kd.M (Kd.int .i64) _ _ _ 900 [.int .i64 900] from rfl) (Reps.none _ _)))
     intro v190 w22 ho23 hb hg_ hnew_
     clear hg_ hnew_
     (first | rw [← Ny189.out] at ho23 | (simp only [Int.reduceToNat] at ho23; rw [← Ny189.out] at ho23))
     have n0_ := am (Kd.R_lower (Kd.R_newM (M := fun k_ => (w.heap.size ≤ k_)) ho23 (keep_size (w := w) (g := g) (row := none) (kB1 HK.out GW184.out)) (fun k_ h_ => h_)) (keep_size (w := w) (g := g) (row := none) (kB1 HK.out GW184.out)))
     have n1_ := am (IsS65.below (iS1 HI0.out NB0_184.out) hb)
     have n2_ := am (blk_below (g := gb184) (o := .cells #[.int .i64 a1_0, .int .i64 a1_1, .int .i64 a1_2] 58 (0, 0)) (kA BK184.out) hb)
     have n3_ := am (KeepBut.trans (kB1 HK.out GW184.out) (KeepBut.of_below hb g none) (.inl rfl))
     have n4_ := am (below_step (bA2 HB.out (IsS65.ge HI0.out) GE184.out) hb)
     clear HI0
     clear BK184
     clear HK
     clear HB
     have HO191 := n0_
     have HI0 := n1_
     have BK184 := n2_
     have HK := n3_
     have HB := n4_
     clear n0_ n1_ n2_ n3_ n4_
     clear hb ho23
     obtain ⟨Ao24, co24, eo24⟩ := Kd.R_slice HO191.out
     (first | subst eo24 | (injection eo24 with f1_ f2_ f3_; have f4_ := f1_.symm; have f5_ := f3_.symm; clear f1_ f2_ f3_; subst f4_; subst f5_))
     refine hK.out _ _ ⟨(blk_cell BK184.out 0).trans rfl, (blk_cell BK184.out 1).trans rfl, (blk_cell BK184.out 2).trans rfl⟩ (fun hHeld => ?_)
     clear hK K
     refine norm_ (a' := ?_) ?_ ?_
     rotate_left
     ·show Act.put _ (some 10) _ = _
      simp only [Act.put, List.setIfInBounds_toArray, List.set_cons_zero, List.set_cons_succ, i64_w, i32_w]
      rfl
     refine pS 9 (some 15) (bs 13 1015) (h := ?_)
     refine two_ (i := 3) (j := 10) (Ni := some 9) (Nj := some 16) (bs 13 1023) #[true, true, true, false, true, true, true, true, true, true, true, false, false] rfl rfl rfl rfl (two_of HT_.out (by kernel_rfl)) (by decide) (by decide) (fun K hK => ?_) (fun K hK => ?_)
     ·skip
      refine goes_ Tryd.func56 (by kernel_rfl) rfl #[.pointer (some ⟨g, 0, none⟩), .int .i64 a1_0] (by rfl) rfl rfl (by (try simp only [List.map_toArray, List.map_cons, List.map_nil]); first | done | rfl | (simp only [List.length_drop, List.length_take]; rfl)) ?_
      with_reducible refine (stacktext_encoder_runs.calls k g s0_0 s0_1 a1_0 t185 t188 w0 _ ?side1 ?side2 A3.out).mono ?_
      (case side1 => repeat (first | (with_reducible first | exact HI0.out | apply IsS65.alloc | apply IsS65.drewN | apply IsS65.drew | apply IsS65.set_1 | refine IsS65.far ?_ NB0_184.out _) | exact HI0.out))
      (case side2 => repeat (first | (with_reducible first | exact HB.out | apply below_alloc | apply pw_below_drewN | apply below_drew1 | refine below_set ?_ (IsS65.ge HI0.out) | refine below_set ?_ GE184.out) | exact HB.out))
      rintro e w25 ⟨v186, rfl, ho0, hi, hb, hk⟩
      refine ⟨_, rfl, ?_⟩
      have n0_ := am (KeepBut.blk hk (g' := gb184) (o := .cells #[.int .i64 a1_0, .int .i64 a1_1, .int .i64 a1_2] 58 (0, 0)) (kA BK184.out) NB184_0.out (by simp))
      have n1_ := am (Kd.R_mono (Kd.R_keep (IsS65.apart (show IsS65 w0 _ g s0_0 s0_1 from by repeat (first | (with_reducible first | exact HI0.out | apply IsS65.alloc | apply IsS65.drewN | apply IsS65.drew | apply IsS65.set_1 | refine IsS65.far ?_ NB0_184.out _) | exact HI0.out)) (rA HO191.out) (by decide)) hk (fun _ h => h.2)) (fun _ h => h.1))
      have n2_ := am (Kd.N_lower (Kd.N_mono (ok' := fun k_ => (w.heap.size ≤ k_) ∧ some k_ ≠ (.slice Ao24 y189.length co24 : Value).ownBlock ∧ k_ ≠ gb184 ∧ k_ ≠ g) (Kd.S_N (Kd.S_bound ho0)) (fun k_ hk_ => ⟨(Nat.le_trans (keep_size (w := w) (g := g) (row := none) (kB1 HK.out GW184.out)) hk_.2.1), (Kd.fresh' (Kd.R_lt (rA HO191.out)) k_ hk_.2.1), (Kd.freshB (g := gb184) (o := .cells #[.int .i64 a1_0, .int .i64 a1_1, .int .i64 a1_2] 58 (0, 0)) (kA BK184.out) k_ hk_.2.1), (IsS65.fresh (iS1 HI0.out NB0_184.out) k_ hk_.2.1)⟩)) (keep_size (w := w) (g := g) (row := none) (kB1 HK.out GW184.out)))
      have n3_ := am (KeepBut.trans (kB1 HK.out GW184.out) hk (.inl rfl))
      have n4_ := am (hb)
      have n5_ := am (hi)
      clear BK184
      clear HO191
      clear HK
      clear HB
      clear HI0
      have BK184 := n0_
      have HO191 := n1_
      have HO187 := n2_
      have HK := n3_
      have HB := n4_
      have HI0 := n5_
      clear n0_ n1_ n2_ n3_ n4_ n5_
      (try clear hb)
      (try clear hb2)
      (try clear hk)
      (try clear hi)
      (try clear ho0)
      refine hK.out _ _ ⟨(blk_cell BK184.out 0).trans rfl, (blk_cell BK184.out 1).trans rfl, (blk_cell BK184.out 2).trans rfl⟩ (fun hHeld => ?_)
      clear hK K
      refine norm_ (a' := ?_) ?_ ?_
      rotate_left
      ·show Act.put _ (some 9) _ = _
       simp only [Act.put, List.setIfInBounds_toArray, List.set_cons_zero, List.set_cons_succ, i64_w, i32_w]
       rfl
      refine one_ (i := 10) (N := some 16) (bs 13 2047) rfl rfl (one_of HT_.out (by kernel_rfl)) (by decide) (fun K hK => ?_)
      refine Kd.N_lit_step k62 _ 62 ?hg (N' := 16) ?hd (xs := ([(⟨1, 0, y189, (⟨a1_0, (⟨0, (-1)⟩ : S56)⟩ : S58)⟩ : S62)] : List (S62))) (inner := [.int .i64 1, .int .i64 0, .slice Ao24 y189.length co24, .int .i64 a1_0, .int .i64 0, .int .i64 (-1)]) (ok := (fun k_ => (w.heap.size ≤ k_) ∧ some k_ ≠ (v186 : Value).ownBlock ∧ k_ ≠ gb184 ∧ k_ ≠ g)) (okp := (fun k_ => (w.heap.size ≤ k_) ∧ some k_ ≠ (v186 : Value).ownBlock ∧ k_ ≠ gb184 ∧ k_ ≠ g)) ?hr ?hp (fun _ hk => hk) ((show ∀ k_, w25.heap.size ≤ k_ → (fun k_ => (w.heap.size ≤ k_) ∧ some k_ ≠ (v186 : Value).ownBlock ∧ k_ ≠ gb184 ∧ k_ ≠ g) k_ from fun k_ hk => ⟨(Nat.le_trans (keep_size (w := w) (g := g) (row := none) (kB1 HK.out GW184.out)) hk), Kd.fresh' (Kd.N_lt (nA HO187.out)) k_ hk, Kd.freshB (g := gb184) (o := .cells #[.int .i64 a1_0, .int .i64 a1_1, .int .i64 a1_2] 58 (0, 0)) (kA BK184.out) k_ hk, IsS65.fresh (iS1 HI0.out NB0_184.out) k_ hk⟩) _ (Nat.le_refl _)) (Below.refl _ _) (Nat.le_refl _) (by simp) ?_; (case hd => rfl); (case hg => rfl); (case hr => first | (go_simp; done) | (go_simp; rfl)); (case hp => exact (Reps.c6 (show Kd.FK k62 _ _ (⟨1, 0, y189, (⟨a1_0, (⟨0, (-1)⟩ : S56)⟩ : S58)⟩ : S62) [.int .i64 1, .int .i64 0, .slice Ao24 y189.length co24, .int .i64 a1_0, .int .i64 0, .int .i64 (-1)] from (k62_mkF _ _ (⟨1, 0, y189, (⟨a1_0, (⟨0, (-1)⟩ : S56)⟩ : S58)⟩ : S62) (Kd.R_reads' (Kd.R_mono (ok' := (fun k_ => (w.heap.size ≤ k_) ∧ some k_ ≠ (v186 : Value).ownBlock ∧ k_ ≠ gb184 ∧ k_ ≠ g)) (IsS65.apart HI0.out (Kd.R_types (Kd.R_apart' (HO191.out) (Kd.N_typed HO187.out) (by decide)) BK184.out (by decide)) (by decide)) (fun k_ hk => ⟨hk.1.1.1.1, ⟨hk.1.1.2, ⟨hk.1.2, hk.2⟩⟩⟩))).2.1 (Kd.R_F (Kd.R_mono (ok' := (fun k_ => (w.heap.size ≤ k_) ∧ some k_ ≠ (v186 : Value).ownBlock ∧ k_ ≠ gb184 ∧ k_ ≠ g)) (IsS65.apart HI0.out (Kd.R_types (Kd.R_apart' (HO191.out) (Kd.N_typed HO187.out) (by decide)) BK184.out (by decide)) (by decide)) (fun k_ hk => ⟨hk.1.1.1.1, ⟨hk.1.1.2, ⟨hk.1.2, hk.2⟩⟩⟩))))) (Reps.none _ _)))
      intro v193 w26 ho27 hb hg_ hnew_
      clear hg_ hnew_
      (first | rw [← Ny192.out] at ho27 | (simp only [Int.reduceToNat] at ho27; rw [← Ny192.out] at ho27))
      have n0_ := am (Kd.N_elder' (nA HO187.out) (Kd.N_base ho27) hb)
      have n1_ := am (Kd.N_lower ho27 (keep_size (w := w) (g := g) (row := none) (kB1 HK.out GW184.out)))
      have n2_ := am (IsS65.below (iS1 HI0.out NB0_184.out) hb)
      have n3_ := am (blk_below (g := gb184) (o := .cells #[.int .i64 a1_0, .int .i64 a1_1, .int .i64 a1_2] 58 (0, 0)) (kA BK184.out) hb)
      have n4_ := am (KeepBut.trans (kB1 HK.out GW184.out) (KeepBut.of_below hb g none) (.inl rfl))
      have n5_ := am (below_step (bA2 HB.out (IsS65.ge HI0.out) GE184.out) hb)
      clear HO187
      clear HI0
      clear BK184
      clear HK
      clear HB
      clear HO191
      have HO187 := n0_
      have HO194 := n1_
      have HI0 := n2_
      have BK184 := n3_
      have HK := n4_
      have HB := n5_
      clear n0_ n1_ n2_ n3_ n4_ n5_
      clear hb ho27
      refine hK.out _ _ ⟨(blk_cell BK184.out 0).trans rfl, (blk_cell BK184.out 1).trans rfl, (blk_cell BK184.out 2).trans rfl⟩ (fun hHeld => ?_)
      clear hK K
      refine norm_ (a' := ?_) ?_ ?_
      rotate_left
      ·show Act.put _ (some 16) _ = _
       simp only [Act.put, List.setIfInBounds_toArray, List.set_cons_zero, List.set_cons_succ, i64_w, i32_w]
       rfl
      exact norm_ (by simp only [putAll, Act.put, List.setIfInBounds_toArray, List.set_cons_zero, List.set_cons_succ]) (hCont (v186, .slice Ao24 y189.length co24, v193) _ ⟨hHeld, (by (with_reducible repeat (first | apply Kd.N_alloc | apply Kd.N_drewN | apply Kd.N_drew)); exact Kd.N_mono HO187.out (fun _ hk => ⟨hk.1.1, ⟨hk.2, ⟨hk.1.2.2.2, hk.1.2.2.1⟩⟩⟩)), (by (with_reducible repeat (first | apply Kd.N_alloc | apply Kd.N_drewN | apply Kd.N_drew)); exact Kd.N_mono HO194.out (fun _ hk => ⟨hk.1, ⟨hk.2.1, ⟨hk.2.2.2, hk.2.2.1⟩⟩⟩)), (kA BK184.out), (iS1 HI0.out NB0_184.out), (kB1 HK.out GW184.out), (bA2 HB.out (IsS65.ge HI0.out) GE184.out)⟩)
     ·skip
      refine Kd.N_lit_step k62 _ 62 ?hg (N' := 16) ?hd (xs := ([(⟨1, 0, y189, (⟨a1_0, (⟨0, (-1)⟩ : S56)⟩ : S58)⟩ : S62)] : List (S62))) (inner := [.int .i64 1, .int .i64 0, .slice Ao24 y189.length co24, .int .i64 a1_0, .int .i64 0, .int .i64 (-1)]) (ok := (fun k_ => (w.heap.size ≤ k_) ∧ k_ ≠ gb184 ∧ k_ ≠ g)) (okp := (fun k_ => (w.heap.size ≤ k_) ∧ k_ ≠ gb184 ∧ k_ ≠ g)) ?hr ?hp (fun _ hk => hk) ((show ∀ k_, w22.heap.size ≤ k_ → (fun k_ => (w.heap.size ≤ k_) ∧ k_ ≠ gb184 ∧ k_ ≠ g) k_ from fun k_ hk => ⟨(Nat.le_trans (keep_size (w := w) (g := g) (row := none) (kB1 HK.out GW184.out)) hk), Kd.freshB (g := gb184) (o := .cells #[.int .i64 a1_0, .int .i64 a1_1, .int .i64 a1_2] 58 (0, 0)) (kA BK184.out) k_ hk, IsS65.fresh (iS1 HI0.out NB0_184.out) k_ hk⟩) _ (Nat.le_refl _)) (Below.refl _ _) (Nat.le_refl _) (by simp) ?_; (case hd => rfl); (case hg => rfl); (case hr => first | (go_simp; done) | (go_simp; rfl)); (case hp => exact (Reps.c6 (show Kd.FK k62 _ _ (⟨1, 0, y189, (⟨a1_0, (⟨0, (-1)⟩ : S56)⟩ : S58)⟩ : S62) [.int .i64 1, .int .i64 0, .slice Ao24 y189.length co24, .int .i64 a1_0, .int .i64 0, .int .i64 (-1)] from (k62_mkF _ _ (⟨1, 0, y189, (⟨a1_0, (⟨0, (-1)⟩ : S56)⟩ : S58)⟩ : S62) (Kd.R_reads' (Kd.R_mono (ok' := (fun k_ => (w.heap.size ≤ k_) ∧ k_ ≠ gb184 ∧ k_ ≠ g)) (IsS65.apart HI0.out (Kd.R_types (HO191.out) BK184.out (by decide)) (by decide)) (fun k_ hk => ⟨hk.1.1.1, ⟨hk.1.2, hk.2⟩⟩))).2.1 (Kd.R_F (Kd.R_mono (ok' := (fun k_ => (w.heap.size ≤ k_) ∧ k_ ≠ gb184 ∧ k_ ≠ g)) (IsS65.apart HI0.out (Kd.R_types (HO191.out) BK184.out (by decide)) (by decide)) (fun k_ hk => ⟨hk.1.1.1, ⟨hk.1.2, hk.2⟩⟩))))) (Reps.none _ _)))
      intro v193 w25 ho26 hb hg_ hnew_
      clear hg_ hnew_
      (first | rw [← Ny192.out] at ho26 | (simp only [Int.reduceToNat] at ho26; rw [← Ny192.out] at ho26))
      have n0_ := am (Kd.N_lower ho26 (keep_size (w := w) (g := g) (row := none) (kB1 HK.out GW184.out)))
      have n1_ := am (IsS65.below (iS1 HI0.out NB0_184.out) hb)
      have n2_ := am (blk_below (g := gb184) (o := .cells #[.int .i64 a1_0, .int .i64 a1_1, .int .i64 a1_2] 58 (0, 0)) (kA BK184.out) hb)
      have n3_ := am (KeepBut.trans (kB1 HK.out GW184.out) (KeepBut.of_below hb g none) (.inl rfl))
      have n4_ := am (below_step (bA2 HB.out (IsS65.ge HI0.out) GE184.out) hb)
      clear HI0
      clear BK184
      clear HK
      clear HB
      clear HO191
      have HO194 := n0_
      have HI0 := n1_
      have BK184 := n2_
      have HK := n3_
      have HB := n4_
      clear n0_ n1_ n2_ n3_ n4_
      clear hb ho26
      refine hK.out _ _ ⟨(blk_cell BK184.out 0).trans rfl, (blk_cell BK184.out 1).trans rfl, (blk_cell BK184.out 2).trans rfl⟩ (fun hHeld => ?_)
      clear hK K
      refine norm_ (a' := ?_) ?_ ?_
      rotate_left
      ·show Act.put _ (some 16) _ = _
       simp only [Act.put, List.setIfInBounds_toArray, List.set_cons_zero, List.set_cons_succ, i64_w, i32_w]
       rfl
      refine one_ (i := 3) (N := some 9) (bs 13 2047) rfl rfl (one_of HT_.out (by kernel_rfl)) (by decide) (fun K hK => ?_)
      refine goes_ Tryd.func56 (by kernel_rfl) rfl #[.pointer (some ⟨g, 0, none⟩), .int .i64 a1_0] (by rfl) rfl rfl (by (try simp only [List.map_toArray, List.map_cons, List.map_nil]); first | done | rfl | (simp only [List.length_drop, List.length_take]; rfl)) ?_
      with_reducible refine (stacktext_encoder_runs.calls k g s0_0 s0_1 a1_0 t185 t188 w0 _ ?side1 ?side2 A3.out).mono ?_
      (case side1 => repeat (first | (with_reducible first | exact HI0.out | apply IsS65.alloc | apply IsS65.drewN | apply IsS65.drew | apply IsS65.set_1 | refine IsS65.far ?_ NB0_184.out _) | exact HI0.out))
      (case side2 => repeat (first | (with_reducible first | exact HB.out | apply below_alloc | apply pw_below_drewN | apply below_drew1 | refine below_set ?_ (IsS65.ge HI0.out) | refine below_set ?_ GE184.out) | exact HB.out))
      rintro e w27 ⟨v186, rfl, ho0, hi, hb, hk⟩
      refine ⟨_, rfl, ?_⟩
      have n0_ := am (KeepBut.blk hk (g' := gb184) (o := .cells #[.int .i64 a1_0, .int .i64 a1_1, .int .i64 a1_2] 58 (0, 0)) (kA BK184.out) NB184_0.out (by simp))
      have n1_ := am (Kd.N_mono (Kd.N_told (Kd.N_oldK (Kd.N_mono (ok := fun k_ => (((w.heap.size ≤ k_)) ∧ (k_ ≠ gb184 ∧ k_ ≠ g))) (nA HO194.out) (fun k_ hk_ => (⟨hk_, hk_.2.2⟩ : _ ∧ k_ ≠ g))) hk) (Kd.N_base (Kd.S_N ho0))) (fun _ h_ => h_.1))
      have n2_ := am (Kd.N_lower (Kd.N_mono (ok' := fun k_ => (w.heap.size ≤ k_) ∧ some k_ ≠ (v193 : Value).ownBlock ∧ k_ ≠ gb184 ∧ k_ ≠ g) (Kd.S_N (Kd.S_bound ho0)) (fun k_ hk_ => ⟨(Nat.le_trans (keep_size (w := w) (g := g) (row := none) (kB1 HK.out GW184.out)) hk_.2.1), (Kd.fresh' (Kd.N_lt (nA HO194.out)) k_ hk_.2.1), (Kd.freshB (g := gb184) (o := .cells #[.int .i64 a1_0, .int .i64 a1_1, .int .i64 a1_2] 58 (0, 0)) (kA BK184.out) k_ hk_.2.1), (IsS65.fresh (iS1 HI0.out NB0_184.out) k_ hk_.2.1)⟩)) (keep_size (w := w) (g := g) (row := none) (kB1 HK.out GW184.out)))
      have n3_ := am (KeepBut.trans (kB1 HK.out GW184.out) hk (.inl rfl))
      have n4_ := am (hb)
      have n5_ := am (hi)
      clear BK184
      clear HO194
      clear HK
      clear HB
      clear HI0
      have BK184 := n0_
      have HO194 := n1_
      have HO187 := n2_
      have HK := n3_
      have HB := n4_
      have HI0 := n5_
      clear n0_ n1_ n2_ n3_ n4_ n5_
      (try clear hb)
      (try clear hb2)
      (try clear hk)
      (try clear hi)
      (try clear ho0)
      refine hK.out _ _ ⟨(blk_cell BK184.out 0).trans rfl, (blk_cell BK184.out 1).trans rfl, (blk_cell BK184.out 2).trans rfl⟩ (fun hHeld => ?_)
      clear hK K
      refine norm_ (a' := ?_) ?_ ?_
      rotate_left
      ·show Act.put _ (some 9) _ = _
       simp only [Act.put, List.setIfInBounds_toArray, List.set_cons_zero, List.set_cons_succ, i64_w, i32_w]
       rfl
      exact norm_ (by simp only [putAll, Act.put, List.setIfInBounds_toArray, List.set_cons_zero, List.set_cons_succ]) (hCont (v186, .slice Ao24 y189.length co24, v193) _ ⟨hHeld, (by (with_reducible repeat (first | apply Kd.N_alloc | apply Kd.N_drewN | apply Kd.N_drew)); exact Kd.N_mono HO187.out (fun _ hk => ⟨hk.1, ⟨hk.2.1, ⟨hk.2.2.2, hk.2.2.1⟩⟩⟩)), (by (with_reducible repeat (first | apply Kd.N_alloc | apply Kd.N_drewN | apply Kd.N_drew)); exact Kd.N_mono HO194.out (fun _ hk => ⟨hk.1.1, ⟨hk.2, ⟨hk.1.2.2, hk.1.2.1⟩⟩⟩)), (kA BK184.out), (iS1 HI0.out NB0_184.out), (kB1 HK.out GW184.out), (bA2 HB.out (IsS65.ge HI0.out) GE184.out)⟩)
   rintro ⟨v186, v190, v193⟩ w28 ⟨hS_, h0_, h1_, h2_, h3_, h4_, h5_⟩
   have n0_ : Aside0 (Kd.N k62 62 w28 w.heap.size (fun k_ => (w.heap.size ≤ k_) ∧ some k_ ≠ (v193 : Value).ownBlock ∧ k_ ≠ g ∧ k_ ≠ gb184) v186 t185) := ⟨h0_⟩
   have n1_ : Aside0 (Kd.N k62 62 w28 w.heap.size (fun k_ => (w.heap.size ≤ k_) ∧ some k_ ≠ (v186 : Value).ownBlock ∧ k_ ≠ g ∧ k_ ≠ gb184) v193 y192) := ⟨h1_⟩
   have n2_ : Aside0 (w28.heap[gb184]? = some (.cells #[.int .i64 a1_0, .int .i64 a1_1, .int .i64 a1_2] 58 (0, 0))) := ⟨h2_⟩
   have n3_ : Aside0 (IsS65 w0 w28 g s0_0 t188) := ⟨h3_⟩
   have n4_ : Aside0 (KeepBut w w28 g none) := ⟨h4_⟩
   have n5_ : Aside0 (Below w0.heap.size w0 w28) := ⟨h5_⟩
   clear BK184
   clear HI0
   clear HK
   clear HB
   clear h0_ h1_ h2_ h3_ h4_ h5_
   have HO187 := n0_
   have HO194 := n1_
   have BK184 := n2_
   have HI0 := n3_
   have HK := n4_
   have HB := n5_
   clear n0_ n1_ n2_ n3_ n4_ n5_
   have hHeld : w28.cell? ⟨gb184, 0, none⟩ = some (.int .i64 a1_0) ∧ w28.cell? ⟨gb184, 1, none⟩ = some (.int .i64 a1_1) ∧ w28.cell? ⟨gb184, 2, none⟩ = some (.int .i64 a1_2) := hS_
   obtain ⟨Ao30, co30, eo30⟩ := Kd.N_slice HO194.out
   (first | subst eo30 | (injection eo30 with f1_ f2_ f3_; have f4_ := f1_.symm; have f5_ := f3_.symm; clear f1_ f2_ f3_; subst f4_; subst f5_))
   refine norm_ (a' := ?_) ?_ ?_
   rotate_left
   ·simp only [putAll, Act.put, List.setIfInBounds_toArray, List.set_cons_zero, List.set_cons_succ]
    rfl
   refine one_ (i := 11) (N := some 17) (bs 13 4095) rfl rfl (one_of HT_.out (by kernel_rfl)) (by decide) (fun K hK => ?_)
   refine Kd.N_append_rows_step k62 w.heap.size (by rfl) (.tmp 9) (.tmp 16) 59 62 (.agg #[(.int .i64 0), (.int .i64 0), (.slice none 0 0), (.int .i64 0), (.int .i64 0), (.int .i64 0)]) 64 rfl Tryd.underlying59 info62 rfl (by decide) (by omega) v186 t185 y192 _ _ _ (fun k_ => (w.heap.size ≤ k_) ∧ k_ ≠ gb184 ∧ k_ ≠ g) (fun k_ => ((fun k_ => (w.heap.size ≤ k_) ∧ k_ ≠ gb184 ∧ k_ ≠ g)) k_ ∧ some k_ ≠ (v186 : Value).ownBlock) rfl rfl ?aO ?aR (fun _ hk => hk) ?aF (Below.refl _ _) ?aS ?aL ?_
   (case aR => exact (by skip; exact Kd.N_F (Kd.N_mono (ok' := (fun k_ => ((fun k_ => (w.heap.size ≤ k_) ∧ k_ ≠ gb184 ∧ k_ ≠ g)) k_ ∧ some k_ ≠ (v186 : Value).ownBlock)) (HO194.out) (fun k_ hk => ⟨⟨hk.1, ⟨hk.2.2.2, hk.2.2.1⟩⟩, hk.2.1⟩))))
   (case aF => exact (fun k_ hk => ⟨(Nat.le_trans (keep_size (w := w) (g := g) (row := none) (kB1 HK.out GW184.out)) hk), Kd.freshB (g := gb184) (o := .cells #[.int .i64 a1_0, .int .i64 a1_1, .int .i64 a1_2] 58 (0, 0)) (kA BK184.out) k_ hk, IsS65.fresh (iS1 HI0.out NB0_184.out) k_ hk⟩))
   (case aO => exact (by (with_reducible repeat (first | apply Kd.N_alloc | apply Kd.N_drewN | apply Kd.N_drew)); exact Kd.N_mono HO187.out (fun _ hk => ⟨hk.1, ⟨hk.2.2.2, hk.2.2.1⟩⟩)))
   (case aS => exact (keep_size (w := w) (g := g) (row := none) (kB1 HK.out GW184.out)))
   (case aL => have := LMc4.out; omega)
   intro v196 w29 ho hb hg hat
   rw [← Ny195.out] at ho
   have n0_ := am (IsS65.grown (iS1 HI0.out NB0_184.out) hg (IsS65.own_neN HI0.out HO187.out (by decide)))
   have n1_ := am (blk_grown (g := gb184) (o := .cells #[.int .i64 a1_0, .int .i64 a1_1, .int .i64 a1_2] 58 (0, 0)) (kA BK184.out) hg (Kd.N_ne HO187.out BK184.out (by decide)))
   have n2_ := am (Kd.N_afterv (ok := (fun k_ => (w.heap.size ≤ k_) ∧ k_ ≠ g ∧ k_ ≠ gb184)) (by (with_reducible repeat (first | apply Kd.N_alloc | apply Kd.N_drewN | apply Kd.N_drew)); exact Kd.N_mono HO194.out (fun _ hk => ⟨⟨hk.1, ⟨hk.2.2.1, hk.2.2.2⟩⟩, hk.2.1⟩)) hg hat)
   have n3_ := am (below_weaken (bA2 HB.out (IsS65.ge HI0.out) GE184.out) HL.out hb)
   have n4_ := am (KeepBut.trans (kB1 HK.out GW184.out) (KeepBut.of_grown hg g) (Kd.N_base2 HO187.out))
   have n5_ := am (ho)
   clear HI0
   clear BK184
   clear HO194
   clear HB
   clear HK
   clear HO187
   have HI0 := n0_
   have BK184 := n1_
   have HO194 := n2_
   have HB := n3_
   have HK := n4_
   have HO197 := n5_
   clear n0_ n1_ n2_ n3_ n4_ n5_
   clear ho hb hg hat
   refine hK.out _ _ ⟨(blk_cell BK184.out 0).trans rfl, (blk_cell BK184.out 1).trans rfl, (blk_cell BK184.out 2).trans rfl⟩ (fun hHeld => ?_)
   clear hK K
   refine norm_ (a' := ?_) ?_ ?_
   rotate_left
   ·show Act.put _ (some 17) _ = _
    simp only [Act.put, List.setIfInBounds_toArray, List.set_cons_zero, List.set_cons_succ, i64_w, i32_w]
    rfl
   refine pS 12 (some 5) (bs 13 8191) (h := ?_)
   refine done_ (done_of HT_.out (by kernel_rfl)) ?_
   have hnb31 := NB184_0.out
   have hnc31 := NB0_184.out
   have hcz32_0 : w29.cell? ⟨gb184, 0, none⟩ = some (.int .i64 a1_0) := (blk_cell BK184.out 0).trans rfl
   have hcz32_1 : w29.cell? ⟨gb184, 1, none⟩ = some (.int .i64 a1_1) := (blk_cell BK184.out 1).trans rfl
   have hcz32_2 : w29.cell? ⟨gb184, 2, none⟩ = some (.int .i64 a1_2) := (blk_cell BK184.out 2).trans rfl
   have hfz32_0 := blk_frozen BK184.out 0
   have hfz32_1 := blk_frozen BK184.out 1
   have hfz32_2 := blk_frozen BK184.out 2
   try go_wp2
   have n0_ := am (Kd.N_drew HO194.out)
   have n1_ := am (Kd.N_drew HO197.out)
   have n2_ := am (blk_drew BK184.out)
   have n3_ := am (IsS65.drew HI0.out)
   have n4_ := am (keep_drew HK.out)
   have n5_ := am (below_drew1 HB.out)
   clear HO194
   clear HO197
   clear BK184
   clear HI0
   clear HK
   clear HB
   have HO194 := n0_
   have HO197 := n1_
   have BK184 := n2_
   have HI0 := n3_
   have HK := n4_
   have HB := n5_
   clear n0_ n1_ n2_ n3_ n4_ n5_
   obtain ⟨ASz34_0, cSz34_0, HGz34, hgz34, HSz34_0⟩ := HI0.out
   have hcz34_0 := cellS65_0 HGz34
   have hcz34_1 := cellS65_1 HGz34
   have hfz34_1 := blk_frozen HGz34 1
   clear HGz34 hgz34
   refine start_ (n := 8) (S := fun w' => w'.cell? ⟨gb184, 0, none⟩ = some (.int .i64 a1_0) ∧ w'.cell? ⟨gb184, 1, none⟩ = some (.int .i64 a1_1) ∧ w'.cell? ⟨gb184, 2, none⟩ = some (.int .i64 a1_2) ∧ w'.cell? ⟨g, 0, none⟩ = some (.slice ASz34_0 s0_0.length (s0_0.length + cSz34_0)) ∧ w'.cell? ⟨g, 1, none⟩ = some (.map t188)) (ds := []) (bs 8 0) (by kernel_rfl) rfl rfl ⟨(blk_cell BK184.out 0).trans rfl, (blk_cell BK184.out 1).trans rfl, (blk_cell BK184.out 2).trans rfl, hcz34_0, hcz34_1⟩ (fun hHeld => ?_); refine with_tabW stacktext_encoder_steps.tab4 stacktext_encoder_steps.bits4 (fun HT_ HW_ => ?_)
   generalize w29.drew = w33 at HO194 HO197 BK184 HI0 HK HB hHeld ⊢
   refine pS 0 (some 23) (bs 8 1) (h := ?_)
   refine pS 2 (some 25) (bs 8 5) (h := ?_)
   refine pS 3 (some 26) (bs 8 13) (h := ?_)
   refine pS 4 (some 27) (bs 8 29) (h := ?_)
   refine tS 1 (some 24) (bs 8 31) hHeld (h := ?_)
   refine tS 5 (some 28) (bs 8 63) hHeld (h := ?_)
   refine pS 6 (some 29) (bs 8 127) (h := ?_)
   refine pS 7 (some 30) (bs 8 255) (h := ?_)
   refine done_ (done_of HT_.out (by kernel_rfl)) ?_
   go_upto_if 30 with (fail)
   go_cut [5] (fun v5 wc => ∃ (kq : Nat) (x5_18 : List (S62)), Aside0 (stacktext_encoder_steps.j0 kq x5_18 s0_0 t188 a1_0 a1_1 a1_2 = some (r1, r2)) ∧ Aside0 (kq ≤ k) ∧ Aside0 (Kd.N k62 62 wc w.heap.size (fun k_ => (w.heap.size ≤ k_) ∧ k_ ≠ gb184 ∧ k_ ≠ g) v5 x5_18) ∧ Aside0 (wc.heap[gb184]? = some (.cells #[.int .i64 a1_0, .int .i64 a1_1, .int .i64 a1_2] 58 (0, 0))) ∧ Aside0 (IsS65 w0 wc g s0_0 t188) ∧ Aside0 (KeepBut w wc g none) ∧ Aside0 (Below w0.heap.size w0 wc))
   case first =>
    have H := HC19.out
    clear HC19
    by_cases c35 : a1_0 < (s0_0.length : Int)
    ·rw [if_pos c35] at H
     have c35b0 : decide (a1_0 < (s0_0.length : Int)) = true := decide_eq_true c35
     clear c35
     (first | rw [c35b0] | (simp only [i64_w, i32_w]; rw [c35b0]) | skip)
     by_cases c36 : 0 ≤ a1_0
     ·rw [if_pos c36] at H
      have c36b0 : decide (0 ≤ a1_0) = true := decide_eq_true c36
      clear c36
      obtain ⟨y199, hy199⟩ : ∃ y_ : List Int, y_ = (([913, wrap64 (rd s0_0 a1_0)] : List Int)) := ⟨_, rfl⟩
      replace H : ((some (([(⟨2, 0, y199, (⟨wrap64 (a1_0 + 1), (⟨a1_1, (-1)⟩ : S56)⟩ : S58)⟩ : S62)] : List (S62)) : List (S62))).bind fun y202 => (if y195.length + y202.length < 2199023255552 then (stacktext_encoder_steps.j0 k (y195 ++ y202) s0_0 t188 a1_0 a1_1 a1_2) else (none))) = some (r1, r2) := by first | (rw [hy199]; with_reducible exact H) | (have H2_ := (Option.bind_some _ _).symm.trans H; rw [hy199]; with_reducible exact H2_) | (have H2_ := (Option.bind_some _ _).symm.trans H; with_reducible exact H2_) | with_reducible exact H | (rw [hy199]; exact H) | exact H
      have Ny199 := am hy199
      clear hy199
      obtain ⟨y202, hy202⟩ : ∃ y_ : List (S62), y_ = (([(⟨2, 0, y199, (⟨wrap64 (a1_0 + 1), (⟨a1_1, (-1)⟩ : S56)⟩ : S58)⟩ : S62)] : List (S62))) := ⟨_, rfl⟩
      replace H : (if y195.length + y202.length < 2199023255552 then (stacktext_encoder_steps.j0 k (y195 ++ y202) s0_0 t188 a1_0 a1_1 a1_2) else (none)) = some (r1, r2) := by first | (rw [hy202]; with_reducible exact H) | (have H2_ := (Option.bind_some _ _).symm.trans H; rw [hy202]; with_reducible exact H2_) | (have H2_ := (Option.bind_some _ _).symm.trans H; with_reducible exact H2_) | with_reducible exact H | (rw [hy202]; exact H) | exact H
      have Ny202 := am hy202
      clear hy202
      by_cases c37 : y195.length + y202.length < 2199023255552
      ·rw [if_pos c37] at H
       have LMc37 := am c37
       clear c37
       obtain ⟨y205, hy205⟩ : ∃ y_ : List (S62), y_ = (y195 ++ y202) := ⟨_, rfl⟩
       replace H : (stacktext_encoder_steps.j0 k y205 s0_0 t188 a1_0 a1_1 a1_2) = some (r1, r2) := by first | (rw [hy205]; with_reducible exact H) | (have H2_ := (Option.bind_some _ _).symm.trans H; rw [hy205]; with_reducible exact H2_) | (have H2_ := (Option.bind_some _ _).symm.trans H; with_reducible exact H2_) | with_reducible exact H | (rw [hy205]; exact H) | exact H
       have Ny205 := am hy205
       clear hy205
       have H' := am H
       clear H
       try go_wp2
       have n0_ := am (Kd.N_drew HO194.out)
       have n1_ := am (Kd.N_drew HO197.out)
       have n2_ := am (blk_drew BK184.out)
       have n3_ := am (IsS65.drew HI0.out)
       have n4_ := am (keep_drew HK.out)
       have n5_ := am (below_drew1 HB.out)
       clear HO194
       clear HO197
       clear BK184
       clear HI0
       clear HK
       clear HB
       have HO194 := n0_
       have HO197 := n1_
       have BK184 := n2_
       have HI0 := n3_
       have HK := n4_
       have HB := n5_
       clear n0_ n1_ n2_ n3_ n4_ n5_
       obtain ⟨ASz39_0, cSz39_0, HGz39, hgz39, HSz39_0⟩ := HI0.out
       have hcz39_0 := cellS65_0 HGz39
       have hcz39_1 := cellS65_1 HGz39
       have hfz39_1 := blk_frozen HGz39 1
       clear HGz39 hgz39
       have p198 : 0 ≤ (a1_0 : Int) := of_decide_eq_true (by first | (with_reducible assumption) | assumption)
       have q198 : a1_0 < (s0_0.length : Int) := of_decide_eq_true (by first | (with_reducible assumption) | assumption)
       obtain ⟨ad198, e198, hx198_0⟩ := Kd.at_int HSz39_0 a1_0 p198 q198
       have hw198_0 := hx198_0
       cases e198
       replace hx198_0 := pw_cell_below HB.out hx198_0
       replace p198 := eq_true p198
       replace q198 := eq_true q198
       refine start_ (n := 23) (S := fun w' => w'.cell? ⟨gb184, 0, none⟩ = some (.int .i64 a1_0) ∧ w'.cell? ⟨gb184, 1, none⟩ = some (.int .i64 a1_1) ∧ w'.cell? ⟨gb184, 2, none⟩ = some (.int .i64 a1_2) ∧ w'.cell? ⟨g, 0, none⟩ = some (.slice (some ad198) s0_0.length (s0_0.length + cSz39_0)) ∧ w'.cell? ⟨g, 1, none⟩ = some (.map t188) ∧ w'.cell? (ad198.add (a1_0).toNat) = some (.int .u8 (rd s0_0 a1_0))) (ds := [21]) (bs 23 0) (by kernel_rfl) rfl rfl ⟨(blk_cell BK184.out 0).trans rfl, (blk_cell BK184.out 1).trans rfl, (blk_cell BK184.out 2).trans rfl, hcz39_0, hcz39_1, ((HB.out.cell (World.block_lt_of_cell? _ _ hw198_0)).trans hw198_0)⟩ (fun hHeld => ?_); refine with_tabW stacktext_encoder_steps.tab5 stacktext_encoder_steps.bits5 (fun HT_ HW_ => ?_)
       generalize w33.drew = w38 at HO194 HO197 BK184 HI0 HK HB hx198_0 hHeld ⊢
       refine pS 0 (some 31) (bs 23 1) (h := ?_)
       refine pS 1 (some 32) (bs 23 3) (h := ?_)
       refine pS 2 (some 33) (bs 23 7) (h := ?_)
       refine pS 3 (some 34) (bs 23 15) (h := ?_)
       refine pS 5 (some 36) (bs 23 47) (h := ?_)
       refine pS 11 (some 42) (bs 23 2095) (h := ?_)
       refine pS 14 (some 45) (bs 23 18479) (h := ?_)
       refine pS 15 (some 46) (bs 23 51247) (h := ?_)
       refine tS 4 (some 35) (bs 23 51263) hHeld (h := ?_)
       refine tS 6 (some 37) (bs 23 51327) hHeld (h := ?_)
       refine pS 7 (some 38) (bs 23 51455) (h := ?_)
       refine tS 8 (some 39) (bs 23 51711) hHeld (h := ?_)
       refine pS 9 (some 40) (bs 23 52223) (h := ?_)
       refine tS 12 (some 43) (bs 23 56319) hHeld (h := ?_)
       refine pS 13 (some 44) (bs 23 64511) (h := ?_)
       refine tS 16 (some 47) (bs 23 130047) hHeld (h := ?_)
       refine pS 17 (some 48) (bs 23 261119) (h := ?_)
       refine pS 18 (some 49) (bs 23 523263) (h := ?_)
       refine one_ (i := 10) (N := some 41) (bs 23 524287) rfl rfl (one_of HT_.out (by kernel_rfl)) (by decide) (fun K hK => ?_)
       refine Kd.R_lit_step (Kd.int .i64) _ 3 ?hg (N := 41) ?hd (xs := ([913, wrap64 (rd s0_0 a1_0)] : List Int)) (inner := [.int .i64 913, .int .i64 (wrap64 (rd s0_0 a1_0))]) (ok := fun _ => True) (okp := fun _ => True) ?hr ?hp (fun _ hk => hk) trivial (Below.refl _ _) (Nat.le_refl _) (by simp) ?_; (case hd => rfl); (case hg => rfl); (case hr => first | (go_simp; done) | (go_simp; rfl)); (case hp => exact (Reps.one (show Kd.M (Kd.int .i64) _ _ _ 913 [.int .i64 913] from rfl) (Reps.one (show Kd.M (Kd.int .i64) _ _ _ (wrap64 (rd s0_0 a1_0)) [.int .i64 (wrap64 (rd s0_0 a1_0))] from rfl) (Reps.none _ _))))
       intro v200 w40 ho41 hb hg_ hnew_
       have HS3_ := (hb.cell (World.block_lt_of_cell? _ _ (hHeld.2.2.2.1))).trans (hHeld.2.2.2.1)
       have HS4_ := (hb.cell (World.block_lt_of_cell? _ _ (hHeld.2.2.2.2.1))).trans (hHeld.2.2.2.2.1)
       clear hg_ hnew_
       (first | rw [← Ny199.out] at ho41 | (simp only [Int.reduceToNat] at ho41; rw [← Ny199.out] at ho41))
       have n0_ := am (Kd.N_elder' (nA HO194.out) (Kd.R_base ho41) hb)
       have n1_ := am (Kd.N_elder' (nA HO197.out) (Kd.R_base ho41) hb)
       have n2_ := am (Kd.R_lower (Kd.R_newM (M := fun k_ => (w.heap.size ≤ k_)) ho41 (keep_size (w := w) (g := g) (row := none) (kB1 HK.out GW184.out)) (fun k_ h_ => h_)) (keep_size (w := w) (g := g) (row := none) (kB1 HK.out GW184.out)))
       have n3_ := am (IsS65.below (iS1 HI0.out NB0_184.out) hb)
       have n4_ := am (blk_below (g := gb184) (o := .cells #[.int .i64 a1_0, .int .i64 a1_1, .int .i64 a1_2] 58 (0, 0)) (kA BK184.out) hb)
       have n5_ := am (KeepBut.trans (kB1 HK.out GW184.out) (KeepBut.of_below hb g none) (.inl rfl))
       have n6_ := am (below_step (bA2 HB.out (IsS65.ge HI0.out) GE184.out) hb)
       clear HO194
       clear HO197
       clear HI0
       clear BK184
       clear HK
       clear HB
       have HO194 := n0_
       have HO197 := n1_
       have HO201 := n2_
       have HI0 := n3_
       have BK184 := n4_
       have HK := n5_
       have HB := n6_
       clear n0_ n1_ n2_ n3_ n4_ n5_ n6_
       clear hb ho41
       obtain ⟨Ao42, co42, eo42⟩ := Kd.R_slice HO201.out
       (first | subst eo42 | (injection eo42 with f1_ f2_ f3_; have f4_ := f1_.symm; have f5_ := f3_.symm; clear f1_ f2_ f3_; subst f4_; subst f5_))
       refine hK.out _ _ ⟨(blk_cell BK184.out 0).trans rfl, (blk_cell BK184.out 1).trans rfl, (blk_cell BK184.out 2).trans rfl, HS3_, HS4_, ((HB.out.cell (World.block_lt_of_cell? _ _ hw198_0)).trans hw198_0)⟩ (fun hHeld => ?_)
       clear hK K
       refine norm_ (a' := ?_) ?_ ?_
       rotate_left
       ·show Act.put _ (some 41) _ = _
        simp only [Act.put, List.setIfInBounds_toArray, List.set_cons_zero, List.set_cons_succ, i64_w, i32_w]
        rfl
       refine pS 19 (some 50) (bs 23 1048575) (h := ?_)
       refine one_ (i := 20) (N := some 51) (bs 23 2097151) rfl rfl (one_of HT_.out (by kernel_rfl)) (by decide) (fun K hK => ?_)
       refine Kd.N_lit_step k62 _ 62 ?hg (N' := 51) ?hd (xs := ([(⟨2, 0, y199, (⟨wrap64 (a1_0 + 1), (⟨a1_1, (-1)⟩ : S56)⟩ : S58)⟩ : S62)] : List (S62))) (inner := [.int .i64 2, .int .i64 0, .slice Ao42 y199.length co42, .int .i64 (wrap64 (a1_0 + 1)), .int .i64 a1_1, .int .i64 (-1)]) (ok := (fun k_ => (w.heap.size ≤ k_) ∧ some k_ ≠ (.slice Ao30 y192.length co30 : Value).ownBlock ∧ some k_ ≠ (v196 : Value).ownBlock ∧ k_ ≠ gb184 ∧ k_ ≠ g)) (okp := (fun k_ => (w.heap.size ≤ k_) ∧ some k_ ≠ (.slice Ao30 y192.length co30 : Value).ownBlock ∧ some k_ ≠ (v196 : Value).ownBlock ∧ k_ ≠ gb184 ∧ k_ ≠ g)) ?hr ?hp (fun _ hk => hk) ((show ∀ k_, w40.heap.size ≤ k_ → (fun k_ => (w.heap.size ≤ k_) ∧ some k_ ≠ (.slice Ao30 y192.length co30 : Value).ownBlock ∧ some k_ ≠ (v196 : Value).ownBlock ∧ k_ ≠ gb184 ∧ k_ ≠ g) k_ from fun k_ hk => ⟨(Nat.le_trans (keep_size (w := w) (g := g) (row := none) (kB1 HK.out GW184.out)) hk), Kd.fresh' (Kd.N_lt (nA HO194.out)) k_ hk, Kd.fresh' (Kd.N_lt (nA HO197.out)) k_ hk, Kd.freshB (g := gb184) (o := .cells #[.int .i64 a1_0, .int .i64 a1_1, .int .i64 a1_2] 58 (0, 0)) (kA BK184.out) k_ hk, IsS65.fresh (iS1 HI0.out NB0_184.out) k_ hk⟩) _ (Nat.le_refl _)) (Below.refl _ _) (Nat.le_refl _) (by simp) ?_; (case hd => rfl); (case hg => rfl); (case hr => first | (go_simp; done) | (go_simp; rfl)); (case hp => exact (Reps.c6 (show Kd.FK k62 _ _ (⟨2, 0, y199, (⟨wrap64 (a1_0 + 1), (⟨a1_1, (-1)⟩ : S56)⟩ : S58)⟩ : S62) [.int .i64 2, .int .i64 0, .slice Ao42 y199.length co42, .int .i64 (wrap64 (a1_0 + 1)), .int .i64 a1_1, .int .i64 (-1)] from (k62_mkF _ _ (⟨2, 0, y199, (⟨wrap64 (a1_0 + 1), (⟨a1_1, (-1)⟩ : S56)⟩ : S58)⟩ : S62) (Kd.R_reads' (Kd.R_mono (ok' := (fun k_ => (w.heap.size ≤ k_) ∧ some k_ ≠ (.slice Ao30 y192.length co30 : Value).ownBlock ∧ some k_ ≠ (v196 : Value).ownBlock ∧ k_ ≠ gb184 ∧ k_ ≠ g)) (IsS65.apart HI0.out (Kd.R_types (Kd.R_apart' (Kd.R_apart' (HO201.out) (Kd.N_typed HO194.out) (by decide)) (Kd.N_typed HO197.out) (by decide)) BK184.out (by decide)) (by decide)) (fun k_ hk => ⟨hk.1.1.1.1.1, ⟨hk.1.1.1.2, ⟨hk.1.1.2, ⟨hk.1.2, hk.2⟩⟩⟩⟩))).2.1 (Kd.R_F (Kd.R_mono (ok' := (fun k_ => (w.heap.size ≤ k_) ∧ some k_ ≠ (.slice Ao30 y192.length co30 : Value).ownBlock ∧ some k_ ≠ (v196 : Value).ownBlock ∧ k_ ≠ gb184 ∧ k_ ≠ g)) (IsS65.apart HI0.out (Kd.R_types (Kd.R_apart' (Kd.R_apart' (HO201.out) (Kd.N_typed HO194.out) (by decide)) (Kd.N_typed HO197.out) (by decide)) BK184.out (by decide)) (by decide)) (fun k_ hk => ⟨hk.1.1.1.1.1, ⟨hk.1.1.1.2, ⟨hk.1.1.2, ⟨hk.1.2, hk.2⟩⟩⟩⟩))))) (Reps.none _ _)))
       intro v203 w43 ho44 hb hg_ hnew_
       have HS3_ := (hb.cell (World.block_lt_of_cell? _ _ (hHeld.2.2.2.1))).trans (hHeld.2.2.2.1)
       have HS4_ := (hb.cell (World.block_lt_of_cell? _ _ (hHeld.2.2.2.2.1))).trans (hHeld.2.2.2.2.1)
       clear hg_ hnew_
       (first | rw [← Ny202.out] at ho44 | (simp only [Int.reduceToNat] at ho44; rw [← Ny202.out] at ho44))
       have n0_ := am (Kd.N_elder' (nA HO194.out) (Kd.N_base ho44) hb)
       have n1_ := am (Kd.N_elder' (nA HO197.out) (Kd.N_base ho44) hb)
       have n2_ := am (Kd.N_lower ho44 (keep_size (w := w) (g := g) (row := none) (kB1 HK.out GW184.out)))
       have n3_ := am (IsS65.below (iS1 HI0.out NB0_184.out) hb)
       have n4_ := am (blk_below (g := gb184) (o := .cells #[.int .i64 a1_0, .int .i64 a1_1, .int .i64 a1_2] 58 (0, 0)) (kA BK184.out) hb)
       have n5_ := am (KeepBut.trans (kB1 HK.out GW184.out) (KeepBut.of_below hb g none) (.inl rfl))
       have n6_ := am (below_step (bA2 HB.out (IsS65.ge HI0.out) GE184.out) hb)
       clear HO194
       clear HO197
       clear HI0
       clear BK184
       clear HK
       clear HB
       clear HO201
       have HO194 := n0_
       have HO197 := n1_
       have HO204 := n2_
       have HI0 := n3_
       have BK184 := n4_
       have HK := n5_
       have HB := n6_
       clear n0_ n1_ n2_ n3_ n4_ n5_ n6_
       clear hb ho44
       obtain ⟨Ao46, co46, eo46⟩ := Kd.N_slice HO204.out
       (first | subst eo46 | (injection eo46 with f1_ f2_ f3_; have f4_ := f1_.symm; have f5_ := f3_.symm; clear f1_ f2_ f3_; subst f4_; subst f5_))
       refine hK.out _ _ ⟨(blk_cell BK184.out 0).trans rfl, (blk_cell BK184.out 1).trans rfl, (blk_cell BK184.out 2).trans rfl, HS3_, HS4_, ((HB.out.cell (World.block_lt_of_cell? _ _ hw198_0)).trans hw198_0)⟩ (fun hHeld => ?_)
       clear hK K
       refine norm_ (a' := ?_) ?_ ?_
       rotate_left
       ·show Act.put _ (some 51) _ = _
        simp only [Act.put, List.setIfInBounds_toArray, List.set_cons_zero, List.set_cons_succ, i64_w, i32_w]
        rfl
       refine last_ (i := 21) (N := some 52) (bs 23 4194303) rfl rfl (one_of HT_.out (by kernel_rfl)) (by decide) (fun K hK => ?_)
       refine Kd.N_append_rows_step k62 w.heap.size (by rfl) (.tmp 31) (.tmp 51) 59 62 (.agg #[(.int .i64 0), (.int .i64 0), (.slice none 0 0), (.int .i64 0), (.int .i64 0), (.int .i64 0)]) 64 rfl Tryd.underlying59 info62 rfl (by decide) (by omega) v196 y195 y202 _ _ _ (fun k_ => (w.heap.size ≤ k_) ∧ k_ ≠ gb184 ∧ k_ ≠ g) (fun k_ => ((fun k_ => (w.heap.size ≤ k_) ∧ k_ ≠ gb184 ∧ k_ ≠ g)) k_ ∧ some k_ ≠ (v196 : Value).ownBlock) rfl rfl ?aO ?aR (fun _ hk => hk) ?aF (Below.refl _ _) ?aS ?aL ?_
       (case aR => exact (by skip; exact Kd.N_F (Kd.N_mono (ok' := (fun k_ => ((fun k_ => (w.heap.size ≤ k_) ∧ k_ ≠ gb184 ∧ k_ ≠ g)) k_ ∧ some k_ ≠ (v196 : Value).ownBlock)) (HO204.out) (fun k_ hk => ⟨⟨hk.1, ⟨hk.2.2.2.1, hk.2.2.2.2⟩⟩, hk.2.2.1⟩))))
       (case aF => exact (fun k_ hk => ⟨(Nat.le_trans (keep_size (w := w) (g := g) (row := none) (kB1 HK.out GW184.out)) hk), Kd.freshB (g := gb184) (o := .cells #[.int .i64 a1_0, .int .i64 a1_1, .int .i64 a1_2] 58 (0, 0)) (kA BK184.out) k_ hk, IsS65.fresh (iS1 HI0.out NB0_184.out) k_ hk⟩))
       (case aO => exact (by (with_reducible repeat (first | apply Kd.N_alloc | apply Kd.N_drewN | apply Kd.N_drew)); exact Kd.N_mono HO197.out (fun _ hk => ⟨hk.1.1.1, ⟨hk.1.1.2.1, hk.1.1.2.2⟩⟩)))
       (case aS => exact (keep_size (w := w) (g := g) (row := none) (kB1 HK.out GW184.out)))
       (case aL => have := LMc37.out; omega)
       intro v206 w45 ho hb hg hat
       rw [← Ny205.out] at ho
       have n0_ := am (IsS65.grown (iS1 HI0.out NB0_184.out) hg (IsS65.own_neN HI0.out HO197.out (by decide)))
       have n1_ := am (blk_grown (g := gb184) (o := .cells #[.int .i64 a1_0, .int .i64 a1_1, .int .i64 a1_2] 58 (0, 0)) (kA BK184.out) hg (Kd.N_ne HO197.out BK184.out (by decide)))
       have n2_ := am (Kd.N_afterv (ok := (fun k_ => (w.heap.size ≤ k_) ∧ some k_ ≠ (.slice Ao46 y202.length co46 : Value).ownBlock ∧ k_ ≠ g ∧ k_ ≠ gb184)) (by (with_reducible repeat (first | apply Kd.N_alloc | apply Kd.N_drewN | apply Kd.N_drew)); exact Kd.N_mono HO194.out (fun _ hk => ⟨⟨hk.1.1.1.1, ⟨hk.2, ⟨hk.1.1.1.2.1, hk.1.1.1.2.2⟩⟩⟩, hk.1.1.2⟩)) hg hat)
       have n3_ := am (Kd.N_afterv (ok := (fun k_ => (w.heap.size ≤ k_) ∧ some k_ ≠ (.slice Ao30 y192.length co30 : Value).ownBlock ∧ k_ ≠ gb184 ∧ k_ ≠ g)) (by (with_reducible repeat (first | apply Kd.N_alloc | apply Kd.N_drewN | apply Kd.N_drew)); exact Kd.N_mono HO204.out (fun _ hk => ⟨⟨hk.1, ⟨hk.2.1, ⟨hk.2.2.2.1, hk.2.2.2.2⟩⟩⟩, hk.2.2.1⟩)) hg hat)
       have n4_ := am (below_weaken (bA2 HB.out (IsS65.ge HI0.out) GE184.out) HL.out hb)
       have n5_ := am (KeepBut.trans (kB1 HK.out GW184.out) (KeepBut.of_grown hg g) (Kd.N_base2 HO197.out))
       have n6_ := am (ho)
       clear HI0
       clear BK184
       clear HO194
       clear HO204
       clear HB
       clear HK
       clear HO197
       have HI0 := n0_
       have BK184 := n1_
       have HO194 := n2_
       have HO204 := n3_
       have HB := n4_
       have HK := n5_
       have HO207 := n6_
       clear n0_ n1_ n2_ n3_ n4_ n5_ n6_
       clear ho hb hg hat
       refine hK.out _ _ ?_
       clear hK K
       refine norm_ (a' := ?_) ?_ ?_
       rotate_left
       ·show Act.put _ (some 52) _ = _
        simp only [Act.put, List.setIfInBounds_toArray, List.set_cons_zero, List.set_cons_succ, i64_w, i32_w]
        rfl
       refine pS 22 (some 5) (bs 23 8388607) (h := ?_)
       refine done_ (done_of HT_.out (by kernel_rfl)) ?_
       try go_wp2
       go_meet
       case rel => exact ⟨_, (y205), H', ⟨by first | omega | exact Nat.le_refl _⟩, ⟨by (with_reducible repeat (first | apply Kd.N_alloc | apply Kd.N_drewN | apply Kd.N_drew)); exact HO207.out⟩, ⟨by (with_reducible repeat (first | refine blk_drewN ?_ _ | refine blk_drew ?_ | refine blk_alloc ?_ _)); exact BK184.out⟩, ⟨by repeat (first | (with_reducible first | exact HI0.out | apply IsS65.alloc | apply IsS65.drewN | apply IsS65.drew | apply IsS65.set_1 | refine IsS65.far ?_ NB0_184.out _) | exact HI0.out)⟩, ⟨by repeat (first | (with_reducible first | exact HK.out | apply KeepBut.set_ | apply keep_drewN | apply keep_drew | apply keep_alloc | refine keep_far ?_ GW184.out _) | exact HK.out)⟩, ⟨by repeat (first | (with_reducible first | exact HB.out | apply below_alloc | apply pw_below_drewN | apply below_drew1 | refine below_set ?_ (IsS65.ge HI0.out) | refine below_set ?_ GE184.out) | exact HB.out)⟩⟩
      ·rw [if_neg c37] at H
       exact absurd H (by simp)
     ·rw [if_neg c36] at H
      exact absurd H (by simp)
    ·rw [if_neg c35] at H
     have c35b0 : decide (a1_0 < (s0_0.length : Int)) = false := decide_eq_false c35
     clear c35
     (first | rw [c35b0] | (simp only [i64_w, i32_w]; rw [c35b0]) | skip)
     have H' := am H
     clear H
     go_wp2
     go_meet
     case rel => exact ⟨_, (y195), H', ⟨by first | omega | exact Nat.le_refl _⟩, ⟨by (with_reducible repeat (first | apply Kd.N_alloc | apply Kd.N_drewN | apply Kd.N_drew)); exact HO197.out⟩, ⟨by (with_reducible repeat (first | refine blk_drewN ?_ _ | refine blk_drew ?_ | refine blk_alloc ?_ _)); exact BK184.out⟩, ⟨by repeat (first | (with_reducible first | exact HI0.out | apply IsS65.alloc | apply IsS65.drewN | apply IsS65.drew | apply IsS65.set_1 | refine IsS65.far ?_ NB0_184.out _) | exact HI0.out)⟩, ⟨by repeat (first | (with_reducible first | exact HK.out | apply KeepBut.set_ | apply keep_drewN | apply keep_drew | apply keep_alloc | refine keep_far ?_ GW184.out _) | exact HK.out)⟩, ⟨by repeat (first | (with_reducible first | exact HB.out | apply below_alloc | apply pw_below_drewN | apply below_drew1 | refine below_set ?_ (IsS65.ge HI0.out) | refine below_set ?_ GE184.out) | exact HB.out)⟩⟩
   case rest =>
    clear HC19
    try clear p1
    try clear q1
    try clear hx1
    try clear p2
    try clear c3
    try clear c4
    try clear c5
    try clear c6
    try clear p6
    try clear p19
    try clear q19
    try clear hx19
    try clear c31
    try clear c35
    try clear c35b0
    try clear c36
    try clear c36b0
    try clear c37
    try clear hcz32_0
    try clear hcz32_1
    try clear hcz32_2
    try clear hcz34_0
    try clear hcz34_1
    try clear hcz39_0
    try clear hcz39_1
    try clear hfz32_0
    try clear hfz32_1
    try clear hfz32_2
    try clear hfz34_1
    try clear hfz39_1
    try clear hx198_0
    try clear p198
    try clear q198
    obtain ⟨kq, x5_18, HA, HJ18, HO_5, BK184, HI0, HK, HB⟩ := hcut
    cases kq with
    | zero => exact absurd HA.out (by simp [stacktext_encoder_steps.j0])
    | succ kj18 =>
     have H := HA.out
     clear HA
     simp only [stacktext_encoder_steps.j0] at H
     replace H := Option.bind_eq_some_iff.mp H
     obtain ⟨⟨t208, t211⟩, A470, H⟩ := H
     replace H : (if x5_18.length + t208.length < 2199023255552 then (some ((x5_18 ++ t208), t211)) else (none)) = some (r1, r2) := H
     have A47 := am A470
     clear A470
     by_cases c48 : x5_18.length + t208.length < 2199023255552
     ·rw [if_pos c48] at H
      have LMc48 := am c48
      clear c48
      obtain ⟨y212, hy212⟩ : ∃ y_ : List (S62), y_ = (x5_18 ++ t208) := ⟨_, rfl⟩
      replace H : (some (y212, t211)) = some (r1, r2) := by first | (rw [hy212]; with_reducible exact H) | (have H2_ := (Option.bind_some _ _).symm.trans H; rw [hy212]; with_reducible exact H2_) | (have H2_ := (Option.bind_some _ _).symm.trans H; with_reducible exact H2_) | with_reducible exact H | (rw [hy212]; exact H) | exact H
      have Ny212 := am hy212
      clear hy212
      simp only [Option.some.injEq, Prod.mk.injEq] at H
      obtain ⟨rfl, rfl⟩ := H
      have hnb49 := NB184_0.out
      have hnc49 := NB0_184.out
      have hcz50_0 : wc.cell? ⟨gb184, 0, none⟩ = some (.int .i64 a1_0) := (blk_cell BK184.out 0).trans rfl
      have hcz50_1 : wc.cell? ⟨gb184, 1, none⟩ = some (.int .i64 a1_1) := (blk_cell BK184.out 1).trans rfl
      have hcz50_2 : wc.cell? ⟨gb184, 2, none⟩ = some (.int .i64 a1_2) := (blk_cell BK184.out 2).trans rfl
      have hfz50_0 := blk_frozen BK184.out 0
      have hfz50_1 := blk_frozen BK184.out 1
      have hfz50_2 := blk_frozen BK184.out 2
      go_wp2_with (first | ((with_reducible refine gate_callee (f := 57) rfl ?_); refine gL (some 56) Tryd.func57 #[.pointer (some ⟨g, 0, none⟩), .agg #[.int .i64 a1_0, .int .i64 a1_1, .int .i64 a1_2]] (h := ?_); (with_reducible refine (stacktext_encoder_texts.calls kj18 g s0_0 t188 a1_0 a1_1 a1_2 t208 t211 w0 _ ?side1 ?side2 A47.out).mono ?_); (case side1 => repeat (first | (with_reducible first | exact HI0.out | apply IsS65.alloc | apply IsS65.drewN | apply IsS65.drew | apply IsS65.set_1 | refine IsS65.far ?_ NB0_184.out _) | exact HI0.out)); (case side2 => repeat (first | (with_reducible first | exact HB.out | apply below_alloc | apply pw_below_drewN | apply below_drew1 | refine below_set ?_ (IsS65.ge HI0.out) | refine below_set ?_ GE184.out) | exact HB.out)); rintro e w51 ⟨v209, rfl, ho0, hi, hb, hk⟩; refine ⟨_, rfl, ?_⟩; have n0_ := am (Kd.N_mono (Kd.N_told (Kd.N_oldK (Kd.N_mono (ok := fun k_ => (((w.heap.size ≤ k_)) ∧ (k_ ≠ gb184 ∧ k_ ≠ g))) (nA HO_5.out) (fun k_ hk_ => (⟨hk_, hk_.2.2⟩ : _ ∧ k_ ≠ g))) hk) (Kd.N_base (Kd.S_N ho0))) (fun _ h_ => h_.1)); have n1_ := am (KeepBut.blk hk (g' := gb184) (o := .cells #[.int .i64 a1_0, .int .i64 a1_1, .int .i64 a1_2] 58 (0, 0)) (kA BK184.out) NB184_0.out (by simp)); have n2_ := am (Kd.N_lower (Kd.N_mono (ok' := fun k_ => (w.heap.size ≤ k_) ∧ some k_ ≠ (u5 : Value).ownBlock ∧ k_ ≠ gb184 ∧ k_ ≠ g) (Kd.S_N (Kd.S_bound ho0)) (fun k_ hk_ => ⟨(Nat.le_trans (keep_size (w := w) (g := g) (row := none) (kB1 HK.out GW184.out)) hk_.2.1), (Kd.fresh' (Kd.N_lt (nA HO_5.out)) k_ hk_.2.1), (Kd.freshB (g := gb184) (o := .cells #[.int .i64 a1_0, .int .i64 a1_1, .int .i64 a1_2] 58 (0, 0)) (kA BK184.out) k_ hk_.2.1), (IsS65.fresh (iS1 HI0.out NB0_184.out) k_ hk_.2.1)⟩)) (keep_size (w := w) (g := g) (row := none) (kB1 HK.out GW184.out))); have n3_ := am (KeepBut.trans (kB1 HK.out GW184.out) hk (.inl rfl)); have n4_ := am (hb); have n5_ := am (hi); clear HO_5; clear BK184; clear HK; clear HB; clear HI0; have HO_5 := n0_; have BK184 := n1_; have HO210 := n2_; have HK := n3_; have HB := n4_; have HI0 := n5_; clear n0_ n1_ n2_ n3_ n4_ n5_; (try clear hb); (try clear hb2); (try clear hk); (try clear hi); (try clear ho0); obtain ⟨Ao53, co53, eo53⟩ := Kd.N_slice HO210.out; subst eo53) | ((with_reducible refine gate_builtin (b := .append) (xs := #[.tmp 53, .tmp 56]) rfl ?_); at_builtin; refine Kd.N_append_rows k62 w.heap.size rfl (.tmp 53) (.tmp 56) 59 62 (.agg #[(.int .i64 0), (.int .i64 0), (.slice none 0 0), (.int .i64 0), (.int .i64 0), (.int .i64 0)]) 64 rfl Tryd.underlying59 info62 rfl (by decide) (by omega) u5 x5_18 t208 _ _ _ (fun k_ => (w.heap.size ≤ k_) ∧ k_ ≠ gb184 ∧ k_ ≠ g) (fun k_ => ((fun k_ => (w.heap.size ≤ k_) ∧ k_ ≠ gb184 ∧ k_ ≠ g)) k_ ∧ some k_ ≠ (u5 : Value).ownBlock) rfl rfl ?aO ?aR (fun _ hk => hk) ?aF (Below.refl _ _) ?aS ?aL ?_; (case aR => exact (by skip; exact Kd.N_F (Kd.N_mono (ok' := (fun k_ => ((fun k_ => (w.heap.size ≤ k_) ∧ k_ ≠ gb184 ∧ k_ ≠ g)) k_ ∧ some k_ ≠ (u5 : Value).ownBlock)) (HO210.out) (fun k_ hk => ⟨⟨hk.1, ⟨hk.2.2.1, hk.2.2.2⟩⟩, hk.2.1⟩)))); (case aF => exact (fun k_ hk => ⟨(Nat.le_trans (keep_size (w := w) (g := g) (row := none) (kB1 HK.out GW184.out)) hk), Kd.freshB (g := gb184) (o := .cells #[.int .i64 a1_0, .int .i64 a1_1, .int .i64 a1_2] 58 (0, 0)) (kA BK184.out) k_ hk, IsS65.fresh (iS1 HI0.out NB0_184.out) k_ hk⟩)); (case aO => exact (by (with_reducible repeat (first | apply Kd.N_alloc | apply Kd.N_drewN | apply Kd.N_drew)); exact Kd.N_mono HO_5.out (fun _ hk => ⟨hk.1.1, ⟨hk.1.2.1, hk.1.2.2⟩⟩))); (case aS => exact (keep_size (w := w) (g := g) (row := none) (kB1 HK.out GW184.out))); (case aL => have := LMc48.out; omega); intro v213 w52 ho hb hg hat; rw [← Ny212.out] at ho; have n0_ := am (blk_grown (g := gb184) (o := .cells #[.int .i64 a1_0, .int .i64 a1_1, .int .i64 a1_2] 58 (0, 0)) (kA BK184.out) hg (Kd.N_ne HO_5.out BK184.out (by decide))); have n1_ := am (IsS65.grown (iS1 HI0.out NB0_184.out) hg (IsS65.own_neN HI0.out HO_5.out (by decide))); have n2_ := am (Kd.N_afterv (ok := (fun k_ => (w.heap.size ≤ k_) ∧ k_ ≠ gb184 ∧ k_ ≠ g)) (by (with_reducible repeat (first | apply Kd.N_alloc | apply Kd.N_drewN | apply Kd.N_drew)); exact Kd.N_mono HO210.out (fun _ hk => ⟨⟨hk.1, ⟨hk.2.2.1, hk.2.2.2⟩⟩, hk.2.1⟩)) hg hat); have n3_ := am (below_weaken (bA2 HB.out (IsS65.ge HI0.out) GE184.out) HL.out hb); have n4_ := am (KeepBut.trans (kB1 HK.out GW184.out) (KeepBut.of_grown hg g) (Kd.N_base2 HO_5.out)); have n5_ := am (ho); clear BK184; clear HI0; clear HO210; clear HB; clear HK; clear HO_5; have BK184 := n0_; have HI0 := n1_; have HO210 := n2_; have HB := n3_; have HK := n4_; have HO214 := n5_; clear n0_ n1_ n2_ n3_ n4_ n5_; clear ho hb hg hat))
      go_ret
      exact ⟨_, by first | rfl | (simp [errW_none, errW_some] <;> rfl) | (simp [*, errW_none, errW_some] <;> rfl), by (with_reducible repeat (first | apply Kd.N_alloc | apply Kd.N_drewN | apply Kd.N_drew)); exact Kd.N_mono HO214.out (fun _ hk => hk.1), by repeat (first | (with_reducible first | exact HI0.out | apply IsS65.alloc | apply IsS65.drewN | apply IsS65.drew | apply IsS65.set_1 | refine IsS65.far ?_ NB0_184.out _) | exact HI0.out), by repeat (first | (with_reducible first | exact HB.out | apply below_alloc | apply pw_below_drewN | apply below_drew1 | refine below_set ?_ (IsS65.ge HI0.out) | refine below_set ?_ GE184.out) | exact HB.out), by repeat (first | (with_reducible first | exact HK.out | apply KeepBut.set_ | apply keep_drewN | apply keep_drew | apply keep_alloc | refine keep_far ?_ GW184.out _) | exact HK.out)⟩
     ·rw [if_neg c48] at H
      exact absurd H (by simp)
 ·rw [if_neg c4] at H
  exact absurd H (by simp)
end Go.Proofs.YtoadabodhdgdjaaDoor.SM
namespace Go.Proofs.YtoadabodhdgdjaaDoor.SM
open Go.RowKit Go.Proofs.YtoadabodhdgdjaaDoorW.PrintWords Go.Proofs.YtoadabodhdgdjaaDoorW.PrintLast Go.Proofs.YtoadabodhdgdjaaDoorW.PrintMore
attribute [local go_sem] max2_int min2_int max_two min_two max_three min_three max_four min_four   
open Go.Proofs.YtoadabodhdgdjaaDoor.SB
set_option linter.unusedVariables false
set_option linter.unusedSimpArgs false
end Go.Proofs.YtoadabodhdgdjaaDoor.SM
