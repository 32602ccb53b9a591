import Derived.Test.YtoadabodhdgdjaaDoorQStW
import Derived.Test.YtoadabodhdgdjaaDoorQS0
namespace Go.Proofs.YtoadabodhdgdjaaDoor.St
open Go.Proofs.YtoadabodhdgdjaaDoor.S0
open Go.RowKit Go.Maps Go.Proofs.YtoadabodhdgdjaaDoorW.PrintWords Go.Proofs.YtoadabodhdgdjaaDoorW.PrintLast Go.Proofs.YtoadabodhdgdjaaDoorW.PrintMore Go.Proofs.YtoadabodhdgdjaaDoor.SB
attribute [local go_sem] max2_int min2_int max_two min_two max_three min_three max_four min_four
set_option linter.unusedVariables false
set_option linter.unusedSimpArgs false
theorem box_ne {w : World} {b base : Nat} {cs : Array Value} {t : TypeId} {v : Value} {out : List Int} (h : Kd.R (Kd.int .u8) 5 w base (fun _ => True) v out) (hb : w.heap[b]? = some (.cells cs t (0, 0))) (ht : 5 ≠ t) : some b ≠ v.ownBlock := by
 obtain ⟨inner, ho⟩ := Kd.R_own h
 exact own_ne ho hb ht
def oneD (k : Nat) (t : Int × Int) (v : Int) (out : List Int) : Option ((Int × Int) × List Int) :=
 (stacktext_text_read.f k t.1 t.2 v).bind fun r => if r.2.2.2.2 = true then some ((r.2.2.1, r.2.2.2.1), if r.2.1 = true then out ++ [r.1] else out) else none
def dataL (k : Nat) : (Int × Int) → List Int → List Int → Option ((Int × Int) × List Int)
 | t, [], out => some (t, out)
 | t, v :: l, out => (oneD k t v out).bind fun r => dataL k r.1 l r.2
set_option maxHeartbeats 4000000 in
set_option maxRecDepth 100000 in
theorem data_calls (k : Nat) (g : Nat) (ws : List Int) (at_ : Nat) (out : List Int) (w0 w : World) (hI : DI w0 w g ws at_ out) (hol : out.length ≤ 1000000) (t : Int × Int) (word : Int) (t' : Int × Int) (out' : List Int) (h : dataL k t [wrap64 (Int.tdiv word 30), Int.tmod word 30] out = some (t', out')) :
  Calls Tryd.prog 51 #[.pointer (some ⟨g, 0, none⟩), .agg #[.int .i64 t.1, .int .i64 t.2], .int .i64 word] w fun e w' => e = .returned (.agg #[.int .i64 t'.1, .int .i64 t'.2]) ∧ DI w0 w' g ws at_ out' ∧ Lib.OthersKept 5 (some g) w w' := by
 have HI := am hI
 have H := am h
 clear hI h
 go_enter Tryd.func51, Tryd.ntmps51
 go_wp2
 obtain ⟨va, hva⟩ : ∃ x, wrap64 (Int.tdiv word 30) = x := ⟨_, rfl⟩
 obtain ⟨vb, hvb⟩ : ∃ x, Int.tmod word 30 = x := ⟨_, rfl⟩
 rw [hva, hvb] at H
 rw [hva, hvb]
 clear hva hvb
 obtain ⟨g4, hg4⟩ : ∃ x, w.heap.size = x := ⟨_, rfl⟩
 obtain ⟨g6, hg6⟩ : ∃ x, g4 + 1 = x := ⟨_, rfl⟩
 obtain ⟨gl, hgl⟩ : ∃ x, g6 + 1 = x := ⟨_, rfl⟩
 obtain ⟨W3, hW3⟩ : ∃ x, ((w.alloc (.cells #[.int .i64 t.1, .int .i64 t.2] 56 (0, 0))).alloc (.cells #[.int .i64 0, .int .i64 0] 56 (0, 0))).alloc (.cells #[.int .i64 va, .int .i64 vb] 3 (0, 0)) = x := ⟨_, rfl⟩
 have HB3 : Below w.heap.size w W3 := by rw [← hW3]; exact below_alloc (below_alloc (below_alloc (Below.refl _ _) _) _) _
 have B4 : W3.heap[g4]? = some (.cells #[.int .i64 t.1, .int .i64 t.2] 56 (0, 0)) := by
  rw [← hW3, ← hg4]
  exact blk_alloc (blk_alloc (World.alloc_heap_new w _) _) _
 have B6 : W3.heap[g6]? = some (.cells #[.int .i64 0, .int .i64 0] 56 (0, 0)) := by
  rw [← hW3, ← hg6, ← hg4]
  have := World.alloc_heap_new (w.alloc (.cells #[.int .i64 t.1, .int .i64 t.2] 56 (0, 0))) (.cells #[.int .i64 0, .int .i64 0] 56 (0, 0))
  rw [World.size_alloc] at this
  exact blk_alloc this _
 have BL : W3.heap[gl]? = some (.cells #[.int .i64 va, .int .i64 vb] 3 (0, 0)) := by
  rw [← hW3, ← hgl, ← hg6, ← hg4]
  have := World.alloc_heap_new ((w.alloc (.cells #[.int .i64 t.1, .int .i64 t.2] 56 (0, 0))).alloc (.cells #[.int .i64 0, .int .i64 0] 56 (0, 0))) (.cells #[.int .i64 va, .int .i64 vb] 3 (0, 0))
  rw [World.size_alloc, World.size_alloc] at this
  exact this
 have HD3 := DI.below HI.out HB3
 have HO3 := Lib.OthersKept.below (Lib.OthersKept.refl 5 (some g) w) HB3
 have hgw := HI.out.lt
 simp only [hW3, hg4, hg6, hgl]
 have hB0 := HI.out.bel.size
 have hgg4 : g < g4 := by omega
 have hge4 : w0.heap.size ≤ g4 := by omega
 have hge6 : w0.heap.size ≤ g6 := by omega
 have hww6 : w.heap.size ≤ g6 := by omega
 have HH := am hg4
 have HDx := am HD3
 have HOx := am HO3
 have HB4 := am B4
 have HB6 := am B6
 have HBL := am BL
 clear hW3 HI HB3 HD3 HO3 B4 B6 BL hgw hB0
 have hne46 : g4 ≠ g6 := by omega
 have hne4l : g4 ≠ gl := by omega
 have hne6l : g6 ≠ gl := by omega
 clear hg4 hg6 hgl
 go_loopg [19] 2 (fun gg v19 wr => ∃ (i : Nat) (t1 : Int × Int) (out1 : List Int), v19 = .int .i64 i ∧ i ≤ 2 ∧ 2 - i ≤ gg ∧ out1.length ≤ 1000000 + i ∧ Aside0 (dataL k t1 ([va, vb].drop i) out1 = some (t', out')) ∧ Aside0 (DI w0 wr g ws at_ out1) ∧ Aside0 (Lib.OthersKept 5 (some g) w wr) ∧ Aside0 (wr.heap[g4]? = some (.cells #[.int .i64 t1.1, .int .i64 t1.2] 56 (0, 0))) ∧ Aside0 (wr.heap[g6]? = some (.cells #[.int .i64 0, .int .i64 0] 56 (0, 0))) ∧ Aside0 (wr.heap[gl]? = some (.cells #[.int .i64 va, .int .i64 vb] 3 (0, 0))))
 case atStart => exact ⟨0, t, out, rfl, by omega, by omega, by omega, H, HDx, HOx, HB4, HB6, HBL⟩
 case round =>
  clear H HDx HOx HB4 HB6 HBL
  obtain ⟨i, t1, out1, rfl, hi, hgi, ho1, HF, HD, HO, B4, B6, BL⟩ := hrel
  rename World => wq
  by_cases hi2 : i < 2
  ·have hiz : (i : Int) < 2 := by omega
   obtain ⟨v, hv, hcell⟩ : ∃ v, [va, vb].drop i = v :: [va, vb].drop (i + 1) ∧ wq.cell? ⟨gl, i, none⟩ = some (.int .i64 v) := by
    match i, hi2 with
    | 0, _ => exact ⟨va, rfl, (blk_cell BL.out 0).trans rfl⟩
    | 1, _ => exact ⟨vb, rfl, (blk_cell BL.out 1).trans rfl⟩
   have hF := HF.out
   rw [hv] at hF
   obtain ⟨⟨t2, out2⟩, hone, hF2⟩ := Option.bind_eq_some_iff.1 (show ((oneD k t1 v out1).bind fun r => dataL k r.1 ([va, vb].drop (i + 1)) r.2) = some (t', out') from hF)
   unfold oneD at hone
   obtain ⟨⟨r1, r2, r3, r4, r5⟩, hrd, hif⟩ := Option.bind_eq_some_iff.1 hone
   have Hrd0 := am hrd
   have HF2 := am hF2
   have hRb : (out1.length + 1) * 1 ≤ 140737488355328 := by omega
   clear hF hF2 hone hv HF hrd
   cases r5 with
   | false => cases hif
   | true =>
    have Hrd : Aside0 (stacktext_text_read.f k t1.1 t1.2 v = some (r1, r2, r3, r4, true)) := Hrd0
    clear Hrd0
    have hc0 : wq.cell? ⟨g4, 0, none⟩ = some (.int .i64 t1.1) := (blk_cell B4.out 0).trans rfl
    have hc1 : wq.cell? ⟨g4, 1, none⟩ = some (.int .i64 t1.2) := (blk_cell B4.out 1).trans rfl
    cases r2 with
    | false =>
     cases hif
     go_wp2_with (((with_reducible refine gate_callee (f := 73) rfl ?_); refine gL (some 26) Tryd.func73 #[.agg #[.int .i64 t1.1, .int .i64 t1.2], .int .i64 v] (h := ?_); (with_reducible refine (stacktext_text_read.calls k t1.1 t1.2 v r1 false r3 r4 true _ Hrd.out).mono ?_); rintro e w5 ⟨rfl, hb⟩; refine ⟨_, rfl, ?_⟩; have hal := below_alloc (Below.refl w5.heap.size w5) (.cells #[.int .i64 r3, .int .i64 r4] 56 (0, 0)); have HD6 := am (DI.below (DI.below HD.out hb) hal); have HO6 := am (Lib.OthersKept.below (Lib.OthersKept.below HO.out hb) hal); have B4_6 := am (blk_below (blk_below B4.out hb) hal); have B6_6 := am (blk_below (blk_below B6.out hb) hal); have BL_6 := am (blk_below (blk_below BL.out hb) hal); have B11 := am (World.alloc_heap_new w5 (.cells #[.int .i64 r3, .int .i64 r4] 56 (0, 0))); have hge5 : wq.heap.size ≤ w5.heap.size := hb.size; clear hal hb HD HO B4 B6 BL; obtain ⟨A0, c0, v0, HG, hge, hc0, HC, HR, HB⟩ := HD6.out; obtain ⟨Av, cv, ev⟩ := Kd.R_slice HR; subst ev; have HGx := am HG; have HCx := am HC; have HRx := am HR; have HBx := am HB; clear HG HC HR HB; have hx42 : (w5.alloc (.cells #[.int .i64 r3, .int .i64 r4] 56 (0, 0))).cell? ⟨g, 2, none⟩ = some (.slice Av out1.length cv) := (blk_cell HGx.out 2).trans rfl; have hy0 : (w5.alloc (.cells #[.int .i64 r3, .int .i64 r4] 56 (0, 0))).cell? ⟨w5.heap.size, 0, none⟩ = some (.int .i64 r3) := (blk_cell B11.out 0).trans rfl; have hy1 : (w5.alloc (.cells #[.int .i64 r3, .int .i64 r4] 56 (0, 0))).cell? ⟨w5.heap.size, 1, none⟩ = some (.int .i64 r4) := (blk_cell B11.out 1).trans rfl; have hu0 : (w5.alloc (.cells #[.int .i64 r3, .int .i64 r4] 56 (0, 0))).cell? ⟨g4, 0, none⟩ = some (.int .i64 t1.1) := (blk_cell B4_6.out 0).trans rfl; have hu1 : (w5.alloc (.cells #[.int .i64 r3, .int .i64 r4] 56 (0, 0))).cell? ⟨g4, 1, none⟩ = some (.int .i64 t1.2) := (blk_cell B4_6.out 1).trans rfl; have hv0 := blk_frozen B4_6.out 0; have hv1 := blk_frozen B4_6.out 1))
     go_roundg (2 - (i + 1))
     case measure => omega
     case rel => exact ⟨i + 1, (r3, r4), out1, by go_num, by omega, by omega, by omega, HF2, ⟨DI.other (DI.other HD6.out B4_6.out (by decide) (by decide) hge4 0 _) (blk_set B4_6.out 0 _) (by decide) (by decide) hge4 1 _⟩, ⟨OthersKept_far (OthersKept_far HO6.out (by rw [HH.out]; exact Nat.le_refl _) _) (by rw [HH.out]; exact Nat.le_refl _) _⟩, ⟨blk_put (blk_put B4_6.out 0 _ rfl) 1 _ rfl⟩, ⟨(Below.heap_setCell _ ⟨g4, 1, none⟩ _ g6 (Ne.symm hne46)).trans ((Below.heap_setCell _ ⟨g4, 0, none⟩ _ g6 (Ne.symm hne46)).trans B6_6.out)⟩, ⟨(Below.heap_setCell _ ⟨g4, 1, none⟩ _ gl (Ne.symm hne4l)).trans ((Below.heap_setCell _ ⟨g4, 0, none⟩ _ gl (Ne.symm hne4l)).trans BL_6.out)⟩⟩
    | true =>
     cases hif
     go_wp2_with (first | ((with_reducible refine gate_callee (f := 73) rfl ?_); refine gL (some 26) Tryd.func73 #[.agg #[.int .i64 t1.1, .int .i64 t1.2], .int .i64 v] (h := ?_); (with_reducible refine (stacktext_text_read.calls k t1.1 t1.2 v r1 true r3 r4 true _ Hrd.out).mono ?_); rintro e w5 ⟨rfl, hb⟩; refine ⟨_, rfl, ?_⟩; have hal := below_alloc (Below.refl w5.heap.size w5) (.cells #[.int .i64 r3, .int .i64 r4] 56 (0, 0)); have HD6 := am (DI.below (DI.below HD.out hb) hal); have HO6 := am (Lib.OthersKept.below (Lib.OthersKept.below HO.out hb) hal); have B4_6 := am (blk_below (blk_below B4.out hb) hal); have B6_6 := am (blk_below (blk_below B6.out hb) hal); have BL_6 := am (blk_below (blk_below BL.out hb) hal); have B11 := am (World.alloc_heap_new w5 (.cells #[.int .i64 r3, .int .i64 r4] 56 (0, 0))); have hge5 : wq.heap.size ≤ w5.heap.size := hb.size; clear hal hb HD HO B4 B6 BL; obtain ⟨A0, c0, v0, HG, hge, hc0, HC, HR, HB⟩ := HD6.out; obtain ⟨Av, cv, ev⟩ := Kd.R_slice HR; subst ev; have HGx := am HG; have HCx := am HC; have HRx := am HR; have HBx := am HB; clear HG HC HR HB; have hx42 : (w5.alloc (.cells #[.int .i64 r3, .int .i64 r4] 56 (0, 0))).cell? ⟨g, 2, none⟩ = some (.slice Av out1.length cv) := (blk_cell HGx.out 2).trans rfl; have hy0 : (w5.alloc (.cells #[.int .i64 r3, .int .i64 r4] 56 (0, 0))).cell? ⟨w5.heap.size, 0, none⟩ = some (.int .i64 r3) := (blk_cell B11.out 0).trans rfl; have hy1 : (w5.alloc (.cells #[.int .i64 r3, .int .i64 r4] 56 (0, 0))).cell? ⟨w5.heap.size, 1, none⟩ = some (.int .i64 r4) := (blk_cell B11.out 1).trans rfl; have hu0 : (w5.alloc (.cells #[.int .i64 r3, .int .i64 r4] 56 (0, 0))).cell? ⟨g4, 0, none⟩ = some (.int .i64 t1.1) := (blk_cell B4_6.out 0).trans rfl; have hu1 : (w5.alloc (.cells #[.int .i64 r3, .int .i64 r4] 56 (0, 0))).cell? ⟨g4, 1, none⟩ = some (.int .i64 t1.2) := (blk_cell B4_6.out 1).trans rfl; have hv0 := blk_frozen B4_6.out 0; have hv1 := blk_frozen B4_6.out 1) | ((with_reducible refine gate_builtin (b := .append) (xs := #[.tmp 39, .tmp 41]) rfl ?_); at_builtin; refine Kd.R_append (Kd.int .u8) (W := (w5.alloc (.cells #[.int .i64 r3, .int .i64 r4] 56 (0, 0)))) (w0 := w0) w0.heap.size rfl (.tmp 39) (.tmp 41) 31 5 (.int .u8 0) 1 rfl Tryd.underlying31 info5 rfl (by decide) (by omega) (.slice Av out1.length cv) out1 r1 [.int .u8 r1] (fun _ => True) (fun _ => False) rfl (by rw [World.size_alloc]; rfl) rfl (fun _ hk => hk.elim) (fun _ _ => trivial) HRx.out HBx.out HBx.out.size hRb ?_; intro v7 w7 ho hb hg hat; obtain ⟨A7, c7, hv7⟩ := Kd.R_slice ho; rw [List.length_append, List.length_singleton] at hv7; subst hv7; have HD7 := am (DI_put (w0 := w0) (a := w) HGx.out hge hc0 HCx.out HRx.out HO6.out ho hb hg); have hG7 := DI_cells HGx.out HRx.out hg; have B47 := am (blk_grown B4_6.out hg (box_ne HRx.out B4_6.out (by decide))); have B67 := am (blk_grown B6_6.out hg (box_ne HRx.out B6_6.out (by decide))); have BL7 := am (blk_grown BL_6.out hg (box_ne HRx.out BL_6.out (by decide))); have B117 := am (blk_grown B11.out hg (box_ne HRx.out B11.out (by decide))); have hc72 : w7.cell? ⟨g, 2, none⟩ = some (.slice Av out1.length cv) := (blk_cell hG7 2).trans rfl; have hf72 := blk_frozen hG7 2; have hz0 : w7.cell? ⟨w5.heap.size, 0, none⟩ = some (.int .i64 r3) := (blk_cell B117.out 0).trans rfl; have hz1 : w7.cell? ⟨w5.heap.size, 1, none⟩ = some (.int .i64 r4) := (blk_cell B117.out 1).trans rfl; have hq40 : w7.cell? ⟨g4, 0, none⟩ = some (.int .i64 t1.1) := (blk_cell B47.out 0).trans rfl; have hq41 : w7.cell? ⟨g4, 1, none⟩ = some (.int .i64 t1.2) := (blk_cell B47.out 1).trans rfl; have hw0 := blk_frozen B47.out 0; have hw1 := blk_frozen B47.out 1; have hng : g < w5.heap.size := (by have := blk_lt HGx.out; have e : (w5.alloc (.cells #[.int .i64 r3, .int .i64 r4] 56 (0, 0))).heap.size = w5.heap.size + 1 := World.size_alloc _ _; have hne : g ≠ w5.heap.size := blk_ne HGx.out B11.out (by decide); omega); have hn1 : ¬ w5.heap.size = g := (by omega); have hn2 : ¬ g = w5.heap.size := (by omega); have HG7 := am hG7; clear ho hb hg hat hG7))
     have hg44 : g4 ≠ g := by omega
     have q4 : (w7.setCell ⟨g, 2, none⟩ (.slice A7 (out1.length + 1) c7)).heap[g4]? = _ := (Below.heap_setCell w7 ⟨g, 2, none⟩ (.slice A7 (out1.length + 1) c7) g4 hg44).trans B47.out
     have hg64 : g6 ≠ g := blk_ne (t := 56) (t' := 51) B67.out HG7.out (by decide)
     have hgl4 : gl ≠ g := blk_ne (t := 3) (t' := 51) BL7.out HG7.out (by decide)
     go_roundg (2 - (i + 1))
     case measure => omega
     case rel => exact ⟨i + 1, (r3, r4), out1 ++ [r1], by go_num, by omega, by omega, by rw [List.length_append, List.length_singleton]; omega, HF2, ⟨DI.other (DI.other HD7.out.1 q4 (by decide) (by decide) hge4 0 _) (blk_set q4 0 _) (by decide) (by decide) hge4 1 _⟩, ⟨OthersKept_far (OthersKept_far HD7.out.2 (by rw [HH.out]; exact Nat.le_refl _) _) (by rw [HH.out]; exact Nat.le_refl _) _⟩, ⟨blk_put (blk_put q4 0 _ rfl) 1 _ rfl⟩, ⟨(Below.heap_setCell _ ⟨g4, 1, none⟩ _ g6 (Ne.symm hne46)).trans ((Below.heap_setCell _ ⟨g4, 0, none⟩ _ g6 (Ne.symm hne46)).trans ((Below.heap_setCell _ ⟨g, 2, none⟩ _ g6 hg64).trans B67.out))⟩, ⟨(Below.heap_setCell _ ⟨g4, 1, none⟩ _ gl (Ne.symm hne4l)).trans ((Below.heap_setCell _ ⟨g4, 0, none⟩ _ gl (Ne.symm hne4l)).trans ((Below.heap_setCell _ ⟨g, 2, none⟩ _ gl hgl4).trans BL7.out))⟩⟩
  ·have hi3 : i = 2 := by omega
   subst hi3
   have hF := HF.out
   obtain ⟨e1, e2⟩ := Prod.mk.inj (Option.some.inj (show some (t1, out1) = some (t', out') from hF))
   subst e1
   subst e2
   clear hF HF
   have hc0 : wq.cell? ⟨g4, 0, none⟩ = some (.int .i64 t1.1) := (blk_cell B4.out 0).trans rfl
   have hc1 : wq.cell? ⟨g4, 1, none⟩ = some (.int .i64 t1.2) := (blk_cell B4.out 1).trans rfl
   have hd0 : wq.cell? ⟨g6, 0, none⟩ = some (.int .i64 0) := (blk_cell B6.out 0).trans rfl
   have hd1 : wq.cell? ⟨g6, 1, none⟩ = some (.int .i64 0) := (blk_cell B6.out 1).trans rfl
   have hf0 := blk_frozen B6.out 0
   have hf1 := blk_frozen B6.out 1
   go_wp2
   refine bodyPost_ret (results_single (r := .cell 6 56) rfl (.cell g6 56 #[.int .i64 t1.1, .int .i64 t1.2] (0, 0) _ rfl (blk_put (blk_put B6.out 0 _ rfl) 1 _ rfl) Tryd.underlying56 rfl (by kernel_rfl) .nil)) rfl ?_
   exact ⟨rfl, DI.other (DI.other HD.out B6.out (by decide) (by decide) hge6 0 _) (blk_set B6.out 0 _) (by decide) (by decide) hge6 1 _, OthersKept_far (OthersKept_far HO.out hww6 _) hww6 _⟩
end Go.Proofs.YtoadabodhdgdjaaDoor.St
