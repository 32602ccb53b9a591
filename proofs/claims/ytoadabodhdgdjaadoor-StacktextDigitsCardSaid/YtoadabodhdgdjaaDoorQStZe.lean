import Derived.Test.YtoadabodhdgdjaaDoorQPn
import Derived.Test.YtoadabodhdgdjaaDoorQSX
import Derived.Lib.SlBytesConst
import Derived.Test.YtoadabodhdgdjaaDoorQS0
namespace Go.Proofs.YtoadabodhdgdjaaDoor.Sg
open Go.Proofs.YtoadabodhdgdjaaDoor.S0
open Go.RowKit Go.Maps Go.Proofs.YtoadabodhdgdjaaDoorW.PrintWords Go.Proofs.YtoadabodhdgdjaaDoorW.PrintLast Go.Proofs.YtoadabodhdgdjaaDoorW.PrintMore
attribute [local go_sem] max2_int min2_int max_two min_two max_three min_three max_four min_four
set_option linter.unusedVariables false
set_option linter.unusedSimpArgs false
theorem C_blk {w : World} {g t : Nat} {k : IntKind} {xs : List Int} {fr : Nat × Nat} (h : w.heap[g]? = some (.cells (xs.map (Value.int k)).toArray t fr)) (hl : xs.length ≤ 9223372036854775807) : (Kd.int k).C w (some ⟨g, 0, none⟩) xs.length xs :=
 ⟨rfl, hl, fun _ => ⟨_, rfl, fun j p hj => ⟨[.int k p], rfl, rfl, fun i u hu => by
  cases i with
  | zero =>
   have e : Value.int k p = u := by simpa using hu
   subst e
   have hsz : (Kd.int k).sz = 1 := rfl
   rw [add_plain, hsz]
   simp [World.cell?, h, hj]
  | succ i => simp at hu⟩⟩⟩
theorem same_l : ∀ (n k i : Nat) (a : List Int), a.length - i = n → n < k → i ≤ a.length → a.length ≤ 1000000 → SX.barscanlaw29_same.l0 k a a (i : Int) = some true
 | 0, k, i, a, hn, hk, hi, hb => by
  obtain ⟨k, rfl⟩ : ∃ q, k = q + 1 := ⟨k - 1, by omega⟩
  simp only [SX.barscanlaw29_same.l0]
  rw [if_neg (by omega)]
 | n + 1, k, i, a, hn, hk, hi, hb => by
  obtain ⟨k, rfl⟩ : ∃ q, k = q + 1 := ⟨k - 1, by omega⟩
  simp only [SX.barscanlaw29_same.l0]
  rw [if_pos (by omega), if_pos (by omega), if_pos (by omega), if_pos trivial, show wrap64 ((i : Int) + 1) = ((i + 1 : Nat) : Int) from Pn.wadd i 1 (by omega)]
  exact same_l n k (i + 1) a (by omega) (by omega) (by omega) hb
theorem same_self (k : Nat) (a : List Int) (hk : a.length < k) (hb : a.length ≤ 1000000) : SX.barscanlaw29_same.f k a a = some true := by
 unfold SX.barscanlaw29_same.f
 rw [if_pos rfl]
 exact same_l a.length k 0 a rfl hk (Nat.zero_le _) hb
theorem reads_ok {l r : List Int} {s : ByteArray} (h : Sg.stacktext_Decode.f l = some (r, 0)) (hs : (strOfNums r).toList = s.toList) : SX.barscanlaw29_reads.f l s = some true := by
 unfold SX.barscanlaw29_reads.f
 rw [h, Option.bind_some, if_pos hs]
 rfl
def barscanlaw29_exampleHolds.f : Option Bool := some true
set_option maxHeartbeats 8000000 in
set_option maxRecDepth 100000 in
theorem barscanlaw29_exampleHolds.calls (r : Bool) (w : World) (h : barscanlaw29_exampleHolds.f = some r) :
  Calls Tryd.prog 10 #[] w fun e w' => e = .returned (.bool r) ∧ Below w.heap.size w w' := by
 cases h
 have hcv : ∀ (W : World) (C : Array Value), (convert 31 31 (.slice (some ⟨W.heap.size, 0, none⟩) 3 3)).run Tryd.prog (W.alloc (.cells C 5)) = .ok (.slice (some ⟨W.heap.size, 0, none⟩) 3 3) (W.alloc (.cells C 5 (C.size, C.size + 1))) := fun W C => Lib.run_convert_bytes_const W 31 5 C 3 3 Tryd.underlying31 Tryd.underlying5
 go_enter Tryd.func10, Tryd.ntmps10
 go_wp2_with (first | ((with_reducible refine gate_callee (f := 11) rfl ?_); refine gL (some 10) Tryd.func11 #[.string (⟨#[48, 48, 48, 50, 49, 51, 50, 57, 56, 49, 55, 52, 48, 48, 48]⟩ : ByteArray)] (h := ?_); (refine (Sg.stacktext_Numeric.calls (⟨#[48, 48, 48, 50, 49, 51, 50, 57, 56, 49, 55, 52, 48, 48, 48]⟩ : ByteArray) [1, 624, 434, 632, 282, 200] 0 _ Pn.ex_n).mono ?_); rintro e w1 ⟨v1, rfl, ho1, hb1⟩; refine ⟨_, rfl, ?_⟩; obtain ⟨A1, c1, e1⟩ := Kd.R_slice ho1; subst e1; have HO1 := am ho1; have HB1 := am hb1; have hC2 := am (C_blk (k := .i64) (xs := [112]) (World.alloc_heap_new w1 (.cells #[.int .i64 112] 3 (0, 0))) (by decide)); clear ho1 hb1) | ((with_reducible refine gate_callee (f := 13) rfl ?_); refine gL (some 15) Tryd.func13 #[.slice (some ⟨w1.heap.size, 0, none⟩) 1 1] (h := ?_); (refine (Sg.stacktext_FromNumeric.calls (some ⟨w1.heap.size, 0, none⟩) 1 [112] ⟨#[49, 50]⟩ 0 _ hC2.out (Nat.le_refl _) Pn.ex_f).mono ?_); rintro e w2 ⟨rfl, hb2⟩; refine ⟨_, rfl, ?_⟩; have HB2 := am (below_step (below_alloc (Below.refl w1.heap.size w1) _) hb2); have hC3 := am (C_blk (k := .u8) (xs := [65, 66, 97]) (World.alloc_heap_new w2 (.cells #[.int .u8 65, .int .u8 66, .int .u8 97] 5 (3, 4))) (by decide)); clear hb2 hC2) | ((with_reducible refine gate_callee (f := 17) rfl ?_); refine gL (some 21) Tryd.func17 #[.slice (some ⟨w2.heap.size, 0, none⟩) 3 3] (h := ?_); (refine (Sg.stacktext_Encode.calls (some ⟨w2.heap.size, 0, none⟩) 3 [65, 66, 97] [1, 810] 0 _ hC3.out (Nat.le_refl _) Pn.ex_e).mono ?_); rintro e w3 ⟨v3, rfl, ho3, hb3⟩; refine ⟨_, rfl, ?_⟩; obtain ⟨A3, c3, e3⟩ := Kd.R_slice ho3; subst e3; have HO3 := am ho3; have HB3 := am (below_step (below_alloc (Below.refl w2.heap.size w2) _) hb3); have hC4 := am (C_blk (k := .u8) (xs := [65, 66, 97]) (World.alloc_heap_new w3 (.cells #[.int .u8 65, .int .u8 66, .int .u8 97] 5 (3, 4))) (by decide)); clear ho3 hb3 hC3) | ((with_reducible refine gate_callee (f := 18) rfl ?_); refine gL (some 27) Tryd.func18 #[.slice (some ⟨w3.heap.size, 0, none⟩) 3 3] (h := ?_); (refine (Sg.stacktext_Length.calls (some ⟨w3.heap.size, 0, none⟩) 3 [65, 66, 97] 2 0 _ hC4.out (Nat.le_refl _) Pn.ex_l).mono ?_); rintro e w4 ⟨rfl, hb4⟩; refine ⟨_, rfl, ?_⟩; have HB4 := am (below_step (below_alloc (Below.refl w3.heap.size w3) _) hb4); clear hb4 hC4))
 have HBc := am (below_step (below_step (below_step HB1.out HB2.out) HB3.out) HB4.out)
 have HC1 := am (below_step (below_step HB2.out HB3.out) HB4.out)
 have HC3 := HB4
 clear HB1 HB2 HB3 HB4
 have hC := C_blk (k := .i64) (xs := [1, 810]) (World.alloc_heap_new w4 (.cells #[.int .i64 1, .int .i64 810] 3 (0, 0))) (by decide)
 refine (SX.barscanlaw29_same.calls 100 A3 c3 [1, 810] (some ⟨w4.heap.size, 0, none⟩) 2 [1, 810] true _ (Kd.R_reads' (Kd.R_below HO3.out (below_alloc HC3.out _))).2.2 (Kd.R_reads' HO3.out).2.1 hC (Nat.le_refl _) (same_self 100 _ (by decide) (by decide))).mono ?_
 rintro e w5 ⟨rfl, ⟨nd, hw⟩⟩
 have hbn : Below (w4.alloc (.cells #[.int .i64 1, .int .i64 810] 3 (0, 0))).heap.size (w4.alloc (.cells #[.int .i64 1, .int .i64 810] 3 (0, 0))) w5 := by rw [hw]; exact pw_below_drewN (Below.refl _ _) nd
 have HBn := am (below_step (below_alloc HBc.out (.cells #[.int .i64 1, .int .i64 810] 3 (0, 0))) hbn)
 have HCn1 := am (below_step (below_alloc HC1.out (.cells #[.int .i64 1, .int .i64 810] 3 (0, 0))) hbn)
 clear hw hbn hC HBc HC1 HC3
 have HBc := HBn
 clear HBn
 have HC1 := HCn1
 clear HCn1
 dsimp only
 go_wp2_with (fail)
 have hC := C_blk (k := .i64) (xs := [1, 624, 434, 632, 282, 200]) (World.alloc_heap_new w5 (.cells #[.int .i64 1, .int .i64 624, .int .i64 434, .int .i64 632, .int .i64 282, .int .i64 200] 3 (0, 0))) (by decide)
 refine (SX.barscanlaw29_same.calls 100 A1 c1 [1, 624, 434, 632, 282, 200] (some ⟨w5.heap.size, 0, none⟩) 6 [1, 624, 434, 632, 282, 200] true _ (Kd.R_reads' (Kd.R_below HO1.out (below_alloc HC1.out _))).2.2 (Kd.R_reads' HO1.out).2.1 hC (Nat.le_refl _) (same_self 100 _ (by decide) (by decide))).mono ?_
 rintro e w6 ⟨rfl, ⟨nd, hw⟩⟩
 have hbn : Below (w5.alloc (.cells #[.int .i64 1, .int .i64 624, .int .i64 434, .int .i64 632, .int .i64 282, .int .i64 200] 3 (0, 0))).heap.size (w5.alloc (.cells #[.int .i64 1, .int .i64 624, .int .i64 434, .int .i64 632, .int .i64 282, .int .i64 200] 3 (0, 0))) w6 := by rw [hw]; exact pw_below_drewN (Below.refl _ _) nd
 have HBn := am (below_step (below_alloc HBc.out (.cells #[.int .i64 1, .int .i64 624, .int .i64 434, .int .i64 632, .int .i64 282, .int .i64 200] 3 (0, 0))) hbn)
 clear hw hbn hC HBc HC1
 have HBc := HBn
 clear HBn
 dsimp only
 go_wp2_with (fail)
 have hC := C_blk (k := .i64) (xs := [924, 387, 700, 208, 213, 302]) (World.alloc_heap_new w6 (.cells #[.int .i64 924, .int .i64 387, .int .i64 700, .int .i64 208, .int .i64 213, .int .i64 302] 3 (0, 0))) (by decide)
 refine (SX.barscanlaw29_reads.calls (some ⟨w6.heap.size, 0, none⟩) 6 [924, 387, 700, 208, 213, 302] (⟨#[231, 101, 11, 97, 205, 2]⟩ : ByteArray) true _ hC (Nat.le_refl _) (reads_ok Pn.ex_d4 (by decide +kernel))).mono ?_
 rintro e w7 ⟨rfl, hbn⟩
 have HBn := am (below_step (below_alloc HBc.out (.cells #[.int .i64 924, .int .i64 387, .int .i64 700, .int .i64 208, .int .i64 213, .int .i64 302] 3 (0, 0))) hbn)
 clear hbn hC HBc
 have HBc := HBn
 clear HBn
 dsimp only
 go_wp2_with (fail)
 have hC := C_blk (k := .i64) (xs := [901, 65]) (World.alloc_heap_new w7 (.cells #[.int .i64 901, .int .i64 65] 3 (0, 0))) (by decide)
 refine (SX.barscanlaw29_reads.calls (some ⟨w7.heap.size, 0, none⟩) 2 [901, 65] (⟨#[65]⟩ : ByteArray) true _ hC (Nat.le_refl _) (reads_ok Pn.ex_d2 (by decide +kernel))).mono ?_
 rintro e w8 ⟨rfl, hbn⟩
 have HBn := am (below_step (below_alloc HBc.out (.cells #[.int .i64 901, .int .i64 65] 3 (0, 0))) hbn)
 clear hbn hC HBc
 have HBc := HBn
 clear HBn
 dsimp only
 go_wp2_with (fail)
 have hC := C_blk (k := .i64) (xs := [901, 1, 2, 3, 4, 5]) (World.alloc_heap_new w8 (.cells #[.int .i64 901, .int .i64 1, .int .i64 2, .int .i64 3, .int .i64 4, .int .i64 5] 3 (0, 0))) (by decide)
 refine (SX.barscanlaw29_reads.calls (some ⟨w8.heap.size, 0, none⟩) 6 [901, 1, 2, 3, 4, 5] (⟨#[1, 2, 3, 4, 5]⟩ : ByteArray) true _ hC (Nat.le_refl _) (reads_ok Pn.ex_d3 (by decide +kernel))).mono ?_
 rintro e w9 ⟨rfl, hbn⟩
 have HBn := am (below_step (below_alloc HBc.out (.cells #[.int .i64 901, .int .i64 1, .int .i64 2, .int .i64 3, .int .i64 4, .int .i64 5] 3 (0, 0))) hbn)
 clear hbn hC HBc
 have HBc := HBn
 clear HBn
 dsimp only
 go_wp2_with (fail)
 have hC := C_blk (k := .i64) (xs := [870]) (World.alloc_heap_new w9 (.cells #[.int .i64 870] 3 (0, 0))) (by decide)
 refine (SX.barscanlaw29_reads.calls (some ⟨w9.heap.size, 0, none⟩) 1 [870] (⟨#[59]⟩ : ByteArray) true _ hC (Nat.le_refl _) (reads_ok Pn.ex_d1 (by decide +kernel))).mono ?_
 rintro e w10 ⟨rfl, hbn⟩
 have HBn := am (below_step (below_alloc HBc.out (.cells #[.int .i64 870] 3 (0, 0))) hbn)
 clear hbn hC HBc
 have HBc := HBn
 clear HBn
 dsimp only
 go_wp2_with (fail)
 refine bodyPost_ret (results_tmp rfl _ _ _) rfl ?_
 exact ⟨rfl, HBc.out⟩
end Go.Proofs.YtoadabodhdgdjaaDoor.Sg
