import Derived.Test.YtoadabodhdgdjaaDoorQStL
import Derived.Test.YtoadabodhdgdjaaDoorQSB
import Derived.Lib.BufferKept
import Derived.Test.YtoadabodhdgdjaaDoorQS0
namespace Go.Proofs.YtoadabodhdgdjaaDoor.St
open Go.Proofs.YtoadabodhdgdjaaDoor.S0
open Go.RowKit Go.Maps Go.Proofs.YtoadabodhdgdjaaDoorW.PrintWords Go.Proofs.YtoadabodhdgdjaaDoorW.PrintLast Go.Proofs.YtoadabodhdgdjaaDoorW.PrintMore Go.Proofs.YtoadabodhdgdjaaDoor.SB
attribute [local go_sem] max2_int min2_int max_two min_two max_three min_three max_four min_four
set_option linter.unusedVariables false
set_option linter.unusedSimpArgs false
def DI (w0 w : World) (g : Nat) (ws : List Int) (at_ : Nat) (out : List Int) : Prop :=
 ∃ A0 c0 v, w.heap[g]? = some (.cells #[.slice A0 ws.length c0, .int .i64 (at_ : Nat), v] 51 (0, 0)) ∧ w0.heap.size ≤ g ∧ ws.length ≤ c0 ∧ Kd.C (Kd.int .i64) w0 A0 ws.length ws ∧ Kd.R (Kd.int .u8) 5 w w0.heap.size (fun _ => True) v out ∧ Below w0.heap.size w0 w
theorem u8_E : ∀ q, q ∈ 5 :: (Kd.int .u8).E → q ≠ 51 := by
 intro q hq
 have e : q = 5 := by simpa [Kd.int, Kd.scalar] using hq
 rw [e]
 decide
theorem R_at {w : World} {g base : Nat} {cs : Array Value} {v : Value} {out : List Int} (hG : w.heap[g]? = some (.cells cs 51 (0, 0))) (h : Kd.R (Kd.int .u8) 5 w base (fun _ => True) v out) (i : Nat) (u : Value) : Kd.R (Kd.int .u8) 5 (w.setCell ⟨g, i, none⟩ u) base (fun _ => True) v out :=
 Kd.R_mono (Kd.R_far (p := ⟨g, i, none⟩) (Kd.R_types h hG u8_E) (fun _ hk => hk.2) u) (fun _ _ => trivial)
theorem DI.below {w0 w w1 : World} {g at_ : Nat} {ws out : List Int} (h : DI w0 w g ws at_ out) (hb : Below w.heap.size w w1) : DI w0 w1 g ws at_ out := by
 obtain ⟨A0, c0, v, HG, hge, hc0, HC, HR, HB⟩ := h
 exact ⟨A0, c0, v, blk_below HG hb, hge, hc0, HC, Kd.R_below HR hb, below_step HB hb⟩
theorem DI.drew {w0 w : World} {g at_ : Nat} {ws out : List Int} (h : DI w0 w g ws at_ out) : DI w0 w.drew g ws at_ out := by
 obtain ⟨A0, c0, v, HG, hge, hc0, HC, HR, HB⟩ := h
 exact ⟨A0, c0, v, HG, hge, hc0, HC, HR, below_drew1 HB⟩
theorem DI_put {w0 W w1 a : World} {g at_ : Nat} {ws out out1 : List Int} {A0 : Option Addr} {c0 : Nat} {v v1 : Value} (hG : W.heap[g]? = some (.cells #[.slice A0 ws.length c0, .int .i64 (at_ : Nat), v] 51 (0, 0))) (hge : w0.heap.size ≤ g) (hc0 : ws.length ≤ c0) (HC : Kd.C (Kd.int .i64) w0 A0 ws.length ws)
  (HR : Kd.R (Kd.int .u8) 5 W w0.heap.size (fun _ => True) v out) (HO : Lib.OthersKept 5 (some g) a W) (hR1 : Kd.R (Kd.int .u8) 5 w1 w0.heap.size (fun _ => True) v1 out1) (hB1 : Below w0.heap.size w0 w1) (hg : W.grownBy w1 v.ownBlock) :
  DI w0 (w1.setCell ⟨g, 2, none⟩ v1) g ws at_ out1 ∧ Lib.OthersKept 5 (some g) a (w1.setCell ⟨g, 2, none⟩ v1) := by
 have hne : some g ≠ v.ownBlock := by
  obtain ⟨inner, ho⟩ := Kd.R_own HR
  exact own_ne ho hG (by decide)
 have hG1 := blk_grown hG hg hne
 refine ⟨⟨A0, c0, v1, blk_put hG1 2 v1 rfl, hge, hc0, HC, R_at hG1 hR1 2 v1, below_set hB1 hge⟩, ?_⟩
 exact Lib.OthersKept.setCell (Lib.OthersKept.grown HO hg (fun k hk => by
  obtain ⟨cs, hcs⟩ := Kd.R_typed HR k hk
  exact ⟨cs, _, hcs⟩)) _ rfl _
theorem DI_cells {W w1 : World} {g base : Nat} {cs : Array Value} {v : Value} {out : List Int} (hG : W.heap[g]? = some (.cells cs 51 (0, 0))) (HR : Kd.R (Kd.int .u8) 5 W base (fun _ => True) v out) (hg : W.grownBy w1 v.ownBlock) : w1.heap[g]? = some (.cells cs 51 (0, 0)) :=
 blk_grown hG hg (by
  obtain ⟨inner, ho⟩ := Kd.R_own HR
  exact own_ne ho hG (by decide))
def runL (ws : List Int) (j : Nat) : List Int := (ws.drop j).takeWhile (fun x => decide (x < 900))
theorem runL_step {ws : List Int} {j : Nat} (h : j < ws.length) (h9 : rd ws (j : Int) < 900) : runL ws j = rd ws (j : Int) :: runL ws (j + 1) := by
 have e : ws[j] = rd ws (j : Int) := by simp [rd, List.getD_eq_getElem?_getD, h]
 unfold runL
 rw [List.drop_eq_getElem_cons h, List.takeWhile_cons, e, if_pos (by simpa using h9)]
theorem runL_stop {ws : List Int} {j : Nat} (h : j < ws.length) (h9 : ¬ rd ws (j : Int) < 900) : runL ws j = [] := by
 have e : ws[j] = rd ws (j : Int) := by simp [rd, List.getD_eq_getElem?_getD, h]
 unfold runL
 rw [List.drop_eq_getElem_cons h, List.takeWhile_cons, e, if_neg (by simpa using h9)]
theorem runL_end {ws : List Int} {j : Nat} (h : ws.length ≤ j) : runL ws j = [] := by
 unfold runL
 rw [List.drop_eq_nil_of_le h]
 rfl
theorem runL_take (ws : List Int) (j : Nat) : (ws.take (j + (runL ws j).length)).drop j = runL ws j := by
 unfold runL
 rw [List.drop_take, Nat.add_sub_cancel_left]
 have := List.takeWhile_prefix (fun x : Int => decide (x < 900)) (l := ws.drop j)
 exact (List.prefix_iff_eq_take.1 this).symm
theorem runL_len (ws : List Int) (j : Nat) : (runL ws j).length ≤ ws.length - j := by
 unfold runL
 exact Nat.le_trans (List.takeWhile_prefix _).length_le (by rw [List.length_drop]; exact Nat.le_refl _)
set_option maxHeartbeats 4000000 in
set_option maxRecDepth 100000 in
theorem run_calls (g : Nat) (ws : List Int) (at_ : Nat) (out : List Int) (w0 w : World) (hI : DI w0 w g ws at_ out) (hat : at_ ≤ ws.length) (hlen : ws.length ≤ 1000000) :
  Calls Tryd.prog 74 #[.pointer (some ⟨g, 0, none⟩)] w fun e w' => ∃ A c, e = .returned (.slice A (runL ws at_).length c) ∧ (runL ws at_).length ≤ c ∧ Kd.C (Kd.int .i64) w0 A (runL ws at_).length (runL ws at_) ∧ DI w0 w' g ws (at_ + (runL ws at_).length) out ∧ Lib.OthersKept 5 (some g) w w' := by
 obtain ⟨A0, c0, v, HG, hge, hc0, HC, HR, HB⟩ := hI
 have HGx := am HG
 have HCx := am HC
 have HRx := am HR
 have HBx := am HB
 have hc1 : w.cell? ⟨g, 1, none⟩ = some (.int .i64 (at_ : Nat)) := (blk_cell HG 1).trans rfl
 have HN := am (runL_len ws at_)
 clear HG HC HR HB
 go_enter Tryd.func74, Tryd.ntmps74
 go_wp2
 go_loopg [31] (ws.length - at_) (fun gg v31 wr => ∃ j : Nat, j ≤ ws.length ∧ at_ ≤ j ∧ ws.length - j ≤ gg ∧ Aside0 (j + (runL ws j).length = at_ + (runL ws at_).length) ∧ Aside0 (wr.heap[g]? = some (.cells #[.slice A0 ws.length c0, .int .i64 (j : Nat), v] 51 (0, 0))) ∧ Aside0 (Kd.R (Kd.int .u8) 5 wr w0.heap.size (fun _ => True) v out) ∧ Aside0 (Below w0.heap.size w0 wr) ∧ Aside0 (Lib.OthersKept 5 (some g) w wr))
 case atStart => exact ⟨at_, hat, Nat.le_refl _, Nat.le_refl _, ⟨rfl⟩, HGx, HRx, HBx, ⟨Lib.OthersKept.refl _ _ _⟩⟩
 case round =>
  clear HGx HRx HBx hc1
  obtain ⟨j, hj, haj, hgg, HJ, HG, HR, HB, HO⟩ := hrel
  rename World => wq
  have hX0 : wq.drew.cell? ⟨g, 0, none⟩ = some (.slice A0 ws.length c0) := (blk_cell HG.out 0).trans rfl
  have hX1 : wq.drew.cell? ⟨g, 1, none⟩ = some (.int .i64 (j : Int)) := (blk_cell HG.out 1).trans rfl
  by_cases hgo : j < ws.length ∧ rd ws (j : Int) < 900
  ·obtain ⟨hlt, h9⟩ := hgo
   obtain ⟨ad, ea, hx⟩ := Kd.at_int (Kd.C_below HCx.out HB.out) (j : Int) (by omega) (by omega)
   subst ea
   rw [Int.toNat_natCast] at hx
   have hstep := runL_step hlt h9
   have HJ2 := am (show j + 1 + (runL ws (j + 1)).length = at_ + (runL ws at_).length by have := HJ.out; rw [hstep, List.length_cons] at this; omega)
   clear hstep
   obtain ⟨x, hxx⟩ : ∃ x, rd ws (j : Int) = x := ⟨_, rfl⟩
   rw [hxx] at hx h9
   clear hxx
   have hX2 : wq.drew.cell? (ad.add j) = some (.int .i64 x) := hx
   have hltz : (j : Int) < (ws.length : Int) := by omega
   have hq1 : decide ((j : Int) < (ws.length : Int)) = true := decide_eq_true hltz
   have hq2 : decide (x < 900) = true := decide_eq_true h9
   go_wp2
   refine start_ (n := 23) (S := fun w' => w'.cell? ⟨g, 0, none⟩ = some (.slice (some ad) ws.length c0) ∧ w'.cell? ⟨g, 1, none⟩ = some (.int .i64 (j : Int)) ∧ w'.cell? (ad.add j) = some (.int .i64 x)) (ds := []) (bs 23 0) (by kernel_rfl) rfl rfl ⟨hX0, hX1, hX2⟩ (fun hHeld => ?_)
   refine pS 0 (some 8) (bs 23 1) (h := ?_)
   refine pS 1 (some 9) (bs 23 3) (h := ?_)
   refine pS 2 (some 10) (bs 23 7) (h := ?_)
   refine pS 4 (some 12) (bs 23 23) (h := ?_)
   refine pS 5 (some 13) (bs 23 55) (h := ?_)
   refine pS 6 (some 14) (bs 23 119) (h := ?_)
   refine tS 3 (some 11) (bs 23 127) hHeld (h := ?_)
   refine tS 7 (some 15) (bs 23 255) hHeld (h := ?_)
   refine pS 8 (some 16) (bs 23 511) (h := ?_)
   refine pS 9 (some 17) (bs 23 1023) (h := ?_)
   refine pS 10 (some 18) (bs 23 2047) (h := ?_)
   refine pS 11 (some 19) (bs 23 4095) (h := ?_)
   refine pS 12 (some 20) (bs 23 8191) (h := ?_)
   refine pS 13 (some 21) (bs 23 16383) (h := ?_)
   refine pS 15 (some 23) (bs 23 49151) (h := ?_)
   refine pS 16 (some 24) (bs 23 114687) (h := ?_)
   refine pS 17 (some 25) (bs 23 245759) (h := ?_)
   refine tS 14 (some 22) (bs 23 262143) hHeld (h := ?_)
   refine tS 18 (some 26) (bs 23 524287) hHeld (h := ?_)
   refine pS 19 (some 27) (bs 23 1048575) (h := ?_)
   refine tS 20 (some 28) (bs 23 2097151) hHeld (h := ?_)
   refine pS 21 (some 29) (bs 23 4194303) (h := ?_)
   refine pS 22 (some 30) (bs 23 8388607) (h := ?_)
   refine done_ (by kernel_rfl) ?_
   have hfz : wq.drew.frozen? ⟨g, 1, none⟩ = false := blk_frozen HG.out 1
   go_wp2
   go_roundg (ws.length - (j + 1))
   case measure => omega
   case rel => exact ⟨j + 1, by omega, by omega, by omega, HJ2, ⟨blk_put (w := wq.drew) HG.out 1 _ (by show _ = #[_, _, _]; simp)⟩, ⟨R_at (w := wq.drew) HG.out HR.out 1 _⟩, ⟨below_set (below_drew1 HB.out) hge⟩, ⟨Lib.OthersKept.setCell (w := wq.drew) HO.out _ rfl _⟩⟩
  ·have hstop : runL ws j = [] := by
    by_cases hlt : j < ws.length
    ·exact runL_stop hlt (fun h => hgo ⟨hlt, h⟩)
    ·exact runL_end (by omega)
   have hja : j = at_ + (runL ws at_).length := by have := HJ.out; rw [hstop, List.length_nil] at this; omega
   obtain ⟨i5, hi5, hz5, hs5, hb5⟩ := info_parts (show (Tryd.prog.info? 3).map (fun i => (i.zero, i.size, i.bytes)) = some (some (.int .i64 0), 1, 8) from by kernel_rfl)
   have hcut := cut_mid (P := Tryd.prog) 22 3 .i64 .i64 Tryd.underlying22 hi5 1 hs5 A0 ws.length c0 (at_ : Int) (j : Int) (by omega) (by omega) (by omega) hc0
   have hQ := Kd.C_mid HCx.out (lo := at_) (hi := j) (by omega) (by omega) hc0
   rw [Int.toNat_natCast, Int.toNat_natCast] at hcut
   have htk := runL_take ws at_
   rw [← hja] at htk
   rw [htk, show at_ * (Kd.int IntKind.i64).sz = at_ * 1 from rfl] at hQ
   obtain ⟨AQ, hAQ⟩ : ∃ AQ, (if c0 = at_ then A0 else A0.map (·.add (at_ * 1))) = AQ := ⟨_, rfl⟩
   rw [hAQ] at hcut hQ
   have hnl : j - at_ = (runL ws at_).length := by omega
   have hcl : (runL ws at_).length ≤ c0 - at_ := by omega
   rw [hnl] at hcut
   have HQ := am hQ
   have HJA := am hja
   have HCL := am hcl
   clear hQ hAQ htk hnl hja hcl hi5 hz5 hs5 hb5 HJ HN hstop
   by_cases hlt : j < ws.length
   ·have h9 : ¬ rd ws (j : Int) < 900 := fun h => hgo ⟨hlt, h⟩
    obtain ⟨ad, ea, hx⟩ := Kd.at_int (Kd.C_below HCx.out HB.out) (j : Int) (by omega) (by omega)
    subst ea
    rw [Int.toNat_natCast] at hx
    obtain ⟨x, hxx⟩ : ∃ x, rd ws (j : Int) = x := ⟨_, rfl⟩
    rw [hxx] at hx h9
    clear hxx
    have hX2 : wq.drew.cell? (ad.add j) = some (.int .i64 x) := hx
    have hltz : (j : Int) < (ws.length : Int) := by omega
    have hq1 : decide ((j : Int) < (ws.length : Int)) = true := decide_eq_true hltz
    have hq2 : decide (x < 900) = false := decide_eq_false h9
    go_wp2
    refine start_ (n := 23) (S := fun w' => w'.cell? ⟨g, 0, none⟩ = some (.slice (some ad) ws.length c0) ∧ w'.cell? ⟨g, 1, none⟩ = some (.int .i64 (j : Int)) ∧ w'.cell? (ad.add j) = some (.int .i64 x)) (ds := []) (bs 23 0) (by kernel_rfl) rfl rfl ⟨hX0, hX1, hX2⟩ (fun hHeld => ?_)
    refine pS 0 (some 8) (bs 23 1) (h := ?_)
    refine pS 1 (some 9) (bs 23 3) (h := ?_)
    refine pS 2 (some 10) (bs 23 7) (h := ?_)
    refine pS 4 (some 12) (bs 23 23) (h := ?_)
    refine pS 5 (some 13) (bs 23 55) (h := ?_)
    refine pS 6 (some 14) (bs 23 119) (h := ?_)
    refine tS 3 (some 11) (bs 23 127) hHeld (h := ?_)
    refine tS 7 (some 15) (bs 23 255) hHeld (h := ?_)
    refine pS 8 (some 16) (bs 23 511) (h := ?_)
    refine pS 9 (some 17) (bs 23 1023) (h := ?_)
    refine pS 10 (some 18) (bs 23 2047) (h := ?_)
    refine pS 11 (some 19) (bs 23 4095) (h := ?_)
    refine pS 12 (some 20) (bs 23 8191) (h := ?_)
    refine pS 13 (some 21) (bs 23 16383) (h := ?_)
    refine pS 15 (some 23) (bs 23 49151) (h := ?_)
    refine pS 16 (some 24) (bs 23 114687) (h := ?_)
    refine pS 17 (some 25) (bs 23 245759) (h := ?_)
    refine tS 14 (some 22) (bs 23 262143) hHeld (h := ?_)
    refine tS 18 (some 26) (bs 23 524287) hHeld (h := ?_)
    refine pS 19 (some 27) (bs 23 1048575) (h := ?_)
    refine tS 20 (some 28) (bs 23 2097151) hHeld (h := ?_)
    refine pS 21 (some 29) (bs 23 4194303) (h := ?_)
    refine pS 22 (some 30) (bs 23 8388607) (h := ?_)
    refine done_ (by kernel_rfl) ?_
    go_wp2
    refine start_ (n := 11) (S := fun w' => w'.cell? ⟨g, 0, none⟩ = some (.slice (some ad) ws.length c0) ∧ w'.cell? ⟨g, 1, none⟩ = some (.int .i64 (j : Int))) (ds := []) (bs 11 0) (by kernel_rfl) rfl rfl ⟨hX0, hX1⟩ (fun hHeld => ?_)
    refine pS 0 (some 38) (bs 11 1) (h := ?_)
    refine pS 1 (some 39) (bs 11 3) (h := ?_)
    refine pS 2 (some 40) (bs 11 7) (h := ?_)
    refine pS 4 (some 42) (bs 11 23) (h := ?_)
    refine pS 5 (some 43) (bs 11 55) (h := ?_)
    refine pS 6 (some 44) (bs 11 119) (h := ?_)
    refine pS 7 (some 45) (bs 11 247) (h := ?_)
    refine tS 3 (some 41) (bs 11 255) hHeld (h := ?_)
    refine tS 8 (some 46) (bs 11 511) hHeld (h := ?_)
    refine pS 9 (some 47) (bs 11 1023) (h := ?_)
    refine pS 10 (some 2) (bs 11 2047) (h := ?_)
    refine done_ (by kernel_rfl) ?_
    go_wp2
    refine bodyPost_ret (results_tmp rfl _ _ _) rfl ?_
    exact ⟨AQ, c0 - at_, rfl, HCL.out, HQ.out, ⟨_, c0, v, by rw [← HJA.out]; exact HG.out, hge, hc0, HCx.out, HR.out, below_drew1 (below_drew1 HB.out)⟩, HO.out⟩
   ·have hltz : ¬ (j : Int) < (ws.length : Int) := by omega
    have hq1 : decide ((j : Int) < (ws.length : Int)) = false := decide_eq_false hltz
    go_wp2
    refine start_ (n := 23) (S := fun w' => w'.cell? ⟨g, 0, none⟩ = some (.slice A0 ws.length c0) ∧ w'.cell? ⟨g, 1, none⟩ = some (.int .i64 (j : Int))) (ds := []) (bs 23 0) (by kernel_rfl) rfl rfl ⟨hX0, hX1⟩ (fun hHeld => ?_)
    refine pS 0 (some 8) (bs 23 1) (h := ?_)
    refine pS 1 (some 9) (bs 23 3) (h := ?_)
    refine pS 2 (some 10) (bs 23 7) (h := ?_)
    refine pS 4 (some 12) (bs 23 23) (h := ?_)
    refine pS 5 (some 13) (bs 23 55) (h := ?_)
    refine pS 6 (some 14) (bs 23 119) (h := ?_)
    refine tS 3 (some 11) (bs 23 127) hHeld (h := ?_)
    refine tS 7 (some 15) (bs 23 255) hHeld (h := ?_)
    refine pS 8 (some 16) (bs 23 511) (h := ?_)
    refine pS 9 (some 17) (bs 23 1023) (h := ?_)
    refine pS 10 (some 18) (bs 23 2047) (h := ?_)
    refine pO 11 (some 19) (bs 23 4095) (h := ?_)
    refine pO 12 (some 20) (bs 23 8191) (h := ?_)
    refine pO 13 (some 21) (bs 23 16383) (h := ?_)
    refine pO 14 (some 22) (bs 23 32767) (h := ?_)
    refine pO 15 (some 23) (bs 23 65535) (h := ?_)
    refine pO 16 (some 24) (bs 23 131071) (h := ?_)
    refine pO 17 (some 25) (bs 23 262143) (h := ?_)
    refine pO 18 (some 26) (bs 23 524287) (h := ?_)
    refine pO 19 (some 27) (bs 23 1048575) (h := ?_)
    refine pO 20 (some 28) (bs 23 2097151) (h := ?_)
    refine pO 21 (some 29) (bs 23 4194303) (h := ?_)
    refine pS 22 (some 30) (bs 23 8388607) (h := ?_)
    refine done_ (by kernel_rfl) ?_
    go_wp2
    refine start_ (n := 11) (S := fun w' => w'.cell? ⟨g, 0, none⟩ = some (.slice A0 ws.length c0) ∧ w'.cell? ⟨g, 1, none⟩ = some (.int .i64 (j : Int))) (ds := []) (bs 11 0) (by kernel_rfl) rfl rfl ⟨hX0, hX1⟩ (fun hHeld => ?_)
    refine pS 0 (some 38) (bs 11 1) (h := ?_)
    refine pS 1 (some 39) (bs 11 3) (h := ?_)
    refine pS 2 (some 40) (bs 11 7) (h := ?_)
    refine pS 4 (some 42) (bs 11 23) (h := ?_)
    refine pS 5 (some 43) (bs 11 55) (h := ?_)
    refine pS 6 (some 44) (bs 11 119) (h := ?_)
    refine pS 7 (some 45) (bs 11 247) (h := ?_)
    refine tS 3 (some 41) (bs 11 255) hHeld (h := ?_)
    refine tS 8 (some 46) (bs 11 511) hHeld (h := ?_)
    refine pS 9 (some 47) (bs 11 1023) (h := ?_)
    refine pS 10 (some 2) (bs 11 2047) (h := ?_)
    refine done_ (by kernel_rfl) ?_
    go_wp2
    refine bodyPost_ret (results_tmp rfl _ _ _) rfl ?_
    exact ⟨AQ, c0 - at_, rfl, HCL.out, HQ.out, ⟨_, c0, v, by rw [← HJA.out]; exact HG.out, hge, hc0, HCx.out, HR.out, below_drew1 (below_drew1 HB.out)⟩, HO.out⟩
end Go.Proofs.YtoadabodhdgdjaaDoor.St
