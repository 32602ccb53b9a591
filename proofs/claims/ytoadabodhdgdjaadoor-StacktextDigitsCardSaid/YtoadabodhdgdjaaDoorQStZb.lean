import Derived.Test.YtoadabodhdgdjaaDoorQStZa
import Derived.Test.YtoadabodhdgdjaaDoorQS0
namespace Go.Proofs.YtoadabodhdgdjaaDoor.St
open Go.Proofs.YtoadabodhdgdjaaDoor.S0
open Go.RowKit Go.Maps Go.Proofs.YtoadabodhdgdjaaDoorW.PrintWords Go.Proofs.YtoadabodhdgdjaaDoorW.PrintLast Go.Proofs.YtoadabodhdgdjaaDoorW.PrintMore
attribute [local go_sem] max2_int min2_int max_two min_two max_three min_three max_four min_four
set_option linter.unusedVariables false
set_option linter.unusedSimpArgs false
theorem boxO {W W' : World} {g b : Nat} {cs : Array Value} {t : TypeId} {fr : Nat × Nat} (hk : Lib.OthersKept 5 (some g) W W') (hb : W.heap[b]? = some (.cells cs t fr)) (hne : b ≠ g) (ht : t ≠ 5) : W'.heap[b]? = some (.cells cs t fr) :=
 hk b _ hb (fun e => hne (Option.some.inj e)) (fun c fz e => by cases e; exact ht rfl)
def decL (k : Nat) (ws : List Int) : Nat → Nat → (Int × Int) → Bool → List Int → Option (List Int)
 | 0, _, _, _, _ => none
 | f + 1, j, t, act, out => if out.length ≤ 1000000 then
   if j < ws.length then
    if rd ws (j : Int) < 900 then (dataL k t [wrap64 (Int.tdiv (rd ws (j : Int)) 30), Int.tmod (rd ws (j : Int)) 30] out).bind fun r => decL k ws f (j + 1) r.1 act r.2
    else if rd ws (j : Int) = 900 then decL k ws f (j + 1) (0, -1) true out
    else if rd ws (j : Int) = 913 ∧ act = true then (if j + 1 < ws.length ∧ rd ws ((j + 1 : Nat) : Int) ≤ 255 then decL k ws f (j + 2) (t.1, -1) act (out ++ [rd ws ((j + 1 : Nat) : Int)]) else none)
    else if rd ws (j : Int) = 901 ∨ rd ws (j : Int) = 924 then (bytesF (rd ws (j : Int)) (runL ws (j + 1))).bind fun r =>
     if j + 1 + (runL ws (j + 1)).length < ws.length ∧ rd ws ((j + 1 + (runL ws (j + 1)).length : Nat) : Int) = 913 then none else decL k ws f (j + 1 + (runL ws (j + 1)).length) t false (out ++ r)
    else if rd ws (j : Int) = 902 then (stacktext_expanded.f k (runL ws (j + 1))).bind fun r => if r.2 = true then
     if j + 1 + (runL ws (j + 1)).length < ws.length ∧ rd ws ((j + 1 + (runL ws (j + 1)).length : Nat) : Int) = 913 then none else decL k ws f (j + 1 + (runL ws (j + 1)).length) t false (out ++ bytesOf r.1)
     else none
    else none
   else some out
  else none
theorem decL_len {k : Nat} {ws : List Int} {f j : Nat} {t : Int × Int} {act : Bool} {out r : List Int} (h : decL k ws f j t act out = some r) : out.length ≤ 1000000 := by
 cases f with
 | zero => cases h
 | succ f =>
  unfold decL at h
  by_cases hl : out.length ≤ 1000000
  ·exact hl
  ·rw [if_neg hl] at h; cases h
set_option maxHeartbeats 16000000 in
set_option maxRecDepth 100000 in
theorem decode_calls (k : Nat) (g : Nat) (ws : List Int) (w0 w : World) (hI : DI w0 w g ws 0 []) (hlen : ws.length ≤ 1000000) (hpos : ∀ x, x ∈ ws → 0 ≤ x) (f0 : Nat) (r : List Int) (h : decL k ws f0 0 (0, -1) true [] = some r) :
  Calls Tryd.prog 30 #[.pointer (some ⟨g, 0, none⟩)] w fun e w' => e = .returned (.tuple #[]) ∧ (∃ j, DI w0 w' g ws j r) ∧ Lib.OthersKept 5 (some g) w w' := by
 have HI := am hI
 have H := am h
 have HP := am hpos
 clear hI h hpos
 go_enter Tryd.func30, Tryd.ntmps30
 go_wp2
 have hal := below_alloc (Below.refl w.heap.size w) (.cells #[.int .i64 0, .int .i64 (-1)] 56 (0, 0))
 have HD0 := am (DI.below HI.out hal)
 have HO0 := am (Lib.OthersKept.below (Lib.OthersKept.refl 5 (some g) w) hal)
 have BX0 := World.alloc_heap_new w (.cells #[.int .i64 0, .int .i64 (-1)] 56 (0, 0))
 have hgw := HI.out.lt
 have hw0 := HI.out.bel.size
 obtain ⟨g2, hg2e⟩ : ∃ x, w.heap.size = x := ⟨_, rfl⟩
 have hge2 : w0.heap.size ≤ g2 := by omega
 have hww2 : w.heap.size ≤ g2 := by omega
 have hg2 : g2 ≠ g := by omega
 have hg2' : ¬ g = g2 := by omega
 have hg2n : ¬ g2 = g := hg2
 rw [hg2e] at BX0 ⊢
 have HBX0 := am BX0
 clear BX0 hal HI hg2e
 go_loopg [3] f0 (fun gg v3 wr => ∃ (f j : Nat) (t : Int × Int) (act : Bool) (out : List Int), v3 = .bool act ∧ j ≤ ws.length ∧ f ≤ gg ∧ Aside0 (decL k ws f j t act out = some r) ∧ Aside0 (DI w0 wr g ws j out) ∧ Aside0 (wr.heap[g2]? = some (.cells #[.int .i64 t.1, .int .i64 t.2] 56 (0, 0))) ∧ Aside0 (Lib.OthersKept 5 (some g) w wr))
 case atStart => exact ⟨f0, 0, (0, -1), true, [], rfl, Nat.zero_le _, Nat.le_refl _, H, HD0, HBX0, HO0⟩
 case round =>
  clear H HD0 HBX0 HO0
  obtain ⟨f, j, t, act, out, rfl, hj, hf, HF, HD, HBX, HO⟩ := hrel
  rename World => wq
  have hol := decL_len HF.out
  cases f with
  | zero => exact absurd HF.out (by unfold decL; simp)
  | succ f =>
   have hF := HF.out
   unfold decL at hF
   rw [if_pos hol] at hF
   obtain ⟨A0, c0, v, HG, hge, hc0, HCw, HR, HB⟩ := HD.out
   have hX0 : wq.drew.cell? ⟨g, 0, none⟩ = some (.slice A0 ws.length c0) := (blk_cell HG 0).trans rfl
   have hX1 : wq.drew.cell? ⟨g, 1, none⟩ = some (.int .i64 (j : Int)) := (blk_cell HG 1).trans rfl
   have hfz : wq.frozen? ⟨g, 1, none⟩ = false := blk_frozen HG 1
   have HCx := am HCw
   have HBx := am HB
   clear HG HCw HR HB HF
   by_cases hlt : j < ws.length
   ·rw [if_pos hlt] at hF
    obtain ⟨ad, ea, hx⟩ := Kd.at_int (Kd.C_below HCx.out HBx.out) (j : Int) (by omega) (by omega)
    cases ea
    rw [Int.toNat_natCast] at hx
    have hj1 : j + 1 ≤ ws.length := hlt
    obtain ⟨x, hxx⟩ : ∃ x, rd ws (j : Int) = x := ⟨_, rfl⟩
    rw [hxx] at hx hF
    have Hxx := am hxx
    have HFx := am hF
    clear hF hxx
    have hX2 : wq.drew.cell? (ad.add j) = some (.int .i64 x) := hx
    have hq1 : decide ((j : Int) < (ws.length : Int)) = true := decide_eq_true (by omega)
    go_wp2
    refine start_ (n := 10) (S := fun w' => w'.cell? ⟨g, 0, none⟩ = some (.slice (some ad) ws.length c0) ∧ w'.cell? ⟨g, 1, none⟩ = some (.int .i64 (j : Int))) (ds := []) (bs 10 0) (by kernel_rfl) rfl rfl ⟨hX0, hX1⟩ (fun hHeld => ?_)
    refine pS 0 (some 6) (bs 10 1) (h := ?_)
    refine pS 1 (some 7) (bs 10 3) (h := ?_)
    refine pS 2 (some 8) (bs 10 7) (h := ?_)
    refine pS 4 (some 10) (bs 10 23) (h := ?_)
    refine pS 5 (some 11) (bs 10 55) (h := ?_)
    refine pS 6 (some 12) (bs 10 119) (h := ?_)
    refine tS 3 (some 9) (bs 10 127) hHeld (h := ?_)
    refine tS 7 (some 13) (bs 10 255) hHeld (h := ?_)
    refine pS 8 (some 14) (bs 10 511) (h := ?_)
    refine pS 9 (some 15) (bs 10 1023) (h := ?_)
    refine done_ (by kernel_rfl) ?_
    go_wp2
    refine start_ (n := 11) (S := fun w' => w'.cell? ⟨g, 0, none⟩ = some (.slice (some ad) ws.length c0) ∧ w'.cell? ⟨g, 1, none⟩ = some (.int .i64 (j : Int)) ∧ w'.cell? (ad.add j) = some (.int .i64 x)) (ds := []) (bs 11 0) (by kernel_rfl) rfl rfl ⟨hX0, hX1, hX2⟩ (fun hHeld => ?_)
    refine pS 0 (some 16) (bs 11 1) (h := ?_)
    refine pS 1 (some 17) (bs 11 3) (h := ?_)
    refine pS 2 (some 18) (bs 11 7) (h := ?_)
    refine pS 4 (some 20) (bs 11 23) (h := ?_)
    refine pS 5 (some 21) (bs 11 55) (h := ?_)
    refine pS 6 (some 22) (bs 11 119) (h := ?_)
    refine tS 3 (some 19) (bs 11 127) hHeld (h := ?_)
    refine tS 7 (some 23) (bs 11 255) hHeld (h := ?_)
    refine pS 8 (some 24) (bs 11 511) (h := ?_)
    refine tS 9 (some 25) (bs 11 1023) hHeld (h := ?_)
    refine pS 10 (some 4) (bs 11 2047) (h := ?_)
    refine done_ (by kernel_rfl) ?_
    clear hX0 hX2 hx hq1
    have hc1 : wq.cell? ⟨g, 1, none⟩ = some (.int .i64 (j : Int)) := hX1
    have hb0 : wq.cell? ⟨g2, 0, none⟩ = some (.int .i64 t.1) := (blk_cell HBX.out 0).trans rfl
    have hb1 : wq.cell? ⟨g2, 1, none⟩ = some (.int .i64 t.2) := (blk_cell HBX.out 1).trans rfl
    have hbf0 : wq.frozen? ⟨g2, 0, none⟩ = false := blk_frozen HBX.out 0
    have hbf1 : wq.frozen? ⟨g2, 1, none⟩ = false := blk_frozen HBX.out 1
    clear hX1
    have HD3 := am (DI.setAt HD.out (j + 1) ((j : Int) + 1) (by omega)).drew.drew
    have HBX3 : Aside0 ((wq.setCell ⟨g, 1, none⟩ (.int .i64 ((j : Int) + 1))).drew.drew.heap[g2]? = some (.cells #[.int .i64 t.1, .int .i64 t.2] 56 (0, 0))) := ⟨(Below.heap_setCell wq ⟨g, 1, none⟩ _ g2 hg2).trans HBX.out⟩
    have HO3 : Aside0 (Lib.OthersKept 5 (some g) w (wq.setCell ⟨g, 1, none⟩ (.int .i64 ((j : Int) + 1))).drew.drew) := ⟨Lib.OthersKept.setCell HO.out ⟨g, 1, none⟩ rfl (.int .i64 ((j : Int) + 1))⟩
    have HD30 := am (DI.setAt HD.out (j + 1) ((j : Int) + 1) (by omega))
    have HBX30 : Aside0 ((wq.setCell ⟨g, 1, none⟩ (.int .i64 ((j : Int) + 1))).heap[g2]? = some (.cells #[.int .i64 t.1, .int .i64 t.2] 56 (0, 0))) := ⟨HBX3.out⟩
    have HO30 : Aside0 (Lib.OthersKept 5 (some g) w (wq.setCell ⟨g, 1, none⟩ (.int .i64 ((j : Int) + 1)))) := ⟨HO3.out⟩
    clear HD HBX HO
    by_cases h9 : x < 900
    ·have hF := HFx.out
     rw [if_pos h9] at hF
     obtain ⟨⟨t2, out2⟩, hdat, hF2⟩ := Option.bind_eq_some_iff.1 hF
     have Hdat := am hdat
     have HF2 := am hF2
     clear hF hdat hF2 HFx
     have hd9 : decide (x < 900) = true := decide_eq_true h9
     go_wp2_with (((with_reducible refine gate_callee (f := 51) rfl ?_); refine gL (some 40) Tryd.func51 #[.pointer (some ⟨g, 0, none⟩), .agg #[.int .i64 t.1, .int .i64 t.2], .int .i64 x] (h := ?_); (with_reducible refine (data_calls k g ws (j + 1) out w0 _ HD3.out hol t x t2 out2 Hdat.out).mono ?_); rintro e w5 ⟨rfl, hD5, hO5⟩; refine ⟨_, rfl, ?_⟩; have HD5 := am hD5; have B5 := am (boxO hO5 HBX3.out hg2 (by decide)); have HO5 := am (Lib.OthersKept.trans HO3.out hO5); clear hD5 hO5; have hc0 : w5.cell? ⟨g2, 0, none⟩ = some (.int .i64 t.1) := (blk_cell B5.out 0).trans rfl; have hc1 : w5.cell? ⟨g2, 1, none⟩ = some (.int .i64 t.2) := (blk_cell B5.out 1).trans rfl; have hf0 := blk_frozen B5.out 0; have hf1 := blk_frozen B5.out 1))
     go_roundg f
     case measure => omega
     case rel => exact ⟨f, j + 1, t2, act, out2, rfl, hj1, Nat.le_refl _, HF2, ⟨DI.other (DI.other HD5.out B5.out (by decide) (by decide) hge2 0 _) (blk_set B5.out 0 _) (by decide) (by decide) hge2 1 _⟩, ⟨blk_put (blk_put B5.out 0 _ rfl) 1 _ rfl⟩, ⟨OthersKept_far (OthersKept_far HO5.out hww2 _) hww2 _⟩⟩
    ·have hd9 : decide (x < 900) = false := decide_eq_false h9
     have hF := HFx.out
     rw [if_neg h9] at hF
     by_cases h90 : x = 900
     ·rw [if_pos h90] at hF
      have HF2 := am hF
      subst h90
      clear hF HFx
      go_wp2
      go_roundg f
      case measure => omega
      case rel => exact ⟨f, j + 1, (0, -1), true, out, rfl, hj1, Nat.le_refl _, HF2, ⟨DI.other (DI.other HD3.out HBX3.out (by decide) (by decide) hge2 0 _) (blk_set HBX3.out 0 _) (by decide) (by decide) hge2 1 _⟩, ⟨blk_put (blk_put HBX3.out 0 _ rfl) 1 _ rfl⟩, ⟨OthersKept_far (OthersKept_far HO3.out hww2 _) hww2 _⟩⟩
     ·rw [if_neg h90] at hF
      have hd90 : (x == 900) = false := by simpa using h90
      by_cases h913 : x = 913 ∧ act = true
      ·rw [if_pos h913] at hF
       obtain ⟨rfl, rfl⟩ := h913
       by_cases hs : j + 1 < ws.length ∧ rd ws ((j + 1 : Nat) : Int) ≤ 255
       ·rw [if_pos hs] at hF
        obtain ⟨hj2, hy255⟩ := hs
        obtain ⟨y, hy⟩ : ∃ y, rd ws ((j + 1 : Nat) : Int) = y := ⟨_, rfl⟩
        rw [hy] at hF hy255
        have hy0 : 0 ≤ y := by
         rw [← hy]
         have e : rd ws ((j + 1 : Nat) : Int) = ws[j + 1] := by simp [rd, List.getD_eq_getElem?_getD, hj2]
         rw [e]
         exact HP.out _ (List.getElem_mem hj2)
        have HF2 := am hF
        clear hF HFx hd9 hd90 h9 h90
        go_wp2_with (((with_reducible refine gate_callee (f := 52) rfl ?_); refine gL (some 53) Tryd.func52 #[.pointer (some ⟨g, 0, none⟩)] (h := ?_); (with_reducible refine (single_calls g ws (j + 1) out w0 _ (DI.other HD30.out HBX30.out (by decide) (by decide) hge2 1 _).drew.drew hj2 hlen hol y hy hy0 hy255).mono ?_); rintro e w5 ⟨rfl, hD5, hO5⟩; refine ⟨_, rfl, ?_⟩; have HD5 := am hD5; have B5 := am (boxO hO5 (blk_put HBX30.out 1 _ rfl) hg2 (by decide)); have HO5 := am (Lib.OthersKept.trans (OthersKept_far HO30.out hww2 _) hO5); clear hD5 hO5))
        go_roundg f
        case measure => omega
        case rel => exact ⟨f, j + 2, (t.1, -1), true, out ++ [y], rfl, by omega, Nat.le_refl _, HF2, HD5, ⟨B5.out⟩, HO5⟩
       ·rw [if_neg hs] at hF; cases hF
      ·rw [if_neg h913] at hF
       have hd913 : (x == 913 && act) = false := by
        cases act with
        | false => simp
        | true => simpa using (fun e => h913 ⟨e, rfl⟩ : ¬ x = 913)
       by_cases hby : x = 901 ∨ x = 924
       ·rw [if_pos hby] at hF
        obtain ⟨r2, hbf, hF2⟩ := Option.bind_eq_some_iff.1 hF
        have Hby := am hbf
        obtain ⟨j5, hj5⟩ : ∃ j5, j + 1 + (runL ws (j + 1)).length = j5 := ⟨_, rfl⟩
        have hj5l : j5 ≤ ws.length := by have := runL_len ws (j + 1); omega
        rw [hj5] at hF2
        have hrl : out.length + r2.length ≤ 1000000 := by
         by_cases hc : j5 < ws.length ∧ rd ws ((j5 : Nat) : Int) = 913
         ·rw [if_pos hc] at hF2; cases hF2
         ·rw [if_neg hc] at hF2
          have := decL_len hF2
          rwa [List.length_append] at this
        have Hrest := am hF2
        have Hj5 := am hj5
        clear hF hbf hF2 HFx h913 hj5
        rcases hby with h901 | h924
        ·subst h901
         clear hd9 hd90 hd913
         go_wp2_with (((with_reducible refine gate_callee (f := 53) rfl ?_); refine gL (some 63) Tryd.func53 #[.pointer (some ⟨g, 0, none⟩), .int .i64 901] (h := ?_); (with_reducible refine (bytes_calls g ws (j + 1) out w0 _ HD3.out hj1 hlen hol 901 r2 Hby.out hrl).mono ?_); rintro e w5 ⟨rfl, hD5, hO5⟩; refine ⟨_, rfl, ?_⟩; have HD5 := am hD5; have B5 := am (boxO hO5 HBX3.out hg2 (by decide)); have HO5 := am (Lib.OthersKept.trans HO3.out hO5); clear hD5 hO5))
         rw [Hj5.out] at HD5
         obtain ⟨A5, c5, v5, HG5, hge5, hc05, HC5, HR5, HB5⟩ := HD5.out
         have hX0 : w5.drew.cell? ⟨g, 0, none⟩ = some (.slice A5 ws.length c5) := (blk_cell HG5 0).trans rfl
         have hX1 : w5.drew.cell? ⟨g, 1, none⟩ = some (.int .i64 (j5 : Nat)) := (blk_cell HG5 1).trans rfl
         have HC5x := am HC5
         have HB5x := am HB5
         clear HG5 HC5 HR5 HB5
         by_cases hlt5 : j5 < ws.length
         ·obtain ⟨ad5, ea5, hx5⟩ := Kd.at_int (Kd.C_below HC5x.out HB5x.out) (j5 : Int) (by omega) (by omega)
          cases ea5
          rw [Int.toNat_natCast] at hx5
          have hne5 : ¬ rd ws (j5 : Int) = 913 := fun e => by
           have := Hrest.out
           rw [if_pos ⟨hlt5, e⟩] at this
           cases this
          have Hrest2 := am (show decL k ws f j5 t false (out ++ r2) = some r by have := Hrest.out; rw [if_neg (fun h => hne5 h.2)] at this; exact this)
          obtain ⟨y5, hy5⟩ : ∃ y, rd ws (j5 : Int) = y := ⟨_, rfl⟩
          rw [hy5] at hx5 hne5
          have hX2 : w5.drew.cell? (ad5.add j5) = some (.int .i64 y5) := hx5
          have hb1 : decide ((j5 : Int) < (ws.length : Int)) = true := decide_eq_true (by omega)
          have hb2 : (y5 == 913) = false := by simpa using hne5
          refine start_ (n := 23) (S := fun w' => w'.cell? ⟨g, 0, none⟩ = some (.slice (some ad5) ws.length c5) ∧ w'.cell? ⟨g, 1, none⟩ = some (.int .i64 (j5 : Nat)) ∧ w'.cell? (ad5.add j5) = some (.int .i64 y5)) (ds := []) (bs 23 0) (by kernel_rfl) rfl rfl ⟨hX0, hX1, hX2⟩ (fun hHeld => ?_)
          refine pS 0 (some 69) (bs 23 1) (h := ?_)
          refine pS 1 (some 70) (bs 23 3) (h := ?_)
          refine pS 2 (some 71) (bs 23 7) (h := ?_)
          refine pS 4 (some 73) (bs 23 23) (h := ?_)
          refine pS 5 (some 74) (bs 23 55) (h := ?_)
          refine pS 6 (some 75) (bs 23 119) (h := ?_)
          refine tS 3 (some 72) (bs 23 127) hHeld (h := ?_)
          refine tS 7 (some 76) (bs 23 255) hHeld (h := ?_)
          refine pS 8 (some 77) (bs 23 511) (h := ?_)
          refine pS 9 (some 78) (bs 23 1023) (h := ?_)
          refine pS 10 (some 79) (bs 23 2047) (h := ?_)
          refine pS 11 (some 80) (bs 23 4095) (h := ?_)
          refine pS 12 (some 81) (bs 23 8191) (h := ?_)
          refine pS 13 (some 82) (bs 23 16383) (h := ?_)
          refine pS 15 (some 84) (bs 23 49151) (h := ?_)
          refine pS 16 (some 85) (bs 23 114687) (h := ?_)
          refine pS 17 (some 86) (bs 23 245759) (h := ?_)
          refine tS 14 (some 83) (bs 23 262143) hHeld (h := ?_)
          refine tS 18 (some 87) (bs 23 524287) hHeld (h := ?_)
          refine pS 19 (some 88) (bs 23 1048575) (h := ?_)
          refine tS 20 (some 89) (bs 23 2097151) hHeld (h := ?_)
          refine pS 21 (some 90) (bs 23 4194303) (h := ?_)
          refine pS 22 (some 91) (bs 23 8388607) (h := ?_)
          refine done_ (by kernel_rfl) ?_
          go_wp2
          go_roundg f
          case measure => omega
          case rel => exact ⟨f, j5, t, false, out ++ r2, rfl, by omega, Nat.le_refl _, Hrest2, ⟨HD5.out.drew⟩, ⟨B5.out⟩, ⟨HO5.out⟩⟩
         ·have Hrest2 := am (show decL k ws f j5 t false (out ++ r2) = some r by have := Hrest.out; rw [if_neg (fun h => hlt5 h.1)] at this; exact this)
          have hb1 : decide ((j5 : Int) < (ws.length : Int)) = false := decide_eq_false (by omega)
          refine start_ (n := 23) (S := fun w' => w'.cell? ⟨g, 0, none⟩ = some (.slice A5 ws.length c5) ∧ w'.cell? ⟨g, 1, none⟩ = some (.int .i64 (j5 : Nat))) (ds := []) (bs 23 0) (by kernel_rfl) rfl rfl ⟨hX0, hX1⟩ (fun hHeld => ?_)
          refine pS 0 (some 69) (bs 23 1) (h := ?_)
          refine pS 1 (some 70) (bs 23 3) (h := ?_)
          refine pS 2 (some 71) (bs 23 7) (h := ?_)
          refine pS 4 (some 73) (bs 23 23) (h := ?_)
          refine pS 5 (some 74) (bs 23 55) (h := ?_)
          refine pS 6 (some 75) (bs 23 119) (h := ?_)
          refine tS 3 (some 72) (bs 23 127) hHeld (h := ?_)
          refine tS 7 (some 76) (bs 23 255) hHeld (h := ?_)
          refine pS 8 (some 77) (bs 23 511) (h := ?_)
          refine pS 9 (some 78) (bs 23 1023) (h := ?_)
          refine pS 10 (some 79) (bs 23 2047) (h := ?_)
          refine pO 11 (some 80) (bs 23 4095) (h := ?_)
          refine pO 12 (some 81) (bs 23 8191) (h := ?_)
          refine pO 13 (some 82) (bs 23 16383) (h := ?_)
          refine pO 14 (some 83) (bs 23 32767) (h := ?_)
          refine pO 15 (some 84) (bs 23 65535) (h := ?_)
          refine pO 16 (some 85) (bs 23 131071) (h := ?_)
          refine pO 17 (some 86) (bs 23 262143) (h := ?_)
          refine pO 18 (some 87) (bs 23 524287) (h := ?_)
          refine pO 19 (some 88) (bs 23 1048575) (h := ?_)
          refine pO 20 (some 89) (bs 23 2097151) (h := ?_)
          refine pO 21 (some 90) (bs 23 4194303) (h := ?_)
          refine pS 22 (some 91) (bs 23 8388607) (h := ?_)
          refine done_ (by kernel_rfl) ?_
          go_wp2
          go_roundg f
          case measure => omega
          case rel => exact ⟨f, j5, t, false, out ++ r2, rfl, by omega, Nat.le_refl _, Hrest2, ⟨HD5.out.drew⟩, ⟨B5.out⟩, ⟨HO5.out⟩⟩
        ·subst h924
         clear hd9 hd90 hd913
         go_wp2_with (((with_reducible refine gate_callee (f := 53) rfl ?_); refine gL (some 63) Tryd.func53 #[.pointer (some ⟨g, 0, none⟩), .int .i64 924] (h := ?_); (with_reducible refine (bytes_calls g ws (j + 1) out w0 _ HD3.out hj1 hlen hol 924 r2 Hby.out hrl).mono ?_); rintro e w5 ⟨rfl, hD5, hO5⟩; refine ⟨_, rfl, ?_⟩; have HD5 := am hD5; have B5 := am (boxO hO5 HBX3.out hg2 (by decide)); have HO5 := am (Lib.OthersKept.trans HO3.out hO5); clear hD5 hO5))
         rw [Hj5.out] at HD5
         obtain ⟨A5, c5, v5, HG5, hge5, hc05, HC5, HR5, HB5⟩ := HD5.out
         have hX0 : w5.drew.cell? ⟨g, 0, none⟩ = some (.slice A5 ws.length c5) := (blk_cell HG5 0).trans rfl
         have hX1 : w5.drew.cell? ⟨g, 1, none⟩ = some (.int .i64 (j5 : Nat)) := (blk_cell HG5 1).trans rfl
         have HC5x := am HC5
         have HB5x := am HB5
         clear HG5 HC5 HR5 HB5
         by_cases hlt5 : j5 < ws.length
         ·obtain ⟨ad5, ea5, hx5⟩ := Kd.at_int (Kd.C_below HC5x.out HB5x.out) (j5 : Int) (by omega) (by omega)
          cases ea5
          rw [Int.toNat_natCast] at hx5
          have hne5 : ¬ rd ws (j5 : Int) = 913 := fun e => by
           have := Hrest.out
           rw [if_pos ⟨hlt5, e⟩] at this
           cases this
          have Hrest2 := am (show decL k ws f j5 t false (out ++ r2) = some r by have := Hrest.out; rw [if_neg (fun h => hne5 h.2)] at this; exact this)
          obtain ⟨y5, hy5⟩ : ∃ y, rd ws (j5 : Int) = y := ⟨_, rfl⟩
          rw [hy5] at hx5 hne5
          have hX2 : w5.drew.cell? (ad5.add j5) = some (.int .i64 y5) := hx5
          have hb1 : decide ((j5 : Int) < (ws.length : Int)) = true := decide_eq_true (by omega)
          have hb2 : (y5 == 913) = false := by simpa using hne5
          refine start_ (n := 23) (S := fun w' => w'.cell? ⟨g, 0, none⟩ = some (.slice (some ad5) ws.length c5) ∧ w'.cell? ⟨g, 1, none⟩ = some (.int .i64 (j5 : Nat)) ∧ w'.cell? (ad5.add j5) = some (.int .i64 y5)) (ds := []) (bs 23 0) (by kernel_rfl) rfl rfl ⟨hX0, hX1, hX2⟩ (fun hHeld => ?_)
          refine pS 0 (some 69) (bs 23 1) (h := ?_)
          refine pS 1 (some 70) (bs 23 3) (h := ?_)
          refine pS 2 (some 71) (bs 23 7) (h := ?_)
          refine pS 4 (some 73) (bs 23 23) (h := ?_)
          refine pS 5 (some 74) (bs 23 55) (h := ?_)
          refine pS 6 (some 75) (bs 23 119) (h := ?_)
          refine tS 3 (some 72) (bs 23 127) hHeld (h := ?_)
          refine tS 7 (some 76) (bs 23 255) hHeld (h := ?_)
          refine pS 8 (some 77) (bs 23 511) (h := ?_)
          refine pS 9 (some 78) (bs 23 1023) (h := ?_)
          refine pS 10 (some 79) (bs 23 2047) (h := ?_)
          refine pS 11 (some 80) (bs 23 4095) (h := ?_)
          refine pS 12 (some 81) (bs 23 8191) (h := ?_)
          refine pS 13 (some 82) (bs 23 16383) (h := ?_)
          refine pS 15 (some 84) (bs 23 49151) (h := ?_)
          refine pS 16 (some 85) (bs 23 114687) (h := ?_)
          refine pS 17 (some 86) (bs 23 245759) (h := ?_)
          refine tS 14 (some 83) (bs 23 262143) hHeld (h := ?_)
          refine tS 18 (some 87) (bs 23 524287) hHeld (h := ?_)
          refine pS 19 (some 88) (bs 23 1048575) (h := ?_)
          refine tS 20 (some 89) (bs 23 2097151) hHeld (h := ?_)
          refine pS 21 (some 90) (bs 23 4194303) (h := ?_)
          refine pS 22 (some 91) (bs 23 8388607) (h := ?_)
          refine done_ (by kernel_rfl) ?_
          go_wp2
          go_roundg f
          case measure => omega
          case rel => exact ⟨f, j5, t, false, out ++ r2, rfl, by omega, Nat.le_refl _, Hrest2, ⟨HD5.out.drew⟩, ⟨B5.out⟩, ⟨HO5.out⟩⟩
         ·have Hrest2 := am (show decL k ws f j5 t false (out ++ r2) = some r by have := Hrest.out; rw [if_neg (fun h => hlt5 h.1)] at this; exact this)
          have hb1 : decide ((j5 : Int) < (ws.length : Int)) = false := decide_eq_false (by omega)
          refine start_ (n := 23) (S := fun w' => w'.cell? ⟨g, 0, none⟩ = some (.slice A5 ws.length c5) ∧ w'.cell? ⟨g, 1, none⟩ = some (.int .i64 (j5 : Nat))) (ds := []) (bs 23 0) (by kernel_rfl) rfl rfl ⟨hX0, hX1⟩ (fun hHeld => ?_)
          refine pS 0 (some 69) (bs 23 1) (h := ?_)
          refine pS 1 (some 70) (bs 23 3) (h := ?_)
          refine pS 2 (some 71) (bs 23 7) (h := ?_)
          refine pS 4 (some 73) (bs 23 23) (h := ?_)
          refine pS 5 (some 74) (bs 23 55) (h := ?_)
          refine pS 6 (some 75) (bs 23 119) (h := ?_)
          refine tS 3 (some 72) (bs 23 127) hHeld (h := ?_)
          refine tS 7 (some 76) (bs 23 255) hHeld (h := ?_)
          refine pS 8 (some 77) (bs 23 511) (h := ?_)
          refine pS 9 (some 78) (bs 23 1023) (h := ?_)
          refine pS 10 (some 79) (bs 23 2047) (h := ?_)
          refine pO 11 (some 80) (bs 23 4095) (h := ?_)
          refine pO 12 (some 81) (bs 23 8191) (h := ?_)
          refine pO 13 (some 82) (bs 23 16383) (h := ?_)
          refine pO 14 (some 83) (bs 23 32767) (h := ?_)
          refine pO 15 (some 84) (bs 23 65535) (h := ?_)
          refine pO 16 (some 85) (bs 23 131071) (h := ?_)
          refine pO 17 (some 86) (bs 23 262143) (h := ?_)
          refine pO 18 (some 87) (bs 23 524287) (h := ?_)
          refine pO 19 (some 88) (bs 23 1048575) (h := ?_)
          refine pO 20 (some 89) (bs 23 2097151) (h := ?_)
          refine pO 21 (some 90) (bs 23 4194303) (h := ?_)
          refine pS 22 (some 91) (bs 23 8388607) (h := ?_)
          refine done_ (by kernel_rfl) ?_
          go_wp2
          go_roundg f
          case measure => omega
          case rel => exact ⟨f, j5, t, false, out ++ r2, rfl, by omega, Nat.le_refl _, Hrest2, ⟨HD5.out.drew⟩, ⟨B5.out⟩, ⟨HO5.out⟩⟩
       ·rw [if_neg hby] at hF
        by_cases h902 : x = 902
        ·rw [if_pos h902] at hF
         obtain ⟨⟨s2, b2⟩, hex, hF2⟩ := Option.bind_eq_some_iff.1 hF
         cases b2 with
         | false => cases hF2
         | true =>
          have Hex : Aside0 (stacktext_expanded.f k (runL ws (j + 1)) = some (s2, true)) := ⟨hex⟩
          obtain ⟨j5, hj5⟩ : ∃ j5, j + 1 + (runL ws (j + 1)).length = j5 := ⟨_, rfl⟩
          have hj5l : j5 ≤ ws.length := by have := runL_len ws (j + 1); omega
          have hF3 : (if j5 < ws.length ∧ rd ws ((j5 : Nat) : Int) = 913 then none else decL k ws f j5 t false (out ++ bytesOf s2)) = some r := by
           have := hF2
           rw [hj5] at this
           exact this
          have hsl : out.length + s2.size ≤ 140737488355328 := by
           by_cases hc : j5 < ws.length ∧ rd ws ((j5 : Nat) : Int) = 913
           ·rw [if_pos hc] at hF3; cases hF3
           ·rw [if_neg hc] at hF3
            have := decL_len hF3
            rw [List.length_append, bytesOf_length] at this
            omega
          have Hrest := am hF3
          have Hj5 := am hj5
          clear hF hex hF2 hF3 HFx h913 hj5
          subst h902
          clear hd9 hd90 hd913
          go_wp2_with (((with_reducible refine gate_callee (f := 54) rfl ?_); refine gL (some 68) Tryd.func54 #[.pointer (some ⟨g, 0, none⟩)] (h := ?_); (with_reducible refine (numbers_calls k g ws (j + 1) out w0 _ HD3.out hj1 hlen s2 Hex.out hsl).mono ?_); rintro e w5 ⟨rfl, hD5, hO5⟩; refine ⟨_, rfl, ?_⟩; have HD5 := am hD5; have B5 := am (boxO hO5 HBX3.out hg2 (by decide)); have HO5 := am (Lib.OthersKept.trans HO3.out hO5); clear hD5 hO5))
          rw [Hj5.out] at HD5
          obtain ⟨A5, c5, v5, HG5, hge5, hc05, HC5, HR5, HB5⟩ := HD5.out
          have hX0 : w5.drew.cell? ⟨g, 0, none⟩ = some (.slice A5 ws.length c5) := (blk_cell HG5 0).trans rfl
          have hX1 : w5.drew.cell? ⟨g, 1, none⟩ = some (.int .i64 (j5 : Nat)) := (blk_cell HG5 1).trans rfl
          have HC5x := am HC5
          have HB5x := am HB5
          clear HG5 HC5 HR5 HB5
          by_cases hlt5 : j5 < ws.length
          ·obtain ⟨ad5, ea5, hx5⟩ := Kd.at_int (Kd.C_below HC5x.out HB5x.out) (j5 : Int) (by omega) (by omega)
           cases ea5
           rw [Int.toNat_natCast] at hx5
           have hne5 : ¬ rd ws (j5 : Int) = 913 := fun e => by
            have := Hrest.out
            rw [if_pos ⟨hlt5, e⟩] at this
            cases this
           have Hrest2 := am (show decL k ws f j5 t false (out ++ bytesOf s2) = some r by have := Hrest.out; rw [if_neg (fun h => hne5 h.2)] at this; exact this)
           obtain ⟨y5, hy5⟩ : ∃ y, rd ws (j5 : Int) = y := ⟨_, rfl⟩
           rw [hy5] at hx5 hne5
           have hX2 : w5.drew.cell? (ad5.add j5) = some (.int .i64 y5) := hx5
           have hb1 : decide ((j5 : Int) < (ws.length : Int)) = true := decide_eq_true (by omega)
           have hb2 : (y5 == 913) = false := by simpa using hne5
           refine start_ (n := 23) (S := fun w' => w'.cell? ⟨g, 0, none⟩ = some (.slice (some ad5) ws.length c5) ∧ w'.cell? ⟨g, 1, none⟩ = some (.int .i64 (j5 : Nat)) ∧ w'.cell? (ad5.add j5) = some (.int .i64 y5)) (ds := []) (bs 23 0) (by kernel_rfl) rfl rfl ⟨hX0, hX1, hX2⟩ (fun hHeld => ?_)
           refine pS 0 (some 69) (bs 23 1) (h := ?_)
           refine pS 1 (some 70) (bs 23 3) (h := ?_)
           refine pS 2 (some 71) (bs 23 7) (h := ?_)
           refine pS 4 (some 73) (bs 23 23) (h := ?_)
           refine pS 5 (some 74) (bs 23 55) (h := ?_)
           refine pS 6 (some 75) (bs 23 119) (h := ?_)
           refine tS 3 (some 72) (bs 23 127) hHeld (h := ?_)
           refine tS 7 (some 76) (bs 23 255) hHeld (h := ?_)
           refine pS 8 (some 77) (bs 23 511) (h := ?_)
           refine pS 9 (some 78) (bs 23 1023) (h := ?_)
           refine pS 10 (some 79) (bs 23 2047) (h := ?_)
           refine pS 11 (some 80) (bs 23 4095) (h := ?_)
           refine pS 12 (some 81) (bs 23 8191) (h := ?_)
           refine pS 13 (some 82) (bs 23 16383) (h := ?_)
           refine pS 15 (some 84) (bs 23 49151) (h := ?_)
           refine pS 16 (some 85) (bs 23 114687) (h := ?_)
           refine pS 17 (some 86) (bs 23 245759) (h := ?_)
           refine tS 14 (some 83) (bs 23 262143) hHeld (h := ?_)
           refine tS 18 (some 87) (bs 23 524287) hHeld (h := ?_)
           refine pS 19 (some 88) (bs 23 1048575) (h := ?_)
           refine tS 20 (some 89) (bs 23 2097151) hHeld (h := ?_)
           refine pS 21 (some 90) (bs 23 4194303) (h := ?_)
           refine pS 22 (some 91) (bs 23 8388607) (h := ?_)
           refine done_ (by kernel_rfl) ?_
           go_wp2
           go_roundg f
           case measure => omega
           case rel => exact ⟨f, j5, t, false, out ++ bytesOf s2, rfl, by omega, Nat.le_refl _, Hrest2, ⟨HD5.out.drew⟩, ⟨B5.out⟩, ⟨HO5.out⟩⟩
          ·have Hrest2 := am (show decL k ws f j5 t false (out ++ bytesOf s2) = some r by have := Hrest.out; rw [if_neg (fun h => hlt5 h.1)] at this; exact this)
           have hb1 : decide ((j5 : Int) < (ws.length : Int)) = false := decide_eq_false (by omega)
           refine start_ (n := 23) (S := fun w' => w'.cell? ⟨g, 0, none⟩ = some (.slice A5 ws.length c5) ∧ w'.cell? ⟨g, 1, none⟩ = some (.int .i64 (j5 : Nat))) (ds := []) (bs 23 0) (by kernel_rfl) rfl rfl ⟨hX0, hX1⟩ (fun hHeld => ?_)
           refine pS 0 (some 69) (bs 23 1) (h := ?_)
           refine pS 1 (some 70) (bs 23 3) (h := ?_)
           refine pS 2 (some 71) (bs 23 7) (h := ?_)
           refine pS 4 (some 73) (bs 23 23) (h := ?_)
           refine pS 5 (some 74) (bs 23 55) (h := ?_)
           refine pS 6 (some 75) (bs 23 119) (h := ?_)
           refine tS 3 (some 72) (bs 23 127) hHeld (h := ?_)
           refine tS 7 (some 76) (bs 23 255) hHeld (h := ?_)
           refine pS 8 (some 77) (bs 23 511) (h := ?_)
           refine pS 9 (some 78) (bs 23 1023) (h := ?_)
           refine pS 10 (some 79) (bs 23 2047) (h := ?_)
           refine pO 11 (some 80) (bs 23 4095) (h := ?_)
           refine pO 12 (some 81) (bs 23 8191) (h := ?_)
           refine pO 13 (some 82) (bs 23 16383) (h := ?_)
           refine pO 14 (some 83) (bs 23 32767) (h := ?_)
           refine pO 15 (some 84) (bs 23 65535) (h := ?_)
           refine pO 16 (some 85) (bs 23 131071) (h := ?_)
           refine pO 17 (some 86) (bs 23 262143) (h := ?_)
           refine pO 18 (some 87) (bs 23 524287) (h := ?_)
           refine pO 19 (some 88) (bs 23 1048575) (h := ?_)
           refine pO 20 (some 89) (bs 23 2097151) (h := ?_)
           refine pO 21 (some 90) (bs 23 4194303) (h := ?_)
           refine pS 22 (some 91) (bs 23 8388607) (h := ?_)
           refine done_ (by kernel_rfl) ?_
           go_wp2
           go_roundg f
           case measure => omega
           case rel => exact ⟨f, j5, t, false, out ++ bytesOf s2, rfl, by omega, Nat.le_refl _, Hrest2, ⟨HD5.out.drew⟩, ⟨B5.out⟩, ⟨HO5.out⟩⟩
        ·rw [if_neg h902] at hF; cases hF
   ·rw [if_neg hlt] at hF
    have hrr : out = r := Option.some.inj hF
    subst hrr
    have hq1 : decide ((j : Int) < (ws.length : Int)) = false := decide_eq_false (by omega)
    clear hF
    go_wp2
    refine start_ (n := 10) (S := fun w' => w'.cell? ⟨g, 0, none⟩ = some (.slice A0 ws.length c0) ∧ w'.cell? ⟨g, 1, none⟩ = some (.int .i64 (j : Int))) (ds := []) (bs 10 0) (by kernel_rfl) rfl rfl ⟨hX0, hX1⟩ (fun hHeld => ?_)
    refine pS 0 (some 6) (bs 10 1) (h := ?_)
    refine pS 1 (some 7) (bs 10 3) (h := ?_)
    refine pS 2 (some 8) (bs 10 7) (h := ?_)
    refine pS 4 (some 10) (bs 10 23) (h := ?_)
    refine pS 5 (some 11) (bs 10 55) (h := ?_)
    refine pS 6 (some 12) (bs 10 119) (h := ?_)
    refine tS 3 (some 9) (bs 10 127) hHeld (h := ?_)
    refine tS 7 (some 13) (bs 10 255) hHeld (h := ?_)
    refine pS 8 (some 14) (bs 10 511) (h := ?_)
    refine pS 9 (some 15) (bs 10 1023) (h := ?_)
    refine done_ (by kernel_rfl) ?_
    go_wp2
    refine bodyPost_end (results_none rfl _ _ _) rfl ?_
    exact ⟨rfl, ⟨j, HD.out.drew⟩, HO.out⟩
end Go.Proofs.YtoadabodhdgdjaaDoor.St
