import Derived.Test.YtoadabodhdgdjaaDoorQStZ
import Derived.Test.YtoadabodhdgdjaaDoorQS0
namespace Go.Proofs.YtoadabodhdgdjaaDoor.St
open Go.Proofs.YtoadabodhdgdjaaDoor.S0
open Go.RowKit Go.Maps Go.Proofs.YtoadabodhdgdjaaDoorW.PrintWords Go.Proofs.YtoadabodhdgdjaaDoorW.PrintLast Go.Proofs.YtoadabodhdgdjaaDoorW.PrintMore
attribute [local go_sem] max2_int min2_int max_two min_two max_three min_three max_four min_four
set_option linter.unusedVariables false
set_option linter.unusedSimpArgs false
def sixOk (l : List Int) : Prop := ∀ i, i < (l.length + 4) / 5 → chunkN l i < 281474976710656
instance (l : List Int) : Decidable (sixOk l) := inferInstanceAs (Decidable (∀ i, i < (l.length + 4) / 5 → chunkN l i < 281474976710656))
def u8w (x : Int) : Int := IntKind.u8.wrap x
def bytesF (command : Int) (l : List Int) : Option (List Int) :=
 if command = 924 ∧ l.length % 5 ≠ 0 then none
 else if command = 924 ∨ l.length = 0 then (if sixOk l then some (sixesL l) else none)
 else if sixOk (l.take ((l.length - 1) / 5 * 5)) ∧ (∀ x, x ∈ l.drop ((l.length - 1) / 5 * 5) → x ≤ 255) then some (sixesL (l.take ((l.length - 1) / 5 * 5)) ++ (l.drop ((l.length - 1) / 5 * 5)).map u8w)
 else none
theorem byte_cuts {w0 : World} {A : Option Addr} {c m : Nat} {l : List Int} (hC : Kd.C (Kd.int .i64) w0 A l.length l) (hc : l.length ≤ c) (hml : m ≤ l.length) (hm : (m : Int) = ((l.length : Int) - 1) / 5 * 5) :
  ∃ A2, (∀ W : World, (Instr.slice 22 (.slice A l.length c) none (some (.int .i64 (((l.length : Int) - 1) / 5 * 5))) none).run Tryd.prog W = .ok (.slice A (l.take m).length c) W) ∧ (∀ W : World, (Instr.slice 22 (.slice A l.length c) (some (.int .i64 (((l.length : Int) - 1) / 5 * 5))) none none).run Tryd.prog W = .ok (.slice A2 (l.drop m).length (c - m)) W) ∧
   Kd.C (Kd.int .i64) w0 A (l.take m).length (l.take m) ∧ Kd.C (Kd.int .i64) w0 A2 (l.drop m).length (l.drop m) ∧ (l.take m).length ≤ c := by
 obtain ⟨i0, hi0, hz0, hz1, hz2⟩ := info_parts (show (Tryd.prog.info? 3).map (fun i => (i.zero, i.size, i.bytes)) = some (some (.int .i64 0), 1, 8) from by kernel_rfl)
 have h1 := cut_to (P := Tryd.prog) 22 3 .i64 Tryd.underlying22 hi0 A l.length c (m : Int) (by omega) (by omega) hc
 have h2 := cut_from (P := Tryd.prog) 22 3 .i64 Tryd.underlying22 hi0 1 hz1 A l.length c (m : Int) (by omega) (by omega)
 rw [Int.toNat_natCast] at h1 h2
 have hlt : (l.take m).length = m := by rw [List.length_take]; omega
 have hld : (l.drop m).length = l.length - m := List.length_drop
 rw [hm] at h1 h2
 exact ⟨_, fun W => by rw [hlt]; exact h1 W, fun W => by rw [hld]; exact h2 W, Kd.C_take hC hml, Kd.C_drop hC hml hc, by omega⟩
set_option maxHeartbeats 4000000 in
set_option maxRecDepth 100000 in
theorem bytes_calls (g : Nat) (ws : List Int) (at_ : Nat) (out : List Int) (w0 w : World) (hI : DI w0 w g ws at_ out) (hat : at_ ≤ ws.length) (hlen : ws.length ≤ 1000000) (hol : out.length ≤ 1000000) (command : Int) (r : List Int) (h : bytesF command (runL ws at_) = some r) (hrl : out.length + r.length ≤ 1000000) :
  Calls Tryd.prog 53 #[.pointer (some ⟨g, 0, none⟩), .int .i64 command] w fun e w' => e = .returned (.tuple #[]) ∧ DI w0 w' g ws (at_ + (runL ws at_).length) (out ++ r) ∧ Lib.OthersKept 5 (some g) w w' := by
 have HI := am hI
 have hl0 := runL_len ws at_
 obtain ⟨l, hl⟩ : ∃ l, runL ws at_ = l := ⟨_, rfl⟩
 rw [hl] at h hl0 ⊢
 have hll : l.length ≤ 1000000 := by omega
 clear hI
 unfold bytesF at h
 by_cases h1 : command = 924 ∧ l.length % 5 ≠ 0
 ·rw [if_pos h1] at h; cases h
 ·rw [if_neg h1] at h
  by_cases h2 : command = 924 ∨ l.length = 0
  ·rw [if_pos h2] at h
   by_cases h6 : sixOk l
   ·rw [if_pos h6] at h
    cases h
    have H6 : Aside0 (∀ i, i * 5 < l.length → chunkN l i < 281474976710656) := ⟨fun i hi => h6 i (by omega)⟩
    clear h6
    have Hl := am hl
    by_cases hc : command = 924
    ·subst hc
     have hm5 : l.length % 5 = 0 := by
      by_cases h : l.length % 5 = 0
      ·exact h
      ·exact absurd ⟨rfl, h⟩ h1
     have hm5z : (l.length : Int) % 5 = 0 := by omega
     have hm5t : Int.tmod (l.length : Int) 5 = 0 := by rw [Int.tmod_eq_emod_of_nonneg (by omega)]; exact hm5z
     clear h1 h2
     go_enter Tryd.func53, Tryd.ntmps53
     go_wp2_with (first | ((with_reducible refine gate_callee (f := 74) rfl ?_); refine gL (some 9) Tryd.func74 #[.pointer (some ⟨g, 0, none⟩)] (h := ?_); (with_reducible refine (run_calls g ws at_ out w0 _ HI.out hat hlen).mono ?_); rintro e w1 ⟨A, c, rfl, hc, hC, hD, hO⟩; refine ⟨_, rfl, ?_⟩; rw [hl] at hc hC hD; rw [hl]; have Hc := am hc; have HC := am hC; have HD := am hD; have HO := am hO; clear hc hC hD hO) | ((with_reducible refine gate_callee (f := 75) rfl ?_); refine gL (some 30) Tryd.func75 #[.pointer (some ⟨g, 0, none⟩), .slice A l.length c] (h := ?_); (with_reducible refine (sixes_calls g ws (at_ + l.length) out w0 _ HD.out hol A c l HC.out Hc.out hll H6.out).mono ?_); rintro e w2 ⟨rfl, hD2, hO2⟩; refine ⟨_, rfl, ?_⟩; have HD2 := am hD2; have HO2 := am hO2; clear hD2 hO2))
     refine bodyPost_ret (results_none rfl _ _ _) rfl ?_
     exact ⟨rfl, HD2.out, Lib.OthersKept.trans HO.out HO2.out⟩
    ·have hl00 : l.length = 0 := by omega
     have hcb : (command == 924) = false := by simpa using hc
     have hlb : ((l.length : Int) == 0) = true := by simp [hl00]
     clear hl00 h1 h2
     go_enter Tryd.func53, Tryd.ntmps53
     go_wp2_with (first | ((with_reducible refine gate_callee (f := 74) rfl ?_); refine gL (some 9) Tryd.func74 #[.pointer (some ⟨g, 0, none⟩)] (h := ?_); (with_reducible refine (run_calls g ws at_ out w0 _ HI.out hat hlen).mono ?_); rintro e w1 ⟨A, c, rfl, hc, hC, hD, hO⟩; refine ⟨_, rfl, ?_⟩; rw [hl] at hc hC hD; rw [hl]; have Hc := am hc; have HC := am hC; have HD := am hD; have HO := am hO; clear hc hC hD hO) | ((with_reducible refine gate_callee (f := 75) rfl ?_); refine gL (some 30) Tryd.func75 #[.pointer (some ⟨g, 0, none⟩), .slice A l.length c] (h := ?_); (with_reducible refine (sixes_calls g ws (at_ + l.length) out w0 _ HD.out hol A c l HC.out Hc.out hll H6.out).mono ?_); rintro e w2 ⟨rfl, hD2, hO2⟩; refine ⟨_, rfl, ?_⟩; have HD2 := am hD2; have HO2 := am hO2; clear hD2 hO2))
     refine bodyPost_ret (results_none rfl _ _ _) rfl ?_
     exact ⟨rfl, HD2.out, Lib.OthersKept.trans HO.out HO2.out⟩
   ·rw [if_neg h6] at h; cases h
  ·rw [if_neg h2] at h
   by_cases h3 : sixOk (l.take ((l.length - 1) / 5 * 5)) ∧ (∀ x, x ∈ l.drop ((l.length - 1) / 5 * 5) → x ≤ 255)
   ·rw [if_pos h3] at h
    cases h
    obtain ⟨h6, h255⟩ := h3
    have hc : ¬ command = 924 := fun e => h2 (.inl e)
    have hl00 : ¬ l.length = 0 := fun e => h2 (.inr e)
    have hcb : (command == 924) = false := by simpa using hc
    have hlb : ((l.length : Int) == 0) = false := by simpa using (show ¬ (l.length : Int) = 0 by omega)
    obtain ⟨m, hm⟩ : ∃ m, (l.length - 1) / 5 * 5 = m := ⟨_, rfl⟩
    rw [hm] at h6 h255 hrl ⊢
    have hml : m < l.length := by omega
    have hmz : (m : Int) = ((l.length : Int) - 1) / 5 * 5 := by omega
    clear h1 h2 hc
    have htl : (l.take m).length ≤ 1000000 := by rw [List.length_take]; omega
    have hrl2 := hrl
    rw [List.length_append, List.length_map] at hrl2
    obtain ⟨q, hq⟩ : ∃ q, l.drop m = q := ⟨_, rfl⟩
    obtain ⟨tk, htk⟩ : ∃ tk, l.take m = tk := ⟨_, rfl⟩
    rw [hq] at h255 hrl2
    rw [htk] at h6 htl hrl2
    rw [hq, htk]
    have H6 : Aside0 (∀ i, i * 5 < tk.length → chunkN tk i < 281474976710656) := ⟨fun i hi => h6 i (by omega)⟩
    have Hmz := am hmz
    have Hl := am hl
    have H255 := am h255
    have hlb2 : ¬ ((l.length : Int) = 0) := by omega
    have hl1 : (1 : Int) ≤ (l.length : Int) := by omega
    clear h6 h255 hm
    go_enter Tryd.func53, Tryd.ntmps53
    go_wp2_with (first | ((with_reducible refine gate_callee (f := 74) rfl ?_); refine gL (some 9) Tryd.func74 #[.pointer (some ⟨g, 0, none⟩)] (h := ?_); (with_reducible refine (run_calls g ws at_ out w0 _ HI.out hat hlen).mono ?_); rintro e w1 ⟨A, c, rfl, hc, hC, hD, hO⟩; refine ⟨_, rfl, ?_⟩; rw [hl] at hc hC hD; rw [hl]; obtain ⟨A2, hcut1, hcut2, hCt, hCd, htc⟩ := byte_cuts hC hc (Nat.le_of_lt hml) hmz; simp only [htk, hq] at hcut1 hcut2 hCt hCd htc; have HCt := am hCt; have HCd := am hCd; have Htc := am htc; clear hCt hCd htc; have Hc := am hc; have HC := am hC; have HD := am hD; have HO := am hO; clear hc hC hD hO) | ((with_reducible refine gate_callee (f := 75) rfl ?_); refine gL (some 40) Tryd.func75 #[.pointer (some ⟨g, 0, none⟩), .slice A tk.length c] (h := ?_); (with_reducible refine (sixes_calls g ws (at_ + l.length) out w0 _ HD.out hol A c tk HCt.out Htc.out htl H6.out).mono ?_); rintro e w2 ⟨rfl, hD2, hO2⟩; refine ⟨_, rfl, ?_⟩; have HD2 := am hD2; have HO2 := am hO2; clear hD2 hO2))
    have HOs := am (Lib.OthersKept.trans HO.out HO2.out)
    clear hq htk HO HO2 hcut1 hcut2 HD hrl
    go_loopg [45] q.length (fun gg v45 wr => ∃ (j : Nat) (out1 : List Int), v45 = .int .i64 j ∧ j ≤ q.length ∧ q.length - j ≤ gg ∧ Aside0 (out1 ++ (q.drop j).map u8w = out ++ (sixesL tk ++ q.map u8w)) ∧ out1.length ≤ 1000000 + j ∧ Aside0 (DI w0 wr g ws (at_ + l.length) out1) ∧ Aside0 (Lib.OthersKept 5 (some g) w wr))
    case atStart => exact ⟨0, out ++ sixesL tk, rfl, Nat.zero_le _, Nat.le_refl _, ⟨by rw [List.drop_zero, List.append_assoc]⟩, by rw [List.length_append]; omega, HD2, HOs⟩
    case round =>
     clear HD2 HOs
     obtain ⟨j, out1, rfl, hj, hgj, HQ, hlo, HD, HO⟩ := hrel
     rename World => wq
     by_cases hjl : j < q.length
     ·have hjz : (j : Int) < (q.length : Int) := by omega
      obtain ⟨ad2, ea, hx⟩ := Kd.at_int (Kd.C_below HCd.out HD.out.bel) (j : Int) (by omega) (by omega)
      subst ea
      rw [Int.toNat_natCast] at hx
      have hstep : q.drop j = rd q (j : Int) :: q.drop (j + 1) := by
       rw [List.drop_eq_getElem_cons hjl]
       simp [rd, List.getD_eq_getElem?_getD, hjl]
      have hQ := HQ.out
      rw [hstep, List.map_cons] at hQ
      have hmem : rd q (j : Int) ∈ q := by
       have : rd q (j : Int) = q[j] := by simp [rd, List.getD_eq_getElem?_getD, hjl]
       rw [this]
       exact List.getElem_mem hjl
      have hx2 := H255.out _ hmem
      obtain ⟨x, hxe⟩ : ∃ x, rd q (j : Int) = x := ⟨_, rfl⟩
      rw [hxe] at hQ hx hx2
      have HQ2 := am (show (out1 ++ [IntKind.u8.wrap x]) ++ (q.drop (j + 1)).map u8w = out ++ (sixesL tk ++ q.map u8w) by rw [List.append_assoc]; exact hQ)
      have hq2 : decide (255 < x) = false := decide_eq_false (by omega)
      obtain ⟨A0, c0, v, HG, hge, hc0, HCw, HR, HB⟩ := HD.out
      obtain ⟨Av, cv, ev⟩ := Kd.R_slice HR
      subst ev
      have hX2 : wq.cell? ⟨g, 2, none⟩ = some (.slice Av out1.length cv) := (blk_cell HG 2).trans rfl
      have HGx := am HG
      have HCx := am HCw
      have HRx := am HR
      have HBx := am HB
      have HOq := HO
      have hRb : (out1.length + 1) * 1 ≤ 140737488355328 := by omega
      clear HG HCw HR HB HD HO hstep hQ HQ hmem hxe
      go_wp2_with (((with_reducible refine gate_builtin (b := .append) (xs := #[.tmp 56, .tmp 59]) rfl ?_); at_builtin; refine Kd.R_append (Kd.int .u8) (W := wq) (w0 := w0) w0.heap.size rfl (.tmp 56) (.tmp 59) 31 5 (.int .u8 0) 1 rfl Tryd.underlying31 info5 rfl (by decide) (by omega) (.slice Av out1.length cv) out1 (IntKind.u8.wrap x) [.int .u8 (IntKind.u8.wrap x)] (fun _ => True) (fun _ => False) rfl rfl rfl (fun _ hk => hk.elim) (fun _ _ => trivial) HRx.out HBx.out HBx.out.size hRb ?_; intro v7 w7 ho hb hg hat; obtain ⟨A7, c7, hv7⟩ := Kd.R_slice ho; rw [List.length_append, List.length_singleton] at hv7; subst hv7; have HD7 := am (DI_put (w0 := w0) (a := w) HGx.out hge hc0 HCx.out HRx.out HOq.out ho hb hg); have hG7 := DI_cells HGx.out HRx.out hg; have hc72 : w7.cell? ⟨g, 2, none⟩ = some (.slice Av out1.length cv) := (blk_cell hG7 2).trans rfl; have hf72 := blk_frozen hG7 2; clear ho hb hg hat hG7))
      go_roundg (q.length - (j + 1))
      case measure => omega
      case rel => exact ⟨j + 1, out1 ++ [IntKind.u8.wrap x], by go_num, by omega, by omega, HQ2, by rw [List.length_append, List.length_singleton]; omega, ⟨HD7.out.1⟩, ⟨HD7.out.2⟩⟩
     ·have hje : j = q.length := by omega
      have hQ := HQ.out
      rw [hje, List.drop_length, List.map_nil, List.append_nil] at hQ
      have HQ2 := am hQ
      have hjz : ¬ (j : Int) < (q.length : Int) := by omega
      clear hQ HQ hje
      go_wp2
      refine bodyPost_end (results_none rfl _ _ _) rfl ?_
      exact ⟨rfl, by rw [← HQ2.out]; exact HD.out, HO.out⟩
   ·rw [if_neg h3] at h; cases h
end Go.Proofs.YtoadabodhdgdjaaDoor.St
