import Derived.Test.YtoadabodhdgdjaaDoorQStT
import Derived.Lib.SliceRun
import Derived.Test.YtoadabodhdgdjaaDoorQS0
namespace Go.Proofs.YtoadabodhdgdjaaDoor.St
open Go.Proofs.YtoadabodhdgdjaaDoor.S0
open Go.RowKit Go.Maps Go.Proofs.YtoadabodhdgdjaaDoorW.PrintWords Go.Proofs.YtoadabodhdgdjaaDoorW.PrintLast Go.Proofs.YtoadabodhdgdjaaDoorW.PrintMore Go.Proofs.YtoadabodhdgdjaaDoor.SM Go.Proofs.YtoadabodhdgdjaaDoor.SH Go.Proofs.YtoadabodhdgdjaaDoor.SB
attribute [local go_sem] max2_int min2_int max_two min_two max_three min_three max_four min_four
set_option linter.unusedVariables false
set_option linter.unusedSimpArgs false
def stepsF (k : Nat) (p : List Int) (s : St3) : Option (List S62) := (stacktext_encoder_steps.f k p none s.1 s.2.1 s.2.2).map (fun r => r.1)
def bestL (k : Nat) (p : List Int) (M : PMap) (s : St3) : List S62 → Option (List Int) → St3 → Option (Option (List Int) × St3)
 | [], B, to_ => some (B, to_)
 | e :: t, B, to_ => if wf3 (eOf e).2 then
   if wrap64 (e.f0 + pget M (eOf e).2) = pget M s then
    (codewordsF k p e.f1 e.f2 s.1 e.f3.f0).bind fun l => if 0 < l.length ∧ l.length ≤ 1000000 then
     match B with
     | none => bestL k p M s t (some l) (eOf e).2
     | some b => (stacktext_compare.f k l b).bind fun c => if c < 0 then bestL k p M s t (some l) (eOf e).2 else bestL k p M s t (some b) to_
    else none
   else bestL k p M s t B to_
  else none
def encL (k : Nat) (p : List Int) (M : PMap) : Nat → St3 → List Int → Option (List Int)
 | 0, _, _ => none
 | f + 1, s, out => if s.1 < (p.length : Int) then
   if wf3 s then (stepsF k p s).bind fun l => if l.length ≤ 1000000 then (bestL k p M s l none (0, 0, 0)).bind fun r => match r.1 with
    | none => none
    | some b => if out.length + b.length ≤ 1000000 then encL k p M f r.2 (out ++ b) else none
   else none else none
  else some out
def stacktext_Encode.f (k : Nat) (a0 : List Int) : Option (List Int × Int) := if (a0.length : Int) > 4096 then some ([], 4) else (solvedF k a0).bind fun M => (encL k a0 M k (0, 0, -1) []).map (fun r => (r, 0))
theorem int_E65 : ∀ q, q ∈ 3 :: (Kd.int .i64).E → q ≠ 65 := by
 intro q hq
 have e : q = 3 := by simpa [Kd.int, Kd.scalar] using hq
 rw [e]
 decide
theorem int_ST : ∀ q, q ∈ 3 :: (Kd.int .i64).E → q ≠ 58 := by
 intro q hq
 have e : q = 3 := by simpa [Kd.int, Kd.scalar] using hq
 rw [e]
 decide
def BV (w : World) (gt : Nat) (v : Value) : Option (List Int) → Prop
 | none => v = .slice none 0 0
 | some b => ∃ A c, v = .slice (some A) b.length c ∧ b.length ≤ c ∧ 0 < b.length ∧ Kd.F (Kd.int .i64) w (fun k_ => k_ ≠ gt) (some A) b.length b
theorem BV.keep {w w1 : World} {gt : Nat} {v : Value} {B : Option (List Int)} (h : BV w gt v B) (hk : KeepBut w w1 gt none) : BV w1 gt v B := by
 cases B with
 | none => exact h
 | some b =>
  obtain ⟨A, c, h1, h2, h3, h4⟩ := h
  exact ⟨A, c, h1, h2, h3, Kd.F_keep h4 hk (fun _ hk => hk)⟩
theorem at_N62 {w : World} {e base n cap : Nat} {ok : Nat → Prop} {A : Option Addr} {xs : List S62} (h : Kd.N k62 e w base ok (.slice A n cap) xs) (i : Nat) (h1 : i < n) : ∃ ad A2 c2, A = some ad ∧ w.cell? (ad.add (i * 6)) = some (.int .i64 (rd_T62 xs i).f0) ∧ w.cell? ⟨(ad.add (i * 6)).block, (ad.add (i * 6)).off + 1, none⟩ = some (.int .i64 (rd_T62 xs i).f1) ∧ w.cell? ⟨(ad.add (i * 6)).block, (ad.add (i * 6)).off + 2, none⟩ = some (.slice A2 (rd_T62 xs i).f2.length c2) ∧ w.cell? ⟨(ad.add (i * 6)).block, (ad.add (i * 6)).off + 3, none⟩ = some (.int .i64 (rd_T62 xs i).f3.f0) ∧ w.cell? ⟨(ad.add (i * 6)).block, (ad.add (i * 6)).off + 4, none⟩ = some (.int .i64 (rd_T62 xs i).f3.f1.f0) ∧ w.cell? ⟨(ad.add (i * 6)).block, (ad.add (i * 6)).off + 5, none⟩ = some (.int .i64 (rd_T62 xs i).f3.f1.f1) ∧ (rd_T62 xs i).f2.length ≤ c2 ∧ Kd.F (Kd.int .i64) w ok A2 (rd_T62 xs i).f2.length (rd_T62 xs i).f2 := by
 obtain ⟨hn, _, hC⟩ := Kd.N_reads' h
 obtain ⟨ad, rfl, _⟩ := hC.2.2 (by omega)
 obtain ⟨c, _, hK, hc0⟩ := Kd.N_get h z62 (i : Int) (by omega) (by omega)
 have hc : ∀ j u, c[j]? = some u → w.cell? (ad.add (i * 6 + j)) = some u := fun j u hu => by
  have := hc0 j u hu
  rw [Int.toNat_natCast] at this
  exact this
 obtain ⟨A2, c2, rfl, l2, g2⟩ := k62_openF hK
 exact ⟨ad, A2, c2, rfl, hc 0 _ rfl, by rw [← add_field _ _ 1 (by omega)]; exact hc 1 _ rfl, by rw [← add_field _ _ 2 (by omega)]; exact hc 2 _ rfl, by rw [← add_field _ _ 3 (by omega)]; exact hc 3 _ rfl, by rw [← add_field _ _ 4 (by omega)]; exact hc 4 _ rfl, by rw [← add_field _ _ 5 (by omega)]; exact hc 5 _ rfl, l2, Kd.F_mono g2 (fun _ hk => hk.1)⟩
set_option maxHeartbeats 16000000 in
set_option maxRecDepth 100000 in
theorem stacktext_Encode.calls (k : Nat) (A0 : Option Addr) (c0 : Nat) (l0 : List Int) (r1 : List Int) (r2 : Int) (w : World) (hr0 : Kd.C (Kd.int .u8) w A0 l0.length l0) (hc0 : l0.length ≤ c0) (h : stacktext_Encode.f k l0 = some (r1, r2)) :
  Calls Tryd.prog 17 #[.slice A0 l0.length c0] w fun e w' => ∃ v0_ : Value, e = .returned (.tuple #[v0_, .int .i64 r2]) ∧ Kd.R (Kd.int .i64) 3 w' w.heap.size (fun _ => True) v0_ r1 ∧ Below w.heap.size w w' := by
 have HR := am hr0
 unfold stacktext_Encode.f at h
 by_cases hl : (l0.length : Int) > 4096
 ·rw [if_pos hl] at h
  cases h
  go_enter Tryd.func17, Tryd.ntmps17
  go_wp2
  refine bodyPost_ret (results_tmp2 rfl _ _ _) rfl ?_
  exact ⟨_, rfl, Kd.R_nil _ _ _ _ _, Below.refl _ _⟩
 ·rw [if_neg hl] at h
  obtain ⟨M, hM, h1⟩ := Option.bind_eq_some_iff.1 h
  obtain ⟨r, hr, he⟩ := Option.map_eq_some_iff.1 h1
  cases he
  have HS := am hM
  have HE := am hr
  clear h h1 hM hr hr0
  have hp : l0.length ≤ 1000000 := by omega
  have hnil : ∀ W : World, (binOp .eql 22 (.slice none 0 0) (.slice none 0 0)).run Tryd.prog W = .ok (.bool true) W := fun W => (Lib.run_eql_slice_nil W _ _ none 0 0 0 0 Tryd.underlying22).trans rfl
  have hsome : ∀ (a : Addr) (n c : Nat) (W : World), (binOp .eql 22 (.slice (some a) n c) (.slice none 0 0)).run Tryd.prog W = .ok (.bool false) W := fun a n c W => (Lib.run_eql_slice_nil W _ _ (some a) n c 0 0 Tryd.underlying22).trans rfl
  go_enter Tryd.func17, Tryd.ntmps17
  go_wp2_with (((with_reducible refine gate_callee (f := 31) rfl ?_); refine gL (some 16) Tryd.func31 #[.slice A0 l0.length c0] (h := ?_); (with_reducible refine (solved_calls k A0 c0 l0 M _ HR.out hc0 hp HS.out).mono ?_); rintro e w2 ⟨g, b, n, rfl, hi, hb, hm, hb0⟩; refine ⟨_, rfl, ?_⟩; have HI2 := am hi; have HB2 := am hb; have HM2 := am hm; have Hb0 := am hb0; clear hi hb hm hb0))
  have hbne : some g ≠ some b := IsS65.ne_map HI2.out HM2.out
  have hal := below_alloc (Below.refl w2.heap.size w2) (.cells #[.int .i64 0, .int .i64 0, .int .i64 (-1)] 58 (0, 0))
  have BX := am (heapNew w2 (.cells #[.int .i64 0, .int .i64 0, .int .i64 (-1)] 58 (0, 0)))
  have HI3 := am (HI2.out.below hal)
  have HB3 := am (below_alloc HB2.out (.cells #[.int .i64 0, .int .i64 0, .int .i64 (-1)] 58 (0, 0)))
  have HM3 := am (RestIs.below HM2.out hal)
  have hgs := HB2.out.size
  clear hal HI2 HB2 HM2
  go_loopg [5, 6] k (fun gg v5 v6 wr => ∃ (f : Nat) (s : St3) (out : List Int) (gs : Nat), v6 = .pointer (some ⟨gs, 0, none⟩) ∧ f ≤ gg ∧ w.heap.size ≤ gs ∧ out.length ≤ 1000000 ∧ Aside0 (encL k l0 M f s out = some r1) ∧ Aside0 (Kd.R (Kd.int .i64) 3 wr w.heap.size (fun _ => True) v5 out) ∧ Aside0 (IsS65 w wr g l0 (some b)) ∧ Aside0 (Below w.heap.size w wr) ∧ Aside0 (RestIs wr b n M) ∧ Aside0 (wr.heap[gs]? = some (.cells #[.int .i64 s.1, .int .i64 s.2.1, .int .i64 s.2.2] 58 (0, 0))))
  case atStart => exact ⟨k, (0, 0, -1), [], w2.heap.size, rfl, Nat.le_refl _, hgs, by simp, HE, ⟨Kd.R_nil _ _ _ _ _⟩, HI3, HB3, HM3, BX⟩
  case round =>
   clear HE HI3 HB3 HM3 BX hgs
   obtain ⟨f, s, out, gs, rfl, hf, hgs, hol, HE, HO, HI, HB, HM, BX⟩ := hrel
   rename World => wq
   cases f with
   | zero => exact absurd HE.out (by unfold encL; simp)
   | succ f =>
    obtain ⟨s0, s1, s2⟩ := s
    have hx0 : wq.cell? ⟨gs, 0, none⟩ = some (.int .i64 s0) := (blk_cell BX.out 0).trans rfl
    have hE := HE.out
    have hgslt : gs < wq.heap.size := blk_lt BX.out
    unfold encL at hE
    by_cases hlt : s0 < (l0.length : Int)
    ·rw [if_pos hlt] at hE
     by_cases hws : wf3 (s0, s1, s2)
     ·rw [if_pos hws] at hE
      obtain ⟨l, hst, hE2⟩ := Option.bind_eq_some_iff.1 hE
      by_cases hll : l.length ≤ 1000000
      ·rw [if_pos hll] at hE2
       obtain ⟨⟨B2, s'⟩, hb, hE3⟩ := Option.bind_eq_some_iff.1 hE2
       obtain ⟨⟨l_, m_⟩, hst2, hle⟩ := Option.map_eq_some_iff.1 hst
       have hle2 : l_ = l := hle
       subst hle2
       have hst3 : stacktext_encoder_steps.f k l0 (some b) s0 s1 s2 = some (l_, some b) := by
        rw [steps_none k l0 (some b), hst2]
        rfl
       have Hst := am hst3
       have Hbest := am hb
       have HE3 := am hE3
       have Hws := am hws
       clear hE hE2 hE3 hb hst hst2 hst3 hle HE hws
       have hA0 := cellAl hx0 (.cells #[.int .i64 0, .int .i64 0, .int .i64 0] 58)
       have hA1 := cellAl (show wq.cell? ⟨gs, 1, none⟩ = some (.int .i64 s1) from (blk_cell BX.out 1).trans rfl) (.cells #[.int .i64 0, .int .i64 0, .int .i64 0] 58)
       have hA2 := cellAl (show wq.cell? ⟨gs, 2, none⟩ = some (.int .i64 s2) from (blk_cell BX.out 2).trans rfl) (.cells #[.int .i64 0, .int .i64 0, .int .i64 0] 58)
       have hal := below_alloc (Below.refl wq.heap.size wq) (.cells #[.int .i64 0, .int .i64 0, .int .i64 0] 58 (0, 0))
       have BT := am (heapNew wq (.cells #[.int .i64 0, .int .i64 0, .int .i64 0] 58 (0, 0)))
       have HI1 := am (HI.out.below hal)
       have HB1 := am (below_step HB.out hal)
       have HM1 := am (RestIs.below HM.out hal)
       have HO1 := am (Kd.R_below HO.out hal)
       have BX1 := am (blk_below BX.out hal)
       have hgtb := HB.out.size
       clear hal HI HB HM HO BX
       go_wp2_with (((with_reducible refine gate_callee (f := 32) rfl ?_); refine gL (some 26) Tryd.func32 #[.pointer (some ⟨g, 0, none⟩), .agg #[.int .i64 s0, .int .i64 s1, .int .i64 s2]] (h := ?_); (with_reducible refine (stacktext_encoder_steps.calls k g l0 (some b) s0 s1 s2 l_ (some b) w _ HI1.out HB1.out Hst.out).mono ?_); rintro e wS ⟨vS, rfl, ho, hi, hb, hk⟩; refine ⟨_, rfl, ?_⟩; obtain ⟨AL, cL, hvS⟩ := Kd.N_slice ho; subst hvS; have HN := am ho; have HI2 := am hi; have HB2 := am hb; have HK2 := am hk; clear ho hi hb hk))
       have hsz : (wq.alloc (.cells #[.int .i64 0, .int .i64 0, .int .i64 0] 58 (0, 0))).heap.size = wq.heap.size + 1 := by
        show (wq.heap.push _).size = _
        simp
       have hgsx : gs ≠ wq.heap.size := fun e => by
        omega
       have HM2 := am (HM1.out.heap (HK2.out.2 b HM1.out.lt (fun e => hbne (by rw [e])) (by simp)))
       have HO2 := am (Kd.R_mono (ok' := fun _ => True) (Kd.R_keep (IsS65.apart HI1.out HO1.out int_E65) HK2.out (fun k_ hk => hk.2)) (fun _ _ => trivial))
       have BX2 := am (HK2.out.blk BX1.out (IsS65.ne_blk HI1.out BX1.out (by decide)).symm (by simp))
       have BT2 := am (HK2.out.blk BT.out (IsS65.ne_blk HI1.out BT.out (by decide)).symm (by simp))
       have HN2 := am (Kd.N_lower (Kd.N_mono (ok' := fun k_ => k_ ≠ wq.heap.size) HN.out (fun k_ hk => by rw [hsz] at hk; omega)) (base' := w.heap.size) (by rw [hsz]; omega))
       have hggt : g ≠ wq.heap.size := IsS65.ne_blk HI1.out BT.out (by decide)
       have hbgt : b ≠ wq.heap.size := fun e => by
        obtain ⟨es, cl, hm⟩ := HM1.out.isMap
        have := BT.out
        rw [← e, hm] at this
        cases this
       have hgtw : w.heap.size ≤ wq.heap.size := hgtb
       have hgtS : wq.heap.size < wS.heap.size := blk_lt BT2.out
       clear HN HK2 HI1 HB1 HM1 HO1 BX1 BT hsz hA0 hA1 hA2 Hst hgtb hx0
       have HO3 := am (Kd.R_types HO2.out BT2.out int_ST)
       generalize wq.heap.size = gt at *
       go_loopg [7, 28] l_.length (fun gg v7 v28 wr => ∃ (i : Nat) (B : Option (List Int)) (t : St3), v28 = .int .i64 i ∧ i ≤ l_.length ∧ l_.length - i ≤ gg ∧ Aside0 (bestL k l0 M (s0, s1, s2) (l_.drop i) B t = some (B2, s')) ∧ Aside0 (BV wr gt v7 B) ∧ Aside0 (KeepBut wS wr gt none) ∧ Aside0 (Below w.heap.size w wr) ∧ Aside0 (wr.heap[gt]? = some (.cells #[.int .i64 t.1, .int .i64 t.2.1, .int .i64 t.2.2] 58 (0, 0))))
       case atStart => exact ⟨0, none, (0, 0, 0), rfl, Nat.zero_le _, Nat.le_refl _, Hbest, ⟨rfl⟩, ⟨KeepBut.refl _ _ _⟩, HB2, BT2⟩
       case round =>
        clear Hbest HB2 BT2
        obtain ⟨i, B, t, rfl, hi, hgi, HF, HBV, HK, HB, BT⟩ := hrel
        rename World => wr
        have HIr := am (IsS65.stay HI2.out (HK.out.2 g (IsS65.lt HI2.out) hggt (by simp)))
        have HMr := am (HM2.out.heap (HK.out.2 b HM2.out.lt hbgt (by simp)))
        have HNr := am (Kd.N_keep HN2.out HK.out (fun _ h => h))
        have BXr := am (HK.out.blk BX2.out hgsx (by simp))
        by_cases hli : i < l_.length
        ·have hliz : (i : Int) < (l_.length : Int) := by omega
         obtain ⟨ad, A2, c2, eA, hx0, hx1, hx2, hx3, hx4, hx5, hcw, hFw⟩ := at_N62 HNr.out i hli
         subst eA
         have hget : l_.drop i = rd_T62 l_ i :: l_.drop (i + 1) := by
          rw [List.drop_eq_getElem_cons hli]
          simp [rd_T62, List.getD_eq_getElem?_getD, hli]
         have hF := HF.out
         rw [hget] at hF
         clear hget HF
         generalize rd_T62 l_ i = x at hx0 hx1 hx2 hx3 hx4 hx5 hcw hFw hF
         obtain ⟨e0, run, words, ⟨t0, ⟨t1, t2⟩⟩⟩ := x
         have HFw := am hFw
         unfold bestL at hF
         by_cases hwe : wf3 (t0, t1, t2)
         ·have hF2 : (if wrap64 (e0 + pget M (t0, t1, t2)) = pget M (s0, s1, s2) then
            (codewordsF k l0 run words s0 t0).bind fun l => if 0 < l.length ∧ l.length ≤ 1000000 then
             match B with
             | none => bestL k l0 M (s0, s1, s2) (l_.drop (i + 1)) (some l) (t0, t1, t2)
             | some b => (stacktext_compare.f k l b).bind fun c => if c < 0 then bestL k l0 M (s0, s1, s2) (l_.drop (i + 1)) (some l) (t0, t1, t2) else bestL k l0 M (s0, s1, s2) (l_.drop (i + 1)) (some b) t
            else none
           else bestL k l0 M (s0, s1, s2) (l_.drop (i + 1)) B t) = some (B2, s') := by
           rw [if_pos (show wf3 (eOf ⟨e0, run, words, ⟨t0, ⟨t1, t2⟩⟩⟩).2 from hwe)] at hF
           exact hF
          clear hF
          obtain ⟨u1, hu1⟩ : ∃ u, pget M (s0, s1, s2) = u := ⟨_, rfl⟩
          obtain ⟨u2, hu2⟩ : ∃ u, pget M (t0, t1, t2) = u := ⟨_, rfl⟩
          rw [hu1, hu2] at hF2
          have HF := am hF2
          clear hF2
          have hal := below_alloc (Below.refl wr.heap.size wr) (.cells #[.int .i64 e0, .int .i64 run, .slice A2 words.length c2, .int .i64 t0, .int .i64 t1, .int .i64 t2] 62 (0, 0))
          have BY := am (heapNew wr (.cells #[.int .i64 e0, .int .i64 run, .slice A2 words.length c2, .int .i64 t0, .int .i64 t1, .int .i64 t2] 62 (0, 0)))
          have HI1 := am (HIr.out.below hal)
          have HM1 := am (RestIs.below HMr.out hal)
          have HB1 := am (below_step HB.out hal)
          have HK1 := am (keep_alloc HK.out (.cells #[.int .i64 e0, .int .i64 run, .slice A2 words.length c2, .int .i64 t0, .int .i64 t1, .int .i64 t2] 62 (0, 0)))
          have HBV1 := am (BV.keep HBV.out (KeepBut.of_below hal gt none))
          have HFw1 := am (Kd.F_below HFw.out hal)
          have BX1 := am (blk_below BXr.out hal)
          have BT1 := am (blk_below BT.out hal)
          have hcells : True := trivial
          clear HIr HMr HNr BXr HB HK BT hFw HFw
          go_wp2
          clear hx0 hx1 hx2 hx3 hx4 hx5
          generalize wr.alloc (.cells #[.int .i64 e0, .int .i64 run, .slice A2 words.length c2, .int .i64 t0, .int .i64 t1, .int .i64 t2] 62 (0, 0)) = W1 at BY HI1 HM1 HB1 HK1 HBV1 HFw1 BX1 BT1 ⊢
          generalize wr.heap.size = ge at BY ⊢
          obtain ⟨hl1, hl2⟩ := RestIs.look (w := W1.drew) (s := (s0, s1, s2)) HM1.out Hws.out
          obtain ⟨hl3, hl4⟩ := RestIs.look (w := W1.drew) (s := (t0, t1, t2)) HM1.out hwe
          rw [hu1] at hl1
          rw [hu2] at hl3
          have HXa : (Instr.lookup 63 (.map (some b)) (.agg #[.int .i64 s0, .int .i64 s1, .int .i64 s2]) false).run Tryd.prog W1.drew = .ok (.int .i64 u1) W1.drew := hl1
          have HXm : (Instr.lookup 63 (.map (some b)) (.agg #[.int .i64 t0, .int .i64 t1, .int .i64 t2]) false).run Tryd.prog W1.drew = .ok (.int .i64 u2) W1.drew := hl3
          have HXg : W1.drew.cell? ⟨g, 1, none⟩ = some (.map (some b)) := IsS65.cell1 (W := W1) HI1.out
          have HX0 : W1.drew.cell? ⟨gs, 0, none⟩ = some (.int .i64 s0) := (blk_cell BX1.out 0).trans rfl
          have HX1 : W1.drew.cell? ⟨gs, 1, none⟩ = some (.int .i64 s1) := (blk_cell BX1.out 1).trans rfl
          have HX2 : W1.drew.cell? ⟨gs, 2, none⟩ = some (.int .i64 s2) := (blk_cell BX1.out 2).trans rfl
          have HY0 : W1.drew.cell? ⟨ge, 0, none⟩ = some (.int .i64 e0) := (blk_cell BY.out 0).trans rfl
          have HY1 : W1.drew.cell? ⟨ge, 1, none⟩ = some (.int .i64 run) := (blk_cell BY.out 1).trans rfl
          have HY2 : W1.drew.cell? ⟨ge, 2, none⟩ = some (.slice A2 words.length c2) := (blk_cell BY.out 2).trans rfl
          have HY3 : W1.drew.cell? ⟨ge, 3, none⟩ = some (.int .i64 t0) := (blk_cell BY.out 3).trans rfl
          have HY4 : W1.drew.cell? ⟨ge, 4, none⟩ = some (.int .i64 t1) := (blk_cell BY.out 4).trans rfl
          have HY5 : W1.drew.cell? ⟨ge, 5, none⟩ = some (.int .i64 t2) := (blk_cell BY.out 5).trans rfl
          clear hl1 hl2 hl3 hl4 hu1 hu2
          refine start_ (n := 17) (S := fun w' => w'.cell? ⟨g, 1, none⟩ = some (.map (some b)) ∧ w'.cell? ⟨ge, 0, none⟩ = some (.int .i64 e0) ∧ w'.cell? ⟨ge, 3, none⟩ = some (.int .i64 t0) ∧ w'.cell? ⟨ge, 4, none⟩ = some (.int .i64 t1) ∧ w'.cell? ⟨ge, 5, none⟩ = some (.int .i64 t2) ∧ w'.cell? ⟨gs, 0, none⟩ = some (.int .i64 s0) ∧ w'.cell? ⟨gs, 1, none⟩ = some (.int .i64 s1) ∧ w'.cell? ⟨gs, 2, none⟩ = some (.int .i64 s2) ∧ (Instr.lookup 63 (.map (some b)) (.agg #[.int .i64 s0, .int .i64 s1, .int .i64 s2]) false).run Tryd.prog w' = .ok (.int .i64 u1) w' ∧ (Instr.lookup 63 (.map (some b)) (.agg #[.int .i64 t0, .int .i64 t1, .int .i64 t2]) false).run Tryd.prog w' = .ok (.int .i64 u2) w') (ds := []) (bs 17 0) (by kernel_rfl) rfl rfl ⟨HXg, HY0, HY3, HY4, HY5, HX0, HX1, HX2, HXa, HXm⟩ (fun hHeld => ?_)
          refine pS 0 (some 32) (bs 17 1) (h := ?_)
          refine pS 2 (some 34) (bs 17 5) (h := ?_)
          refine pS 3 (some 35) (bs 17 13) (h := ?_)
          refine pS 4 (some 36) (bs 17 29) (h := ?_)
          refine pS 6 (some 38) (bs 17 93) (h := ?_)
          refine pS 10 (some 42) (bs 17 1117) (h := ?_)
          refine pS 11 (some 43) (bs 17 3165) (h := ?_)
          refine pS 12 (some 44) (bs 17 7261) (h := ?_)
          refine tS 1 (some 33) (bs 17 7263) hHeld (h := ?_)
          refine tS 5 (some 37) (bs 17 7295) hHeld (h := ?_)
          refine tS 7 (some 39) (bs 17 7423) hHeld (h := ?_)
          refine tS 8 (some 40) (bs 17 7679) hHeld (h := ?_)
          refine pS 9 (some 41) (bs 17 8191) (h := ?_)
          refine tS 13 (some 45) (bs 17 16383) hHeld (h := ?_)
          refine tS 14 (some 46) (bs 17 32767) hHeld (h := ?_)
          refine tS 15 (some 47) (bs 17 65535) hHeld (h := ?_)
          refine pS 16 (some 48) (bs 17 131071) (h := ?_)
          refine done_ (by kernel_rfl) ?_
          by_cases hzz : wrap64 (e0 + u2) = u1
          ·have hF := HF.out
           rw [if_pos hzz] at hF
           obtain ⟨cw, hcw2, hF3⟩ := Option.bind_eq_some_iff.1 hF
           by_cases hcl : 0 < cw.length ∧ cw.length ≤ 1000000
           ·rw [if_pos hcl] at hF3
            obtain ⟨hcl0, hcl1⟩ := hcl
            have Hcw := am hcw2
            have HF3 := am hF3
            clear hF hF3 hcw2 HF
            clear HXa HXm HXg HX1 HX2
            cases B with
            | none =>
             have hv7 : u7 = .slice none 0 0 := HBV1.out
             subst hv7
             have HF4 := am (show bestL k l0 M (s0, s1, s2) (l_.drop (i + 1)) (some cw) (t0, t1, t2) = some (B2, s') from HF3.out)
             clear HF3
             go_wp2_with (((with_reducible refine gate_callee (f := 33) rfl ?_); refine gL (some 53) Tryd.func33 #[.pointer (some ⟨g, 0, none⟩), .agg #[.int .i64 e0, .int .i64 run, .slice A2 words.length c2, .int .i64 t0, .int .i64 t1, .int .i64 t2], .int .i64 s0] (h := ?_); (with_reducible refine (codewords_calls k g b l0 w _ HI1.out.drew (below_drew1 HB1.out) hp e0 run s0 t0 t1 t2 A2 c2 words (fun k_ => k_ ≠ gt) (Kd.F_drew HFw1.out) hcw cw Hcw.out hcl1).mono ?_); rintro e w7 ⟨A7, c7, rfl, hf7, hc7, hb7⟩; refine ⟨_, rfl, ?_⟩; obtain ⟨a7, eA7, _⟩ := (Kd.F_now hf7).2.2 hcl0; subst eA7; have HF7 := am (Kd.F_mono (ok' := fun k_ => k_ ≠ gt) hf7 (fun k_ hk => by rcases hk with hk | hk; exact hk; have := blk_lt BT1.out; have : gt < W1.drew.heap.size := this; omega)); have HB7 := am hb7; clear hf7 hb7))
             clear hzz
             have HBd := am (HB7.out)
             have HFz := am (HF7.out)
             have HKz := am ((keep_drew HK1.out).trans (KeepBut.of_below HBd.out gt none) (.inl rfl))
             have HBz := am (below_step (below_drew1 HB1.out) HBd.out)
             have BYz := am (blk_below (w := W1.drew) BY.out HBd.out)
             have BTz := am (blk_below (w := W1.drew) BT1.out HBd.out)
             have HZ3 : w7.drew.cell? ⟨ge, 3, none⟩ = some (.int .i64 t0) := (blk_cell BYz.out 3).trans rfl
             have HZ4 : w7.drew.cell? ⟨ge, 4, none⟩ = some (.int .i64 t1) := (blk_cell BYz.out 4).trans rfl
             have HZ5 : w7.drew.cell? ⟨ge, 5, none⟩ = some (.int .i64 t2) := (blk_cell BYz.out 5).trans rfl
             have HT0 : w7.drew.cell? ⟨gt, 0, none⟩ = some (.int .i64 t.1) := (blk_cell BTz.out 0).trans rfl
             have HT1 : w7.drew.cell? ⟨gt, 1, none⟩ = some (.int .i64 t.2.1) := (blk_cell BTz.out 1).trans rfl
             have HT2 : w7.drew.cell? ⟨gt, 2, none⟩ = some (.int .i64 t.2.2) := (blk_cell BTz.out 2).trans rfl
             have hT0 : w7.cell? ⟨gt, 0, none⟩ = some (.int .i64 t.1) := HT0
             have hT1 : w7.cell? ⟨gt, 1, none⟩ = some (.int .i64 t.2.1) := HT1
             have hT2 : w7.cell? ⟨gt, 2, none⟩ = some (.int .i64 t.2.2) := HT2
             have hU0 : w7.frozen? ⟨gt, 0, none⟩ = false := blk_frozen BTz.out 0
             have hU1 : w7.frozen? ⟨gt, 1, none⟩ = false := blk_frozen BTz.out 1
             have hU2 : w7.frozen? ⟨gt, 2, none⟩ = false := blk_frozen BTz.out 2
             have HU0 : w7.drew.frozen? ⟨gt, 0, none⟩ = false := blk_frozen BTz.out 0
             have HU1 : w7.drew.frozen? ⟨gt, 1, none⟩ = false := blk_frozen BTz.out 1
             have HU2 : w7.drew.frozen? ⟨gt, 2, none⟩ = false := blk_frozen BTz.out 2
             refine start_ (n := 5) (S := fun w' => w'.cell? ⟨ge, 3, none⟩ = some (.int .i64 t0) ∧ w'.cell? ⟨ge, 4, none⟩ = some (.int .i64 t1) ∧ w'.cell? ⟨ge, 5, none⟩ = some (.int .i64 t2)) (ds := [4]) (bs 5 0) (by kernel_rfl) rfl rfl ⟨HZ3, HZ4, HZ5⟩ (fun hHeld => ?_)
             refine pS 0 (some 62) (bs 5 1) (h := ?_)
             refine pS 1 (some 63) (bs 5 3) (h := ?_)
             refine pS 3 (some 7) (bs 5 11) (h := ?_)
             refine tS 2 (some 64) (bs 5 15) hHeld (h := ?_)
             refine last_ (i := 4) (N := none) (bs 5 31) rfl rfl (by kernel_rfl) (by decide) (fun K hK => ?_)
             refine skip_ (w1 := ?_) (by rfl) rfl ?_ ?_
             rotate_left
             ·go_simp
              rfl
             refine hK.out _ _ ?_
             clear hK K
             refine done_ (by kernel_rfl) ?_
             go_wp2
             go_roundg (l_.length - (i + 1))
             case measure => omega
             case rel =>
              exact ⟨i + 1, some cw, (t0, t1, t2), by go_num, by omega, by omega, HF4, ⟨⟨a7, c7, rfl, hc7, hcl0, Kd.F_keep HFz.out (g := gt) ((((keep_drew (KeepBut.refl _ gt none)).set_ 0 _).set_ 1 _).set_ 2 _) (fun _ h => h)⟩⟩, ⟨(((keep_drew HKz.out).set_ 0 _).set_ 1 _).set_ 2 _⟩, ⟨below_set (below_set (below_set (below_drew1 HBz.out) hgtw) hgtw) hgtw⟩, ⟨blk_put (blk_put (blk_put (w := w7.drew) BTz.out 0 (.int .i64 t0) rfl) 1 (.int .i64 t1) rfl) 2 (.int .i64 t2) rfl⟩⟩
            | some bb =>
             obtain ⟨Ab, cb, hv7, hlb, hbb0, hFb⟩ := HBV1.out
             subst hv7
             obtain ⟨cc, hcc, hF4⟩ := Option.bind_eq_some_iff.1 (show ((stacktext_compare.f k cw bb).bind fun c => if c < 0 then bestL k l0 M (s0, s1, s2) (l_.drop (i + 1)) (some cw) (t0, t1, t2) else bestL k l0 M (s0, s1, s2) (l_.drop (i + 1)) (some bb) t) = some (B2, s') from HF3.out)
             have Hcc := am hcc
             have HFb := am hFb
             clear hcc hFb HF3
             by_cases hneg : cc < 0
             ·rw [if_pos hneg] at hF4
              have HF4 := am hF4
              clear hF4
              go_wp2_with (((with_reducible refine gate_callee (f := 33) rfl ?_); refine gL (some 53) Tryd.func33 #[.pointer (some ⟨g, 0, none⟩), .agg #[.int .i64 e0, .int .i64 run, .slice A2 words.length c2, .int .i64 t0, .int .i64 t1, .int .i64 t2], .int .i64 s0] (h := ?_); (with_reducible refine (codewords_calls k g b l0 w _ HI1.out.drew (below_drew1 HB1.out) hp e0 run s0 t0 t1 t2 A2 c2 words (fun k_ => k_ ≠ gt) (Kd.F_drew HFw1.out) hcw cw Hcw.out hcl1).mono ?_); rintro e w7 ⟨A7, c7, rfl, hf7, hc7, hb7⟩; refine ⟨_, rfl, ?_⟩; obtain ⟨a7, eA7, _⟩ := (Kd.F_now hf7).2.2 hcl0; subst eA7; have HF7 := am (Kd.F_mono (ok' := fun k_ => k_ ≠ gt) hf7 (fun k_ hk => by rcases hk with hk | hk; exact hk; have := blk_lt BT1.out; have : gt < W1.drew.heap.size := this; omega)); have HB7 := am hb7; clear hf7 hb7))
              refine (stacktext_compare.calls k (some a7) c7 cw (some Ab) cb bb cc _ (Kd.F_now HF7.out) hc7 (Kd.C_below (Kd.C_drew (Kd.F_now HFb.out)) HB7.out) hlb Hcc.out).mono ?_
              rintro e w8 ⟨rfl, hb8⟩
              have HB8 := am hb8
              clear hb8
              dsimp only
              go_wp2
              clear hzz
              have HBd := am (below_step HB7.out HB8.out)
              have HFz := am (Kd.F_below HF7.out HB8.out)
              have HKz := am ((keep_drew HK1.out).trans (KeepBut.of_below HBd.out gt none) (.inl rfl))
              have HBz := am (below_step (below_drew1 HB1.out) HBd.out)
              have BYz := am (blk_below (w := W1.drew) BY.out HBd.out)
              have BTz := am (blk_below (w := W1.drew) BT1.out HBd.out)
              have HZ3 : w8.drew.cell? ⟨ge, 3, none⟩ = some (.int .i64 t0) := (blk_cell BYz.out 3).trans rfl
              have HZ4 : w8.drew.cell? ⟨ge, 4, none⟩ = some (.int .i64 t1) := (blk_cell BYz.out 4).trans rfl
              have HZ5 : w8.drew.cell? ⟨ge, 5, none⟩ = some (.int .i64 t2) := (blk_cell BYz.out 5).trans rfl
              have HT0 : w8.drew.cell? ⟨gt, 0, none⟩ = some (.int .i64 t.1) := (blk_cell BTz.out 0).trans rfl
              have HT1 : w8.drew.cell? ⟨gt, 1, none⟩ = some (.int .i64 t.2.1) := (blk_cell BTz.out 1).trans rfl
              have HT2 : w8.drew.cell? ⟨gt, 2, none⟩ = some (.int .i64 t.2.2) := (blk_cell BTz.out 2).trans rfl
              have hT0 : w8.cell? ⟨gt, 0, none⟩ = some (.int .i64 t.1) := HT0
              have hT1 : w8.cell? ⟨gt, 1, none⟩ = some (.int .i64 t.2.1) := HT1
              have hT2 : w8.cell? ⟨gt, 2, none⟩ = some (.int .i64 t.2.2) := HT2
              have hU0 : w8.frozen? ⟨gt, 0, none⟩ = false := blk_frozen BTz.out 0
              have hU1 : w8.frozen? ⟨gt, 1, none⟩ = false := blk_frozen BTz.out 1
              have hU2 : w8.frozen? ⟨gt, 2, none⟩ = false := blk_frozen BTz.out 2
              have HU0 : w8.drew.frozen? ⟨gt, 0, none⟩ = false := blk_frozen BTz.out 0
              have HU1 : w8.drew.frozen? ⟨gt, 1, none⟩ = false := blk_frozen BTz.out 1
              have HU2 : w8.drew.frozen? ⟨gt, 2, none⟩ = false := blk_frozen BTz.out 2
              refine start_ (n := 5) (S := fun w' => w'.cell? ⟨ge, 3, none⟩ = some (.int .i64 t0) ∧ w'.cell? ⟨ge, 4, none⟩ = some (.int .i64 t1) ∧ w'.cell? ⟨ge, 5, none⟩ = some (.int .i64 t2)) (ds := [4]) (bs 5 0) (by kernel_rfl) rfl rfl ⟨HZ3, HZ4, HZ5⟩ (fun hHeld => ?_)
              refine pS 0 (some 62) (bs 5 1) (h := ?_)
              refine pS 1 (some 63) (bs 5 3) (h := ?_)
              refine pS 3 (some 7) (bs 5 11) (h := ?_)
              refine tS 2 (some 64) (bs 5 15) hHeld (h := ?_)
              refine last_ (i := 4) (N := none) (bs 5 31) rfl rfl (by kernel_rfl) (by decide) (fun K hK => ?_)
              refine skip_ (w1 := ?_) (by rfl) rfl ?_ ?_
              rotate_left
              ·go_simp
               rfl
              refine hK.out _ _ ?_
              clear hK K
              refine done_ (by kernel_rfl) ?_
              go_wp2
              go_roundg (l_.length - (i + 1))
              case measure => omega
              case rel =>
               exact ⟨i + 1, some cw, (t0, t1, t2), by go_num, by omega, by omega, HF4, ⟨⟨a7, c7, rfl, hc7, hcl0, Kd.F_keep HFz.out (g := gt) ((((keep_drew (KeepBut.refl _ gt none)).set_ 0 _).set_ 1 _).set_ 2 _) (fun _ h => h)⟩⟩, ⟨(((keep_drew HKz.out).set_ 0 _).set_ 1 _).set_ 2 _⟩, ⟨below_set (below_set (below_set (below_drew1 HBz.out) hgtw) hgtw) hgtw⟩, ⟨blk_put (blk_put (blk_put (w := w8.drew) BTz.out 0 (.int .i64 t0) rfl) 1 (.int .i64 t1) rfl) 2 (.int .i64 t2) rfl⟩⟩
             ·rw [if_neg hneg] at hF4
              have HF4 := am hF4
              clear hF4
              go_wp2_with (((with_reducible refine gate_callee (f := 33) rfl ?_); refine gL (some 53) Tryd.func33 #[.pointer (some ⟨g, 0, none⟩), .agg #[.int .i64 e0, .int .i64 run, .slice A2 words.length c2, .int .i64 t0, .int .i64 t1, .int .i64 t2], .int .i64 s0] (h := ?_); (with_reducible refine (codewords_calls k g b l0 w _ HI1.out.drew (below_drew1 HB1.out) hp e0 run s0 t0 t1 t2 A2 c2 words (fun k_ => k_ ≠ gt) (Kd.F_drew HFw1.out) hcw cw Hcw.out hcl1).mono ?_); rintro e w7 ⟨A7, c7, rfl, hf7, hc7, hb7⟩; refine ⟨_, rfl, ?_⟩; obtain ⟨a7, eA7, _⟩ := (Kd.F_now hf7).2.2 hcl0; subst eA7; have HF7 := am (Kd.F_mono (ok' := fun k_ => k_ ≠ gt) hf7 (fun k_ hk => by rcases hk with hk | hk; exact hk; have := blk_lt BT1.out; have : gt < W1.drew.heap.size := this; omega)); have HB7 := am hb7; clear hf7 hb7))
              refine (stacktext_compare.calls k (some a7) c7 cw (some Ab) cb bb cc _ (Kd.F_now HF7.out) hc7 (Kd.C_below (Kd.C_drew (Kd.F_now HFb.out)) HB7.out) hlb Hcc.out).mono ?_
              rintro e w8 ⟨rfl, hb8⟩
              have HB8 := am hb8
              clear hb8
              dsimp only
              go_wp2
              clear hzz
              have HBd := am (below_step HB7.out HB8.out)
              go_roundg (l_.length - (i + 1))
              case measure => omega
              case rel =>
               exact ⟨i + 1, some bb, t, by go_num, by omega, by omega, HF4, ⟨BV.keep HBV1.out ((keep_drew (KeepBut.refl _ gt none)).trans (KeepBut.of_below HBd.out gt none) (.inl rfl))⟩, ⟨(keep_drew HK1.out).trans (KeepBut.of_below HBd.out gt none) (.inl rfl)⟩, ⟨below_step (below_drew1 HB1.out) HBd.out⟩, ⟨blk_below (w := W1.drew) BT1.out HBd.out⟩⟩
           ·rw [if_neg hcl] at hF3; cases hF3
          ·have hF := HF.out
           rw [if_neg hzz] at hF
           have HF3 := am hF
           clear hF HF
           clear HXa HXm HXg HX0 HX1 HX2 HY0 HY1 HY2 HY3 HY4 HY5
           go_wp2
           clear hzz
           go_roundg (l_.length - (i + 1))
           case measure => omega
           case rel => exact ⟨i + 1, B, t, by go_num, by omega, by omega, HF3, ⟨BV.keep HBV1.out (keep_drew (KeepBut.refl _ _ _))⟩, ⟨keep_drew HK1.out⟩, ⟨below_drew1 HB1.out⟩, BT1⟩
         ·exact absurd hF (by rw [if_neg (show ¬ wf3 (eOf ⟨e0, run, words, ⟨t0, ⟨t1, t2⟩⟩⟩).2 from hwe)]; simp)
        ·have hie : i = l_.length := by omega
         have hF := HF.out
         rw [hie, List.drop_length] at hF
         obtain ⟨eB, es⟩ := Prod.mk.inj (Option.some.inj (show some (B, t) = some (B2, s') from hF))
         subst eB
         subst es
         clear hF HF
         cases B with
         | none => exact absurd HE3.out (by simp)
         | some bb =>
          obtain ⟨Ab, cb, hv7, hlb, hbb0, hFb⟩ := HBV.out
          subst hv7
          have hE4 : (if out.length + bb.length ≤ 1000000 then encL k l0 M f t (out ++ bb) else none) = some r1 := HE3.out
          by_cases hbo : out.length + bb.length ≤ 1000000
          ·rw [if_pos hbo] at hE4
           have HE4 := am hE4
           have HOr := am (Kd.R_mono (ok' := fun _ => True) (Kd.R_keep HO3.out HK.out (fun _ hk => hk.2)) (fun _ _ => trivial))
           have HCb := am (Kd.F_now hFb)
           have hobl : (out.length + bb.length) * 8 ≤ 140737488355328 := by omega
           have hneG := am (IsS65.own_ne HIr.out HOr.out (by decide))
           have hneT : some gt ≠ u5.ownBlock := fun e => by
            obtain ⟨cs, hcs⟩ := Kd.R_typed HOr.out gt e.symm
            rw [BT.out] at hcs
            cases hcs
           have hneS : some gs ≠ u5.ownBlock := fun e => by
            obtain ⟨cs, hcs⟩ := Kd.R_typed HOr.out gs e.symm
            rw [BXr.out] at hcs
            cases hcs
           have hneB : some b ≠ u5.ownBlock := fun e => by
            obtain ⟨cs, hcs⟩ := Kd.R_typed HOr.out b e.symm
            obtain ⟨es, cl, hm⟩ := HMr.out.isMap
            rw [hm] at hcs
            cases hcs
           have HNT := am hneT
           have HNS := am hneS
           have HNB := am hneB
           have hgsg : g ≠ gs := IsS65.ne_blk HIr.out BXr.out (by decide)
           have hbgs : b ≠ gs := fun e => by
            obtain ⟨es, cl, hm⟩ := HMr.out.isMap
            have := BXr.out
            rw [← e, hm] at this
            cases this
           have hglt := IsS65.lt HIr.out
           have hblt := HMr.out.lt
           clear hE4 HE3 hFb hneT hneS hneB HBV
           go_wp2_with ((with_reducible refine gate_builtin (b := .append) (xs := #[.tmp 66, .tmp 67]) rfl ?_); at_builtin; refine Kd.R_append_rows (Kd.int .i64) (w0 := w) w.heap.size rfl (.tmp 66) (.tmp 67) 22 3 (.int .i64 0) 8 rfl Tryd.underlying22 Go.Proofs.YtoadabodhdgdjaaDoor.SM.info3 rfl (by decide) (by omega) u5 out bb (some Ab) _ cb (fun _ => True) (fun _ => False) rfl rfl HOr.out HCb.out (fun _ _ h => h) (fun _ h => h.elim) (fun _ _ => trivial) HB.out HB.out.size hobl ?_; intro v6 w6 ho hb hg_ hat_; have HO6 := am ho; have HB6 := am hb; have HG6 := am hg_; have BT6 := am (blk_grown BT.out hg_ HNT.out); have BX6 := am (blk_grown BXr.out hg_ HNS.out); have hy0 : w6.cell? ⟨gt, 0, none⟩ = some (.int .i64 t.1) := (blk_cell BT6.out 0).trans rfl; have hy1 : w6.cell? ⟨gt, 1, none⟩ = some (.int .i64 t.2.1) := (blk_cell BT6.out 1).trans rfl; have hy2 : w6.cell? ⟨gt, 2, none⟩ = some (.int .i64 t.2.2) := (blk_cell BT6.out 2).trans rfl; have hz0 : w6.cell? ⟨gs, 0, none⟩ = some (.int .i64 s0) := (blk_cell BX6.out 0).trans rfl; have hz1 : w6.cell? ⟨gs, 1, none⟩ = some (.int .i64 s1) := (blk_cell BX6.out 1).trans rfl; have hz2 : w6.cell? ⟨gs, 2, none⟩ = some (.int .i64 s2) := (blk_cell BX6.out 2).trans rfl; have hu0 := blk_frozen BX6.out 0; have hu1 := blk_frozen BX6.out 1; have hu2 := blk_frozen BX6.out 2; clear hat_ hg_ ho hb)
           go_roundg f
           case measure => omega
           case rel =>
            have a1 : IsS65 w w6 g l0 (some b) := IsS65.stay HIr.out (HG6.out.block g hglt hneG.out)
            have a2 : RestIs w6 b n M := HMr.out.heap (HG6.out.block b hblt HNB.out)
            have h3 : ∀ (v0 v1 v2 : Value) (k_ : Nat), k_ ≠ gs → (((w6.setCell ⟨gs, 0, none⟩ v0).setCell ⟨gs, 1, none⟩ v1).setCell ⟨gs, 2, none⟩ v2).heap[k_]? = w6.heap[k_]? := fun v0 v1 v2 k_ hk => (Below.heap_setCell _ ⟨gs, 2, none⟩ _ k_ hk).trans ((Below.heap_setCell _ ⟨gs, 1, none⟩ _ k_ hk).trans (Below.heap_setCell _ ⟨gs, 0, none⟩ _ k_ hk))
            have a3 := fun v0 v1 v2 => IsS65.stay a1 (h3 v0 v1 v2 g hgsg)
            have a4 := fun v0 v1 v2 => RestIs.heap a2 (h3 v0 v1 v2 b hbgs)
            have a5 := fun v0 v1 v2 => Kd.R_mono (ok' := fun _ => True) (Kd.R_step (Kd.R_types HO6.out BX6.out int_ST) (fun k_ hk _ => h3 v0 v1 v2 k_ hk.2)) (fun _ _ => trivial)
            have a6 := fun v0 v1 v2 => below_set (v := v2) (j := 2) (below_set (v := v1) (j := 1) (below_set (v := v0) (j := 0) HB6.out hgs) hgs) hgs
            have hal := fun v0 v1 v2 => below_alloc (Below.refl (((w6.setCell ⟨gs, 0, none⟩ v0).setCell ⟨gs, 1, none⟩ v1).setCell ⟨gs, 2, none⟩ v2).heap.size (((w6.setCell ⟨gs, 0, none⟩ v0).setCell ⟨gs, 1, none⟩ v1).setCell ⟨gs, 2, none⟩ v2)) (.cells #[.int .i64 t.1, .int .i64 t.2.1, .int .i64 t.2.2] 58 (0, 0))
            have hsz : (((w6.setCell ⟨gs, 0, none⟩ (.int .i64 t.1)).setCell ⟨gs, 1, none⟩ (.int .i64 t.2.1)).setCell ⟨gs, 2, none⟩ (.int .i64 t.2.2)).heap.size = w6.heap.size := by simp [World.setCell]
            refine ⟨f, t, out ++ bb, w6.heap.size, rfl, Nat.le_refl _, HB6.out.size, by rw [List.length_append]; exact hbo, HE4, ⟨Kd.R_below (a5 _ _ _) (hal _ _ _)⟩, ⟨IsS65.below (a3 _ _ _) (hal _ _ _)⟩, ⟨below_step (a6 _ _ _) (hal _ _ _)⟩, ⟨RestIs.below (a4 _ _ _) (hal _ _ _)⟩, ⟨?_⟩⟩
            have hnew := heapNew (((w6.setCell ⟨gs, 0, none⟩ (.int .i64 t.1)).setCell ⟨gs, 1, none⟩ (.int .i64 t.2.1)).setCell ⟨gs, 2, none⟩ (.int .i64 t.2.2)) (.cells #[.int .i64 t.1, .int .i64 t.2.1, .int .i64 t.2.2] 58 (0, 0))
            rw [hsz] at hnew
            exact hnew
          ·rw [if_neg hbo] at hE4; cases hE4
      ·rw [if_neg hll] at hE2; cases hE2
     ·rw [if_neg hws] at hE; cases hE
    ·rw [if_neg hlt] at hE
     cases hE
     go_wp2
     refine bodyPost_ret (results_tmp2 rfl _ _ _) rfl ?_
     exact ⟨_, rfl, HO.out, HB.out⟩
end Go.Proofs.YtoadabodhdgdjaaDoor.St
