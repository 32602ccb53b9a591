import Derived.Test.YtoadabodhdgdjaaDoorQStPa
import Derived.Test.YtoadabodhdgdjaaDoorQS0
namespace Go.Proofs.YtoadabodhdgdjaaDoor.St
open Go.Proofs.YtoadabodhdgdjaaDoor.S0
open Go.RowKit Go.Maps Go.Proofs.YtoadabodhdgdjaaDoorW.PrintWords Go.Proofs.YtoadabodhdgdjaaDoorW.PrintLast Go.Proofs.YtoadabodhdgdjaaDoorW.PrintMore Go.Proofs.YtoadabodhdgdjaaDoor.SM
attribute [local go_sem] max2_int min2_int max_two min_two max_three min_three max_four min_four
set_option linter.unusedVariables false
set_option linter.unusedSimpArgs false
def bestOf (M : PMap) : List E4 → Int → Int
 | [], b => b
 | e :: t, b => bestOf M t (gmin b (wrap64 (e.1 + pget M e.2)))
def relax (M : PMap) (s : St3) (e : E4) : PMap := pput M s (gmin (pget M s) (wrap64 (e.1 + pget M e.2)))
theorem relax_eq {M : PMap} {s : St3} {e0 e1 e2 e3 u1 u2 nb : Int} (h1 : pget M s = u1) (h2 : pget M (e1, e2, e3) = u2) (h3 : (if wrap64 (e0 + u2) < u1 then wrap64 (e0 + u2) else u1) = nb) : relax M s (e0, e1, e2, e3) = pput M s nb := by
 unfold relax
 show pput M s (gmin (pget M s) (wrap64 (e0 + pget M (e1, e2, e3)))) = _
 rw [h1, h2]
 exact congrArg _ h3
def fillS (a : Int) (s : St3) : List E4 → PMap → List E4 → PMap × List E4
 | [], M, R => (M, R)
 | e :: t, M, R => if a < e.2.1 then fillS a s t (relax M s e) R else fillS a s t M (R ++ [e])
def firstF (k : Nat) (p : List Int) (m : Option Nat) (a best : Int) : List St3 → PMap → List (List E4) → Option (PMap × List (List E4))
 | [], M, X => some (M, X)
 | s :: t, M, X => (stacktext_encoder_texts.f k p m s.1 s.2.1 s.2.2).bind fun r =>
  if r.1.length ≤ 1000 ∧ (∀ e ∈ r.1.map eOf, wf3 e.2) ∧ wf3 s ∧ r.2 = m then
   firstF k p m a best t (fillS a s (r.1.map eOf) (pput M s (gmin best (wrap64 (2 + pget M (wrap64 (a + 1), s.2.1, -1))))) []).1
    (X ++ [(fillS a s (r.1.map eOf) (pput M s (gmin best (wrap64 (2 + pget M (wrap64 (a + 1), s.2.1, -1))))) []).2 ++ [(1, (a, 0, -1))]])
  else none
def relaxRow (s : St3) : List E4 → PMap → PMap
 | [], M => M
 | e :: t, M => relaxRow s t (relax M s e)
def relaxAll : List St3 → List (List E4) → PMap → PMap
 | s :: t, R :: X, M => relaxAll t X (relaxRow s R M)
 | _, _, M => M
def relaxN (l : List St3) (X : List (List E4)) : Nat → PMap → PMap
 | 0, M => M
 | n + 1, M => relaxN l X n (relaxAll l X M)
def solveF (k : Nat) (p : List Int) (m : Option Nat) (M : PMap) (a : Int) : Option PMap :=
 (stacktext_states.f k a).bind fun ls => (stacktext_encoder_runs.f k p m a).bind fun rr =>
  if ls.length ≤ 1000 ∧ rr.1.length ≤ 10000 ∧ (∀ e ∈ rr.1.map eOf, wf3 e.2) ∧ wf3 (a, 0, -1) ∧ rr.2 = m then
   (firstF k p m a (bestOf M (rr.1.map eOf) 1099511627776) (ls.map stOf) M []).bind fun r =>
    some (pput (relaxN (ls.map stOf) r.2 ls.length r.1) (a, 4, -1) (gmin (bestOf M (rr.1.map eOf) 1099511627776) (wrap64 (1 + pget (relaxN (ls.map stOf) r.2 ls.length r.1) (a, 0, -1)))))
  else none
def GoodX (X : List (List E4)) : Prop := ∀ R ∈ X, R.length ≤ 1001 ∧ ∀ e ∈ R, wf3 e.2
theorem fillS_good (a : Int) (s : St3) : ∀ (l : List E4) (M : PMap) (R : List E4), (∀ e ∈ l, wf3 e.2) → (∀ e ∈ R, wf3 e.2) → (fillS a s l M R).2.length ≤ R.length + l.length ∧ ∀ e ∈ (fillS a s l M R).2, wf3 e.2
 | [], M, R, _, h2 => ⟨Nat.le_refl _, h2⟩
 | e :: t, M, R, h1, h2 => by
  unfold fillS
  have ht : ∀ x ∈ t, wf3 x.2 := fun x hx => h1 x (List.mem_cons_of_mem _ hx)
  split
  ·obtain ⟨a1, a2⟩ := fillS_good a s t (relax M s e) R ht h2
   exact ⟨by rw [List.length_cons]; omega, a2⟩
  ·obtain ⟨a1, a2⟩ := fillS_good a s t M (R ++ [e]) ht (fun x hx => by
    rcases List.mem_append.1 hx with hx | hx
    ·exact h2 x hx
    ·rw [List.mem_singleton.1 hx]; exact h1 e (List.mem_cons_self ..))
   refine ⟨?_, a2⟩
   rw [List.length_append, List.length_singleton] at a1
   rw [List.length_cons]
   omega
theorem firstF_good (k : Nat) (p : List Int) (m : Option Nat) (a best : Int) (hw : wf3 (a, 0, -1)) : ∀ (l : List St3) (M : PMap) (X : List (List E4)) (M2 : PMap) (X2 : List (List E4)), firstF k p m a best l M X = some (M2, X2) → GoodX X → GoodX X2 ∧ X2.length = X.length + l.length ∧ ∀ s ∈ l, wf3 s
 | [], M, X, M2, X2, h, hg => by
  cases h
  exact ⟨hg, rfl, fun s hs => by cases hs⟩
 | s :: t, M, X, M2, X2, h, hg => by
  unfold firstF at h
  obtain ⟨r, hr, h⟩ := Option.bind_eq_some_iff.1 h
  by_cases hc : r.1.length ≤ 1000 ∧ (∀ e ∈ r.1.map eOf, wf3 e.2) ∧ wf3 s ∧ r.2 = m
  ·rw [if_pos hc] at h
   obtain ⟨c1, c2, c3, _⟩ := hc
   obtain ⟨f1, f2⟩ := fillS_good a s (r.1.map eOf) (pput M s (gmin best (wrap64 (2 + pget M (wrap64 (a + 1), s.2.1, -1))))) [] c2 (fun x hx => by cases hx)
   obtain ⟨g1, g2, g3⟩ := firstF_good k p m a best hw t _ _ M2 X2 h (fun R hR => by
    rcases List.mem_append.1 hR with hR | hR
    ·exact hg R hR
    ·rw [List.mem_singleton.1 hR]
     refine ⟨?_, fun e he => ?_⟩
     ·rw [List.length_append, List.length_singleton]
      rw [List.length_nil, List.length_map] at f1
      omega
     ·rcases List.mem_append.1 he with he | he
      ·exact f2 e he
      ·rw [List.mem_singleton.1 he]; exact hw)
   refine ⟨g1, ?_, fun q hq => ?_⟩
   ·rw [g2, List.length_append, List.length_singleton, List.length_cons]; omega
   ·rcases List.mem_cons.1 hq with e | hq
    ·rw [e]; exact c3
    ·exact g3 q hq
  ·rw [if_neg hc] at h; cases h
theorem CH_made (w : World) (base n : Nat) (av : Nat → Prop) : CH (w.alloc (.cells (Array.replicate n nilV) 59)) base w.heap.size (List.replicate n nilV) (List.replicate n []) av where
 blk := by rw [List.toArray_replicate]; exact heapNew w _
 len := by simp
 row := fun i hi => by
  have e1 : (List.replicate n nilV).getD i nilV = nilV := by simp [List.getD_eq_getElem?_getD, List.getElem?_replicate]; split <;> rfl
  have e2 : (List.replicate n ([] : List E4)).getD i [] = [] := by simp [List.getD_eq_getElem?_getD, List.getElem?_replicate]; split <;> rfl
  rw [e1, e2]
  exact Kd.R_nil _ _ _ _ _
 dis := fun i j k hi hj _ hk => by
  have e1 : (List.replicate n nilV).getD i nilV = nilV := by simp [List.getD_eq_getElem?_getD, List.getElem?_replicate]; split <;> rfl
  rw [e1] at hk
  cases hk
 far := fun i k hi hk => by
  have e1 : (List.replicate n nilV).getD i nilV = nilV := by simp [List.getD_eq_getElem?_getD, List.getElem?_replicate]; split <;> rfl
  rw [e1] at hk
  cases hk
theorem CH.re {w : World} {base gc : Nat} {vs : List Value} {X : List (List E4)} {av av' : Nat → Prop} (h : CH w base gc vs X av) (hav : ∀ k, av' k → w.heap.size ≤ k) : CH w base gc vs X av' :=
 ⟨h.blk, h.len, h.row, h.dis, fun i k hi hk hk2 => by have := (own_cells (h.row i hi) hk).1; have := hav k hk2; omega⟩
set_option maxRecDepth 20000 in
theorem make_steps (m : Nat) (hm : m ≤ 1000) : ∀ W : World, (Instr.makeSlice 119 (.int .i64 (m : Int)) (.int .i64 (m : Int))).run Tryd.prog W = .ok (.slice (some ⟨W.heap.size, 0, none⟩) m m) (W.alloc (.cells (Array.replicate m nilV) 59)) := by
 intro W
 obtain ⟨i0, hi0, hz0, hz1, hz2⟩ := info_parts (show (Tryd.prog.info? 59).map (fun i => (i.zero, i.size, i.bytes)) = some (some (.slice none 0 0), 1, 24) from by kernel_rfl)
 have h := run_make (P := Tryd.prog) W 119 59 i0 (.slice none 0 0) Tryd.underlying119 hi0 hz0 .i64 .i64 (m : Int) (m : Int) (by omega) (by omega) (by rw [hz2]; omega) (by omega)
 rw [h, Int.toNat_natCast, hz1, Nat.mul_one]
 congr 3
 apply Array.ext'
 rw [Array.toList_replicate]
 exact toList_madeCells_one _ _
set_option maxHeartbeats 16000000 in
set_option maxRecDepth 100000 in
theorem solve_mid (k : Nat) (g b n : Nat) (p : List Int) (a : Int) (M M2 : PMap) (w0 w : World) (hI : IsS65 w0 w g p (some b)) (hB : Below w0.heap.size w0 w) (hM : RestIs w b n M) (hb0 : w0.heap.size ≤ b) (hn : n ≤ 9000000000000000000) (hp : p.length ≤ 1000000) (ha : ¬ a = (p.length : Int)) (h : solveF k p (some b) M a = some M2) :
  Calls Tryd.prog 55 #[.pointer (some ⟨g, 0, none⟩), .int .i64 a] w fun e w' => e = .returned (.tuple #[]) ∧ IsS65 w0 w' g p (some b) ∧ Below w0.heap.size w0 w' ∧ RestIs w' b (n + 100000000000) M2 := by
 obtain ⟨ls, hls, h1⟩ := Option.bind_eq_some_iff.1 h
 clear h
 obtain ⟨⟨rs, m1⟩, hrs, h⟩ := Option.bind_eq_some_iff.1 h1
 clear h1
 by_cases hc : ls.length ≤ 1000 ∧ rs.length ≤ 10000 ∧ (∀ e ∈ rs.map eOf, wf3 e.2) ∧ wf3 (a, 0, -1) ∧ m1 = some b
 ·rw [if_pos hc] at h
  obtain ⟨⟨MF, XF⟩, hfst, h1⟩ := Option.bind_eq_some_iff.1 h
  have hm2 := Option.some.inj h1
  clear h h1
  obtain ⟨hl, hrl, hrwf, hawf, rfl⟩ := hc
  have Hls := am hls
  have Hrs := am hrs
  have Hfst := am hfst
  obtain ⟨hgd, _, hst⟩ := firstF_good k p (some b) a _ hawf _ _ _ _ _ hfst (fun R hR => by cases hR)
  have HGd := am hgd
  have HSt := am hst
  clear hgd hst
  have Hm2 := am hm2
  have Hrwf := am hrwf
  have Hawf := am hawf
  have HI := am hI
  have HB := am hB
  have HM := am hM
  have Hb0 := am hb0
  have hne : (a == (p.length : Int)) = false := beq_eq_false_iff_ne.mpr ha
  obtain ⟨A0, c0, HG, hg0, hC0⟩ := hI
  have hcp : w.cell? ⟨g, 0, none⟩ = some (.slice A0 p.length (p.length + c0)) := (blk_cell HG 0).trans rfl
  clear hls hrs hfst hm2 hrwf hawf hB hM HG hg0 hC0 ha
  go_enter Tryd.func55, Tryd.ntmps55
  go_wp2_with (first | ((with_reducible refine gate_callee (f := 76) rfl ?_); refine gL (some 20) Tryd.func76 #[.int .i64 a] (h := ?_); (with_reducible refine (stacktext_states.calls k _ ls _ Hls.out).mono ?_); rintro e w1 ⟨v1, rfl, ho, hb⟩; refine ⟨_, rfl, ?_⟩; obtain ⟨A1, c1, e1⟩ := Kd.R_slice ho; subst e1; have HO := am ho; have HB1 := am hb; have hcp1 := (hb.cell (World.block_lt_of_cell? _ _ hcp)).trans hcp; clear hcp ho hb) | ((with_reducible refine gate_callee (f := 56) rfl ?_); refine gL (some 46) Tryd.func56 #[.pointer (some ⟨g, 0, none⟩), .int .i64 a] (h := ?_); (with_reducible refine (stacktext_encoder_runs.calls k g p (some b) a rs (some b) w0 _ ?s1 ?s2 Hrs.out).mono ?_); (case s1 => exact HI.out.below HB1.out); (case s2 => exact below_step HB.out HB1.out); rintro e w2 ⟨v2, rfl, ho, hi, hb, hk⟩; refine ⟨_, rfl, ?_⟩; obtain ⟨A2_, c2_, hv2, hcl2, hC2⟩ := Kd.S_reads ho; subst hv2; have HR2 := am (C_eOf hC2); have HB2 := am hb; have HK2 := am hk; have HI2 := am hi; clear ho hi hb hk hC2 hcl2 hcp1))
  have hglt := IsS65.lt HI.out
  have hbne : some g ≠ some b := IsS65.ne_map HI.out HM.out
  have hbne2 : b ≠ g := fun e => hbne (by rw [e])
  have HM2 := am (HM.out.heap ((HK2.out.2 b (Nat.lt_of_lt_of_le HM.out.lt HB1.out.size) hbne2 (by simp)).trans (HB1.out.block b HM.out.lt)))
  have HO2 := Kd.R_keep (Kd.R_mono (ok' := fun k_ => k_ ≠ g) (Kd.R_bound HO.out) (fun k_ hk => by have := hk.2.1; omega)) HK2.out (fun k_ hk => hk)
  have HCl := am (C_stOf (Kd.R_reads' HO2).2.2)
  have HTy := am (R_TyB HO2).1
  have hge1 : w.heap.size ≤ w2.heap.size := Nat.le_trans HB1.out.size HK2.out.1
  have HBs := am HB2.out
  clear HO2 HO HK2 HB1 HM HI hne HB Hls Hrs HB2
  obtain ⟨RS, hRS⟩ : ∃ RS, rs.map eOf = RS := ⟨_, rfl⟩
  have hRSl : rs.length = RS.length := by rw [← hRS, List.length_map]
  rw [hRS] at HR2 Hrwf Hfst Hm2
  have HRl := am hRSl
  clear hRS hRSl
  go_loopg [7, 48] rs.length (fun gg v7 v48 wr => ∃ (kk : Nat) (best : Int), v7 = .int .i64 best ∧ v48 = .int .i64 kk ∧ kk ≤ rs.length ∧ rs.length - kk ≤ gg ∧ Aside0 (bestOf M (RS.drop kk) best = bestOf M RS 1099511627776) ∧ Aside0 ((Lit.int .i64 best).wf = true) ∧ Aside0 (Below w2.heap.size w2 wr))
  case atStart => exact ⟨0, 1099511627776, rfl, rfl, Nat.zero_le _, by omega, ⟨rfl⟩, ⟨by decide⟩, ⟨Below.refl _ _⟩⟩
  case round =>
   obtain ⟨kk, best, rfl, rfl, hkk, hg, HP, Hbw, HBr⟩ := hrel
   by_cases hlt : kk < rs.length
   ·have hltz : (kk : Int) < (rs.length : Int) := by omega
    have hlt2 : kk < RS.length := by rw [← HRl.out]; exact hlt
    obtain ⟨ad, run, A2, n2, c2, e1, hx0, hx1, hx2, hx3, hx4, hx5⟩ := at_E (Kd.C_below HR2.out HBr.out) kk hlt
    subst e1
    have hget : RS.getD kk zE = RS[kk]'hlt2 := by simp [hlt2]
    have hwfk := Hrwf.out (RS.getD kk zE) (by rw [hget]; exact List.getElem_mem _)
    have hstep : bestOf M (RS.drop kk) best = bestOf M (RS.drop (kk + 1)) (gmin best (wrap64 ((RS.getD kk zE).1 + pget M (RS.getD kk zE).2))) := by
     rw [List.drop_eq_getElem_cons hlt2, hget]
     rfl
    have HS := am (hstep.symm.trans HP.out)
    clear hstep HP hget
    generalize RS.getD kk zE = ee at hx0 hx1 hx2 hx3 hx4 hx5 hwfk HS
    obtain ⟨e0, e1, e2, e3⟩ := ee
    have Hwfk := am hwfk
    clear hwfk
    go_wp2
    have BX : (wr.alloc (.cells #[.int .i64 e0, .int .i64 run, .slice A2 n2 c2, .int .i64 e1, .int .i64 e2, .int .i64 e3] 62)).heap[wr.heap.size]? = some (.cells #[.int .i64 e0, .int .i64 run, .slice A2 n2 c2, .int .i64 e1, .int .i64 e2, .int .i64 e3] 62 (0, 0)) := heapNew wr _
    have HB1 := am (below_alloc HBr.out (.cells #[.int .i64 e0, .int .i64 run, .slice A2 n2 c2, .int .i64 e1, .int .i64 e2, .int .i64 e3] 62 (0, 0)))
    generalize wr.alloc (.cells #[.int .i64 e0, .int .i64 run, .slice A2 n2 c2, .int .i64 e1, .int .i64 e2, .int .i64 e3] 62 (0, 0)) = W1 at BX HB1 ⊢
    generalize wr.heap.size = gb at BX ⊢
    have BX2 := am BX
    clear BX HBr hx0 hx1 hx2 hx3 hx4 hx5
    have HM1 : RestIs W1 b n M := HM2.out.heap (HB1.out.block b HM2.out.lt)
    obtain ⟨hl1, hl2⟩ := RestIs.look (w := W1.drew) (s := (e1, e2, e3)) HM1 Hwfk.out
    obtain ⟨cv, hcv⟩ : ∃ cv, pget M (e1, e2, e3) = cv := ⟨_, rfl⟩
    have HXl : (Instr.lookup 63 (.map (some b)) (.agg #[.int .i64 e1, .int .i64 e2, .int .i64 e3]) false).run Tryd.prog W1.drew = .ok (.int .i64 cv) W1.drew := by rw [← hcv]; exact hl1
    have HXg : W1.drew.cell? ⟨g, 1, none⟩ = some (.map (some b)) := IsS65.cell1 (W := W1) (HI2.out.below HB1.out)
    have HX0 : W1.drew.cell? ⟨gb, 0, none⟩ = some (.int .i64 e0) := (blk_cell BX2.out 0).trans rfl
    have HX3 : W1.drew.cell? ⟨gb, 3, none⟩ = some (.int .i64 e1) := (blk_cell BX2.out 3).trans rfl
    have HX4 : W1.drew.cell? ⟨gb, 4, none⟩ = some (.int .i64 e2) := (blk_cell BX2.out 4).trans rfl
    have HX5 : W1.drew.cell? ⟨gb, 5, none⟩ = some (.int .i64 e3) := (blk_cell BX2.out 5).trans rfl
    have Hcv := am hcv
    have Hw1 := am (wf_min Hbw.out (wrap64_wf (e0 + cv)))
    obtain ⟨nb, hnb⟩ : ∃ nb : Int, (if wrap64 (e0 + cv) < best then wrap64 (e0 + cv) else best) = nb := ⟨_, rfl⟩
    have Hnb := am (show gmin best (wrap64 (e0 + cv)) = nb from hnb)
    clear hl1 hl2 hcv HM1
    refine start_ (n := 13) (S := fun w' => w'.cell? ⟨g, 1, none⟩ = some (.map (some b)) ∧ w'.cell? ⟨gb, 0, none⟩ = some (.int .i64 e0) ∧ w'.cell? ⟨gb, 3, none⟩ = some (.int .i64 e1) ∧ w'.cell? ⟨gb, 4, none⟩ = some (.int .i64 e2) ∧ w'.cell? ⟨gb, 5, none⟩ = some (.int .i64 e3) ∧ (Instr.lookup 63 (.map (some b)) (.agg #[.int .i64 e1, .int .i64 e2, .int .i64 e3]) false).run Tryd.prog w' = .ok (.int .i64 cv) w') (ds := []) (bs 13 0) (by kernel_rfl) rfl rfl ⟨HXg, HX0, HX3, HX4, HX5, HXl⟩ (fun hHeld => ?_)
    refine pS 0 (some 52) (bs 13 1) (h := ?_)
    refine pS 1 (some 53) (bs 13 3) (h := ?_)
    refine pS 3 (some 55) (bs 13 11) (h := ?_)
    refine pS 4 (some 56) (bs 13 27) (h := ?_)
    refine pS 5 (some 57) (bs 13 59) (h := ?_)
    refine pS 7 (some 59) (bs 13 187) (h := ?_)
    refine tS 2 (some 54) (bs 13 191) hHeld (h := ?_)
    refine tS 6 (some 58) (bs 13 255) hHeld (h := ?_)
    refine tS 8 (some 60) (bs 13 511) hHeld (h := ?_)
    refine tS 9 (some 61) (bs 13 1023) hHeld (h := ?_)
    refine pS 10 (some 62) (bs 13 2047) (h := ?_)
    refine pS 11 (some 63) (bs 13 4095) (h := ?_)
    refine pS 12 (some 7) (bs 13 8191) (h := ?_)
    refine done_ (by kernel_rfl) ?_
    go_wp2
    go_roundg (rs.length - (kk + 1))
    case measure => omega
    case rel =>
     refine ⟨kk + 1, nb, rfl, by go_num, by omega, by omega, ⟨?_⟩, ⟨by rw [← Hnb.out]; exact Hw1.out⟩, ⟨below_drew1 HB1.out⟩⟩
     rw [← HS.out, ← Hnb.out, ← Hcv.out]
   ·have hk : kk = rs.length := by omega
    subst hk
    have em : best = bestOf M RS 1099511627776 := by
     have := HP.out
     rw [List.drop_of_length_le (by rw [HRl.out]; exact Nat.le_refl _)] at this
     exact this
    have HE := am em
    clear em HP hlt hg hkk HR2 Hrwf
    obtain ⟨L, hL⟩ : ∃ L, ls.map stOf = L := ⟨_, rfl⟩
    rw [hL] at HCl Hfst Hm2 HSt
    have HLl := am (show L.length = ls.length from by rw [← hL, List.length_map])
    clear hL
    have hmk := make_steps ls.length hl
    have HTl := am ((HTy.out).step (fun k_ cs hk_ => (HBr.out.block k_ (Array.getElem?_eq_some_iff.1 hk_).1).trans hk_))
    go_wp2
    have HCHm := am (CH_made wr w0.heap.size ls.length (fun _ => False))
    have HM1 := am ((HM2.out.heap (HBr.out.block b HM2.out.lt)).heap ((below_alloc (Below.refl wr.heap.size wr) (.cells (Array.replicate ls.length nilV) 59 (0, 0))).block b (Nat.lt_of_lt_of_le HM2.out.lt HBr.out.size)))
    have HI1 := am ((HI2.out.below HBr.out).alloc (.cells (Array.replicate ls.length nilV) 59 (0, 0)))
    have HB1 := am (below_alloc (below_step HBs.out HBr.out) (.cells (Array.replicate ls.length nilV) 59 (0, 0)))
    have HC1 := am (Kd.C_alloc (Kd.C_below HCl.out HBr.out) (.cells (Array.replicate ls.length nilV) 59 (0, 0)))
    have HT1 := am (HTl.out.step (fun k_ cs hk_ => blk_alloc hk_ (.cells (Array.replicate ls.length nilV) 59 (0, 0))))
    have Hgc0 := am (show w0.heap.size ≤ wr.heap.size from Nat.le_trans HBs.out.size HBr.out.size)
    generalize wr.alloc (.cells (Array.replicate ls.length nilV) 59 (0, 0)) = Wc at HCHm HM1 HI1 HB1 HC1 HT1 ⊢
    generalize wr.heap.size = gc at HCHm Hgc0 ⊢
    clear hmk HTl HBr HM2 HI2 HBs HCl HTy
    obtain ⟨BEST, hBEST⟩ : ∃ x, bestOf M RS 1099511627776 = x := ⟨_, rfl⟩
    rw [hBEST] at HE Hfst Hm2
    have hbe := HE.out
    subst hbe
    clear HE hBEST
    go_loopg [70] ls.length (fun gg v70 wr => ∃ (kk : Nat) (M' : PMap) (X : List (List E4)) (vs : List Value), v70 = .int .i64 kk ∧ kk ≤ ls.length ∧ ls.length - kk ≤ gg ∧ Aside0 (firstF k p (some b) a best (L.drop kk) M' X = some (MF, XF)) ∧ Aside0 (X.length = kk) ∧ Aside0 (vs.length = ls.length) ∧ Aside0 (RestIs wr b (n + 1001 * kk) M') ∧ Aside0 (IsS65 w0 wr g p (some b)) ∧ Aside0 (Below w0.heap.size w0 wr) ∧ Aside0 (Kd.C kT wr A1 ls.length L) ∧ Aside0 (TyB wr A1 58) ∧ Aside0 (CH wr w0.heap.size gc vs (X ++ List.replicate (ls.length - kk) []) (fun _ => False)))
    case atStart => exact ⟨0, M, [], _, rfl, Nat.zero_le _, by omega, Hfst, ⟨rfl⟩, ⟨List.length_replicate⟩, HM1, HI1, HB1, HC1, HT1, HCHm⟩
    case round =>
     clear HM1 HI1 HB1 HC1 HT1 HCHm Hfst
     obtain ⟨kk, M', X, vs, rfl, hkk, hg, HF, HXl, HVl, HM, HI, HB, HC, HT, HCH⟩ := hrel
     by_cases hlt : kk < ls.length
     ·have hltz : (kk : Int) < (ls.length : Int) := by omega
      have hltL : kk < L.length := by rw [HLl.out]; exact hlt
      obtain ⟨ad, e1, hx0, hx1, hx2⟩ := at_T HC.out kk hlt
      subst e1
      have hget : L.getD kk zT = L[kk]'hltL := by simp [hltL]
      have hF := HF.out
      rw [List.drop_eq_getElem_cons hltL, ← hget] at hF
      clear HF hget
      generalize L.getD kk zT = s at hx0 hx1 hx2 hF
      obtain ⟨q0, q1, q2⟩ := s
      obtain ⟨⟨tx, m1⟩, htx, hF1⟩ := Option.bind_eq_some_iff.1 hF
      clear hF
      have hF := hF1
      clear hF1
      by_cases hc2 : tx.length ≤ 1000 ∧ (∀ e ∈ tx.map eOf, wf3 e.2) ∧ wf3 (q0, q1, q2) ∧ m1 = some b
      ·rw [if_pos hc2] at hF
       obtain ⟨htl, htwf, hswf, rfl⟩ := hc2
       obtain ⟨a1, ha1⟩ : ∃ a1 : Int, wrap64 (a + 1) = a1 := ⟨_, rfl⟩
       rw [ha1] at hF
       have HF := am hF
       have Htx := am htx
       have Htwf := am htwf
       have Hswf := am hswf
       have Hwa := am (show wf3 (a1, q1, -1) from ⟨by rw [← ha1]; exact wrap64_wf _, hswf.2.1, rfl⟩)
       clear hF htx htwf hswf
       go_wp2
       have hal := below_alloc (Below.refl wr.heap.size wr) (.cells #[.int .i64 q0, .int .i64 q1, .int .i64 q2] 58 (0, 0))
       have BX := heapNew wr (.cells #[.int .i64 q0, .int .i64 q1, .int .i64 q2] 58 (0, 0))
       have HM1 := am (HM.out.heap (hal.block b HM.out.lt))
       have HI1 := am (HI.out.below hal)
       have HB1 := am (below_alloc HB.out (.cells #[.int .i64 q0, .int .i64 q1, .int .i64 q2] 58 (0, 0)))
       have HC1 := am (Kd.C_below HC.out hal)
       have HT1 := am (HT.out.step (fun k_ cs hk_ => blk_alloc hk_ (.cells #[.int .i64 q0, .int .i64 q1, .int .i64 q2] 58 (0, 0))))
       have HCH1 := am (HCH.out.step (av' := fun _ => False) (fun k_ t_ cs _ hk_ _ => hal.block k_ (Array.getElem?_eq_some_iff.1 hk_).1) (fun h_ => h_) (fun _ h_ => h_))
       generalize wr.alloc (.cells #[.int .i64 q0, .int .i64 q1, .int .i64 q2] 58 (0, 0)) = W1 at BX HM1 HI1 HB1 HC1 HT1 HCH1 ⊢
       generalize wr.heap.size = gb at BX ⊢
       have BX2 := am BX
       clear hal BX HM HI HB HC HT HCH hx0 hx1 hx2
       obtain ⟨hl1, hl2⟩ := RestIs.look (w := W1.drew) (s := (a1, q1, -1)) HM1.out Hwa.out
       obtain ⟨cv, hcv⟩ : ∃ cv, pget M' (a1, q1, -1) = cv := ⟨_, rfl⟩
       obtain ⟨nb, hnb⟩ : ∃ nb : Int, (if wrap64 (2 + cv) < best then wrap64 (2 + cv) else best) = nb := ⟨_, rfl⟩
       have hnb2 : gmin best (wrap64 (2 + pget M' (a1, q1, -1))) = nb := by rw [hcv]; exact hnb
       have hnw : (Lit.int .i64 nb).wf = true := by rw [← hnb]; exact wf_min Hbw.out (wrap64_wf (2 + cv))
       have hF := HF.out
       rw [hnb2] at hF
       have HF2 := am hF
       obtain ⟨w5, hrun, hM5, hg5⟩ := RestIs.store (w := W1.drew) (s := (q0, q1, q2)) HM1.out (by unfold maxLen; omega) Hswf.out (v := nb) hnw
       have hrun2 : (Instr.mapUpdate 63 (.map (some b)) (.agg #[.int .i64 q0, .int .i64 q1, .int .i64 q2]) (.int .i64 nb)).run Tryd.prog W1.drew = .ok () w5 := hrun
       have HXl : (Instr.lookup 63 (.map (some b)) (.agg #[.int .i64 a1, .int .i64 q1, .int .i64 (-1)]) false).run Tryd.prog W1.drew = .ok (.int .i64 cv) W1.drew := by rw [← hcv]; exact hl1
       have HXg : W1.drew.cell? ⟨g, 1, none⟩ = some (.map (some b)) := IsS65.cell1 (W := W1) HI1.out
       have HX0 : W1.drew.cell? ⟨gb, 0, none⟩ = some (.int .i64 q0) := (blk_cell BX2.out 0).trans rfl
       have HX1 : W1.drew.cell? ⟨gb, 1, none⟩ = some (.int .i64 q1) := (blk_cell BX2.out 1).trans rfl
       have HX2 : W1.drew.cell? ⟨gb, 2, none⟩ = some (.int .i64 q2) := (blk_cell BX2.out 2).trans rfl
       have HM5 := am hM5
       have HG5 := am hg5
       clear hrun hM5 hg5 hl1 hl2 hcv hnb2 hnw hF HF
       refine start_ (n := 21) (S := fun w' => w'.cell? ⟨g, 1, none⟩ = some (.map (some b)) ∧ w'.cell? ⟨gb, 0, none⟩ = some (.int .i64 q0) ∧ w'.cell? ⟨gb, 1, none⟩ = some (.int .i64 q1) ∧ w'.cell? ⟨gb, 2, none⟩ = some (.int .i64 q2) ∧ (Instr.lookup 63 (.map (some b)) (.agg #[.int .i64 a1, .int .i64 q1, .int .i64 (-1)]) false).run Tryd.prog w' = .ok (.int .i64 cv) w') (ds := [20]) (bs 21 0) (by kernel_rfl) rfl rfl ⟨HXg, HX0, HX1, HX2, HXl⟩ (fun hHeld => ?_)
       refine pS 0 (some 75) (bs 21 1) (h := ?_)
       refine pS 1 (some 76) (bs 21 3) (h := ?_)
       refine pS 2 (some 77) (bs 21 7) (h := ?_)
       refine pS 5 (some 80) (bs 21 39) (h := ?_)
       refine pS 6 (some 81) (bs 21 103) (h := ?_)
       refine pS 7 (some 82) (bs 21 231) (h := ?_)
       refine pS 8 (some 83) (bs 21 487) (h := ?_)
       refine pS 10 (some 85) (bs 21 1511) (h := ?_)
       refine pS 11 (some 86) (bs 21 3559) (h := ?_)
       refine pS 12 (some 87) (bs 21 7655) (h := ?_)
       refine pS 13 (some 88) (bs 21 15847) (h := ?_)
       refine tS 3 (some 78) (bs 21 15855) hHeld (h := ?_)
       refine tS 4 (some 79) (bs 21 15871) hHeld (h := ?_)
       refine tS 9 (some 84) (bs 21 16383) hHeld (h := ?_)
       refine tS 14 (some 89) (bs 21 32767) hHeld (h := ?_)
       refine pS 15 (some 90) (bs 21 65535) (h := ?_)
       refine pS 16 (some 91) (bs 21 131071) (h := ?_)
       refine tS 17 (some 92) (bs 21 262143) hHeld (h := ?_)
       refine pS 18 (some 93) (bs 21 524287) (h := ?_)
       refine pS 19 (some 94) (bs 21 1048575) (h := ?_)
       refine last_ (i := 20) (N := none) (bs 21 2097151) rfl rfl (by kernel_rfl) (by decide) (fun K hK => ?_)
       refine skip_ (w1 := ?_) (by rfl) rfl ?_ ?_
       rotate_left
       ·go_simp
        rfl
       refine hK.out _ _ ?_
       clear hK K
       refine done_ (by kernel_rfl) ?_
       clear hrun2 HXl HXg HX0 HX1 HX2 hnb
       have hmap : ∃ es clock, W1.drew.heap[b]? = some (.map es clock) := RestIs.isMap (w := W1.drew) HM1.out
       have HI5 := am (IsS65.grown (W := W1.drew) HI1.out HG5.out hbne)
       have HB5 := am (Below.grown (below_drew1 HB1.out) HG5.out HB1.out.size (fun k e => by cases e; exact Hb0.out))
       have HT5 := am (TyB.step (w := W1.drew) HT1.out (fun k_ cs hk_ => blk_map hmap HG5.out hk_))
       have HC5 := am (C_T_typed (d := kT) (fun h => h) (w := W1.drew) HC1.out HT1.out (fun k_ cs hk_ => blk_map hmap HG5.out hk_))
       have HCH5 := am (CH.map (W := W1.drew) (CH.drew HCH1.out) hmap HG5.out)
       have BX5 := am (blk_map (w := W1.drew) hmap HG5.out BX2.out)
       have hy0 : w5.cell? ⟨gb, 0, none⟩ = some (.int .i64 q0) := (blk_cell BX5.out 0).trans rfl
       have hy1 : w5.cell? ⟨gb, 1, none⟩ = some (.int .i64 q1) := (blk_cell BX5.out 1).trans rfl
       have hy2 : w5.cell? ⟨gb, 2, none⟩ = some (.int .i64 q2) := (blk_cell BX5.out 2).trans rfl
       clear hmap HI1 HB1 HT1 HC1 HCH1 BX2 HM1 HG5
       go_wp2_with ((with_reducible refine gate_callee (f := 57) rfl ?_); refine gL (some 97) Tryd.func57 #[.pointer (some ⟨g, 0, none⟩), .agg #[.int .i64 q0, .int .i64 q1, .int .i64 q2]] (h := ?_); (with_reducible refine (stacktext_encoder_texts.calls k g p (some b) q0 q1 q2 tx (some b) w0 _ ?s1 ?s2 Htx.out).mono ?_); (case s1 => exact HI5.out); (case s2 => exact HB5.out); rintro e w6 ⟨v6, rfl, ho, hi, hb, hk⟩; refine ⟨_, rfl, ?_⟩; obtain ⟨A6, c6, hv6⟩ := Kd.R_slice (Kd.S_R ho); subst hv6; have HO6 := am ho; have HI6 := am hi; have HB6 := am hb; have HK6 := am hk; clear ho hi hb hk hy0 hy1 hy2)
       have hty := R_TyB (Kd.S_R HO6.out)
       have HCt := am (C_eOf (Kd.S_reads' HO6.out).2.2)
       have HTt := am hty.1
       have hne6 : ∀ (k_ t_ : Nat) (cs : Array Value), t_ ≠ 65 → w5.heap[k_]? = some (.cells cs t_ (0, 0)) → w6.heap[k_]? = w5.heap[k_]? := fun k_ t_ cs ht_ hk_ => HK6.out.2 k_ (Array.getElem?_eq_some_iff.1 hk_).1 (fun e => IsS65.ne_blk HI5.out hk_ ht_ e.symm) (by simp)
       have HM6 := am (HM5.out.heap (HK6.out.2 b HM5.out.lt hbne2 (by simp)))
       have HT6 := am (HT5.out.step (fun k_ cs hk_ => (hne6 k_ _ cs (by decide) hk_).trans hk_))
       have HC6 := am (C_T_typed (d := kT) (fun h => h) HC5.out HT5.out (fun k_ cs hk_ => (hne6 k_ _ cs (by decide) hk_).trans hk_))
       have BX6 := am ((hne6 gb _ _ (by decide) BX5.out).trans BX5.out)
       have hgc6 : gc < w5.heap.size := (Array.getElem?_eq_some_iff.1 HCH5.out.blk).1
       have HCH6 := am (CH.step (CH.re HCH5.out (av' := fun k_ => ∃ x, A6 = some x ∧ x.block = k_) (fun k_ ⟨x, hx, e⟩ => by rw [← e]; exact hty.2 x hx)) (w1 := w6) (av' := fun k_ => ∃ x, A6 = some x ∧ x.block = k_) (fun k_ t_ cs ht_ hk_ _ => hne6 k_ t_ cs (by rcases ht_ with e | e <;> (rw [e]; decide)) hk_) (fun ⟨x, hx, e⟩ => by have := hty.2 x hx; omega) (fun _ h_ => h_))
       have hgcA : ∀ x, A6 = some x → x.block ≠ gc := fun x hx e => by have := hty.2 x hx; omega
       have HgcA := am hgcA
       clear hty hne6 hgc6 hgcA HO6 HK6 HI5 HB5 HT5 HC5 HCH5 BX5 HM5 Htx
       obtain ⟨TX, hTX⟩ : ∃ TX, tx.map eOf = TX := ⟨_, rfl⟩
       have hTXl : tx.length = TX.length := by rw [← hTX, List.length_map]
       rw [hTX] at HCt Htwf HF2
       have HTXl := am hTXl
       clear hTX hTXl
       have hrep : X ++ List.replicate (ls.length - kk) ([] : List E4) = X ++ [] :: List.replicate (ls.length - kk - 1) [] := by
        rw [show ls.length - kk = (ls.length - kk - 1) + 1 by omega, List.replicate_succ]
        simp
       rw [hrep] at HCH6
       clear hrep
       obtain ⟨rest, hrest⟩ : ∃ rest, List.replicate (ls.length - kk - 1) ([] : List E4) = rest := ⟨_, rfl⟩
       rw [hrest] at HCH6
       have Hrest := am hrest
       clear hrest
       go_loopg [99] tx.length (fun gg2 v99 wr => ∃ (jj : Nat) (M3 : PMap) (R : List E4) (vs2 : List Value), v99 = .int .i64 jj ∧ jj ≤ tx.length ∧ tx.length - jj ≤ gg2 ∧ R.length ≤ jj ∧ Aside0 (fillS a (q0, q1, q2) (TX.drop jj) M3 R = fillS a (q0, q1, q2) TX (pput M' (q0, q1, q2) nb) []) ∧ Aside0 (vs2.length = ls.length) ∧ Aside0 (RestIs wr b (n + 1001 * kk + 1 + jj) M3) ∧ Aside0 (IsS65 w0 wr g p (some b)) ∧ Aside0 (Below w0.heap.size w0 wr) ∧ Aside0 (Kd.C kT wr (some ad) ls.length L) ∧ Aside0 (TyB wr (some ad) 58) ∧ Aside0 (CH wr w0.heap.size gc vs2 (X ++ R :: rest) (fun k_ => ∃ x, A6 = some x ∧ x.block = k_)) ∧ Aside0 (Kd.C kE wr A6 tx.length TX) ∧ Aside0 (TyB wr A6 62) ∧ Aside0 (wr.heap[gb]? = some (.cells #[.int .i64 q0, .int .i64 q1, .int .i64 q2] 58 (0, 0))))
       case atStart => exact ⟨0, _, [], vs, rfl, Nat.zero_le _, by omega, by simp, ⟨rfl⟩, HVl, HM6, HI6, HB6, HC6, HT6, HCH6, HCt, HTt, BX6⟩
       case round =>
        clear HM6 HI6 HB6 HC6 HT6 HCH6 HCt HTt BX6 HVl
        obtain ⟨jj, M3, R, vs2, rfl, hjj, hgj, hRl, HF3, HVl2, HM, HI, HB, HC, HT, HCH, HCt, HTt, BX⟩ := hrel
        by_cases hltj : jj < tx.length
        ·have hltjz : (jj : Int) < (tx.length : Int) := by omega
         have hlt2 : jj < TX.length := by rw [← HTXl.out]; exact hltj
         obtain ⟨ade, run, A2, n2, c2, e6, hx0, hx1, hx2, hx3, hx4, hx5⟩ := at_E HCt.out jj hltj
         subst e6
         have hget : TX.getD jj zE = TX[jj]'hlt2 := by simp [hlt2]
         have hwfk := Htwf.out (TX.getD jj zE) (by rw [hget]; exact List.getElem_mem _)
         have hF := HF3.out
         rw [List.drop_eq_getElem_cons hlt2, ← hget] at hF
         clear HF3 hget
         generalize TX.getD jj zE = ee at hx0 hx1 hx2 hx3 hx4 hx5 hwfk hF
         obtain ⟨e0, e1, e2, e3⟩ := ee
         have Hwfk := am hwfk
         have HF3 := am hF
         clear hwfk hF
         by_cases hta : a < e1
         ·go_wp2
          have hal := below_alloc (Below.refl wr.heap.size wr) (.cells #[.int .i64 e0, .int .i64 run, .slice A2 n2 c2, .int .i64 e1, .int .i64 e2, .int .i64 e3] 62 (0, 0))
          have BY := heapNew wr (.cells #[.int .i64 e0, .int .i64 run, .slice A2 n2 c2, .int .i64 e1, .int .i64 e2, .int .i64 e3] 62 (0, 0))
          have HM1 := am (HM.out.heap (hal.block b HM.out.lt))
          have HI1 := am (HI.out.below hal)
          have HB1 := am (below_alloc HB.out (.cells #[.int .i64 e0, .int .i64 run, .slice A2 n2 c2, .int .i64 e1, .int .i64 e2, .int .i64 e3] 62 (0, 0)))
          have HC1 := am (Kd.C_below HC.out hal)
          have HT1 := am (HT.out.step (fun k_ cs hk_ => blk_alloc hk_ (.cells #[.int .i64 e0, .int .i64 run, .slice A2 n2 c2, .int .i64 e1, .int .i64 e2, .int .i64 e3] 62 (0, 0))))
          have HCH1 := am (HCH.out.below hal)
          have HCt1 := am (Kd.C_below HCt.out hal)
          have HTt1 := am (HTt.out.step (fun k_ cs hk_ => blk_alloc hk_ (.cells #[.int .i64 e0, .int .i64 run, .slice A2 n2 c2, .int .i64 e1, .int .i64 e2, .int .i64 e3] 62 (0, 0))))
          have BX1 := am (blk_alloc BX.out (.cells #[.int .i64 e0, .int .i64 run, .slice A2 n2 c2, .int .i64 e1, .int .i64 e2, .int .i64 e3] 62 (0, 0)))
          generalize wr.alloc (.cells #[.int .i64 e0, .int .i64 run, .slice A2 n2 c2, .int .i64 e1, .int .i64 e2, .int .i64 e3] 62 (0, 0)) = W1 at BY HM1 HI1 HB1 HC1 HT1 HCH1 HCt1 HTt1 BX1 ⊢
          generalize wr.heap.size = g7 at BY ⊢
          have BY2 := am BY
          clear hal BY HM HI HB HC HT HCH HCt HTt BX hx0 hx1 hx2 hx3 hx4 hx5
          obtain ⟨hl1, hl2⟩ := RestIs.look (w := W1.drew) (s := (q0, q1, q2)) HM1.out Hswf.out
          obtain ⟨hl3, hl4⟩ := RestIs.look (w := W1.drew) (s := (e1, e2, e3)) HM1.out Hwfk.out
          obtain ⟨u1, hu1⟩ : ∃ u, pget M3 (q0, q1, q2) = u := ⟨_, rfl⟩
          obtain ⟨u2, hu2⟩ : ∃ u, pget M3 (e1, e2, e3) = u := ⟨_, rfl⟩
          rw [hu1] at hl1 hl2
          rw [hu2] at hl3
          obtain ⟨nb2, hnb⟩ : ∃ nb2 : Int, (if wrap64 (e0 + u2) < u1 then wrap64 (e0 + u2) else u1) = nb2 := ⟨_, rfl⟩
          have Hrx := am (relax_eq (e0 := e0) hu1 hu2 hnb)
          have hnw : (Lit.int .i64 nb2).wf = true := by rw [← hnb]; exact wf_min hl2 (wrap64_wf (e0 + u2))
          obtain ⟨w5, hrun, hM5, hg5⟩ := RestIs.store (w := W1.drew) (s := (q0, q1, q2)) HM1.out (by unfold maxLen; omega) Hswf.out (v := nb2) hnw
          have hrun2 : (Instr.mapUpdate 63 (.map (some b)) (.agg #[.int .i64 q0, .int .i64 q1, .int .i64 q2]) (.int .i64 nb2)).run Tryd.prog W1.drew = .ok () w5 := hrun
          have HXa : (Instr.lookup 63 (.map (some b)) (.agg #[.int .i64 q0, .int .i64 q1, .int .i64 q2]) false).run Tryd.prog W1.drew = .ok (.int .i64 u1) W1.drew := hl1
          have HXm : (Instr.lookup 63 (.map (some b)) (.agg #[.int .i64 e1, .int .i64 e2, .int .i64 e3]) false).run Tryd.prog W1.drew = .ok (.int .i64 u2) W1.drew := hl3
          have HXg : W1.drew.cell? ⟨g, 1, none⟩ = some (.map (some b)) := IsS65.cell1 (W := W1) HI1.out
          have HX0 : W1.drew.cell? ⟨gb, 0, none⟩ = some (.int .i64 q0) := (blk_cell BX1.out 0).trans rfl
          have HX1 : W1.drew.cell? ⟨gb, 1, none⟩ = some (.int .i64 q1) := (blk_cell BX1.out 1).trans rfl
          have HX2 : W1.drew.cell? ⟨gb, 2, none⟩ = some (.int .i64 q2) := (blk_cell BX1.out 2).trans rfl
          have HY0 : W1.drew.cell? ⟨g7, 0, none⟩ = some (.int .i64 e0) := (blk_cell BY2.out 0).trans rfl
          have HY3 : W1.drew.cell? ⟨g7, 3, none⟩ = some (.int .i64 e1) := (blk_cell BY2.out 3).trans rfl
          have HY4 : W1.drew.cell? ⟨g7, 4, none⟩ = some (.int .i64 e2) := (blk_cell BY2.out 4).trans rfl
          have HY5 : W1.drew.cell? ⟨g7, 5, none⟩ = some (.int .i64 e3) := (blk_cell BY2.out 5).trans rfl
          have HM5 := am hM5
          have HG5 := am hg5
          clear hrun hM5 hg5 hl1 hl2 hl3 hl4 hu1 hu2 hnw
          refine start_ (n := 23) (S := fun w' => w'.cell? ⟨g, 1, none⟩ = some (.map (some b)) ∧ w'.cell? ⟨gb, 0, none⟩ = some (.int .i64 q0) ∧ w'.cell? ⟨gb, 1, none⟩ = some (.int .i64 q1) ∧ w'.cell? ⟨gb, 2, none⟩ = some (.int .i64 q2) ∧ w'.cell? ⟨g7, 0, none⟩ = some (.int .i64 e0) ∧ w'.cell? ⟨g7, 3, none⟩ = some (.int .i64 e1) ∧ w'.cell? ⟨g7, 4, none⟩ = some (.int .i64 e2) ∧ w'.cell? ⟨g7, 5, none⟩ = some (.int .i64 e3) ∧ (Instr.lookup 63 (.map (some b)) (.agg #[.int .i64 q0, .int .i64 q1, .int .i64 q2]) false).run Tryd.prog w' = .ok (.int .i64 u1) w' ∧ (Instr.lookup 63 (.map (some b)) (.agg #[.int .i64 e1, .int .i64 e2, .int .i64 e3]) false).run Tryd.prog w' = .ok (.int .i64 u2) w') (ds := [22]) (bs 23 0) (by kernel_rfl) rfl rfl ⟨HXg, HX0, HX1, HX2, HY0, HY3, HY4, HY5, HXa, HXm⟩ (fun hHeld => ?_)
          refine pS 0 (some 108) (bs 23 1) (h := ?_)
          refine pS 1 (some 109) (bs 23 3) (h := ?_)
          refine pS 2 (some 110) (bs 23 7) (h := ?_)
          refine pS 5 (some 113) (bs 23 39) (h := ?_)
          refine pS 6 (some 114) (bs 23 103) (h := ?_)
          refine pS 7 (some 115) (bs 23 231) (h := ?_)
          refine pS 11 (some 119) (bs 23 2279) (h := ?_)
          refine pS 13 (some 121) (bs 23 10471) (h := ?_)
          refine pS 14 (some 122) (bs 23 26855) (h := ?_)
          refine pS 15 (some 123) (bs 23 59623) (h := ?_)
          refine pS 17 (some 125) (bs 23 190695) (h := ?_)
          refine tS 3 (some 111) (bs 23 190703) hHeld (h := ?_)
          refine tS 4 (some 112) (bs 23 190719) hHeld (h := ?_)
          refine tS 8 (some 116) (bs 23 190975) hHeld (h := ?_)
          refine tS 9 (some 117) (bs 23 191487) hHeld (h := ?_)
          refine tS 10 (some 118) (bs 23 192511) hHeld (h := ?_)
          refine tS 12 (some 120) (bs 23 196607) hHeld (h := ?_)
          refine tS 16 (some 124) (bs 23 262143) hHeld (h := ?_)
          refine tS 18 (some 126) (bs 23 524287) hHeld (h := ?_)
          refine tS 19 (some 127) (bs 23 1048575) hHeld (h := ?_)
          refine pS 20 (some 128) (bs 23 2097151) (h := ?_)
          refine pS 21 (some 129) (bs 23 4194303) (h := ?_)
          refine last_ (i := 22) (N := none) (bs 23 8388607) rfl rfl (by kernel_rfl) (by decide) (fun K hK => ?_)
          refine skip_ (w1 := ?_) (by rfl) rfl ?_ ?_
          rotate_left
          ·go_simp
           rfl
          refine hK.out _ _ ?_
          clear hK K
          refine done_ (by kernel_rfl) ?_
          clear hrun2 HXa HXm HXg HX0 HX1 HX2 HY0 HY3 HY4 HY5 hnb
          have hmap : ∃ es clock, W1.drew.heap[b]? = some (.map es clock) := RestIs.isMap (w := W1.drew) HM1.out
          go_wp2
          go_roundg (tx.length - (jj + 1))
          case measure => omega
          case rel =>
           refine ⟨jj + 1, _, R, vs2, by go_num, by omega, by omega, by omega, ⟨?_⟩, HVl2, ⟨HM5.out.mono (by omega)⟩, ⟨IsS65.grown (W := W1.drew) HI1.out HG5.out hbne⟩, ⟨Below.grown (below_drew1 HB1.out) HG5.out HB1.out.size (fun k e => by cases e; exact Hb0.out)⟩, ⟨C_T_typed (d := kT) (fun h => h) (w := W1.drew) HC1.out HT1.out (fun k_ cs hk_ => blk_map hmap HG5.out hk_)⟩, ⟨TyB.step (w := W1.drew) HT1.out (fun k_ cs hk_ => blk_map hmap HG5.out hk_)⟩, ⟨CH.map (W := W1.drew) (CH.drew HCH1.out) hmap HG5.out⟩, ⟨C_T_typed (d := kE) (fun h => h) (w := W1.drew) HCt1.out HTt1.out (fun k_ cs hk_ => blk_map hmap HG5.out hk_)⟩, ⟨TyB.step (w := W1.drew) HTt1.out (fun k_ cs hk_ => blk_map hmap HG5.out hk_)⟩, ⟨blk_map (w := W1.drew) hmap HG5.out BX1.out⟩⟩
           have hF := HF3.out
           rw [fillS, if_pos hta, Hrx.out] at hF
           exact hF
         ·go_wp2
          have hal := below_alloc (Below.refl wr.heap.size wr) (.cells #[.int .i64 e0, .int .i64 run, .slice A2 n2 c2, .int .i64 e1, .int .i64 e2, .int .i64 e3] 62 (0, 0))
          have BY := heapNew wr (.cells #[.int .i64 e0, .int .i64 run, .slice A2 n2 c2, .int .i64 e1, .int .i64 e2, .int .i64 e3] 62 (0, 0))
          have HM1 := am (HM.out.heap (hal.block b HM.out.lt))
          have HI1 := am (HI.out.below hal)
          have HB1 := am (below_alloc HB.out (.cells #[.int .i64 e0, .int .i64 run, .slice A2 n2 c2, .int .i64 e1, .int .i64 e2, .int .i64 e3] 62 (0, 0)))
          have HC1 := am (Kd.C_below HC.out hal)
          have HT1 := am (HT.out.step (fun k_ cs hk_ => blk_alloc hk_ (.cells #[.int .i64 e0, .int .i64 run, .slice A2 n2 c2, .int .i64 e1, .int .i64 e2, .int .i64 e3] 62 (0, 0))))
          have HCH1 := am (HCH.out.below hal)
          have HCt1 := am (Kd.C_below HCt.out hal)
          have HTt1 := am (HTt.out.step (fun k_ cs hk_ => blk_alloc hk_ (.cells #[.int .i64 e0, .int .i64 run, .slice A2 n2 c2, .int .i64 e1, .int .i64 e2, .int .i64 e3] 62 (0, 0))))
          have BX1 := am (blk_alloc BX.out (.cells #[.int .i64 e0, .int .i64 run, .slice A2 n2 c2, .int .i64 e1, .int .i64 e2, .int .i64 e3] 62 (0, 0)))
          generalize wr.alloc (.cells #[.int .i64 e0, .int .i64 run, .slice A2 n2 c2, .int .i64 e1, .int .i64 e2, .int .i64 e3] 62 (0, 0)) = W1 at BY HM1 HI1 HB1 HC1 HT1 HCH1 HCt1 HTt1 BX1 ⊢
          generalize wr.heap.size = g7 at BY ⊢
          have BY2 := am BY
          clear hal BY HM HI HB HC HT HCH HCt HTt BX hx0 hx1 hx2 hx3 hx4 hx5
          have hkv : kk < vs2.length := by rw [HVl2.out]; exact hlt
          have hrow := CH.rowAt (CH.drew HCH1.out) HXl.out hkv
          have hcell := CH.cellAt (CH.drew HCH1.out) hkv
          have hgcne := CH.gcNe (k := 0) (CH.drew HCH1.out) hkv
          obtain ⟨Ar, cr, er⟩ := Kd.R_slice hrow
          rw [er] at hrow hcell hgcne
          have Her := am er
          have HR := am hrow
          have Hgcne := am hgcne
          have HBd := am (below_drew1 HB1.out)
          have HY0 : W1.drew.cell? ⟨g7, 0, none⟩ = some (.int .i64 e0) := (blk_cell BY2.out 0).trans rfl
          have HY1 : W1.drew.cell? ⟨g7, 1, none⟩ = some (.int .i64 run) := (blk_cell BY2.out 1).trans rfl
          have HY2 : W1.drew.cell? ⟨g7, 2, none⟩ = some (.slice A2 n2 c2) := (blk_cell BY2.out 2).trans rfl
          have HY3 : W1.drew.cell? ⟨g7, 3, none⟩ = some (.int .i64 e1) := (blk_cell BY2.out 3).trans rfl
          have HY4 : W1.drew.cell? ⟨g7, 4, none⟩ = some (.int .i64 e2) := (blk_cell BY2.out 4).trans rfl
          have HY5 : W1.drew.cell? ⟨g7, 5, none⟩ = some (.int .i64 e3) := (blk_cell BY2.out 5).trans rfl
          have hRb : (R.length + 1) * 64 ≤ 140737488355328 := by omega
          clear er hrow hkv hgcne
          refine start_ (n := 11) (S := fun w' => w'.cell? ⟨gc, kk, none⟩ = some (.slice Ar R.length cr) ∧ w'.cell? ⟨g7, 0, none⟩ = some (.int .i64 e0) ∧ w'.cell? ⟨g7, 1, none⟩ = some (.int .i64 run) ∧ w'.cell? ⟨g7, 2, none⟩ = some (.slice A2 n2 c2) ∧ w'.cell? ⟨g7, 3, none⟩ = some (.int .i64 e1) ∧ w'.cell? ⟨g7, 4, none⟩ = some (.int .i64 e2) ∧ w'.cell? ⟨g7, 5, none⟩ = some (.int .i64 e3)) (ds := [8, 10]) (bs 11 0) (by kernel_rfl) rfl rfl ⟨hcell, HY0, HY1, HY2, HY3, HY4, HY5⟩ (fun hHeld => ?_)
          refine pS 0 (some 130) (bs 11 1) (h := ?_)
          refine pS 1 (some 131) (bs 11 3) (h := ?_)
          refine pS 2 (some 132) (bs 11 7) (h := ?_)
          refine pS 3 (some 133) (bs 11 15) (h := ?_)
          refine pS 4 (some 134) (bs 11 31) (h := ?_)
          refine tS 5 (some 135) (bs 11 63) hHeld (h := ?_)
          refine tS 6 (some 136) (bs 11 127) hHeld (h := ?_)
          refine one_ (i := 7) (N := some 137) (bs 11 255) rfl rfl (by kernel_rfl) (by decide) (fun K hK => ?_)
          refine value_ (w1 := ?_) (v := ?_) (by rfl) rfl ?_ ?_
          rotate_left 2
          ·go_simp
           constructor
           ·rfl
           ·rfl
          refine hK.out _ _ ⟨cellAl hcell _, cellAl HY0 _, cellAl HY1 _, cellAl HY2 _, cellAl HY3 _, cellAl HY4 _, cellAl HY5 _⟩ (fun hHeld => ?_)
          clear hK K
          refine norm_ (a' := ?_) ?_ ?_
          rotate_left
          ·show Act.put _ (some 137) _ = _
           simp only [Act.put, List.setIfInBounds_toArray, List.set_cons_zero, List.set_cons_succ, i64_w, i32_w]
           rfl
          refine last_ (i := 8) (N := some 138) (bs 11 511) rfl rfl (by kernel_rfl) (by decide) (fun K hK => ?_)
          refine Kd.R_append_step kE (w0 := w0) w0.heap.size (by rfl) (.tmp 135) (.tmp 137) 59 62 (.agg #[(.int .i64 0), (.int .i64 0), (.slice none 0 0), (.int .i64 0), (.int .i64 0), (.int .i64 0)]) 64 rfl Tryd.underlying59 info62 rfl (by decide) (by omega) (.slice Ar R.length cr) R ((e0, e1, e2, e3) : E4) [.int .i64 e0, .int .i64 run, .slice A2 n2 c2, .int .i64 e1, .int .i64 e2, .int .i64 e3] (fun _ => True) (fun k_ => some k_ ≠ (Value.slice Ar R.length cr).ownBlock) rfl rfl ⟨run, A2, n2, c2, rfl⟩ (fun _ hk => ⟨trivial, hk⟩) (fun _ _ => trivial) HR.out HBd.out HBd.out.size hRb ?_
          intro v1 w3 ho hb hg hat
          obtain ⟨A3, c3, hv3⟩ := Kd.R_slice ho
          rw [List.length_append, List.length_singleton] at hv3
          subst hv3
          have HO3 := am ho
          have HB3 := am hb
          have HG3 := am hg
          have HAT3 := am hat
          have hgc3 := blk_grown (CH.drew HCH1.out).blk hg Hgcne.out
          clear ho hb hg hat
          refine hK.out _ _ ?_
          clear hK K
          refine norm_ (a' := ?_) ?_ ?_
          rotate_left
          ·show Act.put _ (some 138) _ = _
           simp only [Act.put, List.setIfInBounds_toArray, List.set_cons_zero, List.set_cons_succ, i64_w, i32_w]
           rfl
          refine pS 9 (some 139) (bs 11 1023) (h := ?_)
          refine last_ (i := 10) (N := none) (bs 11 2047) rfl rfl (by kernel_rfl) (by decide) (fun K hK => ?_)
          have hcg3 : w3.cell? ⟨gc, kk, none⟩ = some (.slice Ar R.length cr) := (blk_cell hgc3 kk).trans ((blk_cell (CH.drew HCH1.out).blk kk).symm.trans hcell)
          have hfz3 := blk_frozen hgc3 kk
          refine skip_ (w1 := ?_) (by rfl) rfl ?_ ?_
          rotate_left
          ·go_simp
           rfl
          refine hK.out _ _ ?_
          clear hK K
          refine done_ (by kernel_rfl) ?_
          clear HY0 HY1 HY2 HY3 HY4 HY5 hcell
          have hkv : kk < vs2.length := by rw [HVl2.out]; exact hlt
          have hG : W1.drew.grownBy w3 (vs2.getD kk nilV).ownBlock := by rw [Her.out]; exact HG3.out
          have hAT : (Value.slice A3 (R.length + 1) c3).ownBlock = (vs2.getD kk nilV).ownBlock ∨ ∃ b, (Value.slice A3 (R.length + 1) c3).ownBlock = some b ∧ W1.drew.heap.size ≤ b := by rw [Her.out]; exact HAT3.out
          have HG := am hG
          have HAT := am hAT
          have HD := am (CH.drew HCH1.out)
          clear hG hAT hcg3 hfz3 HG3 HAT3 HR hRb hgc3
          go_wp2
          go_roundg (tx.length - (jj + 1))
          case measure => omega
          case rel =>
           refine ⟨jj + 1, M3, R ++ [((e0, e1, e2, e3) : E4)], vs2.set kk (.slice A3 (R.length + 1) c3), by go_num, by omega, by omega, by rw [List.length_append, List.length_singleton]; omega, ⟨?_⟩, ⟨by rw [List.length_set]; exact HVl2.out⟩, ⟨(CH.keepRest HD.out hkv HG.out HM1.out _).mono (by omega)⟩, ⟨CH.keepS65 HD.out hkv HG.out HI1.out.drew _⟩, ⟨HB3.out.setCell Hgc0.out _⟩, ⟨(CH.hold HD.out hkv HG.out HT1.out (.inl (by decide)) (by decide) _).C (fun h => h) (w := W1.drew) HC1.out⟩, ⟨(CH.hold HD.out hkv HG.out HT1.out (.inl (by decide)) (by decide) _).T (w := W1.drew) HT1.out⟩, ⟨CH.put HD.out HXl.out hkv HO3.out HG.out HAT.out ?_⟩, ⟨(CH.hold HD.out hkv HG.out HTt1.out (.inr (fun x hx => ⟨x, hx, rfl⟩)) (by decide) _).C (fun h => h) (w := W1.drew) HCt1.out⟩, ⟨(CH.hold HD.out hkv HG.out HTt1.out (.inr (fun x hx => ⟨x, hx, rfl⟩)) (by decide) _).T (w := W1.drew) HTt1.out⟩, ⟨CH.keepBlk HD.out hkv HG.out BX1.out (by decide) (by decide) _⟩⟩
           ·have hF := HF3.out
            rw [fillS, if_neg (show ¬ a < e1 by omega)] at hF
            exact hF
           ·rintro k_ ⟨x, hx, rfl⟩
            obtain ⟨cs, hcs⟩ := HTt1.out x hx
            exact blk_lt hcs
        ·have hkj : jj = tx.length := by omega
         subst hkj
         have hE := HF3.out
         rw [List.drop_of_length_le (by rw [HTXl.out]; exact Nat.le_refl _)] at hE
         have hE2 : fillS a (q0, q1, q2) TX (pput M' (q0, q1, q2) nb) [] = (M3, R) := hE.symm
         have hF := HF2.out
         rw [hE2] at hF
         have HF4 := am hF
         clear hE hE2 hF HF2 HF3 hltj
         have hkv : kk < vs2.length := by rw [HVl2.out]; exact hlt
         have hrow := CH.rowAt HCH.out HXl.out hkv
         have hcell := CH.cellAt HCH.out hkv
         have hgcne := CH.gcNe (k := 0) HCH.out hkv
         obtain ⟨Ar, cr, er⟩ := Kd.R_slice hrow
         rw [er] at hrow hcell hgcne
         have Her := am er
         have HR := am hrow
         have Hgcne := am hgcne
         have hRb : (R.length + 1) * 64 ≤ 140737488355328 := by omega
         clear er hrow hkv hgcne
         go_wp2_with (at_builtin; refine Kd.R_append kE (w0 := w0) w0.heap.size rfl (.tmp 146) (.tmp 151) 59 62 (.agg #[(.int .i64 0), (.int .i64 0), (.slice none 0 0), (.int .i64 0), (.int .i64 0), (.int .i64 0)]) 64 rfl Tryd.underlying59 info62 rfl (by decide) (by omega) (.slice Ar R.length cr) R ((1, a, 0, -1) : E4) _ (fun _ => True) (fun k_ => some k_ ≠ (Value.slice Ar R.length cr).ownBlock) rfl rfl ⟨0, none, 0, 0, rfl⟩ (fun _ hk => ⟨trivial, hk⟩) (fun _ _ => trivial) HR.out HB.out HB.out.size hRb ?_; intro v1 w3 ho hb hg hat; obtain ⟨A3, c3, hv3⟩ := Kd.R_slice ho; rw [List.length_append, List.length_singleton] at hv3; subst hv3; have HO3 := am ho; have HB3 := am hb; have HG3 := am hg; have HAT3 := am hat; have hgc3 := blk_grown HCH.out.blk hg Hgcne.out; have hcg3 : w3.cell? ⟨gc, kk, none⟩ = some (.slice Ar R.length cr) := (blk_cell hgc3 kk).trans ((blk_cell HCH.out.blk kk).symm.trans hcell); have hfz3 := blk_frozen hgc3 kk; clear ho hb hg hat hgc3)
         have hkv : kk < vs2.length := by rw [HVl2.out]; exact hlt
         have HG := am (show wr.grownBy w3 (vs2.getD kk nilV).ownBlock by rw [Her.out]; exact HG3.out)
         have HAT := am (show (Value.slice A3 (R.length + 1) c3).ownBlock = (vs2.getD kk nilV).ownBlock ∨ ∃ b, (Value.slice A3 (R.length + 1) c3).ownBlock = some b ∧ wr.heap.size ≤ b by rw [Her.out]; exact HAT3.out)
         clear HG3 HAT3 HR hRb
         go_roundg (ls.length - (kk + 1))
         case measure => omega
         case rel =>
          refine ⟨kk + 1, M3, X ++ [R ++ [((1, a, 0, -1) : E4)]], vs2.set kk (.slice A3 (R.length + 1) c3), by go_num, by omega, by omega, HF4, ⟨by rw [List.length_append, List.length_singleton, HXl.out]⟩, ⟨by rw [List.length_set]; exact HVl2.out⟩, ⟨(CH.keepRest HCH.out hkv HG.out HM.out _).mono (by omega)⟩, ⟨CH.keepS65 HCH.out hkv HG.out HI.out _⟩, ⟨HB3.out.setCell Hgc0.out _⟩, ⟨(CH.hold HCH.out hkv HG.out HT.out (.inl (by decide)) (by decide) _).C (fun h => h) HC.out⟩, ⟨(CH.hold HCH.out hkv HG.out HT.out (.inl (by decide)) (by decide) _).T HT.out⟩, ⟨?_⟩⟩
          have h1 := CH.put HCH.out HXl.out hkv HO3.out HG.out HAT.out (by
           rintro k_ ⟨x, hx, rfl⟩
           obtain ⟨cs, hcs⟩ := HTt.out x hx
           exact blk_lt hcs)
          rw [← Hrest.out] at h1
          have h2 := CH.re h1 (av' := fun _ => False) (fun _ h => h.elim)
          rw [List.append_assoc, show ls.length - (kk + 1) = ls.length - kk - 1 by omega]
          exact h2
      ·rw [if_neg hc2] at hF; cases hF
     ·have hkl : kk = ls.length := by omega
      subst hkl
      have hF := HF.out
      rw [List.drop_of_length_le (by rw [HLl.out]; exact Nat.le_refl _)] at hF
      obtain ⟨hF1, hF2⟩ := Prod.mk.inj (Option.some.inj hF)
      subst hF1
      subst hF2
      have hch := HCH.out
      rw [Nat.sub_self, List.replicate_zero, List.append_nil] at hch
      have HCH2 := am hch
      have HXl2 := HXl
      have HVl2 := HVl
      clear hF HF hch HCH hlt hg hkk HXl HVl
      have HM8 := am (HM.out.mono (n' := n + 1001000) (by omega))
      clear HM
      go_wp2
      go_loopg [157] ls.length (fun gg v157 wr => ∃ (r : Nat) (M8 : PMap), v157 = .int .i64 r ∧ r ≤ ls.length ∧ ls.length - r ≤ gg ∧ Aside0 (relaxN L X (ls.length - r) M8 = relaxN L X ls.length M') ∧ Aside0 (RestIs wr b (n + 1001000 + 1001000 * r) M8) ∧ Aside0 (IsS65 w0 wr g p (some b)) ∧ Aside0 (Below w0.heap.size w0 wr) ∧ Aside0 (Kd.C kT wr A1 ls.length L) ∧ Aside0 (TyB wr A1 58) ∧ Aside0 (CH wr w0.heap.size gc vs X (fun _ => False)))
      case atStart => exact ⟨0, M', rfl, Nat.zero_le _, by omega, ⟨rfl⟩, HM8, HI, HB, HC, HT, HCH2⟩
      case round =>
       clear HM8 HI HB HC HT HCH2
       obtain ⟨r, M8, rfl, hr, hg, HN, HM, HI, HB, HC, HT, HCH⟩ := hrel
       by_cases hlt : r < ls.length
       ·have hltz : (r : Int) < (ls.length : Int) := by omega
        have hN := HN.out
        rw [show ls.length - r = (ls.length - (r + 1)) + 1 by omega] at hN
        have HN2 := am (show relaxN L X (ls.length - (r + 1)) (relaxAll L X M8) = relaxN L X ls.length M' from hN)
        clear hN HN
        go_wp2
        go_loopg [161] ls.length (fun gg v161 wr => ∃ (kk : Nat) (M10 : PMap), v161 = .int .i64 kk ∧ kk ≤ ls.length ∧ ls.length - kk ≤ gg ∧ Aside0 (relaxAll (L.drop kk) (X.drop kk) M10 = relaxAll L X M8) ∧ Aside0 (RestIs wr b (n + 1001000 + 1001000 * r + 1001 * kk) M10) ∧ Aside0 (IsS65 w0 wr g p (some b)) ∧ Aside0 (Below w0.heap.size w0 wr) ∧ Aside0 (Kd.C kT wr A1 ls.length L) ∧ Aside0 (TyB wr A1 58) ∧ Aside0 (CH wr w0.heap.size gc vs X (fun _ => False)))
        case atStart => exact ⟨0, M8, rfl, Nat.zero_le _, by omega, ⟨rfl⟩, HM, HI, HB, HC, HT, HCH⟩
        case round =>
         clear HM HI HB HC HT HCH
         obtain ⟨kk, M10, rfl, hkk, hg2, HA, HM, HI, HB, HC, HT, HCH⟩ := hrel
         by_cases hltk : kk < ls.length
         ·have hltkz : (kk : Int) < (ls.length : Int) := by omega
          have hltL : kk < L.length := by rw [HLl.out]; exact hltk
          have hltX : kk < X.length := by rw [HXl2.out]; exact hltk
          have hkv : kk < vs.length := by rw [HVl2.out]; exact hltk
          obtain ⟨ad, e1, hx0, hx1, hx2⟩ := at_T HC.out kk hltk
          subst e1
          have hget : L.getD kk zT = L[kk]'hltL := by simp [hltL]
          have hswf := HSt.out (L.getD kk zT) (by rw [hget]; exact List.getElem_mem _)
          have hA := HA.out
          rw [List.drop_eq_getElem_cons hltL, List.drop_eq_getElem_cons hltX, ← hget] at hA
          clear HA hget
          have hgood := HGd.out (X[kk]'hltX) (List.getElem_mem _)
          have hrow := HCH.out.row kk hkv
          have hXg : X.getD kk [] = X[kk]'hltX := by simp [hltX]
          rw [hXg] at hrow
          generalize X[kk]'hltX = R at hA hgood hrow
          generalize L.getD kk zT = s at hx0 hx1 hx2 hA hswf
          obtain ⟨q0, q1, q2⟩ := s
          obtain ⟨hRl, hRw⟩ := hgood
          have HA2 := am (show relaxAll (L.drop (kk + 1)) (X.drop (kk + 1)) (relaxRow (q0, q1, q2) R M10) = relaxAll L X M8 from hA)
          have Hswf := am hswf
          have HRw := am hRw
          have hcell := CH.cellAt HCH.out hkv
          obtain ⟨Ar, cr, er⟩ := Kd.R_slice hrow
          rw [er] at hcell hrow
          have HtA := am (R_TyB hrow).1
          have HCr := am (Kd.R_reads' hrow).2.2
          clear hA hswf hRw hXg er hrow hltX hkv
          have hcellA := cellAl hcell (.cells #[.int .i64 q0, .int .i64 q1, .int .i64 q2] 58)
          clear hcell
          go_wp2
          have hal := below_alloc (Below.refl wr.heap.size wr) (.cells #[.int .i64 q0, .int .i64 q1, .int .i64 q2] 58 (0, 0))
          have BX := heapNew wr (.cells #[.int .i64 q0, .int .i64 q1, .int .i64 q2] 58 (0, 0))
          have HM1 := am (HM.out.heap (hal.block b HM.out.lt))
          have HI1 := am (HI.out.below hal)
          have HB1 := am (below_alloc HB.out (.cells #[.int .i64 q0, .int .i64 q1, .int .i64 q2] 58 (0, 0)))
          have HC1 := am (Kd.C_below HC.out hal)
          have HT1 := am (HT.out.step (fun k_ cs hk_ => blk_alloc hk_ (.cells #[.int .i64 q0, .int .i64 q1, .int .i64 q2] 58 (0, 0))))
          have HCH1 := am (HCH.out.below hal)
          have HCr1 := am (Kd.C_below HCr.out hal)
          have HtA1 := am (HtA.out.step (fun k_ cs hk_ => blk_alloc hk_ (.cells #[.int .i64 q0, .int .i64 q1, .int .i64 q2] 58 (0, 0))))
          generalize wr.alloc (.cells #[.int .i64 q0, .int .i64 q1, .int .i64 q2] 58 (0, 0)) = W1 at BX HM1 HI1 HB1 HC1 HT1 HCH1 HCr1 HtA1 ⊢
          generalize wr.heap.size = gb at BX ⊢
          have BX2 := am BX
          clear hal BX HM HI HB HC HT HCH HCr HtA hx0 hx1 hx2 hcellA
          go_loopg [171] R.length (fun gg v171 wr => ∃ (jj : Nat) (M12 : PMap), v171 = .int .i64 jj ∧ jj ≤ R.length ∧ R.length - jj ≤ gg ∧ Aside0 (relaxRow (q0, q1, q2) (R.drop jj) M12 = relaxRow (q0, q1, q2) R M10) ∧ Aside0 (RestIs wr b (n + 1001000 + 1001000 * r + 1001 * kk + jj) M12) ∧ Aside0 (IsS65 w0 wr g p (some b)) ∧ Aside0 (Below w0.heap.size w0 wr) ∧ Aside0 (Kd.C kT wr (some ad) ls.length L) ∧ Aside0 (TyB wr (some ad) 58) ∧ Aside0 (CH wr w0.heap.size gc vs X (fun _ => False)) ∧ Aside0 (Kd.C kE wr Ar R.length R) ∧ Aside0 (TyB wr Ar 62) ∧ Aside0 (wr.heap[gb]? = some (.cells #[.int .i64 q0, .int .i64 q1, .int .i64 q2] 58 (0, 0))))
          case atStart => exact ⟨0, M10, rfl, Nat.zero_le _, by omega, ⟨rfl⟩, HM1, HI1, HB1, HC1, HT1, HCH1, HCr1, HtA1, BX2⟩
          case round =>
           clear HM1 HI1 HB1 HC1 HT1 HCH1 HCr1 HtA1 BX2
           obtain ⟨jj, M12, rfl, hjj, hgj, HRx, HM, HI, HB, HC, HT, HCH, HCt, HTt, BX⟩ := hrel
           by_cases hltj : jj < R.length
           ·have hltjz : (jj : Int) < (R.length : Int) := by omega
            obtain ⟨ade, run, A2, n2, c2, e6, hx0, hx1, hx2, hx3, hx4, hx5⟩ := at_E HCt.out jj hltj
            subst e6
            have hget : R.getD jj zE = R[jj]'hltj := by simp [hltj]
            have hwfk := HRw.out (R.getD jj zE) (by rw [hget]; exact List.getElem_mem _)
            have hF := HRx.out
            rw [List.drop_eq_getElem_cons hltj, ← hget] at hF
            clear HRx hget
            generalize R.getD jj zE = ee at hx0 hx1 hx2 hx3 hx4 hx5 hwfk hF
            obtain ⟨e0, e1, e2, e3⟩ := ee
            have Hwfk := am hwfk
            have HF3 := am (show relaxRow (q0, q1, q2) (R.drop (jj + 1)) (relax M12 (q0, q1, q2) (e0, e1, e2, e3)) = relaxRow (q0, q1, q2) R M10 from hF)
            clear hwfk hF
            go_wp2
            have hal := below_alloc (Below.refl wr.heap.size wr) (.cells #[.int .i64 e0, .int .i64 run, .slice A2 n2 c2, .int .i64 e1, .int .i64 e2, .int .i64 e3] 62 (0, 0))
            have BY := heapNew wr (.cells #[.int .i64 e0, .int .i64 run, .slice A2 n2 c2, .int .i64 e1, .int .i64 e2, .int .i64 e3] 62 (0, 0))
            have HM1 := am (HM.out.heap (hal.block b HM.out.lt))
            have HI1 := am (HI.out.below hal)
            have HB1 := am (below_alloc HB.out (.cells #[.int .i64 e0, .int .i64 run, .slice A2 n2 c2, .int .i64 e1, .int .i64 e2, .int .i64 e3] 62 (0, 0)))
            have HC1 := am (Kd.C_below HC.out hal)
            have HT1 := am (HT.out.step (fun k_ cs hk_ => blk_alloc hk_ (.cells #[.int .i64 e0, .int .i64 run, .slice A2 n2 c2, .int .i64 e1, .int .i64 e2, .int .i64 e3] 62 (0, 0))))
            have HCH1 := am (HCH.out.below hal)
            have HCt1 := am (Kd.C_below HCt.out hal)
            have HTt1 := am (HTt.out.step (fun k_ cs hk_ => blk_alloc hk_ (.cells #[.int .i64 e0, .int .i64 run, .slice A2 n2 c2, .int .i64 e1, .int .i64 e2, .int .i64 e3] 62 (0, 0))))
            have BX1 := am (blk_alloc BX.out (.cells #[.int .i64 e0, .int .i64 run, .slice A2 n2 c2, .int .i64 e1, .int .i64 e2, .int .i64 e3] 62 (0, 0)))
            generalize wr.alloc (.cells #[.int .i64 e0, .int .i64 run, .slice A2 n2 c2, .int .i64 e1, .int .i64 e2, .int .i64 e3] 62 (0, 0)) = W1 at BY HM1 HI1 HB1 HC1 HT1 HCH1 HCt1 HTt1 BX1 ⊢
            generalize wr.heap.size = g7 at BY ⊢
            have BY2 := am BY
            clear hal BY HM HI HB HC HT HCH HCt HTt BX hx0 hx1 hx2 hx3 hx4 hx5
            obtain ⟨hl1, hl2⟩ := RestIs.look (w := W1.drew) (s := (q0, q1, q2)) HM1.out Hswf.out
            obtain ⟨hl3, hl4⟩ := RestIs.look (w := W1.drew) (s := (e1, e2, e3)) HM1.out Hwfk.out
            obtain ⟨u1, hu1⟩ : ∃ u, pget M12 (q0, q1, q2) = u := ⟨_, rfl⟩
            obtain ⟨u2, hu2⟩ : ∃ u, pget M12 (e1, e2, e3) = u := ⟨_, rfl⟩
            rw [hu1] at hl1 hl2
            rw [hu2] at hl3
            obtain ⟨nb2, hnb⟩ : ∃ nb2 : Int, (if wrap64 (e0 + u2) < u1 then wrap64 (e0 + u2) else u1) = nb2 := ⟨_, rfl⟩
            have Hrx := am (relax_eq (e0 := e0) hu1 hu2 hnb)
            have hnw : (Lit.int .i64 nb2).wf = true := by rw [← hnb]; exact wf_min hl2 (wrap64_wf (e0 + u2))
            obtain ⟨w5, hrun, hM5, hg5⟩ := RestIs.store (w := W1.drew) (s := (q0, q1, q2)) HM1.out (by unfold maxLen; omega) Hswf.out (v := nb2) hnw
            have hrun2 : (Instr.mapUpdate 63 (.map (some b)) (.agg #[.int .i64 q0, .int .i64 q1, .int .i64 q2]) (.int .i64 nb2)).run Tryd.prog W1.drew = .ok () w5 := hrun
            have HXa : (Instr.lookup 63 (.map (some b)) (.agg #[.int .i64 q0, .int .i64 q1, .int .i64 q2]) false).run Tryd.prog W1.drew = .ok (.int .i64 u1) W1.drew := hl1
            have HXm : (Instr.lookup 63 (.map (some b)) (.agg #[.int .i64 e1, .int .i64 e2, .int .i64 e3]) false).run Tryd.prog W1.drew = .ok (.int .i64 u2) W1.drew := hl3
            have HXg : W1.drew.cell? ⟨g, 1, none⟩ = some (.map (some b)) := IsS65.cell1 (W := W1) HI1.out
            have HX0 : W1.drew.cell? ⟨gb, 0, none⟩ = some (.int .i64 q0) := (blk_cell BX1.out 0).trans rfl
            have HX1 : W1.drew.cell? ⟨gb, 1, none⟩ = some (.int .i64 q1) := (blk_cell BX1.out 1).trans rfl
            have HX2 : W1.drew.cell? ⟨gb, 2, none⟩ = some (.int .i64 q2) := (blk_cell BX1.out 2).trans rfl
            have HY0 : W1.drew.cell? ⟨g7, 0, none⟩ = some (.int .i64 e0) := (blk_cell BY2.out 0).trans rfl
            have HY3 : W1.drew.cell? ⟨g7, 3, none⟩ = some (.int .i64 e1) := (blk_cell BY2.out 3).trans rfl
            have HY4 : W1.drew.cell? ⟨g7, 4, none⟩ = some (.int .i64 e2) := (blk_cell BY2.out 4).trans rfl
            have HY5 : W1.drew.cell? ⟨g7, 5, none⟩ = some (.int .i64 e3) := (blk_cell BY2.out 5).trans rfl
            have HM5 := am hM5
            have HG5 := am hg5
            clear hrun hM5 hg5 hl1 hl2 hl3 hl4 hu1 hu2 hnw
            refine start_ (n := 23) (S := fun w' => w'.cell? ⟨g, 1, none⟩ = some (.map (some b)) ∧ w'.cell? ⟨gb, 0, none⟩ = some (.int .i64 q0) ∧ w'.cell? ⟨gb, 1, none⟩ = some (.int .i64 q1) ∧ w'.cell? ⟨gb, 2, none⟩ = some (.int .i64 q2) ∧ w'.cell? ⟨g7, 0, none⟩ = some (.int .i64 e0) ∧ w'.cell? ⟨g7, 3, none⟩ = some (.int .i64 e1) ∧ w'.cell? ⟨g7, 4, none⟩ = some (.int .i64 e2) ∧ w'.cell? ⟨g7, 5, none⟩ = some (.int .i64 e3) ∧ (Instr.lookup 63 (.map (some b)) (.agg #[.int .i64 q0, .int .i64 q1, .int .i64 q2]) false).run Tryd.prog w' = .ok (.int .i64 u1) w' ∧ (Instr.lookup 63 (.map (some b)) (.agg #[.int .i64 e1, .int .i64 e2, .int .i64 e3]) false).run Tryd.prog w' = .ok (.int .i64 u2) w') (ds := [22]) (bs 23 0) (by kernel_rfl) rfl rfl ⟨HXg, HX0, HX1, HX2, HY0, HY3, HY4, HY5, HXa, HXm⟩ (fun hHeld => ?_)
            refine pS 0 (some 175) (bs 23 1) (h := ?_)
            refine pS 1 (some 176) (bs 23 3) (h := ?_)
            refine pS 2 (some 177) (bs 23 7) (h := ?_)
            refine pS 5 (some 180) (bs 23 39) (h := ?_)
            refine pS 6 (some 181) (bs 23 103) (h := ?_)
            refine pS 7 (some 182) (bs 23 231) (h := ?_)
            refine pS 11 (some 186) (bs 23 2279) (h := ?_)
            refine pS 13 (some 188) (bs 23 10471) (h := ?_)
            refine pS 14 (some 189) (bs 23 26855) (h := ?_)
            refine pS 15 (some 190) (bs 23 59623) (h := ?_)
            refine pS 17 (some 192) (bs 23 190695) (h := ?_)
            refine tS 3 (some 178) (bs 23 190703) hHeld (h := ?_)
            refine tS 4 (some 179) (bs 23 190719) hHeld (h := ?_)
            refine tS 8 (some 183) (bs 23 190975) hHeld (h := ?_)
            refine tS 9 (some 184) (bs 23 191487) hHeld (h := ?_)
            refine tS 10 (some 185) (bs 23 192511) hHeld (h := ?_)
            refine tS 12 (some 187) (bs 23 196607) hHeld (h := ?_)
            refine tS 16 (some 191) (bs 23 262143) hHeld (h := ?_)
            refine tS 18 (some 193) (bs 23 524287) hHeld (h := ?_)
            refine tS 19 (some 194) (bs 23 1048575) hHeld (h := ?_)
            refine pS 20 (some 195) (bs 23 2097151) (h := ?_)
            refine pS 21 (some 196) (bs 23 4194303) (h := ?_)
            refine last_ (i := 22) (N := none) (bs 23 8388607) rfl rfl (by kernel_rfl) (by decide) (fun K hK => ?_)
            refine skip_ (w1 := ?_) (by rfl) rfl ?_ ?_
            rotate_left
            ·go_simp
             rfl
            refine hK.out _ _ ?_
            clear hK K
            refine done_ (by kernel_rfl) ?_
            clear hrun2 HXa HXm HXg HX0 HX1 HX2 HY0 HY3 HY4 HY5 hnb
            have hmap : ∃ es clock, W1.drew.heap[b]? = some (.map es clock) := RestIs.isMap (w := W1.drew) HM1.out
            go_wp2
            go_roundg (R.length - (jj + 1))
            case measure => omega
            case rel =>
             refine ⟨jj + 1, _, by go_num, by omega, by omega, ⟨?_⟩, ⟨HM5.out.mono (by omega)⟩, ⟨IsS65.grown (W := W1.drew) HI1.out HG5.out hbne⟩, ⟨Below.grown (below_drew1 HB1.out) HG5.out HB1.out.size (fun k e => by cases e; exact Hb0.out)⟩, ⟨C_T_typed (d := kT) (fun h => h) (w := W1.drew) HC1.out HT1.out (fun k_ cs hk_ => blk_map hmap HG5.out hk_)⟩, ⟨TyB.step (w := W1.drew) HT1.out (fun k_ cs hk_ => blk_map hmap HG5.out hk_)⟩, ⟨CH.map (W := W1.drew) (CH.drew HCH1.out) hmap HG5.out⟩, ⟨C_T_typed (d := kE) (fun h => h) (w := W1.drew) HCt1.out HTt1.out (fun k_ cs hk_ => blk_map hmap HG5.out hk_)⟩, ⟨TyB.step (w := W1.drew) HTt1.out (fun k_ cs hk_ => blk_map hmap HG5.out hk_)⟩, ⟨blk_map (w := W1.drew) hmap HG5.out BX1.out⟩⟩
             rw [← Hrx.out]
             exact HF3.out
           ·have hkj : jj = R.length := by omega
            subst hkj
            have hE := HRx.out
            rw [List.drop_of_length_le (Nat.le_refl _)] at hE
            have hE2 : M12 = relaxRow (q0, q1, q2) R M10 := hE
            have hA := HA2.out
            rw [← hE2] at hA
            have HA3 := am hA
            clear hE hE2 hA HA2 HRx hltj
            go_wp2
            go_roundg (ls.length - (kk + 1))
            case measure => omega
            case rel => exact ⟨kk + 1, M12, by go_num, by omega, by omega, HA3, ⟨HM.out.mono (by omega)⟩, HI, HB, HC, HT, HCH⟩
         ·have hkl : kk = ls.length := by omega
          subst hkl
          have hE := HA.out
          rw [List.drop_of_length_le (by rw [HLl.out]; exact Nat.le_refl _)] at hE
          have hE2 : M10 = relaxAll L X M8 := by
           revert hE
           cases X.drop ls.length <;> exact fun h => h
          have hN := HN2.out
          rw [← hE2] at hN
          have HN3 := am hN
          clear hE hE2 hN HN2 HA
          go_wp2
          go_roundg (ls.length - (r + 1))
          case measure => omega
          case rel => exact ⟨r + 1, M10, by go_num, by omega, by omega, HN3, ⟨HM.out.mono (by omega)⟩, HI, HB, HC, HT, HCH⟩
       ·have hrl2 : r = ls.length := by omega
        subst hrl2
        have hE := HN.out
        rw [Nat.sub_self] at hE
        have hE2 : M8 = relaxN L X ls.length M' := hE
        have hm := Hm2.out
        rw [← hE2] at hm
        obtain ⟨cv, hcv⟩ : ∃ cv, pget M8 (a, 0, -1) = cv := ⟨_, rfl⟩
        obtain ⟨nb2, hnb⟩ : ∃ nb2 : Int, (if wrap64 (1 + cv) < best then wrap64 (1 + cv) else best) = nb2 := ⟨_, rfl⟩
        have hm3 : pput M8 (a, 4, -1) nb2 = M2 := by
         rw [← hm, hcv]
         exact congrArg _ hnb.symm
        have HM2 := am hm3
        have Hnw := am (show (Lit.int .i64 nb2).wf = true by rw [← hnb]; exact wf_min Hbw.out (wrap64_wf (1 + cv)))
        have Hcv := am hcv
        clear hE hE2 hm hm3 HN Hm2 hcv
        obtain ⟨hl1, hl2⟩ := RestIs.look (w := wr.drew) (s := (a, 0, -1)) HM.out Hawf.out
        rw [Hcv.out] at hl1
        have HXa : (Instr.lookup 63 (.map (some b)) (.agg #[.int .i64 a, .int .i64 0, .int .i64 (-1)]) false).run Tryd.prog wr.drew = .ok (.int .i64 cv) wr.drew := hl1
        have HXg : wr.drew.cell? ⟨g, 1, none⟩ = some (.map (some b)) := IsS65.cell1 (W := wr) HI.out
        clear hl1 hl2
        go_wp2
        refine start_ (n := 18) (S := fun w' => w'.cell? ⟨g, 1, none⟩ = some (.map (some b)) ∧ (Instr.lookup 63 (.map (some b)) (.agg #[.int .i64 a, .int .i64 0, .int .i64 (-1)]) false).run Tryd.prog w' = .ok (.int .i64 cv) w') (ds := [17]) (bs 18 0) (by kernel_rfl) rfl rfl ⟨HXg, HXa⟩ (fun hHeld => ?_)
        refine pS 0 (some 200) (bs 18 1) (h := ?_)
        refine pS 1 (some 201) (bs 18 3) (h := ?_)
        refine pS 2 (some 202) (bs 18 7) (h := ?_)
        refine pS 4 (some 204) (bs 18 23) (h := ?_)
        refine pS 6 (some 206) (bs 18 87) (h := ?_)
        refine pS 7 (some 207) (bs 18 215) (h := ?_)
        refine pS 8 (some 208) (bs 18 471) (h := ?_)
        refine pS 9 (some 209) (bs 18 983) (h := ?_)
        refine pS 11 (some 211) (bs 18 3031) (h := ?_)
        refine pS 12 (some 212) (bs 18 7127) (h := ?_)
        refine pS 13 (some 213) (bs 18 15319) (h := ?_)
        refine tS 3 (some 203) (bs 18 15327) hHeld (h := ?_)
        refine tS 10 (some 210) (bs 18 16351) hHeld (h := ?_)
        refine tS 14 (some 214) (bs 18 32735) hHeld (h := ?_)
        refine pS 15 (some 215) (bs 18 65503) (h := ?_)
        refine pS 16 (some 216) (bs 18 131039) (h := ?_)
        refine one_ (i := 5) (N := some 205) (bs 18 131071) rfl rfl (by kernel_rfl) (by decide) (fun K hK => ?_)
        refine goes_ Tryd.func77 (by kernel_rfl) rfl #[.int .i64 a] (by rfl) rfl rfl (by simp only [List.map_toArray, List.map_cons, List.map_nil]; rfl) ?_
        with_reducible refine (stacktext_afterRun.calls a a 4 (-1) _ rfl).mono ?_
        rintro e w3 ⟨rfl, hb⟩
        refine ⟨_, rfl, ?_⟩
        have HB3 := am (below_step (w := w0) (W := wr.drew) (below_drew1 HB.out) hb)
        have HM3 := am (RestIs.heap (w := wr.drew) HM.out (hb.block b HM.out.lt))
        have HI3 := am (IsS65.below (W := wr.drew) HI.out.drew hb)
        obtain ⟨hl5, hl6⟩ := RestIs.look (w := w3) (s := (a, 0, -1)) HM3.out Hawf.out
        rw [Hcv.out] at hl5
        clear hb hl6
        obtain ⟨w5, hrun, hM5, hg5⟩ := RestIs.store (w := w3) (s := (a, 4, -1)) HM3.out (by unfold maxLen; omega) ⟨Hawf.out.1, rfl, rfl⟩ (v := nb2) Hnw.out
        have hrun2 : (Instr.mapUpdate 63 (.map (some b)) (.agg #[.int .i64 a, .int .i64 4, .int .i64 (-1)]) (.int .i64 nb2)).run Tryd.prog w3 = .ok () w5 := hrun
        have HM5 := am hM5
        have HG5 := am hg5
        clear hrun hM5 hg5
        refine hK.out _ _ ⟨IsS65.cell1 HI3.out, hl5⟩ (fun hHeld => ?_)
        clear hK K
        refine norm_ (a' := ?_) ?_ ?_
        rotate_left
        ·show Act.put _ (some 205) _ = _
         simp only [Act.put, List.setIfInBounds_toArray, List.set_cons_zero, List.set_cons_succ, i64_w, i32_w]
         rfl
        refine last_ (i := 17) (N := none) (bs 18 262143) rfl rfl (by kernel_rfl) (by decide) (fun K hK => ?_)
        refine skip_ (w1 := ?_) (by rfl) rfl ?_ ?_
        rotate_left
        ·go_simp
         rfl
        refine hK.out _ _ ?_
        clear hK K
        refine done_ (by kernel_rfl) ?_
        go_wp2
        refine bodyPost_end (results_none rfl _ _ _) rfl ?_
        exact ⟨rfl, IsS65.grown HI3.out HG5.out hbne, Below.grown HB3.out HG5.out HB3.out.size (fun k e => by cases e; exact Hb0.out), by rw [← HM2.out]; exact HM5.out.mono (by omega)⟩
 ·rw [if_neg hc] at h; cases h
end Go.Proofs.YtoadabodhdgdjaaDoor.St
