import Derived.Test.YtoadabodhdgdjaaDoorQStO
import Derived.Test.YtoadabodhdgdjaaDoorQS0
namespace Go.Proofs.YtoadabodhdgdjaaDoor.St
open Go.Proofs.YtoadabodhdgdjaaDoor.S0
open Go.RowKit Go.Maps Go.Proofs.YtoadabodhdgdjaaDoorW.PrintWords Go.Proofs.YtoadabodhdgdjaaDoorW.PrintLast Go.Proofs.YtoadabodhdgdjaaDoorW.PrintMore Go.Proofs.YtoadabodhdgdjaaDoor.SM
attribute [local go_sem] max2_int min2_int max_two min_two max_three min_three max_four min_four
set_option linter.unusedVariables false
set_option linter.unusedSimpArgs false
theorem heapNew (w : World) (o : Obj) : (w.alloc o).heap[w.heap.size]? = some o := by
 show (w.heap.push o)[w.heap.size]? = _
 simp
theorem cell_map {w w1 : World} {b : Nat} (hm : ∃ es clock, w.heap[b]? = some (.map es clock)) (hg : w.grownBy w1 (some b)) {a : Addr} {v : Value} (h : w.cell? a = some v) : w1.cell? a = some v := by
 obtain ⟨es, clock, hm⟩ := hm
 have hne : a.block ≠ b := fun e => by simp [World.cell?, e, hm] at h
 have := hg.block a.block (World.block_lt_of_cell? w a h) (fun e => hne (Option.some.inj e))
 simpa [World.cell?, this] using h
theorem blk_map {w w1 : World} {b : Nat} (hm : ∃ es clock, w.heap[b]? = some (.map es clock)) (hg : w.grownBy w1 (some b)) {k t : Nat} {cs : Array Value} {z : Nat × Nat} (h : w.heap[k]? = some (.cells cs t z)) : w1.heap[k]? = some (.cells cs t z) := by
 obtain ⟨es, clock, hm⟩ := hm
 have hne : k ≠ b := fun e => by rw [e, hm] at h; cases h
 exact (hg.block k (Array.getElem?_eq_some_iff.1 h).1 (fun e => hne (Option.some.inj e))).trans h
theorem C_cells {α : Type} {d : Kd α} (hd : ∀ {w w1 : World} {x : α} {cs : List Value}, d.K w x cs → d.K w1 x cs) {w w1 : World} {A : Option Addr} {n : Nat} {xs : List α} (h : Kd.C d w A n xs) (hk : ∀ (a : Addr) (v : Value), (∀ x, A = some x → a.block = x.block) → w.cell? a = some v → w1.cell? a = some v) : Kd.C d w1 A n xs :=
 ⟨h.1, h.2.1, fun hn => by
  obtain ⟨ad, e, hc⟩ := h.2.2 hn
  refine ⟨ad, e, fun j p hj => ?_⟩
  obtain ⟨c, hs, hr, hcell⟩ := hc j p hj
  exact ⟨c, hs, hd hr, fun i u hu => hk _ _ (fun x hx => by rw [e] at hx; cases hx; exact add_block _ _) (hcell i u hu)⟩⟩
def kT : Kd St3 where
 sz := 3
 E := []
 K := fun _ x cs => cs = [.int .i64 x.1, .int .i64 x.2.1, .int .i64 x.2.2]
 M := fun _ _ _ x cs => cs = [.int .i64 x.1, .int .i64 x.2.1, .int .i64 x.2.2]
 K_len := by rintro w x cs rfl; rfl
 K_one := by
  rintro w x cs rfl v hv
  simp only [List.mem_cons, List.not_mem_nil, or_false] at hv
  rcases hv with rfl | rfl | rfl <;> rfl
 K_below := fun _ h => h
 K_of_M := fun h => h
 M_mono := fun _ h => h
 M_bound := fun h => h
 M_move := fun _ h => h
 M_lower := fun _ h => h
theorem C_stOf {w : World} {A : Option Addr} {n : Nat} {xs : List S58} (h : Kd.C k58 w A n xs) : Kd.C kT w A n (xs.map stOf) :=
 ⟨by rw [List.length_map]; exact h.1, h.2.1, fun hn => by
  obtain ⟨ad, e, hc⟩ := h.2.2 hn
  refine ⟨ad, e, fun j p hj => ?_⟩
  rw [List.getElem?_map] at hj
  obtain ⟨x, hx, rfl⟩ := Option.map_eq_some_iff.1 hj
  obtain ⟨c, hs, hr, hcell⟩ := hc j x hx
  obtain rfl := k58_open hr
  exact ⟨_, rfl, rfl, hcell⟩⟩
def zT : St3 := (0, 0, 0)
theorem at_T {w : World} {A : Option Addr} {n : Nat} {xs : List St3} (h : Kd.C kT w A n xs) (i : Nat) (h1 : i < n) : ∃ ad, A = some ad ∧ w.cell? (ad.add (i * 3)) = some (.int .i64 (xs.getD i zT).1) ∧ w.cell? ⟨(ad.add (i * 3)).block, (ad.add (i * 3)).off + 1, none⟩ = some (.int .i64 (xs.getD i zT).2.1) ∧ w.cell? ⟨(ad.add (i * 3)).block, (ad.add (i * 3)).off + 2, none⟩ = some (.int .i64 (xs.getD i zT).2.2) := by
 obtain ⟨ad, c, e, _, hK, hc0⟩ := Kd.C_get h zT (i : Int) (by omega) (by omega)
 have hc : ∀ j u, c[j]? = some u → w.cell? (ad.add (i * 3 + j)) = some u := fun j u h => by
  have := hc0 j u h
  rw [Int.toNat_natCast] at this
  exact this
 obtain rfl := hK
 rw [Int.toNat_natCast] at hc
 exact ⟨ad, e, hc 0 _ rfl, by rw [← add_field _ _ 1 (by omega)]; exact hc 1 _ rfl, by rw [← add_field _ _ 2 (by omega)]; exact hc 2 _ rfl⟩
theorem IsS65.cell1 {w0 W : World} {g b : Nat} {p : List Int} (h : IsS65 w0 W g p (some b)) : W.cell? ⟨g, 1, none⟩ = some (.map (some b)) := by
 obtain ⟨A0, c0, hb, _⟩ := h
 exact (blk_cell hb 1).trans rfl
theorem IsS65.ne_map {w0 W : World} {g b n : Nat} {p : List Int} {M : PMap} (h : IsS65 w0 W g p (some b)) (hM : RestIs W b n M) : some g ≠ some b := fun e => by
 obtain ⟨A0, c0, hb, _⟩ := h
 obtain ⟨es, clock, hm⟩ := hM.isMap
 cases e
 rw [hb] at hm
 cases hm
def putAll (v : Int) : List St3 → PMap → PMap
 | [], M => M
 | s :: t, M => putAll v t (pput M s v)
def endF (k : Nat) (M : PMap) (at_ : Int) : Option PMap :=
 (stacktext_states.f k at_).bind fun ls => if ls.length ≤ 1000 ∧ (∀ s ∈ ls.map stOf ++ [(at_, 4, -1)], wf3 s) then some (putAll 0 (ls.map stOf ++ [(at_, 4, -1)]) M) else none
set_option maxHeartbeats 8000000 in
set_option maxRecDepth 100000 in
theorem solve_end (k : Nat) (g b n : Nat) (p : List Int) (M M2 : PMap) (w0 w : World) (hI : IsS65 w0 w g p (some b)) (hB : Below w0.heap.size w0 w) (hM : RestIs w b n M) (hb0 : w0.heap.size ≤ b) (hn : n ≤ 9000000000000000000) (hp : p.length ≤ 1000000) (h : endF k M (p.length : Int) = some M2) :
  Calls Tryd.prog 55 #[.pointer (some ⟨g, 0, none⟩), .int .i64 (p.length : Int)] w fun e w' => e = .returned (.tuple #[]) ∧ IsS65 w0 w' g p (some b) ∧ Below w0.heap.size w0 w' ∧ RestIs w' b (n + 1001) M2 := by
 obtain ⟨ls, hls, h⟩ := Option.bind_eq_some_iff.1 h
 by_cases hc : ls.length ≤ 1000 ∧ (∀ s ∈ ls.map stOf ++ [((p.length : Int), 4, -1)], wf3 s)
 ·rw [if_pos hc] at h
  obtain rfl := Option.some.inj h
  obtain ⟨hl, hwf⟩ := hc
  have Hls := am hls
  have Hwf := am hwf
  have HI := am hI
  have HB := am hB
  have HM := am hM
  have Hb0 := am hb0
  obtain ⟨A0, c0, HG, hg0, hC0⟩ := hI
  have hcp : w.cell? ⟨g, 0, none⟩ = some (.slice A0 p.length (p.length + c0)) := (blk_cell HG 0).trans rfl
  clear hls hwf hB hM HG hg0 hC0
  go_enter Tryd.func55, Tryd.ntmps55
  go_wp2_with (first | ((with_reducible refine gate_callee (f := 76) rfl ?_); refine gL (some 20) Tryd.func76 #[.int .i64 (p.length : Int)] (h := ?_); (with_reducible refine (stacktext_states.calls k _ ls _ Hls.out).mono ?_); rintro e w1 ⟨v1, rfl, ho, hb⟩; refine ⟨_, rfl, ?_⟩; obtain ⟨A1, c1, e1⟩ := Kd.R_slice ho; subst e1; have HO := am ho; have HB1 := am hb; have hcp1 := (hb.cell (World.block_lt_of_cell? _ _ hcp)).trans hcp; clear hcp ho hb) | ((with_reducible refine gate_callee (f := 77) rfl ?_); refine gL (some 30) Tryd.func77 #[.int .i64 (p.length : Int)] (h := ?_); (with_reducible refine (stacktext_afterRun.calls (p.length : Int) (p.length : Int) 4 (-1) _ rfl).mono ?_); rintro e w2 ⟨rfl, hb⟩; refine ⟨_, rfl, ?_⟩; have HB2 := am hb; clear hb) | (at_builtin; refine Kd.R_append k58 w.heap.size rfl (.tmp 28) (.tmp 31) 116 58 (.agg #[(.int .i64 0), (.int .i64 0), (.int .i64 0)]) 24 rfl Tryd.underlying116 info58 rfl (by decide) (by omega) (.slice A1 ls.length c1) ls (⟨(p.length : Int), ⟨4, -1⟩⟩ : S58) _ (fun _ => True) (fun k_ => some k_ ≠ (Value.slice A1 ls.length c1).ownBlock) rfl rfl (k58_mkM _ _ _ _) (fun _ hk => ⟨trivial, hk⟩) (fun _ _ => trivial) (Kd.R_below HO.out HB2.out) (below_step HB1.out HB2.out) (below_step HB1.out HB2.out).size (by omega) ?_; intro v3 w3 ho hb hg hat; obtain ⟨A3, c3, e3⟩ := Kd.R_slice ho; subst e3; have HO3 := am ho; have HB3 := am hb; clear ho hb hg hat))
  have HC3 := am (C_stOf (Kd.R_reads' HO3.out).2.2)
  have hLe : (ls ++ [(⟨(p.length : Int), ⟨4, -1⟩⟩ : S58)]).map stOf = ls.map stOf ++ [((p.length : Int), 4, -1)] := by rw [List.map_append]; rfl
  rw [hLe] at HC3
  have hLl : (ls.map stOf ++ [((p.length : Int), 4, -1)]).length = ls.length + 1 := by simp
  rw [show (ls ++ [(⟨(p.length : Int), ⟨4, -1⟩⟩ : S58)]).length = ls.length + 1 by simp] at HC3
  have HI3 := am (HI.out.below HB3.out)
  have HM3 := am (HM.out.heap (HB3.out.block b HM.out.lt))
  have HBw := am (below_step HB.out HB3.out)
  have HL := am hLl
  clear HO HO3 HB1 HB2 HI HM hcp1 hLe hLl Hls h
  obtain ⟨L, hLg⟩ : ∃ L, ls.map stOf ++ [((p.length : Int), 4, -1)] = L := ⟨_, rfl⟩
  rw [hLg] at HC3 HL Hwf
  have HLg := am hLg
  clear hLg
  go_loopg [34] (ls.length + 1) (fun gg v34 wr => ∃ (kk : Nat) (M' : PMap), v34 = .int .i64 kk ∧ kk ≤ ls.length + 1 ∧ ls.length + 1 - kk ≤ gg ∧ Aside0 (putAll 0 (L.drop kk) M' = putAll 0 L M) ∧ Aside0 (RestIs wr b (n + kk) M') ∧ Aside0 (IsS65 w0 wr g p (some b)) ∧ Aside0 (Below w0.heap.size w0 wr) ∧ Aside0 (Kd.C kT wr A3 (ls.length + 1) L))
  case atStart => exact ⟨0, M, rfl, Nat.zero_le _, by omega, ⟨rfl⟩, HM3, HI3, HBw, HC3⟩
  case round =>
   clear HM3 HI3 HBw HC3 HB HB3
   obtain ⟨kk, M', rfl, hkk, hg, HP, HM, HI, HB, HC⟩ := hrel
   by_cases hlt : kk < ls.length + 1
   ·have hltz : (kk : Int) < (ls.length : Int) + 1 := by omega
    obtain ⟨ad, e1, hx0, hx1, hx2⟩ := at_T HC.out kk hlt
    subst e1
    have hwfk := Hwf.out (L.getD kk zT) (by rw [show L.getD kk zT = L[kk]'(by rw [HL.out]; exact hlt) from by simp [HL.out, hlt]]; exact List.getElem_mem _)
    have hstep : putAll 0 (L.drop kk) M' = putAll 0 (L.drop (kk + 1)) (pput M' (L.getD kk zT) 0) := by
     rw [List.drop_eq_getElem_cons (by rw [HL.out]; exact hlt)]
     rw [show L.getD kk zT = L[kk]'(by rw [HL.out]; exact hlt) from by simp [HL.out, hlt]]
     rfl
    have HS := am (hstep.symm.trans HP.out)
    clear hstep HP
    generalize L.getD kk zT = s at hx0 hx1 hx2 hwfk HS
    obtain ⟨q0, q1, q2⟩ := s
    have Hwfk := am hwfk
    clear hwfk
    go_wp2
    have BX : (wr.alloc (.cells #[.int .i64 q0, .int .i64 q1, .int .i64 q2] 58)).heap[wr.heap.size]? = some (.cells #[.int .i64 q0, .int .i64 q1, .int .i64 q2] 58 (0, 0)) := heapNew wr _
    have HI1 := am (HI.out.alloc (.cells #[.int .i64 q0, .int .i64 q1, .int .i64 q2] 58 (0, 0)))
    have HM1 := am (HM.out.heap ((below_alloc (Below.refl wr.heap.size wr) (.cells #[.int .i64 q0, .int .i64 q1, .int .i64 q2] 58 (0, 0))).block b HM.out.lt))
    have HB1 := am (below_alloc HB.out (.cells #[.int .i64 q0, .int .i64 q1, .int .i64 q2] 58 (0, 0)))
    have HC1 := am (Kd.C_alloc HC.out (.cells #[.int .i64 q0, .int .i64 q1, .int .i64 q2] 58 (0, 0)))
    generalize wr.alloc (.cells #[.int .i64 q0, .int .i64 q1, .int .i64 q2] 58 (0, 0)) = W1 at BX HI1 HM1 HB1 HC1 ⊢
    generalize wr.heap.size = gb at BX ⊢
    have BX2 := am BX
    clear BX HI HM HB HC hx0 hx1 hx2
    obtain ⟨w5, hrun, hM5, hg5⟩ := RestIs.store (w := W1.drew) (s := (q0, q1, q2)) HM1.out (by unfold maxLen; omega) Hwfk.out (v := 0) (by decide)
    have hrun2 : (Instr.mapUpdate 63 (.map (some b)) (.agg #[.int .i64 q0, .int .i64 q1, .int .i64 q2]) (.int .i64 0)).run Tryd.prog W1.drew = .ok () w5 := hrun
    have HX1 : W1.drew.cell? ⟨g, 1, none⟩ = some (.map (some b)) := IsS65.cell1 HI1.out
    have HX2 : W1.drew.cell? ⟨gb, 0, none⟩ = some (.int .i64 q0) := (blk_cell BX2.out 0).trans rfl
    have HX3 : W1.drew.cell? ⟨gb, 1, none⟩ = some (.int .i64 q1) := (blk_cell BX2.out 1).trans rfl
    have HX4 : W1.drew.cell? ⟨gb, 2, none⟩ = some (.int .i64 q2) := (blk_cell BX2.out 2).trans rfl
    have HM5 := am hM5
    have HG5 := am hg5
    clear hrun hM5 hg5
    refine start_ (n := 6) (S := fun w' => w'.cell? ⟨g, 1, none⟩ = some (.map (some b)) ∧ w'.cell? ⟨gb, 0, none⟩ = some (.int .i64 q0) ∧ w'.cell? ⟨gb, 1, none⟩ = some (.int .i64 q1) ∧ w'.cell? ⟨gb, 2, none⟩ = some (.int .i64 q2)) (ds := [5]) (bs 6 0) (by kernel_rfl) rfl rfl ⟨HX1, HX2, HX3, HX4⟩ (fun hHeld => ?_)
    refine pS 0 (some 38) (bs 6 1) (h := ?_)
    refine pS 1 (some 39) (bs 6 3) (h := ?_)
    refine pS 2 (some 40) (bs 6 7) (h := ?_)
    refine tS 3 (some 41) (bs 6 15) hHeld (h := ?_)
    refine tS 4 (some 42) (bs 6 31) hHeld (h := ?_)
    refine last_ (i := 5) (N := none) (bs 6 63) rfl rfl (by kernel_rfl) (by decide) (fun K hK => ?_)
    refine skip_ (w1 := ?_) (by rfl) rfl ?_ ?_
    rotate_left
    ·go_simp
     rfl
    refine hK.out _ _ ?_
    clear hK K
    refine done_ (by kernel_rfl) ?_
    have hmap : ∃ es clock, W1.drew.heap[b]? = some (.map es clock) := RestIs.isMap (w := W1.drew) HM1.out
    have hbne : some g ≠ some b := IsS65.ne_map HI1.out HM1.out
    go_wp2
    go_roundg (ls.length + 1 - (kk + 1))
    case measure => omega
    case rel =>
     exact ⟨kk + 1, _, by go_num, by omega, by omega, HS, HM5, ⟨IsS65.grown (W := W1.drew) HI1.out HG5.out hbne⟩, ⟨Below.grown (below_drew1 HB1.out) HG5.out HB1.out.size (fun k e => by cases e; exact Hb0.out)⟩, ⟨C_cells (d := kT) (fun h => h) (w := W1.drew) HC1.out (fun a v _ hv => cell_map hmap HG5.out hv)⟩⟩
   ·have hk : kk = ls.length + 1 := by omega
    subst hk
    have em : putAll 0 L M = M' := by
     have := HP.out
     rw [List.drop_of_length_le (by rw [HL.out]; exact Nat.le_refl _)] at this
     exact this.symm
    have HE := am em
    clear em HP
    go_wp2
    refine bodyPost_ret (results_none rfl _ _ _) rfl ?_
    exact ⟨rfl, HI.out, HB.out, by rw [HLg.out, HE.out]; exact HM.out.mono (by omega)⟩
 ·rw [if_neg hc] at h; cases h
end Go.Proofs.YtoadabodhdgdjaaDoor.St
