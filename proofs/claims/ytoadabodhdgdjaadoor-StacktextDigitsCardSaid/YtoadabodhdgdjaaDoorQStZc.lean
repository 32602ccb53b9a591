import Derived.Test.YtoadabodhdgdjaaDoorQStZb
import Derived.Defers
import Derived.Recover
import Derived.Laws.Pointers
import Derived.Test.YtoadabodhdgdjaaDoorQS0
namespace Go.Proofs.YtoadabodhdgdjaaDoor.St
open Go.Proofs.YtoadabodhdgdjaaDoor.S0
open Go.RowKit Go.Maps Go.Proofs.YtoadabodhdgdjaaDoorW.PrintWords Go.Proofs.YtoadabodhdgdjaaDoorW.PrintLast Go.Proofs.YtoadabodhdgdjaaDoorW.PrintMore
attribute [local go_sem] max2_int min2_int max_two min_two max_three min_three max_four min_four
set_option linter.unusedVariables false
set_option linter.unusedSimpArgs false
set_option maxRecDepth 100000 in
set_option maxHeartbeats 4000000 in
theorem recover_idle (p q : Addr) (w : World) :
  CallsD Tryd.prog 29 #[.pointer (some p), .pointer (some q)] .returning w fun e u' w' => e = .returned (.tuple #[]) ∧ u' = .returning ∧ w' = w := by
 refine callsD_of_wpS Tryd.func29 rfl fun c₀ cs hu => ?_
 apply wpS_seq
 apply wpS_region
 simp [wpOpsS, go_sem, recoverD, hu, Tryd.ntmps29, Exit.thenS]
 apply wpS_seq
 apply wpS_region
 simp [wpOpsS, go_sem, Exit.thenS]
 refine wpS_cond (t := false) (by simp [Act.eval, Array.replicate]) ?_
 simp only [Bool.false_eq_true, if_false]
 refine wpS_of_wp (wp_skip ?_)
 cases c₀
 simp_all [bodyPostS, results, Tryd.results29]
def stacktext_Decode.f (k : Nat) (l : List Int) : Option (List Int × Int) :=
 if l.length > 8192 then some ([], 4)
 else if l.any pDecode = true then some ([], 3)
 else (decL k l (l.length + 1) 0 (0, -1) true []).map fun r => (r, 0)
set_option maxHeartbeats 4000000 in
set_option maxRecDepth 100000 in
theorem stacktext_Decode.calls (k : Nat) (A0 : Option Addr) (c0 : Nat) (l0 : List Int) (r1 : List Int) (r2 : Int) (w : World) (hr0 : Kd.C (Kd.int .i64) w A0 l0.length l0) (hc0 : l0.length ≤ c0) (h : stacktext_Decode.f k l0 = some (r1, r2)) :
  Calls Tryd.prog 16 #[.slice A0 l0.length c0] w fun e w' => ∃ v0_ : Value, e = .returned (.tuple #[v0_, .int .i64 r2]) ∧ Kd.R (Kd.int .u8) 5 w' w.heap.size (fun _ => True) v0_ r1 ∧ Below w.heap.size w w' := by
 unfold stacktext_Decode.f at h
 have hmf : ∀ (fn : Fn) (first cap : Array Value) (w : World), (Instr.makeFunc fn first cap).run Tryd.prog w = .ok (.func fn first cap) w := fun _ _ _ _ => rfl
 have eg := enters_of Tryd.func28 (by kernel_rfl) rfl
 by_cases hl : l0.length > 8192
 ·rw [if_pos hl] at h
  simp only [Option.some.injEq, Prod.mk.injEq] at h
  obtain ⟨rfl, rfl⟩ := h
  have f1 : decide (8192 < (l0.length : Int)) = true := decide_eq_true (by omega)
  go_enter_defers Tryd.func16, Tryd.ntmps16
  go_wp2
  have b1 : Boxed ((w.alloc (.cells #[.slice none 0 0] 31)).alloc (.cells #[.int .i64 4] 24)) w.heap.size 31 (.slice none 0 0) := (Boxed.new w _ _).alloc _
  have b2 : Boxed ((w.alloc (.cells #[.slice none 0 0] 31)).alloc (.cells #[.int .i64 4] 24)) (w.heap.size + 1) 24 (.int .i64 4) := by
   have := Boxed.new (w.alloc (.cells #[.slice none 0 0] 31)) 24 (.int .i64 4)
   rwa [World.size_alloc] at this
  exact ⟨_, results_two_cells rfl rfl rfl (Tryd.isAgg31 _) (Tryd.isAgg24 _) b1.cell b2.cell, _, rfl, Kd.R_nil _ _ _ _ _, below_alloc (below_alloc (Below.refl _ _) _) _⟩
 ·rw [if_neg hl] at h
  have f1 : decide (8192 < (l0.length : Int)) = false := decide_eq_false (by omega)
  have hb2 : l0.length ≤ 9223372036854775806 := by omega
  have HC := am hr0
  clear hr0
  by_cases ha : l0.any pDecode = true
  ·rw [if_pos ha] at h
   simp only [Option.some.injEq, Prod.mk.injEq] at h
   obtain ⟨rfl, rfl⟩ := h
   have HA := am ha
   clear ha
   go_enter_defers Tryd.func16, Tryd.ntmps16
   go_wp2_with (((with_reducible refine gate_callee (f := 23) rfl ?_); refine gL (some 9) Tryd.func23 #[.slice A0 l0.length c0, .func (.func 28) #[] #[]] (h := ?_); (refine (slices_ContainsFunc.calls pDecode 28 #[] eg A0 c0 l0 _ (Kd.C_below HC.out (below_alloc (below_alloc (Below.refl _ _) _) _)) hb2 (pDecode_pred _)).mono ?_); rw [HA.out]; rintro e w' ⟨rfl, nd, rfl⟩; refine ⟨_, rfl, ?_⟩; clear eg))
   have b1 : Boxed ((w.alloc (.cells #[.slice none 0 0] 31)).alloc (.cells #[.int .i64 0] 24)) w.heap.size 31 (.slice none 0 0) := (Boxed.new w _ _).alloc _
   have b2 : Boxed ((w.alloc (.cells #[.slice none 0 0] 31)).alloc (.cells #[.int .i64 0] 24)) (w.heap.size + 1) 24 (.int .i64 0) := by
    have := Boxed.new (w.alloc (.cells #[.slice none 0 0] 31)) 24 (.int .i64 0)
    rwa [World.size_alloc] at this
   have hBl : Below w.heap.size w ((w.alloc (.cells #[.slice none 0 0] 31)).alloc (.cells #[.int .i64 0] 24)) := below_alloc (below_alloc (Below.refl _ _) _) _
   have hne : w.heap.size ≠ w.heap.size + 1 := by omega
   have c1 : Boxed (((((w.alloc (.cells #[.slice none 0 0] 31)).alloc (.cells #[.int .i64 0] 24)).drewN nd).setCell ⟨w.heap.size, 0, none⟩ (.slice none 0 0)).setCell ⟨w.heap.size + 1, 0, none⟩ (.int .i64 3)) w.heap.size 31 (.slice none 0 0) := (Below.heap_setCell _ ⟨w.heap.size + 1, 0, none⟩ _ _ hne).trans (Boxed.set _ (W := ((w.alloc (.cells #[.slice none 0 0] 31)).alloc (.cells #[.int .i64 0] 24)).drewN nd) b1)
   have c2 : Boxed (((((w.alloc (.cells #[.slice none 0 0] 31)).alloc (.cells #[.int .i64 0] 24)).drewN nd).setCell ⟨w.heap.size, 0, none⟩ (.slice none 0 0)).setCell ⟨w.heap.size + 1, 0, none⟩ (.int .i64 3)) (w.heap.size + 1) 24 (.int .i64 3) := Boxed.set _ (W := (((w.alloc (.cells #[.slice none 0 0] 31)).alloc (.cells #[.int .i64 0] 24)).drewN nd).setCell ⟨w.heap.size, 0, none⟩ (.slice none 0 0)) ((Below.heap_setCell _ ⟨w.heap.size, 0, none⟩ _ _ (Ne.symm hne)).trans b2)
   exact ⟨_, results_two_cells rfl rfl rfl (Tryd.isAgg31 _) (Tryd.isAgg24 _) c1.cell c2.cell, _, rfl, Kd.R_nil _ _ _ _ _, below_set (below_set (pw_below_drewN hBl nd) (Nat.le_refl _)) (by omega)⟩
  ·rw [if_neg ha] at h
   obtain ⟨r, hdec, he⟩ := Option.map_eq_some_iff.1 h
   simp only [Prod.mk.injEq] at he
   obtain ⟨rfl, rfl⟩ := he
   have HA := am (Bool.eq_false_iff.mpr ha)
   have HX := am hdec
   clear ha hdec h
   go_enter_defers Tryd.func16, Tryd.ntmps16
   go_wp2_with (((with_reducible refine gate_callee (f := 23) rfl ?_); refine gL (some 9) Tryd.func23 #[.slice A0 l0.length c0, .func (.func 28) #[] #[]] (h := ?_); (refine (slices_ContainsFunc.calls pDecode 28 #[] eg A0 c0 l0 _ (Kd.C_below HC.out (below_alloc (below_alloc (Below.refl _ _) _) _)) hb2 (pDecode_pred _)).mono ?_); rw [HA.out]; rintro e w' ⟨rfl, nd, rfl⟩; refine ⟨_, rfl, ?_⟩; clear eg))
   have b1 : Boxed ((w.alloc (.cells #[.slice none 0 0] 31)).alloc (.cells #[.int .i64 0] 24)) w.heap.size 31 (.slice none 0 0) := (Boxed.new w _ _).alloc _
   have b2 : Boxed ((w.alloc (.cells #[.slice none 0 0] 31)).alloc (.cells #[.int .i64 0] 24)) (w.heap.size + 1) 24 (.int .i64 0) := by
    have := Boxed.new (w.alloc (.cells #[.slice none 0 0] 31)) 24 (.int .i64 0)
    rwa [World.size_alloc] at this
   have hBl : Below w.heap.size w (((w.alloc (.cells #[.slice none 0 0] 31)).alloc (.cells #[.int .i64 0] 24)).drewN nd) := pw_below_drewN (below_alloc (below_alloc (Below.refl _ _) _) _) nd
   have hsz : (((w.alloc (.cells #[.slice none 0 0] 31)).alloc (.cells #[.int .i64 0] 24)).drewN nd).heap.size = w.heap.size + 1 + 1 := by
    show (((w.alloc (.cells #[.slice none 0 0] 31)).alloc (.cells #[.int .i64 0] 24))).heap.size = _
    rw [World.size_alloc, World.size_alloc]
   have b1' : Boxed (((w.alloc (.cells #[.slice none 0 0] 31)).alloc (.cells #[.int .i64 0] 24)).drewN nd) w.heap.size 31 (.slice none 0 0) := b1
   have b2' : Boxed (((w.alloc (.cells #[.slice none 0 0] 31)).alloc (.cells #[.int .i64 0] 24)).drewN nd) (w.heap.size + 1) 24 (.int .i64 0) := b2
   clear b1 b2
   generalize ((w.alloc (.cells #[.slice none 0 0] 31)).alloc (.cells #[.int .i64 0] 24)).drewN nd = W1 at b1' b2' hBl hsz ⊢
   have bd := World.alloc_heap_new W1 (.cells #[.slice A0 l0.length c0, .int .i64 0, .slice none 0 0] 51 (0, 0))
   rw [hsz] at bd
   have hal := below_alloc (Below.refl W1.heap.size W1) (.cells #[.slice A0 l0.length c0, .int .i64 0, .slice none 0 0] 51 (0, 0))
   have hB2 : Below w.heap.size w (W1.alloc (.cells #[.slice A0 l0.length c0, .int .i64 0, .slice none 0 0] 51 (0, 0))) := below_step hBl hal
   have d1 := blk_below b1' hal
   have d2 := blk_below b2' hal
   have hI : DI w (W1.alloc (.cells #[.slice A0 l0.length c0, .int .i64 0, .slice none 0 0] 51 (0, 0))) (w.heap.size + 1 + 1) l0 0 [] := ⟨A0, c0, .slice none 0 0, bd, by omega, hc0, HC.out, Kd.R_nil _ _ _ _ _, hB2⟩
   have hpos : ∀ x, x ∈ l0 → 0 ≤ x := fun x hx => by
    by_cases hx0 : 0 ≤ x
    ·exact hx0
    ·have : l0.any pDecode = true := List.any_eq_true.2 ⟨x, hx, by unfold pDecode; simp; omega⟩
     rw [HA.out] at this
     cases this
   refine (decode_calls k (w.heap.size + 1 + 1) l0 w _ hI (by omega) hpos (l0.length + 1) r HX.out).mono ?_
   rintro e w5 ⟨rfl, ⟨j, hD⟩, hO⟩
   dsimp only
   have e1 := boxO hO d1 (by omega) (by decide)
   have e2 := boxO hO d2 (by omega) (by decide)
   obtain ⟨A1, c1, v, HG, hge, hc1, HCw, HR, HB⟩ := hD
   obtain ⟨Av, cv, ev⟩ := Kd.R_slice HR
   subst ev
   have hx2 : w5.cell? ⟨w.heap.size + 1 + 1, 2, none⟩ = some (.slice Av r.length cv) := (blk_cell HG 2).trans rfl
   have hx3 : w5.cell? ⟨w.heap.size, 0, none⟩ = some (.slice none 0 0) := (blk_cell e1 0).trans rfl
   have hx4 : w5.cell? ⟨w.heap.size + 1, 0, none⟩ = some (.int .i64 0) := (blk_cell e2 0).trans rfl
   have hf3 : w5.frozen? ⟨w.heap.size, 0, none⟩ = false := blk_frozen e1 0
   have hf4 : w5.frozen? ⟨w.heap.size + 1, 0, none⟩ = false := blk_frozen e2 0
   have HRx := am HR
   have HBx := am HB
   have E1 := am e1
   have E2 := am e2
   clear hI hpos hB2 d1 d2 hal bd b1' b2' hBl hsz HG HCw HR HB e1 e2 hO
   go_wp2
   refine leaves_cons (f := 29) (args := #[.pointer (some ⟨w.heap.size, 0, none⟩), .pointer (some ⟨w.heap.size + 1, 0, none⟩)]) (by simp) (by simp [go_sem]) ?_
   refine (recover_idle _ _ _).mono ?_
   rintro e u' w'' ⟨rfl, rfl, rfl⟩
   have hne : w.heap.size ≠ w.heap.size + 1 := by omega
   have c1 : Boxed ((w5.setCell ⟨w.heap.size, 0, none⟩ (.slice Av r.length cv)).setCell ⟨w.heap.size + 1, 0, none⟩ (.int .i64 0)) w.heap.size 31 (.slice Av r.length cv) := (Below.heap_setCell _ ⟨w.heap.size + 1, 0, none⟩ _ _ hne).trans (Boxed.set _ (W := w5) (v := .slice none 0 0) E1.out)
   have c2 : Boxed ((w5.setCell ⟨w.heap.size, 0, none⟩ (.slice Av r.length cv)).setCell ⟨w.heap.size + 1, 0, none⟩ (.int .i64 0)) (w.heap.size + 1) 24 (.int .i64 0) := Boxed.set _ (W := w5.setCell ⟨w.heap.size, 0, none⟩ (.slice Av r.length cv)) (v := .int .i64 0) ((Below.heap_setCell _ ⟨w.heap.size, 0, none⟩ _ _ (Ne.symm hne)).trans E2.out)
   have hr1 : Kd.R (Kd.int .u8) 5 (w5.setCell ⟨w.heap.size, 0, none⟩ (.slice Av r.length cv)) w.heap.size (fun _ => True) (.slice Av r.length cv) r := Kd.R_mono (Kd.R_far (p := ⟨w.heap.size, 0, none⟩) (Kd.R_types HRx.out E1.out (by decide)) (fun _ hk => hk.2) _) (fun _ _ => trivial)
   have hr2 : Kd.R (Kd.int .u8) 5 ((w5.setCell ⟨w.heap.size, 0, none⟩ (.slice Av r.length cv)).setCell ⟨w.heap.size + 1, 0, none⟩ (.int .i64 0)) w.heap.size (fun _ => True) (.slice Av r.length cv) r := Kd.R_mono (Kd.R_far (p := ⟨w.heap.size + 1, 0, none⟩) (Kd.R_types hr1 ((Below.heap_setCell _ ⟨w.heap.size, 0, none⟩ _ _ (Ne.symm hne)).trans E2.out) (by decide)) (fun _ hk => hk.2) _) (fun _ _ => trivial)
   exact ⟨_, results_two_cells rfl rfl rfl (Tryd.isAgg31 _) (Tryd.isAgg24 _) c1.cell c2.cell, _, rfl, hr2, below_set (below_set HBx.out (Nat.le_refl _)) (by omega)⟩
end Go.Proofs.YtoadabodhdgdjaaDoor.St
