import Derived.Test.YtoadabodhdgdjaaDoorQStK
import Derived.Test.YtoadabodhdgdjaaDoorQS0
namespace Go.Proofs.YtoadabodhdgdjaaDoor.St
open Go.Proofs.YtoadabodhdgdjaaDoor.S0
open Go.RowKit Go.Shelf Go.Proofs.YtoadabodhdgdjaaDoorW.PrintWords Go.Proofs.YtoadabodhdgdjaaDoorW.PrintLast Go.Proofs.YtoadabodhdgdjaaDoorW.PrintMore Go.Proofs.YtoadabodhdgdjaaDoor.SG Go.Proofs.YtoadabodhdgdjaaDoor.SH Go.Proofs.YtoadabodhdgdjaaDoor.SB
set_option linter.unusedVariables false
set_option linter.unusedSimpArgs false
def stacktext_FromNumeric.f (k : Nat) (l : List Int) : Option (ByteArray × Int) :=
 if l.length > 35184372088832 then none
 else if l.length > 8192 then some (⟨#[]⟩, 4)
 else if l.any pNumeric = true then some (⟨#[]⟩, 3)
 else (stacktext_expanded.f k l).bind fun r => if r.2 = true then some (r.1, 0) else some (⟨#[]⟩, 22)
set_option maxHeartbeats 4000000 in
set_option maxRecDepth 20000 in
theorem stacktext_FromNumeric.calls (k : Nat) (A0 : Option Addr) (c0 : Nat) (l0 : List Int) (r1 : ByteArray) (r2 : Int) (w : World) (hr0 : Kd.C (Kd.int .i64) w A0 l0.length l0) (hc0 : l0.length ≤ c0) (h : stacktext_FromNumeric.f k l0 = some (r1, r2)) :
  Calls Tryd.prog 13 #[.slice A0 l0.length c0] w fun e w' => e = .returned (.tuple #[.string r1, .int .i64 r2]) ∧ Below w.heap.size w w' := by
 unfold stacktext_FromNumeric.f at h
 have eg := enters_of Tryd.func24 (by kernel_rfl) rfl
 by_cases hbig : l0.length > 35184372088832
 ·rw [if_pos hbig] at h; cases h
 rw [if_neg hbig] at h
 have hb2 : l0.length ≤ 9223372036854775806 := by omega
 by_cases hl : l0.length > 8192
 ·rw [if_pos hl] at h
  simp only [Option.some.injEq, Prod.mk.injEq] at h
  obtain ⟨rfl, rfl⟩ := h
  have f1 : decide (8192 < (l0.length : Int)) = true := decide_eq_true (by omega)
  go_enter Tryd.func13, Tryd.ntmps13
  go_wp2
  go_ret2
  exact ⟨rfl, Below.refl _ _⟩
 ·rw [if_neg hl] at h
  have f1 : decide (8192 < (l0.length : Int)) = false := decide_eq_false (by omega)
  have HC := am hr0
  clear hr0
  by_cases ha : l0.any pNumeric = true
  ·rw [if_pos ha] at h
   simp only [Option.some.injEq, Prod.mk.injEq] at h
   obtain ⟨rfl, rfl⟩ := h
   have HA := am ha
   clear ha
   go_enter Tryd.func13, Tryd.ntmps13
   go_wp2_with ((with_reducible refine gate_callee (f := 23) rfl ?_); refine gL (some 12) Tryd.func23 #[.slice A0 l0.length c0, .func (.func 24) #[] #[]] (h := ?_); (refine (slices_ContainsFunc.calls pNumeric 24 #[] eg A0 c0 l0 _ HC.out hb2 (pNumeric_pred _)).mono ?_); rw [HA.out]; rintro e w' ⟨rfl, nd, rfl⟩; refine ⟨_, rfl, ?_⟩; clear eg)
   go_ret2
   exact ⟨rfl, pw_below_drewN (Below.refl _ _) _⟩
  ·rw [if_neg ha] at h
   obtain ⟨⟨s, ok⟩, hx, h⟩ := Option.bind_eq_some_iff.1 h
   have HA := am (Bool.eq_false_iff.mpr ha)
   have HX := am hx
   clear ha hx
   cases ok with
   | true =>
    rw [if_pos rfl] at h
    simp only [Option.some.injEq, Prod.mk.injEq] at h
    obtain ⟨rfl, rfl⟩ := h
    go_enter Tryd.func13, Tryd.ntmps13
    go_wp2_with (first | ((with_reducible refine gate_callee (f := 23) rfl ?_); refine gL (some 12) Tryd.func23 #[.slice A0 l0.length c0, .func (.func 24) #[] #[]] (h := ?_); (refine (slices_ContainsFunc.calls pNumeric 24 #[] eg A0 c0 l0 _ HC.out hb2 (pNumeric_pred _)).mono ?_); rw [HA.out]; rintro e w' ⟨rfl, nd, rfl⟩; refine ⟨_, rfl, ?_⟩; clear eg) | ((with_reducible refine gate_callee (f := 25) rfl ?_); refine gL (some 15) Tryd.func25 #[.slice A0 l0.length c0] (h := ?_); (refine (stacktext_expanded.calls k A0 c0 l0 s true _ (Kd.C_drewN HC.out _) hc0 HX.out).mono ?_); rintro e w3 ⟨rfl, hb⟩; refine ⟨_, rfl, ?_⟩; have HB := am (below_step (pw_below_drewN (Below.refl _ _) nd) hb); clear hb))
    go_ret2
    exact ⟨rfl, HB.out⟩
   | false =>
    rw [if_neg (by simp)] at h
    simp only [Option.some.injEq, Prod.mk.injEq] at h
    obtain ⟨rfl, rfl⟩ := h
    go_enter Tryd.func13, Tryd.ntmps13
    go_wp2_with (first | ((with_reducible refine gate_callee (f := 23) rfl ?_); refine gL (some 12) Tryd.func23 #[.slice A0 l0.length c0, .func (.func 24) #[] #[]] (h := ?_); (refine (slices_ContainsFunc.calls pNumeric 24 #[] eg A0 c0 l0 _ HC.out hb2 (pNumeric_pred _)).mono ?_); rw [HA.out]; rintro e w' ⟨rfl, nd, rfl⟩; refine ⟨_, rfl, ?_⟩; clear eg) | ((with_reducible refine gate_callee (f := 25) rfl ?_); refine gL (some 15) Tryd.func25 #[.slice A0 l0.length c0] (h := ?_); (refine (stacktext_expanded.calls k A0 c0 l0 s false _ (Kd.C_drewN HC.out _) hc0 HX.out).mono ?_); rintro e w3 ⟨rfl, hb⟩; refine ⟨_, rfl, ?_⟩; have HB := am (below_step (pw_below_drewN (Below.refl _ _) nd) hb); clear hb))
    go_ret2
    exact ⟨rfl, HB.out⟩
end Go.Proofs.YtoadabodhdgdjaaDoor.St
