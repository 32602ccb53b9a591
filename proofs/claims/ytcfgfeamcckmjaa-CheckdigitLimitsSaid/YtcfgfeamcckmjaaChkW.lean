/-
  Checkdigit: the reference's Append, as a contract in the print's form.
-/
import Derived.Test.YtcfgfeamcckmjaaChkU
namespace Go.Proofs.Ytcfgfeamcckmjaa.Chk
open Go.RowKit Go.Proofs.YtcfgfeamcckmjaaW.PrintWords Go.Proofs.YtcfgfeamcckmjaaW.PrintLast Go.Proofs.YtcfgfeamcckmjaaW.PrintMore
set_option linter.unusedVariables false
set_option linter.unusedSimpArgs false

set_option maxHeartbeats 1000000 in
set_option maxRecDepth 20000 in
theorem refappend_any (k : Int) (s : ByteArray) (w : World) (hm : s.size ≤ 140737488351232) : Calls Try.prog 25 #[.int .i64 k, .string s] w fun e w' => e = .returned (.tuple #[.string (appendS k s).1, .int .i64 (appendS k s).2]) ∧ Drawn0 w w' := by
  have hf : barscanref09_Compute.f k s = some ((computeS k s).1, (computeS k s).2) := by unfold barscanref09_Compute.f; rw [if_pos (by omega)]
  have hl := compute_len k s
  by_cases he : (computeS k s).2 = 0
  · have hb : ((computeS k s).2 == 0) = true := beq_iff_eq.mpr he
    have hb' : ((computeS k s).2 != 0) = false := bne_eq_false_iff_eq.mpr he
    by_cases h4 : 4096 < s.size + (computeS k s).1.size
    · have e : appendS k s = (ByteArray.empty, 4) := by unfold appendS; rw [if_neg (fun h => h he), if_pos h4]
      rw [e]; clear e he
      generalize (computeS k s).1 = c at *
      generalize (computeS k s).2 = d at *
      go_enter Try.func25, Try.ntmps25
      go_wp2_with (go_at_call 24; refine (barscanref09_Compute.calls k s c d _ hf).mono ?_; rintro e w1 ⟨rfl, hb1⟩)
      go_ret2
      exact ⟨rfl, hb1⟩
    · have e : appendS k s = (s ++ (computeS k s).1, 0) := by unfold appendS; rw [if_neg (fun h => h he), if_neg h4]
      rw [e]; clear e he
      generalize (computeS k s).1 = c at *
      generalize (computeS k s).2 = d at *
      go_enter Try.func25, Try.ntmps25
      go_wp2_with (go_at_call 24; refine (barscanref09_Compute.calls k s c d _ hf).mono ?_; rintro e w1 ⟨rfl, hb1⟩)
      go_ret2
      exact ⟨rfl, hb1⟩
  · have hb : ((computeS k s).2 == 0) = false := beq_eq_false_iff_ne.mpr he
    have hb' : ((computeS k s).2 != 0) = true := bne_iff_ne.mpr he
    have e : appendS k s = (ByteArray.empty, (computeS k s).2) := by unfold appendS; rw [if_pos he]
    rw [e]; clear e he
    generalize (computeS k s).1 = c at *
    generalize (computeS k s).2 = d at *
    go_enter Try.func25, Try.ntmps25
    go_wp2_with (go_at_call 24; refine (barscanref09_Compute.calls k s c d _ hf).mono ?_; rintro e w1 ⟨rfl, hb1⟩)
    go_ret2
    exact ⟨rfl, hb1⟩
def barscanref09_Append.f (a0 : Int) (a1 : ByteArray) : Option (ByteArray × Int) := if a1.size ≤ 140737488351232 then some (appendS a0 a1) else none
theorem barscanref09_Append.calls (a0 : Int) (a1 : ByteArray) (r1 : ByteArray) (r2 : Int) (w : World) (h : barscanref09_Append.f a0 a1 = some (r1, r2)) :
    Calls Try.prog 25 #[.int .i64 a0, .string a1] w fun e w' => e = .returned (.tuple #[.string r1, .int .i64 r2]) ∧ Drawn0 w w' := by
  unfold barscanref09_Append.f at h
  by_cases hm : a1.size ≤ 140737488351232
  · rw [if_pos hm] at h
    have h := Option.some.inj h
    rw [show r1 = (appendS a0 a1).1 by rw [h], show r2 = (appendS a0 a1).2 by rw [h]]
    exact refappend_any a0 a1 w hm
  · rw [if_neg hm] at h; cases h
end Go.Proofs.Ytcfgfeamcckmjaa.Chk
