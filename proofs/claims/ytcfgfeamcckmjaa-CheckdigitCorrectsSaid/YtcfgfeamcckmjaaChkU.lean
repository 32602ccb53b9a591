/-
  Checkdigit: Append, the reference's functions, and 'long', as contracts in the print's form.
-/
import Derived.Test.YtcfgfeamcckmjaaChkT
namespace Go.Proofs.Ytcfgfeamcckmjaa.Chk
open Go.RowKit Go.Proofs.YtcfgfeamcckmjaaW.PrintWords Go.Proofs.YtcfgfeamcckmjaaW.PrintLast Go.Proofs.YtcfgfeamcckmjaaW.PrintMore
set_option linter.unusedVariables false
set_option linter.unusedSimpArgs false

def barscanref09_Size.f (a0 : Int) : Option (Int × Int) := some (sizeE a0)
theorem barscanref09_Size.calls (a0 : Int) (r1 r2 : Int) (w : World) (h : barscanref09_Size.f a0 = some (r1, r2)) :
    Calls Try.prog 30 #[.int .i64 a0] w fun e w' => e = .returned (.tuple #[.int .i64 r1, .int .i64 r2]) ∧ Drawn0 w w' :=
  PB.barscanref09_Size.calls 1 a0 r1 r2 w ((ref_Size a0 1 (by omega)).trans h)
def barscanref09_Verify.f (a0 : Int) (a1 : ByteArray) : Option Int := if a1.size ≤ 9223372036854775807 then some (verifyS a0 a1) else none
theorem barscanref09_Verify.calls (a0 : Int) (a1 : ByteArray) (r : Int) (w : World) (h : barscanref09_Verify.f a0 a1 = some r) :
    Calls Try.prog 14 #[.int .i64 a0, .string a1] w fun e w' => e = .returned (.int .i64 r) ∧ Drawn0 w w' := by
  unfold barscanref09_Verify.f at h
  by_cases hm : a1.size ≤ 9223372036854775807
  · rw [if_pos hm] at h
    exact PB.barscanref09_Verify.calls 60000 a0 a1 r w ((ref_Verify a0 a1 hm 60000 (by omega)).trans h)
  · rw [if_neg hm] at h; cases h
def barscanref09_Compute.f (a0 : Int) (a1 : ByteArray) : Option (ByteArray × Int) := if a1.size ≤ 9223372036854775807 then some (computeS a0 a1) else none
theorem barscanref09_Compute.calls (a0 : Int) (a1 : ByteArray) (r1 : ByteArray) (r2 : Int) (w : World) (h : barscanref09_Compute.f a0 a1 = some (r1, r2)) :
    Calls Try.prog 24 #[.int .i64 a0, .string a1] w fun e w' => e = .returned (.tuple #[.string r1, .int .i64 r2]) ∧ Drawn0 w w' := by
  unfold barscanref09_Compute.f at h
  by_cases hm : a1.size ≤ 9223372036854775807
  · rw [if_pos hm] at h
    exact PB.barscanref09_Compute.calls 60000 a0 a1 r1 r2 w ((ref_Compute a0 a1 hm 60000 (by omega)).trans h)
  · rw [if_neg hm] at h; cases h

theorem checkL_len (k : Int) (s : ByteArray) : (checkL k s).length ≤ 2 := by
  unfold checkL; repeat' split
  all_goals simp
theorem compute_len (k : Int) (s : ByteArray) : (computeS k s).1.size ≤ 2 := by
  unfold computeS
  have h := checkL_len k s
  repeat' split
  all_goals first | exact Nat.zero_le _ | skip
  show (checkL k s).toArray.size ≤ 2
  simpa using h

set_option maxHeartbeats 1000000 in
set_option maxRecDepth 20000 in
theorem append_any (k : Int) (s : ByteArray) (w : World) (hm : s.size ≤ 140737488351232) : Calls Try.prog 23 #[.int .i64 k, .string s] w fun e w' => e = .returned (.tuple #[.string (appendS k s).1, .int .i64 (appendS k s).2]) ∧ Below w.heap.size w w' := by
  have hf : checkdigit_Compute.f k s = some ((computeS k s).1, (computeS k s).2) := by unfold checkdigit_Compute.f; rw [if_pos (by omega)]
  have hl := compute_len k s
  by_cases he : (computeS k s).2 = 0
  · have hb : ((computeS k s).2 == 0) = true := beq_iff_eq.mpr he
    have hb' : ((computeS k s).2 != 0) = false := bne_eq_false_iff_eq.mpr he
    by_cases h4 : 4096 < s.size + (computeS k s).1.size
    · have e : appendS k s = (ByteArray.empty, 4) := by unfold appendS; rw [if_neg (fun h => h he), if_pos h4]
      rw [e]; clear e he
      generalize (computeS k s).1 = c at *
      generalize (computeS k s).2 = d at *
      go_enter Try.func23, Try.ntmps23
      go_wp2_with (go_at_call 22; refine (checkdigit_Compute.calls k s c d _ hf).mono ?_; rintro e w1 ⟨rfl, hb1⟩)
      go_ret2
      exact ⟨rfl, hb1⟩
    · have e : appendS k s = (s ++ (computeS k s).1, 0) := by unfold appendS; rw [if_neg (fun h => h he), if_neg h4]
      rw [e]; clear e he
      generalize (computeS k s).1 = c at *
      generalize (computeS k s).2 = d at *
      go_enter Try.func23, Try.ntmps23
      go_wp2_with (go_at_call 22; refine (checkdigit_Compute.calls k s c d _ hf).mono ?_; rintro e w1 ⟨rfl, hb1⟩)
      go_ret2
      exact ⟨rfl, hb1⟩
  · have hb : ((computeS k s).2 == 0) = false := beq_eq_false_iff_ne.mpr he
    have hb' : ((computeS k s).2 != 0) = true := bne_iff_ne.mpr he
    have e : appendS k s = (ByteArray.empty, (computeS k s).2) := by unfold appendS; rw [if_pos he]
    rw [e]; clear e he
    generalize (computeS k s).1 = c at *
    generalize (computeS k s).2 = d at *
    go_enter Try.func23, Try.ntmps23
    go_wp2_with (go_at_call 22; refine (checkdigit_Compute.calls k s c d _ hf).mono ?_; rintro e w1 ⟨rfl, hb1⟩)
    go_ret2
    exact ⟨rfl, hb1⟩
def checkdigit_Append.f (a0 : Int) (a1 : ByteArray) : Option (ByteArray × Int) := if a1.size ≤ 140737488351232 then some (appendS a0 a1) else none
theorem checkdigit_Append.calls (a0 : Int) (a1 : ByteArray) (r1 : ByteArray) (r2 : Int) (w : World) (h : checkdigit_Append.f a0 a1 = some (r1, r2)) :
    Calls Try.prog 23 #[.int .i64 a0, .string a1] w fun e w' => e = .returned (.tuple #[.string r1, .int .i64 r2]) ∧ Below w.heap.size w w' := by
  unfold checkdigit_Append.f at h
  by_cases hm : a1.size ≤ 140737488351232
  · rw [if_pos hm] at h
    have h := Option.some.inj h
    rw [show r1 = (appendS a0 a1).1 by rw [h], show r2 = (appendS a0 a1).2 by rw [h]]
    exact append_any a0 a1 w hm
  · rw [if_neg hm] at h; cases h
end Go.Proofs.Ytcfgfeamcckmjaa.Chk
