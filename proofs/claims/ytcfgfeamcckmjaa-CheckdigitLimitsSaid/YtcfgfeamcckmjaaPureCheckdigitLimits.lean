/-
  Checkdigit: the plain law of CheckdigitLimits: what the walked functions compute answers as the statement says.
-/
import Derived.Test.YtcfgfeamcckmjaaCLimits1
import Derived.Test.YtcfgfeamcckmjaaChkV
namespace Go.Proofs.Ytcfgfeamcckmjaa.Pure
open Go.RowKit Go.Proofs.Ytcfgfeamcckmjaa.CLimits Go.Proofs.YtcfgfeamcckmjaaW.PrintWords Go.Proofs.YtcfgfeamcckmjaaW.PrintLast Go.Proofs.YtcfgfeamcckmjaaW.PrintMore Go.Proofs.Ytcfgfeamcckmjaa.Chk
set_option linter.unusedVariables false
set_option linter.unusedSimpArgs false

open Classical in
theorem has_l (t : ByteArray) : ∀ (d k : Nat) (xs : List ByteArray) (i : Nat), xs.length - i = d → d < k → xs.length ≤ 1000000 → i ≤ xs.length →
    barscanlaw09_has.l0 k xs t i = some (decide (t ∈ xs.drop i)) := by
  intro d
  induction d with
  | zero =>
    intro k xs i h1 h2 h3 h4
    obtain ⟨k, rfl⟩ : ∃ m, k = m + 1 := ⟨k - 1, by omega⟩
    simp only [barscanlaw09_has.l0]
    rw [if_neg (by omega), List.drop_eq_nil_of_le (by omega)]
    simp
  | succ d ih =>
    intro k xs i h1 h2 h3 h4
    obtain ⟨k, rfl⟩ : ∃ m, k = m + 1 := ⟨k - 1, by omega⟩
    simp only [barscanlaw09_has.l0]
    have hi : i < xs.length := by omega
    rw [if_pos (by omega), if_pos (by omega), List.drop_eq_getElem_cons hi]
    have e : rdOf ByteArray.empty xs (i : Int) = xs[i] := by
      unfold rdOf
      rw [Int.toNat_natCast, List.getD_eq_getElem?_getD, List.getElem?_eq_getElem hi, Option.getD_some]
    rw [e, w64_in ((i : Int) + 1) (by omega) (by omega)]
    by_cases h : xs[i].toList = t.toList
    · have : t = xs[i] := (toList_inj h).symm
      rw [if_pos h]
      exact congrArg some (decide_eq_true (by rw [this]; exact List.mem_cons_self)).symm
    · have hne : ¬ t = xs[i] := fun e => h (by rw [e])
      rw [if_neg h]
      have := ih k xs (i + 1) (by omega) (by omega) h3 (by omega)
      rw [show ((i : Int) + 1) = ((i + 1 : Nat) : Int) by omega, this]
      exact congrArg some (decide_eq_decide.2 (by rw [List.mem_cons]; exact ⟨Or.inr, fun h => h.resolve_left hne⟩))
open Classical in
theorem has_f (k : Nat) (xs : List ByteArray) (t : ByteArray) (hl : xs.length ≤ 1000000) (hk : xs.length < k) : barscanlaw09_has.f k xs t = some (decide (t ∈ xs)) := by
  unfold barscanlaw09_has.f
  have := has_l t xs.length k xs 0 (by omega) hk hl (by omega)
  simpa using this
theorem gives_f (a : Int) (s c : ByteArray) (hs : s.size ≤ 9223372036854775807) (h : computeS a s = (c, 0)) : barscanlaw09_gives.f a s c = some true := by
  unfold barscanlaw09_gives.f checkdigit_Compute.f
  rw [if_pos hs, h]
  simp
theorem ex_f (k : Nat) (hk : 1001000 ≤ k) : barscanlaw09_exampleHolds.f k = some true := by
  obtain ⟨k, rfl⟩ : ∃ m, k = m + 1 := ⟨k - 1, by omega⟩
  unfold barscanlaw09_exampleHolds.f
  rw [gives_f 1 _ _ (by decide) ex1, gives_f 2 _ _ (by decide) ex2, gives_f 3 _ _ (by decide) ex3, gives_f 4 _ _ (by decide) ex4, gives_f 5 _ _ (by decide) ex5, gives_f 6 _ _ (by decide) ex6, gives_f 7 _ _ (by decide) ex7, gives_f 8 _ _ (by decide) ex8]
  simp only [Option.bind_some, if_true, Bool.not_true]
  have e1 : barscanlaw09_exampleHolds.j0 (k + 1) false = some true := by
    simp only [barscanlaw09_exampleHolds.j0]
    rw [if_neg (by simp)]
    have w1 : checkdigit_Weighted.f (⟨#[49, 50, 51]⟩ : ByteArray) (([1, 3] : List Int)) 10 = some (0, 0) := by
      rw [← exW]; exact if_pos (by decide)
    have w2 : checkdigit_Corrections.f 5 (⟨#[53, 55, 52, 50]⟩ : ByteArray) = some (corrS 5 ⟨#[53, 55, 52, 50]⟩) := by
      unfold checkdigit_Corrections.f; rw [if_pos (by decide)]
    have w3 : checkdigit_Verify.f 6 (⟨#[49, 50, 51, 50, 48]⟩ : ByteArray) = some 0 := by
      unfold checkdigit_Verify.f; rw [if_pos (by decide), exV]
    have w4 : checkdigit_Verify.f 6 (⟨#[49, 50, 51, 50, 49]⟩ : ByteArray) = some 8 := by
      unfold checkdigit_Verify.f; rw [if_pos (by decide), exV']
    have hl : (corrS 5 ⟨#[53, 55, 52, 50]⟩).1.length ≤ 1000000 := by
      have := corr_len 5 ⟨#[53, 55, 52, 50]⟩
      omega
    have h5 := has_f k (corrS 5 ⟨#[53, 55, 52, 50]⟩).1 ⟨#[53, 55, 50, 52]⟩ hl (by omega)
    have h2 := exC2
    have h1 := exC1
    rw [w1, w2, w3, w4]
    simp only [Option.bind_some]
    rw [h2, h5]
    simp [h1]
  rw [e1]
theorem u16_range (a : Int) (h : (Lit.int .u16 a).wf = true) : 0 ≤ a ∧ a ≤ 65535 := by
  simp only [Lit.wf, IntKind.min, IntKind.max, IntKind.signed, IntKind.bits, Bool.and_eq_true, decide_eq_true_eq] at h
  simp at h
  omega
theorem zs_weigh (n : Nat) : (weighS (zs n) [1] 10).2 = if 4096 < n then 4 else 0 := by
  unfold weighS
  rw [if_neg (by omega), if_neg (by simp), zs_size]
  by_cases h : 4096 < n
  · rw [if_pos h, if_pos h]
  · have hw : withinB (zs n) alpha10 = true := by
      unfold withinB zs
      rw [List.all_eq_true]
      intro b hb
      have hb : b ∈ List.replicate n (48 : UInt8) := hb
      rw [List.eq_of_mem_replicate hb]
      decide
    rw [if_neg h, if_neg h, hw, if_neg (by simp)]
theorem CheckdigitLimits : barscanlaw09_CheckdigitLimits.Pure := by
  intro a0 a1 h0 h1
  refine ⟨1001000, ?_⟩
  have hx := ex_f 1001000 (by omega)
  obtain ⟨n, hn, hb1, hb2⟩ : ∃ n : Nat, wrap64 (4090 + (wrap64 (Int.tmod a1 12))) = (n : Int) ∧ 4090 ≤ n ∧ n ≤ 4101 := by
    have hr := u16_range a1 h1
    rw [Int.tmod_eq_emod_of_nonneg hr.1, w64_in (a1 % 12) (by omega) (by omega), w64_in _ (by omega) (by omega)]
    exact ⟨(4090 + a1 % 12).toNat, by omega, by omega, by omega⟩
  unfold barscanlaw09_CheckdigitLimits.f
  rw [hn]
  clear hn
  have hz := zs_size n
  have e0 : barscanlaw09_long.f (n : Int) = some (zs n) := by unfold barscanlaw09_long.f; rw [if_pos (by omega), Int.toNat_natCast]
  have e3 : checkdigit_Compute.f a0 (zs n) = some (computeS a0 (zs n)) := by unfold checkdigit_Compute.f; rw [if_pos (by omega)]
  have e4 : barscanref09_Compute.f a0 (zs n) = some (computeS a0 (zs n)) := by unfold barscanref09_Compute.f; rw [if_pos (by omega)]
  have e5 : checkdigit_Append.f a0 (zs n) = some (appendS a0 (zs n)) := by unfold checkdigit_Append.f; rw [if_pos (by omega)]
  have e6 : barscanref09_Append.f a0 (zs n) = some (appendS a0 (zs n)) := by unfold barscanref09_Append.f; rw [if_pos (by omega)]
  have e7 : checkdigit_Verify.f a0 (zs n) = some (verifyS a0 (zs n)) := by unfold checkdigit_Verify.f; rw [if_pos (by omega)]
  have e8 : barscanref09_Verify.f a0 (zs n) = some (verifyS a0 (zs n)) := by unfold barscanref09_Verify.f; rw [if_pos (by omega)]
  have e9 : checkdigit_Weighted.f (zs n) [1] 10 = some (weighS (zs n) [1] 10) := by unfold checkdigit_Weighted.f; rw [if_pos (by omega)]
  have hw := zs_weigh n
  have f1 : (((weighS (zs n) [1] 10).2 == 4) == (decide ((n : Int) > 4096))) = true := by
    rw [hw, beq_iff_eq, Bool.eq_iff_iff, beq_iff_eq, decide_eq_true_iff]
    split <;> omega
  have f2 : (((weighS (zs n) [1] 10).2 == 0) == (decide ((n : Int) ≤ 4096))) = true := by
    rw [hw, beq_iff_eq, Bool.eq_iff_iff, beq_iff_eq, decide_eq_true_iff]
    split <;> omega
  rw [e0]
  simp only [Option.bind_some]
  rw [e3, e5, e9, e4, e6]
  simp only [Option.bind_some]
  rw [if_pos trivial, if_pos trivial, f1, f2, if_pos rfl, if_pos rfl, e7, e8, hx]
  simp

end Go.Proofs.Ytcfgfeamcckmjaa.Pure
