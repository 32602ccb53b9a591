/-
  Checkdigit: the plain law of CheckdigitCorrects: what the walked functions compute answers as the statement says.
-/
import Derived.Test.YtcfgfeamcckmjaaCCorrects1
import Derived.Test.YtcfgfeamcckmjaaChkV
namespace Go.Proofs.Ytcfgfeamcckmjaa.Pure
open Go.RowKit Go.Proofs.Ytcfgfeamcckmjaa.CCorrects Go.Proofs.YtcfgfeamcckmjaaW.PrintWords Go.Proofs.YtcfgfeamcckmjaaW.PrintLast Go.Proofs.YtcfgfeamcckmjaaW.PrintMore Go.Proofs.Ytcfgfeamcckmjaa.Chk
set_option linter.unusedVariables false
set_option linter.unusedSimpArgs false

open Classical in
theorem has_l (t : ByteArray) : ∀ (d k : Nat) (xs : List ByteArray) (i : Nat), xs.length - i = d → d < k → xs.length ≤ 1000000 → i ≤ xs.length →
    barscanlaw09_has.l0 k xs t i = some (decide (t ∈ xs.drop i)) := by
  intro d
  induction d with
  | zero =>
    intro k xs i h1 h2 h3 h4
    obtain ⟨k, rfl⟩ : ∃ m, k = m + 1 := ⟨k - 1, by omega⟩
    simp only [barscanlaw09_has.l0]
    rw [if_neg (by omega), List.drop_eq_nil_of_le (by omega)]
    simp
  | succ d ih =>
    intro k xs i h1 h2 h3 h4
    obtain ⟨k, rfl⟩ : ∃ m, k = m + 1 := ⟨k - 1, by omega⟩
    simp only [barscanlaw09_has.l0]
    have hi : i < xs.length := by omega
    rw [if_pos (by omega), if_pos (by omega), List.drop_eq_getElem_cons hi]
    have e : rdOf ByteArray.empty xs (i : Int) = xs[i] := by
      unfold rdOf
      rw [Int.toNat_natCast, List.getD_eq_getElem?_getD, List.getElem?_eq_getElem hi, Option.getD_some]
    rw [e, w64_in ((i : Int) + 1) (by omega) (by omega)]
    by_cases h : xs[i].toList = t.toList
    · have : t = xs[i] := (toList_inj h).symm
      rw [if_pos h]
      exact congrArg some (decide_eq_true (by rw [this]; exact List.mem_cons_self)).symm
    · have hne : ¬ t = xs[i] := fun e => h (by rw [e])
      rw [if_neg h]
      have := ih k xs (i + 1) (by omega) (by omega) h3 (by omega)
      rw [show ((i : Int) + 1) = ((i + 1 : Nat) : Int) by omega, this]
      exact congrArg some (decide_eq_decide.2 (by rw [List.mem_cons]; exact ⟨Or.inr, fun h => h.resolve_left hne⟩))
open Classical in
theorem has_f (k : Nat) (xs : List ByteArray) (t : ByteArray) (hl : xs.length ≤ 1000000) (hk : xs.length < k) : barscanlaw09_has.f k xs t = some (decide (t ∈ xs)) := by
  unfold barscanlaw09_has.f
  have := has_l t xs.length k xs 0 (by omega) hk hl (by omega)
  simpa using this
theorem gives_f (a : Int) (s c : ByteArray) (hs : s.size ≤ 9223372036854775807) (h : computeS a s = (c, 0)) : barscanlaw09_gives.f a s c = some true := by
  unfold barscanlaw09_gives.f checkdigit_Compute.f
  rw [if_pos hs, h]
  simp
theorem ex_f (k : Nat) (hk : 1001000 ≤ k) : barscanlaw09_exampleHolds.f k = some true := by
  obtain ⟨k, rfl⟩ : ∃ m, k = m + 1 := ⟨k - 1, by omega⟩
  unfold barscanlaw09_exampleHolds.f
  rw [gives_f 1 _ _ (by decide) ex1, gives_f 2 _ _ (by decide) ex2, gives_f 3 _ _ (by decide) ex3, gives_f 4 _ _ (by decide) ex4, gives_f 5 _ _ (by decide) ex5, gives_f 6 _ _ (by decide) ex6, gives_f 7 _ _ (by decide) ex7, gives_f 8 _ _ (by decide) ex8]
  simp only [Option.bind_some, if_true, Bool.not_true]
  have e1 : barscanlaw09_exampleHolds.j0 (k + 1) false = some true := by
    simp only [barscanlaw09_exampleHolds.j0]
    rw [if_neg (by simp)]
    have w1 : checkdigit_Weighted.f (⟨#[49, 50, 51]⟩ : ByteArray) (([1, 3] : List Int)) 10 = some (0, 0) := by
      rw [← exW]; exact if_pos (by decide)
    have w2 : checkdigit_Corrections.f 5 (⟨#[53, 55, 52, 50]⟩ : ByteArray) = some (corrS 5 ⟨#[53, 55, 52, 50]⟩) := by
      unfold checkdigit_Corrections.f; rw [if_pos (by decide)]
    have w3 : checkdigit_Verify.f 6 (⟨#[49, 50, 51, 50, 48]⟩ : ByteArray) = some 0 := by
      unfold checkdigit_Verify.f; rw [if_pos (by decide), exV]
    have w4 : checkdigit_Verify.f 6 (⟨#[49, 50, 51, 50, 49]⟩ : ByteArray) = some 8 := by
      unfold checkdigit_Verify.f; rw [if_pos (by decide), exV']
    have hl : (corrS 5 ⟨#[53, 55, 52, 50]⟩).1.length ≤ 1000000 := by
      have := corr_len 5 ⟨#[53, 55, 52, 50]⟩
      omega
    have h5 := has_f k (corrS 5 ⟨#[53, 55, 52, 50]⟩).1 ⟨#[53, 55, 50, 52]⟩ hl (by omega)
    have h2 := exC2
    have h1 := exC1
    rw [w1, w2, w3, w4]
    simp only [Option.bind_some]
    rw [h2, h5]
    simp [h1]
  rw [e1]
theorem same_l (xs : List ByteArray) (hs : xs.length ≤ 1000000) : ∀ (d k i : Nat), xs.length - i = d → i ≤ xs.length → 1001000 + d < k → barscanlaw09_CheckdigitCorrects.l0 k xs xs i = some true := by
  intro d
  induction d with
  | zero =>
    intro k i h1 h2 h3
    obtain ⟨k, rfl⟩ : ∃ m, k = m + 1 := ⟨k - 1, by omega⟩
    simp only [barscanlaw09_CheckdigitCorrects.l0]
    rw [if_neg (by omega), ex_f k (by omega)]; rfl
  | succ d ih =>
    intro k i h1 h2 h3
    obtain ⟨k, rfl⟩ : ∃ m, k = m + 1 := ⟨k - 1, by omega⟩
    simp only [barscanlaw09_CheckdigitCorrects.l0]
    rw [if_pos (by omega), if_pos (by omega), if_pos (by omega), if_pos trivial, w64_in ((i : Int) + 1) (by omega) (by omega)]
    exact ih k (i + 1) (by omega) (by omega) (by omega)
theorem CheckdigitCorrects : barscanlaw09_CheckdigitCorrects.Pure := by
  intro a0 a1 h0 h1
  refine ⟨1100000, ?_⟩
  have hx := ex_f 1100000 (by omega)
  unfold barscanlaw09_CheckdigitCorrects.f
  by_cases h : (a1.size : Int) > 24
  · rw [if_pos h, hx]; rfl
  · rw [if_neg h]
    have e1 : checkdigit_Corrections.f a0 a1 = some (corrS a0 a1) := by unfold checkdigit_Corrections.f; rw [if_pos (by omega)]
    have e2 : barscanref09_Corrections.f a0 a1 = some (corrS a0 a1) := by unfold barscanref09_Corrections.f; rw [if_pos (by omega)]
    rw [e1, e2]
    simp only [Option.bind_some]
    have hl := corr_len a0 a1
    rw [if_pos trivial, show (((corrS a0 a1).1.length : Int) != ((corrS a0 a1).1.length : Int)) = false by simp]
    rw [barscanlaw09_CheckdigitCorrects.j0, if_neg (by simp)]
    exact same_l (corrS a0 a1).1 (by omega) _ _ 0 rfl (by omega) (by omega)

end Go.Proofs.Ytcfgfeamcckmjaa.Pure
