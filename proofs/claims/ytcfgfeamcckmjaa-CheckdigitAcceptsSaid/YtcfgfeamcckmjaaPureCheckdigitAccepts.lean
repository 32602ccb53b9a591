/-
  Checkdigit: the plain law of CheckdigitAccepts: what the walked functions compute answers as the statement says.
-/
import Derived.Test.YtcfgfeamcckmjaaCAccepts2
import Derived.Test.YtcfgfeamcckmjaaChkO
namespace Go.Proofs.Ytcfgfeamcckmjaa.Pure
open Go.RowKit Go.Proofs.Ytcfgfeamcckmjaa.CAccepts Go.Proofs.YtcfgfeamcckmjaaW.PrintWords Go.Proofs.YtcfgfeamcckmjaaW.PrintLast Go.Proofs.YtcfgfeamcckmjaaW.PrintMore Go.Proofs.Ytcfgfeamcckmjaa.Chk
set_option linter.unusedVariables false
set_option linter.unusedSimpArgs false

open Classical in
theorem has_l (t : ByteArray) : ∀ (d k : Nat) (xs : List ByteArray) (i : Nat), xs.length - i = d → d < k → xs.length ≤ 1000000 → i ≤ xs.length →
    barscanlaw09_has.l0 k xs t i = some (decide (t ∈ xs.drop i)) := by
  intro d
  induction d with
  | zero =>
    intro k xs i h1 h2 h3 h4
    obtain ⟨k, rfl⟩ : ∃ m, k = m + 1 := ⟨k - 1, by omega⟩
    simp only [barscanlaw09_has.l0]
    rw [if_neg (by omega), List.drop_eq_nil_of_le (by omega)]
    simp
  | succ d ih =>
    intro k xs i h1 h2 h3 h4
    obtain ⟨k, rfl⟩ : ∃ m, k = m + 1 := ⟨k - 1, by omega⟩
    simp only [barscanlaw09_has.l0]
    have hi : i < xs.length := by omega
    rw [if_pos (by omega), if_pos (by omega), List.drop_eq_getElem_cons hi]
    have e : rdOf ByteArray.empty xs (i : Int) = xs[i] := by
      unfold rdOf
      rw [Int.toNat_natCast, List.getD_eq_getElem?_getD, List.getElem?_eq_getElem hi, Option.getD_some]
    rw [e, w64_in ((i : Int) + 1) (by omega) (by omega)]
    by_cases h : xs[i].toList = t.toList
    · have : t = xs[i] := (toList_inj h).symm
      rw [if_pos h]
      exact congrArg some (decide_eq_true (by rw [this]; exact List.mem_cons_self)).symm
    · have hne : ¬ t = xs[i] := fun e => h (by rw [e])
      rw [if_neg h]
      have := ih k xs (i + 1) (by omega) (by omega) h3 (by omega)
      rw [show ((i : Int) + 1) = ((i + 1 : Nat) : Int) by omega, this]
      exact congrArg some (decide_eq_decide.2 (by rw [List.mem_cons]; exact ⟨Or.inr, fun h => h.resolve_left hne⟩))
open Classical in
theorem has_f (k : Nat) (xs : List ByteArray) (t : ByteArray) (hl : xs.length ≤ 1000000) (hk : xs.length < k) : barscanlaw09_has.f k xs t = some (decide (t ∈ xs)) := by
  unfold barscanlaw09_has.f
  have := has_l t xs.length k xs 0 (by omega) hk hl (by omega)
  simpa using this
theorem gives_f (a : Int) (s c : ByteArray) (hs : s.size ≤ 9223372036854775807) (h : computeS a s = (c, 0)) : barscanlaw09_gives.f a s c = some true := by
  unfold barscanlaw09_gives.f checkdigit_Compute.f
  rw [if_pos hs, h]
  simp
theorem ex_f (k : Nat) (hk : 1001000 ≤ k) : barscanlaw09_exampleHolds.f k = some true := by
  obtain ⟨k, rfl⟩ : ∃ m, k = m + 1 := ⟨k - 1, by omega⟩
  unfold barscanlaw09_exampleHolds.f
  rw [gives_f 1 _ _ (by decide) ex1, gives_f 2 _ _ (by decide) ex2, gives_f 3 _ _ (by decide) ex3, gives_f 4 _ _ (by decide) ex4, gives_f 5 _ _ (by decide) ex5, gives_f 6 _ _ (by decide) ex6, gives_f 7 _ _ (by decide) ex7, gives_f 8 _ _ (by decide) ex8]
  simp only [Option.bind_some, if_true, Bool.not_true]
  have e1 : barscanlaw09_exampleHolds.j0 (k + 1) false = some true := by
    simp only [barscanlaw09_exampleHolds.j0]
    rw [if_neg (by simp)]
    have w1 : checkdigit_Weighted.f (⟨#[49, 50, 51]⟩ : ByteArray) (([1, 3] : List Int)) 10 = some (0, 0) := by
      rw [← exW]; exact if_pos (by decide)
    have w2 : checkdigit_Corrections.f 5 (⟨#[53, 55, 52, 50]⟩ : ByteArray) = some (corrS 5 ⟨#[53, 55, 52, 50]⟩) := by
      unfold checkdigit_Corrections.f; rw [if_pos (by decide)]
    have w3 : checkdigit_Verify.f 6 (⟨#[49, 50, 51, 50, 48]⟩ : ByteArray) = some 0 := by
      unfold checkdigit_Verify.f; rw [if_pos (by decide), exV]
    have w4 : checkdigit_Verify.f 6 (⟨#[49, 50, 51, 50, 49]⟩ : ByteArray) = some 8 := by
      unfold checkdigit_Verify.f; rw [if_pos (by decide), exV']
    have hl : (corrS 5 ⟨#[53, 55, 52, 50]⟩).1.length ≤ 1000000 := by
      have := corr_len 5 ⟨#[53, 55, 52, 50]⟩
      omega
    have h5 := has_f k (corrS 5 ⟨#[53, 55, 52, 50]⟩).1 ⟨#[53, 55, 50, 52]⟩ hl (by omega)
    have h2 := exC2
    have h1 := exC1
    rw [w1, w2, w3, w4]
    simp only [Option.bind_some]
    rw [h2, h5]
    simp [h1]
  rw [e1]
theorem str_one (a : Int) : strOfNums [a] = bs [UInt8.ofNat a.toNat] := rfl
theorem accepts_l (k : Nat) (hk : 1001000 ≤ k) (a0 a2 : Int) (l : List UInt8) : barscanlaw09_CheckdigitAccepts.f k a0 (bs l) a2 = some true := by
  have hx := ex_f k hk
  unfold barscanlaw09_CheckdigitAccepts.f
  rw [bs_size]
  by_cases h : (l.length : Int) > 300
  · rw [if_pos h, hx]; rfl
  rw [if_neg h, hx]
  have e1 : checkdigit_Append.f a0 (bs l) = some (appendS a0 (bs l)) := by unfold checkdigit_Append.f; rw [if_pos (by rw [bs_size]; omega)]
  rw [e1]
  simp only [Option.bind_some]
  by_cases he : (appendS a0 (bs l)).2 = 0
  case neg =>
    rw [if_neg he, append_err _ _ he, if_pos (by rw [ByteArray.toList_eq]; rfl)]
  obtain ⟨g1, g2, g3, g4, g5, g6⟩ := append_zero _ _ he
  rw [bs_data] at g3 g6
  rw [bs_size] at g2 g4 g5
  have hlen : (checkL a0 (bs l)).length = sizeS a0 := by rw [check_out a0 g1, out_len a0 g1]
  have o : Ok a0 l := ⟨g1, g2, g3, g4, by rw [← hlen]; exact g5⟩
  rw [if_pos he, g6]
  have hs : sizeS a0 = 1 ∨ sizeS a0 = 2 := by unfold sizeS; split <;> omega
  obtain ⟨E, z, hE⟩ : ∃ E z, checkL a0 (bs l) = E ++ [z] := by
    rcases List.eq_nil_or_concat (checkL a0 (bs l)) with h | ⟨D, c, h⟩
    · rw [h] at hlen; simp at hlen; omega
    · exact ⟨D, c, by rw [h, List.concat_eq_append]⟩
  have hE1 : E.length + 1 = sizeS a0 := by rw [← hlen, hE]; simp
  have hv := verify_append o
  rw [hE] at hv ⊢
  have hn : (bs (l ++ (E ++ [z]))).size = l.length + E.length + 1 := by rw [bs_size]; simp; omega
  have hw : wrap64 (((l.length + E.length + 1 : Nat) : Int) - 1) = ((l.length + E.length : Nat) : Int) := by rw [w64_in _ (by omega) (by omega)]; omega
  rw [hn, hw, if_neg (by omega), if_pos (by omega), if_pos (by omega), Int.toNat_natCast, str_one]
  have hx1 : (bs (l ++ (E ++ [z]))).extract 0 (l.length + E.length) = bs (l ++ E) := by
    rw [bs_ext, List.drop_zero, ← List.append_assoc]
    congr 1
    rw [show l.length + E.length = (l ++ E).length by simp]
    exact List.take_left
  rw [hx1, bs_app, bs_size]
  have hvf : ∀ t : ByteArray, t.size ≤ 5000 → checkdigit_Verify.f a0 t = some (verifyS a0 t) := fun t ht => by unfold checkdigit_Verify.f; rw [if_pos (by omega)]
  rw [if_pos (by rw [bs_size]; simp; omega), hvf _ (by rw [hn]; omega), hvf _ (by rw [bs_size]; simp; omega), hv]
  simp only [Option.bind_some]
  generalize UInt8.ofNat a2.toNat = c
  have key : verifyS a0 (bs (l ++ E ++ [c])) = 0 ↔ bs (l ++ E ++ [c]) = bs (l ++ (E ++ [z])) := by
    constructor
    · intro h
      rw [List.append_assoc, verify_zero a0 l (E ++ [c]) (by rw [← hE1]; simp)] at h
      have := h.2.2.2.2.2
      rw [hE] at this
      rw [List.append_assoc, ← this]
    · intro h
      rw [h]; exact hv
  have kb : ((verifyS a0 (bs (l ++ E ++ [c])) == 0) == ((bs (l ++ E ++ [c])).toList == (bs (l ++ (E ++ [z]))).toList)) = true := by
    rw [beq_iff_eq, Bool.eq_iff_iff, beq_iff_eq, beq_iff_eq, key]
    exact ⟨fun h => by rw [h], fun h => toList_inj h⟩
  rw [if_pos trivial, kb, if_pos rfl]
theorem CheckdigitAccepts : barscanlaw09_CheckdigitAccepts.Pure := by
  intro a0 a1 a2 h0 h1 h2
  refine ⟨1001000, ?_⟩
  have := accepts_l 1001000 (by omega) a0 a2 a1.data.toList
  rwa [bs_of] at this

end Go.Proofs.Ytcfgfeamcckmjaa.Pure
