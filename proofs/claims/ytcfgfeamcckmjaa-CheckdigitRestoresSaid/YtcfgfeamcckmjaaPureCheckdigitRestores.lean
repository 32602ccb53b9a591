/-
  Checkdigit: the plain law of CheckdigitRestores: what the walked functions compute answers as the statement says.
-/
import Derived.Test.YtcfgfeamcckmjaaCRestores2
import Derived.Test.YtcfgfeamcckmjaaChkO
namespace Go.Proofs.Ytcfgfeamcckmjaa.Pure
open Go.RowKit Go.Proofs.Ytcfgfeamcckmjaa.CRestores Go.Proofs.YtcfgfeamcckmjaaW.PrintWords Go.Proofs.YtcfgfeamcckmjaaW.PrintLast Go.Proofs.YtcfgfeamcckmjaaW.PrintMore Go.Proofs.Ytcfgfeamcckmjaa.Chk
set_option linter.unusedVariables false
set_option linter.unusedSimpArgs false

open Classical in
theorem has_l (t : ByteArray) : ∀ (d k : Nat) (xs : List ByteArray) (i : Nat), xs.length - i = d → d < k → xs.length ≤ 1000000 → i ≤ xs.length →
    barscanlaw09_has.l0 k xs t i = some (decide (t ∈ xs.drop i)) := by
  intro d
  induction d with
  | zero =>
    intro k xs i h1 h2 h3 h4
    obtain ⟨k, rfl⟩ : ∃ m, k = m + 1 := ⟨k - 1, by omega⟩
    simp only [barscanlaw09_has.l0]
    rw [if_neg (by omega), List.drop_eq_nil_of_le (by omega)]
    simp
  | succ d ih =>
    intro k xs i h1 h2 h3 h4
    obtain ⟨k, rfl⟩ : ∃ m, k = m + 1 := ⟨k - 1, by omega⟩
    simp only [barscanlaw09_has.l0]
    have hi : i < xs.length := by omega
    rw [if_pos (by omega), if_pos (by omega), List.drop_eq_getElem_cons hi]
    have e : rdOf ByteArray.empty xs (i : Int) = xs[i] := by
      unfold rdOf
      rw [Int.toNat_natCast, List.getD_eq_getElem?_getD, List.getElem?_eq_getElem hi, Option.getD_some]
    rw [e, w64_in ((i : Int) + 1) (by omega) (by omega)]
    by_cases h : xs[i].toList = t.toList
    · have : t = xs[i] := (toList_inj h).symm
      rw [if_pos h]
      exact congrArg some (decide_eq_true (by rw [this]; exact List.mem_cons_self)).symm
    · have hne : ¬ t = xs[i] := fun e => h (by rw [e])
      rw [if_neg h]
      have := ih k xs (i + 1) (by omega) (by omega) h3 (by omega)
      rw [show ((i : Int) + 1) = ((i + 1 : Nat) : Int) by omega, this]
      exact congrArg some (decide_eq_decide.2 (by rw [List.mem_cons]; exact ⟨Or.inr, fun h => h.resolve_left hne⟩))
open Classical in
theorem has_f (k : Nat) (xs : List ByteArray) (t : ByteArray) (hl : xs.length ≤ 1000000) (hk : xs.length < k) : barscanlaw09_has.f k xs t = some (decide (t ∈ xs)) := by
  unfold barscanlaw09_has.f
  have := has_l t xs.length k xs 0 (by omega) hk hl (by omega)
  simpa using this
theorem gives_f (a : Int) (s c : ByteArray) (hs : s.size ≤ 9223372036854775807) (h : computeS a s = (c, 0)) : barscanlaw09_gives.f a s c = some true := by
  unfold barscanlaw09_gives.f checkdigit_Compute.f
  rw [if_pos hs, h]
  simp
theorem ex_f (k : Nat) (hk : 1001000 ≤ k) : barscanlaw09_exampleHolds.f k = some true := by
  obtain ⟨k, rfl⟩ : ∃ m, k = m + 1 := ⟨k - 1, by omega⟩
  unfold barscanlaw09_exampleHolds.f
  rw [gives_f 1 _ _ (by decide) ex1, gives_f 2 _ _ (by decide) ex2, gives_f 3 _ _ (by decide) ex3, gives_f 4 _ _ (by decide) ex4, gives_f 5 _ _ (by decide) ex5, gives_f 6 _ _ (by decide) ex6, gives_f 7 _ _ (by decide) ex7, gives_f 8 _ _ (by decide) ex8]
  simp only [Option.bind_some, if_true, Bool.not_true]
  have e1 : barscanlaw09_exampleHolds.j0 (k + 1) false = some true := by
    simp only [barscanlaw09_exampleHolds.j0]
    rw [if_neg (by simp)]
    have w1 : checkdigit_Weighted.f (⟨#[49, 50, 51]⟩ : ByteArray) (([1, 3] : List Int)) 10 = some (0, 0) := by
      rw [← exW]; exact if_pos (by decide)
    have w2 : checkdigit_Corrections.f 5 (⟨#[53, 55, 52, 50]⟩ : ByteArray) = some (corrS 5 ⟨#[53, 55, 52, 50]⟩) := by
      unfold checkdigit_Corrections.f; rw [if_pos (by decide)]
    have w3 : checkdigit_Verify.f 6 (⟨#[49, 50, 51, 50, 48]⟩ : ByteArray) = some 0 := by
      unfold checkdigit_Verify.f; rw [if_pos (by decide), exV]
    have w4 : checkdigit_Verify.f 6 (⟨#[49, 50, 51, 50, 49]⟩ : ByteArray) = some 8 := by
      unfold checkdigit_Verify.f; rw [if_pos (by decide), exV']
    have hl : (corrS 5 ⟨#[53, 55, 52, 50]⟩).1.length ≤ 1000000 := by
      have := corr_len 5 ⟨#[53, 55, 52, 50]⟩
      omega
    have h5 := has_f k (corrS 5 ⟨#[53, 55, 52, 50]⟩).1 ⟨#[53, 55, 50, 52]⟩ hl (by omega)
    have h2 := exC2
    have h1 := exC1
    rw [w1, w2, w3, w4]
    simp only [Option.bind_some]
    rw [h2, h5]
    simp [h1]
  rw [e1]
theorem u16_range (a : Int) (h : (Lit.int .u16 a).wf = true) : 0 ≤ a ∧ a ≤ 65535 := by
  simp only [Lit.wf, IntKind.min, IntKind.max, IntKind.signed, IntKind.bits, Bool.and_eq_true, decide_eq_true_eq] at h
  simp at h
  omega
theorem str_one (a : Int) : strOfNums [a] = bs [UInt8.ofNat a.toNat] := rfl
theorem x_head (P R : List UInt8) : (bs (P ++ R)).extract 0 P.length = bs P := by
  rw [bs_ext, List.drop_zero, List.take_left]
theorem x_one (P R : List UInt8) (a : UInt8) : (bs (P ++ a :: R)).extract P.length (P.length + 1) = bs [a] := by
  rw [bs_ext, List.drop_take, List.drop_left]
  simp
theorem x_two (P R : List UInt8) (a b : UInt8) : (bs (P ++ a :: b :: R)).extract (P.length + 1) (P.length + 2) = bs [b] := by
  have := x_one (P ++ [a]) R b
  rw [List.length_append, List.append_assoc] at this
  exact this
theorem x_tail (P R : List UInt8) (n : Nat) (hn : n = (P ++ R).length) : (bs (P ++ R)).extract P.length n = bs R := by
  rw [bs_ext, hn, List.take_length, List.drop_left]
theorem x_tail1 (P R : List UInt8) (a : UInt8) (n : Nat) (hn : n = (P ++ a :: R).length) : (bs (P ++ a :: R)).extract (P.length + 1) n = bs R := by
  have := x_tail (P ++ [a]) R n (by rw [hn]; simp)
  rw [List.length_append, List.append_assoc] at this
  exact this
theorem x_tail2 (P R : List UInt8) (a b : UInt8) (n : Nat) (hn : n = (P ++ a :: b :: R).length) : (bs (P ++ a :: b :: R)).extract (P.length + 2) n = bs R := by
  have := x_tail (P ++ [a, b]) R n (by rw [hn]; simp)
  rw [List.length_append, List.append_assoc] at this
  exact this
theorem x_bt (P R : List UInt8) (a : UInt8) : bt (bs (P ++ a :: R)) (P.length : Int) = (a.toNat : Int) := by
  rw [bt_nat _ _ (by rw [bs_size]; simp)]
  have h : (P ++ a :: R)[P.length]'(by simp) = a := by simp
  have : (bs (P ++ a :: R))[P.length]'(by rw [bs_size]; simp) = a := h
  rw [this]
theorem wr1 (n : Nat) (h : n ≤ 5000) : wrap64 ((n : Int) + 1) = ((n + 1 : Nat) : Int) := by rw [w64_in _ (by omega) (by omega)]; omega
theorem exchanged_f (P R : List UInt8) (a b : UInt8) (hl : (P ++ a :: b :: R).length ≤ 5000) : barscanlaw09_exchanged.f (bs (P ++ a :: b :: R)) (P.length : Int) = some (bs (P ++ b :: a :: R)) := by
  have hn : (P ++ a :: b :: R).length = P.length + 2 + R.length := by simp; omega
  unfold barscanlaw09_exchanged.f
  have w1 : wrap64 ((P.length : Int) + 1) = ((P.length + 1 : Nat) : Int) := by rw [w64_in _ (by omega) (by omega)]; omega
  have w2 : wrap64 ((P.length : Int) + 2) = ((P.length + 2 : Nat) : Int) := by rw [w64_in _ (by omega) (by omega)]; omega
  rw [w1, w2]
  simp only [Int.toNat_natCast]
  rw [x_head, x_two, x_one, x_tail2 P R a b _ (by rw [bs_size]), bs_app, bs_app, bs_app]
  simp only [bs_size]
  rw [if_pos (by omega), if_pos (by omega), if_pos (by omega), if_pos (by omega), if_pos (by omega), if_pos (by simp; omega), if_pos (by omega), if_pos (by omega), if_pos (by simp; omega), if_pos (by omega), if_pos (by simp; omega)]
  simp
/-- Where a place with one behind it lies. -/
theorem split_at (l : List UInt8) (i : Nat) (hi : i + 1 < l.length) : ∃ P a b R, l = P ++ a :: b :: R ∧ P.length = i := by
  refine ⟨l.take i, l[i], l[i + 1], l.drop (i + 2), ?_, by rw [List.length_take]; omega⟩
  rw [List.getElem_cons_drop, List.getElem_cons_drop, List.take_append_drop]
theorem place (x n : Int) (hx : 0 ≤ x ∧ x ≤ 65535) (hn : 2 ≤ n ∧ n ≤ 5000) : ∃ i : Nat, Int.tmod (wrap64 x) (wrap64 (n - 1)) = (i : Int) ∧ (i : Int) + 1 < n ∧ wrap64 (n - 1) ≠ 0 := by
  rw [w64_in x (by omega) (by omega), w64_in (n - 1) (by omega) (by omega), Int.tmod_eq_emod_of_nonneg hx.1]
  have h1 := Int.emod_nonneg x (show n - 1 ≠ 0 by omega)
  have h2 := Int.emod_lt_of_pos x (show 0 < n - 1 by omega)
  exact ⟨(x % (n - 1)).toNat, by omega, by omega, by omega⟩
theorem verify_size (k : Int) (x : ByteArray) (h : verifyS k x = 0) : x.size ≤ 4096 := by
  unfold verifyS at h
  by_cases a : ¬ (1 ≤ k ∧ k ≤ 8)
  · rw [if_pos a] at h; omega
  rw [if_neg a] at h
  by_cases b : 4096 < x.size
  · rw [if_pos b] at h; omega
  · omega
theorem rest_l (k0 : Int) (xs : List ByteArray) (hs : xs.length ≤ 1000000) (hv : ∀ x ∈ xs, verifyS k0 x = 0) (ha : Asc xs) : ∀ (d k i : Nat), xs.length - i = d → i ≤ xs.length → 1001000 + d < k → barscanlaw09_CheckdigitRestores.l0 k k0 xs i = some true := by
  intro d
  induction d with
  | zero =>
    intro k i h1 h2 h3
    obtain ⟨k, rfl⟩ : ∃ m, k = m + 1 := ⟨k - 1, by omega⟩
    simp only [barscanlaw09_CheckdigitRestores.l0]
    rw [if_neg (by omega), ex_f k (by omega)]; rfl
  | succ d ih =>
    intro k i h1 h2 h3
    obtain ⟨k, rfl⟩ : ∃ m, k = m + 1 := ⟨k - 1, by omega⟩
    simp only [barscanlaw09_CheckdigitRestores.l0]
    have hi : i < xs.length := by omega
    have rd : ∀ (j : Nat) (hj : j < xs.length), rdOf ByteArray.empty xs (j : Int) = xs[j] := by
      intro j hj
      unfold rdOf
      rw [Int.toNat_natCast, List.getD_eq_getElem?_getD, List.getElem?_eq_getElem hj, Option.getD_some]
    have hvi := hv xs[i] (List.getElem_mem hi)
    have hf : checkdigit_Verify.f k0 xs[i] = some 0 := by
      unfold checkdigit_Verify.f
      rw [if_pos (by have := verify_size _ _ hvi; omega), hvi]
    rw [if_pos (by omega), if_pos (by omega), rd i hi, hf]
    simp only [Option.bind_some]
    rw [if_pos trivial, w64_in ((i : Int) + 1) (by omega) (by omega)]
    have hn := ih k (i + 1) (by omega) (by omega) (by omega)
    rw [show ((i : Int) + 1) = ((i + 1 : Nat) : Int) by omega, hn]
    by_cases h0 : (i : Int) > 0
    · rw [if_pos h0, w64_in ((i : Int) - 1) (by omega) (by omega), if_pos (by omega), if_pos (by omega)]
      obtain ⟨i, rfl⟩ : ∃ m, i = m + 1 := ⟨i - 1, by omega⟩
      rw [show (((i + 1 : Nat) : Int) - 1) = (i : Int) by omega, rd i (by omega)]
      have hlt := List.pairwise_iff_getElem.1 ha i (i + 1) (by omega) hi (by omega)
      rw [if_pos]
      rw [Go.Proofs.bytesLess_eq, ByteArray.toList_eq, ByteArray.toList_eq]
      exact decide_eq_true hlt
    · rw [if_neg h0]
open Classical in
theorem rest_j (k : Nat) (hk : 1100000 ≤ k) (k0 : Int) (hk0 : 1 ≤ k0 ∧ k0 ≤ 8) (t s : ByteArray) (hn : t.size = s.size) (h64 : t.size ≤ 64) (hw : wrongB k0 t.size = false) (hv : verifyS k0 t = 0) (hc : t ≠ s → t ∈ cands s (alphaXS k0) s.size) :
    barscanlaw09_CheckdigitRestores.j1 k k0 t s = some true := by
  obtain ⟨k, rfl⟩ : ∃ m, k = m + 2 := ⟨k - 2, by omega⟩
  simp only [barscanlaw09_CheckdigitRestores.j1]
  have e1 : checkdigit_Corrections.f k0 s = some (corrS k0 s) := by unfold checkdigit_Corrections.f; rw [if_pos (by omega)]
  have e2 : corrS k0 s = (Strs.compB (Strs.sortB (tried k0 s (cands s (alphaXS k0) s.size))), 0) := by
    unfold corrS; rw [if_neg (fun h => h hk0), if_neg (by omega), if_neg (by rw [← hn, hw]; simp)]
  have hl0 : (Strs.compB (Strs.sortB (tried k0 s (cands s (alphaXS k0) s.size)))).length ≤ 64 * 44 := by
    have := corr_len k0 s
    rw [e2] at this
    exact this
  have hl : (Strs.compB (Strs.sortB (tried k0 s (cands s (alphaXS k0) s.size)))).length ≤ 1000000 := Nat.le_trans hl0 (by omega)
  rw [e1, e2]
  simp only [Option.bind_some]
  rw [if_pos trivial, has_f (k + 1) _ t hl (by omega)]
  simp only [Option.bind_some]
  have hm : (t ∈ Strs.compB (Strs.sortB (tried k0 s (cands s (alphaXS k0) s.size)))) ↔ t ≠ s := by
    rw [mem_comp_sort, mem_tried]
    exact ⟨fun h => h.2.1, fun h => ⟨hc h, h, hv⟩⟩
  have hb : (decide (t ∈ Strs.compB (Strs.sortB (tried k0 s (cands s (alphaXS k0) s.size)))) != (s.toList != t.toList)) = false := by
    rw [bne_eq_false_iff_eq, Bool.eq_iff_iff, decide_eq_true_iff, hm, bne_iff_ne]
    exact ⟨fun h e => h (toList_inj e).symm, fun h e => h (by rw [e])⟩
  rw [hb]
  simp only [barscanlaw09_CheckdigitRestores.j2]
  rw [if_neg (by simp)]
  refine rest_l k0 _ hl ?_ (asc_comp_sort _) _ k 0 rfl (by omega) (by omega)
  intro x hx
  rw [mem_comp_sort, mem_tried] at hx
  exact hx.2.2
theorem cand_sub (P R : List UInt8) (a c : UInt8) (C : ByteArray) (ha : C.data.toList.contains a = true) : bs (P ++ a :: R) ∈ cands (bs (P ++ c :: R)) C (bs (P ++ c :: R)).size := by
  have ha : a ∈ C.data.toList := by simpa using ha
  obtain ⟨X, Y, hXY⟩ := List.append_of_mem ha
  have hC : C = bs (X ++ a :: Y) := by rw [← hXY, bs_of]
  have := mem_sub (bs (P ++ c :: R)) C P.length X.length (by rw [bs_size]; simp) (by rw [hC, bs_size]; simp)
  unfold sub1 at this
  rw [hC, x_one, ← hC, x_head, x_tail1 P R c _ (by rw [bs_size]), bs_app, bs_app] at this
  rw [show P ++ a :: R = P ++ [a] ++ R by simp]
  exact this
theorem cand_swap (P R : List UInt8) (a b : UInt8) (C : ByteArray) : bs (P ++ a :: b :: R) ∈ cands (bs (P ++ b :: a :: R)) C (bs (P ++ b :: a :: R)).size := by
  have := mem_swap (bs (P ++ b :: a :: R)) C (P.length + 1) (by omega) (by rw [bs_size]; simp)
  unfold swap1 at this
  rw [show P.length + 1 - 1 = P.length by omega, x_head, x_two, x_one, show P.length + 1 + 1 = P.length + 2 by omega, x_tail2 P R b a _ (by rw [bs_size]), bs_app, bs_app, bs_app] at this
  rw [show P ++ a :: b :: R = P ++ [a] ++ [b] ++ R by simp]
  exact this
theorem restores_l (k : Nat) (hk : 1100001 ≤ k) (a0 a2 a3 : Int) (a4 : Bool) (l : List UInt8) (h2 : 0 ≤ a2 ∧ a2 ≤ 65535) : barscanlaw09_CheckdigitRestores.f k a0 (bs l) a2 a3 a4 = some true := by
  obtain ⟨k, rfl⟩ : ∃ m, k = m + 1 := ⟨k - 1, by omega⟩
  have hx := ex_f (k + 1) (by omega)
  have hx1 := ex_f k (by omega)
  unfold barscanlaw09_CheckdigitRestores.f
  rw [bs_size]
  by_cases h : (l.length : Int) > 38
  · rw [if_pos h, hx]; rfl
  rw [if_neg h]
  have e1 : checkdigit_Append.f a0 (bs l) = some (appendS a0 (bs l)) := by unfold checkdigit_Append.f; rw [if_pos (by rw [bs_size]; omega)]
  rw [e1]
  simp only [Option.bind_some]
  by_cases he : (appendS a0 (bs l)).2 = 0
  case neg =>
    rw [if_neg he]
    simp only [barscanlaw09_CheckdigitRestores.j0, if_true]
    rw [if_neg he, hx1]; rfl
  obtain ⟨g1, g2, g3, g4, g5, g6⟩ := append_zero _ _ he
  rw [bs_data] at g3 g6
  rw [bs_size] at g2 g4 g5
  have hlen : (checkL a0 (bs l)).length = sizeS a0 := by rw [check_out a0 g1, out_len a0 g1]
  have o : Ok a0 l := ⟨g1, g2, g3, g4, by rw [← hlen]; exact g5⟩
  have hs : sizeS a0 = 1 ∨ sizeS a0 = 2 := by unfold sizeS; split <;> omega
  have hv := verify_append o
  have hvz := (verify_zero a0 l _ hlen).1 hv
  rw [if_pos he, g6]
  have hsz : (bs (l ++ checkL a0 (bs l))).size = l.length + sizeS a0 := by rw [bs_size, List.length_append, hlen]
  have h2n : ¬ (((bs (l ++ checkL a0 (bs l))).size : Int) < 2) := by rw [hsz]; omega
  rw [decide_eq_false h2n]
  simp only [barscanlaw09_CheckdigitRestores.j0]
  rw [if_neg (by simp)]
  obtain ⟨i, hi1, hi2, hi3⟩ := place a2 ((bs (l ++ checkL a0 (bs l))).size : Int) h2 (by rw [hsz]; omega)
  rw [if_neg hi3, hi1]
  clear hi1 hi3
  rw [hsz] at hi2
  obtain ⟨P, a, b, R, hl, rfl⟩ := split_at (l ++ checkL a0 (bs l)) i (by rw [List.length_append, hlen]; omega)
  have hn : (P ++ a :: b :: R).length = l.length + sizeS a0 := by rw [← hl, List.length_append, hlen]
  have hn2 : (P ++ a :: b :: R).length = P.length + 2 + R.length := by simp; omega
  have hall : ∀ c ∈ P ++ a :: b :: R, (alphaXS a0).data.toList.contains c = true := by
    intro c hc
    rw [← hl] at hc
    rcases List.mem_append.1 hc with hc | hc
    · exact data_check a0 c (g3 c hc)
    · exact hvz.2.2.2.2.1 c hc
  have hwr : wrongB a0 ((bs (P ++ a :: b :: R)).size : Int) = false := by
    have := hvz.2.2.1
    rw [bs_size, hn, ← hlen]; exact this
  rw [hl] at hv ⊢
  have hsz2 : ∀ x y : UInt8, (bs (P ++ x :: y :: R)).size = P.length + 2 + R.length := fun x y => by rw [bs_size]; simp; omega
  rw [hsz2, if_pos (by omega), if_pos (by omega)]
  simp only [Option.bind_some]
  rw [str_one]
  generalize UInt8.ofNat a3.toNat = c
  rw [wr1 P.length (by omega), Int.toNat_natCast, Int.toNat_natCast, x_head, x_tail1 P (b :: R) a (P.length + 2 + R.length) (by simp; omega), bs_app, bs_app, show P ++ [c] ++ b :: R = P ++ c :: b :: R by simp]
  rw [if_pos (by rw [bs_size, bs_size]; simp; omega), if_pos (by omega), if_pos (by omega), if_pos (by rw [bs_size, bs_size]; simp; omega)]
  have hfin : ∀ s : ByteArray, s.size = P.length + 2 + R.length → (bs (P ++ a :: b :: R) ≠ s → bs (P ++ a :: b :: R) ∈ cands s (alphaXS a0) s.size) → barscanlaw09_CheckdigitRestores.j1 k a0 (bs (P ++ a :: b :: R)) s = some true := by
    intro s h1 h2
    exact rest_j k (by omega) a0 g1 _ s (by rw [hsz2, h1]) (by rw [hsz2]; omega) hwr hv h2
  cases a4
  · rw [if_neg (by simp)]
    exact hfin _ (hsz2 c b) (fun _ => cand_sub P (b :: R) a c (alphaXS a0) (hall a (by simp)))
  · rw [if_pos rfl, exchanged_f P R a b (by rw [hn]; omega)]
    simp only [Option.bind_some]
    exact hfin _ (hsz2 b a) (fun _ => cand_swap P R a b (alphaXS a0))
theorem CheckdigitRestores : barscanlaw09_CheckdigitRestores.Pure := by
  intro a0 a1 a2 a3 a4 h0 h1 h2 h3
  refine ⟨1100001, ?_⟩
  have := restores_l 1100001 (by omega) a0 a2 a3 a4 a1.data.toList (u16_range a2 h2)
  rwa [bs_of] at this

end Go.Proofs.Ytcfgfeamcckmjaa.Pure
