/-
  Checkdigit: the plain law of CheckdigitSums: what the walked functions compute answers as the statement says.
-/
import Derived.Test.YtcfgfeamcckmjaaCSums2
import Derived.Test.YtcfgfeamcckmjaaChkM
namespace Go.Proofs.Ytcfgfeamcckmjaa.Pure
open Go.RowKit Go.Proofs.Ytcfgfeamcckmjaa.CSums Go.Proofs.YtcfgfeamcckmjaaW.PrintWords Go.Proofs.YtcfgfeamcckmjaaW.PrintLast Go.Proofs.YtcfgfeamcckmjaaW.PrintMore Go.Proofs.Ytcfgfeamcckmjaa.Chk
set_option linter.unusedVariables false
set_option linter.unusedSimpArgs false

open Classical in
theorem has_l (t : ByteArray) : ∀ (d k : Nat) (xs : List ByteArray) (i : Nat), xs.length - i = d → d < k → xs.length ≤ 1000000 → i ≤ xs.length →
    barscanlaw09_has.l0 k xs t i = some (decide (t ∈ xs.drop i)) := by
  intro d
  induction d with
  | zero =>
    intro k xs i h1 h2 h3 h4
    obtain ⟨k, rfl⟩ : ∃ m, k = m + 1 := ⟨k - 1, by omega⟩
    simp only [barscanlaw09_has.l0]
    rw [if_neg (by omega), List.drop_eq_nil_of_le (by omega)]
    simp
  | succ d ih =>
    intro k xs i h1 h2 h3 h4
    obtain ⟨k, rfl⟩ : ∃ m, k = m + 1 := ⟨k - 1, by omega⟩
    simp only [barscanlaw09_has.l0]
    have hi : i < xs.length := by omega
    rw [if_pos (by omega), if_pos (by omega), List.drop_eq_getElem_cons hi]
    have e : rdOf ByteArray.empty xs (i : Int) = xs[i] := by
      unfold rdOf
      rw [Int.toNat_natCast, List.getD_eq_getElem?_getD, List.getElem?_eq_getElem hi, Option.getD_some]
    rw [e, w64_in ((i : Int) + 1) (by omega) (by omega)]
    by_cases h : xs[i].toList = t.toList
    · have : t = xs[i] := (toList_inj h).symm
      rw [if_pos h]
      exact congrArg some (decide_eq_true (by rw [this]; exact List.mem_cons_self)).symm
    · have hne : ¬ t = xs[i] := fun e => h (by rw [e])
      rw [if_neg h]
      have := ih k xs (i + 1) (by omega) (by omega) h3 (by omega)
      rw [show ((i : Int) + 1) = ((i + 1 : Nat) : Int) by omega, this]
      exact congrArg some (decide_eq_decide.2 (by rw [List.mem_cons]; exact ⟨Or.inr, fun h => h.resolve_left hne⟩))
open Classical in
theorem has_f (k : Nat) (xs : List ByteArray) (t : ByteArray) (hl : xs.length ≤ 1000000) (hk : xs.length < k) : barscanlaw09_has.f k xs t = some (decide (t ∈ xs)) := by
  unfold barscanlaw09_has.f
  have := has_l t xs.length k xs 0 (by omega) hk hl (by omega)
  simpa using this
theorem gives_f (a : Int) (s c : ByteArray) (hs : s.size ≤ 9223372036854775807) (h : computeS a s = (c, 0)) : barscanlaw09_gives.f a s c = some true := by
  unfold barscanlaw09_gives.f checkdigit_Compute.f
  rw [if_pos hs, h]
  simp
theorem ex_f (k : Nat) (hk : 1001000 ≤ k) : barscanlaw09_exampleHolds.f k = some true := by
  obtain ⟨k, rfl⟩ : ∃ m, k = m + 1 := ⟨k - 1, by omega⟩
  unfold barscanlaw09_exampleHolds.f
  rw [gives_f 1 _ _ (by decide) ex1, gives_f 2 _ _ (by decide) ex2, gives_f 3 _ _ (by decide) ex3, gives_f 4 _ _ (by decide) ex4, gives_f 5 _ _ (by decide) ex5, gives_f 6 _ _ (by decide) ex6, gives_f 7 _ _ (by decide) ex7, gives_f 8 _ _ (by decide) ex8]
  simp only [Option.bind_some, if_true, Bool.not_true]
  have e1 : barscanlaw09_exampleHolds.j0 (k + 1) false = some true := by
    simp only [barscanlaw09_exampleHolds.j0]
    rw [if_neg (by simp)]
    have w1 : checkdigit_Weighted.f (⟨#[49, 50, 51]⟩ : ByteArray) (([1, 3] : List Int)) 10 = some (0, 0) := by
      rw [← exW]; exact if_pos (by decide)
    have w2 : checkdigit_Corrections.f 5 (⟨#[53, 55, 52, 50]⟩ : ByteArray) = some (corrS 5 ⟨#[53, 55, 52, 50]⟩) := by
      unfold checkdigit_Corrections.f; rw [if_pos (by decide)]
    have w3 : checkdigit_Verify.f 6 (⟨#[49, 50, 51, 50, 48]⟩ : ByteArray) = some 0 := by
      unfold checkdigit_Verify.f; rw [if_pos (by decide), exV]
    have w4 : checkdigit_Verify.f 6 (⟨#[49, 50, 51, 50, 49]⟩ : ByteArray) = some 8 := by
      unfold checkdigit_Verify.f; rw [if_pos (by decide), exV']
    have hl : (corrS 5 ⟨#[53, 55, 52, 50]⟩).1.length ≤ 1000000 := by
      have := corr_len 5 ⟨#[53, 55, 52, 50]⟩
      omega
    have h5 := has_f k (corrS 5 ⟨#[53, 55, 52, 50]⟩).1 ⟨#[53, 55, 50, 52]⟩ hl (by omega)
    have h2 := exC2
    have h1 := exC1
    rw [w1, w2, w3, w4]
    simp only [Option.bind_some]
    rw [h2, h5]
    simp [h1]
  rw [e1]
theorem dec_l : ∀ (d k : Nat) (l : List UInt8) (i : Nat), l.length - i = d → d < k → l.length ≤ 1000000 → i ≤ l.length →
    barscanlaw09_decimal.l0 k (bs l) i = some (decide (∀ c ∈ l.drop i, 48 ≤ c.toNat ∧ c.toNat ≤ 57)) := by
  intro d
  induction d with
  | zero =>
    intro k l i h1 h2 h3 h4
    obtain ⟨k, rfl⟩ : ∃ m, k = m + 1 := ⟨k - 1, by omega⟩
    simp only [barscanlaw09_decimal.l0]
    rw [bs_size, if_neg (by omega), List.drop_eq_nil_of_le (by omega)]
    exact congrArg some (decide_eq_true (by simp)).symm
  | succ d ih =>
    intro k l i h1 h2 h3 h4
    obtain ⟨k, rfl⟩ : ∃ m, k = m + 1 := ⟨k - 1, by omega⟩
    simp only [barscanlaw09_decimal.l0]
    have hi : i < l.length := by omega
    have hi' : i < (bs l).size := by rw [bs_size]; exact hi
    rw [bs_size, if_pos (by omega), if_pos (by omega), List.drop_eq_getElem_cons hi, bt_nat (bs l) i hi', w64_in ((i : Int) + 1) (by omega) (by omega)]
    have e : (bs l)[i] = l[i] := rfl
    rw [e]
    by_cases a : ((l[i]).toNat : Int) < 48
    · rw [if_pos a]
      exact congrArg some (decide_eq_false (fun h => by have := h l[i] List.mem_cons_self; omega)).symm
    rw [if_neg a]
    by_cases b : ((l[i]).toNat : Int) > 57
    · rw [if_pos b]
      exact congrArg some (decide_eq_false (fun h => by have := h l[i] List.mem_cons_self; omega)).symm
    rw [if_neg b]
    have := ih k l (i + 1) (by omega) (by omega) h3 (by omega)
    rw [show ((i : Int) + 1) = ((i + 1 : Nat) : Int) by omega, this]
    refine congrArg some (decide_eq_decide.2 ⟨fun h c hc => ?_, fun h c hc => h c (List.mem_cons_of_mem _ hc)⟩)
    rcases List.mem_cons.1 hc with rfl | hc
    · omega
    · exact h c hc
theorem dec_f (k : Nat) (l : List UInt8) (hl : l.length ≤ 1000000) (hk : l.length < k) : barscanlaw09_decimal.f k (bs l) = some (decide (∀ c ∈ l, 48 ≤ c.toNat ∧ c.toNat ≤ 57)) :=
  dec_l l.length k l 0 (by omega) hk hl (by omega)
theorem sumIs_f (l : List UInt8) (ws : List Int) (m v : Int) (hm : 1 ≤ m ∧ m ≤ 65536) (hn : ws.length ≠ 0) (hw : ∀ j, 0 ≤ ws.getD j 0) (hs : l.length ≤ 4096) (hd : ∀ c ∈ l, 48 ≤ c.toNat ∧ c.toNat ≤ 57) :
    barscanlaw09_sumIs.f (bs l) ws m v = some (wsum ws 0 (l.map dg).reverse % m == v) := by
  unfold barscanlaw09_sumIs.f checkdigit_Weighted.f
  rw [if_pos (by rw [bs_size]; omega), weigh_dec l ws m hm hn hw hs hd]
  simp
theorem getD_nn (ws : List Int) (h : ∀ x ∈ ws, 0 ≤ x) (j : Nat) : 0 ≤ ws.getD j 0 := by
  rw [List.getD_eq_getElem?_getD]
  cases e : ws[j]? with
  | none => exact Int.le_refl _
  | some x => exact h x (List.mem_of_getElem? e)
theorem verify_f (k : Int) (l : List UInt8) (hs : l.length ≤ 300) : checkdigit_Verify.f k (bs l) = some (verifyS k (bs l)) := by
  unfold checkdigit_Verify.f; rw [if_pos (by rw [bs_size]; omega)]
/-- The three equations. -/
theorem sum1 (D : List UInt8) (c : UInt8) (h0 : 1 ≤ D.length) (h1 : D.length ≤ 299) (hd : ∀ b ∈ D ++ [c], 48 ≤ b.toNat ∧ b.toNat ≤ 57) :
    verifyS 1 (bs (D ++ [c])) = 0 ↔ wsum [1, 3] 0 ((D ++ [c]).map dg).reverse % 10 = 0 := by
  rw [verify_zero 1 D [c] rfl]
  have hc := hd c (by simp)
  have hD : ∀ b ∈ D, 48 ≤ b.toNat ∧ b.toNat ≤ 57 := fun b hb => hd b (by simp [hb])
  have ec : checkL 1 (bs D) = [chr (gs1V (vals (bs D)))] := rfl
  have hv : gs1V (vals (bs D)) = (10 - wsum [1, 3] 1 (D.map dg).reverse % 10) % 10 := by
    unfold gs1V; rw [gs1_sum, Int.zero_add]; rfl
  have e1 : wsum [1, 3] 0 ((D ++ [c]).map dg).reverse = 1 * dg c + wsum [1, 3] 1 (D.map dg).reverse := by
    rw [List.map_append, List.reverse_append]; rfl
  rw [ec, e1, hv]
  generalize wsum [1, 3] 1 (D.map dg).reverse = W
  have hg : 0 ≤ dg c ∧ dg c ≤ 9 := by unfold dg; omega
  have key := chr_iff c ((10 - W % 10) % 10) (by omega) (by omega) hc
  constructor
  · rintro ⟨_, _, _, _, _, h⟩
    have := key.1 (List.cons.inj h).1
    omega
  · intro h
    refine ⟨by omega, by simp; omega, ?_, ?_, ?_, ?_⟩
    · unfold wrongB sizeS; simp; omega
    · intro b hb; exact (dig_iff b).2 (hD b hb)
    · intro b hb; rw [List.mem_singleton.1 hb]; exact (dig_iff c).2 hc
    · rw [key.2 (by omega)]
theorem sum8 (D : List UInt8) (c : UInt8) (h0 : 1 ≤ D.length) (h1 : D.length ≤ 299) (hd : ∀ b ∈ D ++ [c], 48 ≤ b.toNat ∧ b.toNat ≤ 57) :
    verifyS 8 (bs (D ++ [c])) = 0 ↔ wsum w11 0 ((D ++ [c]).map dg).reverse % 11 = 1 := by
  rw [verify_zero 8 D [c] rfl]
  have hc := hd c (by simp)
  have hD : ∀ b ∈ D, 48 ≤ b.toNat ∧ b.toNat ≤ 57 := fun b hb => hd b (by simp [hb])
  have ec : checkL 8 (bs D) = [chr (i11V (vals (bs D)))] := rfl
  have hb : 0 ≤ foldi i11F 0 0 (D.map dg) ∧ foldi i11F 0 0 (D.map dg) ≤ 10 := i11_bd _ (by
    intro d h
    obtain ⟨b, hb, rfl⟩ := List.mem_map.1 h
    have := hD b hb
    unfold dg; omega) 0 (by omega) (by omega) 0
  have hm := i11_sum (D.map dg)
  have hv : i11V (vals (bs D)) = (12 - foldi i11F 0 0 (D.map dg)) % 11 := rfl
  have e1 : wsum w11 0 ((D ++ [c]).map dg).reverse = 1 * dg c + wsum w11 1 (D.map dg).reverse := by
    rw [List.map_append, List.reverse_append]; rfl
  rw [ec, e1, hv]
  generalize wsum w11 1 (D.map dg).reverse = W at *
  generalize foldi i11F 0 0 (D.map dg) = P at *
  have hg : 0 ≤ dg c ∧ dg c ≤ 9 := by unfold dg; omega
  have key := chr_iff c ((12 - P) % 11) (by omega) (by omega) hc
  constructor
  · rintro ⟨_, _, _, _, _, h⟩
    have := key.1 (List.cons.inj h).1
    omega
  · intro h
    refine ⟨by omega, by simp; omega, ?_, ?_, ?_, ?_⟩
    · unfold wrongB sizeS; simp; omega
    · intro b hb; exact (dig_iff b).2 (hD b hb)
    · intro b hb
      rw [List.mem_singleton.1 hb]
      have := (dig_iff c).2 hc
      show alpha10X.data.toList.contains c = true
      rw [digX_contains, this]; rfl
    · rw [key.2 (by omega)]
theorem sum3 (D : List UInt8) (c : UInt8) (h0 : D.length = 9) (hd : ∀ b ∈ D ++ [c], 48 ≤ b.toNat ∧ b.toNat ≤ 57) :
    verifyS 3 (bs (D ++ [c])) = 0 ↔ wsum wI 0 ((D ++ [c]).map dg).reverse % 11 = 0 := by
  rw [verify_zero 3 D [c] rfl]
  have hc := hd c (by simp)
  have hD : ∀ b ∈ D, 48 ≤ b.toNat ∧ b.toNat ≤ 57 := fun b hb => hd b (by simp [hb])
  have ec : checkL 3 (bs D) = [chr (isbnV (vals (bs D)))] := rfl
  have hv : isbnV (vals (bs D)) = (11 - wsum wI 1 (D.map dg).reverse % 11) % 11 := by
    unfold isbnV; rw [isbn_sum _ _ _ (by rw [List.length_reverse, bs_vals, List.length_map]; omega), Int.zero_add]; rfl
  have e1 : wsum wI 0 ((D ++ [c]).map dg).reverse = 1 * dg c + wsum wI 1 (D.map dg).reverse := by
    rw [List.map_append, List.reverse_append]; rfl
  rw [ec, e1, hv]
  generalize wsum wI 1 (D.map dg).reverse = W
  have hg : 0 ≤ dg c ∧ dg c ≤ 9 := by unfold dg; omega
  have key := chr_iff c ((11 - W % 11) % 11) (by omega) (by omega) hc
  constructor
  · rintro ⟨_, _, _, _, _, h⟩
    have := key.1 (List.cons.inj h).1
    omega
  · intro h
    refine ⟨by omega, by simp; omega, ?_, ?_, ?_, ?_⟩
    · unfold wrongB sizeS; simp [h0]
    · intro b hb; exact (dig_iff b).2 (hD b hb)
    · intro b hb
      rw [List.mem_singleton.1 hb]
      have := (dig_iff c).2 hc
      show alpha10X.data.toList.contains c = true
      rw [digX_contains, this]; rfl
    · rw [key.2 (by omega)]
theorem sums_l (k : Nat) (hk : 1002000 ≤ k) (l : List UInt8) : barscanlaw09_CheckdigitSums.f k (bs l) = some true := by
  obtain ⟨k, rfl⟩ : ∃ m, k = m + 2 := ⟨k - 2, by omega⟩
  have hx := ex_f k (by omega)
  have hx1 := ex_f (k + 1) (by omega)
  have ht : barscanlaw09_CheckdigitSums.j0 (k + 2) (bs l) true = some true := by
    simp only [barscanlaw09_CheckdigitSums.j0, if_true]
    rw [hx1]; rfl
  unfold barscanlaw09_CheckdigitSums.f
  rw [bs_size]
  by_cases h1 : (l.length : Int) > 300
  · rw [if_pos h1, ht]
  rw [if_neg h1]
  by_cases h2 : (l.length : Int) < 2
  · rw [if_pos h2, ht]
  rw [if_neg h2, dec_f (k + 2) l (by omega) (by omega)]
  simp only [Option.bind_some]
  by_cases hd : ∀ c ∈ l, 48 ≤ c.toNat ∧ c.toNat ≤ 57
  case neg => rw [decide_eq_false hd]; exact ht
  rw [decide_eq_true hd]
  have nn2 : ∀ j, 0 ≤ ([1, 3] : List Int).getD j 0 := getD_nn _ (by decide)
  have nn11 : ∀ j, 0 ≤ w11.getD j 0 := getD_nn _ (by decide)
  have nnI : ∀ j, 0 ≤ wI.getD j 0 := getD_nn _ (by decide)
  simp only [barscanlaw09_CheckdigitSums.j0, Bool.not_true]
  rw [if_neg (by simp), verify_f 1 l (by omega), verify_f 8 l (by omega), verify_f 3 l (by omega), sumIs_f l [1, 3] 10 0 (by omega) (by simp) nn2 (by omega) hd,
    show ([1, 2, 4, 8, 5, 10, 9, 7, 3, 6] : List Int) = w11 from rfl, sumIs_f l w11 11 1 (by omega) (by simp [w11]) nn11 (by omega) hd]
  simp only [Option.bind_some]
  obtain ⟨D, c, rfl⟩ : ∃ D c, l = D ++ [c] := by
    rcases List.eq_nil_or_concat l with h | ⟨D, c, h⟩
    · rw [h] at h2; simp at h2
    · exact ⟨D, c, by rw [h, List.concat_eq_append]⟩
  have hl : (D ++ [c]).length = D.length + 1 := by simp
  rw [hl] at h1 h2
  have s1 := sum1 D c (by omega) (by omega) hd
  have s8 := sum8 D c (by omega) (by omega) hd
  have b1 : ((verifyS 1 (bs (D ++ [c])) == 0) != (wsum [1, 3] 0 ((D ++ [c]).map dg).reverse % 10 == 0)) = false := by
    rw [bne_eq_false_iff_eq, Bool.eq_iff_iff, beq_iff_eq, beq_iff_eq]; exact s1
  have b8 : ((verifyS 8 (bs (D ++ [c])) == 0) != (wsum w11 0 ((D ++ [c]).map dg).reverse % 11 == 1)) = false := by
    rw [bne_eq_false_iff_eq, Bool.eq_iff_iff, beq_iff_eq, beq_iff_eq]; exact s8
  rw [b1, b8, if_neg (by simp)]
  simp only [barscanlaw09_CheckdigitSums.j1]
  rw [if_neg (by simp), bs_size, hl, show ([1, 2, 3, 4, 5, 6, 7, 8, 9, 10] : List Int) = wI from rfl, sumIs_f (D ++ [c]) wI 11 0 (by omega) (by simp [wI]) nnI (by omega) hd, hx]
  simp only [Option.bind_some]
  by_cases h10 : ((D.length + 1 : Nat) : Int) = 10
  · have s3 := sum3 D c (by omega) hd
    have b3 : ((verifyS 3 (bs (D ++ [c])) == 0) == (wsum wI 0 ((D ++ [c]).map dg).reverse % 11 == 0)) = true := by
      rw [beq_iff_eq, Bool.eq_iff_iff, beq_iff_eq, beq_iff_eq]; exact s3
    rw [if_pos h10, b3, if_pos rfl]
  · have b3 : verifyS 3 (bs (D ++ [c])) = 7 := by
      unfold verifyS
      rw [if_neg (by omega), bs_size, hl, if_neg (by omega), if_pos]
      unfold wrongB sizeS
      simp only [Bool.or_eq_true, decide_eq_true_eq, Bool.and_eq_true, bne_iff_ne]
      exact Or.inr ⟨rfl, h10⟩
    rw [if_neg h10, b3, if_pos (by decide)]
theorem CheckdigitSums : barscanlaw09_CheckdigitSums.Pure := by
  intro a0 h0
  refine ⟨1002000, ?_⟩
  have := sums_l 1002000 (by omega) a0.data.toList
  rwa [bs_of] at this

end Go.Proofs.Ytcfgfeamcckmjaa.Pure
