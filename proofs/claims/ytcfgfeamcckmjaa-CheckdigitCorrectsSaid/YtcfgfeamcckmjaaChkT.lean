/-
  Checkdigit: the reference's Size, Verify, Compute, Append in the print's form, by the same plain words as the program's.
-/
import Derived.Test.YtcfgfeamcckmjaaChkR
namespace Go.Proofs.Ytcfgfeamcckmjaa.Chk
open Go.RowKit Go.Proofs.YtcfgfeamcckmjaaW.PrintWords Go.Proofs.YtcfgfeamcckmjaaW.PrintLast Go.Proofs.YtcfgfeamcckmjaaW.PrintMore
open Go.Proofs.Ytcfgfeamcckmjaa.PB
set_option linter.unusedVariables false
set_option linter.unusedSimpArgs false

theorem ref_Size (k0 : Int) (k : Nat) (hk : 1 ≤ k) : PB.barscanref09_Size.f k k0 = some (sizeE k0) := by
  obtain ⟨k, rfl⟩ : ∃ m, k = m + 1 := ⟨k - 1, by omega⟩
  have hj : ∀ b : Bool, barscanref09_Size.j0 (k + 1) k0 b = if b = true then some (0, 1) else if k0 = 6 then some (2, 0) else some (1, 0) := fun _ => rfl
  unfold PB.barscanref09_Size.f
  rw [hj, hj]
  by_cases h1 : k0 < 1
  · have e : sizeE k0 = (0, 1) := by unfold sizeE; rw [if_pos (by omega)]
    rw [if_pos h1, if_pos rfl, e]
  · rw [if_neg h1]
    by_cases h2 : k0 > 8
    · have e : sizeE k0 = (0, 1) := by unfold sizeE; rw [if_pos (by omega)]
      rw [if_pos (decide_eq_true h2), e]
    · have e : sizeE k0 = (((sizeS k0 : Nat) : Int), 0) := by unfold sizeE; rw [if_neg (by omega)]
      rw [if_neg (by simpa using h2), e]
      unfold sizeS
      by_cases h6 : k0 = 6
      · rw [if_pos h6, if_pos h6]; rfl
      · rw [if_neg h6, if_neg h6]; rfl
theorem ref_fits (k0 : Int) (hk0 : 1 ≤ k0 ∧ k0 ≤ 8) (n : Nat) (k : Nat) (hk : 1 ≤ k) : barscanref09_lengthFits.f k k0 (n : Int) = some (!wrongB k0 n) := by
  unfold barscanref09_lengthFits.f
  rw [ref_Size k0 k hk]
  simp only [Option.bind_some]
  have e : sizeE k0 = (((sizeS k0 : Nat) : Int), 0) := by unfold sizeE; rw [if_neg (fun h => h hk0)]
  rw [e]
  unfold wrongB
  by_cases h1 : (n : Int) > ((sizeS k0 : Nat) : Int)
  · rw [if_pos h1, decide_eq_false (by omega)]
    by_cases h3 : k0 = 3
    · rw [if_pos h3]; subst h3; cases h : ((n : Int) == 10) <;> simp [bne, h]
    · rw [if_neg h3]; have : (k0 == 3) = false := by simpa using h3
      rw [this]; rfl
  · rw [if_neg h1, decide_eq_true (by omega)]; rfl

theorem all_split (s : ByteArray) (a : Nat) (ha : a ≤ s.size) (p : UInt8 → Bool) : s.data.toList.all p = ((s.extract 0 a).data.toList.all p && (s.extract a s.size).data.toList.all p) := by
  rw [Lib.extract_data, Lib.extract_data, ← List.all_append]
  congr 1
  simp only [List.drop_zero, Nat.sub_zero]
  rw [List.take_of_length_le (l := List.drop a s.data.toList) (by simp)]
  exact (List.take_append_drop a s.data.toList).symm

/-- From place i on: the characters before n must be data, the others check characters. -/
def rest (k0 : Int) (s : ByteArray) (n i : Nat) : Bool := ((s.data.toList.take n).drop i).all (dataB k0) && (s.data.toList.drop (max n i)).all (checkB k0)
theorem data_check (k0 : Int) (c : UInt8) (h : dataB k0 c = true) : checkB k0 c = true := by
  unfold dataB alphaS at h
  unfold checkB alphaXS
  by_cases h7 : k0 = 7
  · rw [if_pos h7] at h ⊢; exact h
  · rw [if_neg h7] at h ⊢
    split
    · rw [digX_contains, h]; rfl
    · exact h
theorem ref_Verify_l (k0 : Int) (hk0 : 1 ≤ k0 ∧ k0 ≤ 8) (s : ByteArray) (hs : s.size ≤ 4096) (n : Nat) (hn : n ≤ s.size) (hn0 : s.size - n = sizeS k0) (d : Nat) : ∀ (k i : Nat), s.size - i = d → i ≤ s.size → d + 50000 < k → (withinB (s.extract 0 n) (alphaS k0) = true ∨ rest k0 s n i = false) →
    barscanref09_Verify.l0 k k0 s (sizeS k0) i = some (if rest k0 s n i = false then 6 else if checkS k0 (s.extract 0 n) ≠ s.extract n s.size then 8 else 0) := by
  have hsz : wrap64 ((s.size : Int) - ((sizeS k0 : Nat) : Int)) = (n : Int) := by rw [w64_in _ (by omega) (by omega)]; omega
  induction d with
  | zero =>
    intro k i h1 h2 h3 hor
    obtain ⟨k, rfl⟩ : ∃ m, k = m + 1 := ⟨k - 1, by omega⟩
    simp only [barscanref09_Verify.l0]
    have hr : rest k0 s n i = true := by
      unfold rest
      rw [List.drop_eq_nil_of_le (by simp; omega), List.drop_eq_nil_of_le (by simp; omega)]; rfl
    have hA : withinB (s.extract 0 n) (alphaS k0) = true := by rcases hor with h | h; exact h; rw [hr] at h; cases h
    rw [if_neg (by omega), hsz, if_pos (by omega), if_pos (by omega), Int.toNat_natCast, ref_computed k0 hk0 _ (by simp; omega) hA k (by omega)]
    simp only [Option.bind_some]
    have hif : (if rest k0 s n i = false then (6 : Int) else if checkS k0 (s.extract 0 n) ≠ s.extract n s.size then 8 else 0) = if checkS k0 (s.extract 0 n) ≠ s.extract n s.size then 8 else 0 := if_neg (by rw [hr]; decide)
    rw [hif]
    by_cases hc : checkS k0 (s.extract 0 n) = s.extract n s.size
    · have h2 : (if checkS k0 (s.extract 0 n) ≠ s.extract n s.size then (8 : Int) else 0) = 0 := if_neg (fun h => h hc)
      rw [h2, if_pos (by rw [hc])]
    · have h2 : (if checkS k0 (s.extract 0 n) ≠ s.extract n s.size then (8 : Int) else 0) = 8 := if_pos hc
      rw [h2, if_neg]
      intro h
      have := toList_ne _ _ hc
      rw [h] at this
      simp at this
  | succ d ih =>
    intro k i h1 h2 h3 hor
    obtain ⟨k, rfl⟩ : ∃ m, k = m + 1 := ⟨k - 1, by omega⟩
    have hi : i < s.size := by omega
    have hlist : s.data.toList.length = s.size := by simp
    simp only [barscanref09_Verify.l0]
    rw [if_pos (by omega), hsz, if_pos (show (0 : Int) ≤ i by omega), bt_nat s i hi, ref_data k0 s[i] k (by omega), ref_check k0 s[i] k (by omega)]
    simp only [Option.bind_some]
    rw [if_pos (show (0 : Int) ≤ i by omega), w64_in _ (by omega) (by omega)]
    by_cases hin : i < n
    · have hstep : rest k0 s n i = (dataB k0 s[i] && rest k0 s n (i + 1)) := by
        unfold rest
        rw [List.drop_eq_getElem_cons (by simp; omega), List.all_cons, show max n i = n by omega, show max n (i + 1) = n by omega, Bool.and_assoc]
        congr 1
        simp; rfl
      rw [if_pos (by omega)]
      cases hd : dataB k0 s[i] with
      | false => rw [hstep, hd]; simp
      | true =>
        rw [if_pos rfl, if_pos (data_check k0 _ hd), hstep, hd, Bool.true_and]
        refine ih k (i + 1) (by omega) (by omega) (by omega) ?_
        rcases hor with h | h
        · exact .inl h
        · rw [hstep, hd, Bool.true_and] at h; exact .inr h
    · have hstep : rest k0 s n i = (checkB k0 s[i] && rest k0 s n (i + 1)) := by
        unfold rest
        rw [List.drop_eq_nil_of_le (by simp; omega), List.drop_eq_nil_of_le (show (List.take n s.data.toList).length ≤ i + 1 by simp; omega), show max n i = i by omega, show max n (i + 1) = i + 1 by omega, List.drop_eq_getElem_cons (by simpa using hi)]
        simp; rfl
      rw [if_neg (by omega)]
      cases hd : checkB k0 s[i] with
      | false => rw [hstep, hd]; simp
      | true =>
        rw [if_pos rfl, hstep, hd, Bool.true_and]
        refine ih k (i + 1) (by omega) (by omega) (by omega) ?_
        rcases hor with h | h
        · exact .inl h
        · rw [hstep, hd, Bool.true_and] at h; exact .inr h
theorem rest_0 (k0 : Int) (s : ByteArray) (n : Nat) (hn : n ≤ s.size) : rest k0 s n 0 = (withinB (s.extract 0 n) (alphaS k0) && withinB (s.extract n s.size) (alphaXS k0)) := by
  unfold rest withinB
  rw [Lib.extract_data, Lib.extract_data, show max n 0 = n by omega]
  simp only [List.drop_zero, Nat.sub_zero]
  rw [List.take_of_length_le (l := List.drop n s.data.toList) (by simp)]
  rfl
theorem ref_Verify (k0 : Int) (s : ByteArray) (hm : s.size ≤ 9223372036854775807) (k : Nat) (hk : 60000 ≤ k) : PB.barscanref09_Verify.f k k0 s = some (verifyS k0 s) := by
  unfold PB.barscanref09_Verify.f
  rw [ref_Size k0 k (by omega)]
  simp only [Option.bind_some]
  by_cases hk0 : 1 ≤ k0 ∧ k0 ≤ 8
  · have e : sizeE k0 = (((sizeS k0 : Nat) : Int), 0) := by unfold sizeE; rw [if_neg (fun h => h hk0)]
    rw [e, if_pos rfl]
    by_cases hl : 4096 < s.size
    · have hv : verifyS k0 s = 4 := by unfold verifyS; rw [if_neg (fun h => h hk0), if_pos hl]
      rw [hv, if_pos (by omega)]
    rw [if_neg (by omega), ref_fits k0 hk0 s.size k (by omega)]
    simp only [Option.bind_some]
    by_cases hw : wrongB k0 s.size = true
    · have hv : verifyS k0 s = 7 := by unfold verifyS; rw [if_neg (fun h => h hk0), if_neg hl, if_pos hw]
      rw [hv, hw]; rfl
    have hw' : wrongB k0 s.size = false := by simpa using hw
    have hn := wrong_lt k0 _ hw'
    have hv : verifyS k0 s = if withinB (s.extract 0 (s.size - sizeS k0)) (alphaS k0) = false ∨ withinB (s.extract (s.size - sizeS k0) s.size) (alphaXS k0) = false then 6 else if checkS k0 (s.extract 0 (s.size - sizeS k0)) ≠ s.extract (s.size - sizeS k0) s.size then 8 else 0 := by
      unfold verifyS; rw [if_neg (fun h => h hk0), if_neg hl, if_neg hw]
    rw [hv, hw', if_pos (show (!false) = true from rfl)]
    have hr := rest_0 k0 s (s.size - sizeS k0) (by omega)
    have h0 : barscanref09_Verify.l0 k k0 s ((sizeS k0 : Nat) : Int) 0 = barscanref09_Verify.l0 k k0 s ((sizeS k0 : Nat) : Int) ((0 : Nat) : Int) := rfl
    rw [h0]
    rw [ref_Verify_l k0 hk0 s (by omega) (s.size - sizeS k0) (by omega) (by omega) s.size k 0 (by omega) (by omega) (by omega) (by
      rw [hr]
      cases withinB (s.extract 0 (s.size - sizeS k0)) (alphaS k0) with
      | true => exact .inl rfl
      | false => exact .inr rfl)]
    rw [hr]
    congr 1
    cases h1 : withinB (s.extract 0 (s.size - sizeS k0)) (alphaS k0) with
    | false => simp
    | true => cases h2 : withinB (s.extract (s.size - sizeS k0) s.size) (alphaXS k0) with
      | false => simp
      | true => simp
  · have e : sizeE k0 = (0, 1) := by unfold sizeE; rw [if_pos hk0]
    rw [e, if_neg (by decide)]
    unfold verifyS; rw [if_pos hk0]

theorem ref_Compute_l (k0 : Int) (hk0 : 1 ≤ k0 ∧ k0 ≤ 8) (s : ByteArray) (hs : s.size ≤ 4096) (d : Nat) : ∀ (k i : Nat), s.size - i = d → i ≤ s.size → d + 50000 < k → (withinB s (alphaS k0) = true ∨ (s.data.toList.drop i).all (dataB k0) = false) →
    barscanref09_Compute.l0 k k0 s i = some (if (s.data.toList.drop i).all (dataB k0) = false then (ByteArray.empty, 6) else if k0 = 3 ∧ s.size ≠ 9 then (ByteArray.empty, 7) else (checkS k0 s, 0)) := by
  induction d with
  | zero =>
    intro k i h1 h2 h3 hor
    obtain ⟨k, rfl⟩ : ∃ m, k = m + 1 := ⟨k - 1, by omega⟩
    simp only [barscanref09_Compute.l0]
    have hr : (s.data.toList.drop i).all (dataB k0) = true := by rw [List.drop_eq_nil_of_le (by simp; omega)]; rfl
    have hA : withinB s (alphaS k0) = true := by rcases hor with h | h; exact h; rw [hr] at h; cases h
    rw [if_neg (by omega), ref_computed k0 hk0 s hs hA k (by omega), hr]
    simp only [Option.bind_some]
    by_cases h3 : k0 = 3
    · rw [if_pos h3]
      by_cases h9 : s.size = 9
      · rw [if_pos (by omega)]; simp [h9]
      · rw [if_neg (by omega)]; simp [h3, h9]; rfl
    · rw [if_neg h3]; simp [h3]
  | succ d ih =>
    intro k i h1 h2 h3 hor
    obtain ⟨k, rfl⟩ : ∃ m, k = m + 1 := ⟨k - 1, by omega⟩
    have hi : i < s.size := by omega
    have hstep : (s.data.toList.drop i).all (dataB k0) = (dataB k0 s[i] && (s.data.toList.drop (i + 1)).all (dataB k0)) := by
      rw [List.drop_eq_getElem_cons (by simpa using hi), List.all_cons]; rfl
    simp only [barscanref09_Compute.l0]
    rw [if_pos (by omega), if_pos (by omega), bt_nat s i hi, ref_data k0 s[i] k (by omega), w64_in _ (by omega) (by omega)]
    simp only [Option.bind_some]
    cases hd : dataB k0 s[i] with
    | false => rw [hstep, hd]; simp; rfl
    | true =>
      rw [if_pos rfl, hstep, hd, Bool.true_and]
      refine ih k (i + 1) (by omega) (by omega) (by omega) ?_
      rcases hor with h | h
      · exact .inl h
      · rw [hstep, hd, Bool.true_and] at h; exact .inr h
theorem ref_Compute (k0 : Int) (s : ByteArray) (hm : s.size ≤ 9223372036854775807) (k : Nat) (hk : 60000 ≤ k) : PB.barscanref09_Compute.f k k0 s = some (computeS k0 s) := by
  obtain ⟨k, rfl⟩ : ∃ m, k = m + 1 := ⟨k - 1, by omega⟩
  have hj : ∀ b : Bool, barscanref09_Compute.j0 (k + 1) k0 s b = if b = true then (some ((⟨#[]⟩ : ByteArray), 1)) else (if (s.size : Int) = 0 then (some ((⟨#[]⟩ : ByteArray), 5)) else (if (s.size : Int) > 4096 then (some ((⟨#[]⟩ : ByteArray), 4)) else (barscanref09_Compute.l0 k k0 s 0))) := fun b => by simp only [barscanref09_Compute.j0]
  unfold PB.barscanref09_Compute.f
  rw [hj, hj]
  by_cases h1 : k0 < 1
  · have hv : computeS k0 s = (ByteArray.empty, 1) := by unfold computeS; rw [if_pos (by omega)]
    rw [if_pos h1, if_pos rfl, hv]; rfl
  rw [if_neg h1]
  by_cases h2 : k0 > 8
  · have hv : computeS k0 s = (ByteArray.empty, 1) := by unfold computeS; rw [if_pos (by omega)]
    rw [if_pos (decide_eq_true h2), hv]; rfl
  have hk0 : 1 ≤ k0 ∧ k0 ≤ 8 := by omega
  rw [if_neg (by simpa using h2)]
  by_cases h3 : s.size = 0
  · have hv : computeS k0 s = (ByteArray.empty, 5) := by unfold computeS; rw [if_neg (fun h => h hk0), if_pos h3]
    rw [if_pos (by omega), hv]; rfl
  rw [if_neg (by omega)]
  by_cases h4 : 4096 < s.size
  · have hv : computeS k0 s = (ByteArray.empty, 4) := by unfold computeS; rw [if_neg (fun h => h hk0), if_neg h3, if_pos h4]
    rw [if_pos (by omega), hv]; rfl
  rw [if_neg (by omega)]
  have hv : computeS k0 s = if withinB s (alphaS k0) = false then (ByteArray.empty, 6) else if k0 = 3 ∧ s.size ≠ 9 then (ByteArray.empty, 7) else (checkS k0 s, 0) := by
    unfold computeS; rw [if_neg (fun h => h hk0), if_neg h3, if_neg h4]
  have h0 : barscanref09_Compute.l0 k k0 s 0 = barscanref09_Compute.l0 k k0 s ((0 : Nat) : Int) := rfl
  have hw : (s.data.toList.drop 0).all (dataB k0) = withinB s (alphaS k0) := rfl
  rw [hv, h0, ref_Compute_l k0 hk0 s (by omega) s.size k 0 (by omega) (by omega) (by omega) (by
    rw [hw]
    cases withinB s (alphaS k0) with
    | true => exact .inl rfl
    | false => exact .inr rfl), hw]

/-- What Append returns. -/
def appendS (k : Int) (s : ByteArray) : ByteArray × Int :=
  if (computeS k s).2 ≠ 0 then (ByteArray.empty, (computeS k s).2) else if 4096 < s.size + (computeS k s).1.size then (ByteArray.empty, 4) else (s ++ (computeS k s).1, 0)

end Go.Proofs.Ytcfgfeamcckmjaa.Chk
