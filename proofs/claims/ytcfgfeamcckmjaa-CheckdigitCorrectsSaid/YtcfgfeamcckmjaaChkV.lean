/-
  Checkdigit: the chapter's examples, and what Corrections' row holds, in plain Lean.
-/
import Derived.Test.YtcfgfeamcckmjaaChkL
namespace Go.Proofs.Ytcfgfeamcckmjaa.Chk
open Go.RowKit Go.Proofs.YtcfgfeamcckmjaaW.PrintWords Go.Proofs.YtcfgfeamcckmjaaW.PrintLast Go.Proofs.YtcfgfeamcckmjaaW.PrintMore
set_option linter.unusedVariables false
set_option linter.unusedSimpArgs false

theorem ex1 : computeS 1 ⟨#[53, 57, 48, 49, 50, 51, 52, 49, 50, 51, 52, 53]⟩ = (⟨#[55]⟩, 0) := by decide +kernel
theorem ex2 : computeS 2 ⟨#[55, 57, 57, 50, 55, 51, 57, 56, 55, 49]⟩ = (⟨#[51]⟩, 0) := by decide +kernel
theorem ex3 : computeS 3 ⟨#[48, 51, 48, 54, 52, 48, 54, 49, 53]⟩ = (⟨#[50]⟩, 0) := by decide +kernel
theorem ex4 : computeS 4 ⟨#[50, 51, 54]⟩ = (⟨#[51]⟩, 0) := by decide +kernel
theorem ex5 : computeS 5 ⟨#[53, 55, 50]⟩ = (⟨#[52]⟩, 0) := by decide +kernel
theorem ex6 : computeS 6 ⟨#[49, 50, 51]⟩ = (⟨#[50, 48]⟩, 0) := by decide +kernel
theorem ex7 : computeS 7 ⟨#[67, 79, 68, 69, 51, 57]⟩ = (⟨#[87]⟩, 0) := by decide +kernel
theorem ex8 : computeS 8 ⟨#[48, 48, 48, 48, 48, 48, 48, 50, 49, 56, 50, 53, 48, 48, 57]⟩ = (⟨#[55]⟩, 0) := by decide +kernel
theorem exW : weighS ⟨#[49, 50, 51]⟩ [1, 3] 10 = (0, 0) := by decide +kernel
theorem exV : verifyS 6 ⟨#[49, 50, 51, 50, 48]⟩ = 0 := by decide +kernel
theorem exV' : verifyS 6 ⟨#[49, 50, 51, 50, 49]⟩ = 8 := by decide +kernel

theorem compact_mem (zs : List (List UInt8)) (x : List UInt8) : x ∈ Lib.compact zs ↔ x ∈ zs := by
  unfold Lib.compact Lib.compactUpTo
  have hg : ∀ j (h : j < zs.length), zs.toArray[j]! = zs[j] := fun j h => by simp [h]
  constructor
  · intro h
    obtain ⟨j, hj, rfl⟩ := List.mem_map.1 h
    have hj := List.mem_range.1 (List.mem_filter.1 hj).1
    rw [hg j hj]
    exact List.getElem_mem hj
  · intro h
    obtain ⟨j, hj, rfl⟩ := List.getElem_of_mem h
    clear h
    induction j with
    | zero => exact List.mem_map.2 ⟨0, List.mem_filter.2 ⟨List.mem_range.2 hj, by simp [Lib.keeps]⟩, hg 0 hj⟩
    | succ j ih =>
      by_cases hk : Lib.keeps zs.toArray (j + 1) = true
      · exact List.mem_map.2 ⟨j + 1, List.mem_filter.2 ⟨List.mem_range.2 hj, hk⟩, hg _ hj⟩
      · have e : zs[j + 1] = zs[j] := by
          unfold Lib.keeps at hk
          have := hg j (by omega); have := hg (j + 1) hj
          simp_all
        rw [e]
        exact ih (by omega)
theorem mem_toB (ls : List (List UInt8)) (t : ByteArray) : t ∈ Strs.toB ls ↔ t.data.toList ∈ ls := by
  unfold Strs.toB
  constructor
  · intro h
    obtain ⟨l, hl, rfl⟩ := List.mem_map.1 h
    exact hl
  · intro h
    exact List.mem_map.2 ⟨_, h, by cases t; rfl⟩
theorem mem_bs (xs : List ByteArray) (t : ByteArray) : t.data.toList ∈ Strs.bsOf xs ↔ t ∈ xs := by
  unfold Strs.bsOf
  constructor
  · intro h
    obtain ⟨l, hl, e⟩ := List.mem_map.1 h
    have : l = t := by cases l; cases t; simp_all [Array.toList_inj]
    exact this ▸ hl
  · intro h
    exact List.mem_map.2 ⟨t, h, rfl⟩
theorem mem_comp_sort (xs : List ByteArray) (t : ByteArray) : t ∈ Strs.compB (Strs.sortB xs) ↔ t ∈ xs := by
  unfold Strs.compB
  rw [mem_toB, compact_mem, mem_bs]
  unfold Strs.sortB
  rw [mem_toB, List.mem_mergeSort, mem_bs]
theorem mem_tried (k : Int) (s : ByteArray) (ts : List ByteArray) (t : ByteArray) : t ∈ tried k s ts ↔ t ∈ ts ∧ t ≠ s ∧ verifyS k t = 0 := by
  unfold tried okT
  rw [List.mem_filter]
  simp
theorem mem_swap (s C : ByteArray) (i : Nat) (h0 : 0 < i) (hi : i < s.size) : swap1 s i ∈ cands s C s.size := by
  unfold cands
  refine List.mem_flatMap.2 ⟨i, List.mem_range.2 hi, ?_⟩
  unfold candsAt
  rw [if_pos h0]
  exact List.mem_append_right _ (List.mem_singleton.2 rfl)
theorem mem_sub (s C : ByteArray) (i c : Nat) (hi : i < s.size) (hc : c < C.size) : sub1 s C i c ∈ cands s C s.size := by
  unfold cands
  refine List.mem_flatMap.2 ⟨i, List.mem_range.2 hi, ?_⟩
  unfold candsAt
  exact List.mem_append_left _ (List.mem_map.2 ⟨c, List.mem_range.2 hc, rfl⟩)
theorem exC2 : (corrS 5 ⟨#[53, 55, 52, 50]⟩).2 = 0 := by
  unfold corrS
  rw [if_neg (by decide), if_neg (by decide), if_neg (by decide)]
theorem exC1 : (⟨#[53, 55, 50, 52]⟩ : ByteArray) ∈ (corrS 5 ⟨#[53, 55, 52, 50]⟩).1 := by
  unfold corrS
  rw [if_neg (by decide), if_neg (by decide), if_neg (by decide)]
  rw [mem_comp_sort, mem_tried]
  refine ⟨?_, by decide, by decide +kernel⟩
  exact mem_swap _ _ 3 (by decide) (by decide)

theorem toList_inj {a b : ByteArray} (h : a.toList = b.toList) : a = b := ByteArray.ext (by
  have := h
  rw [ByteArray.toList_eq, ByteArray.toList_eq] at this
  exact Array.toList_inj.1 this)
theorem comp_sort_len (xs : List ByteArray) : (Strs.compB (Strs.sortB xs)).length ≤ xs.length := by
  unfold Strs.compB Strs.sortB Strs.toB
  rw [List.length_map]
  refine Nat.le_trans (Lib.compact_length_le _) ?_
  unfold Strs.bsOf
  simp
theorem corr_len (k : Int) (s : ByteArray) : (corrS k s).1.length ≤ 64 * 44 := by
  unfold corrS
  split
  · simp
  split
  · simp
  split
  · simp
  · refine Nat.le_trans (comp_sort_len _) (Nat.le_trans (tried_len _ _ _) (Nat.le_trans (cands_len _ _ _) ?_))
    have h1 : (alphaXS k).size ≤ 43 := by unfold alphaXS; repeat' split
                                          all_goals decide
    exact Nat.mul_le_mul (by omega) (by omega)
theorem lt_irr (a : List UInt8) : ¬ a < a := fun h => by exact List.lt_irrefl a h
/-- Strictly ascending. -/
def Asc (xs : List ByteArray) : Prop := xs.Pairwise fun x y => x.data.toList < y.data.toList
theorem asc_comp_sort (xs : List ByteArray) : Asc (Strs.compB (Strs.sortB xs)) := by
  unfold Strs.compB Strs.sortB Asc
  rw [Strs.bs_toB]
  generalize hz : (Strs.bsOf xs).mergeSort (fun x y => decide (x ≤ y)) = zs
  have hs : zs.Pairwise fun x y => x ≤ y := by
    rw [← hz]
    have := List.pairwise_mergeSort (le := fun (x y : List UInt8) => decide (x ≤ y)) (fun a b c h1 h2 => by simp only [decide_eq_true_eq] at *; exact List.le_trans h1 h2) (fun a b => by simp only [Bool.or_eq_true, decide_eq_true_eq]; exact List.le_total a b) (Strs.bsOf xs)
    exact this.imp fun h => by simpa using h
  clear hz
  unfold Strs.toB
  rw [List.pairwise_map]
  unfold Lib.compact Lib.compactUpTo
  rw [List.pairwise_map]
  have hg : ∀ j (h : j < zs.length), zs.toArray[j]! = zs[j] := fun j h => by simp [h]
  have hp : ((List.range zs.length).filter (Lib.keeps zs.toArray)).Pairwise (· < ·) := (List.pairwise_lt_range).sublist List.filter_sublist
  refine hp.imp_of_mem ?_
  intro i j hi hj hij
  obtain ⟨hi1, hi2⟩ := List.mem_filter.1 hi
  obtain ⟨hj1, hj2⟩ := List.mem_filter.1 hj
  have hi1 := List.mem_range.1 hi1
  have hj1 := List.mem_range.1 hj1
  show zs.toArray[i]! < zs.toArray[j]!
  obtain ⟨j, rfl⟩ : ∃ m, j = m + 1 := ⟨j - 1, by omega⟩
  have hne : zs.toArray[j]! ≠ zs.toArray[j + 1]! := by
    unfold Lib.keeps at hj2
    intro h
    simp_all
  rw [hg i hi1, hg _ hj1]
  rw [hg j (by omega), hg _ hj1] at hne
  have h1 : zs[j] ≤ zs[j + 1] := (List.pairwise_iff_getElem.1 hs) j (j + 1) (by omega) hj1 (by omega)
  have h2 : zs[i] ≤ zs[j] := by
    by_cases e : i = j
    · subst e; exact List.le_refl _
    · exact (List.pairwise_iff_getElem.1 hs) i j hi1 (by omega) (by omega)
  have h3 : zs[j] < zs[j + 1] := by
    rcases List.le_iff_lt_or_eq.1 h1 with h | h
    · exact h
    · exact absurd h hne
  exact List.lt_of_le_of_lt h2 h3
end Go.Proofs.Ytcfgfeamcckmjaa.Chk
