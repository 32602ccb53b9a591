/-
  Checkdigit, part G: Compute.
-/
import Derived.Test.YtcfgfeamcckmjaaChkF
namespace Go.Proofs.Ytcfgfeamcckmjaa.Chk
open Go.RowKit
set_option linter.unusedVariables false
set_option linter.unusedSimpArgs false

theorem bthen {a b c : World} (h : Below a.heap.size a b) (k : Below b.heap.size b c) : Below a.heap.size a c := h.trans (k.mono h.size)
theorem empty_of (s : ByteArray) (h : s.size = 0) : s.toList = [] ∧ s.toList.isEmpty = true := by
  have : s.toList = [] := by
    rw [Lib.toList_data]
    exact List.eq_nil_of_length_eq_zero (by simpa using h)
  exact ⟨this, by rw [this]; rfl⟩
theorem nonempty_of (s : ByteArray) (h : ¬ s.size = 0) : s.toList.isEmpty = false := by
  rw [Lib.toList_data]
  cases hl : s.data.toList with
  | nil => exact absurd (by have := congrArg List.length hl; simpa using this) h
  | cons a l => rfl

set_option maxRecDepth 20000 in
set_option maxHeartbeats 1000000 in
theorem compute_1 (s : ByteArray) (w : World) (hm : s.size ≤ 9223372036854775807) : Calls Try.prog 22 #[.int .i64 1, .string s] w fun e w' => e = .returned (.tuple #[.string (computeS 1 s).1, .int .i64 (computeS 1 s).2]) ∧ Below w.heap.size w w' := by
  have hsys : sysV 1 = .iface 72 (.agg #[]) := rfl
  have mA := m_alphabet_1
  have mL := m_length_1
  have mC := m_check_1
  by_cases hz : s.size = 0
  · have e : computeS 1 s = (ByteArray.empty, 5) := by unfold computeS; rw [if_neg (by decide), if_pos hz]
    rw [e]; clear e
    obtain ⟨hs1, hs2⟩ := empty_of s hz
    clear hz
    have HB := Below.refl w.heap.size w
    go_enter Try.func22, Try.ntmps22
    go_wp2_with (first | (go_at_call 34; refine (size_n _ _ (by decide)).mono ?_; rintro e w' ⟨rfl, rfl⟩) | (go_at_call 32; refine (systemOf_any _ _).mono ?_; rintro e w' ⟨rfl, rfl⟩) | (go_at_call 40; refine (c_decimal_alphabet _).mono ?_; rintro e wx ⟨rfl, hbx⟩; replace HB := bthen HB hbx; clear hbx) | (go_at_call 35; refine (within_any _ _ _ (by omega)).mono ?_; rintro e w' ⟨rfl, rfl⟩) | (go_at_call 98; refine (c_decimal_length _).mono ?_; rintro e wx ⟨rfl, hbx⟩; replace HB := bthen HB hbx; clear hbx) | (go_at_call 99; refine (gs1_check s _ (by omega) (by omega) (by assumption)).mono ?_; rintro e wx ⟨rfl, hbx⟩; replace HB := bthen HB hbx; clear hbx))
    go_ret2
    exact ⟨rfl, HB⟩
  have hs2 := nonempty_of s hz
  by_cases hl : 4096 < s.size
  · have e : computeS 1 s = (ByteArray.empty, 4) := by unfold computeS; rw [if_neg (by decide), if_neg hz, if_pos hl]
    rw [e]; clear e
    have HB := Below.refl w.heap.size w
    go_enter Try.func22, Try.ntmps22
    go_wp2_with (first | (go_at_call 34; refine (size_n _ _ (by decide)).mono ?_; rintro e w' ⟨rfl, rfl⟩) | (go_at_call 32; refine (systemOf_any _ _).mono ?_; rintro e w' ⟨rfl, rfl⟩) | (go_at_call 40; refine (c_decimal_alphabet _).mono ?_; rintro e wx ⟨rfl, hbx⟩; replace HB := bthen HB hbx; clear hbx) | (go_at_call 35; refine (within_any _ _ _ (by omega)).mono ?_; rintro e w' ⟨rfl, rfl⟩) | (go_at_call 98; refine (c_decimal_length _).mono ?_; rintro e wx ⟨rfl, hbx⟩; replace HB := bthen HB hbx; clear hbx) | (go_at_call 99; refine (gs1_check s _ (by omega) (by omega) (by assumption)).mono ?_; rintro e wx ⟨rfl, hbx⟩; replace HB := bthen HB hbx; clear hbx))
    go_ret2
    exact ⟨rfl, HB⟩
  have hl' : ¬ 4096 < s.size := hl
  by_cases hw : withinB s alpha10 = false
  · have e : computeS 1 s = (ByteArray.empty, 6) := by unfold computeS; rw [if_neg (by decide), if_neg hz, if_neg hl, if_pos (show withinB s (alphaS 1) = false from hw)]
    rw [e]; clear e
    have HB := Below.refl w.heap.size w
    go_enter Try.func22, Try.ntmps22
    go_wp2_with (first | (go_at_call 34; refine (size_n _ _ (by decide)).mono ?_; rintro e w' ⟨rfl, rfl⟩) | (go_at_call 32; refine (systemOf_any _ _).mono ?_; rintro e w' ⟨rfl, rfl⟩) | (go_at_call 40; refine (c_decimal_alphabet _).mono ?_; rintro e wx ⟨rfl, hbx⟩; replace HB := bthen HB hbx; clear hbx) | (go_at_call 35; refine (within_any _ _ _ (by omega)).mono ?_; rintro e w' ⟨rfl, rfl⟩) | (go_at_call 98; refine (c_decimal_length _).mono ?_; rintro e wx ⟨rfl, hbx⟩; replace HB := bthen HB hbx; clear hbx) | (go_at_call 99; refine (gs1_check s _ (by omega) (by omega) (by assumption)).mono ?_; rintro e wx ⟨rfl, hbx⟩; replace HB := bthen HB hbx; clear hbx))
    go_ret2
    exact ⟨rfl, HB⟩
  have hw1 : withinB s alpha10 = true := by simpa using hw
  have HDg : Hid (Digs s) := digs_of s hw1
  have e : computeS 1 s = (checkS 1 s, 0) := by unfold computeS; rw [if_neg (by decide), if_neg hz, if_neg hl, if_neg (show ¬ withinB s (alphaS 1) = false from hw), if_neg (by omega)]
  rw [e]; clear e hw
  have HB := Below.refl w.heap.size w
  go_enter Try.func22, Try.ntmps22
  go_wp2_with (first | (go_at_call 34; refine (size_n _ _ (by decide)).mono ?_; rintro e w' ⟨rfl, rfl⟩) | (go_at_call 32; refine (systemOf_any _ _).mono ?_; rintro e w' ⟨rfl, rfl⟩) | (go_at_call 40; refine (c_decimal_alphabet _).mono ?_; rintro e wx ⟨rfl, hbx⟩; replace HB := bthen HB hbx; clear hbx) | (go_at_call 35; refine (within_any _ _ _ (by omega)).mono ?_; rintro e w' ⟨rfl, rfl⟩) | (go_at_call 98; refine (c_decimal_length _).mono ?_; rintro e wx ⟨rfl, hbx⟩; replace HB := bthen HB hbx; clear hbx) | (go_at_call 99; refine (gs1_check s _ (by omega) (by omega) HDg.out).mono ?_; rintro e wx ⟨rfl, hbx⟩; replace HB := bthen HB hbx; clear hbx))
  go_ret2
  exact ⟨rfl, HB⟩
set_option maxRecDepth 20000 in
set_option maxHeartbeats 1000000 in
theorem compute_2 (s : ByteArray) (w : World) (hm : s.size ≤ 9223372036854775807) : Calls Try.prog 22 #[.int .i64 2, .string s] w fun e w' => e = .returned (.tuple #[.string (computeS 2 s).1, .int .i64 (computeS 2 s).2]) ∧ Below w.heap.size w w' := by
  have hsys : sysV 2 = .iface 73 (.agg #[]) := rfl
  have mA := m_alphabet_2
  have mL := m_length_2
  have mC := m_check_2
  by_cases hz : s.size = 0
  · have e : computeS 2 s = (ByteArray.empty, 5) := by unfold computeS; rw [if_neg (by decide), if_pos hz]
    rw [e]; clear e
    obtain ⟨hs1, hs2⟩ := empty_of s hz
    clear hz
    have HB := Below.refl w.heap.size w
    go_enter Try.func22, Try.ntmps22
    go_wp2_with (first | (go_at_call 34; refine (size_n _ _ (by decide)).mono ?_; rintro e w' ⟨rfl, rfl⟩) | (go_at_call 32; refine (systemOf_any _ _).mono ?_; rintro e w' ⟨rfl, rfl⟩) | (go_at_call 40; refine (c_decimal_alphabet _).mono ?_; rintro e wx ⟨rfl, hbx⟩; replace HB := bthen HB hbx; clear hbx) | (go_at_call 35; refine (within_any _ _ _ (by omega)).mono ?_; rintro e w' ⟨rfl, rfl⟩) | (go_at_call 98; refine (c_decimal_length _).mono ?_; rintro e wx ⟨rfl, hbx⟩; replace HB := bthen HB hbx; clear hbx) | (go_at_call 114; refine (luhn_check s _ (by omega) (by omega) (by assumption)).mono ?_; rintro e wx ⟨rfl, hbx⟩; replace HB := bthen HB hbx; clear hbx))
    go_ret2
    exact ⟨rfl, HB⟩
  have hs2 := nonempty_of s hz
  by_cases hl : 4096 < s.size
  · have e : computeS 2 s = (ByteArray.empty, 4) := by unfold computeS; rw [if_neg (by decide), if_neg hz, if_pos hl]
    rw [e]; clear e
    have HB := Below.refl w.heap.size w
    go_enter Try.func22, Try.ntmps22
    go_wp2_with (first | (go_at_call 34; refine (size_n _ _ (by decide)).mono ?_; rintro e w' ⟨rfl, rfl⟩) | (go_at_call 32; refine (systemOf_any _ _).mono ?_; rintro e w' ⟨rfl, rfl⟩) | (go_at_call 40; refine (c_decimal_alphabet _).mono ?_; rintro e wx ⟨rfl, hbx⟩; replace HB := bthen HB hbx; clear hbx) | (go_at_call 35; refine (within_any _ _ _ (by omega)).mono ?_; rintro e w' ⟨rfl, rfl⟩) | (go_at_call 98; refine (c_decimal_length _).mono ?_; rintro e wx ⟨rfl, hbx⟩; replace HB := bthen HB hbx; clear hbx) | (go_at_call 114; refine (luhn_check s _ (by omega) (by omega) (by assumption)).mono ?_; rintro e wx ⟨rfl, hbx⟩; replace HB := bthen HB hbx; clear hbx))
    go_ret2
    exact ⟨rfl, HB⟩
  have hl' : ¬ 4096 < s.size := hl
  by_cases hw : withinB s alpha10 = false
  · have e : computeS 2 s = (ByteArray.empty, 6) := by unfold computeS; rw [if_neg (by decide), if_neg hz, if_neg hl, if_pos (show withinB s (alphaS 2) = false from hw)]
    rw [e]; clear e
    have HB := Below.refl w.heap.size w
    go_enter Try.func22, Try.ntmps22
    go_wp2_with (first | (go_at_call 34; refine (size_n _ _ (by decide)).mono ?_; rintro e w' ⟨rfl, rfl⟩) | (go_at_call 32; refine (systemOf_any _ _).mono ?_; rintro e w' ⟨rfl, rfl⟩) | (go_at_call 40; refine (c_decimal_alphabet _).mono ?_; rintro e wx ⟨rfl, hbx⟩; replace HB := bthen HB hbx; clear hbx) | (go_at_call 35; refine (within_any _ _ _ (by omega)).mono ?_; rintro e w' ⟨rfl, rfl⟩) | (go_at_call 98; refine (c_decimal_length _).mono ?_; rintro e wx ⟨rfl, hbx⟩; replace HB := bthen HB hbx; clear hbx) | (go_at_call 114; refine (luhn_check s _ (by omega) (by omega) (by assumption)).mono ?_; rintro e wx ⟨rfl, hbx⟩; replace HB := bthen HB hbx; clear hbx))
    go_ret2
    exact ⟨rfl, HB⟩
  have hw1 : withinB s alpha10 = true := by simpa using hw
  have HDg : Hid (Digs s) := digs_of s hw1
  have e : computeS 2 s = (checkS 2 s, 0) := by unfold computeS; rw [if_neg (by decide), if_neg hz, if_neg hl, if_neg (show ¬ withinB s (alphaS 2) = false from hw), if_neg (by omega)]
  rw [e]; clear e hw
  have HB := Below.refl w.heap.size w
  go_enter Try.func22, Try.ntmps22
  go_wp2_with (first | (go_at_call 34; refine (size_n _ _ (by decide)).mono ?_; rintro e w' ⟨rfl, rfl⟩) | (go_at_call 32; refine (systemOf_any _ _).mono ?_; rintro e w' ⟨rfl, rfl⟩) | (go_at_call 40; refine (c_decimal_alphabet _).mono ?_; rintro e wx ⟨rfl, hbx⟩; replace HB := bthen HB hbx; clear hbx) | (go_at_call 35; refine (within_any _ _ _ (by omega)).mono ?_; rintro e w' ⟨rfl, rfl⟩) | (go_at_call 98; refine (c_decimal_length _).mono ?_; rintro e wx ⟨rfl, hbx⟩; replace HB := bthen HB hbx; clear hbx) | (go_at_call 114; refine (luhn_check s _ (by omega) (by omega) HDg.out).mono ?_; rintro e wx ⟨rfl, hbx⟩; replace HB := bthen HB hbx; clear hbx))
  go_ret2
  exact ⟨rfl, HB⟩
set_option maxRecDepth 20000 in
set_option maxHeartbeats 1000000 in
theorem compute_3 (s : ByteArray) (w : World) (hm : s.size ≤ 9223372036854775807) : Calls Try.prog 22 #[.int .i64 3, .string s] w fun e w' => e = .returned (.tuple #[.string (computeS 3 s).1, .int .i64 (computeS 3 s).2]) ∧ Below w.heap.size w w' := by
  have hsys : sysV 3 = .iface 76 (.agg #[]) := rfl
  have mA := m_alphabet_3
  have mL := m_length_3
  have mC := m_check_3
  by_cases hz : s.size = 0
  · have e : computeS 3 s = (ByteArray.empty, 5) := by unfold computeS; rw [if_neg (by decide), if_pos hz]
    rw [e]; clear e
    obtain ⟨hs1, hs2⟩ := empty_of s hz
    clear hz
    have HB := Below.refl w.heap.size w
    go_enter Try.func22, Try.ntmps22
    go_wp2_with (first | (go_at_call 34; refine (size_n _ _ (by decide)).mono ?_; rintro e w' ⟨rfl, rfl⟩) | (go_at_call 32; refine (systemOf_any _ _).mono ?_; rintro e w' ⟨rfl, rfl⟩) | (go_at_call 40; refine (c_decimal_alphabet _).mono ?_; rintro e wx ⟨rfl, hbx⟩; replace HB := bthen HB hbx; clear hbx) | (go_at_call 35; refine (within_any _ _ _ (by omega)).mono ?_; rintro e w' ⟨rfl, rfl⟩) | (go_at_call 117; refine (c_isbn_length _).mono ?_; rintro e wx ⟨rfl, hbx⟩; replace HB := bthen HB hbx; clear hbx) | (go_at_call 116; refine (isbn_check s _ (by omega) (by omega) (by assumption)).mono ?_; rintro e wx ⟨rfl, hbx⟩; replace HB := bthen HB hbx; clear hbx))
    go_ret2
    exact ⟨rfl, HB⟩
  have hs2 := nonempty_of s hz
  by_cases hl : 4096 < s.size
  · have e : computeS 3 s = (ByteArray.empty, 4) := by unfold computeS; rw [if_neg (by decide), if_neg hz, if_pos hl]
    rw [e]; clear e
    have HB := Below.refl w.heap.size w
    go_enter Try.func22, Try.ntmps22
    go_wp2_with (first | (go_at_call 34; refine (size_n _ _ (by decide)).mono ?_; rintro e w' ⟨rfl, rfl⟩) | (go_at_call 32; refine (systemOf_any _ _).mono ?_; rintro e w' ⟨rfl, rfl⟩) | (go_at_call 40; refine (c_decimal_alphabet _).mono ?_; rintro e wx ⟨rfl, hbx⟩; replace HB := bthen HB hbx; clear hbx) | (go_at_call 35; refine (within_any _ _ _ (by omega)).mono ?_; rintro e w' ⟨rfl, rfl⟩) | (go_at_call 117; refine (c_isbn_length _).mono ?_; rintro e wx ⟨rfl, hbx⟩; replace HB := bthen HB hbx; clear hbx) | (go_at_call 116; refine (isbn_check s _ (by omega) (by omega) (by assumption)).mono ?_; rintro e wx ⟨rfl, hbx⟩; replace HB := bthen HB hbx; clear hbx))
    go_ret2
    exact ⟨rfl, HB⟩
  have hl' : ¬ 4096 < s.size := hl
  by_cases hw : withinB s alpha10 = false
  · have e : computeS 3 s = (ByteArray.empty, 6) := by unfold computeS; rw [if_neg (by decide), if_neg hz, if_neg hl, if_pos (show withinB s (alphaS 3) = false from hw)]
    rw [e]; clear e
    have HB := Below.refl w.heap.size w
    go_enter Try.func22, Try.ntmps22
    go_wp2_with (first | (go_at_call 34; refine (size_n _ _ (by decide)).mono ?_; rintro e w' ⟨rfl, rfl⟩) | (go_at_call 32; refine (systemOf_any _ _).mono ?_; rintro e w' ⟨rfl, rfl⟩) | (go_at_call 40; refine (c_decimal_alphabet _).mono ?_; rintro e wx ⟨rfl, hbx⟩; replace HB := bthen HB hbx; clear hbx) | (go_at_call 35; refine (within_any _ _ _ (by omega)).mono ?_; rintro e w' ⟨rfl, rfl⟩) | (go_at_call 117; refine (c_isbn_length _).mono ?_; rintro e wx ⟨rfl, hbx⟩; replace HB := bthen HB hbx; clear hbx) | (go_at_call 116; refine (isbn_check s _ (by omega) (by omega) (by assumption)).mono ?_; rintro e wx ⟨rfl, hbx⟩; replace HB := bthen HB hbx; clear hbx))
    go_ret2
    exact ⟨rfl, HB⟩
  have hw1 : withinB s alpha10 = true := by simpa using hw
  have HDg : Hid (Digs s) := digs_of s hw1
  by_cases h9 : s.size = 9
  · have e : computeS 3 s = (checkS 3 s, 0) := by unfold computeS; rw [if_neg (by decide), if_neg hz, if_neg hl, if_neg (show ¬ withinB s (alphaS 3) = false from hw), if_neg (by omega)]
    have h9b : ((s.size : Int) == 9) = true := beq_iff_eq.mpr (by omega)
    have h9c : ((s.size : Int) != 9) = false := bne_eq_false_iff_eq.mpr (by omega)
    rw [e]; clear e hw
    have H9 := Lib.hid h9; clear h9
    have hlow : 0 < s.size := by omega
    have hhigh : s.size ≤ 4096 := by omega
    clear hz hl hl'
    have HB := Below.refl w.heap.size w
    go_enter Try.func22, Try.ntmps22
    go_wp2_with (first | (go_at_call 34; refine (size_n _ _ (by decide)).mono ?_; rintro e w' ⟨rfl, rfl⟩) | (go_at_call 32; refine (systemOf_any _ _).mono ?_; rintro e w' ⟨rfl, rfl⟩) | (go_at_call 40; refine (c_decimal_alphabet _).mono ?_; rintro e wx ⟨rfl, hbx⟩; replace HB := bthen HB hbx; clear hbx) | (go_at_call 35; refine (within_any _ _ _ hhigh).mono ?_; rintro e w' ⟨rfl, rfl⟩) | (go_at_call 117; refine (c_isbn_length _).mono ?_; rintro e wx ⟨rfl, hbx⟩; replace HB := bthen HB hbx; clear hbx) | (go_at_call 116; refine (isbn_check s _ hhigh hlow HDg.out).mono ?_; rintro e wx ⟨rfl, hbx⟩; replace HB := bthen HB hbx; clear hbx))
    go_ret2
    exact ⟨rfl, HB⟩
  · have e : computeS 3 s = (ByteArray.empty, 7) := by unfold computeS; rw [if_neg (by decide), if_neg hz, if_neg hl, if_neg (show ¬ withinB s (alphaS 3) = false from hw), if_pos ⟨rfl, h9⟩]
    have h9b : ((s.size : Int) == 9) = false := beq_eq_false_iff_ne.mpr (by omega)
    have h9c : ((s.size : Int) != 9) = true := bne_iff_ne.mpr (by omega)
    rw [e]; clear e h9 hw
    have HB := Below.refl w.heap.size w
    go_enter Try.func22, Try.ntmps22
    go_wp2_with (first | (go_at_call 34; refine (size_n _ _ (by decide)).mono ?_; rintro e w' ⟨rfl, rfl⟩) | (go_at_call 32; refine (systemOf_any _ _).mono ?_; rintro e w' ⟨rfl, rfl⟩) | (go_at_call 40; refine (c_decimal_alphabet _).mono ?_; rintro e wx ⟨rfl, hbx⟩; replace HB := bthen HB hbx; clear hbx) | (go_at_call 35; refine (within_any _ _ _ (by omega)).mono ?_; rintro e w' ⟨rfl, rfl⟩) | (go_at_call 117; refine (c_isbn_length _).mono ?_; rintro e wx ⟨rfl, hbx⟩; replace HB := bthen HB hbx; clear hbx) | (go_at_call 116; refine (isbn_check s _ (by omega) (by omega) HDg.out).mono ?_; rintro e wx ⟨rfl, hbx⟩; replace HB := bthen HB hbx; clear hbx))
    go_ret2
    exact ⟨rfl, HB⟩
set_option maxRecDepth 20000 in
set_option maxHeartbeats 1000000 in
theorem compute_4 (s : ByteArray) (w : World) (hm : s.size ≤ 9223372036854775807) : Calls Try.prog 22 #[.int .i64 4, .string s] w fun e w' => e = .returned (.tuple #[.string (computeS 4 s).1, .int .i64 (computeS 4 s).2]) ∧ Below w.heap.size w w' := by
  have hsys : sysV 4 = .iface 77 (.agg #[]) := rfl
  have mA := m_alphabet_4
  have mL := m_length_4
  have mC := m_check_4
  by_cases hz : s.size = 0
  · have e : computeS 4 s = (ByteArray.empty, 5) := by unfold computeS; rw [if_neg (by decide), if_pos hz]
    rw [e]; clear e
    obtain ⟨hs1, hs2⟩ := empty_of s hz
    clear hz
    have HB := Below.refl w.heap.size w
    go_enter Try.func22, Try.ntmps22
    go_wp2_with (first | (go_at_call 34; refine (size_n _ _ (by decide)).mono ?_; rintro e w' ⟨rfl, rfl⟩) | (go_at_call 32; refine (systemOf_any _ _).mono ?_; rintro e w' ⟨rfl, rfl⟩) | (go_at_call 40; refine (c_decimal_alphabet _).mono ?_; rintro e wx ⟨rfl, hbx⟩; replace HB := bthen HB hbx; clear hbx) | (go_at_call 35; refine (within_any _ _ _ (by omega)).mono ?_; rintro e w' ⟨rfl, rfl⟩) | (go_at_call 98; refine (c_decimal_length _).mono ?_; rintro e wx ⟨rfl, hbx⟩; replace HB := bthen HB hbx; clear hbx) | (go_at_call 118; refine (ver_check s _ (by omega) (by omega) (by assumption)).mono ?_; rintro e wx ⟨rfl, hbx⟩; replace HB := bthen HB hbx; clear hbx))
    go_ret2
    exact ⟨rfl, HB⟩
  have hs2 := nonempty_of s hz
  by_cases hl : 4096 < s.size
  · have e : computeS 4 s = (ByteArray.empty, 4) := by unfold computeS; rw [if_neg (by decide), if_neg hz, if_pos hl]
    rw [e]; clear e
    have HB := Below.refl w.heap.size w
    go_enter Try.func22, Try.ntmps22
    go_wp2_with (first | (go_at_call 34; refine (size_n _ _ (by decide)).mono ?_; rintro e w' ⟨rfl, rfl⟩) | (go_at_call 32; refine (systemOf_any _ _).mono ?_; rintro e w' ⟨rfl, rfl⟩) | (go_at_call 40; refine (c_decimal_alphabet _).mono ?_; rintro e wx ⟨rfl, hbx⟩; replace HB := bthen HB hbx; clear hbx) | (go_at_call 35; refine (within_any _ _ _ (by omega)).mono ?_; rintro e w' ⟨rfl, rfl⟩) | (go_at_call 98; refine (c_decimal_length _).mono ?_; rintro e wx ⟨rfl, hbx⟩; replace HB := bthen HB hbx; clear hbx) | (go_at_call 118; refine (ver_check s _ (by omega) (by omega) (by assumption)).mono ?_; rintro e wx ⟨rfl, hbx⟩; replace HB := bthen HB hbx; clear hbx))
    go_ret2
    exact ⟨rfl, HB⟩
  have hl' : ¬ 4096 < s.size := hl
  by_cases hw : withinB s alpha10 = false
  · have e : computeS 4 s = (ByteArray.empty, 6) := by unfold computeS; rw [if_neg (by decide), if_neg hz, if_neg hl, if_pos (show withinB s (alphaS 4) = false from hw)]
    rw [e]; clear e
    have HB := Below.refl w.heap.size w
    go_enter Try.func22, Try.ntmps22
    go_wp2_with (first | (go_at_call 34; refine (size_n _ _ (by decide)).mono ?_; rintro e w' ⟨rfl, rfl⟩) | (go_at_call 32; refine (systemOf_any _ _).mono ?_; rintro e w' ⟨rfl, rfl⟩) | (go_at_call 40; refine (c_decimal_alphabet _).mono ?_; rintro e wx ⟨rfl, hbx⟩; replace HB := bthen HB hbx; clear hbx) | (go_at_call 35; refine (within_any _ _ _ (by omega)).mono ?_; rintro e w' ⟨rfl, rfl⟩) | (go_at_call 98; refine (c_decimal_length _).mono ?_; rintro e wx ⟨rfl, hbx⟩; replace HB := bthen HB hbx; clear hbx) | (go_at_call 118; refine (ver_check s _ (by omega) (by omega) (by assumption)).mono ?_; rintro e wx ⟨rfl, hbx⟩; replace HB := bthen HB hbx; clear hbx))
    go_ret2
    exact ⟨rfl, HB⟩
  have hw1 : withinB s alpha10 = true := by simpa using hw
  have HDg : Hid (Digs s) := digs_of s hw1
  have e : computeS 4 s = (checkS 4 s, 0) := by unfold computeS; rw [if_neg (by decide), if_neg hz, if_neg hl, if_neg (show ¬ withinB s (alphaS 4) = false from hw), if_neg (by omega)]
  rw [e]; clear e hw
  have HB := Below.refl w.heap.size w
  go_enter Try.func22, Try.ntmps22
  go_wp2_with (first | (go_at_call 34; refine (size_n _ _ (by decide)).mono ?_; rintro e w' ⟨rfl, rfl⟩) | (go_at_call 32; refine (systemOf_any _ _).mono ?_; rintro e w' ⟨rfl, rfl⟩) | (go_at_call 40; refine (c_decimal_alphabet _).mono ?_; rintro e wx ⟨rfl, hbx⟩; replace HB := bthen HB hbx; clear hbx) | (go_at_call 35; refine (within_any _ _ _ (by omega)).mono ?_; rintro e w' ⟨rfl, rfl⟩) | (go_at_call 98; refine (c_decimal_length _).mono ?_; rintro e wx ⟨rfl, hbx⟩; replace HB := bthen HB hbx; clear hbx) | (go_at_call 118; refine (ver_check s _ (by omega) (by omega) HDg.out).mono ?_; rintro e wx ⟨rfl, hbx⟩; replace HB := bthen HB hbx; clear hbx))
  go_ret2
  exact ⟨rfl, HB⟩
set_option maxRecDepth 20000 in
set_option maxHeartbeats 1000000 in
theorem compute_5 (s : ByteArray) (w : World) (hm : s.size ≤ 9223372036854775807) : Calls Try.prog 22 #[.int .i64 5, .string s] w fun e w' => e = .returned (.tuple #[.string (computeS 5 s).1, .int .i64 (computeS 5 s).2]) ∧ Below w.heap.size w w' := by
  have hsys : sysV 5 = .iface 78 (.agg #[]) := rfl
  have mA := m_alphabet_5
  have mL := m_length_5
  have mC := m_check_5
  by_cases hz : s.size = 0
  · have e : computeS 5 s = (ByteArray.empty, 5) := by unfold computeS; rw [if_neg (by decide), if_pos hz]
    rw [e]; clear e
    obtain ⟨hs1, hs2⟩ := empty_of s hz
    clear hz
    have HB := Below.refl w.heap.size w
    go_enter Try.func22, Try.ntmps22
    go_wp2_with (first | (go_at_call 34; refine (size_n _ _ (by decide)).mono ?_; rintro e w' ⟨rfl, rfl⟩) | (go_at_call 32; refine (systemOf_any _ _).mono ?_; rintro e w' ⟨rfl, rfl⟩) | (go_at_call 40; refine (c_decimal_alphabet _).mono ?_; rintro e wx ⟨rfl, hbx⟩; replace HB := bthen HB hbx; clear hbx) | (go_at_call 35; refine (within_any _ _ _ (by omega)).mono ?_; rintro e w' ⟨rfl, rfl⟩) | (go_at_call 98; refine (c_decimal_length _).mono ?_; rintro e wx ⟨rfl, hbx⟩; replace HB := bthen HB hbx; clear hbx) | (go_at_call 120; refine (damm_check s _ (by omega)  (by assumption)).mono ?_; rintro e wx ⟨rfl, hbx⟩; replace HB := bthen HB hbx; clear hbx))
    go_ret2
    exact ⟨rfl, HB⟩
  have hs2 := nonempty_of s hz
  by_cases hl : 4096 < s.size
  · have e : computeS 5 s = (ByteArray.empty, 4) := by unfold computeS; rw [if_neg (by decide), if_neg hz, if_pos hl]
    rw [e]; clear e
    have HB := Below.refl w.heap.size w
    go_enter Try.func22, Try.ntmps22
    go_wp2_with (first | (go_at_call 34; refine (size_n _ _ (by decide)).mono ?_; rintro e w' ⟨rfl, rfl⟩) | (go_at_call 32; refine (systemOf_any _ _).mono ?_; rintro e w' ⟨rfl, rfl⟩) | (go_at_call 40; refine (c_decimal_alphabet _).mono ?_; rintro e wx ⟨rfl, hbx⟩; replace HB := bthen HB hbx; clear hbx) | (go_at_call 35; refine (within_any _ _ _ (by omega)).mono ?_; rintro e w' ⟨rfl, rfl⟩) | (go_at_call 98; refine (c_decimal_length _).mono ?_; rintro e wx ⟨rfl, hbx⟩; replace HB := bthen HB hbx; clear hbx) | (go_at_call 120; refine (damm_check s _ (by omega)  (by assumption)).mono ?_; rintro e wx ⟨rfl, hbx⟩; replace HB := bthen HB hbx; clear hbx))
    go_ret2
    exact ⟨rfl, HB⟩
  have hl' : ¬ 4096 < s.size := hl
  by_cases hw : withinB s alpha10 = false
  · have e : computeS 5 s = (ByteArray.empty, 6) := by unfold computeS; rw [if_neg (by decide), if_neg hz, if_neg hl, if_pos (show withinB s (alphaS 5) = false from hw)]
    rw [e]; clear e
    have HB := Below.refl w.heap.size w
    go_enter Try.func22, Try.ntmps22
    go_wp2_with (first | (go_at_call 34; refine (size_n _ _ (by decide)).mono ?_; rintro e w' ⟨rfl, rfl⟩) | (go_at_call 32; refine (systemOf_any _ _).mono ?_; rintro e w' ⟨rfl, rfl⟩) | (go_at_call 40; refine (c_decimal_alphabet _).mono ?_; rintro e wx ⟨rfl, hbx⟩; replace HB := bthen HB hbx; clear hbx) | (go_at_call 35; refine (within_any _ _ _ (by omega)).mono ?_; rintro e w' ⟨rfl, rfl⟩) | (go_at_call 98; refine (c_decimal_length _).mono ?_; rintro e wx ⟨rfl, hbx⟩; replace HB := bthen HB hbx; clear hbx) | (go_at_call 120; refine (damm_check s _ (by omega)  (by assumption)).mono ?_; rintro e wx ⟨rfl, hbx⟩; replace HB := bthen HB hbx; clear hbx))
    go_ret2
    exact ⟨rfl, HB⟩
  have hw1 : withinB s alpha10 = true := by simpa using hw
  have HDg : Hid (Digs s) := digs_of s hw1
  have e : computeS 5 s = (checkS 5 s, 0) := by unfold computeS; rw [if_neg (by decide), if_neg hz, if_neg hl, if_neg (show ¬ withinB s (alphaS 5) = false from hw), if_neg (by omega)]
  rw [e]; clear e hw
  have HB := Below.refl w.heap.size w
  go_enter Try.func22, Try.ntmps22
  go_wp2_with (first | (go_at_call 34; refine (size_n _ _ (by decide)).mono ?_; rintro e w' ⟨rfl, rfl⟩) | (go_at_call 32; refine (systemOf_any _ _).mono ?_; rintro e w' ⟨rfl, rfl⟩) | (go_at_call 40; refine (c_decimal_alphabet _).mono ?_; rintro e wx ⟨rfl, hbx⟩; replace HB := bthen HB hbx; clear hbx) | (go_at_call 35; refine (within_any _ _ _ (by omega)).mono ?_; rintro e w' ⟨rfl, rfl⟩) | (go_at_call 98; refine (c_decimal_length _).mono ?_; rintro e wx ⟨rfl, hbx⟩; replace HB := bthen HB hbx; clear hbx) | (go_at_call 120; refine (damm_check s _ (by omega)  HDg.out).mono ?_; rintro e wx ⟨rfl, hbx⟩; replace HB := bthen HB hbx; clear hbx))
  go_ret2
  exact ⟨rfl, HB⟩
set_option maxRecDepth 20000 in
set_option maxHeartbeats 1000000 in
theorem compute_6 (s : ByteArray) (w : World) (hm : s.size ≤ 9223372036854775807) : Calls Try.prog 22 #[.int .i64 6, .string s] w fun e w' => e = .returned (.tuple #[.string (computeS 6 s).1, .int .i64 (computeS 6 s).2]) ∧ Below w.heap.size w w' := by
  have hsys : sysV 6 = .iface 79 (.agg #[]) := rfl
  have mA := m_alphabet_6
  have mL := m_length_6
  have mC := m_check_6
  by_cases hz : s.size = 0
  · have e : computeS 6 s = (ByteArray.empty, 5) := by unfold computeS; rw [if_neg (by decide), if_pos hz]
    rw [e]; clear e
    obtain ⟨hs1, hs2⟩ := empty_of s hz
    clear hz
    have HB := Below.refl w.heap.size w
    go_enter Try.func22, Try.ntmps22
    go_wp2_with (first | (go_at_call 34; refine (size_6 _).mono ?_; rintro e w' ⟨rfl, rfl⟩) | (go_at_call 32; refine (systemOf_any _ _).mono ?_; rintro e w' ⟨rfl, rfl⟩) | (go_at_call 40; refine (c_decimal_alphabet _).mono ?_; rintro e wx ⟨rfl, hbx⟩; replace HB := bthen HB hbx; clear hbx) | (go_at_call 35; refine (within_any _ _ _ (by omega)).mono ?_; rintro e w' ⟨rfl, rfl⟩) | (go_at_call 98; refine (c_decimal_length _).mono ?_; rintro e wx ⟨rfl, hbx⟩; replace HB := bthen HB hbx; clear hbx) | (go_at_call 121; refine (i97_check s _ (by omega)  (by assumption)).mono ?_; rintro e wx ⟨rfl, hbx⟩; replace HB := bthen HB hbx; clear hbx))
    go_ret2
    exact ⟨rfl, HB⟩
  have hs2 := nonempty_of s hz
  by_cases hl : 4096 < s.size
  · have e : computeS 6 s = (ByteArray.empty, 4) := by unfold computeS; rw [if_neg (by decide), if_neg hz, if_pos hl]
    rw [e]; clear e
    have HB := Below.refl w.heap.size w
    go_enter Try.func22, Try.ntmps22
    go_wp2_with (first | (go_at_call 34; refine (size_6 _).mono ?_; rintro e w' ⟨rfl, rfl⟩) | (go_at_call 32; refine (systemOf_any _ _).mono ?_; rintro e w' ⟨rfl, rfl⟩) | (go_at_call 40; refine (c_decimal_alphabet _).mono ?_; rintro e wx ⟨rfl, hbx⟩; replace HB := bthen HB hbx; clear hbx) | (go_at_call 35; refine (within_any _ _ _ (by omega)).mono ?_; rintro e w' ⟨rfl, rfl⟩) | (go_at_call 98; refine (c_decimal_length _).mono ?_; rintro e wx ⟨rfl, hbx⟩; replace HB := bthen HB hbx; clear hbx) | (go_at_call 121; refine (i97_check s _ (by omega)  (by assumption)).mono ?_; rintro e wx ⟨rfl, hbx⟩; replace HB := bthen HB hbx; clear hbx))
    go_ret2
    exact ⟨rfl, HB⟩
  have hl' : ¬ 4096 < s.size := hl
  by_cases hw : withinB s alpha10 = false
  · have e : computeS 6 s = (ByteArray.empty, 6) := by unfold computeS; rw [if_neg (by decide), if_neg hz, if_neg hl, if_pos (show withinB s (alphaS 6) = false from hw)]
    rw [e]; clear e
    have HB := Below.refl w.heap.size w
    go_enter Try.func22, Try.ntmps22
    go_wp2_with (first | (go_at_call 34; refine (size_6 _).mono ?_; rintro e w' ⟨rfl, rfl⟩) | (go_at_call 32; refine (systemOf_any _ _).mono ?_; rintro e w' ⟨rfl, rfl⟩) | (go_at_call 40; refine (c_decimal_alphabet _).mono ?_; rintro e wx ⟨rfl, hbx⟩; replace HB := bthen HB hbx; clear hbx) | (go_at_call 35; refine (within_any _ _ _ (by omega)).mono ?_; rintro e w' ⟨rfl, rfl⟩) | (go_at_call 98; refine (c_decimal_length _).mono ?_; rintro e wx ⟨rfl, hbx⟩; replace HB := bthen HB hbx; clear hbx) | (go_at_call 121; refine (i97_check s _ (by omega)  (by assumption)).mono ?_; rintro e wx ⟨rfl, hbx⟩; replace HB := bthen HB hbx; clear hbx))
    go_ret2
    exact ⟨rfl, HB⟩
  have hw1 : withinB s alpha10 = true := by simpa using hw
  have HDg : Hid (Digs s) := digs_of s hw1
  have e : computeS 6 s = (checkS 6 s, 0) := by unfold computeS; rw [if_neg (by decide), if_neg hz, if_neg hl, if_neg (show ¬ withinB s (alphaS 6) = false from hw), if_neg (by omega)]
  rw [e]; clear e hw
  have HB := Below.refl w.heap.size w
  go_enter Try.func22, Try.ntmps22
  go_wp2_with (first | (go_at_call 34; refine (size_6 _).mono ?_; rintro e w' ⟨rfl, rfl⟩) | (go_at_call 32; refine (systemOf_any _ _).mono ?_; rintro e w' ⟨rfl, rfl⟩) | (go_at_call 40; refine (c_decimal_alphabet _).mono ?_; rintro e wx ⟨rfl, hbx⟩; replace HB := bthen HB hbx; clear hbx) | (go_at_call 35; refine (within_any _ _ _ (by omega)).mono ?_; rintro e w' ⟨rfl, rfl⟩) | (go_at_call 98; refine (c_decimal_length _).mono ?_; rintro e wx ⟨rfl, hbx⟩; replace HB := bthen HB hbx; clear hbx) | (go_at_call 121; refine (i97_check s _ (by omega)  HDg.out).mono ?_; rintro e wx ⟨rfl, hbx⟩; replace HB := bthen HB hbx; clear hbx))
  go_ret2
  exact ⟨rfl, HB⟩
set_option maxRecDepth 20000 in
set_option maxHeartbeats 1000000 in
theorem compute_7 (s : ByteArray) (w : World) (hm : s.size ≤ 9223372036854775807) : Calls Try.prog 22 #[.int .i64 7, .string s] w fun e w' => e = .returned (.tuple #[.string (computeS 7 s).1, .int .i64 (computeS 7 s).2]) ∧ Below w.heap.size w w' := by
  have hsys : sysV 7 = .iface 80 (.agg #[]) := rfl
  have mA := m_alphabet_7
  have mL := m_length_7
  have mC := m_check_7
  by_cases hz : s.size = 0
  · have e : computeS 7 s = (ByteArray.empty, 5) := by unfold computeS; rw [if_neg (by decide), if_pos hz]
    rw [e]; clear e
    obtain ⟨hs1, hs2⟩ := empty_of s hz
    clear hz
    have HB := Below.refl w.heap.size w
    go_enter Try.func22, Try.ntmps22
    go_wp2_with (first | (go_at_call 34; refine (size_n _ _ (by decide)).mono ?_; rintro e w' ⟨rfl, rfl⟩) | (go_at_call 32; refine (systemOf_any _ _).mono ?_; rintro e w' ⟨rfl, rfl⟩) | (go_at_call 122; refine (c_code39_alphabet _).mono ?_; rintro e wx ⟨rfl, hbx⟩; replace HB := bthen HB hbx; clear hbx) | (go_at_call 35; refine (within_any _ _ _ (by omega)).mono ?_; rintro e w' ⟨rfl, rfl⟩) | (go_at_call 125; refine (c_code39_length _).mono ?_; rintro e wx ⟨rfl, hbx⟩; replace HB := bthen HB hbx; clear hbx) | (go_at_call 123; refine (c39_check s _ (by omega)  (by assumption)).mono ?_; rintro e wx ⟨rfl, hbx⟩; replace HB := bthen HB hbx; clear hbx))
    go_ret2
    exact ⟨rfl, HB⟩
  have hs2 := nonempty_of s hz
  by_cases hl : 4096 < s.size
  · have e : computeS 7 s = (ByteArray.empty, 4) := by unfold computeS; rw [if_neg (by decide), if_neg hz, if_pos hl]
    rw [e]; clear e
    have HB := Below.refl w.heap.size w
    go_enter Try.func22, Try.ntmps22
    go_wp2_with (first | (go_at_call 34; refine (size_n _ _ (by decide)).mono ?_; rintro e w' ⟨rfl, rfl⟩) | (go_at_call 32; refine (systemOf_any _ _).mono ?_; rintro e w' ⟨rfl, rfl⟩) | (go_at_call 122; refine (c_code39_alphabet _).mono ?_; rintro e wx ⟨rfl, hbx⟩; replace HB := bthen HB hbx; clear hbx) | (go_at_call 35; refine (within_any _ _ _ (by omega)).mono ?_; rintro e w' ⟨rfl, rfl⟩) | (go_at_call 125; refine (c_code39_length _).mono ?_; rintro e wx ⟨rfl, hbx⟩; replace HB := bthen HB hbx; clear hbx) | (go_at_call 123; refine (c39_check s _ (by omega)  (by assumption)).mono ?_; rintro e wx ⟨rfl, hbx⟩; replace HB := bthen HB hbx; clear hbx))
    go_ret2
    exact ⟨rfl, HB⟩
  have hl' : ¬ 4096 < s.size := hl
  by_cases hw : withinB s alpha39 = false
  · have e : computeS 7 s = (ByteArray.empty, 6) := by unfold computeS; rw [if_neg (by decide), if_neg hz, if_neg hl, if_pos (show withinB s (alphaS 7) = false from hw)]
    rw [e]; clear e
    have HB := Below.refl w.heap.size w
    go_enter Try.func22, Try.ntmps22
    go_wp2_with (first | (go_at_call 34; refine (size_n _ _ (by decide)).mono ?_; rintro e w' ⟨rfl, rfl⟩) | (go_at_call 32; refine (systemOf_any _ _).mono ?_; rintro e w' ⟨rfl, rfl⟩) | (go_at_call 122; refine (c_code39_alphabet _).mono ?_; rintro e wx ⟨rfl, hbx⟩; replace HB := bthen HB hbx; clear hbx) | (go_at_call 35; refine (within_any _ _ _ (by omega)).mono ?_; rintro e w' ⟨rfl, rfl⟩) | (go_at_call 125; refine (c_code39_length _).mono ?_; rintro e wx ⟨rfl, hbx⟩; replace HB := bthen HB hbx; clear hbx) | (go_at_call 123; refine (c39_check s _ (by omega)  (by assumption)).mono ?_; rintro e wx ⟨rfl, hbx⟩; replace HB := bthen HB hbx; clear hbx))
    go_ret2
    exact ⟨rfl, HB⟩
  have hw1 : withinB s alpha39 = true := by simpa using hw
  have HDg : Hid (Is39 s) := is39_of s hw1
  have e : computeS 7 s = (checkS 7 s, 0) := by unfold computeS; rw [if_neg (by decide), if_neg hz, if_neg hl, if_neg (show ¬ withinB s (alphaS 7) = false from hw), if_neg (by omega)]
  rw [e]; clear e hw
  have HB := Below.refl w.heap.size w
  go_enter Try.func22, Try.ntmps22
  go_wp2_with (first | (go_at_call 34; refine (size_n _ _ (by decide)).mono ?_; rintro e w' ⟨rfl, rfl⟩) | (go_at_call 32; refine (systemOf_any _ _).mono ?_; rintro e w' ⟨rfl, rfl⟩) | (go_at_call 122; refine (c_code39_alphabet _).mono ?_; rintro e wx ⟨rfl, hbx⟩; replace HB := bthen HB hbx; clear hbx) | (go_at_call 35; refine (within_any _ _ _ (by omega)).mono ?_; rintro e w' ⟨rfl, rfl⟩) | (go_at_call 125; refine (c_code39_length _).mono ?_; rintro e wx ⟨rfl, hbx⟩; replace HB := bthen HB hbx; clear hbx) | (go_at_call 123; refine (c39_check s _ (by omega)  HDg.out).mono ?_; rintro e wx ⟨rfl, hbx⟩; replace HB := bthen HB hbx; clear hbx))
  go_ret2
  exact ⟨rfl, HB⟩
set_option maxRecDepth 20000 in
set_option maxHeartbeats 1000000 in
theorem compute_8 (s : ByteArray) (w : World) (hm : s.size ≤ 9223372036854775807) : Calls Try.prog 22 #[.int .i64 8, .string s] w fun e w' => e = .returned (.tuple #[.string (computeS 8 s).1, .int .i64 (computeS 8 s).2]) ∧ Below w.heap.size w w' := by
  have hsys : sysV 8 = .iface 81 (.agg #[]) := rfl
  have mA := m_alphabet_8
  have mL := m_length_8
  have mC := m_check_8
  by_cases hz : s.size = 0
  · have e : computeS 8 s = (ByteArray.empty, 5) := by unfold computeS; rw [if_neg (by decide), if_pos hz]
    rw [e]; clear e
    obtain ⟨hs1, hs2⟩ := empty_of s hz
    clear hz
    have HB := Below.refl w.heap.size w
    go_enter Try.func22, Try.ntmps22
    go_wp2_with (first | (go_at_call 34; refine (size_n _ _ (by decide)).mono ?_; rintro e w' ⟨rfl, rfl⟩) | (go_at_call 32; refine (systemOf_any _ _).mono ?_; rintro e w' ⟨rfl, rfl⟩) | (go_at_call 40; refine (c_decimal_alphabet _).mono ?_; rintro e wx ⟨rfl, hbx⟩; replace HB := bthen HB hbx; clear hbx) | (go_at_call 35; refine (within_any _ _ _ (by omega)).mono ?_; rintro e w' ⟨rfl, rfl⟩) | (go_at_call 98; refine (c_decimal_length _).mono ?_; rintro e wx ⟨rfl, hbx⟩; replace HB := bthen HB hbx; clear hbx) | (go_at_call 126; refine (i11_check s _ (by omega)  (by assumption)).mono ?_; rintro e wx ⟨rfl, hbx⟩; replace HB := bthen HB hbx; clear hbx))
    go_ret2
    exact ⟨rfl, HB⟩
  have hs2 := nonempty_of s hz
  by_cases hl : 4096 < s.size
  · have e : computeS 8 s = (ByteArray.empty, 4) := by unfold computeS; rw [if_neg (by decide), if_neg hz, if_pos hl]
    rw [e]; clear e
    have HB := Below.refl w.heap.size w
    go_enter Try.func22, Try.ntmps22
    go_wp2_with (first | (go_at_call 34; refine (size_n _ _ (by decide)).mono ?_; rintro e w' ⟨rfl, rfl⟩) | (go_at_call 32; refine (systemOf_any _ _).mono ?_; rintro e w' ⟨rfl, rfl⟩) | (go_at_call 40; refine (c_decimal_alphabet _).mono ?_; rintro e wx ⟨rfl, hbx⟩; replace HB := bthen HB hbx; clear hbx) | (go_at_call 35; refine (within_any _ _ _ (by omega)).mono ?_; rintro e w' ⟨rfl, rfl⟩) | (go_at_call 98; refine (c_decimal_length _).mono ?_; rintro e wx ⟨rfl, hbx⟩; replace HB := bthen HB hbx; clear hbx) | (go_at_call 126; refine (i11_check s _ (by omega)  (by assumption)).mono ?_; rintro e wx ⟨rfl, hbx⟩; replace HB := bthen HB hbx; clear hbx))
    go_ret2
    exact ⟨rfl, HB⟩
  have hl' : ¬ 4096 < s.size := hl
  by_cases hw : withinB s alpha10 = false
  · have e : computeS 8 s = (ByteArray.empty, 6) := by unfold computeS; rw [if_neg (by decide), if_neg hz, if_neg hl, if_pos (show withinB s (alphaS 8) = false from hw)]
    rw [e]; clear e
    have HB := Below.refl w.heap.size w
    go_enter Try.func22, Try.ntmps22
    go_wp2_with (first | (go_at_call 34; refine (size_n _ _ (by decide)).mono ?_; rintro e w' ⟨rfl, rfl⟩) | (go_at_call 32; refine (systemOf_any _ _).mono ?_; rintro e w' ⟨rfl, rfl⟩) | (go_at_call 40; refine (c_decimal_alphabet _).mono ?_; rintro e wx ⟨rfl, hbx⟩; replace HB := bthen HB hbx; clear hbx) | (go_at_call 35; refine (within_any _ _ _ (by omega)).mono ?_; rintro e w' ⟨rfl, rfl⟩) | (go_at_call 98; refine (c_decimal_length _).mono ?_; rintro e wx ⟨rfl, hbx⟩; replace HB := bthen HB hbx; clear hbx) | (go_at_call 126; refine (i11_check s _ (by omega)  (by assumption)).mono ?_; rintro e wx ⟨rfl, hbx⟩; replace HB := bthen HB hbx; clear hbx))
    go_ret2
    exact ⟨rfl, HB⟩
  have hw1 : withinB s alpha10 = true := by simpa using hw
  have HDg : Hid (Digs s) := digs_of s hw1
  have e : computeS 8 s = (checkS 8 s, 0) := by unfold computeS; rw [if_neg (by decide), if_neg hz, if_neg hl, if_neg (show ¬ withinB s (alphaS 8) = false from hw), if_neg (by omega)]
  rw [e]; clear e hw
  have HB := Below.refl w.heap.size w
  go_enter Try.func22, Try.ntmps22
  go_wp2_with (first | (go_at_call 34; refine (size_n _ _ (by decide)).mono ?_; rintro e w' ⟨rfl, rfl⟩) | (go_at_call 32; refine (systemOf_any _ _).mono ?_; rintro e w' ⟨rfl, rfl⟩) | (go_at_call 40; refine (c_decimal_alphabet _).mono ?_; rintro e wx ⟨rfl, hbx⟩; replace HB := bthen HB hbx; clear hbx) | (go_at_call 35; refine (within_any _ _ _ (by omega)).mono ?_; rintro e w' ⟨rfl, rfl⟩) | (go_at_call 98; refine (c_decimal_length _).mono ?_; rintro e wx ⟨rfl, hbx⟩; replace HB := bthen HB hbx; clear hbx) | (go_at_call 126; refine (i11_check s _ (by omega)  HDg.out).mono ?_; rintro e wx ⟨rfl, hbx⟩; replace HB := bthen HB hbx; clear hbx))
  go_ret2
  exact ⟨rfl, HB⟩
end Go.Proofs.Ytcfgfeamcckmjaa.Chk
