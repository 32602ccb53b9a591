/-
  Checkdigit, part I: Verify, Compute and Size as contracts in the print's form.
-/
import Derived.Test.YtcfgfeamcckmjaaChkH
namespace Go.Proofs.Ytcfgfeamcckmjaa.Chk
open Go.RowKit Go.Proofs.YtcfgfeamcckmjaaW.PrintWords Go.Proofs.YtcfgfeamcckmjaaW.PrintLast
set_option linter.unusedVariables false
set_option linter.unusedSimpArgs false

theorem e_code39_alphabet (w : World) : (callFunc 122 #[.agg #[]]).run Try.prog w = .ok (.enter 122 #[.agg #[]]) w := enters_ Try.func122 (by kernel_rfl) rfl _ _
theorem e_code39_extra (w : World) : (callFunc 124 #[.agg #[]]).run Try.prog w = .ok (.enter 124 #[.agg #[]]) w := enters_ Try.func124 (by kernel_rfl) rfl _ _
theorem e_decimal_alphabet (w : World) : (callFunc 40 #[.agg #[]]).run Try.prog w = .ok (.enter 40 #[.agg #[]]) w := enters_ Try.func40 (by kernel_rfl) rfl _ _
theorem e_decimal_extra (w : World) : (callFunc 97 #[.agg #[]]).run Try.prog w = .ok (.enter 97 #[.agg #[]]) w := enters_ Try.func97 (by kernel_rfl) rfl _ _
theorem e_withX_extra (w : World) : (callFunc 115 #[.agg #[]]).run Try.prog w = .ok (.enter 115 #[.agg #[]]) w := enters_ Try.func115 (by kernel_rfl) rfl _ _
theorem e_check_1 (v : Value) (w : World) : (callFunc 99 #[.agg #[], v]).run Try.prog w = .ok (.enter 99 #[.agg #[], v]) w := enters_ Try.func99 (by kernel_rfl) rfl _ _
theorem n_check_1 (w : World) : (nilAhead 237 72 (.agg #[]) "barscan/checkdigit.check").run Try.prog w = .ok (some false) w := by kernel_rfl
theorem e_check_2 (v : Value) (w : World) : (callFunc 114 #[.agg #[], v]).run Try.prog w = .ok (.enter 114 #[.agg #[], v]) w := enters_ Try.func114 (by kernel_rfl) rfl _ _
theorem n_check_2 (w : World) : (nilAhead 237 73 (.agg #[]) "barscan/checkdigit.check").run Try.prog w = .ok (some false) w := by kernel_rfl
theorem e_check_3 (v : Value) (w : World) : (callFunc 116 #[.agg #[], v]).run Try.prog w = .ok (.enter 116 #[.agg #[], v]) w := enters_ Try.func116 (by kernel_rfl) rfl _ _
theorem n_check_3 (w : World) : (nilAhead 237 76 (.agg #[]) "barscan/checkdigit.check").run Try.prog w = .ok (some false) w := by kernel_rfl
theorem e_check_4 (v : Value) (w : World) : (callFunc 118 #[.agg #[], v]).run Try.prog w = .ok (.enter 118 #[.agg #[], v]) w := enters_ Try.func118 (by kernel_rfl) rfl _ _
theorem n_check_4 (w : World) : (nilAhead 237 77 (.agg #[]) "barscan/checkdigit.check").run Try.prog w = .ok (some false) w := by kernel_rfl
theorem e_check_5 (v : Value) (w : World) : (callFunc 120 #[.agg #[], v]).run Try.prog w = .ok (.enter 120 #[.agg #[], v]) w := enters_ Try.func120 (by kernel_rfl) rfl _ _
theorem n_check_5 (w : World) : (nilAhead 237 78 (.agg #[]) "barscan/checkdigit.check").run Try.prog w = .ok (some false) w := by kernel_rfl
theorem e_check_6 (v : Value) (w : World) : (callFunc 121 #[.agg #[], v]).run Try.prog w = .ok (.enter 121 #[.agg #[], v]) w := enters_ Try.func121 (by kernel_rfl) rfl _ _
theorem n_check_6 (w : World) : (nilAhead 237 79 (.agg #[]) "barscan/checkdigit.check").run Try.prog w = .ok (some false) w := by kernel_rfl
theorem e_check_7 (v : Value) (w : World) : (callFunc 123 #[.agg #[], v]).run Try.prog w = .ok (.enter 123 #[.agg #[], v]) w := enters_ Try.func123 (by kernel_rfl) rfl _ _
theorem n_check_7 (w : World) : (nilAhead 237 80 (.agg #[]) "barscan/checkdigit.check").run Try.prog w = .ok (some false) w := by kernel_rfl
theorem e_check_8 (v : Value) (w : World) : (callFunc 126 #[.agg #[], v]).run Try.prog w = .ok (.enter 126 #[.agg #[], v]) w := enters_ Try.func126 (by kernel_rfl) rfl _ _
theorem n_check_8 (w : World) : (nilAhead 237 81 (.agg #[]) "barscan/checkdigit.check").run Try.prog w = .ok (some false) w := by kernel_rfl

theorem wrong_lt (k : Int) (n : Nat) (h : wrongB k n = false) : sizeS k < n := by
  simp [wrongB] at h; omega
theorem verify_1 (s : ByteArray) (w : World) (hm : s.size ≤ 9223372036854775807) : Calls Try.prog 13 #[.int .i64 1, .string s] w fun e w' => e = .returned (.int .i64 (verifyS 1 s)) ∧ Below w.heap.size w w' := by
  by_cases hl : 4096 < s.size
  · have e : verifyS 1 s = 4 := by unfold verifyS; rw [if_neg (by decide), if_pos hl]
    rw [e]; exact verify_long 1 72 40 97 99 1 alpha10 ByteArray.empty rfl (by decide) (by decide) (by decide) m_alphabet_1 m_extra_1 m_check_1 n_check_1 e_decimal_alphabet e_decimal_extra e_check_1 c_decimal_alphabet c_decimal_extra (fun s w h1 h2 h3 => gs1_check s w h1 h2 (digs_of s h3)) (fun n w h => wrong_1 n w h) (fun w => size_n _ w (by decide)) s w hl hm
  have hl' : s.size ≤ 4096 := by omega
  by_cases hw : wrongB 1 s.size = true
  · have e : verifyS 1 s = 7 := by unfold verifyS; rw [if_neg (by decide), if_neg hl, if_pos hw]
    rw [e]; exact verify_len 1 72 40 97 99 1 alpha10 ByteArray.empty rfl (by decide) (by decide) (by decide) m_alphabet_1 m_extra_1 m_check_1 n_check_1 e_decimal_alphabet e_decimal_extra e_check_1 c_decimal_alphabet c_decimal_extra (fun s w h1 h2 h3 => gs1_check s w h1 h2 (digs_of s h3)) (fun n w h => wrong_1 n w h) (fun w => size_n _ w (by decide)) s w hl' hw
  have hw' : wrongB 1 s.size = false := by simpa using hw
  have hn : 1 < s.size := wrong_lt 1 _ hw'
  by_cases hA : withinB (s.extract 0 (s.size - 1)) alpha10 = false
  · have e : verifyS 1 s = 6 := by unfold verifyS; rw [if_neg (by decide), if_neg hl, if_neg hw, if_pos (.inl hA)]
    rw [e]; exact verify_head 1 72 40 97 99 1 alpha10 ByteArray.empty rfl (by decide) (by decide) (by decide) m_alphabet_1 m_extra_1 m_check_1 n_check_1 e_decimal_alphabet e_decimal_extra e_check_1 c_decimal_alphabet c_decimal_extra (fun s w h1 h2 h3 => gs1_check s w h1 h2 (digs_of s h3)) (fun n w h => wrong_1 n w h) (fun w => size_n _ w (by decide)) s w hl' hw' hn hA
  have hA' : withinB (s.extract 0 (s.size - 1)) alpha10 = true := by simpa using hA
  by_cases hT : withinB (s.extract (s.size - 1) s.size) (alpha10 ++ ByteArray.empty) = false
  · have e : verifyS 1 s = 6 := by unfold verifyS; rw [if_neg (by decide), if_neg hl, if_neg hw, if_pos (.inr hT)]
    rw [e]; exact verify_tail 1 72 40 97 99 1 alpha10 ByteArray.empty rfl (by decide) (by decide) (by decide) m_alphabet_1 m_extra_1 m_check_1 n_check_1 e_decimal_alphabet e_decimal_extra e_check_1 c_decimal_alphabet c_decimal_extra (fun s w h1 h2 h3 => gs1_check s w h1 h2 (digs_of s h3)) (fun n w h => wrong_1 n w h) (fun w => size_n _ w (by decide)) s w hl' hw' hn hA' hT
  have hT' : withinB (s.extract (s.size - 1) s.size) (alpha10 ++ ByteArray.empty) = true := by simpa using hT
  by_cases hc : checkS 1 (s.extract 0 (s.size - 1)) = s.extract (s.size - 1) s.size
  · have e : verifyS 1 s = 0 := by unfold verifyS; rw [if_neg (by decide), if_neg hl, if_neg hw, if_neg (fun h => h.elim hA hT)]; exact if_neg (fun h => h hc)
    rw [e]; exact verify_fin 1 72 40 97 99 1 alpha10 ByteArray.empty rfl (by decide) (by decide) (by decide) m_alphabet_1 m_extra_1 m_check_1 n_check_1 e_decimal_alphabet e_decimal_extra e_check_1 c_decimal_alphabet c_decimal_extra (fun s w h1 h2 h3 => gs1_check s w h1 h2 (digs_of s h3)) (fun n w h => wrong_1 n w h) (fun w => size_n _ w (by decide)) s w true hl' hw' hn hA' hT' (toList_eq _ _ hc)
  · have e : verifyS 1 s = 8 := by unfold verifyS; rw [if_neg (by decide), if_neg hl, if_neg hw, if_neg (fun h => h.elim hA hT)]; exact if_pos hc
    rw [e]; exact verify_fin 1 72 40 97 99 1 alpha10 ByteArray.empty rfl (by decide) (by decide) (by decide) m_alphabet_1 m_extra_1 m_check_1 n_check_1 e_decimal_alphabet e_decimal_extra e_check_1 c_decimal_alphabet c_decimal_extra (fun s w h1 h2 h3 => gs1_check s w h1 h2 (digs_of s h3)) (fun n w h => wrong_1 n w h) (fun w => size_n _ w (by decide)) s w false hl' hw' hn hA' hT' (toList_ne _ _ hc)
theorem verify_2 (s : ByteArray) (w : World) (hm : s.size ≤ 9223372036854775807) : Calls Try.prog 13 #[.int .i64 2, .string s] w fun e w' => e = .returned (.int .i64 (verifyS 2 s)) ∧ Below w.heap.size w w' := by
  by_cases hl : 4096 < s.size
  · have e : verifyS 2 s = 4 := by unfold verifyS; rw [if_neg (by decide), if_pos hl]
    rw [e]; exact verify_long 2 73 40 97 114 1 alpha10 ByteArray.empty rfl (by decide) (by decide) (by decide) m_alphabet_2 m_extra_2 m_check_2 n_check_2 e_decimal_alphabet e_decimal_extra e_check_2 c_decimal_alphabet c_decimal_extra (fun s w h1 h2 h3 => luhn_check s w h1 h2 (digs_of s h3)) (fun n w h => wrong_2 n w h) (fun w => size_n _ w (by decide)) s w hl hm
  have hl' : s.size ≤ 4096 := by omega
  by_cases hw : wrongB 2 s.size = true
  · have e : verifyS 2 s = 7 := by unfold verifyS; rw [if_neg (by decide), if_neg hl, if_pos hw]
    rw [e]; exact verify_len 2 73 40 97 114 1 alpha10 ByteArray.empty rfl (by decide) (by decide) (by decide) m_alphabet_2 m_extra_2 m_check_2 n_check_2 e_decimal_alphabet e_decimal_extra e_check_2 c_decimal_alphabet c_decimal_extra (fun s w h1 h2 h3 => luhn_check s w h1 h2 (digs_of s h3)) (fun n w h => wrong_2 n w h) (fun w => size_n _ w (by decide)) s w hl' hw
  have hw' : wrongB 2 s.size = false := by simpa using hw
  have hn : 1 < s.size := wrong_lt 2 _ hw'
  by_cases hA : withinB (s.extract 0 (s.size - 1)) alpha10 = false
  · have e : verifyS 2 s = 6 := by unfold verifyS; rw [if_neg (by decide), if_neg hl, if_neg hw, if_pos (.inl hA)]
    rw [e]; exact verify_head 2 73 40 97 114 1 alpha10 ByteArray.empty rfl (by decide) (by decide) (by decide) m_alphabet_2 m_extra_2 m_check_2 n_check_2 e_decimal_alphabet e_decimal_extra e_check_2 c_decimal_alphabet c_decimal_extra (fun s w h1 h2 h3 => luhn_check s w h1 h2 (digs_of s h3)) (fun n w h => wrong_2 n w h) (fun w => size_n _ w (by decide)) s w hl' hw' hn hA
  have hA' : withinB (s.extract 0 (s.size - 1)) alpha10 = true := by simpa using hA
  by_cases hT : withinB (s.extract (s.size - 1) s.size) (alpha10 ++ ByteArray.empty) = false
  · have e : verifyS 2 s = 6 := by unfold verifyS; rw [if_neg (by decide), if_neg hl, if_neg hw, if_pos (.inr hT)]
    rw [e]; exact verify_tail 2 73 40 97 114 1 alpha10 ByteArray.empty rfl (by decide) (by decide) (by decide) m_alphabet_2 m_extra_2 m_check_2 n_check_2 e_decimal_alphabet e_decimal_extra e_check_2 c_decimal_alphabet c_decimal_extra (fun s w h1 h2 h3 => luhn_check s w h1 h2 (digs_of s h3)) (fun n w h => wrong_2 n w h) (fun w => size_n _ w (by decide)) s w hl' hw' hn hA' hT
  have hT' : withinB (s.extract (s.size - 1) s.size) (alpha10 ++ ByteArray.empty) = true := by simpa using hT
  by_cases hc : checkS 2 (s.extract 0 (s.size - 1)) = s.extract (s.size - 1) s.size
  · have e : verifyS 2 s = 0 := by unfold verifyS; rw [if_neg (by decide), if_neg hl, if_neg hw, if_neg (fun h => h.elim hA hT)]; exact if_neg (fun h => h hc)
    rw [e]; exact verify_fin 2 73 40 97 114 1 alpha10 ByteArray.empty rfl (by decide) (by decide) (by decide) m_alphabet_2 m_extra_2 m_check_2 n_check_2 e_decimal_alphabet e_decimal_extra e_check_2 c_decimal_alphabet c_decimal_extra (fun s w h1 h2 h3 => luhn_check s w h1 h2 (digs_of s h3)) (fun n w h => wrong_2 n w h) (fun w => size_n _ w (by decide)) s w true hl' hw' hn hA' hT' (toList_eq _ _ hc)
  · have e : verifyS 2 s = 8 := by unfold verifyS; rw [if_neg (by decide), if_neg hl, if_neg hw, if_neg (fun h => h.elim hA hT)]; exact if_pos hc
    rw [e]; exact verify_fin 2 73 40 97 114 1 alpha10 ByteArray.empty rfl (by decide) (by decide) (by decide) m_alphabet_2 m_extra_2 m_check_2 n_check_2 e_decimal_alphabet e_decimal_extra e_check_2 c_decimal_alphabet c_decimal_extra (fun s w h1 h2 h3 => luhn_check s w h1 h2 (digs_of s h3)) (fun n w h => wrong_2 n w h) (fun w => size_n _ w (by decide)) s w false hl' hw' hn hA' hT' (toList_ne _ _ hc)
theorem verify_3 (s : ByteArray) (w : World) (hm : s.size ≤ 9223372036854775807) : Calls Try.prog 13 #[.int .i64 3, .string s] w fun e w' => e = .returned (.int .i64 (verifyS 3 s)) ∧ Below w.heap.size w w' := by
  by_cases hl : 4096 < s.size
  · have e : verifyS 3 s = 4 := by unfold verifyS; rw [if_neg (by decide), if_pos hl]
    rw [e]; exact verify_long 3 76 40 115 116 1 alpha10 ⟨#[88]⟩ rfl (by decide) (by decide) (by decide) m_alphabet_3 m_extra_3 m_check_3 n_check_3 e_decimal_alphabet e_withX_extra e_check_3 c_decimal_alphabet c_withX_extra (fun s w h1 h2 h3 => isbn_check s w h1 h2 (digs_of s h3)) (fun n w h => wrong_3 n w h) (fun w => size_n _ w (by decide)) s w hl hm
  have hl' : s.size ≤ 4096 := by omega
  by_cases hw : wrongB 3 s.size = true
  · have e : verifyS 3 s = 7 := by unfold verifyS; rw [if_neg (by decide), if_neg hl, if_pos hw]
    rw [e]; exact verify_len 3 76 40 115 116 1 alpha10 ⟨#[88]⟩ rfl (by decide) (by decide) (by decide) m_alphabet_3 m_extra_3 m_check_3 n_check_3 e_decimal_alphabet e_withX_extra e_check_3 c_decimal_alphabet c_withX_extra (fun s w h1 h2 h3 => isbn_check s w h1 h2 (digs_of s h3)) (fun n w h => wrong_3 n w h) (fun w => size_n _ w (by decide)) s w hl' hw
  have hw' : wrongB 3 s.size = false := by simpa using hw
  have hn : 1 < s.size := wrong_lt 3 _ hw'
  by_cases hA : withinB (s.extract 0 (s.size - 1)) alpha10 = false
  · have e : verifyS 3 s = 6 := by unfold verifyS; rw [if_neg (by decide), if_neg hl, if_neg hw, if_pos (.inl hA)]
    rw [e]; exact verify_head 3 76 40 115 116 1 alpha10 ⟨#[88]⟩ rfl (by decide) (by decide) (by decide) m_alphabet_3 m_extra_3 m_check_3 n_check_3 e_decimal_alphabet e_withX_extra e_check_3 c_decimal_alphabet c_withX_extra (fun s w h1 h2 h3 => isbn_check s w h1 h2 (digs_of s h3)) (fun n w h => wrong_3 n w h) (fun w => size_n _ w (by decide)) s w hl' hw' hn hA
  have hA' : withinB (s.extract 0 (s.size - 1)) alpha10 = true := by simpa using hA
  by_cases hT : withinB (s.extract (s.size - 1) s.size) (alpha10 ++ ⟨#[88]⟩) = false
  · have e : verifyS 3 s = 6 := by unfold verifyS; rw [if_neg (by decide), if_neg hl, if_neg hw, if_pos (.inr hT)]
    rw [e]; exact verify_tail 3 76 40 115 116 1 alpha10 ⟨#[88]⟩ rfl (by decide) (by decide) (by decide) m_alphabet_3 m_extra_3 m_check_3 n_check_3 e_decimal_alphabet e_withX_extra e_check_3 c_decimal_alphabet c_withX_extra (fun s w h1 h2 h3 => isbn_check s w h1 h2 (digs_of s h3)) (fun n w h => wrong_3 n w h) (fun w => size_n _ w (by decide)) s w hl' hw' hn hA' hT
  have hT' : withinB (s.extract (s.size - 1) s.size) (alpha10 ++ ⟨#[88]⟩) = true := by simpa using hT
  by_cases hc : checkS 3 (s.extract 0 (s.size - 1)) = s.extract (s.size - 1) s.size
  · have e : verifyS 3 s = 0 := by unfold verifyS; rw [if_neg (by decide), if_neg hl, if_neg hw, if_neg (fun h => h.elim hA hT)]; exact if_neg (fun h => h hc)
    rw [e]; exact verify_fin 3 76 40 115 116 1 alpha10 ⟨#[88]⟩ rfl (by decide) (by decide) (by decide) m_alphabet_3 m_extra_3 m_check_3 n_check_3 e_decimal_alphabet e_withX_extra e_check_3 c_decimal_alphabet c_withX_extra (fun s w h1 h2 h3 => isbn_check s w h1 h2 (digs_of s h3)) (fun n w h => wrong_3 n w h) (fun w => size_n _ w (by decide)) s w true hl' hw' hn hA' hT' (toList_eq _ _ hc)
  · have e : verifyS 3 s = 8 := by unfold verifyS; rw [if_neg (by decide), if_neg hl, if_neg hw, if_neg (fun h => h.elim hA hT)]; exact if_pos hc
    rw [e]; exact verify_fin 3 76 40 115 116 1 alpha10 ⟨#[88]⟩ rfl (by decide) (by decide) (by decide) m_alphabet_3 m_extra_3 m_check_3 n_check_3 e_decimal_alphabet e_withX_extra e_check_3 c_decimal_alphabet c_withX_extra (fun s w h1 h2 h3 => isbn_check s w h1 h2 (digs_of s h3)) (fun n w h => wrong_3 n w h) (fun w => size_n _ w (by decide)) s w false hl' hw' hn hA' hT' (toList_ne _ _ hc)
theorem verify_4 (s : ByteArray) (w : World) (hm : s.size ≤ 9223372036854775807) : Calls Try.prog 13 #[.int .i64 4, .string s] w fun e w' => e = .returned (.int .i64 (verifyS 4 s)) ∧ Below w.heap.size w w' := by
  by_cases hl : 4096 < s.size
  · have e : verifyS 4 s = 4 := by unfold verifyS; rw [if_neg (by decide), if_pos hl]
    rw [e]; exact verify_long 4 77 40 97 118 1 alpha10 ByteArray.empty rfl (by decide) (by decide) (by decide) m_alphabet_4 m_extra_4 m_check_4 n_check_4 e_decimal_alphabet e_decimal_extra e_check_4 c_decimal_alphabet c_decimal_extra (fun s w h1 h2 h3 => ver_check s w h1 h2 (digs_of s h3)) (fun n w h => wrong_4 n w h) (fun w => size_n _ w (by decide)) s w hl hm
  have hl' : s.size ≤ 4096 := by omega
  by_cases hw : wrongB 4 s.size = true
  · have e : verifyS 4 s = 7 := by unfold verifyS; rw [if_neg (by decide), if_neg hl, if_pos hw]
    rw [e]; exact verify_len 4 77 40 97 118 1 alpha10 ByteArray.empty rfl (by decide) (by decide) (by decide) m_alphabet_4 m_extra_4 m_check_4 n_check_4 e_decimal_alphabet e_decimal_extra e_check_4 c_decimal_alphabet c_decimal_extra (fun s w h1 h2 h3 => ver_check s w h1 h2 (digs_of s h3)) (fun n w h => wrong_4 n w h) (fun w => size_n _ w (by decide)) s w hl' hw
  have hw' : wrongB 4 s.size = false := by simpa using hw
  have hn : 1 < s.size := wrong_lt 4 _ hw'
  by_cases hA : withinB (s.extract 0 (s.size - 1)) alpha10 = false
  · have e : verifyS 4 s = 6 := by unfold verifyS; rw [if_neg (by decide), if_neg hl, if_neg hw, if_pos (.inl hA)]
    rw [e]; exact verify_head 4 77 40 97 118 1 alpha10 ByteArray.empty rfl (by decide) (by decide) (by decide) m_alphabet_4 m_extra_4 m_check_4 n_check_4 e_decimal_alphabet e_decimal_extra e_check_4 c_decimal_alphabet c_decimal_extra (fun s w h1 h2 h3 => ver_check s w h1 h2 (digs_of s h3)) (fun n w h => wrong_4 n w h) (fun w => size_n _ w (by decide)) s w hl' hw' hn hA
  have hA' : withinB (s.extract 0 (s.size - 1)) alpha10 = true := by simpa using hA
  by_cases hT : withinB (s.extract (s.size - 1) s.size) (alpha10 ++ ByteArray.empty) = false
  · have e : verifyS 4 s = 6 := by unfold verifyS; rw [if_neg (by decide), if_neg hl, if_neg hw, if_pos (.inr hT)]
    rw [e]; exact verify_tail 4 77 40 97 118 1 alpha10 ByteArray.empty rfl (by decide) (by decide) (by decide) m_alphabet_4 m_extra_4 m_check_4 n_check_4 e_decimal_alphabet e_decimal_extra e_check_4 c_decimal_alphabet c_decimal_extra (fun s w h1 h2 h3 => ver_check s w h1 h2 (digs_of s h3)) (fun n w h => wrong_4 n w h) (fun w => size_n _ w (by decide)) s w hl' hw' hn hA' hT
  have hT' : withinB (s.extract (s.size - 1) s.size) (alpha10 ++ ByteArray.empty) = true := by simpa using hT
  by_cases hc : checkS 4 (s.extract 0 (s.size - 1)) = s.extract (s.size - 1) s.size
  · have e : verifyS 4 s = 0 := by unfold verifyS; rw [if_neg (by decide), if_neg hl, if_neg hw, if_neg (fun h => h.elim hA hT)]; exact if_neg (fun h => h hc)
    rw [e]; exact verify_fin 4 77 40 97 118 1 alpha10 ByteArray.empty rfl (by decide) (by decide) (by decide) m_alphabet_4 m_extra_4 m_check_4 n_check_4 e_decimal_alphabet e_decimal_extra e_check_4 c_decimal_alphabet c_decimal_extra (fun s w h1 h2 h3 => ver_check s w h1 h2 (digs_of s h3)) (fun n w h => wrong_4 n w h) (fun w => size_n _ w (by decide)) s w true hl' hw' hn hA' hT' (toList_eq _ _ hc)
  · have e : verifyS 4 s = 8 := by unfold verifyS; rw [if_neg (by decide), if_neg hl, if_neg hw, if_neg (fun h => h.elim hA hT)]; exact if_pos hc
    rw [e]; exact verify_fin 4 77 40 97 118 1 alpha10 ByteArray.empty rfl (by decide) (by decide) (by decide) m_alphabet_4 m_extra_4 m_check_4 n_check_4 e_decimal_alphabet e_decimal_extra e_check_4 c_decimal_alphabet c_decimal_extra (fun s w h1 h2 h3 => ver_check s w h1 h2 (digs_of s h3)) (fun n w h => wrong_4 n w h) (fun w => size_n _ w (by decide)) s w false hl' hw' hn hA' hT' (toList_ne _ _ hc)
theorem verify_5 (s : ByteArray) (w : World) (hm : s.size ≤ 9223372036854775807) : Calls Try.prog 13 #[.int .i64 5, .string s] w fun e w' => e = .returned (.int .i64 (verifyS 5 s)) ∧ Below w.heap.size w w' := by
  by_cases hl : 4096 < s.size
  · have e : verifyS 5 s = 4 := by unfold verifyS; rw [if_neg (by decide), if_pos hl]
    rw [e]; exact verify_long 5 78 40 97 120 1 alpha10 ByteArray.empty rfl (by decide) (by decide) (by decide) m_alphabet_5 m_extra_5 m_check_5 n_check_5 e_decimal_alphabet e_decimal_extra e_check_5 c_decimal_alphabet c_decimal_extra (fun s w h1 _ h3 => damm_check s w h1 (digs_of s h3)) (fun n w h => wrong_5 n w h) (fun w => size_n _ w (by decide)) s w hl hm
  have hl' : s.size ≤ 4096 := by omega
  by_cases hw : wrongB 5 s.size = true
  · have e : verifyS 5 s = 7 := by unfold verifyS; rw [if_neg (by decide), if_neg hl, if_pos hw]
    rw [e]; exact verify_len 5 78 40 97 120 1 alpha10 ByteArray.empty rfl (by decide) (by decide) (by decide) m_alphabet_5 m_extra_5 m_check_5 n_check_5 e_decimal_alphabet e_decimal_extra e_check_5 c_decimal_alphabet c_decimal_extra (fun s w h1 _ h3 => damm_check s w h1 (digs_of s h3)) (fun n w h => wrong_5 n w h) (fun w => size_n _ w (by decide)) s w hl' hw
  have hw' : wrongB 5 s.size = false := by simpa using hw
  have hn : 1 < s.size := wrong_lt 5 _ hw'
  by_cases hA : withinB (s.extract 0 (s.size - 1)) alpha10 = false
  · have e : verifyS 5 s = 6 := by unfold verifyS; rw [if_neg (by decide), if_neg hl, if_neg hw, if_pos (.inl hA)]
    rw [e]; exact verify_head 5 78 40 97 120 1 alpha10 ByteArray.empty rfl (by decide) (by decide) (by decide) m_alphabet_5 m_extra_5 m_check_5 n_check_5 e_decimal_alphabet e_decimal_extra e_check_5 c_decimal_alphabet c_decimal_extra (fun s w h1 _ h3 => damm_check s w h1 (digs_of s h3)) (fun n w h => wrong_5 n w h) (fun w => size_n _ w (by decide)) s w hl' hw' hn hA
  have hA' : withinB (s.extract 0 (s.size - 1)) alpha10 = true := by simpa using hA
  by_cases hT : withinB (s.extract (s.size - 1) s.size) (alpha10 ++ ByteArray.empty) = false
  · have e : verifyS 5 s = 6 := by unfold verifyS; rw [if_neg (by decide), if_neg hl, if_neg hw, if_pos (.inr hT)]
    rw [e]; exact verify_tail 5 78 40 97 120 1 alpha10 ByteArray.empty rfl (by decide) (by decide) (by decide) m_alphabet_5 m_extra_5 m_check_5 n_check_5 e_decimal_alphabet e_decimal_extra e_check_5 c_decimal_alphabet c_decimal_extra (fun s w h1 _ h3 => damm_check s w h1 (digs_of s h3)) (fun n w h => wrong_5 n w h) (fun w => size_n _ w (by decide)) s w hl' hw' hn hA' hT
  have hT' : withinB (s.extract (s.size - 1) s.size) (alpha10 ++ ByteArray.empty) = true := by simpa using hT
  by_cases hc : checkS 5 (s.extract 0 (s.size - 1)) = s.extract (s.size - 1) s.size
  · have e : verifyS 5 s = 0 := by unfold verifyS; rw [if_neg (by decide), if_neg hl, if_neg hw, if_neg (fun h => h.elim hA hT)]; exact if_neg (fun h => h hc)
    rw [e]; exact verify_fin 5 78 40 97 120 1 alpha10 ByteArray.empty rfl (by decide) (by decide) (by decide) m_alphabet_5 m_extra_5 m_check_5 n_check_5 e_decimal_alphabet e_decimal_extra e_check_5 c_decimal_alphabet c_decimal_extra (fun s w h1 _ h3 => damm_check s w h1 (digs_of s h3)) (fun n w h => wrong_5 n w h) (fun w => size_n _ w (by decide)) s w true hl' hw' hn hA' hT' (toList_eq _ _ hc)
  · have e : verifyS 5 s = 8 := by unfold verifyS; rw [if_neg (by decide), if_neg hl, if_neg hw, if_neg (fun h => h.elim hA hT)]; exact if_pos hc
    rw [e]; exact verify_fin 5 78 40 97 120 1 alpha10 ByteArray.empty rfl (by decide) (by decide) (by decide) m_alphabet_5 m_extra_5 m_check_5 n_check_5 e_decimal_alphabet e_decimal_extra e_check_5 c_decimal_alphabet c_decimal_extra (fun s w h1 _ h3 => damm_check s w h1 (digs_of s h3)) (fun n w h => wrong_5 n w h) (fun w => size_n _ w (by decide)) s w false hl' hw' hn hA' hT' (toList_ne _ _ hc)
theorem verify_6 (s : ByteArray) (w : World) (hm : s.size ≤ 9223372036854775807) : Calls Try.prog 13 #[.int .i64 6, .string s] w fun e w' => e = .returned (.int .i64 (verifyS 6 s)) ∧ Below w.heap.size w w' := by
  by_cases hl : 4096 < s.size
  · have e : verifyS 6 s = 4 := by unfold verifyS; rw [if_neg (by decide), if_pos hl]
    rw [e]; exact verify_long 6 79 40 97 121 2 alpha10 ByteArray.empty rfl (by decide) (by decide) (by decide) m_alphabet_6 m_extra_6 m_check_6 n_check_6 e_decimal_alphabet e_decimal_extra e_check_6 c_decimal_alphabet c_decimal_extra (fun s w h1 _ h3 => i97_check s w h1 (digs_of s h3)) (fun n w h => wrong_6 n w h) (fun w => size_6 w) s w hl hm
  have hl' : s.size ≤ 4096 := by omega
  by_cases hw : wrongB 6 s.size = true
  · have e : verifyS 6 s = 7 := by unfold verifyS; rw [if_neg (by decide), if_neg hl, if_pos hw]
    rw [e]; exact verify_len 6 79 40 97 121 2 alpha10 ByteArray.empty rfl (by decide) (by decide) (by decide) m_alphabet_6 m_extra_6 m_check_6 n_check_6 e_decimal_alphabet e_decimal_extra e_check_6 c_decimal_alphabet c_decimal_extra (fun s w h1 _ h3 => i97_check s w h1 (digs_of s h3)) (fun n w h => wrong_6 n w h) (fun w => size_6 w) s w hl' hw
  have hw' : wrongB 6 s.size = false := by simpa using hw
  have hn : 2 < s.size := wrong_lt 6 _ hw'
  by_cases hA : withinB (s.extract 0 (s.size - 2)) alpha10 = false
  · have e : verifyS 6 s = 6 := by unfold verifyS; rw [if_neg (by decide), if_neg hl, if_neg hw, if_pos (.inl hA)]
    rw [e]; exact verify_head 6 79 40 97 121 2 alpha10 ByteArray.empty rfl (by decide) (by decide) (by decide) m_alphabet_6 m_extra_6 m_check_6 n_check_6 e_decimal_alphabet e_decimal_extra e_check_6 c_decimal_alphabet c_decimal_extra (fun s w h1 _ h3 => i97_check s w h1 (digs_of s h3)) (fun n w h => wrong_6 n w h) (fun w => size_6 w) s w hl' hw' hn hA
  have hA' : withinB (s.extract 0 (s.size - 2)) alpha10 = true := by simpa using hA
  by_cases hT : withinB (s.extract (s.size - 2) s.size) (alpha10 ++ ByteArray.empty) = false
  · have e : verifyS 6 s = 6 := by unfold verifyS; rw [if_neg (by decide), if_neg hl, if_neg hw, if_pos (.inr hT)]
    rw [e]; exact verify_tail 6 79 40 97 121 2 alpha10 ByteArray.empty rfl (by decide) (by decide) (by decide) m_alphabet_6 m_extra_6 m_check_6 n_check_6 e_decimal_alphabet e_decimal_extra e_check_6 c_decimal_alphabet c_decimal_extra (fun s w h1 _ h3 => i97_check s w h1 (digs_of s h3)) (fun n w h => wrong_6 n w h) (fun w => size_6 w) s w hl' hw' hn hA' hT
  have hT' : withinB (s.extract (s.size - 2) s.size) (alpha10 ++ ByteArray.empty) = true := by simpa using hT
  by_cases hc : checkS 6 (s.extract 0 (s.size - 2)) = s.extract (s.size - 2) s.size
  · have e : verifyS 6 s = 0 := by unfold verifyS; rw [if_neg (by decide), if_neg hl, if_neg hw, if_neg (fun h => h.elim hA hT)]; exact if_neg (fun h => h hc)
    rw [e]; exact verify_fin 6 79 40 97 121 2 alpha10 ByteArray.empty rfl (by decide) (by decide) (by decide) m_alphabet_6 m_extra_6 m_check_6 n_check_6 e_decimal_alphabet e_decimal_extra e_check_6 c_decimal_alphabet c_decimal_extra (fun s w h1 _ h3 => i97_check s w h1 (digs_of s h3)) (fun n w h => wrong_6 n w h) (fun w => size_6 w) s w true hl' hw' hn hA' hT' (toList_eq _ _ hc)
  · have e : verifyS 6 s = 8 := by unfold verifyS; rw [if_neg (by decide), if_neg hl, if_neg hw, if_neg (fun h => h.elim hA hT)]; exact if_pos hc
    rw [e]; exact verify_fin 6 79 40 97 121 2 alpha10 ByteArray.empty rfl (by decide) (by decide) (by decide) m_alphabet_6 m_extra_6 m_check_6 n_check_6 e_decimal_alphabet e_decimal_extra e_check_6 c_decimal_alphabet c_decimal_extra (fun s w h1 _ h3 => i97_check s w h1 (digs_of s h3)) (fun n w h => wrong_6 n w h) (fun w => size_6 w) s w false hl' hw' hn hA' hT' (toList_ne _ _ hc)
theorem verify_7 (s : ByteArray) (w : World) (hm : s.size ≤ 9223372036854775807) : Calls Try.prog 13 #[.int .i64 7, .string s] w fun e w' => e = .returned (.int .i64 (verifyS 7 s)) ∧ Below w.heap.size w w' := by
  by_cases hl : 4096 < s.size
  · have e : verifyS 7 s = 4 := by unfold verifyS; rw [if_neg (by decide), if_pos hl]
    rw [e]; exact verify_long 7 80 122 124 123 1 alpha39 ByteArray.empty rfl (by decide) (by decide) (by decide) m_alphabet_7 m_extra_7 m_check_7 n_check_7 e_code39_alphabet e_code39_extra e_check_7 c_code39_alphabet c_code39_extra (fun s w h1 _ h3 => c39_check s w h1 (is39_of s h3)) (fun n w h => wrong_7 n w h) (fun w => size_n _ w (by decide)) s w hl hm
  have hl' : s.size ≤ 4096 := by omega
  by_cases hw : wrongB 7 s.size = true
  · have e : verifyS 7 s = 7 := by unfold verifyS; rw [if_neg (by decide), if_neg hl, if_pos hw]
    rw [e]; exact verify_len 7 80 122 124 123 1 alpha39 ByteArray.empty rfl (by decide) (by decide) (by decide) m_alphabet_7 m_extra_7 m_check_7 n_check_7 e_code39_alphabet e_code39_extra e_check_7 c_code39_alphabet c_code39_extra (fun s w h1 _ h3 => c39_check s w h1 (is39_of s h3)) (fun n w h => wrong_7 n w h) (fun w => size_n _ w (by decide)) s w hl' hw
  have hw' : wrongB 7 s.size = false := by simpa using hw
  have hn : 1 < s.size := wrong_lt 7 _ hw'
  by_cases hA : withinB (s.extract 0 (s.size - 1)) alpha39 = false
  · have e : verifyS 7 s = 6 := by unfold verifyS; rw [if_neg (by decide), if_neg hl, if_neg hw, if_pos (.inl hA)]
    rw [e]; exact verify_head 7 80 122 124 123 1 alpha39 ByteArray.empty rfl (by decide) (by decide) (by decide) m_alphabet_7 m_extra_7 m_check_7 n_check_7 e_code39_alphabet e_code39_extra e_check_7 c_code39_alphabet c_code39_extra (fun s w h1 _ h3 => c39_check s w h1 (is39_of s h3)) (fun n w h => wrong_7 n w h) (fun w => size_n _ w (by decide)) s w hl' hw' hn hA
  have hA' : withinB (s.extract 0 (s.size - 1)) alpha39 = true := by simpa using hA
  by_cases hT : withinB (s.extract (s.size - 1) s.size) (alpha39 ++ ByteArray.empty) = false
  · have e : verifyS 7 s = 6 := by unfold verifyS; rw [if_neg (by decide), if_neg hl, if_neg hw, if_pos (.inr hT)]
    rw [e]; exact verify_tail 7 80 122 124 123 1 alpha39 ByteArray.empty rfl (by decide) (by decide) (by decide) m_alphabet_7 m_extra_7 m_check_7 n_check_7 e_code39_alphabet e_code39_extra e_check_7 c_code39_alphabet c_code39_extra (fun s w h1 _ h3 => c39_check s w h1 (is39_of s h3)) (fun n w h => wrong_7 n w h) (fun w => size_n _ w (by decide)) s w hl' hw' hn hA' hT
  have hT' : withinB (s.extract (s.size - 1) s.size) (alpha39 ++ ByteArray.empty) = true := by simpa using hT
  by_cases hc : checkS 7 (s.extract 0 (s.size - 1)) = s.extract (s.size - 1) s.size
  · have e : verifyS 7 s = 0 := by unfold verifyS; rw [if_neg (by decide), if_neg hl, if_neg hw, if_neg (fun h => h.elim hA hT)]; exact if_neg (fun h => h hc)
    rw [e]; exact verify_fin 7 80 122 124 123 1 alpha39 ByteArray.empty rfl (by decide) (by decide) (by decide) m_alphabet_7 m_extra_7 m_check_7 n_check_7 e_code39_alphabet e_code39_extra e_check_7 c_code39_alphabet c_code39_extra (fun s w h1 _ h3 => c39_check s w h1 (is39_of s h3)) (fun n w h => wrong_7 n w h) (fun w => size_n _ w (by decide)) s w true hl' hw' hn hA' hT' (toList_eq _ _ hc)
  · have e : verifyS 7 s = 8 := by unfold verifyS; rw [if_neg (by decide), if_neg hl, if_neg hw, if_neg (fun h => h.elim hA hT)]; exact if_pos hc
    rw [e]; exact verify_fin 7 80 122 124 123 1 alpha39 ByteArray.empty rfl (by decide) (by decide) (by decide) m_alphabet_7 m_extra_7 m_check_7 n_check_7 e_code39_alphabet e_code39_extra e_check_7 c_code39_alphabet c_code39_extra (fun s w h1 _ h3 => c39_check s w h1 (is39_of s h3)) (fun n w h => wrong_7 n w h) (fun w => size_n _ w (by decide)) s w false hl' hw' hn hA' hT' (toList_ne _ _ hc)
theorem verify_8 (s : ByteArray) (w : World) (hm : s.size ≤ 9223372036854775807) : Calls Try.prog 13 #[.int .i64 8, .string s] w fun e w' => e = .returned (.int .i64 (verifyS 8 s)) ∧ Below w.heap.size w w' := by
  by_cases hl : 4096 < s.size
  · have e : verifyS 8 s = 4 := by unfold verifyS; rw [if_neg (by decide), if_pos hl]
    rw [e]; exact verify_long 8 81 40 115 126 1 alpha10 ⟨#[88]⟩ rfl (by decide) (by decide) (by decide) m_alphabet_8 m_extra_8 m_check_8 n_check_8 e_decimal_alphabet e_withX_extra e_check_8 c_decimal_alphabet c_withX_extra (fun s w h1 _ h3 => i11_check s w h1 (digs_of s h3)) (fun n w h => wrong_8 n w h) (fun w => size_n _ w (by decide)) s w hl hm
  have hl' : s.size ≤ 4096 := by omega
  by_cases hw : wrongB 8 s.size = true
  · have e : verifyS 8 s = 7 := by unfold verifyS; rw [if_neg (by decide), if_neg hl, if_pos hw]
    rw [e]; exact verify_len 8 81 40 115 126 1 alpha10 ⟨#[88]⟩ rfl (by decide) (by decide) (by decide) m_alphabet_8 m_extra_8 m_check_8 n_check_8 e_decimal_alphabet e_withX_extra e_check_8 c_decimal_alphabet c_withX_extra (fun s w h1 _ h3 => i11_check s w h1 (digs_of s h3)) (fun n w h => wrong_8 n w h) (fun w => size_n _ w (by decide)) s w hl' hw
  have hw' : wrongB 8 s.size = false := by simpa using hw
  have hn : 1 < s.size := wrong_lt 8 _ hw'
  by_cases hA : withinB (s.extract 0 (s.size - 1)) alpha10 = false
  · have e : verifyS 8 s = 6 := by unfold verifyS; rw [if_neg (by decide), if_neg hl, if_neg hw, if_pos (.inl hA)]
    rw [e]; exact verify_head 8 81 40 115 126 1 alpha10 ⟨#[88]⟩ rfl (by decide) (by decide) (by decide) m_alphabet_8 m_extra_8 m_check_8 n_check_8 e_decimal_alphabet e_withX_extra e_check_8 c_decimal_alphabet c_withX_extra (fun s w h1 _ h3 => i11_check s w h1 (digs_of s h3)) (fun n w h => wrong_8 n w h) (fun w => size_n _ w (by decide)) s w hl' hw' hn hA
  have hA' : withinB (s.extract 0 (s.size - 1)) alpha10 = true := by simpa using hA
  by_cases hT : withinB (s.extract (s.size - 1) s.size) (alpha10 ++ ⟨#[88]⟩) = false
  · have e : verifyS 8 s = 6 := by unfold verifyS; rw [if_neg (by decide), if_neg hl, if_neg hw, if_pos (.inr hT)]
    rw [e]; exact verify_tail 8 81 40 115 126 1 alpha10 ⟨#[88]⟩ rfl (by decide) (by decide) (by decide) m_alphabet_8 m_extra_8 m_check_8 n_check_8 e_decimal_alphabet e_withX_extra e_check_8 c_decimal_alphabet c_withX_extra (fun s w h1 _ h3 => i11_check s w h1 (digs_of s h3)) (fun n w h => wrong_8 n w h) (fun w => size_n _ w (by decide)) s w hl' hw' hn hA' hT
  have hT' : withinB (s.extract (s.size - 1) s.size) (alpha10 ++ ⟨#[88]⟩) = true := by simpa using hT
  by_cases hc : checkS 8 (s.extract 0 (s.size - 1)) = s.extract (s.size - 1) s.size
  · have e : verifyS 8 s = 0 := by unfold verifyS; rw [if_neg (by decide), if_neg hl, if_neg hw, if_neg (fun h => h.elim hA hT)]; exact if_neg (fun h => h hc)
    rw [e]; exact verify_fin 8 81 40 115 126 1 alpha10 ⟨#[88]⟩ rfl (by decide) (by decide) (by decide) m_alphabet_8 m_extra_8 m_check_8 n_check_8 e_decimal_alphabet e_withX_extra e_check_8 c_decimal_alphabet c_withX_extra (fun s w h1 _ h3 => i11_check s w h1 (digs_of s h3)) (fun n w h => wrong_8 n w h) (fun w => size_n _ w (by decide)) s w true hl' hw' hn hA' hT' (toList_eq _ _ hc)
  · have e : verifyS 8 s = 8 := by unfold verifyS; rw [if_neg (by decide), if_neg hl, if_neg hw, if_neg (fun h => h.elim hA hT)]; exact if_pos hc
    rw [e]; exact verify_fin 8 81 40 115 126 1 alpha10 ⟨#[88]⟩ rfl (by decide) (by decide) (by decide) m_alphabet_8 m_extra_8 m_check_8 n_check_8 e_decimal_alphabet e_withX_extra e_check_8 c_decimal_alphabet c_withX_extra (fun s w h1 _ h3 => i11_check s w h1 (digs_of s h3)) (fun n w h => wrong_8 n w h) (fun w => size_n _ w (by decide)) s w false hl' hw' hn hA' hT' (toList_ne _ _ hc)

theorem verify_none (k : Int) (s : ByteArray) (w : World) (h : ¬ (1 ≤ k ∧ k ≤ 8)) : Calls Try.prog 13 #[.int .i64 k, .string s] w fun e w' => e = .returned (.int .i64 1) ∧ Below w.heap.size w w' := by
  have hsys : sysV k = .nilIface := by unfold sysV; rw [if_neg h]
  clear h
  go_enter Try.func13, Try.ntmps13
  go_wp2_with (go_at_call 32; refine (systemOf_any _ _).mono ?_; rintro e w' ⟨rfl, rfl⟩)
  go_ret
  exact ⟨rfl, Below.refl _ _⟩
theorem compute_none (k : Int) (s : ByteArray) (w : World) (h : ¬ (1 ≤ k ∧ k ≤ 8)) : Calls Try.prog 22 #[.int .i64 k, .string s] w fun e w' => e = .returned (.tuple #[.string ByteArray.empty, .int .i64 1]) ∧ Below w.heap.size w w' := by
  have hsys : sysV k = .nilIface := by unfold sysV; rw [if_neg h]
  clear h
  go_enter Try.func22, Try.ntmps22
  go_wp2_with (go_at_call 32; refine (systemOf_any _ _).mono ?_; rintro e w' ⟨rfl, rfl⟩)
  go_ret2
  exact ⟨rfl, Below.refl _ _⟩

def checkdigit_Verify.f (a0 : Int) (a1 : ByteArray) : Option Int := if a1.size ≤ 9223372036854775807 then some (verifyS a0 a1) else none
theorem checkdigit_Verify.calls (a0 : Int) (a1 : ByteArray) (r : Int) (w : World) (h : checkdigit_Verify.f a0 a1 = some r) :
    Calls Try.prog 13 #[.int .i64 a0, .string a1] w fun e w' => e = .returned (.int .i64 r) ∧ Below w.heap.size w w' := by
  unfold checkdigit_Verify.f at h
  by_cases hm : a1.size ≤ 9223372036854775807
  · rw [if_pos hm] at h
    obtain rfl := Option.some.inj h
    by_cases hk : 1 ≤ a0 ∧ a0 ≤ 8
    · rcases (by omega : a0 = 1 ∨ a0 = 2 ∨ a0 = 3 ∨ a0 = 4 ∨ a0 = 5 ∨ a0 = 6 ∨ a0 = 7 ∨ a0 = 8) with rfl | rfl | rfl | rfl | rfl | rfl | rfl | rfl
      · exact verify_1 a1 w hm
      · exact verify_2 a1 w hm
      · exact verify_3 a1 w hm
      · exact verify_4 a1 w hm
      · exact verify_5 a1 w hm
      · exact verify_6 a1 w hm
      · exact verify_7 a1 w hm
      · exact verify_8 a1 w hm
    · rw [show verifyS a0 a1 = 1 by unfold verifyS; rw [if_pos hk]]
      exact verify_none a0 a1 w hk
  · rw [if_neg hm] at h; cases h

def checkdigit_Compute.f (a0 : Int) (a1 : ByteArray) : Option (ByteArray × Int) := if a1.size ≤ 9223372036854775807 then some (computeS a0 a1) else none
theorem checkdigit_Compute.calls (a0 : Int) (a1 : ByteArray) (r1 : ByteArray) (r2 : Int) (w : World) (h : checkdigit_Compute.f a0 a1 = some (r1, r2)) :
    Calls Try.prog 22 #[.int .i64 a0, .string a1] w fun e w' => e = .returned (.tuple #[.string r1, .int .i64 r2]) ∧ Below w.heap.size w w' := by
  unfold checkdigit_Compute.f at h
  by_cases hm : a1.size ≤ 9223372036854775807
  · rw [if_pos hm] at h
    have h := Option.some.inj h
    rw [show r1 = (computeS a0 a1).1 by rw [h], show r2 = (computeS a0 a1).2 by rw [h]]
    clear h
    by_cases hk : 1 ≤ a0 ∧ a0 ≤ 8
    · rcases (by omega : a0 = 1 ∨ a0 = 2 ∨ a0 = 3 ∨ a0 = 4 ∨ a0 = 5 ∨ a0 = 6 ∨ a0 = 7 ∨ a0 = 8) with rfl | rfl | rfl | rfl | rfl | rfl | rfl | rfl
      · exact compute_1 a1 w hm
      · exact compute_2 a1 w hm
      · exact compute_3 a1 w hm
      · exact compute_4 a1 w hm
      · exact compute_5 a1 w hm
      · exact compute_6 a1 w hm
      · exact compute_7 a1 w hm
      · exact compute_8 a1 w hm
    · rw [show computeS a0 a1 = (ByteArray.empty, 1) by unfold computeS; rw [if_pos hk]]
      exact compute_none a0 a1 w hk
  · rw [if_neg hm] at h; cases h

/-- What Size returns. -/
def sizeE (k : Int) : Int × Int := if ¬ (1 ≤ k ∧ k ≤ 8) then (0, 1) else (sizeS k, 0)
def checkdigit_Size.f (a0 : Int) : Option (Int × Int) := some (sizeE a0)
theorem checkdigit_Size.calls (a0 : Int) (r1 r2 : Int) (w : World) (h : checkdigit_Size.f a0 = some (r1, r2)) :
    Calls Try.prog 29 #[.int .i64 a0] w fun e w' => e = .returned (.tuple #[.int .i64 r1, .int .i64 r2]) ∧ Below w.heap.size w w' := by
  have h := Option.some.inj h
  by_cases hk : 1 ≤ a0 ∧ a0 ≤ 8
  · have e : sizeE a0 = (((sizeS a0 : Nat) : Int), 0) := by unfold sizeE; rw [if_neg (fun h => h hk)]
    rw [e] at h
    injection h with h1 h2
    subst h2
    have hsys : sysV a0 = .iface (sysT a0) (.agg #[]) := by unfold sysV; rw [if_pos hk]
    rw [← h1]
    clear h1 e hk
    go_enter Try.func29, Try.ntmps29
    go_wp2_with (first | (go_at_call 32; refine (systemOf_any _ _).mono ?_; rintro e w' ⟨rfl, rfl⟩) | (go_at_call 34; refine (size_any _ _).mono ?_; rintro e w' ⟨rfl, rfl⟩))
    go_ret2
    exact ⟨rfl, Below.refl _ _⟩
  · have e : sizeE a0 = (0, 1) := by unfold sizeE; rw [if_pos hk]
    rw [e] at h
    injection h with h1 h2
    subst h1 h2
    have hsys : sysV a0 = .nilIface := by unfold sysV; rw [if_neg hk]
    clear e hk
    go_enter Try.func29, Try.ntmps29
    go_wp2_with (first | (go_at_call 32; refine (systemOf_any _ _).mono ?_; rintro e w' ⟨rfl, rfl⟩))
    go_ret2
    exact ⟨rfl, Below.refl _ _⟩
end Go.Proofs.Ytcfgfeamcckmjaa.Chk
