/-
  Checkdigit, part F: calls through the interface; 'size' and 'wrong'.
-/
import Derived.Test.YtcfgfeamcckmjaaChkE
namespace Go.Proofs.Ytcfgfeamcckmjaa.Chk
open Go.RowKit
set_option linter.unusedVariables false
set_option linter.unusedSimpArgs false

theorem size_any (k : Int) (w : World) : Calls Try.prog 34 #[.int .i64 k] w fun e w' => e = .returned (.int .i64 (sizeS k)) ∧ w = w' := by
  by_cases h : k = 6
  · subst h
    go_enter Try.func34, Try.ntmps34
    go_wp2
    go_ret
    exact ⟨rfl, rfl⟩
  · have hb : (k == 6) = false := beq_eq_false_iff_ne.mpr h
    have e : ((sizeS k : Nat) : Int) = 1 := by unfold sizeS; rw [if_neg h]; rfl
    rw [e]; clear e h
    go_enter Try.func34, Try.ntmps34
    go_wp2
    go_ret
    exact ⟨rfl, rfl⟩
theorem size_6 (w : World) : Calls Try.prog 34 #[.int .i64 6] w fun e w' => e = .returned (.int .i64 2) ∧ w = w' := size_any 6 w
theorem size_n (k : Int) (w : World) (h : k ≠ 6) : Calls Try.prog 34 #[.int .i64 k] w fun e w' => e = .returned (.int .i64 1) ∧ w = w' := by
  have := size_any k w
  rw [show ((sizeS k : Nat) : Int) = 1 by unfold sizeS; rw [if_neg h]; rfl] at this
  exact this
theorem m_alphabet_1 (w : World) : (method 237 72 (.agg #[]) "barscan/checkdigit.alphabet").run Try.prog w = .ok (40, .agg #[]) w := by kernel_rfl
theorem m_extra_1 (w : World) : (method 237 72 (.agg #[]) "barscan/checkdigit.extra").run Try.prog w = .ok (97, .agg #[]) w := by kernel_rfl
theorem m_length_1 (w : World) : (method 237 72 (.agg #[]) "barscan/checkdigit.length").run Try.prog w = .ok (98, .agg #[]) w := by kernel_rfl
theorem m_check_1 (w : World) : (method 237 72 (.agg #[]) "barscan/checkdigit.check").run Try.prog w = .ok (99, .agg #[]) w := by kernel_rfl
theorem m_alphabet_2 (w : World) : (method 237 73 (.agg #[]) "barscan/checkdigit.alphabet").run Try.prog w = .ok (40, .agg #[]) w := by kernel_rfl
theorem m_extra_2 (w : World) : (method 237 73 (.agg #[]) "barscan/checkdigit.extra").run Try.prog w = .ok (97, .agg #[]) w := by kernel_rfl
theorem m_length_2 (w : World) : (method 237 73 (.agg #[]) "barscan/checkdigit.length").run Try.prog w = .ok (98, .agg #[]) w := by kernel_rfl
theorem m_check_2 (w : World) : (method 237 73 (.agg #[]) "barscan/checkdigit.check").run Try.prog w = .ok (114, .agg #[]) w := by kernel_rfl
theorem m_alphabet_3 (w : World) : (method 237 76 (.agg #[]) "barscan/checkdigit.alphabet").run Try.prog w = .ok (40, .agg #[]) w := by kernel_rfl
theorem m_extra_3 (w : World) : (method 237 76 (.agg #[]) "barscan/checkdigit.extra").run Try.prog w = .ok (115, .agg #[]) w := by kernel_rfl
theorem m_length_3 (w : World) : (method 237 76 (.agg #[]) "barscan/checkdigit.length").run Try.prog w = .ok (117, .agg #[]) w := by kernel_rfl
theorem m_check_3 (w : World) : (method 237 76 (.agg #[]) "barscan/checkdigit.check").run Try.prog w = .ok (116, .agg #[]) w := by kernel_rfl
theorem m_alphabet_4 (w : World) : (method 237 77 (.agg #[]) "barscan/checkdigit.alphabet").run Try.prog w = .ok (40, .agg #[]) w := by kernel_rfl
theorem m_extra_4 (w : World) : (method 237 77 (.agg #[]) "barscan/checkdigit.extra").run Try.prog w = .ok (97, .agg #[]) w := by kernel_rfl
theorem m_length_4 (w : World) : (method 237 77 (.agg #[]) "barscan/checkdigit.length").run Try.prog w = .ok (98, .agg #[]) w := by kernel_rfl
theorem m_check_4 (w : World) : (method 237 77 (.agg #[]) "barscan/checkdigit.check").run Try.prog w = .ok (118, .agg #[]) w := by kernel_rfl
theorem m_alphabet_5 (w : World) : (method 237 78 (.agg #[]) "barscan/checkdigit.alphabet").run Try.prog w = .ok (40, .agg #[]) w := by kernel_rfl
theorem m_extra_5 (w : World) : (method 237 78 (.agg #[]) "barscan/checkdigit.extra").run Try.prog w = .ok (97, .agg #[]) w := by kernel_rfl
theorem m_length_5 (w : World) : (method 237 78 (.agg #[]) "barscan/checkdigit.length").run Try.prog w = .ok (98, .agg #[]) w := by kernel_rfl
theorem m_check_5 (w : World) : (method 237 78 (.agg #[]) "barscan/checkdigit.check").run Try.prog w = .ok (120, .agg #[]) w := by kernel_rfl
theorem m_alphabet_6 (w : World) : (method 237 79 (.agg #[]) "barscan/checkdigit.alphabet").run Try.prog w = .ok (40, .agg #[]) w := by kernel_rfl
theorem m_extra_6 (w : World) : (method 237 79 (.agg #[]) "barscan/checkdigit.extra").run Try.prog w = .ok (97, .agg #[]) w := by kernel_rfl
theorem m_length_6 (w : World) : (method 237 79 (.agg #[]) "barscan/checkdigit.length").run Try.prog w = .ok (98, .agg #[]) w := by kernel_rfl
theorem m_check_6 (w : World) : (method 237 79 (.agg #[]) "barscan/checkdigit.check").run Try.prog w = .ok (121, .agg #[]) w := by kernel_rfl
theorem m_alphabet_7 (w : World) : (method 237 80 (.agg #[]) "barscan/checkdigit.alphabet").run Try.prog w = .ok (122, .agg #[]) w := by kernel_rfl
theorem m_extra_7 (w : World) : (method 237 80 (.agg #[]) "barscan/checkdigit.extra").run Try.prog w = .ok (124, .agg #[]) w := by kernel_rfl
theorem m_length_7 (w : World) : (method 237 80 (.agg #[]) "barscan/checkdigit.length").run Try.prog w = .ok (125, .agg #[]) w := by kernel_rfl
theorem m_check_7 (w : World) : (method 237 80 (.agg #[]) "barscan/checkdigit.check").run Try.prog w = .ok (123, .agg #[]) w := by kernel_rfl
theorem m_alphabet_8 (w : World) : (method 237 81 (.agg #[]) "barscan/checkdigit.alphabet").run Try.prog w = .ok (40, .agg #[]) w := by kernel_rfl
theorem m_extra_8 (w : World) : (method 237 81 (.agg #[]) "barscan/checkdigit.extra").run Try.prog w = .ok (115, .agg #[]) w := by kernel_rfl
theorem m_length_8 (w : World) : (method 237 81 (.agg #[]) "barscan/checkdigit.length").run Try.prog w = .ok (98, .agg #[]) w := by kernel_rfl
theorem m_check_8 (w : World) : (method 237 81 (.agg #[]) "barscan/checkdigit.check").run Try.prog w = .ok (126, .agg #[]) w := by kernel_rfl
theorem c_decimal_alphabet (w : World) : Calls Try.prog 40 #[.agg #[]] w fun e w' => e = .returned (.string alpha10) ∧ Below w.heap.size w w' := by
  go_enter Try.func40, Try.ntmps40
  go_wp2
  go_ret
  exact ⟨rfl, (Below.refl _ _).alloc (Nat.le_refl _) _⟩
theorem c_code39_alphabet (w : World) : Calls Try.prog 122 #[.agg #[]] w fun e w' => e = .returned (.string alpha39) ∧ Below w.heap.size w w' := by
  go_enter Try.func122, Try.ntmps122
  go_wp2
  go_ret
  exact ⟨rfl, (Below.refl _ _).alloc (Nat.le_refl _) _⟩
theorem c_decimal_extra (w : World) : Calls Try.prog 97 #[.agg #[]] w fun e w' => e = .returned (.string ByteArray.empty) ∧ Below w.heap.size w w' := by
  go_enter Try.func97, Try.ntmps97
  go_wp2
  go_ret
  exact ⟨rfl, (Below.refl _ _).alloc (Nat.le_refl _) _⟩
theorem c_code39_extra (w : World) : Calls Try.prog 124 #[.agg #[]] w fun e w' => e = .returned (.string ByteArray.empty) ∧ Below w.heap.size w w' := by
  go_enter Try.func124, Try.ntmps124
  go_wp2
  go_ret
  exact ⟨rfl, (Below.refl _ _).alloc (Nat.le_refl _) _⟩
theorem c_withX_extra (w : World) : Calls Try.prog 115 #[.agg #[]] w fun e w' => e = .returned (.string ⟨#[88]⟩) ∧ Below w.heap.size w w' := by
  go_enter Try.func115, Try.ntmps115
  go_wp2
  go_ret
  exact ⟨rfl, (Below.refl _ _).alloc (Nat.le_refl _) _⟩
theorem c_decimal_length (w : World) : Calls Try.prog 98 #[.agg #[]] w fun e w' => e = .returned (.int .i64 0) ∧ Below w.heap.size w w' := by
  go_enter Try.func98, Try.ntmps98
  go_wp2
  go_ret
  exact ⟨rfl, (Below.refl _ _).alloc (Nat.le_refl _) _⟩
theorem c_isbn_length (w : World) : Calls Try.prog 117 #[.agg #[]] w fun e w' => e = .returned (.int .i64 9) ∧ Below w.heap.size w w' := by
  go_enter Try.func117, Try.ntmps117
  go_wp2
  go_ret
  exact ⟨rfl, (Below.refl _ _).alloc (Nat.le_refl _) _⟩
theorem c_code39_length (w : World) : Calls Try.prog 125 #[.agg #[]] w fun e w' => e = .returned (.int .i64 0) ∧ Below w.heap.size w w' := by
  go_enter Try.func125, Try.ntmps125
  go_wp2
  go_ret
  exact ⟨rfl, (Below.refl _ _).alloc (Nat.le_refl _) _⟩
set_option maxRecDepth 20000 in
theorem wrong_1 (n : Nat) (w : World) (hn : n ≤ 1000000) : Calls Try.prog 33 #[.int .i64 1, .iface 72 (.agg #[]), .int .i64 n] w fun e w' => e = .returned (.bool (wrongB 1 n)) ∧ Below w.heap.size w w' := by
  by_cases h : n ≤ 1
  · have hb : wrongB 1 n = true := by unfold wrongB sizeS; simp; omega
    rw [hb]; clear hb
    go_enter Try.func33, Try.ntmps33
    go_wp2_with (go_at_call 34; refine (size_n _ _ (by decide)).mono ?_; rintro e w' ⟨rfl, rfl⟩)
    go_ret
    exact ⟨rfl, Below.refl _ _⟩
  · have hm := m_length_1
    have hb : wrongB 1 n = false := by unfold wrongB sizeS; simp; omega
    rw [hb]; clear hb
    have hd : decide ((n : Int) ≤ 1) = false := decide_eq_false (by omega)
    go_enter Try.func33, Try.ntmps33
    go_wp2_with (first | (go_at_call 34; refine (size_n _ _ (by decide)).mono ?_; rintro e w' ⟨rfl, rfl⟩) | (go_at_call 98; refine (c_decimal_length _).mono ?_; rintro e w1 ⟨rfl, hb1⟩))
    go_ret
    exact ⟨by simp [hd], hb1⟩
set_option maxRecDepth 20000 in
theorem wrong_2 (n : Nat) (w : World) (hn : n ≤ 1000000) : Calls Try.prog 33 #[.int .i64 2, .iface 73 (.agg #[]), .int .i64 n] w fun e w' => e = .returned (.bool (wrongB 2 n)) ∧ Below w.heap.size w w' := by
  by_cases h : n ≤ 1
  · have hb : wrongB 2 n = true := by unfold wrongB sizeS; simp; omega
    rw [hb]; clear hb
    go_enter Try.func33, Try.ntmps33
    go_wp2_with (go_at_call 34; refine (size_n _ _ (by decide)).mono ?_; rintro e w' ⟨rfl, rfl⟩)
    go_ret
    exact ⟨rfl, Below.refl _ _⟩
  · have hm := m_length_2
    have hb : wrongB 2 n = false := by unfold wrongB sizeS; simp; omega
    rw [hb]; clear hb
    have hd : decide ((n : Int) ≤ 1) = false := decide_eq_false (by omega)
    go_enter Try.func33, Try.ntmps33
    go_wp2_with (first | (go_at_call 34; refine (size_n _ _ (by decide)).mono ?_; rintro e w' ⟨rfl, rfl⟩) | (go_at_call 98; refine (c_decimal_length _).mono ?_; rintro e w1 ⟨rfl, hb1⟩))
    go_ret
    exact ⟨by simp [hd], hb1⟩
set_option maxRecDepth 20000 in
theorem wrong_3 (n : Nat) (w : World) (hn : n ≤ 1000000) : Calls Try.prog 33 #[.int .i64 3, .iface 76 (.agg #[]), .int .i64 n] w fun e w' => e = .returned (.bool (wrongB 3 n)) ∧ Below w.heap.size w w' := by
  by_cases h : n ≤ 1
  · have hb : wrongB 3 n = true := by unfold wrongB sizeS; simp; omega
    rw [hb]; clear hb
    go_enter Try.func33, Try.ntmps33
    go_wp2_with (go_at_call 34; refine (size_n _ _ (by decide)).mono ?_; rintro e w' ⟨rfl, rfl⟩)
    go_ret
    exact ⟨rfl, Below.refl _ _⟩
  · have hm := m_length_3
    by_cases h10 : n = 10
    · subst h10
      have hb : wrongB 3 10 = false := by decide
      show Calls _ _ _ _ fun e w' => e = .returned (.bool (wrongB 3 10)) ∧ _
      rw [hb]; clear hb
      go_enter Try.func33, Try.ntmps33
      go_wp2_with (first | (go_at_call 34; refine (size_n _ _ (by decide)).mono ?_; rintro e w' ⟨rfl, rfl⟩) | (go_at_call 117; refine (c_isbn_length _).mono ?_; rintro e w1 ⟨rfl, hb1⟩; revert hb1; intro hb1))
      go_ret
      exact ⟨rfl, by first | exact hb1 | exact Below.trans ‹_› (Below.mono hb1 (Below.size ‹_›))⟩
    · have hb : wrongB 3 n = true := by unfold wrongB sizeS; simp; omega
      have hne : ((n : Int) == 10) = false := beq_eq_false_iff_ne.mpr (by omega)
      have hne' : ((n : Int) != 10) = true := bne_iff_ne.mpr (by omega)
      rw [hb]; clear hb h10
      go_enter Try.func33, Try.ntmps33
      go_wp2_with (first | (go_at_call 34; refine (size_n _ _ (by decide)).mono ?_; rintro e w' ⟨rfl, rfl⟩) | (go_at_call 117; refine (c_isbn_length _).mono ?_; rintro e w1 ⟨rfl, hb1⟩; revert hb1; intro hb1))
      go_ret
      exact ⟨rfl, by first | exact hb1 | exact Below.trans ‹_› (Below.mono hb1 (Below.size ‹_›))⟩
set_option maxRecDepth 20000 in
theorem wrong_4 (n : Nat) (w : World) (hn : n ≤ 1000000) : Calls Try.prog 33 #[.int .i64 4, .iface 77 (.agg #[]), .int .i64 n] w fun e w' => e = .returned (.bool (wrongB 4 n)) ∧ Below w.heap.size w w' := by
  by_cases h : n ≤ 1
  · have hb : wrongB 4 n = true := by unfold wrongB sizeS; simp; omega
    rw [hb]; clear hb
    go_enter Try.func33, Try.ntmps33
    go_wp2_with (go_at_call 34; refine (size_n _ _ (by decide)).mono ?_; rintro e w' ⟨rfl, rfl⟩)
    go_ret
    exact ⟨rfl, Below.refl _ _⟩
  · have hm := m_length_4
    have hb : wrongB 4 n = false := by unfold wrongB sizeS; simp; omega
    rw [hb]; clear hb
    have hd : decide ((n : Int) ≤ 1) = false := decide_eq_false (by omega)
    go_enter Try.func33, Try.ntmps33
    go_wp2_with (first | (go_at_call 34; refine (size_n _ _ (by decide)).mono ?_; rintro e w' ⟨rfl, rfl⟩) | (go_at_call 98; refine (c_decimal_length _).mono ?_; rintro e w1 ⟨rfl, hb1⟩))
    go_ret
    exact ⟨by simp [hd], hb1⟩
set_option maxRecDepth 20000 in
theorem wrong_5 (n : Nat) (w : World) (hn : n ≤ 1000000) : Calls Try.prog 33 #[.int .i64 5, .iface 78 (.agg #[]), .int .i64 n] w fun e w' => e = .returned (.bool (wrongB 5 n)) ∧ Below w.heap.size w w' := by
  by_cases h : n ≤ 1
  · have hb : wrongB 5 n = true := by unfold wrongB sizeS; simp; omega
    rw [hb]; clear hb
    go_enter Try.func33, Try.ntmps33
    go_wp2_with (go_at_call 34; refine (size_n _ _ (by decide)).mono ?_; rintro e w' ⟨rfl, rfl⟩)
    go_ret
    exact ⟨rfl, Below.refl _ _⟩
  · have hm := m_length_5
    have hb : wrongB 5 n = false := by unfold wrongB sizeS; simp; omega
    rw [hb]; clear hb
    have hd : decide ((n : Int) ≤ 1) = false := decide_eq_false (by omega)
    go_enter Try.func33, Try.ntmps33
    go_wp2_with (first | (go_at_call 34; refine (size_n _ _ (by decide)).mono ?_; rintro e w' ⟨rfl, rfl⟩) | (go_at_call 98; refine (c_decimal_length _).mono ?_; rintro e w1 ⟨rfl, hb1⟩))
    go_ret
    exact ⟨by simp [hd], hb1⟩
set_option maxRecDepth 20000 in
theorem wrong_6 (n : Nat) (w : World) (hn : n ≤ 1000000) : Calls Try.prog 33 #[.int .i64 6, .iface 79 (.agg #[]), .int .i64 n] w fun e w' => e = .returned (.bool (wrongB 6 n)) ∧ Below w.heap.size w w' := by
  by_cases h : n ≤ 2
  · have hb : wrongB 6 n = true := by unfold wrongB sizeS; simp; omega
    rw [hb]; clear hb
    go_enter Try.func33, Try.ntmps33
    go_wp2_with (go_at_call 34; refine (size_6 _).mono ?_; rintro e w' ⟨rfl, rfl⟩)
    go_ret
    exact ⟨rfl, Below.refl _ _⟩
  · have hm := m_length_6
    have hb : wrongB 6 n = false := by unfold wrongB sizeS; simp; omega
    rw [hb]; clear hb
    have hd : decide ((n : Int) ≤ 2) = false := decide_eq_false (by omega)
    go_enter Try.func33, Try.ntmps33
    go_wp2_with (first | (go_at_call 34; refine (size_6 _).mono ?_; rintro e w' ⟨rfl, rfl⟩) | (go_at_call 98; refine (c_decimal_length _).mono ?_; rintro e w1 ⟨rfl, hb1⟩))
    go_ret
    exact ⟨by simp [hd], hb1⟩
set_option maxRecDepth 20000 in
theorem wrong_7 (n : Nat) (w : World) (hn : n ≤ 1000000) : Calls Try.prog 33 #[.int .i64 7, .iface 80 (.agg #[]), .int .i64 n] w fun e w' => e = .returned (.bool (wrongB 7 n)) ∧ Below w.heap.size w w' := by
  by_cases h : n ≤ 1
  · have hb : wrongB 7 n = true := by unfold wrongB sizeS; simp; omega
    rw [hb]; clear hb
    go_enter Try.func33, Try.ntmps33
    go_wp2_with (go_at_call 34; refine (size_n _ _ (by decide)).mono ?_; rintro e w' ⟨rfl, rfl⟩)
    go_ret
    exact ⟨rfl, Below.refl _ _⟩
  · have hm := m_length_7
    have hb : wrongB 7 n = false := by unfold wrongB sizeS; simp; omega
    rw [hb]; clear hb
    have hd : decide ((n : Int) ≤ 1) = false := decide_eq_false (by omega)
    go_enter Try.func33, Try.ntmps33
    go_wp2_with (first | (go_at_call 34; refine (size_n _ _ (by decide)).mono ?_; rintro e w' ⟨rfl, rfl⟩) | (go_at_call 125; refine (c_code39_length _).mono ?_; rintro e w1 ⟨rfl, hb1⟩))
    go_ret
    exact ⟨by simp [hd], hb1⟩
set_option maxRecDepth 20000 in
theorem wrong_8 (n : Nat) (w : World) (hn : n ≤ 1000000) : Calls Try.prog 33 #[.int .i64 8, .iface 81 (.agg #[]), .int .i64 n] w fun e w' => e = .returned (.bool (wrongB 8 n)) ∧ Below w.heap.size w w' := by
  by_cases h : n ≤ 1
  · have hb : wrongB 8 n = true := by unfold wrongB sizeS; simp; omega
    rw [hb]; clear hb
    go_enter Try.func33, Try.ntmps33
    go_wp2_with (go_at_call 34; refine (size_n _ _ (by decide)).mono ?_; rintro e w' ⟨rfl, rfl⟩)
    go_ret
    exact ⟨rfl, Below.refl _ _⟩
  · have hm := m_length_8
    have hb : wrongB 8 n = false := by unfold wrongB sizeS; simp; omega
    rw [hb]; clear hb
    have hd : decide ((n : Int) ≤ 1) = false := decide_eq_false (by omega)
    go_enter Try.func33, Try.ntmps33
    go_wp2_with (first | (go_at_call 34; refine (size_n _ _ (by decide)).mono ?_; rintro e w' ⟨rfl, rfl⟩) | (go_at_call 98; refine (c_decimal_length _).mono ?_; rintro e w1 ⟨rfl, hb1⟩))
    go_ret
    exact ⟨by simp [hd], hb1⟩
end Go.Proofs.Ytcfgfeamcckmjaa.Chk
