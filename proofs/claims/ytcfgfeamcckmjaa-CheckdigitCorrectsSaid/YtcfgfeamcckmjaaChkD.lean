/-
  Checkdigit, part D: the systems whose check characters are computed from the right.
-/
import Derived.Test.YtcfgfeamcckmjaaChkC
import Derived.Test.YtcfgfeamcckmjaaPB1
import Derived.Deep.LoopGhost
namespace Go.Proofs.Ytcfgfeamcckmjaa.Chk
open Go.RowKit Go.Proofs.YtcfgfeamcckmjaaW.PrintWords Go.Proofs.YtcfgfeamcckmjaaW.PrintLast Go.Proofs.YtcfgfeamcckmjaaW.PrintMore
open Go.Proofs.Ytcfgfeamcckmjaa.PB
set_option linter.unusedVariables false
set_option linter.unusedSimpArgs false

theorem w64_in (n : Int) (h0 : -9223372036854775808 ≤ n) (h1 : n ≤ 9223372036854775807) : wrap64 n = n := by unfold wrap64; omega
theorem bt_nat (s : ByteArray) (k : Nat) (h : k < s.size) : bt s (k : Int) = (s[k].toNat : Int) := by
  unfold bt
  rw [dif_pos (by simpa using h)]
  simp
theorem back_l0 (s : ByteArray) (hs : s.size ≤ 4096) (hd : Digs s) : ∀ (j : Nat) (acc : List Int), j ≤ s.size → acc.length + j ≤ 4096 →
    checkdigit_backward.l0 (j + 1) s acc ((j : Int) - 1) = some (acc ++ ((vals s).take j).reverse) := by
  intro j
  induction j with
  | zero =>
    intro acc _ _
    simp only [checkdigit_backward.l0]
    rw [if_neg (by omega)]
    simp
  | succ j ih =>
    intro acc hj ha
    have e : ((j + 1 : Nat) : Int) - 1 = (j : Int) := by omega
    have hlt : j < s.size := by omega
    have hdj := hd j hlt
    rw [checkdigit_backward.l0, e, if_pos (by omega), if_pos (by omega), if_pos (by omega), if_pos (by omega), w64_in _ (by omega) (by omega), ih _ (by omega) (by rw [List.length_append, List.length_singleton]; omega)]
    rw [List.take_succ_eq_append_getElem (by rw [vals_len]; exact hlt), List.reverse_append, vals_at s j hlt, bt_nat s j hlt, List.append_assoc]
    have : ((s[j].toNat : Int) - 48) % 256 = dg s[j] := by unfold dg; omega
    rw [this]; rfl
theorem back_f (s : ByteArray) (hs : s.size ≤ 4096) (hd : Digs s) : checkdigit_backward.f (s.size + 1) s = some (vals s).reverse := by
  unfold checkdigit_backward.f
  rw [w64_in _ (by omega) (by omega), back_l0 s hs hd s.size [] (Nat.le_refl _) (by simpa using hs)]
  rw [List.take_of_length_le (by rw [vals_len]; exact Nat.le_refl _)]
  rfl

theorem backward_any (s : ByteArray) (w : World) (hs : s.size ≤ 4096) (h0 : 0 < s.size) (hd : Digs s) :
    Calls Try.prog 41 #[.string s] w fun e w' => ∃ ad cap, e = .returned (.slice (some ad) s.size cap) ∧ (∀ j, j < s.size → w'.cell? (ad.add j) = some (.int .i64 ((vals s).reverse.getD j 0))) ∧ Below w.heap.size w w' := by
  refine (checkdigit_backward.calls (s.size + 1) s _ w (back_f s hs hd)).mono ?_
  rintro e w' ⟨v, rfl, hR, hB⟩
  have hl : (vals s).reverse.length = s.size := by rw [List.length_reverse, vals_len]
  obtain ⟨A, c, rfl, hc, hr⟩ := Kd.R_reads hR
  rw [hl] at hr ⊢
  obtain ⟨ad, rfl, hx⟩ := hr.2.2 h0
  refine ⟨ad, c, rfl, fun j hj => ?_, hB⟩
  obtain ⟨cs, h1, h2, h3⟩ := hx j _ (List.getElem?_eq_getElem (by rw [hl]; exact hj))
  have h4 : cs = [.int .i64 ((vals s).reverse[j]'(by rw [hl]; exact hj))] := h2
  have h5 := h3 0 (.int .i64 ((vals s).reverse[j]'(by rw [hl]; exact hj))) (by rw [h4]; rfl)
  rw [List.getD_eq_getElem?_getD, List.getElem?_eq_getElem (by rw [hl]; exact hj)]
  simpa [Kd.int, Kd.scalar] using h5

/-- The digits from the right. -/
def rvals (s : ByteArray) : List Int := (vals s).reverse
theorem rvals_len (s : ByteArray) : (rvals s).length = s.size := by unfold rvals; rw [List.length_reverse, vals_len]
theorem rvals_bd (s : ByteArray) (h : Digs s) : ∀ d ∈ rvals s, 0 ≤ d ∧ d ≤ 9 := fun d hd => vals_bd s h d (List.mem_reverse.mp hd)
theorem rvals_at (s : ByteArray) (h : Digs s) (k : Nat) (hk : k < s.size) : 0 ≤ (rvals s).getD k 0 ∧ (rvals s).getD k 0 ≤ 9 := by
  rw [List.getD_eq_getElem?_getD, List.getElem?_eq_getElem (by rw [rvals_len]; exact hk)]
  exact rvals_bd s h _ (List.getElem_mem _)
theorem rvals_snoc {β : Type} (f : Nat → β → Int → β) (b : β) (s : ByteArray) (k : Nat) (h : k < s.size) : foldi f 0 b ((rvals s).take (k + 1)) = f k (foldi f 0 b ((rvals s).take k)) ((rvals s).getD k 0) := by
  rw [foldi_snoc f (rvals s) b k (by rw [rvals_len]; exact h)]
  congr 1
  rw [List.getD_eq_getElem?_getD, List.getElem?_eq_getElem (by rw [rvals_len]; exact h)]
  rfl
theorem gs1_bd (l : List Int) (h : ∀ d ∈ l, 0 ≤ d ∧ d ≤ 9) (p : Int) (h0 : 0 ≤ p) (i : Nat) : 0 ≤ foldi gs1F i p l ∧ foldi gs1F i p l ≤ p + 27 * l.length := by
  induction l generalizing i p with
  | nil => exact ⟨h0, by simp [foldi]⟩
  | cons d l ih =>
    have hd := h d (List.mem_cons_self ..)
    have hi : (i : Int) % 2 = 0 ∨ (i : Int) % 2 = 1 := by omega
    have hs : 0 ≤ gs1F i p d ∧ gs1F i p d ≤ p + 27 := by unfold gs1F; rcases hi with e | e <;> rw [e] <;> omega
    have := ih (fun d hd => h d (List.mem_cons_of_mem _ hd)) (gs1F i p d) (by omega) (i + 1)
    rw [foldi, List.length_cons]; omega
theorem luhn_bd (l : List Int) (h : ∀ d ∈ l, 0 ≤ d ∧ d ≤ 9) (p : Int) (h0 : 0 ≤ p) (i : Nat) : 0 ≤ foldi luhnF i p l ∧ foldi luhnF i p l ≤ p + 18 * l.length := by
  induction l generalizing i p with
  | nil => exact ⟨h0, by simp [foldi]⟩
  | cons d l ih =>
    have hd := h d (List.mem_cons_self ..)
    have hs : 0 ≤ luhnF i p d ∧ luhnF i p d ≤ p + 18 := by unfold luhnF; split <;> omega
    have := ih (fun d hd => h d (List.mem_cons_of_mem _ hd)) (luhnF i p d) (by omega) (i + 1)
    rw [foldi, List.length_cons]; omega
theorem isbn_bd (l : List Int) (h : ∀ d ∈ l, 0 ≤ d ∧ d ≤ 9) (p : Int) (h0 : 0 ≤ p) (i : Nat) : 0 ≤ foldi isbnF i p l ∧ foldi isbnF i p l ≤ p + 9 * (i + l.length + 2) * l.length := by
  induction l generalizing i p with
  | nil => exact ⟨h0, by simp [foldi]⟩
  | cons d l ih =>
    have hd := h d (List.mem_cons_self ..)
    have hm : 0 ≤ ((i : Int) + 2) * d := Int.mul_nonneg (by omega) (by omega)
    have hm2 : ((i : Int) + 2) * d ≤ ((i : Int) + 2) * 9 := Int.mul_le_mul_of_nonneg_left hd.2 (by omega)
    have hs : 0 ≤ isbnF i p d ∧ isbnF i p d ≤ p + ((i : Int) + 2) * 9 := by unfold isbnF; omega
    have := ih (fun d hd => h d (List.mem_cons_of_mem _ hd)) (isbnF i p d) (by omega) (i + 1)
    rw [foldi, List.length_cons]
    refine ⟨this.1, Int.le_trans this.2 ?_⟩
    have e1 : ((i + 1 : Nat) : Int) + (l.length : Int) + 2 = (i : Int) + ((l.length + 1 : Nat) : Int) + 2 := by omega
    rw [e1]
    have e2 : ((l.length + 1 : Nat) : Int) = (l.length : Int) + 1 := by omega
    have e3 : 9 * ((i : Int) + ((l.length + 1 : Nat) : Int) + 2) * ((l.length + 1 : Nat) : Int) = 9 * ((i : Int) + ((l.length + 1 : Nat) : Int) + 2) * (l.length : Int) + 9 * ((i : Int) + ((l.length + 1 : Nat) : Int) + 2) := by rw [e2]; rw [Int.mul_add]; omega
    rw [e3]; omega

theorem gs1_w (k : Nat) (a d : Int) (h : 0 ≤ a ∧ a ≤ 1000000000) (hd : 0 ≤ d ∧ d ≤ 9) : (Value.int .i64 (wrap64 (a + wrap64 ((3 - (k : Int) % 2 * 2) * d)))) = .int .i64 (gs1F k a d) := by
  have hi : (k : Int) % 2 = 0 ∨ (k : Int) % 2 = 1 := by omega
  unfold gs1F
  rcases hi with e | e <;> rw [e] <;> congr 1 <;> unfold wrap64 <;> omega
theorem isbn_w (k : Nat) (a d : Int) (h : 0 ≤ a ∧ a ≤ 1000000000) (hd : 0 ≤ d ∧ d ≤ 9) (hk : k ≤ 4096) : (Value.int .i64 (wrap64 (a + wrap64 (((k : Int) + 2) * d)))) = .int .i64 (isbnF k a d) := by
  have hm : 0 ≤ ((k : Int) + 2) * d := Int.mul_nonneg (by omega) (by omega)
  have hm2 : ((k : Int) + 2) * d ≤ ((k : Int) + 2) * 9 := Int.mul_le_mul_of_nonneg_left hd.2 (by omega)
  unfold isbnF
  congr 1
  rw [w64_in (((k : Int) + 2) * d) (by omega) (by omega), w64_in _ (by omega) (by omega)]
theorem luhn_w (k : Nat) (a d : Int) : ((((k : Int) % 2 == 0) = true) → Value.int .i64 (a + (d * 2 / 10 + d * 2 % 10)) = .int .i64 (luhnF k a d)) ∧ ((((k : Int) % 2 == 0) = false) → Value.int .i64 (a + d) = .int .i64 (luhnF k a d)) := by
  refine ⟨fun h => ?_, fun h => ?_⟩
  · have := eq_of_beq h
    unfold luhnF; rw [if_pos (by omega)]
  · have := ne_of_beq_false h
    unfold luhnF; rw [if_neg (by omega)]

set_option maxHeartbeats 400000 in
theorem gs1_check (s : ByteArray) (w : World) (hs : s.size ≤ 4096) (h0 : 0 < s.size) (hdig : Digs s) :
    Calls Try.prog 99 #[.agg #[], .string s] w fun e w' => e = .returned (.string (checkS 1 s)) ∧ Below w.heap.size w w' := by
  have HD : Hid (Digs s) := hdig
  clear hdig
  go_enter Try.func99, Try.ntmps99
  go_wp2_with (go_at_call 41; refine (backward_any s _ hs h0 HD.out).mono ?_; rintro e w1 ⟨ad, cap, rfl, hc, hb⟩)
  have hB : Below w.heap.size w w1 := ((Below.refl _ _).alloc (Nat.le_refl _) _).trans (hb.mono (by simp))
  clear hb
  have HC := Lib.hid hc; clear hc
  go_loop [5, 11] (fun p i => ∃ k : Nat, k ≤ s.size ∧ i = .int .i64 k ∧ p = .int .i64 (foldi gs1F 0 0 ((rvals s).take k))) (fun _ i => s.size - (intOf i).toNat)
  case atStart => exact ⟨0, Nat.zero_le _, rfl, rfl⟩
  case round =>
    obtain ⟨k, hk, rfl, rfl⟩ := hrel
    have hp : 0 ≤ foldi gs1F 0 0 ((rvals s).take k) ∧ foldi gs1F 0 0 ((rvals s).take k) ≤ 1000000000 := by
      have h1 := gs1_bd _ (take_bd (rvals_bd s HD.out) k) 0 (by omega) 0
      have h2 : ((rvals s).take k).length ≤ k := List.length_take_le _ _
      omega
    by_cases hlt : k < s.size
    · have hd := rvals_at s HD.out k hlt
      have hcell := HC.out k hlt
      have hsn := rvals_snoc gs1F 0 s k hlt
      have HS := Lib.hid hsn; clear hsn
      rw [show (vals s).reverse = rvals s from rfl] at hcell
      generalize hdv : (rvals s).getD k 0 = d at hd hcell
      have HV := Lib.hid hdv; clear hdv
      generalize hav : foldi gs1F 0 0 ((rvals s).take k) = a at hp ⊢
      have HA := Lib.hid hav; clear hav
      go_wp2
      all_goals (go_round; (case rel => exact ⟨k + 1, by omega, by go_num, by rw [HS.out, HA.out, HV.out]; exact gs1_w k a d hp hd⟩); (case measure => simp [intOf]; omega))
    · have hv : (rvals s).take k = rvals s := List.take_of_length_le (by rw [rvals_len]; omega)
      have hav : foldi gs1F 0 0 ((rvals s).take k) = foldi gs1F 0 0 (rvals s) := by rw [hv]
      clear hv
      rw [hav] at hp ⊢
      clear hav
      go_wp2_with (go_at_call 100; refine (digit_any _ _ (by omega) (by omega)).mono ?_; rintro e w' ⟨rfl, rfl⟩)
      go_ret
      have e : checkS 1 s = ⟨#[chr (-(foldi gs1F 0 0 (rvals s) % 10) % 10)]⟩ := by
        show (⟨#[chr ((10 - foldi gs1F 0 0 (rvals s) % 10) % 10)]⟩ : ByteArray) = _
        rw [show (10 - foldi gs1F 0 0 (rvals s) % 10) % 10 = -(foldi gs1F 0 0 (rvals s) % 10) % 10 by omega]
      exact ⟨by rw [e]; rfl, hB⟩

set_option maxHeartbeats 400000 in
theorem luhn_check (s : ByteArray) (w : World) (hs : s.size ≤ 4096) (h0 : 0 < s.size) (hdig : Digs s) :
    Calls Try.prog 114 #[.agg #[], .string s] w fun e w' => e = .returned (.string (checkS 2 s)) ∧ Below w.heap.size w w' := by
  have HD : Hid (Digs s) := hdig
  clear hdig
  go_enter Try.func114, Try.ntmps114
  go_wp2_with (go_at_call 41; refine (backward_any s _ hs h0 HD.out).mono ?_; rintro e w1 ⟨ad, cap, rfl, hc, hb⟩)
  have hB : Below w.heap.size w w1 := ((Below.refl _ _).alloc (Nat.le_refl _) _).trans (hb.mono (by simp))
  clear hb
  have HC := Lib.hid hc; clear hc
  go_loop [5, 11] (fun p i => ∃ k : Nat, k ≤ s.size ∧ i = .int .i64 k ∧ p = .int .i64 (foldi luhnF 0 0 ((rvals s).take k))) (fun _ i => s.size - (intOf i).toNat)
  case atStart => exact ⟨0, Nat.zero_le _, rfl, rfl⟩
  case round =>
    obtain ⟨k, hk, rfl, rfl⟩ := hrel
    have hp : 0 ≤ foldi luhnF 0 0 ((rvals s).take k) ∧ foldi luhnF 0 0 ((rvals s).take k) ≤ 1000000000 := by
      have h1 := luhn_bd _ (take_bd (rvals_bd s HD.out) k) 0 (by omega) 0
      have h2 : ((rvals s).take k).length ≤ k := List.length_take_le _ _
      omega
    by_cases hlt : k < s.size
    · have hd := rvals_at s HD.out k hlt
      have hcell := HC.out k hlt
      have hsn := rvals_snoc luhnF 0 s k hlt
      have HS := Lib.hid hsn; clear hsn
      rw [show (vals s).reverse = rvals s from rfl] at hcell
      generalize hdv : (rvals s).getD k 0 = d at hd hcell
      have HV := Lib.hid hdv; clear hdv
      generalize hav : foldi luhnF 0 0 ((rvals s).take k) = a at hp ⊢
      have HA := Lib.hid hav; clear hav
      go_wp2
      all_goals (go_round; (case rel => exact ⟨k + 1, by omega, by go_num, by rw [HS.out, HA.out, HV.out]; first | exact (luhn_w k a d).1 ‹_› | exact (luhn_w k a d).2 ‹_›⟩); (case measure => simp [intOf]; omega))
    · have hv : (rvals s).take k = rvals s := List.take_of_length_le (by rw [rvals_len]; omega)
      have hav : foldi luhnF 0 0 ((rvals s).take k) = foldi luhnF 0 0 (rvals s) := by rw [hv]
      clear hv
      rw [hav] at hp ⊢
      clear hav
      go_wp2_with (go_at_call 100; refine (digit_any _ _ (by omega) (by omega)).mono ?_; rintro e w' ⟨rfl, rfl⟩)
      go_ret
      have e : checkS 2 s = ⟨#[chr (-(foldi luhnF 0 0 (rvals s) % 10) % 10)]⟩ := by
        show (⟨#[chr ((10 - foldi luhnF 0 0 (rvals s) % 10) % 10)]⟩ : ByteArray) = _
        rw [show (10 - foldi luhnF 0 0 (rvals s) % 10) % 10 = -(foldi luhnF 0 0 (rvals s) % 10) % 10 by omega]
      exact ⟨by rw [e]; rfl, hB⟩

set_option maxHeartbeats 400000 in
theorem isbn_check (s : ByteArray) (w : World) (hs : s.size ≤ 4096) (h0 : 0 < s.size) (hdig : Digs s) :
    Calls Try.prog 116 #[.agg #[], .string s] w fun e w' => e = .returned (.string (checkS 3 s)) ∧ Below w.heap.size w w' := by
  have HD : Hid (Digs s) := hdig
  clear hdig
  go_enter Try.func116, Try.ntmps116
  go_wp2_with (go_at_call 41; refine (backward_any s _ hs h0 HD.out).mono ?_; rintro e w1 ⟨ad, cap, rfl, hc, hb⟩)
  have hB : Below w.heap.size w w1 := ((Below.refl _ _).alloc (Nat.le_refl _) _).trans (hb.mono (by simp))
  clear hb
  have HC := Lib.hid hc; clear hc
  go_loop [5, 11] (fun p i => ∃ k : Nat, k ≤ s.size ∧ i = .int .i64 k ∧ p = .int .i64 (foldi isbnF 0 0 ((rvals s).take k))) (fun _ i => s.size - (intOf i).toNat)
  case atStart => exact ⟨0, Nat.zero_le _, rfl, rfl⟩
  case round =>
    obtain ⟨k, hk, rfl, rfl⟩ := hrel
    have hp : 0 ≤ foldi isbnF 0 0 ((rvals s).take k) ∧ foldi isbnF 0 0 ((rvals s).take k) ≤ 1000000000 := by
      have h1 := isbn_bd _ (take_bd (rvals_bd s HD.out) k) 0 (by omega) 0
      have h2 : ((rvals s).take k).length ≤ k := List.length_take_le _ _
      have h3 : (((rvals s).take k).length + 2) * ((rvals s).take k).length ≤ 4098 * 4096 := Nat.mul_le_mul (by omega) (by omega)
      have h4 : 9 * (((0 : Nat) : Int) + (((rvals s).take k).length : Int) + 2) * (((rvals s).take k).length : Int) = 9 * (((((rvals s).take k).length + 2) * ((rvals s).take k).length : Nat) : Int) := by rw [Int.natCast_mul]; rw [Int.mul_assoc]; congr 1; congr 1; omega
      rw [h4] at h1
      omega
    by_cases hlt : k < s.size
    · have hd := rvals_at s HD.out k hlt
      have hcell := HC.out k hlt
      have hsn := rvals_snoc isbnF 0 s k hlt
      have HS := Lib.hid hsn; clear hsn
      rw [show (vals s).reverse = rvals s from rfl] at hcell
      generalize hdv : (rvals s).getD k 0 = d at hd hcell
      have HV := Lib.hid hdv; clear hdv
      generalize hav : foldi isbnF 0 0 ((rvals s).take k) = a at hp ⊢
      have HA := Lib.hid hav; clear hav
      go_wp2
      all_goals (go_round; (case rel => exact ⟨k + 1, by omega, by go_num, by rw [HS.out, HA.out, HV.out]; exact isbn_w k a d hp hd (by omega)⟩); (case measure => simp [intOf]; omega))
    · have hv : (rvals s).take k = rvals s := List.take_of_length_le (by rw [rvals_len]; omega)
      have hav : foldi isbnF 0 0 ((rvals s).take k) = foldi isbnF 0 0 (rvals s) := by rw [hv]
      clear hv
      rw [hav] at hp ⊢
      clear hav
      go_wp2_with (go_at_call 100; refine (digit_any _ _ (by omega) (by omega)).mono ?_; rintro e w' ⟨rfl, rfl⟩)
      go_ret
      have e : checkS 3 s = ⟨#[chr (-(foldi isbnF 0 0 (rvals s) % 11) % 11)]⟩ := by
        show (⟨#[chr ((11 - foldi isbnF 0 0 (rvals s) % 11) % 11)]⟩ : ByteArray) = _
        rw [show (11 - foldi isbnF 0 0 (rvals s) % 11) % 11 = -(foldi isbnF 0 0 (rvals s) % 11) % 11 by omega]
      exact ⟨by rw [e]; rfl, hB⟩

end Go.Proofs.Ytcfgfeamcckmjaa.Chk
