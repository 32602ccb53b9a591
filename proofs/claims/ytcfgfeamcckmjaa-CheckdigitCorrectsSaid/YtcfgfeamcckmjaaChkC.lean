/-
  Checkdigit, part C: 'digit', and the systems whose check characters are computed from the left.
-/
import Derived.Test.YtcfgfeamcckmjaaChkB
import Derived.Laws.BytesArg
namespace Go.Proofs.Ytcfgfeamcckmjaa.Chk
open Go.RowKit
set_option linter.unusedVariables false
set_option linter.unusedSimpArgs false

theorem dec_one (n : Nat) (h : n ≤ 9) : (⟨(Lib.decDigits n).toArray⟩ : ByteArray) = ⟨#[chr n]⟩ := by
  rcases (by omega : n = 0 ∨ n = 1 ∨ n = 2 ∨ n = 3 ∨ n = 4 ∨ n = 5 ∨ n = 6 ∨ n = 7 ∨ n = 8 ∨ n = 9) with rfl | rfl | rfl | rfl | rfl | rfl | rfl | rfl | rfl | rfl <;> decide +kernel

theorem digit_any (v : Int) (w : World) (h0 : 0 ≤ v) (h1 : v ≤ 10) :
    Calls Try.prog 100 #[.int .i64 v] w fun e w' => e = .returned (.string ⟨#[chr v]⟩) ∧ w = w' := by
  by_cases h : v = 10
  · subst h
    go_enter Try.func100, Try.ntmps100
    go_wp2
    go_ret
    exact ⟨rfl, rfl⟩
  · obtain ⟨n, rfl⟩ : ∃ n : Nat, v = n := ⟨v.toNat, by omega⟩
    have hb : ((n : Int) == 10) = false := beq_eq_false_iff_ne.mpr h
    have hd := dec_one n (by omega)
    have HD := Lib.hid hd; clear hd
    have hn : n < 100 := by omega
    clear h h0 h1
    go_enter Try.func100, Try.ntmps100
    go_wp2_with (go_at_call 101; refine (Try.strconv_Itoa_small _ hn _).mono ?_; rintro e w' ⟨rfl, rfl⟩)
    go_ret
    exact ⟨by rw [← HD.out]; rfl, rfl⟩

theorem vals_at (s : ByteArray) (k : Nat) (h : k < s.size) : (vals s)[k]'(by simpa [vals] using h) = dg s[k] := by
  simp [vals]; rfl
theorem vals_len (s : ByteArray) : (vals s).length = s.size := by simp [vals]
theorem vals_snoc {β : Type} (f : Nat → β → Int → β) (b : β) (s : ByteArray) (k : Nat) (h : k < s.size) : foldi f 0 b ((vals s).take (k + 1)) = f k (foldi f 0 b ((vals s).take k)) (dg s[k]) := by
  rw [foldi_snoc f (vals s) b k (by rw [vals_len]; exact h), vals_at s k h]
/-- All characters are digits. -/
def Digs (s : ByteArray) : Prop := ∀ (i : Nat) (h : i < s.size), 48 ≤ s[i].toNat ∧ s[i].toNat ≤ 57
theorem digs_of (s : ByteArray) (h : withinB s alpha10 = true) : Digs s := by
  intro i hi
  have hm : s[i] ∈ s.data.toList := by rw [show s[i] = s.data.toList[i]'(by simpa using hi) from rfl]; exact List.getElem_mem _
  have := List.all_eq_true.mp h _ hm
  simp [alpha10] at this
  rcases this with e | e | e | e | e | e | e | e | e | e <;> rw [e] <;> decide +kernel

theorem i11_bd (l : List Int) (h : ∀ d ∈ l, 0 ≤ d ∧ d ≤ 9) (p : Int) (h0 : 0 ≤ p) (h1 : p ≤ 10) (i : Nat) : 0 ≤ foldi i11F i p l ∧ foldi i11F i p l ≤ 10 := by
  induction l generalizing i p with
  | nil => exact ⟨h0, h1⟩
  | cons d l ih =>
    have hd := h d (List.mem_cons_self ..)
    exact ih (fun d hd => h d (List.mem_cons_of_mem _ hd)) _ (by unfold i11F; omega) (by unfold i11F; omega) _
theorem i97_bd (l : List Int) (h : ∀ d ∈ l, 0 ≤ d ∧ d ≤ 9) (p : Int) (h0 : 0 ≤ p) (h1 : p ≤ 96) (i : Nat) : 0 ≤ foldi i97F i p l ∧ foldi i97F i p l ≤ 96 := by
  induction l generalizing i p with
  | nil => exact ⟨h0, h1⟩
  | cons d l ih =>
    have hd := h d (List.mem_cons_self ..)
    exact ih (fun d hd => h d (List.mem_cons_of_mem _ hd)) _ (by unfold i97F; omega) (by unfold i97F; omega) _
theorem damm_one (c d : Nat) (hc : c ≤ 9) (hd : d ≤ 9) : 0 ≤ dammF 0 c d ∧ dammF 0 c d ≤ 9 := by
  have h : ∀ c : Fin 10, ∀ d : Fin 10, 0 ≤ dammF 0 c.val d.val ∧ dammF 0 c.val d.val ≤ 9 := by decide
  exact h ⟨c, by omega⟩ ⟨d, by omega⟩
theorem damm_bd (l : List Int) (h : ∀ d ∈ l, 0 ≤ d ∧ d ≤ 9) (p : Int) (h0 : 0 ≤ p) (h1 : p ≤ 9) (i : Nat) : 0 ≤ foldi dammF i p l ∧ foldi dammF i p l ≤ 9 := by
  induction l generalizing i p with
  | nil => exact ⟨h0, h1⟩
  | cons d l ih =>
    have hd := h d (List.mem_cons_self ..)
    obtain ⟨c, rfl⟩ : ∃ n : Nat, p = n := ⟨p.toNat, by omega⟩
    obtain ⟨e, rfl⟩ : ∃ n : Nat, d = n := ⟨d.toNat, by omega⟩
    have := damm_one c e (by omega) (by omega)
    exact ih (fun d hd => h d (List.mem_cons_of_mem _ hd)) _ this.1 this.2 _
theorem vals_bd (s : ByteArray) (h : Digs s) : ∀ d ∈ vals s, 0 ≤ d ∧ d ≤ 9 := by
  intro d hd
  obtain ⟨i, hi, rfl⟩ := List.mem_iff_getElem.mp hd
  have hi' : i < s.size := by simpa [vals] using hi
  rw [vals_at s i hi']
  have := h i hi'
  unfold dg; omega
theorem take_bd {l : List Int} {a b : Int} (h : ∀ d ∈ l, a ≤ d ∧ d ≤ b) (k : Nat) : ∀ d ∈ l.take k, a ≤ d ∧ d ≤ b := fun d hd => h d (List.mem_of_mem_take hd)

set_option maxHeartbeats 400000 in
theorem i11_check (s : ByteArray) (w : World) (hs : s.size ≤ 4096) (hdig : Digs s) :
    Calls Try.prog 126 #[.agg #[], .string s] w fun e w' => e = .returned (.string (checkS 8 s)) ∧ Below w.heap.size w w' := by
  have HD : Hid (Digs s) := hdig
  clear hdig
  go_enter Try.func126, Try.ntmps126
  go_wp2
  go_loop [5, 9] (fun p i => ∃ k : Nat, k ≤ s.size ∧ i = .int .i64 k ∧ p = .int .i64 (foldi i11F 0 0 ((vals s).take k))) (fun _ i => s.size - (intOf i).toNat)
  case atStart => exact ⟨0, Nat.zero_le _, rfl, rfl⟩
  case round =>
    obtain ⟨k, hk, rfl, rfl⟩ := hrel
    have hp := i11_bd _ (take_bd (vals_bd s HD.out) k) 0 (by omega) (by omega) 0
    by_cases hlt : k < s.size
    · have hd := HD.out k hlt
      have hsn := vals_snoc i11F 0 s k hlt
      have HS := Lib.hid hsn; clear hsn
      go_wp2
      go_round
      case rel => exact ⟨k + 1, by omega, by go_num, by rw [HS.out]; rfl⟩
      case measure => simp [intOf]; omega
    · go_wp2_with (go_at_call 100; refine (digit_any _ _ (by omega) (by omega)).mono ?_; rintro e w' ⟨rfl, rfl⟩)
      have hv : (vals s).take k = vals s := List.take_of_length_le (by rw [vals_len]; omega)
      go_ret
      exact ⟨by rw [hv]; rfl, (Below.refl _ _).alloc (Nat.le_refl _) _⟩

set_option maxHeartbeats 400000 in
theorem i97_check (s : ByteArray) (w : World) (hs : s.size ≤ 4096) (hdig : Digs s) :
    Calls Try.prog 121 #[.agg #[], .string s] w fun e w' => e = .returned (.string (checkS 6 s)) ∧ Below w.heap.size w w' := by
  have HD : Hid (Digs s) := hdig
  clear hdig
  go_enter Try.func121, Try.ntmps121
  go_wp2
  go_loop [5, 10] (fun p i => ∃ k : Nat, k ≤ s.size ∧ i = .int .i64 k ∧ p = .int .i64 (foldi i97F 0 0 ((vals s).take k))) (fun _ i => s.size - (intOf i).toNat)
  case atStart => exact ⟨0, Nat.zero_le _, rfl, rfl⟩
  case round =>
    obtain ⟨k, hk, rfl, rfl⟩ := hrel
    have hp := i97_bd _ (take_bd (vals_bd s HD.out) k) 0 (by omega) (by omega) 0
    by_cases hlt : k < s.size
    · have hd := HD.out k hlt
      have hsn := vals_snoc i97F 0 s k hlt
      have HS := Lib.hid hsn; clear hsn
      go_wp2
      go_round
      case rel => exact ⟨k + 1, by omega, by go_num, by rw [HS.out]; rfl⟩
      case measure => simp [intOf]; omega
    · have hv : (vals s).take k = vals s := List.take_of_length_le (by rw [vals_len]; omega)
      have HV := Lib.hid hv; clear hv
      go_wp2_with (go_at_call 100; refine (digit_any _ _ (by omega) (by omega)).mono ?_; rintro e w' ⟨rfl, rfl⟩)
      go_ret
      exact ⟨by rw [HV.out]; rfl, (Below.refl _ _).alloc (Nat.le_refl _) _⟩

/-- All characters are among those of Code 39. -/
def Is39 (s : ByteArray) : Prop := ∀ (i : Nat) (h : i < s.size), 0 ≤ v39 s[i] ∧ v39 s[i] ≤ 42
theorem idx_lt (l : List UInt8) (c : UInt8) : Lib.indexByte l c < l.length := by
  induction l with
  | nil => simp [Lib.indexByte]
  | cons b l ih =>
    unfold Lib.indexByte
    rw [List.length_cons]
    split
    · omega
    · split <;> omega
theorem v39_le (b : UInt8) : v39 b ≤ 42 := by
  have := idx_lt alpha39.data.toList b
  have e : alpha39.data.toList.length = 43 := rfl
  unfold v39; omega
theorem is39_of (s : ByteArray) (h : withinB s alpha39 = true) : Is39 s := by
  intro i hi
  have hm : s[i] ∈ s.data.toList := by rw [show s[i] = s.data.toList[i]'(by simpa using hi) from rfl]; exact List.getElem_mem _
  have h1 := List.all_eq_true.mp h _ hm
  have h2 := idx_neg alpha39.data.toList s[i]
  refine ⟨?_, v39_le _⟩
  unfold v39
  by_cases h3 : Lib.indexByte alpha39.data.toList s[i] < 0
  · rw [h2.mp h3] at h1; cases h1
  · omega
def v39s (s : ByteArray) : List Int := s.data.toList.map v39
theorem v39s_len (s : ByteArray) : (v39s s).length = s.size := by simp [v39s]
theorem v39s_snoc {β : Type} (f : Nat → β → Int → β) (b : β) (s : ByteArray) (k : Nat) (h : k < s.size) : foldi f 0 b ((v39s s).take (k + 1)) = f k (foldi f 0 b ((v39s s).take k)) (v39 s[k]) := by
  rw [foldi_snoc f (v39s s) b k (by rw [v39s_len]; exact h)]
  congr 1
  simp [v39s]; rfl
theorem v39s_bd (s : ByteArray) (h : Is39 s) : ∀ d ∈ v39s s, 0 ≤ d ∧ d ≤ 42 := by
  intro d hd
  obtain ⟨i, hi, rfl⟩ := List.mem_iff_getElem.mp hd
  have hi' : i < s.size := by simpa [v39s] using hi
  have := h i hi'
  simp only [v39s, List.getElem_map]
  exact this
theorem sum_bd (l : List Int) (h : ∀ d ∈ l, 0 ≤ d ∧ d ≤ 42) (p : Int) (h0 : 0 ≤ p) (i : Nat) : 0 ≤ foldi (fun _ a d => a + d) i p l ∧ foldi (fun _ a d => a + d) i p l ≤ p + 42 * l.length := by
  induction l generalizing i p with
  | nil => exact ⟨h0, by simp [foldi]⟩
  | cons d l ih =>
    have hd := h d (List.mem_cons_self ..)
    have := ih (fun d hd => h d (List.mem_cons_of_mem _ hd)) (p + d) (by omega) (i + 1)
    rw [foldi, List.length_cons]; omega
theorem ext_one (s : ByteArray) (a : Nat) (h : a < s.size) : s.extract a (a + 1) = ⟨#[s.data.toList.getD a 0]⟩ := by
  have h' : a < s.data.toList.length := by simpa using h
  apply ByteArray.ext
  apply Array.toList_inj.mp
  rw [ByteArray.data_extract, Array.toList_extract, List.extract_eq_take_drop, show a + 1 - a = 1 by omega, List.drop_eq_getElem_cons h']
  simp [List.getElem?_eq_getElem h']

set_option maxHeartbeats 400000 in
theorem c39_check (s : ByteArray) (w : World) (hs : s.size ≤ 4096) (hdig : Is39 s) :
    Calls Try.prog 123 #[.agg #[], .string s] w fun e w' => e = .returned (.string (checkS 7 s)) ∧ Below w.heap.size w w' := by
  have HD : Hid (Is39 s) := hdig
  clear hdig
  go_enter Try.func123, Try.ntmps123
  go_wp2
  go_loop [5, 9] (fun p i => ∃ k : Nat, k ≤ s.size ∧ i = .int .i64 k ∧ p = .int .i64 (foldi (fun _ a d => a + d) 0 0 ((v39s s).take k))) (fun _ i => s.size - (intOf i).toNat)
  case atStart => exact ⟨0, Nat.zero_le _, rfl, rfl⟩
  case round =>
    obtain ⟨k, hk, rfl, rfl⟩ := hrel
    have hp := sum_bd _ (take_bd (v39s_bd s HD.out) k) 0 (by omega) 0
    have hl : ((v39s s).take k).length ≤ k := List.length_take_le _ _
    by_cases hlt : k < s.size
    · have hd := HD.out k hlt
      have hsn := v39s_snoc (fun _ a d => a + d) 0 s k hlt
      have HS := Lib.hid hsn; clear hsn
      unfold v39 at hd
      go_wp2_with (go_at_call 48; refine (Try.strings_IndexByte alpha39 _ _).mono ?_; rintro e w' ⟨rfl, rfl⟩)
      go_round
      case rel => exact ⟨k + 1, by omega, by go_num, by rw [HS.out]; rfl⟩
      case measure => simp [intOf]; omega
    · have hv : (v39s s).take k = v39s s := List.take_of_length_le (by rw [v39s_len]; omega)
      have HV := Lib.hid hv; clear hv
      have hx := ext_one alpha39 (foldi (fun _ a d => a + d) 0 0 ((v39s s).take k) % 43).toNat (by have : alpha39.size = 43 := rfl; omega)
      have hy : (foldi (fun _ a d => a + d) 0 0 ((v39s s).take k) % 43 + 1).toNat = (foldi (fun _ a d => a + d) 0 0 ((v39s s).take k) % 43).toNat + 1 := by omega
      have HX := Lib.hid hx; clear hx
      have HY := Lib.hid hy; clear hy
      go_wp2
      go_ret
      refine ⟨?_, (Below.refl _ _).alloc (Nat.le_refl _) _⟩
      have h1 := HX.out
      rw [← HY.out, HV.out] at h1
      rw [HV.out]
      exact congrArg (fun x => Ending.returned (.string x)) h1

def dammRow (c : Nat) : ByteArray :=
  [(⟨#[48, 51, 49, 55, 53, 57, 56, 54, 52, 50]⟩ : ByteArray), ⟨#[55, 48, 57, 50, 49, 53, 52, 56, 54, 51]⟩, ⟨#[52, 50, 48, 54, 56, 55, 49, 51, 53, 57]⟩, ⟨#[49, 55, 53, 48, 57, 56, 51, 52, 50, 54]⟩, ⟨#[54, 49, 50, 51, 48, 52, 53, 57, 55, 56]⟩, ⟨#[51, 54, 55, 52, 50, 48, 57, 53, 56, 49]⟩, ⟨#[53, 56, 54, 57, 55, 50, 48, 49, 51, 52]⟩, ⟨#[56, 57, 52, 53, 51, 54, 50, 48, 49, 55]⟩, ⟨#[57, 52, 51, 56, 54, 49, 55, 50, 48, 53]⟩, ⟨#[50, 53, 56, 49, 52, 51, 54, 55, 57, 48]⟩].getD c ByteArray.empty
theorem dammRow_size (c : Nat) (h : c ≤ 9) : (dammRow c).size = 10 := by
  have h' : ∀ c : Fin 10, (dammRow c.val).size = 10 := by decide
  exact h' ⟨c, by omega⟩
theorem dammRow_at (c d : Nat) (hc : c ≤ 9) (hd : d < (dammRow c).size) : ((dammRow c)[d].toNat : Int) = 48 + dammF 0 c d := by
  have h' : ∀ c : Fin 10, ∀ d : Fin 10, (((dammRow c.val).data.toList.getD d.val 0).toNat : Int) = 48 + dammF 0 c.val d.val := by decide
  have := h' ⟨c, by omega⟩ ⟨d, by rw [dammRow_size c hc] at hd; omega⟩
  rw [← this]
  have hd' : d < (dammRow c).data.toList.length := by simpa using hd
  simp only [List.getD_eq_getElem?_getD, List.getElem?_eq_getElem hd', Option.getD_some]
  rfl

theorem damm_next (s : ByteArray) (k c : Nat) (hk : k < s.size) (hc : c ≤ 9) (h0 : 48 ≤ s[k].toNat) (h1 : s[k].toNat ≤ 57) (h : s[k].toNat - 48 < (dammRow c).size := by rw [dammRow_size c hc]; omega) :
    ((dammRow c)[s[k].toNat - 48].toNat : Int) = 48 + ((dammF 0 c (dg s[k])).toNat : Int) ∧ dammF k c (dg s[k]) = ((dammF 0 c (dg s[k])).toNat : Int) ∧ (dammF 0 c (dg s[k])).toNat ≤ 9 := by
  have e : dg s[k] = ((s[k].toNat - 48 : Nat) : Int) := by unfold dg; omega
  have hb := damm_one c (s[k].toNat - 48) hc (by omega)
  have ha := dammRow_at c (s[k].toNat - 48) hc h
  rw [e]
  exact ⟨by omega, by show dammF 0 c _ = _; omega, by omega⟩

set_option maxHeartbeats 400000 in
set_option maxRecDepth 10000 in
theorem damm_check (s : ByteArray) (w : World) (hs : s.size ≤ 4096) (hdig : Digs s) :
    Calls Try.prog 120 #[.agg #[], .string s] w fun e w' => e = .returned (.string (checkS 5 s)) ∧ Below w.heap.size w w' := by
  have HD : Hid (Digs s) := hdig
  clear hdig
  go_enter Try.func120, Try.ntmps120
  go_wp2
  go_loopw [6, 11] (fun p i wr => ∃ k c : Nat, k ≤ s.size ∧ c ≤ 9 ∧ i = .int .i64 k ∧ p = .int .u8 (48 + (c : Int)) ∧ foldi dammF 0 0 ((vals s).take k) = c ∧ (∀ j, j ≤ 9 → wr.cell? ⟨w.heap.size + 1, j, none⟩ = some (.string (dammRow j))) ∧ Below w.heap.size w wr) (fun _ i _ => s.size - (intOf i).toNat)
  case atStart => exact ⟨0, 0, Nat.zero_le _, Nat.zero_le _, rfl, rfl, rfl, fun j hj => (by rcases (by omega : j = 0 ∨ j = 1 ∨ j = 2 ∨ j = 3 ∨ j = 4 ∨ j = 5 ∨ j = 6 ∨ j = 7 ∨ j = 8 ∨ j = 9) with rfl | rfl | rfl | rfl | rfl | rfl | rfl | rfl | rfl | rfl <;> simp [dammRow]), ((Below.refl _ _).alloc (Nat.le_refl _) _).alloc (by simp) _⟩
  case round =>
    obtain ⟨k, c, hk, hc, rfl, rfl, hf, hcell, hB⟩ := hrel
    by_cases hlt : k < s.size
    · have hd := HD.out k hlt
      have hsn := vals_snoc dammF 0 s k hlt
      have HS := Lib.hid hsn; clear hsn
      have HF := Lib.hid hf; clear hf
      have hcl := hcell c hc
      have HC := Lib.hid hcell; clear hcell
      have h1 : IntKind.u8.wrap (48 + (c : Int) - 48) = c := IntWalk.u8_in _ (by omega) |>.trans (by omega)
      have h2 : IntKind.u8.wrap ((s[k].toNat : Int) - 48) = s[k].toNat - 48 := IntWalk.u8_in _ (by omega)
      have h3 := dammRow_size c hc
      have h4 : (c : Int) < 10 := by omega
      have h5 : (s[k].toNat : Int) - 48 < 10 := by omega
      have h6 : (48 : Int) ≤ s[k].toNat := by omega
      have h7 := damm_next s k c hlt hc hd.1 hd.2
      have H7 := Lib.hid h7; clear h7
      go_wp2
      go_region
      go_wp2
      go_roundw
      case rel => exact ⟨k + 1, (dammF 0 c (dg s[k])).toNat, by omega, H7.out.2.2, by go_num, by rw [H7.out.1], by rw [HS.out, HF.out]; exact H7.out.2.1, HC.out, hB.drew⟩
      case measure => simp [intOf]; omega
    · have HF := Lib.hid hf; clear hf
      have HC := Lib.hid hcell; clear hcell
      have hcv := fun cap => run_convert_bytes_arg (P := Try.prog) (wr.alloc (.cells #[.int .u8 (48 + (c : Int))] 5)) 41 5 Try.underlying41 Try.underlying5 wr.heap.size 0 1 cap [48 + (c : Int)] rfl (by intro i hi; (obtain rfl : i = 0 := by omega); simp) 9 Try.underlying9
      have hv : (vals s).take k = vals s := List.take_of_length_le (by rw [vals_len]; omega)
      have HV := Lib.hid hv; clear hv
      go_wp2
      go_ret
      refine ⟨?_, hB.alloc hB.size _⟩
      have h1 : dammV (vals s) = c := by have := HF.out; rw [HV.out] at this; exact this
      have h2 : checkS 5 s = strOfNums [48 + (c : Int)] := by
        show (⟨#[chr (dammV (vals s))]⟩ : ByteArray) = _
        rw [h1, chr, if_neg (by omega), strOfNums]
        simp [Int.add_comm]
      rw [h2]; rfl
end Go.Proofs.Ytcfgfeamcckmjaa.Chk
