/-
  Checkdigit: the reference computes the same (plain Lean over the printed functions).
-/
import Derived.Test.YtcfgfeamcckmjaaChkL
import Derived.Test.YtcfgfeamcckmjaaPB1
import Derived.Test.YtcfgfeamcckmjaaPB2
import Derived.Test.YtcfgfeamcckmjaaPB3
namespace Go.Proofs.Ytcfgfeamcckmjaa.Chk
open Go.RowKit Go.Proofs.YtcfgfeamcckmjaaW.PrintWords Go.Proofs.YtcfgfeamcckmjaaW.PrintLast Go.Proofs.YtcfgfeamcckmjaaW.PrintMore
open Go.Proofs.Ytcfgfeamcckmjaa.PB
set_option linter.unusedVariables false
set_option linter.unusedSimpArgs false

theorem rvals_get (s : ByteArray) (hd : Digs s) (i : Nat) (hi : i < s.size) : (rvals s).getD i 0 = dg (s[s.size - 1 - i]'(by omega)) := by
  rw [List.getD_eq_getElem?_getD, List.getElem?_eq_getElem (by rw [rvals_len]; exact hi), Option.getD_some]
  unfold rvals
  rw [List.getElem_reverse]
  have e : (vals s).length - 1 - i = s.size - 1 - i := by rw [vals_len]
  have := vals_at s (s.size - 1 - i) (by omega)
  rw [← this]
  congr 1
theorem ref_value (s : ByteArray) (hs : s.size ≤ 4096) (hd : Digs s) (i : Nat) (hi : i < s.size) : barscanref09_value.f s (i : Int) = some ((rvals s).getD i 0) := by
  unfold barscanref09_value.f
  have e1 : wrap64 (wrap64 ((s.size : Int) - 1) - (i : Int)) = ((s.size - 1 - i : Nat) : Int) := by
    rw [w64_in ((s.size : Int) - 1) (by omega) (by omega), w64_in _ (by omega) (by omega)]; omega
  rw [e1, if_pos (by omega), if_pos (by omega), bt_nat s _ (by omega), rvals_get s hd i hi]
  have := hd (s.size - 1 - i) (by omega)
  congr 1
  unfold dg; omega
theorem rvals_drop (s : ByteArray) (i : Nat) (hi : i < s.size) : (rvals s).drop i = (rvals s).getD i 0 :: (rvals s).drop (i + 1) := by
  rw [List.drop_eq_getElem_cons (by rw [rvals_len]; exact hi), List.getD_eq_getElem?_getD, List.getElem?_eq_getElem (by rw [rvals_len]; exact hi), Option.getD_some]
theorem rvals_end (s : ByteArray) (i : Nat) (hi : s.size ≤ i) : (rvals s).drop i = [] := List.drop_eq_nil_of_le (by rw [rvals_len]; exact hi)

theorem ref_gs1_l (s : ByteArray) (hs : s.size ≤ 4096) (hd : Digs s) (d : Nat) : ∀ (k i : Nat) (x : Int), s.size - i = d → i ≤ s.size → d < k → 0 ≤ x → x ≤ 27 * i →
    barscanref09_gs1.l0 k s x i = some ((10 - foldi gs1F i x ((rvals s).drop i) % 10) % 10) := by
  induction d with
  | zero =>
    intro k i x h1 h2 h3 h4 h5
    obtain ⟨k, rfl⟩ : ∃ m, k = m + 1 := ⟨k - 1, by omega⟩
    simp only [barscanref09_gs1.l0]
    rw [if_neg (by omega), rvals_end s i (by omega), foldi]
    rw [Int.tmod_eq_emod_of_nonneg (by omega : 0 ≤ x), w64_in _ (by omega) (by omega), Int.tmod_eq_emod_of_nonneg (by omega)]
  | succ d ih =>
    intro k i x h1 h2 h3 h4 h5
    obtain ⟨k, rfl⟩ : ∃ m, k = m + 1 := ⟨k - 1, by omega⟩
    simp only [barscanref09_gs1.l0]
    have hv := rvals_at s hd i (by omega)
    rw [if_pos (by omega), ref_value s hs hd i (by omega), rvals_drop s i (by omega), foldi]
    simp only [Option.bind_some]
    have e : wrap64 (x + wrap64 ((rvals s).getD i 0 * wrap64 (3 - wrap64 (Int.tmod (i : Int) 2 * 2)))) = gs1F i x ((rvals s).getD i 0) := by
      rw [Int.tmod_eq_emod_of_nonneg (by omega)]
      unfold gs1F
      rcases (by omega : (i : Int) % 2 = 0 ∨ (i : Int) % 2 = 1) with e | e
      · rw [e, show wrap64 (3 - wrap64 (0 * 2)) = 3 by unfold wrap64; omega, w64_in ((rvals s).getD i 0 * 3) (by omega) (by omega), w64_in _ (by omega) (by omega)]; omega
      · rw [e, show wrap64 (3 - wrap64 (1 * 2)) = 1 by unfold wrap64; omega, w64_in ((rvals s).getD i 0 * 1) (by omega) (by omega), w64_in _ (by omega) (by omega)]; omega
    have hb : 0 ≤ gs1F i x ((rvals s).getD i 0) ∧ gs1F i x ((rvals s).getD i 0) ≤ 27 * (i + 1 : Nat) := by
      unfold gs1F
      rcases (by omega : (i : Int) % 2 = 0 ∨ (i : Int) % 2 = 1) with e | e <;> rw [e] <;> omega
    rw [e, w64_in ((i : Int) + 1) (by omega) (by omega)]
    exact ih k (i + 1) _ (by omega) (by omega) (by omega) hb.1 hb.2
theorem ref_gs1 (s : ByteArray) (hs : s.size ≤ 4096) (hd : Digs s) (k : Nat) (hk : 5000 ≤ k) : barscanref09_gs1.f k s = some (gs1V (vals s)) :=
  ref_gs1_l s hs hd s.size k 0 0 (by omega) (by omega) (by omega) (by omega) (by omega)

theorem ref_luhn_l (s : ByteArray) (hs : s.size ≤ 4096) (hd : Digs s) (d : Nat) : ∀ (k i : Nat) (x : Int), s.size - i = d → i ≤ s.size → d < k → 0 ≤ x → x ≤ 18 * i →
    barscanref09_luhn.l0 k s x i = some ((10 - foldi luhnF i x ((rvals s).drop i) % 10) % 10) := by
  induction d with
  | zero =>
    intro k i x h1 h2 h3 h4 h5
    obtain ⟨k, rfl⟩ : ∃ m, k = m + 1 := ⟨k - 1, by omega⟩
    simp only [barscanref09_luhn.l0]
    rw [if_neg (by omega), rvals_end s i (by omega), foldi]
    rw [Int.tmod_eq_emod_of_nonneg (by omega : 0 ≤ x), w64_in _ (by omega) (by omega), Int.tmod_eq_emod_of_nonneg (by omega)]
  | succ d ih =>
    intro k i x h1 h2 h3 h4 h5
    obtain ⟨k, rfl⟩ : ∃ m, k = m + 1 := ⟨k - 1, by omega⟩
    simp only [barscanref09_luhn.l0]
    have hv := rvals_at s hd i (by omega)
    rw [if_pos (by omega), ref_value s hs hd i (by omega), rvals_drop s i (by omega), foldi]
    simp only [Option.bind_some]
    generalize hg : (rvals s).getD i 0 = g at hv ⊢
    rw [Int.tmod_eq_emod_of_nonneg (by omega : 0 ≤ (i : Int)), w64_in ((i : Int) + 1) (by omega) (by omega), w64_in (2 * g) (by omega) (by omega)]
    have hn := ih k (i + 1) (luhnF i x g) (by omega) (by omega) (by omega) (by unfold luhnF; split <;> omega) (by unfold luhnF; split <;> omega)
    by_cases h6 : (i : Int) % 2 = 0
    · rw [if_pos h6]
      have e : luhnF i x g = x + (g * 2 / 10 + g * 2 % 10) := by unfold luhnF; rw [if_pos (by omega)]
      rw [e] at hn ⊢
      by_cases h7 : 2 * g > 9
      · rw [if_pos h7, w64_in (2 * g - 9) (by omega) (by omega), w64_in _ (by omega) (by omega), show x + (2 * g - 9) = x + (g * 2 / 10 + g * 2 % 10) by omega]
        exact hn
      · rw [if_neg h7, w64_in _ (by omega) (by omega), show x + 2 * g = x + (g * 2 / 10 + g * 2 % 10) by omega]
        exact hn
    · rw [if_neg h6, if_neg (by omega)]
      have e : luhnF i x g = x + g := by unfold luhnF; rw [if_neg (by omega)]
      rw [e] at hn ⊢
      rw [w64_in _ (by omega) (by omega)]
      exact hn
theorem ref_luhn (s : ByteArray) (hs : s.size ≤ 4096) (hd : Digs s) (k : Nat) (hk : 5000 ≤ k) : barscanref09_luhn.f k s = some (luhnV (vals s)) :=
  ref_luhn_l s hs hd s.size k 0 0 (by omega) (by omega) (by omega) (by omega) (by omega)

theorem ref_isbn_l (s : ByteArray) (hs : s.size ≤ 4096) (hd : Digs s) (d : Nat) : ∀ (k i : Nat) (x : Int), s.size - i = d → i ≤ s.size → d < k → 0 ≤ x → x ≤ 40000 * i →
    barscanref09_isbn.l0 k s x i = some ((11 - foldi isbnF i x ((rvals s).drop i) % 11) % 11) := by
  induction d with
  | zero =>
    intro k i x h1 h2 h3 h4 h5
    obtain ⟨k, rfl⟩ : ∃ m, k = m + 1 := ⟨k - 1, by omega⟩
    simp only [barscanref09_isbn.l0]
    rw [if_neg (by omega), rvals_end s i (by omega), foldi]
    rw [Int.tmod_eq_emod_of_nonneg (by omega : 0 ≤ x), w64_in _ (by omega) (by omega), Int.tmod_eq_emod_of_nonneg (by omega)]
  | succ d ih =>
    intro k i x h1 h2 h3 h4 h5
    obtain ⟨k, rfl⟩ : ∃ m, k = m + 1 := ⟨k - 1, by omega⟩
    simp only [barscanref09_isbn.l0]
    have hv := rvals_at s hd i (by omega)
    rw [if_pos (by omega), ref_value s hs hd i (by omega), rvals_drop s i (by omega), foldi]
    simp only [Option.bind_some]
    generalize hg : (rvals s).getD i 0 = g at hv ⊢
    have hm : 0 ≤ ((i : Int) + 2) * g := Int.mul_nonneg (by omega) (by omega)
    have hm2 : ((i : Int) + 2) * g ≤ ((i : Int) + 2) * 9 := Int.mul_le_mul_of_nonneg_left hv.2 (by omega)
    have hc : g * ((i : Int) + 2) = ((i : Int) + 2) * g := Int.mul_comm _ _
    rw [w64_in ((i : Int) + 1) (by omega) (by omega), w64_in ((i : Int) + 2) (by omega) (by omega), hc, w64_in (((i : Int) + 2) * g) (by omega) (by omega), w64_in _ (by omega) (by omega)]
    exact ih k (i + 1) (isbnF i x g) (by omega) (by omega) (by omega) (by unfold isbnF; omega) (by unfold isbnF; omega)
theorem ref_isbn (s : ByteArray) (hs : s.size ≤ 4096) (hd : Digs s) (k : Nat) (hk : 5000 ≤ k) : barscanref09_isbn.f k s = some (isbnV (vals s)) :=
  ref_isbn_l s hs hd s.size k 0 0 (by omega) (by omega) (by omega) (by omega) (by omega)

theorem ref_product (a b : Int) (ha : 0 ≤ a ∧ a ≤ 9) (hb : 0 ≤ b ∧ b ≤ 9) (k : Nat) (hk : 1 ≤ k) : barscanref09_product.f k a b = some (dih a b) := by
  obtain ⟨k, rfl⟩ : ∃ m, k = m + 1 := ⟨k - 1, by omega⟩
  unfold barscanref09_product.f
  simp only [barscanref09_product.j0]
  by_cases h1 : a < 5
  · rw [if_pos h1]
    by_cases h2 : b < 5
    · rw [if_pos (decide_eq_true h2), w64_in _ (by omega) (by omega), Int.tmod_eq_emod_of_nonneg (by omega)]
      unfold dih; rw [if_pos h1, if_pos h2]
    · rw [if_neg (by simpa using h2), if_pos h1, w64_in (a + b) (by omega) (by omega), w64_in (a + b - 5) (by omega) (by omega), Int.tmod_eq_emod_of_nonneg (by omega), w64_in _ (by omega) (by omega)]
      unfold dih; rw [if_pos h1, if_neg h2]
  · rw [if_neg h1, if_neg (by decide), if_neg h1]
    by_cases h2 : b < 5
    · rw [if_pos h2, w64_in (a - b) (by omega) (by omega), Int.tmod_eq_emod_of_nonneg (by omega), w64_in _ (by omega) (by omega)]
      unfold dih; rw [if_neg h1, if_pos h2]; congr 1; omega
    · rw [if_neg h2, w64_in (a - b) (by omega) (by omega), w64_in _ (by omega) (by omega), Int.tmod_eq_emod_of_nonneg (by omega)]
      unfold dih; rw [if_neg h1, if_neg h2]


theorem perm_bt (x : Nat) (hx : x ≤ 9) : ((bt (⟨#[49, 53, 55, 54, 50, 56, 51, 48, 57, 52]⟩ : ByteArray) (x : Int)) - 48) % 256 = perm x := by
  have h : ∀ x : Fin 10, ((bt (⟨#[49, 53, 55, 54, 50, 56, 51, 48, 57, 52]⟩ : ByteArray) (x.val : Int)) - 48) % 256 = perm x.val := by decide
  exact h ⟨x, by omega⟩
theorem ref_ver_l1 (s : ByteArray) (c : Int) (i : Nat) (hi : i ≤ 4096) (d : Nat) : ∀ (k j : Nat) (x : Int), i % 8 + 1 - j = d → j ≤ i % 8 + 1 → 0 ≤ x ∧ x ≤ 9 → 0 ≤ c ∧ c ≤ 9 → d + 1 < k →
    ∃ k', k - d ≤ k' + 1 ∧ barscanref09_verhoeff.l1 k s c i x j = barscanref09_verhoeff.l0 k' s (dih c (permN d x)) ((i : Int) + 1) := by
  induction d with
  | zero =>
    intro k j x h1 h2 hx hc h3
    obtain ⟨k, rfl⟩ : ∃ m, k = m + 1 := ⟨k - 1, by omega⟩
    refine ⟨k, by omega, ?_⟩
    simp only [barscanref09_verhoeff.l1]
    have ht : Int.tmod (i : Int) 8 = ((i % 8 : Nat) : Int) := by rw [Int.tmod_eq_emod_of_nonneg (by omega)]; omega
    rw [ht, if_neg (by omega), ref_product c x hc hx k (by omega), w64_in _ (by omega) (by omega)]
    rfl
  | succ d ih =>
    intro k j x h1 h2 hx hc h3
    obtain ⟨k, rfl⟩ : ∃ m, k = m + 1 := ⟨k - 1, by omega⟩
    obtain ⟨n, rfl⟩ : ∃ n : Nat, x = n := ⟨x.toNat, by omega⟩
    have hp := perm_bd n (by omega)
    have hp' : 0 ≤ perm n ∧ perm n ≤ 9 := by unfold perm; simpa using hp
    obtain ⟨k', h4, h5⟩ := ih k (j + 1) (perm n) (by omega) (by omega) hp' hc (by omega)
    refine ⟨k', by omega, ?_⟩
    simp only [barscanref09_verhoeff.l1]
    have ht : Int.tmod (i : Int) 8 = ((i % 8 : Nat) : Int) := by rw [Int.tmod_eq_emod_of_nonneg (by omega)]; omega
    rw [ht, if_pos (by omega), if_pos (by omega), if_pos (by omega), perm_bt n (by omega), w64_in _ (by omega) (by omega)]
    exact h5
theorem ref_ver_l2 (c : Int) (hc : 0 ≤ c ∧ c ≤ 9) (d : Nat) : ∀ (k : Nat) (e : Nat), (dinv c).toNat - e = d → (e : Int) ≤ dinv c → d + 1 < k → barscanref09_verhoeff.l2 k c e = some (dinv c) := by
  have hb := dinv_bd c hc
  induction d with
  | zero =>
    intro k e h1 h2 h3
    obtain ⟨k, rfl⟩ : ∃ m, k = m + 1 := ⟨k - 1, by omega⟩
    have he : (e : Int) = dinv c := by omega
    simp only [barscanref09_verhoeff.l2]
    rw [if_pos (by omega), ref_product e c (by omega) hc k (by omega)]
    simp only [Option.bind_some]
    rw [if_pos ((dinv_iff e c (by omega) hc).mpr he), he]
  | succ d ih =>
    intro k e h1 h2 h3
    obtain ⟨k, rfl⟩ : ∃ m, k = m + 1 := ⟨k - 1, by omega⟩
    simp only [barscanref09_verhoeff.l2]
    rw [if_pos (by omega), ref_product e c (by omega) hc k (by omega)]
    simp only [Option.bind_some]
    rw [if_neg (fun h => by have := (dinv_iff e c (by omega) hc).mp h; omega), w64_in _ (by omega) (by omega)]
    exact ih k (e + 1) (by omega) (by omega) (by omega)
theorem ref_ver_l (s : ByteArray) (hs : s.size ≤ 4096) (hd : Digs s) (d : Nat) : ∀ (k i : Nat) (c : Int), s.size - i = d → i ≤ s.size → 12 * d + 20 < k → 0 ≤ c ∧ c ≤ 9 →
    barscanref09_verhoeff.l0 k s c i = some (dinv (foldi verF i c ((rvals s).drop i))) := by
  induction d with
  | zero =>
    intro k i c h1 h2 h3 hc
    obtain ⟨k, rfl⟩ : ∃ m, k = m + 1 := ⟨k - 1, by omega⟩
    have hb := dinv_bd c hc
    simp only [barscanref09_verhoeff.l0]
    rw [if_neg (by omega), rvals_end s i (by omega), foldi]
    exact ref_ver_l2 c hc (dinv c).toNat k 0 (by omega) (by omega) (by omega)
  | succ d ih =>
    intro k i c h1 h2 h3 hc
    obtain ⟨k, rfl⟩ : ∃ m, k = m + 1 := ⟨k - 1, by omega⟩
    have hv := rvals_at s hd i (by omega)
    simp only [barscanref09_verhoeff.l0]
    rw [if_pos (by omega), ref_value s hs hd i (by omega), rvals_drop s i (by omega), foldi]
    simp only [Option.bind_some]
    generalize hg : (rvals s).getD i 0 = g at hv ⊢
    obtain ⟨k', h4, h5⟩ := ref_ver_l1 s c i (by omega) (i % 8 + 1) k 0 g (by omega) (by omega) hv hc (by omega)
    have h5' : barscanref09_verhoeff.l1 k s c i g 0 = barscanref09_verhoeff.l0 k' s (dih c (permN (i % 8 + 1) g)) ((i : Int) + 1) := h5
    rw [h5']
    exact ih k' (i + 1) _ (by omega) (by omega) (by omega) (dih_bd _ _ hc (permN_bd _ _ hv))
theorem ref_ver (s : ByteArray) (hs : s.size ≤ 4096) (hd : Digs s) (k : Nat) (hk : 50000 ≤ k) : barscanref09_verhoeff.f k s = some (verV (vals s)) :=
  ref_ver_l s hs hd s.size k 0 0 (by omega) (by omega) (by omega) (by omega)

/-- The digit m places before the end, told from the left. -/
theorem ref_value_l (s : ByteArray) (hs : s.size ≤ 4096) (hd : Digs s) (m : Nat) (hm : m < s.size) : barscanref09_value.f s (m : Int) = some ((vals s).getD (s.size - 1 - m) 0) := by
  rw [ref_value s hs hd m hm, rvals_get s hd m hm, List.getD_eq_getElem?_getD, List.getElem?_eq_getElem (by rw [vals_len]; omega), Option.getD_some, vals_at s _ (by omega)]
theorem vals_drop (s : ByteArray) (i : Nat) (hi : i < s.size) : (vals s).drop i = (vals s).getD i 0 :: (vals s).drop (i + 1) := by
  rw [List.drop_eq_getElem_cons (by rw [vals_len]; exact hi), List.getD_eq_getElem?_getD, List.getElem?_eq_getElem (by rw [vals_len]; exact hi), Option.getD_some]
theorem vals_getb (s : ByteArray) (h : Digs s) (k : Nat) (hk : k < s.size) : 0 ≤ (vals s).getD k 0 ∧ (vals s).getD k 0 ≤ 9 := by
  rw [List.getD_eq_getElem?_getD, List.getElem?_eq_getElem (by rw [vals_len]; exact hk)]
  exact vals_bd s h _ (List.getElem_mem _)
theorem vals_end (s : ByteArray) (i : Nat) (hi : s.size ≤ i) : (vals s).drop i = [] := List.drop_eq_nil_of_le (by rw [vals_len]; exact hi)
def dammB : ByteArray := ⟨#[48, 51, 49, 55, 53, 57, 56, 54, 52, 50, 55, 48, 57, 50, 49, 53, 52, 56, 54, 51, 52, 50, 48, 54, 56, 55, 49, 51, 53, 57, 49, 55, 53, 48, 57, 56, 51, 52, 50, 54, 54, 49, 50, 51, 48, 52, 53, 57, 55, 56, 51, 54, 55, 52, 50, 48, 57, 53, 56, 49, 53, 56, 54, 57, 55, 50, 48, 49, 51, 52, 56, 57, 52, 53, 51, 54, 50, 48, 49, 55, 57, 52, 51, 56, 54, 49, 55, 50, 48, 53, 50, 53, 56, 49, 52, 51, 54, 55, 57, 48]⟩
theorem damm_bt (c d : Nat) (hc : c ≤ 9) (hd : d ≤ 9) : (bt dammB (10 * (c : Int) + d) - 48) % 256 = dammF 0 c d := by
  have h : ∀ c : Fin 10, ∀ d : Fin 10, (bt dammB (10 * (c.val : Int) + d.val) - 48) % 256 = dammF 0 c.val d.val := by decide +kernel
  exact h ⟨c, by omega⟩ ⟨d, by omega⟩
theorem ref_damm_l (s : ByteArray) (hs : s.size ≤ 4096) (hd : Digs s) (m : Nat) : ∀ (k : Nat) (c : Int), m ≤ s.size → m < k → 0 ≤ c ∧ c ≤ 9 →
    barscanref09_quasi.l0 k s c ((m : Int) - 1) = some (foldi dammF (s.size - m) c ((vals s).drop (s.size - m))) := by
  induction m with
  | zero =>
    intro k c h1 h2 hc
    obtain ⟨k, rfl⟩ : ∃ m, k = m + 1 := ⟨k - 1, by omega⟩
    simp only [barscanref09_quasi.l0]
    rw [if_neg (by omega), vals_end s _ (by omega), foldi]
  | succ m ih =>
    intro k c h1 h2 hc
    obtain ⟨k, rfl⟩ : ∃ m, k = m + 1 := ⟨k - 1, by omega⟩
    simp only [barscanref09_quasi.l0]
    have e : ((m + 1 : Nat) : Int) - 1 = (m : Int) := by omega
    have hv := vals_getb s hd (s.size - 1 - m) (by omega)
    rw [e, if_pos (by omega), ref_value_l s hs hd m (by omega), vals_drop s (s.size - (m + 1)) (by omega), show s.size - (m + 1) = s.size - 1 - m by omega, foldi]
    simp only [Option.bind_some]
    generalize (vals s).getD (s.size - 1 - m) 0 = g at hv ⊢
    obtain ⟨a, rfl⟩ : ∃ n : Nat, c = n := ⟨c.toNat, by omega⟩
    obtain ⟨b, rfl⟩ : ∃ n : Nat, g = n := ⟨g.toNat, by omega⟩
    have hb := damm_one a b (by omega) (by omega)
    rw [w64_in (10 * (a : Int)) (by omega) (by omega), w64_in _ (by omega) (by omega), if_pos (by omega), if_pos (by omega), w64_in _ (by omega) (by omega)]
    have h6 := damm_bt a b (by omega) (by omega)
    unfold dammB at h6
    rw [h6, show s.size - 1 - m + 1 = s.size - m by omega]
    exact ih k _ (by omega) (by omega) hb
theorem ref_damm (s : ByteArray) (hs : s.size ≤ 4096) (hd : Digs s) (k : Nat) (hk : 5000 ≤ k) : barscanref09_quasi.f k s = some (dammV (vals s)) := by
  unfold barscanref09_quasi.f
  rw [w64_in _ (by omega) (by omega), ref_damm_l s hs hd s.size k 0 (Nat.le_refl _) (by omega) (by omega)]
  simp [dammV]
theorem ref_i97_l (s : ByteArray) (hs : s.size ≤ 4096) (hd : Digs s) (m : Nat) : ∀ (k : Nat) (c : Int), m ≤ s.size → m < k → 0 ≤ c ∧ c ≤ 96 →
    barscanref09_iso97.l0 k s c ((m : Int) - 1) = some (98 - 100 * foldi i97F (s.size - m) c ((vals s).drop (s.size - m)) % 97) := by
  induction m with
  | zero =>
    intro k c h1 h2 hc
    obtain ⟨k, rfl⟩ : ∃ m, k = m + 1 := ⟨k - 1, by omega⟩
    simp only [barscanref09_iso97.l0]
    rw [if_neg (by omega), vals_end s _ (by omega), foldi, w64_in (100 * c) (by omega) (by omega), Int.tmod_eq_emod_of_nonneg (by omega), w64_in _ (by omega) (by omega)]
  | succ m ih =>
    intro k c h1 h2 hc
    obtain ⟨k, rfl⟩ : ∃ m, k = m + 1 := ⟨k - 1, by omega⟩
    simp only [barscanref09_iso97.l0]
    have e : ((m + 1 : Nat) : Int) - 1 = (m : Int) := by omega
    have hv := vals_getb s hd (s.size - 1 - m) (by omega)
    rw [e, if_pos (by omega), ref_value_l s hs hd m (by omega), vals_drop s (s.size - (m + 1)) (by omega), show s.size - (m + 1) = s.size - 1 - m by omega, foldi]
    simp only [Option.bind_some]
    generalize (vals s).getD (s.size - 1 - m) 0 = g at hv ⊢
    rw [w64_in (10 * c) (by omega) (by omega), w64_in (10 * c + g) (by omega) (by omega), w64_in ((m : Int) - 1) (by omega) (by omega), Int.tmod_eq_emod_of_nonneg (by omega), show s.size - 1 - m + 1 = s.size - m by omega]
    exact ih k _ (by omega) (by omega) (by omega)
theorem ref_i97 (s : ByteArray) (hs : s.size ≤ 4096) (hd : Digs s) (k : Nat) (hk : 5000 ≤ k) : barscanref09_iso97.f k s = some (i97V (vals s)) := by
  unfold barscanref09_iso97.f
  rw [w64_in _ (by omega) (by omega), ref_i97_l s hs hd s.size k 0 (Nat.le_refl _) (by omega) (by omega)]
  simp [i97V]
theorem ref_i11_l (s : ByteArray) (hs : s.size ≤ 4096) (hd : Digs s) (m : Nat) : ∀ (k : Nat) (c : Int), m ≤ s.size → m < k → 0 ≤ c ∧ c ≤ 10 →
    barscanref09_iso11.l0 k s c ((m : Int) - 1) = some ((12 - foldi i11F (s.size - m) c ((vals s).drop (s.size - m))) % 11) := by
  induction m with
  | zero =>
    intro k c h1 h2 hc
    obtain ⟨k, rfl⟩ : ∃ m, k = m + 1 := ⟨k - 1, by omega⟩
    simp only [barscanref09_iso11.l0]
    rw [if_neg (by omega), vals_end s _ (by omega), foldi, w64_in _ (by omega) (by omega), Int.tmod_eq_emod_of_nonneg (by omega)]
  | succ m ih =>
    intro k c h1 h2 hc
    obtain ⟨k, rfl⟩ : ∃ m, k = m + 1 := ⟨k - 1, by omega⟩
    simp only [barscanref09_iso11.l0]
    have e : ((m + 1 : Nat) : Int) - 1 = (m : Int) := by omega
    have hv := vals_getb s hd (s.size - 1 - m) (by omega)
    rw [e, if_pos (by omega), ref_value_l s hs hd m (by omega), vals_drop s (s.size - (m + 1)) (by omega), show s.size - (m + 1) = s.size - 1 - m by omega, foldi]
    simp only [Option.bind_some]
    generalize (vals s).getD (s.size - 1 - m) 0 = g at hv ⊢
    rw [w64_in (c + g) (by omega) (by omega), w64_in (2 * (c + g)) (by omega) (by omega), w64_in ((m : Int) - 1) (by omega) (by omega), Int.tmod_eq_emod_of_nonneg (by omega), show s.size - 1 - m + 1 = s.size - m by omega]
    exact ih k _ (by omega) (by omega) (by omega)
theorem ref_i11 (s : ByteArray) (hs : s.size ≤ 4096) (hd : Digs s) (k : Nat) (hk : 5000 ≤ k) : barscanref09_iso11.f k s = some (i11V (vals s)) := by
  unfold barscanref09_iso11.f
  rw [w64_in _ (by omega) (by omega), ref_i11_l s hs hd s.size k 0 (Nat.le_refl _) (by omega) (by omega)]
  simp [i11V]


theorem ref_place_l (s : ByteArray) (c : UInt8) (hs : s.size ≤ 4096) (d : Nat) : ∀ (k i : Nat), s.size - i = d → i ≤ s.size → d < k →
    barscanref09_Place.l0 k s (c.toNat : Int) i = some (if Lib.indexByte (s.data.toList.drop i) c < 0 then -1 else i + Lib.indexByte (s.data.toList.drop i) c) := by
  induction d with
  | zero =>
    intro k i h1 h2 h3
    obtain ⟨k, rfl⟩ : ∃ m, k = m + 1 := ⟨k - 1, by omega⟩
    simp only [barscanref09_Place.l0]
    rw [if_neg (by omega), List.drop_eq_nil_of_le (by simp; omega)]
    simp [Lib.indexByte]
  | succ d ih =>
    intro k i h1 h2 h3
    obtain ⟨k, rfl⟩ : ∃ m, k = m + 1 := ⟨k - 1, by omega⟩
    have hi : i < s.size := by omega
    simp only [barscanref09_Place.l0]
    rw [if_pos (by omega), if_pos (by omega), bt_nat s i hi, List.drop_eq_getElem_cons (by simpa using hi)]
    have hg : s.data.toList[i]'(by simpa using hi) = s[i] := rfl
    rw [hg]
    unfold Lib.indexByte
    by_cases hb : s[i] = c
    · rw [if_pos (by rw [hb]), hb]; simp
    · have hb' : (s[i] == c) = false := by simpa using hb
      have hne : ¬ ((s[i].toNat : Int) = (c.toNat : Int)) := fun h => hb (UInt8.toNat_inj.mp (by omega))
      rw [if_neg hne, hb', w64_in _ (by omega) (by omega)]
      have h4 := ih k (i + 1) (by omega) (by omega) (by omega)
      have h5 := idx_ge (s.data.toList.drop (i + 1)) c
      have h6 : barscanref09_Place.l0 k s (c.toNat : Int) ((i : Int) + 1) = barscanref09_Place.l0 k s (c.toNat : Int) ((i + 1 : Nat) : Int) := rfl
      rw [h6, h4]
      congr 1
      simp only [Bool.false_eq_true, if_false]
      by_cases h7 : Lib.indexByte (s.data.toList.drop (i + 1)) c = -1
      · rw [h7]; simp
      · have h8 : (Lib.indexByte (s.data.toList.drop (i + 1)) c == -1) = false := by simpa using h7
        rw [h8]
        simp only [Bool.false_eq_true, if_false]
        rw [if_neg (by omega), if_neg (by omega)]; omega
theorem ref_place39 (c : UInt8) (k : Nat) (hk : 5000 ≤ k) : barscanref09_Place.f k alpha39 (c.toNat : Int) = some (v39 c) := by
  have hz : alpha39.size = 43 := rfl
  have h := ref_place_l alpha39 c (by omega) 43 k 0 (by omega) (by omega) (by omega)
  have h0 : barscanref09_Place.f k alpha39 (c.toNat : Int) = barscanref09_Place.l0 k alpha39 (c.toNat : Int) ((0 : Nat) : Int) := rfl
  rw [h0, h]
  have h1 := idx_ge alpha39.data.toList c
  unfold v39
  simp only [List.drop_zero]
  congr 1
  split <;> omega
def dataB (k : Int) (c : UInt8) : Bool := (alphaS k).data.toList.contains c
def checkB (k : Int) (c : UInt8) : Bool := (alphaXS k).data.toList.contains c
theorem u8_all (p : UInt8 → Prop) [DecidablePred p] (h : ∀ n : Fin 256, p (UInt8.ofNat n.val)) (c : UInt8) : p c := by
  have := h ⟨c.toNat, c.toNat_lt⟩
  simpa using this
theorem dig_contains (c : UInt8) : alpha10.data.toList.contains c = (if (c.toNat : Int) ≥ 48 then decide ((c.toNat : Int) ≤ 57) else false) := by
  revert c
  exact u8_all _ (by decide +kernel)
theorem digX_contains (c : UInt8) : alpha10X.data.toList.contains c = (alpha10.data.toList.contains c || decide ((c.toNat : Int) = 88)) := by
  revert c
  exact u8_all _ (by decide +kernel)
theorem ref_data (k0 : Int) (c : UInt8) (k : Nat) (hk : 5000 ≤ k) : barscanref09_data.f k k0 (c.toNat : Int) = some (dataB k0 c) := by
  unfold barscanref09_data.f dataB alphaS
  by_cases h : k0 = 7
  · rw [if_pos h, if_pos h]
    have := ref_place39 c k hk
    unfold alpha39 at this
    rw [this]
    simp only [Option.bind_some]
    congr 1
    have h1 := idx_neg alpha39.data.toList c
    have h2 : v39 c = Lib.indexByte alpha39.data.toList c := rfl
    cases hc : alpha39.data.toList.contains c with
    | true => rw [decide_eq_true_iff]; have := mt h1.mp (by rw [hc]; simp); omega
    | false => rw [decide_eq_false_iff_not]; have := h1.mpr hc; omega
  · rw [if_neg h, if_neg h, dig_contains]
    unfold barscanref09_digit.f
    split <;> rfl
theorem ref_check (k0 : Int) (c : UInt8) (k : Nat) (hk : 5000 ≤ k) : barscanref09_check.f k k0 (c.toNat : Int) = some (checkB k0 c) := by
  unfold barscanref09_check.f
  rw [ref_data k0 c k hk]
  simp only [Option.bind_some]
  unfold dataB checkB alphaS alphaXS
  by_cases h7 : k0 = 7
  · rw [if_pos h7, if_pos h7]
    cases hc : alpha39.data.toList.contains c with
    | true => simp
    | false =>
      have : ¬ (c.toNat : Int) = 88 := by
        intro h
        have : c = 88 := UInt8.toNat_inj.mp (by have h88 : (88 : UInt8).toNat = 88 := rfl; omega)
        subst this
        revert hc; decide
      simp [this]
  · rw [if_neg h7, if_neg h7]
    by_cases hx : k0 = 3 ∨ k0 = 8
    · rw [if_pos hx, digX_contains]
      cases hc : alpha10.data.toList.contains c with
      | true => simp
      | false =>
        simp only [Bool.false_eq_true, if_false, Bool.false_or]
        by_cases h88 : (c.toNat : Int) = 88
        · rw [if_pos h88, decide_eq_true h88]
          rcases hx with h | h <;> simp [h]
        · rw [if_neg h88, decide_eq_false h88]
    · rw [if_neg hx]
      cases hc : alpha10.data.toList.contains c with
      | true => simp
      | false =>
        have h3 : ¬ k0 = 3 := fun h => hx (.inl h)
        have h8 : (k0 == 8) = false := by simpa using fun h => hx (.inr h)
        simp [h3, h8]

theorem ref_mod43_l (s : ByteArray) (hs : s.size ≤ 4096) (hd : Is39 s) (d : Nat) : ∀ (k i : Nat) (x : Int), s.size - i = d → i ≤ s.size → d + 5000 < k → 0 ≤ x → x ≤ 42 * i →
    barscanref09_mod43.l0 k s x i = some (foldi (fun _ a d => a + d) i x ((v39s s).drop i) % 43) := by
  induction d with
  | zero =>
    intro k i x h1 h2 h3 h4 h5
    obtain ⟨k, rfl⟩ : ∃ m, k = m + 1 := ⟨k - 1, by omega⟩
    simp only [barscanref09_mod43.l0]
    rw [if_neg (by omega), List.drop_eq_nil_of_le (by rw [v39s_len]; omega), foldi, Int.tmod_eq_emod_of_nonneg h4]
  | succ d ih =>
    intro k i x h1 h2 h3 h4 h5
    obtain ⟨k, rfl⟩ : ∃ m, k = m + 1 := ⟨k - 1, by omega⟩
    have hi : i < s.size := by omega
    have hv := hd i hi
    simp only [barscanref09_mod43.l0]
    rw [if_pos (by omega), if_pos (by omega), bt_nat s i hi]
    have hp := ref_place39 s[i] k (by omega)
    unfold alpha39 at hp
    rw [hp]
    simp only [Option.bind_some]
    rw [List.drop_eq_getElem_cons (by rw [v39s_len]; exact hi), foldi]
    have e : (v39s s)[i]'(by rw [v39s_len]; exact hi) = v39 s[i] := by simp [v39s]; rfl
    rw [e, w64_in _ (by omega) (by omega), w64_in _ (by omega) (by omega)]
    exact ih k (i + 1) _ (by omega) (by omega) (by omega) (by omega) (by omega)
theorem ref_mod43 (s : ByteArray) (hs : s.size ≤ 4096) (hd : Is39 s) (k : Nat) (hk : 50000 ≤ k) : barscanref09_mod43.f k s = some (c39V (v39s s)) :=
  ref_mod43_l s hs hd s.size k 0 0 (by omega) (by omega) (by omega) (by omega) (by omega)

theorem ref_char (v : Int) (h0 : 0 ≤ v) (h1 : v ≤ 10) : barscanref09_char.f v = some ⟨#[chr v]⟩ := by
  unfold barscanref09_char.f
  rw [w64_in _ (by omega) (by omega), if_pos h0, if_pos (by omega), if_pos (by omega)]
  obtain ⟨n, rfl⟩ : ∃ n : Nat, v = n := ⟨v.toNat, by omega⟩
  have h : ∀ n : Fin 11, (⟨#[48, 49, 50, 51, 52, 53, 54, 55, 56, 57, 88]⟩ : ByteArray).extract ((n.val : Int)).toNat ((n.val : Int) + 1).toNat = ⟨#[chr n.val]⟩ := by decide +kernel
  rw [h ⟨n, by omega⟩]

theorem checkL_bd (l : List Int) (h : ∀ d ∈ l, 0 ≤ d ∧ d ≤ 9) : 0 ≤ i97V l ∧ i97V l ≤ 98 := by
  unfold i97V; omega

theorem ref_computed (k0 : Int) (hk0 : 1 ≤ k0 ∧ k0 ≤ 8) (s : ByteArray) (hs : s.size ≤ 4096) (hw : withinB s (alphaS k0) = true) (k : Nat) (hk : 50000 ≤ k) : barscanref09_computed.f k k0 s = some (checkS k0 s) := by
  unfold barscanref09_computed.f
  rcases (by omega : k0 = 1 ∨ k0 = 2 ∨ k0 = 3 ∨ k0 = 4 ∨ k0 = 5 ∨ k0 = 6 ∨ k0 = 7 ∨ k0 = 8) with rfl | rfl | rfl | rfl | rfl | rfl | rfl | rfl
  · have hd : Digs s := digs_of s hw
    rw [if_pos rfl, ref_gs1 s hs hd k (by omega)]
    simp only [Option.bind_some]
    rw [ref_char _ (by unfold gs1V; omega) (by unfold gs1V; omega)]; rfl
  · have hd : Digs s := digs_of s hw
    rw [if_neg (by decide), if_pos rfl, ref_luhn s hs hd k (by omega)]
    simp only [Option.bind_some]
    rw [ref_char _ (by unfold luhnV; omega) (by unfold luhnV; omega)]; rfl
  · have hd : Digs s := digs_of s hw
    rw [if_neg (by decide), if_neg (by decide), if_pos rfl, ref_isbn s hs hd k (by omega)]
    simp only [Option.bind_some]
    rw [ref_char _ (by unfold isbnV; omega) (by unfold isbnV; omega)]; rfl
  · have hd : Digs s := digs_of s hw
    have hb := dinv_bd (foldi verF 0 0 (vals s).reverse) (ver_bd _ (fun d hd' => vals_bd s hd d (List.mem_reverse.mp hd')) 0 (by omega) 0)
    rw [if_neg (by decide), if_neg (by decide), if_neg (by decide), if_pos rfl, ref_ver s hs hd k hk]
    simp only [Option.bind_some]
    rw [ref_char _ (by unfold verV; omega) (by unfold verV; omega)]; rfl
  · have hd : Digs s := digs_of s hw
    have hb := damm_bd (vals s) (vals_bd s hd) 0 (by omega) (by omega) 0
    rw [if_neg (by decide), if_neg (by decide), if_neg (by decide), if_neg (by decide), if_pos rfl, ref_damm s hs hd k (by omega)]
    simp only [Option.bind_some]
    rw [ref_char _ (by unfold dammV; omega) (by unfold dammV; omega)]; rfl
  · have hd : Digs s := digs_of s hw
    have hb := checkL_bd (vals s) (vals_bd s hd)
    rw [if_neg (by decide), if_neg (by decide), if_neg (by decide), if_neg (by decide), if_neg (by decide), if_pos rfl, ref_i97 s hs hd k (by omega)]
    simp only [Option.bind_some]
    rw [Int.tdiv_eq_ediv_of_nonneg hb.1, Int.tmod_eq_emod_of_nonneg hb.1, w64_in _ (by omega) (by omega), ref_char _ (by omega) (by omega), ref_char _ (by omega) (by omega)]
    simp only [Option.bind_some]
    exact if_pos (show 1 + 1 ≤ 9223372036854775807 by decide)
  · have hd : Is39 s := is39_of s hw
    have hb : 0 ≤ c39V (v39s s) ∧ c39V (v39s s) ≤ 42 := by unfold c39V; omega
    rw [if_neg (by decide), if_neg (by decide), if_neg (by decide), if_neg (by decide), if_neg (by decide), if_neg (by decide), if_neg (by decide), ref_mod43 s hs hd k hk]
    simp only [Option.bind_some]
    rw [w64_in _ (by omega) (by omega), if_pos (by omega), if_pos (by omega), if_pos (by omega)]
    have hx := ext_one alpha39 (c39V (v39s s)).toNat (by have : alpha39.size = 43 := rfl; omega)
    rw [show (c39V (v39s s) + 1).toNat = (c39V (v39s s)).toNat + 1 by omega]
    exact congrArg some hx
  · have hd : Digs s := digs_of s hw
    have hb := i11_bd (vals s) (vals_bd s hd) 0 (by omega) (by omega) 0
    rw [if_neg (by decide), if_neg (by decide), if_neg (by decide), if_neg (by decide), if_neg (by decide), if_neg (by decide), if_pos rfl, ref_i11 s hs hd k (by omega)]
    simp only [Option.bind_some]
    rw [ref_char _ (by unfold i11V; omega) (by unfold i11V; omega)]; rfl

end Go.Proofs.Ytcfgfeamcckmjaa.Chk
