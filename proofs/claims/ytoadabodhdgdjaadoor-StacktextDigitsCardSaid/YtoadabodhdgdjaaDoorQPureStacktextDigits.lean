import Derived.Test.YtoadabodhdgdjaaDoorQCx
import Derived.Test.YtoadabodhdgdjaaDoorQPn
namespace Go.Proofs.YtoadabodhdgdjaaDoor.Pure
open Go.RowKit Go.Proofs.YtoadabodhdgdjaaDoor.CD Go.Proofs.YtoadabodhdgdjaaDoorW.PrintWords Go.Proofs.YtoadabodhdgdjaaDoorW.PrintLast Go.Proofs.YtoadabodhdgdjaaDoor.Pn
set_option linter.unusedVariables false
set_option linter.unusedSimpArgs false
theorem same_l : ∀ (n k i : Nat) (a : List Int), a.length - i = n → n < k → i ≤ a.length → a.length ≤ 1000000 → barscanlaw29_same.l0 k a a (i : Int) = some true
 | 0, k, i, a, hn, hk, hi, hb => by
  obtain ⟨k, rfl⟩ : ∃ q, k = q + 1 := ⟨k - 1, by omega⟩
  simp only [barscanlaw29_same.l0]
  rw [if_neg (by omega)]
 | n + 1, k, i, a, hn, hk, hi, hb => by
  obtain ⟨k, rfl⟩ : ∃ q, k = q + 1 := ⟨k - 1, by omega⟩
  simp only [barscanlaw29_same.l0]
  rw [if_pos (by omega), if_pos (by omega), if_pos (by omega), if_pos trivial, show wrap64 ((i : Int) + 1) = ((i + 1 : Nat) : Int) from wadd i 1 (by omega)]
  exact same_l n k (i + 1) a (by omega) (by omega) (by omega) hb
theorem same_self (k : Nat) (a : List Int) (hk : a.length < k) (hb : a.length ≤ 1000000) : barscanlaw29_same.f k a a = some true := by
 unfold barscanlaw29_same.f
 rw [if_pos rfl]
 exact same_l a.length k 0 a rfl hk (Nat.zero_le _) hb
theorem example_ok : Sg.barscanlaw29_exampleHolds.f = some true := rfl
theorem digits_j1 (k : Nat) (hk : 100 ≤ k) (x0 : ByteArray) (hs : x0.size ≤ 300) : barscanlaw29_StacktextDigits.j1 k x0 = some true := by
 obtain ⟨k, rfl⟩ : ∃ q, k = q + 1 := ⟨k - 1, by omega⟩
 simp only [barscanlaw29_StacktextDigits.j1]
 by_cases hd : ∀ b, b ∈ x0.data.toList → isDig b
 ·have hc := compL_count x0.data.toList.length x0.data.toList (Nat.le_refl _) hd
  rw [data_length] at hc
  have hcl : (compL x0.data.toList).length ≤ 8000 := by rw [hc]; split <;> omega
  have hfn : Sg.stacktext_FromNumeric.f (compL x0.data.toList) = some (x0, 0) := fromNumeric_comp x0.data.toList hd (by rw [data_length]; omega) hcl
  rw [numeric_ok (by omega) hd, Option.bind_some, if_pos rfl, hfn]
  by_cases hm : ((x0.size : Int) % 44) > 0
  ·rw [if_pos hm, Option.bind_some, w64 (x := (x0.size : Int) / 44) (by omega) (by omega), w64 (x := (x0.size : Int) / 44 * 15) (by omega) (by omega), w64 (x := (x0.size : Int) / 44 * 15 + (x0.size : Int) % 44 / 3) (by omega) (by omega), w64 (x := (x0.size : Int) / 44 * 15 + (x0.size : Int) % 44 / 3 + 1) (by omega) (by omega)]
   rw [if_neg (show ¬ x0.size % 44 = 0 by omega)] at hc
   rw [if_pos (by rw [hc]; omega), if_pos rfl, if_pos rfl, example_ok, Option.bind_some]
  ·rw [if_neg hm, Option.bind_some, w64 (x := (x0.size : Int) / 44) (by omega) (by omega), w64 (x := (x0.size : Int) / 44 * 15) (by omega) (by omega)]
   rw [if_pos (show x0.size % 44 = 0 by omega)] at hc
   rw [if_pos (by rw [hc]; omega), if_pos rfl, if_pos rfl, example_ok, Option.bind_some]
 ·rw [numeric_bad (by omega) hd, Option.bind_some, if_neg (by decide), if_pos rfl, example_ok, Option.bind_some]
theorem StacktextDigits : barscanlaw29_StacktextDigits.Pure := by
 intro a0 l1 h1 h2 h3 h4
 refine ⟨1001, ?_⟩
 unfold barscanlaw29_StacktextDigits.f
 by_cases hs : (a0.size : Int) > 300
 ·rw [if_pos hs]
  simp only [barscanlaw29_StacktextDigits.j0]
  rw [if_pos trivial, example_ok, Option.bind_some]
 ·rw [if_neg hs]
  by_cases hl : (l1.length : Int) > 100
  ·rw [decide_eq_true hl]
   simp only [barscanlaw29_StacktextDigits.j0]
   rw [if_pos trivial, example_ok, Option.bind_some]
  ·rw [decide_eq_false hl]
   simp only [barscanlaw29_StacktextDigits.j0]
   obtain ⟨s, e, hf, he⟩ := fromNumeric_any l1 (by omega)
   rw [if_neg (by decide), hf, Option.bind_some]
   by_cases h0 : e = 0
   ·obtain ⟨q1, q2, q3⟩ := he h0
    rw [if_pos h0, numeric_ok q2 q1, q3, Option.bind_some, if_pos rfl, same_self 1000 l1 (by omega) (by omega), Option.bind_some, if_pos rfl]
    exact digits_j1 1000 (by decide) a0 (by omega)
   ·rw [if_neg h0]
    exact digits_j1 1000 (by decide) a0 (by omega)
end Go.Proofs.YtoadabodhdgdjaaDoor.Pure
