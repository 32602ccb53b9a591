/-
  Checkdigit, part B: 'within'.
-/
import Derived.Test.YtcfgfeamcckmjaaChkA
import Derived.Test.YtcfgfeamcckmjaaChkS
namespace Go.Proofs.Ytcfgfeamcckmjaa.Chk
open Go.RowKit
set_option linter.unusedVariables false
set_option linter.unusedSimpArgs false


theorem idx_ge (l : List UInt8) (c : UInt8) : -1 ≤ Lib.indexByte l c := Lib.indexByte_ge l c
theorem idx_neg (l : List UInt8) (c : UInt8) : (Lib.indexByte l c < 0) ↔ l.contains c = false := by
  induction l with
  | nil => simp [Lib.indexByte]
  | cons b l ih =>
    have h1 := idx_ge l c
    unfold Lib.indexByte
    by_cases hb : b = c
    · subst hb; simp
    · have hb' : (b == c) = false := by simpa using hb
      have hc' : (c == b) = false := by simpa using fun h => hb h.symm
      rw [hb', List.contains_cons, hc']
      simp only [Bool.false_or]
      by_cases h2 : Lib.indexByte l c = -1
      · rw [h2] at ih ⊢; simp at ih ⊢; exact ih
      · have h3 : (Lib.indexByte l c == -1) = false := by simpa using h2
        rw [h3]; simp only [Bool.false_eq_true, if_false]
        constructor
        · intro h; exfalso; omega
        · intro h; have := ih.mpr h; omega

theorem all_snoc (s : ByteArray) (k : Nat) (h : k < s.size) (p : UInt8 → Bool) : (s.data.toList.take (k + 1)).all p = ((s.data.toList.take k).all p && p s[k]) := by
  rw [List.take_succ_eq_append_getElem (by simpa using h), List.all_append]
  simp; rfl
theorem all_cut (s : ByteArray) (k : Nat) (h : k < s.size) (p : UInt8 → Bool) (hp : p s[k] = false) : s.data.toList.all p = false := by
  rw [List.all_eq_false]
  exact ⟨s[k], by rw [show s[k] = s.data.toList[k]'(by simpa using h) from rfl]; exact List.getElem_mem _, by simpa using hp⟩

theorem within_any (s c : ByteArray) (w : World) (hs : s.size ≤ 4096) :
    Calls Try.prog 35 #[.string s, .string c] w fun e w' => e = .returned (.bool (withinB s c)) ∧ w = w' := by
  go_enter Try.func35, Try.ntmps35
  go_wp2
  go_loop [8] (fun i => ∃ k : Nat, k ≤ s.size ∧ i = .int .i64 k ∧ (s.data.toList.take k).all (fun b => c.data.toList.contains b) = true) (fun i => s.size - (intOf i).toNat)
  case atStart => exact ⟨0, Nat.zero_le _, rfl, by simp⟩
  case round =>
    obtain ⟨k, hk, rfl, hall⟩ := hrel
    by_cases hlt : k < s.size
    · have hcut := fun hp => all_cut s k hlt (fun b => c.data.toList.contains b) hp
      have hsn := all_snoc s k hlt (fun b => c.data.toList.contains b)
      have hid : Hid ((Lib.indexByte c.data.toList s[k] < 0) ↔ c.data.toList.contains s[k] = false) := idx_neg _ _
      have HC := Lib.hid hcut; clear hcut
      have HS := Lib.hid hsn; clear hsn
      have HA := Lib.hid hall; clear hall
      go_wp2_with (go_at_call 48; refine (Try.strings_IndexByte _ _ _).mono ?_; rintro e w' ⟨rfl, rfl⟩)
      · have hx : Lib.indexByte c.data.toList s[k] < 0 := by assumption
        have hv : withinB s c = false := HC.out (hid.out.mp hx)
        go_ret
        exact ⟨by rw [hv]; rfl, rfl⟩
      · have hx : 0 ≤ Lib.indexByte c.data.toList s[k] := by assumption
        go_round
        case rel =>
          refine ⟨k + 1, by omega, by go_num, ?_⟩
          rw [HS.out, HA.out]
          cases hc : c.data.toList.contains s[k] with
          | true => rfl
          | false => have := hid.out.mpr hc; omega
        case measure => simp [intOf]; omega
    · go_wp2
      go_ret
      have hk : k = s.size := by omega
      have hv : withinB s c = true := by rw [withinB, ← hall, List.take_of_length_le (by simp; omega)]
      exact ⟨by rw [hv]; rfl, rfl⟩
end Go.Proofs.Ytcfgfeamcckmjaa.Chk
