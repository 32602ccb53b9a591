/-
  Checkdigit, part E: the system of Verhoeff.
-/
import Derived.Test.YtcfgfeamcckmjaaChkD
namespace Go.Proofs.Ytcfgfeamcckmjaa.Chk
open Go.RowKit
set_option linter.unusedVariables false
set_option linter.unusedSimpArgs false

theorem dih_bd (a b : Int) (ha : 0 ≤ a ∧ a ≤ 9) (hb : 0 ≤ b ∧ b ≤ 9) : 0 ≤ dih a b ∧ dih a b ≤ 9 := by
  unfold dih; split <;> split <;> omega
theorem dihedral_any (a b : Int) (w : World) (ha : 0 ≤ a ∧ a ≤ 9) (hb : 0 ≤ b ∧ b ≤ 9) :
    Calls Try.prog 119 #[.int .i64 a, .int .i64 b] w fun e w' => e = .returned (.int .i64 (dih a b)) ∧ w = w' := by
  by_cases h1 : a < 5
  · by_cases h2 : b < 5
    · have e : dih a b = (a + b) % 5 := by unfold dih; rw [if_pos h1, if_pos h2]
      rw [e]; clear e
      go_enter Try.func119, Try.ntmps119
      go_wp2
      go_ret
      exact ⟨rfl, rfl⟩
    · have e : dih a b = 5 + (a + b - 5) % 5 := by unfold dih; rw [if_pos h1, if_neg h2]
      rw [e]; clear e
      go_enter Try.func119, Try.ntmps119
      go_wp2
      go_ret
      exact ⟨by first | rfl | (congr 2; omega), rfl⟩
  · by_cases h2 : b < 5
    · have e : dih a b = 5 + (a - b + 5) % 5 := by unfold dih; rw [if_neg h1, if_pos h2]
      rw [e]; clear e
      go_enter Try.func119, Try.ntmps119
      go_wp2
      go_ret
      exact ⟨by first | rfl | (congr 2; omega), rfl⟩
    · have e : dih a b = (a - b + 5) % 5 := by unfold dih; rw [if_neg h1, if_neg h2]
      rw [e]; clear e
      go_enter Try.func119, Try.ntmps119
      go_wp2
      go_ret
      exact ⟨by first | rfl | (congr 2; omega), rfl⟩

theorem dinv_bd (c : Int) (h : 0 ≤ c ∧ c ≤ 9) : 0 ≤ dinv c ∧ dinv c ≤ 9 := by unfold dinv; split <;> omega
theorem dinv_iff (e c : Int) (he : 0 ≤ e ∧ e ≤ 9) (hc : 0 ≤ c ∧ c ≤ 9) : dih e c = 0 ↔ e = dinv c := by
  unfold dih dinv; split <;> split <;> (try omega)
theorem perm_bd (d : Nat) (h : d ≤ 9) : 0 ≤ permL.getD d 0 ∧ permL.getD d 0 ≤ 9 := by
  have h' : ∀ d : Fin 10, 0 ≤ permL.getD d.val 0 ∧ permL.getD d.val 0 ≤ 9 := by decide
  exact h' ⟨d, by omega⟩
theorem permN_bd (n : Nat) (d : Int) (h : 0 ≤ d ∧ d ≤ 9) : 0 ≤ permN n d ∧ permN n d ≤ 9 := by
  induction n generalizing d with
  | zero => exact h
  | succ n ih => exact ih _ (perm_bd d.toNat (by omega))
theorem ver_bd (l : List Int) (h : ∀ d ∈ l, 0 ≤ d ∧ d ≤ 9) (p : Int) (h0 : 0 ≤ p ∧ p ≤ 9) (i : Nat) : 0 ≤ foldi verF i p l ∧ foldi verF i p l ≤ 9 := by
  induction l generalizing i p with
  | nil => exact h0
  | cons d l ih =>
    have hd := h d (List.mem_cons_self ..)
    exact ih (fun d hd => h d (List.mem_cons_of_mem _ hd)) _ (dih_bd _ _ h0 (permN_bd _ _ hd)) _

set_option maxHeartbeats 400000 in
set_option maxRecDepth 10000 in
theorem ver_check (s : ByteArray) (w : World) (hs : s.size ≤ 4096) (h0 : 0 < s.size) (hdig : Digs s) :
    Calls Try.prog 118 #[.agg #[], .string s] w fun e w' => e = .returned (.string (checkS 4 s)) ∧ Below w.heap.size w w' := by
  have HD : Hid (Digs s) := hdig
  clear hdig
  go_enter Try.func118, Try.ntmps118
  go_wp2_with (go_at_call 41; refine (backward_any s _ hs h0 HD.out).mono ?_; rintro e w1 ⟨ad, cap, rfl, hc, hb⟩)
  have hB : Below w.heap.size w w1 := (((Below.refl _ _).alloc (Nat.le_refl _) _).alloc (by simp) _).trans (hb.mono (by simp; omega))
  have hp : ∀ j, j ≤ 9 → w1.cell? ⟨w.heap.size + 1, j, none⟩ = some (.int .i64 (permL.getD j 0)) := by
    intro j hj
    rw [hb.cell (p := ⟨w.heap.size + 1, j, none⟩) (by simp)]
    rcases (by omega : j = 0 ∨ j = 1 ∨ j = 2 ∨ j = 3 ∨ j = 4 ∨ j = 5 ∨ j = 6 ∨ j = 7 ∨ j = 8 ∨ j = 9) with rfl | rfl | rfl | rfl | rfl | rfl | rfl | rfl | rfl | rfl <;> simp [permL]
  clear hb
  have HC := Lib.hid hc; clear hc
  have HP := Lib.hid hp; clear hp
  go_loop [6, 14] (fun p i => ∃ k c : Nat, k ≤ s.size ∧ c ≤ 9 ∧ i = .int .i64 k ∧ p = .int .i64 c ∧ foldi verF 0 0 ((rvals s).take k) = c) (fun _ i => s.size - (intOf i).toNat)
  case atStart => exact ⟨0, 0, Nat.zero_le _, Nat.zero_le _, rfl, rfl, rfl⟩
  case round =>
    obtain ⟨k, c, hk, hc9, rfl, rfl, hf⟩ := hrel
    by_cases hlt : k < s.size
    · have hd := rvals_at s HD.out k hlt
      have hcell := HC.out k hlt
      have hsn := rvals_snoc verF 0 s k hlt
      have HS := Lib.hid hsn; clear hsn
      have HF := Lib.hid hf; clear hf
      rw [show (vals s).reverse = rvals s from rfl] at hcell
      obtain ⟨x0, hx0⟩ : ∃ x0 : Nat, (rvals s).getD k 0 = x0 := ⟨((rvals s).getD k 0).toNat, by omega⟩
      rw [hx0] at hd hcell
      have HX := Lib.hid hx0; clear hx0
      go_wp2
      go_loop [8, 22] (fun d j => ∃ n x : Nat, n ≤ k % 8 + 1 ∧ x ≤ 9 ∧ j = .int .i64 n ∧ d = .int .i64 x ∧ permN n x0 = x) (fun _ j => k % 8 + 1 - (intOf j).toNat)
      case atStart => exact ⟨0, x0, Nat.zero_le _, by omega, rfl, rfl, rfl⟩
      case round =>
        obtain ⟨n, x, hn, hx9, rfl, rfl, hpn⟩ := hrel
        have HN := Lib.hid hpn; clear hpn
        by_cases hl2 : n < k % 8 + 1
        · have hpc := HP.out x hx9
          have hpb := perm_bd x hx9
          rw [List.getD_eq_getElem?_getD] at hpb hpc
          have h10 : (x : Int) < 10 := by omega
          have hl3 : (n : Int) < (k : Int) % 8 + 1 := by omega
          go_wp2
          go_round
          case rel => exact ⟨n + 1, (permL[x]?.getD 0).toNat, by omega, by omega, by go_num, by congr 1; omega, by rw [permN_succ, HN.out]; show permL.getD (x : Int).toNat 0 = _; rw [Int.toNat_natCast, List.getD_eq_getElem?_getD]; omega⟩
          case measure => simp [intOf]; omega
        · have hl3 : ¬ (n : Int) < (k : Int) % 8 + 1 := by omega
          have hdb := dih_bd c x (by omega) (by omega)
          have hfin : foldi verF 0 0 ((rvals s).take (k + 1)) = ((dih c x).toNat : Int) := by
            rw [HS.out, HF.out, HX.out, verF, show k % 8 + 1 = n by omega, HN.out]; omega
          have HG := Lib.hid hfin; clear hfin
          go_wp2_with (go_at_call 119; refine (dihedral_any _ _ _ (by omega) (by omega)).mono ?_; rintro e w' ⟨rfl, rfl⟩)
          go_round
          case rel => exact ⟨k + 1, (dih c x).toNat, by omega, by omega, by go_num, by congr 1; omega, HG.out⟩
          case measure => simp [intOf]; omega
    · have hv : (rvals s).take k = rvals s := List.take_of_length_le (by rw [rvals_len]; omega)
      rw [hv] at hf
      clear hv
      have HF := Lib.hid hf; clear hf
      have hib := dinv_bd c (by omega)
      go_wp2
      go_loop [9] (fun e => ∃ m : Nat, (m : Int) ≤ dinv c ∧ e = .int .i64 m) (fun e => (dinv c).toNat - (intOf e).toNat)
      case atStart => exact ⟨0, by omega, rfl⟩
      case round =>
        obtain ⟨m, hm, rfl⟩ := hrel
        have hii := dinv_iff m c (by omega) (by omega)
        by_cases hme : (m : Int) = dinv c
        · have hz : dih m c = 0 := hii.mpr hme
          have hz' : (dih m c != 0) = false := by rw [hz]; rfl
          have HZ := Lib.hid hii; clear hii
          have HM := Lib.hid hme; clear hme
          clear hz
          go_wp2_with (first | (go_at_call 119; refine (dihedral_any _ _ _ (by omega) (by omega)).mono ?_; rintro e w' ⟨rfl, rfl⟩) | (go_at_call 100; refine (digit_any _ _ (by omega) (by omega)).mono ?_; rintro e w' ⟨rfl, rfl⟩))
          go_ret
          have e : checkS 4 s = ⟨#[chr m]⟩ := by
            show (⟨#[chr (dinv (foldi verF 0 0 (rvals s)))]⟩ : ByteArray) = _
            rw [HF.out, HM.out]
          exact ⟨by rw [e]; rfl, hB⟩
        · have hz' : (dih m c != 0) = true := bne_iff_ne.mpr fun h => hme (hii.mp h)
          have hlt2 : (m : Int) < dinv c := by omega
          clear hii
          go_wp2_with (go_at_call 119; refine (dihedral_any _ _ _ (by omega) (by omega)).mono ?_; rintro e w' ⟨rfl, rfl⟩)
          go_round
          case rel => exact ⟨m + 1, by omega, by go_num⟩
          case measure => simp [intOf]; omega

end Go.Proofs.Ytcfgfeamcckmjaa.Chk
