/-
  Checkdigit: the law's string of n zeros, walked, and its contract in the print's form.
-/
import Derived.Test.YtcfgfeamcckmjaaChkW
namespace Go.Proofs.Ytcfgfeamcckmjaa.Chk
open Go.RowKit Go.Proofs.YtcfgfeamcckmjaaW.PrintWords Go.Proofs.YtcfgfeamcckmjaaW.PrintLast Go.Proofs.YtcfgfeamcckmjaaW.PrintMore
set_option linter.unusedVariables false
set_option linter.unusedSimpArgs false

def zs (n : Nat) : ByteArray := ⟨(List.replicate n (48 : UInt8)).toArray⟩
theorem zs_size (n : Nat) : (zs n).size = n := by simp [zs, ByteArray.size]
theorem zs_app (a b : Nat) : zs a ++ zs b = zs (a + b) := by
  apply ByteArray.ext
  simp [zs]
theorem zs_ext (a b : Nat) (h : b ≤ a) : (zs a).extract 0 b = zs b := by
  apply ByteArray.ext
  apply Array.ext'
  simp [zs]
  omega
set_option maxHeartbeats 1000000 in
set_option maxRecDepth 20000 in
theorem long_any (n : Nat) (w : World) (h1 : 1 ≤ n) (h2 : n ≤ 5000) : Calls Try.prog 21 #[.int .i64 n] w fun e w' => e = .returned (.string (zs n)) ∧ Below w.heap.size w w' := by
  go_enter Try.func21, Try.ntmps21
  go_wp2
  go_loop [3] (fun p => ∃ m : Nat, 1 ≤ m ∧ m ≤ n ∧ p = .string (zs m)) (fun p => n - (match p with | .string z => z.size | _ => 0))
  case atStart => exact ⟨1, Nat.le_refl _, h1, rfl⟩
  case round =>
    obtain ⟨m, hm1, hm2, rfl⟩ := hrel
    have hsz := zs_size m
    by_cases hlt : m < n
    · generalize hz : zs m = z at hsz ⊢
      have HZ := Lib.hid hz; clear hz
      have hl : (z.size : Int) < n := by omega
      by_cases hd : 2 * m ≤ n
      · have hd1 : 2 * (z.size : Int) ≤ n := by omega
        have hd2 : z.size + z.size ≤ 9223372036854775807 := by omega
        go_wp2
        go_round
        case rel => exact ⟨m + m, by omega, by omega, by rw [← HZ.out, zs_app]⟩
        case measure => simp; omega
      · have hd1 : ¬ 2 * (z.size : Int) ≤ n := by omega
        have hd3 : 0 ≤ (n : Int) - z.size := by omega
        have hd4 : (n : Int) - z.size ≤ z.size := by omega
        have hd5 : ((n : Int) - z.size).toNat = n - m := by omega
        have hd6 : z.size + (z.extract 0 (n - m)).size ≤ 9223372036854775807 := by simp; omega
        have hd7 : ¬ 9223372036854775807 < z.size + (n - m) := by omega
        go_wp2
        go_round
        case rel => exact ⟨n, by omega, by omega, by rw [← HZ.out, zs_ext m (n - m) (by omega), zs_app, show m + (n - m) = n by omega]⟩
        case measure => simp; omega
    · obtain rfl : m = n := by omega
      have he := zs_ext m m (Nat.le_refl _)
      generalize hz : zs m = z at hsz he ⊢
      have HZ := Lib.hid hz; clear hz
      have hl : ¬ (z.size : Int) < m := by omega
      have hl2 : (m : Int) ≤ z.size := by omega
      have HE := Lib.hid he; clear he
      go_wp2
      go_ret
      exact ⟨by rw [HZ.out, HE.out]; rfl, Below.refl _ _⟩
def barscanlaw09_long.f (a0 : Int) : Option ByteArray := if 1 ≤ a0 ∧ a0 ≤ 5000 then some (zs a0.toNat) else none
theorem barscanlaw09_long.calls (a0 : Int) (r : ByteArray) (w : World) (h : barscanlaw09_long.f a0 = some r) :
    Calls Try.prog 21 #[.int .i64 a0] w fun e w' => e = .returned (.string r) ∧ Below w.heap.size w w' := by
  unfold barscanlaw09_long.f at h
  by_cases hm : 1 ≤ a0 ∧ a0 ≤ 5000
  · rw [if_pos hm] at h
    have h := Option.some.inj h
    subst h
    have := long_any a0.toNat w (by omega) (by omega)
    rwa [show ((a0.toNat : Nat) : Int) = a0 by omega] at this
  · rw [if_neg hm] at h; cases h
end Go.Proofs.Ytcfgfeamcckmjaa.Chk
