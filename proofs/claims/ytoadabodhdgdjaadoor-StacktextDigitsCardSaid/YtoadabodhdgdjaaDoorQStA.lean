import Derived.Test.YtoadabodhdgdjaaDoorQSB
import Derived.Test.YtoadabodhdgdjaaDoorQShelf
import Derived.Lib.Hide
import Derived.Laws.Bits64b
namespace Go.Proofs.YtoadabodhdgdjaaDoor.St
open Go.RowKit Go.Proofs.YtoadabodhdgdjaaDoorW.PrintWords Go.Proofs.YtoadabodhdgdjaaDoorW.PrintLast Go.Proofs.YtoadabodhdgdjaaDoorW.PrintMore
set_option linter.unusedVariables false
set_option linter.unusedSimpArgs false
def bits_Div32.f (a0 a1 a2 : Int) : Option (Int × Int) := if 0 ≤ a0 ∧ a0 < a2 ∧ a2 < 4294967296 ∧ 0 ≤ a1 ∧ a1 < 4294967296 then some ((4294967296 * a0 + a1) / a2, (4294967296 * a0 + a1) % a2) else none
theorem div_bd (a b y : Int) (h0 : 0 ≤ a) (h1 : a < y) (h2 : 0 ≤ b) (h3 : b < 4294967296) : 0 ≤ (4294967296 * a + b) / y ∧ (4294967296 * a + b) / y < 4294967296 := by
 have hy : 0 < y := by omega
 refine ⟨Int.ediv_nonneg (by omega) (by omega), ?_⟩
 refine Int.ediv_lt_of_lt_mul hy ?_
 have : 4294967296 * (a + 1) ≤ 4294967296 * y := by omega
 omega
theorem or_sum (a b : Int) (h0 : 0 ≤ a) (h1 : a < 4294967296) (h2 : 0 ≤ b) (h3 : b < 4294967296) : bits BinOp.or .u64 (a * 4294967296) b = 4294967296 * a + b := by
 obtain ⟨x, rfl⟩ : ∃ x : Nat, a = x := ⟨a.toNat, by omega⟩
 obtain ⟨y, rfl⟩ : ∃ y : Nat, b = y := ⟨b.toNat, by omega⟩
 have h := bits_or_u64_nat (4294967296 * x) y (by omega) (by omega)
 have e := Nat.two_pow_add_eq_or_of_lt (i := 32) (b := y) (by omega) x
 rw [show (x : Int) * 4294967296 = ((4294967296 * x : Nat) : Int) by omega, h]
 rw [show (4294967296 : Nat) = 2 ^ 32 by rfl, ← e]
 omega
set_option maxHeartbeats 1000000 in
set_option maxRecDepth 20000 in
theorem bits_Div32.calls (a0 a1 a2 : Int) (r1 r2 : Int) (w : World) (h : bits_Div32.f a0 a1 a2 = some (r1, r2)) :
  Calls Tryd.prog 101 #[.int .u32 a0, .int .u32 a1, .int .u32 a2] w fun e w' => e = .returned (.tuple #[.int .u32 r1, .int .u32 r2]) ∧ Drawn0 w w' := by
 unfold bits_Div32.f at h
 by_cases hc : 0 ≤ a0 ∧ a0 < a2 ∧ a2 < 4294967296 ∧ 0 ≤ a1 ∧ a1 < 4294967296
 ·rw [if_pos hc] at h
  injection h with h
  injection h with h1 h2
  obtain ⟨g0, g1, g2, g3, g4⟩ := hc
  have hb := div_bd a0 a1 a2 g0 g1 g3 g4
  have hm := Int.emod_nonneg (4294967296 * a0 + a1) (show a2 ≠ 0 by omega)
  have hm2 := Int.emod_lt_of_pos (4294967296 * a0 + a1) (show 0 < a2 by omega)
  have hne : ¬ a2 = 0 := by omega
  have hle : ¬ a2 ≤ a0 := by omega
  have H1 := Lib.hid h1; clear h1
  have H2 := Lib.hid h2; clear h2
  go_enter Tryd.func101, Tryd.ntmps101
  go_wp2
  go_region
  go_wp2
  go_ret2
  refine ⟨?_, by first | exact Drawn0.refl _ | exact ⟨⟨1, rfl⟩⟩⟩
  show Ending.returned (.tuple #[.int .u32 (IntKind.u64.wrap ((bits BinOp.or IntKind.u64 (a0 * 4294967296) a1).tdiv a2) % 4294967296), .int .u32 ((bits BinOp.or IntKind.u64 (a0 * 4294967296) a1).tmod a2 % 4294967296)]) = _
  have hor := or_sum a0 a1 g0 (by omega) g3 g4
  rw [hor, Int.tdiv_eq_ediv_of_nonneg (by omega), Int.tmod_eq_emod_of_nonneg (by omega), ← H1.out, ← H2.out]
  rw [show IntKind.u64.wrap ((4294967296 * a0 + a1) / a2) = (4294967296 * a0 + a1) / a2 from by rw [IntKind.wrap_u64]; omega]
  rw [Int.emod_eq_of_lt hb.1 hb.2, Int.emod_eq_of_lt hm (by omega)]
 ·rw [if_neg hc] at h; cases h
end Go.Proofs.YtoadabodhdgdjaaDoor.St
