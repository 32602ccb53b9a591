import Derived.Test.YtoadabodhdgdjaaDoorQStA
import Derived.Test.YtoadabodhdgdjaaDoorQSD
namespace Go.Proofs.YtoadabodhdgdjaaDoor.St
open Go.RowKit Go.Proofs.YtoadabodhdgdjaaDoorW.PrintWords Go.Proofs.YtoadabodhdgdjaaDoorW.PrintLast Go.Proofs.YtoadabodhdgdjaaDoorW.PrintMore
set_option linter.unusedVariables false
set_option linter.unusedSimpArgs false
def limbs_Sum.f (l0 l1 : List Int) : Option (List Int) := if l0.length < l1.length then SDb.limbs_Sum.f (l0.length + l1.length + 2) l0 l1 else SDa.limbs_Sum.f (l0.length + l1.length + 2) l0 l1
theorem limbs_Sum.calls (A0 : Option Addr) (c0 : Nat) (l0 : List Int) (A1 : Option Addr) (c1 : Nat) (l1 : List Int) (r : List Int) (w : World) (hr0 : Kd.C (Kd.int .u32) w A0 l0.length l0) (hc0 : l0.length ≤ c0) (hr1 : Kd.C (Kd.int .u32) w A1 l1.length l1) (hc1 : l1.length ≤ c1) (h : limbs_Sum.f l0 l1 = some r) :
  Calls Tryd.prog 87 #[.slice A0 l0.length c0, .slice A1 l1.length c1] w fun e w' => ∃ v0_ : Value, e = .returned (v0_) ∧ Kd.R (Kd.int .u32) 103 w' w.heap.size (fun _ => True) v0_ r ∧ Below w.heap.size w w' := by
 unfold limbs_Sum.f at h
 by_cases hl : l0.length < l1.length
 ·rw [if_pos hl] at h
  exact SDb.limbs_Sum.calls _ A0 c0 l0 A1 c1 l1 r w hr0 hc0 hr1 hc1 h
 ·rw [if_neg hl] at h
  exact SDa.limbs_Sum.calls _ A0 c0 l0 A1 c1 l1 r w hr0 hc0 hr1 hc1 h
end Go.Proofs.YtoadabodhdgdjaaDoor.St
