/-
  Checkdigit, part A: the systems. What 'systemOf' returns, and the small methods of the systems.
-/
import Derived.Test.YtcfgfeamcckmjaaProg
import Derived.Test.YtcfgfeamcckmjaaShelf
import Derived.Below
import Derived.OwnWalk
import Derived.Tactics
import Derived.WalkKit
import Derived.WalkLawsBesides
import Derived.WalkSpells
import Derived.KernelRfl
import Derived.RowKit
import Derived.RowKit3
import Derived.Outline
import Derived.Deep.QuietTactic
import Derived.BigQuiet
import Derived.Lib.Hide
namespace Go.Proofs.Ytcfgfeamcckmjaa.Chk
open Go.RowKit
set_option linter.unusedVariables false
set_option linter.unusedSimpArgs false

/-- The value of a system: an interface value over an empty struct, or nil. -/
def sysT (k : Int) : Nat :=
  if k = 1 then 72 else if k = 2 then 73 else if k = 3 then 76 else if k = 4 then 77
  else if k = 5 then 78 else if k = 6 then 79 else if k = 7 then 80 else 81
def sysV (k : Int) : Value := if 1 ≤ k ∧ k ≤ 8 then .iface (sysT k) (.agg #[]) else .nilIface

theorem systemOf_any (k : Int) (w : World) :
    Calls Try.prog 32 #[.int .i64 k] w fun e w' => e = .returned (sysV k) ∧ w = w' := by
  by_cases h1 : k = 1
  · subst h1
    go_enter Try.func32, Try.ntmps32
    go_wp2
    go_ret
    exact ⟨rfl, rfl⟩
  by_cases h2 : k = 2
  · subst h2
    go_enter Try.func32, Try.ntmps32
    go_wp2
    go_ret
    exact ⟨rfl, rfl⟩
  by_cases h3 : k = 3
  · subst h3
    go_enter Try.func32, Try.ntmps32
    go_wp2
    go_ret
    exact ⟨rfl, rfl⟩
  by_cases h4 : k = 4
  · subst h4
    go_enter Try.func32, Try.ntmps32
    go_wp2
    go_ret
    exact ⟨rfl, rfl⟩
  by_cases h5 : k = 5
  · subst h5
    go_enter Try.func32, Try.ntmps32
    go_wp2
    go_ret
    exact ⟨rfl, rfl⟩
  by_cases h6 : k = 6
  · subst h6
    go_enter Try.func32, Try.ntmps32
    go_wp2
    go_ret
    exact ⟨rfl, rfl⟩
  by_cases h7 : k = 7
  · subst h7
    go_enter Try.func32, Try.ntmps32
    go_wp2
    go_ret
    exact ⟨rfl, rfl⟩
  by_cases h8 : k = 8
  · subst h8
    go_enter Try.func32, Try.ntmps32
    go_wp2
    go_ret
    exact ⟨rfl, rfl⟩
  have b1 : (k == 1) = false := beq_eq_false_iff_ne.mpr h1
  have b2 : (k == 2) = false := beq_eq_false_iff_ne.mpr h2
  have b3 : (k == 3) = false := beq_eq_false_iff_ne.mpr h3
  have b4 : (k == 4) = false := beq_eq_false_iff_ne.mpr h4
  have b5 : (k == 5) = false := beq_eq_false_iff_ne.mpr h5
  have b6 : (k == 6) = false := beq_eq_false_iff_ne.mpr h6
  have b7 : (k == 7) = false := beq_eq_false_iff_ne.mpr h7
  have b8 : (k == 8) = false := beq_eq_false_iff_ne.mpr h8
  have hv : sysV k = .nilIface := by unfold sysV; rw [if_neg (by omega)]
  rw [hv]
  clear hv h1 h2 h3 h4 h5 h6 h7 h8
  go_enter Try.func32, Try.ntmps32
  go_wp2
  go_ret
  exact ⟨rfl, rfl⟩

end Go.Proofs.Ytcfgfeamcckmjaa.Chk
