import Derived.Test.YtoadabodhdgdjaaDoorQStX
import Derived.Test.YtoadabodhdgdjaaDoorQStK
import Derived.Sort.LoopGhostIn
namespace Go.Proofs.YtoadabodhdgdjaaDoor.St
open Go.RowKit Go.Maps Go.Proofs.YtoadabodhdgdjaaDoorW.PrintWords Go.Proofs.YtoadabodhdgdjaaDoorW.PrintLast Go.Proofs.YtoadabodhdgdjaaDoorW.PrintMore
set_option linter.unusedVariables false
set_option linter.unusedSimpArgs false
section
variable {P : Program} {ops : Array Oper} {Q : Exit → Act → World → Prop} {md : Region.Mode} {S : World → Prop} {ds : List Nat}
def noDefer (o : Oper) : Bool := match o.op with
 | .defer _ => false
 | _ => true
theorem uponIn_round {l m : Nat} {o : Oper} {a : Act} {K : Act → World → Prop} : ∀ (r : Result Next), o.upon P a K Q r → o.uponIn (Fence.wide.inRound l) m P a K Q r := by
 intro r h
 cases r with
 | ok x w =>
  cases x with
  | value v => exact h
  | skip => exact h
  | defer d => exact h
  | enter f args => exact ⟨fun hd => by simp [Fence.wide] at hd, CallsIn.inRound l (callsIn_wide.2 h)⟩
  | row r args => exact ⟨fun hd => by simp [Fence.wide] at hd, fun c cs _ => let ⟨v, w', r, s⟩ := h c cs; ⟨v, w', r, stepsIn_wide.2 s⟩⟩
  | _ => exact h.elim
 | halt x w =>
  cases x with
  | panic v => exact h
  | _ => exact h.elim
theorem wpAnyIn_of_any {l m : Nat} (hnd : ∀ (i : Nat) (o : Oper), ops[i]? = some o → noDefer o = true) (hQ : ¬ LetsOut Q) : ∀ (fuel : Nat) (ls : Array Bool) (a : Act) (w : World), wpAny P md ops Q fuel ls a w → wpAnyIn (Fence.wide.inRound l) m P md ops Q fuel ls a w
 | 0, _, _, _, h => h
 | fuel + 1, ls, a, w, h => ⟨h.1, fun i hi => by
   have h2 := h.2 i hi
   unfold wpOp at h2
   unfold wpOpIn
   cases ho : ops[i]? with
   | none =>
    simp only [ho] at h2
    exact wpAnyIn_of_any hnd hQ fuel _ _ _ h2
   | some o =>
    simp only [ho] at h2
    by_cases hw : Region.wanted o (yielded ops a.tmps) = true
    ·simp only [hw, if_true] at h2 ⊢
     rcases h2 with h2 | ⟨_, h2⟩
     ·refine ⟨fun _ _ => trivial, ?_⟩
      have hd := hnd i o ho
      rw [Oper.semAt_eq _ _ _ (fun c e => by rw [noDefer, e] at hd; cases hd)]
      have h3 := Oper.wp_mono (K' := wpAnyIn (Fence.wide.inRound l) m P md ops Q fuel (ls.setIfInBounds i true)) (fun a' w' h' => wpAnyIn_of_any hnd hQ fuel _ a' w' h') h2
      exact uponIn_round _ h3
     ·exact absurd h2 hQ
    ·simp only [hw, if_false, Bool.false_eq_true] at h2 ⊢
     exact ⟨fun _ _ => trivial, wpAnyIn_of_any hnd hQ fuel _ _ _ h2⟩⟩
theorem startR_ {id n l m : Nat} {a : Act} {w : World} (ls : Array Bool) (hm : P.follows .mixedOrders = true) (hn : ops.size = n) (hl : Array.replicate n false = ls) (hnd : ops.all noDefer = true) (hQ : ¬ LetsOut Q) (hS : S w.drew)
  (h : S w.drew → wpAnyLast P .any ops Q S ds n ls a w.drew) : (Code.region id ops true).wpIn (Fence.wide.inRound l) m P Q a w := by
 subst hn
 subst hl
 refine wpIn_region_any hm (wpAnyIn_of_any (fun i o ho => ?_) hQ _ _ _ _ (wpAny_of_last _ _ _ _ (h hS)))
 obtain ⟨hi, e⟩ := Array.getElem?_eq_some_iff.1 ho
 rw [← e]
 exact Array.all_eq_true.1 hnd i hi
end
end Go.Proofs.YtoadabodhdgdjaaDoor.St
