import Derived.Test.YtoadabodhdgdjaaDoorQSH
import Derived.Deep.LoopGhost
import Derived.Deep.Draws
import Derived.Test.YtoadabodhdgdjaaDoorQS0
namespace Go.Proofs.YtoadabodhdgdjaaDoor.St
open Go.Proofs.YtoadabodhdgdjaaDoor.S0
open Go.RowKit Go.Proofs.YtoadabodhdgdjaaDoorW.PrintWords Go.Proofs.YtoadabodhdgdjaaDoorW.PrintLast Go.Proofs.YtoadabodhdgdjaaDoorW.PrintMore
set_option linter.unusedVariables false
set_option linter.unusedSimpArgs false
def PredI (g : Nat) (lb : Array Value) (p : Int → Bool) (w : World) : Prop :=
 ∀ (x : Int) (q : Nat), Calls Tryd.prog g (#[.int .i64 x] ++ lb) (w.drewN q) fun e w' => e = .returned (.bool (p x)) ∧ ∃ q', w' = (w.drewN q).drewN q'
def firstAt (p : Int → Bool) : List Int → Nat → Int
 | [], _ => -1
 | x :: t, i => if p x = true then (i : Int) else firstAt p t (i + 1)
theorem firstAt_nonneg (p : Int → Bool) : ∀ (l : List Int) (i : Nat), decide (0 ≤ firstAt p l i) = l.any p
 | [], i => rfl
 | x :: t, i => by
  unfold firstAt
  cases hx : p x with
  | true => simp [hx]
  | false => simp [hx, firstAt_nonneg p t (i + 1)]
theorem firstAt_drop (p : Int → Bool) (l : List Int) (i : Nat) (hi : i < l.length) (hp : p (rd l (i : Int)) = false) : firstAt p (l.drop i) i = firstAt p (l.drop (i + 1)) (i + 1) := by
 rw [List.drop_eq_getElem_cons hi]
 have : rd l (i : Int) = l[i] := by unfold rd; simp [hi]
 rw [this] at hp
 rw [firstAt, if_neg (by rw [hp]; decide)]
theorem firstAt_hit (p : Int → Bool) (l : List Int) (i : Nat) (hi : i < l.length) (hp : p (rd l (i : Int)) = true) : firstAt p (l.drop i) i = (i : Int) := by
 rw [List.drop_eq_getElem_cons hi]
 have : rd l (i : Int) = l[i] := by unfold rd; simp [hi]
 rw [this] at hp
 rw [firstAt, if_pos hp]
set_option maxHeartbeats 2000000 in
set_option maxRecDepth 20000 in
theorem slices_IndexFunc.calls (p : Int → Bool) (g : Nat) (lb : Array Value) (eg : ∀ args w, (callFunc g args).run Tryd.prog w = .ok (.enter g args) w) (A0 : Option Addr) (c0 : Nat) (l0 : List Int) (w : World) (hr0 : Kd.C (Kd.int .i64) w A0 l0.length l0) (hbig : l0.length ≤ 9223372036854775806)
  (hp : PredI g lb p w) : Calls Tryd.prog 44 #[.slice A0 l0.length c0, .func (.func g) #[] lb] w fun e w' => e = .returned (.int .i64 (firstAt p l0 0)) ∧ ∃ q, w' = w.drewN q := by
 have HP := am hp
 have HR := am hr0
 clear hp hr0
 go_enter Tryd.func44, Tryd.ntmps44
 go_wp2
 go_loopg [5, 8] l0.length (fun gg _ s8 wr => ∃ kk q : Nat, kk ≤ l0.length ∧ l0.length - kk ≤ gg ∧ s8 = .int .i64 kk ∧ wr = w.drewN q ∧ Aside0 (firstAt p l0 0 = firstAt p (l0.drop kk) kk))
 case atStart => exact ⟨0, 0, Nat.zero_le _, by omega, rfl, rfl, ⟨rfl⟩⟩
 case round =>
  obtain ⟨kk, q, hkk, hg, rfl, rfl, A⟩ := hrel
  by_cases hlt : kk < l0.length
  ·have hltz : (kk : Int) < (l0.length : Int) := by omega
   obtain ⟨ad, e1, hx⟩ := Kd.at_int HR.out (kk : Int) (by omega) hltz
   subst e1
   simp only [Int.toNat_natCast] at hx
   have hcall := HP.out (rd l0 (kk : Int))
   cases hq : p (rd l0 (kk : Int)) with
   | true =>
    rw [hq] at hcall
    have HE := am (firstAt_hit p l0 kk hlt hq)
    clear hq
    generalize rd l0 (kk : Int) = y at hx hcall
    go_wp2_with (go_at_fn g; refine (hcall _).mono ?_; rintro e w' ⟨rfl, q', rfl⟩)
    go_ret
    refine ⟨?_, _, rfl⟩
    rw [A.out, HE.out]
    rfl
   | false =>
    rw [hq] at hcall
    have HE := am (firstAt_drop p l0 kk hlt hq)
    clear hq
    generalize rd l0 (kk : Int) = y at hx hcall
    go_wp2_with (go_at_fn g; refine (hcall _).mono ?_; rintro e w' ⟨rfl, q', rfl⟩)
    go_roundg (l0.length - (kk + 1))
    case measure => omega
    case rel =>
     exact ⟨kk + 1, _, by omega, by omega, by go_num, rfl, ⟨A.out.trans HE.out⟩⟩
  ·have hltz : ¬ (kk : Int) < (l0.length : Int) := by omega
   have hk : kk = l0.length := by omega
   subst hk
   go_wp2
   go_ret
   refine ⟨?_, q, rfl⟩
   rw [A.out, List.drop_length]
   rfl
set_option maxHeartbeats 2000000 in
set_option maxRecDepth 20000 in
theorem slices_ContainsFunc.calls (p : Int → Bool) (g : Nat) (lb : Array Value) (eg : ∀ args w, (callFunc g args).run Tryd.prog w = .ok (.enter g args) w) (A0 : Option Addr) (c0 : Nat) (l0 : List Int) (w : World) (hr0 : Kd.C (Kd.int .i64) w A0 l0.length l0) (hbig : l0.length ≤ 9223372036854775806)
  (hp : PredI g lb p w) : Calls Tryd.prog 23 #[.slice A0 l0.length c0, .func (.func g) #[] lb] w fun e w' => e = .returned (.bool (l0.any p)) ∧ ∃ q, w' = w.drewN q := by
 rw [← firstAt_nonneg p l0 0]
 go_enter Tryd.func23, Tryd.ntmps23
 go_wp2_with ((with_reducible refine gate_callee (f := 44) rfl ?_); refine gL (some 7) Tryd.func44 #[.slice A0 l0.length c0, .func (.func g) #[] lb] (h := ?_); refine (slices_IndexFunc.calls p g lb eg A0 c0 l0 _ hr0 hbig hp).mono ?_; rintro e w' ⟨rfl, q, rfl⟩; refine ⟨_, rfl, ?_⟩)
 go_ret
 exact ⟨rfl, q, rfl⟩
def pNumeric (x : Int) : Bool := decide (x < 0 ∨ 900 ≤ x)
set_option maxRecDepth 20000 in
theorem pNumeric_pred (w : World) : PredI 24 #[] pNumeric w := by
 intro x q
 go_enter Tryd.func24, Tryd.ntmps24
 by_cases h : x < 0
 ·have hb : decide (x < 0) = true := decide_eq_true h
  go_wp2
  go_ret
  exact ⟨by rw [show pNumeric x = true from decide_eq_true (.inl h)]; rfl, 0, rfl⟩
 ·have hb : decide (x < 0) = false := decide_eq_false h
  go_wp2
  go_ret
  refine ⟨?_, 0, rfl⟩
  rw [show pNumeric x = decide (900 ≤ x) from decide_eq_decide.mpr ⟨fun h' => h'.resolve_left (by omega), .inr⟩]
  rfl
def pDecode (x : Int) : Bool := decide (x < 0 ∨ 928 < x)
set_option maxRecDepth 20000 in
theorem pDecode_pred (w : World) : PredI 28 #[] pDecode w := by
 intro x q
 go_enter Tryd.func28, Tryd.ntmps28
 by_cases h : x < 0
 ·have hb : decide (x < 0) = true := decide_eq_true h
  go_wp2
  go_ret
  exact ⟨by rw [show pDecode x = true from decide_eq_true (.inl h)]; rfl, 0, rfl⟩
 ·have hb : decide (x < 0) = false := decide_eq_false h
  go_wp2
  go_ret
  refine ⟨?_, 0, rfl⟩
  rw [show pDecode x = decide (928 < x) from decide_eq_decide.mpr ⟨fun h' => h'.resolve_left (by omega), .inr⟩]
  rfl
def pBase (b x : Int) : Bool := decide (x < 0 ∨ b ≤ x)
set_option maxRecDepth 20000 in
theorem pBase_pred (g : Nat) (b : Int) (w : World) (hb : w.cell? ⟨g, 0, none⟩ = some (.int .i64 b)) : PredI 70 #[.pointer (some ⟨g, 0, none⟩)] (pBase b) w := by
 intro x q
 have hc : (w.drewN q).cell? ⟨g, 0, none⟩ = some (.int .i64 b) := hb
 go_enter Tryd.func70, Tryd.ntmps70
 by_cases h : x < 0
 ·have hb : decide (x < 0) = true := decide_eq_true h
  go_wp2
  go_ret
  exact ⟨by rw [show pBase b x = true from decide_eq_true (.inl h)]; rfl, 0, rfl⟩
 ·have hb : decide (x < 0) = false := decide_eq_false h
  go_wp2
  go_ret
  refine ⟨?_, 0, rfl⟩
  rw [show pBase b x = decide (b ≤ x) from decide_eq_decide.mpr ⟨fun h' => h'.resolve_left (by omega), .inr⟩]
  rfl
end Go.Proofs.YtoadabodhdgdjaaDoor.St
