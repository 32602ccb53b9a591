import Derived.Test.YtoadabodhdgdjaaDoorQStI
import Derived.RangeFuncNested
import Derived.RangeFuncBound
import Derived.RangeFuncCalls
import Derived.RangeFuncLeaves
import Derived.RangeFuncBox
import Derived.OwnWalkIn
import Derived.TacticsInMore
import Derived.LoopNIn
import Derived.LoopIn
import Derived.Sort.QuietIn
import Derived.Test.YtoadabodhdgdjaaDoorQS0
namespace Go.Proofs.YtoadabodhdgdjaaDoor.St
open Go.Proofs.YtoadabodhdgdjaaDoor.S0
open Go.RowKit Go.Shelf Go.Proofs.YtoadabodhdgdjaaDoorW.PrintWords Go.Proofs.YtoadabodhdgdjaaDoorW.PrintLast Go.Proofs.YtoadabodhdgdjaaDoorW.PrintMore
set_option linter.unusedVariables false
set_option linter.unusedSimpArgs false
attribute [local go_sem] Oper.semAt_some max2_int min2_int
abbrev Part (len c : Nat) := { i : Nat // i * c < len }
def partV (ad : Addr) (len c i : Nat) : Value := .slice (some (ad.add (i * c))) (min c (len - i * c)) (min c (len - i * c))
def InOrder (len c : Nat) (pre : List (Part len c)) : Prop := pre.map (·.1) = List.range pre.length
theorem wrap64_add (x y : Nat) (h : x + y < 9223372036854775808) : wrap64 ((x : Int) + (y : Int)) = ((x + y : Nat) : Int) := by unfold wrap64; omega
set_option maxRecDepth 20000 in
theorem chunk_cut (ad : Addr) (len cap lo m : Nat) (hm : 0 < m) (h : lo + m ≤ cap) : ∀ W : World, (Instr.slice 22 (.slice (some ad) len cap) (some (.int .i64 (lo : Int))) (some (.int .i64 ((lo + m : Nat) : Int))) (some (.int .i64 ((lo + m : Nat) : Int)))).run Tryd.prog W = .ok (.slice (some (ad.add lo)) m m) W := by
 intro W
 obtain ⟨i0, hi0, hz0, hz1, hz2⟩ := info_parts (show (Tryd.prog.info? 3).map (fun i => (i.zero, i.size, i.bytes)) = some (some (.int .i64 0), 1, 8) from by kernel_rfl)
 have hel : Tryd.prog.elem 22 = 3 := by rfl
 have hu : Tryd.prog.underlying 22 = some (.slice (Tryd.prog.elem 22)) := by rw [hel]; exact Tryd.underlying22
 have e1 : ((lo + m : Nat) : Int).toNat = lo + m := Int.toNat_natCast _
 have e2 : ((lo : Nat) : Int).toNat = lo := Int.toNat_natCast _
 rw [run_slice_lhm W 22 (some ad) len cap hu .i64 .i64 .i64 (lo : Int) ((lo + m : Nat) : Int) ((lo + m : Nat) : Int) (by omega) (by omega) (by omega) (by omega), hel, e1, e2]
 have es : (sizeOf 3).run Tryd.prog W = .ok 1 W := by simp [sizeOf, typeInfo, hi0, hz1]
 rw [es]
 have e3 : ¬ lo + m = lo := by omega
 show Result.ok (Value.slice (if lo + m = lo then _ else _) (lo + m - lo) (lo + m - lo)) W = _
 rw [if_neg e3, Nat.add_sub_cancel_left]
 simp
def KeepsTwo (Bs Bc : Nat) (sv cv : Value) (W W' : World) : Prop := (Boxed W Bs 22 sv → Boxed W' Bs 22 sv) ∧ (Boxed W Bc 3 cv → Boxed W' Bc 3 cv)
theorem KeepsTwo.trans {Bs Bc : Nat} {sv cv : Value} {A B C : World} (h : KeepsTwo Bs Bc sv cv A B) (k : KeepsTwo Bs Bc sv cv B C) : KeepsTwo Bs Bc sv cv A C := ⟨fun x => k.1 (h.1 x), fun x => k.2 (h.2 x)⟩
theorem KeepsTwo.putObj {Bs Bc : Nat} {sv cv : Value} {w : World} (hs : Bs < w.heap.size) (hc : Bc < w.heap.size) (W : World) (l : Nat) (o o' : Obj) (hl : w.heap.size ≤ l) (_ : W.heap[l]? = some o) (_ : o.isCells = false) (_ : o.isWalk = false) : KeepsTwo Bs Bc sv cv W (W.putObj l o') :=
 ⟨fun x => (World.putObj_heap_other (fun e => by omega)).trans x, fun x => (World.putObj_heap_other (fun e => by omega)).trans x⟩
theorem inOrder_snoc {len c : Nat} {pre : List (Part len c)} (h : InOrder len c pre) (hk : pre.length * c < len) : InOrder len c (pre ++ [⟨pre.length, hk⟩]) := by
 unfold InOrder at *
 rw [List.map_append, h, List.length_append, List.length_singleton, List.range_succ]
 rfl
set_option maxRecDepth 100000 in
set_option maxHeartbeats 2000000 in
theorem chunk1_in (F : Fence) (n : Nat) (h69 : F.fn 69) (hro : F.round = none) (hn : 1 ≤ n) (l Bs Bc : Nat) (ad : Addr) (len cap c : Nat) (hc1 : 1 ≤ c) (hc2 : c ≤ 1000) (hlen : len ≤ 140737488355328) (hcap : len ≤ cap) (J Jx : List (Part len c) → World → Prop) (hJd : ∀ s W q, J s W → J s (W.drewN q))
  (hY : ∀ pre x W, J pre W → pre.length < len → YieldAt F (n - 1) Tryd.prog l #[partV ad len c x.1] W fun e W' =>
   (e = .returned (.bool true) ∧ J (pre ++ [x]) W' ∧ KeepsTwo Bs Bc (.slice (some ad) len cap) (.int .i64 c) W W') ∨ (e = .returned (.bool false) ∧ Jx (pre ++ [x]) W'))
  (W : World) (hBs : Boxed W Bs 22 (.slice (some ad) len cap)) (hBc : Boxed W Bc 3 (.int .i64 c)) (h0 : J [] W) :
  CallsIn F n Tryd.prog 69 #[.func (.yield l) #[] #[], .pointer (some ⟨Bs, 0, none⟩), .pointer (some ⟨Bc, 0, none⟩)] W fun e W' => (∃ v, e = .returned v) ∧
   ((∃ ys, (InOrder len c ys ∧ len ≤ ys.length * c) ∧ J ys W') ∨ (∃ pre, InOrder len c pre ∧ Jx pre W')) := by
 have HBs := am hBs
 have HBc := am hBc
 have hBs0 := hBs.cell
 have hBc0 := hBc.cell
 clear hBs hBc
 cases F
 cases hro
 refine callsIn_of_wp Tryd.func69 rfl h69 ?_ rfl
 simp only [Tryd.ntmps69, List.size_toArray, List.length_cons, List.length_nil, Nat.reduceAdd, Nat.reduceSub, Array.replicate_succ, Array.replicate_zero, List.push_toArray, List.append_toArray, List.nil_append, List.cons_append]
 gi_wp2
 gi_loopw [4] (fun i wr => ∃ pre : List (Part len c), i = .int .i64 ((pre.length * c : Nat) : Int) ∧ pre.length * c ≤ len + c ∧ InOrder len c pre ∧ J pre wr ∧ KeepsTwo Bs Bc (.slice (some ad) len cap) (.int .i64 c) W wr)
  (fun i _ => len + c - (intOf i).toNat)
 case atStart => exact ⟨[], by simp, by simp, rfl, h0, ⟨id, id⟩⟩
 case round =>
  obtain ⟨pre, rfl, hk, hio, hJs, hnx⟩ := hrel
  have hcs : wr.cell? ⟨Bs, 0, none⟩ = some (.slice (some ad) len cap) := (hnx.1 HBs.out).cell
  have hcc : wr.cell? ⟨Bc, 0, none⟩ = some (.int .i64 c) := (hnx.2 HBc.out).cell
  by_cases hlt : pre.length * c < len
  ·have hpl : pre.length < len := by have := Nat.mul_le_mul_left pre.length hc1; omega
   have hY2 := fun q => hY pre ⟨pre.length, hlt⟩ (wr.drewN q) (hJd _ _ q hJs) hpl
   have hlt2 := hlt
   obtain ⟨lo, hlo⟩ : ∃ lo : Nat, lo = pre.length * c := ⟨_, rfl⟩
   rw [← hlo] at hlt hk ⊢
   obtain ⟨m, hm⟩ : ∃ m : Nat, m = min c (len - lo) := ⟨_, rfl⟩
   have Hlo := am hlo
   have Hm := am hm
   obtain ⟨i0, hi0, hz0, hz1, hz2⟩ := info_parts (show (Tryd.prog.info? 3).map (fun i => (i.zero, i.size, i.bytes)) = some (some (.int .i64 0), 1, 8) from by kernel_rfl)
   obtain ⟨A2, hcut1⟩ : ∃ A2, ∀ W : World, (Instr.slice 22 (.slice (some ad) len cap) (some (.int .i64 (lo : Int))) none none).run Tryd.prog W = .ok (.slice A2 (len - lo) (cap - lo)) W :=
    ⟨_, by
     have h := cut_from (P := Tryd.prog) 22 3 .i64 Tryd.underlying22 hi0 1 hz1 (some ad) len cap (lo : Int) (by omega) (by omega)
     rw [Int.toNat_natCast] at h
     exact h⟩
   have hltd : decide ((lo : Int) < (len : Int)) = true := decide_eq_true (by omega)
   have hmin : min (c : Int) ((len - lo : Nat) : Int) = (m : Int) := by
    rw [hm]
    omega
   have hcut2 := chunk_cut ad len cap lo m (by omega) (by omega)
   have hmle : m ≤ len := by omega
   have hb1 : lo + m < 9223372036854775808 := by omega
   have hb2 : lo + c < 9223372036854775808 := by omega
   obtain ⟨s1, hs1⟩ : ∃ s : Int, wrap64 ((lo : Int) + (m : Int)) = s := ⟨_, rfl⟩
   obtain ⟨s2, hs2⟩ : ∃ s : Int, wrap64 ((lo : Int) + (c : Int)) = s := ⟨_, rfl⟩
   rw [show ((lo + m : Nat) : Int) = s1 from (wrap64_add lo m hb1).symm.trans hs1] at hcut2
   have Hs2 := am (show s2 = ((lo + c : Nat) : Int) from hs2.symm.trans (wrap64_add lo c hb2))
   have hs1w : IntKind.i64.wrap ((lo : Int) + (m : Int)) = s1 := (i64_w _).trans hs1
   have hs2w : IntKind.i64.wrap ((lo : Int) + (c : Int)) = s2 := (i64_w _).trans hs2
   clear hlo hm
   gi_wp2
   gi_quiet (fail)
   obtain ⟨fn, tmps, assign, body, hy, hR⟩ := hY2 nq
   dsimp only [partV] at hy
   rw [← Hlo.out, ← Hm.out] at hy
   have hcs2 : (wr.drewN nq).cell? ⟨Bs, 0, none⟩ = some (.slice (some ad) len cap) := hcs
   have hcc2 : (wr.drewN nq).cell? ⟨Bc, 0, none⟩ = some (.int .i64 c) := hcc
   clear hY2
   gi_wp2
   refine hR.mono ?_
   rintro e W3 (⟨rfl, hJ3, hk3⟩ | ⟨rfl, hJx3⟩)
   ·have hcc3 : W3.cell? ⟨Bc, 0, none⟩ = some (.int .i64 c) := (hk3.2 (hnx.2 HBc.out)).cell
    gi_wp2
    go_roundw
    case rel =>
     clear hs1 hs2 hs1w hs2w
     refine ⟨pre ++ [⟨pre.length, hlt2⟩], ?_, ?_, inOrder_snoc hio hlt2, hJ3, hnx.trans (KeepsTwo.trans (B := wr.drewN nq) ⟨id, id⟩ hk3)⟩
     ·rw [List.length_append, List.length_singleton, Nat.succ_mul, ← Hlo.out, ← Hs2.out]
     ·rw [List.length_append, List.length_singleton, Nat.succ_mul, ← Hlo.out]
      omega
    case measure =>
     clear hs1 hs2 hs1w hs2w
     rw [show s2 = ((lo + c : Nat) : Int) from Hs2.out]
     simp [intOf]
     omega
   ·gi_wp2
    refine bodyPost_ret (results_none rfl _ _ _) rfl ?_
    exact ⟨⟨_, rfl⟩, .inr ⟨_, inOrder_snoc hio hlt2, hJx3⟩⟩
  ·have hltd : decide (((pre.length * c : Nat) : Int) < (len : Int)) = false := decide_eq_false (by omega)
   have hge : len ≤ pre.length * c := by omega
   have Hge := am hge
   generalize pre.length * c = lo at hltd hk hge hlt ⊢
   gi_wp2
   go_end0
   exact ⟨⟨_, rfl⟩, .inl ⟨pre, ⟨hio, Hge.out⟩, hJs⟩⟩
set_option maxRecDepth 100000 in
set_option maxHeartbeats 1000000 in
theorem chunk1_nil_in (F : Fence) (n : Nat) (h69 : F.fn 69) (hro : F.round = none) (l Bs Bc : Nat) (A : Option Addr) (cap c : Nat) (J Jx : List (Part 0 c) → World → Prop)
  (W : World) (hBs : W.cell? ⟨Bs, 0, none⟩ = some (.slice A 0 cap)) (h0 : J [] W) :
  CallsIn F n Tryd.prog 69 #[.func (.yield l) #[] #[], .pointer (some ⟨Bs, 0, none⟩), .pointer (some ⟨Bc, 0, none⟩)] W fun e W' => (∃ v, e = .returned v) ∧ J [] W' := by
 refine callsIn_of_wp Tryd.func69 rfl h69 ?_ hro
 simp only [Tryd.ntmps69, List.size_toArray, List.length_cons, List.length_nil, Nat.reduceAdd, Nat.reduceSub, Array.replicate_succ, Array.replicate_zero, List.push_toArray, List.append_toArray, List.nil_append, List.cons_append]
 gi_wp2
 gi_loopw [4] (fun i wr => i = .int .i64 0 ∧ J [] wr ∧ wr = W) (fun _ _ => 0)
 case atStart => exact ⟨rfl, h0, rfl⟩
 case round =>
  obtain ⟨rfl, hJs, rfl⟩ := hrel
  gi_wp2
  go_end0
  exact ⟨⟨_, rfl⟩, hJs⟩
set_option maxRecDepth 100000 in
set_option maxHeartbeats 1000000 in
theorem chunk_in (F : Fence) (n : Nat) (h45 : F.fn 45) (hro : F.round = none) (A : Option Addr) (len cap : Nat) (c : Nat) (hc : 1 ≤ c) (hc2 : c ≤ 1000) (w : World) :
  CallsIn F n Tryd.prog 45 #[.slice A len cap, .int .i64 (c : Int)] w fun e w' => e = .returned (.func (.func 69) #[] #[.pointer (some ⟨w.heap.size, 0, none⟩), .pointer (some ⟨w.heap.size + 1, 0, none⟩)]) ∧ w' = (w.alloc (.cells #[.slice A len cap] 22)).alloc (.cells #[.int .i64 c] 3) := by
 have hlt : decide ((c : Int) < 1) = false := decide_eq_false (by omega)
 refine callsIn_of_wp Tryd.func45 rfl h45 ?_ hro
 simp only [Tryd.ntmps45, List.size_toArray, List.length_cons, List.length_nil, Nat.reduceAdd, Nat.reduceSub, Array.replicate_succ, Array.replicate_zero, List.push_toArray, List.append_toArray, List.nil_append, List.cons_append]
 gi_wp2
 go_ret
 exact ⟨rfl, rfl⟩
theorem chunk_stops (F : Fence) (n : Nat) (h69 : F.fn 69) (hro : F.round = none) (hn : 1 ≤ n) (Bs Bc : Nat) (A : Option Addr) (len cap c : Nat) (hc1 : 1 ≤ c) (hc2 : c ≤ 1000) (hlen : len ≤ 140737488355328) (hcap : len ≤ cap) (w : World) (hA : 0 < len → ∃ ad, A = some ad) (ad : Addr) (had : ∀ a, A = some a → a = ad)
  (hs : Boxed w Bs 22 (.slice A len cap)) (hc : Boxed w Bc 3 (.int .i64 (c : Int))) :
  SeqStopsK F n Tryd.prog 69 #[.pointer (some ⟨Bs, 0, none⟩), .pointer (some ⟨Bc, 0, none⟩)] (fun x : Part len c => #[partV ad len c x.1]) (KeepsTwo Bs Bc (.slice A len cap) (.int .i64 (c : Int))) (fun ys => InOrder len c ys ∧ len ≤ ys.length * c) (fun pre => InOrder len c pre) len w := fun l J Jx W hW hJ hJx hY h0 => by
 have hs' : Boxed W Bs 22 (.slice A len cap) := (hW.block Bs hs.lt).trans hs
 have hc' : Boxed W Bc 3 (.int .i64 (c : Int)) := (hW.block Bc hc.lt).trans hc
 by_cases hl : 0 < len
 ·obtain ⟨a, rfl⟩ := hA hl
  obtain rfl := had a rfl
  exact chunk1_in F n h69 hro hn l Bs Bc a len cap c hc1 hc2 hlen hcap J Jx (fun s W1 q h => hJ s W1 _ none h (grown_of_below (pw_below_drewN (Below.refl _ _) q) none) (fun r e => by cases e)) hY W hs' hc' h0
 ·obtain rfl : len = 0 := by omega
  refine (chunk1_nil_in F n h69 hro l Bs Bc A cap c J Jx W hs'.cell h0).mono ?_
  rintro e W' ⟨he, hj⟩
  exact ⟨he, .inl ⟨[], ⟨rfl, by simp⟩, hj⟩⟩
end Go.Proofs.YtoadabodhdgdjaaDoor.St
