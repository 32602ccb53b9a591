import Derived.Test.YtoadabodhdgdjaaDoorQStR
import Derived.Test.YtoadabodhdgdjaaDoorQS0
namespace Go.Proofs.YtoadabodhdgdjaaDoor.St
open Go.Proofs.YtoadabodhdgdjaaDoor.S0
open Go.RowKit Go.Maps Go.Proofs.YtoadabodhdgdjaaDoorW.PrintWords Go.Proofs.YtoadabodhdgdjaaDoorW.PrintLast Go.Proofs.YtoadabodhdgdjaaDoorW.PrintMore Go.Proofs.YtoadabodhdgdjaaDoor.SM
set_option linter.unusedVariables false
set_option linter.unusedSimpArgs false
def solveA (k : Nat) (p : List Int) (M : PMap) (a : Int) : Option PMap := if a = (p.length : Int) then endF k M a else solveF k p none M a
def solvedR (k : Nat) (p : List Int) : Nat → PMap → Option PMap
 | 0, M => some M
 | j + 1, M => (solveA k p M (j : Int)).bind (solvedR k p j)
def solvedF (k : Nat) (p : List Int) : Option PMap := solvedR k p (p.length + 1) []
theorem solve_any (k : Nat) (g b n : Nat) (p : List Int) (a : Int) (M M2 : PMap) (w0 w : World) (hI : IsS65 w0 w g p (some b)) (hB : Below w0.heap.size w0 w) (hM : RestIs w b n M) (hb0 : w0.heap.size ≤ b) (hn : n ≤ 9000000000000000000) (hp : p.length ≤ 1000000) (h : solveA k p M a = some M2) :
  Calls Tryd.prog 55 #[.pointer (some ⟨g, 0, none⟩), .int .i64 a] w fun e w' => e = .returned (.tuple #[]) ∧ IsS65 w0 w' g p (some b) ∧ Below w0.heap.size w0 w' ∧ RestIs w' b (n + 100000000000) M2 := by
 unfold solveA at h
 split at h
 ·rename_i e
  subst e
  refine (solve_end k g b n p M M2 w0 w hI hB hM hb0 hn hp h).mono ?_
  rintro e w' ⟨h1, h2, h3, h4⟩
  exact ⟨h1, h2, h3, h4.mono (by omega)⟩
 ·rename_i e
  exact solve_mid k g b n p a M M2 w0 w hI hB hM hb0 hn hp e ((solveF_none k p (some b) M a).trans h)
theorem RestIs.below {w w' : World} {b n : Nat} {M : PMap} (h : RestIs w b n M) (hb : Below w.heap.size w w') : RestIs w' b n M := h.heap (hb.block b h.lt)
set_option maxHeartbeats 4000000 in
set_option maxRecDepth 100000 in
theorem solved_calls (k : Nat) (A0 : Option Addr) (c0 : Nat) (p : List Int) (M2 : PMap) (w : World) (hr : Kd.C (Kd.int .u8) w A0 p.length p) (hc0 : p.length ≤ c0) (hp : p.length ≤ 1000000) (h : solvedF k p = some M2) :
  Calls Tryd.prog 31 #[.slice A0 p.length c0] w fun e w' => ∃ g b n, e = .returned (.pointer (some ⟨g, 0, none⟩)) ∧ IsS65 w w' g p (some b) ∧ Below w.heap.size w w' ∧ RestIs w' b n M2 ∧ w.heap.size ≤ b := by
 have HR := am hr
 have HF := am h
 clear hr h
 obtain ⟨c1, rfl⟩ := Nat.exists_eq_add_of_le hc0
 have hmk : ∀ W : World, (Instr.makeMap 63 none).run Tryd.prog W = .ok (.map (some W.heap.size)) (W.alloc (.map #[] 0)) := fun W => rfl
 go_enter Tryd.func31, Tryd.ntmps31
 go_wp2
 have hb1 := below_alloc (Below.refl w.heap.size w) (.map #[] 0)
 have HM0 := am (RestIs.below (RestIs.made w) (below_alloc (Below.refl _ _) (.cells #[.slice A0 p.length (p.length + c1), .map (some w.heap.size)] 65 (0, 0))))
 have HI0 := am (IsS65.new w (w.alloc (.map #[] 0)) A0 c1 p (some w.heap.size) hb1 HR.out)
 have HB0 := am (below_alloc hb1 (.cells #[.slice A0 p.length (p.length + c1), .map (some w.heap.size)] 65 (0, 0)))
 have hsz : (w.alloc (.map #[] 0)).heap.size = w.heap.size + 1 := by
  show (w.heap.push _).size = _
  simp
 rw [hsz] at HI0
 generalize (w.alloc (.map #[] 0)).alloc (.cells #[.slice A0 p.length (p.length + c1), .map (some w.heap.size)] 65 (0, 0)) = W1 at HM0 HI0 HB0 ⊢
 have Hb := am (Nat.le_refl w.heap.size)
 clear hb1 hsz hmk
 have hHF := HF.out
 unfold solvedF at hHF
 have HF2 := am hHF
 clear hHF HF
 go_loopg [4] (p.length + 1) (fun gg v4 wr => ∃ (j : Nat) (M : PMap), v4 = .int .i64 ((j : Int) - 1) ∧ j ≤ p.length + 1 ∧ j ≤ gg ∧ Aside0 (solvedR k p j M = some M2) ∧ Aside0 (IsS65 w wr (w.heap.size + 1) p (some w.heap.size)) ∧ Aside0 (Below w.heap.size w wr) ∧ Aside0 (RestIs wr w.heap.size (100000000000 * (p.length + 1 - j)) M))
 case atStart => exact ⟨p.length + 1, [], by go_num, Nat.le_refl _, Nat.le_refl _, HF2, HI0, HB0, ⟨HM0.out.mono (Nat.zero_le _)⟩⟩
 case round =>
  clear HI0 HB0 HM0 HF2
  obtain ⟨j, M, rfl, hj, hg, HF, HI, HB, HM⟩ := hrel
  cases j with
  | zero =>
   have hM : M = M2 := Option.some.inj HF.out
   subst hM
   go_wp2
   refine bodyPost_ret (results_tmp rfl _ _ _) rfl ?_
   exact ⟨w.heap.size + 1, w.heap.size, _, rfl, HI.out, HB.out, HM.out, Hb.out⟩
  | succ j =>
   obtain ⟨M1, hs, hR⟩ := Option.bind_eq_some_iff.1 HF.out
   have Hs := am hs
   have HR2 := am hR
   clear hs hR HF
   have hj0 : (0 : Int) ≤ ((j + 1 : Nat) : Int) - 1 := by omega
   have hje : ((j + 1 : Nat) : Int) - 1 = (j : Int) := by omega
   rw [hje] at hj0 ⊢
   have hn : 100000000000 * (p.length + 1 - (j + 1)) ≤ 9000000000000000000 := by omega
   go_wp2_with ((with_reducible refine gate_callee (f := 55) rfl ?_); refine gL (some 17) Tryd.func55 #[.pointer (some ⟨w.heap.size + 1, 0, none⟩), .int .i64 (j : Int)] (h := ?_); (with_reducible refine (solve_any k (w.heap.size + 1) w.heap.size _ p (j : Int) M M1 w _ HI.out HB.out HM.out Hb.out hn hp Hs.out).mono ?_); rintro e w2 ⟨rfl, hi, hb, hm⟩; refine ⟨_, rfl, ?_⟩; have HI2 := am hi; have HB2 := am hb; have HM2 := am hm; clear hi hb hm)
   go_roundg j
   case measure => omega
   case rel => exact ⟨j, M1, by go_num, by omega, by omega, HR2, HI2, HB2, ⟨HM2.out.mono (by omega)⟩⟩
def stacktext_Length.f (k : Nat) (a0 : List Int) : Option (Int × Int) := if (a0.length : Int) > 4096 then some (0, 4) else (solvedF k a0).map (fun M => (pget M (0, 0, -1), 0))
set_option maxRecDepth 100000 in
theorem stacktext_Length.calls (k : Nat) (A0 : Option Addr) (c0 : Nat) (l0 : List Int) (r1 : Int) (r2 : Int) (w : World) (hr0 : Kd.C (Kd.int .u8) w A0 l0.length l0) (hc0 : l0.length ≤ c0) (h : stacktext_Length.f k l0 = some (r1, r2)) :
  Calls Tryd.prog 18 #[.slice A0 l0.length c0] w fun e w' => e = .returned (.tuple #[.int .i64 r1, .int .i64 r2]) ∧ Below w.heap.size w w' := by
 have HR := am hr0
 unfold stacktext_Length.f at h
 by_cases hl : (l0.length : Int) > 4096
 ·rw [if_pos hl] at h
  cases h
  go_enter Tryd.func18, Tryd.ntmps18
  go_wp2
  refine bodyPost_ret (results_tmp2 rfl _ _ _) rfl ?_
  exact ⟨rfl, Below.refl _ _⟩
 ·rw [if_neg hl] at h
  obtain ⟨M, hM, he⟩ := Option.map_eq_some_iff.1 h
  cases he
  have HF := am hM
  clear h hM hr0
  go_enter Tryd.func18, Tryd.ntmps18
  go_wp2_with ((with_reducible refine gate_callee (f := 31) rfl ?_); refine gL (some 8) Tryd.func31 #[.slice A0 l0.length c0] (h := ?_); (with_reducible refine (solved_calls k A0 c0 l0 M _ HR.out hc0 (by omega) HF.out).mono ?_); rintro e w2 ⟨g, b, n, rfl, hi, hb, hm, hb0⟩; refine ⟨_, rfl, ?_⟩; have HI2 := am hi; have HB2 := am hb; have hcell := IsS65.cell1 hi; obtain ⟨hl1, hl2⟩ := RestIs.look (s := (0, 0, -1)) hm ⟨rfl, rfl, rfl⟩; have HXl : (Instr.lookup 63 (.map (some b)) (.agg #[.int .i64 0, .int .i64 0, .int .i64 (-1)]) false).run Tryd.prog w2 = .ok (.int .i64 (pget M (0, 0, -1))) w2 := hl1; clear hi hb hm hb0 hl1 hl2)
  refine bodyPost_ret (results_tmp2 rfl _ _ _) rfl ?_
  exact ⟨rfl, HB2.out⟩
end Go.Proofs.YtoadabodhdgdjaaDoor.St
