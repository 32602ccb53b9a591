import Derived.Test.YtoadabodhdgdjaaDoorQSM4
import Derived.Maps.OwnOps
import Derived.Maps.Views
import Derived.DeepKeys4
namespace Go.Proofs.YtoadabodhdgdjaaDoor.St
open Go.RowKit Go.Maps Go.Proofs.YtoadabodhdgdjaaDoorW.PrintWords Go.Proofs.YtoadabodhdgdjaaDoorW.PrintLast Go.Proofs.YtoadabodhdgdjaaDoorW.PrintMore
set_option linter.unusedVariables false
set_option linter.unusedSimpArgs false
abbrev St3 := Int × Int × Int
abbrev PMap := List (St3 × Int)
def pget : PMap → St3 → Int
 | [], _ => 0
 | (q, v) :: t, s => if q = s then v else pget t s
def pput : PMap → St3 → Int → PMap
 | [], s, v => [(s, v)]
 | (q, u) :: t, s, v => if q = s then (q, v) :: t else (q, u) :: pput t s v
theorem pget_pput (M : PMap) (s q : St3) (v : Int) : pget (pput M s v) q = if s = q then v else pget M q := by
 induction M with
 | nil => rfl
 | cons x t ih =>
  obtain ⟨a, u⟩ := x
  unfold pput
  by_cases h : a = s
  ·rw [if_pos h]
   subst h
   by_cases h2 : a = q
   ·simp [pget, h2]
   ·simp [pget, h2]
  ·rw [if_neg h]
   by_cases h2 : a = q
   ·subst h2
    rw [if_neg (fun e => h (Eq.symm e))]
    simp [pget]
   ·simp [pget, h2, ih]
def stV (s : St3) : Value := .agg #[.int .i64 s.1, .int .i64 s.2.1, .int .i64 s.2.2]
def wf3 (s : St3) : Prop := (Lit.int .i64 s.1).wf = true ∧ (Lit.int .i64 s.2.1).wf = true ∧ (Lit.int .i64 s.2.2).wf = true
instance (s : St3) : Decidable (wf3 s) := by unfold wf3; infer_instance
theorem stLaw : Keyed Tryd.prog 58 := Keyed.of_law (deep_law_laid (by kernel_rfl) (m := 3) (by omega) (of_decide_eq_true (by kernel_rfl)) (by kernel_rfl) (by kernel_rfl))
theorem stKey (s : St3) (h : wf3 s) : ∃ l, keyOf Tryd.prog 58 (stV s) = some l := by
 obtain ⟨a, b, c⟩ := s
 obtain ⟨h1, h2, h3⟩ := h
 replace h1 : (Lit.int .i64 a).wf = true := h1
 replace h2 : (Lit.int .i64 b).wf = true := h2
 replace h3 : (Lit.int .i64 c).wf = true := h3
 have hu := Tryd.underlying58
 have hu2 := Tryd.underlying56
 have hu3 := Tryd.underlying3
 have hc : Tryd.prog.cellsOf 58 = 3 := by kernel_rfl
 have hc2 : Tryd.prog.cellsOf 56 = 2 := by kernel_rfl
 have hc3 : Tryd.prog.cellsOf 3 = 1 := by kernel_rfl
 have hk : Tryd.prog.keyType 58 = true := by kernel_rfl
 have hf : (stV (a, b, c)).formed Tryd.prog 58 = true := by simp [Value.formed, hu, hc, stV]
 have h4 : 4 ≤ Tryd.prog.types.size := of_decide_eq_true (by kernel_rfl)
 obtain ⟨d, hd⟩ : ∃ d, Tryd.prog.types.size + 1 = d + 3 := ⟨Tryd.prog.types.size - 2, by omega⟩
 have hcells : (stV (a, b, c)).cells.toList = [.int .i64 a, .int .i64 b, .int .i64 c] := rfl
 refine ⟨.string (keyBytes [.int .i64 a, .int .i64 b, .int .i64 c]), ?_⟩
 unfold keyOf
 rw [hu]
 simp only [hk, hf, Bool.and_self, if_true]
 rw [hd, hcells]
 simp only [Program.keyLits, hu, hu2, hu3, hc, hc2, hc3, List.length_cons, List.length_nil]
 simp [h1, h2, h3, hu, hu2, hu3, hc2, hc3, Program.keyLits]
 rw [if_pos (by intro i hi; rcases i with _ | _ | i <;> first | omega | simp)]
 rfl
noncomputable def stL (s : St3) : Lit := (keyOf Tryd.prog 58 (stV s)).getD (.bool false)
theorem stL_key {s : St3} (h : wf3 s) : keyOf Tryd.prog 58 (stV s) = some (stL s) := by
 obtain ⟨l, hl⟩ := stKey s h
 unfold stL
 rw [hl]
 rfl
theorem stL_inj {s q : St3} (hs : wf3 s) (hq : wf3 q) (h : stL s = stL q) : s = q := by
 have h1 := stL_key hs
 have h2 := stL_key hq
 rw [h] at h1
 have := stLaw.inj h1 h2
 obtain ⟨a, b, c⟩ := s
 obtain ⟨a', b', c'⟩ := q
 simpa [stV] using this
def RestIs (w : World) (b n : Nat) (M : PMap) : Prop :=
 ∃ D : DataW Unit, w.ownsMap Tryd.prog 58 (plainElem Tryd.prog 3) b n D ∧ ∀ s, wf3 s → D.atKey (stL s) (.lit (.int .i64 0)) = .lit (.int .i64 (pget M s))
theorem RestIs.made (w : World) : RestIs (w.alloc (.map #[] 0)) w.heap.size 0 [] := ⟨_, World.ownsMap_made _ _ _ _, fun s _ => rfl⟩
theorem RestIs.mono {w : World} {b n n' : Nat} {M : PMap} (h : RestIs w b n M) (hn : n ≤ n') : RestIs w b n' M := by
 obtain ⟨D, h1, h2⟩ := h
 exact ⟨D, h1.mono hn, h2⟩
theorem RestIs.lt {w : World} {b n : Nat} {M : PMap} (h : RestIs w b n M) : b < w.heap.size := by
 obtain ⟨D, h1, _⟩ := h
 exact h1.lt
theorem RestIs.heap {w w' : World} {b n : Nat} {M : PMap} (h : RestIs w b n M) (hb : w'.heap[b]? = w.heap[b]?) : RestIs w' b n M := by
 obtain ⟨D, ⟨es, clock, h0, h1⟩, h2⟩ := h
 exact ⟨D, ⟨es, clock, hb.trans h0, h1⟩, h2⟩
theorem RestIs.isMap {w : World} {b n : Nat} {M : PMap} (h : RestIs w b n M) : ∃ es clock, w.heap[b]? = some (.map es clock) := by
 obtain ⟨D, ⟨es, clock, h0, h1⟩, h2⟩ := h
 exact ⟨es, clock, h0⟩
set_option maxRecDepth 20000 in
theorem RestIs.look {w : World} {b n : Nat} {M : PMap} (h : RestIs w b n M) {s : St3} (hs : wf3 s) :
  (Instr.lookup 63 (.map (some b)) (stV s) false).run Tryd.prog w = .ok (.int .i64 (pget M s)) w ∧ (Lit.int .i64 (pget M s)).wf = true := by
 obtain ⟨D, h1, h2⟩ := h
 obtain ⟨c, hrun, hat, hw⟩ := h1.lookup_int stLaw Tryd.underlying63 Tryd.underlying3 (by kernel_rfl) (stL_key hs)
 rw [h2 s hs] at hat
 have e : pget M s = c := by
  injection hat with hat
  injection hat
 rw [e]
 exact ⟨hrun, hw⟩
set_option maxRecDepth 20000 in
theorem RestIs.store {w : World} {b n : Nat} {M : PMap} (h : RestIs w b n M) (hn : n < maxLen) {s : St3} (hs : wf3 s) {v : Int} (hv : (Lit.int .i64 v).wf = true) :
  ∃ w', (Instr.mapUpdate 63 (.map (some b)) (stV s) (.int .i64 v)).run Tryd.prog w = .ok () w' ∧ RestIs w' b (n + 1) (pput M s v) ∧ w.grownBy w' (some b) := by
 obtain ⟨D, h1, h2⟩ := h
 obtain ⟨w', hrun, hown, hg⟩ := h1.update stLaw Tryd.underlying63 hn (stL_key hs) (plainElem_int Tryd.underlying3 hv)
 refine ⟨w', hrun, ⟨_, hown, fun q hq => ?_⟩, hg⟩
 rw [pget_pput]
 by_cases e : s = q
 ·subst e
  rw [if_pos rfl]
  have hm : IsMap D := by
   obtain ⟨es, clock, h0, F, hsz, rfl⟩ := h1
   exact ⟨_, rfl⟩
  exact atKey_put_same hm (stLaw.key (stL_key hs)) _ _
 ·rw [if_neg e, atKey_put_other (fun e2 => e (stL_inj hs hq e2.symm))]
  exact h2 q hq
end Go.Proofs.YtoadabodhdgdjaaDoor.St
