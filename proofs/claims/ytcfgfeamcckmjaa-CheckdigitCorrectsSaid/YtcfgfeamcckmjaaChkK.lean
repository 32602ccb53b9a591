/-
  Checkdigit, part K: the closure of Corrections.
-/
import Derived.Test.YtcfgfeamcckmjaaChkJ
import Derived.OneCell
namespace Go.Proofs.Ytcfgfeamcckmjaa.Chk
open Go.RowKit Go.Proofs.YtcfgfeamcckmjaaW.PrintWords Go.Proofs.YtcfgfeamcckmjaaW.PrintLast Go.Proofs.YtcfgfeamcckmjaaW.PrintMore
set_option linter.unusedVariables false
set_option linter.unusedSimpArgs false

theorem info_str : (Try.prog.info? 9).map (fun i => (i.zero, i.size, i.bytes)) = some (some (.string ByteArray.empty), 1, 16) := by kernel_rfl

/-- What holds between the calls of the closure: the captured cells, and the row that has been collected. -/
structure CInv (w0 : World) (bk bs bo : Nat) (k : Int) (s : ByteArray) (xs : List ByteArray) (W : World) : Prop where
  below : Below w0.heap.size w0 W
  hk : W.cell? ⟨bk, 0, none⟩ = some (.int .i64 k)
  hs : W.cell? ⟨bs, 0, none⟩ = some (.string s)
  ho : ∃ v, W.heap[bo]? = some (.cells #[v] 31 (0, 0)) ∧ Kd.R Kd.string 9 W (bo + 1) (fun _ => True) v xs
  lt : bk < bo ∧ bs < bo ∧ bo < W.heap.size ∧ w0.heap.size ≤ bo
theorem CInv.grow {w0 : World} {bk bs bo : Nat} {k : Int} {s : ByteArray} {xs : List ByteArray} {W W1 : World} (h : CInv w0 bk bs bo k s xs W) (hb : Below W.heap.size W W1) : CInv w0 bk bs bo k s xs W1 := by
  have hlt := h.lt
  refine ⟨bthen h.below hb, ?_, ?_, ?_, hlt.1, hlt.2.1, by have := hb.size; omega, hlt.2.2.2⟩
  · rw [hb.cell (p := ⟨bk, 0, none⟩) (show bk < _ by omega)]; exact h.hk
  · rw [hb.cell (p := ⟨bs, 0, none⟩) (show bs < _ by omega)]; exact h.hs
  · obtain ⟨v, h1, h2⟩ := h.ho
    exact ⟨v, (hb.block bo hlt.2.2.1).trans h1, Kd.R_below h2 hb⟩

/-- The row has grown and is stored back. -/
theorem CInv.put {w0 : World} {bk bs bo : Nat} {k : Int} {s : ByteArray} {xs ys : List ByteArray} {W1 W2 : World} {v v2 : Value} (g : CInv w0 bk bs bo k s xs W1) (hb2 : Below (bo + 1) W1 W2) (hv1 : W1.heap[bo]? = some (.cells #[v] 31 (0, 0)))
    (ho2 : Kd.R Kd.string 9 W2 (bo + 1) (fun _ => True) v2 ys) : CInv w0 bk bs bo k s ys (W2.setCell ⟨bo, 0, none⟩ v2) := by
  have hlt := g.lt
  have hsz := hb2.size
  have hv2 : W2.heap[bo]? = some (.cells #[v] 31 (0, 0)) := (hb2.block bo (by omega)).trans hv1
  refine ⟨(g.below.trans (hb2.mono (by omega))).setCell (by exact hlt.2.2.2) _, ?_, ?_, ⟨v2, one_setCell hv2, ?_⟩, hlt.1, hlt.2.1, ?_, hlt.2.2.2⟩
  · rw [World.cell?_of_block (w := W2) (Below.heap_setCell W2 ⟨bo, 0, none⟩ v2 bk (by show bk ≠ bo; omega)), hb2.cell (p := ⟨bk, 0, none⟩) (by show bk < _; omega)]
    exact g.hk
  · rw [World.cell?_of_block (w := W2) (Below.heap_setCell W2 ⟨bo, 0, none⟩ v2 bs (by show bs ≠ bo; omega)), hb2.cell (p := ⟨bs, 0, none⟩) (by show bs < _; omega)]
    exact g.hs
  · exact Kd.R_mono (Kd.R_far (p := ⟨bo, 0, none⟩) (Kd.R_bound ho2) (fun b hb => by have := hb.2.1; show b ≠ bo; omega) v2) (fun _ _ => trivial)
  · have h1 := lt_of_block (one_setCell (u := v2) hv2)
    exact h1

set_option maxHeartbeats 1000000 in
set_option maxRecDepth 20000 in
theorem try_any (w0 : World) (bk bs bo : Nat) (k : Int) (s t : ByteArray) (xs : List ByteArray) (W : World) (h : CInv w0 bk bs bo k s xs W) (ht : t.size ≤ 9223372036854775807) (hx : xs.length ≤ 1000000) :
    Calls Try.prog 44 #[.string t, .pointer (some ⟨bs, 0, none⟩), .pointer (some ⟨bk, 0, none⟩), .pointer (some ⟨bo, 0, none⟩)] W fun e W' => e = .returned (.tuple #[]) ∧ CInv w0 bk bs bo k s (xs ++ if t ≠ s ∧ verifyS k t = 0 then [t] else []) W' := by
  have hk := h.hk
  have hs := h.hs
  by_cases h1 : t = s
  · rw [if_neg (fun c => c.1 h1), List.append_nil]
    have hb := toList_eq t s h1
    clear h1
    go_enter Try.func44, Try.ntmps44
    go_wp2
    go_end0
    exact ⟨rfl, h⟩
  have hb := toList_ne t s h1
  by_cases h2 : verifyS k t = 0
  · rw [if_pos ⟨h1, h2⟩]
    have hf : checkdigit_Verify.f k t = some 0 := by unfold checkdigit_Verify.f; rw [if_pos ht, h2]
    clear h1 h2
    go_enter Try.func44, Try.ntmps44
    go_wp2_with (first | (go_at_call 13; refine (checkdigit_Verify.calls k t 0 _ hf).mono ?_; rintro e W1 ⟨rfl, hb1⟩; have g := h.grow hb1; clear hb1; obtain ⟨v, hv1, hv2⟩ := g.ho; have hcell := cell_of_one hv1; have hfree := free_of_one hv1; have hlt := g.lt.2.2.1; have HV1 := Lib.hid hv1; clear hv1) | ((with_reducible refine gate_builtin (b := .append) (xs := #[.tmp 14, .tmp 16]) rfl ?_); at_builtin; refine Kd.R_append Kd.string (w0 := W1) (bo + 1) rfl (.tmp 14) (.tmp 16) 31 9 (.string ByteArray.empty) 16 rfl Try.underlying31 info_str rfl (by decide) (by omega) v xs t [.string t] (fun _ => True) (fun _ => False) rfl rfl ?aP (fun _ hk => hk.elim) ?aF ?aO ?aB ?aS ?aL ?_; (case aP => exact rfl); (case aF => exact (fun _ _ => trivial)); (case aO => exact hv2); (case aB => exact Below.refl _ _); (case aS => omega); (case aL => omega); intro v2 W2 ho2 hb2 hg2 hat2; clear hg2 hat2; obtain ⟨A2, c2, rfl⟩ := Kd.R_slice ho2; have hcell2 := (hb2.cell (p := ⟨bo, 0, none⟩) (Nat.lt_succ_self bo)).trans hcell; have hfree2 := (hb2.frozen (p := ⟨bo, 0, none⟩) (Nat.lt_succ_self bo)).trans hfree; clear hcell hfree))
    go_end0
    rw [show (xs ++ [t]).length = xs.length + 1 by simp] at ho2
    exact ⟨rfl, g.put hb2 (HV1.out) ho2⟩
  · rw [if_neg (fun c => h2 c.2), List.append_nil]
    have hf : checkdigit_Verify.f k t = some (verifyS k t) := by unfold checkdigit_Verify.f; rw [if_pos ht]
    have h2b : (verifyS k t == 0) = false := beq_eq_false_iff_ne.mpr h2
    clear h1 h2
    go_enter Try.func44, Try.ntmps44
    go_wp2_with (first | (go_at_call 13; refine (checkdigit_Verify.calls k t _ _ hf).mono ?_; rintro e W1 ⟨rfl, hb1⟩))
    go_end0
    exact ⟨rfl, h.grow hb1⟩
end Go.Proofs.Ytcfgfeamcckmjaa.Chk
