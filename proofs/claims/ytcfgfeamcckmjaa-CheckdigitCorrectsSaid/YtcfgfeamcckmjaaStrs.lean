/-
  Sorting and compacting a row of strings of the call's own: the shelf's contracts in the words of the print.
-/
import Derived.Test.YtcfgfeamcckmjaaShelf
import Derived.Test.YtcfgfeamcckmjaaWMore
import Derived.Sort.OwnSorted
import Derived.OneCell
namespace Go.Proofs.Ytcfgfeamcckmjaa.Strs
open Go.RowKit Go.Sort Go.Proofs.YtcfgfeamcckmjaaW.PrintWords Go.Proofs.YtcfgfeamcckmjaaW.PrintLast Go.Proofs.YtcfgfeamcckmjaaW.PrintMore
set_option linter.unusedVariables false
set_option linter.unusedSimpArgs false

def bsOf (xs : List ByteArray) : List (List UInt8) := xs.map fun x => x.data.toList
def toB (ss : List (List UInt8)) : List ByteArray := ss.map fun l => ⟨l.toArray⟩
theorem bs_toB (ss : List (List UInt8)) : bsOf (toB ss) = ss := by
  unfold bsOf toB
  rw [List.map_map]
  exact List.map_id'' (fun l => rfl) ss
theorem toB_bs (xs : List ByteArray) : toB (bsOf xs) = xs := by
  unfold bsOf toB
  rw [List.map_map]
  exact List.map_id'' (fun l => rfl) xs
theorem encs_bs (xs : List ByteArray) : encs Value.string xs = (bsOf xs).map encStr := by
  unfold encs bsOf
  rw [List.map_map]
  rfl
/-- The strings in ascending order; without equal neighbours. -/
def sortB (xs : List ByteArray) : List ByteArray := toB ((bsOf xs).mergeSort fun x y => decide (x ≤ y))
def compB (xs : List ByteArray) : List ByteArray := toB (Lib.compact (bsOf xs))

theorem sort_R (W : World) (base : Nat) (v : Value) (xs : List ByteArray) (hR : Kd.R Kd.string 9 W base (fun _ => True) v xs) (hb : base ≤ W.heap.size) (hl : xs.length ≤ 1000000) :
    Calls Try.prog 45 #[v] W fun e w' => e = .returned (.tuple #[]) ∧ Kd.R Kd.string 9 w' base (fun _ => True) v (sortB xs) ∧ Below base W w' := by
  have hown : W.ownsRow base 9 1 v xs.length (encs Value.string xs) := Kd.own_of_R hR
  rcases hown.2 with ⟨rfl, h0⟩ | ⟨g, cap, cur, rfl, hbase, hblk, h1, h2, h3, h4⟩
  · have hx : xs = [] := List.eq_nil_of_length_eq_zero h0
    subst hx
    refine (Try.slices_Sort_string_none none 0 W).mono ?_
    rintro e w' ⟨rfl, rfl⟩
    exact ⟨rfl, by simpa [sortB, bsOf, toB] using hR, Below.refl _ _⟩
  · rw [encs_bs] at h4
    have hlen : (bsOf xs).length = xs.length := by simp [bsOf]
    have hH : Holds encStr W g 0 (bsOf xs).toArray := holds_of_block hblk (by rw [hlen]; simpa using h4)
    have hc := Try.slices_Sort_string g 0 cap (bsOf xs) W hH (Array.getElem?_eq_some_iff.1 hblk).1 (by rw [hlen]; omega)
    rw [hlen] at hc
    refine hc.mono ?_
    rintro e w' ⟨rfl, n, os, rfl⟩
    refine ⟨rfl, ?_, ?_⟩
    · have ho := ownsRow_sorted (os := os) (n := n) (ts := (bsOf xs).mergeSort fun x y => decide (x ≤ y)) (ss := bsOf xs) (by simp) hbase hblk (by rw [hlen]; exact h1) h2 h3
      rw [hlen] at ho
      refine Kd.R_of_own (xs := sortB xs) (h1 := fun _ => rfl) ?_ (fun _ _ => trivial)
      rw [encs_bs, sortB, bs_toB]
      have e1 : (toB ((bsOf xs).mergeSort fun x y => decide (x ≤ y))).length = xs.length := by simp [toB, bsOf]
      rw [e1]
      exact ho
    · exact Below.grown (Below.refl _ _) (grownBy_sorted _) hb (fun j hj => by cases hj; exact hbase)

theorem ownsRow_cut {w : World} {base g cap n q : Nat} {e : TypeId} {cur : Array Value} {zs ts : List (List UInt8)} (hl : ts.length ≤ zs.length) (hbase : base ≤ g) (hb : w.heap[g]? = some (.cells cur e (0, 0)))
    (h1 : zs.length ≤ cap) (h2 : cap ≤ maxLen) (h3 : cur.size = cap * 1) (hpos : 0 < zs.length) :
    (putRow encStr (Sort.ahead w q) g 0 (ts ++ List.replicate (zs.length - ts.length) []).toArray).ownsRow base e 1 (.slice (some ⟨g, 0, none⟩) ts.length cap) ts.length (ts.map encStr) := by
  have hh := heap_sorted (os := #[]) (n := q) (ts ++ List.replicate (zs.length - ts.length) []).toArray hb
  rw [grow_empty] at hh
  refine ⟨by simp, .inr ⟨g, cap, _, rfl, hbase, hh, by omega, h2, by simp [putCells, h3], ?_⟩⟩
  have ht := take_putCells cur (ts ++ List.replicate (zs.length - ts.length) []) (by simp; omega)
  have := congrArg (List.take ts.length) ht
  rw [List.take_take, List.map_append, List.take_append_of_le_length (by simp), List.take_of_length_le (show (ts.map encStr).length ≤ ts.length by simp)] at this
  rw [Nat.mul_one, ← this]
  congr 1
  simp

theorem compact_len (ss : List (List UInt8)) : (Lib.compact ss).length ≤ ss.length := Lib.compact_length_le ss

theorem compact_R (W : World) (base : Nat) (v : Value) (xs : List ByteArray) (hR : Kd.R Kd.string 9 W base (fun _ => True) v xs) (hb : base ≤ W.heap.size) (hl : xs.length ≤ 1000000) :
    Calls Try.prog 46 #[v] W fun e w' => ∃ v', e = .returned v' ∧ Kd.R Kd.string 9 w' base (fun _ => True) v' (compB xs) ∧ Below base W w' := by
  have hown : W.ownsRow base 9 1 v xs.length (encs Value.string xs) := Kd.own_of_R hR
  by_cases h0 : xs.length = 0
  · have hx : xs = [] := List.eq_nil_of_length_eq_zero h0
    subst hx
    obtain ⟨A, c, hv⟩ := Kd.R_slice hR
    subst hv
    refine (Try.slices_Compact_string_empty A c W).mono ?_
    rintro e w' ⟨rfl, rfl⟩
    exact ⟨_, rfl, hR, Below.refl _ _⟩
  rcases hown.2 with ⟨rfl, h0'⟩ | ⟨g, cap, cur, rfl, hbase, hblk, h1, h2, h3, h4⟩
  · exact absurd h0' h0
  · rw [encs_bs] at h4
    have hlen : (bsOf xs).length = xs.length := by simp [bsOf]
    have hH : Holds encStr W g 0 (bsOf xs).toArray := holds_of_block hblk (by rw [hlen]; simpa using h4)
    have hc := Try.slices_Compact_string g 0 cap (bsOf xs) W hH (by rw [hlen]; omega) (by rw [hlen]; exact h1)
    rw [hlen] at hc
    refine hc.mono ?_
    rintro e w' ⟨rfl, q, rfl⟩
    refine ⟨_, rfl, ?_, ?_⟩
    · have ho := ownsRow_cut (q := q) (n := 0) (zs := bsOf xs) (ts := Lib.compact (bsOf xs)) (compact_len _) hbase hblk (by rw [hlen]; exact h1) h2 h3 (by rw [hlen]; omega)
      rw [hlen] at ho
      refine Kd.R_of_own (xs := compB xs) (h1 := fun _ => rfl) ?_ (fun _ _ => trivial)
      rw [encs_bs, compB, bs_toB]
      have e1 : (toB (Lib.compact (bsOf xs))).length = (Lib.compact (bsOf xs)).length := by simp [toB]
      rw [e1]
      exact ho
    · have hg := grownBy_sorted (w := W) (g := g) (n := q) (os := #[]) (Lib.compact (bsOf xs) ++ List.replicate (xs.length - (Lib.compact (bsOf xs)).length) []).toArray
      rw [grow_empty] at hg
      exact Below.grown (Below.refl _ _) hg hb (fun j hj => by cases hj; exact hbase)
end Go.Proofs.Ytcfgfeamcckmjaa.Strs
