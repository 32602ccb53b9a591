/-
  Checkdigit: the reference's Weighted, walked, and its contract in the print's form.
-/
import Derived.Test.YtcfgfeamcckmjaaChkU
namespace Go.Proofs.Ytcfgfeamcckmjaa.Chk
open Go.RowKit Go.Proofs.YtcfgfeamcckmjaaW.PrintWords Go.Proofs.YtcfgfeamcckmjaaW.PrintLast Go.Proofs.YtcfgfeamcckmjaaW.PrintMore
set_option linter.unusedVariables false
set_option linter.unusedSimpArgs false

theorem drawn_cell {w w' : World} (h : Drawn0 w w') {a : Addr} {v : Value} (hc : w.cell? a = some v) : w'.cell? a = some v := by
  obtain ⟨n, rfl⟩ := h.out
  exact hc
theorem drawn_one (w : World) : Drawn0 w w.drew := ⟨⟨1, rfl⟩⟩
theorem drawn_then {a b c : World} (h : Drawn0 a b) (g : Drawn0 b c) : Drawn0 a c := by
  obtain ⟨n, rfl⟩ := h.out
  obtain ⟨m, rfl⟩ := g.out
  exact (Drawn0.refl a).step n |>.step m
/-- The step of the reference: all numbers are taken from 0 to m-1. -/
def wR (ws : List Int) (m : Int) (i : Nat) (a d : Int) : Int := (a + d * (((ws.getD (i % ws.length) 0).tmod m + m) % m)) % m
theorem tmod_emod (x m : Int) (hm : 1 ≤ m) : x.tmod m % m = x % m := by
  have h := Int.mul_tdiv_add_tmod x m
  conv => rhs; rw [← h]
  rw [Int.add_comm, Int.add_mul_emod_self_left]
theorem wR_wF (ws : List Int) (m : Int) (hm : 1 ≤ m) : ∀ (l : List Int) (i : Nat) (a b : Int), a % m = b % m → foldi (wF ws m) i a l % m = foldi (wR ws m) i b l % m
  | [], i, a, b, h => h
  | d :: l, i, a, b, h => by
    refine wR_wF ws m hm l (i + 1) _ _ ?_
    unfold wF wR
    rw [tmod_emod _ m hm, Int.emod_emod_of_dvd _ (Int.dvd_refl m), Int.add_emod, h, ← Int.add_emod]
    rw [Int.add_emod, Int.add_emod b]
    congr 2
    rw [Int.mul_comm, Int.mul_emod, Int.mul_emod d, Int.emod_emod_of_dvd _ (Int.dvd_refl m), Int.add_emod_right]
theorem wR_bd (ws : List Int) (m : Int) (hm : 1 ≤ m) : ∀ (l : List Int) (i : Nat) (b : Int), 0 ≤ b ∧ b < m → 0 ≤ foldi (wR ws m) i b l ∧ foldi (wR ws m) i b l < m
  | [], i, b, h => h
  | d :: l, i, b, h => wR_bd ws m hm l (i + 1) _ ⟨Int.emod_nonneg _ (by omega), Int.emod_lt_of_pos _ (by omega)⟩
theorem wR_eq (ws : List Int) (m : Int) (hm : 1 ≤ m) (l : List Int) : foldi (wR ws m) 0 0 l = (foldi (wF ws m) 0 0 l + m) % m := by
  have h := wR_wF ws m hm l 0 0 0 rfl
  have b := wR_bd ws m hm l 0 0 ⟨Int.le_refl _, by omega⟩
  rw [Int.add_emod_right, h, Int.emod_eq_of_lt b.1 b.2]

set_option maxHeartbeats 1000000 in
set_option maxRecDepth 20000 in
theorem refweigh_early (s : ByteArray) (A : Option Addr) (n c : Nat) (m : Int) (w : World) (hm : s.size ≤ 9223372036854775807) (hn : n ≤ 9223372036854775807) (h : m < 1 ∨ 65536 < m ∨ n = 0 ∨ 4096 < s.size) :
    Calls Try.prog 16 #[.string s, .slice A n c, .int .i64 m] w fun e w' => e = .returned (.tuple #[.int .i64 0, .int .i64 (if m < 1 ∨ 65536 < m then 3 else if n = 0 then 5 else 4)]) ∧ Drawn0 w w' := by
  by_cases h1 : m < 1
  · rw [if_pos (.inl h1)]; clear h
    go_enter Try.func16, Try.ntmps16
    go_wp2
    go_ret2
    exact ⟨rfl, Drawn0.refl _⟩
  by_cases h2 : 65536 < m
  · rw [if_pos (.inr h2)]; clear h
    go_enter Try.func16, Try.ntmps16
    go_wp2
    go_ret2
    exact ⟨rfl, Drawn0.refl _⟩
  rw [if_neg (fun h => h.elim h1 h2)]
  by_cases h3 : n = 0
  · rw [if_pos h3]; clear h
    subst h3
    go_enter Try.func16, Try.ntmps16
    go_wp2
    go_ret2
    exact ⟨rfl, Drawn0.refl _⟩
  rw [if_neg h3]
  have h3b : ((n : Int) == 0) = false := beq_eq_false_iff_ne.mpr (by omega)
  have h4 : 4096 < s.size := by rcases h with h | h | h | h <;> first | exact h | (exfalso; omega)
  clear h h3
  go_enter Try.func16, Try.ntmps16
  go_wp2
  go_ret2
  exact ⟨rfl, Drawn0.refl _⟩

def digB (s : ByteArray) (j : Nat) : Prop := 48 ≤ (s.data.toList.getD (s.size - 1 - j) 0).toNat ∧ (s.data.toList.getD (s.size - 1 - j) 0).toNat ≤ 57
theorem getD_at (s : ByteArray) (i : Nat) (h : i < s.size) : s.data.toList.getD i 0 = s[i] := by
  rw [List.getD_eq_getElem?_getD, List.getElem?_eq_getElem (by simpa using h), Option.getD_some]
  rfl
theorem rvals_getb (s : ByteArray) (k : Nat) (hk : k < s.size) : (rvals s).getD k 0 = dg (s[s.size - 1 - k]'(by omega)) := by
  rw [List.getD_eq_getElem?_getD, List.getElem?_eq_getElem (by rw [rvals_len]; exact hk), Option.getD_some]
  unfold rvals
  rw [List.getElem_reverse]
  have e : (vals s).length - 1 - k = s.size - 1 - k := by rw [vals_len]
  have := vals_at s (s.size - 1 - k) (by omega)
  rw [← this]
  congr 1
theorem digit_f (c : UInt8) : PB.barscanref09_digit.f (c.toNat : Int) = some (decide (48 ≤ c.toNat ∧ c.toNat ≤ 57)) := by
  unfold PB.barscanref09_digit.f
  by_cases a : (c.toNat : Int) ≥ 48
  · rw [if_pos a]
    congr 1
    exact decide_eq_decide.2 (by omega)
  · rw [if_neg a]
    exact congrArg some (decide_eq_false (by omega)).symm

theorem refvalue_any (s : ByteArray) (k : Nat) (hs : s.size ≤ 4096) (hk : k < s.size) (hdg : 48 ≤ (s[s.size - 1 - k]'(by omega)).toNat ∧ (s[s.size - 1 - k]'(by omega)).toNat ≤ 57) : PB.barscanref09_value.f s (k : Int) = some ((rvals s).getD k 0) := by
  unfold PB.barscanref09_value.f
  have e1 : wrap64 (wrap64 ((s.size : Int) - 1) - (k : Int)) = ((s.size - 1 - k : Nat) : Int) := by
    rw [w64_in ((s.size : Int) - 1) (by omega) (by omega), w64_in _ (by omega) (by omega)]; omega
  rw [e1, if_pos (by omega), if_pos (by omega), bt_nat s _ (by omega), rvals_getb s k hk]
  congr 1
  unfold dg; omega
theorem prod_bd (d y : Int) (hd : 0 ≤ d ∧ d ≤ 9) (hy : 0 ≤ y ∧ y < 65536) : 0 ≤ d * y ∧ d * y ≤ 1000000 := by
  rcases (by omega : d = 0 ∨ d = 1 ∨ d = 2 ∨ d = 3 ∨ d = 4 ∨ d = 5 ∨ d = 6 ∨ d = 7 ∨ d = 8 ∨ d = 9) with rfl | rfl | rfl | rfl | rfl | rfl | rfl | rfl | rfl | rfl <;> omega
theorem wval (a d x m : Int) (hm : 1 ≤ m ∧ m ≤ 65536) (ha : 0 ≤ a ∧ a < m) (hd : 0 ≤ d ∧ d ≤ 9) (hx : -m < x.tmod m ∧ x.tmod m < m) : (wrap64 (a + wrap64 (d * (wrap64 (x.tmod m + m)).tmod m))).tmod m = (a + d * ((x.tmod m + m) % m)) % m := by
  have b : 0 ≤ (x.tmod m + m) % m ∧ (x.tmod m + m) % m < m := ⟨Int.emod_nonneg _ (by omega), Int.emod_lt_of_pos _ (by omega)⟩
  have c := prod_bd d ((x.tmod m + m) % m) hd ⟨b.1, by omega⟩
  rw [w64_in (x.tmod m + m) (by omega) (by omega), Int.tmod_eq_emod_of_nonneg (show 0 ≤ x.tmod m + m by omega), w64_in (d * _) (by omega) (by omega), w64_in (a + _) (by omega) (by omega), Int.tmod_eq_emod_of_nonneg (by omega)]
theorem within_of_digs (s : ByteArray) (h : Digs s) : withinB s alpha10 = true := by
  unfold withinB
  rw [List.all_eq_true]
  intro b hb
  obtain ⟨i, hi, rfl⟩ := List.getElem_of_mem hb
  have := h i (by simpa using hi)
  rw [dig_contains]
  have e : s.data.toList[i] = s[i]'(by simpa using hi) := rfl
  rw [e, if_pos (by omega)]
  exact decide_eq_true (by omega)

set_option maxHeartbeats 2000000 in
set_option maxRecDepth 20000 in
theorem refweigh_main (s : ByteArray) (ad : Addr) (ws : List Int) (c : Nat) (m : Int) (w : World) (h1 : 1 ≤ m) (h2 : m ≤ 65536) (hn : 0 < ws.length) (hn2 : ws.length ≤ 9223372036854775807) (h4 : s.size ≤ 4096)
    (hws : ∀ j, j < ws.length → w.cell? (ad.add j) = some (.int .i64 (ws.getD j 0))) (r : Int × Int) (hr : r = if withinB s alpha10 = true then (foldi (wR ws m) 0 0 (rvals s), 0) else (0, 6)) :
    Calls Try.prog 16 #[.string s, .slice (some ad) ws.length c, .int .i64 m] w fun e w' => e = .returned (.tuple #[.int .i64 r.1, .int .i64 r.2]) ∧ Drawn0 w w' := by
  have h3b : ((ws.length : Int) == 0) = false := beq_eq_false_iff_ne.mpr (by omega)
  have HW := Lib.hid hws; clear hws
  have HR := Lib.hid hr; clear hr
  go_enter Try.func16, Try.ntmps16
  go_wp2
  go_loopw [8, 9] (fun p i wr => ∃ k : Nat, k ≤ s.size ∧ i = .int .i64 k ∧ p = .int .i64 (foldi (wR ws m) 0 0 ((rvals s).take k)) ∧ (∀ j, j < k → digB s j) ∧ Drawn0 w wr) (fun _ i _ => s.size - (intOf i).toNat)
  case atStart => exact ⟨0, Nat.zero_le _, rfl, rfl, fun j hj => absurd hj (Nat.not_lt_zero j), Drawn0.refl _⟩
  case round =>
    obtain ⟨k, hk, rfl, rfl, hdig, hB⟩ := hrel
    have HD := Lib.hid hdig; clear hdig
    have hp := wR_bd ws m h1 ((rvals s).take k) 0 0 ⟨Int.le_refl _, by omega⟩
    by_cases hlt : k < s.size
    · have hi0 : ((s.size : Int) - 1 - k).toNat = s.size - 1 - k := by omega
      have hi1 : 0 ≤ (s.size : Int) - 1 - k := by omega
      have hi2 : (s.size : Int) - 1 - k < s.size := by omega
      have hdf := digit_f (s[s.size - 1 - k]'(by omega))
      have HDF := Lib.hid hdf; clear hdf
      by_cases hdg : 48 ≤ (s[s.size - 1 - k]'(by omega)).toNat ∧ (s[s.size - 1 - k]'(by omega)).toNat ≤ 57
      · have hdt : PB.barscanref09_digit.f ((s[s.size - 1 - k]'(by omega)).toNat : Int) = some true := HDF.out.trans (congrArg some (decide_eq_true hdg))
        have HDT := Lib.hid hdt; clear hdt
        have hv : PB.barscanref09_value.f s (k : Int) = some ((rvals s).getD k 0) := refvalue_any s k h4 hlt hdg
        have hd : 0 ≤ (rvals s).getD k 0 ∧ (rvals s).getD k 0 ≤ 9 := by rw [rvals_getb s k hlt]; unfold dg; omega
        have hsn := rvals_snoc (wR ws m) 0 s k hlt
        have HS := Lib.hid hsn; clear hsn
        have hmod : k % ws.length < ws.length := Nat.mod_lt _ hn
        have hwc := drawn_cell hB (HW.out (k % ws.length) hmod)
        have htm := tmod_bd (ws.getD (k % ws.length) 0) m h1
        generalize hdv : (rvals s).getD k 0 = d at hd hv
        have HVF := Lib.hid hv; clear hv
        have HV := Lib.hid hdv; clear hdv
        generalize hav : foldi (wR ws m) 0 0 ((rvals s).take k) = a at hp ⊢
        have HA := Lib.hid hav; clear hav
        generalize hxv : ws.getD (k % ws.length) 0 = x at hwc htm
        have HX := Lib.hid hxv; clear hxv
        have hxm : 0 ≤ (x.tmod m + m) % m ∧ (x.tmod m + m) % m < m := ⟨Int.emod_nonneg _ (by omega), Int.emod_lt_of_pos _ (by omega)⟩
        have hxp := prod_bd d ((x.tmod m + m) % m) hd (by omega)
        have hq : (k : Int).tmod (ws.length : Int) = (k : Int) % (ws.length : Int) := Int.tmod_eq_emod_of_nonneg (by omega)
        have htn : ((k : Int).tmod (ws.length : Int)).toNat = k % ws.length := by rw [hq]; omega
        have htp : 0 ≤ (k : Int).tmod (ws.length : Int) := by rw [hq]; omega
        have htl : (k : Int).tmod (ws.length : Int) < (ws.length : Int) := by rw [hq]; omega
        clear hq
        have hne : ¬ ws = [] := fun h => by rw [h] at hn; exact absurd hn (Nat.lt_irrefl 0)
        have hm0 : ¬ m = 0 := by omega
        go_wp2_with (go_at_call 42; refine (PB.barscanref09_digit.calls _ true _ HDT.out).mono ?_; rintro e w6 ⟨rfl, hd6⟩)
        replace hwc := drawn_cell hd6 hwc
        refine start_ (n := 22) (S := fun w' => w'.cell? (ad.add (k % ws.length)) = some (.int .i64 x)) (ds := []) #[false, false, false, false, false, false, false, false, false, false, false, false, false, false, false, false, false, false, false, false, false, false] (by kernel_rfl) rfl rfl (hwc) (fun hHeld => ?_)
        refine pure_ (i := 0) (N := some 37) (v := ?_) (a' := ?_) #[true, false, false, false, false, false, false, false, false, false, false, false, false, false, false, false, false, false, false, false, false, false] rfl rfl (by kernel_rfl) (fun _ _ _ h => h) (Or.inl ⟨by rfl, ?_⟩) ?_ ?_
        rotate_left
        · intro w'
          go_simp
          with_reducible rfl
        rotate_left
        · simp only [Act.put, List.setIfInBounds_toArray, List.set_cons_zero, List.set_cons_succ, i64_w, i32_w]
          rfl
        refine pure_ (i := 1) (N := some 38) (v := ?_) (a' := ?_) #[true, true, false, false, false, false, false, false, false, false, false, false, false, false, false, false, false, false, false, false, false, false] rfl rfl (by kernel_rfl) (fun _ _ _ h => h) (Or.inl ⟨by rfl, ?_⟩) ?_ ?_
        rotate_left
        · intro w'
          go_simp
          with_reducible rfl
        rotate_left
        · simp only [Act.put, List.setIfInBounds_toArray, List.set_cons_zero, List.set_cons_succ, i64_w, i32_w]
          rfl
        refine pure_ (i := 2) (N := some 39) (v := ?_) (a' := ?_) #[true, true, true, false, false, false, false, false, false, false, false, false, false, false, false, false, false, false, false, false, false, false] rfl rfl (by kernel_rfl) (fun _ _ _ h => h) (Or.inl ⟨by rfl, ?_⟩) ?_ ?_
        rotate_left
        · intro w'
          go_simp
          with_reducible rfl
        rotate_left
        · simp only [Act.put, List.setIfInBounds_toArray, List.set_cons_zero, List.set_cons_succ, i64_w, i32_w]
          rfl
        refine pure_ (i := 4) (N := some 41) (v := ?_) (a' := ?_) #[true, true, true, false, true, false, false, false, false, false, false, false, false, false, false, false, false, false, false, false, false, false] rfl rfl (by kernel_rfl) (fun _ _ _ h => h) (Or.inl ⟨by rfl, ?_⟩) ?_ ?_
        rotate_left
        · intro w'
          go_simp
          with_reducible rfl
        rotate_left
        · simp only [Act.put, List.setIfInBounds_toArray, List.set_cons_zero, List.set_cons_succ, i64_w, i32_w]
          rfl
        refine pure_ (i := 5) (N := some 42) (v := ?_) (a' := ?_) #[true, true, true, false, true, true, false, false, false, false, false, false, false, false, false, false, false, false, false, false, false, false] rfl rfl (by kernel_rfl) (fun _ _ _ h => h) (Or.inl ⟨by rfl, ?_⟩) ?_ ?_
        rotate_left
        · intro w'
          go_simp
          with_reducible rfl
        rotate_left
        · simp only [Act.put, List.setIfInBounds_toArray, List.set_cons_zero, List.set_cons_succ, i64_w, i32_w]
          rfl
        refine pure_ (i := 6) (N := some 43) (v := ?_) (a' := ?_) #[true, true, true, false, true, true, true, false, false, false, false, false, false, false, false, false, false, false, false, false, false, false] rfl rfl (by kernel_rfl) (fun _ _ _ h => h) (Or.inl ⟨by rfl, ?_⟩) ?_ ?_
        rotate_left
        · intro w'
          go_simp
          with_reducible rfl
        rotate_left
        · simp only [Act.put, List.setIfInBounds_toArray, List.set_cons_zero, List.set_cons_succ, i64_w, i32_w]
          rfl
        refine pure_ (i := 7) (N := some 44) (v := ?_) (a' := ?_) #[true, true, true, false, true, true, true, true, false, false, false, false, false, false, false, false, false, false, false, false, false, false] rfl rfl (by kernel_rfl) (fun _ _ _ h => h) (Or.inl ⟨by rfl, ?_⟩) ?_ ?_
        rotate_left
        · intro w'
          go_simp
          with_reducible rfl
        rotate_left
        · simp only [Act.put, List.setIfInBounds_toArray, List.set_cons_zero, List.set_cons_succ, i64_w, i32_w]
          rfl
        refine pure_ (i := 8) (N := some 45) (v := ?_) (a' := ?_) #[true, true, true, false, true, true, true, true, true, false, false, false, false, false, false, false, false, false, false, false, false, false] rfl rfl (by kernel_rfl) (fun _ _ _ h => h) (Or.inl ⟨by rfl, ?_⟩) ?_ ?_
        rotate_left
        · intro w'
          go_simp
          with_reducible rfl
        rotate_left
        · simp only [Act.put, List.setIfInBounds_toArray, List.set_cons_zero, List.set_cons_succ, i64_w, i32_w]
          rfl
        refine pure_ (i := 9) (N := some 46) (v := ?_) (a' := ?_) #[true, true, true, false, true, true, true, true, true, true, false, false, false, false, false, false, false, false, false, false, false, false] rfl rfl (by kernel_rfl) (fun _ _ _ h => h) (Or.inl ⟨by rfl, ?_⟩) ?_ ?_
        rotate_left
        · intro w'
          go_simp
          with_reducible rfl
        rotate_left
        · simp only [Act.put, List.setIfInBounds_toArray, List.set_cons_zero, List.set_cons_succ, i64_w, i32_w]
          rfl
        refine pure_ (i := 11) (N := some 48) (v := ?_) (a' := ?_) #[true, true, true, false, true, true, true, true, true, true, false, true, false, false, false, false, false, false, false, false, false, false] rfl rfl (by kernel_rfl) (fun _ _ _ h => h) (Or.inl ⟨by rfl, ?_⟩) ?_ ?_
        rotate_left
        · intro w'
          go_simp
          with_reducible rfl
        rotate_left
        · simp only [Act.put, List.setIfInBounds_toArray, List.set_cons_zero, List.set_cons_succ, i64_w, i32_w]
          rfl
        refine pure_ (i := 13) (N := some 50) (v := ?_) (a' := ?_) #[true, true, true, false, true, true, true, true, true, true, false, true, false, true, false, false, false, false, false, false, false, false] rfl rfl (by kernel_rfl) (fun _ _ _ h => h) (Or.inl ⟨by rfl, ?_⟩) ?_ ?_
        rotate_left
        · intro w'
          go_simp
          with_reducible rfl
        rotate_left
        · simp only [Act.put, List.setIfInBounds_toArray, List.set_cons_zero, List.set_cons_succ, i64_w, i32_w]
          rfl
        refine pure_ (i := 15) (N := some 52) (v := ?_) (a' := ?_) #[true, true, true, false, true, true, true, true, true, true, false, true, false, true, false, true, false, false, false, false, false, false] rfl rfl (by kernel_rfl) (fun _ _ _ h => h) (Or.inl ⟨by rfl, ?_⟩) ?_ ?_
        rotate_left
        · intro w'
          go_simp
          with_reducible rfl
        rotate_left
        · simp only [Act.put, List.setIfInBounds_toArray, List.set_cons_zero, List.set_cons_succ, i64_w, i32_w]
          rfl
        refine pure_ (i := 19) (N := some 56) (v := ?_) (a' := ?_) #[true, true, true, false, true, true, true, true, true, true, false, true, false, true, false, true, false, false, false, true, false, false] rfl rfl (by kernel_rfl) (fun _ _ _ h => h) (Or.inl ⟨by rfl, ?_⟩) ?_ ?_
        rotate_left
        · intro w'
          go_simp
          with_reducible rfl
        rotate_left
        · simp only [Act.put, List.setIfInBounds_toArray, List.set_cons_zero, List.set_cons_succ, i64_w, i32_w]
          rfl
        refine take_ (i := 10) (N := some 47) (v := ?_) (a' := ?_) #[true, true, true, false, true, true, true, true, true, true, true, true, false, true, false, true, false, false, false, true, false, false] rfl rfl (by kernel_rfl) (fun _ _ _ h => h) (Or.inl ⟨by rfl, ?_⟩) hHeld ?_ ?_
        rotate_left
        · intro w' s0
          go_simp
          with_reducible rfl
        rotate_left
        · simp only [Act.put, List.setIfInBounds_toArray, List.set_cons_zero, List.set_cons_succ, i64_w, i32_w]
          rfl
        refine pure_ (i := 12) (N := some 49) (v := ?_) (a' := ?_) #[true, true, true, false, true, true, true, true, true, true, true, true, true, true, false, true, false, false, false, true, false, false] rfl rfl (by kernel_rfl) (fun _ _ _ h => h) (Or.inl ⟨by rfl, ?_⟩) ?_ ?_
        rotate_left
        · intro w'
          go_simp
          with_reducible rfl
        rotate_left
        · simp only [Act.put, List.setIfInBounds_toArray, List.set_cons_zero, List.set_cons_succ, i64_w, i32_w]
          rfl
        refine pure_ (i := 14) (N := some 51) (v := ?_) (a' := ?_) #[true, true, true, false, true, true, true, true, true, true, true, true, true, true, true, true, false, false, false, true, false, false] rfl rfl (by kernel_rfl) (fun _ _ _ h => h) (Or.inl ⟨by rfl, ?_⟩) ?_ ?_
        rotate_left
        · intro w'
          go_simp
          with_reducible rfl
        rotate_left
        · simp only [Act.put, List.setIfInBounds_toArray, List.set_cons_zero, List.set_cons_succ, i64_w, i32_w]
          rfl
        refine pure_ (i := 16) (N := some 53) (v := ?_) (a' := ?_) #[true, true, true, false, true, true, true, true, true, true, true, true, true, true, true, true, true, false, false, true, false, false] rfl rfl (by kernel_rfl) (fun _ _ _ h => h) (Or.inl ⟨by rfl, ?_⟩) ?_ ?_
        rotate_left
        · intro w'
          go_simp
          with_reducible rfl
        rotate_left
        · simp only [Act.put, List.setIfInBounds_toArray, List.set_cons_zero, List.set_cons_succ, i64_w, i32_w]
          rfl
        refine one_ (i := 3) (N := some 40) #[true, true, true, true, true, true, true, true, true, true, true, true, true, true, true, true, true, false, false, true, false, false] rfl rfl (by kernel_rfl) (by decide) (fun K hK => ?_)
        refine goes_ Try.func43 (by kernel_rfl) rfl #[.string s, .int .i64 k] (by rfl) rfl rfl (by simp only [List.map_toArray, List.map_cons, List.map_nil]; rfl) ?_
        with_reducible refine (PB.barscanref09_value.calls s k d _ HVF.out).mono ?_
        rintro e w7 ⟨rfl, hd7⟩
        refine ⟨_, rfl, ?_⟩
        refine hK.out _ _ (drawn_cell (w := w6.drew) hd7 hwc) (fun hHeld => ?_)
        clear hK K
        refine norm_ (a' := ?_) ?_ ?_
        rotate_left
        · show Act.put _ (some 40) _ = _
          simp only [Act.put, List.setIfInBounds_toArray, List.set_cons_zero, List.set_cons_succ, i64_w, i32_w]
          rfl
        refine pure_ (i := 17) (N := some 54) (v := ?_) (a' := ?_) #[true, true, true, true, true, true, true, true, true, true, true, true, true, true, true, true, true, true, false, true, false, false] rfl rfl (by kernel_rfl) (fun _ _ _ h => h) (Or.inl ⟨by rfl, ?_⟩) ?_ ?_
        rotate_left
        · intro w'
          go_simp
          with_reducible rfl
        rotate_left
        · simp only [Act.put, List.setIfInBounds_toArray, List.set_cons_zero, List.set_cons_succ, i64_w, i32_w]
          rfl
        refine pure_ (i := 18) (N := some 55) (v := ?_) (a' := ?_) #[true, true, true, true, true, true, true, true, true, true, true, true, true, true, true, true, true, true, true, true, false, false] rfl rfl (by kernel_rfl) (fun _ _ _ h => h) (Or.inl ⟨by rfl, ?_⟩) ?_ ?_
        rotate_left
        · intro w'
          go_simp
          with_reducible rfl
        rotate_left
        · simp only [Act.put, List.setIfInBounds_toArray, List.set_cons_zero, List.set_cons_succ, i64_w, i32_w]
          rfl
        refine pure_ (i := 20) (N := some 57) (v := ?_) (a' := ?_) #[true, true, true, true, true, true, true, true, true, true, true, true, true, true, true, true, true, true, true, true, true, false] rfl rfl (by kernel_rfl) (fun _ _ _ h => h) (Or.inl ⟨by rfl, ?_⟩) ?_ ?_
        rotate_left
        · intro w'
          go_simp
          with_reducible rfl
        rotate_left
        · simp only [Act.put, List.setIfInBounds_toArray, List.set_cons_zero, List.set_cons_succ, i64_w, i32_w]
          rfl
        refine pure_ (i := 21) (N := some 8) (v := ?_) (a' := ?_) #[true, true, true, true, true, true, true, true, true, true, true, true, true, true, true, true, true, true, true, true, true, true] rfl rfl (by kernel_rfl) (fun _ _ _ h => h) (Or.inl ⟨by rfl, ?_⟩) ?_ ?_
        rotate_left
        · intro w'
          go_simp
          with_reducible rfl
        rotate_left
        · simp only [Act.put, List.setIfInBounds_toArray, List.set_cons_zero, List.set_cons_succ, i64_w, i32_w]
          rfl
        refine done_ (by kernel_rfl) ?_
        go_wp2
        go_roundw
        case rel => exact ⟨k + 1, by omega, by go_num, by rw [HS.out, HA.out, HV.out, wR, HX.out, wval a d x m ⟨h1, h2⟩ hp hd htm], fun j hj => (by rcases (by omega : j < k ∨ j = k) with h | rfl; exact HD.out j h; unfold digB; rw [getD_at s _ (by omega)]; exact hdg), drawn_then (drawn_then (drawn_then hB hd6) (drawn_one _)) hd7⟩
        case measure => simp [intOf]; omega
      · have hdt : PB.barscanref09_digit.f ((s[s.size - 1 - k]'(by omega)).toNat : Int) = some false := HDF.out.trans (congrArg some (decide_eq_false hdg))
        have HDT := Lib.hid hdt; clear hdt
        have hre : r = (0, 6) := by
          rw [HR.out, if_neg]
          intro hwi
          exact hdg ((digs_of s hwi) (s.size - 1 - k) (by omega))
        subst hre
        go_wp2_with (go_at_call 42; refine (PB.barscanref09_digit.calls _ false _ HDT.out).mono ?_; rintro e w6 ⟨rfl, hd6⟩)
        go_ret2
        exact ⟨rfl, drawn_then hB hd6⟩
    · have hv : (rvals s).take k = rvals s := List.take_of_length_le (by rw [rvals_len]; omega)
      have hre : r = (foldi (wR ws m) 0 0 (rvals s), 0) := by
        rw [HR.out, if_pos]
        refine within_of_digs s (fun i hi => ?_)
        have := HD.out (s.size - 1 - i) (by omega)
        unfold digB at this
        rw [show s.size - 1 - (s.size - 1 - i) = i by omega, getD_at s i hi] at this
        exact this
      subst hre
      rw [hv] at hp ⊢
      clear hv
      go_wp2
      go_ret2
      exact ⟨rfl, hB⟩

def barscanref09_Weighted.f (a0 : ByteArray) (l1 : List Int) (a2 : Int) : Option (Int × Int) := if a0.size ≤ 9223372036854775807 then some (weighS a0 l1 a2) else none
theorem barscanref09_Weighted.calls (a0 : ByteArray) (A1 : Option Addr) (c1 : Nat) (l1 : List Int) (a2 : Int) (r1 : Int) (r2 : Int) (w : World) (hr1 : Kd.C (Kd.int .i64) w A1 l1.length l1) (hc1 : l1.length ≤ c1) (h : barscanref09_Weighted.f a0 l1 a2 = some (r1, r2)) :
    Calls Try.prog 16 #[.string a0, .slice A1 l1.length c1, .int .i64 a2] w fun e w' => e = .returned (.tuple #[.int .i64 r1, .int .i64 r2]) ∧ Drawn0 w w' := by
  unfold barscanref09_Weighted.f at h
  by_cases hm : a0.size ≤ 9223372036854775807
  · rw [if_pos hm] at h
    have h := Option.some.inj h
    by_cases he : a2 < 1 ∨ 65536 < a2 ∨ l1.length = 0 ∨ 4096 < a0.size
    · have e := refweigh_early a0 A1 l1.length c1 a2 w hm hr1.2.1 he
      have hv : weighS a0 l1 a2 = (0, if a2 < 1 ∨ 65536 < a2 then 3 else if l1.length = 0 then 5 else 4) := by
        unfold weighS
        by_cases h1 : a2 < 1 ∨ 65536 < a2
        · rw [if_pos h1, if_pos h1]
        rw [if_neg h1, if_neg h1]
        by_cases h2 : l1.length = 0
        · rw [if_pos h2, if_pos h2]
        rw [if_neg h2, if_neg h2, if_pos (by rcases he with h | h | h | h <;> first | exact h | (exfalso; omega))]
      rw [hv] at h
      injection h with e1 e2
      subst e1 e2
      exact e
    · obtain ⟨ad, hA, hcells⟩ := hr1.2.2 (by omega)
      subst hA
      have hv : (r1, r2) = if withinB a0 alpha10 = true then (foldi (wR l1 a2) 0 0 (rvals a0), 0) else ((0, 6) : Int × Int) := by
        rw [← h]
        unfold weighS
        rw [if_neg (by omega), if_neg (by omega), if_neg (by omega), wR_eq l1 a2 (by omega)]
        cases withinB a0 alpha10 with
        | true => rw [if_neg (by simp), if_pos rfl]
        | false => rw [if_pos rfl, if_neg (by simp)]
      exact refweigh_main a0 ad l1 c1 a2 w (by omega) (by omega) (by omega) hr1.2.1 (by omega) (fun j hj => by
        obtain ⟨cs, g1, g2, g3⟩ := hcells j _ (List.getElem?_eq_getElem hj)
        have g4 : cs = [.int .i64 l1[j]] := g2
        have g6 := g3 0 (.int .i64 l1[j]) (by rw [g4]; rfl)
        rw [List.getD_eq_getElem?_getD, List.getElem?_eq_getElem hj]
        simpa [Kd.int, Kd.scalar] using g6) (r1, r2) hv
  · rw [if_neg hm] at h; cases h
end Go.Proofs.Ytcfgfeamcckmjaa.Chk
