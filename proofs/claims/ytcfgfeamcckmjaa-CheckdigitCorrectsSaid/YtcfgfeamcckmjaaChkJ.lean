/-
  Checkdigit, part J: Weighted.
-/
import Derived.Test.YtcfgfeamcckmjaaChkI
namespace Go.Proofs.Ytcfgfeamcckmjaa.Chk
open Go.RowKit Go.Proofs.YtcfgfeamcckmjaaW.PrintWords Go.Proofs.YtcfgfeamcckmjaaW.PrintLast Go.Proofs.YtcfgfeamcckmjaaW.PrintMore
open Go.Proofs.Ytcfgfeamcckmjaa.PB
set_option linter.unusedVariables false
set_option linter.unusedSimpArgs false

def wF (ws : List Int) (m : Int) (i : Nat) (a d : Int) : Int := (a + (ws.getD (i % ws.length) 0).tmod m * d).tmod m
/-- What Weighted returns. -/
def weighS (s : ByteArray) (ws : List Int) (m : Int) : Int × Int :=
  if m < 1 ∨ 65536 < m then (0, 3) else if ws.length = 0 then (0, 5) else if 4096 < s.size then (0, 4) else if withinB s alpha10 = false then (0, 6)
  else ((foldi (wF ws m) 0 0 (rvals s) + m) % m, 0)

theorem tmod_bd (a m : Int) (hm : 1 ≤ m) : -m < a.tmod m ∧ a.tmod m < m := by
  have h1 := Int.tmod_lt_of_pos a (show 0 < m by omega)
  have h2 := Int.lt_tmod_of_pos a (show 0 < m by omega)
  exact ⟨h2, h1⟩
theorem w_bd (ws : List Int) (m : Int) (hm : 1 ≤ m) (l : List Int) (p : Int) (h0 : -m < p ∧ p < m) (i : Nat) : -m < foldi (wF ws m) i p l ∧ foldi (wF ws m) i p l < m := by
  induction l generalizing i p with
  | nil => exact h0
  | cons d l ih => exact ih _ (tmod_bd _ m hm) _
theorem wprod_bd (x d m : Int) (hm : 1 ≤ m ∧ m ≤ 65536) (hd : 0 ≤ d ∧ d ≤ 9) : -1000000 ≤ x.tmod m * d ∧ x.tmod m * d ≤ 1000000 := by
  have h := tmod_bd x m hm.1
  rcases (by omega : d = 0 ∨ d = 1 ∨ d = 2 ∨ d = 3 ∨ d = 4 ∨ d = 5 ∨ d = 6 ∨ d = 7 ∨ d = 8 ∨ d = 9) with rfl | rfl | rfl | rfl | rfl | rfl | rfl | rfl | rfl | rfl <;> omega

theorem backward_none (s : ByteArray) (w : World) (h0 : s.size = 0) :
    Calls Try.prog 41 #[.string s] w fun e w' => ∃ A cap, e = .returned (.slice A 0 cap) ∧ Below w.heap.size w w' := by
  have hf : checkdigit_backward.f 1 s = some [] := by
    unfold checkdigit_backward.f checkdigit_backward.l0
    rw [h0]
    rw [w64_in _ (by omega) (by omega), if_neg (by omega)]
  refine (checkdigit_backward.calls 1 s _ w hf).mono ?_
  rintro e w' ⟨v, rfl, hR, hB⟩
  obtain ⟨A, c, rfl, hc, hr⟩ := Kd.R_reads hR
  exact ⟨A, c, rfl, hB⟩

set_option maxHeartbeats 1000000 in
set_option maxRecDepth 20000 in
theorem weigh_early (s : ByteArray) (A : Option Addr) (n c : Nat) (m : Int) (w : World) (hm : s.size ≤ 9223372036854775807) (hn : n ≤ 9223372036854775807) (h : m < 1 ∨ 65536 < m ∨ n = 0 ∨ 4096 < s.size ∨ withinB s alpha10 = false) :
    Calls Try.prog 15 #[.string s, .slice A n c, .int .i64 m] w fun e w' => e = .returned (.tuple #[.int .i64 0, .int .i64 (if m < 1 ∨ 65536 < m then 3 else if n = 0 then 5 else if 4096 < s.size then 4 else 6)]) ∧ Below w.heap.size w w' := by
  by_cases h1 : m < 1
  · rw [if_pos (.inl h1)]; clear h
    go_enter Try.func15, Try.ntmps15
    go_wp2
    go_ret2
    exact ⟨rfl, Below.refl _ _⟩
  by_cases h2 : 65536 < m
  · rw [if_pos (.inr h2)]; clear h
    go_enter Try.func15, Try.ntmps15
    go_wp2
    go_ret2
    exact ⟨rfl, Below.refl _ _⟩
  rw [if_neg (fun h => h.elim h1 h2)]
  by_cases h3 : n = 0
  · rw [if_pos h3]; clear h
    subst h3
    go_enter Try.func15, Try.ntmps15
    go_wp2
    go_ret2
    exact ⟨rfl, Below.refl _ _⟩
  rw [if_neg h3]
  have h3b : ((n : Int) == 0) = false := beq_eq_false_iff_ne.mpr (by omega)
  by_cases h4 : 4096 < s.size
  · rw [if_pos h4]; clear h h3
    go_enter Try.func15, Try.ntmps15
    go_wp2
    go_ret2
    exact ⟨rfl, Below.refl _ _⟩
  rw [if_neg h4]
  have h5 : withinB s alpha10 = false := by rcases h with h | h | h | h | h <;> first | exact h | (exfalso; omega)
  have h4' : s.size ≤ 4096 := by omega
  clear h h3 h4
  go_enter Try.func15, Try.ntmps15
  go_wp2_with (first | (go_at_call 40; refine (c_decimal_alphabet _).mono ?_; rintro e w1 ⟨rfl, hb1⟩) | (go_at_call 35; refine (within_any _ _ _ (by omega)).mono ?_; rintro e w' ⟨rfl, rfl⟩))
  go_ret2
  exact ⟨rfl, hb1⟩

set_option maxHeartbeats 2000000 in
set_option maxRecDepth 20000 in
theorem weigh_main (s : ByteArray) (ad : Addr) (ws : List Int) (c : Nat) (m : Int) (w : World) (h1 : 1 ≤ m) (h2 : m ≤ 65536) (hn : 0 < ws.length) (hn2 : ws.length ≤ 9223372036854775807) (h4 : s.size ≤ 4096) (h5 : withinB s alpha10 = true)
    (hws : ∀ W, Below w.heap.size w W → ∀ j, j < ws.length → W.cell? (ad.add j) = some (.int .i64 (ws.getD j 0))) :
    Calls Try.prog 15 #[.string s, .slice (some ad) ws.length c, .int .i64 m] w fun e w' => e = .returned (.tuple #[.int .i64 ((foldi (wF ws m) 0 0 (rvals s) + m) % m), .int .i64 0]) ∧ Below w.heap.size w w' := by
  have h3b : ((ws.length : Int) == 0) = false := beq_eq_false_iff_ne.mpr (by omega)
  have HD : Hid (Digs s) := digs_of s h5
  by_cases h0 : s.size = 0
  · have hr : rvals s = [] := List.eq_nil_of_length_eq_zero (by rw [rvals_len]; exact h0)
    have e : (foldi (wF ws m) 0 0 (rvals s) + m) % m = 0 := by rw [hr]; simp [foldi]
    rw [e]; clear e hr hn
    have H0 := Lib.hid h0; clear h0
    go_enter Try.func15, Try.ntmps15
    go_wp2_with (first | (go_at_call 40; refine (c_decimal_alphabet _).mono ?_; rintro e w1 ⟨rfl, hb1⟩) | (go_at_call 35; refine (within_b _ _ true _ h4 h5).mono ?_; rintro e w' ⟨rfl, rfl⟩) | (go_at_call 41; refine (backward_none s _ H0.out).mono ?_; rintro e w2 ⟨A, cap, rfl, hb2⟩))
    go_loop [8, 35] (fun p i => p = .int .i64 0 ∧ i = .int .i64 0) (fun _ _ => 0)
    case atStart => exact ⟨rfl, rfl⟩
    case round =>
      obtain ⟨rfl, rfl⟩ := hrel
      have hmm : (m : Int) % m = 0 := Int.emod_self
      go_wp2
      go_ret2
      refine ⟨?_, bthen hb1 hb2⟩
      rfl
  · have hpos : 0 < s.size := by omega
    clear h0
    go_enter Try.func15, Try.ntmps15
    go_wp2_with (first | (go_at_call 40; refine (c_decimal_alphabet _).mono ?_; rintro e w1 ⟨rfl, hb1⟩) | (go_at_call 35; refine (within_b _ _ true _ h4 h5).mono ?_; rintro e w' ⟨rfl, rfl⟩) | (go_at_call 41; refine (backward_any s _ h4 hpos HD.out).mono ?_; rintro e w2 ⟨bd, cap, rfl, hc, hb2⟩))
    have hB : Below w.heap.size w w2 := bthen hb1 hb2
    have HW := Lib.hid (hws w2 hB); clear hws
    have HC := Lib.hid hc; clear hc hb1 hb2
    go_loop [8, 35] (fun p i => ∃ k : Nat, k ≤ s.size ∧ i = .int .i64 k ∧ p = .int .i64 (foldi (wF ws m) 0 0 ((rvals s).take k))) (fun _ i => s.size - (intOf i).toNat)
    case atStart => exact ⟨0, Nat.zero_le _, rfl, rfl⟩
    case round =>
      obtain ⟨k, hk, rfl, rfl⟩ := hrel
      have hp := w_bd ws m h1 ((rvals s).take k) 0 (by omega) 0
      by_cases hlt : k < s.size
      · have hd := rvals_at s HD.out k hlt
        have hcell := HC.out k hlt
        have hsn := rvals_snoc (wF ws m) 0 s k hlt
        have HS := Lib.hid hsn; clear hsn
        rw [show (vals s).reverse = rvals s from rfl] at hcell
        have hmod : k % ws.length < ws.length := Nat.mod_lt _ hn
        have hwc := HW.out (k % ws.length) hmod
        have hpr := wprod_bd (ws.getD (k % ws.length) 0) ((rvals s).getD k 0) m ⟨h1, h2⟩ hd
        have htm := tmod_bd (ws.getD (k % ws.length) 0) m h1
        generalize hdv : (rvals s).getD k 0 = d at hd hcell hpr
        have HV := Lib.hid hdv; clear hdv
        generalize hav : foldi (wF ws m) 0 0 ((rvals s).take k) = a at hp ⊢
        have HA := Lib.hid hav; clear hav
        generalize hxv : ws.getD (k % ws.length) 0 = x at hwc hpr htm
        have HX := Lib.hid hxv; clear hxv
        have htn : ((k : Int) % (ws.length : Int)).toNat = k % ws.length := by omega
        go_wp2
        go_round
        case rel => exact ⟨k + 1, by omega, by go_num, by rw [HS.out, HA.out, HV.out, wF, HX.out]⟩
        case measure => simp [intOf]; omega
      · have hv : (rvals s).take k = rvals s := List.take_of_length_le (by rw [rvals_len]; omega)
        rw [hv] at hp ⊢
        clear hv
        go_wp2
        go_ret2
        exact ⟨rfl, hB⟩

def checkdigit_Weighted.f (a0 : ByteArray) (l1 : List Int) (a2 : Int) : Option (Int × Int) := if a0.size ≤ 9223372036854775807 then some (weighS a0 l1 a2) else none
theorem checkdigit_Weighted.calls (a0 : ByteArray) (A1 : Option Addr) (c1 : Nat) (l1 : List Int) (a2 : Int) (r1 : Int) (r2 : Int) (w : World) (hr1 : Kd.C (Kd.int .i64) w A1 l1.length l1) (hc1 : l1.length ≤ c1) (h : checkdigit_Weighted.f a0 l1 a2 = some (r1, r2)) :
    Calls Try.prog 15 #[.string a0, .slice A1 l1.length c1, .int .i64 a2] w fun e w' => e = .returned (.tuple #[.int .i64 r1, .int .i64 r2]) ∧ Below w.heap.size w w' := by
  unfold checkdigit_Weighted.f at h
  by_cases hm : a0.size ≤ 9223372036854775807
  · rw [if_pos hm] at h
    have h := Option.some.inj h
    by_cases he : a2 < 1 ∨ 65536 < a2 ∨ l1.length = 0 ∨ 4096 < a0.size ∨ withinB a0 alpha10 = false
    · have e := weigh_early a0 A1 l1.length c1 a2 w hm hr1.2.1 he
      have hv : weighS a0 l1 a2 = (0, if a2 < 1 ∨ 65536 < a2 then 3 else if l1.length = 0 then 5 else if 4096 < a0.size then 4 else 6) := by
        unfold weighS
        by_cases h1 : a2 < 1 ∨ 65536 < a2
        · rw [if_pos h1, if_pos h1]
        rw [if_neg h1, if_neg h1]
        by_cases h2 : l1.length = 0
        · rw [if_pos h2, if_pos h2]
        rw [if_neg h2, if_neg h2]
        by_cases h3 : 4096 < a0.size
        · rw [if_pos h3, if_pos h3]
        rw [if_neg h3, if_neg h3, if_pos]
        rcases he with h | h | h | h | h
        · exact absurd (.inl h) h1
        · exact absurd (.inr h) h1
        · exact absurd h h2
        · exact absurd h h3
        · exact h
      rw [hv] at h
      injection h with e1 e2
      subst e1 e2
      exact e
    · have h5 : withinB a0 alpha10 = true := by
        cases hb : withinB a0 alpha10 with
        | true => rfl
        | false => exact absurd (.inr (.inr (.inr (.inr hb)))) he
      have hv : weighS a0 l1 a2 = ((foldi (wF l1 a2) 0 0 (rvals a0) + a2) % a2, 0) := by
        unfold weighS
        rw [if_neg (by omega), if_neg (by omega), if_neg (by omega), if_neg (by rw [h5]; decide)]
      rw [hv] at h
      injection h with e1 e2
      subst e1 e2
      obtain ⟨ad, rfl, hx⟩ := hr1.2.2 (by omega)
      refine weigh_main a0 ad l1 c1 a2 w (by omega) (by omega) (by omega) hr1.2.1 (by omega) h5 ?_
      intro W hW j hj
      obtain ⟨ad', he', hx'⟩ := (Kd.C_below hr1 hW).2.2 (by omega)
      injection he' with he'
      subst he'
      obtain ⟨cs, h1, h2, h3⟩ := hx' j _ (List.getElem?_eq_getElem hj)
      have h4 : cs = [.int .i64 l1[j]] := h2
      have h6 := h3 0 (.int .i64 l1[j]) (by rw [h4]; rfl)
      rw [List.getD_eq_getElem?_getD, List.getElem?_eq_getElem hj]
      simpa [Kd.int, Kd.scalar] using h6
  · rw [if_neg hm] at h; cases h
end Go.Proofs.Ytcfgfeamcckmjaa.Chk
