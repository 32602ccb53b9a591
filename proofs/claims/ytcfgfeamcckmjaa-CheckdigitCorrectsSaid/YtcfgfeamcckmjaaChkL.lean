/-
  Checkdigit, part L: Corrections.
-/
import Derived.Test.YtcfgfeamcckmjaaChkK
import Derived.StillTailTactics
import Derived.Test.YtcfgfeamcckmjaaStrs
namespace Go.Proofs.Ytcfgfeamcckmjaa.Chk
open Go.RowKit Go.Proofs.YtcfgfeamcckmjaaW.PrintWords Go.Proofs.YtcfgfeamcckmjaaW.PrintLast Go.Proofs.YtcfgfeamcckmjaaW.PrintMore
set_option linter.unusedVariables false
set_option linter.unusedSimpArgs false

/-- A string with another character at i; with the characters at i - 1 and i exchanged. -/
def sub1 (s C : ByteArray) (i c : Nat) : ByteArray := s.extract 0 i ++ C.extract c (c + 1) ++ s.extract (i + 1) s.size
def swap1 (s : ByteArray) (i : Nat) : ByteArray := s.extract 0 (i - 1) ++ s.extract i (i + 1) ++ s.extract (i - 1) i ++ s.extract (i + 1) s.size
/-- What is tried at place i, and at all places before n. -/
def candsAt (s C : ByteArray) (i : Nat) : List ByteArray := (List.range C.size).map (sub1 s C i) ++ if 0 < i then [swap1 s i] else []
def cands (s C : ByteArray) (n : Nat) : List ByteArray := (List.range n).flatMap (candsAt s C)
def okT (k : Int) (s t : ByteArray) : Bool := decide (t ≠ s ∧ verifyS k t = 0)
def tried (k : Int) (s : ByteArray) (ts : List ByteArray) : List ByteArray := ts.filter (okT k s)
theorem tried_snoc (k : Int) (s t : ByteArray) (ts : List ByteArray) : tried k s (ts ++ [t]) = tried k s ts ++ if t ≠ s ∧ verifyS k t = 0 then [t] else [] := by
  unfold tried
  rw [List.filter_append]
  congr 1
  by_cases h : t ≠ s ∧ verifyS k t = 0
  · rw [if_pos h, List.filter_cons_of_pos (by unfold okT; exact decide_eq_true h)]; rfl
  · rw [if_neg h, List.filter_cons_of_neg (by unfold okT; simpa using h)]; rfl
theorem tried_len (k : Int) (s : ByteArray) (ts : List ByteArray) : (tried k s ts).length ≤ ts.length := List.length_filter_le _ _
theorem candsAt_len (s C : ByteArray) (i : Nat) : (candsAt s C i).length ≤ C.size + 1 := by
  unfold candsAt
  rw [List.length_append, List.length_map, List.length_range]
  split <;> simp
theorem cands_succ (s C : ByteArray) (n : Nat) : cands s C (n + 1) = cands s C n ++ candsAt s C n := by
  unfold cands
  rw [List.range_succ, List.flatMap_append]
  simp
theorem cands_len (s C : ByteArray) (n : Nat) : (cands s C n).length ≤ n * (C.size + 1) := by
  induction n with
  | zero => simp [cands]
  | succ n ih =>
    have h1 := candsAt_len s C n
    rw [cands_succ, List.length_append, Nat.succ_mul]
    omega

theorem CInv.init {w wx wy wz : World} {k : Int} {s : ByteArray} (hbx : Below ((w.alloc (.cells #[.int .i64 k] 25)).alloc (.cells #[.string s] 9)).heap.size ((w.alloc (.cells #[.int .i64 k] 25)).alloc (.cells #[.string s] 9)) wx)
    (hby : Below (wx.alloc (.cells #[.slice none 0 0] 31)).heap.size (wx.alloc (.cells #[.slice none 0 0] 31)) wy) (hbz : Below wy.heap.size wy wz) : CInv w w.heap.size (w.heap.size + 1) wx.heap.size k s [] wz := by
  have h1 : w.heap.size + 2 ≤ wx.heap.size := by have := hbx.size; simp at this; omega
  have h2 : wx.heap.size + 1 ≤ wy.heap.size := by have := hby.size; simp at this; omega
  have h3 := hbz.size
  have hB : Below w.heap.size w wz := (((((Below.refl _ _).alloc (Nat.le_refl _) _).alloc (by simp) _).trans (hbx.mono (by simp; omega))).alloc (by omega) _).trans ((hby.mono (by simp; omega)).trans (hbz.mono (by omega)))
  refine ⟨hB, ?_, ?_, ⟨.slice none 0 0, ?_, Kd.R_nil _ _ _ _ _⟩, by omega, by omega, by omega, by omega⟩
  · rw [hbz.cell (p := ⟨w.heap.size, 0, none⟩) (by show w.heap.size < _; omega), hby.cell (p := ⟨w.heap.size, 0, none⟩) (by show w.heap.size < _; simp; omega), World.cell?_alloc_past _ _ _ (by omega), hbx.cell (p := ⟨w.heap.size, 0, none⟩) (by show w.heap.size < _; simp; omega), World.cell?_alloc_past _ _ _ (by simp)]
    simp
  · rw [hbz.cell (p := ⟨w.heap.size + 1, 0, none⟩) (by show w.heap.size + 1 < _; omega), hby.cell (p := ⟨w.heap.size + 1, 0, none⟩) (by show w.heap.size + 1 < _; simp; omega), World.cell?_alloc_past _ _ _ (by omega), hbx.cell (p := ⟨w.heap.size + 1, 0, none⟩) (by show w.heap.size + 1 < _; simp)]
    simp
  · rw [hbz.block _ (by omega), hby.block _ (by simp)]
    exact heap_alloc_new wx _

theorem s64 (n : Nat) (h : n ≤ 64) (m : Nat) (hm : m ≤ 45) : n * m ≤ 2880 := Nat.le_trans (Nat.mul_le_mul h hm) (by decide)

theorem CInv.drew {w0 : World} {bk bs bo : Nat} {k : Int} {s : ByteArray} {xs : List ByteArray} {W : World} (h : CInv w0 bk bs bo k s xs W) : CInv w0 bk bs bo k s xs W.drew := h.grow (Below.refl _ _).drew
theorem range_snoc (s C : ByteArray) (i c : Nat) (l : List ByteArray) : l ++ (List.range (c + 1)).map (sub1 s C i) = (l ++ (List.range c).map (sub1 s C i)) ++ [sub1 s C i c] := by
  rw [List.range_succ, List.map_append, List.append_assoc]; rfl

theorem iw_s (c : Nat) (h : c ≤ 1000) : IntKind.i64.wrap ((c : Int) + 1) = (c : Int) + 1 := IntWalk.i64_in _ (by omega)
theorem iw_m (c : Nat) (h : c ≤ 1000) : IntKind.i64.wrap ((c : Int) - 1) = (c : Int) - 1 := IntWalk.i64_in _ (by omega)
theorem w64_s (c : Nat) (h : c ≤ 1000) : wrap64 ((c : Int) + 1) = (c : Int) + 1 := by unfold wrap64; omega

set_option maxHeartbeats 8000000 in
set_option maxRecDepth 20000 in
theorem corr_gen (k : Int) (T fA fE sz : Nat) (A X C : ByteArray) (hC : A ++ X = C) (hsys : sysV k = .iface T (.agg #[])) (hAs : A.size ≤ 43) (hXs : X.size ≤ 1)
    (mA : ∀ w, (method 237 T (.agg #[]) "barscan/checkdigit.alphabet").run Try.prog w = .ok (fA, .agg #[]) w) (mE : ∀ w, (method 237 T (.agg #[]) "barscan/checkdigit.extra").run Try.prog w = .ok (fE, .agg #[]) w)
    (eA : ∀ w, (callFunc fA #[.agg #[]]).run Try.prog w = .ok (.enter fA #[.agg #[]]) w) (eE : ∀ w, (callFunc fE #[.agg #[]]).run Try.prog w = .ok (.enter fE #[.agg #[]]) w)
    (cA : ∀ w, Calls Try.prog fA #[.agg #[]] w fun e w' => e = .returned (.string A) ∧ Below w.heap.size w w') (cE : ∀ w, Calls Try.prog fE #[.agg #[]] w fun e w' => e = .returned (.string X) ∧ Below w.heap.size w w')
    (cW : ∀ (n : Nat) w, n ≤ 1000000 → Calls Try.prog 33 #[.int .i64 k, .iface T (.agg #[]), .int .i64 n] w fun e w' => e = .returned (.bool (wrongB k n)) ∧ Below w.heap.size w w')
    (s : ByteArray) (w : World) (hl : s.size ≤ 64) (hw : wrongB k s.size = false) :
    Calls Try.prog 17 #[.int .i64 k, .string s] w fun e w' => ∃ v, e = .returned (.tuple #[v, .int .i64 0]) ∧ Kd.R Kd.string 9 w' w.heap.size (fun _ => True) v (Strs.compB (Strs.sortB (tried k s (cands s C s.size)))) ∧ Below w.heap.size w w' := by
  have hlen : Hid (A.size + X.size = C.size) := by subst hC; simp [Hid]
  have hA' : A.size + X.size ≤ 9223372036854775807 := by omega
  have hA'' : ¬ 9223372036854775807 < A.size + X.size := by omega
  go_enter Try.func17, Try.ntmps17
  go_wp2_with (first
    | (go_at_call 32; refine (systemOf_any _ _).mono ?_; rintro e w' ⟨rfl, rfl⟩)
    | (go_at_call 33; refine (cW s.size _ (by omega)).mono ?_; rintro e wx ⟨rfl, hbx⟩)
    | (refine (cA _).mono ?_; rintro e wy ⟨rfl, hby⟩)
    | (refine (cE _).mono ?_; rintro e wz ⟨rfl, hbz⟩; have hI := CInv.init hbx hby hbz; clear hbx hby hbz; have hs := hI.hs))
  clear hs
  obtain ⟨bo, hbo⟩ : ∃ bo, bo = wx.heap.size := ⟨_, rfl⟩
  rw [← hbo] at hI ⊢
  clear hbo
  obtain ⟨bs, hbs⟩ : ∃ bs, bs = w.heap.size + 1 := ⟨_, rfl⟩
  rw [← hbs] at hI ⊢
  clear hbs
  clear mA mE eA eE cA cE cW
  go_loopw [35] (fun iv wr => ∃ i : Nat, i ≤ s.size ∧ iv = .int .i64 i ∧ CInv w w.heap.size bs bo k s (tried k s (cands s C i)) wr) (fun iv _ => s.size - (intOf iv).toNat)
  case atStart => exact ⟨0, Nat.zero_le _, rfl, hI⟩
  case round =>
    clear hI
    obtain ⟨i, hi, rfl, hI⟩ := hrel
    have hC44 : C.size ≤ 44 := by have := hlen.out; omega
    have hcl := cands_len s C i
    have hmul := s64 i (by omega) (C.size + 1) (by omega)
    by_cases hlt : i < s.size
    · go_wp2
      go_loopw [40] (fun cv wq => ∃ c : Nat, c ≤ C.size ∧ cv = .int .i64 c ∧ CInv w w.heap.size bs bo k s (tried k s (cands s C i ++ (List.range c).map (sub1 s C i))) wq) (fun cv _ => C.size - (intOf cv).toNat)
      case atStart => exact ⟨0, Nat.zero_le _, rfl, by simpa using hI⟩
      case round =>
        clear hI
        obtain ⟨c, hc, rfl, hI⟩ := hrel
        have hxl0 := tried_len k s (cands s C i ++ (List.range c).map (sub1 s C i))
        by_cases hltc : c < C.size
        · have hxl : (tried k s (cands s C i ++ (List.range c).map (sub1 s C i))).length ≤ 1000000 := by rw [List.length_append, List.length_map, List.length_range] at hxl0; omega
          have hts : (s.extract 0 i ++ C.extract c (c + 1) ++ s.extract (i + 1) s.size).size ≤ 9223372036854775807 := by simp; omega
          have hs := hI.hs
          have a1 : (i : Int) ≤ s.size := by omega
          have a2 : (i : Int) + 1 ≤ s.size := by omega
          have a3 : (c : Int) + 1 ≤ C.size := by omega
          have a8 : 0 ≤ (c : Int) + 1 := by omega
          have a9 : (c : Int) ≤ (c : Int) + 1 := by omega
          have a10 : 0 ≤ (i : Int) + 1 := by omega
          have a6 : ((c : Int) + 1).toNat = c + 1 := by omega
          have a7 : ((i : Int) + 1).toNat = i + 1 := by omega
          have b4 : c ≤ 1000 := by omega
          have b5 : i ≤ 1000 := by omega
          go_wp2
          have b6 : ¬ 9223372036854775807 < i + (min (c + 1) C.size - c) := by omega
          have b7 : ¬ 9223372036854775807 < i + (min (c + 1) C.size - c) + (s.size - (i + 1)) := by omega
          have a4 := iw_s c b4
          have a5 := iw_s i b5
          go_still_tail 15, (by kernel_rfl)
          change wpList _ _ _ _ _ wr.drew
          clear a4 a5
          go_wp2_with (go_at_call 44; refine (try_any w w.heap.size bs bo k s _ _ _ hI.drew hts hxl).mono ?_; rintro e w7 ⟨rfl, hI7⟩)
          go_roundw
          case rel => exact ⟨c + 1, by omega, by go_num, by rw [range_snoc, tried_snoc]; exact hI7⟩
          case measure => simp [intOf]; omega
        · have hce : c = C.size := by omega
          subst hce
          clear hltc hc
          by_cases h0 : 0 < i
          · have hca : tried k s (cands s C (i + 1)) = tried k s (cands s C i ++ (List.range C.size).map (sub1 s C i)) ++ if swap1 s i ≠ s ∧ verifyS k (swap1 s i) = 0 then [swap1 s i] else [] := by
              rw [cands_succ, candsAt, if_pos h0, ← List.append_assoc, tried_snoc]
            have hxl : (tried k s (cands s C i ++ (List.range C.size).map (sub1 s C i))).length ≤ 1000000 := by rw [List.length_append, List.length_map, List.length_range] at hxl0; omega
            have hts : (s.extract 0 (i - 1) ++ s.extract i (i + 1) ++ s.extract (i - 1) i ++ s.extract (i + 1) s.size).size ≤ 9223372036854775807 := by simp; omega
            have HCa := Lib.hid hca; clear hca
            have hs := hI.hs
            have h0' : (0 : Int) < i := by omega
            have h0'' : (1 : Int) ≤ i := by omega
            have a1 : (i : Int) ≤ s.size := by omega
            have a2 : (i : Int) + 1 ≤ s.size := by omega
            have a3 : (i : Int) - 1 ≤ s.size := by omega
            have a7 : ((i : Int) + 1).toNat = i + 1 := by omega
            have a8 : ((i : Int) - 1).toNat = i - 1 := by omega
            have a9 : (i : Int) ≤ (i : Int) + 1 := by omega
            have a10 : 0 ≤ (i : Int) + 1 := by omega
            have a11 : (i : Int) - 1 ≤ (i : Int) := by omega
            have a12 : 0 ≤ (i : Int) - 1 := by omega
            have b5 : i ≤ 1000 := by omega
            have b6 : 1 ≤ i := by omega
            have c1 : ¬ 9223372036854775807 < i - 1 + (min (i + 1) s.size - i) := by omega
            have c2 : ¬ 9223372036854775807 < i - 1 + (min (i + 1) s.size - i) + (i - (i - 1)) := by omega
            have c3 : ¬ 9223372036854775807 < i - 1 + (min (i + 1) s.size - i) + (i - (i - 1)) + (s.size - (i + 1)) := by omega
            have d1 : ¬ 9223372036854775807 < min (i - 1) s.size + (min (i + 1) s.size - i) := by omega
            have d2 : ¬ 9223372036854775807 < min (i - 1) s.size + (min (i + 1) s.size - i) + (i - (i - 1)) := by omega
            have d3 : ¬ 9223372036854775807 < min (i - 1) s.size + (min (i + 1) s.size - i) + (i - (i - 1)) + (s.size - (i + 1)) := by omega
            go_wp2
            have a5 := iw_s i b5
            have a6 := iw_m i b5
            go_still_tail 22, (by kernel_rfl)
            change wpList _ _ _ _ _ wr.drew
            clear a5 a6
            go_wp2_with (go_at_call 44; refine (try_any w w.heap.size bs bo k s _ _ _ hI.drew hts hxl).mono ?_; rintro e w7 ⟨rfl, hI7⟩)
            go_roundw
            case rel => exact ⟨i + 1, by omega, by go_num, by rw [HCa.out]; exact hI7⟩
            case measure => simp [intOf]; omega
          · have hca : tried k s (cands s C (i + 1)) = tried k s (cands s C i ++ (List.range C.size).map (sub1 s C i)) := by
              rw [cands_succ, candsAt, if_neg h0, List.append_nil]
            have hi0 : i = 0 := by omega
            subst hi0
            have HCa := Lib.hid hca; clear hca
            go_wp2
            go_roundw
            case rel => exact ⟨1, by omega, by go_num, by rw [HCa.out]; exact hI⟩
            case measure => simp [intOf]; omega
    · have hie : i = s.size := by omega
      subst hie
      clear hlt hi hmul
      have hxl0 := tried_len k s (cands s C s.size)
      have hxl : (tried k s (cands s C s.size)).length ≤ 1000000 := by have := s64 s.size hl (C.size + 1) (by omega); omega
      have hxl2 : (Strs.sortB (tried k s (cands s C s.size))).length ≤ 1000000 := by simpa [Strs.sortB, Strs.toB, Strs.bsOf] using hxl
      have hlt := hI.lt
      obtain ⟨v, hv1, hv2⟩ := hI.ho
      have hcell := cell_of_one hv1
      have HV1 := Lib.hid hv1; clear hv1
      have hBw := hI.below
      clear hI hcl hxl0
      go_wp2_with (first | (go_at_call 45; refine (Strs.sort_R _ (bo + 1) v _ hv2 (by omega) hxl).mono ?_; rintro e w8 ⟨rfl, hR8, hb8⟩; have hcell8 := (hb8.cell (p := ⟨bo, 0, none⟩) (Nat.lt_succ_self bo)).trans hcell; clear hcell) | (go_at_call 46; refine (Strs.compact_R _ (bo + 1) v _ hR8 (by have := hb8.size; omega) hxl2).mono ?_; rintro e w9 ⟨v9, rfl, hR9, hb9⟩))
      go_ret2
      exact ⟨v9, rfl, Kd.R_lower hR9 (by omega), hBw.trans ((hb8.mono (by omega)).trans (hb9.mono (by omega)))⟩

/-- What Corrections returns. -/
def corrS (k : Int) (s : ByteArray) : List ByteArray × Int :=
  if ¬ (1 ≤ k ∧ k ≤ 8) then ([], 1) else if 64 < s.size then ([], 4) else if wrongB k s.size = true then ([], 7)
  else (Strs.compB (Strs.sortB (tried k s (cands s (alphaXS k) s.size))), 0)

theorem corr_none (k : Int) (s : ByteArray) (w : World) (h : ¬ (1 ≤ k ∧ k ≤ 8)) : Calls Try.prog 17 #[.int .i64 k, .string s] w fun e w' => e = .returned (.tuple #[.slice none 0 0, .int .i64 1]) ∧ Below w.heap.size w w' := by
  have hsys : sysV k = .nilIface := by unfold sysV; rw [if_neg h]
  clear h
  go_enter Try.func17, Try.ntmps17
  go_wp2_with (go_at_call 32; refine (systemOf_any _ _).mono ?_; rintro e w' ⟨rfl, rfl⟩)
  go_ret2
  exact ⟨rfl, ((Below.refl _ _).alloc (Nat.le_refl _) _).alloc (by simp) _⟩
theorem corr_long (k : Int) (T : Nat) (hsys : sysV k = .iface T (.agg #[])) (s : ByteArray) (w : World) (hl : 64 < s.size) (hm : s.size ≤ 9223372036854775807) : Calls Try.prog 17 #[.int .i64 k, .string s] w fun e w' => e = .returned (.tuple #[.slice none 0 0, .int .i64 4]) ∧ Below w.heap.size w w' := by
  go_enter Try.func17, Try.ntmps17
  go_wp2_with (go_at_call 32; refine (systemOf_any _ _).mono ?_; rintro e w' ⟨rfl, rfl⟩)
  go_ret2
  exact ⟨rfl, ((Below.refl _ _).alloc (Nat.le_refl _) _).alloc (by simp) _⟩
theorem corr_wrong (k : Int) (T : Nat) (hsys : sysV k = .iface T (.agg #[])) (s : ByteArray) (w : World) (hl : s.size ≤ 64) (hw : wrongB k s.size = true)
    (cW : ∀ (n : Nat) w, n ≤ 1000000 → Calls Try.prog 33 #[.int .i64 k, .iface T (.agg #[]), .int .i64 n] w fun e w' => e = .returned (.bool (wrongB k n)) ∧ Below w.heap.size w w') :
    Calls Try.prog 17 #[.int .i64 k, .string s] w fun e w' => e = .returned (.tuple #[.slice none 0 0, .int .i64 7]) ∧ Below w.heap.size w w' := by
  go_enter Try.func17, Try.ntmps17
  go_wp2_with (first | (go_at_call 32; refine (systemOf_any _ _).mono ?_; rintro e w' ⟨rfl, rfl⟩) | (go_at_call 33; refine (cW s.size _ (by omega)).mono ?_; rintro e wx ⟨rfl, hbx⟩))
  go_ret2
  exact ⟨rfl, (((Below.refl _ _).alloc (Nat.le_refl _) _).alloc (by simp) _).trans (hbx.mono (by simp; omega))⟩

theorem corr_any (k : Int) (T fA fE : Nat) (A X : ByteArray) (hC : A ++ X = alphaXS k) (hk : 1 ≤ k ∧ k ≤ 8) (hsys : sysV k = .iface T (.agg #[])) (hAs : A.size ≤ 43) (hXs : X.size ≤ 1)
    (mA : ∀ w, (method 237 T (.agg #[]) "barscan/checkdigit.alphabet").run Try.prog w = .ok (fA, .agg #[]) w) (mE : ∀ w, (method 237 T (.agg #[]) "barscan/checkdigit.extra").run Try.prog w = .ok (fE, .agg #[]) w)
    (eA : ∀ w, (callFunc fA #[.agg #[]]).run Try.prog w = .ok (.enter fA #[.agg #[]]) w) (eE : ∀ w, (callFunc fE #[.agg #[]]).run Try.prog w = .ok (.enter fE #[.agg #[]]) w)
    (cA : ∀ w, Calls Try.prog fA #[.agg #[]] w fun e w' => e = .returned (.string A) ∧ Below w.heap.size w w') (cE : ∀ w, Calls Try.prog fE #[.agg #[]] w fun e w' => e = .returned (.string X) ∧ Below w.heap.size w w')
    (cW : ∀ (n : Nat) w, n ≤ 1000000 → Calls Try.prog 33 #[.int .i64 k, .iface T (.agg #[]), .int .i64 n] w fun e w' => e = .returned (.bool (wrongB k n)) ∧ Below w.heap.size w w')
    (s : ByteArray) (w : World) (hm : s.size ≤ 9223372036854775807) :
    Calls Try.prog 17 #[.int .i64 k, .string s] w fun e w' => ∃ v, e = .returned (.tuple #[v, .int .i64 (corrS k s).2]) ∧ Kd.R Kd.string 9 w' w.heap.size (fun _ => True) v (corrS k s).1 ∧ Below w.heap.size w w' := by
  have h0 : ¬ ¬ (1 ≤ k ∧ k ≤ 8) := fun h => h hk
  by_cases hl : 64 < s.size
  · have e : corrS k s = ([], 4) := by unfold corrS; rw [if_neg h0, if_pos hl]
    rw [e]
    refine (corr_long k T hsys s w hl hm).mono ?_
    rintro e w' ⟨rfl, hb⟩
    exact ⟨_, rfl, Kd.R_nil _ _ _ _ _, hb⟩
  have hl' : s.size ≤ 64 := by omega
  by_cases hw : wrongB k s.size = true
  · have e : corrS k s = ([], 7) := by unfold corrS; rw [if_neg h0, if_neg hl, if_pos hw]
    rw [e]
    refine (corr_wrong k T hsys s w hl' hw cW).mono ?_
    rintro e w' ⟨rfl, hb⟩
    exact ⟨_, rfl, Kd.R_nil _ _ _ _ _, hb⟩
  have e : corrS k s = (Strs.compB (Strs.sortB (tried k s (cands s (alphaXS k) s.size))), 0) := by unfold corrS; rw [if_neg h0, if_neg hl, if_neg hw]
  rw [e]
  exact corr_gen k T fA fE 0 A X (alphaXS k) hC hsys hAs hXs mA mE eA eE cA cE cW s w hl' (by simpa using hw)

def checkdigit_Corrections.f (a0 : Int) (a1 : ByteArray) : Option (List ByteArray × Int) := if a1.size ≤ 9223372036854775807 then some (corrS a0 a1) else none
theorem checkdigit_Corrections.calls (a0 : Int) (a1 : ByteArray) (r1 : List ByteArray) (r2 : Int) (w : World) (h : checkdigit_Corrections.f a0 a1 = some (r1, r2)) :
    Calls Try.prog 17 #[.int .i64 a0, .string a1] w fun e w' => ∃ v0_ : Value, e = .returned (.tuple #[v0_, .int .i64 r2]) ∧ Kd.R Kd.string 9 w' w.heap.size (fun _ => True) v0_ r1 ∧ Below w.heap.size w w' := by
  unfold checkdigit_Corrections.f at h
  by_cases hm : a1.size ≤ 9223372036854775807
  · rw [if_pos hm] at h
    have h := Option.some.inj h
    rw [show r1 = (corrS a0 a1).1 by rw [h], show r2 = (corrS a0 a1).2 by rw [h]]
    clear h
    by_cases hk : 1 ≤ a0 ∧ a0 ≤ 8
    · rcases (by omega : a0 = 1 ∨ a0 = 2 ∨ a0 = 3 ∨ a0 = 4 ∨ a0 = 5 ∨ a0 = 6 ∨ a0 = 7 ∨ a0 = 8) with rfl | rfl | rfl | rfl | rfl | rfl | rfl | rfl
      · exact corr_any 1 72 40 97 alpha10 ByteArray.empty rfl hk rfl (by decide) (by decide) m_alphabet_1 m_extra_1 e_decimal_alphabet e_decimal_extra c_decimal_alphabet c_decimal_extra (fun n w h => wrong_1 n w h) a1 w hm
      · exact corr_any 2 73 40 97 alpha10 ByteArray.empty rfl hk rfl (by decide) (by decide) m_alphabet_2 m_extra_2 e_decimal_alphabet e_decimal_extra c_decimal_alphabet c_decimal_extra (fun n w h => wrong_2 n w h) a1 w hm
      · exact corr_any 3 76 40 115 alpha10 ⟨#[88]⟩ rfl hk rfl (by decide) (by decide) m_alphabet_3 m_extra_3 e_decimal_alphabet e_withX_extra c_decimal_alphabet c_withX_extra (fun n w h => wrong_3 n w h) a1 w hm
      · exact corr_any 4 77 40 97 alpha10 ByteArray.empty rfl hk rfl (by decide) (by decide) m_alphabet_4 m_extra_4 e_decimal_alphabet e_decimal_extra c_decimal_alphabet c_decimal_extra (fun n w h => wrong_4 n w h) a1 w hm
      · exact corr_any 5 78 40 97 alpha10 ByteArray.empty rfl hk rfl (by decide) (by decide) m_alphabet_5 m_extra_5 e_decimal_alphabet e_decimal_extra c_decimal_alphabet c_decimal_extra (fun n w h => wrong_5 n w h) a1 w hm
      · exact corr_any 6 79 40 97 alpha10 ByteArray.empty rfl hk rfl (by decide) (by decide) m_alphabet_6 m_extra_6 e_decimal_alphabet e_decimal_extra c_decimal_alphabet c_decimal_extra (fun n w h => wrong_6 n w h) a1 w hm
      · exact corr_any 7 80 122 124 alpha39 ByteArray.empty rfl hk rfl (by decide) (by decide) m_alphabet_7 m_extra_7 e_code39_alphabet e_code39_extra c_code39_alphabet c_code39_extra (fun n w h => wrong_7 n w h) a1 w hm
      · exact corr_any 8 81 40 115 alpha10 ⟨#[88]⟩ rfl hk rfl (by decide) (by decide) m_alphabet_8 m_extra_8 e_decimal_alphabet e_withX_extra c_decimal_alphabet c_withX_extra (fun n w h => wrong_8 n w h) a1 w hm
    · rw [show corrS a0 a1 = ([], 1) by unfold corrS; rw [if_pos hk]]
      refine (corr_none a0 a1 w hk).mono ?_
      rintro e w' ⟨rfl, hb⟩
      exact ⟨_, rfl, Kd.R_nil _ _ _ _ _, hb⟩
  · rw [if_neg hm] at h; cases h
end Go.Proofs.Ytcfgfeamcckmjaa.Chk
