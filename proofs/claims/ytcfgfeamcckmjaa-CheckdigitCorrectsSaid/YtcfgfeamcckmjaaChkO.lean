/-
  Checkdigit: what Append returns is accepted; changed and exchanged characters are found. Plain Lean over lists of bytes.
-/
import Derived.Test.YtcfgfeamcckmjaaChkN
namespace Go.Proofs.Ytcfgfeamcckmjaa.Chk
open Go.RowKit Go.Proofs.YtcfgfeamcckmjaaW.PrintWords Go.Proofs.YtcfgfeamcckmjaaW.PrintLast Go.Proofs.YtcfgfeamcckmjaaW.PrintMore
set_option linter.unusedVariables false
set_option linter.unusedSimpArgs false

theorem append_zero (k : Int) (s : ByteArray) (h : (appendS k s).2 = 0) : (1 ≤ k ∧ k ≤ 8) ∧ 0 < s.size ∧ (∀ c ∈ s.data.toList, (alphaS k).data.toList.contains c = true) ∧ (k = 3 → s.size = 9) ∧ s.size + (checkL k s).length ≤ 4096 ∧ (appendS k s).1 = bs (s.data.toList ++ checkL k s) := by
  unfold appendS at h ⊢
  by_cases h0 : (computeS k s).2 ≠ 0
  · rw [if_pos h0] at h; exact absurd h h0
  rw [if_neg h0] at h ⊢
  by_cases h1 : 4096 < s.size + (computeS k s).1.size
  · rw [if_pos h1] at h; cases h
  rw [if_neg h1]
  have h0 : (computeS k s).2 = 0 := Decidable.not_not.1 h0
  unfold computeS at h0 h1 ⊢
  by_cases a : 1 ≤ k ∧ k ≤ 8
  case neg => rw [if_pos a] at h0; cases h0
  rw [if_neg (fun h => h a)] at h0 h1 ⊢
  by_cases b : s.size = 0
  · rw [if_pos b] at h0; cases h0
  rw [if_neg b] at h0 h1 ⊢
  by_cases c : 4096 < s.size
  · rw [if_pos c] at h0; cases h0
  rw [if_neg c] at h0 h1 ⊢
  cases d : withinB s (alphaS k)
  · rw [d, if_pos rfl] at h0; cases h0
  rw [d, if_neg (by simp)] at h0 h1
  rw [if_neg (by simp)]
  by_cases e : k = 3 ∧ s.size ≠ 9
  · rw [if_pos e] at h0; cases h0
  rw [if_neg e] at h1 ⊢
  have e2 : (checkS k s).size = (checkL k s).length := by simp [checkS, ByteArray.size]
  refine ⟨a, by omega, ?_, fun hk => by omega, by rw [← e2]; simp only at h1; omega, ?_⟩
  · have := List.all_eq_true.1 d
    exact this
  · show s ++ bs (checkL k s) = bs (s.data.toList ++ checkL k s)
    rw [← bs_app, bs_of]
theorem append_err (k : Int) (s : ByteArray) (h : (appendS k s).2 ≠ 0) : (appendS k s).1 = ByteArray.empty := by
  unfold appendS at h ⊢
  by_cases h0 : (computeS k s).2 ≠ 0
  · rw [if_pos h0]
  rw [if_neg h0] at h ⊢
  by_cases h1 : 4096 < s.size + (computeS k s).1.size
  · rw [if_pos h1]
  · rw [if_neg h1] at h; exact absurd rfl h

theorem out_len (k : Int) (h : 1 ≤ k ∧ k ≤ 8) (a : Int) : (outS k a).length = sizeS k := by
  rcases cases8 k h with rfl | rfl | rfl | rfl | rfl | rfl | rfl | rfl <;> rfl
theorem chr_ok : ∀ v : Fin 10, alpha10.data.toList.contains (chr v.val) = true := by decide +kernel
theorem chr_okX : ∀ v : Fin 11, alpha10X.data.toList.contains (chr v.val) = true := by decide +kernel
theorem chr39_ok : ∀ v : Fin 43, alpha39.data.toList.contains (chr39 v.val) = true := by decide +kernel
theorem chr_in (v : Int) (h : 0 ≤ v ∧ v < 10) : alpha10.data.toList.contains (chr v) = true := by
  obtain ⟨n, rfl⟩ := fin10 v h
  exact chr_ok n
theorem chr_inX (v : Int) (h : 0 ≤ v ∧ v < 11) : alpha10X.data.toList.contains (chr v) = true := by
  have := chr_okX ⟨v.toNat, by omega⟩
  rwa [show (((⟨v.toNat, by omega⟩ : Fin 11).val : Nat) : Int) = v by simp; omega] at this
theorem chr_in39 (v : Int) (h : 0 ≤ v ∧ v < 43) : alpha39.data.toList.contains (chr39 v) = true := by
  have := chr39_ok ⟨v.toNat, by omega⟩
  rwa [show (((⟨v.toNat, by omega⟩ : Fin 43).val : Nat) : Int) = v by simp; omega] at this
theorem out_ok (k : Int) (h : 1 ≤ k ∧ k ≤ 8) (a : Int) (ha : 0 ≤ a ∧ a < mS k) : ∀ c ∈ outS k a, (alphaXS k).data.toList.contains c = true := by
  intro c hc
  rcases cases8 k h with rfl | rfl | rfl | rfl | rfl | rfl | rfl | rfl
  · rw [List.mem_singleton.1 hc]; exact chr_in _ (by omega)
  · rw [List.mem_singleton.1 hc]; exact chr_in _ (by omega)
  · rw [List.mem_singleton.1 hc]; exact chr_inX _ (by omega)
  · change 0 ≤ a ∧ a < 10 at ha
    have := dinv_bd a (by omega)
    rw [List.mem_singleton.1 hc]; exact chr_in _ (by omega)
  · rw [List.mem_singleton.1 hc]; exact chr_in _ ha
  · change 0 ≤ a ∧ a < 97 at ha
    rcases List.mem_cons.1 hc with rfl | hc
    · exact chr_in _ (by omega)
    · rw [List.mem_singleton.1 hc]; exact chr_in _ (by omega)
  · rw [List.mem_singleton.1 hc]; exact chr_in39 _ ha
  · rw [List.mem_singleton.1 hc]; exact chr_inX _ (by omega)

theorem v39_tab (c : UInt8) : alpha39.data.toList.contains c = true → (0 ≤ v39 c ∧ v39 c < 43) ∧ chr39 (v39 c) = c :=
  u8_all (fun c => alpha39.data.toList.contains c = true → (0 ≤ v39 c ∧ v39 c < 43) ∧ chr39 (v39 c) = c) (by decide +kernel) c
theorem alphaS_dig (k : Int) (hk : k ≠ 7) : alphaS k = alpha10 := by unfold alphaS; rw [if_neg hk]
theorem val_bd (k : Int) (c : UInt8) (h : (alphaS k).data.toList.contains c = true) : 0 ≤ valS k c ∧ valS k c < qS k := by
  unfold valS qS
  by_cases hk : k = 7
  · subst hk
    exact (v39_tab c h).1
  · rw [alphaS_dig k hk] at h
    have := (dig_iff c).1 h
    rw [if_neg hk, if_neg hk]
    unfold dg; omega
theorem u8_of_toNat (a b : UInt8) (h : a.toNat = b.toNat) : a = b := UInt8.toNat_inj.1 h
theorem val_inj (k : Int) (a b : UInt8) (ha : (alphaS k).data.toList.contains a = true) (hb : (alphaS k).data.toList.contains b = true) (h : valS k a = valS k b) : a = b := by
  unfold valS at h
  by_cases hk : k = 7
  · subst hk
    simp only [if_true] at h
    have h1 := (v39_tab a ha).2
    have h2 := (v39_tab b hb).2
    rw [← h1, h, h2]
  · rw [alphaS_dig k hk] at ha hb
    have h1 := (dig_iff a).1 ha
    have h2 := (dig_iff b).1 hb
    rw [if_neg hk, if_neg hk] at h
    unfold dg at h
    exact u8_of_toNat a b (by omega)
/-- Data that a system takes. -/
structure Ok (k : Int) (D : List UInt8) : Prop where
  hk : 1 ≤ k ∧ k ≤ 8
  pos : 0 < D.length
  alpha : ∀ c ∈ D, (alphaS k).data.toList.contains c = true
  nine : k = 3 → D.length = 9
  size : D.length + sizeS k ≤ 4096
theorem ok_vals {k : Int} {D : List UInt8} (h : ∀ c ∈ D, (alphaS k).data.toList.contains c = true) : ∀ d ∈ D.map (valS k), 0 ≤ d ∧ d < qS k := by
  intro d hd
  obtain ⟨c, hc, rfl⟩ := List.mem_map.1 hd
  exact val_bd k c (h c hc)
theorem ord_vals {k : Int} {l : List Int} (h : ∀ d ∈ l, 0 ≤ d ∧ d < qS k) : ∀ d ∈ ordS k l, 0 ≤ d ∧ d < qS k := by
  intro d hd
  unfold ordS at hd
  split at hd
  · exact h d (List.mem_reverse.1 hd)
  · exact h d hd
theorem check_len {k : Int} {D : List UInt8} (o : Ok k D) : (checkL k (bs D)).length = sizeS k := by rw [check_out k o.hk, out_len k o.hk]
theorem verify_append {k : Int} {D : List UInt8} (o : Ok k D) : verifyS k (bs (D ++ checkL k (bs D))) = 0 := by
  rw [verify_zero k D _ (check_len o)]
  have hl := check_len o
  refine ⟨o.hk, by rw [hl]; exact o.size, ?_, o.alpha, ?_, rfl⟩
  · rw [hl]
    unfold wrongB
    have := o.pos
    simp only [Bool.or_eq_false_iff, decide_eq_false_iff_not, Bool.and_eq_false_iff]
    refine ⟨by omega, ?_⟩
    by_cases h3 : k = 3
    · right
      rw [o.nine h3]
      subst h3
      rfl
    · left; simp [h3]
  · rw [check_out k o.hk]
    exact out_ok k o.hk _ (fold_bd k o.hk _ 0 0 (ord_vals (ok_vals o.alpha)) ⟨Int.le_refl _, mS_pos k⟩)
theorem check_inj {k : Int} (hk : 1 ≤ k ∧ k ≤ 8) {D D' : List UInt8} (h : ∀ c ∈ D, (alphaS k).data.toList.contains c = true) (h' : ∀ c ∈ D', (alphaS k).data.toList.contains c = true) (he : checkL k (bs D) = checkL k (bs D')) :
    foldi (stepS k) 0 0 (ordS k (D.map (valS k))) = foldi (stepS k) 0 0 (ordS k (D'.map (valS k))) := by
  rw [check_out k hk, check_out k hk] at he
  exact out_inj k hk _ _ (fold_bd k hk _ 0 0 (ord_vals (ok_vals h)) ⟨Int.le_refl _, mS_pos k⟩) (fold_bd k hk _ 0 0 (ord_vals (ok_vals h')) ⟨Int.le_refl _, mS_pos k⟩) he
theorem fold_one' (k : Int) (hk : 1 ≤ k ∧ k ≤ 8) (P B : List Int) (a c : Int) (hP : ∀ d ∈ P, 0 ≤ d ∧ d < qS k) (hB : ∀ d ∈ B, 0 ≤ d ∧ d < qS k) (ha : 0 ≤ a ∧ a < qS k) (hc : 0 ≤ c ∧ c < qS k) (hi : k = 3 → P.length + B.length = 8)
    (he : foldi (stepS k) 0 0 (ordS k (P ++ a :: B)) = foldi (stepS k) 0 0 (ordS k (P ++ c :: B))) : a = c := by
  unfold ordS at he
  by_cases h4 : k ≤ 4
  · rw [if_pos h4, if_pos h4, List.reverse_append, List.reverse_append, List.reverse_cons, List.reverse_cons, List.append_assoc, List.append_assoc] at he
    exact fold_one k hk B.reverse P.reverse a c (fun d hd => hB d (List.mem_reverse.1 hd)) (fun d hd => hP d (List.mem_reverse.1 hd)) ha hc (fun e => by have := hi e; rw [List.length_reverse]; omega) he
  · rw [if_neg h4, if_neg h4] at he
    exact fold_one k hk P B a c hP hB ha hc (fun e => by omega) he
theorem hid_comm (k a b : Int) (h : hidV k a b) : hidV k b a := by
  unfold hidV at *
  omega
theorem fold_two' (k : Int) (hk : 1 ≤ k ∧ k ≤ 8) (P B : List Int) (a c : Int) (hP : ∀ d ∈ P, 0 ≤ d ∧ d < qS k) (hB : ∀ d ∈ B, 0 ≤ d ∧ d < qS k) (ha : 0 ≤ a ∧ a < qS k) (hc : 0 ≤ c ∧ c < qS k) (hi : k = 3 → P.length + B.length = 7)
    (he : foldi (stepS k) 0 0 (ordS k (P ++ a :: c :: B)) = foldi (stepS k) 0 0 (ordS k (P ++ c :: a :: B))) : a = c ∨ hidV k a c := by
  unfold ordS at he
  by_cases h4 : k ≤ 4
  · rw [if_pos h4, if_pos h4] at he
    simp only [List.reverse_append, List.reverse_cons, List.append_assoc, List.cons_append, List.nil_append] at he
    have := fold_two k hk B.reverse P.reverse c a (fun d hd => hB d (List.mem_reverse.1 hd)) (fun d hd => hP d (List.mem_reverse.1 hd)) hc ha (fun e => by have := hi e; rw [List.length_reverse]; omega) he
    rcases this with h | h
    · exact Or.inl h.symm
    · exact Or.inr (hid_comm _ _ _ h)
  · rw [if_neg h4, if_neg h4] at he
    exact fold_two k hk P B a c hP hB ha hc (fun e => by omega) he

/-- One changed character is found. -/
theorem detect_one {k : Int} {D : List UInt8} (o : Ok k D) (P Q : List UInt8) (a c : UInt8) (hl : D ++ checkL k (bs D) = P ++ a :: Q) (hQ : Q ≠ []) (hv : verifyS k (bs (P ++ c :: Q)) = 0) : c = a := by
  have hlen := check_len o
  rcases List.append_eq_append_iff.1 hl with ⟨A, hP, hE⟩ | ⟨C, hD, hC⟩
  · rw [hP, List.append_assoc, verify_zero k D (A ++ c :: Q) (by rw [← hlen, hE]; simp)] at hv
    have := hv.2.2.2.2.2
    rw [hE] at this
    exact ((List.cons.inj (List.append_cancel_left this)).1).symm
  · cases C with
    | nil =>
      rw [List.append_nil] at hD
      rw [List.nil_append] at hC
      rw [← hD, verify_zero k D (c :: Q) (by rw [← hlen, ← hC]; simp)] at hv
      have := hv.2.2.2.2.2
      rw [← hC] at this
      exact ((List.cons.inj this).1).symm
    | cons x C =>
      obtain ⟨rfl, hC2⟩ := List.cons.inj (show a :: Q = x :: (C ++ checkL k (bs D)) from hC)
      rw [hC2, show P ++ c :: (C ++ checkL k (bs D)) = (P ++ c :: C) ++ checkL k (bs D) by simp, verify_zero k (P ++ c :: C) _ hlen] at hv
      obtain ⟨_, _, _, hal, _, hch⟩ := hv
      have hal0 := o.alpha
      rw [hD] at hch hal0
      have he := check_inj o.hk hal hal0 hch
      have hPa : ∀ b ∈ P, (alphaS k).data.toList.contains b = true := fun b hb => hal b (by simp [hb])
      have hCa : ∀ b ∈ C, (alphaS k).data.toList.contains b = true := fun b hb => hal b (by simp [hb])
      have hca := hal c (by simp)
      have haa := hal0 a (by simp)
      rw [List.map_append, List.map_append, List.map_cons, List.map_cons] at he
      have h9 : k = 3 → (P.map (valS k)).length + (C.map (valS k)).length = 8 := fun e => by
        have := o.nine e
        rw [hD] at this
        simp only [List.length_append, List.length_cons] at this
        simp only [List.length_map]; omega
      exact val_inj k c a hca haa (fold_one' k o.hk _ _ _ _ (ok_vals hPa) (ok_vals hCa) (val_bd k c hca) (val_bd k a haa) h9 he)

def hidB (k : Int) (a b : UInt8) : Prop := k = 7 ∨ (k = 2 ∧ (a.toNat = 48 ∧ b.toNat = 57 ∨ a.toNat = 57 ∧ b.toNat = 48)) ∨ (k = 1 ∧ (a.toNat = b.toNat + 5 ∨ b.toNat = a.toNat + 5))
theorem hid_of (k : Int) (a b : UInt8) (h : hidV k (valS k a) (valS k b)) (hk : k ≠ 7) : hidB k a b := by
  unfold hidV valS at h
  rw [if_neg hk, if_neg hk] at h
  unfold dg at h
  unfold hidB
  omega
end Go.Proofs.Ytcfgfeamcckmjaa.Chk
