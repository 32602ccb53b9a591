/-
  Checkdigit: an exchange of neighbours is found, but for the cases that the chapter names. Plain Lean over lists of bytes.
-/
import Derived.Test.YtcfgfeamcckmjaaChkO
namespace Go.Proofs.Ytcfgfeamcckmjaa.Chk
open Go.RowKit Go.Proofs.YtcfgfeamcckmjaaW.PrintWords Go.Proofs.YtcfgfeamcckmjaaW.PrintLast Go.Proofs.YtcfgfeamcckmjaaW.PrintMore
set_option linter.unusedVariables false
set_option linter.unusedSimpArgs false

theorem fold_add (X : Nat → Int → Int) : ∀ (l : List Int) (i : Nat) (a : Int), foldi (fun i a d => a + X i d) i a l = a + foldi (fun i a d => a + X i d) i 0 l
  | [], i, a => by simp [foldi]
  | d :: l, i, a => by
    rw [foldi, foldi, fold_add X l (i + 1) (a + X i d), fold_add X l (i + 1) (0 + X i d)]
    omega
/-- The fold of a system of sums from place 1 on, beginning with the state of a digit at place 0. -/
theorem fold_mod1 (f : Nat → Int → Int → Int) (X : Nat → Int → Int) (m : Int) (hf : f = fun i a d => a + X i d) (l : List Int) (a : Int) :
    foldi (fun i a d => f i a d % m) 1 (f 0 0 a % m) l = (X 0 a + foldi f 1 0 l) % m := by
  have h := foldi_mod f m (fun i a d => by rw [hf]; show (a + X i d) % m = (a % m + X i d) % m; rw [Int.emod_add_emod]) l 1 (f 0 0 a)
  rw [← h, hf, fold_add X l 1]
  show (0 + X 0 a + _) % m = _
  rw [Int.zero_add]

theorem dih_assoc : ∀ x : Fin 10, ∀ c : Fin 10, ∀ d : Fin 10, dih (dih x.val c.val) d.val = dih x.val (dih c.val d.val) := by decide +kernel
theorem dih_tab : ∀ c : Fin 10, ∀ d : Fin 10, 0 ≤ dih c.val d.val ∧ dih c.val d.val < 10 := by decide +kernel
theorem dih_zero : ∀ c : Fin 10, dih c.val 0 = c.val := by decide +kernel
theorem permN_tab : ∀ i : Fin 8, ∀ d : Fin 10, 0 ≤ permN (i.val + 1) d.val ∧ permN (i.val + 1) d.val < 10 := by decide +kernel
theorem permM_bd (i : Nat) (d : Int) (hd : 0 ≤ d ∧ d < 10) : 0 ≤ permN (i % 8 + 1) d ∧ permN (i % 8 + 1) d < 10 := by
  obtain ⟨d, rfl⟩ := fin10 d hd
  exact permN_tab ⟨i % 8, by omega⟩ d
theorem ver_left (x : Int) (hx : 0 ≤ x ∧ x < 10) : ∀ (l : List Int) (i : Nat) (c : Int), (∀ d ∈ l, 0 ≤ d ∧ d < 10) → 0 ≤ c ∧ c < 10 → foldi verF i (dih x c) l = dih x (foldi verF i c l)
  | [], i, c, hl, hc => rfl
  | d :: l, i, c, hl, hc => by
    have hp := permM_bd i d (hl d List.mem_cons_self)
    rw [foldi, foldi]
    have e : verF i (dih x c) d = dih x (verF i c d) := by
      unfold verF
      obtain ⟨x, rfl⟩ := fin10 x hx
      obtain ⟨c, rfl⟩ := fin10 c hc
      obtain ⟨q, hq⟩ := fin10 _ hp
      rw [hq]
      exact dih_assoc x c q
    have hb : 0 ≤ verF i c d ∧ verF i c d < 10 := by
      unfold verF
      obtain ⟨c, rfl⟩ := fin10 c hc
      obtain ⟨q, hq⟩ := fin10 _ hp
      rw [hq]
      exact dih_tab c q
    rw [e]
    exact ver_left x hx l (i + 1) _ (fun y hy => hl y (List.mem_cons_of_mem _ hy)) hb
theorem ver_last : ∀ a : Fin 10, ∀ e : Fin 10, ∀ r : Fin 10, dinv (dih (permN 1 a.val) r.val) = e.val → dinv (dih (permN 1 e.val) r.val) = a.val → a = e := by decide +kernel
theorem ver_first (l : List Int) (a : Int) (hl : ∀ d ∈ l, 0 ≤ d ∧ d < 10) (ha : 0 ≤ a ∧ a < 10) : foldi verF 1 (verF 0 0 a) l = dih (permN 1 a) (foldi verF 1 0 l) := by
  have hp := permM_bd 0 a ha
  change 0 ≤ permN 1 a ∧ permN 1 a < 10 at hp
  have e : verF 0 0 a = dih (permN 1 a) 0 := by
    show dih 0 (permN 1 a) = dih (permN 1 a) 0
    obtain ⟨q, hq⟩ := fin10 _ hp
    rw [hq]
    have : ∀ q : Fin 10, dih 0 q.val = dih q.val 0 := by decide +kernel
    exact this q
  rw [e]
  exact ver_left _ hp l 1 0 hl (by omega)
theorem damm_last : ∀ p : Fin 10, ∀ a : Fin 10, ∀ e : Fin 10, dammF 0 p.val a.val = e.val → dammF 0 p.val e.val = a.val → a = e := by decide +kernel
theorem chr_dig (v : Int) (e : UInt8) {Q : List UInt8} (h0 : 0 ≤ v) (h1 : v ≤ 10) (he : 48 ≤ e.toNat ∧ e.toNat ≤ 57) (h : [chr v] = e :: Q) : v = dg e ∧ Q = [] := by
  obtain ⟨h2, h3⟩ := List.cons.inj h
  exact ⟨(chr_iff e v h0 h1 he).1 h2, h3.symm⟩
/-- The last character of the data and the first check character, exchanged. -/
theorem swap_last {k : Int} (hk : 1 ≤ k ∧ k ≤ 8) (P : List UInt8) (Q : List UInt8) (a e : UInt8) (hP : ∀ c ∈ P, (alphaS k).data.toList.contains c = true) (ha : (alphaS k).data.toList.contains a = true) (he : (alphaS k).data.toList.contains e = true)
    (h1 : checkL k (bs (P ++ [a])) = e :: Q) (h2 : checkL k (bs (P ++ [e])) = a :: Q) : a = e ∨ hidB k a e := by
  by_cases h7 : k = 7
  · exact Or.inr (Or.inl h7)
  have hva := val_bd k a ha
  have hve := val_bd k e he
  have hvP := ok_vals hP
  rw [check_out k hk, List.map_append] at h1 h2
  have da : 48 ≤ a.toNat ∧ a.toNat ≤ 57 := (dig_iff a).1 (by rw [alphaS_dig k h7] at ha; exact ha)
  have de : 48 ≤ e.toNat ∧ e.toNat ≤ 57 := (dig_iff e).1 (by rw [alphaS_dig k h7] at he; exact he)
  have ea : valS k a = dg a := by unfold valS; rw [if_neg h7]
  have ee : valS k e = dg e := by unfold valS; rw [if_neg h7]
  have eq_ : qS k = 10 := by unfold qS; rw [if_neg h7]
  rw [eq_] at hva hve hvP
  have fin : valS k a = valS k e ∨ hidV k (valS k a) (valS k e) := by
    generalize hA : P.map (valS k) = A at *
    rw [ea] at hva ⊢
    rw [ee] at hve ⊢
    rw [List.map_singleton, ea] at h1
    rw [List.map_singleton, ee] at h2
    clear hA
    rcases cases8 k hk with rfl | rfl | rfl | rfl | rfl | rfl | rfl | rfl
    · have k1 : ∀ x, foldi (stepS 1) 0 0 (ordS 1 (A ++ [x])) = (3 * x + foldi gs1F 1 0 A.reverse) % 10 := by
        intro x
        show foldi (stepS 1) 0 0 (A ++ [x]).reverse = _
        rw [List.reverse_append]
        exact fold_mod1 gs1F (fun i d => (3 - (i : Int) % 2 * 2) * d) 10 rfl A.reverse x
      rw [k1] at h1 h2
      generalize foldi gs1F 1 0 A.reverse = W at *
      have r1 := (chr_dig _ e (by omega) (by omega) de h1).1
      have r2 := (chr_dig _ a (by omega) (by omega) da h2).1
      unfold hidV
      omega
    · have k1 : ∀ x, foldi (stepS 2) 0 0 (ordS 2 (A ++ [x])) = (luD x + foldi luhnF 1 0 A.reverse) % 10 := by
        intro x
        show foldi (stepS 2) 0 0 (A ++ [x]).reverse = _
        rw [List.reverse_append]
        exact fold_mod1 luhnF luX 10 rfl A.reverse x
      rw [k1] at h1 h2
      generalize foldi luhnF 1 0 A.reverse = W at *
      have r1 := (chr_dig _ e (by omega) (by omega) de h1).1
      have r2 := (chr_dig _ a (by omega) (by omega) da h2).1
      obtain ⟨x, hx⟩ := fin10 _ hva
      obtain ⟨y, hy⟩ := fin10 _ hve
      rw [hx, hy] at r1
      rw [hy, hx] at r2
      rw [hx, hy]
      have hc : (luD x.val + y.val - (luD y.val + x.val)) % 10 = 0 := by
        generalize luD x.val = u at *; generalize luD y.val = v at *
        omega
      unfold hidV
      rcases luhn_tab x y hc with h | ⟨g1, g2⟩ | ⟨g1, g2⟩
      · exact Or.inl (finv h)
      · rw [g1, g2]; exact Or.inr (Or.inr (Or.inl ⟨rfl, Or.inl ⟨rfl, rfl⟩⟩))
      · rw [g1, g2]; exact Or.inr (Or.inr (Or.inl ⟨rfl, Or.inr ⟨rfl, rfl⟩⟩))
    · have k1 : ∀ x, foldi (stepS 3) 0 0 (ordS 3 (A ++ [x])) = (2 * x + foldi isbnF 1 0 A.reverse) % 11 := by
        intro x
        show foldi (stepS 3) 0 0 (A ++ [x]).reverse = _
        rw [List.reverse_append]
        have := fold_mod1 isbnF (fun i d => ((i : Int) + 2) * d) 11 rfl A.reverse x
        exact this
      rw [k1] at h1 h2
      generalize foldi isbnF 1 0 A.reverse = W at *
      have r1 := (chr_dig _ e (by omega) (by omega) de h1).1
      have r2 := (chr_dig _ a (by omega) (by omega) da h2).1
      left; omega
    · have hr : ∀ d ∈ A.reverse, 0 ≤ d ∧ d < 10 := fun d hd => hvP d (List.mem_reverse.1 hd)
      have k1 : ∀ x, 0 ≤ x ∧ x < 10 → foldi (stepS 4) 0 0 (ordS 4 (A ++ [x])) = dih (permN 1 x) (foldi verF 1 0 A.reverse) := by
        intro x hx
        show foldi (stepS 4) 0 0 (A ++ [x]).reverse = _
        rw [List.reverse_append]
        exact ver_first A.reverse x hr hx
      rw [k1 _ hva] at h1
      rw [k1 _ hve] at h2
      have hb := fold_bd 4 hk A.reverse 1 0 hr ⟨Int.le_refl _, mS_pos 4⟩
      change 0 ≤ foldi verF 1 0 A.reverse ∧ foldi verF 1 0 A.reverse < 10 at hb
      generalize foldi verF 1 0 A.reverse = W at *
      obtain ⟨r, rfl⟩ := fin10 _ hb
      obtain ⟨x, hx⟩ := fin10 _ hva
      obtain ⟨y, hy⟩ := fin10 _ hve
      have b1 : ∀ z : Fin 10, 0 ≤ dinv (dih (permN 1 z.val) r.val) ∧ dinv (dih (permN 1 z.val) r.val) ≤ 9 := by
        intro z
        have := permN_tab 0 z
        obtain ⟨q, hq⟩ := fin10 _ this
        change permN 1 z.val = q.val at hq
        rw [hq]
        exact dinv_bd _ (by have := dih_tab q r; omega)
      rw [hx] at h1
      rw [hy] at h2
      have b2 := b1 x
      have b3 := b1 y
      have r1 := (chr_dig _ e b2.1 (by omega) de h1).1
      have r2 := (chr_dig _ a b3.1 (by omega) da h2).1
      rw [hy] at r1
      rw [hx] at r2
      rw [hx, hy]
      exact Or.inl (finv (ver_last x y r r1 r2))
    · have k1 : ∀ x, foldi (stepS 5) 0 0 (ordS 5 (A ++ [x])) = dammF 0 (foldi (stepS 5) 0 0 A) x := by
        intro x
        show foldi (stepS 5) 0 0 (A ++ [x]) = _
        rw [foldi_append]; rfl
      rw [k1] at h1 h2
      have hb := fold_bd 5 hk A 0 0 hvP ⟨Int.le_refl _, mS_pos 5⟩
      change 0 ≤ _ ∧ _ < 10 at hb
      generalize foldi (stepS 5) 0 0 A = W at *
      obtain ⟨r, rfl⟩ := fin10 _ hb
      obtain ⟨x, hx⟩ := fin10 _ hva
      obtain ⟨y, hy⟩ := fin10 _ hve
      rw [hx] at h1
      rw [hy] at h2
      have b2 := damm_one r.val x.val (by omega) (by omega)
      have b3 := damm_one r.val y.val (by omega) (by omega)
      have r1 := (chr_dig _ e b2.1 (by omega) de h1).1
      have r2 := (chr_dig _ a b3.1 (by omega) da h2).1
      rw [hy] at r1
      rw [hx] at r2
      rw [hx, hy]
      exact Or.inl (finv (damm_last r x y r1 r2))
    · have k1 : ∀ x, foldi (stepS 6) 0 0 (ordS 6 (A ++ [x])) = (10 * foldi (stepS 6) 0 0 A + x) % 97 := by
        intro x
        show foldi (stepS 6) 0 0 (A ++ [x]) = _
        rw [foldi_append]; rfl
      rw [k1] at h1 h2
      generalize foldi (stepS 6) 0 0 A = W at *
      obtain ⟨g1, g2⟩ := List.cons.inj (show [chr ((98 - 100 * ((10 * W + dg a) % 97) % 97) / 10), chr ((98 - 100 * ((10 * W + dg a) % 97) % 97) % 10)] = e :: Q from h1)
      obtain ⟨g3, g4⟩ := List.cons.inj (show [chr ((98 - 100 * ((10 * W + dg e) % 97) % 97) / 10), chr ((98 - 100 * ((10 * W + dg e) % 97) % 97) % 10)] = a :: Q from h2)
      rw [← g4] at g2
      have r1 := (chr_iff e _ (by omega) (by omega) de).1 g1
      have r2 := (chr_iff a _ (by omega) (by omega) da).1 g3
      have r3 := chr_inj _ _ (by omega) (by omega) (List.cons.inj g2).1
      left; omega
    · exact absurd rfl h7
    · have k1 : ∀ x, foldi (stepS 8) 0 0 (ordS 8 (A ++ [x])) = 2 * (foldi (stepS 8) 0 0 A + x) % 11 := by
        intro x
        show foldi (stepS 8) 0 0 (A ++ [x]) = _
        rw [foldi_append]; rfl
      rw [k1] at h1 h2
      generalize foldi (stepS 8) 0 0 A = W at *
      have r1 := (chr_dig _ e (by omega) (by omega) de h1).1
      have r2 := (chr_dig _ a (by omega) (by omega) da h2).1
      left; omega
  rcases fin with h | h
  · exact Or.inl (val_inj k a e ha he h)
  · exact Or.inr (hid_of k a e h h7)

/-- An exchange of neighbours is found. -/
theorem detect_two {k : Int} {D : List UInt8} (o : Ok k D) (P Q : List UInt8) (a b : UInt8) (hl : D ++ checkL k (bs D) = P ++ a :: b :: Q) (hv : verifyS k (bs (P ++ b :: a :: Q)) = 0) : a = b ∨ hidB k a b := by
  have hlen := check_len o
  rcases List.append_eq_append_iff.1 hl with ⟨A, hP, hE⟩ | ⟨C, hD, hC⟩
  · rw [hP, List.append_assoc, verify_zero k D (A ++ b :: a :: Q) (by rw [← hlen, hE]; simp)] at hv
    have := hv.2.2.2.2.2
    rw [hE] at this
    exact Or.inl (List.cons.inj (List.append_cancel_left this)).1
  · cases C with
    | nil =>
      rw [List.append_nil] at hD
      rw [List.nil_append] at hC
      rw [← hD, verify_zero k D (b :: a :: Q) (by rw [← hlen, ← hC]; simp)] at hv
      have := hv.2.2.2.2.2
      rw [← hC] at this
      exact Or.inl (List.cons.inj this).1
    | cons x C =>
      obtain ⟨rfl, hC2⟩ := List.cons.inj (show a :: b :: Q = x :: (C ++ checkL k (bs D)) from hC)
      cases C with
      | nil =>
        rw [List.nil_append] at hC2
        rw [show P ++ b :: a :: Q = (P ++ [b]) ++ (a :: Q) by simp, verify_zero k (P ++ [b]) (a :: Q) (by rw [← hlen, ← hC2]; simp)] at hv
        have hal := hv.2.2.2.1
        have hch := hv.2.2.2.2.2
        have hal0 := o.alpha
        rw [hD] at hC2 hal0
        exact swap_last o.hk P Q a b (fun c hc => hal c (by simp [hc])) (hal0 a (by simp)) (hal b (by simp)) hC2.symm hch
      | cons y B =>
        obtain ⟨rfl, hC3⟩ := List.cons.inj (show b :: Q = y :: (B ++ checkL k (bs D)) from hC2)
        rw [hC3, show P ++ b :: a :: (B ++ checkL k (bs D)) = (P ++ b :: a :: B) ++ checkL k (bs D) by simp, verify_zero k (P ++ b :: a :: B) _ hlen] at hv
        obtain ⟨_, _, _, hal, _, hch⟩ := hv
        have hal0 := o.alpha
        rw [hD] at hch hal0
        have he := check_inj o.hk hal0 hal hch.symm
        have hPa : ∀ b ∈ P, (alphaS k).data.toList.contains b = true := fun c hc => hal c (by simp [hc])
        have hBa : ∀ b ∈ B, (alphaS k).data.toList.contains b = true := fun c hc => hal c (by simp [hc])
        have haa := hal0 a (by simp)
        have hba := hal b (by simp)
        rw [List.map_append, List.map_append, List.map_cons, List.map_cons, List.map_cons, List.map_cons] at he
        have h9 : k = 3 → (P.map (valS k)).length + (B.map (valS k)).length = 7 := fun e => by
          have := o.nine e
          rw [hD] at this
          simp only [List.length_append, List.length_cons] at this
          simp only [List.length_map]; omega
        by_cases h7 : k = 7
        · exact Or.inr (Or.inl h7)
        rcases fold_two' k o.hk _ _ _ _ (ok_vals hPa) (ok_vals hBa) (val_bd k a haa) (val_bd k b hba) h9 he with h | h
        · exact Or.inl (val_inj k a b haa hba h)
        · exact Or.inr (hid_of k a b h h7)
end Go.Proofs.Ytcfgfeamcckmjaa.Chk
