/-
  Checkdigit: every system is a fold whose steps are one-to-one in the state and in the digit; what follows for changed and exchanged characters. Plain Lean.
-/
import Derived.Test.YtcfgfeamcckmjaaChkM
namespace Go.Proofs.Ytcfgfeamcckmjaa.Chk
open Go.RowKit Go.Proofs.YtcfgfeamcckmjaaW.PrintWords Go.Proofs.YtcfgfeamcckmjaaW.PrintLast Go.Proofs.YtcfgfeamcckmjaaW.PrintMore
set_option linter.unusedVariables false
set_option linter.unusedSimpArgs false

/-- The step of a system, its states (0 to mS-1), its digits (0 to qS-1), its values, its order, its check characters. -/
def stepS (k : Int) (i : Nat) (a d : Int) : Int :=
  if k = 1 then gs1F i a d % 10 else if k = 2 then luhnF i a d % 10 else if k = 3 then isbnF i a d % 11 else if k = 4 then verF i a d else if k = 5 then dammF i a d
  else if k = 6 then i97F i a d else if k = 7 then (a + d) % 43 else i11F i a d
def mS (k : Int) : Int := if k = 3 ∨ k = 8 then 11 else if k = 6 then 97 else if k = 7 then 43 else 10
def qS (k : Int) : Int := if k = 7 then 43 else 10
def valS (k : Int) (c : UInt8) : Int := if k = 7 then v39 c else dg c
def ordS (k : Int) (l : List Int) : List Int := if k ≤ 4 then l.reverse else l
def outS (k : Int) (a : Int) : List UInt8 :=
  if k = 1 ∨ k = 2 then [chr ((10 - a) % 10)] else if k = 3 then [chr ((11 - a) % 11)] else if k = 4 then [chr (dinv a)] else if k = 5 then [chr a]
  else if k = 6 then [chr ((98 - 100 * a % 97) / 10), chr ((98 - 100 * a % 97) % 10)] else if k = 7 then [chr39 a] else [chr ((12 - a) % 11)]
theorem foldi_mod (f : Nat → Int → Int → Int) (m : Int) (h : ∀ i a d, f i a d % m = f i (a % m) d % m) : ∀ (l : List Int) (i : Nat) (a : Int), foldi f i a l % m = foldi (fun i a d => f i a d % m) i (a % m) l
  | [], i, a => rfl
  | d :: l, i, a => by
    rw [foldi, foldi, foldi_mod f m h l]
    congr 1
    exact h i a d
theorem cases8 (k : Int) (h : 1 ≤ k ∧ k ≤ 8) : k = 1 ∨ k = 2 ∨ k = 3 ∨ k = 4 ∨ k = 5 ∨ k = 6 ∨ k = 7 ∨ k = 8 := by omega
theorem check_out (k : Int) (h : 1 ≤ k ∧ k ≤ 8) (D : List UInt8) : checkL k (bs D) = outS k (foldi (stepS k) 0 0 (ordS k (D.map (valS k)))) := by
  have add : ∀ (X a m : Int), (a + X) % m = (a % m + X) % m := fun X a m => by rw [Int.emod_add_emod]
  rcases cases8 k h with rfl | rfl | rfl | rfl | rfl | rfl | rfl | rfl
  · have := foldi_mod gs1F 10 (fun i a d => add _ a 10) (D.map dg).reverse 0 0
    show [chr ((10 - foldi gs1F 0 0 (D.map dg).reverse % 10) % 10)] = _
    rw [this]; rfl
  · have := foldi_mod luhnF 10 (fun i a d => add _ a 10) (D.map dg).reverse 0 0
    show [chr ((10 - foldi luhnF 0 0 (D.map dg).reverse % 10) % 10)] = _
    rw [this]; rfl
  · have := foldi_mod isbnF 11 (fun i a d => add _ a 11) (D.map dg).reverse 0 0
    show [chr ((11 - foldi isbnF 0 0 (D.map dg).reverse % 11) % 11)] = _
    rw [this]; rfl
  · rfl
  · rfl
  · rfl
  · have := foldi_mod (fun _ a d => a + d) 43 (fun i a d => add _ a 43) (D.map v39) 0 0
    show [chr39 (foldi (fun _ a d => a + d) 0 0 (D.map v39) % 43)] = _
    rw [this]; rfl
  · rfl

theorem ver_tab : ∀ i : Fin 8, ∀ a : Fin 10, ∀ d : Fin 10, 0 ≤ verF i.val a.val d.val ∧ verF i.val a.val d.val ≤ 9 := by decide +kernel
theorem ver_tab1 : ∀ i : Fin 8, ∀ a : Fin 10, ∀ b : Fin 10, ∀ d : Fin 10, verF i.val a.val d.val = verF i.val b.val d.val → a = b := by decide +kernel
theorem ver_tab2 : ∀ i : Fin 8, ∀ a : Fin 10, ∀ b : Fin 10, ∀ d : Fin 10, verF i.val d.val a.val = verF i.val d.val b.val → a = b := by decide +kernel
theorem ver_tab3 : ∀ i : Fin 8, ∀ p : Fin 10, ∀ a : Fin 10, ∀ b : Fin 10, verF ((i.val + 1) % 8) (verF i.val p.val a.val) b.val = verF ((i.val + 1) % 8) (verF i.val p.val b.val) a.val → a = b := by decide +kernel
theorem verF_mod (i : Nat) (a d : Int) : verF i a d = verF (i % 8) a d := by unfold verF; rw [Nat.mod_mod]
theorem verF_next (i : Nat) (a d : Int) : verF (i + 1) a d = verF ((i % 8 + 1) % 8) a d := by unfold verF; rw [show (i + 1) % 8 = (i % 8 + 1) % 8 % 8 by omega]
theorem damm_tab1 : ∀ a : Fin 10, ∀ b : Fin 10, ∀ d : Fin 10, dammF 0 a.val d.val = dammF 0 b.val d.val → a = b := by decide +kernel
theorem damm_tab2 : ∀ a : Fin 10, ∀ b : Fin 10, ∀ d : Fin 10, dammF 0 d.val a.val = dammF 0 d.val b.val → a = b := by decide +kernel
theorem damm_tab3 : ∀ p : Fin 10, ∀ a : Fin 10, ∀ b : Fin 10, dammF 0 (dammF 0 p.val a.val) b.val = dammF 0 (dammF 0 p.val b.val) a.val → a = b := by decide +kernel
theorem fin10 (x : Int) (h : 0 ≤ x ∧ x < 10) : ∃ n : Fin 10, x = (n.val : Int) := ⟨⟨x.toNat, by omega⟩, by simp; omega⟩
theorem finv {a b : Fin 10} (h : a = b) : (a.val : Int) = b.val := by rw [h]

theorem step_bd (k : Int) (h : 1 ≤ k ∧ k ≤ 8) (i : Nat) (a d : Int) (ha : 0 ≤ a ∧ a < mS k) (hd : 0 ≤ d ∧ d < qS k) : 0 ≤ stepS k i a d ∧ stepS k i a d < mS k := by
  rcases cases8 k h with rfl | rfl | rfl | rfl | rfl | rfl | rfl | rfl
  · show 0 ≤ gs1F i a d % 10 ∧ gs1F i a d % 10 < 10
    omega
  · show 0 ≤ luhnF i a d % 10 ∧ luhnF i a d % 10 < 10
    omega
  · show 0 ≤ isbnF i a d % 11 ∧ isbnF i a d % 11 < 11
    omega
  · obtain ⟨a, rfl⟩ := fin10 a ha
    obtain ⟨d, rfl⟩ := fin10 d hd
    have := ver_tab ⟨i % 8, by omega⟩ a d
    show 0 ≤ verF i a.val d.val ∧ verF i a.val d.val < 10
    rw [verF_mod]
    simp only at this
    omega
  · obtain ⟨a, rfl⟩ := fin10 a ha
    obtain ⟨d, rfl⟩ := fin10 d hd
    have := damm_one a.val d.val (by omega) (by omega)
    show 0 ≤ dammF 0 a.val d.val ∧ dammF 0 a.val d.val < 10
    omega
  · show 0 ≤ i97F i a d ∧ i97F i a d < 97
    unfold i97F; omega
  · show 0 ≤ (a + d) % 43 ∧ (a + d) % 43 < 43
    omega
  · show 0 ≤ i11F i a d ∧ i11F i a d < 11
    unfold i11F; omega
theorem step_inj1 (k : Int) (h : 1 ≤ k ∧ k ≤ 8) (i : Nat) (a b d : Int) (ha : 0 ≤ a ∧ a < mS k) (hb : 0 ≤ b ∧ b < mS k) (hd : 0 ≤ d ∧ d < qS k) (he : stepS k i a d = stepS k i b d) : a = b := by
  rcases cases8 k h with rfl | rfl | rfl | rfl | rfl | rfl | rfl | rfl
  · change 0 ≤ a ∧ a < 10 at ha; change 0 ≤ b ∧ b < 10 at hb
    change gs1F i a d % 10 = gs1F i b d % 10 at he
    unfold gs1F at he
    generalize (3 - (i : Int) % 2 * 2) * d = X at he
    omega
  · change 0 ≤ a ∧ a < 10 at ha; change 0 ≤ b ∧ b < 10 at hb
    change luhnF i a d % 10 = luhnF i b d % 10 at he
    unfold luhnF at he
    generalize (if i % 2 = 0 then d * 2 / 10 + d * 2 % 10 else d) = X at he
    omega
  · change 0 ≤ a ∧ a < 11 at ha; change 0 ≤ b ∧ b < 11 at hb
    change isbnF i a d % 11 = isbnF i b d % 11 at he
    unfold isbnF at he
    generalize ((i : Int) + 2) * d = X at he
    omega
  · obtain ⟨a, rfl⟩ := fin10 a ha
    obtain ⟨b, rfl⟩ := fin10 b hb
    obtain ⟨d, rfl⟩ := fin10 d hd
    change verF i a.val d.val = verF i b.val d.val at he
    rw [verF_mod, verF_mod i b.val] at he
    exact finv (ver_tab1 ⟨i % 8, by omega⟩ a b d he)
  · obtain ⟨a, rfl⟩ := fin10 a ha
    obtain ⟨b, rfl⟩ := fin10 b hb
    obtain ⟨d, rfl⟩ := fin10 d hd
    exact finv (damm_tab1 a b d he)
  · change 0 ≤ a ∧ a < 97 at ha; change 0 ≤ b ∧ b < 97 at hb
    change i97F i a d = i97F i b d at he
    unfold i97F at he
    omega
  · change 0 ≤ a ∧ a < 43 at ha; change 0 ≤ b ∧ b < 43 at hb
    change (a + d) % 43 = (b + d) % 43 at he
    omega
  · change 0 ≤ a ∧ a < 11 at ha; change 0 ≤ b ∧ b < 11 at hb
    change i11F i a d = i11F i b d at he
    unfold i11F at he
    omega
theorem step_inj2 (k : Int) (h : 1 ≤ k ∧ k ≤ 8) (i : Nat) (hi : k = 3 → i ≤ 8) (a b d : Int) (ha : 0 ≤ a ∧ a < qS k) (hb : 0 ≤ b ∧ b < qS k) (hd : 0 ≤ d ∧ d < mS k) (he : stepS k i d a = stepS k i d b) : a = b := by
  rcases cases8 k h with rfl | rfl | rfl | rfl | rfl | rfl | rfl | rfl
  · change 0 ≤ a ∧ a < 10 at ha; change 0 ≤ b ∧ b < 10 at hb
    change gs1F i d a % 10 = gs1F i d b % 10 at he
    unfold gs1F at he
    rcases (by omega : (i : Int) % 2 = 0 ∨ (i : Int) % 2 = 1) with e | e <;> rw [e] at he <;> omega
  · change 0 ≤ a ∧ a < 10 at ha; change 0 ≤ b ∧ b < 10 at hb
    change luhnF i d a % 10 = luhnF i d b % 10 at he
    unfold luhnF at he
    split at he <;> omega
  · change 0 ≤ a ∧ a < 10 at ha; change 0 ≤ b ∧ b < 10 at hb
    change isbnF i d a % 11 = isbnF i d b % 11 at he
    unfold isbnF at he
    have := hi rfl
    rcases (by omega : i = 0 ∨ i = 1 ∨ i = 2 ∨ i = 3 ∨ i = 4 ∨ i = 5 ∨ i = 6 ∨ i = 7 ∨ i = 8) with rfl | rfl | rfl | rfl | rfl | rfl | rfl | rfl | rfl <;> omega
  · obtain ⟨a, rfl⟩ := fin10 a ha
    obtain ⟨b, rfl⟩ := fin10 b hb
    obtain ⟨d, rfl⟩ := fin10 d hd
    change verF i d.val a.val = verF i d.val b.val at he
    rw [verF_mod, verF_mod i _ b.val] at he
    exact finv (ver_tab2 ⟨i % 8, by omega⟩ a b d he)
  · obtain ⟨a, rfl⟩ := fin10 a ha
    obtain ⟨b, rfl⟩ := fin10 b hb
    obtain ⟨d, rfl⟩ := fin10 d hd
    exact finv (damm_tab2 a b d he)
  · change 0 ≤ a ∧ a < 10 at ha; change 0 ≤ b ∧ b < 10 at hb
    change i97F i d a = i97F i d b at he
    unfold i97F at he
    omega
  · change 0 ≤ a ∧ a < 43 at ha; change 0 ≤ b ∧ b < 43 at hb
    change (d + a) % 43 = (d + b) % 43 at he
    omega
  · change 0 ≤ a ∧ a < 10 at ha; change 0 ≤ b ∧ b < 10 at hb
    change i11F i d a = i11F i d b at he
    unfold i11F at he
    omega
/-- What the chapter lets a system overlook, told for values. -/
def hidV (k : Int) (a b : Int) : Prop := k = 7 ∨ (k = 2 ∧ (a = 0 ∧ b = 9 ∨ a = 9 ∧ b = 0)) ∨ (k = 1 ∧ (a - b = 5 ∨ b - a = 5))
def luD (d : Int) : Int := d * 2 / 10 + d * 2 % 10
def luX (i : Nat) (d : Int) : Int := if i % 2 = 0 then luD d else d
theorem luhn_tab : ∀ a : Fin 10, ∀ b : Fin 10, (luD a.val + b.val - (luD b.val + a.val)) % 10 = 0 → a = b ∨ (a = 0 ∧ b = 9) ∨ (a = 9 ∧ b = 0) := by decide +kernel
theorem step_swap (k : Int) (h : 1 ≤ k ∧ k ≤ 8) (i : Nat) (hi : k = 3 → i + 1 ≤ 8) (p a b : Int) (hp : 0 ≤ p ∧ p < mS k) (ha : 0 ≤ a ∧ a < qS k) (hb : 0 ≤ b ∧ b < qS k) (he : stepS k (i + 1) (stepS k i p a) b = stepS k (i + 1) (stepS k i p b) a) : a = b ∨ hidV k a b := by
  rcases cases8 k h with rfl | rfl | rfl | rfl | rfl | rfl | rfl | rfl
  · change 0 ≤ a ∧ a < 10 at ha; change 0 ≤ b ∧ b < 10 at hb
    change gs1F (i + 1) (gs1F i p a % 10) b % 10 = gs1F (i + 1) (gs1F i p b % 10) a % 10 at he
    unfold gs1F at he
    unfold hidV
    rcases (by omega : (i : Int) % 2 = 0 ∨ (i : Int) % 2 = 1) with e | e
    · rw [e, show ((i + 1 : Nat) : Int) % 2 = 1 by omega] at he; omega
    · rw [e, show ((i + 1 : Nat) : Int) % 2 = 0 by omega] at he; omega
  · change 0 ≤ a ∧ a < 10 at ha; change 0 ≤ b ∧ b < 10 at hb
    change luhnF (i + 1) (luhnF i p a % 10) b % 10 = luhnF (i + 1) (luhnF i p b % 10) a % 10 at he
    have key : a = b ∨ (a = 0 ∧ b = 9 ∨ a = 9 ∧ b = 0) := by
      obtain ⟨a, rfl⟩ := fin10 a ha
      obtain ⟨b, rfl⟩ := fin10 b hb
      have hc : (luD a.val + b.val - (luD b.val + a.val)) % 10 = 0 := by
        change ((p + luX i a.val) % 10 + luX (i + 1) b.val) % 10 = ((p + luX i b.val) % 10 + luX (i + 1) a.val) % 10 at he
        unfold luX at he
        by_cases e : i % 2 = 0
        · simp only [if_pos e, if_neg (show ¬ (i + 1) % 2 = 0 by omega)] at he
          generalize luD a.val = u at *; generalize luD b.val = v at *
          omega
        · simp only [if_neg e, if_pos (show (i + 1) % 2 = 0 by omega)] at he
          generalize luD a.val = u at *; generalize luD b.val = v at *
          omega
      rcases luhn_tab a b hc with h | ⟨h1, h2⟩ | ⟨h1, h2⟩
      · exact Or.inl (finv h)
      · rw [h1, h2]; exact Or.inr (Or.inl ⟨rfl, rfl⟩)
      · rw [h1, h2]; exact Or.inr (Or.inr ⟨rfl, rfl⟩)
    rcases key with h | h
    · exact Or.inl h
    · exact Or.inr (Or.inr (Or.inl ⟨rfl, h⟩))
  · change 0 ≤ a ∧ a < 10 at ha; change 0 ≤ b ∧ b < 10 at hb
    change isbnF (i + 1) (isbnF i p a % 11) b % 11 = isbnF (i + 1) (isbnF i p b % 11) a % 11 at he
    unfold isbnF at he
    have := hi rfl
    left
    rcases (by omega : i = 0 ∨ i = 1 ∨ i = 2 ∨ i = 3 ∨ i = 4 ∨ i = 5 ∨ i = 6 ∨ i = 7) with rfl | rfl | rfl | rfl | rfl | rfl | rfl | rfl <;> omega
  · obtain ⟨a, rfl⟩ := fin10 a ha
    obtain ⟨b, rfl⟩ := fin10 b hb
    obtain ⟨p, rfl⟩ := fin10 p hp
    change verF (i + 1) (verF i p.val a.val) b.val = verF (i + 1) (verF i p.val b.val) a.val at he
    rw [verF_mod i, verF_mod i p.val b.val, verF_next, verF_next i _ a.val] at he
    exact Or.inl (finv (ver_tab3 ⟨i % 8, by omega⟩ p a b he))
  · obtain ⟨a, rfl⟩ := fin10 a ha
    obtain ⟨b, rfl⟩ := fin10 b hb
    obtain ⟨p, rfl⟩ := fin10 p hp
    exact Or.inl (finv (damm_tab3 p a b he))
  · change 0 ≤ a ∧ a < 10 at ha; change 0 ≤ b ∧ b < 10 at hb
    change i97F (i + 1) (i97F i p a) b = i97F (i + 1) (i97F i p b) a at he
    unfold i97F at he
    left; omega
  · exact Or.inr (Or.inl rfl)
  · change 0 ≤ a ∧ a < 10 at ha; change 0 ≤ b ∧ b < 10 at hb
    change i11F (i + 1) (i11F i p a) b = i11F (i + 1) (i11F i p b) a at he
    unfold i11F at he
    left; omega

theorem fold_bd (k : Int) (h : 1 ≤ k ∧ k ≤ 8) : ∀ (l : List Int) (i : Nat) (a : Int), (∀ d ∈ l, 0 ≤ d ∧ d < qS k) → 0 ≤ a ∧ a < mS k → 0 ≤ foldi (stepS k) i a l ∧ foldi (stepS k) i a l < mS k
  | [], i, a, hl, ha => ha
  | d :: l, i, a, hl, ha => fold_bd k h l (i + 1) _ (fun x hx => hl x (List.mem_cons_of_mem _ hx)) (step_bd k h i a d ha (hl d List.mem_cons_self))
theorem fold_inj (k : Int) (h : 1 ≤ k ∧ k ≤ 8) : ∀ (l : List Int) (i : Nat) (a b : Int), (∀ d ∈ l, 0 ≤ d ∧ d < qS k) → 0 ≤ a ∧ a < mS k → 0 ≤ b ∧ b < mS k → foldi (stepS k) i a l = foldi (stepS k) i b l → a = b
  | [], i, a, b, hl, ha, hb, he => he
  | d :: l, i, a, b, hl, ha, hb, he => by
    have hd := hl d List.mem_cons_self
    have := fold_inj k h l (i + 1) _ _ (fun x hx => hl x (List.mem_cons_of_mem _ hx)) (step_bd k h i a d ha hd) (step_bd k h i b d hb hd) he
    exact step_inj1 k h i a b d ha hb hd this
theorem mS_pos (k : Int) : 0 < mS k := by
  unfold mS
  repeat' split
  all_goals omega
theorem fold_one (k : Int) (h : 1 ≤ k ∧ k ≤ 8) (A B : List Int) (a b : Int) (hA : ∀ d ∈ A, 0 ≤ d ∧ d < qS k) (hB : ∀ d ∈ B, 0 ≤ d ∧ d < qS k) (ha : 0 ≤ a ∧ a < qS k) (hb : 0 ≤ b ∧ b < qS k) (hi : k = 3 → A.length ≤ 8)
    (he : foldi (stepS k) 0 0 (A ++ a :: B) = foldi (stepS k) 0 0 (A ++ b :: B)) : a = b := by
  rw [foldi_append, foldi_append] at he
  have hp := fold_bd k h A 0 0 hA ⟨Int.le_refl _, mS_pos k⟩
  have := fold_inj k h B _ _ _ hB (step_bd k h _ _ a hp ha) (step_bd k h _ _ b hp hb) he
  exact step_inj2 k h _ (fun e => by have := hi e; omega) a b _ ha hb hp this
theorem fold_two (k : Int) (h : 1 ≤ k ∧ k ≤ 8) (A B : List Int) (a b : Int) (hA : ∀ d ∈ A, 0 ≤ d ∧ d < qS k) (hB : ∀ d ∈ B, 0 ≤ d ∧ d < qS k) (ha : 0 ≤ a ∧ a < qS k) (hb : 0 ≤ b ∧ b < qS k) (hi : k = 3 → A.length + 1 ≤ 8)
    (he : foldi (stepS k) 0 0 (A ++ a :: b :: B) = foldi (stepS k) 0 0 (A ++ b :: a :: B)) : a = b ∨ hidV k a b := by
  rw [foldi_append, foldi_append] at he
  have hp := fold_bd k h A 0 0 hA ⟨Int.le_refl _, mS_pos k⟩
  have := fold_inj k h B _ _ _ hB (step_bd k h _ _ b (step_bd k h _ _ a hp ha) hb) (step_bd k h _ _ a (step_bd k h _ _ b hp hb) ha) he
  exact step_swap k h _ (fun e => by have := hi e; omega) _ a b hp ha hb this

theorem chr_tab : ∀ a : Fin 11, ∀ b : Fin 11, chr a.val = chr b.val → a = b := by decide +kernel
theorem chr_inj (a b : Int) (ha : 0 ≤ a ∧ a ≤ 10) (hb : 0 ≤ b ∧ b ≤ 10) (h : chr a = chr b) : a = b := by
  have := chr_tab ⟨a.toNat, by omega⟩ ⟨b.toNat, by omega⟩
  simp only [Fin.mk.injEq] at this
  rw [show ((a.toNat : Nat) : Int) = a by omega, show ((b.toNat : Nat) : Int) = b by omega] at this
  have := this h
  omega
theorem chr39_tab : ∀ a : Fin 43, ∀ b : Fin 43, chr39 a.val = chr39 b.val → a = b := by decide +kernel
theorem dinv_tab : ∀ a : Fin 10, ∀ b : Fin 10, dinv a.val = dinv b.val → a = b := by decide +kernel
theorem out_inj (k : Int) (h : 1 ≤ k ∧ k ≤ 8) (a b : Int) (ha : 0 ≤ a ∧ a < mS k) (hb : 0 ≤ b ∧ b < mS k) (he : outS k a = outS k b) : a = b := by
  rcases cases8 k h with rfl | rfl | rfl | rfl | rfl | rfl | rfl | rfl
  · change 0 ≤ a ∧ a < 10 at ha; change 0 ≤ b ∧ b < 10 at hb
    have := chr_inj _ _ (by omega) (by omega) (List.cons.inj he).1
    omega
  · change 0 ≤ a ∧ a < 10 at ha; change 0 ≤ b ∧ b < 10 at hb
    have := chr_inj _ _ (by omega) (by omega) (List.cons.inj he).1
    omega
  · change 0 ≤ a ∧ a < 11 at ha; change 0 ≤ b ∧ b < 11 at hb
    have := chr_inj _ _ (by omega) (by omega) (List.cons.inj he).1
    omega
  · change 0 ≤ a ∧ a < 10 at ha; change 0 ≤ b ∧ b < 10 at hb
    have h1 := dinv_bd a (by omega)
    have h2 := dinv_bd b (by omega)
    have h3 := chr_inj _ _ (by omega) (by omega) (List.cons.inj he).1
    obtain ⟨a, rfl⟩ := fin10 a ha
    obtain ⟨b, rfl⟩ := fin10 b hb
    exact finv (dinv_tab a b h3)
  · change 0 ≤ a ∧ a < 10 at ha; change 0 ≤ b ∧ b < 10 at hb
    exact chr_inj _ _ (by omega) (by omega) (List.cons.inj he).1
  · change 0 ≤ a ∧ a < 97 at ha; change 0 ≤ b ∧ b < 97 at hb
    have h1 := chr_inj _ _ (by omega) (by omega) (List.cons.inj he).1
    have h2 := chr_inj _ _ (by omega) (by omega) (List.cons.inj (List.cons.inj he).2).1
    omega
  · change 0 ≤ a ∧ a < 43 at ha; change 0 ≤ b ∧ b < 43 at hb
    have := chr39_tab ⟨a.toNat, by omega⟩ ⟨b.toNat, by omega⟩
    simp only [Fin.mk.injEq] at this
    rw [show ((a.toNat : Nat) : Int) = a by omega, show ((b.toNat : Nat) : Int) = b by omega] at this
    have := this (List.cons.inj he).1
    omega
  · change 0 ≤ a ∧ a < 11 at ha; change 0 ≤ b ∧ b < 11 at hb
    have := chr_inj _ _ (by omega) (by omega) (List.cons.inj he).1
    omega
end Go.Proofs.Ytcfgfeamcckmjaa.Chk
