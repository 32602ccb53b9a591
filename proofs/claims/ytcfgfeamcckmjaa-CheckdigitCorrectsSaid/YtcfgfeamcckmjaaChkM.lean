/-
  Checkdigit: the mathematics of the check equations, in plain Lean (no program in sight).
-/
import Derived.Test.YtcfgfeamcckmjaaChkT
import Derived.Test.YtcfgfeamcckmjaaChkV
namespace Go.Proofs.Ytcfgfeamcckmjaa.Chk
open Go.RowKit Go.Proofs.YtcfgfeamcckmjaaW.PrintWords Go.Proofs.YtcfgfeamcckmjaaW.PrintLast Go.Proofs.YtcfgfeamcckmjaaW.PrintMore
set_option linter.unusedVariables false
set_option linter.unusedSimpArgs false

/-- A string of a list of bytes. -/
def bs (l : List UInt8) : ByteArray := ⟨l.toArray⟩
theorem bs_data (l : List UInt8) : (bs l).data.toList = l := rfl
theorem bs_size (l : List UInt8) : (bs l).size = l.length := by simp [bs, ByteArray.size]
theorem bs_of (s : ByteArray) : bs s.data.toList = s := by cases s; rfl
theorem bs_inj {a b : List UInt8} (h : bs a = bs b) : a = b := by
  have := congrArg (fun s : ByteArray => s.data.toList) h
  simpa [bs] using this
theorem bs_vals (l : List UInt8) : vals (bs l) = l.map dg := rfl
theorem bs_v39 (l : List UInt8) : v39s (bs l) = l.map v39 := rfl
theorem bs_app (a b : List UInt8) : bs a ++ bs b = bs (a ++ b) := by
  apply ByteArray.ext
  simp [bs]
theorem bs_ext (l : List UInt8) (a b : Nat) : (bs l).extract a b = bs ((l.take b).drop a) := by
  apply ByteArray.ext
  apply Array.ext'
  simp [bs, List.extract_eq_take_drop, List.drop_take]
/-- Verify's answer 0, told for data D and check characters E. -/
theorem verify_zero (k : Int) (D E : List UInt8) (hE : E.length = sizeS k) : verifyS k (bs (D ++ E)) = 0 ↔
    (1 ≤ k ∧ k ≤ 8) ∧ D.length + E.length ≤ 4096 ∧ wrongB k ((D.length + E.length : Nat) : Int) = false ∧ (∀ c ∈ D, (alphaS k).data.toList.contains c = true) ∧ (∀ c ∈ E, (alphaXS k).data.toList.contains c = true) ∧ checkL k (bs D) = E := by
  unfold verifyS
  have e0 : (bs (D ++ E)).size = D.length + E.length := by rw [bs_size, List.length_append]
  have e1 : (bs (D ++ E)).extract 0 ((bs (D ++ E)).size - sizeS k) = bs D := by
    rw [e0, bs_ext, ← hE]; simp
  have e2 : (bs (D ++ E)).extract ((bs (D ++ E)).size - sizeS k) (bs (D ++ E)).size = bs E := by
    rw [e0, bs_ext, ← hE, show D.length + E.length = (D ++ E).length by simp, List.take_length]; simp
  rw [e1, e2, e0]
  have w1 : withinB (bs D) (alphaS k) = true ↔ ∀ c ∈ D, (alphaS k).data.toList.contains c = true := by
    unfold withinB; rw [bs_data, List.all_eq_true]
  have w2 : withinB (bs E) (alphaXS k) = true ↔ ∀ c ∈ E, (alphaXS k).data.toList.contains c = true := by
    unfold withinB; rw [bs_data, List.all_eq_true]
  have w3 : checkS k (bs D) = bs E ↔ checkL k (bs D) = E := ⟨fun h => bs_inj h, fun h => congrArg bs h⟩
  rw [← w1, ← w2, ← w3]
  by_cases a : 1 ≤ k ∧ k ≤ 8
  case neg => rw [if_pos a]; exact ⟨fun h => by omega, fun h => absurd h.1 a⟩
  rw [if_neg (fun h => h a)]
  by_cases b : 4096 < D.length + E.length
  · rw [if_pos b]; exact ⟨fun h => by omega, fun h => by omega⟩
  rw [if_neg b]
  cases c : wrongB k ((D.length + E.length : Nat) : Int)
  case true => rw [if_pos rfl]; exact ⟨fun h => by omega, fun h => by simp at h⟩
  rw [if_neg (by simp)]
  cases d : withinB (bs D) (alphaS k)
  · rw [if_pos (Or.inl rfl)]; exact ⟨fun h => by omega, fun h => by simp at h⟩
  cases e : withinB (bs E) (alphaXS k)
  · rw [if_pos (Or.inr rfl)]; exact ⟨fun h => by omega, fun h => by simp at h⟩
  rw [if_neg (by simp)]
  by_cases f : checkS k (bs D) = bs E
  · rw [if_neg (fun h => h f)]; exact ⟨fun _ => ⟨a, by omega, rfl, rfl, rfl, f⟩, fun _ => rfl⟩
  · rw [if_pos f]; exact ⟨fun h => by omega, fun h => absurd h.2.2.2.2.2 f⟩

theorem dig_iff (c : UInt8) : alpha10.data.toList.contains c = true ↔ 48 ≤ c.toNat ∧ c.toNat ≤ 57 :=
  u8_all (fun c => alpha10.data.toList.contains c = true ↔ 48 ≤ c.toNat ∧ c.toNat ≤ 57) (by decide +kernel) c
theorem chr_iff (c : UInt8) (v : Int) (h0 : 0 ≤ v) (h1 : v ≤ 10) (hc : 48 ≤ c.toNat ∧ c.toNat ≤ 57) : chr v = c ↔ v = dg c := by
  have := u8_all (fun c => ∀ v : Fin 11, (48 ≤ c.toNat ∧ c.toNat ≤ 57) → (chr (v.val : Int) = c ↔ (v.val : Int) = dg c)) (by decide +kernel) c ⟨v.toNat, by omega⟩ hc
  rwa [show ((v.toNat : Nat) : Int) = v by omega] at this

theorem emod_mul (a b m : Int) : a % m * b % m = a * b % m := by rw [Int.mul_emod, Int.emod_emod_of_dvd _ (Int.dvd_refl m), ← Int.mul_emod]
/-- A sum with weights, from place i on. -/
def wsum (ws : List Int) : Nat → List Int → Int
  | _, [] => 0
  | i, d :: l => ws.getD (i % ws.length) 0 * d + wsum ws (i + 1) l
theorem wsum_nonneg (ws : List Int) (hw : ∀ j, 0 ≤ ws.getD j 0) : ∀ (l : List Int) (i : Nat), (∀ d ∈ l, 0 ≤ d) → 0 ≤ wsum ws i l
  | [], i, h => Int.le_refl _
  | d :: l, i, h => by
    unfold wsum
    have h1 := wsum_nonneg ws hw l (i + 1) (fun d hd => h d (List.mem_cons_of_mem _ hd))
    have h2 := Int.mul_nonneg (hw (i % ws.length)) (h d List.mem_cons_self)
    omega
theorem wsum_append (ws : List Int) : ∀ (l m : List Int) (i : Nat), wsum ws i (l ++ m) = wsum ws i l + wsum ws (i + l.length) m
  | [], m, i => by simp [wsum]
  | d :: l, m, i => by
    rw [List.cons_append, wsum, wsum, wsum_append ws l m, List.length_cons, show i + 1 + l.length = i + (l.length + 1) by omega]
    omega
theorem wF_sum (ws : List Int) (m : Int) (hm : 1 ≤ m) (hw : ∀ j, 0 ≤ ws.getD j 0) : ∀ (l : List Int) (i : Nat) (a : Int), (∀ d ∈ l, 0 ≤ d) → 0 ≤ a →
    0 ≤ foldi (wF ws m) i a l ∧ foldi (wF ws m) i a l % m = (a + wsum ws i l) % m
  | [], i, a, h, ha => by simp [foldi, wsum, ha]
  | d :: l, i, a, h, ha => by
    have hd := h d List.mem_cons_self
    have h1 := hw (i % ws.length)
    have e : wF ws m i a d = (a + ws.getD (i % ws.length) 0 % m * d) % m := by
      unfold wF
      rw [Int.tmod_eq_emod_of_nonneg h1]
      have : 0 ≤ ws.getD (i % ws.length) 0 % m := Int.emod_nonneg _ (by omega)
      rw [Int.tmod_eq_emod_of_nonneg (Int.add_nonneg ha (Int.mul_nonneg this hd))]
    have hp : 0 ≤ wF ws m i a d := by rw [e]; exact Int.emod_nonneg _ (by omega)
    obtain ⟨r1, r2⟩ := wF_sum ws m hm hw l (i + 1) (wF ws m i a d) (fun d hd => h d (List.mem_cons_of_mem _ hd)) hp
    refine ⟨r1, ?_⟩
    show foldi (wF ws m) (i + 1) (wF ws m i a d) l % m = _
    rw [r2, e, wsum, Int.emod_add_emod, ← Int.add_assoc]
    rw [Int.add_emod, Int.add_emod (a + _ * d)]
    congr 2
    rw [Int.add_emod a, Int.add_emod a (ws.getD (i % ws.length) 0 * d)]
    congr 2
    rw [emod_mul]
theorem weigh_dec (l : List UInt8) (ws : List Int) (m : Int) (hm : 1 ≤ m ∧ m ≤ 65536) (hn : ws.length ≠ 0) (hw : ∀ j, 0 ≤ ws.getD j 0) (hs : l.length ≤ 4096) (hd : ∀ c ∈ l, 48 ≤ c.toNat ∧ c.toNat ≤ 57) :
    weighS (bs l) ws m = (wsum ws 0 (l.map dg).reverse % m, 0) := by
  unfold weighS
  have h1 : withinB (bs l) alpha10 = true := by
    unfold withinB; rw [bs_data, List.all_eq_true]; intro c hc; exact (dig_iff c).2 (hd c hc)
  rw [if_neg (by omega), if_neg hn, if_neg (by rw [bs_size]; omega), h1, if_neg (by simp)]
  have hb : ∀ d ∈ (l.map dg).reverse, 0 ≤ d := by
    intro d h
    obtain ⟨c, hc, rfl⟩ := List.mem_map.1 (List.mem_reverse.1 h)
    have := hd c hc
    unfold dg; omega
  have := wF_sum ws m hm.1 hw (rvals (bs l)) 0 0 hb (Int.le_refl _)
  rw [Int.add_emod_right, this.2, Int.zero_add]
  rfl

theorem gs1_sum : ∀ (l : List Int) (i : Nat) (a : Int), foldi gs1F i a l = a + wsum [1, 3] (i + 1) l
  | [], i, a => by simp [foldi, wsum]
  | d :: l, i, a => by
    rw [foldi, gs1_sum l, wsum]
    have : ([1, 3] : List Int).getD ((i + 1) % ([1, 3] : List Int).length) 0 = 3 - (i : Int) % 2 * 2 := by
      show ([1, 3] : List Int).getD ((i + 1) % 2) 0 = _
      rcases (by omega : i % 2 = 0 ∨ i % 2 = 1) with h | h
      · rw [show (i + 1) % 2 = 1 by omega, show (i : Int) % 2 = 0 by omega]; rfl
      · rw [show (i + 1) % 2 = 0 by omega, show (i : Int) % 2 = 1 by omega]; rfl
    rw [this]
    unfold gs1F
    omega
def wI : List Int := [1, 2, 3, 4, 5, 6, 7, 8, 9, 10]
theorem isbn_sum : ∀ (l : List Int) (i : Nat) (a : Int), i + l.length ≤ 9 → foldi isbnF i a l = a + wsum wI (i + 1) l
  | [], i, a, h => by simp [foldi, wsum]
  | d :: l, i, a, h => by
    rw [List.length_cons] at h
    rw [foldi, isbn_sum l (i + 1) _ (by omega), wsum]
    have : wI.getD ((i + 1) % wI.length) 0 = (i : Int) + 2 := by
      have hh : ∀ j : Fin 9, wI.getD ((j.val + 1) % wI.length) 0 = (j.val : Int) + 2 := by decide
      exact hh ⟨i, by omega⟩
    rw [this]
    unfold isbnF
    omega
def w11 : List Int := [1, 2, 4, 8, 5, 10, 9, 7, 3, 6]
theorem w11_next (i : Nat) : w11.getD ((i + 1) % w11.length) 0 = 2 * w11.getD (i % w11.length) 0 % 11 := by
  have hh : ∀ j : Fin 10, w11.getD ((j.val + 1) % 10) 0 = 2 * w11.getD j.val 0 % 11 := by decide
  have := hh ⟨i % 10, by omega⟩
  show w11.getD ((i + 1) % 10) 0 = 2 * w11.getD (i % 10) 0 % 11
  rw [← this]
  congr 1
  show (i + 1) % 10 = (i % 10 + 1) % 10
  omega
theorem w11_shift : ∀ (l : List Int) (i : Nat), wsum w11 (i + 1) l % 11 = 2 * wsum w11 i l % 11
  | [], i => by simp [wsum]
  | d :: l, i => by
    rw [wsum, wsum, w11_next, Int.add_emod, w11_shift l (i + 1)]
    generalize w11.getD (i % w11.length) 0 = x
    generalize wsum w11 (i + 1) l = y
    rw [emod_mul, ← Int.add_emod, Int.mul_add, Int.mul_assoc]
theorem i11_sum (l : List Int) : foldi i11F 0 0 l % 11 = wsum w11 1 l.reverse % 11 := by
  have h : ∀ (r : List Int), foldi i11F 0 0 r.reverse % 11 = wsum w11 1 r % 11 := by
    intro r
    induction r with
    | nil => rfl
    | cons d r ih =>
      rw [List.reverse_cons, foldi_append, wsum]
      show i11F (0 + r.reverse.length) (foldi i11F 0 0 r.reverse) d % 11 = (2 * d + wsum w11 2 r) % 11
      have := w11_shift r 1
      generalize foldi i11F 0 0 r.reverse = p at *
      generalize wsum w11 1 r = q at *
      generalize wsum w11 2 r = q2 at *
      unfold i11F
      omega
  have := h l.reverse
  rwa [List.reverse_reverse] at this
end Go.Proofs.Ytcfgfeamcckmjaa.Chk
