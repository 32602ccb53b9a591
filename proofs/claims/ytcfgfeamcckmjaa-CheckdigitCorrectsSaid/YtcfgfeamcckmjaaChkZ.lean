/-
  Checkdigit: the reference's Corrections returns what the program's returns: both are strictly ascending with the same members. Plain Lean over the printed functions; and its contract in the print's form.
-/
import Derived.Test.YtcfgfeamcckmjaaChkO
import Derived.Test.YtcfgfeamcckmjaaChkU
import Derived.Test.YtcfgfeamcckmjaaPB4
import Derived.Test.YtcfgfeamcckmjaaPB5
namespace Go.Proofs.Ytcfgfeamcckmjaa.Chk
open Go.RowKit Go.Proofs.YtcfgfeamcckmjaaW.PrintWords Go.Proofs.YtcfgfeamcckmjaaW.PrintLast Go.Proofs.YtcfgfeamcckmjaaW.PrintMore
set_option linter.unusedVariables false
set_option linter.unusedSimpArgs false

theorem asc_ext : ∀ (xs ys : List ByteArray), Asc xs → Asc ys → (∀ u, u ∈ xs ↔ u ∈ ys) → xs = ys
  | [], [], _, _, _ => rfl
  | [], y :: ys, _, _, h => absurd ((h y).2 List.mem_cons_self) (by simp)
  | x :: xs, [], _, _, h => absurd ((h x).1 List.mem_cons_self) (by simp)
  | x :: xs, y :: ys, hx, hy, h => by
    have hx' := List.pairwise_cons.1 hx
    have hy' := List.pairwise_cons.1 hy
    have e : x = y := by
      rcases List.mem_cons.1 ((h x).1 List.mem_cons_self) with e | e
      · exact e
      rcases List.mem_cons.1 ((h y).2 List.mem_cons_self) with e2 | e2
      · exact e2.symm
      exact absurd (List.lt_trans (hx'.1 y e2) (hy'.1 x e)) (List.lt_irrefl _)
    subst e
    refine congrArg (x :: ·) (asc_ext xs ys hx'.2 hy'.2 fun u => ⟨fun hu => ?_, fun hu => ?_⟩)
    · rcases List.mem_cons.1 ((h u).1 (List.mem_cons_of_mem _ hu)) with e | e
      · subst e; exact absurd (hx'.1 u hu) (List.lt_irrefl _)
      · exact e
    · rcases List.mem_cons.1 ((h u).2 (List.mem_cons_of_mem _ hu)) with e | e
      · subst e; exact absurd (hy'.1 u hu) (List.lt_irrefl _)
      · exact e

theorem ins_l (t : ByteArray) (xs : List ByteArray) (hl : xs.length ≤ 1000000) : ∀ (d k i : Nat), xs.length - i = d → i ≤ xs.length → d < k → (∀ a ∈ xs.take i, a.data.toList < t.data.toList) →
    ∃ j, j ≤ xs.length ∧ PB.barscanref09_insert.l0 k xs t (xs.take i) i = some (xs.take j ++ [t] ++ xs.drop j) ∧ (∀ a ∈ xs.take j, a.data.toList < t.data.toList) ∧ (∀ h : j < xs.length, ¬ xs[j].data.toList < t.data.toList) := by
  intro d
  induction d with
  | zero =>
    intro k i h1 h2 h3 ha
    obtain ⟨k, rfl⟩ : ∃ m, k = m + 1 := ⟨k - 1, by omega⟩
    have hi : i = xs.length := by omega
    subst hi
    refine ⟨xs.length, Nat.le_refl _, ?_, ha, fun h => absurd h (Nat.lt_irrefl _)⟩
    simp only [PB.barscanref09_insert.l0]
    rw [if_neg (by omega), if_pos (by rw [List.length_take]; omega)]
    simp only [Option.bind_some]
    rw [if_pos (by omega), if_pos (by omega), Int.toNat_natCast, if_pos (by simp; omega)]
  | succ d ih =>
    intro k i h1 h2 h3 ha
    obtain ⟨k, rfl⟩ : ∃ m, k = m + 1 := ⟨k - 1, by omega⟩
    have hi : i < xs.length := by omega
    have rd : rdOf ByteArray.empty xs (i : Int) = xs[i] := by
      unfold rdOf
      rw [Int.toNat_natCast, List.getD_eq_getElem?_getD, List.getElem?_eq_getElem hi, Option.getD_some]
    simp only [PB.barscanref09_insert.l0]
    rw [if_pos (by omega), if_pos (by omega), rd, Go.Proofs.bytesLess_eq, ByteArray.toList_eq, ByteArray.toList_eq]
    have htl : (xs.take i).length = i := by rw [List.length_take]; omega
    by_cases hlt : xs[i].data.toList < t.data.toList
    · rw [if_pos (decide_eq_true hlt), if_pos (by rw [htl]; omega), w64_in ((i : Int) + 1) (by omega) (by omega)]
      have e : xs.take i ++ [xs[i]] = xs.take (i + 1) := (List.take_succ_eq_append_getElem hi).symm
      rw [e]
      refine ih k (i + 1) (by omega) (by omega) (by omega) (fun a h => ?_)
      rw [← e] at h
      rcases List.mem_append.1 h with h | h
      · exact ha a h
      · rw [List.mem_singleton.1 h]; exact hlt
    · rw [if_neg (by simpa using hlt), if_pos (by rw [htl]; omega)]
      simp only [Option.bind_some]
      rw [if_pos (by omega), Int.toNat_natCast, if_pos (by simp; omega)]
      exact ⟨i, h2, rfl, ha, fun _ => hlt⟩
theorem ins_f (t : ByteArray) (xs : List ByteArray) (hl : xs.length ≤ 1000000) (k : Nat) (hk : 1000001 ≤ k) (ha : Asc xs) (hn : t ∉ xs) :
    ∃ ys, PB.barscanref09_insert.f k xs t = some ys ∧ Asc ys ∧ (∀ u, u ∈ ys ↔ u = t ∨ u ∈ xs) ∧ ys.length = xs.length + 1 := by
  obtain ⟨j, hj, he, h1, h2⟩ := ins_l t xs hl xs.length k 0 (by omega) (Nat.zero_le _) (by omega) (fun a h => by simp at h)
  refine ⟨_, he, ?_, ?_, by simp; omega⟩
  · have hsplit := ha
    rw [← List.take_append_drop j xs] at hsplit
    obtain ⟨p1, p2, p3⟩ := List.pairwise_append.1 hsplit
    have hd : ∀ b ∈ xs.drop j, t.data.toList < b.data.toList := by
      intro b hb
      have hjl : j < xs.length := by
        rcases Nat.lt_or_ge j xs.length with h | h
        · exact h
        · rw [List.drop_eq_nil_of_le h] at hb; simp at hb
      have hle : t.data.toList ≤ xs[j].data.toList := h2 hjl
      have hne : ¬ t.data.toList = xs[j].data.toList := fun e => hn (by
        have : t = xs[j] := ByteArray.ext (Array.toList_inj.1 e)
        rw [this]; exact List.getElem_mem hjl)
      have hlt : t.data.toList < xs[j].data.toList := by
        rcases List.le_iff_lt_or_eq.1 hle with h | h
        · exact h
        · exact absurd h hne
      rw [List.drop_eq_getElem_cons hjl] at hb p2
      rcases List.mem_cons.1 hb with rfl | hb
      · exact hlt
      · exact List.lt_trans hlt ((List.pairwise_cons.1 p2).1 b hb)
    unfold Asc
    rw [List.append_assoc, List.pairwise_append]
    refine ⟨p1, List.pairwise_cons.2 ⟨hd, p2⟩, fun a h b hb => ?_⟩
    rcases List.mem_cons.1 hb with rfl | hb
    · exact h1 a h
    · exact p3 a h b hb
  · intro u
    conv => rhs; rw [← List.take_append_drop j xs]
    simp only [List.mem_append, List.mem_singleton]
    constructor
    · rintro ((h | h) | h)
      · exact Or.inr (Or.inl h)
      · exact Or.inl h
      · exact Or.inr (Or.inr h)
    · rintro (h | h | h)
      · exact Or.inl (Or.inr h)
      · exact Or.inl (Or.inl h)
      · exact Or.inr h

/-- The bytes of a string, by place. -/
def bAt (u : ByteArray) (j : Nat) : Option UInt8 := u.data.toList[j]?
theorem bAt_ext (u v : ByteArray) (h : ∀ j, bAt u j = bAt v j) : u = v := ByteArray.ext (Array.toList_inj.1 (List.ext_getElem? h))
theorem sub1_get (s C : ByteArray) (i c : Nat) (hi : i < s.size) (hc : c < C.size) (j : Nat) : bAt (sub1 s C i c) j = if j = i then some C[c] else bAt s j := by
  have e : (sub1 s C i c).data.toList = s.data.toList.set i C[c] := by
    unfold sub1
    rw [List.set_eq_take_append_cons_drop, if_pos (by simpa using hi)]
    have e1 : (C.extract c (c + 1)).data.toList = [C[c]] := by
      rw [ext_one C c hc, List.getD_eq_getElem?_getD, List.getElem?_eq_getElem (by simpa using hc), Option.getD_some]
      rfl
    simp only [ByteArray.data_append, Array.toList_append]
    rw [e1]
    simp [ByteArray.data_extract, List.take_of_length_le]
  unfold bAt
  rw [e, List.getElem?_set]
  by_cases h : i = j
  · subst h; rw [if_pos rfl, if_pos rfl, if_pos (by simpa using hi)]
  · rw [if_neg h, if_neg (fun e => h e.symm)]
theorem swap1_get (s : ByteArray) (i : Nat) (hi : i + 1 < s.size) (j : Nat) : bAt (swap1 s (i + 1)) j = if j = i then bAt s (i + 1) else if j = i + 1 then bAt s i else bAt s j := by
  have e : (swap1 s (i + 1)).data.toList = (s.data.toList.set i s[i + 1]).set (i + 1) s[i] := by
    have h1 : (s.extract (i + 1) (i + 1 + 1)).data.toList = [s[i + 1]] := by
      rw [ext_one s (i + 1) hi, List.getD_eq_getElem?_getD, List.getElem?_eq_getElem (by simpa using hi), Option.getD_some]
      rfl
    have h2 : (s.extract i (i + 1)).data.toList = [s[i]] := by
      rw [ext_one s i (by omega), List.getD_eq_getElem?_getD, List.getElem?_eq_getElem (by simp; omega), Option.getD_some]
      rfl
    unfold swap1
    rw [show i + 1 - 1 = i by omega]
    simp only [ByteArray.data_append, Array.toList_append]
    rw [h1, h2]
    have hs : s.data.toList.length = s.size := by simp
    obtain ⟨P, a, b, R, hl, hp⟩ : ∃ P a b R, s.data.toList = P ++ a :: b :: R ∧ P.length = i :=
      ⟨s.data.toList.take i, s.data.toList[i], s.data.toList[i + 1], s.data.toList.drop (i + 2), by rw [List.getElem_cons_drop, List.getElem_cons_drop, List.take_append_drop], by rw [List.length_take]; omega⟩
    have ea : s[i] = a := by
      show s.data.toList[i] = a
      simp only [hl]; simp [← hp]
    have eb : s[i + 1] = b := by
      show s.data.toList[i + 1] = b
      simp only [hl]; simp [← hp]
    have e0 : (s.extract 0 i).data.toList = P := by
      rw [show s = bs (P ++ a :: b :: R) by rw [← hl, bs_of], bs_ext, bs_data, ← hp]; simp
    have e3 : (s.extract (i + 1 + 1) s.size).data.toList = R := by
      rw [show s = bs (P ++ a :: b :: R) by rw [← hl, bs_of], bs_ext, bs_data, ← hp, bs_size, List.take_length, show P.length + 1 + 1 = (P ++ [a, b]).length by simp, show P ++ a :: b :: R = (P ++ [a, b]) ++ R by simp, List.drop_left]
    rw [ea, eb, e0, e3, hl, ← hp]
    simp [List.set_append]
  unfold bAt
  have g1 : s.data.toList[i + 1]? = some s[i + 1] := List.getElem?_eq_getElem (by simpa using hi)
  have g0 : s.data.toList[i]? = some s[i] := List.getElem?_eq_getElem (by simp; omega)
  rw [e, List.getElem?_set, List.getElem?_set, g1, g0]
  by_cases h1 : j = i
  · subst h1; rw [if_neg (by omega), if_pos rfl, if_pos (by simp; omega), if_pos rfl]
  · by_cases h2 : j = i + 1
    · subst h2; rw [if_pos rfl, if_pos (by simpa using hi), if_neg h1, if_pos rfl]
    · rw [if_neg (fun e => h2 e.symm), if_neg (fun e => h1 e.symm), if_neg h1, if_neg h2]

def refAt (s : ByteArray) (j : Nat) : List ByteArray := (List.range 43).map (sub1 s alpha39 j) ++ if j + 1 < s.size ∧ bAt s j ≠ bAt s (j + 1) then [swap1 s (j + 1)] else []
def refC (s : ByteArray) (i n : Nat) : List ByteArray := (List.range i).flatMap (refAt s) ++ (List.range n).map (sub1 s alpha39 i)
theorem refAt_len (s : ByteArray) (j : Nat) : (refAt s j).length ≤ 44 := by
  unfold refAt
  rw [List.length_append, List.length_map, List.length_range]
  split <;> simp
theorem refC_next (s : ByteArray) (i n : Nat) : refC s i (n + 1) = refC s i n ++ [sub1 s alpha39 i n] := by
  unfold refC; rw [List.range_succ, List.map_append, List.append_assoc]; rfl
theorem refC_up (s : ByteArray) (i : Nat) : refC s (i + 1) 0 = refC s i 43 ++ if i + 1 < s.size ∧ bAt s i ≠ bAt s (i + 1) then [swap1 s (i + 1)] else [] := by
  unfold refC; rw [List.range_succ, List.flatMap_append]; simp [refAt]
theorem a39_size : alpha39.size = 43 := by decide
theorem a39_inj (a b : Nat) (ha : a < 43) (hb : b < 43) (h : alpha39[a]'(by rw [a39_size]; exact ha) = alpha39[b]'(by rw [a39_size]; exact hb)) : a = b := by
  have t : ∀ a : Fin 43, ∀ b : Fin 43, alpha39.data.toList.getD a.val 0 = alpha39.data.toList.getD b.val 0 → a = b := by decide +kernel
  have g : ∀ (a : Nat) (ha : a < 43), alpha39.data.toList.getD a 0 = alpha39[a]'(by rw [a39_size]; exact ha) := fun a ha => by
    rw [List.getD_eq_getElem?_getD, List.getElem?_eq_getElem (show a < alpha39.data.toList.length by exact ha), Option.getD_some]
    rfl
  have := t ⟨a, ha⟩ ⟨b, hb⟩ (by rw [g a ha, g b hb]; exact h)
  exact Fin.mk.inj this
/-- A member of an earlier place differs from the string there. -/
theorem early_ne (s : ByteArray) (i : Nat) (hi : i ≤ s.size) (u : ByteArray) (hu : u ∈ (List.range i).flatMap (refAt s)) (hs : u ≠ s) : ∃ j, j < i ∧ bAt u j ≠ bAt s j := by
  obtain ⟨j, hj, hu⟩ := List.mem_flatMap.1 hu
  have hj := List.mem_range.1 hj
  refine ⟨j, hj, ?_⟩
  unfold refAt at hu
  rcases List.mem_append.1 hu with h | h
  · obtain ⟨c, hc, rfl⟩ := List.mem_map.1 h
    have hc := List.mem_range.1 hc
    intro e
    refine hs (bAt_ext _ _ fun m => ?_)
    have g := sub1_get s alpha39 j c (by omega) (by rw [a39_size]; exact hc)
    by_cases hm : m = j
    · rw [hm]; exact e
    · rw [g m, if_neg hm]
  · by_cases hcnd : j + 1 < s.size ∧ bAt s j ≠ bAt s (j + 1)
    · rw [if_pos hcnd] at h
      rw [List.mem_singleton.1 h, swap1_get s j hcnd.1 j, if_pos rfl]
      exact fun e => hcnd.2 e.symm
    · rw [if_neg hcnd] at h; simp at h
theorem sub_new (s : ByteArray) (i n : Nat) (hi : i < s.size) (hn : n < 43) (u : ByteArray) (hu : u ∈ refC s i n) (hs : u ≠ s) : u ≠ sub1 s alpha39 i n := by
  have g := sub1_get s alpha39 i n hi (by rw [a39_size]; exact hn)
  unfold refC at hu
  rcases List.mem_append.1 hu with h | h
  · obtain ⟨j, hj, hne⟩ := early_ne s i (by omega) u h hs
    intro e
    apply hne
    rw [e, g j, if_neg (by omega)]
  · obtain ⟨c, hc, rfl⟩ := List.mem_map.1 h
    have hc := List.mem_range.1 hc
    intro e
    have g2 := sub1_get s alpha39 i c hi (by rw [a39_size]; omega) i
    rw [e, g i, if_pos rfl, if_pos rfl] at g2
    have := a39_inj n c hn (by omega) (Option.some.inj g2)
    omega
theorem swap_new (s : ByteArray) (i : Nat) (hi : i + 1 < s.size) (hd : bAt s i ≠ bAt s (i + 1)) (u : ByteArray) (hu : u ∈ refC s i 43) (hs : u ≠ s) : u ≠ swap1 s (i + 1) := by
  have g := swap1_get s i hi
  unfold refC at hu
  rcases List.mem_append.1 hu with h | h
  · obtain ⟨j, hj, hne⟩ := early_ne s i (by omega) u h hs
    intro e
    apply hne
    rw [e, g j, if_neg (by omega), if_neg (by omega)]
  · obtain ⟨c, hc, rfl⟩ := List.mem_map.1 h
    have hc := List.mem_range.1 hc
    intro e
    have g2 := sub1_get s alpha39 i c (by omega) (by rw [a39_size]; omega) (i + 1)
    rw [e, g (i + 1), if_neg (by omega), if_pos rfl, if_neg (by omega)] at g2
    exact hd g2
/-- What the reference's list holds. -/
structure RInv (k0 : Int) (s : ByteArray) (out S : List ByteArray) : Prop where
  asc : Asc out
  mem : ∀ u, u ∈ out ↔ u ∈ S ∧ u ≠ s ∧ verifyS k0 u = 0
  len : out.length ≤ S.length
theorem RInv.skip {k0 : Int} {s : ByteArray} {out S : List ByteArray} (h : RInv k0 s out S) (t : ByteArray) (ht : ¬ (t ≠ s ∧ verifyS k0 t = 0)) : RInv k0 s out (S ++ [t]) := by
  refine ⟨h.asc, fun u => ?_, by have := h.len; rw [List.length_append]; omega⟩
  rw [h.mem u, List.mem_append, List.mem_singleton]
  constructor
  · rintro ⟨a, b⟩; exact ⟨Or.inl a, b⟩
  · rintro ⟨a | a, b⟩
    · exact ⟨a, b⟩
    · subst a; exact absurd b ht
theorem RInv.put {k0 : Int} {s : ByteArray} {out S : List ByteArray} (h : RInv k0 s out S) (t : ByteArray) (ht : t ≠ s ∧ verifyS k0 t = 0) (hnew : ∀ u ∈ S, u ≠ s → u ≠ t) (hl : S.length ≤ 1000000) (k : Nat) (hk : 1000001 ≤ k) :
    ∃ ys, PB.barscanref09_insert.f k out t = some ys ∧ RInv k0 s ys (S ++ [t]) := by
  have hn : t ∉ out := fun hm => hnew t ((h.mem t).1 hm).1 ht.1 rfl
  obtain ⟨ys, e, ha, hm, hlen⟩ := ins_f t out (Nat.le_trans h.len hl) k hk h.asc hn
  refine ⟨ys, e, ha, fun u => ?_, by have := h.len; rw [hlen, List.length_append]; simp; omega⟩
  rw [hm u, h.mem u, List.mem_append, List.mem_singleton]
  constructor
  · rintro (rfl | ⟨a, b⟩)
    · exact ⟨Or.inr rfl, ht⟩
    · exact ⟨Or.inl a, b⟩
  · rintro ⟨a | a, b⟩
    · exact Or.inr ⟨a, b⟩
    · exact Or.inl a
theorem refC_len (s : ByteArray) (i n : Nat) : (refC s i n).length ≤ 44 * i + n := by
  have h : ((List.range i).flatMap (refAt s)).length ≤ 44 * i := by
    induction i with
    | zero => simp
    | succ i ih =>
      rw [List.range_succ, List.flatMap_append, List.length_append]
      have := refAt_len s i
      simp only [List.flatMap_cons, List.flatMap_nil, List.append_nil]
      omega
  unfold refC
  rw [List.length_append, List.length_map, List.length_range]
  omega
theorem wr_one (n : Nat) (h : n ≤ 5000) : wrap64 ((n : Int) + 1) = ((n + 1 : Nat) : Int) := by rw [w64_in _ (by omega) (by omega)]; omega
theorem wr_two (n : Nat) (h : n ≤ 5000) : wrap64 ((n : Int) + 2) = ((n + 2 : Nat) : Int) := by rw [w64_in _ (by omega) (by omega)]; omega
theorem toList_iff (a b : ByteArray) : a.toList = b.toList ↔ a = b := ⟨toList_inj, fun h => by rw [h]⟩
theorem l1_step (k0 : Int) (s : ByteArray) (hs : s.size ≤ 64) (i n : Nat) (hi : i < s.size) (hn : n < 43) (out : List ByteArray) (k : Nat) (hk : 60000 ≤ k) :
    PB.barscanref09_Corrections.l1 (k + 1) k0 s out i n = if sub1 s alpha39 i n ≠ s ∧ verifyS k0 (sub1 s alpha39 i n) = 0 then (PB.barscanref09_insert.f k out (sub1 s alpha39 i n)).bind fun o => PB.barscanref09_Corrections.l1 k k0 s o i (n + 1 : Nat)
      else PB.barscanref09_Corrections.l1 k k0 s out i (n + 1 : Nat) := by
  rw [PB.barscanref09_Corrections.l1]
  rw [show (⟨#[48, 49, 50, 51, 52, 53, 54, 55, 56, 57, 65, 66, 67, 68, 69, 70, 71, 72, 73, 74, 75, 76, 77, 78, 79, 80, 81, 82, 83, 84, 85, 86, 87, 88, 89, 90, 45, 46, 32, 36, 47, 43, 37]⟩ : ByteArray) = alpha39 from rfl]
  rw [wr_one i (by omega), wr_one n (by omega)]
  simp only [Int.toNat_natCast]
  have ha := a39_size
  have ht : s.extract 0 i ++ alpha39.extract n (n + 1) ++ s.extract (i + 1) s.size = sub1 s alpha39 i n := rfl
  rw [ht]
  have hz : (sub1 s alpha39 i n).size ≤ 9223372036854775807 := by rw [← ht]; simp; omega
  rw [if_pos (by omega), if_pos (by omega), if_pos (by omega), if_pos (by omega), if_pos (by omega), if_pos (by omega), if_pos (by simp; omega), if_pos (by omega), if_pos (by omega), if_pos (by simp; omega)]
  rw [ref_Verify k0 _ hz k hk]
  simp only [Option.bind_some, toList_iff]
  by_cases h1 : sub1 s alpha39 i n = s
  · rw [if_pos h1, if_neg (fun h => h.1 h1)]
  · rw [if_neg h1]
    by_cases h2 : verifyS k0 (sub1 s alpha39 i n) = 0
    · rw [if_pos h2, if_pos ⟨h1, h2⟩]
    · rw [if_neg h2, if_neg (fun h => h2 h.2)]
theorem l1_loop (k0 : Int) (s : ByteArray) (hs : s.size ≤ 64) (i : Nat) (hi : i < s.size) : ∀ (d n k : Nat) (out : List ByteArray), 43 - n = d → n ≤ 43 → RInv k0 s out (refC s i n) → 1000001 ≤ k →
    ∃ out', RInv k0 s out' (refC s i 43) ∧ PB.barscanref09_Corrections.l1 (k + d) k0 s out i n = PB.barscanref09_Corrections.l1 k k0 s out' i (43 : Nat) := by
  intro d
  induction d with
  | zero =>
    intro n k out h1 h2 hR hk
    have : n = 43 := by omega
    subst this
    exact ⟨out, hR, rfl⟩
  | succ d ih =>
    intro n k out h1 h2 hR hk
    have hn : n < 43 := by omega
    rw [show k + (d + 1) = (k + d) + 1 by omega, l1_step k0 s hs i n hi hn out (k + d) (by omega)]
    by_cases ht : sub1 s alpha39 i n ≠ s ∧ verifyS k0 (sub1 s alpha39 i n) = 0
    · rw [if_pos ht]
      have hl := refC_len s i n
      obtain ⟨ys, e, hR'⟩ := hR.put _ ht (fun u hu hus => sub_new s i n hi hn u hu hus) (by omega) (k + d) (by omega)
      rw [e]
      simp only [Option.bind_some]
      exact ih (n + 1) k ys (by omega) (by omega) (by rw [refC_next]; exact hR') hk
    · rw [if_neg ht]
      exact ih (n + 1) k out (by omega) (by omega) (by rw [refC_next]; exact hR.skip _ ht) hk
theorem up_step (k0 : Int) (s : ByteArray) (hs : s.size ≤ 64) (i : Nat) (hi : i < s.size) (out : List ByteArray) (k : Nat) (hk : 1000001 ≤ k) (hR : RInv k0 s out (refC s i 43)) :
    ∃ out', RInv k0 s out' (refC s (i + 1) 0) ∧ PB.barscanref09_Corrections.l1 (k + 2) k0 s out i (43 : Nat) = PB.barscanref09_Corrections.l0 k k0 s out' (i + 1 : Nat) := by
  have hb : ∀ j (h : j < s.size), bAt s j = some s[j] := fun j h => List.getElem?_eq_getElem (by simpa using h)
  have hl := refC_len s i 43
  rw [PB.barscanref09_Corrections.l1, wr_one i (by omega), if_neg (by omega)]
  by_cases h1 : i + 1 < s.size
  · rw [if_pos (by omega), if_pos (by omega), if_pos (by omega), if_pos (by omega), bt_nat s i (by omega), bt_nat s (i + 1) h1]
    by_cases h2 : s[i] = s[i + 1]
    · rw [show (((s[i].toNat : Nat) : Int) != ((s[i + 1].toNat : Nat) : Int)) = false by rw [h2]; simp]
      rw [PB.barscanref09_Corrections.j3, wr_one i (by omega), if_neg (by simp)]
      refine ⟨out, ?_, rfl⟩
      rw [refC_up, if_neg (by rw [hb i (by omega), hb (i + 1) h1, h2]; simp), List.append_nil]
      exact hR
    · have hne : bAt s i ≠ bAt s (i + 1) := by rw [hb i (by omega), hb (i + 1) h1]; exact fun e => h2 (Option.some.inj e)
      rw [show (((s[i].toNat : Nat) : Int) != ((s[i + 1].toNat : Nat) : Int)) = true by rw [bne_iff_ne]; exact fun e => h2 (UInt8.toNat_inj.1 (by omega))]
      rw [PB.barscanref09_Corrections.j3, wr_one i (by omega), wr_two i (by omega), if_pos rfl]
      simp only [Int.toNat_natCast]
      have ht : s.extract 0 i ++ s.extract (i + 1) (i + 2) ++ s.extract i (i + 1) ++ s.extract (i + 2) s.size = swap1 s (i + 1) := rfl
      rw [ht]
      have hz : (swap1 s (i + 1)).size ≤ 9223372036854775807 := by rw [← ht]; simp; omega
      rw [if_pos (by omega), if_pos (by omega), if_pos (by omega), if_pos (by omega), if_pos (by omega), if_pos (by simp; omega), if_pos (by omega), if_pos (by omega), if_pos (by simp; omega), if_pos (by omega), if_pos (by simp; omega)]
      rw [ref_Verify k0 _ hz k (by omega)]
      simp only [Option.bind_some]
      have hsw : swap1 s (i + 1) ≠ s := fun e => hne (by
        have := swap1_get s i h1 i
        rw [e, if_pos rfl] at this
        exact this)
      have hup : refC s (i + 1) 0 = refC s i 43 ++ [swap1 s (i + 1)] := by rw [refC_up, if_pos ⟨h1, hne⟩]
      by_cases h3 : verifyS k0 (swap1 s (i + 1)) = 0
      · rw [if_pos h3]
        obtain ⟨ys, e, hR'⟩ := hR.put _ ⟨hsw, h3⟩ (fun u hu hus => swap_new s i h1 hne u hu hus) (by omega) k hk
        rw [e]
        simp only [Option.bind_some]
        exact ⟨ys, by rw [hup]; exact hR', rfl⟩
      · rw [if_neg h3]
        exact ⟨out, by rw [hup]; exact hR.skip _ (fun h => h3 h.2), rfl⟩
  · rw [if_neg (by omega), PB.barscanref09_Corrections.j3, wr_one i (by omega), if_neg (by simp)]
    refine ⟨out, ?_, rfl⟩
    rw [refC_up, if_neg (fun h => h1 h.1), List.append_nil]
    exact hR
theorem l0_loop (k0 : Int) (s : ByteArray) (hs : s.size ≤ 64) : ∀ (d k i : Nat) (out : List ByteArray), s.size - i = d → i ≤ s.size → RInv k0 s out (refC s i 0) → 1000010 + 50 * d ≤ k →
    ∃ out', RInv k0 s out' (refC s s.size 0) ∧ PB.barscanref09_Corrections.l0 k k0 s out i = some (out', 0) := by
  intro d
  induction d with
  | zero =>
    intro k i out h1 h2 hR hk
    obtain ⟨k, rfl⟩ : ∃ m, k = m + 1 := ⟨k - 1, by omega⟩
    have : i = s.size := by omega
    subst this
    refine ⟨out, hR, ?_⟩
    rw [PB.barscanref09_Corrections.l0, if_neg (by omega)]
  | succ d ih =>
    intro k i out h1 h2 hR hk
    obtain ⟨k, rfl⟩ : ∃ m, k = m + 2 + 43 + 1 := ⟨k - 46, by omega⟩
    have hi : i < s.size := by omega
    rw [PB.barscanref09_Corrections.l0, if_pos (by omega)]
    obtain ⟨o1, r1, e1⟩ := l1_loop k0 s hs i hi 43 0 (k + 2) out rfl (by omega) hR (by omega)
    obtain ⟨o2, r2, e2⟩ := up_step k0 s hs i hi o1 k (by omega) r1
    obtain ⟨o3, r3, e3⟩ := ih k (i + 1) o2 (by omega) (by omega) r2 (by omega)
    refine ⟨o3, r3, ?_⟩
    have e1' : PB.barscanref09_Corrections.l1 (k + 2 + 43) k0 s out i 0 = PB.barscanref09_Corrections.l1 (k + 2) k0 s o1 i (43 : Nat) := e1
    rw [e1', e2, e3]
theorem verify_wrong (k : Int) (u : ByteArray) (h : verifyS k u = 0) : (1 ≤ k ∧ k ≤ 8) ∧ wrongB k u.size = false := by
  unfold verifyS at h
  by_cases a : 1 ≤ k ∧ k ≤ 8
  case neg => rw [if_pos a] at h; omega
  rw [if_neg (fun h => h a)] at h
  by_cases b : 4096 < u.size
  · rw [if_pos b] at h; omega
  rw [if_neg b] at h
  cases c : wrongB k u.size
  · exact ⟨a, rfl⟩
  · rw [c, if_pos rfl] at h; omega
theorem valid_chars (k : Int) (u : ByteArray) (h : verifyS k u = 0) : ∀ b ∈ u.data.toList, (alphaXS k).data.toList.contains b = true := by
  obtain ⟨hk, hw⟩ := verify_wrong k u h
  have hlt := wrong_lt k u.size hw
  have hn : u.data.toList.length = u.size := by simp
  have e : u = bs (u.data.toList.take (u.size - sizeS k) ++ u.data.toList.drop (u.size - sizeS k)) := by rw [List.take_append_drop, bs_of]
  have hE : (u.data.toList.drop (u.size - sizeS k)).length = sizeS k := by rw [List.length_drop, hn]; omega
  rw [e, verify_zero k _ _ hE] at h
  intro b hb
  rw [← List.take_append_drop (u.size - sizeS k) u.data.toList] at hb
  rcases List.mem_append.1 hb with hb | hb
  · exact data_check k b (h.2.2.2.1 b hb)
  · exact h.2.2.2.2.1 b hb
theorem place_of (C : ByteArray) (b : UInt8) (h : C.data.toList.contains b = true) : ∃ c, ∃ hc : c < C.size, C[c] = b := by
  have h : b ∈ C.data.toList := by simpa using h
  obtain ⟨c, hc, e⟩ := List.getElem_of_mem h
  exact ⟨c, by simpa using hc, e⟩
theorem sub39 (k : Int) (b : UInt8) (h : (alphaXS k).data.toList.contains b = true) : alpha39.data.toList.contains b = true := by
  have h1 := u8_all (fun b => alpha10.data.toList.contains b = true → alpha39.data.toList.contains b = true) (by decide +kernel) b
  have h2 := u8_all (fun b => alpha10X.data.toList.contains b = true → alpha39.data.toList.contains b = true) (by decide +kernel) b
  unfold alphaXS at h
  split at h
  · exact h
  · split at h
    · exact h2 h
    · exact h1 h
theorem sub1_same (s A B : ByteArray) (i a b : Nat) (hi : i < s.size) (ha : a < A.size) (hb : b < B.size) (h : A[a] = B[b]) : sub1 s A i a = sub1 s B i b :=
  bAt_ext _ _ fun j => by rw [sub1_get s A i a hi ha j, sub1_get s B i b hi hb j, h]
theorem cands_iff (k : Int) (s u : ByteArray) (hs : u ≠ s) (hv : verifyS k u = 0) : u ∈ refC s s.size 0 ↔ u ∈ cands s (alphaXS k) s.size := by
  have hch := valid_chars k u hv
  constructor
  · intro h
    unfold refC at h
    rw [List.range_zero, List.map_nil, List.append_nil] at h
    obtain ⟨j, hj, h⟩ := List.mem_flatMap.1 h
    have hj := List.mem_range.1 hj
    unfold refAt at h
    rcases List.mem_append.1 h with h | h
    · obtain ⟨c, hc, e⟩ := List.mem_map.1 h
      have hc : c < alpha39.size := by rw [a39_size]; exact List.mem_range.1 hc
      have g := sub1_get s alpha39 j c hj hc j
      rw [if_pos rfl, e] at g
      obtain ⟨c', hc', e'⟩ := place_of (alphaXS k) alpha39[c] (hch _ (List.mem_of_getElem? g))
      rw [← e, sub1_same s alpha39 (alphaXS k) j c c' hj hc hc' e'.symm]
      exact mem_sub s _ j c' hj hc'
    · by_cases hcnd : j + 1 < s.size ∧ bAt s j ≠ bAt s (j + 1)
      · rw [if_pos hcnd] at h
        rw [List.mem_singleton.1 h]
        exact mem_swap s _ (j + 1) (by omega) hcnd.1
      · rw [if_neg hcnd] at h; simp at h
  · intro h
    unfold cands at h
    obtain ⟨i, hi, h⟩ := List.mem_flatMap.1 h
    have hi := List.mem_range.1 hi
    unfold refC
    rw [List.range_zero, List.map_nil, List.append_nil]
    unfold candsAt at h
    rcases List.mem_append.1 h with h | h
    · obtain ⟨c, hc, e⟩ := List.mem_map.1 h
      have hc := List.mem_range.1 hc
      have g := sub1_get s (alphaXS k) i c hi hc i
      rw [if_pos rfl, e] at g
      obtain ⟨c', hc', e'⟩ := place_of alpha39 (alphaXS k)[c] (sub39 k _ (hch _ (List.mem_of_getElem? g)))
      refine List.mem_flatMap.2 ⟨i, List.mem_range.2 hi, ?_⟩
      unfold refAt
      rw [← e, sub1_same s (alphaXS k) alpha39 i c c' hi hc hc' e'.symm]
      exact List.mem_append_left _ (List.mem_map.2 ⟨c', List.mem_range.2 (by rw [a39_size] at hc'; exact hc'), rfl⟩)
    · by_cases h0 : 0 < i
      · rw [if_pos h0] at h
        obtain ⟨j, rfl⟩ : ∃ m, i = m + 1 := ⟨i - 1, by omega⟩
        have h := List.mem_singleton.1 h
        have hne : bAt s j ≠ bAt s (j + 1) := by
          intro e
          apply hs
          rw [h]
          refine bAt_ext _ _ fun m => ?_
          rw [swap1_get s j hi m]
          by_cases h1 : m = j
          · rw [if_pos h1, h1, e]
          · rw [if_neg h1]
            by_cases h2 : m = j + 1
            · rw [if_pos h2, h2, e]
            · rw [if_neg h2]
        refine List.mem_flatMap.2 ⟨j, List.mem_range.2 (by omega), ?_⟩
        unfold refAt
        refine List.mem_append_right _ ?_
        rw [if_pos ⟨hi, hne⟩, h]
        exact List.mem_singleton.2 rfl
      · rw [if_neg h0] at h; simp at h
theorem ref_Corrections (k0 : Int) (s : ByteArray) (hm : s.size ≤ 9223372036854775807) (k : Nat) (hk : 1010000 ≤ k) : PB.barscanref09_Corrections.f k k0 s = some (corrS k0 s) := by
  obtain ⟨k, rfl⟩ : ∃ m, k = m + 1 := ⟨k - 1, by omega⟩
  unfold PB.barscanref09_Corrections.f corrS
  by_cases a : 1 ≤ k0 ∧ k0 ≤ 8
  case neg =>
    rw [if_pos (show ¬ (1 ≤ k0 ∧ k0 ≤ 8) from a)]
    by_cases b : k0 < 1
    · rw [if_pos b, PB.barscanref09_Corrections.j0, if_pos rfl]
    · rw [if_neg b, PB.barscanref09_Corrections.j0, if_pos (decide_eq_true (by omega))]
  rw [if_neg (show ¬ ¬ (1 ≤ k0 ∧ k0 ≤ 8) from fun h => h a), if_neg (show ¬ k0 < 1 by omega), PB.barscanref09_Corrections.j0, if_neg (by rw [decide_eq_true_iff]; omega)]
  by_cases b : 64 < s.size
  · rw [if_pos (show (s.size : Int) > 64 by omega), if_pos b]
  rw [if_neg (show ¬ (s.size : Int) > 64 by omega), if_neg b, ref_fits k0 a s.size k (by omega)]
  simp only [Option.bind_some]
  cases c : wrongB k0 s.size
  case true => rw [if_neg (by simp), if_pos rfl]
  rw [if_pos (by simp), if_neg (by simp)]
  have r0 : RInv k0 s [] (refC s 0 0) := ⟨List.Pairwise.nil, fun u => by simp [refC], Nat.zero_le _⟩
  obtain ⟨o, r, e⟩ := l0_loop k0 s (by omega) s.size k 0 [] rfl (Nat.zero_le _) r0 (by omega)
  have e' : PB.barscanref09_Corrections.l0 k k0 s [] 0 = some (o, 0) := e
  rw [e']
  have heq : o = Strs.compB (Strs.sortB (tried k0 s (cands s (alphaXS k0) s.size))) := by
    refine asc_ext _ _ r.asc (asc_comp_sort _) fun u => ?_
    rw [r.mem u, mem_comp_sort, mem_tried]
    exact ⟨fun h => ⟨(cands_iff k0 s u h.2.1 h.2.2).1 h.1, h.2⟩, fun h => ⟨(cands_iff k0 s u h.2.1 h.2.2).2 h.1, h.2⟩⟩
  rw [heq]
def barscanref09_Corrections.f (a0 : Int) (a1 : ByteArray) : Option (List ByteArray × Int) := if a1.size ≤ 9223372036854775807 then some (corrS a0 a1) else none
theorem barscanref09_Corrections.calls (a0 : Int) (a1 : ByteArray) (r1 : List ByteArray) (r2 : Int) (w : World) (h : barscanref09_Corrections.f a0 a1 = some (r1, r2)) :
    Calls Try.prog 18 #[.int .i64 a0, .string a1] w fun e w' => ∃ v0_ : Value, e = .returned (.tuple #[v0_, .int .i64 r2]) ∧ Kd.R Kd.string 9 w' w.heap.size (fun _ => True) v0_ r1 ∧ Below w.heap.size w w' := by
  unfold barscanref09_Corrections.f at h
  by_cases hm : a1.size ≤ 9223372036854775807
  · rw [if_pos hm] at h
    exact PB.barscanref09_Corrections.calls 1010000 a0 a1 r1 r2 w ((ref_Corrections a0 a1 hm 1010000 (by omega)).trans h)
  · rw [if_neg hm] at h; cases h
end Go.Proofs.Ytcfgfeamcckmjaa.Chk
