import Derived.Test.YtoadabodhdgdjaaDoorQStZd
import Derived.Test.YtoadabodhdgdjaaDoorQS0
namespace Go.Proofs.YtoadabodhdgdjaaDoor.Pn
open Go.RowKit Go.Proofs.YtoadabodhdgdjaaDoorW.PrintWords Go.Proofs.YtoadabodhdgdjaaDoorW.PrintLast Go.Proofs.YtoadabodhdgdjaaDoorW.PrintMore
set_option linter.unusedVariables false
set_option linter.unusedSimpArgs false
theorem w64 {x : Int} (h0 : -9223372036854775808 ≤ x) (h1 : x < 9223372036854775808) : wrap64 x = x := by unfold wrap64; omega
theorem wadd (a b : Nat) (h : a + b < 9223372036854775808) : wrap64 ((a : Int) + (b : Int)) = ((a + b : Nat) : Int) := (w64 (by omega) (by omega)).trans (by omega)
theorem u64 {x : Int} (h0 : 0 ≤ x) (h1 : x < 18446744073709551616) : IntKind.u64.wrap x = x := by
 simp [IntKind.wrap, IntKind.bits, IntKind.signed]
 omega
def val : List Int → Nat
 | [] => 0
 | a :: t => a.toNat + 4294967296 * val t
def okL (l : List Int) : Prop := ∀ x, x ∈ l → 0 ≤ x ∧ x < 4294967296
def lim (n : Nat) : List Int := if n = 0 then [] else ((n % 4294967296 : Nat) : Int) :: lim (n / 4294967296)
termination_by n
decreasing_by omega
theorem lim_zero : lim 0 = [] := by rw [lim, if_pos rfl]
theorem lim_pos {n : Nat} (h : n ≠ 0) : lim n = ((n % 4294967296 : Nat) : Int) :: lim (n / 4294967296) := by rw [lim, if_neg h]
theorem val_append (a b : List Int) : val (a ++ b) = val a + 4294967296 ^ a.length * val b := by
 induction a with
 | nil => simp [val]
 | cons x t ih =>
  rw [List.cons_append, val, val, ih, List.length_cons, Nat.pow_succ, Nat.mul_add, Nat.mul_comm (4294967296 ^ t.length) 4294967296, Nat.mul_assoc]
  omega
theorem okL_nil : okL [] := fun x h => by simp at h
theorem okL_cons {a : Int} {t : List Int} (h0 : 0 ≤ a) (h1 : a < 4294967296) (ht : okL t) : okL (a :: t) := fun x h => by
 rcases List.mem_cons.1 h with rfl | h
 ·exact ⟨h0, h1⟩
 ·exact ht x h
theorem okL_append {a b : List Int} (ha : okL a) (hb : okL b) : okL (a ++ b) := fun x h => by
 rcases List.mem_append.1 h with h | h
 ·exact ha x h
 ·exact hb x h
theorem lim_ok (n : Nat) : okL (lim n) := by
 induction n using Nat.strongRecOn with
 | ind n ih =>
  by_cases h : n = 0
  ·rw [h, lim_zero]; exact okL_nil
  ·rw [lim_pos h]
   exact okL_cons (by omega) (by omega) (ih _ (by omega))
theorem val_lim (n : Nat) : val (lim n) = n := by
 induction n using Nat.strongRecOn with
 | ind n ih =>
  by_cases h : n = 0
  ·rw [h, lim_zero]; rfl
  ·rw [lim_pos h, val, ih _ (by omega)]
   omega
theorem lim_ne {n : Nat} (h : n ≠ 0) : lim n ≠ [] := by rw [lim_pos h]; simp
theorem lim_len_le (L : Nat) : ∀ n : Nat, n < 4294967296 ^ L → (lim n).length ≤ L := by
 induction L with
 | zero =>
  intro n h
  have : n = 0 := by simpa using h
  rw [this, lim_zero]
  exact Nat.le_refl _
 | succ L ih =>
  intro n h
  by_cases h0 : n = 0
  ·rw [h0, lim_zero]; exact Nat.zero_le _
  ·rw [lim_pos h0, List.length_cons]
   have := ih (n / 4294967296) (by rw [Nat.pow_succ] at h; exact Nat.div_lt_of_lt_mul (by rw [Nat.mul_comm]; exact h))
   omega
theorem val_last {l : List Int} (hok : okL l) (hne : l ≠ []) (hl : l.getLast hne ≠ 0) : val l ≠ 0 := by
 induction l with
 | nil => exact absurd rfl hne
 | cons a t ih =>
  rw [val]
  cases t with
  | nil =>
   have h := hok a (by simp)
   have : a ≠ 0 := hl
   omega
  | cons b u =>
   have := ih (fun x h => hok x (List.mem_cons_of_mem _ h)) (by simp) (by rw [List.getLast_cons (by simp)] at hl; exact hl)
   omega
theorem lim_of {l : List Int} (hok : okL l) (hl : ∀ h : l ≠ [], l.getLast h ≠ 0) : lim (val l) = l := by
 induction l with
 | nil => exact lim_zero
 | cons a t ih =>
  have hnz := val_last hok (by simp) (hl (by simp))
  have ha := hok a (by simp)
  rw [lim_pos hnz]
  have h1 : val (a :: t) = a.toNat + 4294967296 * val t := rfl
  rw [show ((val (a :: t) % 4294967296 : Nat) : Int) = a by omega, show val (a :: t) / 4294967296 = val t by omega, ih (fun x h => hok x (List.mem_cons_of_mem _ h)) (fun h => by
   have := hl (by simp)
   rw [List.getLast_cons h] at this
   exact this)]
theorem rd_at {l : List Int} {i : Nat} (h : i < l.length) : rd l (i : Int) = l[i] := by simp [rd, List.getD_eq_getElem?_getD, h]
theorem rd_mid (a : List Int) (x : Int) (b : List Int) : rd (a ++ x :: b) (a.length : Int) = x := by
 rw [rd_at (by simp)]
 simp
theorem set_mid (a : List Int) (x y : Int) (b : List Int) : (a ++ x :: b).set a.length y = a ++ y :: b := by simp
theorem trim_l0 : ∀ (k : Nat) (l : List Int), l.length < k → l.length ≤ 1099511627776 → okL l → SG.limbs_Trim.l0 k l = some (lim (val l))
 | 0, l, hk, _, _ => absurd hk (Nat.not_lt_zero _)
 | k + 1, l, hk, hb, hok => by
  rcases List.eq_nil_or_concat l with rfl | ⟨t, a, rfl⟩
  ·simp [SG.limbs_Trim.l0, val, lim_zero]
  ·rw [List.concat_eq_append] at *
   have hl : (t ++ [a]).length = t.length + 1 := by simp
   rw [hl] at hk hb
   have e : wrap64 (((t ++ [a]).length : Int) - 1) = (t.length : Int) := by
    rw [hl, w64 (by omega) (by omega)]
    omega
   have hr := rd_mid t a []
   simp only [SG.limbs_Trim.l0, e, hr]
   rw [if_pos (by rw [hl]; omega), if_pos (by omega), if_pos (by rw [hl]; omega)]
   by_cases ha : a = 0
   ·subst ha
    rw [if_pos rfl, if_pos (by rw [hl]; omega), Int.toNat_natCast, List.take_left' rfl, trim_l0 k t (by omega) (by omega) (fun x h => hok x (List.mem_append_left _ h)), val_append]
    simp [val]
   ·rw [if_neg ha]
    rw [lim_of hok (fun h => by simpa using ha)]
theorem trim_f {k : Nat} {l : List Int} (hk : l.length < k) (hb : l.length ≤ 1099511627776) (hok : okL l) : SG.limbs_Trim.f k l = some (lim (val l)) := trim_l0 k l hk hb hok
def mulGo (m : Int) : List Int → Int → List Int
 | [], c => [c]
 | a :: t, c => ((a * m + c) % 4294967296) :: mulGo m t ((a * m + c) / 4294967296)
theorem mul_bound {a m c : Int} (ha0 : 0 ≤ a) (ha : a < 4294967296) (hm0 : 0 ≤ m) (hm : m < 4294967296) (hc0 : 0 ≤ c) (hc : c < 4294967296) : 0 ≤ a * m ∧ a * m ≤ 18446744065119617025 ∧ 0 ≤ a * m + c ∧ a * m + c < 18446744073709551616 ∧ (a * m + c) / 4294967296 < 4294967296 := by
 have h1 : 0 ≤ a * m := Int.mul_nonneg ha0 hm0
 have h2 : a * m ≤ 4294967295 * 4294967295 := Int.mul_le_mul (by omega) (by omega) hm0 (by omega)
 omega
theorem mulGo_spec (m : Int) (hm0 : 0 ≤ m) (hm : m < 4294967296) : ∀ (l : List Int) (c : Int), okL l → 0 ≤ c → c < 4294967296 → okL (mulGo m l c) ∧ val (mulGo m l c) = val l * m.toNat + c.toNat
 | [], c, _, h0, h1 => ⟨okL_cons h0 h1 okL_nil, by simp [mulGo, val]⟩
 | a :: t, c, hok, h0, h1 => by
  obtain ⟨ha0, ha⟩ := hok a (by simp)
  obtain ⟨b1, b2, b3, b4, b5⟩ := mul_bound ha0 ha hm0 hm h0 h1
  obtain ⟨i1, i2⟩ := mulGo_spec m hm0 hm t ((a * m + c) / 4294967296) (fun x h => hok x (List.mem_cons_of_mem _ h)) (by omega) b5
  refine ⟨okL_cons (by omega) (by omega) i1, ?_⟩
  rw [mulGo, val, val, i2, Nat.mul_add, Nat.add_mul, Nat.mul_assoc]
  have e : (a * m + c).toNat = a.toNat * m.toNat + c.toNat := by
   rw [Int.toNat_add b1 h0, Int.toNat_mul ha0 hm0]
  have e1 : ((a * m + c) % 4294967296).toNat = (a * m + c).toNat % 4294967296 := by omega
  have e2 : ((a * m + c) / 4294967296).toNat = (a * m + c).toNat / 4294967296 := by omega
  rw [e1, e2, e]
  omega
theorem prod_l0 (m : Int) (hm0 : 0 ≤ m) (hm : m < 4294967296) : ∀ (rem : List Int) (done low : List Int) (c : Int) (k : Nat), low.length = done.length → okL low → okL rem → 0 ≤ c → c < 4294967296 → done.length + rem.length ≤ 1000000 → 4 * rem.length + done.length + 5 ≤ k →
  SG.limbs_Product.l0 k [m] (low ++ c :: List.replicate rem.length 0) (done ++ rem) ((done ++ rem).length : Int) (done.length : Int) = some (lim (val (low ++ mulGo m rem c)))
 | [], done, low, c, k, hl, hlow, _, h0, h1, hb, hk => by
  obtain ⟨k, rfl⟩ : ∃ q, k = q + 1 := ⟨k - 1, by omega⟩
  simp only [SG.limbs_Product.l0]
  rw [if_neg (by simp), show low ++ c :: List.replicate ([] : List Int).length 0 = low ++ [c] from rfl, trim_f (by simp; simp at hk hb; omega) (by simp; simp at hb; omega) (okL_append hlow (okL_cons h0 h1 okL_nil))]
  rfl
 | a :: t, done, low, c, k, hl, hlow, hrem, h0, h1, hb, hk => by
  obtain ⟨k, rfl⟩ : ∃ q, k = q + 3 := ⟨k - 3, by omega⟩
  rw [List.length_cons] at hb hk
  obtain ⟨ha0, ha⟩ := hrem a (by simp)
  obtain ⟨b1, b2, b3, b4, b5⟩ := mul_bound ha0 ha hm0 hm h0 h1
  have hlen : ((done ++ a :: t).length : Int) = done.length + (t.length + 1) := by simp
  have hxl : ((low ++ c :: List.replicate (a :: t).length 0).length : Int) = done.length + (t.length + 2) := by simp; omega
  have hr1 : rd (low ++ c :: List.replicate (a :: t).length 0) (done.length : Int) = c := by rw [← hl]; exact rd_mid low c _
  have hone : (([m] : List Int).length : Int) = 1 := rfl
  have e1 : wrap64 ((done.length : Int) + 0) = (done.length : Int) := (w64 (by omega) (by omega)).trans (by omega)
  have e2 : wrap64 ((0 : Int) + 1) = 1 := by rw [w64 (by decide) (by decide)]; rfl
  have e3 : wrap64 ((done.length : Int) + 1) = ((done.length + 1 : Nat) : Int) := wadd done.length 1 (by clear e1 e2; omega)
  simp only [SG.limbs_Product.l0, SG.limbs_Product.l1, rd_mid done a t, e1, e2, e3, hone, hr1, show rd [m] 0 = m from rfl]
  clear e1 e2 e3
  rw [if_pos (by rw [hlen]; omega), if_pos (by omega), if_pos (by rw [hlen]; omega), if_pos (by decide), if_pos (by decide), if_pos (by decide), if_pos (by omega), if_pos (by rw [hxl]; omega), if_neg (by decide)]
  rw [u64 ha0 (by omega), u64 hm0 (by omega), u64 b1 (by omega), u64 h0 (by omega), u64 b3 b4, Int.zero_add, u64 b3 b4]
  rw [if_pos (by omega), if_pos (by rw [List.length_set, hxl]; omega)]
  have es : ((low ++ c :: List.replicate (a :: t).length 0).set (done.length : Int).toNat ((a * m + c) % 4294967296)).set ((done.length + 1 : Nat) : Int).toNat ((a * m + c) / 4294967296 % 4294967296) = (low ++ [(a * m + c) % 4294967296]) ++ ((a * m + c) / 4294967296) :: List.replicate t.length 0 := by
   rw [Int.toNat_natCast, Int.toNat_natCast, ← hl, set_mid, Int.emod_eq_of_lt (by omega) b5, List.length_cons, List.replicate_succ]
   have := set_mid (low ++ [(a * m + c) % 4294967296]) 0 ((a * m + c) / 4294967296) (List.replicate t.length 0)
   rw [List.length_append, List.length_singleton] at this
   rw [← this, List.append_assoc]
   rfl
  have hi := prod_l0 m hm0 hm t (done ++ [a]) (low ++ [(a * m + c) % 4294967296]) ((a * m + c) / 4294967296) k (by simp [hl]) (okL_append hlow (okL_cons (by omega) (by omega) okL_nil)) (fun x h => hrem x (List.mem_cons_of_mem _ h)) (by omega) b5 (by simp; omega) (by simp; omega)
  rw [es]
  rw [show done ++ [a] ++ t = done ++ a :: t by simp, show (done ++ [a]).length = done.length + 1 by simp] at hi
  refine hi.trans ?_
  rw [List.append_assoc]
  rfl
theorem prod_f (k n : Nat) (m : Int) (hm0 : 0 ≤ m) (hm : m < 4294967296) (hn : (lim n).length ≤ 10000) (hk : 50000 ≤ k) : SG.limbs_Product.f k (lim n) [m] = some (lim (n * m.toNat)) := by
 obtain ⟨s1, s2⟩ := mulGo_spec m hm0 hm (lim n) 0 (lim_ok n) (by decide) (by decide)
 have e : wrap64 (((lim n).length : Int) + (([m] : List Int).length : Int)) = (((lim n).length + 1 : Nat) : Int) := wadd (lim n).length 1 (by omega)
 simp only [SG.limbs_Product.f, e]
 clear e
 rw [if_pos (by omega), if_pos (by omega), Int.toNat_natCast, List.replicate_succ]
 have h := prod_l0 m hm0 hm (lim n) [] [] 0 k rfl okL_nil (lim_ok n) (by decide) (by decide) (by simp; omega) (by simp; omega)
 rw [List.nil_append, List.nil_append, List.nil_append, s2, val_lim] at h
 exact h
end Go.Proofs.YtoadabodhdgdjaaDoor.Pn
namespace Go.Proofs.YtoadabodhdgdjaaDoor.Pn
open Go.Proofs.YtoadabodhdgdjaaDoor.S0
open Go.RowKit Go.Proofs.YtoadabodhdgdjaaDoorW.PrintWords Go.Proofs.YtoadabodhdgdjaaDoorW.PrintLast Go.Proofs.YtoadabodhdgdjaaDoorW.PrintMore
set_option linter.unusedVariables false
set_option linter.unusedSimpArgs false
def addGo : List Int → List Int → Int → List Int
 | [], _, c => [c]
 | a :: t, bs, c => ((a + bs.headD 0 + c) % 4294967296) :: addGo t bs.tail ((a + bs.headD 0 + c) / 4294967296)
theorem headD_ok {bs : List Int} (h : okL bs) : 0 ≤ bs.headD 0 ∧ bs.headD 0 < 4294967296 := by
 cases bs with
 | nil => decide
 | cons b t => exact h b (by simp)
theorem tail_ok {bs : List Int} (h : okL bs) : okL bs.tail := fun x hx => h x (List.mem_of_mem_tail hx)
theorem val_head (bs : List Int) : val bs = (bs.headD 0).toNat + 4294967296 * val bs.tail := by
 cases bs with
 | nil => rfl
 | cons b t => rfl
theorem addGo_spec : ∀ (a bs : List Int) (c : Int), okL a → okL bs → bs.length ≤ a.length → 0 ≤ c → c ≤ 1 → okL (addGo a bs c) ∧ val (addGo a bs c) = val a + val bs + c.toNat
 | [], bs, c, _, _, hl, h0, h1 => by
  have : bs = [] := List.eq_nil_of_length_eq_zero (by simpa using hl)
  subst this
  exact ⟨okL_cons h0 (by omega) okL_nil, by simp [addGo, val]⟩
 | a :: t, bs, c, ha, hb, hl, h0, h1 => by
  obtain ⟨a0, a1⟩ := ha a (by simp)
  obtain ⟨b0, b1⟩ := headD_ok hb
  obtain ⟨i1, i2⟩ := addGo_spec t bs.tail ((a + bs.headD 0 + c) / 4294967296) (fun x h => ha x (List.mem_cons_of_mem _ h)) (tail_ok hb) (by rw [List.length_tail]; rw [List.length_cons] at hl; omega) (by omega) (by omega)
  refine ⟨okL_cons (by omega) (by omega) i1, ?_⟩
  rw [addGo, val, val, i2, val_head bs]
  omega
theorem limb_rd (bs : List Int) (i : Nat) : SDa.limbs_limb.f bs (i : Int) = some ((bs.drop i).headD 0) := by
 unfold SDa.limbs_limb.f
 by_cases h : i < bs.length
 ·rw [if_pos (by omega), if_pos (by omega), rd_at h, List.drop_eq_getElem_cons h]
  rfl
 ·rw [if_neg (by omega), List.drop_eq_nil_of_le (by omega)]
  rfl
theorem add32 {a b c : Int} (a0 : 0 ≤ a) (a1 : a < 4294967296) (b0 : 0 ≤ b) (b1 : b < 4294967296) (c0 : 0 ≤ c) (c1 : c ≤ 1) : SDa.bits_Add32.f a b c = some ((a + b + c) % 4294967296, (a + b + c) / 4294967296) := by
 unfold SDa.bits_Add32.f
 rw [u64 a0 (by omega), u64 b0 (by omega), u64 c0 (by omega), u64 (x := a + b) (by omega) (by omega), u64 (x := a + b + c) (by omega) (by omega), Int.emod_eq_of_lt (a := (a + b + c) / 4294967296) (by omega) (by omega)]
theorem sum_l0 (bs : List Int) (hbs : okL bs) : ∀ (rem done low : List Int) (c : Int) (k : Nat), low.length = done.length → okL rem → 0 ≤ c → c ≤ 1 → done.length + rem.length ≤ 1000000 → rem.length + 1 ≤ k →
  SDa.limbs_Sum.l0 k (done ++ rem) bs (low ++ List.replicate (rem.length + 1) 0) c ((done ++ rem).length : Int) (done.length : Int) = some (low ++ addGo rem (bs.drop done.length) c)
 | [], done, low, c, k, hl, _, h0, h1, hb, hk => by
  obtain ⟨k, rfl⟩ : ∃ q, k = q + 1 := ⟨k - 1, by omega⟩
  simp only [SDa.limbs_Sum.l0]
  rw [if_neg (by simp), if_pos (by omega), if_pos (by simp; omega), Int.toNat_natCast]
  have := set_mid low 0 c []
  rw [hl] at this
  simp only [List.append_nil]
  exact congrArg some this
 | a :: t, done, low, c, k, hl, hrem, h0, h1, hb, hk => by
  obtain ⟨k, rfl⟩ : ∃ q, k = q + 1 := ⟨k - 1, by omega⟩
  rw [List.length_cons] at hb hk
  obtain ⟨a0, a1⟩ := hrem a (by simp)
  have hd := headD_ok (bs := bs.drop done.length) (fun x h => hbs x (List.mem_of_mem_drop h))
  obtain ⟨b0, b1⟩ := hd
  have hlen : ((done ++ a :: t).length : Int) = done.length + (t.length + 1) := by simp
  have hxl : ((low ++ List.replicate ((a :: t).length + 1) 0).length : Int) = done.length + (t.length + 2) := by simp; omega
  simp only [SDa.limbs_Sum.l0, rd_mid done a t, limb_rd, Option.bind_some, add32 a0 a1 b0 b1 h0 h1]
  rw [if_pos (by rw [hlen]; omega), if_pos (by omega), if_pos (by rw [hlen]; omega), if_pos (by rw [hxl]; omega)]
  have es : (low ++ List.replicate ((a :: t).length + 1) 0).set (done.length : Int).toNat ((a + (bs.drop done.length).headD 0 + c) % 4294967296) = (low ++ [(a + (bs.drop done.length).headD 0 + c) % 4294967296]) ++ List.replicate (t.length + 1) 0 := by
   rw [Int.toNat_natCast, ← hl, List.length_cons, List.replicate_succ, set_mid, List.append_assoc]
   rfl
  have hi := sum_l0 bs hbs t (done ++ [a]) (low ++ [(a + (bs.drop done.length).headD 0 + c) % 4294967296]) ((a + (bs.drop done.length).headD 0 + c) / 4294967296) k (by simp [hl]) (fun x h => hrem x (List.mem_cons_of_mem _ h)) (by omega) (by omega) (by simp; omega) (by omega)
  rw [show done ++ [a] ++ t = done ++ a :: t by simp, show (done ++ [a]).length = done.length + 1 by simp] at hi
  rw [es, show wrap64 ((done.length : Int) + 1) = ((done.length + 1 : Nat) : Int) from wadd done.length 1 (by omega)]
  refine hi.trans ?_
  rw [List.append_assoc, ← List.drop_drop, List.drop_one]
  rfl
theorem sum_a (k : Nat) (a bs : List Int) (ha : okL a) (hbs : okL bs) (hl : bs.length ≤ a.length) (hb : a.length ≤ 100000) (hk : a.length + 1 ≤ k) : ∃ r, SDa.limbs_Sum.f k a bs = some r ∧ okL r ∧ val r = val a + val bs ∧ r.length = a.length + 1 := by
 obtain ⟨s1, s2⟩ := addGo_spec a bs 0 ha hbs hl (by decide) (by decide)
 have hlen : ∀ (a bs : List Int) (c : Int), (addGo a bs c).length = a.length + 1 := by
  intro a
  induction a with
  | nil => intro bs c; rfl
  | cons x t ih => intro bs c; rw [addGo, List.length_cons, ih, List.length_cons]
 refine ⟨addGo a bs 0, ?_, s1, by rw [s2]; rfl, hlen _ _ _⟩
 simp only [SDa.limbs_Sum.f]
 rw [if_neg (by omega), show wrap64 ((a.length : Int) + 1) = ((a.length + 1 : Nat) : Int) from wadd a.length 1 (by omega), if_pos (by omega), if_pos (by omega), Int.toNat_natCast]
 have := sum_l0 bs hbs a [] [] 0 k rfl ha (by decide) (by decide) (by simp; omega) hk
 simpa using this
theorem extended_f (k n : Nat) (m d : Int) (hm0 : 0 ≤ m) (hm : m < 4294967296) (hd0 : 0 ≤ d) (hd : d < 4294967296) (hn : (lim n).length ≤ 5000) (hn2 : (lim (n * m.toNat)).length ≤ 5000) (hk : 50000 ≤ k) : SG.bigint_extended.f k (lim n) m d = some (lim (n * m.toNat + d.toNat)) := by
 unfold SG.bigint_extended.f
 rw [prod_f k n m hm0 hm (by omega) hk, Option.bind_some]
 have hdok : okL [d] := okL_cons hd0 hd okL_nil
 by_cases h0 : (lim (n * m.toNat)).length < 1
 ·have hz : lim (n * m.toNat) = [] := List.eq_nil_of_length_eq_zero (by omega)
  have hz2 : n * m.toNat = 0 := by
   by_cases h : n * m.toNat = 0
   ·exact h
   ·exact absurd hz (lim_ne h)
  rw [hz, hz2]
  have hs : St.limbs_Sum.f [] [d] = some [d, 0] := by
   unfold St.limbs_Sum.f
   rw [if_pos (by simp)]
   simp only [List.length_nil, List.length_singleton, Nat.zero_add, Nat.reduceAdd, SDb.limbs_Sum.f, SDb.limbs_Sum.l0, SDb.limbs_limb.f, SDb.bits_Add32.f, Option.bind_some]
   rw [show wrap64 (((1 : Nat) : Int) + 1) = 2 from wadd 1 1 (by decide), show wrap64 ((0 : Int) + 1) = 1 from wadd 0 1 (by decide)]
   simp [rd, u64 hd0 (show d < 18446744073709551616 by omega), u64 (x := 0) (by decide) (by decide), Int.emod_eq_of_lt hd0 hd, Int.ediv_eq_zero_of_lt hd0 hd]
  rw [hs, Option.bind_some, trim_f (by simp; omega) (by simp) (okL_cons hd0 hd (okL_cons (by decide) (by decide) okL_nil)), Option.bind_some]
  simp [val]
 ·unfold St.limbs_Sum.f
  rw [if_neg (by simpa using h0)]
  obtain ⟨r, h1, h2, h3, h4⟩ := sum_a ((lim (n * m.toNat)).length + [d].length + 2) (lim (n * m.toNat)) [d] (lim_ok _) hdok (by simp; omega) (by omega) (by omega)
  rw [h1, Option.bind_some, trim_f (by omega) (by omega) h2, Option.bind_some, h3, val_lim]
  simp [val]
def divQ (m : Int) : List Int → List Int × Int
 | [] => ([], 0)
 | a :: t => ((4294967296 * (divQ m t).2 + a) / m :: (divQ m t).1, (4294967296 * (divQ m t).2 + a) % m)
theorem divQ_spec (m : Int) (hm0 : 0 < m) (hm : m < 4294967296) : ∀ l : List Int, okL l → okL (divQ m l).1 ∧ val (divQ m l).1 = val l / m.toNat ∧ (divQ m l).2 = ((val l % m.toNat : Nat) : Int) ∧ (divQ m l).1.length = l.length
 | [], _ => ⟨okL_nil, by simp [divQ, val], by simp [divQ, val], rfl⟩
 | a :: t, h => by
  obtain ⟨a0, a1⟩ := h a (by simp)
  obtain ⟨i1, i2, i3, i4⟩ := divQ_spec m hm0 hm t (fun x hx => h x (List.mem_cons_of_mem _ hx))
  obtain ⟨M, hM⟩ : ∃ M : Nat, m = (M : Int) := ⟨m.toNat, by omega⟩
  obtain ⟨A, hA⟩ : ∃ A : Nat, a = (A : Int) := ⟨a.toNat, by omega⟩
  subst hM
  subst hA
  have hMp : 0 < M := by omega
  rw [Int.toNat_natCast] at i2 i3
  have hR : val t % M < M := Nat.mod_lt _ hMp
  have hdm := Nat.div_add_mod (val t) M
  have e : A + 4294967296 * val t = M * (4294967296 * (val t / M)) + (4294967296 * (val t % M) + A) := by
   rw [Nat.mul_left_comm, ← Nat.add_assoc, ← Nat.mul_add, hdm]
   omega
  have eq1 : (A + 4294967296 * val t) / M = 4294967296 * (val t / M) + (4294967296 * (val t % M) + A) / M := by rw [e, Nat.mul_add_div hMp]
  have eq2 : (A + 4294967296 * val t) % M = (4294967296 * (val t % M) + A) % M := by rw [e, Nat.mul_add_mod]
  have hq : (4294967296 * (val t % M) + A) / M < 4294967296 := by
   apply Nat.div_lt_of_lt_mul
   have : 4294967296 * (val t % M) + 4294967296 ≤ 4294967296 * M := by omega
   rw [Nat.mul_comm M]
   omega
  have c1 : (4294967296 * ((val t % M : Nat) : Int) + (A : Int)) / (M : Int) = (((4294967296 * (val t % M) + A) / M : Nat) : Int) := by rw [Int.natCast_ediv]; simp
  have c2 : (4294967296 * ((val t % M : Nat) : Int) + (A : Int)) % (M : Int) = (((4294967296 * (val t % M) + A) % M : Nat) : Int) := by rw [Int.natCast_emod]; simp
  have d1 : divQ (M : Int) ((A : Int) :: t) = (((((4294967296 * (val t % M) + A) / M : Nat) : Int)) :: (divQ M t).1, (((4294967296 * (val t % M) + A) % M : Nat) : Int)) := by
   rw [divQ, i3, c1, c2]
  rw [d1]
  refine ⟨okL_cons (Int.natCast_nonneg _) (Int.ofNat_lt.2 hq) i1, ?_, ?_, ?_⟩
  ·rw [val, val, i2, Int.toNat_natCast, Int.toNat_natCast, Int.toNat_natCast, eq1]
   omega
  ·rw [val, Int.toNat_natCast, Int.toNat_natCast, eq2]
  ·simp [i4]
theorem div32 {r a m : Int} (r0 : 0 ≤ r) (r1 : r < m) (m1 : m < 4294967296) (a0 : 0 ≤ a) (a1 : a < 4294967296) : St.bits_Div32.f r a m = some ((4294967296 * r + a) / m, (4294967296 * r + a) % m) := by
 unfold St.bits_Div32.f
 rw [if_pos ⟨r0, r1, m1, a0, a1⟩]
theorem div_l0 (m : Int) (hm0 : 0 < m) (hm : m < 4294967296) : ∀ (n : Nat) (lo hi : List Int) (k : Nat), lo.length = n → okL (lo ++ hi) → (lo ++ hi).length ≤ 100000 → lo.length + (lo ++ hi).length + 5 ≤ k →
  SG.limbs_Divided.l0 k (lo ++ hi) m (List.replicate lo.length 0 ++ (divQ m hi).1) (divQ m hi).2 ((lo.length : Int) - 1) = some (lim (val (divQ m (lo ++ hi)).1), (divQ m (lo ++ hi)).2)
 | 0, lo, hi, k, hn, hok, hb, hk => by
  have : lo = [] := List.eq_nil_of_length_eq_zero hn
  subst this
  obtain ⟨k, rfl⟩ : ∃ q, k = q + 1 := ⟨k - 1, by omega⟩
  rw [List.nil_append] at *
  obtain ⟨s1, s2, s3, s4⟩ := divQ_spec m hm0 hm hi hok
  simp only [SG.limbs_Divided.l0]
  rw [if_neg (by simp), List.length_nil, List.replicate_zero, List.nil_append, trim_f (by rw [s4]; simp at hk; omega) (by rw [s4]; omega) s1]
  rfl
 | n + 1, lo, hi, k, hn, hok, hb, hk => by
  rcases List.eq_nil_or_concat lo with rfl | ⟨lo', a, rfl⟩
  ·simp at hn
  ·rw [List.concat_eq_append] at *
   obtain ⟨k, rfl⟩ : ∃ q, k = q + 1 := ⟨k - 1, by omega⟩
   have hl' : lo'.length = n := by simpa using hn
   have hL : (lo' ++ [a]).length = lo'.length + 1 := by simp
   obtain ⟨a0, a1⟩ := hok a (by simp)
   have hhi : okL hi := fun x h => hok x (by simp [h])
   obtain ⟨s1, s2, s3, s4⟩ := divQ_spec m hm0 hm hi hhi
   have r0 : 0 ≤ (divQ m hi).2 := by rw [s3]; omega
   have r1 : (divQ m hi).2 < m := by
    rw [s3]
    have := Nat.mod_lt (val hi) (show m.toNat > 0 by omega)
    omega
   have e : (((lo' ++ [a]).length : Int) - 1) = (lo'.length : Int) := by rw [hL]; omega
   have ea : lo' ++ [a] ++ hi = lo' ++ a :: hi := by simp
   have hTl : (lo' ++ a :: hi).length = lo'.length + (hi.length + 1) := by simp
   rw [ea] at hok hb hk ⊢
   rw [e]
   have ex : List.replicate (lo' ++ [a]).length (0 : Int) ++ (divQ m hi).1 = List.replicate lo'.length 0 ++ 0 :: (divQ m hi).1 := by
    rw [hL, List.replicate_succ', List.append_assoc]
    rfl
   rw [ex]
   have es : (List.replicate lo'.length (0 : Int) ++ 0 :: (divQ m hi).1).set (lo'.length : Int).toNat ((4294967296 * (divQ m hi).2 + a) / m) = List.replicate lo'.length 0 ++ (divQ m (a :: hi)).1 := by
    have := set_mid (List.replicate lo'.length (0 : Int)) 0 ((4294967296 * (divQ m hi).2 + a) / m) (divQ m hi).1
    rw [List.length_replicate] at this
    rw [Int.toNat_natCast, this]
    rfl
   have hi2 := div_l0 m hm0 hm n lo' (a :: hi) k hl' hok hb (by rw [hL] at hk; omega)
   have hxl : ((List.replicate lo'.length (0 : Int) ++ 0 :: (divQ m hi).1).length : Int) = lo'.length + (hi.length + 1) := by simp [s4]
   have e1 : wrap64 ((lo'.length : Int) - 1) = (lo'.length : Int) - 1 := w64 (by omega) (by omega)
   simp only [SG.limbs_Divided.l0, rd_mid lo' a hi, div32 r0 r1 hm a0 a1, Option.bind_some, e1]
   clear e1
   rw [if_pos (by omega), if_pos (by omega), if_pos (by rw [hTl]; omega), if_pos (by rw [hxl]; omega), es]
   exact hi2
theorem div_f (k n : Nat) (m : Int) (hm0 : 0 < m) (hm : m < 4294967296) (hn : (lim n).length ≤ 5000) (hk : 20000 ≤ k) : SG.limbs_Divided.f k (lim n) m = some (lim (n / m.toNat), ((n % m.toNat : Nat) : Int)) := by
 obtain ⟨s1, s2, s3, s4⟩ := divQ_spec m hm0 hm (lim n) (lim_ok n)
 have h := div_l0 m hm0 hm (lim n).length (lim n) [] k rfl (by rw [List.append_nil]; exact lim_ok n) (by rw [List.append_nil]; omega) (by rw [List.append_nil]; omega)
 simp only [List.append_nil, divQ] at h
 simp only [SG.limbs_Divided.f]
 rw [if_pos (by omega), if_pos (by omega), Int.toNat_natCast, w64 (by omega) (by omega)]
 rw [h, s2, s3, val_lim]
def digL (m n : Nat) : List Int := if h : 2 ≤ m ∧ n ≠ 0 then ((n % m : Nat) : Int) :: digL m (n / m) else []
termination_by n
decreasing_by exact Nat.div_lt_self (by omega) h.1
theorem digL_zero (m : Nat) : digL m 0 = [] := by rw [digL, dif_neg (by simp)]
theorem digL_pos {m n : Nat} (hm : 2 ≤ m) (h : n ≠ 0) : digL m n = ((n % m : Nat) : Int) :: digL m (n / m) := by rw [digL, dif_pos ⟨hm, h⟩]
theorem lim_len_mono {a b : Nat} (h : a ≤ b) : (lim a).length ≤ (lim b).length := by
 induction b using Nat.strongRecOn generalizing a with
 | ind b ih =>
  by_cases ha : a = 0
  ·rw [ha, lim_zero]; exact Nat.zero_le _
  ·have hb : b ≠ 0 := by omega
   rw [lim_pos ha, lim_pos hb, List.length_cons, List.length_cons]
   have := ih (b / 4294967296) (by omega) (show a / 4294967296 ≤ b / 4294967296 by omega)
   omega
theorem digits_l0 (m : Nat) (hm2 : 2 ≤ m) (hm : m < 4294967296) : ∀ (n k : Nat) (out : List Int), (digL m n).length + 20001 ≤ k → (lim n).length ≤ 5000 → out.length + (digL m n).length ≤ 1000000 → SG.bigint_digits.l0 k (lim n) (m : Int) out = some (out ++ digL m n) := by
 intro n
 induction n using Nat.strongRecOn with
 | ind n ih =>
  intro k out hk hn ho
  obtain ⟨k, rfl⟩ : ∃ q, k = q + 1 := ⟨k - 1, by omega⟩
  simp only [SG.bigint_digits.l0]
  by_cases h : n = 0
  ·subst h
   rw [lim_zero, digL_zero, if_neg (by simp), List.append_nil]
  ·have hd := digL_pos hm2 h
   rw [hd, List.length_cons] at hk ho
   have hne := lim_ne h
   have hp : 0 < (lim n).length := List.length_pos_iff.2 hne
   have hq : n / m < n := Nat.div_lt_self (by omega) hm2
   rw [if_pos (by omega), div_f k n m (by omega) (by omega) hn (by omega), Option.bind_some, Int.toNat_natCast]
   have hr : n % m < m := Nat.mod_lt _ (by omega)
   rw [if_pos (by omega)]
   have hw : wrap64 ((n % m : Nat) : Int) = ((n % m : Nat) : Int) := w64 (by omega) (by omega)
   simp only [hw]
   clear hw
   rw [ih (n / m) hq k (out ++ [((n % m : Nat) : Int)]) (by omega) (Nat.le_trans (lim_len_mono (Nat.le_of_lt hq)) hn) (by rw [List.length_append, List.length_singleton]; omega), hd, List.append_assoc]
   rfl
theorem digits_f (k m n : Nat) (hm2 : 2 ≤ m) (hm : m < 4294967296) (hk : (digL m n).length + 20001 ≤ k) (hn : (lim n).length ≤ 5000) (ho : (digL m n).length ≤ 1000000) : SG.bigint_digits.f k (lim n) (m : Int) = some (digL m n) := by
 unfold SG.bigint_digits.f
 rw [digits_l0 m hm2 hm n k [] hk hn (by simpa using ho), List.nil_append]
end Go.Proofs.YtoadabodhdgdjaaDoor.Pn
namespace Go.Proofs.YtoadabodhdgdjaaDoor.Pn
open Go.RowKit Go.Proofs.YtoadabodhdgdjaaDoorW.PrintWords Go.Proofs.YtoadabodhdgdjaaDoorW.PrintLast Go.Proofs.YtoadabodhdgdjaaDoorW.PrintMore
set_option linter.unusedVariables false
set_option linter.unusedSimpArgs false
theorem rev_step (A M C : List Int) (a b : Int) (h : A.length = C.length) : ((A ++ (a :: (M ++ [b])) ++ C).set A.length b).set (A.length + M.length + 1) a = (A ++ [b]) ++ M ++ ([a] ++ C) := by
 have e1 : (A ++ (a :: (M ++ [b])) ++ C).set A.length b = (A ++ b :: M) ++ b :: C := by
  simp
 rw [e1]
 have := set_mid (A ++ b :: M) b a C
 rw [show (A ++ b :: M).length = A.length + M.length + 1 by simp; omega] at this
 rw [this]
 simp
theorem rd_hi (A M C : List Int) (a b : Int) : rd (A ++ (a :: (M ++ [b])) ++ C) ((A.length + M.length + 1 : Nat) : Int) = b := by
 have := rd_mid (A ++ a :: M) b C
 rw [show (A ++ a :: M).length = A.length + M.length + 1 by simp; omega] at this
 rw [show A ++ (a :: (M ++ [b])) ++ C = (A ++ a :: M) ++ b :: C by simp]
 exact this
theorem rd_lo (A M C : List Int) (a b : Int) : rd (A ++ (a :: (M ++ [b])) ++ C) (A.length : Int) = a := by
 have := rd_mid A a (M ++ [b] ++ C)
 rw [show A ++ (a :: (M ++ [b])) ++ C = A ++ a :: (M ++ [b] ++ C) by simp]
 exact this
theorem list_ends {α : Type} (l : List α) : l = [] ∨ (∃ a, l = [a]) ∨ ∃ a m b, l = a :: (m ++ [b]) := by
 cases l with
 | nil => exact .inl rfl
 | cons a t =>
  rcases List.eq_nil_or_concat t with rfl | ⟨m, b, rfl⟩
  ·exact .inr (.inl ⟨a, rfl⟩)
  ·exact .inr (.inr ⟨a, m, b, by rw [List.concat_eq_append]⟩)
theorem rev_int : ∀ (n : Nat) (A M C : List Int) (k : Nat), M.length = n → A.length = C.length → A.length + M.length + C.length ≤ 1000000 → n + 1 ≤ k →
  SG.slices_Reverse_int_int.l0 k (A ++ M ++ C) (A.length : Int) ((A.length : Int) + M.length - 1) = some (A ++ M.reverse ++ C) := by
 intro n
 induction n using Nat.strongRecOn with
 | ind n ih =>
  intro A M C k hn hl hb hk
  obtain ⟨k, rfl⟩ : ∃ q, k = q + 1 := ⟨k - 1, by omega⟩
  simp only [SG.slices_Reverse_int_int.l0]
  rcases list_ends M with rfl | ⟨a, rfl⟩ | ⟨a, m, b, rfl⟩
  ·rw [if_neg (by simp; omega)]; simp
  ·rw [if_neg (by simp)]; simp
  ·have hM : (a :: (m ++ [b])).length = m.length + 2 := by simp
   rw [hM] at hb hn
   have hT : (A ++ (a :: (m ++ [b])) ++ C).length = A.length + m.length + 2 + C.length := by simp; omega
   have e2 : (A.length : Int) + ((a :: (m ++ [b])).length : Int) - 1 = ((A.length + m.length + 1 : Nat) : Int) := by rw [hM]; omega
   rw [e2, if_pos (by omega), if_pos (by omega), if_pos (by rw [hT]; omega), if_pos (by omega), if_pos (by rw [hT]; omega), rd_hi, rd_lo, Int.toNat_natCast, Int.toNat_natCast, rev_step A m C a b hl]
   have e3 : wrap64 ((A.length : Int) + 1) = ((A ++ [b]).length : Int) := (w64 (by omega) (by omega)).trans (by simp)
   have e4 : wrap64 (((A.length + m.length + 1 : Nat) : Int) - 1) = ((A ++ [b]).length : Int) + m.length - 1 := (w64 (by clear e3; omega) (by clear e3; omega)).trans (by clear e3; simp; omega)
   rw [e3, e4]
   clear e3 e4
   rw [ih m.length (by omega) (A ++ [b]) m ([a] ++ C) k rfl (by simp; omega) (by simp; omega) (by omega)]
   simp
theorem rev_int_f (k : Nat) (l : List Int) (hb : l.length ≤ 1000000) (hk : l.length + 1 ≤ k) : SG.slices_Reverse_int_int.f k l = some l.reverse := by
 have h := rev_int l.length [] l [] k rfl rfl (by simpa using hb) hk
 unfold SG.slices_Reverse_int_int.f
 rw [w64 (by omega) (by omega)]
 simpa using h
theorem rev_byte : ∀ (n : Nat) (A M C : List Int) (k : Nat), M.length = n → A.length = C.length → A.length + M.length + C.length ≤ 1000000 → n + 1 ≤ k →
  SG.slices_Reverse_byte_byte.l0 k (A ++ M ++ C) (A.length : Int) ((A.length : Int) + M.length - 1) = some (A ++ M.reverse ++ C) := by
 intro n
 induction n using Nat.strongRecOn with
 | ind n ih =>
  intro A M C k hn hl hb hk
  obtain ⟨k, rfl⟩ : ∃ q, k = q + 1 := ⟨k - 1, by omega⟩
  simp only [SG.slices_Reverse_byte_byte.l0]
  rcases list_ends M with rfl | ⟨a, rfl⟩ | ⟨a, m, b, rfl⟩
  ·rw [if_neg (by simp; omega)]; simp
  ·rw [if_neg (by simp)]; simp
  ·have hM : (a :: (m ++ [b])).length = m.length + 2 := by simp
   rw [hM] at hb hn
   have hT : (A ++ (a :: (m ++ [b])) ++ C).length = A.length + m.length + 2 + C.length := by simp; omega
   have e2 : (A.length : Int) + ((a :: (m ++ [b])).length : Int) - 1 = ((A.length + m.length + 1 : Nat) : Int) := by rw [hM]; omega
   rw [e2, if_pos (by omega), if_pos (by omega), if_pos (by rw [hT]; omega), if_pos (by omega), if_pos (by rw [hT]; omega), rd_hi, rd_lo, Int.toNat_natCast, Int.toNat_natCast, rev_step A m C a b hl]
   have e3 : wrap64 ((A.length : Int) + 1) = ((A ++ [b]).length : Int) := (w64 (by omega) (by omega)).trans (by simp)
   have e4 : wrap64 (((A.length + m.length + 1 : Nat) : Int) - 1) = ((A ++ [b]).length : Int) + m.length - 1 := (w64 (by clear e3; omega) (by clear e3; omega)).trans (by clear e3; simp; omega)
   rw [e3, e4]
   clear e3 e4
   rw [ih m.length (by omega) (A ++ [b]) m ([a] ++ C) k rfl (by simp; omega) (by simp; omega) (by omega)]
   simp
theorem rev_byte_f (k : Nat) (l : List Int) (hb : l.length ≤ 1000000) (hk : l.length + 1 ≤ k) : SG.slices_Reverse_byte_byte.f k l = some l.reverse := by
 have h := rev_byte l.length [] l [] k rfl rfl (by simpa using hb) hk
 unfold SG.slices_Reverse_byte_byte.f
 rw [w64 (by omega) (by omega)]
 simpa using h
theorem lim_last : ∀ {n : Nat} (h : n ≠ 0), (lim n).getLast (lim_ne h) ≠ 0 := by
 intro n
 induction n using Nat.strongRecOn with
 | ind n ih =>
  intro h
  by_cases hq : n / 4294967296 = 0
  ·have e : lim n = [((n % 4294967296 : Nat) : Int)] := by rw [lim_pos h, hq, lim_zero]
   simp only [e, List.getLast_singleton]
   omega
  ·have e : lim n = ((n % 4294967296 : Nat) : Int) :: lim (n / 4294967296) := lim_pos h
   simp only [e]
   rw [List.getLast_cons (lim_ne hq)]
   exact ih _ (by omega) hq
theorem valid_f {n : Nat} (h : n ≠ 0) (hn : (lim n).length ≤ 512) : SG.bigint_Valid.f false (lim n) = some true := by
 unfold SG.bigint_Valid.f
 have hp : 0 < (lim n).length := List.length_pos_iff.2 (lim_ne h)
 rw [if_pos (by omega), if_neg (by omega), if_pos (by omega), w64 (by omega) (by omega), if_pos (by omega), if_pos (by omega)]
 have e : ((lim n).length : Int) - 1 = (((lim n).length - 1 : Nat) : Int) := by omega
 have hl := lim_last h
 rw [List.getLast_eq_getElem] at hl
 rw [e, rd_at (by omega)]
 simp only [Option.some.injEq, bne_iff_ne, ne_eq]
 exact hl
theorem made_f (k n : Nat) (hn : (lim n).length ≤ 5000) (hk : 20000 ≤ k) : SG.bigint_made.f k false (lim n) = some (false, lim n) := by
 unfold SG.bigint_made.f
 rw [trim_f (by omega) (by omega) (lim_ok n), Option.bind_some, val_lim]
 unfold St.slices_Clone_uint32_uint32.f
 rw [if_pos (by omega)]
 rfl
theorem Digits_f (k n : Nat) (h : n ≠ 0) (hn : (lim n).length ≤ 512) (hd : (digL 900 n).length ≤ 4096) (hk : 40000 ≤ k) : SG.bigint_Digits.f k false (lim n) 900 = some ((digL 900 n).reverse, 0) := by
 obtain ⟨k, rfl⟩ : ∃ q, k = q + 1 := ⟨k - 1, by omega⟩
 unfold SG.bigint_Digits.f
 rw [valid_f h hn, Option.bind_some, if_pos rfl, if_neg (by decide), if_neg (by decide)]
 simp only [SG.bigint_Digits.j0]
 have hp : 0 < (lim n).length := List.length_pos_iff.2 (lim_ne h)
 rw [if_neg (by decide), if_neg (by omega), show (900 : Int) % 4294967296 = ((900 : Nat) : Int) from rfl, digits_f k 900 n (by decide) (by decide) (by omega) (by omega) (by omega), Option.bind_some, if_neg (by omega), rev_int_f k _ (by omega) (by omega)]
 rfl
theorem fmt_l0 : ∀ (rem done x3 : List Int) (k : Nat), (∀ d, d ∈ rem → 0 ≤ d ∧ d < 10) → done.length + rem.length ≤ 100000 → x3.length + rem.length ≤ 1000000 → x3.length + 2 * rem.length + 2 ≤ k →
  ∀ l1, SG.bigint_Format.l0 k x3 (done ++ rem) ((done ++ rem).length : Int) (done.length : Int) false l1 = some (strOfNums (x3 ++ rem.map (48 + ·)).reverse)
 | [], done, x3, k, _, hb, hx, hk, l1 => by
  obtain ⟨k, rfl⟩ : ∃ q, k = q + 1 := ⟨k - 1, by omega⟩
  simp only [SG.bigint_Format.l0]
  rw [if_neg (by simp), if_neg (by decide), rev_byte_f k x3 (by simp at hx; omega) (by simp at hk; omega)]
  simp
 | d :: t, done, x3, k, hd, hb, hx, hk, l1 => by
  obtain ⟨k, rfl⟩ : ∃ q, k = q + 1 := ⟨k - 1, by omega⟩
  rw [List.length_cons] at hb hx hk
  obtain ⟨d0, d1⟩ := hd d (by simp)
  have hT : ((done ++ d :: t).length : Int) = done.length + (t.length + 1) := by simp
  simp only [SG.bigint_Format.l0, rd_mid done d t]
  rw [if_pos (by rw [hT]; omega), if_pos (by omega), if_pos (by rw [hT]; omega), if_pos (by omega), w64 (x := 48 + d) (by omega) (by omega), Int.emod_eq_of_lt (by omega) (by omega), show wrap64 ((done.length : Int) + 1) = ((done.length + 1 : Nat) : Int) from wadd done.length 1 (by omega)]
  have hi := fmt_l0 t (done ++ [d]) (x3 ++ [48 + d]) k (fun x h => hd x (List.mem_cons_of_mem _ h)) (by simp; omega) (by simp; omega) (by simp; omega) l1
  rw [show done ++ [d] ++ t = done ++ d :: t by simp, show (done ++ [d]).length = done.length + 1 by simp] at hi
  rw [hi]
  simp
theorem digL_dig (m : Nat) (hm : 2 ≤ m) : ∀ n d, d ∈ digL m n → 0 ≤ d ∧ d < m := by
 intro n
 induction n using Nat.strongRecOn with
 | ind n ih =>
  intro d hd
  by_cases h : n = 0
  ·rw [h, digL_zero] at hd; simp at hd
  ·rw [digL_pos hm h] at hd
   have hq : n / m < n := Nat.div_lt_self (by omega) hm
   rcases List.mem_cons.1 hd with rfl | hd
   ·have := Nat.mod_lt n (show m > 0 by omega)
    omega
   ·exact ih _ hq d hd
theorem Format_f (k n : Nat) (h : n ≠ 0) (hn : (lim n).length ≤ 512) (hd : (digL 10 n).length ≤ 10000) (hk : 50000 ≤ k) : SG.bigint_Format.f k false (lim n) = some (strOfNums ((digL 10 n).map (48 + ·)).reverse) := by
 unfold SG.bigint_Format.f
 have hp : 0 < (lim n).length := List.length_pos_iff.2 (lim_ne h)
 rw [valid_f h hn, Option.bind_some, if_pos rfl, if_neg (by omega), show (10 : Int) = ((10 : Nat) : Int) from rfl, digits_f k 10 n (by decide) (by decide) (by omega) (by omega) (by omega), Option.bind_some]
 have := fmt_l0 (digL 10 n) [] [] k (digL_dig 10 (by decide) n) (by simp; omega) (by simp; omega) (by simp; omega) (lim n)
 simpa using this
end Go.Proofs.YtoadabodhdgdjaaDoor.Pn
namespace Go.Proofs.YtoadabodhdgdjaaDoor.Pn
open Go.RowKit Go.Proofs.YtoadabodhdgdjaaDoorW.PrintWords Go.Proofs.YtoadabodhdgdjaaDoorW.PrintLast Go.Proofs.YtoadabodhdgdjaaDoorW.PrintMore
set_option linter.unusedVariables false
set_option linter.unusedSimpArgs false
def horner (m : Nat) : List Nat → Nat → Nat
 | [], v => v
 | d :: t, v => horner m t (v * m + d)
theorem horner_append (m : Nat) (a b : List Nat) (v : Nat) : horner m (a ++ b) v = horner m b (horner m a v) := by
 induction a generalizing v with
 | nil => rfl
 | cons d t ih => exact ih _
theorem horner_lt {m : Nat} (hm : 0 < m) : ∀ (l : List Nat) (v w : Nat), (∀ d, d ∈ l → d < m) → v < w → horner m l v < w * m ^ l.length
 | [], v, w, _, h => by simpa [horner] using h
 | d :: t, v, w, hd, h => by
  have h1 : v * m + d < w * m := by
   have := hd d (by simp)
   have h2 : (v + 1) * m ≤ w * m := Nat.mul_le_mul_right m h
   rw [Nat.add_mul] at h2
   omega
  have := horner_lt hm t (v * m + d) (w * m) (fun x hx => hd x (List.mem_cons_of_mem _ hx)) h1
  rw [horner, List.length_cons, Nat.pow_succ, Nat.mul_comm (m ^ t.length) m, ← Nat.mul_assoc]
  exact this
theorem horner_ge {m : Nat} : ∀ (l : List Nat) (v : Nat), v * m ^ l.length ≤ horner m l v
 | [], v => by simp [horner]
 | d :: t, v => by
  have := horner_ge (m := m) t (v * m + d)
  rw [horner, List.length_cons, Nat.pow_succ, Nat.mul_comm (m ^ t.length) m, ← Nat.mul_assoc]
  exact Nat.le_trans (Nat.mul_le_mul_right _ (Nat.le_add_right _ _)) this
theorem big_lim {n : Nat} (h : n < 10 ^ 200) : (lim n).length ≤ 100 := lim_len_le 100 n (Nat.lt_trans h (by decide +kernel))
def dig (b : UInt8) : Nat := b.toNat - 48
def isDig (b : UInt8) : Prop := 48 ≤ b.toNat ∧ b.toNat ≤ 57
theorem dig_lt {b : UInt8} (h : isDig b) : dig b < 10 := by unfold dig; have := h.2; omega
theorem bt_list (s : ByteArray) (i : Nat) (h : i < s.data.toList.length) : bt s (i : Int) = ((s.data.toList[i]).toNat : Int) := by
 have hs : i < s.size := by rwa [data_length] at h
 rw [← bt_at s (i : Int) (by simpa using hs)]
 simp
 rfl
theorem parse_go (k : Nat) (s : ByteArray) (hd : ∀ b, b ∈ s.data.toList → isDig b) (hk : 50000 ≤ k) : ∀ (n pos v p : Nat), pos + n = s.size → v < 10 ^ p → p + n ≤ 190 → St.parseGo k s n pos (lim v) = some (lim (horner 10 ((s.data.toList.drop pos).map dig) v))
 | 0, pos, v, p, hn, _, _ => by
  rw [List.drop_eq_nil_of_le (by rw [data_length]; omega)]
  rfl
 | n + 1, pos, v, p, hn, hv, hp => by
  have hpos : pos < s.data.toList.length := by rw [data_length]; omega
  have hb := hd s.data.toList[pos] (List.getElem_mem hpos)
  have hb0 := hb.1
  have hb1 := hb.2
  have hdd : (bt s (pos : Int) - 48) = ((dig s.data.toList[pos] : Nat) : Int) := by
   rw [bt_list s pos hpos]
   unfold dig
   omega
  have hvp : v * 10 < 10 ^ (p + 1) := by rw [Nat.pow_succ]; omega
  have hvd : v * 10 + dig s.data.toList[pos] < 10 ^ (p + 1) := by
   have := dig_lt hb
   rw [Nat.pow_succ]
   omega
  have hpw : (10 : Nat) ^ (p + 1) ≤ 10 ^ 200 := Nat.pow_le_pow_right (by decide) (by omega)
  have hdl := dig_lt hb
  rw [St.parseGo, hdd, extended_f k v 10 _ (by decide) (by decide) (by omega) (by omega) (Nat.le_trans (big_lim (by omega)) (by decide)) (Nat.le_trans (big_lim (show v * 10 < 10 ^ 200 by omega)) (by decide)) hk, Option.bind_some, Int.toNat_natCast]
  rw [show v * (10 : Int).toNat + dig s.data.toList[pos] = v * 10 + dig s.data.toList[pos] from rfl, parse_go k s hd hk n (pos + 1) _ (p + 1) (by omega) hvd (by omega), List.drop_eq_getElem_cons hpos]
  rfl
theorem digitsOnly_of {s : ByteArray} (hd : ∀ b, b ∈ s.data.toList → isDig b) : St.digitsOnly s = true := by
 unfold St.digitsOnly
 rw [List.all_eq_true]
 intro b hb
 have h1 := (hd b hb).1
 have h2 := (hd b hb).2
 simp
 omega
def gv (g : List UInt8) : Nat := horner 10 (g.map dig) 1
theorem gv_pos (g : List UInt8) : gv g ≠ 0 := by
 have := horner_ge (m := 10) (g.map dig) 1
 have h2 : 0 < 10 ^ (g.map dig).length := Nat.pow_pos (by decide)
 unfold gv
 omega
theorem gv_lt {g : List UInt8} (hd : ∀ b, b ∈ g → isDig b) : gv g < 2 * 10 ^ g.length := by
 have := horner_lt (m := 10) (by decide) (g.map dig) 1 2 (fun d hx => by
  obtain ⟨b, hb, rfl⟩ := List.mem_map.1 hx
  exact dig_lt (hd b hb)) (by decide)
 rwa [List.length_map] at this
theorem gv_ge (g : List UInt8) : 10 ^ g.length ≤ gv g := by
 have := horner_ge (m := 10) (g.map dig) 1
 rwa [List.length_map, Nat.one_mul] at this
theorem gv_small {g : List UInt8} (hd : ∀ b, b ∈ g → isDig b) (hg : g.length ≤ 150) : gv g < 10 ^ 200 := by
 have h1 := gv_lt hd
 have h2 : (10 : Nat) ^ g.length ≤ 10 ^ 150 := Nat.pow_le_pow_right (by decide) hg
 have h3 : 2 * (10 : Nat) ^ 150 < 10 ^ 200 := by decide +kernel
 omega
theorem Parse_f (k : Nat) (g : List UInt8) (s : ByteArray) (hs : s.data.toList = 49 :: g) (hd : ∀ b, b ∈ g → isDig b) (hg : g.length ≤ 150) (hk : 50000 ≤ k) : St.bigint_Parse.f k s = some (false, lim (gv g), 0) := by
 have hall : ∀ b, b ∈ s.data.toList → isDig b := by
  rw [hs]
  intro b hb
  rcases List.mem_cons.1 hb with rfl | hb
  ·exact ⟨by decide, by decide⟩
  ·exact hd b hb
 have hsz : s.size = g.length + 1 := by rw [← data_length, hs]; rfl
 have hb0 : bt s 0 = 49 := by
  have := bt_list s 0 (by rw [hs]; simp)
  simp only [hs, List.getElem_cons_zero] at this
  exact this
 unfold St.bigint_Parse.f
 rw [if_pos ⟨by omega, by rw [hb0]; decide, digitsOnly_of hall⟩]
 have h0 := parse_go k s hall hk s.size 0 0 0 (by omega) (by decide) (by omega)
 rw [lim_zero, List.drop_zero, hs] at h0
 rw [h0, Option.bind_some]
 have e : horner 10 ((49 :: g).map dig) 0 = gv g := rfl
 rw [e, made_f k _ (Nat.le_trans (big_lim (gv_small hd hg)) (by decide)) (by omega)]
 rfl
def compL (l : List UInt8) : List Int := if h : l = [] then [] else (digL 900 (gv (l.take 44))).reverse ++ compL (l.drop 44)
termination_by l.length
decreasing_by
 rw [List.length_drop]
 have := List.length_pos_iff.2 h
 omega
theorem compL_nil : compL [] = [] := by rw [compL, dif_pos rfl]
theorem compL_pos {l : List UInt8} (h : l ≠ []) : compL l = (digL 900 (gv (l.take 44))).reverse ++ compL (l.drop 44) := by rw [compL, dif_neg h]
theorem digL_len_le (m : Nat) (hm : 2 ≤ m) : ∀ (L n : Nat), n < m ^ L → (digL m n).length ≤ L
 | 0, n, h => by
  have : n = 0 := by simpa using h
  rw [this, digL_zero]
  exact Nat.le_refl _
 | L + 1, n, h => by
  by_cases h0 : n = 0
  ·rw [h0, digL_zero]; exact Nat.zero_le _
  ·rw [digL_pos hm h0, List.length_cons]
   have := digL_len_le m hm L (n / m) (Nat.div_lt_of_lt_mul (by rw [Nat.pow_succ, Nat.mul_comm] at h; exact h))
   omega
theorem digL_len_ge (m : Nat) (hm : 2 ≤ m) : ∀ (L n : Nat), m ^ L ≤ n → L + 1 ≤ (digL m n).length
 | 0, n, h => by
  have h0 : n ≠ 0 := by
   have : 1 ≤ n := by simpa using h
   omega
  rw [digL_pos hm h0, List.length_cons]
  omega
 | L + 1, n, h => by
  have hp : 0 < m ^ (L + 1) := Nat.pow_pos (by omega)
  have h0 : n ≠ 0 := by omega
  rw [digL_pos hm h0, List.length_cons]
  have := digL_len_ge m hm L (n / m) ((Nat.le_div_iff_mul_le (by omega)).2 (by rw [Nat.pow_succ] at h; exact h))
  omega
theorem small_len {n : Nat} (h : n < 10 ^ 200) : (digL 900 n).length ≤ 100 := digL_len_le 900 (by decide) 100 n (Nat.lt_trans h (by decide +kernel))
theorem compL_len : ∀ (n : Nat) (l : List UInt8), l.length ≤ n → (∀ b, b ∈ l → isDig b) → (compL l).length ≤ 100 * l.length
 | 0, l, h, _ => by
  have : l = [] := List.eq_nil_of_length_eq_zero (by omega)
  rw [this, compL_nil]
  exact Nat.zero_le _
 | n + 1, l, h, hd => by
  by_cases h0 : l = []
  ·rw [h0, compL_nil]; exact Nat.zero_le _
  ·have hp := List.length_pos_iff.2 h0
   rw [compL_pos h0, List.length_append, List.length_reverse]
   have h1 := small_len (gv_small (g := l.take 44) (fun b hb => hd b (List.mem_of_mem_take hb)) (by rw [List.length_take]; omega))
   have h2 := compL_len n (l.drop 44) (by rw [List.length_drop]; omega) (fun b hb => hd b (List.mem_of_mem_drop hb))
   rw [List.length_drop] at h2
   omega
theorem comp_l0 : ∀ (n k : Nat) (s : ByteArray) (out : List Int), s.size ≤ n → (∀ b, b ∈ s.data.toList → isDig b) → s.size ≤ 5000 → out.length + 100 * s.size ≤ 10000000 → n + 60001 ≤ k → SH.stacktext_compacted.l0 k s out = some (out ++ compL s.data.toList)
 | n, k, s, out, hn, hd, hs, ho, hk => by
  obtain ⟨k, rfl⟩ : ∃ q, k = q + 1 := ⟨k - 1, by omega⟩
  simp only [SH.stacktext_compacted.l0]
  by_cases h0 : s.size = 0
  ·have hl : s.data.toList = [] := List.eq_nil_of_length_eq_zero (by rw [data_length]; exact h0)
   rw [if_neg (by omega), hl, compL_nil, List.append_nil]
  ·obtain ⟨n, rfl⟩ : ∃ q, n = q + 1 := ⟨n - 1, by omega⟩
   have hl : s.data.toList ≠ [] := fun e => h0 (by rw [← data_length, e]; rfl)
   have hm : mn 44 (s.size : Int) = ((min 44 s.size : Nat) : Int) := by unfold mn; omega
   have hx : (s.extract 0 (min 44 s.size)).data.toList = s.data.toList.take 44 := by
    rw [show (s.extract 0 (min 44 s.size)).data.toList = (s.data.toList.take (min 44 s.size)) by simp]
    by_cases h : 44 ≤ s.size
    ·rw [Nat.min_eq_left h]
    ·rw [Nat.min_eq_right (by omega), List.take_of_length_le (by rw [data_length]; exact Nat.le_refl _), List.take_of_length_le (by rw [data_length]; omega)]
   have hy : (s.extract (min 44 s.size) s.size).data.toList = s.data.toList.drop 44 := by
    rw [show (s.extract (min 44 s.size) s.size).data.toList = (s.data.toList.drop (min 44 s.size)).take (s.size - min 44 s.size) by simp, List.take_of_length_le (by rw [List.length_drop, data_length]; exact Nat.le_refl _)]
    by_cases h : 44 ≤ s.size
    ·rw [Nat.min_eq_left h]
    ·rw [Nat.min_eq_right (by omega), List.drop_eq_nil_of_le (by rw [data_length]; exact Nat.le_refl _), List.drop_eq_nil_of_le (by rw [data_length]; omega)]
   have hys : (s.extract (min 44 s.size) s.size).size = s.size - min 44 s.size := by rw [← data_length, hy, List.length_drop, data_length]; omega
   have hg : ∀ b, b ∈ s.data.toList.take 44 → isDig b := fun b hb => hd b (List.mem_of_mem_take hb)
   have hgl : (s.data.toList.take 44).length ≤ 44 := by rw [List.length_take]; omega
   have h1 : ((⟨#[49]⟩ : ByteArray) ++ s.extract 0 (min 44 s.size)).data.toList = 49 :: s.data.toList.take 44 := by
    rw [← hx]
    simp
   have hsm := gv_small hg (by omega)
   rw [hm, if_pos (by omega), if_pos (by omega), if_pos (by omega), Int.toNat_natCast, if_pos (by rw [← data_length, hx]; omega), Parse_f k _ _ h1 hg (by omega) (by omega), Option.bind_some]
   simp only []
   rw [Digits_f k _ (gv_pos _) (Nat.le_trans (big_lim hsm) (by decide)) (Nat.le_trans (small_len hsm) (by decide)) (by omega), Option.bind_some]
   have hsl := small_len hsm
   simp only [List.length_reverse]
   rw [if_pos (by omega), comp_l0 n k _ _ (by rw [hys]; omega) (by rw [hy]; exact fun b hb => hd b (List.mem_of_mem_drop hb)) (by rw [hys]; omega) (by rw [hys, List.length_append, List.length_reverse]; omega) (by omega), hy, compL_pos hl, List.append_assoc]
termination_by n => n
theorem comp_f (k : Nat) (s : ByteArray) (hd : ∀ b, b ∈ s.data.toList → isDig b) (hs : s.size ≤ 5000) (hk : 70000 ≤ k) : SH.stacktext_compacted.f k s = some (compL s.data.toList) := by
 unfold SH.stacktext_compacted.f
 rw [comp_l0 s.size k s [] (Nat.le_refl _) hd hs (by simp; omega) (by omega), List.nil_append]
end Go.Proofs.YtoadabodhdgdjaaDoor.Pn
namespace Go.Proofs.YtoadabodhdgdjaaDoor.Pn
open Go.RowKit Go.Proofs.YtoadabodhdgdjaaDoorW.PrintWords Go.Proofs.YtoadabodhdgdjaaDoorW.PrintLast Go.Proofs.YtoadabodhdgdjaaDoorW.PrintMore
set_option linter.unusedVariables false
set_option linter.unusedSimpArgs false
theorem pow60 : (900 : Nat) ^ 60 < 10 ^ 200 := by decide +kernel
theorem from_go (k : Nat) (hk : 50000 ≤ k) : ∀ (l : List Int) (v p : Nat), (∀ d, d ∈ l → 0 ≤ d ∧ d < 900) → v < 900 ^ p → p + l.length ≤ 60 → St.fromGo k l (lim v) = some (lim (horner 900 (l.map Int.toNat) v))
 | [], v, p, _, _, _ => rfl
 | d :: t, v, p, hd, hv, hp => by
  obtain ⟨d0, d1⟩ := hd d (by simp)
  rw [List.length_cons] at hp
  have hpw : (900 : Nat) ^ (p + 1) < 10 ^ 200 := Nat.lt_of_le_of_lt (Nat.pow_le_pow_right (by decide) (show p + 1 ≤ 60 by omega)) pow60
  have hds : d.toNat < 900 := by clear hpw hv; omega
  have hvd : v * 900 + d.toNat < 900 ^ (p + 1) := by
   rw [Nat.pow_succ]
   clear hpw
   generalize 900 ^ p = P at hv
   omega
  have hvp : v * 900 < 900 ^ (p + 1) := Nat.lt_of_le_of_lt (Nat.le_add_right _ _) hvd
  have s1 : v * 900 < 10 ^ 200 := Nat.lt_trans hvp hpw
  have s2 : v * 900 + d.toNat < 10 ^ 200 := Nat.lt_trans hvd hpw
  have s3 : v < 10 ^ 200 := Nat.lt_of_le_of_lt (Nat.le_mul_of_pos_right _ (by decide)) s1
  have s4 : d < 4294967296 := by clear hpw hv s1 s2 s3 hvp hvd; omega
  have s5 : p + 1 + t.length ≤ 60 := by clear hpw hv s1 s2 s3 hvp hvd; omega
  rw [St.fromGo, extended_f k v 900 d (by decide) (by decide) d0 s4 (Nat.le_trans (big_lim s3) (by decide)) (Nat.le_trans (big_lim s1) (by decide)) hk, Option.bind_some]
  rw [show v * (900 : Int).toNat + d.toNat = v * 900 + d.toNat from rfl, if_pos (Nat.le_trans (big_lim s2) (by decide)), from_go k hk t _ (p + 1) (fun x hx => hd x (List.mem_cons_of_mem _ hx)) hvd s5]
  rfl
def partN (l : List Int) : Nat := horner 900 (l.map Int.toNat) 0
theorem partN_lt {l : List Int} (hd : ∀ d, d ∈ l → 0 ≤ d ∧ d < 900) : partN l < 900 ^ l.length := by
 have := horner_lt (m := 900) (by decide) (l.map Int.toNat) 0 1 (fun d hx => by
  obtain ⟨b, hb, rfl⟩ := List.mem_map.1 hx
  have := hd b hb
  omega) (by decide)
 rwa [List.length_map, Nat.one_mul] at this
theorem partN_small {l : List Int} (hd : ∀ d, d ∈ l → 0 ≤ d ∧ d < 900) (hl : l.length ≤ 60) : partN l < 10 ^ 200 := by
 exact Nat.lt_trans (partN_lt hd) (Nat.lt_of_le_of_lt (Nat.pow_le_pow_right (by decide) hl) pow60)
def decB (n : Nat) : ByteArray := if n = 0 then ⟨#[48]⟩ else strOfNums ((digL 10 n).map (48 + ·)).reverse
theorem one_str (k : Nat) (l : List Int) (hd : ∀ d, d ∈ l → 0 ≤ d ∧ d < 900) (hl : l.length ≤ 60) (hk : 60000 ≤ k) : St.oneStr k l = some (decB (partN l)) := by
 unfold St.oneStr St.bigint_FromDigits.f
 have hany : l.any (St.pBase 900) = false := by
  rw [List.any_eq_false]
  intro d hx
  obtain ⟨h0, h1⟩ := hd d hx
  unfold St.pBase
  simp
  omega
 have hsm := partN_small hd hl
 have hg := from_go k (by omega) l 0 0 hd (by decide) (by omega)
 rw [lim_zero] at hg
 rw [if_pos ⟨rfl, by omega, hany⟩, hg, Option.bind_some]
 have e : horner 900 (l.map Int.toNat) 0 = partN l := rfl
 rw [e, made_f k _ (Nat.le_trans (big_lim hsm) (by decide)) (by omega)]
 simp only [Option.bind_some]
 unfold decB
 by_cases h0 : partN l = 0
 ·rw [if_pos h0, h0, lim_zero]
  unfold SG.bigint_Format.f SG.bigint_Valid.f
  simp
 ·rw [if_neg h0]
  exact Format_f k _ h0 (Nat.le_trans (big_lim hsm) (by decide)) (Nat.le_trans (digL_len_le 10 (by decide) 200 _ hsm) (by decide)) (by omega)
def strsL : Nat → List Int → List ByteArray
 | 0, _ => []
 | n + 1, l => decB (partN (l.take 15)) :: strsL n (l.drop 15)
theorem exp_go (k : Nat) (hk : 60000 ≤ k) : ∀ (n : Nat) (l : List Int), (∀ d, d ∈ l → 0 ≤ d ∧ d < 900) → St.expGo k n l = some (strsL n l)
 | 0, _, _ => rfl
 | n + 1, l, hd => by
  rw [St.expGo, one_str k (l.take 15) (fun d hx => hd d (List.mem_of_mem_take hx)) (by rw [List.length_take]; omega) hk, Option.bind_some, exp_go k hk n (l.drop 15) (fun d hx => hd d (List.mem_of_mem_drop hx)), Option.bind_some]
  rfl
theorem eq_l0 : ∀ (rem done : List Int) (b : List Int) (k : Nat), done.length + rem.length = b.length → b.length ≤ 1000000 → rem.length + 1 ≤ k → SB.slices_Equal_int_int.l0 k (done ++ rem) b ((done ++ rem).length : Int) (done.length : Int) = some (decide (rem = b.drop done.length))
 | [], done, b, k, hl, hb, hk => by
  obtain ⟨k, rfl⟩ : ∃ q, k = q + 1 := ⟨k - 1, by omega⟩
  simp only [SB.slices_Equal_int_int.l0]
  rw [if_neg (by simp), List.drop_eq_nil_of_le (by simp at hl; omega)]
  simp
 | a :: t, done, b, k, hl, hb, hk => by
  obtain ⟨k, rfl⟩ : ∃ q, k = q + 1 := ⟨k - 1, by omega⟩
  rw [List.length_cons] at hl hk
  have hT : ((done ++ a :: t).length : Int) = done.length + (t.length + 1) := by simp
  have hlt : done.length < b.length := by omega
  simp only [SB.slices_Equal_int_int.l0, rd_mid done a t, rd_at hlt]
  rw [if_pos (by rw [hT]; omega), if_pos (by omega), if_pos (by rw [hT]; omega), if_pos (by omega), List.drop_eq_getElem_cons hlt]
  by_cases h : a = b[done.length]
  ·have hi := eq_l0 t (done ++ [a]) b k (by simp; omega) hb (by omega)
   rw [show done ++ [a] ++ t = done ++ a :: t by simp, show (done ++ [a]).length = done.length + 1 by simp] at hi
   rw [if_pos h, show wrap64 ((done.length : Int) + 1) = ((done.length + 1 : Nat) : Int) from wadd done.length 1 (by omega), hi]
   simp [← h]
  ·rw [if_neg h, decide_eq_false (fun e => h (List.cons.inj e).1)]
theorem equal_f (k : Nat) (a b : List Int) (ha : a.length ≤ 1000000) (hk : a.length + 1 ≤ k) : SB.slices_Equal_int_int.f k a b = some (decide (a = b)) := by
 unfold SB.slices_Equal_int_int.f
 by_cases h : a.length = b.length
 ·rw [if_pos (by omega)]
  have := eq_l0 a [] b k (by simpa using h) (by omega) hk
  simpa using this
 ·rw [if_neg (by omega)]
  have : ¬ a = b := fun e => h (by rw [e])
  simp [this]
end Go.Proofs.YtoadabodhdgdjaaDoor.Pn
namespace Go.Proofs.YtoadabodhdgdjaaDoor.Pn
open Go.RowKit Go.Proofs.YtoadabodhdgdjaaDoorW.PrintWords Go.Proofs.YtoadabodhdgdjaaDoorW.PrintLast Go.Proofs.YtoadabodhdgdjaaDoorW.PrintMore
set_option linter.unusedVariables false
set_option linter.unusedSimpArgs false
def castL (l : List Nat) : List Int := l.map fun n : Nat => (n : Int)
theorem digL_horner (m : Nat) (hm : 2 ≤ m) (v : Nat) (hv : v ≠ 0) : ∀ (n : Nat) (ds : List Nat), ds.length = n → (∀ d, d ∈ ds → d < m) → digL m (horner m ds v) = castL ds.reverse ++ digL m v
 | 0, ds, hn, _ => by
  have : ds = [] := List.eq_nil_of_length_eq_zero hn
  rw [this]
  rfl
 | n + 1, ds, hn, hd => by
  rcases List.eq_nil_or_concat ds with rfl | ⟨t, d, rfl⟩
  ·simp at hn
  ·rw [List.concat_eq_append] at *
   have hdm := hd d (by simp)
   have ih := digL_horner m hm v hv n t (by simpa using hn) (fun x hx => hd x (by simp [hx]))
   have hpos : horner m t v ≠ 0 := by
    have h1 := horner_ge (m := m) t v
    have h2 : 0 < v * m ^ t.length := Nat.mul_pos (by omega) (Nat.pow_pos (by omega))
    omega
   rw [horner_append]
   have e : horner m [d] (horner m t v) = d + m * horner m t v := by
    show horner m t v * m + d = _
    rw [Nat.mul_comm, Nat.add_comm]
   have hne : d + m * horner m t v ≠ 0 := by
    have : 0 < m * horner m t v := Nat.mul_pos (by omega) (by omega)
    omega
   rw [e, digL_pos hm hne, Nat.add_mul_mod_self_left, Nat.mod_eq_of_lt hdm, Nat.add_mul_div_left _ _ (by omega), Nat.div_eq_of_lt hdm, Nat.zero_add, ih]
   simp [castL]
theorem horner_digL (m : Nat) (hm : 2 ≤ m) : ∀ n, horner m ((digL m n).reverse.map Int.toNat) 0 = n := by
 intro n
 induction n using Nat.strongRecOn with
 | ind n ih =>
  by_cases h : n = 0
  ·rw [h, digL_zero]; rfl
  ·rw [digL_pos hm h, List.reverse_cons, List.map_append, horner_append, ih (n / m) (Nat.div_lt_self (by omega) hm)]
   show n / m * m + (((n % m : Nat) : Int)).toNat = n
   rw [Int.toNat_natCast, Nat.mul_comm]
   exact Nat.div_add_mod n m
theorem partN_digL (n : Nat) : partN (digL 900 n).reverse = n := horner_digL 900 (by decide) n
theorem u8_dig {b : UInt8} (h : isDig b) : UInt8.ofNat ((48 + ((dig b : Nat) : Int)).toNat) = b := by
 have h1 := h.1
 have e : (48 + ((dig b : Nat) : Int)).toNat = b.toNat := by unfold dig; omega
 rw [e]
 simp
theorem decB_gv {g : List UInt8} (hd : ∀ b, b ∈ g → isDig b) : (decB (gv g)).data.toList = 49 :: g := by
 unfold decB
 rw [if_neg (gv_pos g), strOfNums_data]
 have h := digL_horner 10 (by decide) 1 (by decide) (g.map dig).length (g.map dig) rfl (fun d hx => by
  obtain ⟨b, hb, rfl⟩ := List.mem_map.1 hx
  exact dig_lt (hd b hb))
 have e1 : digL 10 1 = [1] := by rw [digL_pos (by decide) (by decide), show 1 / 10 = 0 from rfl, digL_zero]; rfl
 rw [e1] at h
 have e : digL 10 (gv g) = castL (g.map dig).reverse ++ [1] := h
 rw [e, List.map_append, List.reverse_append, List.map_append]
 simp only [castL, List.map_reverse, List.reverse_reverse, List.map_map]
 have e2 : ∀ l : List UInt8, (∀ b, b ∈ l → isDig b) → l.map (fun b => UInt8.ofNat ((48 + ((dig b : Nat) : Int)).toNat)) = l := by
  intro l
  induction l with
  | nil => intro _; rfl
  | cons b t ih => intro hl; rw [List.map_cons, u8_dig (hl b (by simp)), ih (fun x hx => hl x (List.mem_cons_of_mem _ hx))]
 have e3 := e2 g hd
 simp
 exact e3
theorem pow_tab : ∀ m : Fin 45, (900 : Nat) ^ (m.1 / 3) ≤ 10 ^ m.1 ∧ 2 * 10 ^ m.1 ≤ 900 ^ (m.1 / 3 + 1) := by decide +kernel
theorem group_len {g : List UInt8} (hd : ∀ b, b ∈ g → isDig b) (hl : g.length ≤ 44) : (digL 900 (gv g)).length = g.length / 3 + 1 := by
 obtain ⟨h1, h2⟩ := pow_tab ⟨g.length, by omega⟩
 have h3 := digL_len_ge 900 (by decide) (g.length / 3) (gv g) (Nat.le_trans h1 (gv_ge g))
 have h4 := digL_len_le 900 (by decide) (g.length / 3 + 1) (gv g) (Nat.lt_of_lt_of_le (gv_lt hd) h2)
 omega
theorem compL_range : ∀ (n : Nat) (l : List UInt8), l.length ≤ n → ∀ d, d ∈ compL l → 0 ≤ d ∧ d < 900
 | 0, l, h, d, hd => by
  have : l = [] := List.eq_nil_of_length_eq_zero (by omega)
  rw [this, compL_nil] at hd
  simp at hd
 | n + 1, l, h, d, hd => by
  by_cases h0 : l = []
  ·rw [h0, compL_nil] at hd; simp at hd
  ·have hp := List.length_pos_iff.2 h0
   rw [compL_pos h0] at hd
   rcases List.mem_append.1 hd with hd | hd
   ·exact digL_dig 900 (by decide) _ d (List.mem_reverse.1 hd)
   ·exact compL_range n (l.drop 44) (by rw [List.length_drop]; omega) d hd
theorem compL_count : ∀ (n : Nat) (l : List UInt8), l.length ≤ n → (∀ b, b ∈ l → isDig b) → (compL l).length = l.length / 44 * 15 + (if l.length % 44 = 0 then 0 else l.length % 44 / 3 + 1)
 | 0, l, h, _ => by
  have : l = [] := List.eq_nil_of_length_eq_zero (by omega)
  rw [this, compL_nil]
  rfl
 | n + 1, l, h, hd => by
  by_cases h0 : l = []
  ·rw [h0, compL_nil]; rfl
  ·have hp := List.length_pos_iff.2 h0
   rw [compL_pos h0, List.length_append, List.length_reverse, group_len (fun b hb => hd b (List.mem_of_mem_take hb)) (by rw [List.length_take]; omega), compL_count n (l.drop 44) (by rw [List.length_drop]; omega) (fun b hb => hd b (List.mem_of_mem_drop hb)), List.length_take, List.length_drop]
   by_cases h44 : 44 ≤ l.length
   ·rw [Nat.min_eq_left h44]
    obtain ⟨r, hr⟩ : ∃ r, l.length = r + 44 := ⟨l.length - 44, by omega⟩
    rw [hr, Nat.add_sub_cancel, Nat.add_div_right _ (by decide), Nat.add_mod_right]
    omega
   ·rw [Nat.min_eq_right (by omega), show l.length - 44 = 0 by omega, show l.length / 44 = 0 by omega, show l.length % 44 = l.length by omega, if_pos (show 0 % 44 = 0 from rfl), if_neg (show ¬ l.length = 0 by omega)]
    omega
theorem strs_comp : ∀ (n : Nat) (l : List UInt8), l.length ≤ n → (∀ b, b ∈ l → isDig b) → St.joinT (strsL (((compL l).length + 14) / 15) (compL l)) = l ∧ (∀ s, s ∈ strsL (((compL l).length + 14) / 15) (compL l) → St.goodStr s = true ∧ bt s 0 = 49)
 | 0, l, h, _ => by
  have : l = [] := List.eq_nil_of_length_eq_zero (by omega)
  rw [this, compL_nil]
  exact ⟨rfl, fun s hs => by simp [strsL] at hs⟩
 | n + 1, l, h, hd => by
  by_cases h0 : l = []
  ·rw [h0, compL_nil]
   exact ⟨rfl, fun s hs => by simp [strsL] at hs⟩
  ·have hp := List.length_pos_iff.2 h0
   have hg : ∀ b, b ∈ l.take 44 → isDig b := fun b hb => hd b (List.mem_of_mem_take hb)
   have hgl : (l.take 44).length ≤ 44 := by rw [List.length_take]; omega
   have hgl0 : 1 ≤ (l.take 44).length := by rw [List.length_take]; omega
   have hlen := group_len hg hgl
   obtain ⟨i1, i2⟩ := strs_comp n (l.drop 44) (by rw [List.length_drop]; omega) (fun b hb => hd b (List.mem_of_mem_drop hb))
   have hdec := decB_gv hg
   have hgood : St.goodStr (decB (gv (l.take 44))) = true ∧ bt (decB (gv (l.take 44))) 0 = 49 := by
    have hsz : (decB (gv (l.take 44))).size = (l.take 44).length + 1 := by rw [← data_length, hdec]; rfl
    refine ⟨by unfold St.goodStr; simp; omega, ?_⟩
    have := bt_list (decB (gv (l.take 44))) 0 (by rw [hdec]; simp)
    simp only [hdec, List.getElem_cons_zero] at this
    exact this
   have key : ∀ (part tail : List Int), compL l = part ++ tail → partN part = gv (l.take 44) → (part.length = 15 ∨ tail = []) → 1 ≤ part.length → part.length ≤ 15 → strsL (((compL l).length + 14) / 15) (compL l) = decB (gv (l.take 44)) :: strsL ((tail.length + 14) / 15) tail := by
    intro part tail hc hpn hor h1 h15
    rw [hc, List.length_append]
    rcases hor with h | h
    ·rw [show (part.length + tail.length + 14) / 15 = (tail.length + 14) / 15 + 1 by omega]
     show decB (partN ((part ++ tail).take 15)) :: strsL _ ((part ++ tail).drop 15) = _
     rw [List.take_left' h, List.drop_left' h, hpn]
    ·subst h
     rw [List.length_nil, List.append_nil, show (part.length + 0 + 14) / 15 = 1 by omega]
     show decB (partN (part.take 15)) :: strsL 0 _ = _
     rw [List.take_of_length_le h15, hpn]
     rfl
   have hk := key (digL 900 (gv (l.take 44))).reverse (compL (l.drop 44)) (compL_pos h0) (partN_digL _) (by
    by_cases h44 : 44 ≤ l.length
    ·left
     rw [List.length_reverse, hlen, List.length_take, Nat.min_eq_left h44]
    ·right
     rw [List.drop_eq_nil_of_le (by omega), compL_nil]) (by rw [List.length_reverse, hlen]; omega) (by rw [List.length_reverse, hlen]; omega)
   rw [hk]
   refine ⟨?_, fun s hs => ?_⟩
   ·show (decB (gv (l.take 44))).data.toList.drop 1 ++ St.joinT _ = l
    rw [hdec, i1]
    exact List.take_append_drop 44 l
   ·rcases List.mem_cons.1 hs with rfl | hs
    ·exact hgood
    ·exact i2 s hs
theorem expanded_comp (k : Nat) (l : List UInt8) (hd : ∀ b, b ∈ l → isDig b) (hl : l.length ≤ 3000) (hc : (compL l).length ≤ 8000) (hk : 80000 ≤ k) : St.stacktext_expanded.f k (compL l) = some (⟨l.toArray⟩, true) := by
 obtain ⟨h1, h2⟩ := strs_comp l.length l (Nat.le_refl _) hd
 unfold St.stacktext_expanded.f
 rw [if_pos (by omega), exp_go k (by omega) _ _ (compL_range l.length l (Nat.le_refl _)), Option.bind_some]
 rw [if_pos (List.all_eq_true.2 (fun s hs => (h2 s hs).1)), if_neg (by
  rw [Bool.not_eq_true, List.any_eq_false]
  intro s hs
  rw [(h2 s hs).2]
  decide), h1, comp_f k ⟨l.toArray⟩ hd (by show l.toArray.size ≤ 5000; simp; omega) (by omega), Option.bind_some, equal_f k _ _ (by show (compL l).length ≤ _; omega) (by show (compL l).length + 1 ≤ _; omega), Option.bind_some]
 simp
end Go.Proofs.YtoadabodhdgdjaaDoor.Pn
namespace Go.Proofs.YtoadabodhdgdjaaDoor.Pn
open Go.RowKit Go.Proofs.YtoadabodhdgdjaaDoorW.PrintWords Go.Proofs.YtoadabodhdgdjaaDoorW.PrintLast Go.Proofs.YtoadabodhdgdjaaDoorW.PrintMore
set_option linter.unusedVariables false
set_option linter.unusedSimpArgs false
def tenL : List UInt8 := [48, 49, 50, 51, 52, 53, 54, 55, 56, 57]
theorem ten_iff (b : UInt8) : tenL.contains b = true ↔ isDig b := by
 constructor
 ·intro h
  have h2 : b ∈ tenL := List.contains_iff_mem.1 h
  unfold tenL at h2
  simp only [List.mem_cons, List.not_mem_nil, or_false] at h2
  rcases h2 with rfl | rfl | rfl | rfl | rfl | rfl | rfl | rfl | rfl | rfl <;> exact ⟨by decide, by decide⟩
 ·intro h
  have h1 := h.1
  have h2 := h.2
  have e : b = UInt8.ofNat b.toNat := by simp
  have h3 : b.toNat = 48 ∨ b.toNat = 49 ∨ b.toNat = 50 ∨ b.toNat = 51 ∨ b.toNat = 52 ∨ b.toNat = 53 ∨ b.toNat = 54 ∨ b.toNat = 55 ∨ b.toNat = 56 ∨ b.toNat = 57 := by omega
  rw [e]
  rcases h3 with h | h | h | h | h | h | h | h | h | h <;> rw [h] <;> decide
theorem dropWhile_mem {α : Type} (p : α → Bool) {b : α} (hp : p b = false) : ∀ {l : List α}, b ∈ l → b ∈ l.dropWhile p
 | a :: t, hb => by
  rw [List.dropWhile_cons]
  by_cases ha : p a = true
  ·rw [if_pos ha]
   rcases List.mem_cons.1 hb with rfl | h
   ·rw [hp] at ha; cases ha
   ·exact dropWhile_mem p hp h
  ·rw [if_neg ha]
   exact hb
theorem dropWhile_all {α : Type} (p : α → Bool) : ∀ {l : List α}, (∀ b, b ∈ l → p b = true) → l.dropWhile p = []
 | [], _ => rfl
 | a :: t, h => by
  rw [List.dropWhile_cons, if_pos (h a (by simp))]
  exact dropWhile_all p (fun b hb => h b (List.mem_cons_of_mem _ hb))
theorem trim_iff (l cs : List UInt8) : Lib.trimS l cs = [] ↔ ∀ b, b ∈ l → cs.contains b = true := by
 constructor
 ·intro h b hb
  by_cases hc : cs.contains b = true
  ·exact hc
  ·have hf : cs.contains b = false := by simpa using hc
   have h1 : b ∈ Lib.trimRightS l cs := List.mem_reverse.2 (dropWhile_mem _ hf (List.mem_reverse.2 hb))
   have h2 : b ∈ Lib.trimS l cs := dropWhile_mem _ hf h1
   rw [h] at h2
   simp at h2
 ·intro h
  have h1 : Lib.trimRightS l cs = [] := by
   unfold Lib.trimRightS
   rw [dropWhile_all (cs.contains ·) (fun b hb => h b (List.mem_reverse.1 hb))]
   rfl
  unfold Lib.trimS
  rw [h1]
  rfl
theorem numeric_ok {a0 : ByteArray} (hs : a0.size ≤ 4096) (hd : ∀ b, b ∈ a0.data.toList → isDig b) : Sg.stacktext_Numeric.f a0 = some (compL a0.data.toList, 0) := by
 unfold Sg.stacktext_Numeric.f SH.stacktext_Numeric.f St.strings_Trim.f
 have e : Lib.trimS a0.data.toList (⟨#[48, 49, 50, 51, 52, 53, 54, 55, 56, 57]⟩ : ByteArray).data.toList = [] := (trim_iff _ _).2 (fun b hb => (ten_iff b).2 (hd b hb))
 rw [if_neg (by omega), if_pos ⟨by omega, by decide, by decide⟩, Option.bind_some, e, if_pos (by rw [ByteArray.toList_eq]), comp_f 100000 a0 hd (by omega) (by decide)]
 rfl
theorem numeric_bad {a0 : ByteArray} (hs : a0.size ≤ 4096) (hd : ¬ ∀ b, b ∈ a0.data.toList → isDig b) : Sg.stacktext_Numeric.f a0 = some ([], 6) := by
 unfold Sg.stacktext_Numeric.f SH.stacktext_Numeric.f St.strings_Trim.f
 have e : ¬ Lib.trimS a0.data.toList (⟨#[48, 49, 50, 51, 52, 53, 54, 55, 56, 57]⟩ : ByteArray).data.toList = [] := fun h => hd (fun b hb => (ten_iff b).1 ((trim_iff _ _).1 h b hb))
 rw [if_neg (by omega), if_pos ⟨by omega, by decide, by decide⟩, Option.bind_some, if_neg (by rw [ByteArray.toList_eq]; exact e)]
theorem range_any {l : List Int} : l.any St.pNumeric = false ↔ ∀ d, d ∈ l → 0 ≤ d ∧ d < 900 := by
 rw [List.any_eq_false]
 constructor
 ·intro h d hd
  have := h d hd
  unfold St.pNumeric at this
  simp at this
  omega
 ·intro h d hd
  have := h d hd
  unfold St.pNumeric
  simp
  omega
theorem fromNumeric_comp (l : List UInt8) (hd : ∀ b, b ∈ l → isDig b) (hl : l.length ≤ 3000) (hc : (compL l).length ≤ 8000) : Sg.stacktext_FromNumeric.f (compL l) = some (⟨l.toArray⟩, 0) := by
 unfold Sg.stacktext_FromNumeric.f St.stacktext_FromNumeric.f
 rw [if_neg (by omega), if_neg (by omega), if_neg (by rw [range_any.2 (compL_range l.length l (Nat.le_refl _))]; decide), expanded_comp 100000 l hd hl hc (by decide)]
 rfl
theorem decB_spec {n : Nat} (h : n < 10 ^ 46) : 1 ≤ (decB n).size ∧ (decB n).size ≤ 46 ∧ ∀ b, b ∈ (decB n).data.toList → isDig b := by
 unfold decB
 by_cases h0 : n = 0
 ·rw [if_pos h0]
  refine ⟨by decide, by decide, fun b hb => ?_⟩
  have : b = 48 := by simpa using hb
  rw [this]
  exact ⟨by decide, by decide⟩
 ·rw [if_neg h0, strOfNums_size, strOfNums_data]
  have h1 := digL_len_le 10 (by decide) 46 n h
  have h2 := digL_len_ge 10 (by decide) 0 n (by simp; omega)
  refine ⟨by simp; omega, by simp; omega, fun b hb => ?_⟩
  obtain ⟨x, hx, rfl⟩ := List.mem_map.1 hb
  obtain ⟨d, hd, rfl⟩ := List.mem_map.1 (List.mem_reverse.1 hx)
  have := digL_dig 10 (by decide) n d hd
  unfold isDig
  rw [UInt8.toNat_ofNat_of_lt' (by show _ < 256; omega)]
  omega
theorem pow15 : (900 : Nat) ^ 15 < 10 ^ 46 := by decide +kernel
theorem part15 {l : List Int} (hd : ∀ d, d ∈ l → 0 ≤ d ∧ d < 900) (hl : l.length ≤ 15) : partN l < 10 ^ 46 := Nat.lt_trans (partN_lt hd) (Nat.lt_of_le_of_lt (Nat.pow_le_pow_right (by decide) hl) pow15)
theorem strsL_spec : ∀ (n : Nat) (l : List Int), (∀ d, d ∈ l → 0 ≤ d ∧ d < 900) → (∀ s, s ∈ strsL n l → St.goodStr s = true) ∧ (St.joinT (strsL n l)).length ≤ 46 * n ∧ (∀ b, b ∈ St.joinT (strsL n l) → isDig b)
 | 0, l, _ => ⟨fun s hs => by simp [strsL] at hs, by simp [strsL, St.joinT], fun b hb => by simp [strsL, St.joinT] at hb⟩
 | n + 1, l, hd => by
  obtain ⟨i1, i2, i3⟩ := strsL_spec n (l.drop 15) (fun d hx => hd d (List.mem_of_mem_drop hx))
  obtain ⟨d1, d2, d3⟩ := decB_spec (part15 (l := l.take 15) (fun d hx => hd d (List.mem_of_mem_take hx)) (by rw [List.length_take]; omega))
  have e : St.joinT (strsL (n + 1) l) = (decB (partN (l.take 15))).data.toList.drop 1 ++ St.joinT (strsL n (l.drop 15)) := rfl
  rw [e]
  refine ⟨fun s hs => ?_, ?_, fun b hb => ?_⟩
  ·rcases List.mem_cons.1 (show s ∈ decB (partN (l.take 15)) :: strsL n (l.drop 15) from hs) with rfl | hs
   ·unfold St.goodStr
    simp
    omega
   ·exact i1 s hs
  ·rw [List.length_append, List.length_drop, data_length]
   omega
  ·rcases List.mem_append.1 hb with hb | hb
   ·exact d3 b (List.mem_of_mem_drop hb)
   ·exact i3 b hb
theorem fromNumeric_any (l : List Int) (hl : l.length ≤ 1000) : ∃ s e, Sg.stacktext_FromNumeric.f l = some (s, e) ∧ (e = 0 → (∀ b, b ∈ s.data.toList → isDig b) ∧ s.size ≤ 4096 ∧ compL s.data.toList = l) := by
 unfold Sg.stacktext_FromNumeric.f St.stacktext_FromNumeric.f
 rw [if_neg (by omega), if_neg (by omega)]
 by_cases ha : l.any St.pNumeric = true
 ·rw [if_pos ha]
  exact ⟨_, _, rfl, fun h => absurd h (by decide)⟩
 ·rw [if_neg ha]
  have hr := range_any.1 (by simpa using ha)
  obtain ⟨g1, g2, g3⟩ := strsL_spec ((l.length + 14) / 15) l hr
  unfold St.stacktext_expanded.f
  rw [if_pos (by omega), exp_go 100000 (by decide) _ l hr, Option.bind_some, if_pos (List.all_eq_true.2 g1)]
  by_cases h1 : (strsL ((l.length + 14) / 15) l).any (fun s => bt s 0 != 49) = true
  ·rw [if_pos h1]
   exact ⟨_, _, rfl, fun h => absurd h (by decide)⟩
  ·rw [if_neg h1]
   have hsz : (⟨(St.joinT (strsL ((l.length + 14) / 15) l)).toArray⟩ : ByteArray).size ≤ 4000 := by
    show (St.joinT (strsL ((l.length + 14) / 15) l)).toArray.size ≤ 4000
    simp only [List.size_toArray]
    omega
   have hcl := compL_len _ (St.joinT (strsL ((l.length + 14) / 15) l)) (Nat.le_refl _) g3
   have hjl : (St.joinT (strsL ((l.length + 14) / 15) l)).length ≤ 4000 := by omega
   rw [comp_f 100000 _ g3 (by omega) (by decide), Option.bind_some]
   show ∃ s e, (((SB.slices_Equal_int_int.f 100000 (compL (St.joinT (strsL ((l.length + 14) / 15) l))) l).bind fun b => some ((⟨(St.joinT (strsL ((l.length + 14) / 15) l)).toArray⟩ : ByteArray), b)).bind fun r => if r.2 = true then some (r.1, 0) else some (⟨#[]⟩, 22)) = some (s, e) ∧ _
   have hcc : (compL (St.joinT (strsL ((l.length + 14) / 15) l))).length ≤ 90000 := by
    rw [compL_count _ _ (Nat.le_refl _) g3]
    split <;> omega
   rw [equal_f 100000 _ _ (by omega) (by omega), Option.bind_some, Option.bind_some]
   by_cases he : compL (St.joinT (strsL ((l.length + 14) / 15) l)) = l
   ·rw [if_pos (decide_eq_true he)]
    exact ⟨_, _, rfl, fun _ => ⟨g3, Nat.le_trans hsz (by decide), he⟩⟩
   ·rw [if_neg (by simp [he])]
    exact ⟨_, _, rfl, fun h => absurd h (by decide)⟩
theorem ex_n : Sg.stacktext_Numeric.f (⟨#[48, 48, 48, 50, 49, 51, 50, 57, 56, 49, 55, 52, 48, 48, 48]⟩ : ByteArray) = some ([1, 624, 434, 632, 282, 200], 0) := by decide +kernel
theorem ba_inj {a b : ByteArray} (h : a.toList = b.toList) : a = b := ByteArray.ext (by
 have := h
 rw [ByteArray.toList_eq, ByteArray.toList_eq] at this
 exact Array.toList_inj.1 this)
theorem ex_f : Sg.stacktext_FromNumeric.f [112] = some (⟨#[49, 50]⟩, 0) := by
 have h : (Sg.stacktext_FromNumeric.f [112]).map (fun r => (r.1.toList, r.2)) = some ([49, 50], 0) := by decide +kernel
 obtain ⟨⟨s, e⟩, h1, h2⟩ := Option.map_eq_some_iff.1 h
 obtain ⟨h3, h4⟩ := Prod.mk.inj h2
 rw [h1]
 have h5 : s = ⟨#[49, 50]⟩ := ba_inj (by rw [show s.toList = [49, 50] from h3]; decide +kernel)
 rw [h5, show e = 0 from h4]
set_option maxRecDepth 100000 in
theorem ex_l : Sg.stacktext_Length.f [65, 66, 97] = some (2, 0) := by decide +kernel
set_option maxRecDepth 100000 in
theorem ex_e : Sg.stacktext_Encode.f [65, 66, 97] = some ([1, 810], 0) := by decide +kernel
theorem ex_d1 : Sg.stacktext_Decode.f [870] = some ([59], 0) := by decide +kernel
theorem ex_d2 : Sg.stacktext_Decode.f [901, 65] = some ([65], 0) := by decide +kernel
theorem ex_d3 : Sg.stacktext_Decode.f [901, 1, 2, 3, 4, 5] = some ([1, 2, 3, 4, 5], 0) := by decide +kernel
theorem ex_d4 : Sg.stacktext_Decode.f [924, 387, 700, 208, 213, 302] = some ([231, 101, 11, 97, 205, 2], 0) := by decide +kernel
end Go.Proofs.YtoadabodhdgdjaaDoor.Pn
