import Derived.Test.YtoadabodhdgdjaaDoorQStS
import Derived.Test.YtoadabodhdgdjaaDoorQSH
import Derived.Test.YtoadabodhdgdjaaDoorQS0
namespace Go.Proofs.YtoadabodhdgdjaaDoor.St
open Go.Proofs.YtoadabodhdgdjaaDoor.S0
open Go.RowKit Go.Maps Go.Proofs.YtoadabodhdgdjaaDoorW.PrintWords Go.Proofs.YtoadabodhdgdjaaDoorW.PrintLast Go.Proofs.YtoadabodhdgdjaaDoorW.PrintMore Go.Proofs.YtoadabodhdgdjaaDoor.SM Go.Proofs.YtoadabodhdgdjaaDoor.SH
attribute [local go_sem] max2_int min2_int max_two min_two max_three min_three max_four min_four
set_option linter.unusedVariables false
set_option linter.unusedSimpArgs false
theorem grown_none {w w1 w2 : World} (h : Below w.heap.size w w2) (hg : w1.grownBy w2 none) : Below w1.heap.size w1 w2 := ⟨hg.os, hg.tape, hg.output, hg.size, fun i hi => hg.block i hi (by simp)⟩
theorem take_step (q1 : List Int) (m j : Nat) (hj : j < m) (h6 : m ≤ q1.length) : (q1.take m).drop j = rd q1 (j : Int) :: (q1.take m).drop (j + 1) := by
 have hl : j < (q1.take m).length := by rw [List.length_take]; omega
 rw [List.drop_eq_getElem_cons hl, List.getElem_take]
 congr 1
 simp [rd, List.getD_eq_getElem?_getD, show j < q1.length by omega]
theorem R_F_int {w : World} {e base n c : Nat} {A : Option Addr} {xs : List Int} (h : Kd.R (Kd.int .i64) e w base (fun _ => True) (.slice A n c) xs) : Kd.F (Kd.int .i64) w (fun k => base ≤ k) A n xs :=
 Kd.N_F (Kd.R_N (show Kd.R (Kd.int .i64) e w base (fun k => base ≤ k) (.slice A n c) xs from ⟨fun k hk => Kd.R_base h k hk, h.2⟩))
def sixN : List Int → Int → Int
 | [], n => n
 | c :: t, n => sixN t (Go.bits .or .i64 (wrap64 (n * 256)) (wrap64 c))
def fiveL : Nat → Int → List Int → List Int
 | 0, _, l => l
 | j + 1, n, l => fiveL j (wrap64 (Int.tdiv n 900)) (l.set j (Int.tmod n 900))
def packL (q out : List Int) : List Int := if h : 6 ≤ q.length then packL (q.drop 6) (out ++ fiveL 5 (sixN (q.take 6) 0) [0, 0, 0, 0, 0]) else out ++ q.map wrap64
termination_by q.length
decreasing_by rw [List.length_drop]; omega
theorem packL_len (q out : List Int) : out.length ≤ (packL q out).length := by
 rw [packL]
 split
 ·have := packL_len (q.drop 6) (out ++ fiveL 5 (sixN (q.take 6) 0) [0, 0, 0, 0, 0])
  rw [List.length_append] at this
  omega
 ·rw [List.length_append]; omega
termination_by q.length
decreasing_by rw [List.length_drop]; omega
theorem C_block {w : World} {g t : Nat} {k : IntKind} {xs : List Int} (h : w.heap[g]? = some (.cells (xs.map (Value.int k)).toArray t (0, 0))) (hl : xs.length ≤ 9223372036854775807) : (Kd.int k).C w (some ⟨g, 0, none⟩) xs.length xs :=
 ⟨rfl, hl, fun _ => ⟨_, rfl, fun j p hj => ⟨[.int k p], rfl, rfl, fun i u hu => by
  cases i with
  | zero =>
   have e : Value.int k p = u := by simpa using hu
   subst e
   have hsz : (Kd.int k).sz = 1 := rfl
   rw [add_plain, hsz]
   refine (blk_cell h _).trans ?_
   simp [hj]
  | succ i => simp at hu⟩⟩⟩
def codewordsF (k : Nat) (p : List Int) (run : Int) (words : List Int) (at_ to_ : Int) : Option (List Int) :=
 if 0 ≤ at_ ∧ (if at_ < to_ then to_ else at_) ≤ (p.length : Int) then
  if run = 0 then some words
  else if run = 902 then (stacktext_compacted.f k (strOfNums ((p.take (if at_ < to_ then to_ else at_).toNat).drop at_.toNat))).map (902 :: ·)
  else some (packL ((p.take (if at_ < to_ then to_ else at_).toNat).drop at_.toNat) [run])
 else none
set_option maxHeartbeats 16000000 in
set_option maxRecDepth 100000 in
theorem codewords_calls (k : Nat) (g b : Nat) (p : List Int) (w0 w : World) (hI : IsS65 w0 w g p (some b)) (hB : Below w0.heap.size w0 w) (hp : p.length ≤ 1000000) (cost run at_ to_ s2 s3 : Int) (A2 : Option Addr) (c2 : Nat) (words : List Int) (okW : Nat → Prop) (hWF : Kd.F (Kd.int .i64) w okW A2 words.length words) (hc2 : words.length ≤ c2) (r : List Int) (h : codewordsF k p run words at_ to_ = some r) (hr : r.length ≤ 1000000) :
  Calls Tryd.prog 33 #[.pointer (some ⟨g, 0, none⟩), .agg #[.int .i64 cost, .int .i64 run, .slice A2 words.length c2, .int .i64 to_, .int .i64 s2, .int .i64 s3], .int .i64 at_] w fun e w' => ∃ A c, e = .returned (.slice A r.length c) ∧ Kd.F (Kd.int .i64) w' (fun k_ => okW k_ ∨ w.heap.size ≤ k_) A r.length r ∧ r.length ≤ c ∧ Below w.heap.size w w' := by
 have hW := Kd.F_now hWF
 have HWF := am hWF
 clear hWF
 unfold codewordsF at h
 by_cases hg : 0 ≤ at_ ∧ (if at_ < to_ then to_ else at_) ≤ (p.length : Int)
 ·rw [if_pos hg] at h
  obtain ⟨hg0, hg1⟩ := hg
  obtain ⟨hi, hhi⟩ : ∃ hi : Int, (if at_ < to_ then to_ else at_) = hi := ⟨_, rfl⟩
  rw [hhi] at h hg1
  have hg2 : at_ ≤ hi := by rw [← hhi]; split <;> omega
  have H := am h
  have HWr := am hW
  have HB0 := am hB
  obtain ⟨A0, c0, HG, hge, hC0⟩ := hI
  have hC1 := Kd.C_below hC0 hB
  obtain ⟨i5, hi5, hz5, hs5, hb5⟩ := info_parts (show (Tryd.prog.info? 5).map (fun i => (i.zero, i.size, i.bytes)) = some (some (.int .u8 0), 1, 1) from by kernel_rfl)
  have hcut := cut_mid (P := Tryd.prog) 31 5 .i64 .i64 Tryd.underlying31 hi5 1 hs5 A0 p.length (p.length + c0) at_ hi hg0 hg2 hg1 (Nat.le_add_right _ _)
  have hQ := Kd.C_mid hC1 (lo := at_.toNat) (hi := hi.toNat) (by omega) (by omega) (Nat.le_add_right p.length c0)
  have hQl : ((p.take hi.toNat).drop at_.toNat).length = hi.toNat - at_.toNat := by rw [List.length_drop, List.length_take]; omega
  have hszi : (Kd.int .u8).sz = 1 := rfl
  rw [hszi] at hQ
  obtain ⟨q, hq⟩ : ∃ q, (p.take hi.toNat).drop at_.toNat = q := ⟨_, rfl⟩
  rw [hq] at h hQ hQl
  rw [hq] at H
  obtain ⟨AQ, hAQ⟩ : ∃ AQ, (if p.length + c0 = at_.toNat then A0 else A0.map (·.add (at_.toNat * 1))) = AQ := ⟨_, rfl⟩
  obtain ⟨cQ, hcQ⟩ : ∃ cQ, p.length + c0 - at_.toNat = cQ := ⟨_, rfl⟩
  have hcQ2 : q.length ≤ cQ := by rw [hQl, ← hcQ]; omega
  have hqp : q.length ≤ p.length := by rw [hQl]; omega
  rw [hAQ, hcQ, ← hQl] at hcut
  rw [hAQ] at hQ
  have HQ := am hQ
  have HQw := am hQ
  have HQl := am hQl
  have HI5 := am hi5
  have HS5 := am hs5
  have HGx := am HG
  clear hQl h hC0 hC1 hQ hAQ hcQ hq hi5 hW hB hz5 hs5 hb5 hge
  go_enter Tryd.func33, Tryd.ntmps33
  go_wp2
  have BX := heapNew w (.cells #[.int .i64 cost, .int .i64 run, .slice A2 words.length c2, .int .i64 to_, .int .i64 s2, .int .i64 s3] 62 (0, 0))
  have hal := below_alloc (Below.refl w.heap.size w) (.cells #[.int .i64 cost, .int .i64 run, .slice A2 words.length c2, .int .i64 to_, .int .i64 s2, .int .i64 s3] 62 (0, 0))
  have HBw := am hal
  have HQ1 := am (Kd.C_below HQ.out hal)
  have HW1 := am (Kd.C_below HWr.out hal)
  have HG1 := am (blk_alloc HGx.out (.cells #[.int .i64 cost, .int .i64 run, .slice A2 words.length c2, .int .i64 to_, .int .i64 s2, .int .i64 s3] 62 (0, 0)))
  generalize w.alloc (.cells #[.int .i64 cost, .int .i64 run, .slice A2 words.length c2, .int .i64 to_, .int .i64 s2, .int .i64 s3] 62 (0, 0)) = W1 at BX HBw HQ1 HW1 HG1 ⊢
  generalize w.heap.size = gb at BX ⊢
  have BX2 := am BX
  clear BX hal HQ HWr HG
  have HXg : W1.drew.cell? ⟨g, 0, none⟩ = some (.slice A0 p.length (p.length + c0)) := (blk_cell HG1.out 0).trans rfl
  have HX3 : W1.drew.cell? ⟨gb, 3, none⟩ = some (.int .i64 to_) := (blk_cell BX2.out 3).trans rfl
  refine start_ (n := 12) (S := fun w' => w'.cell? ⟨g, 0, none⟩ = some (.slice A0 p.length (p.length + c0)) ∧ w'.cell? ⟨gb, 3, none⟩ = some (.int .i64 to_)) (ds := []) (bs 12 0) (by kernel_rfl) rfl rfl ⟨HXg, HX3⟩ (fun hHeld => ?_)
  refine pS 0 (some 16) (bs 12 1) (h := ?_)
  refine pS 1 (some 17) (bs 12 3) (h := ?_)
  refine pS 2 (some 18) (bs 12 7) (h := ?_)
  refine pS 4 (some 20) (bs 12 23) (h := ?_)
  refine pS 5 (some 21) (bs 12 55) (h := ?_)
  refine pS 6 (some 22) (bs 12 119) (h := ?_)
  refine pS 7 (some 23) (bs 12 247) (h := ?_)
  refine tS 3 (some 19) (bs 12 255) hHeld (h := ?_)
  refine tS 8 (some 24) (bs 12 511) hHeld (h := ?_)
  refine pS 9 (some 25) (bs 12 1023) (h := ?_)
  refine pS 10 (some 26) (bs 12 2047) (h := ?_)
  refine pS 11 (some 7) (bs 12 4095) (h := ?_)
  refine done_ (by kernel_rfl) ?_
  clear HXg HX3 hcut hhi hszi
  have HB3 := am (below_drew1 HBw.out)
  have HX1 : W1.drew.cell? ⟨gb, 1, none⟩ = some (.int .i64 run) := (blk_cell BX2.out 1).trans rfl
  have HX2 : W1.drew.cell? ⟨gb, 2, none⟩ = some (.slice A2 words.length c2) := (blk_cell BX2.out 2).trans rfl
  have HQ2 := am (Kd.C_drew HQ1.out)
  have HW2 := am (Kd.C_drew HW1.out)
  clear HBw HQ1 HW1
  generalize hWd : W1.drew = W2 at HB3 HX1 HX2 HQ2 HW2 ⊢
  by_cases h0 : run = 0
  ·subst h0
   have e := H.out
   rw [if_pos rfl] at e
   cases e
   go_wp2
   refine bodyPost_ret (results_tmp rfl _ _ _) rfl ?_
   exact ⟨A2, c2, rfl, Kd.F_mono (Kd.F_below HWF.out HB3.out) (fun _ hk => .inl hk), hc2, HB3.out⟩
  ·by_cases h2 : run = 902
   ·subst h2
    have e := H.out
    rw [if_neg h0, if_pos rfl] at e
    obtain ⟨cs, hcs, rfl⟩ := Option.map_eq_some_iff.1 e
    have Hcs := am hcs
    clear e hcs H
    have hcl : ([902] : List Int).length + cs.length ≤ 1000000 := by simpa [Nat.add_comm] using hr
    go_wp2_with (first | ((with_reducible refine gate_dst (N := 35) rfl ?_); refine Kd.R_lit (Kd.int .i64) (w0 := w) w.heap.size 3 ?hg (N := 35) ?hd (xs := ([902] : List Int)) (inner := [.int .i64 902]) (ok := fun _ => True) (okp := fun _ => True) ?hr ?hp (fun _ hk => hk) trivial HB3.out HB3.out.size (by simp) ?_; (case hd => rfl); (case hg => rfl); (case hr => first | (go_simp; done) | (go_simp; rfl)); (case hp => exact (Reps.one (show Kd.M (Kd.int .i64) _ _ _ _ _ from rfl) (Reps.none _ _))); intro v3 w3 ho hb hg_ hnew_; have hb3 := grown_none hb hg_; clear hnew_; have HO3 := am ho; have HB4 := am hb; have hcv3 := Kd.C_string (P := Tryd.prog) (w := w3) (src := 31) (dst := 9) (e := 5) (A := AQ) (n := q.length) (c := cQ) (xs := q) Tryd.underlying31 Tryd.underlying5 Tryd.underlying9 (Kd.C_below HQ2.out hb3); clear ho hb hg_ hb3) | ((with_reducible refine gate_callee (f := 21) rfl ?_); refine gL (some 38) Tryd.func21 #[.string (strOfNums q)] (h := ?_); (with_reducible refine (stacktext_compacted.calls k (strOfNums q) cs _ Hcs.out).mono ?_); rintro e w4 ⟨v4, rfl, ho, hb⟩; refine ⟨_, rfl, ?_⟩; obtain ⟨A5, c5, hv4, hcl5, hC5⟩ := Kd.R_reads ho; subst hv4; have HC5 := am hC5; have HO5 := am (Kd.R_below HO3.out hb); have HB5 := am (below_step HB4.out hb); clear ho hb hC5 hcv3) | (at_builtin; refine Kd.R_append_rows (Kd.int .i64) (w0 := w) w.heap.size rfl (.tmp 35) (.tmp 38) 22 3 (.int .i64 0) 8 rfl Tryd.underlying22 Go.Proofs.YtoadabodhdgdjaaDoor.SM.info3 rfl (by decide) (by omega) v3 [902] cs A5 _ c5 (fun _ => True) (fun _ => False) rfl rfl HO5.out HC5.out (fun _ _ h => h) (fun _ h => h.elim) (fun _ _ => trivial) HB5.out HB5.out.size (by simp; omega) ?_; intro v6 w6 ho hb hg_ hat_; clear hg_ hat_; have HO6 := am ho; have HB6 := am hb; clear ho hb))
    refine bodyPost_ret (results_tmp rfl _ _ _) rfl ?_
    obtain ⟨A6, c6, hv6, hl6, hC6⟩ := Kd.R_reads HO6.out
    subst hv6
    exact ⟨A6, c6, rfl, Kd.F_mono (R_F_int HO6.out) (fun _ hk => .inr hk), hl6, HB6.out⟩
   ·have e := H.out
    rw [if_neg h0, if_neg h2] at e
    have er := am (Option.some.inj e)
    clear e H
    go_wp2_with (((with_reducible refine gate_dst (N := 42) rfl ?_); refine Kd.R_lit (Kd.int .i64) (w0 := w) w.heap.size 3 ?hg (N := 42) ?hd (xs := ([run] : List Int)) (inner := [.int .i64 run]) (ok := fun _ => True) (okp := fun _ => True) ?hr ?hp (fun _ hk => hk) trivial HB3.out HB3.out.size (by simp) ?_; (case hd => rfl); (case hg => rfl); (case hr => first | (go_simp; done) | (go_simp; rfl)); (case hp => exact (Reps.one (show Kd.M (Kd.int .i64) _ _ _ _ _ from rfl) (Reps.none _ _))); intro v3 w3 ho hb hg_ hnew_; have hb3 := grown_none hb hg_; clear hnew_; have HO3 := am ho; have HB4 := am hb; have HQ3 := am (Kd.C_below HQ2.out hb3); clear ho hb hg_ hb3))
    clear HQ2 HW2 HX1 HX2 HB3 h0 h2
    go_loopg [7, 8] q.length (fun gg v7 v8 wr => ∃ (q1 : List Int) (A c : _) (out : List Int), v7 = .slice A q1.length c ∧ q1.length ≤ c ∧ q1.length ≤ gg ∧ Aside0 (packL q1 out = r) ∧ Aside0 (Kd.C (Kd.int .u8) w A q1.length q1) ∧ Aside0 (Kd.R (Kd.int .i64) 3 wr w.heap.size (fun _ => True) v8 out) ∧ Aside0 (Below w.heap.size w wr))
    case atStart => exact ⟨q, AQ, cQ, [run], rfl, hcQ2, Nat.le_refl _, er, HQw, HO3, HB4⟩
    case round =>
     clear er HQ3 HO3 HB4 HQw
     obtain ⟨q1, A, c, out, rfl, hqc, hg, HP, HQ, HO, HB⟩ := hrel
     rename World => wq
     have HOl := am (packL_len q1 out)
     have hol : out.length ≤ 1000000 := by have := HOl.out; rw [HP.out] at this; omega
     by_cases h6 : 6 ≤ q1.length
     ·have h6z : (6 : Int) ≤ (q1.length : Int) := by omega
      have hcut6 : ∀ W : World, (Instr.slice 31 (.slice A q1.length c) none (some (.int .i64 6)) none).run Tryd.prog W = .ok (.slice A 6 c) W := cut_to (P := Tryd.prog) 31 5 .i64 Tryd.underlying31 HI5.out A q1.length c 6 (by omega) (by omega) hqc
      go_wp2
      clear hcut6
      go_loopg [9, 49] 6 (fun gg v9 v49 wr2 => ∃ (j : Nat) (n : Int), v9 = .int .i64 n ∧ v49 = .int .i64 j ∧ j ≤ 6 ∧ 6 - j ≤ gg ∧ wq = wr2 ∧ Aside0 (sixN ((q1.take 6).drop j) n = sixN (q1.take 6) 0))
      case atStart => exact ⟨0, 0, rfl, rfl, by omega, by omega, rfl, ⟨rfl⟩⟩
      case round =>
       obtain ⟨j, n, rfl, rfl, hj, hgj, rfl, HN⟩ := hrel
       by_cases hj6 : j < 6
       ·have hj6z : (j : Int) < 6 := by omega
        obtain ⟨ad, ea, hx⟩ := Kd.at_int (Kd.C_below HQ.out HB.out) (j : Int) (by omega) (by omega)
        subst ea
        rw [Int.toNat_natCast] at hx
        have hN := HN.out
        rw [take_step q1 6 j hj6 h6] at hN
        have HN2 := am (show sixN ((q1.take 6).drop (j + 1)) (Go.bits .or .i64 (wrap64 (n * 256)) (wrap64 (rd q1 (j : Int)))) = sixN (q1.take 6) 0 from hN)
        clear hN HN
        go_wp2
        go_roundg (6 - (j + 1))
        case measure => omega
        case rel => exact ⟨j + 1, _, rfl, by go_num, by omega, by omega, rfl, HN2⟩
       ·have hj7 : j = 6 := by omega
        subst hj7
        have hN := HN.out
        rw [List.drop_of_length_le (by rw [List.length_take]; omega)] at hN
        have hN2 : n = sixN (q1.take 6) 0 := hN
        have Hn := am hN2
        clear hN hN2 HN hj6 hj hgj
        clear h6z
        have h6n : (6 : Int).toNat = 6 := rfl
        obtain ⟨AD, hAD⟩ : ∃ AD, (if c = 6 then A else A.map (·.add (6 * 1))) = AD := ⟨_, rfl⟩
        have hDl : (q1.drop 6).length = q1.length - 6 := List.length_drop
        have hcutF : ∀ W : World, (Instr.slice 31 (.slice A q1.length c) (some (.int .i64 6)) none none).run Tryd.prog W = .ok (.slice AD (q1.length - 6) (c - 6)) W := by
         intro W
         rw [← hAD]
         exact cut_from (P := Tryd.prog) 31 5 .i64 Tryd.underlying31 HI5.out 1 HS5.out A q1.length c 6 (by omega) (by omega) W
        have hQD := Kd.C_drop HQ.out h6 hqc
        have hszi : (Kd.int .u8).sz = 1 := rfl
        rw [hszi, hAD] at hQD
        have HQD := am hQD
        have HDl := am hDl
        clear hQD hAD hDl hszi
        go_wp2
        have hal := below_alloc (Below.refl wq.heap.size wq) (.cells #[.int .i64 0, .int .i64 0, .int .i64 0, .int .i64 0, .int .i64 0] 99 (0, 0))
        have BA := am (heapNew wq (.cells #[.int .i64 0, .int .i64 0, .int .i64 0, .int .i64 0, .int .i64 0] 99 (0, 0)))
        have HBA := am hal
        clear hal
        go_loopg [9, 13] 5 (fun gg v9 v13 wr2 => ∃ (j : Nat) (m : Int) (l : List Int), v9 = .int .i64 m ∧ v13 = .int .i64 ((j : Int) - 1) ∧ j ≤ 5 ∧ j ≤ gg ∧ Aside0 (fiveL j m l = fiveL 5 n [0, 0, 0, 0, 0]) ∧ l.length = 5 ∧ Aside0 (wr2.heap[wq.heap.size]? = some (.cells (l.map (Value.int .i64)).toArray 99 (0, 0))) ∧ Aside0 (Below wq.heap.size wq wr2))
        case atStart => exact ⟨5, n, [0, 0, 0, 0, 0], rfl, by go_num, by omega, by omega, ⟨rfl⟩, rfl, BA, HBA⟩
        case round =>
         clear BA HBA
         obtain ⟨j, m, l, rfl, rfl, hj, hgj, HL, hll, BA, HBA⟩ := hrel
         cases j with
         | zero =>
          have hL := HL.out
          have hL2 : l = fiveL 5 n [0, 0, 0, 0, 0] := hL
          have HL2 := am hL2
          have HCl := am (C_block (k := .i64) BA.out (by rw [hll]; decide))
          have HO5 := am (Kd.R_below HO.out HBA.out)
          have HB5 := am (below_step HB.out HBA.out)
          clear hL hL2 HL
          go_wp2_with (first | ((with_reducible refine gate_dst (N := 70) rfl ?_); refine event_run (v := .slice (some ⟨wq.heap.size, 0, none⟩) 5 5) rfl ?hr ?_; (case hr => go_simp; rfl)) | ((with_reducible refine gate_builtin (b := .append) (xs := #[.tmp 69, .tmp 70]) rfl ?_); at_builtin; refine Kd.R_append_rows (Kd.int .i64) (w0 := w) w.heap.size rfl (.tmp 69) (.tmp 70) 22 3 (.int .i64 0) 8 rfl Tryd.underlying22 Go.Proofs.YtoadabodhdgdjaaDoor.SM.info3 rfl (by decide) (by omega) u8 out l (some ⟨wq.heap.size, 0, none⟩) _ 5 (fun _ => True) (fun _ => False) rfl rfl HO5.out (by have q_ := HCl.out; rw [hll] at q_; exact q_) (fun _ _ h => h) (fun _ h => h.elim) (fun _ _ => trivial) HB5.out HB5.out.size (by omega) ?_; intro v6 w6 ho hb hg_ hat_; clear hg_ hat_; have HO6 := am ho; have HB6 := am hb; clear ho hb))
          go_roundg (q1.length - 6)
          case measure => omega
          case rel =>
           have hP := HP.out
           rw [packL, dif_pos h6, ← Hn.out, ← HL2.out] at hP
           exact ⟨q1.drop 6, AD, c - 6, out ++ l, by rw [HDl.out], by rw [HDl.out]; omega, by rw [HDl.out]; exact Nat.le_refl _, ⟨hP⟩, HQD, HO6, HB6⟩
         | succ j =>
          have hje : ((j + 1 : Nat) : Int) - 1 = (j : Int) := by omega
          rw [hje]
          have hj0 : (0 : Int) ≤ (j : Int) := by omega
          have hj5 : (j : Int) < 5 := by omega
          have hca : wr.cell? ⟨wq.heap.size, j, none⟩ = some (.int .i64 (l.getD j 0)) := (blk_cell BA.out j).trans (by simp [List.getD_eq_getElem?_getD, show j < l.length by omega])
          have hfa := blk_frozen BA.out j
          have hL := HL.out
          have HL3 := am (show fiveL j (wrap64 (Int.tdiv m 900)) (l.set j (Int.tmod m 900)) = fiveL 5 n [0, 0, 0, 0, 0] from hL)
          clear hL HL
          go_wp2
          go_roundg j
          case measure => omega
          case rel =>
           refine ⟨j, _, l.set j (Int.tmod m 900), rfl, by go_num, by omega, by omega, HL3, by rw [List.length_set]; exact hll, ⟨?_⟩, ⟨below_set HBA.out (Nat.le_refl _)⟩⟩
           exact blk_put BA.out j _ (by simp [List.map_set])
     ·have hqx : q1.length < 6 := by omega
      have hP := HP.out
      rw [packL, dif_neg h6] at hP
      have HP2 := am (show out ++ (q1.drop 0).map wrap64 = r from hP)
      clear hP HP h6
      go_wp2
      go_loopg [8, 76] q1.length (fun gg v8 v76 wr2 => ∃ (j : Nat) (o2 : List Int), v76 = .int .i64 j ∧ j ≤ q1.length ∧ q1.length - j ≤ gg ∧ Aside0 (o2 ++ (q1.drop j).map wrap64 = r) ∧ Aside0 (Kd.R (Kd.int .i64) 3 wr2 w.heap.size (fun _ => True) v8 o2) ∧ Aside0 (Below w.heap.size w wr2))
      case atStart => exact ⟨0, out, rfl, Nat.zero_le _, Nat.le_refl _, HP2, HO, HB⟩
      case round =>
       clear HP2 HO HB
       obtain ⟨j, o2, rfl, hj, hgj, HP, HO, HB⟩ := hrel
       by_cases hlj : j < q1.length
       ·have hljz : (j : Int) < (q1.length : Int) := by omega
        obtain ⟨ad, ea, hx⟩ := Kd.at_int (Kd.C_below HQ.out HB.out) (j : Int) (by omega) (by omega)
        subst ea
        rw [Int.toNat_natCast] at hx
        have hP := HP.out
        have hlen : o2.length ≤ 1000000 := by rw [← hP, List.length_append] at hr; omega
        have hst : (q1.drop j).map wrap64 = wrap64 (rd q1 (j : Int)) :: (q1.drop (j + 1)).map wrap64 := by
         have := take_step q1 q1.length j hlj (Nat.le_refl _)
         rw [List.take_of_length_le (Nat.le_refl _)] at this
         rw [this]
         rfl
        rw [hst] at hP
        have HP3 := am (show (o2 ++ [wrap64 (rd q1 (j : Int))]) ++ (q1.drop (j + 1)).map wrap64 = r by rw [List.append_assoc]; exact hP)
        clear hP hst HP
        go_wp2_with (at_builtin; refine Kd.R_append (Kd.int .i64) (w0 := w) w.heap.size rfl (.tmp 80) (.tmp 83) 22 3 (.int .i64 0) 8 rfl Tryd.underlying22 Go.Proofs.YtoadabodhdgdjaaDoor.SM.info3 rfl (by decide) (by omega) u8 o2 (wrap64 (rd q1 (j : Int))) [.int .i64 (wrap64 (rd q1 (j : Int)))] (fun _ => True) (fun _ => False) rfl rfl rfl (fun _ hk => hk.elim) (fun _ _ => trivial) HO.out HB.out HB.out.size (by omega) ?_; intro v6 w6 ho hb hg_ hat_; clear hg_ hat_; have HO6 := am ho; have HB6 := am hb; clear ho hb)
        go_roundg (q1.length - (j + 1))
        case measure => omega
        case rel => exact ⟨j + 1, _, by go_num, by omega, by omega, HP3, HO6, HB6⟩
       ·have hje : j = q1.length := by omega
        subst hje
        have hP := HP.out
        rw [List.drop_of_length_le (Nat.le_refl _)] at hP
        have hP2 : o2 = r := by simpa using hP
        subst hP2
        clear hP HP
        go_wp2
        refine bodyPost_ret (results_tmp rfl _ _ _) rfl ?_
        obtain ⟨A6, c6, hv6, hl6, hC6⟩ := Kd.R_reads HO.out
        subst hv6
        exact ⟨A6, c6, rfl, Kd.F_mono (R_F_int HO.out) (fun _ hk => .inr hk), hl6, HB.out⟩
 ·rw [if_neg hg] at h; cases h
end Go.Proofs.YtoadabodhdgdjaaDoor.St
