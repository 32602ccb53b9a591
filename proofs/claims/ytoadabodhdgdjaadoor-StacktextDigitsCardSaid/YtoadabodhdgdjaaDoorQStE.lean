import Derived.Test.YtoadabodhdgdjaaDoorQSG
import Derived.Lib.OthersKept
import Derived.Lib.Hide
import Derived.Test.YtoadabodhdgdjaaDoorQS0
namespace Go.Proofs.YtoadabodhdgdjaaDoor.St
open Go.Proofs.YtoadabodhdgdjaaDoor.S0
open Go.RowKit Go.Proofs.YtoadabodhdgdjaaDoorW.PrintWords Go.Proofs.YtoadabodhdgdjaaDoorW.PrintLast Go.Proofs.YtoadabodhdgdjaaDoorW.PrintMore Go.Proofs.YtoadabodhdgdjaaDoor.SG
set_option linter.unusedVariables false
set_option linter.unusedSimpArgs false
def parseGo (k : Nat) (s : ByteArray) : Nat → Nat → List Int → Option (List Int)
 | 0, _, mag => some mag
 | n + 1, pos, mag => (bigint_extended.f k mag 10 (bt s (pos : Int) - 48)).bind fun m => parseGo k s n (pos + 1) m
def digitsOnly (s : ByteArray) : Bool := s.data.toList.all fun b => 48 ≤ b.toNat && b.toNat ≤ 57
def bigint_Parse.f (k : Nat) (s : ByteArray) : Option (Bool × List Int × Int) :=
 if s.size ≤ 4096 ∧ 48 < bt s 0 ∧ digitsOnly s = true then (parseGo k s s.size 0 []).bind fun m => (bigint_made.f k false m).bind fun r => some (r.1, r.2, 0) else none
theorem digits_at {s : ByteArray} (h : digitsOnly s = true) (i : Nat) (hi : i < s.size) : 48 ≤ (s[i]'hi).toNat ∧ (s[i]'hi).toNat ≤ 57 := by
 have := List.all_eq_true.1 h (s.data.toList[i]'(by simpa using hi)) (List.getElem_mem _)
 simp only [Bool.and_eq_true, decide_eq_true_eq] at this
 exact this
theorem cell_iterAt {w : World} {k : Nat} {s : ByteArray} {p p' : Nat} (hk : w.heap[k]? = some (.stringIter s p)) {a : Addr} {v : Value} (h : w.cell? a = some v) : (w.iterAt k s p').cell? a = some v := by
 have hne : a.block ≠ k := by
  intro e
  subst e
  simp [World.cell?, hk] at h
 have := Lib.iterAt_other w k a.block s p' hne
 simpa [World.cell?, this] using h
theorem C_iterAt {q : IntKind} {w : World} {k : Nat} {s : ByteArray} {p p' : Nat} (hk : w.heap[k]? = some (.stringIter s p)) {A : Option Addr} {n : Nat} {xs : List Int} (h : Kd.C (Kd.int q) w A n xs) : Kd.C (Kd.int q) (w.iterAt k s p') A n xs :=
 ⟨h.1, h.2.1, fun hn => by
  obtain ⟨ad, e, hc⟩ := h.2.2 hn
  refine ⟨ad, e, fun j p hj => ?_⟩
  obtain ⟨c, hs, hr, hcell⟩ := hc j p hj
  exact ⟨c, hs, hr, fun i u hu => cell_iterAt hk (hcell i u hu)⟩⟩
theorem blk_iterAt {w : World} {k g : Nat} {s : ByteArray} {p p' : Nat} {cs : Array Value} {t : TypeId} {z : Nat × Nat} (hk : w.heap[k]? = some (.stringIter s p)) (h : w.heap[g]? = some (.cells cs t z)) : (w.iterAt k s p').heap[g]? = some (.cells cs t z) := by
 have hne : g ≠ k := by
  intro e
  subst e
  rw [hk] at h
  cases h
 rw [Lib.iterAt_other w k g s p' hne, h]
theorem digit_f (x : Int) (h0 : 48 ≤ x) (h1 : x ≤ 57) : bigint_digit.f x = some (x - 48, true) := by
 unfold bigint_digit.f
 rw [if_pos (by omega)]
 have e : wrap32 (x - 48) = x - 48 := by unfold wrap32; omega
 rw [e, decide_eq_true h1]
 congr 2
 omega
theorem iterPos_of {w : World} {k : Nat} {s : ByteArray} {p : Nat} (h : w.heap[k]? = some (.stringIter s p)) : w.iterPos k = p := by simp [World.iterPos, h]
theorem blk_iter {w w1 : World} {k : Nat} {o : Obj} (hb : Below w.heap.size w w1) (h : w.heap[k]? = some o) : w1.heap[k]? = some o := (hb.block k (Array.getElem?_eq_some_iff.1 h).1).trans h
theorem parseGo_none {k : Nat} {s : ByteArray} {n pos : Nat} {mag m : List Int} (h : parseGo k s (n + 1) pos mag = some m) : ∃ x, bigint_extended.f k mag 10 (bt s (pos : Int) - 48) = some x ∧ parseGo k s n (pos + 1) x = some m := Option.bind_eq_some_iff.1 h
set_option maxHeartbeats 4000000 in
set_option maxRecDepth 20000 in
theorem bigint_Parse.calls (k : Nat) (a0 : ByteArray) (r1 : Bool) (r2 : List Int) (r3 : Int) (w : World) (h : bigint_Parse.f k a0 = some (r1, r2, r3)) :
  Calls Tryd.prog 42 #[.string a0] w fun e w' => ∃ v1_ : Value, e = .returned (.tuple #[.agg #[.bool r1, v1_], .int .i64 r3]) ∧ Kd.R (Kd.int .u32) 103 w' w.heap.size (fun _ => True) v1_ r2 ∧ Below w.heap.size w w' := by
 unfold bigint_Parse.f at h
 by_cases hc : a0.size ≤ 4096 ∧ 48 < bt a0 0 ∧ digitsOnly a0 = true
 ·rw [if_pos hc] at h
  obtain ⟨hsz, hb0, hdig⟩ := hc
  obtain ⟨m, hgo, h⟩ := Option.bind_eq_some_iff.1 h
  obtain ⟨⟨q1, q2⟩, hmade, h⟩ := Option.bind_eq_some_iff.1 h
  simp only [Option.some.injEq, Prod.mk.injEq] at h
  obtain ⟨rfl, rfl, rfl⟩ := h
  have hpos : 0 < a0.size := by
   by_cases e : 0 < a0.size
   ·exact e
   ·have : bt a0 0 = 0 := by unfold bt; rw [dif_neg (by simpa using e)]
    omega
  have hbt : ((a0[0]'hpos).toNat : Int) = bt a0 0 := bt_at a0 0 hpos
  have hne45 : ¬ (a0[0]'hpos).toNat = 45 := by omega
  have hne48 : ¬ (a0[0]'hpos).toNat = 48 := by omega
  have f1 : (bt a0 0 == 45) = false := beq_eq_false_iff_ne.mpr (by omega)
  have f2 : (bt a0 0 == 48) = false := beq_eq_false_iff_ne.mpr (by omega)
  have f3 : decide (4096 < (a0.size : Int)) = false := decide_eq_false (by omega)
  have f5 : ¬ a0.toList = [] := by
   intro e
   have : a0.toList.length = a0.size := by rw [ByteArray.toList_eq, data_length]
   rw [e] at this
   simp at this
   omega
  have f6 : a0.toList.isEmpty = false := by
   cases e : a0.toList with
   | nil => exact absurd e f5
   | cons x y => rfl
  have Hgo := am hgo
  have Hmade := am hmade
  have Hdig := am hdig
  clear hgo hmade hdig hne45 hne48 hb0
  go_enter Tryd.func42, Tryd.ntmps42
  go_wp2_with (first | ((with_reducible refine gate_dst (N := 2) rfl ?_); (try (refine gate_guard (by rfl) ?_; dsimp only)); refine box_event ?hg (N := 2) ?hd (cs := #[.bool false, .slice none 0 0]) (t := 77) ?hr ?_; (case hd => rfl); (case hg => rfl); (case hr => first | (go_simp; done) | (go_simp; rfl)); intro gb hg w6 hbox hb; have BK := am hbox; have HB2 := am hb; have HG := am (show w.heap.size ≤ gb from by rw [hg]; exact Nat.le_refl _); have HGe := am (show w.heap.size ≤ w6.heap.size from hb.size); clear hbox hb hg))
  go_loopw [6] (fun v6 w' => ∃ (pos : Nat) (mag : List Int) (A : Option Addr) (c : Nat), v6 = .slice A mag.length c ∧ Aside0 (mag.length ≤ c) ∧ Aside0 (pos ≤ a0.size) ∧ Aside0 (parseGo k a0 (a0.size - pos) pos mag = some m) ∧ Aside0 (Kd.C (Kd.int .u32) w' A mag.length mag) ∧ Aside0 (w'.heap[w6.heap.size]? = some (.stringIter a0 pos)) ∧ Aside0 (w'.heap[gb]? = some (.cells #[.bool false, .slice none 0 0] 77 (0, 0))) ∧ Aside0 (Below w.heap.size w w')) (fun _ w' => a0.size - w'.iterPos w6.heap.size)
  case atStart =>
   refine ⟨0, [], none, 0, rfl, ⟨Nat.le_refl _⟩, ⟨Nat.zero_le _⟩, ⟨Hgo.out⟩, ⟨Kd.C_nil _ _⟩, ⟨World.iter_heap w6 a0 0⟩, ⟨blk_alloc BK.out _⟩, ⟨below_alloc HB2.out _⟩⟩
  case round =>
   clear BK HB2
   obtain ⟨pos, mag, A, c, rfl, Hl, Hp, Hgo, HC, Hit, BK, HB⟩ := hrel
   by_cases hp : pos < a0.size
   ·have hd := digits_at Hdig.out pos hp
    have hbt : ((a0[pos]'hp).toNat : Int) = bt a0 (pos : Int) := bt_at a0 (pos : Int) hp
    obtain ⟨x, Hx, Hgo2⟩ := parseGo_none (show parseGo k a0 (a0.size - (pos + 1) + 1) pos mag = some m from by rw [show a0.size - (pos + 1) + 1 = a0.size - pos by omega]; exact Hgo.out)
    obtain ⟨ch, hch⟩ : ∃ ch : Int, ch = ((a0[pos]'hp).toNat : Int) := ⟨_, rfl⟩
    have hnx : ∀ ty, (Instr.next (.pointer (some ⟨w6.heap.size, 0, none⟩)) true ty).run Tryd.prog wr = .ok (.tuple #[.bool true, .int .i64 pos, .int .i32 ch]) (wr.iterAt w6.heap.size a0 (pos + 1)) := fun ty => by rw [hch]; exact Lib.run_next_ascii_at wr w6.heap.size a0 pos ty Hit.out hp (by omega)
    have Hdf := am (show bigint_digit.f ch = some (ch - 48, true) from digit_f ch (by omega) (by omega))
    have Hx := am (show bigint_extended.f k mag 10 (ch - 48) = some x from by rw [hch, hbt]; exact Hx)
    have Hgo2 := am Hgo2
    have BK2 := am (blk_iterAt (p' := pos + 1) Hit.out BK.out)
    have HC2 := am (C_iterAt (p' := pos + 1) Hit.out HC.out)
    have Hit2 := am (Lib.iterAt_heap wr w6.heap.size a0 pos (pos + 1) Hit.out)
    have hge : w.heap.size ≤ w6.heap.size := HGe.out
    have HB3 := am (Lib.below_iterAt HB.out hge a0 (pos + 1))
    have Hmeas := am (iterPos_of Hit.out)
    clear hd hbt hch Hgo BK HC Hit HB
    generalize hw2 : wr.iterAt w6.heap.size a0 (pos + 1) = w2 at hnx BK2 HC2 Hit2 HB3
    clear hw2
    go_wp2_with (first | ((with_reducible refine gate_callee (f := 63) rfl ?_); refine gL (some 50) Tryd.func63 #[.int .i32 ch] (h := ?_); (with_reducible refine (bigint_digit.calls ch (ch - 48) true _ Hdf.out).mono ?_); rintro e w' ⟨rfl, ⟨nd, rfl⟩⟩; refine ⟨_, rfl, ?_⟩) | ((with_reducible refine gate_callee (f := 64) rfl ?_); refine gL (some 58) Tryd.func64 #[.slice A mag.length c, .int .u32 10, .int .u32 (ch - 48)] (h := ?_); (with_reducible refine (bigint_extended.calls k _ _ mag 10 (ch - 48) x _ ?side1 ?side2 Hx.out).mono ?_); (case side1 => exact Kd.C_drewN HC2.out _); (case side2 => exact Hl.out); rintro e w3 ⟨v3, rfl, ho, hb⟩; refine ⟨_, rfl, ?_⟩; have HV := am ho; have HB4 := am hb; clear ho hb))
    obtain ⟨A3, c3, e3⟩ := Kd.V_slice HV.out
    subst e3
    go_roundw
    case measure =>
     have h1 := iterPos_of (blk_iter (w1 := w3) HB4.out Hit2.out)
     have h2 := Hmeas.out
     simp only [h1, h2]
     omega
    case rel =>
     refine ⟨pos + 1, x, A3, c3, rfl, ⟨(Kd.V_reads' HV.out).2.1⟩, ⟨by omega⟩, Hgo2, ⟨(Kd.V_reads' HV.out).2.2⟩, ⟨blk_iter HB4.out Hit2.out⟩, ⟨blk_below (blk_drewN BK2.out _) HB4.out⟩, ⟨below_step (pw_below_drewN HB3.out _) HB4.out⟩⟩
   ·have hnx : ∀ ty, (Instr.next (.pointer (some ⟨w6.heap.size, 0, none⟩)) true ty).run Tryd.prog wr = .ok (.tuple #[.bool false]) wr := fun ty => Lib.run_next_end_at wr w6.heap.size a0 pos ty Hit.out hp
    have em : mag = m := by
     have := Hgo.out
     rw [show a0.size - pos = 0 by omega] at this
     exact Option.some.inj this
    subst em
    clear Hgo
    go_wp2_with (first | ((with_reducible refine gate_callee (f := 65) rfl ?_); refine gL (some 61) Tryd.func65 #[.bool false, .slice A mag.length c] (h := ?_); (with_reducible refine (bigint_made.calls k false _ _ mag q1 q2 _ ?side1 ?side2 Hmade.out).mono ?_); (case side1 => exact HC.out); (case side2 => exact Hl.out); rintro e w3 ⟨v3, rfl, ho, hb⟩; refine ⟨_, rfl, ?_⟩; have HV := am ho; have HB4 := am hb; have BK3 := am (blk_below BK.out hb); have hc0 : w3.cell? ⟨gb, 0, none⟩ = some (.bool false) := (blk_cell BK3.out 0).trans rfl; have hc1 : w3.cell? ⟨gb, 1, none⟩ = some (.slice none 0 0) := (blk_cell BK3.out 1).trans rfl; have hf0 := blk_frozen BK3.out 0; have hf1 := blk_frozen BK3.out 1; clear ho hb; obtain ⟨A3, c3, e3⟩ := Kd.R_slice HV.out; subst e3))
    refine bodyPost_ret (results_list (rs := [.cell 2 77, .tmp 3]) rfl (by simp) (.cell gb 77 #[.bool q1, .slice A3 q2.length c3] (0, 0) _ rfl (by (with_reducible repeat (first | refine blk_drewN ?_ _ | refine blk_drew ?_ | refine blk_alloc ?_ _)); refine blk_put (cs := #[.bool q1, .slice none 0 0]) ?_ 1 _ rfl; refine blk_put (cs := #[.bool false, .slice none 0 0]) ?_ 0 _ rfl; exact BK3.out) Tryd.underlying77 rfl (by kernel_rfl) (.tmp .nil))) rfl ?_
    exact ⟨_, rfl, Kd.R_mono (Kd.R_far (p := ⟨gb, 1, none⟩) (Kd.R_far (p := ⟨gb, 0, none⟩) (Kd.R_types (Kd.R_lower HV.out HB.out.size) BK3.out (by decide)) (fun _ hk => hk.2) (.bool q1)) (fun _ hk => hk.2) (.slice A3 q2.length c3)) (fun _ hk => trivial), below_set (below_set (below_step HB.out HB4.out) HG.out) HG.out⟩
 ·rw [if_neg hc] at h; cases h
end Go.Proofs.YtoadabodhdgdjaaDoor.St
