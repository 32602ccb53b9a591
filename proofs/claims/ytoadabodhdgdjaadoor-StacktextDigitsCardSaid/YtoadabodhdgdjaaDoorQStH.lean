import Derived.Test.YtoadabodhdgdjaaDoorQStG
import Derived.Test.YtoadabodhdgdjaaDoorQS0
namespace Go.Proofs.YtoadabodhdgdjaaDoor.St
open Go.Proofs.YtoadabodhdgdjaaDoor.S0
open Go.RowKit Go.Proofs.YtoadabodhdgdjaaDoorW.PrintWords Go.Proofs.YtoadabodhdgdjaaDoorW.PrintLast Go.Proofs.YtoadabodhdgdjaaDoorW.PrintMore Go.Proofs.YtoadabodhdgdjaaDoor.SG
set_option linter.unusedVariables false
set_option linter.unusedSimpArgs false
def fromGo (k : Nat) : List Int → List Int → Option (List Int)
 | [], mag => some mag
 | d :: t, mag => (bigint_extended.f k mag 900 d).bind fun m => if m.length ≤ 512 then fromGo k t m else none
def bigint_FromDigits.f (k : Nat) (l0 : List Int) (a1 : Int) : Option (Bool × List Int × Int) :=
 if a1 = 900 ∧ l0.length ≤ 4096 ∧ l0.any (pBase 900) = false then (fromGo k l0 []).bind fun m => (bigint_made.f k false m).bind fun r => some (r.1, r.2, 0) else none
theorem fromGo_step {k : Nat} {l : List Int} {kk : Nat} {mag m : List Int} (hk : kk < l.length) (h : fromGo k (l.drop kk) mag = some m) :
  ∃ x, bigint_extended.f k mag 900 (rd l (kk : Int)) = some x ∧ x.length ≤ 512 ∧ fromGo k (l.drop (kk + 1)) x = some m := by
 rw [List.drop_eq_getElem_cons hk] at h
 have e : rd l (kk : Int) = l[kk] := by unfold rd; simp [hk]
 rw [e]
 obtain ⟨x, h1, h2⟩ := Option.bind_eq_some_iff.1 h
 by_cases hx : x.length ≤ 512
 ·rw [if_pos hx] at h2
  exact ⟨x, h1, hx, h2⟩
 ·rw [if_neg hx] at h2; cases h2
theorem rd_range {l : List Int} (h : l.any (pBase 900) = false) (kk : Nat) (hk : kk < l.length) : 0 ≤ rd l (kk : Int) ∧ rd l (kk : Int) < 900 := by
 have e : rd l (kk : Int) = l[kk] := by unfold rd; simp [hk]
 rw [e]
 have := List.any_eq_false.1 h l[kk] (List.getElem_mem hk)
 simp only [pBase, decide_eq_true_eq, not_or] at this
 omega
set_option maxHeartbeats 4000000 in
set_option maxRecDepth 20000 in
theorem bigint_FromDigits.calls (k : Nat) (A0 : Option Addr) (c0 : Nat) (l0 : List Int) (a1 : Int) (r1 : Bool) (r2 : List Int) (r3 : Int) (w : World) (hr0 : Kd.C (Kd.int .i64) w A0 l0.length l0) (hc0 : l0.length ≤ c0) (h : bigint_FromDigits.f k l0 a1 = some (r1, r2, r3)) :
  Calls Tryd.prog 46 #[.slice A0 l0.length c0, .int .i64 a1] w fun e w' => ∃ v1_ : Value, e = .returned (.tuple #[.agg #[.bool r1, v1_], .int .i64 r3]) ∧ Kd.R (Kd.int .u32) 103 w' w.heap.size (fun _ => True) v1_ r2 ∧ Below w.heap.size w w' := by
 unfold bigint_FromDigits.f at h
 by_cases hc : a1 = 900 ∧ l0.length ≤ 4096 ∧ l0.any (pBase 900) = false
 ·rw [if_pos hc] at h
  obtain ⟨rfl, hlen, hany⟩ := hc
  obtain ⟨m, hgo, h⟩ := Option.bind_eq_some_iff.1 h
  obtain ⟨⟨q1, q2⟩, hmade, h⟩ := Option.bind_eq_some_iff.1 h
  simp only [Option.some.injEq, Prod.mk.injEq] at h
  obtain ⟨rfl, rfl, rfl⟩ := h
  have f3 : decide (4096 < (l0.length : Int)) = false := decide_eq_false (by omega)
  have Hgo := am hgo
  have Hmade := am hmade
  have Hany := am hany
  have HR0 := am hr0
  have eg := enters_of Tryd.func70 (by kernel_rfl) rfl
  clear hgo hmade hr0
  go_enter Tryd.func46, Tryd.ntmps46
  go_wp2_with (first | ((with_reducible refine gate_dst (N := 3) rfl ?_); (try (refine gate_guard (by rfl) ?_; dsimp only)); refine box_event ?hg (N := 3) ?hd (cs := #[.int .i64 900]) (t := 3) ?hr ?_; (case hd => rfl); (case hg => rfl); (case hr => first | (go_simp; done) | (go_simp; rfl)); intro g3 hg w3 hbox hb; have BK3 := am hbox; have HB3 := am hb; have HG3 := am (show w.heap.size ≤ g3 from by rw [hg]; exact Nat.le_refl _); clear hbox hb hg) | ((with_reducible refine gate_dst (N := 4) rfl ?_); (try (refine gate_guard (by rfl) ?_; dsimp only)); refine box_event ?hg (N := 4) ?hd (cs := #[.bool false, .slice none 0 0]) (t := 77) ?hr ?_; (case hd => rfl); (case hg => rfl); (case hr => first | (go_simp; done) | (go_simp; rfl)); intro g4 hg w4 hbox hb; have BK4 := am hbox; have n1 := am (below_step HB3.out hb); have n2 := am (blk_below BK3.out hb); have HG4 := am (show w.heap.size ≤ g4 from by rw [hg]; exact HB3.out.size); clear HB3 BK3; have HB := n1; have BK3 := n2; clear n1 n2; have hc3 : w4.cell? ⟨g3, 0, none⟩ = some (.int .i64 900) := (blk_cell BK3.out 0).trans rfl; clear hbox hb hg) | ((with_reducible refine gate_callee (f := 23) rfl ?_); refine gL (some 25) Tryd.func23 #[.slice A0 l0.length c0, .func (.func 70) #[] #[.pointer (some ⟨g3, 0, none⟩)]] (h := ?_); (refine (slices_ContainsFunc.calls (pBase 900) 70 #[.pointer (some ⟨g3, 0, none⟩)] eg A0 c0 l0 _ ?s1 ?s2 ?s3).mono ?_); (case s1 => exact Kd.C_below HR0.out HB.out); (case s2 => omega); (case s3 => exact pBase_pred g3 900 _ hc3); rw [Hany.out]; rintro e w' ⟨rfl, nd, rfl⟩; refine ⟨_, rfl, ?_⟩; clear hc3 eg))
  go_loopg [6, 29] l0.length (fun gg v6 v29 w' => ∃ (kk : Nat) (mag : List Int) (A : Option Addr) (c : Nat), v6 = .slice A mag.length c ∧ v29 = .int .i64 kk ∧ kk ≤ l0.length ∧ l0.length - kk ≤ gg ∧ Aside0 (mag.length ≤ c) ∧ Aside0 (fromGo k (l0.drop kk) mag = some m) ∧ Aside0 (Kd.C (Kd.int .u32) w' A mag.length mag) ∧ Aside0 (w'.heap[g3]? = some (.cells #[.int .i64 900] 3 (0, 0))) ∧ Aside0 (w'.heap[g4]? = some (.cells #[.bool false, .slice none 0 0] 77 (0, 0))) ∧ Aside0 (Below w.heap.size w w'))
  case atStart =>
   exact ⟨0, [], none, 0, rfl, rfl, Nat.zero_le _, by omega, ⟨Nat.le_refl _⟩, Hgo, ⟨Kd.C_nil _ _⟩, ⟨blk_drewN BK3.out _⟩, ⟨blk_drewN BK4.out _⟩, ⟨pw_below_drewN HB.out _⟩⟩
  case round =>
   clear BK3 BK4 HB Hgo
   obtain ⟨kk, mag, A, c, rfl, rfl, hkk, hg, Hl, Hgo, HC, BK3, BK4, HB⟩ := hrel
   by_cases hlt : kk < l0.length
   ·have hltz : (kk : Int) < (l0.length : Int) := by omega
    obtain ⟨ad, e1, hx⟩ := Kd.at_int (Kd.C_below HR0.out HB.out) (kk : Int) (by omega) hltz
    subst e1
    simp only [Int.toNat_natCast] at hx
    have hrg := rd_range Hany.out kk hlt
    obtain ⟨x, hx1, hx2, hx3⟩ := fromGo_step hlt Hgo.out
    obtain ⟨y, hy⟩ : ∃ y : Int, y = rd l0 (kk : Int) := ⟨_, rfl⟩
    rw [← hy] at hx hrg hx1
    have hm1 : y % 4294967296 = y := Int.emod_eq_of_lt hrg.1 (by omega)
    have hw1 : IntKind.u32.wrap y = y := by rw [IntKind.wrap_u32]; exact hm1
    have f5 : decide (512 < (x.length : Int)) = false := decide_eq_false (by omega)
    have Hx1 := am hx1
    have Hx3 := am hx3
    clear hx1 hx3 hy Hgo hrg
    have hc3 : wr.cell? ⟨g3, 0, none⟩ = some (.int .i64 900) := (blk_cell BK3.out 0).trans rfl
    go_wp2_with (first | ((with_reducible refine gate_callee (f := 64) rfl ?_); refine gL (some 38) Tryd.func64 #[.slice A mag.length c, .int .u32 900, .int .u32 y] (h := ?_); (with_reducible refine (bigint_extended.calls k _ _ mag 900 y x _ ?side1 ?side2 Hx1.out).mono ?_); (case side1 => exact HC.out); (case side2 => exact Hl.out); rintro e w5 ⟨v5, rfl, ho, hb⟩; refine ⟨_, rfl, ?_⟩; have HV := am ho; have HB4 := am hb; clear ho hb; obtain ⟨A5, c5, e5⟩ := Kd.V_slice HV.out; subst e5))
    go_roundg (l0.length - (kk + 1))
    case measure => omega
    case rel =>
     exact ⟨kk + 1, x, A5, c5, rfl, by go_num, by omega, by omega, ⟨(Kd.V_reads' HV.out).2.1⟩, Hx3, ⟨(Kd.V_reads' HV.out).2.2⟩, ⟨blk_below BK3.out HB4.out⟩, ⟨blk_below BK4.out HB4.out⟩, ⟨below_step HB.out HB4.out⟩⟩
   ·have hltz : ¬ (kk : Int) < (l0.length : Int) := by omega
    have hk : kk = l0.length := by omega
    subst hk
    have em : mag = m := by
     have := Hgo.out
     rw [List.drop_length] at this
     exact Option.some.inj this
    subst em
    clear Hgo
    go_wp2_with (first | ((with_reducible refine gate_callee (f := 65) rfl ?_); refine gL (some 45) Tryd.func65 #[.bool false, .slice A mag.length c] (h := ?_); (with_reducible refine (bigint_made.calls k false _ _ mag q1 q2 _ ?side1 ?side2 Hmade.out).mono ?_); (case side1 => exact HC.out); (case side2 => exact Hl.out); rintro e w5 ⟨v3, rfl, ho, hb⟩; refine ⟨_, rfl, ?_⟩; have HV := am ho; have HB4 := am hb; have BK5 := am (blk_below BK4.out hb); have hc0 : w5.cell? ⟨g4, 0, none⟩ = some (.bool false) := (blk_cell BK5.out 0).trans rfl; have hc1 : w5.cell? ⟨g4, 1, none⟩ = some (.slice none 0 0) := (blk_cell BK5.out 1).trans rfl; have hf0 := blk_frozen BK5.out 0; have hf1 := blk_frozen BK5.out 1; clear ho hb; obtain ⟨A3, c3, e3⟩ := Kd.R_slice HV.out; subst e3))
    refine bodyPost_ret (results_list (rs := [.cell 4 77, .tmp 5]) rfl (by simp) (.cell g4 77 #[.bool q1, .slice A3 q2.length c3] (0, 0) _ rfl (by (with_reducible repeat (first | refine blk_drewN ?_ _ | refine blk_drew ?_ | refine blk_alloc ?_ _)); refine blk_put (cs := #[.bool q1, .slice none 0 0]) ?_ 1 _ rfl; refine blk_put (cs := #[.bool false, .slice none 0 0]) ?_ 0 _ rfl; exact BK5.out) Tryd.underlying77 rfl (by kernel_rfl) (.tmp .nil))) rfl ?_
    exact ⟨_, rfl, Kd.R_mono (Kd.R_far (p := ⟨g4, 1, none⟩) (Kd.R_far (p := ⟨g4, 0, none⟩) (Kd.R_types (Kd.R_lower HV.out HB.out.size) BK5.out (by decide)) (fun _ hk => hk.2) (.bool q1)) (fun _ hk => hk.2) (.slice A3 q2.length c3)) (fun _ hk => trivial), below_set (below_set (below_step HB.out HB4.out) HG4.out) HG4.out⟩
 ·rw [if_neg hc] at h; cases h
end Go.Proofs.YtoadabodhdgdjaaDoor.St
