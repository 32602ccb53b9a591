import Derived.Test.YtoadabodhdgdjaaDoorQStV
import Derived.Test.YtoadabodhdgdjaaDoorQS0
namespace Go.Proofs.YtoadabodhdgdjaaDoor.St
open Go.Proofs.YtoadabodhdgdjaaDoor.S0
open Go.RowKit Go.Maps Go.Proofs.YtoadabodhdgdjaaDoorW.PrintWords Go.Proofs.YtoadabodhdgdjaaDoorW.PrintLast Go.Proofs.YtoadabodhdgdjaaDoorW.PrintMore Go.Proofs.YtoadabodhdgdjaaDoor.SB
attribute [local go_sem] max2_int min2_int max_two min_two max_three min_three max_four min_four
set_option linter.unusedVariables false
set_option linter.unusedSimpArgs false
theorem info5 : (Tryd.prog.info? 5).map (fun i => (i.zero, i.size, i.bytes)) = some (some (.int .u8 0), 1, 1) := by kernel_rfl
theorem cellAl5 {w : World} {a : Addr} {v : Value} (h : w.cell? a = some v) (o : Obj) : (w.alloc o).cell? a = some v := (World.cell?_alloc_lt w o a (World.block_lt_of_cell? w a h)).trans h
theorem DI.bel {w0 w : World} {g at_ : Nat} {ws out : List Int} (h : DI w0 w g ws at_ out) : Below w0.heap.size w0 w := by
 obtain ⟨A0, c0, v, HG, hge, hc0, HC, HR, HB⟩ := h
 exact HB
theorem DI.lt {w0 w : World} {g at_ : Nat} {ws out : List Int} (h : DI w0 w g ws at_ out) : g < w.heap.size := by
 obtain ⟨A0, c0, v, HG, hge, hc0, HC, HR, HB⟩ := h
 exact blk_lt HG
theorem DI.setAt {w0 w : World} {g at_ : Nat} {ws out : List Int} (h : DI w0 w g ws at_ out) (n : Nat) (z : Int) (hz : z = (n : Int)) : DI w0 (w.setCell ⟨g, 1, none⟩ (.int .i64 z)) g ws n out := by
 subst hz
 obtain ⟨A0, c0, v, HG, hge, hc0, HC, HR, HB⟩ := h
 exact ⟨A0, c0, v, blk_put HG 1 _ rfl, hge, hc0, HC, R_at HG HR 1 _, below_set HB hge⟩
set_option maxHeartbeats 4000000 in
set_option maxRecDepth 100000 in
theorem single_calls (g : Nat) (ws : List Int) (at_ : Nat) (out : List Int) (w0 w : World) (hI : DI w0 w g ws at_ out) (hat : at_ < ws.length) (hlen : ws.length ≤ 1000000) (hol : out.length ≤ 1000000) (x : Int) (hx : rd ws (at_ : Int) = x) (hx0 : 0 ≤ x) (hx255 : x ≤ 255) :
  Calls Tryd.prog 52 #[.pointer (some ⟨g, 0, none⟩)] w fun e w' => e = .returned (.tuple #[]) ∧ DI w0 w' g ws (at_ + 1) (out ++ [x]) ∧ Lib.OthersKept 5 (some g) w w' := by
 obtain ⟨A0, c0, v, HG, hge, hc0, HC, HR, HB⟩ := hI
 obtain ⟨Av, cv, ev⟩ := Kd.R_slice HR
 subst ev
 obtain ⟨ad, ea, hxc⟩ := Kd.at_int (Kd.C_below HC HB) (at_ : Int) (by omega) (by omega)
 subst ea
 rw [Int.toNat_natCast, hx] at hxc
 have hX0 : w.drew.cell? ⟨g, 0, none⟩ = some (.slice (some ad) ws.length c0) := (blk_cell HG 0).trans rfl
 have hX1 : w.drew.cell? ⟨g, 1, none⟩ = some (.int .i64 (at_ : Nat)) := (blk_cell HG 1).trans rfl
 have hX2 : w.drew.cell? (ad.add at_) = some (.int .i64 x) := hxc
 have HGx := am HG
 have HCx := am HC
 have HRx := am HR
 have HBx := am HB
 have hltz : (at_ : Int) < (ws.length : Int) := by omega
 have hq1 : ((at_ : Int) == (ws.length : Int)) = false := by simpa using (show ¬ (at_ : Int) = (ws.length : Int) by omega)
 have hq2 : decide (255 < x) = false := decide_eq_false (by omega)
 have hq3 : IntKind.u8.wrap x = x := by
  simp only [IntKind.wrap_u8]
  exact Int.emod_eq_of_lt hx0 (by omega)
 have hRb : (out.length + 1) * 1 ≤ 140737488355328 := by omega
 clear HG HC HR HB hxc
 go_enter Tryd.func52, Tryd.ntmps52
 go_wp2
 refine start_ (n := 10) (S := fun w' => w'.cell? ⟨g, 0, none⟩ = some (.slice (some ad) ws.length c0) ∧ w'.cell? ⟨g, 1, none⟩ = some (.int .i64 (at_ : Nat))) (ds := []) (bs 10 0) (by kernel_rfl) rfl rfl ⟨hX0, hX1⟩ (fun hHeld => ?_)
 refine pS 0 (some 2) (bs 10 1) (h := ?_)
 refine pS 1 (some 3) (bs 10 3) (h := ?_)
 refine pS 2 (some 4) (bs 10 7) (h := ?_)
 refine pS 4 (some 6) (bs 10 23) (h := ?_)
 refine pS 5 (some 7) (bs 10 55) (h := ?_)
 refine pS 6 (some 8) (bs 10 119) (h := ?_)
 refine tS 3 (some 5) (bs 10 127) hHeld (h := ?_)
 refine tS 7 (some 9) (bs 10 255) hHeld (h := ?_)
 refine pS 8 (some 10) (bs 10 511) (h := ?_)
 refine pS 9 (some 11) (bs 10 1023) (h := ?_)
 refine done_ (by kernel_rfl) ?_
 go_wp2
 refine start_ (n := 11) (S := fun w' => w'.cell? ⟨g, 0, none⟩ = some (.slice (some ad) ws.length c0) ∧ w'.cell? ⟨g, 1, none⟩ = some (.int .i64 (at_ : Nat)) ∧ w'.cell? (ad.add at_) = some (.int .i64 x)) (ds := []) (bs 11 0) (by kernel_rfl) rfl rfl ⟨hX0, hX1, hX2⟩ (fun hHeld => ?_)
 refine pS 0 (some 13) (bs 11 1) (h := ?_)
 refine pS 1 (some 14) (bs 11 3) (h := ?_)
 refine pS 2 (some 15) (bs 11 7) (h := ?_)
 refine pS 4 (some 17) (bs 11 23) (h := ?_)
 refine pS 5 (some 18) (bs 11 55) (h := ?_)
 refine pS 6 (some 19) (bs 11 119) (h := ?_)
 refine tS 3 (some 16) (bs 11 127) hHeld (h := ?_)
 refine tS 7 (some 20) (bs 11 255) hHeld (h := ?_)
 refine pS 8 (some 21) (bs 11 511) (h := ?_)
 refine tS 9 (some 22) (bs 11 1023) hHeld (h := ?_)
 refine pS 10 (some 23) (bs 11 2047) (h := ?_)
 refine done_ (by kernel_rfl) ?_
 go_wp2
 have HGd := am (show w.drew.drew.drew.heap[g]? = _ from HGx.out)
 have HBd := am (below_drew1 (below_drew1 (below_drew1 HBx.out)))
 have HR : Aside0 (Kd.R (Kd.int .u8) 5 w.drew.drew.drew w0.heap.size (fun _ => True) (.slice Av out.length cv) out) := ⟨HRx.out⟩
 have HOd := am (show Lib.OthersKept 5 (some g) w w.drew.drew.drew from Lib.OthersKept.refl _ _ _)
 clear hX0 hX1 hX2 hq1 hq2
 have hX0 : w.drew.drew.drew.cell? ⟨g, 0, none⟩ = some (.slice (some ad) ws.length c0) := (blk_cell HGd.out 0).trans rfl
 have hX1 : w.drew.drew.drew.cell? ⟨g, 1, none⟩ = some (.int .i64 (at_ : Nat)) := (blk_cell HGd.out 1).trans rfl
 have hX3 : w.drew.drew.drew.cell? ⟨g, 2, none⟩ = some (.slice Av out.length cv) := (blk_cell HGd.out 2).trans rfl
 have hX2 : w.drew.drew.drew.cell? (ad.add at_) = some (.int .i64 x) := by
  obtain ⟨ad2, ea, hxc⟩ := Kd.at_int (Kd.C_below HCx.out HBd.out) (at_ : Int) (by omega) (by omega)
  cases ea
  rw [Int.toNat_natCast, hx] at hxc
  exact hxc
 refine start_ (n := 21) (S := fun w' => w'.cell? ⟨g, 0, none⟩ = some (.slice (some ad) ws.length c0) ∧ w'.cell? ⟨g, 1, none⟩ = some (.int .i64 (at_ : Nat)) ∧ w'.cell? ⟨g, 2, none⟩ = some (.slice Av out.length cv) ∧ w'.cell? (ad.add at_) = some (.int .i64 x)) (ds := [17, 20]) (bs 21 0) (by kernel_rfl) rfl rfl ⟨hX0, hX1, hX3, hX2⟩ (fun hHeld => ?_)
 refine pS 0 (some 25) (bs 21 1) (h := ?_)
 refine pS 1 (some 26) (bs 21 3) (h := ?_)
 refine pS 2 (some 27) (bs 21 7) (h := ?_)
 refine pS 3 (some 28) (bs 21 15) (h := ?_)
 refine pS 5 (some 30) (bs 21 47) (h := ?_)
 refine pS 6 (some 31) (bs 21 111) (h := ?_)
 refine pS 7 (some 32) (bs 21 239) (h := ?_)
 refine pS 9 (some 34) (bs 21 751) (h := ?_)
 refine pS 10 (some 35) (bs 21 1775) (h := ?_)
 refine pS 11 (some 36) (bs 21 3823) (h := ?_)
 refine tS 4 (some 29) (bs 21 3839) hHeld (h := ?_)
 refine tS 8 (some 33) (bs 21 4095) hHeld (h := ?_)
 refine tS 12 (some 37) (bs 21 8191) hHeld (h := ?_)
 refine pS 13 (some 38) (bs 21 16383) (h := ?_)
 refine tS 14 (some 39) (bs 21 32767) hHeld (h := ?_)
 refine pS 15 (some 40) (bs 21 65535) (h := ?_)
 refine one_ (i := 16) (N := some 41) (bs 21 131071) rfl rfl (by kernel_rfl) (by decide) (fun K hK => ?_)
 refine value_ (w1 := ?_) (v := ?_) (by rfl) rfl ?_ ?_
 rotate_left 2
 ·go_simp
  constructor
  ·rfl
  ·rfl
 refine hK.out _ _ ⟨cellAl5 hX0 _, cellAl5 hX1 _, cellAl5 hX3 _, cellAl5 hX2 _⟩ (fun hHeld => ?_)
 clear hK K
 refine norm_ (a' := ?_) ?_ ?_
 rotate_left
 ·show Act.put _ (some 41) _ = _
  simp only [Act.put, List.setIfInBounds_toArray, List.set_cons_zero, List.set_cons_succ, i64_w, i32_w]
  rfl
 refine last_ (i := 17) (N := some 42) (bs 21 262143) rfl rfl (by kernel_rfl) (by decide) (fun K hK => ?_)
 refine Kd.R_append_step (Kd.int .u8) (W := w.drew.drew.drew) (w0 := w0) w0.heap.size (by rfl) (.tmp 29) (.tmp 41) 31 5 (.int .u8 0) 1 rfl Tryd.underlying31 info5 rfl (by decide) (by omega) (.slice Av out.length cv) out x [.int .u8 x] (fun _ => True) (fun _ => False) rfl rfl rfl (fun _ hk => hk.elim) (fun _ _ => trivial) HR.out HBd.out HBd.out.size hRb ?_
 intro v1 w3 ho hb hg hat
 obtain ⟨A3, c3, hv3⟩ := Kd.R_slice ho
 rw [List.length_append, List.length_singleton] at hv3
 subst hv3
 have HD3 := am (DI_put (w0 := w0) (at_ := at_) (a := w) HGd.out hge hc0 HCx.out HR.out HOd.out ho hb hg)
 have hG3 := DI_cells HGd.out HR.out hg
 have hc31 : w3.cell? ⟨g, 1, none⟩ = some (.int .i64 (at_ : Nat)) := (blk_cell hG3 1).trans rfl
 have hc32 : w3.cell? ⟨g, 2, none⟩ = some (.slice Av out.length cv) := (blk_cell hG3 2).trans rfl
 have hf31 := blk_frozen hG3 1
 have hf32 := blk_frozen hG3 2
 clear ho hb hg hat hG3
 refine hK.out _ _ ?_
 clear hK K
 refine norm_ (a' := ?_) ?_ ?_
 rotate_left
 ·show Act.put _ (some 42) _ = _
  simp only [Act.put, List.setIfInBounds_toArray, List.set_cons_zero, List.set_cons_succ, i64_w, i32_w]
  rfl
 refine pS 18 (some 43) (bs 21 524287) (h := ?_)
 refine pS 19 (some 44) (bs 21 1048575) (h := ?_)
 refine last_ (i := 20) (N := none) (bs 21 2097151) rfl rfl (by kernel_rfl) (by decide) (fun K hK => ?_)
 refine skip_ (w1 := ?_) (by rfl) rfl ?_ ?_
 rotate_left
 ·go_simp
  rfl
 refine hK.out _ _ ?_
 clear hK K
 refine done_ (by kernel_rfl) ?_
 go_wp2
 refine bodyPost_end (results_none rfl _ _ _) rfl ?_
 exact ⟨rfl, DI.setAt HD3.out.1 _ _ (by omega), Lib.OthersKept.setCell HD3.out.2 _ rfl _⟩
theorem OthersKept_far {e : TypeId} {b : Option Nat} {a w : World} (h : Lib.OthersKept e b a w) {p : Addr} (hp : a.heap.size ≤ p.block) (v : Value) : Lib.OthersKept e b a (w.setCell p v) := by
 intro k x hk hb hx
 rw [Below.heap_setCell _ _ _ _ (by have := blk_lt hk; omega)]
 exact h k x hk hb hx
theorem DI.other {w0 w : World} {g at_ b : Nat} {ws out : List Int} {cs : Array Value} {t : TypeId} (h : DI w0 w g ws at_ out) (hb : w.heap[b]? = some (.cells cs t (0, 0))) (ht : t ≠ 5) (ht2 : t ≠ 51) (hb0 : w0.heap.size ≤ b) (i : Nat) (u : Value) : DI w0 (w.setCell ⟨b, i, none⟩ u) g ws at_ out := by
 obtain ⟨A0, c0, v, HG, hge, hc0, HC, HR, HB⟩ := h
 have hne : g ≠ b := fun e => by
  subst e
  rw [HG] at hb
  cases hb
  exact ht2 rfl
 exact ⟨A0, c0, v, (Below.heap_setCell w ⟨b, i, none⟩ u g hne).trans HG, hge, hc0, HC, Kd.R_mono (Kd.R_far (p := ⟨b, i, none⟩) (Kd.R_types HR hb (fun q hq => by
  have e : q = 5 := by simpa [Kd.int, Kd.scalar] using hq
  rw [e]
  exact Ne.symm ht)) (fun _ hk => hk.2) u) (fun _ _ => trivial), below_set HB hb0⟩
set_option maxHeartbeats 4000000 in
set_option maxRecDepth 100000 in
theorem numbers_calls (k : Nat) (g : Nat) (ws : List Int) (at_ : Nat) (out : List Int) (w0 w : World) (hI : DI w0 w g ws at_ out) (hat : at_ ≤ ws.length) (hlen : ws.length ≤ 1000000) (s : ByteArray) (h : stacktext_expanded.f k (runL ws at_) = some (s, true)) (hl : out.length + s.size ≤ 140737488355328) :
  Calls Tryd.prog 54 #[.pointer (some ⟨g, 0, none⟩)] w fun e w' => e = .returned (.tuple #[]) ∧ DI w0 w' g ws (at_ + (runL ws at_).length) (out ++ bytesOf s) ∧ Lib.OthersKept 5 (some g) w w' := by
 have HI := am hI
 have H := am h
 clear hI h
 go_enter Tryd.func54, Tryd.ntmps54
 go_wp2_with (first | ((with_reducible refine gate_callee (f := 74) rfl ?_); refine gL (some 6) Tryd.func74 #[.pointer (some ⟨g, 0, none⟩)] (h := ?_); (with_reducible refine (run_calls g ws at_ out w0 _ HI.out hat hlen).mono ?_); rintro e w1 ⟨A, c, rfl, hc, hC, hD, hO⟩; refine ⟨_, rfl, ?_⟩; have Hc := am hc; have HC := am hC; have HD := am hD; have HO := am hO; clear hc hC hD hO) | ((with_reducible refine gate_callee (f := 25) rfl ?_); refine gL (some 7) Tryd.func25 #[.slice A (runL ws at_).length c] (h := ?_); (with_reducible refine (stacktext_expanded.calls k A c (runL ws at_) s true _ (Kd.C_below HC.out HD.out.bel) Hc.out H.out).mono ?_); rintro e w2 ⟨rfl, hb⟩; refine ⟨_, rfl, ?_⟩; have HO2 := am (Lib.OthersKept.below HO.out hb); obtain ⟨A0, c0, v, HG, hge, hc0, HCw, HR, HB⟩ := DI.below HD.out hb; have HGx := am HG; have HCx := am HCw; have HRx := am HR; have HBx := am HB; have hX2 : w2.cell? ⟨g, 2, none⟩ = some v := (blk_cell HG 2).trans rfl; obtain ⟨Av, cv, ev⟩ := Kd.R_slice HR; subst ev; clear HG HCw HR HB hb HO HD HC Hc) | ((with_reducible refine gate_builtin (b := .append) (xs := #[.tmp 17, .tmp 18]) rfl ?_); at_builtin; refine print_append_str (w0 := w0) w0.heap.size rfl (.tmp 17) (.tmp 18) 31 9 5 rfl Tryd.underlying31 Tryd.underlying9 info5 (.slice Av out.length cv) out s rfl rfl (Kd.own_of_R HRx.out) HBx.out HBx.out.size hl ?_; intro v1 w3 ho hb hg; have hR3 : Kd.R (Kd.int .u8) 5 w3 w0.heap.size (fun _ => True) v1 (out ++ bytesOf s) := Kd.R_of_own (enc := Value.int .u8) (h1 := fun _ => rfl) ho (fun _ _ => trivial); obtain ⟨A3, c3, hv3⟩ := Kd.R_slice hR3; rw [List.length_append] at hv3; subst hv3; have HD3 := am (DI_put (w0 := w0) (a := w) HGx.out hge hc0 HCx.out HRx.out HO2.out hR3 hb hg); have hG3 := DI_cells HGx.out HRx.out hg; have hc32 : w3.cell? ⟨g, 2, none⟩ = some (.slice Av out.length cv) := (blk_cell hG3 2).trans rfl; have hf32 := blk_frozen hG3 2; clear ho hb hg hR3 hG3))
 refine bodyPost_end (results_none rfl _ _ _) rfl ?_
 exact ⟨rfl, HD3.out.1, HD3.out.2⟩
end Go.Proofs.YtoadabodhdgdjaaDoor.St
