import Derived.Test.YtoadabodhdgdjaaDoorQStY
import Derived.Test.YtoadabodhdgdjaaDoorQS0
namespace Go.Proofs.YtoadabodhdgdjaaDoor.St
open Go.Proofs.YtoadabodhdgdjaaDoor.S0
open Go.RowKit Go.Maps Go.Proofs.YtoadabodhdgdjaaDoorW.PrintWords Go.Proofs.YtoadabodhdgdjaaDoorW.PrintLast Go.Proofs.YtoadabodhdgdjaaDoorW.PrintMore
attribute [local go_sem] Oper.semAt_some max2_int min2_int max_two min_two max_three min_three max_four min_four
set_option linter.unusedVariables false
set_option linter.unusedSimpArgs false
def foldN : List Int → Int → Int
 | [], n => n
 | v :: t, n => foldN t (wrap64 (wrap64 (n * 900) + v))
def byteAt (n : Int) (j : Nat) : Int := IntKind.u8.wrap (n / 2 ^ (8 * (j : Int)).toNat)
def downB (n : Int) : Nat → List Int
 | 0 => []
 | j + 1 => byteAt n j :: downB n j
def chunkN (l : List Int) (i : Nat) : Int := foldN ((l.drop (i * 5)).take 5) 0
def sixJ (l : List Int) (pre : List (Part l.length 5)) : List Int := pre.flatMap fun x => downB (chunkN l x.1) 6
def sixesL (l : List Int) : List Int := (List.range ((l.length + 4) / 5)).flatMap fun i => downB (chunkN l i) 6
theorem sixJ_snoc (l : List Int) (pre : List (Part l.length 5)) (x : Part l.length 5) : sixJ l (pre ++ [x]) = sixJ l pre ++ downB (chunkN l x.1) 6 := by
 simp [sixJ]
theorem downB_len (n : Int) : ∀ j, (downB n j).length = j
 | 0 => rfl
 | j + 1 => by rw [downB, List.length_cons, downB_len n j]
theorem sixJ_len (l : List Int) (pre : List (Part l.length 5)) : (sixJ l pre).length = 6 * pre.length := by
 induction pre with
 | nil => rfl
 | cons x t ih =>
  have : sixJ l (x :: t) = downB (chunkN l x.1) 6 ++ sixJ l t := rfl
  rw [this, List.length_append, downB_len, ih, List.length_cons]
  omega
theorem inOrder_map' {β : Type} {len c : Nat} {pre : List (Part len c)} (h : InOrder len c pre) (f : Nat → List β) : (pre.flatMap fun x => f x.1) = (List.range pre.length).flatMap f := by
 rw [← show pre.map (·.1) = List.range pre.length from h, List.flatMap_map]
theorem DI.putD {w0 W : World} {g at_ D : Nat} {ws out : List Int} {x : Option (List Deferred)} {o' : Obj} (h : DI w0 W g ws at_ out) (hD : W.heap[D]? = some (.deferred x)) (hB : w0.heap.size ≤ D) : DI w0 (W.putObj D o') g ws at_ out := by
 obtain ⟨A0, c0, v, HG, hge, hc0, HC, HR, HBl⟩ := h
 have hne : ∀ (k : Nat) (cs : Array Value) (t : TypeId), W.heap[k]? = some (.cells cs t (0, 0)) → k ≠ D := fun k cs t hk e => by
  subst e
  rw [hk] at hD
  cases hD
 refine ⟨A0, c0, v, (blk_putObj_ne (hne g _ _ HG)).trans HG, hge, hc0, HC, Kd.R_mono (Kd.R_step (Kd.R_bound HR) (fun k hk _ => ?_)) (fun _ _ => trivial), HBl.trans (belowK_b (w := w0) (Nat.le_refl _) _ D _ _ hB hD rfl rfl)⟩
 obtain ⟨_, _, _, q, _, cells, hc⟩ := hk
 exact blk_putObj_ne (hne k _ _ hc)
def SixI (w0 w : World) (g gb g3 g4 : Nat) (ws : List Int) (at_ : Nat) (out l : List Int) (sv : Value) (pre : List (Part l.length 5)) (W : World) : Prop :=
 DI w0 W g ws at_ (out ++ sixJ l pre) ∧ Lib.OthersKept 5 (some g) w W ∧ w.heap.size ≤ W.heap.size ∧ Boxed W gb 49 (.pointer (some ⟨g, 0, none⟩)) ∧ Boxed W g3 22 sv ∧ Boxed W g4 3 (.int .i64 5)
theorem DI.grownC {w0 W W' : World} {g at_ B : Nat} {ws out : List Int} {row : Option Nat} (h : DI w0 W g ws at_ out) (hg : W.grownBy W' row) (hr : ∀ r, row = some r → B ≤ r ∧ ∃ o : Obj, W.heap[r]? = some o ∧ o.isCells = false) (hB : w0.heap.size ≤ B) : DI w0 W' g ws at_ out := by
 obtain ⟨A0, c0, v, HG, hge, hc0, HC, HR, HBl⟩ := h
 have hne : ∀ (k : Nat) (cs : Array Value) (t : TypeId), W.heap[k]? = some (.cells cs t (0, 0)) → some k ≠ row := fun k cs t hk e => by
  obtain ⟨_, o, ho, hc⟩ := hr k e.symm
  rw [hk] at ho
  cases ho
  cases hc
 refine ⟨A0, c0, v, blk_grown HG hg (hne g _ _ HG), hge, hc0, HC, Kd.R_mono (Kd.R_grown (Kd.R_bound HR) hg (fun k hk => ?_)) (fun _ _ => trivial), HBl.grown hg HBl.size (fun k e => Nat.le_trans hB (hr k e).1)⟩
 obtain ⟨_, _, _, q, _, cells, hc⟩ := hk
 exact hne k _ _ hc
theorem sixI_own (w0 w : World) (g gb g3 g4 : Nat) (ws : List Int) (at_ : Nat) (out l : List Int) (sv : Value) (B : Nat) (hB : w.heap.size ≤ B) (hB0 : w0.heap.size ≤ B) : OwnFrom B (SixI w0 w g gb g3 g4 ws at_ out l sv) := by
 intro s W W' row hs hg hr
 obtain ⟨h1, h2, h2s, h3, h4, h5⟩ := hs
 have hr' : ∀ r, row = some r → ∃ o : Obj, W.heap[r]? = some o ∧ o.isCells = false := fun r e => (hr r e).2
 refine ⟨h1.grownC hg hr hB0, fun k o hk hne hc => ?_, Nat.le_trans h2s hg.size, boxed_kept2 h3 hg hr', boxed_kept2 h4 hg hr', boxed_kept2 h5 hg hr'⟩
 have hlt := blk_lt hk
 exact (hg.block k (by omega) (fun e => by have := (hr k e.symm).1; omega)).trans (h2 k o hk hne hc)
theorem others_keeps {W W' : World} {g : Nat} {cs : Array Value} {T : TypeId} (hk : Lib.OthersKept 5 (some g) W W') (hg : W.heap[g]? = some (.cells cs T (0, 0))) (hs : W.heap.size ≤ W'.heap.size) : KeepsOthers W W' :=
 keepsOthers_of (Below.refl _ _) hk hg hs
set_option maxHeartbeats 8000000 in
set_option maxRecDepth 100000 in
theorem sixes_calls (g : Nat) (ws : List Int) (at_ : Nat) (out : List Int) (w0 w : World) (hI : DI w0 w g ws at_ out) (hol : out.length ≤ 1000000) (A : Option Addr) (c : Nat) (l : List Int) (hC : Kd.C (Kd.int .i64) w0 A l.length l) (hc : l.length ≤ c) (hlen : l.length ≤ 1000000) (hall : ∀ i, i * 5 < l.length → chunkN l i < 281474976710656) :
  Calls Tryd.prog 75 #[.pointer (some ⟨g, 0, none⟩), .slice A l.length c] w fun e w' => e = .returned (.tuple #[]) ∧ DI w0 w' g ws at_ (out ++ sixesL l) ∧ Lib.OthersKept 5 (some g) w w' := by
 obtain ⟨ad, had⟩ : ∃ ad : Addr, ∀ a, A = some a → a = ad := by
  cases A with
  | none => exact ⟨⟨0, 0, none⟩, fun a e => by cases e⟩
  | some a => exact ⟨a, fun b e => by cases e; rfl⟩
 have hA : 0 < l.length → ∃ ad, A = some ad := fun hp => by
  obtain ⟨a, e, _⟩ := hC.2.2 hp
  exact ⟨a, e⟩
 have hwg := hI.lt
 have hw0 := hI.bel.size
 refine (callsIn_wide (n := 9)).1 ?_
 refine callsIn_of_wp_marks Tryd.func75 rfl trivial ?_ rfl
 simp only [Tryd.ntmps75, List.size_toArray, List.length_cons, List.length_nil, Nat.reduceAdd, Nat.reduceSub, Array.replicate_succ, Array.replicate_zero, List.push_toArray, List.append_toArray, List.nil_append, List.cons_append]
 gi_wp2_with (refine ⟨trivial, ?_⟩; gi_at_call 45; refine (chunk_in Fence.wide _ trivial rfl A l.length c 5 (by omega) (by omega) _).mono ?_; rintro e w' ⟨rfl, rfl⟩)
 obtain ⟨W0, hW0⟩ : ∃ W0, ((w.alloc (.cells #[.pointer (some ⟨g, 0, none⟩)] 49)).alloc (.cells #[.slice A l.length c] 22)).alloc (.cells #[.int .i64 5] 3) = W0 := ⟨_, rfl⟩
 have HB0 : Below w.heap.size w W0 := by rw [← hW0]; exact below_alloc (below_alloc (below_alloc (Below.refl _ _) _) _) _
 have hsz : W0.heap.size = w.heap.size + 1 + 1 + 1 := by rw [← hW0]; simp
 have BB : Boxed W0 w.heap.size 49 (.pointer (some ⟨g, 0, none⟩)) := by rw [← hW0]; exact ((Boxed.new w _ _).alloc _).alloc _
 have B3 : Boxed W0 (w.heap.size + 1) 22 (.slice A l.length c) := by
  rw [← hW0]
  have := Boxed.new (w.alloc (.cells #[.pointer (some ⟨g, 0, none⟩)] 49)) 22 (.slice A l.length c)
  rw [World.size_alloc] at this
  exact this.alloc _
 have B4 : Boxed W0 (w.heap.size + 1 + 1) 3 (.int .i64 5) := by
  rw [← hW0]
  have := Boxed.new ((w.alloc (.cells #[.pointer (some ⟨g, 0, none⟩)] 49)).alloc (.cells #[.slice A l.length c] 22)) 3 (.int .i64 5)
  rw [World.size_alloc, World.size_alloc] at this
  exact this
 rw [hW0]
 clear hW0
 generalize hgb : w.heap.size = gb at BB B3 B4 hsz HB0 ⊢
 generalize hg3 : gb + 1 = g3 at B3 B4 hsz ⊢
 generalize hg4 : g3 + 1 = g4 at B4 hsz ⊢
 have HI0 : SixI w0 w g gb g3 g4 ws at_ out l (.slice A l.length c) [] W0 :=
  ⟨by rw [show out ++ sixJ l [] = out from List.append_nil _]; exact hI.below (by rw [hgb]; exact HB0), Lib.OthersKept.below (Lib.OthersKept.refl _ _ _) (by rw [hgb]; exact HB0), by omega, BB, B3, B4⟩
 refine wpIn_rangeFunc_ownF rfl (by omega) (gf := 69) (lb := #[.pointer (some ⟨g3, 0, none⟩), .pointer (some ⟨g4, 0, none⟩)]) rfl trivial (enters_of Tryd.func69 (by kernel_rfl) rfl)
  (chunk_stops Fence.wide 8 trivial rfl (by omega) g3 g4 A l.length c 5 (by omega) (by omega) (by omega) hc W0 hA ad had B3 B4) (fun h k => KeepsTwo.trans h k) (KeepsTwo.putObj B3.lt B4.lt) (Below.refl _ _) (fun _ => rfl)
  (SixI w0 w g gb g3 g4 ws at_ out l (.slice A l.length c)) (fun _ _ _ => False) (sixI_own _ _ _ _ _ _ _ _ _ _ _ _ (by omega) (by omega)) (fun c_ => fun s W W' row hs hg hr => hs.elim) HI0
  (fun x => { tmps := #[.pointer (some ⟨g, 0, none⟩), .slice A l.length c, .pointer (some ⟨gb, 0, none⟩), undef, partV ad l.length 5 x.1, undef, undef, undef, undef, .slice A l.length c, .func (.func 69) #[] #[.pointer (some ⟨g3, 0, none⟩), .pointer (some ⟨g4, 0, none⟩)], partV ad l.length 5 x.1, undef, undef, undef, undef, undef, undef, undef, undef, undef, undef, undef, undef, undef, undef, undef, undef, undef, undef, undef, undef, undef, undef, undef, undef, undef, undef, undef, undef, undef, undef, undef, undef], defers := [] }) ?assign ?body ?done ?stop
 case assign =>
  intro l_ x W K hK
  dsimp only [partV] at hK ⊢
  gi_wp2
  exact hK
 case body =>
  rintro l_ pre x W ⟨hD, hO, hS, bb, b3, b4⟩ hpl
  obtain ⟨i, hi⟩ := x
  obtain ⟨hm, hCc⟩ := chunk_reads (Kd.C_below hC hD.bel) hc had 5 i hi (by omega)
  have hlt := hall i hi
  have hn : foldN ((l.drop (i * 5)).take 5) 0 = chunkN l i := rfl
  have hsnoc := sixJ_snoc l pre ⟨i, hi⟩
  have hjl := sixJ_len l pre
  have HD := am hD
  have HO := am hO
  have HC := am hCc
  have HN := am hn
  have HS := am hsnoc
  have bb0 := bb.cell
  dsimp only [partV]
  rw [hm]
  have hcl : ((l.drop (i * 5)).take 5).length ≤ l.length := by rw [← hm]; omega
  clear hD hO hCc hn hsnoc hm
  generalize (l.drop (i * 5)).take 5 = ch at HC HN hcl ⊢
  generalize ad.add (i * 5) = av at HC ⊢
  obtain ⟨n5, hn5⟩ : ∃ n5, chunkN l i = n5 := ⟨_, rfl⟩
  rw [hn5] at HN hlt
  have HS2 := am (show sixJ l (pre ++ [⟨i, hi⟩]) = sixJ l pre ++ downB n5 6 by rw [HS.out, hn5])
  clear HS hn5
  gi_wp2
  gi_loopg [5, 14] ch.length (fun gg v5 v14 wr => ∃ (j : Nat) (n : Int), v5 = .int .i64 n ∧ v14 = .int .i64 j ∧ j ≤ ch.length ∧ ch.length - j ≤ gg ∧ W = wr ∧ Aside0 (foldN (ch.drop j) n = n5))
  case atStart => exact ⟨0, 0, rfl, rfl, by omega, by omega, rfl, HN⟩
  case round =>
   clear HN
   obtain ⟨j, n, rfl, rfl, hj, hgj, rfl, HN⟩ := hrel
   by_cases hjl2 : j < ch.length
   ·have hjz : (j : Int) < (ch.length : Int) := by omega
    obtain ⟨ad2, ea, hx⟩ := Kd.at_int HC.out (j : Int) (by omega) (by omega)
    cases ea
    rw [Int.toNat_natCast] at hx
    have hN := HN.out
    have hstep : ch.drop j = rd ch (j : Int) :: ch.drop (j + 1) := by
     rw [List.drop_eq_getElem_cons hjl2]
     simp [rd, List.getD_eq_getElem?_getD, hjl2]
    rw [hstep] at hN
    have HN2 := am (show foldN (ch.drop (j + 1)) (wrap64 (wrap64 (n * 900) + rd ch (j : Int))) = n5 from hN)
    clear hN HN hstep
    gi_wp2
    go_roundg (ch.length - (j + 1))
    case measure => omega
    case rel => exact ⟨j + 1, _, rfl, by go_num, by omega, by omega, rfl, HN2⟩
   ·have hje : j = ch.length := by omega
    have hN := HN.out
    rw [hje, List.drop_length] at hN
    have hnn : n5 = n := hN.symm
    subst hnn
    clear hN HN
    have hq : decide (281474976710656 ≤ n5) = false := decide_eq_false (by omega)
    have hjz : ¬ (j : Int) < (ch.length : Int) := by omega
    gi_wp2
    clear hq hjz hje hjl2 hgj hj
    have hjl3 : (out ++ sixJ l pre).length + 6 ≤ 20000000 := by
     rw [List.length_append, hjl]
     omega
    gi_loopg [8] 6 (fun gg v8 wr => ∃ (j : Nat) (z : Int) (out1 : List Int), v8 = .int .i64 z ∧ z = (j : Int) - 1 ∧ j ≤ 6 ∧ j ≤ gg ∧ out1.length + j ≤ 20000000 ∧ Aside0 (out1 ++ downB n5 j = out ++ sixJ l (pre ++ [⟨i, hi⟩])) ∧ Aside0 (DI w0 wr g ws at_ out1) ∧ Aside0 (Lib.OthersKept 5 (some g) w wr) ∧ Aside0 (Lib.OthersKept 5 (some g) W wr) ∧ W.heap.size ≤ wr.heap.size)
    case atStart => exact ⟨6, 5, out ++ sixJ l pre, rfl, rfl, Nat.le_refl _, Nat.le_refl _, hjl3, ⟨by rw [HS2.out, List.append_assoc]⟩, HD, HO, ⟨Lib.OthersKept.refl _ _ _⟩, Nat.le_refl _⟩
    case round =>
     have hDW := am HD.out
     clear HD HO HS2 hjl3 bb0
     obtain ⟨j, z, out1, rfl, hz, hj6, hjg, hlo, HQ, HD1, HO1, HOW, hsz1⟩ := hrel
     rename World => W5
     have bb5 := boxed_others HOW.out bb (by omega) (by decide)
     cases j with
     | zero =>
      have hz0 : decide (0 ≤ z) = false := decide_eq_false (by omega)
      have hQ := HQ.out
      rw [show downB n5 0 = [] from rfl, List.append_nil] at hQ
      have HQ2 := am hQ
      clear hQ HQ
      gi_wp2
      obtain ⟨A0, c0, v, HG, _⟩ := hDW.out
      have b35 := boxed_others HOW.out b3 (by omega) (by decide)
      have b45 := boxed_others HOW.out b4 (by omega) (by decide)
      exact ⟨others_keeps HOW.out HG hsz1, ⟨fun _ => b35, fun _ => b45⟩, by rw [← HQ2.out]; exact HD1.out, HO1.out, Nat.le_trans hS hsz1, bb5, b35, b45⟩
     | succ j =>
      have hz1 : z = (j : Int) := by omega
      clear hz
      subst hz1
      have hz0 : decide (0 ≤ (j : Int)) = true := decide_eq_true (by omega)
      obtain ⟨A0, c0, v, HG, hge, hc0, HCw, HR, HB⟩ := HD1.out
      obtain ⟨Av, cv, ev⟩ := Kd.R_slice HR
      subst ev
      have hX0 : W5.drew.cell? ⟨gb, 0, none⟩ = some (.pointer (some ⟨g, 0, none⟩)) := bb5.cell
      have hX2 : W5.drew.cell? ⟨g, 2, none⟩ = some (.slice Av out1.length cv) := (blk_cell HG 2).trans rfl
      have HGx := am (show W5.drew.heap[g]? = _ from HG)
      have HCx := am HCw
      have HRx : Aside0 (Kd.R (Kd.int .u8) 5 W5.drew w0.heap.size (fun _ => True) (.slice Av out1.length cv) out1) := ⟨HR⟩
      have HBx := am (below_drew1 HB)
      have HOx := am (show Lib.OthersKept 5 (some g) w W5.drew from HO1.out)
      have BBx := am bb5
      have HOWx := am (show Lib.OthersKept 5 (some g) W W5.drew from HOW.out)
      have hRb : (out1.length + 1) * 1 ≤ 140737488355328 := by omega
      clear HG HCw HR HB HD1 bb5
      gi_wp2
      have hw8 : IntKind.i64.wrap (8 * (j : Int)) = 8 * (j : Int) := by
       rw [i64_w]
       unfold wrap64
       omega
      refine startR_ (n := 15) (S := fun w' => w'.cell? ⟨gb, 0, none⟩ = some (.pointer (some ⟨g, 0, none⟩)) ∧ w'.cell? ⟨g, 2, none⟩ = some (.slice Av out1.length cv)) (ds := [14]) (bs 15 0) (by kernel_rfl) rfl rfl (by kernel_rfl) (by rintro ⟨a_, w_, h_⟩; exact h_) ⟨hX0, hX2⟩ (fun hHeld => ?_)
      refine pS 5 (some 35) (bs 15 32) (h := ?_)
      refine pS 6 (some 36) (bs 15 96) (h := ?_)
      refine pS 7 (some 37) (bs 15 224) (h := ?_)
      refine pS 8 (some 38) (bs 15 480) (h := ?_)
      refine pS 9 (some 39) (bs 15 992) (h := ?_)
      refine tS 0 (some 30) (bs 15 993) hHeld (h := ?_)
      refine tS 1 (some 31) (bs 15 995) hHeld (h := ?_)
      refine pS 2 (some 32) (bs 15 999) (h := ?_)
      refine pS 3 (some 33) (bs 15 1007) (h := ?_)
      refine tS 4 (some 34) (bs 15 1023) hHeld (h := ?_)
      refine one_ (i := 10) (N := some 40) (bs 15 2047) rfl rfl (by kernel_rfl) (by decide) (fun K hK => ?_)
      refine value_ (w1 := ?_) (v := ?_) (by rfl) rfl ?_ ?_
      rotate_left 2
      ·go_simp
       constructor
       ·rfl
       ·rfl
      refine hK.out _ _ ⟨cellAl5 hX0 _, cellAl5 hX2 _⟩ (fun hHeld => ?_)
      clear hK K
      refine norm_ (a' := ?_) ?_ ?_
      rotate_left
      ·show Act.put _ (some 40) _ = _
       simp only [Act.put, List.setIfInBounds_toArray, List.set_cons_zero, List.set_cons_succ, i64_w, i32_w]
       rfl
      refine one_ (i := 11) (N := some 41) (bs 15 4095) rfl rfl (by kernel_rfl) (by decide) (fun K hK => ?_)
      refine Kd.R_append_step (Kd.int .u8) (W := W5.drew) (w0 := w0) w0.heap.size (by rfl) (.tmp 34) (.tmp 40) 31 5 (.int .u8 0) 1 rfl Tryd.underlying31 info5 rfl (by decide) (by omega) (.slice Av out1.length cv) out1 (byteAt n5 j) [.int .u8 (byteAt n5 j)] (fun _ => True) (fun _ => False) rfl rfl rfl (fun _ hk => hk.elim) (fun _ _ => trivial) HRx.out HBx.out HBx.out.size hRb ?_
      intro v1 w3 ho hb hg hat
      obtain ⟨A3, c3, hv3⟩ := Kd.R_slice ho
      rw [List.length_append, List.length_singleton] at hv3
      subst hv3
      have HD3 := am (DI_put (w0 := w0) (a := w) HGx.out hge hc0 HCx.out HRx.out HOx.out ho hb hg)
      have HD3W := am (DI_put (w0 := w0) (a := W) HGx.out hge hc0 HCx.out HRx.out HOWx.out ho hb hg).2
      have hG3 := DI_cells HGx.out HRx.out hg
      have HG3 := am hg
      have hc32 : w3.cell? ⟨g, 2, none⟩ = some (.slice Av out1.length cv) := (blk_cell hG3 2).trans rfl
      have hf32 := blk_frozen hG3 2
      have hcb3 : w3.cell? ⟨gb, 0, none⟩ = some (.pointer (some ⟨g, 0, none⟩)) := (blk_cell (blk_grown (show W5.drew.heap[gb]? = _ from BBx.out) hg (box_ne HRx.out (show W5.drew.heap[gb]? = _ from BBx.out) (by decide))) 0).trans rfl
      clear ho hb hg hat hG3
      refine hK.out _ _ ⟨hcb3, hc32⟩ (fun hHeld => ?_)
      clear hK K
      refine norm_ (a' := ?_) ?_ ?_
      rotate_left
      ·show Act.put _ (some 41) _ = _
       simp only [Act.put, List.setIfInBounds_toArray, List.set_cons_zero, List.set_cons_succ, i64_w, i32_w]
       rfl
      refine pS 12 (some 42) (bs 15 8191) (h := ?_)
      refine pS 13 (some 43) (bs 15 16383) (h := ?_)
      refine last_ (i := 14) (N := none) (bs 15 32767) rfl rfl (by kernel_rfl) (by decide) (fun K hK => ?_)
      refine skip_ (w1 := ?_) (by rfl) rfl ?_ ?_
      rotate_left
      ·go_simp
       rfl
      refine hK.out _ _ ?_
      clear hK K
      refine done_ (by kernel_rfl) ?_
      gi_wp2
      go_roundg j
      case measure => omega
      case rel =>
       exact ⟨j, (j : Int) - 1, out1 ++ [byteAt n5 j], by go_num, rfl, by omega, Nat.le_refl _, by rw [List.length_append, List.length_singleton]; omega, ⟨by rw [← HQ.out, List.append_assoc]; rfl⟩, ⟨HD3.out.1⟩, ⟨HD3.out.2⟩, ⟨HD3W.out⟩, Nat.le_trans hsz1 (Nat.le_trans HG3.out.size (by simp [World.setCell]))⟩
 case done =>
  rintro D ys W hD ⟨hio, hcov⟩ ⟨hDI, hO, hS, bb, b3, b4⟩ hK
  have hyl : ys.length = (l.length + 4) / 5 := by
   have h1 : (l.length + 4) / 5 ≤ ys.length := by omega
   have h2 : ys.length ≤ (l.length + 4) / 5 := by
    cases hn : ys.length with
    | zero => exact Nat.zero_le _
    | succ n =>
     have hx : n ∈ ys.map (·.1) := by rw [hio, hn]; simp
     obtain ⟨⟨i, hi⟩, _, e⟩ := List.mem_map.1 hx
     simp only at e
     omega
   omega
  have hjoin : sixJ l ys = sixesL l := by
   unfold sixesL sixJ
   rw [← hyl]
   exact inOrder_map' hio (fun i => downB (chunkN l i) 6)
  have hDI2 : DI w0 W g ws at_ (out ++ sixesL l) := by rw [← hjoin]; exact hDI
  have hDg : g4 + 1 ≤ D := by omega
  refine ⟨by simp, .inl ⟨_, _, rfl, run_takeDeferred hK, ?_⟩⟩
  refine ⟨_, results_none rfl _ _ _, rfl, DI.putD hDI2 hK (by omega), fun k o hk hne hc_ => ?_⟩
  exact (blk_putObj_ne (by have := blk_lt hk; omega)).trans (hO k o hk hne hc_)
 case stop =>
  rintro D c_ pre W hD hio hf hK
  exact hf.elim
end Go.Proofs.YtoadabodhdgdjaaDoor.St
