import Derived.Test.YtoadabodhdgdjaaDoorQStJ
import Derived.Test.YtoadabodhdgdjaaDoorQS0
namespace Go.Proofs.YtoadabodhdgdjaaDoor.St
open Go.Proofs.YtoadabodhdgdjaaDoor.S0
open Go.RowKit Go.Shelf Go.Proofs.YtoadabodhdgdjaaDoorW.PrintWords Go.Proofs.YtoadabodhdgdjaaDoorW.PrintLast Go.Proofs.YtoadabodhdgdjaaDoorW.PrintMore Go.Proofs.YtoadabodhdgdjaaDoor.SG Go.Proofs.YtoadabodhdgdjaaDoor.SH Go.Proofs.YtoadabodhdgdjaaDoor.SB
set_option linter.unusedVariables false
set_option linter.unusedSimpArgs false
attribute [local go_sem] Oper.semAt_some
def oneStr (k : Nat) (l : List Int) : Option ByteArray := (bigint_FromDigits.f k l 900).bind fun x => bigint_Format.f k x.1 x.2.1
def expGo (k : Nat) : Nat → List Int → Option (List ByteArray)
 | 0, _ => some []
 | n + 1, l => (oneStr k (l.take 15)).bind fun s => (expGo k n (l.drop 15)).bind fun t => some (s :: t)
def joinT (ss : List ByteArray) : List UInt8 := ss.flatMap fun s => s.data.toList.drop 1
def goodStr (s : ByteArray) : Bool := decide (0 < s.size) && decide (s.size ≤ 4096)
def stacktext_expanded.f (k : Nat) (l : List Int) : Option (ByteArray × Bool) :=
 if l.length ≤ 8192 then (expGo k ((l.length + 14) / 15) l).bind fun ss =>
  if ss.all goodStr = true then
   if ss.any (fun s => bt s 0 != 49) = true then some (⟨#[]⟩, false)
   else (stacktext_compacted.f k ⟨(joinT ss).toArray⟩).bind fun w2 => (slices_Equal_int_int.f k w2 l).bind fun b => some (⟨(joinT ss).toArray⟩, b)
  else none
 else none
theorem expGo_at (k : Nat) : ∀ (n : Nat) (l : List Int) (ss : List ByteArray), expGo k n l = some ss → ss.length = n ∧ ∀ i, i < n → oneStr k ((l.drop (i * 15)).take 15) = some (ss.getD i ⟨#[]⟩)
 | 0, l, ss, h => by
  obtain rfl := Option.some.inj h
  exact ⟨rfl, fun i hi => absurd hi (Nat.not_lt_zero _)⟩
 | n + 1, l, ss, h => by
  obtain ⟨s, h1, h⟩ := Option.bind_eq_some_iff.1 h
  obtain ⟨t, h2, h⟩ := Option.bind_eq_some_iff.1 h
  obtain rfl := Option.some.inj h
  obtain ⟨hl, ht⟩ := expGo_at k n _ t h2
  refine ⟨by simp [hl], fun i hi => ?_⟩
  cases i with
  | zero => simpa using h1
  | succ i =>
   have := ht i (by omega)
   rw [List.drop_drop] at this
   rw [Nat.succ_mul, Nat.add_comm (i * 15) 15]
   simpa using this
def joinS (ss : List ByteArray) (len : Nat) (pre : List (Part len 15)) : List UInt8 := pre.flatMap fun x => (ss.getD x.1 ⟨#[]⟩).data.toList.drop 1
theorem joinS_snoc (ss : List ByteArray) (len : Nat) (pre : List (Part len 15)) (x : Part len 15) : joinS ss len (pre ++ [x]) = joinS ss len pre ++ (ss.getD x.1 ⟨#[]⟩).data.toList.drop 1 := by
 simp [joinS]
theorem inOrder_map {len : Nat} {pre : List (Part len 15)} (h : InOrder len 15 pre) (f : Nat → List UInt8) : (pre.flatMap fun x => f x.1) = (List.range pre.length).flatMap f := by
 rw [← h, List.flatMap_map]
theorem flatMap_range_getD (ss : List ByteArray) : (List.range ss.length).flatMap (fun i => (ss.getD i ⟨#[]⟩).data.toList.drop 1) = joinT ss := by
 unfold joinT
 induction ss with
 | nil => rfl
 | cons s t ih =>
  rw [List.length_cons, List.range_succ_eq_map, List.flatMap_cons, List.flatMap_map, List.flatMap_cons, ← ih]
  rfl
theorem builder_own {T e : TypeId} {B b : Nat} {bs : List Value} {W W' : World} {row : Option Nat} (h : Lib.IsBuilderF T e B b bs W) (hg : W.grownBy W' row) (hrow : ∀ r, row = some r → ∃ o : Obj, W.heap[r]? = some o ∧ o.isCells = false) : Lib.IsBuilderF T e B b bs W' := by
 have hk : ∀ (k : Nat) (o : Obj), W.heap[k]? = some o → o.isCells = true → W'.heap[k]? = some o := fun k o ho hc => (grownBy_keeps_cells hg hrow ho hc).trans ho
 have one : ∀ p, Lib.BuilderAtF T e B b p bs W → Lib.BuilderAtF T e B b p bs W' := by
  rintro p ⟨hB, v, hb, ⟨hl, hown⟩, hne⟩
  refine ⟨hB, v, hk b _ hb rfl, ⟨hl, ?_⟩, hne⟩
  rcases hown with hn | ⟨g, cap, cur, fz, hv, hge, hh, r⟩
  ·exact .inl hn
  ·exact .inr ⟨g, cap, cur, fz, hv, hge, hk g _ hh rfl, r⟩
 exact h.elim (fun x => .inl (one _ x)) (fun x => .inr (one _ x))
theorem chunk_reads {w : World} {A0 : Option Addr} {ad : Addr} {c0 : Nat} {l0 : List Int} (hr0 : Kd.C (Kd.int .i64) w A0 l0.length l0) (hc0 : l0.length ≤ c0) (had : ∀ a, A0 = some a → a = ad) (c i : Nat) (hi : i * c < l0.length) (hc : 1 ≤ c) :
  min c (l0.length - i * c) = ((l0.drop (i * c)).take c).length ∧ Kd.C (Kd.int .i64) w (some (ad.add (i * c))) ((l0.drop (i * c)).take c).length ((l0.drop (i * c)).take c) := by
 have hl : min c (l0.length - i * c) = ((l0.drop (i * c)).take c).length := by rw [List.length_take, List.length_drop]
 refine ⟨hl, ?_⟩
 obtain ⟨a, ha, _⟩ := hr0.2.2 (by omega)
 obtain rfl := had a ha
 subst ha
 have h := Kd.C_mid (lo := i * c) (hi := i * c + min c (l0.length - i * c)) hr0 (by omega) (by omega) hc0
 rw [if_neg (by omega)] at h
 have e : ((l0.take (i * c + min c (l0.length - i * c))).drop (i * c)) = (l0.drop (i * c)).take c := by
  rw [List.drop_take, Nat.add_sub_cancel_left]
  by_cases hle : c ≤ l0.length - i * c
  ·rw [Nat.min_eq_left hle]
  ·rw [Nat.min_eq_right (by omega), List.take_of_length_le (by rw [List.length_drop]; exact Nat.le_refl _), List.take_of_length_le (by rw [List.length_drop]; omega)]
 rw [e, show i * c * (Kd.int IntKind.i64).sz = i * c from Nat.mul_one _] at h
 exact h
theorem strCells_tail (s : ByteArray) : Lib.strCells (s.extract 1 s.size) = Lib.byteCells (s.data.toList.drop 1) := by
 rw [Lib.strCells_eq]
 congr 1
 simp
 apply List.take_of_length_le
 simp
theorem keepsOthers_of {W W3 W4 : World} {g : Nat} {e T : TypeId} {cs : Array Value} (hb : Below W.heap.size W W3) (hk : Lib.OthersKept e (some g) W3 W4) (hg : W3.heap[g]? = some (.cells cs T (0, 0))) (hs : W3.heap.size ≤ W4.heap.size) : KeepsOthers W W4 :=
 ⟨Nat.le_trans hb.size hs, fun k o hk1 ho => by
  have h3 : W3.heap[k]? = some o := (hb.block k (Array.getElem?_eq_some_iff.1 hk1).1).trans hk1
  refine hk k o h3 (fun e1 => ?_) (fun c fz e1 => ?_)
  ·have e2 := Option.some.inj e1
   subst e2
   rw [hg] at h3
   cases h3
   cases ho
  ·subst e1
   cases ho⟩
theorem boxed_others {W3 W4 : World} {g B : Nat} {e t : TypeId} {v : Value} (hk : Lib.OthersKept e (some g) W3 W4) (h : Boxed W3 B t v) (hne : B ≠ g) (hte : t ≠ e) : Boxed W4 B t v :=
 hk B _ h (fun e1 => hne (Option.some.inj e1)) (fun c fz e1 => by cases e1; exact hte rfl)
theorem run_loadVar_cell {P : Program} (w : World) (g : Nat) (t : TypeId) (v : Value) (hz : (isAgg t).run P w = .ok false w) (hc : w.cell? ⟨g, 0, none⟩ = some v) : (loadVar t ⟨g, 0, none⟩).run P w = .ok v w := by
 simp [loadVar, Sem.run_bind, hz, Result.andThen, hc]
theorem results_two_cells {P : Program} {fn : Func} {p q : Tmp} {t1 t2 : TypeId} (h : fn.results = #[.cell p t1, .cell q t2]) {tmps : Array Value} {W : World} {g1 g2 : Nat} {v1 v2 : Value}
  (hp : tmps.getD p undef = .pointer (some ⟨g1, 0, none⟩)) (hq : tmps.getD q undef = .pointer (some ⟨g2, 0, none⟩)) (h1 : (isAgg t1).run P W = .ok false W) (h2 : (isAgg t2).run P W = .ok false W)
  (c1 : W.cell? ⟨g1, 0, none⟩ = some v1) (c2 : W.cell? ⟨g2, 0, none⟩ = some v2) : (results fn tmps).run P W = .ok (.tuple #[v1, v2]) W := by
 unfold results
 rw [h]
 have hp' : tmps[p]?.getD undef = .pointer (some ⟨g1, 0, none⟩) := by simpa using hp
 have hq' : tmps[q]?.getD undef = .pointer (some ⟨g2, 0, none⟩) := by simpa using hq
 simp [Sem.run_bind, Result.andThen, hp', hq', asAddr, run_loadVar_cell W g1 t1 v1 h1 c1, run_loadVar_cell W g2 t2 v2 h2 c2]
theorem blk_putObj_ne {W : World} {D k : Nat} {o : Obj} (h : k ≠ D) : (W.putObj D o).heap[k]? = W.heap[k]? := World.putObj_heap_other h
def ExpI (ss : List ByteArray) (len : Nat) (sv : Value) (w : World) (g0 g1 g2 g3 g4 : Nat) (pre : List (Part len 15)) (W : World) : Prop :=
 ((∀ x ∈ pre, bt (ss.getD x.1 ⟨#[]⟩) 0 = 49) ∧ (joinS ss len pre).length ≤ 4096 * pre.length) ∧
 (Lib.IsBuilderF 84 5 w.heap.size g2 (Lib.byteCells (joinS ss len pre)) W ∧ Boxed W g0 9 (.string ⟨#[]⟩) ∧ Boxed W g1 4 (.bool false) ∧ Boxed W g3 22 sv ∧ Boxed W g4 3 (.int .i64 15)) ∧ Below w.heap.size w W
def ExpX (ss : List ByteArray) (len : Nat) (w : World) (g0 g1 : Nat) (c : Code) (pre : List (Part len 15)) (W : World) : Prop :=
 (c = .ret ∧ ∃ x ∈ pre, bt (ss.getD x.1 ⟨#[]⟩) 0 ≠ 49) ∧ (Boxed W g0 9 (.string ⟨#[]⟩) ∧ Boxed W g1 4 (.bool false)) ∧ Below w.heap.size w W
theorem boxed_kept2 {W W' : World} {row : Option Nat} {B : Nat} {t : TypeId} {v : Value} (h : Boxed W B t v) (hg : W.grownBy W' row) (hr : ∀ r, row = some r → ∃ o : Obj, W.heap[r]? = some o ∧ o.isCells = false) : Boxed W' B t v :=
 h.kept hg (fun e' => by obtain ⟨o, ho, hc⟩ := hr B e'.symm; rw [show W.heap[B]? = _ from h] at ho; cases ho; cases hc)
theorem expI_own (ss : List ByteArray) (len : Nat) (sv : Value) (w : World) (g0 g1 g2 g3 g4 : Nat) (B : Nat) (hB : w.heap.size ≤ B) : OwnFrom B (ExpI ss len sv w g0 g1 g2 g3 g4) := by
 intro s W W' row hs hg hr
 obtain ⟨h1, ⟨h2, h3, h4, h5, h6⟩, h7⟩ := hs
 have hr' : ∀ r, row = some r → ∃ o : Obj, W.heap[r]? = some o ∧ o.isCells = false := fun r e => (hr r e).2
 exact ⟨h1, ⟨builder_own h2 hg hr', boxed_kept2 h3 hg hr', boxed_kept2 h4 hg hr', boxed_kept2 h5 hg hr', boxed_kept2 h6 hg hr'⟩, h7.grown hg h7.size (fun k e => Nat.le_trans hB (hr k e).1)⟩
theorem expX_own (ss : List ByteArray) (len : Nat) (w : World) (g0 g1 : Nat) (B : Nat) (hB : w.heap.size ≤ B) (c : Code) : OwnFrom B (ExpX ss len w g0 g1 c) := by
 intro s W W' row hs hg hr
 obtain ⟨h1, ⟨h3, h4⟩, h7⟩ := hs
 have hr' : ∀ r, row = some r → ∃ o : Obj, W.heap[r]? = some o ∧ o.isCells = false := fun r e => (hr r e).2
 exact ⟨h1, ⟨boxed_kept2 h3 hg hr', boxed_kept2 h4 hg hr'⟩, h7.grown hg h7.size (fun k e => Nat.le_trans hB (hr k e).1)⟩
set_option maxHeartbeats 8000000 in
set_option maxRecDepth 100000 in
theorem stacktext_expanded.calls (k : Nat) (A0 : Option Addr) (c0 : Nat) (l0 : List Int) (r1 : ByteArray) (r2 : Bool) (w : World) (hr0 : Kd.C (Kd.int .i64) w A0 l0.length l0) (hc0 : l0.length ≤ c0) (h : stacktext_expanded.f k l0 = some (r1, r2)) :
  Calls Tryd.prog 25 #[.slice A0 l0.length c0] w fun e w' => e = .returned (.tuple #[.string r1, .bool r2]) ∧ Below w.heap.size w w' := by
 unfold stacktext_expanded.f at h
 by_cases hlen : l0.length ≤ 8192
 ·rw [if_pos hlen] at h
  obtain ⟨ss, hss, h⟩ := Option.bind_eq_some_iff.1 h
  by_cases hgood : ss.all goodStr = true
  ·rw [if_pos hgood] at h
   obtain ⟨ad, had⟩ : ∃ ad : Addr, ∀ a, A0 = some a → a = ad := by
    cases A0 with
    | none => exact ⟨⟨0, 0, none⟩, fun a e => by cases e⟩
    | some a => exact ⟨a, fun b e => by cases e; rfl⟩
   have hA : 0 < l0.length → ∃ ad, A0 = some ad := fun hp => by
    obtain ⟨a, e, _⟩ := hr0.2.2 hp
    exact ⟨a, e⟩
   refine (callsIn_wide (n := 9)).1 ?_
   refine callsIn_of_wp_marks Tryd.func25 rfl trivial ?_ rfl
   simp only [Tryd.ntmps25, List.size_toArray, List.length_cons, List.length_nil, Nat.reduceAdd, Nat.reduceSub, Array.replicate_succ, Array.replicate_zero, List.push_toArray, List.append_toArray, List.nil_append, List.cons_append]
   gi_wp2_with (refine ⟨trivial, ?_⟩; gi_at_call 45; refine (chunk_in Fence.wide _ trivial rfl A0 l0.length c0 15 (by omega) (by omega) _).mono ?_; rintro e w' ⟨rfl, rfl⟩)
   obtain ⟨W0, hW0⟩ : ∃ W0, (((((w.alloc (.cells #[.string ⟨#[]⟩] 9)).alloc (.cells #[.bool false] 4)).alloc (.cells #[.pointer none, .slice none 0 0] 84)).alloc (.cells #[.slice A0 l0.length c0] 22)).alloc (.cells #[.int .i64 15] 3)) = W0 := ⟨_, rfl⟩
   have HB0 : Below w.heap.size w W0 := by rw [← hW0]; exact below_alloc (below_alloc (below_alloc (below_alloc (below_alloc (Below.refl _ _) _) _) _) _) _
   have hsz : W0.heap.size = w.heap.size + 1 + 1 + 1 + 1 + 1 := by rw [← hW0]; simp
   have B0 : Boxed W0 w.heap.size 9 (.string ⟨#[]⟩) := by rw [← hW0]; exact ((((Boxed.new w _ _).alloc _).alloc _).alloc _).alloc _
   have B1 : Boxed W0 (w.heap.size + 1) 4 (.bool false) := by
    rw [← hW0]
    have := Boxed.new (w.alloc (.cells #[.string ⟨#[]⟩] 9)) 4 (.bool false)
    rw [World.size_alloc] at this
    exact ((this.alloc _).alloc _).alloc _
   have B2 : W0.heap[w.heap.size + 1 + 1]? = some (.cells #[.pointer none, .slice none 0 0] 84 (0, 0)) := by
    rw [← hW0]
    have := World.alloc_heap_new ((w.alloc (.cells #[.string ⟨#[]⟩] 9)).alloc (.cells #[.bool false] 4)) (.cells #[.pointer none, .slice none 0 0] 84 (0, 0))
    rw [World.size_alloc, World.size_alloc] at this
    exact blk_alloc (blk_alloc this _) _
   have B3 : Boxed W0 (w.heap.size + 1 + 1 + 1) 22 (.slice A0 l0.length c0) := by
    rw [← hW0]
    have := Boxed.new (((w.alloc (.cells #[.string ⟨#[]⟩] 9)).alloc (.cells #[.bool false] 4)).alloc (.cells #[.pointer none, .slice none 0 0] 84)) 22 (.slice A0 l0.length c0)
    rw [World.size_alloc, World.size_alloc, World.size_alloc] at this
    exact this.alloc _
   have B4 : Boxed W0 (w.heap.size + 1 + 1 + 1 + 1) 3 (.int .i64 15) := by
    rw [← hW0]
    have := Boxed.new ((((w.alloc (.cells #[.string ⟨#[]⟩] 9)).alloc (.cells #[.bool false] 4)).alloc (.cells #[.pointer none, .slice none 0 0] 84)).alloc (.cells #[.slice A0 l0.length c0] 22)) 3 (.int .i64 15)
    rw [World.size_alloc, World.size_alloc, World.size_alloc, World.size_alloc] at this
    exact this
   rw [hW0]
   clear hW0
   have hg0 : w.heap.size ≤ w.heap.size := Nat.le_refl _
   generalize hg1 : w.heap.size + 1 = g1 at B1 B2 B3 B4 hsz ⊢
   generalize hg2 : g1 + 1 = g2 at B2 B3 B4 hsz ⊢
   generalize hg3 : g2 + 1 = g3 at B3 B4 hsz ⊢
   generalize hg4 : g3 + 1 = g4 at B4 hsz ⊢
   have HI0 : ExpI ss l0.length (.slice A0 l0.length c0) w w.heap.size g1 g2 g3 g4 [] W0 :=
    ⟨⟨fun x hx => absurd hx (by simp), by simp [joinS]⟩, ⟨.inl ⟨by omega, .slice none 0 0, B2, ⟨rfl, .inl ⟨rfl, rfl⟩⟩, by simp [Value.ownBlock]⟩, B0, B1, B3, B4⟩, HB0⟩
   refine wpIn_rangeFunc_ownF rfl (by omega) (gf := 69) (lb := #[.pointer (some ⟨g3, 0, none⟩), .pointer (some ⟨g4, 0, none⟩)]) rfl trivial (enters_of Tryd.func69 (by kernel_rfl) rfl)
    (chunk_stops Fence.wide 8 trivial rfl (by omega) g3 g4 A0 l0.length c0 15 (by omega) (by omega) (by omega) hc0 W0 hA ad had B3 B4) (fun h k => KeepsTwo.trans h k) (KeepsTwo.putObj B3.lt B4.lt) (Below.refl _ _) (fun _ => rfl)
    (ExpI ss l0.length (.slice A0 l0.length c0) w w.heap.size g1 g2 g3 g4) (ExpX ss l0.length w w.heap.size g1) (expI_own _ _ _ _ _ _ _ _ _ _ HB0.size) (expX_own _ _ _ _ _ _ HB0.size) HI0
    (fun x => { tmps := #[.slice A0 l0.length c0, undef, .pointer (some ⟨w.heap.size, 0, none⟩), .pointer (some ⟨g1, 0, none⟩), .pointer (some ⟨g2, 0, none⟩), partV ad l0.length 15 x.1, undef, undef, undef, .slice A0 l0.length c0, .func (.func 69) #[] #[.pointer (some ⟨g3, 0, none⟩), .pointer (some ⟨g4, 0, none⟩)], partV ad l0.length 15 x.1, undef, undef, undef, undef, undef, undef, undef, undef, undef, undef, undef, undef, undef, undef, undef, undef, undef, undef], defers := [] }) ?assign ?body ?done ?stop
   case assign =>
    intro l x W K hK
    dsimp only [partV] at hK ⊢
    gi_wp2
    exact hK
   case body =>
    rintro l pre x W ⟨⟨hpre, hjl⟩, ⟨hI, b0, b1, b3, b4⟩, hBW⟩ hpl
    obtain ⟨i, hi⟩ := x
    obtain ⟨hm, hC⟩ := chunk_reads hr0 hc0 had 15 i hi (by omega)
    obtain ⟨hsl, hone⟩ := expGo_at k _ _ _ hss
    have hin : i < (l0.length + 14) / 15 := by omega
    obtain ⟨⟨q1, q2, q3⟩, hfd, hfm⟩ := Option.bind_eq_some_iff.1 (hone i hin)
    have hgs : goodStr (ss.getD i ⟨#[]⟩) = true := by
     have hlt : i < ss.length := by omega
     have := List.all_eq_true.1 hgood ss[i] (List.getElem_mem hlt)
     rwa [show ss.getD i ⟨#[]⟩ = ss[i] from by simp [hlt]]
    simp only [goodStr, Bool.and_eq_true, decide_eq_true_eq] at hgs
    have hsnoc := joinS_snoc ss l0.length pre ⟨i, hi⟩
    have hmem : (⟨i, hi⟩ : Part l0.length 15) ∈ pre ++ [⟨i, hi⟩] := by simp
    have hall : bt (ss.getD i ⟨#[]⟩) 0 = 49 → ∀ x ∈ pre ++ [(⟨i, hi⟩ : Part l0.length 15)], bt (ss.getD x.1 ⟨#[]⟩) 0 = 49 := fun h0 x hx => by
     rcases List.mem_append.1 hx with hx | hx
     ·exact hpre x hx
     ·rw [List.mem_singleton.1 hx]; exact h0
    have hbad : bt (ss.getD i ⟨#[]⟩) 0 ≠ 49 → ∃ x ∈ pre ++ [(⟨i, hi⟩ : Part l0.length 15)], bt (ss.getD x.1 ⟨#[]⟩) 0 ≠ 49 := fun h0 => ⟨_, hmem, h0⟩
    have Hfd := am hfd
    have Hfm := am (show bigint_Format.f k q1 q2 = some (ss.getD i ⟨#[]⟩) from hfm)
    have HC := am hC
    have HA := am hall
    have HX := am hbad
    have HN := am hsnoc
    have HI := am hI
    have HB := am hBW
    dsimp only [partV]
    rw [hm]
    have c3 : ((l0.drop (i * 15)).take 15).length ≤ ((l0.drop (i * 15)).take 15).length := Nat.le_refl _
    have H3 := am c3
    clear hfd hfm hC hall hbad hsnoc hI hBW hone hss h hmem c3 hm
    generalize hch : (l0.drop (i * 15)).take 15 = ch at Hfd HC H3 ⊢
    generalize hs : ss.getD i ⟨#[]⟩ = s at Hfm HA HX HN hgs
    generalize hav : ad.add (i * 15) = av at HC ⊢
    clear hch hs hav
    by_cases hf : bt s 0 = 49
    ·have hpos : 0 < s.size := hgs.1
     have hbt : ((s[0]'hpos).toNat : Int) = bt s 0 := bt_at s 0 hpos
     have f1 : (bt s 0 != 49) = false := bne_eq_false_iff_eq.mpr hf
     gi_wp2_with (first | (refine ⟨trivial, ?_⟩; gi_at_call 46; refine (CallsIn.inRound l (callsIn_wide.2 (bigint_FromDigits.calls k _ _ ch 900 q1 q2 q3 _ ?s1 ?s2 Hfd.out))).mono ?_; (case s1 => exact Kd.C_below HC.out HB.out); (case s2 => exact H3.out); rintro e W1 ⟨v1, rfl, ho, hb⟩; obtain ⟨A3, c3, e3⟩ := Kd.R_slice ho; subst e3; have HO := am ho; have HB1 := am hb; clear ho hb) | (refine ⟨trivial, ?_⟩; gi_at_call 47; refine (CallsIn.inRound l (callsIn_wide.2 (bigint_Format.calls k q1 _ _ q2 s _ ?s3 ?s4 Hfm.out))).mono ?_; (case s3 => exact (Kd.R_reads' (Kd.R_below HO.out (below_alloc (Below.refl _ _) _))).2.2); (case s4 => exact (Kd.R_reads' HO.out).2.1); rintro e W3 ⟨rfl, hb⟩; have HB3 := am (below_step (below_alloc HB1.out _) hb); clear hb) | (refine ⟨trivial, ?_⟩; gi_at_call 48; refine (CallsIn.inRound l (callsIn_wide.2 (writeString w.heap.size g2 _ (s.extract 1 s.size) _ (builder_own HI.out (grown_of_below HB3.out none) (fun r e => by cases e)) ?s5 ?s6))).mono ?_; (case s5 => rw [Lib.byteCells_length, ByteArray.size_extract]; omega); (case s6 => exact Nat.le_trans HB.out.size HB3.out.size); rintro e W4 ⟨rfl, h1, hb, hk⟩; have HW := am h1; have HB4 := am hb; have HK := am hk; clear h1 hb hk))
     have hB3 := below_step HB.out HB3.out
     obtain ⟨cs, hcs⟩ : ∃ cs, W3.heap[g2]? = some (.cells cs 84 (0, 0)) := by
      rcases builder_own HI.out (grown_of_below HB3.out none) (fun r e => by cases e) with ⟨_, v, hv, _⟩ | ⟨_, v, hv, _⟩
      ·exact ⟨_, hv⟩
      ·exact ⟨_, hv⟩
     have b0' : Boxed W3 w.heap.size 9 (.string ⟨#[]⟩) := (HB3.out.block _ b0.lt).trans b0
     have b1' : Boxed W3 g1 4 (.bool false) := (HB3.out.block _ b1.lt).trans b1
     have b3' : Boxed W3 g3 22 (.slice A0 l0.length c0) := (HB3.out.block _ b3.lt).trans b3
     have b4' : Boxed W3 g4 3 (.int .i64 15) := (HB3.out.block _ b4.lt).trans b4
     have d3 := boxed_others HK.out b3' (by omega) (by decide)
     have d4 := boxed_others HK.out b4' (by omega) (by decide)
     refine ⟨keepsOthers_of HB3.out HK.out hcs HB4.out.size, ⟨fun _ => d3, fun _ => d4⟩, ⟨HA.out hf, ?_⟩, ⟨.inr ?_, boxed_others HK.out b0' (by omega) (by decide), boxed_others HK.out b1' (by omega) (by decide), d3, d4⟩, hB3.trans HB4.out⟩
     ·rw [HN.out, List.length_append, List.length_drop, data_length, List.length_append, List.length_singleton]
      omega
     ·rw [HN.out, Lib.byteCells_append, ← strCells_tail]
      exact HW.out
    ·have hpos : 0 < s.size := hgs.1
     have hbt : ((s[0]'hpos).toNat : Int) = bt s 0 := bt_at s 0 hpos
     have f1 : (bt s 0 != 49) = true := bne_iff_ne.mpr hf
     gi_wp2_with (first | (refine ⟨trivial, ?_⟩; gi_at_call 46; refine (CallsIn.inRound l (callsIn_wide.2 (bigint_FromDigits.calls k _ _ ch 900 q1 q2 q3 _ ?s1 ?s2 Hfd.out))).mono ?_; (case s1 => exact Kd.C_below HC.out HB.out); (case s2 => exact H3.out); rintro e W1 ⟨v1, rfl, ho, hb⟩; obtain ⟨A3, c3, e3⟩ := Kd.R_slice ho; subst e3; have HO := am ho; have HB1 := am hb; clear ho hb) | (refine ⟨trivial, ?_⟩; gi_at_call 47; refine (CallsIn.inRound l (callsIn_wide.2 (bigint_Format.calls k q1 _ _ q2 s _ ?s3 ?s4 Hfm.out))).mono ?_; (case s3 => exact (Kd.R_reads' (Kd.R_below HO.out (below_alloc (Below.refl _ _) _))).2.2); (case s4 => exact (Kd.R_reads' HO.out).2.1); rintro e W3 ⟨rfl, hb⟩; have HB3 := am (below_step (below_alloc HB1.out _) hb); have b0' : Boxed W3 w.heap.size 9 (.string ⟨#[]⟩) := (HB3.out.block _ b0.lt).trans b0; have b1' : Boxed W3 g1 4 (.bool false) := (HB3.out.block _ b1.lt).trans b1; have hc0 := b0'.cell; have hz0 := b0'.frozen; have hc1 := b1'.cell; have hz1 := b1'.frozen; clear hb))
     have hne : g1 ≠ w.heap.size := by omega
     refine ⟨KeepsOthers.trans ⟨HB3.out.size, fun k o hk1 _ => (HB3.out.block k (Array.getElem?_eq_some_iff.1 hk1).1).trans hk1⟩ ((KeepsOthers.setCell _ _ _).trans (KeepsOthers.setCell _ _ _)), ⟨rfl, HX.out hf⟩, ⟨?_, ?_⟩, below_set (below_set (below_step HB.out HB3.out) (Nat.le_refl _)) (by show w.heap.size ≤ g1; omega)⟩
     ·exact (Below.heap_setCell _ ⟨g1, 0, none⟩ _ w.heap.size (Ne.symm hne)).trans (Boxed.set _ b0')
     ·exact Boxed.set _ ((Below.heap_setCell _ ⟨w.heap.size, 0, none⟩ _ g1 hne).trans b1')
   case done =>
    rintro D ys W hD ⟨hio, hcov⟩ ⟨⟨hall, hjl⟩, ⟨hI, b0, b1, b3, b4⟩, hBW⟩ hK
    obtain ⟨hsl, hone⟩ := expGo_at k _ _ _ hss
    have hyl : ys.length = ss.length := by
     rw [hsl]
     have h1 : (l0.length + 14) / 15 ≤ ys.length := by omega
     have h2 : ys.length ≤ (l0.length + 14) / 15 := by
      cases hn : ys.length with
      | zero => exact Nat.zero_le _
      | succ n =>
       have hx : n ∈ ys.map (·.1) := by rw [hio, hn]; simp
       obtain ⟨⟨i, hi⟩, _, e⟩ := List.mem_map.1 hx
       simp only at e
       omega
     omega
    have hjoin : joinS ss l0.length ys = joinT ss := by
     rw [← flatMap_range_getD, ← hyl]
     exact inOrder_map hio (fun i => (ss.getD i ⟨#[]⟩).data.toList.drop 1)
    have hany : ss.any (fun s => bt s 0 != 49) = false := by
     rw [List.any_eq_false]
     intro s hs
     obtain ⟨i, hi, rfl⟩ := List.getElem_of_mem hs
     have hx : i ∈ ys.map (·.1) := by rw [hio, List.mem_range]; omega
     obtain ⟨⟨i', hi'⟩, hm, e⟩ := List.mem_map.1 hx
     simp only at e
     subst e
     have := hall _ hm
     simp only [List.getD_eq_getElem?_getD, List.getElem?_eq_getElem hi, Option.getD_some] at this
     simp [this]
    rw [if_neg (by rw [hany]; decide)] at h
    obtain ⟨w2, hcomp, h⟩ := Option.bind_eq_some_iff.1 h
    obtain ⟨bq, heq, h⟩ := Option.bind_eq_some_iff.1 h
    simp only [Option.some.injEq, Prod.mk.injEq] at h
    obtain ⟨rfl, rfl⟩ := h
    rw [hjoin] at hI
    have HI := am hI
    have HB := am hBW
    have HD := am hK
    have Hcomp := am hcomp
    have Heq := am heq
    have HR0 := am hr0
    have Hb0 := am b0
    have Hb1 := am b1
    have hDg : g4 + 1 ≤ D := by omega
    clear hI hBW hK hcomp heq hr0 b0 b1 b3 b4 hall hjl hio hcov hone hss hany hjoin hyl HI0 B0 B1 B2 B3 B4 hgood
    obtain ⟨js, hjs⟩ : ∃ js, joinT ss = js := ⟨_, rfl⟩
    rw [hjs] at HI Hcomp
    have Hjs := am hjs
    clear hjs
    gi_wp2_with (first | (refine ⟨trivial, ?_⟩; gi_at_call 49; refine (callsIn_wide.2 (Tryd.Builder_String_any_k w.heap.size g2 js _ HI.out HB.out.size)).mono ?_; rintro e W1 ⟨rfl, hI1, hb, hk⟩; have n1_ := am hI1; have n2_ := am (HB.out.trans hb); have n3_ := am (hk D _ HD.out (fun e1 => by have := Option.some.inj e1; omega) (fun c fz e1 => by cases e1)); have n4_ := am (boxed_others hk Hb0.out (by omega) (by decide)); have n5_ := am (boxed_others hk Hb1.out (by omega) (by decide)); clear HI HB HD Hb0 Hb1 hI1 hb hk; have HI := n1_; have HB := n2_; have HD := n3_; have Hb0 := n4_; have Hb1 := n5_; clear n1_ n2_ n3_ n4_ n5_) | (refine ⟨trivial, ?_⟩; gi_at_call 21; refine (callsIn_wide.2 (stacktext_compacted.calls k ⟨js.toArray⟩ w2 _ Hcomp.out)).mono ?_; rintro e W2 ⟨v2, rfl, ho, hb⟩; obtain ⟨A5, c5, e5⟩ := Kd.R_slice ho; subst e5; have HO := am ho; have n2_ := am (below_step HB.out hb); have n3_ := am (blk_iter hb HD.out); have n4_ : Aside0 (Boxed W2 w.heap.size 9 _) := am (blk_iter hb Hb0.out); have n5_ : Aside0 (Boxed W2 g1 4 _) := am (blk_iter hb Hb1.out); clear HI HB HD Hb0 Hb1 ho hb; have HB := n2_; have HD := n3_; have Hb0 := n4_; have Hb1 := n5_; clear n2_ n3_ n4_ n5_) | (refine ⟨trivial, ?_⟩; gi_at_call 50; refine (callsIn_wide.2 (slices_Equal_int_int.calls k _ _ w2 _ _ l0 bq _ ?q1 ?q2 ?q3 ?q4 Heq.out)).mono ?_; (case q1 => exact (Kd.R_reads' HO.out).2.2); (case q2 => exact (Kd.R_reads' HO.out).2.1); (case q3 => exact Kd.C_below HR0.out HB.out); (case q4 => exact hc0); rintro e W3 ⟨rfl, ⟨nd, rfl⟩⟩; have n2_ := am (pw_below_drewN HB.out nd); have hcc0 := Hb0.out.cell; have hcz0 := Hb0.out.frozen; have hcc1 := Hb1.out.cell; have hcz1 := Hb1.out.frozen; clear HB; have HB := n2_; clear n2_))
    have hne : g1 ≠ w.heap.size := by omega
    have hD2 : (((W2.drewN nd).setCell ⟨w.heap.size, 0, none⟩ (.string ⟨js.toArray⟩)).setCell ⟨g1, 0, none⟩ (.bool bq)).heap[D]? = some (.deferred (some [])) := (KeepsOthers.setCell _ _ _).same D _ ((KeepsOthers.setCell _ _ _).same D _ HD.out rfl) rfl
    have e1 : Boxed ((((W2.drewN nd).setCell ⟨w.heap.size, 0, none⟩ (.string ⟨js.toArray⟩)).setCell ⟨g1, 0, none⟩ (.bool bq)).putObj D (.deferred none)) w.heap.size 9 (.string ⟨js.toArray⟩) :=
     (blk_putObj_ne (by omega)).trans ((Below.heap_setCell _ ⟨g1, 0, none⟩ _ w.heap.size (Ne.symm hne)).trans (Boxed.set _ (W := W2.drewN nd) Hb0.out))
    have e2 : Boxed ((((W2.drewN nd).setCell ⟨w.heap.size, 0, none⟩ (.string ⟨js.toArray⟩)).setCell ⟨g1, 0, none⟩ (.bool bq)).putObj D (.deferred none)) g1 4 (.bool bq) :=
     (blk_putObj_ne (by omega)).trans (Boxed.set _ (W := (W2.drewN nd).setCell ⟨w.heap.size, 0, none⟩ (.string ⟨js.toArray⟩)) ((Below.heap_setCell _ ⟨w.heap.size, 0, none⟩ _ g1 hne).trans Hb1.out))
    refine ⟨by simp, .inl ⟨_, _, rfl, run_takeDeferred hD2, ?_⟩⟩
    refine ⟨_, results_two_cells rfl rfl rfl (Tryd.isAgg9 _) (Tryd.isAgg4 _) e1.cell e2.cell, by rw [Hjs.out], ?_⟩
    exact (below_set (below_set HB.out (Nat.le_refl _)) (by show w.heap.size ≤ g1; omega)).trans (belowK_b (w := w) (Nat.le_refl _) _ D _ _ (by omega) hD2 rfl rfl)
   case stop =>
    rintro D c pre W hD hio ⟨⟨rfl, x, hx, hxb⟩, ⟨b0, b1⟩, hBW⟩ hK
    obtain ⟨hsl, hone⟩ := expGo_at k _ _ _ hss
    have hany : ss.any (fun s => bt s 0 != 49) = true := by
     rw [List.any_eq_true]
     have hi : x.1 < ss.length := by have := x.2; omega
     refine ⟨ss[x.1], List.getElem_mem hi, ?_⟩
     simp only [List.getD_eq_getElem?_getD, List.getElem?_eq_getElem hi, Option.getD_some] at hxb
     simpa using hxb
    rw [if_pos hany] at h
    simp only [Option.some.injEq, Prod.mk.injEq] at h
    obtain ⟨rfl, rfl⟩ := h
    have HB := am hBW
    clear hBW hone hss hany hxb hx HI0 B0 B1 B2 B3 B4 hgood
    gi_wp2
    refine ⟨by simp, .inl ⟨_, _, rfl, run_takeDeferred hK, ?_⟩⟩
    have e1 : Boxed (W.putObj D (.deferred none)) w.heap.size 9 (.string ⟨#[]⟩) := (blk_putObj_ne (by omega)).trans b0
    have e2 : Boxed (W.putObj D (.deferred none)) g1 4 (.bool false) := (blk_putObj_ne (by omega)).trans b1
    exact ⟨_, results_two_cells rfl rfl rfl (Tryd.isAgg9 _) (Tryd.isAgg4 _) e1.cell e2.cell, rfl, HB.out.trans (belowK_b (w := w) (Nat.le_refl _) _ D _ _ (by omega) hK rfl rfl)⟩
  ·rw [if_neg hgood] at h; cases h
 ·rw [if_neg hlen] at h; cases h
end Go.Proofs.YtoadabodhdgdjaaDoor.St
