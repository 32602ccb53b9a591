import Derived.Test.YtoadabodhdgdjaaDoorQStN
namespace Go.Proofs.YtoadabodhdgdjaaDoor.St
open Go.RowKit Go.Maps Go.Proofs.YtoadabodhdgdjaaDoorW.PrintWords Go.Proofs.YtoadabodhdgdjaaDoorW.PrintLast Go.Proofs.YtoadabodhdgdjaaDoorW.PrintMore Go.Proofs.YtoadabodhdgdjaaDoor.SM
set_option linter.unusedVariables false
set_option linter.unusedSimpArgs false
abbrev E4 := Int × St3
def eOf (x : S62) : E4 := (x.f0, (x.f3.f0, x.f3.f1.f0, x.f3.f1.f1))
def stOf (x : S58) : St3 := (x.f0, x.f1.f0, x.f1.f1)
def kE : Kd E4 where
 sz := 6
 E := []
 K := fun _ x cs => ∃ (run : Int) (A : Option Addr) (n c : Nat), cs = [.int .i64 x.1, .int .i64 run, .slice A n c, .int .i64 x.2.1, .int .i64 x.2.2.1, .int .i64 x.2.2.2]
 M := fun _ _ _ x cs => ∃ (run : Int) (A : Option Addr) (n c : Nat), cs = [.int .i64 x.1, .int .i64 run, .slice A n c, .int .i64 x.2.1, .int .i64 x.2.2.1, .int .i64 x.2.2.2]
 K_len := by rintro w x cs ⟨run, A, n, c, rfl⟩; rfl
 K_one := by
  rintro w x cs ⟨run, A, n, c, rfl⟩ v hv
  simp only [List.mem_cons, List.not_mem_nil, or_false] at hv
  rcases hv with rfl | rfl | rfl | rfl | rfl | rfl <;> rfl
 K_below := fun _ h => h
 K_of_M := fun h => h
 M_mono := fun _ h => h
 M_bound := fun h => h
 M_move := fun _ h => h
 M_lower := fun _ h => h
theorem C_eOf {w : World} {A : Option Addr} {n : Nat} {xs : List S62} (h : Kd.C k62 w A n xs) : Kd.C kE w A n (xs.map eOf) :=
 ⟨by rw [List.length_map]; exact h.1, h.2.1, fun hn => by
  obtain ⟨ad, e, hc⟩ := h.2.2 hn
  refine ⟨ad, e, fun j p hj => ?_⟩
  rw [List.getElem?_map] at hj
  obtain ⟨x, hx, rfl⟩ := Option.map_eq_some_iff.1 hj
  obtain ⟨c, hs, hr, hcell⟩ := hc j x hx
  obtain ⟨A2, c2, rfl, _, _⟩ := k62_open hr
  exact ⟨_, rfl, ⟨x.f1, A2, x.f2.length, c2, rfl⟩, hcell⟩⟩
def zE : E4 := (0, 0, 0, 0)
theorem at_E {w : World} {A : Option Addr} {n : Nat} {xs : List E4} (h : Kd.C kE w A n xs) (i : Nat) (h1 : i < n) : ∃ ad run A2 n2 c2, A = some ad ∧ w.cell? (ad.add (i * 6)) = some (.int .i64 (xs.getD i zE).1) ∧ w.cell? ⟨(ad.add (i * 6)).block, (ad.add (i * 6)).off + 1, none⟩ = some (.int .i64 run) ∧ w.cell? ⟨(ad.add (i * 6)).block, (ad.add (i * 6)).off + 2, none⟩ = some (.slice A2 n2 c2) ∧ w.cell? ⟨(ad.add (i * 6)).block, (ad.add (i * 6)).off + 3, none⟩ = some (.int .i64 (xs.getD i zE).2.1) ∧ w.cell? ⟨(ad.add (i * 6)).block, (ad.add (i * 6)).off + 4, none⟩ = some (.int .i64 (xs.getD i zE).2.2.1) ∧ w.cell? ⟨(ad.add (i * 6)).block, (ad.add (i * 6)).off + 5, none⟩ = some (.int .i64 (xs.getD i zE).2.2.2) := by
 obtain ⟨ad, c, e, _, hK, hc0⟩ := Kd.C_get h zE (i : Int) (by omega) (by omega)
 have hc : ∀ j u, c[j]? = some u → w.cell? (ad.add (i * 6 + j)) = some u := fun j u h => by
  have := hc0 j u h
  rw [Int.toNat_natCast] at this
  exact this
 obtain ⟨run, A2, n2, c2, rfl⟩ := hK
 exact ⟨ad, run, A2, n2, c2, e, hc 0 _ rfl, by rw [← add_field _ _ 1 (by omega)]; exact hc 1 _ rfl, by rw [← add_field _ _ 2 (by omega)]; exact hc 2 _ rfl, by rw [← add_field _ _ 3 (by omega)]; exact hc 3 _ rfl, by rw [← add_field _ _ 4 (by omega)]; exact hc 4 _ rfl, by rw [← add_field _ _ 5 (by omega)]; exact hc 5 _ rfl⟩
def nilV : Value := .slice none 0 0
structure CH (w : World) (base gc : Nat) (vs : List Value) (X : List (List E4)) (av : Nat → Prop) : Prop where
 blk : w.heap[gc]? = some (.cells vs.toArray 59 (0, 0))
 len : X.length = vs.length
 row : ∀ i, i < vs.length → kE.R 62 w base (fun _ => True) (vs.getD i nilV) (X.getD i [])
 dis : ∀ i j k, i < vs.length → j < vs.length → i ≠ j → (vs.getD i nilV).ownBlock = some k → (vs.getD j nilV).ownBlock ≠ some k
 far : ∀ i k, i < vs.length → (vs.getD i nilV).ownBlock = some k → ¬ av k
theorem kE_R_own {e : Nat} {w : World} {base : Nat} {ok : Nat → Prop} {v : Value} {xs : List E4} (h : kE.R e w base ok v xs) : kE.R e w base (fun k => v.ownBlock = some k) v xs := ⟨fun k hk => hk, h.2⟩
theorem kE_R_any {e : Nat} {w : World} {base : Nat} {ok ok' : Nat → Prop} {v : Value} {xs : List E4} (h : kE.R e w base ok v xs) (h2 : ∀ k, v.ownBlock = some k → ok' k) : kE.R e w base ok' v xs := ⟨h2, h.2⟩
theorem own_cells {e : Nat} {w : World} {base : Nat} {ok : Nat → Prop} {v : Value} {xs : List E4} (h : kE.R e w base ok v xs) {k : Nat} (hk : v.ownBlock = some k) : k < w.heap.size ∧ base ≤ k ∧ ∃ cs, w.heap[k]? = some (.cells cs e (0, 0)) := by
 obtain ⟨inner, ho⟩ := Kd.R_own h
 exact ⟨own_lt ho k hk, own_base ho k hk, own_typed ho k hk⟩
theorem CH.step {w w1 : World} {base gc : Nat} {vs : List Value} {X : List (List E4)} {av av' : Nat → Prop} (h : CH w base gc vs X av) (hm : ∀ (k t : Nat) (cs : Array Value), (t = 59 ∨ t = 62) → w.heap[k]? = some (.cells cs t (0, 0)) → ¬ av' k → w1.heap[k]? = w.heap[k]?) (hgc : ¬ av' gc) (ha : ∀ k, av' k → av k) : CH w1 base gc vs X av' where
 blk := (hm _ _ _ (.inl rfl) h.blk hgc).trans h.blk
 len := h.len
 row := fun i hi => kE_R_any (Kd.R_step (kE_R_own (h.row i hi)) (fun k hk hlt => by
  obtain ⟨_, _, cs, hcs⟩ := own_cells (h.row i hi) hk
  exact hm k _ cs (.inr rfl) hcs (fun hav => h.far i k hi hk (ha k hav)))) (fun _ _ => trivial)
 dis := h.dis
 far := fun i k hi hk hav => h.far i k hi hk (ha k hav)
theorem CH.store {W w1 : World} {base gc : Nat} {vs : List Value} {X : List (List E4)} {av : Nat → Prop} (h : CH W base gc vs X av) {i : Nat} (hi : i < vs.length) {v1 : Value} {p : E4} (ho : kE.R 62 w1 base (fun _ => True) v1 (X.getD i [] ++ [p]))
  (hg : W.grownBy w1 (vs.getD i nilV).ownBlock) (hat : v1.ownBlock = (vs.getD i nilV).ownBlock ∨ ∃ b, v1.ownBlock = some b ∧ W.heap.size ≤ b) (hav : ∀ k, av k → k < W.heap.size) :
  CH (w1.setCell ⟨gc, i, none⟩ v1) base gc (vs.set i v1) (X.set i (X.getD i [] ++ [p])) av := by
 have hgcl : gc < W.heap.size := (Array.getElem?_eq_some_iff.1 h.blk).1
 have hgne : some gc ≠ (vs.getD i nilV).ownBlock := fun e => by
  obtain ⟨_, _, cs, hcs⟩ := own_cells (h.row i hi) e.symm
  rw [h.blk] at hcs
  injection hcs with hcs
  injection hcs with _ ht
  exact absurd ht (by decide)
 have hgc1 : w1.heap[gc]? = some (.cells vs.toArray 59 (0, 0)) := (hg.block gc hgcl hgne).trans h.blk
 have hget : ∀ j, j < vs.length → j ≠ i → (vs.set i v1).getD j nilV = vs.getD j nilV := fun j hj hne => by
  simp [List.getD_eq_getElem?_getD, List.getElem?_set, Ne.symm hne]
 have hgeti : (vs.set i v1).getD i nilV = v1 := by
  simp [List.getD_eq_getElem?_getD, List.getElem?_set, hi]
 have hXi : ∀ j, j ≠ i → (X.set i (X.getD i [] ++ [p])).getD j [] = X.getD j [] := fun j hne => by
  simp [List.getD_eq_getElem?_getD, List.getElem?_set, Ne.symm hne]
 have hXii : (X.set i (X.getD i [] ++ [p])).getD i [] = X.getD i [] ++ [p] := by
  simp [List.getD_eq_getElem?_getD, List.getElem?_set, show i < X.length by rw [h.len]; exact hi]
 have hv1gc : ∀ k, v1.ownBlock = some k → k ≠ gc := fun k hk e => by
  subst e
  rcases hat with hat | ⟨b, hb, hle⟩
  ·rw [hk] at hat; exact hgne hat
  ·rw [hk] at hb; cases hb; omega
 refine ⟨?_, by simp [h.len], fun j hj => ?_, fun a b k ha hb hab hk => ?_, fun a k ha hk hk2 => ?_⟩
 ·exact blk_put hgc1 i v1 (by simp)
 ·rw [List.length_set] at hj
  by_cases e : j = i
  ·subst e
   rw [hgeti, hXii]
   exact kE_R_any (Kd.R_far (kE_R_own ho) (fun k hk => hv1gc k hk) v1) (fun _ _ => trivial)
  ·rw [hget j hj e, hXi j e]
   have hr := h.row j hj
   refine kE_R_any (Kd.R_far (Kd.R_grown (kE_R_own hr) hg (fun k hk e2 => ?_)) (fun k hk e2 => ?_) v1) (fun _ _ => trivial)
   ·exact h.dis j i k hj hi e hk e2.symm
   ·obtain ⟨_, _, cs, hcs⟩ := own_cells hr hk
    simp only at e2
    subst e2
    rw [h.blk] at hcs
    injection hcs with hcs
    injection hcs with _ ht
    exact absurd ht (by decide)
 ·rw [List.length_set] at ha hb
  have old : ∀ j k, j < vs.length → (vs.getD j nilV).ownBlock = some k → k < W.heap.size := fun j k hj hk => (own_cells (h.row j hj) hk).1
  by_cases ea : a = i
  ·subst ea
   have eb : b ≠ a := fun e => hab e.symm
   rw [hgeti] at hk
   rw [hget b hb eb]
   rcases hat with hat | ⟨g, hg1, hle⟩
   ·exact h.dis a b k hi hb hab (hat.symm.trans hk)
   ·intro e2
    rw [hk] at hg1
    cases hg1
    have := old b k hb e2
    omega
  ·rw [hget a ha ea] at hk
   by_cases eb : b = i
   ·subst eb
    rw [hgeti]
    rcases hat with hat | ⟨g, hg1, hle⟩
    ·rw [hat]; exact h.dis a b k ha hi hab hk
    ·intro e2
     rw [e2] at hg1
     cases hg1
     have := old a k ha hk
     omega
   ·rw [hget b hb eb]
    exact h.dis a b k ha hb hab hk
 ·rw [List.length_set] at ha
  by_cases ea : a = i
  ·subst ea
   rw [hgeti] at hk
   rcases hat with hat | ⟨g, hg1, hle⟩
   ·exact h.far a k hi (hat.symm.trans hk) hk2
   ·rw [hk] at hg1
    cases hg1
    have := hav k hk2
    omega
  ·rw [hget a ha ea] at hk
   exact h.far a k ha hk hk2
end Go.Proofs.YtoadabodhdgdjaaDoor.St
