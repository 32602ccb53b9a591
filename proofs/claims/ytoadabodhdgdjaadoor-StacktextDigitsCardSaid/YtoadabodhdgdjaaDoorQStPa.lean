import Derived.Test.YtoadabodhdgdjaaDoorQStP
namespace Go.Proofs.YtoadabodhdgdjaaDoor.St
open Go.RowKit Go.Maps Go.Proofs.YtoadabodhdgdjaaDoorW.PrintWords Go.Proofs.YtoadabodhdgdjaaDoorW.PrintLast Go.Proofs.YtoadabodhdgdjaaDoorW.PrintMore Go.Proofs.YtoadabodhdgdjaaDoor.SM
set_option linter.unusedVariables false
set_option linter.unusedSimpArgs false
def TyB (w : World) (A : Option Addr) (t : Nat) : Prop := ∀ x, A = some x → ∃ cs, w.heap[x.block]? = some (.cells cs t (0, 0))
theorem TyB.step {w w1 : World} {A : Option Addr} {t : Nat} (h : TyB w A t) (hm : ∀ (k : Nat) (cs : Array Value), w.heap[k]? = some (.cells cs t (0, 0)) → w1.heap[k]? = some (.cells cs t (0, 0))) : TyB w1 A t := fun x hx => by
 obtain ⟨cs, hcs⟩ := h x hx
 exact ⟨cs, hm _ _ hcs⟩
theorem R_TyB {α : Type} {d : Kd α} {e base n c : Nat} {ok : Nat → Prop} {w : World} {A : Option Addr} {xs : List α} (h : d.R e w base ok (.slice A n c) xs) : TyB w A e ∧ ∀ x, A = some x → base ≤ x.block := by
 obtain ⟨inner, ho⟩ := Kd.R_own h
 refine ⟨fun x hx => ?_, fun x hx => ?_⟩
 ·subst hx; exact own_typed ho x.block rfl
 ·subst hx; exact own_base ho x.block rfl
theorem C_T_typed {w w1 : World} {A : Option Addr} {n t : Nat} {α : Type} {d : Kd α} (hd : ∀ {w w1 : World} {x : α} {cs : List Value}, d.K w x cs → d.K w1 x cs) {xs : List α} (h : Kd.C d w A n xs) (ht : TyB w A t) (hm : ∀ (k : Nat) (cs : Array Value), w.heap[k]? = some (.cells cs t (0, 0)) → w1.heap[k]? = some (.cells cs t (0, 0))) : Kd.C d w1 A n xs :=
 by
 by_cases hnn : 0 < n
 ·obtain ⟨ad, e, _⟩ := h.2.2 hnn
  exact C_cells hd h (fun a v ha hv => by
   obtain ⟨cs, hcs⟩ := ht ad e
   have hb : a.block = ad.block := ha ad e
   have h1 : w1.heap[a.block]? = w.heap[a.block]? := by rw [hb, hcs]; exact hm _ _ hcs
   simpa [World.cell?, h1] using hv)
 ·exact ⟨h.1, h.2.1, fun hn => absurd hn hnn⟩
def Hold (w w1 : World) (A : Option Addr) : Prop := ∀ x, A = some x → w1.heap[x.block]? = w.heap[x.block]?
theorem Hold.C {w w1 : World} {A : Option Addr} {n : Nat} {α : Type} {d : Kd α} (hk : Hold w w1 A) (hd : ∀ {w w1 : World} {x : α} {cs : List Value}, d.K w x cs → d.K w1 x cs) {xs : List α} (h : Kd.C d w A n xs) : Kd.C d w1 A n xs := by
 by_cases hnn : 0 < n
 ·obtain ⟨ad, e, _⟩ := h.2.2 hnn
  exact C_cells hd h (fun a v ha hv => by
   have h1 : w1.heap[a.block]? = w.heap[a.block]? := by rw [ha ad e]; exact hk ad e
   simpa [World.cell?, h1] using hv)
 ·exact ⟨h.1, h.2.1, fun hn => absurd hn hnn⟩
theorem Hold.T {w w1 : World} {A : Option Addr} {t : Nat} (hk : Hold w w1 A) (h : TyB w A t) : TyB w1 A t := fun x hx => by
 obtain ⟨cs, hcs⟩ := h x hx
 exact ⟨cs, (hk x hx).trans hcs⟩
theorem IsS65.stay {w0 W W2 : World} {g : Nat} {p : List Int} {m : Option Nat} (h : IsS65 w0 W g p m) (hk : W2.heap[g]? = W.heap[g]?) : IsS65 w0 W2 g p m := by
 obtain ⟨A0, c0, hb, hr⟩ := h
 exact ⟨A0, c0, hk.trans hb, hr⟩
theorem cellAl {w : World} {a : Addr} {v : Value} (h : w.cell? a = some v) (o : Obj) : (w.alloc o).cell? a = some v := (World.cell?_alloc_lt w o a (World.block_lt_of_cell? w a h)).trans h
theorem CH.drew {W : World} {base gc : Nat} {vs : List Value} {X : List (List E4)} {av : Nat → Prop} (h : CH W base gc vs X av) : CH W.drew base gc vs X av where
 blk := h.blk
 len := h.len
 row := fun i hi => kE_R_any (Kd.R_step (kE_R_own (h.row i hi)) (fun k hk hlt => rfl)) (fun _ _ => trivial)
 dis := h.dis
 far := h.far
theorem CH.below {W W1 : World} {base gc : Nat} {vs : List Value} {X : List (List E4)} {av : Nat → Prop} (h : CH W base gc vs X av) (hb : Below W.heap.size W W1) : CH W1 base gc vs X av where
 blk := (hb.block gc (Array.getElem?_eq_some_iff.1 h.blk).1).trans h.blk
 len := h.len
 row := fun i hi => kE_R_any (Kd.R_step (kE_R_own (h.row i hi)) (fun k hk hlt => hb.block k hlt)) (fun _ _ => trivial)
 dis := h.dis
 far := h.far
theorem CH.map {W w5 : World} {b base gc : Nat} {vs : List Value} {X : List (List E4)} {av : Nat → Prop} (h : CH W base gc vs X av) (hm : ∃ es clock, W.heap[b]? = some (.map es clock)) (hg : W.grownBy w5 (some b)) : CH w5 base gc vs X av where
 blk := blk_map hm hg h.blk
 len := h.len
 row := fun i hi => kE_R_any (Kd.R_step (kE_R_own (h.row i hi)) (fun k hk hlt => by
  obtain ⟨_, _, cs, hcs⟩ := own_cells (h.row i hi) hk
  exact (blk_map hm hg hcs).trans hcs.symm)) (fun _ _ => trivial)
 dis := h.dis
 far := h.far
theorem CH.cellAt {W : World} {base gc kk : Nat} {vs : List Value} {X : List (List E4)} {av : Nat → Prop} (h : CH W base gc vs X av) (hk : kk < vs.length) : W.cell? ⟨gc, kk, none⟩ = some (vs.getD kk nilV) :=
 (blk_cell h.blk kk).trans (by simp [List.getD_eq_getElem?_getD, hk])
theorem getD_mid {α : Type} (X : List α) (R : α) (rest : List α) (z : α) {kk : Nat} (hX : X.length = kk) : (X ++ R :: rest).getD kk z = R := by
 subst hX
 simp [List.getD_eq_getElem?_getD]
theorem set_mid {α : Type} (X : List α) (R : α) (rest : List α) (z : α) {kk : Nat} (hX : X.length = kk) : (X ++ R :: rest).set kk z = X ++ z :: rest := by
 subst hX
 simp [List.set_append]
theorem CH.rowAt {W : World} {base gc kk : Nat} {vs : List Value} {X rest : List (List E4)} {R : List E4} {av : Nat → Prop} (h : CH W base gc vs (X ++ R :: rest) av) (hX : X.length = kk) (hk : kk < vs.length) : kE.R 62 W base (fun _ => True) (vs.getD kk nilV) R := by
 have := h.row kk hk
 rw [getD_mid X R rest [] hX] at this
 exact this
theorem CH.put {W w1 : World} {base gc kk : Nat} {vs : List Value} {X rest : List (List E4)} {R : List E4} {av : Nat → Prop} (h : CH W base gc vs (X ++ R :: rest) av) (hX : X.length = kk) (hk : kk < vs.length) {v1 : Value} {p : E4}
  (ho : kE.R 62 w1 base (fun _ => True) v1 (R ++ [p])) (hg : W.grownBy w1 (vs.getD kk nilV).ownBlock) (hat : v1.ownBlock = (vs.getD kk nilV).ownBlock ∨ ∃ b, v1.ownBlock = some b ∧ W.heap.size ≤ b) (hav : ∀ k, av k → k < W.heap.size) :
  CH (w1.setCell ⟨gc, kk, none⟩ v1) base gc (vs.set kk v1) (X ++ (R ++ [p]) :: rest) av := by
 have h1 := CH.store h hk (p := p) (by rw [getD_mid X R rest [] hX]; exact ho) hg hat hav
 rw [getD_mid X R rest [] hX, set_mid X R rest _ hX] at h1
 exact h1
theorem CH.stay {W w1 : World} {base gc kk : Nat} {vs : List Value} {X : List (List E4)} {av : Nat → Prop} (h : CH W base gc vs X av) (hk : kk < vs.length) (hg : W.grownBy w1 (vs.getD kk nilV).ownBlock) {k : Nat} {o : Obj} (hb : W.heap[k]? = some o) (hgc : k ≠ gc) (ht : (∀ cs, o ≠ .cells cs 62 (0, 0)) ∨ av k) (v : Value) :
  (w1.setCell ⟨gc, kk, none⟩ v).heap[k]? = some o := by
 have hne : some k ≠ (vs.getD kk nilV).ownBlock := fun e => by
  rcases ht with ht | ht
  ·obtain ⟨_, _, cs, hcs⟩ := own_cells (h.row kk hk) e.symm
   rw [hb] at hcs
   exact ht cs (Option.some.inj hcs)
  ·exact h.far kk k hk e.symm ht
 exact (Below.heap_setCell w1 ⟨gc, kk, none⟩ v k hgc).trans (blk_grown hb hg hne)
theorem CH.hold {W w1 : World} {base gc kk t : Nat} {vs : List Value} {X : List (List E4)} {av : Nat → Prop} {A : Option Addr} (h : CH W base gc vs X av) (hk : kk < vs.length) (hg : W.grownBy w1 (vs.getD kk nilV).ownBlock) (hT : TyB W A t) (ht : t ≠ 62 ∨ ∀ x, A = some x → av x.block) (ht2 : t ≠ 59) (v : Value) :
  Hold W (w1.setCell ⟨gc, kk, none⟩ v) A := fun x hx => by
 obtain ⟨cs, hcs⟩ := hT x hx
 rw [hcs]
 refine CH.stay h hk hg hcs (blk_ne hcs h.blk ht2) ?_ v
 rcases ht with ht | ht
 ·exact .inl (fun cs2 e => by injection e with _ e2; exact ht e2)
 ·exact .inr (ht x hx)
theorem CH.gcNe {W : World} {base gc k kk : Nat} {vs : List Value} {X : List (List E4)} {av : Nat → Prop} (h : CH W base gc vs X av) (hk : kk < vs.length) : some gc ≠ (vs.getD kk nilV).ownBlock := fun e => by
 obtain ⟨_, _, cs, hcs⟩ := own_cells (h.row kk hk) e.symm
 rw [h.blk] at hcs
 injection hcs with hcs
 injection hcs with _ ht
 exact absurd ht (by decide)
theorem CH.keepRest {W w1 : World} {b n base gc kk : Nat} {M : PMap} {vs : List Value} {X : List (List E4)} {av : Nat → Prop} (h : CH W base gc vs X av) (hk : kk < vs.length) (hg : W.grownBy w1 (vs.getD kk nilV).ownBlock) (hM : RestIs W b n M) (v : Value) : RestIs (w1.setCell ⟨gc, kk, none⟩ v) b n M := by
 obtain ⟨es, clock, hm⟩ := hM.isMap
 have hne : b ≠ gc := fun e => by
  have := h.blk
  rw [← e, hm] at this
  cases this
 exact hM.heap ((CH.stay h hk hg hm hne (.inl (fun cs e => by cases e)) v).trans hm.symm)
theorem CH.keepS65 {w0 W w1 : World} {g base gc kk : Nat} {p : List Int} {m : Option Nat} {vs : List Value} {X : List (List E4)} {av : Nat → Prop} (h : CH W base gc vs X av) (hk : kk < vs.length) (hg : W.grownBy w1 (vs.getD kk nilV).ownBlock) (hI : IsS65 w0 W g p m) (v : Value) : IsS65 w0 (w1.setCell ⟨gc, kk, none⟩ v) g p m := by
 have hne := IsS65.ne_blk hI h.blk (by decide)
 obtain ⟨A0, c0, hb, hr⟩ := hI
 exact ⟨A0, c0, CH.stay h hk hg hb hne (.inl (fun cs e => by injection e with _ e2; exact absurd e2 (by decide))) v, hr⟩
theorem CH.keepBlk {W w1 : World} {k t base gc kk : Nat} {cs : Array Value} {vs : List Value} {X : List (List E4)} {av : Nat → Prop} (h : CH W base gc vs X av) (hk : kk < vs.length) (hg : W.grownBy w1 (vs.getD kk nilV).ownBlock) (hb : W.heap[k]? = some (.cells cs t (0, 0))) (ht : t ≠ 62) (ht2 : t ≠ 59) (v : Value) : (w1.setCell ⟨gc, kk, none⟩ v).heap[k]? = some (.cells cs t (0, 0)) :=
 CH.stay h hk hg hb (blk_ne hb h.blk ht2) (.inl (fun cs e => by injection e with _ e2; exact ht e2)) v
def gmin (x y : Int) : Int := if y < x then y else x
theorem wf_min {x y : Int} (hx : (Lit.int .i64 x).wf = true) (hy : (Lit.int .i64 y).wf = true) : (Lit.int .i64 (gmin x y)).wf = true := by
 unfold gmin
 split
 ·exact hy
 ·exact hx
end Go.Proofs.YtoadabodhdgdjaaDoor.St
