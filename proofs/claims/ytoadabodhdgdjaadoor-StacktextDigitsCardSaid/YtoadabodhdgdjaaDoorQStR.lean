import Derived.Test.YtoadabodhdgdjaaDoorQStQ
namespace Go.Proofs.YtoadabodhdgdjaaDoor.St
open Go.RowKit Go.Maps Go.Proofs.YtoadabodhdgdjaaDoorW.PrintWords Go.Proofs.YtoadabodhdgdjaaDoorW.PrintLast Go.Proofs.YtoadabodhdgdjaaDoorW.PrintMore Go.Proofs.YtoadabodhdgdjaaDoor.SM
set_option linter.unusedVariables false
set_option linter.unusedSimpArgs false
theorem digits_any (k : Nat) : (∀ x1 x5 p m, stacktext_encoder_digits.l0 k x1 x5 p m = (stacktext_encoder_digits.l0 k x1 x5 p none).map (fun r => (r.1, m))) ∧ (∀ x1 x5 b p m, stacktext_encoder_digits.j1 k x1 x5 b p m = (stacktext_encoder_digits.j1 k x1 x5 b p none).map (fun r => (r.1, m))) := by
 induction k with
 | zero => exact ⟨fun _ _ _ _ => rfl, fun _ _ _ _ _ => rfl⟩
 | succ k ih =>
  obtain ⟨i1, i2⟩ := ih
  constructor
  ·intro x1 x5 p m
   unfold stacktext_encoder_digits.l0
   repeat (split <;> first | exact i2 _ _ _ _ _ | rfl | skip)
  ·intro x1 x5 b p m
   unfold stacktext_encoder_digits.j1
   split
   ·exact i1 _ _ _ _
   ·rfl
theorem digits_none (k : Nat) (p : List Int) (m : Option Nat) (a : Int) : stacktext_encoder_digits.f k p m a = (stacktext_encoder_digits.f k p none a).map (fun r => (r.1, m)) := (digits_any k).1 _ _ _ _
theorem values_any (k : Nat) : ∀ x6 x7 x13 p m a b c, stacktext_encoder_values.l0 k x6 x7 x13 p m a b c = (stacktext_encoder_values.l0 k x6 x7 x13 p none a b c).map (fun r => (r.1, r.2.1, m)) := by
 induction k with
 | zero => exact fun _ _ _ _ _ _ _ _ => rfl
 | succ k ih =>
  intro x6 x7 x13 p m a b c
  unfold stacktext_encoder_values.l0
  split
  ·cases h : SB.stacktext_text_read.f k b c x13 with
   | none => rfl
   | some bt =>
    simp only [Option.bind_some]
    repeat (split <;> first | exact ih _ _ _ _ _ _ _ _ | rfl | skip)
  ·rfl
theorem values_none (k : Nat) (p : List Int) (m : Option Nat) (a b c : Int) : stacktext_encoder_values.f k p m a b c = (stacktext_encoder_values.f k p none a b c).map (fun r => (r.1, r.2.1, m)) := values_any k _ _ _ _ _ _ _ _
theorem texts_any (k : Nat) : (∀ x5 x7 x20 x21 x22 p m, stacktext_encoder_texts.l0 k x5 x7 x20 x21 x22 p m = (stacktext_encoder_texts.l0 k x5 x7 x20 x21 x22 p none).map (fun r => (r.1, m))) ∧ (∀ x5 x7 x9 x11 x20 x21 x22 x36 x37 x38 p m, stacktext_encoder_texts.l1 k x5 x7 x9 x11 x20 x21 x22 x36 x37 x38 p m = (stacktext_encoder_texts.l1 k x5 x7 x9 x11 x20 x21 x22 x36 x37 x38 p none).map (fun r => (r.1, m))) := by
 induction k with
 | zero => exact ⟨fun _ _ _ _ _ _ _ => rfl, fun _ _ _ _ _ _ _ _ _ _ _ _ => rfl⟩
 | succ k ih =>
  obtain ⟨i1, i2⟩ := ih
  constructor
  ·intro x5 x7 x20 x21 x22 p m
   unfold stacktext_encoder_texts.l0
   rw [values_none k p m]
   repeat (split <;> first | rfl | skip)
   cases stacktext_encoder_values.f k p none ((rd_T58 x7 x22).f0) ((rd_T58 x7 x22).f1.f0) ((rd_T58 x7 x22).f1.f1) with
   | none => rfl
   | some bt =>
    simp only [Option.map_some, Option.bind_some]
    rw [i2 _ _ _ _ _ _ _ _ _ _ _ m, i2 _ _ _ _ _ _ _ _ _ _ _ bt.2.2]
    simp only [Option.map_map]
    rfl
  ·intro x5 x7 x9 x11 x20 x21 x22 x36 x37 x38 p m
   unfold stacktext_encoder_texts.l1
   repeat (split <;> first | exact i2 _ _ _ _ _ _ _ _ _ _ _ _ | exact i1 _ _ _ _ _ _ _ | rfl | skip)
theorem texts_none (k : Nat) (p : List Int) (m : Option Nat) (a b c : Int) : stacktext_encoder_texts.f k p m a b c = (stacktext_encoder_texts.f k p none a b c).map (fun r => (r.1, m)) := by
 unfold stacktext_encoder_texts.f
 rw [values_none k p m]
 cases stacktext_encoder_values.f k p none a b c with
 | none => rfl
 | some bt =>
  simp only [Option.map_some, Option.bind_some]
  rw [(texts_any k).1 _ _ _ _ _ _ m, (texts_any k).1 _ _ _ _ _ _ bt.2.2]
  simp only [Option.map_map]
  rfl
theorem runs_any (k : Nat) : (∀ x1 x5 x6 p m, stacktext_encoder_runs.l0 k x1 x5 x6 p m = (stacktext_encoder_runs.l0 k x1 x5 x6 p none).map (fun r => (r.1, m))) ∧ (∀ x1 x5 x6 x7 p m, stacktext_encoder_runs.j1 k x1 x5 x6 x7 p m = (stacktext_encoder_runs.j1 k x1 x5 x6 x7 p none).map (fun r => (r.1, m))) ∧ (∀ x1 x5 x36 x37 p m, stacktext_encoder_runs.l1 k x1 x5 x36 x37 p m = (stacktext_encoder_runs.l1 k x1 x5 x36 x37 p none).map (fun r => (r.1, m))) := by
 induction k with
 | zero => exact ⟨fun _ _ _ _ _ => rfl, fun _ _ _ _ _ _ => rfl, fun _ _ _ _ _ _ => rfl⟩
 | succ k ih =>
  obtain ⟨i1, i2, i3⟩ := ih
  refine ⟨?_, ?_, ?_⟩
  ·intro x1 x5 x6 p m
   unfold stacktext_encoder_runs.l0
   split
   ·split <;> exact i2 _ _ _ _ _ _
   ·rw [digits_none k p m]
    cases stacktext_encoder_digits.f k p none x1 with
    | none => rfl
    | some bt =>
     simp only [Option.map_some, Option.bind_some]
     rw [i3 _ _ _ _ _ m, i3 _ _ _ _ _ bt.2]
     simp only [Option.map_map]
     rfl
  ·intro x1 x5 x6 x7 p m
   unfold stacktext_encoder_runs.j1
   cases stacktext_bytesCost.f x6 with
   | none => rfl
   | some t =>
    simp only [Option.bind_some]
    cases stacktext_afterRun.f (wrap64 (x1 + x6)) with
    | none => rfl
    | some t2 =>
     simp only [Option.bind_some]
     split
     ·exact i1 _ _ _ _ _
     ·rfl
  ·intro x1 x5 x36 x37 p m
   unfold stacktext_encoder_runs.l1
   split
   ·cases stacktext_digitsCost.f (wrap64 (x37 + 1)) with
    | none => rfl
    | some t =>
     simp only [Option.bind_some]
     cases stacktext_afterRun.f (wrap64 ((wrap64 (x1 + x37)) + 1)) with
     | none => rfl
     | some t2 =>
      simp only [Option.bind_some]
      split
      ·exact i3 _ _ _ _ _ _
      ·rfl
   ·rfl
theorem runs_none (k : Nat) (p : List Int) (m : Option Nat) (a : Int) : stacktext_encoder_runs.f k p m a = (stacktext_encoder_runs.f k p none a).map (fun r => (r.1, m)) := (runs_any k).1 _ _ _ _ _
theorem steps_j (k : Nat) (x5 : List S62) (p : List Int) (m : Option Nat) (a b c : Int) : stacktext_encoder_steps.j0 k x5 p m a b c = (stacktext_encoder_steps.j0 k x5 p none a b c).map (fun r => (r.1, m)) := by
 cases k with
 | zero => rfl
 | succ k =>
  unfold stacktext_encoder_steps.j0
  simp only []
  rw [texts_none k p m]
  cases stacktext_encoder_texts.f k p none a b c with
  | none => rfl
  | some bt =>
   simp only [Option.map_some, Option.bind_some]
   split <;> rfl
theorem steps_none (k : Nat) (p : List Int) (m : Option Nat) (a b c : Int) : stacktext_encoder_steps.f k p m a b c = (stacktext_encoder_steps.f k p none a b c).map (fun r => (r.1, m)) := by
 unfold stacktext_encoder_steps.f
 rw [runs_none k p m]
 cases stacktext_encoder_runs.f k p none a with
 | none => rfl
 | some bt =>
  simp only [Option.map_some, Option.bind_some]
  repeat (split <;> first | rfl | skip)
  ·rw [steps_j k _ p m, steps_j k _ p bt.2]
   simp only [Option.map_map]
   rfl
  ·rw [steps_j k _ p m, steps_j k _ p bt.2]
   simp only [Option.map_map]
   rfl
theorem firstF_none (k : Nat) (p : List Int) (m : Option Nat) (a best : Int) : ∀ (l : List St3) (M : PMap) (X : List (List E4)), firstF k p m a best l M X = (firstF k p none a best l M X)
 | [], _, _ => rfl
 | s :: t, M, X => by
  unfold firstF
  rw [texts_none k p m]
  rw [texts_none k p none]
  cases stacktext_encoder_texts.f k p none s.1 s.2.1 s.2.2 with
  | none => rfl
  | some r =>
   simp only [Option.map_some, Option.bind_some, and_true]
   split
   ·exact firstF_none k p m a best t _ _
   ·rfl
theorem solveF_none (k : Nat) (p : List Int) (m : Option Nat) (M : PMap) (a : Int) : solveF k p m M a = solveF k p none M a := by
 unfold solveF
 rw [runs_none k p m, runs_none k p none]
 cases stacktext_states.f k a with
 | none => rfl
 | some ls =>
  cases stacktext_encoder_runs.f k p none a with
  | none => rfl
  | some r =>
   simp only [Option.map_some, Option.bind_some, and_true]
   rw [firstF_none k p m]
end Go.Proofs.YtoadabodhdgdjaaDoor.St
