/-
  Plain facts of the plane: the reference's steps, turns, mirrors, ways and lines are the plane's own; conditions: the bounds that each says.
-/
import Derived.Test.YtoaejpjgicnfoaaKPx
namespace Go.Proofs.Ytoaejpjgicnfoaa.KP
open Go.RowKit Go.Proofs.YtoaejpjgicnfoaaW.PrintWords Go.Proofs.Ytoaejpjgicnfoaa.Given Go.Proofs.Ytoaejpjgicnfoaa.KP0
set_option linter.unusedVariables false

theorem rmay_t (x y : Int) (h : -1000 ≤ x ∧ x ≤ 1000 ∧ -1000 ≤ y ∧ y ≤ 1000) : plummetref05_May.f x y = some true := may_t x y h
theorem rmay_f (x y : Int) (h : ¬ (-1000 ≤ x ∧ x ≤ 1000 ∧ -1000 ≤ y ∧ y ≤ 1000)) : plummetref05_May.f x y = some false := may_f x y h
theorem runit (d : Int) : plummetref05_Unit.f d = some (unitF d) := by
  unfold plummetref05_Unit.f unitF
  repeat' split
  all_goals rfl
theorem rtold (x y : Int) : plummetref05_told.f x y = some (toldF x y) := by
  unfold plummetref05_told.f toldF
  by_cases h : -1000 ≤ x ∧ x ≤ 1000 ∧ -1000 ≤ y ∧ y ≤ 1000
  · rw [rmay_t x y h, if_pos h]; rfl
  · rw [rmay_f x y h, if_neg h]; rfl
theorem umul (d n : Int) (hn : -2000 ≤ n ∧ n ≤ 2000) : (-2000 ≤ n * (unitF d).1 ∧ n * (unitF d).1 ≤ 2000) ∧ (-2000 ≤ n * (unitF d).2 ∧ n * (unitF d).2 ≤ 2000) := by
  obtain ⟨k1, k2⟩ := unit_bound d
  have e1 : (unitF d).1 = -1 ∨ (unitF d).1 = 0 ∨ (unitF d).1 = 1 := by omega
  have e2 : (unitF d).2 = -1 ∨ (unitF d).2 = 0 ∨ (unitF d).2 = 1 := by omega
  constructor
  · rcases e1 with e | e | e <;> rw [e] <;> omega
  · rcases e2 with e | e | e <;> rw [e] <;> omega
theorem w64 (x : Int) (h : -100000 ≤ x ∧ x ≤ 100000) : wrap64 x = x := by unfold wrap64; omega
theorem rstep (x y d n : Int) : Ev (fun k => plummetref05_Step.f k x y d n) (stepF x y d n) := by
  unfold plummetref05_Step.f stepF
  by_cases hm : -1000 ≤ x ∧ x ≤ 1000 ∧ -1000 ≤ y ∧ y ≤ 1000
  · rw [if_pos hm]
    simp only [rmay_t x y hm, Option.bind_some, if_true]
    by_cases ha : d < 0 ∨ d > 7 ∨ n < -2000 ∨ n > 2000
    · rw [if_pos ha]
      refine Ev.congr (f := fun k => plummetref05_Step.j0 k d n true x y) (fun k => ?_) (Ev.step (f := fun _ => some (0, 0, 2)) (fun k => by simp only [plummetref05_Step.j0]; rw [if_pos trivial]) (Ev.now _))
      by_cases h1 : d < 0
      · rw [if_pos h1]
      · rw [if_neg h1]
        by_cases h2 : d > 7
        · rw [if_pos h2]
        · rw [if_neg h2]
          by_cases h3 : n < -2000
          · rw [if_pos h3]
          · rw [if_neg h3, decide_eq_true (by omega)]
    · rw [if_neg ha]
      have hu := umul d n (by omega)
      refine Ev.congr (f := fun k => plummetref05_Step.j0 k d n false x y) (fun k => ?_) (Ev.step (f := fun _ => some (toldF (x + n * (unitF d).1) (y + n * (unitF d).2))) (fun k => ?_) (Ev.now _))
      · rw [if_neg (by omega), if_neg (by omega), if_neg (by omega), decide_eq_false (by omega)]
      · simp only [plummetref05_Step.j0]
        rw [if_neg (by simp), runit]
        simp only [Option.bind_some]
        rw [w64 (n * (unitF d).1) (by omega), w64 (n * (unitF d).2) (by omega), w64 (x + n * (unitF d).1) (by omega), w64 (y + n * (unitF d).2) (by omega), rtold]
        rfl
  · rw [if_neg hm]
    simp only [rmay_f x y hm, Option.bind_some]
    exact Ev.congr (f := fun _ => some (0, 0, 3)) (fun k => by simp) (Ev.now _)
theorem rmir (x y s : Int) : plummetref05_Mirror.f x y s = some (mirF x y s) := by
  unfold plummetref05_Mirror.f mirF
  by_cases hm : -1000 ≤ x ∧ x ≤ 1000 ∧ -1000 ≤ y ∧ y ≤ 1000
  · rw [if_pos hm]
    simp only [rmay_t x y hm, Option.bind_some, if_true]
    by_cases ha : s < -2000 ∨ s > 2000
    · rw [if_pos ha]
      by_cases h1 : s < -2000
      · simp [h1]
      · simp [h1, show s > 2000 by omega]
    · rw [if_neg ha]
      have e : wrap64 (s - x) = s - x := w64 _ (by omega)
      simp [show ¬ s < -2000 by omega, show ¬ s > 2000 by omega, e, rtold]
  · rw [if_neg hm]
    simp [rmay_f x y hm]
theorem rlive : plummetlaw05_live.f = some true := by decide +kernel
end Go.Proofs.Ytoaejpjgicnfoaa.KP
