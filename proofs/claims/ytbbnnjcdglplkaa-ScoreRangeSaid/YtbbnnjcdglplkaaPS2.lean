/-
  ScoreRange, ScoreOf and ScoreOrder as pure statements; conditions: numbers of 64 bits.
-/
import Derived.Test.YtbbnnjcdglplkaaPS
namespace Go.Proofs.Ytbbnnjcdglplkaa.PS
open Go.RowKit Go.Proofs.Ytbbnnjcdglplkaa.Given Go.Proofs.Ytbbnnjcdglplkaa.KS Go.Proofs.YtbbnnjcdglplkaaW.PrintWords Go.Proofs.YtbbnnjcdglplkaaW.PrintLast
set_option linter.unusedVariables false

theorem plies_eq (a b st s : Int) : Given.score_Plies.f a b st s = some (refPlies a b st s) := rfl
/-- Where there is an answer, the score is within the range. -/
theorem plies_in (a b st s : Int) (hp : mayB a b = true) (h : (refPlies a b st s).2 = 0) : -(a * b / 2) ≤ s ∧ s ≤ (a * b + 1) / 2 := by
  obtain ⟨b1, b2, b3, b4, b5, b6⟩ := may_bd a b hp
  unfold refPlies at h
  rw [if_pos hp] at h
  by_cases h1 : st < 0 ∨ st > a * b
  · rw [if_pos h1] at h; cases h
  · rw [if_neg h1] at h
    by_cases h2 : s = 0
    · omega
    · rw [if_neg h2] at h
      by_cases h3 : s < -(a * b / 2) ∨ s > (a * b + 1) / 2
      · rw [rGo_out st s (a * b) (by omega) (by omega) h3] at h; cases h
      · omega
theorem plies_pos (a b st s m : Int) (hp : mayB a b = true) (h0 : 0 ≤ st) (h1 : st ≤ m) (h2 : m < a * b) (hv : s = if (m - st) % 2 = 0 then (a * b + 1 - m) / 2 else -((a * b + 1 - m) / 2)) : refPlies a b st s = (m + 1 - st, 0) := by
  obtain ⟨b1, b2, b3, b4, b5, b6⟩ := may_bd a b hp
  unfold refPlies
  rw [if_pos hp, if_neg (by omega)]
  have hs0 : ¬ s = 0 := by split at hv <;> omega
  rw [if_neg hs0]
  generalize a * b = c at *
  have e : st + (((m - st).toNat : Nat) : Int) = m := by omega
  rw [rGo_hit c st s _ _ (m - st).toNat (by omega) (by rw [e, rHit_iff]; split at hv <;> omega) (fun i hi => rHit_no _ _ _ _ (by split at hv <;> omega)), e]
theorem ranges (a b st s : Int) : ∃ k, plummetlaw17_ScoreRange.f k a b st s = some true := by
  refine Ev.rounds (g := fun k => plummetlaw17_ScoreRange.f k a b st s) ?_
  unfold plummetlaw17_ScoreRange.f
  by_cases hp : mayB a b = true
  · obtain ⟨b1, b2, b3, b4, b5, b6⟩ := may_bd a b hp
    rw [range_f a b hp, refmay_f, hp, plies_eq]
    simp only [Option.bind_some, if_true]
    have hhi : (refPlies a b 0 ((a * b + 1) / 2)).2 = 0 := by
      rw [plies_pos a b 0 _ 0 hp (by omega) (by omega) (by omega) (by rw [if_pos (by omega)]; omega)]
    have hlo : (refPlies a b 0 (-(a * b / 2))).2 = 0 := by
      rw [plies_pos a b 0 _ 1 hp (by omega) (by omega) (by omega) (by rw [if_neg (by omega)]; omega)]
    have fin : Ev (fun k => plummetlaw17_ScoreRange.j0 k (-(a * b / 2)) ((a * b + 1) / 2) false a b) true := by
      refine Ev.step (f := fun _ => some true) (fun k => ?_) (Ev.now _)
      simp only [plummetlaw17_ScoreRange.j0]
      rw [if_neg (by simp), plies_eq, plies_eq, live_f]
      simp only [Option.bind_some, if_true, hhi, hlo, beq_self_eq_true]
    by_cases he : (refPlies a b st s).2 = 0
    · have hin := plies_in a b st s hp he
      simp only [if_pos he]
      have q1 : ¬ s < -(a * b / 2) := by omega
      have q2 : ¬ s > (a * b + 1) / 2 := by omega
      simp only [if_neg q1, decide_eq_false q2]
      exact fin
    · simp only [if_neg he]; exact fin
  · have hp : mayB a b = false := by simpa using hp
    have hr : score_Range.f a b = some (0, 0) := by
      unfold score_Range.f; rw [cells_no a b hp]; simp [wrap64]
    rw [hr, refmay_f, hp, live_f]
    exact Ev.congr (f := fun _ => some true) (fun k => by simp) (Ev.now _)
/-- The score of a game that has so many stones more. -/
def ofF (a b st pl : Int) (wins : Bool) : Int × Int :=
  if mayB a b then (if st < 0 ∨ st > a * b then (0, 3) else if wins then (if pl < 1 ∨ pl > a * b - st then (0, 18) else (if pl % 2 = 0 then -((a * b + 1 - (st + pl - 1)) / 2) else (a * b + 1 - (st + pl - 1)) / 2, 0)) else (if pl = a * b - st then (0, 0) else (0, 18))) else (0, 10)
theorem of_ev (a b st pl : Int) (wins : Bool) : Ev (fun k => score_Of.f k a b st pl wins) (ofF a b st pl wins) := by
  unfold score_Of.f ofF
  by_cases hp : mayB a b = true
  · obtain ⟨b1, b2, b3, b4, b5, b6⟩ := may_bd a b hp
    rw [cells_f a b hp]
    simp only [Option.bind_some]
    rw [smay_f, hp]
    simp only [Option.bind_some, if_true]
    by_cases h1 : st < 0 ∨ st > a * b
    · simp only [if_pos h1]
      exact Ev.congr (f := fun _ => some (0, 3)) (fun k => by simp) (Ev.now _)
    · simp only [if_neg h1, if_true]
      have hw : wrap64 (a * b - st) = a * b - st := by unfold wrap64; omega
      have no : Ev (fun k => score_Of.j1 k st pl true a b) (0, 18) := by
        refine Ev.step (f := fun _ => some (0, 18)) (fun k => ?_) (Ev.now _)
        simp only [score_Of.j1]; rw [if_pos trivial]
      cases wins with
      | false =>
        simp only [Bool.false_eq_true, if_false]
        rw [hw]
        by_cases h2 : pl = a * b - st
        · rw [if_pos h2, beq_iff_eq.2 h2]
          refine Ev.step (f := fun _ => some (0, 0)) (fun k => ?_) (Ev.now _)
          simp only [score_Of.j0]; rw [if_pos trivial]
        · rw [if_neg h2, beq_eq_false_iff_ne.2 h2]
          refine Ev.step (fun k => ?_) no
          simp only [score_Of.j0]; rw [if_neg (by simp), if_neg (by simp)]
      | true =>
        simp only [if_true]
        by_cases h2 : pl < 1 ∨ pl > a * b - st
        · rw [if_pos h2]
          refine Ev.step (fun k => ?_) no
          simp only [score_Of.j0, hw]
          rw [if_neg (by simp), if_pos trivial]
          rcases h2 with h2 | h2
          · rw [if_pos h2]
          · by_cases h3 : pl < 1
            · rw [if_pos h3]
            · rw [if_neg h3, decide_eq_true h2]
        · rw [if_neg h2]
          have h3 : ¬ pl < 1 := fun h => h2 (.inl h)
          have h4 : ¬ pl > a * b - st := fun h => h2 (.inr h)
          refine Ev.step (f := fun k => score_Of.j1 k st pl false a b) (fun k => ?_) (Ev.step (f := fun _ => some (if pl % 2 = 0 then -((a * b + 1 - (st + pl - 1)) / 2) else (a * b + 1 - (st + pl - 1)) / 2, 0)) (fun k => ?_) (Ev.now _))
          · simp only [score_Of.j0, hw]
            rw [if_neg (by simp), if_pos trivial, if_neg h3, decide_eq_false h4]
          · simp only [score_Of.j1]
            have e1 : wrap64 (wrap64 (st + pl) - 1) = st + pl - 1 := by clear hw; unfold wrap64; omega
            rw [if_neg (by simp), e1, win_f]
            have ew : winF a b (st + pl - 1) = ((a * b + 1 - (st + pl - 1)) / 2, 0) := by
              clear hw e1
              unfold winF; rw [if_pos hp, if_neg (by omega)]
            rw [ew]
            simp only [Option.bind_some]
            have et : Int.tmod pl 2 = pl % 2 := Int.tmod_eq_emod_of_nonneg (by clear hw e1; omega)
            rw [et]
            split
            · congr 2; clear hw e1; unfold wrap64; omega
            · rfl
  · have hp : mayB a b = false := by simpa using hp
    rw [cells_no a b hp]
    simp only [Option.bind_some]
    rw [smay_f, hp]
    exact Ev.congr (f := fun _ => some (0, 10)) (fun k => by simp) (Ev.now _)
theorem refof_ev (a b st pl : Int) (wins : Bool) : Ev (fun k => plummetref17_Of.f k a b st pl wins) (ofF a b st pl wins) := by
  unfold plummetref17_Of.f ofF
  rw [refmay_f]
  by_cases hp : mayB a b = true
  · obtain ⟨b1, b2, b3, b4, b5, b6⟩ := may_bd a b hp
    rw [hp]
    have hc : wrap64 (a * b) = a * b := by unfold wrap64; omega
    simp only [Option.bind_some, if_true, hc]
    clear hc
    by_cases h1 : st < 0 ∨ st > a * b
    · simp only [if_pos h1]
      refine Ev.congr (f := fun k => plummetref17_Of.j0 k st pl wins (a * b) true a b) (fun k => ?_) (Ev.step (f := fun _ => some (0, 3)) (fun k => ?_) (Ev.now _))
      · rcases h1 with h1 | h1
        · rw [if_pos h1]
        · by_cases h2 : st < 0
          · rw [if_pos h2]
          · rw [if_neg h2, decide_eq_true h1]
      · simp only [plummetref17_Of.j0]; rw [if_pos trivial]
    · have h2 : ¬ st < 0 := fun h => h1 (.inl h)
      have h3 : ¬ st > a * b := fun h => h1 (.inr h)
      simp only [if_neg h1, if_neg h2, decide_eq_false h3]
      have hw : wrap64 (a * b - st) = a * b - st := by unfold wrap64; omega
      cases wins with
      | false =>
        simp only [Bool.false_eq_true, if_false]
        refine Ev.step (f := fun _ => some (if pl = a * b - st then (0, 0) else (0, 18))) (fun k => ?_) (Ev.now _)
        simp only [plummetref17_Of.j0, hw]
        rw [if_neg (by simp), if_neg (by simp)]
        split <;> rfl
      | true =>
        simp only [if_true]
        by_cases h4 : pl < 1 ∨ pl > a * b - st
        · rw [if_pos h4]
          refine Ev.step (f := fun k => plummetref17_Of.j1 k st pl true a b) (fun k => ?_) (Ev.step (f := fun _ => some (0, 18)) (fun k => ?_) (Ev.now _))
          · simp only [plummetref17_Of.j0, hw]
            rw [if_neg (by simp), if_pos trivial]
            rcases h4 with h4 | h4
            · rw [if_pos h4]
            · by_cases h5 : pl < 1
              · rw [if_pos h5]
              · rw [if_neg h5, decide_eq_true h4]
          · simp only [plummetref17_Of.j1]; rw [if_pos trivial]
        · rw [if_neg h4]
          have h5 : ¬ pl < 1 := fun h => h4 (.inl h)
          have h6 : ¬ pl > a * b - st := fun h => h4 (.inr h)
          refine Ev.step (f := fun k => plummetref17_Of.j1 k st pl false a b) (fun k => ?_) (Ev.step (f := fun _ => some (if pl % 2 = 0 then -((a * b + 1 - (st + pl - 1)) / 2) else (a * b + 1 - (st + pl - 1)) / 2, 0)) (fun k => ?_) (Ev.now _))
          · simp only [plummetref17_Of.j0, hw]
            rw [if_neg (by simp), if_pos trivial, if_neg h5, decide_eq_false h6]
          · simp only [plummetref17_Of.j1]
            have e1 : wrap64 (wrap64 (st + pl) - 1) = st + pl - 1 := by clear hw; unfold wrap64; omega
            have et : Int.tmod pl 2 = pl % 2 := Int.tmod_eq_emod_of_nonneg (by clear hw e1; omega)
            rw [if_neg (by simp), e1, et, worth_f a b _ hp (by clear hw e1; omega) (by clear hw e1; omega)]
            simp only [Option.bind_some]
            by_cases h7 : pl % 2 = 1
            · rw [if_pos h7, if_neg (show ¬ pl % 2 = 0 by clear hw e1 et; omega)]
            · rw [if_neg h7, if_pos (show pl % 2 = 0 by clear hw e1 et; omega)]
              congr 2; clear hw e1 et; unfold wrap64; omega
  · have hp : mayB a b = false := by simpa using hp
    rw [hp]
    exact Ev.congr (f := fun _ => some (0, 10)) (fun k => by simp) (Ev.now _)
theorem of_ok (a b st pl : Int) (wins : Bool) (h : (ofF a b st pl wins).2 = 0) : refPlies a b st (ofF a b st pl wins).1 = (pl, 0) := by
  unfold ofF at h ⊢
  by_cases hp : mayB a b = true
  · rw [if_pos hp] at h ⊢
    by_cases h1 : st < 0 ∨ st > a * b
    · rw [if_pos h1] at h; cases h
    · rw [if_neg h1] at h ⊢
      cases wins with
      | false =>
        simp only [Bool.false_eq_true, if_false] at h ⊢
        by_cases h2 : pl = a * b - st
        · rw [if_pos h2]
          unfold refPlies; rw [if_pos hp, if_neg h1, if_pos rfl, h2]
        · rw [if_neg h2] at h; cases h
      | true =>
        simp only [if_true] at h ⊢
        by_cases h2 : pl < 1 ∨ pl > a * b - st
        · rw [if_pos h2] at h; cases h
        · rw [if_neg h2]
          simp only
          rw [plies_pos a b st _ (st + pl - 1) hp (by omega) (by omega) (by omega) (by
            by_cases h3 : pl % 2 = 0
            · rw [if_pos h3, if_neg (by omega)]
            · rw [if_neg h3, if_pos (by omega)])]
          congr 1; omega
  · rw [if_neg hp] at h; cases h
theorem ofs (a b st pl : Int) (wins : Bool) : ∃ k, plummetlaw17_ScoreOf.f k a b st pl wins = some true := by
  refine Ev.rounds (g := fun k => plummetlaw17_ScoreOf.f k a b st pl wins) ?_
  unfold plummetlaw17_ScoreOf.f
  refine Ev.bind (of_ev a b st pl wins) (Ev.bind (refof_ev a b st pl wins) ?_)
  simp only [if_true]
  have hb : ((ofF a b st pl wins).2 != (ofF a b st pl wins).2) = false := by simp
  rw [hb]
  refine Ev.step (f := fun _ => some true) (fun k => ?_) (Ev.now _)
  simp only [plummetlaw17_ScoreOf.j0]
  rw [if_neg (by simp), live_f, plies_eq]
  simp only [Option.bind_some, if_true]
  by_cases he : (ofF a b st pl wins).2 = 0
  · rw [if_pos he, of_ok a b st pl wins he]; simp
  · rw [if_neg he]
theorem orders (a b st x y : Int) : ∃ k, plummetlaw17_ScoreOrder.f k a b st x y = some true := by
  refine Ev.rounds (g := fun k => plummetlaw17_ScoreOrder.f k a b st x y) ?_
  unfold plummetlaw17_ScoreOrder.f
  refine Ev.bind (of_ev a b st x true) (Ev.bind (of_ev a b st y true) ?_)
  have no : Ev (fun k => plummetlaw17_ScoreOrder.j0 k x y (ofF a b st x true).1 (ofF a b st y true).1 true) true := by
    refine Ev.step (f := fun _ => some true) (fun k => ?_) (Ev.now _)
    simp only [plummetlaw17_ScoreOrder.j0]; rw [if_pos trivial, live_f]; rfl
  by_cases h1 : (ofF a b st x true).2 = 0
  · by_cases h2 : (ofF a b st y true).2 = 0
    · simp only [if_pos h1, if_pos h2]
      by_cases h3 : x ≥ y
      · rw [decide_eq_true h3]; exact no
      · rw [decide_eq_false h3]
        clear no
        unfold ofF at h1 h2 ⊢
        by_cases hp : mayB a b = true
        · rw [if_pos hp] at h1 h2
          rw [if_pos hp, if_pos hp]
          by_cases h4 : st < 0 ∨ st > a * b
          · rw [if_pos h4] at h1; cases h1
          · rw [if_neg h4] at h1 h2
            rw [if_neg h4, if_neg h4]
            simp only [if_true] at h1 h2 ⊢
            by_cases h5 : x < 1 ∨ x > a * b - st
            · rw [if_pos h5] at h1; cases h1
            · by_cases h6 : y < 1 ∨ y > a * b - st
              · rw [if_pos h6] at h2; cases h2
              · rw [if_neg h5, if_neg h6]
                simp only
                have ex : Int.tmod x 2 = x % 2 := Int.tmod_eq_emod_of_nonneg (by omega)
                have ey : Int.tmod y 2 = y % 2 := Int.tmod_eq_emod_of_nonneg (by omega)
                clear h1 h2
                generalize a * b = c at *
                generalize hvx : (if x % 2 = 0 then -((c + 1 - (st + x - 1)) / 2) else (c + 1 - (st + x - 1)) / 2) = vx
                generalize hvy : (if y % 2 = 0 then -((c + 1 - (st + y - 1)) / 2) else (c + 1 - (st + y - 1)) / 2) = vy
                by_cases px : x % 2 = 0 <;> by_cases py : y % 2 = 0
                · rw [if_pos px] at hvx; rw [if_pos py] at hvy
                  refine Ev.step (f := fun k => plummetlaw17_ScoreOrder.j1 k x y vx vy false) (fun k => ?_) (Ev.step (f := fun k => plummetlaw17_ScoreOrder.j2 k x y vx vy true) (fun k => ?_) (Ev.step (f := fun _ => some true) (fun k => ?_) (Ev.now _)))
                  · simp only [plummetlaw17_ScoreOrder.j0, ex, ey]; rw [if_neg (by simp), if_neg (by omega)]
                  · simp only [plummetlaw17_ScoreOrder.j1, ex, ey]; rw [if_neg (by simp), if_pos px, beq_iff_eq.2 py]
                  · simp only [plummetlaw17_ScoreOrder.j2]; rw [if_pos trivial, live_f]; simp only [Option.bind_some, if_true]; rw [if_pos (by omega), decide_eq_true (by omega)]
                · rw [if_pos px] at hvx; rw [if_neg py] at hvy
                  refine Ev.step (f := fun k => plummetlaw17_ScoreOrder.j1 k x y vx vy false) (fun k => ?_) (Ev.step (f := fun k => plummetlaw17_ScoreOrder.j2 k x y vx vy false) (fun k => ?_) (Ev.step (f := fun _ => some true) (fun k => ?_) (Ev.now _)))
                  · simp only [plummetlaw17_ScoreOrder.j0, ex, ey]; rw [if_neg (by simp), if_neg (by omega)]
                  · simp only [plummetlaw17_ScoreOrder.j1, ex, ey]; rw [if_neg (by simp), if_pos px, beq_eq_false_iff_ne.2 py]
                  · simp only [plummetlaw17_ScoreOrder.j2, ex, ey]; rw [if_neg (by simp), live_f]; simp only [Option.bind_some, if_true]; rw [decide_eq_false (by omega), decide_eq_true (by omega), beq_eq_false_iff_ne.2 (show x % 2 ≠ 1 by omega), beq_iff_eq.2 (show y % 2 = 1 by omega)]; rfl
                · rw [if_neg px] at hvx; rw [if_pos py] at hvy
                  refine Ev.step (f := fun k => plummetlaw17_ScoreOrder.j1 k x y vx vy false) (fun k => ?_) (Ev.step (f := fun k => plummetlaw17_ScoreOrder.j2 k x y vx vy false) (fun k => ?_) (Ev.step (f := fun _ => some true) (fun k => ?_) (Ev.now _)))
                  · simp only [plummetlaw17_ScoreOrder.j0, ex, ey]; rw [if_neg (by simp), if_pos (by omega), beq_eq_false_iff_ne.2 (show y % 2 ≠ 1 by omega)]
                  · simp only [plummetlaw17_ScoreOrder.j1, ex, ey]; rw [if_neg (by simp), if_neg px]
                  · simp only [plummetlaw17_ScoreOrder.j2, ex, ey]; rw [if_neg (by simp), live_f]; simp only [Option.bind_some, if_true]; rw [decide_eq_true (by omega), decide_eq_false (by omega), beq_iff_eq.2 (show x % 2 = 1 by omega), beq_eq_false_iff_ne.2 (show y % 2 ≠ 1 by omega)]; rfl
                · rw [if_neg px] at hvx; rw [if_neg py] at hvy
                  refine Ev.step (f := fun k => plummetlaw17_ScoreOrder.j1 k x y vx vy true) (fun k => ?_) (Ev.step (f := fun _ => some true) (fun k => ?_) (Ev.now _))
                  · simp only [plummetlaw17_ScoreOrder.j0, ex, ey]; rw [if_neg (by simp), if_pos (by omega), beq_iff_eq.2 (show y % 2 = 1 by omega)]
                  · simp only [plummetlaw17_ScoreOrder.j1]; rw [if_pos trivial, live_f]; simp only [Option.bind_some, if_true]; rw [if_pos (by omega), decide_eq_true (by omega)]
        · rw [if_neg hp] at h1; cases h1
    · simp only [if_pos h1, if_neg h2]; exact no
  · simp only [if_neg h1]; exact no
end Go.Proofs.Ytbbnnjcdglplkaa.PS
