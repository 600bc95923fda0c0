/-
  What score.Plies answers: just what the reference does; conditions: numbers of 64 bits.
-/
import Derived.Test.YtbbnnjcdglplkaaScore
namespace Go.Proofs.Ytbbnnjcdglplkaa.Given
open Go.RowKit Go.Proofs.YtbbnnjcdglplkaaW.PrintWords Go.Proofs.Ytbbnnjcdglplkaa.Base Go.Proofs.Ytbbnnjcdglplkaa.KS0
set_option linter.unusedVariables false

theorem rGo_none (c st s : Int) : ∀ (d : Nat) (m : Int), (∀ j : Nat, j < d → rHit c st s (m + j) = false) → rGo c st s d m = (0, 18) := by
  intro d
  induction d with
  | zero => intro m _; rfl
  | succ d ih =>
    intro m h
    simp only [rGo]
    have h0 := h 0 (by omega)
    rw [show m + ((0 : Nat) : Int) = m by omega] at h0
    rw [h0, if_neg (by simp), ih (m + 1) (fun j hj => by rw [show m + 1 + (j : Int) = m + ((j + 1 : Nat) : Int) by omega]; exact h (j + 1) (by omega))]
theorem rGo_hit (c st s : Int) : ∀ (d : Nat) (m : Int) (j : Nat), j < d → rHit c st s (m + j) = true → (∀ i : Nat, i < j → rHit c st s (m + i) = false) → rGo c st s d m = (m + j + 1 - st, 0) := by
  intro d
  induction d with
  | zero => intro m j h; omega
  | succ d ih =>
    intro m j hj h1 h2
    simp only [rGo]
    by_cases hj0 : j = 0
    · subst hj0
      rw [show m + ((0 : Nat) : Int) = m by omega] at h1 ⊢
      rw [if_pos h1]
    · have h0 := h2 0 (by omega)
      rw [show m + ((0 : Nat) : Int) = m by omega] at h0
      rw [h0, if_neg (by simp), ih (m + 1) (j - 1) (by omega) (by rw [show m + 1 + ((j - 1 : Nat) : Int) = m + (j : Int) by omega]; exact h1) (fun i hi => by rw [show m + 1 + (i : Int) = m + ((i + 1 : Nat) : Int) by omega]; exact h2 (i + 1) (by omega))]
      congr 1; omega
theorem cells_f (a b : Int) (h : mayB a b = true) : board_Cells.f a b = some (a * b) := by
  have hb := may_bd a b h
  unfold board_Cells.f board_May.f board_side.f
  have e1 : decide (a ≤ 8) = true := decide_eq_true hb.2.1
  have e2 : decide (b ≤ 8) = true := decide_eq_true (by omega)
  rw [if_pos (by omega), e1]
  simp only [Option.bind_some, if_true]
  rw [if_pos (by omega), e2]
  simp only [Option.bind_some, if_true]
  congr 1
  unfold wrap64; omega
theorem may_f (a b : Int) : board_May.f a b = some (mayB a b) := by
  unfold board_May.f board_side.f mayB
  by_cases h1 : a ≥ 4 <;> by_cases h2 : a ≤ 8 <;> by_cases h3 : b ≥ 4 <;> by_cases h4 : b ≤ 8 <;> simp [h1, h2, h3, h4] <;> omega
theorem cells_no (a b : Int) (h : mayB a b = false) : board_Cells.f a b = some 0 := by
  unfold board_Cells.f; rw [may_f, h]; rfl
theorem range_f (a b : Int) (h : mayB a b = true) : score_Range.f a b = some (-(a * b / 2), (a * b + 1) / 2) := by
  have hb := may_bd a b h
  unfold score_Range.f
  rw [cells_f a b h]
  generalize a * b = c at *
  simp only [Option.bind_some]
  rw [Int.tdiv_eq_ediv_of_nonneg (by omega), show wrap64 (c + 1) = c + 1 by unfold wrap64; omega, Int.tdiv_eq_ediv_of_nonneg (by omega)]
  congr 2
  · unfold wrap64; omega
  · unfold wrap64; omega
theorem smay_f (a b st most : Int) : score_may.f a b st most = some (if mayB a b then (if st < 0 ∨ st > most then 3 else 0) else 10) := by
  unfold score_may.f
  rw [may_f]
  simp only [Option.bind_some]
  by_cases h : mayB a b = true
  · simp only [h, if_true]
    by_cases h1 : st < 0
    · simp [h1]
    · by_cases h2 : st > most <;> simp [h1, h2]
  · simp [h]
theorem l0_ev (st s c first : Int) (hs : 0 < s) (hs2 : s ≤ (c + 1) / 2) (h0 : 0 ≤ st) (h1 : st ≤ c) (hc : 16 ≤ c) (hc2 : c ≤ 64) (hf : first = st ∨ first = st + 1) (m : Int) (hm : 0 ≤ m) (hm2 : m ≤ 100) (r : Int × Int)
    (hgo : (m > c + 1 - 2 * s ∧ r = (0, 18)) ∨ (m ≤ c + 1 - 2 * s ∧ (m ≥ first ∧ m < c ∧ (m - first) % 2 = 0) ∧ r = (m + 1 - st, 0)) ∨ (m ≤ c + 1 - 2 * s ∧ ¬ (m ≥ first ∧ m < c ∧ (m - first) % 2 = 0) ∧ Ev (fun k => score_Plies.l0 k st s c first (m + 1)) r)) : Ev (fun k => score_Plies.l0 k st s c first m) r := by
  have e2 : wrap64 (wrap64 (c + 1) - wrap64 (2 * s)) = c + 1 - 2 * s := by
    have : wrap64 (2 * s) = 2 * s := by unfold wrap64; omega
    rw [this, show wrap64 (c + 1) = c + 1 by unfold wrap64; omega]; unfold wrap64; omega
  have e3 : wrap64 (m + 1) = m + 1 := by clear e2; unfold wrap64; omega
  have e4 : wrap64 (m + 1 - st) = m + 1 - st := by clear e2 e3; unfold wrap64; omega
  have e5 : wrap64 (m - first) = m - first := by clear e2 e3 e4; unfold wrap64; omega
  rcases hgo with ⟨g1, rfl⟩ | ⟨g1, g2, rfl⟩ | ⟨g1, g2, g3⟩
  · refine Ev.step (f := fun _ => some (0, 18)) (fun k => ?_) (Ev.now _)
    simp only [score_Plies.l0, e2]
    rw [if_neg (show ¬ m ≤ c + 1 - 2 * s from Int.not_le.2 g1)]
  · refine Ev.step (f := fun _ => some (m + 1 - st, 0)) (fun k => ?_) (Ev.now _)
    simp only [score_Plies.l0, e2, e3, e4, e5]
    have g3 : Int.tmod (m - first) 2 = 0 := by
      rw [Int.tmod_eq_emod_of_nonneg (Int.sub_nonneg.2 g2.1)]; exact g2.2.2
    rw [if_pos g1, if_pos g2.1, if_pos g2.2.1, if_pos g3]
  · refine Ev.step (fun k => ?_) g3
    simp only [score_Plies.l0, e2, e3, e4, e5]
    rw [if_pos g1]
    by_cases h5 : m ≥ first
    · rw [if_pos h5]
      by_cases h6 : m < c
      · rw [if_pos h6]
        have g4 : ¬ Int.tmod (m - first) 2 = 0 := by
          rw [Int.tmod_eq_emod_of_nonneg (Int.sub_nonneg.2 h5)]; exact fun h => g2 ⟨h5, h6, h⟩
        rw [if_neg g4]
      · rw [if_neg h6]
    · rw [if_neg h5]
/-- Both m with this score: the one that is even from 'first' on. -/
theorem two_ev (st s c first : Int) (hs : 0 < s) (hs2 : s ≤ (c + 1) / 2) (h0 : 0 ≤ st) (h1 : st ≤ c) (hc : 16 ≤ c) (hc2 : c ≤ 64) (hf : first = st ∨ first = st + 1) :
    Ev (fun k => score_Plies.j1 k st s c first) (if (c - 2 * s ≥ first ∧ c - 2 * s < c ∧ (c - 2 * s - first) % 2 = 0) then (c - 2 * s + 1 - st, 0) else if (c - 2 * s + 1 ≥ first ∧ c - 2 * s + 1 < c ∧ (c - 2 * s + 1 - first) % 2 = 0) then (c - 2 * s + 1 + 1 - st, 0) else (0, 18)) := by
  have e1 : wrap64 (c - wrap64 (2 * s)) = c - 2 * s := by
    have : wrap64 (2 * s) = 2 * s := by unfold wrap64; omega
    rw [this]; unfold wrap64; omega
  have key : Ev (fun k => score_Plies.l0 k st s c first (c - 2 * s + 1)) (if (c - 2 * s + 1 ≥ first ∧ c - 2 * s + 1 < c ∧ (c - 2 * s + 1 - first) % 2 = 0) then (c - 2 * s + 1 + 1 - st, 0) else (0, 18)) := by
    have hneg : 0 ≤ c - 2 * s + 1 := by clear e1; omega
    have hle : c - 2 * s + 1 ≤ 100 := by clear e1; omega
    have hle2 : c - 2 * s + 1 + 1 ≤ 100 := by clear e1; omega
    by_cases h : c - 2 * s + 1 ≥ first ∧ c - 2 * s + 1 < c ∧ (c - 2 * s + 1 - first) % 2 = 0
    · rw [if_pos h]
      exact l0_ev st s c first hs hs2 h0 h1 hc hc2 hf _ hneg hle _ (.inr (.inl ⟨by clear e1; omega, h, rfl⟩))
    · rw [if_neg h]
      exact l0_ev st s c first hs hs2 h0 h1 hc hc2 hf _ hneg hle _ (.inr (.inr ⟨by clear e1; omega, h, l0_ev st s c first hs hs2 h0 h1 hc hc2 hf _ (by clear e1; omega) hle2 _ (.inl ⟨by clear e1; omega, rfl⟩)⟩))
  refine Ev.step (f := fun k => score_Plies.l0 k st s c first (c - 2 * s)) (fun k => by simp only [score_Plies.j1, e1]) ?_
  clear e1
  by_cases hlow : 0 ≤ c - 2 * s
  · by_cases h : c - 2 * s ≥ first ∧ c - 2 * s < c ∧ (c - 2 * s - first) % 2 = 0
    · rw [if_pos h]
      exact l0_ev st s c first hs hs2 h0 h1 hc hc2 hf _ hlow (by omega) _ (.inr (.inl ⟨by omega, h, rfl⟩))
    · rw [if_neg h]
      exact l0_ev st s c first hs hs2 h0 h1 hc hc2 hf _ hlow (by omega) _ (.inr (.inr ⟨by omega, h, key⟩))
  · have hm : c - 2 * s = -1 := by omega
    have h : ¬ (c - 2 * s ≥ first ∧ c - 2 * s < c ∧ (c - 2 * s - first) % 2 = 0) := by omega
    rw [if_neg h]
    refine Ev.step (fun k => ?_) key
    have e2 : wrap64 (wrap64 (c + 1) - wrap64 (2 * s)) = c + 1 - 2 * s := by
      have : wrap64 (2 * s) = 2 * s := by unfold wrap64; omega
      rw [this, show wrap64 (c + 1) = c + 1 by unfold wrap64; omega]; unfold wrap64; omega
    have e3 : wrap64 (c - 2 * s + 1) = c - 2 * s + 1 := by clear e2; unfold wrap64; omega
    have g1 : c - 2 * s ≤ c + 1 - 2 * s := by clear e2 e3; omega
    have g2 : ¬ c - 2 * s ≥ first := by clear e2 e3; omega
    simp only [score_Plies.l0, e2, e3]
    rw [if_pos g1, if_neg g2]
theorem rHit_iff (c st s m : Int) : rHit c st s m = true ↔ (((m - st) % 2 = 0 ∧ s = (c + 1 - m) / 2) ∨ (¬ (m - st) % 2 = 0 ∧ s = -((c + 1 - m) / 2))) := by
  unfold rHit; exact decide_eq_true_iff
theorem rHit_no (c st s m : Int) (h : ¬ (((m - st) % 2 = 0 ∧ s = (c + 1 - m) / 2) ∨ (¬ (m - st) % 2 = 0 ∧ s = -((c + 1 - m) / 2)))) : rHit c st s m = false := by
  cases e : rHit c st s m with
  | true => exact absurd ((rHit_iff ..).1 e) h
  | false => rfl
/-- What the reference's search finds: one of two. -/
theorem rGo_two (st s c s' first : Int) (hs' : 0 < s') (hs2 : s' ≤ (c + 1) / 2) (h0 : 0 ≤ st) (h1 : st ≤ c) (hc : 16 ≤ c) (hc2 : c ≤ 64) (hsf : (s = s' ∧ first = st) ∨ (s = -s' ∧ first = st + 1)) :
    rGo c st s (c - st).toNat st = (if (c - 2 * s' ≥ first ∧ c - 2 * s' < c ∧ (c - 2 * s' - first) % 2 = 0) then (c - 2 * s' + 1 - st, 0) else if (c - 2 * s' + 1 ≥ first ∧ c - 2 * s' + 1 < c ∧ (c - 2 * s' + 1 - first) % 2 = 0) then (c - 2 * s' + 1 + 1 - st, 0) else (0, 18)) := by
  have hit : ∀ m, st ≤ m → m < c → (rHit c st s m = true ↔ (first ≤ m ∧ (m - first) % 2 = 0 ∧ c - 2 * s' ≤ m ∧ m ≤ c - 2 * s' + 1)) := by
    intro m hm1 hm2
    rw [rHit_iff]
    rcases hsf with ⟨e1, e2⟩ | ⟨e1, e2⟩ <;> subst e1 <;> subst e2 <;> omega
  have miss : ∀ m, st ≤ m → m < c → ¬ (first ≤ m ∧ (m - first) % 2 = 0 ∧ c - 2 * s' ≤ m ∧ m ≤ c - 2 * s' + 1) → rHit c st s m = false := by
    intro m hm1 hm2 h
    cases e : rHit c st s m with
    | true => exact absurd ((hit m hm1 hm2).1 e) h
    | false => rfl
  have hfs : st ≤ first := by omega
  by_cases a1 : c - 2 * s' ≥ first ∧ c - 2 * s' < c ∧ (c - 2 * s' - first) % 2 = 0
  · rw [if_pos a1]
    have e : st + (((c - 2 * s' - st).toNat : Nat) : Int) = c - 2 * s' := by omega
    rw [rGo_hit c st s _ _ (c - 2 * s' - st).toNat (by omega) (by rw [e]; exact (hit _ (by omega) (by omega)).2 ⟨by omega, by omega, by omega, by omega⟩) (fun i hi => miss _ (by omega) (by omega) (by omega)), e]
  · rw [if_neg a1]
    by_cases a2 : c - 2 * s' + 1 ≥ first ∧ c - 2 * s' + 1 < c ∧ (c - 2 * s' + 1 - first) % 2 = 0
    · rw [if_pos a2]
      have e : st + (((c - 2 * s' + 1 - st).toNat : Nat) : Int) = c - 2 * s' + 1 := by omega
      rw [rGo_hit c st s _ _ (c - 2 * s' + 1 - st).toNat (by omega) (by rw [e]; exact (hit _ (by omega) (by omega)).2 ⟨by omega, by omega, by omega, by omega⟩) (fun i hi => miss _ (by omega) (by omega) (by omega)), e]
    · rw [if_neg a2]
      exact rGo_none c st s _ _ (fun i hi => miss _ (by omega) (by omega) (by omega))
theorem rGo_out (st s c : Int) (h0 : 0 ≤ st) (h1 : st ≤ c) (hs : s < -(c / 2) ∨ s > (c + 1) / 2) : rGo c st s (c - st).toNat st = (0, 18) :=
  rGo_none c st s _ _ (fun i hi => rHit_no _ _ _ _ (by omega))
theorem plies_ev (a b st s : Int) : Ev (fun k => score_Plies.f k a b st s) (refPlies a b st s) := by
  unfold score_Plies.f refPlies
  by_cases hp : mayB a b = true
  · rw [cells_f a b hp, range_f a b hp]
    have hb := may_bd a b hp
    obtain ⟨b1, b2, b3, b4, b5, b6⟩ := hb
    generalize a * b = c at *
    simp only [Option.bind_some]
    rw [smay_f, hp]
    simp only [Option.bind_some, if_true]
    by_cases h1 : st < 0 ∨ st > c
    · rw [if_pos h1, if_pos h1]
      exact Ev.congr (f := fun _ => some (0, 3)) (fun k => by simp) (Ev.now _)
    · rw [if_neg h1, if_neg h1]
      simp only [if_true]
      by_cases h2 : s < -(c / 2) ∨ s > (c + 1) / 2
      · have hs0 : ¬ s = 0 := by omega
        rw [if_neg hs0, rGo_out st s c (by omega) (by omega) h2]
        refine Ev.congr (f := fun k => score_Plies.j0 k st s c st true) (fun k => ?_) (Ev.step (f := fun _ => some (0, 18)) (fun k => ?_) (Ev.now _))
        · rcases h2 with h2 | h2
          · rw [if_pos h2]
          · by_cases h3 : s < -(c / 2)
            · rw [if_pos h3]
            · rw [if_neg h3, decide_eq_true h2]
        · simp only [score_Plies.j0]; rw [if_pos trivial]
      · have h3 : ¬ s < -(c / 2) := fun h => h2 (.inl h)
        have h4 : ¬ s > (c + 1) / 2 := fun h => h2 (.inr h)
        simp only [if_neg h3, decide_eq_false h4]
        by_cases hs0 : s = 0
        · rw [if_pos hs0]
          refine Ev.step (f := fun _ => some (c - st, 0)) (fun k => ?_) (Ev.now _)
          simp only [score_Plies.j0]
          rw [if_neg (by simp), if_pos hs0, show wrap64 (c - st) = c - st by unfold wrap64; omega]
        · rw [if_neg hs0]
          by_cases hs1 : s < 0
          · have e1 : wrap64 (-s) = -s := by unfold wrap64; omega
            have e2 : wrap64 (st + 1) = st + 1 := by clear e1; unfold wrap64; omega
            rw [rGo_two st s c (-s) (st + 1) (by clear e1 e2; omega) (by clear e1 e2; omega) (by clear e1 e2; omega) (by clear e1 e2; omega) b5 b6 (.inr ⟨by clear e1 e2; omega, rfl⟩)]
            refine Ev.step (fun k => ?_) (two_ev st (-s) c (st + 1) (by clear e1 e2; omega) (by clear e1 e2; omega) (by clear e1 e2; omega) (by clear e1 e2; omega) b5 b6 (.inr rfl))
            simp only [score_Plies.j0, e1, e2]
            rw [if_neg (by simp), if_neg hs0, if_pos hs1]
          · rw [rGo_two st s c s st (by omega) (by omega) (by omega) (by omega) b5 b6 (.inl ⟨rfl, rfl⟩)]
            refine Ev.step (fun k => ?_) (two_ev st s c st (by omega) (by omega) (by omega) (by omega) b5 b6 (.inl rfl))
            simp only [score_Plies.j0]
            rw [if_neg (by simp), if_neg hs0, if_neg hs1]
  · have hp : mayB a b = false := by simpa using hp
    rw [cells_no a b hp]
    simp only [Option.bind_some]
    rw [smay_f, hp]
    exact Ev.congr (f := fun _ => some (0, 10)) (fun k => by simp) (Ev.now _)
/-- score.Plies, given to the print in its plain form. -/
def score_Plies.f (a b st s : Int) : Option (Int × Int) := some (refPlies a b st s)
theorem score_Plies.calls (a0_0 : Int) (a0_1 : Int) (a1 : Int) (a2 : Int) (r1 : Int) (r2 : Int) (w : World) (h : Given.score_Plies.f a0_0 a0_1 a1 a2 = some (r1, r2)) :
    Calls Try.prog 33 #[.agg #[.int .i64 a0_0, .int .i64 a0_1], .int .i64 a1, .int .i64 a2] w fun e w' => e = .returned (.tuple #[.int .i64 r1, .int .i64 r2]) ∧ Below w.heap.size w w' := by
  obtain ⟨k, hk⟩ := (plies_ev a0_0 a0_1 a1 a2).rounds
  rw [Option.some.inj h] at hk
  exact KS0.score_Plies.calls k a0_0 a0_1 a1 a2 r1 r2 w hk
end Go.Proofs.Ytbbnnjcdglplkaa.Given
