/-
  The four statements of the layer of scores, as pure ones; conditions: none beyond the statements' own.
-/
import Derived.Test.YtbbnnjcdglplkaaKSx
namespace Go.Proofs.Ytbbnnjcdglplkaa.PS
open Go.RowKit Go.Proofs.Ytbbnnjcdglplkaa.Given Go.Proofs.Ytbbnnjcdglplkaa.KS Go.Proofs.YtbbnnjcdglplkaaW.PrintWords Go.Proofs.YtbbnnjcdglplkaaW.PrintLast
set_option linter.unusedVariables false

def L (s : ByteArray) : List UInt8 := s.data.toList
theorem L_len (s : ByteArray) : (L s).length = s.size := by simp [L]
def B (l : List UInt8) : ByteArray := ⟨l.toArray⟩
theorem L_B (l : List UInt8) : L (B l) = l := by simp [L, B]
theorem B_size (l : List UInt8) : (B l).size = l.length := by rw [← L_len, L_B]
theorem B_app (a b : List UInt8) : B a ++ B b = B (a ++ b) := by
  apply ByteArray.ext; simp [B]
theorem toList_L (s : ByteArray) : s.toList = L s := by rw [L]; exact ByteArray.toList_eq s
theorem decN_small (n : Nat) (h : n < 10) : decN n = [UInt8.ofNat (48 + n)] := by rw [decN, if_pos h]
theorem text_small (n : Nat) (h : n < 10) : (⟨#[48, 49, 50, 51, 52, 53, 54, 55, 56, 57]⟩ : ByteArray).extract n (n + 1) = B (decN n) := by
  rw [decN_small n h]
  have : n = 0 ∨ n = 1 ∨ n = 2 ∨ n = 3 ∨ n = 4 ∨ n = 5 ∨ n = 6 ∨ n = 7 ∨ n = 8 ∨ n = 9 := by omega
  rcases this with rfl | rfl | rfl | rfl | rfl | rfl | rfl | rfl | rfl | rfl <;> rfl
theorem ref_nat (n : Nat) : n < 1000 → Ev (fun k => plummetref01_Text.f k (n : Int)) (B (decN n)) := by
  induction n using Nat.strongRecOn with
  | _ n ih =>
    intro hn
    by_cases h : n < 10
    · refine Ev.step (f := fun _ => some (B (decN n))) (fun k => ?_) (Ev.now _)
      simp only [plummetref01_Text.f]
      have hw : wrap64 ((n : Int) + 1) = (n : Int) + 1 := by unfold wrap64; omega
      rw [if_neg (by omega), if_neg (by omega), if_pos (by omega), hw, if_pos (by omega), if_pos (by omega), if_pos (by omega), ← text_small n h]
      congr 2
    · have h1 := ih (n / 10) (by omega) (by omega)
      have h2 := ih (n % 10) (by omega) (by omega)
      have l1 := (decN_length (n / 10) 19 (by omega)).2 (by omega)
      have l2 := (decN_length (n % 10) 19 (by omega)).2 (by omega)
      refine Ev.step (fun k => ?_) (Ev.bind h1 (f := fun k t => (plummetref01_Text.f k ((n % 10 : Nat) : Int)).bind fun t' => if t.size + t'.size ≤ 9223372036854775807 then some (t ++ t') else none) (Ev.bind h2 (f := fun _ t => if (B (decN (n / 10))).size + t.size ≤ 9223372036854775807 then some (B (decN (n / 10)) ++ t) else none) (Ev.congr (f := fun _ => some (B (decN n))) (fun k => ?_) (Ev.now _))))
      · simp only [plummetref01_Text.f]
        have e1 : wrap64 (Int.tdiv (n : Int) 10) = ((n / 10 : Nat) : Int) := by
          rw [Int.tdiv_eq_ediv_of_nonneg (by omega)]; unfold wrap64; omega
        have e2 : Int.tmod (n : Int) 10 = ((n % 10 : Nat) : Int) := by
          rw [Int.tmod_eq_emod_of_nonneg (by omega)]; omega
        rw [if_neg (by omega), if_neg (by omega), if_neg (by omega), e1, e2]
      · rw [B_size, B_size, if_pos (by omega), B_app]
        congr 2
        rw [decN_small (n % 10) (by omega)]
        exact (by rw [decN, if_neg h] : decN n = _).symm

theorem smay_f (a b st most : Int) : score_may.f a b st most = some (if mayB a b then (if st < 0 ∨ st > most then 3 else 0) else 10) := Given.smay_f a b st most
theorem cells_f (a b : Int) (h : mayB a b = true) : board_Cells.f a b = some (a * b) := Given.cells_f a b h
theorem cells_no (a b : Int) (h : mayB a b = false) : board_Cells.f a b = some 0 := Given.cells_no a b h
theorem range_f (a b : Int) (h : mayB a b = true) : score_Range.f a b = some (-(a * b / 2), (a * b + 1) / 2) := Given.range_f a b h
theorem refmay_f (a b : Int) : plummetref06_May.f a b = some (mayB a b) := Given.refmay_f a b
theorem worth_f (a b m : Int) (h : mayB a b = true) (h0 : 0 ≤ m) (h1 : m ≤ a * b) : plummetref17_worth.f a b m = some ((a * b + 1 - m) / 2) := Given.worth_f a b m h h0 h1
/-- The score of who wins with the next stone. -/
def winF (a b st : Int) : Int × Int := if mayB a b then (if st < 0 ∨ st ≥ a * b then (0, 3) else ((a * b + 1 - st) / 2, 0)) else (0, 10)
theorem win_f (a b st : Int) : score_Win.f a b st = some (winF a b st) := by
  unfold score_Win.f winF
  by_cases hp : mayB a b = true
  · rw [cells_f a b hp]
    obtain ⟨b1, b2, b3, b4, b5, b6⟩ := may_bd a b hp
    generalize a * b = c at *
    simp only [Option.bind_some]
    have hw : wrap64 (c - 1) = c - 1 := by unfold wrap64; omega
    rw [smay_f, hp, hw]
    simp only [Option.bind_some, if_true]
    by_cases h1 : st < 0 ∨ st ≥ c
    · rw [if_pos h1, if_pos (show st < 0 ∨ st > c - 1 by omega)]; rfl
    · rw [if_neg h1, if_neg (show ¬ (st < 0 ∨ st > c - 1) by omega)]
      simp only [if_true]
      have e1 : wrap64 (wrap64 (c + 1) - st) = c + 1 - st := by unfold wrap64; omega
      rw [e1, Int.tdiv_eq_ediv_of_nonneg (by omega)]
      congr 2; unfold wrap64; omega
  · have hp : mayB a b = false := by simpa using hp
    rw [cells_no a b hp]
    simp only [Option.bind_some]
    rw [smay_f, hp]; rfl
theorem refwin_f (a b st : Int) : plummetref17_Win.f a b st = some (winF a b st) := by
  unfold plummetref17_Win.f winF
  rw [refmay_f]
  by_cases hp : mayB a b = true
  · rw [hp]
    obtain ⟨b1, b2, b3, b4, b5, b6⟩ := may_bd a b hp
    have hw : wrap64 (a * b) = a * b := by unfold wrap64; omega
    simp only [Option.bind_some, if_true, hw]
    by_cases h1 : st < 0
    · rw [if_pos h1, if_pos (Or.inl h1)]
    · by_cases h2 : st ≥ a * b
      · rw [if_neg h1, if_pos h2, if_pos (Or.inr h2)]
      · rw [if_neg h1, if_neg h2, if_neg (by omega), worth_f a b st hp (by omega) (by omega)]; rfl
  · have hp : mayB a b = false := by simpa using hp
    rw [hp]; rfl
/-- What is found is a small number. -/
theorem rGo_bd (c st s : Int) : ∀ (d : Nat) (m : Int), st ≤ m → m + d ≤ st + 100 → (rGo c st s d m).2 = 0 → 1 ≤ (rGo c st s d m).1 ∧ (rGo c st s d m).1 ≤ 100 := by
  intro d
  induction d with
  | zero => intro m _ _ h; cases h
  | succ d ih =>
    intro m h1 h2 h
    simp only [rGo] at h ⊢
    split at h
    · rename_i hh; rw [if_pos hh]; simp only; omega
    · rename_i hh; rw [if_neg hh]; exact ih (m + 1) (by omega) (by omega) h
theorem plies_bd (a b st s : Int) (h : (refPlies a b st s).2 = 0) : 0 ≤ (refPlies a b st s).1 ∧ (refPlies a b st s).1 ≤ 100 := by
  unfold refPlies at h ⊢
  by_cases hp : mayB a b = true
  · obtain ⟨b1, b2, b3, b4, b5, b6⟩ := may_bd a b hp
    rw [if_pos hp] at h ⊢
    by_cases h1 : st < 0 ∨ st > a * b
    · rw [if_pos h1] at h; cases h
    · rw [if_neg h1] at h ⊢
      by_cases h2 : s = 0
      · rw [if_pos h2]; simp only; omega
      · rw [if_neg h2] at h ⊢
        have := rGo_bd _ _ _ _ _ (Int.le_refl _) (by omega) h; omega
  · rw [if_neg hp] at h; cases h
theorem text_ev (a b st s : Int) : ∃ r, score_Text.f a b st s = some r ∧ Ev (fun k => plummetref17_Text.f k a b st s) r := by
  unfold score_Text.f plummetref17_Text.f
  have hP : plummetref17_Plies.f a b st s = some (refPlies a b st s) := rfl
  rw [hP]
  simp only [Option.bind_some]
  by_cases he : (refPlies a b st s).2 = 0
  · obtain ⟨n0, n1⟩ := plies_bd a b st s he
    simp only [if_pos he]
    generalize hn : (refPlies a b st s).1 = n at *
    have ht : digits_Text.f n = some (B (decN n.natAbs)) := by
      unfold digits_Text.f; rw [if_pos (by omega)]
      unfold decL; rw [if_neg (by omega)]; rfl
    have hl := (decN_length n.natAbs 19 (by omega)).2 (by omega)
    have hr := ref_nat n.natAbs (by omega)
    rw [show ((n.natAbs : Nat) : Int) = n by omega] at hr
    refine ⟨(wordOf s ++ B (decN n.natAbs), 0), by rw [ht]; simp only [Option.bind_some]; rw [if_pos (by rewrite [B_size]; omega)], ?_⟩
    have hsz : (B (decN n.natAbs)).size ≤ 19 := by rewrite [B_size]; exact hl
    unfold wordOf
    by_cases h1 : s > 0
    · simp only [if_pos h1]
      refine Ev.bind hr (Ev.congr (fun k => ?_) (Ev.now _))
      rw [if_pos (by omega)]
    · by_cases h2 : s < 0
      · simp only [if_neg h1, if_pos h2]
        refine Ev.bind hr (Ev.congr (fun k => ?_) (Ev.now _))
        rw [if_pos (by omega)]
      · simp only [if_neg h1, if_neg h2]
        refine Ev.bind hr (Ev.congr (fun k => ?_) (Ev.now _))
        rw [if_pos (by omega)]
  · simp only [if_neg he]
    exact ⟨_, rfl, Ev.now _⟩
theorem live_f : plummetlaw17_live.f = some true := by
  have hm : mayB 7 6 = true := by decide
  have h1 : refPlies 7 6 0 1 = (41, 0) := by decide
  have h2 : score_Text.f 7 6 0 1 = some (B [119, 105, 110, 32, 105, 110, 32, 52, 49], 0) := by
    unfold score_Text.f
    rw [h1, if_pos rfl]
    have ht : digits_Text.f 41 = some (B [52, 49]) := by
      unfold digits_Text.f; rw [if_pos (by omega)]
      unfold decL; rw [if_neg (by omega), show (41 : Int).natAbs = 41 from rfl, decN, if_neg (by omega), decN, if_pos (by omega)]; rfl
    rw [ht]; rfl
  have h3 : winF 7 6 6 = (18, 0) := by decide
  unfold plummetlaw17_live.f
  rw [show Given.score_Plies.f 7 6 0 1 = some (refPlies 7 6 0 1) from rfl, h1, win_f, h3, h2, range_f 7 6 hm]
  simp only [Option.bind_some, toList_L, L_B]
  rfl
theorem wins (a b st s : Int) : ∃ k, plummetlaw17_ScoreWins.f k a b st s = some true := by
  refine Ev.rounds (g := fun k => plummetlaw17_ScoreWins.f k a b st s) ?_
  unfold plummetlaw17_ScoreWins.f
  obtain ⟨r, h1, h2⟩ := text_ev a b st s
  rw [win_f, refwin_f, show Given.score_Plies.f a b st s = some (refPlies a b st s) from rfl, show plummetref17_Plies.f a b st s = some (refPlies a b st s) from rfl, h1, live_f]
  simp only [Option.bind_some]
  refine Ev.bind h2 ?_
  simp only [if_true]
  exact Ev.congr (fun k => by simp) (Ev.now _)
end Go.Proofs.Ytbbnnjcdglplkaa.PS
