/-
  The pure statements of the laws of plane; conditions: none.
-/
import Derived.Test.YtoaejpjgicnfoaaPP2
namespace Go.Proofs.Ytoaejpjgicnfoaa.KP
open Go.RowKit Go.Proofs.YtoaejpjgicnfoaaW.PrintWords Go.Proofs.Ytoaejpjgicnfoaa.Given Go.Proofs.Ytoaejpjgicnfoaa.KP0
set_option linter.unusedVariables false

theorem way_back (x y u v d n : Int) (h : wayF x y u v = (d, n, true)) : stepF x y d n = (u, v, 0) := by
  unfold wayF at h
  split at h
  · rename_i hm
    rw [wayGo_plain] at h
    unfold wayP at h
    have key : ∀ d' n', (d', n', true) = (d, n, true) → (0 ≤ d' ∧ d' ≤ 7 ∧ (0 < n' ∧ n' ≤ 2000) ∧ u = x + n' * (unitF d').1 ∧ v = y + n' * (unitF d').2) → stepF x y d n = (u, v, 0) := by
      intro d' n' he hh
      have e1 := Prod.mk.inj he
      have e2 := Prod.mk.inj e1.2
      rw [← e1.1, ← e2.1, stepF_some x y d' n' hh.1 hh.2.1 (by omega) hm.1 (by rw [← hh.2.2.2.1, ← hh.2.2.2.2]; omega), ← hh.2.2.2.1, ← hh.2.2.2.2]
    have u0 : unitF 0 = (1, 0) := rfl
    have u1 : unitF 1 = (1, 1) := rfl
    have u2 : unitF 2 = (0, 1) := rfl
    have u3 : unitF 3 = (-1, 1) := rfl
    have u4 : unitF 4 = (-1, 0) := rfl
    have u5 : unitF 5 = (-1, -1) := rfl
    have u6 : unitF 6 = (0, -1) := rfl
    have u7 : unitF 7 = (1, -1) := rfl
    split at h
    · exact key _ _ h (by rw [u0]; dsimp only; omega)
    split at h
    · exact key _ _ h (by rw [u1]; dsimp only; omega)
    split at h
    · exact key _ _ h (by rw [u2]; dsimp only; omega)
    split at h
    · exact key _ _ h (by rw [u3]; dsimp only; omega)
    split at h
    · exact key _ _ h (by rw [u4]; dsimp only; omega)
    split at h
    · exact key _ _ h (by rw [u5]; dsimp only; omega)
    split at h
    · exact key _ _ h (by rw [u6]; dsimp only; omega)
    split at h
    · exact key _ _ h (by rw [u7]; dsimp only; omega)
    · cases h
  · cases h
theorem step_way (x y d n a b : Int) (h : stepF x y d n = (a, b, 0)) (hn : 1 ≤ n) : wayF x y a b = (d, n, true) := by
  obtain ⟨h0, h7, hb, hm, ea, eb, hr⟩ := stepF_inv _ _ _ _ _ _ h
  have hd : d = 0 ∨ d = 1 ∨ d = 2 ∨ d = 3 ∨ d = 4 ∨ d = 5 ∨ d = 6 ∨ d = 7 := by omega
  unfold wayF
  have u0 : unitF 0 = (1, 0) := rfl
  have u1 : unitF 1 = (1, 1) := rfl
  have u2 : unitF 2 = (0, 1) := rfl
  have u3 : unitF 3 = (-1, 1) := rfl
  have u4 : unitF 4 = (-1, 0) := rfl
  have u5 : unitF 5 = (-1, -1) := rfl
  have u6 : unitF 6 = (0, -1) := rfl
  have u7 : unitF 7 = (1, -1) := rfl
  rcases hd with rfl | rfl | rfl | rfl | rfl | rfl | rfl | rfl
  · rw [u0] at ea eb; dsimp only at ea eb
    rw [if_pos ⟨hm, hr, by omega⟩, wayGo_plain]; unfold wayP
    rw [if_pos (by omega), show a - x = n by omega]
  · rw [u1] at ea eb; dsimp only at ea eb
    rw [if_pos ⟨hm, hr, by omega⟩, wayGo_plain]; unfold wayP
    rw [if_neg (by omega), if_pos (by omega), show a - x = n by omega]
  · rw [u2] at ea eb; dsimp only at ea eb
    rw [if_pos ⟨hm, hr, by omega⟩, wayGo_plain]; unfold wayP
    rw [if_neg (by omega), if_neg (by omega), if_pos (by omega), show b - y = n by omega]
  · rw [u3] at ea eb; dsimp only at ea eb
    rw [if_pos ⟨hm, hr, by omega⟩, wayGo_plain]; unfold wayP
    rw [if_neg (by omega), if_neg (by omega), if_neg (by omega), if_pos (by omega), show b - y = n by omega]
  · rw [u4] at ea eb; dsimp only at ea eb
    rw [if_pos ⟨hm, hr, by omega⟩, wayGo_plain]; unfold wayP
    rw [if_neg (by omega), if_neg (by omega), if_neg (by omega), if_neg (by omega), if_pos (by omega), show -(a - x) = n by omega]
  · rw [u5] at ea eb; dsimp only at ea eb
    rw [if_pos ⟨hm, hr, by omega⟩, wayGo_plain]; unfold wayP
    rw [if_neg (by omega), if_neg (by omega), if_neg (by omega), if_neg (by omega), if_neg (by omega), if_pos (by omega), show -(a - x) = n by omega]
  · rw [u6] at ea eb; dsimp only at ea eb
    rw [if_pos ⟨hm, hr, by omega⟩, wayGo_plain]; unfold wayP
    rw [if_neg (by omega), if_neg (by omega), if_neg (by omega), if_neg (by omega), if_neg (by omega), if_neg (by omega), if_pos (by omega), show -(b - y) = n by omega]
  · rw [u7] at ea eb; dsimp only at ea eb
    rw [if_pos ⟨hm, hr, by omega⟩, wayGo_plain]; unfold wayP
    rw [if_neg (by omega), if_neg (by omega), if_neg (by omega), if_neg (by omega), if_neg (by omega), if_neg (by omega), if_neg (by omega), if_pos (by omega), show -(b - y) = n by omega]
theorem bnot_refl (x y : Int) : (!(x == x) || !(y == y)) = false := by simp
theorem steps (x y d n : Int) : ∃ k, plummetlaw05_PlaneSteps.f k x y d n = some true := by
  refine Ev.rounds ?_
  obtain ⟨⟨a, b, e⟩, hs⟩ : ∃ t, stepF x y d n = t := ⟨_, rfl⟩
  have h1 : plane_Step.f x y d n = some (a, b, e) := by unfold plane_Step.f; rw [hs]
  have h2 := rstep x y d n
  rw [hs] at h2
  have hmay : plane_May.f x y = plummetref05_May.f x y := rfl
  obtain ⟨m, hm⟩ : ∃ m, plummetref05_May.f x y = some m := by
    by_cases h : -1000 ≤ x ∧ x ≤ 1000 ∧ -1000 ≤ y ∧ y ≤ 1000
    · exact ⟨_, rmay_t x y h⟩
    · exact ⟨_, rmay_f x y h⟩
  unfold plummetlaw05_PlaneSteps.f
  simp only [h1, Option.bind_some]
  refine Ev.bind h2 ?_
  dsimp only
  simp only [bnot_refl, hmay, hm, Option.bind_some, bne_self_eq_false, if_true, Bool.false_eq_true, if_false]
  by_cases he : e = 0
  · subst he
    by_cases hn : n < 1
    · refine Ev.step (f := fun k => plummetlaw05_PlaneSteps.j1 k d n true x y a b) (fun k => ?_) (Ev.step (f := fun _ => some true) (fun k => ?_) (Ev.now _))
      · simp only [plummetlaw05_PlaneSteps.j0]; rw [if_neg (by simp), if_pos trivial, decide_eq_true hn]
      · simp only [plummetlaw05_PlaneSteps.j1]; rw [if_pos trivial, rlive]; rfl
    · have hw : plane_Way.f x y a b = some (d, n, true) := by unfold plane_Way.f; rw [step_way x y d n a b hs (by omega)]
      refine Ev.step (f := fun k => plummetlaw05_PlaneSteps.j1 k d n false x y a b) (fun k => ?_) (Ev.step (f := fun _ => some true) (fun k => ?_) (Ev.now _))
      · simp only [plummetlaw05_PlaneSteps.j0]; rw [if_neg (by simp), if_pos trivial, decide_eq_false hn]
      · simp only [plummetlaw05_PlaneSteps.j1]; rw [if_neg (by simp), hw, rlive]; simp
  · refine Ev.step (f := fun k => plummetlaw05_PlaneSteps.j1 k d n true x y a b) (fun k => ?_) (Ev.step (f := fun _ => some true) (fun k => ?_) (Ev.now _))
    · simp only [plummetlaw05_PlaneSteps.j0]; rw [if_neg (by simp), if_neg he]
    · simp only [plummetlaw05_PlaneSteps.j1]; rw [if_pos trivial, rlive]; rfl
theorem ways (x y u v : Int) : ∃ k, plummetlaw05_PlaneWays.f k x y u v = some true := by
  refine Ev.rounds ?_
  obtain ⟨⟨d, n, ok⟩, hs⟩ : ∃ t, wayF x y u v = t := ⟨_, rfl⟩
  have h1 : plane_Way.f x y u v = some (d, n, ok) := by unfold plane_Way.f; rw [hs]
  have h2 := rway x y u v
  rw [hs] at h2
  unfold plummetlaw05_PlaneWays.f
  simp only [h1, Option.bind_some]
  refine Ev.bind h2 ?_
  dsimp only
  simp only [bne_self_eq_false, if_true]
  cases ok with
  | true =>
    have hw : plane_Step.f x y d n = some (u, v, 0) := by unfold plane_Step.f; rw [way_back x y u v d n hs]
    refine Ev.step (f := fun _ => some true) (fun k => ?_) (Ev.now _)
    simp only [plummetlaw05_PlaneWays.j0]; rw [if_neg (by simp), if_pos trivial, hw, rlive]; simp
  | false =>
    refine Ev.step (f := fun _ => some true) (fun k => ?_) (Ev.now _)
    simp only [plummetlaw05_PlaneWays.j0]; rw [if_neg (by simp), if_neg (by simp), rlive]; rfl
theorem lines_l0 (l : List S40) (hl : l.length ≤ 3000) (g : Nat) : ∀ i : Nat, i + g = l.length → Ev (fun k => plummetlaw05_PlaneLines.l0 k l l i) true := by
  induction g with
  | zero =>
    intro i hi
    refine Ev.step (f := fun _ => some true) (fun k => ?_) (Ev.now _)
    simp only [plummetlaw05_PlaneLines.l0]; rw [if_neg (by omega), rlive]; rfl
  | succ g ih =>
    intro i hi
    refine Ev.step (fun k => ?_) (ih (i + 1) (by omega))
    simp only [plummetlaw05_PlaneLines.l0]
    rw [if_pos (by omega), if_pos (by omega), if_pos (by omega), bnot_refl, if_neg (by simp), w64 ((i : Int) + 1) (by omega)]
    rfl
theorem lines (x y d n : Int) : ∃ k, plummetlaw05_PlaneLines.f k x y d n = some true := by
  refine Ev.rounds ?_
  have h2 := rline x y d n
  have hl : (lineF x y d n).length ≤ 3000 := by
    unfold lineF
    split
    · simp
    · split
      · simp [lineL]; omega
      · simp
  unfold plummetlaw05_PlaneLines.f plane_Line.f
  simp only [Option.bind_some]
  refine Ev.bind h2 ?_
  simp only [if_true]
  exact lines_l0 _ hl (lineF x y d n).length 0 (by omega)
theorem mir_back (x y s a b : Int) (h : mirF x y s = (a, b, 0)) : mirF a b s = (x, y, 0) := by
  unfold mirF at h
  split at h
  · rename_i hm
    split at h
    · cases h
    · unfold toldF at h
      split at h
      · rename_i ht
        cases h
        unfold mirF toldF
        rw [if_pos ht, if_neg (by assumption), if_pos (by omega), show s - (s - x) = x by omega]
      · cases h
  · cases h
theorem spx0 (x y : Int) : spx x y 0 = (x, y) := rfl
theorem spx1 (x y : Int) : spx x y 1 = (-y, x) := rfl
theorem spx2 (x y : Int) : spx x y 2 = (-x, -y) := rfl
theorem spx3 (x y : Int) : spx x y 3 = (- -y, -x) := rfl
theorem turn_back (x y u v q a b : Int) (h : turnF x y u v q = (a, b, 0)) : turnF a b u v (Int.tmod (wrap64 (4 - q)) 4) = (x, y, 0) := by
  unfold turnF at h
  split at h
  · rename_i hm
    split at h
    · cases h
    · rename_i hq
      have hq : q = 0 ∨ q = 1 ∨ q = 2 ∨ q = 3 := by omega
      rcases hq with rfl | rfl | rfl | rfl
      · rw [show ((0 : Int).toNat) = 0 from rfl, spx0] at h
        unfold toldF at h; dsimp only at h
        split at h
        · cases h
          rw [show Int.tmod (wrap64 (4 - 0)) 4 = 0 by decide +kernel]
          unfold turnF
          rw [if_pos ⟨by assumption, hm.2⟩, if_neg (by omega), show ((0 : Int).toNat) = 0 from rfl, spx0]
          unfold toldF; dsimp only
          rw [if_pos (by omega)]
          congr 1
          · omega
          · congr 1; omega
        · cases h
      · rw [show ((1 : Int).toNat) = 1 from rfl, spx1] at h
        unfold toldF at h; dsimp only at h
        split at h
        · cases h
          rw [show Int.tmod (wrap64 (4 - 1)) 4 = 3 by decide +kernel]
          unfold turnF
          rw [if_pos ⟨by assumption, hm.2⟩, if_neg (by omega), show ((3 : Int).toNat) = 3 from rfl, spx3]
          unfold toldF; dsimp only
          rw [if_pos (by omega)]
          congr 1
          · omega
          · congr 1; omega
        · cases h
      · rw [show ((2 : Int).toNat) = 2 from rfl, spx2] at h
        unfold toldF at h; dsimp only at h
        split at h
        · cases h
          rw [show Int.tmod (wrap64 (4 - 2)) 4 = 2 by decide +kernel]
          unfold turnF
          rw [if_pos ⟨by assumption, hm.2⟩, if_neg (by omega), show ((2 : Int).toNat) = 2 from rfl, spx2]
          unfold toldF; dsimp only
          rw [if_pos (by omega)]
          congr 1
          · omega
          · congr 1; omega
        · cases h
      · rw [show ((3 : Int).toNat) = 3 from rfl, spx3] at h
        unfold toldF at h; dsimp only at h
        split at h
        · cases h
          rw [show Int.tmod (wrap64 (4 - 3)) 4 = 1 by decide +kernel]
          unfold turnF
          rw [if_pos ⟨by assumption, hm.2⟩, if_neg (by omega), show ((1 : Int).toNat) = 1 from rfl, spx1]
          unfold toldF; dsimp only
          rw [if_pos (by omega)]
          congr 1
          · omega
          · congr 1; omega
        · cases h
  · cases h
theorem turns (x y u v n : Int) : ∃ k, plummetlaw05_PlaneTurns.f k x y u v n = some true := by
  refine Ev.rounds ?_
  obtain ⟨⟨a, b, e⟩, hs⟩ : ∃ t, turnF x y u v n = t := ⟨_, rfl⟩
  obtain ⟨⟨p, q, g⟩, hm⟩ : ∃ t, mirF x y n = t := ⟨_, rfl⟩
  have h1 : plane_Turn.f x y u v n = some (a, b, e) := by unfold plane_Turn.f; rw [hs]
  have h3 : plane_Mirror.f x y n = some (p, q, g) := by unfold plane_Mirror.f; rw [hm]
  have h2 := rturn x y u v n
  have h4 := rmir x y n
  rw [hs] at h2
  rw [hm] at h4
  have fin : Ev (fun k => plummetlaw05_PlaneTurns.j1 k n e x y u v a b) true := by
    refine Ev.step (f := fun _ => some true) (fun k => ?_) (Ev.now _)
    simp only [plummetlaw05_PlaneTurns.j1]
    by_cases he : e = 0
    · subst he
      have ht : plane_Turn.f a b u v (Int.tmod (wrap64 (4 - n)) 4) = some (x, y, 0) := by unfold plane_Turn.f; rw [turn_back x y u v n a b hs]
      rw [if_pos rfl, ht, rlive]; simp
    · rw [if_neg he, rlive]; rfl
  unfold plummetlaw05_PlaneTurns.f
  simp only [h1, Option.bind_some]
  refine Ev.bind h2 ?_
  dsimp only
  simp only [h3, h4, Option.bind_some, bnot_refl, bne_self_eq_false, if_true, Bool.false_eq_true, if_false]
  refine Ev.step (fun k => ?_) fin
  simp only [plummetlaw05_PlaneTurns.j0]
  rw [if_neg (by simp)]
  by_cases hg : g = 0
  · subst hg
    have ht : plane_Mirror.f p q n = some (x, y, 0) := by unfold plane_Mirror.f; rw [mir_back x y n p q hm]
    rw [if_pos rfl, ht]; simp
  · rw [if_neg hg]
end Go.Proofs.Ytoaejpjgicnfoaa.KP
