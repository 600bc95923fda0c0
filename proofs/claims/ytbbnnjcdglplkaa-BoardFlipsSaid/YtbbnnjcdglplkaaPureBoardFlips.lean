/-
  The pure statement of the law BoardFlips; conditions: none.
-/
import Derived.Test.YtbbnnjcdglplkaaPBF
namespace Go.Proofs.Ytbbnnjcdglplkaa.KF
open Go.RowKit Go.Proofs.YtbbnnjcdglplkaaW.PrintWords Go.Proofs.Ytbbnnjcdglplkaa.Given Go.Proofs.Ytbbnnjcdglplkaa.KB Go.Proofs.Ytbbnnjcdglplkaa.KW
set_option linter.unusedVariables false
set_option linter.unusedSimpArgs false

theorem bTop (w h : Nat) (hm : mayB w h = true) (p : Int) : board_Top.f w h p = some (if 0 ≤ p ∧ p < w then (((p.toNat * (h + 1) + h : Nat) : Int), 0) else (0, 11)) := by
  have hb : w ≤ 8 ∧ h ≤ 8 := by simp only [mayB, decide_eq_true_eq] at hm; omega
  unfold board_Top.f
  rw [bmay_f, hm]
  simp only [Option.bind_some, if_true]
  by_cases h0 : p < 0
  · rw [if_pos h0, if_neg (by omega)]
  · rw [if_neg h0]
    by_cases h1 : p ≥ w
    · rw [if_pos h1, if_neg (by omega)]
    · have := bplace w h p.toNat h (by omega) (by omega) (by omega)
      rw [show ((p.toNat : Nat) : Int) = p by omega] at this
      rw [if_neg h1, if_pos (by omega), this]; rfl
theorem bTop_no (a b p : Int) (hm : mayB a b = false) : board_Top.f a b p = some (0, 10) := by unfold board_Top.f; rw [bmay_f, hm]; rfl
theorem cellP_in (w h : Nat) (hb : (4 ≤ h ∧ h ≤ 8) ∧ (4 ≤ w ∧ w ≤ 8)) (p cx cy : Int) (hc : cellP w h p = (cx, cy, true)) : 0 ≤ cx ∧ cx < w ∧ 0 ≤ cy ∧ cy < h := by
  unfold cellP at hc
  split at hc
  · rename_i hk
    have e1 := Prod.mk.inj hc
    have e2 := Prod.mk.inj e1.2
    obtain ⟨k1, k2, k3⟩ := hk
    have k4 := k3
    have hd : p.toNat / (h + 1) < w := by rw [Nat.div_lt_iff_lt_mul (by omega)]; omega
    have hm : p.toNat % (h + 1) < h + 1 := Nat.mod_lt _ (by omega)
    have a1 := e1.1
    have a2 := e2.1
    clear e1 e2 hc k3
    generalize p.toNat / (h + 1) = X at *
    generalize p.toNat % (h + 1) = Y at *
    have : ¬ Y = h := by assumption
    omega
  · cases hc
theorem bMirror (w h : Nat) (hm : mayB w h = true) (p : Int) : board_Mirror.f w h p = some (if (cellP w h p).2.2 then (((pl h (w - 1 - (cellP w h p).1.toNat) (cellP w h p).2.1.toNat : Nat) : Int), 0) else (0, 3)) := by
  have hb : (4 ≤ h ∧ h ≤ 8) ∧ (4 ≤ w ∧ w ≤ 8) := by simp only [mayB, decide_eq_true_eq] at hm; omega
  unfold board_Mirror.f
  rw [bCell w h hm p]
  obtain ⟨⟨cx, cy, is⟩, hcp⟩ : ∃ t, cellP w h p = t := ⟨_, rfl⟩
  rw [hcp]
  simp only [Option.bind_some]
  cases is with
  | true =>
    obtain ⟨g1, g2, g3, g4⟩ := cellP_in w h hb p cx cy hcp
    simp only [if_true]
    have e1 : wrap64 ((w : Int) - 1) = (w : Int) - 1 := by unfold wrap64; omega
    have e2 : plane_Mirror.f cx cy ((w : Int) - 1) = some ((w : Int) - 1 - cx, cy, 0) := by
      unfold plane_Mirror.f mirF toldF
      rw [if_pos (by clear e1; omega), if_neg (by clear e1; omega), if_pos (by clear e1; omega)]
    rw [e1, e2]
    simp only [Option.bind_some, if_true]
    rw [bPlace w h hm]
    clear e1 e2
    rw [if_pos (by omega)]
    simp only [Option.bind_some]
    rw [show ((w : Int) - 1 - cx).toNat = w - 1 - cx.toNat by omega]
  | false => simp
theorem bMirror_no (a b p : Int) (hm : mayB a b = false) : board_Mirror.f a b p = some (0, 10) := by unfold board_Mirror.f; rw [bCell_no a b p hm]; rfl
theorem bnot_refl (x y : Int) : (!(x == x) || !(y == y)) = false := by simp
theorem top_cell (w h : Nat) (hb : (4 ≤ h ∧ h ≤ 8) ∧ (4 ≤ w ∧ w ≤ 8)) (p : Nat) : (cellP w h ((p * (h + 1) + h : Nat) : Int)).2.2 = false := by
  unfold cellP
  rw [Int.toNat_natCast, show (p * (h + 1) + h) % (h + 1) = h by rw [Nat.add_comm, Nat.add_mul_mod_self_right, Nat.mod_eq_of_lt (by omega)], if_neg (by omega)]
theorem flipsLaw (a b p x y : Int) (h3 : (Lit.int .u64 x).wf = true) (h4 : (Lit.int .u64 y).wf = true) : ∃ k, plummetlaw06_BoardFlips.f k a b p x y = some true := by
  refine Ev.rounds ?_
  unfold plummetlaw06_BoardFlips.f
  by_cases hm : mayB a b = true
  · obtain ⟨n, hn, rfl, rfl⟩ : ∃ n, n < W128 ∧ x = hiN n ∧ y = loN n := by
      obtain ⟨h1, h2, h3⟩ := wfW_N2 (wf_pair h3 h4)
      exact ⟨_, h1, h2.symm, h3.symm⟩
    obtain ⟨w, h, rfl, rfl, _⟩ := may_nat a b hm
    have hb : (4 ≤ h ∧ h ≤ 8) ∧ (4 ≤ w ∧ w ≤ 8) := by simp only [mayB, decide_eq_true_eq] at hm; omega
    have f1 := bFlip w h n hm hn
    have f2 := rFlip w h n hm hn
    have f3 := bFlip w h (fl (h + 1) w n) hm (fl_lt _ _ _)
    have f4 := bFlip w h (fl (h + 1) w (fl (h + 1) w n)) hm (fl_lt _ _ _)
    rw [fl_fl (h + 1) w n (by omega) (by omega)] at f4
    refine Ev.bind f1 (Ev.bind f2 ?_)
    simp only [bnot_refl, Bool.false_eq_true, if_false]
    refine Ev.bind f3 (Ev.bind f4 ?_)
    simp only [bnot_refl]
    have hCp := rCell w h hm p
    have hMir := bMirror w h hm p
    obtain ⟨⟨cx, cy, is⟩, hcp⟩ : ∃ t, cellP w h p = t := ⟨_, rfl⟩
    have hin := cellP_in w h hb p cx cy
    rw [hcp] at hCp hMir hin
    have hTop := bTop w h hm p
    have J2a : ¬ (0 ≤ p ∧ p < w) → Ev (fun k => plummetlaw06_BoardFlips.j2 k p 0 11 true w h) true := fun _ => by
      refine Ev.step (f := fun k => (plummetlaw06_live.f k).bind fun t => some t) (fun k => ?_) (Ev.bind live_ev (Ev.now _))
      simp only [plummetlaw06_BoardFlips.j2]; rw [if_pos trivial]
      cases plummetlaw06_live.f k with
      | none => rfl
      | some t => cases t <;> simp
    have J2b : (0 ≤ p ∧ p < w) → Ev (fun k => plummetlaw06_BoardFlips.j2 k p ((p.toNat * (h + 1) + h : Nat) : Int) 0 false w h) true := fun hp => by
      have hcell := bCell w h hm ((p.toNat * (h + 1) + h : Nat) : Int)
      rw [top_cell w h hb p.toNat] at hcell
      have e : wrap64 (wrap64 (p * wrap64 ((h : Int) + 1)) + (h : Int)) = ((p.toNat * (h + 1) + h : Nat) : Int) := by
        have hq := mul_bd p.toNat (h + 1) 8 9 (by omega) (by omega)
        have := wp p.toNat (h + 1) (by omega) (by omega)
        rw [show ((p.toNat : Nat) : Int) = p by omega] at this
        rw [wsucc h (by omega), this]
        clear this
        generalize p.toNat * (h + 1) = z at *
        unfold wrap64; omega
      refine Ev.step (f := fun k => (plummetlaw06_live.f k).bind fun t => some t) (fun k => ?_) (Ev.bind live_ev (Ev.now _))
      simp only [plummetlaw06_BoardFlips.j2]; rw [if_neg (by simp), hcell, e]
      simp only [Option.bind_some]
      cases plummetlaw06_live.f k with
      | none => rfl
      | some t => cases t <;> simp
    have J1 : Ev (fun k => plummetlaw06_BoardFlips.j1 k p (if 0 ≤ p ∧ p < w then (((p.toNat * (h + 1) + h : Nat) : Int), (0 : Int)) else (0, 11)).1 (if 0 ≤ p ∧ p < w then (((p.toNat * (h + 1) + h : Nat) : Int), (0 : Int)) else (0, 11)).2 false w h) true := by
      by_cases hp : 0 ≤ p ∧ p < w
      · rw [if_pos hp]
        refine Ev.step (fun k => ?_) (J2b hp)
        simp only [plummetlaw06_BoardFlips.j1]; rw [if_neg (by simp), if_neg (by omega), decide_eq_false (by omega)]
      · rw [if_neg hp]
        refine Ev.step (fun k => ?_) (J2a hp)
        simp only [plummetlaw06_BoardFlips.j1]; rw [if_neg (by simp)]
        by_cases h0 : p < 0
        · rw [if_pos h0]
        · rw [if_neg h0, decide_eq_true (by omega)]
    refine Ev.step (f := fun k => (plummetref06_Cell.f k w h p).bind fun t => (if t.2.2 = true then (if ((if is then (((pl h (w - 1 - cx.toNat) cy.toNat : Nat) : Int), (0 : Int)) else (0, 3)).2) = 0 then ((plummetref06_Place.f w h (wrap64 ((wrap64 ((w : Int) - 1)) - t.1)) t.2.1).bind fun q => (if (if is then (((pl h (w - 1 - cx.toNat) cy.toNat : Nat) : Int), (0 : Int)) else (0, 3)).1 = q then (plummetlaw06_BoardFlips.j1 k p (if 0 ≤ p ∧ p < w then (((p.toNat * (h + 1) + h : Nat) : Int), (0 : Int)) else (0, 11)).1 (if 0 ≤ p ∧ p < w then (((p.toNat * (h + 1) + h : Nat) : Int), (0 : Int)) else (0, 11)).2 false w h) else (plummetlaw06_BoardFlips.j1 k p (if 0 ≤ p ∧ p < w then (((p.toNat * (h + 1) + h : Nat) : Int), (0 : Int)) else (0, 11)).1 (if 0 ≤ p ∧ p < w then (((p.toNat * (h + 1) + h : Nat) : Int), (0 : Int)) else (0, 11)).2 true w h))) else (plummetlaw06_BoardFlips.j1 k p (if 0 ≤ p ∧ p < w then (((p.toNat * (h + 1) + h : Nat) : Int), (0 : Int)) else (0, 11)).1 (if 0 ≤ p ∧ p < w then (((p.toNat * (h + 1) + h : Nat) : Int), (0 : Int)) else (0, 11)).2 true w h)) else (if ((if is then (((pl h (w - 1 - cx.toNat) cy.toNat : Nat) : Int), (0 : Int)) else (0, 3)).2) = 3 then (plummetlaw06_BoardFlips.j1 k p (if 0 ≤ p ∧ p < w then (((p.toNat * (h + 1) + h : Nat) : Int), (0 : Int)) else (0, 11)).1 (if 0 ≤ p ∧ p < w then (((p.toNat * (h + 1) + h : Nat) : Int), (0 : Int)) else (0, 11)).2 ((if is then (((pl h (w - 1 - cx.toNat) cy.toNat : Nat) : Int), (0 : Int)) else (0, 3)).1 != 0) w h) else (plummetlaw06_BoardFlips.j1 k p (if 0 ≤ p ∧ p < w then (((p.toNat * (h + 1) + h : Nat) : Int), (0 : Int)) else (0, 11)).1 (if 0 ≤ p ∧ p < w then (((p.toNat * (h + 1) + h : Nat) : Int), (0 : Int)) else (0, 11)).2 true w h)))) (fun k => ?_) (Ev.bind hCp ?_)
    · simp only [plummetlaw06_BoardFlips.j0]
      rw [if_neg (by simp), hMir, hTop, rmay_f, hm]
      simp only [Option.bind_some, if_true]
    · cases is with
      | true =>
        obtain ⟨g1, g2, g3, g4⟩ := hin rfl
        have e1 : wrap64 ((wrap64 ((w : Int) - 1)) - cx) = ((w - 1 - cx.toNat : Nat) : Int) := by unfold wrap64; omega
        have e2 := rplace w h (w - 1 - cx.toNat) cy.toNat (by omega) (by omega) (by omega)
        rw [show ((cy.toNat : Nat) : Int) = cy by omega] at e2
        refine Ev.congr (fun k => ?_) J1
        dsimp only
        rw [if_pos rfl, if_pos rfl, if_pos rfl, e1, e2]
        simp only [Option.bind_some, if_true]
      | false =>
        refine Ev.congr (fun k => ?_) J1
        dsimp only
        simp only [Bool.false_eq_true, if_false, if_true, bne_self_eq_false]
  · have hm : mayB a b = false := by simpa using hm
    refine Ev.bind (bFlip_no a b x y hm) (Ev.bind (rFlip_no a b x y hm) ?_)
    simp only [bnot_refl, Bool.false_eq_true, if_false]
    refine Ev.bind (bFlip_no a b 0 0 hm) (Ev.bind (bFlip_no a b 0 0 hm) ?_)
    simp only [bnot_refl]
    refine Ev.step (f := fun k => (plummetlaw06_live.f k).bind fun t => some t) (fun k => ?_) (Ev.bind live_ev (Ev.now _))
    simp only [plummetlaw06_BoardFlips.j0]
    rw [if_neg (by simp), bMirror_no a b p hm, bTop_no a b p hm, rmay_f, hm]
    simp only [Option.bind_some, Bool.false_eq_true, if_false, if_true]
    cases plummetlaw06_live.f k with
    | none => rfl
    | some t => cases t <;> simp
end Go.Proofs.Ytbbnnjcdglplkaa.KF
namespace Go.Proofs.Ytbbnnjcdglplkaa.Pure
open Go.RowKit
theorem BoardFlips (a0_0 : Int) (a0_1 : Int) (a1 : Int) (a2_0 : Int) (a2_1 : Int) (_h0 : (Lit.int .i64 a0_0).wf = true) (_h1 : (Lit.int .i64 a0_1).wf = true) (_h2 : (Lit.int .i64 a1).wf = true) (h3 : (Lit.int .u64 a2_0).wf = true) (h4 : (Lit.int .u64 a2_1).wf = true) : ∃ k, KF.plummetlaw06_BoardFlips.f k a0_0 a0_1 a1 a2_0 a2_1 = some true := KF.flipsLaw a0_0 a0_1 a1 a2_0 a2_1 h3 h4
end Go.Proofs.Ytbbnnjcdglplkaa.Pure
