/-
  The pure statement of the law BoardPlaces; conditions: none.
-/
import Derived.Test.YtbbnnjcdglplkaaKPx
import Derived.Test.YtbbnnjcdglplkaaPB
namespace Go.Proofs.Ytbbnnjcdglplkaa.KP
open Go.RowKit Go.Proofs.YtbbnnjcdglplkaaW.PrintWords Go.Proofs.Ytbbnnjcdglplkaa.Given Go.Proofs.Ytbbnnjcdglplkaa.KB
set_option linter.unusedVariables false
set_option linter.unusedSimpArgs false

theorem beq_self2 (x y : Int) : (x == x && (y == y)) = true := by simp
theorem placesLaw (a b x y p : Int) : ∃ k, plummetlaw06_BoardPlaces.f k a b x y p = some true := by
  refine Ev.rounds ?_
  unfold plummetlaw06_BoardPlaces.f
  by_cases hm : mayB a b = true
  · obtain ⟨w, h, rfl, rfl, hw⟩ := may_nat a b hm
    obtain ⟨⟨cx, cy, is⟩, hcp⟩ : ∃ t, cellP w h p = t := ⟨_, rfl⟩
    have e1 := bCell w h hm p
    have e2 := rCell w h hm p
    rw [hcp] at e1 e2
    have e3 := bPlace w h hm x y
    have e4 := rcells w h hm
    simp only [e3, Option.bind_some, e1]
    refine Ev.bind e2 ?_
    simp only [bmay_f, rmay_f, Option.bind_some, bne_self_eq_false, Bool.false_eq_true, if_false, bcells w h hm]
    refine Ev.bind e4 ?_
    rw [cellsTo_length]
    simp only [if_true, in_f, rin_f, Option.bind_some, bne_self_eq_false]
    have hin : inB w h x y = decide (0 ≤ x ∧ x < w ∧ 0 ≤ y ∧ y < h) := by unfold inB; rw [hm, Bool.true_and]
    refine Ev.step (f := fun k => (plummetlaw06_live.f k).bind fun t => some t) (fun k => ?_) (Ev.bind live_ev (Ev.now _))
    simp only [plummetlaw06_BoardPlaces.j0]
    rw [if_neg (by simp), rmay_f, hm]
    simp only [Option.bind_some, if_true, rin_f]
    rw [hin]
    by_cases hc : 0 ≤ x ∧ x < w ∧ 0 ≤ y ∧ y < h
    · have hr := rplace w h x.toNat y.toNat (by omega) (by omega) (by omega)
      rw [show ((x.toNat : Nat) : Int) = x by omega, show ((y.toNat : Nat) : Int) = y by omega] at hr
      rw [decide_eq_true hc, if_pos rfl, if_pos hc, hr]
      simp only [Option.bind_some, if_true, beq_self2]
      cases hl : plummetlaw06_live.f k with
      | none => rfl
      | some t => cases t <;> cases is <;> simp
    · rw [decide_eq_false hc, if_neg (by simp), if_neg hc]
      simp only [Option.bind_some, if_true, beq_self2]
      cases hl : plummetlaw06_live.f k with
      | none => rfl
      | some t => cases t <;> cases is <;> simp
  · have hm : mayB a b = false := by simpa using hm
    simp only [bPlace_no a b x y hm, bCell_no a b p hm, Option.bind_some]
    refine Ev.bind (rCell_no a b p hm) ?_
    simp only [bmay_f, rmay_f, Option.bind_some, bne_self_eq_false, Bool.false_eq_true, if_false, bcells_no a b hm]
    refine Ev.bind (rcells_no a b hm) ?_
    simp only [List.length_nil, Int.ofNat_zero, if_true, in_f, rin_f, Option.bind_some, bne_self_eq_false]
    refine Ev.step (f := fun k => (plummetlaw06_live.f k).bind fun t => some t) (fun k => ?_) (Ev.bind live_ev (Ev.now _))
    simp only [plummetlaw06_BoardPlaces.j0]
    rw [if_neg (by simp), rmay_f, hm]
    simp only [Option.bind_some, Bool.false_eq_true, if_false, if_true]
    cases hl : plummetlaw06_live.f k with
    | none => rfl
    | some t => cases t <;> simp
end Go.Proofs.Ytbbnnjcdglplkaa.KP
