/-
  What plane.Mirror and plane.Turn answer; conditions: numbers of 64 bits.
-/
import Derived.Test.YtbbnnjcdglplkaaPlane2
namespace Go.Proofs.Ytbbnnjcdglplkaa.Given
open Go.RowKit Go.Proofs.YtbbnnjcdglplkaaW.PrintWords Go.Proofs.Ytbbnnjcdglplkaa.Base Go.Proofs.Ytbbnnjcdglplkaa.Fl Go.Proofs.Ytbbnnjcdglplkaa.KP0
set_option linter.unusedVariables false

def mirF (x y s : Int) : Int × Int × Int :=
  if -1000 ≤ x ∧ x ≤ 1000 ∧ -1000 ≤ y ∧ y ≤ 1000 then (if s < -2000 ∨ s > 2000 then (0, 0, 2) else toldF (s - x) y) else (0, 0, 3)
set_option maxHeartbeats 1000000 in
theorem mir_far (x y s : Int) (w : World) (h : ¬ (-1000 ≤ x ∧ x ≤ 1000 ∧ -1000 ≤ y ∧ y ≤ 1000)) :
    Calls Try.prog 84 #[.agg #[.int .i64 x, .int .i64 y], .int .i64 s] w fun e w' => e = .returned (.tuple #[.agg #[.int .i64 0, .int .i64 0], .int .i64 3]) ∧ Below w.heap.size w w' := by
  go_enter Try.func84, Try.ntmps84
  go_wp2_with fail
  refine (plane_May.calls x y false _ (may_f x y h)).mono ?_
  rintro e w2 ⟨rfl, hb2⟩
  clear h
  obtain ⟨hp, hr, hB, hz⟩ := arr_two rfl hb2
  obtain ⟨d0, d1, g0, g1⟩ := two_facts hr
  go_wp2
  exact bodyPost_ret (v := .tuple #[.agg #[.int .i64 0, .int .i64 0], .int .i64 3]) (by simp [results, Try.results84, go_sem, d0, d1]) rfl ⟨rfl, (hB.setCell (by simp) _).setCell (by simp) _⟩
set_option maxHeartbeats 1000000 in
theorem mir_wide (x y s : Int) (w : World) (h : -1000 ≤ x ∧ x ≤ 1000 ∧ -1000 ≤ y ∧ y ≤ 1000) (hn : ¬ (-2000 ≤ s ∧ s ≤ 2000)) :
    Calls Try.prog 84 #[.agg #[.int .i64 x, .int .i64 y], .int .i64 s] w fun e w' => e = .returned (.tuple #[.agg #[.int .i64 0, .int .i64 0], .int .i64 2]) ∧ Below w.heap.size w w' := by
  go_enter Try.func84, Try.ntmps84
  go_wp2_with fail
  refine (plane_May.calls x y true _ (may_t x y h)).mono ?_
  rintro e w2 ⟨rfl, hb2⟩
  clear h
  obtain ⟨hp, hr, hB, hz⟩ := arr_two rfl hb2
  go_wp2_with fail
  refine (plane_near.calls s false _ (near_f s hn)).mono ?_
  rintro e w3 ⟨rfl, hb3⟩
  clear hn
  have hb3 := hb3.below
  have hr3 := hr.below hb3 hr.lt
  have hB := hB.trans (hb3.mono hB.size)
  obtain ⟨d0, d1, g0, g1⟩ := two_facts hr3
  go_wp2
  exact bodyPost_ret (v := .tuple #[.agg #[.int .i64 0, .int .i64 0], .int .i64 2]) (by simp [results, Try.results84, go_sem, d0, d1]) rfl ⟨rfl, (hB.setCell (by simp) _).setCell (by simp) _⟩
set_option maxHeartbeats 1000000 in
theorem mir_ok (x y s : Int) (w : World) (h : -1000 ≤ x ∧ x ≤ 1000 ∧ -1000 ≤ y ∧ y ≤ 1000) (hn : -2000 ≤ s ∧ s ≤ 2000) :
    Calls Try.prog 84 #[.agg #[.int .i64 x, .int .i64 y], .int .i64 s] w fun e w' => e = .returned (.tuple #[.agg #[.int .i64 (toldF (s - x) y).1, .int .i64 (toldF (s - x) y).2.1], .int .i64 (toldF (s - x) y).2.2]) ∧ Below w.heap.size w w' := by
  obtain ⟨r, HRR⟩ : ∃ r, Aside0 (toldF (s - x) y = r) := ⟨_, ⟨rfl⟩⟩
  rw [HRR.out]
  go_enter Try.func84, Try.ntmps84
  go_wp2_with fail
  refine (plane_May.calls x y true _ (may_t x y h)).mono ?_
  rintro e w2 ⟨rfl, hb2⟩
  obtain ⟨hp, hr, hB, hz⟩ := arr_two rfl hb2
  go_wp2_with fail
  refine (plane_near.calls s true _ (near_t s hn)).mono ?_
  rintro e w3 ⟨rfl, hb3⟩
  have hb3 := hb3.below
  have hp3 := hp.below hb3 hp.lt
  have hr3 := hr.below hb3 hr.lt
  have hB3 := hB.trans (hb3.mono hB.size)
  obtain ⟨d0, d1, g0, g1⟩ := two_facts hp3
  go_wp2_with fail
  refine (of_calls x y (by omega) (by omega) _).mono ?_
  rintro e w4 ⟨⟨a, b, rfl, ha, hb⟩, hb4⟩
  have hr4 := hr3.below hb4 hr3.lt
  have hB4 := hB3.trans (hb4.mono hB3.size)
  obtain ⟨sa, hs, hsa⟩ := fsub (fofInt s (by omega)) ha (by omega)
  have hsub : ∀ W, (binOp .sub 122 (.float .f64 (floatOfInt .f64 s)) (.float .f64 a)).run Try.prog W = .ok (.float .f64 sa) W := fun W => run_float_arith W _ _ _ _ _ _ hs
  have HT := told_calls sa b (s - x) y hsa hb (by omega) (by omega)
  rw [HRR.out] at HT
  have HT := Aside0.mk HT
  clear hs hsa ha hb hp hr hp3 hr3 d0 d1 g0 g1 HRR
  go_wp2_with fail
  refine (HT.out _).mono ?_
  rintro e w6 ⟨rfl, hb6⟩
  have hr6 := hr4.below hb6 hr4.lt
  obtain ⟨d0, d1, g0, g1⟩ := two_facts hr6
  have hB6 := hB4.trans (hb6.mono hB4.size)
  clear HT
  go_wp2
  exact bodyPost_ret (v := .tuple #[.agg #[.int .i64 r.1, .int .i64 r.2.1], .int .i64 r.2.2]) (by simp [results, Try.results84, go_sem, d0, d1]) rfl ⟨rfl, (hB6.setCell (by simp) _).setCell (by simp) _⟩
def plane_Mirror.f (x y s : Int) : Option (Int × Int × Int) := some (mirF x y s)
theorem plane_Mirror.calls (a0_0 : Int) (a0_1 : Int) (a1 : Int) (r1 : Int) (r2 : Int) (r3 : Int) (w : World) (h : plane_Mirror.f a0_0 a0_1 a1 = some (r1, r2, r3)) :
    Calls Try.prog 84 #[.agg #[.int .i64 a0_0, .int .i64 a0_1], .int .i64 a1] w fun e w' => e = .returned (.tuple #[.agg #[.int .i64 r1, .int .i64 r2], .int .i64 r3]) ∧ Below w.heap.size w w' := by
  have h := Option.some.inj h
  unfold mirF at h
  by_cases hm : -1000 ≤ a0_0 ∧ a0_0 ≤ 1000 ∧ -1000 ≤ a0_1 ∧ a0_1 ≤ 1000
  · rw [if_pos hm] at h
    by_cases ha : a1 < -2000 ∨ a1 > 2000
    · rw [if_pos ha] at h
      cases h
      exact mir_wide _ _ _ w hm (by omega)
    · rw [if_neg ha] at h
      have := mir_ok a0_0 a0_1 a1 w hm (by omega)
      rw [h] at this
      exact this
  · rw [if_neg hm] at h
    cases h
    exact mir_far _ _ _ w hm
end Go.Proofs.Ytbbnnjcdglplkaa.Given
