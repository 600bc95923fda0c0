/-
  What plane.Step, Turn and Mirror answer; conditions: numbers of 64 bits.
-/
import Derived.Test.YtbbnnjcdglplkaaPlane
namespace Go.Proofs.Ytbbnnjcdglplkaa.Given
open Go.RowKit Go.Proofs.YtbbnnjcdglplkaaW.PrintWords Go.Proofs.Ytbbnnjcdglplkaa.Base Go.Proofs.Ytbbnnjcdglplkaa.Fl Go.Proofs.Ytbbnnjcdglplkaa.KP0
set_option linter.unusedVariables false

def stepF (x y d n : Int) : Int × Int × Int :=
  if -1000 ≤ x ∧ x ≤ 1000 ∧ -1000 ≤ y ∧ y ≤ 1000 then (if d < 0 ∨ d > 7 ∨ n < -2000 ∨ n > 2000 then (0, 0, 2) else toldF (x + n * (unitF d).1) (y + n * (unitF d).2)) else (0, 0, 3)
theorem near_t (n : Int) (h : -2000 ≤ n ∧ n ≤ 2000) : plane_near.f n = some true := by
  unfold plane_near.f; rw [if_pos (by omega), decide_eq_true (by omega)]
theorem near_f (n : Int) (h : ¬ (-2000 ≤ n ∧ n ≤ 2000)) : plane_near.f n = some false := by
  unfold plane_near.f
  by_cases h1 : n ≥ -2000
  · rw [if_pos h1, decide_eq_false (by omega)]
  · rw [if_neg h1]
theorem unit_bound (d : Int) : (unitF d).1.natAbs ≤ 1 ∧ (unitF d).2.natAbs ≤ 1 := by
  unfold unitF; repeat' split
  all_goals decide
set_option maxHeartbeats 1000000 in
theorem step_far (x y d n : Int) (w : World) (h : ¬ (-1000 ≤ x ∧ x ≤ 1000 ∧ -1000 ≤ y ∧ y ≤ 1000)) :
    Calls Try.prog 86 #[.agg #[.int .i64 x, .int .i64 y], .int .i64 d, .int .i64 n] w fun e w' => e = .returned (.tuple #[.agg #[.int .i64 0, .int .i64 0], .int .i64 3]) ∧ Below w.heap.size w w' := by
  go_enter Try.func86, Try.ntmps86
  go_wp2_with fail
  refine (plane_May.calls x y false _ (may_f x y h)).mono ?_
  rintro e w2 ⟨rfl, hb2⟩
  clear h
  obtain ⟨hp, hr, hB, hz⟩ := arr_two rfl hb2
  obtain ⟨d0, d1, g0, g1⟩ := two_facts hr
  go_wp2
  exact bodyPost_ret (v := .tuple #[.agg #[.int .i64 0, .int .i64 0], .int .i64 3]) (by simp [results, Try.results86, go_sem, d0, d1]) rfl ⟨rfl, (hB.setCell (by simp) _).setCell (by simp) _⟩
set_option maxHeartbeats 1000000 in
theorem step_ok (x y d n : Int) (w : World) (h : -1000 ≤ x ∧ x ≤ 1000 ∧ -1000 ≤ y ∧ y ≤ 1000) (h0 : 0 ≤ d) (h7 : d ≤ 7) (hn : -2000 ≤ n ∧ n ≤ 2000) :
    Calls Try.prog 86 #[.agg #[.int .i64 x, .int .i64 y], .int .i64 d, .int .i64 n] w fun e w' => e = .returned (.tuple #[.agg #[.int .i64 (toldF (x + n * (unitF d).1) (y + n * (unitF d).2)).1, .int .i64 (toldF (x + n * (unitF d).1) (y + n * (unitF d).2)).2.1], .int .i64 (toldF (x + n * (unitF d).1) (y + n * (unitF d).2)).2.2]) ∧ Below w.heap.size w w' := by
  obtain ⟨r, HRR⟩ : ∃ r, Aside0 (toldF (x + n * (unitF d).1) (y + n * (unitF d).2) = r) := ⟨_, ⟨rfl⟩⟩
  rw [HRR.out]
  go_enter Try.func86, Try.ntmps86
  go_wp2_with fail
  refine (plane_May.calls x y true _ (may_t x y h)).mono ?_
  rintro e w2 ⟨rfl, hb2⟩
  obtain ⟨hp, hr, hB, hz⟩ := arr_two rfl hb2
  go_wp2_with fail
  refine (plane_near.calls n true _ (near_t n hn)).mono ?_
  rintro e w3 ⟨rfl, hb3⟩
  have hb3 := hb3.below
  have hp3 := hp.below hb3 hp.lt
  have hr3 := hr.below hb3 hr.lt
  obtain ⟨d0, d1, g0, g1⟩ := two_facts hp3
  go_wp2_with fail
  refine (of_calls x y (by omega) (by omega) _).mono ?_
  rintro e w4 ⟨⟨a, b, rfl, ha, hb⟩, hb4⟩
  have hr4 := hr3.below hb4 hr3.lt
  go_wp2_with fail
  refine (unit_calls d h0 h7 _).mono ?_
  rintro e w5 ⟨⟨ua, ub, rfl, hua, hub⟩, hb5⟩
  have hr5 := hr4.below hb5 hr4.lt
  obtain ⟨k1, k2⟩ := unit_bound d
  obtain ⟨m1, m2⟩ : (-1 ≤ (unitF d).1 ∧ (unitF d).1 ≤ 1) ∧ (-1 ≤ (unitF d).2 ∧ (unitF d).2 ≤ 1) := ⟨by omega, by omega⟩
  have n1 : -2000 ≤ n * (unitF d).1 ∧ n * (unitF d).1 ≤ 2000 := by
    have : (unitF d).1 = -1 ∨ (unitF d).1 = 0 ∨ (unitF d).1 = 1 := by omega
    rcases this with e | e | e <;> rw [e] <;> omega
  have n2 : -2000 ≤ n * (unitF d).2 ∧ n * (unitF d).2 ≤ 2000 := by
    have : (unitF d).2 = -1 ∨ (unitF d).2 = 0 ∨ (unitF d).2 = 1 := by omega
    rcases this with e | e | e <;> rw [e] <;> omega
  obtain ⟨ma, mb, hm, hma, hmb⟩ := cmul hua hub (fofInt n (by omega)) f0 (by rw [Int.mul_comm]; omega) (by omega) (by omega) (by rw [Int.mul_comm]; omega) (by rw [Int.mul_comm (unitF d).1]; omega) (by rw [Int.mul_comm (unitF d).2]; omega)
  rw [show (unitF d).1 * n - (unitF d).2 * 0 = n * (unitF d).1 by rw [Int.mul_comm]; omega] at hma
  rw [show (unitF d).1 * 0 + (unitF d).2 * n = n * (unitF d).2 by rw [Int.mul_comm (unitF d).2]; omega] at hmb
  obtain ⟨sa, sb, hs, hsa, hsb⟩ := csum ha hb hma hmb (by omega) (by omega)
  have hmul : ∀ W, (binOp .mul 119 (.complex .f64 ua ub) (.complex .f64 (floatOfInt .f64 n) 0)).run Try.prog W = .ok (.complex .f64 ma mb) W := fun W => run_complex_mul W _ _ _ _ _ _ _ hm
  have hsum : ∀ W, (binOp .add 119 (.complex .f64 a b) (.complex .f64 ma mb)).run Try.prog W = .ok (.complex .f64 sa sb) W := fun W => run_complex_sum W _ (.inl rfl) _ _ _ _ _ _ _ _ hs
  have HT := told_calls sa sb (x + n * (unitF d).1) (y + n * (unitF d).2) hsa hsb (by omega) (by omega)
  have HB5 : Below w.heap.size w w5 := ((hB.trans (hb3.mono hB.size)).trans (hb4.mono (by have := hB.size; have := hb3.size; omega))).trans (hb5.mono (by have := hB.size; have := hb3.size; have := hb4.size; omega))
  clear hm hs hsa hsb hma hmb hua hub ha hb hp hr hp3 hr3 hr4 d0 d1 g0 g1
  rw [HRR.out] at HT
  have HT := Aside0.mk HT
  clear n1 n2 m1 m2 k1 k2
  go_wp2_with fail
  refine (HT.out _).mono ?_
  rintro e w6 ⟨rfl, hb6⟩
  have hr6 := hr5.below hb6 hr5.lt
  obtain ⟨d0, d1, g0, g1⟩ := two_facts hr6
  have hB6 := HB5.trans (hb6.mono HB5.size)
  clear HT
  go_wp2
  exact bodyPost_ret (v := .tuple #[.agg #[.int .i64 r.1, .int .i64 r.2.1], .int .i64 r.2.2]) (by simp [results, Try.results86, go_sem, d0, d1]) rfl ⟨rfl, (hB6.setCell (by simp) _).setCell (by simp) _⟩
set_option maxHeartbeats 1000000 in
theorem step_low (x y d n : Int) (w : World) (h : -1000 ≤ x ∧ x ≤ 1000 ∧ -1000 ≤ y ∧ y ≤ 1000) (hd : d < 0) :
    Calls Try.prog 86 #[.agg #[.int .i64 x, .int .i64 y], .int .i64 d, .int .i64 n] w fun e w' => e = .returned (.tuple #[.agg #[.int .i64 0, .int .i64 0], .int .i64 2]) ∧ Below w.heap.size w w' := by
  go_enter Try.func86, Try.ntmps86
  go_wp2_with fail
  refine (plane_May.calls x y true _ (may_t x y h)).mono ?_
  rintro e w2 ⟨rfl, hb2⟩
  obtain ⟨hp, hr, hB, hz⟩ := arr_two rfl hb2
  obtain ⟨d0, d1, g0, g1⟩ := two_facts hr
  go_wp2
  exact bodyPost_ret (v := .tuple #[.agg #[.int .i64 0, .int .i64 0], .int .i64 2]) (by simp [results, Try.results86, go_sem, d0, d1]) rfl ⟨rfl, (hB.setCell (by simp) _).setCell (by simp) _⟩
set_option maxHeartbeats 1000000 in
theorem step_high (x y d n : Int) (w : World) (h : -1000 ≤ x ∧ x ≤ 1000 ∧ -1000 ≤ y ∧ y ≤ 1000) (h0 : 0 ≤ d) (hd : 7 < d) :
    Calls Try.prog 86 #[.agg #[.int .i64 x, .int .i64 y], .int .i64 d, .int .i64 n] w fun e w' => e = .returned (.tuple #[.agg #[.int .i64 0, .int .i64 0], .int .i64 2]) ∧ Below w.heap.size w w' := by
  go_enter Try.func86, Try.ntmps86
  go_wp2_with fail
  refine (plane_May.calls x y true _ (may_t x y h)).mono ?_
  rintro e w2 ⟨rfl, hb2⟩
  obtain ⟨hp, hr, hB, hz⟩ := arr_two rfl hb2
  obtain ⟨d0, d1, g0, g1⟩ := two_facts hr
  go_wp2
  exact bodyPost_ret (v := .tuple #[.agg #[.int .i64 0, .int .i64 0], .int .i64 2]) (by simp [results, Try.results86, go_sem, d0, d1]) rfl ⟨rfl, (hB.setCell (by simp) _).setCell (by simp) _⟩
set_option maxHeartbeats 1000000 in
theorem step_wide (x y d n : Int) (w : World) (h : -1000 ≤ x ∧ x ≤ 1000 ∧ -1000 ≤ y ∧ y ≤ 1000) (h0 : 0 ≤ d) (h7 : d ≤ 7) (hn : ¬ (-2000 ≤ n ∧ n ≤ 2000)) :
    Calls Try.prog 86 #[.agg #[.int .i64 x, .int .i64 y], .int .i64 d, .int .i64 n] w fun e w' => e = .returned (.tuple #[.agg #[.int .i64 0, .int .i64 0], .int .i64 2]) ∧ Below w.heap.size w w' := by
  go_enter Try.func86, Try.ntmps86
  go_wp2_with fail
  refine (plane_May.calls x y true _ (may_t x y h)).mono ?_
  rintro e w2 ⟨rfl, hb2⟩
  obtain ⟨hp, hr, hB, hz⟩ := arr_two rfl hb2
  go_wp2_with fail
  refine (plane_near.calls n false _ (near_f n hn)).mono ?_
  rintro e w3 ⟨rfl, hb3⟩
  clear hn
  have hb3 := hb3.below
  have hr3 := hr.below hb3 hr.lt
  have hB := hB.trans (hb3.mono hB.size)
  obtain ⟨d0, d1, g0, g1⟩ := two_facts hr3
  go_wp2
  exact bodyPost_ret (v := .tuple #[.agg #[.int .i64 0, .int .i64 0], .int .i64 2]) (by simp [results, Try.results86, go_sem, d0, d1]) rfl ⟨rfl, (hB.setCell (by simp) _).setCell (by simp) _⟩
def plane_Step.f (x y d n : Int) : Option (Int × Int × Int) := some (stepF x y d n)
theorem plane_Step.calls (a0_0 : Int) (a0_1 : Int) (a1 : Int) (a2 : Int) (r1 : Int) (r2 : Int) (r3 : Int) (w : World) (h : plane_Step.f a0_0 a0_1 a1 a2 = some (r1, r2, r3)) :
    Calls Try.prog 86 #[.agg #[.int .i64 a0_0, .int .i64 a0_1], .int .i64 a1, .int .i64 a2] w fun e w' => e = .returned (.tuple #[.agg #[.int .i64 r1, .int .i64 r2], .int .i64 r3]) ∧ Below w.heap.size w w' := by
  have h := Option.some.inj h
  unfold stepF at h
  by_cases hm : -1000 ≤ a0_0 ∧ a0_0 ≤ 1000 ∧ -1000 ≤ a0_1 ∧ a0_1 ≤ 1000
  · rw [if_pos hm] at h
    by_cases ha : a1 < 0 ∨ a1 > 7 ∨ a2 < -2000 ∨ a2 > 2000
    · rw [if_pos ha] at h
      cases h
      by_cases h0 : a1 < 0
      · exact step_low _ _ _ _ w hm h0
      · by_cases h7 : 7 < a1
        · exact step_high _ _ _ _ w hm (by omega) h7
        · exact step_wide _ _ _ _ w hm (by omega) (by omega) (by omega)
    · rw [if_neg ha] at h
      have := step_ok a0_0 a0_1 a1 a2 w hm (by omega) (by omega) (by omega)
      rw [h] at this
      exact this
  · rw [if_neg hm] at h
    cases h
    exact step_far _ _ _ _ w hm
end Go.Proofs.Ytbbnnjcdglplkaa.Given
