/-
  What plane.Turn answers; conditions: numbers of 64 bits.
-/
import Derived.Test.YtoaejpjgicnfoaaPlane3
import Derived.Deep.RegionHeld3
import Derived.Deep.DrawnRows
namespace Go.Proofs.Ytoaejpjgicnfoaa.Given
open Go.RowKit Go.Proofs.YtoaejpjgicnfoaaW.PrintWords Go.Proofs.Ytoaejpjgicnfoaa.Base Go.Proofs.Ytoaejpjgicnfoaa.Fl Go.Proofs.Ytoaejpjgicnfoaa.KP0
set_option linter.unusedVariables false

theorem arr_three {w w1 w2 : World} {x y u v p q : Value} {t : TypeId} (e : w1 = ((w.alloc (.cells #[x, y] t)).alloc (.cells #[u, v] t)).alloc (.cells #[p, q] t)) (hb : Below w1.heap.size w1 w2) :
    Arr w2 w.heap.size [x, y] t ∧ Arr w2 (w.heap.size + 1) [u, v] t ∧ Arr w2 (w.heap.size + 1 + 1) [p, q] t ∧ Below w.heap.size w w2 ∧ w.heap.size + 1 + 1 < w2.heap.size := by
  have h0 := arr_two (w := w) (x := x) (y := y) (u := u) (v := v) (t := t) rfl (Below.refl _ _)
  have h3 : Arr w1 (w.heap.size + 1 + 1) [p, q] t := by
    subst e
    have := Arr.new ((w.alloc (.cells #[x, y] t)).alloc (.cells #[u, v] t)) [p, q] t; simpa using this
  subst e
  have hs := hb.size
  simp at hs
  exact ⟨(arr_alloc h0.1 _).below hb (by simp; omega), (arr_alloc h0.2.1 _).below hb (by simp), h3.below hb (by simp), (h0.2.2.1.alloc (by have := h0.2.2.1.size; omega) _).trans (hb.mono (by simp; omega)), by omega⟩
def turnF (x y u v q : Int) : Int × Int × Int :=
  if (-1000 ≤ x ∧ x ≤ 1000 ∧ -1000 ≤ y ∧ y ≤ 1000) ∧ (-1000 ≤ u ∧ u ≤ 1000 ∧ -1000 ≤ v ∧ v ≤ 1000) then (if q < 0 ∨ q > 3 then (0, 0, 2) else toldF (u + (spx (x - u) (y - v) q.toNat).1) (v + (spx (x - u) (y - v) q.toNat).2)) else (0, 0, 3)
set_option maxHeartbeats 1000000 in
theorem turn_far1 (x y u v q : Int) (w : World) (h : ¬ (-1000 ≤ x ∧ x ≤ 1000 ∧ -1000 ≤ y ∧ y ≤ 1000)) :
    Calls Try.prog 45 #[.agg #[.int .i64 x, .int .i64 y], .agg #[.int .i64 u, .int .i64 v], .int .i64 q] w fun e w' => e = .returned (.tuple #[.agg #[.int .i64 0, .int .i64 0], .int .i64 3]) ∧ Below w.heap.size w w' := by
  go_enter Try.func45, Try.ntmps45
  go_wp2_with fail
  refine (plane_May.calls x y false _ (may_f x y h)).mono ?_
  rintro e w2 ⟨rfl, hb2⟩
  clear h
  obtain ⟨hp, hc, hr, hB, hz⟩ := arr_three rfl hb2
  obtain ⟨d0, d1, g0, g1⟩ := two_facts hr
  go_wp2
  exact bodyPost_ret (v := .tuple #[.agg #[.int .i64 0, .int .i64 0], .int .i64 3]) (by simp [results, Try.results45, go_sem, d0, d1]) rfl ⟨rfl, (hB.setCell (by simp; omega) _).setCell (by simp; omega) _⟩
set_option maxHeartbeats 1000000 in
theorem turn_far2 (x y u v q : Int) (w : World) (h : -1000 ≤ x ∧ x ≤ 1000 ∧ -1000 ≤ y ∧ y ≤ 1000) (h2 : ¬ (-1000 ≤ u ∧ u ≤ 1000 ∧ -1000 ≤ v ∧ v ≤ 1000)) :
    Calls Try.prog 45 #[.agg #[.int .i64 x, .int .i64 y], .agg #[.int .i64 u, .int .i64 v], .int .i64 q] w fun e w' => e = .returned (.tuple #[.agg #[.int .i64 0, .int .i64 0], .int .i64 3]) ∧ Below w.heap.size w w' := by
  go_enter Try.func45, Try.ntmps45
  go_wp2_with fail
  refine (plane_May.calls x y true _ (may_t x y h)).mono ?_
  rintro e w2 ⟨rfl, hb2⟩
  clear h
  obtain ⟨hp, hc, hr, hB, hz⟩ := arr_three rfl hb2
  obtain ⟨d0, d1, g0, g1⟩ := two_facts hc
  go_wp2_with fail
  refine (plane_May.calls u v false _ (may_f u v h2)).mono ?_
  rintro e w3 ⟨rfl, hb3⟩
  clear h2 d0 d1 g0 g1
  have hr := hr.below hb3 hr.lt
  have hz : w.heap.size + 1 + 1 < w3.heap.size := hr.lt
  have hB := hB.trans (hb3.mono hB.size)
  obtain ⟨d0, d1, g0, g1⟩ := two_facts hr
  go_wp2
  exact bodyPost_ret (v := .tuple #[.agg #[.int .i64 0, .int .i64 0], .int .i64 3]) (by simp [results, Try.results45, go_sem, d0, d1]) rfl ⟨rfl, (hB.setCell (by simp; omega) _).setCell (by simp; omega) _⟩
set_option maxHeartbeats 1000000 in
theorem turn_arg1 (x y u v q : Int) (w : World) (h : -1000 ≤ x ∧ x ≤ 1000 ∧ -1000 ≤ y ∧ y ≤ 1000) (h2 : -1000 ≤ u ∧ u ≤ 1000 ∧ -1000 ≤ v ∧ v ≤ 1000) (hq : q < 0) :
    Calls Try.prog 45 #[.agg #[.int .i64 x, .int .i64 y], .agg #[.int .i64 u, .int .i64 v], .int .i64 q] w fun e w' => e = .returned (.tuple #[.agg #[.int .i64 0, .int .i64 0], .int .i64 2]) ∧ Below w.heap.size w w' := by
  go_enter Try.func45, Try.ntmps45
  go_wp2_with fail
  refine (plane_May.calls x y true _ (may_t x y h)).mono ?_
  rintro e w2 ⟨rfl, hb2⟩
  clear h
  obtain ⟨hp, hc, hr, hB, hz⟩ := arr_three rfl hb2
  obtain ⟨d0, d1, g0, g1⟩ := two_facts hc
  go_wp2_with fail
  refine (plane_May.calls u v true _ (may_t u v h2)).mono ?_
  rintro e w3 ⟨rfl, hb3⟩
  clear h2 d0 d1 g0 g1
  have hr := hr.below hb3 hr.lt
  have hz : w.heap.size + 1 + 1 < w3.heap.size := hr.lt
  have hB := hB.trans (hb3.mono hB.size)
  obtain ⟨d0, d1, g0, g1⟩ := two_facts hr
  go_wp2
  exact bodyPost_ret (v := .tuple #[.agg #[.int .i64 0, .int .i64 0], .int .i64 2]) (by simp [results, Try.results45, go_sem, d0, d1]) rfl ⟨rfl, (hB.setCell (by simp; omega) _).setCell (by simp; omega) _⟩
set_option maxHeartbeats 1000000 in
theorem turn_arg2 (x y u v q : Int) (w : World) (h : -1000 ≤ x ∧ x ≤ 1000 ∧ -1000 ≤ y ∧ y ≤ 1000) (h2 : -1000 ≤ u ∧ u ≤ 1000 ∧ -1000 ≤ v ∧ v ≤ 1000) (h0 : 0 ≤ q) (hq : 3 < q) :
    Calls Try.prog 45 #[.agg #[.int .i64 x, .int .i64 y], .agg #[.int .i64 u, .int .i64 v], .int .i64 q] w fun e w' => e = .returned (.tuple #[.agg #[.int .i64 0, .int .i64 0], .int .i64 2]) ∧ Below w.heap.size w w' := by
  go_enter Try.func45, Try.ntmps45
  go_wp2_with fail
  refine (plane_May.calls x y true _ (may_t x y h)).mono ?_
  rintro e w2 ⟨rfl, hb2⟩
  clear h
  obtain ⟨hp, hc, hr, hB, hz⟩ := arr_three rfl hb2
  obtain ⟨d0, d1, g0, g1⟩ := two_facts hc
  go_wp2_with fail
  refine (plane_May.calls u v true _ (may_t u v h2)).mono ?_
  rintro e w3 ⟨rfl, hb3⟩
  clear h2 d0 d1 g0 g1
  have hr := hr.below hb3 hr.lt
  have hz : w.heap.size + 1 + 1 < w3.heap.size := hr.lt
  have hB := hB.trans (hb3.mono hB.size)
  obtain ⟨d0, d1, g0, g1⟩ := two_facts hr
  go_wp2
  exact bodyPost_ret (v := .tuple #[.agg #[.int .i64 0, .int .i64 0], .int .i64 2]) (by simp [results, Try.results45, go_sem, d0, d1]) rfl ⟨rfl, (hB.setCell (by simp; omega) _).setCell (by simp; omega) _⟩
theorem of_eq (x y : Int) (w : World) :
    Calls Try.prog 55 #[.agg #[.int .i64 x, .int .i64 y]] w fun e w' => e = .returned (.complex .f64 (floatOfInt .f64 x) (floatOfInt .f64 y)) ∧ Below w.heap.size w w' := by
  go_enter Try.func55, Try.ntmps55
  go_wp2
  go_ret
  exact ⟨rfl, ((Below.refl _ _).alloc (Nat.le_refl _) _)⟩
attribute [local go_sem ↓] Go.wp_at_zero Go.wp_at_succ
def TurnR (w : World) (u0 u1 v0 v1 : Value) (w' : World) : Prop := Arr w' w.heap.size [u0, u1] 40 ∧ Arr w' (w.heap.size + 1) [v0, v1] 40 ∧ (∃ p q, Arr w' (w.heap.size + 1 + 1) [p, q] 40) ∧ Below w.heap.size w w'
theorem TurnR.keep {w W w' : World} {u0 u1 v0 v1 : Value} (hh : W.cell? ⟨w.heap.size, 0, none⟩ = some u0 ∧ W.cell? ⟨w.heap.size, 1, none⟩ = some u1 ∧ W.cell? ⟨w.heap.size + 1, 0, none⟩ = some v0 ∧ W.cell? ⟨w.heap.size + 1, 1, none⟩ = some v1 ∧ TurnR w u0 u1 v0 v1 W) (hb : Below W.heap.size W w') :
    w'.cell? ⟨w.heap.size, 0, none⟩ = some u0 ∧ w'.cell? ⟨w.heap.size, 1, none⟩ = some u1 ∧ w'.cell? ⟨w.heap.size + 1, 0, none⟩ = some v0 ∧ w'.cell? ⟨w.heap.size + 1, 1, none⟩ = some v1 ∧ TurnR w u0 u1 v0 v1 w' := by
  obtain ⟨_, _, _, _, h1, h2, ⟨p, q, h3⟩, h4⟩ := hh
  have k1 := h1.below hb h1.lt
  have k2 := h2.below hb h2.lt
  exact ⟨ctwo0 k1, ctwo1 k1, ctwo0 k2, ctwo1 k2, k1, k2, ⟨p, q, h3.below hb h3.lt⟩, h4.trans (hb.mono h4.size)⟩
theorem TurnR.set {w W : World} {u0 u1 v0 v1 : Value} (hh : W.cell? ⟨w.heap.size, 0, none⟩ = some u0 ∧ W.cell? ⟨w.heap.size, 1, none⟩ = some u1 ∧ W.cell? ⟨w.heap.size + 1, 0, none⟩ = some v0 ∧ W.cell? ⟨w.heap.size + 1, 1, none⟩ = some v1 ∧ TurnR w u0 u1 v0 v1 W) (a b : Value) :
    ((W.setCell ⟨w.heap.size + 1 + 1, 0, none⟩ a).setCell ⟨w.heap.size + 1 + 1, 1, none⟩ b).cell? ⟨w.heap.size, 0, none⟩ = some u0 ∧ ((W.setCell ⟨w.heap.size + 1 + 1, 0, none⟩ a).setCell ⟨w.heap.size + 1 + 1, 1, none⟩ b).cell? ⟨w.heap.size, 1, none⟩ = some u1 ∧ ((W.setCell ⟨w.heap.size + 1 + 1, 0, none⟩ a).setCell ⟨w.heap.size + 1 + 1, 1, none⟩ b).cell? ⟨w.heap.size + 1, 0, none⟩ = some v0 ∧ ((W.setCell ⟨w.heap.size + 1 + 1, 0, none⟩ a).setCell ⟨w.heap.size + 1 + 1, 1, none⟩ b).cell? ⟨w.heap.size + 1, 1, none⟩ = some v1 ∧ TurnR w u0 u1 v0 v1 ((W.setCell ⟨w.heap.size + 1 + 1, 0, none⟩ a).setCell ⟨w.heap.size + 1 + 1, 1, none⟩ b) := by
  obtain ⟨_, _, _, _, h1, h2, ⟨p, q, h3⟩, h4⟩ := hh
  have k1 : Arr ((W.setCell ⟨w.heap.size + 1 + 1, 0, none⟩ a).setCell ⟨w.heap.size + 1 + 1, 1, none⟩ b) w.heap.size [u0, u1] 40 := blk_far (blk_far h1 (by simp; omega) _) (by simp; omega) _
  have k2 : Arr ((W.setCell ⟨w.heap.size + 1 + 1, 0, none⟩ a).setCell ⟨w.heap.size + 1 + 1, 1, none⟩ b) (w.heap.size + 1) [v0, v1] 40 := blk_far (blk_far h2 (by simp) _) (by simp) _
  exact ⟨ctwo0 k1, ctwo1 k1, ctwo0 k2, ctwo1 k2, k1, k2, ⟨a, b, (h3.set 0 a).set 1 b⟩, (h4.setCell (by simp; omega) _).setCell (by simp; omega) _⟩
set_option maxHeartbeats 2000000 in
theorem turn_ok (x y u v q : Int) (w : World) (h : -1000 ≤ x ∧ x ≤ 1000 ∧ -1000 ≤ y ∧ y ≤ 1000) (h2 : -1000 ≤ u ∧ u ≤ 1000 ∧ -1000 ≤ v ∧ v ≤ 1000) (h0 : 0 ≤ q) (hq : q ≤ 3) :
    Calls Try.prog 45 #[.agg #[.int .i64 x, .int .i64 y], .agg #[.int .i64 u, .int .i64 v], .int .i64 q] w fun e w' => e = .returned (.tuple #[.agg #[.int .i64 (toldF (u + (spx (x - u) (y - v) q.toNat).1) (v + (spx (x - u) (y - v) q.toNat).2)).1, .int .i64 (toldF (u + (spx (x - u) (y - v) q.toNat).1) (v + (spx (x - u) (y - v) q.toNat).2)).2.1], .int .i64 (toldF (u + (spx (x - u) (y - v) q.toNat).1) (v + (spx (x - u) (y - v) q.toNat).2)).2.2]) ∧ Below w.heap.size w w' := by
  obtain ⟨r, HRR⟩ : ∃ r, Aside0 (toldF (u + (spx (x - u) (y - v) q.toNat).1) (v + (spx (x - u) (y - v) q.toNat).2) = r) := ⟨_, ⟨rfl⟩⟩
  rw [HRR.out]
  go_enter Try.func45, Try.ntmps45
  go_wp2_with fail
  refine (plane_May.calls x y true _ (may_t x y h)).mono ?_
  rintro e w2 ⟨rfl, hb2⟩
  obtain ⟨hp, hc, hr, hB, hz⟩ := arr_three rfl hb2
  obtain ⟨d0, d1, g0, g1⟩ := two_facts hc
  go_wp2_with fail
  refine (plane_May.calls u v true _ (may_t u v h2)).mono ?_
  rintro e w3 ⟨rfl, hb3⟩
  clear d0 d1 g0 g1
  have hr := hr.below hb3 hr.lt
  have hp := hp.below hb3 hp.lt
  have hc := hc.below hb3 hc.lt
  have hz : w.heap.size + 1 + 1 < w3.heap.size := hr.lt
  have hB := hB.trans (hb3.mono hB.size)
  obtain ⟨d0, d1, g0, g1⟩ := two_facts hc
  obtain ⟨p0, p1, q0, q1⟩ := two_facts hp
  go_wp2_with fail
  have HR : TurnR w (.int .i64 x) (.int .i64 y) (.int .i64 u) (.int .i64 v) w3 := ⟨hp, hc, ⟨_, _, hr⟩, hB⟩
  clear hp hc hr hB hz
  obtain ⟨sa, sb, hs, hsa, hsb⟩ := cdif (fofInt x (by omega)) (fofInt y (by omega)) (fofInt u (by omega)) (fofInt v (by omega)) (by omega) (by omega)
  have hsub : ∀ W, (binOp .sub 67 (.complex .f64 (floatOfInt .f64 x) (floatOfInt .f64 y)) (.complex .f64 (floatOfInt .f64 u) (floatOfInt .f64 v))).run Try.prog W = .ok (.complex .f64 sa sb) W := fun W => run_complex_sum W _ (.inr rfl) _ _ _ _ _ _ _ _ hs
  have hbd := spx_bound (x - u) (y - v) 2000 q.toNat (by omega) (by omega)
  have HU := Aside0.mk (And.intro (fofInt u (by omega)) (fofInt v (by omega)))
  have HS := Aside0.mk (And.intro hsa hsb)
  clear hs hsa hsb
  have HH := HRR.out
  go_region_held3 (fun w' => w'.cell? ⟨w.heap.size, 0, none⟩ = some (.int .i64 x) ∧ w'.cell? ⟨w.heap.size, 1, none⟩ = some (.int .i64 y) ∧ w'.cell? ⟨w.heap.size + 1, 0, none⟩ = some (.int .i64 u) ∧ w'.cell? ⟨w.heap.size + 1, 1, none⟩ = some (.int .i64 v) ∧ TurnR w (.int .i64 x) (.int .i64 y) (.int .i64 u) (.int .i64 v) w')
    (first | exact TurnR.keep ⟨p0, p1, d0, d1, HR⟩ (below_drew (Below.refl _ _)) | exact TurnR.set (by assumption) _ _ | exact TurnR.keep (by assumption) (by assumption))
    (first | (go_at_call 55; refine (of_eq _ _ _).mono ?_; rintro e w4 ⟨rfl, hb4⟩) | (go_at_call 59; refine (spin_calls sa sb (x - u) (y - v) q (by omega) (by omega) HS.out.1 HS.out.2 (by omega) (by omega) _).mono ?_; rintro e w5 ⟨⟨ga, gb, rfl, hga, hgb⟩, hb5⟩; obtain ⟨ta, tb, ht, hta, htb⟩ := csum HU.out.1 HU.out.2 hga hgb (by omega) (by omega); have HT := told_calls ta tb _ _ hta htb (by omega) (by omega); rw [HRR.out] at HT; have HT := Aside0.mk HT; have hadd : ∀ W, (binOp .add 67 (.complex .f64 (floatOfInt .f64 u) (floatOfInt .f64 v)) (.complex .f64 ga gb)).run Try.prog W = .ok (.complex .f64 ta tb) W := fun W => run_complex_sum W _ (.inl rfl) _ _ _ _ _ _ _ _ ht) | (go_at_call 54; refine (HT.out _).mono ?_; rintro e w6 ⟨rfl, hb6⟩; have HK := TurnR.keep (by assumption) hb6; obtain ⟨_, _, _, _, _, _, ⟨_, _, HK⟩, _⟩ := HK; obtain ⟨e0, e1, e2, e3⟩ := two_facts HK))
  rename_i HH2
  obtain ⟨_, _, _, _, _, _, _, HB⟩ := HH2
  go_wp2
  exact bodyPost_ret (v := .tuple #[.agg #[.int .i64 r.1, .int .i64 r.2.1], .int .i64 r.2.2]) (by simp [results, Try.results45, go_sem, e0, e1]) rfl ⟨rfl, HB⟩
def plane_Turn.f (x y u v q : Int) : Option (Int × Int × Int) := some (turnF x y u v q)
theorem plane_Turn.calls (a0_0 : Int) (a0_1 : Int) (a1_0 : Int) (a1_1 : Int) (a2 : Int) (r1 : Int) (r2 : Int) (r3 : Int) (w : World) (h : plane_Turn.f a0_0 a0_1 a1_0 a1_1 a2 = some (r1, r2, r3)) :
    Calls Try.prog 45 #[.agg #[.int .i64 a0_0, .int .i64 a0_1], .agg #[.int .i64 a1_0, .int .i64 a1_1], .int .i64 a2] w fun e w' => e = .returned (.tuple #[.agg #[.int .i64 r1, .int .i64 r2], .int .i64 r3]) ∧ Below w.heap.size w w' := by
  have h := Option.some.inj h
  unfold turnF at h
  by_cases hm : -1000 ≤ a0_0 ∧ a0_0 ≤ 1000 ∧ -1000 ≤ a0_1 ∧ a0_1 ≤ 1000
  · by_cases hm2 : -1000 ≤ a1_0 ∧ a1_0 ≤ 1000 ∧ -1000 ≤ a1_1 ∧ a1_1 ≤ 1000
    · rw [if_pos ⟨hm, hm2⟩] at h
      by_cases ha : a2 < 0 ∨ a2 > 3
      · rw [if_pos ha] at h
        cases h
        by_cases h0 : a2 < 0
        · exact turn_arg1 _ _ _ _ _ w hm hm2 h0
        · exact turn_arg2 _ _ _ _ _ w hm hm2 (by omega) (by omega)
      · rw [if_neg ha] at h
        have := turn_ok a0_0 a0_1 a1_0 a1_1 a2 w hm hm2 (by omega) (by omega)
        rw [h] at this
        exact this
    · rw [if_neg (fun h => hm2 h.2)] at h
      cases h
      exact turn_far2 _ _ _ _ _ w hm hm2
  · rw [if_neg (fun h => hm h.1)] at h
    cases h
    exact turn_far1 _ _ _ _ _ w hm
end Go.Proofs.Ytoaejpjgicnfoaa.Given
