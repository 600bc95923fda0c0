/-
  What plane.Way answers; conditions: numbers of 64 bits.
-/
import Derived.Test.YtoaejpjgicnfoaaPlane4
import Derived.Test.YtoaejpjgicnfoaaWEqStruct
import Derived.Deep.RegionHeld3
import Derived.Deep.DrawnRows
namespace Go.Proofs.Ytoaejpjgicnfoaa.Given
open Go.RowKit Go.Proofs.YtoaejpjgicnfoaaW.PrintWords Go.Proofs.Ytoaejpjgicnfoaa.Base Go.Proofs.Ytoaejpjgicnfoaa.Fl Go.Proofs.Ytoaejpjgicnfoaa.KP0
set_option linter.unusedVariables false

theorem eqCell (d : Nat) (w : World) (x0 x1 y0 y1 : Int) :
    (Op.equalIn (d + 2) 40 (.agg #[.int .i64 x0, .int .i64 x1]) (.agg #[.int .i64 y0, .int .i64 y1])).run Try.prog w = .ok (x0 == y0 && (x1 == y1)) w := by
  refine eqA_of Try.underlying40 (by kernel_rfl) ?_
  refine eqf_cons (by rfl) (by go_simp; rfl) (by go_simp; rfl) (by go_simp) ?_
  exact eqf_last (by rfl) (by go_simp; rfl) (by go_simp; rfl) (by go_simp)
/-- The first direction that fits, from one on. -/
def wayHit (X Y : Int) (i : Nat) : Bool := decide (0 < (spx X Y ((4 - i / 2) % 4)).1) && (if i % 2 = 0 then decide ((spx X Y ((4 - i / 2) % 4)).2 = 0) else decide ((spx X Y ((4 - i / 2) % 4)).2 = (spx X Y ((4 - i / 2) % 4)).1))
def wayGo (X Y : Int) : Nat → Nat → Int × Int × Bool
  | 0, _ => (0, 0, false)
  | g + 1, i => if wayHit X Y i then ((i : Int), (spx X Y ((4 - i / 2) % 4)).1, true) else wayGo X Y g (i + 1)
def wayF (x y u v : Int) : Int × Int × Bool :=
  if (-1000 ≤ x ∧ x ≤ 1000 ∧ -1000 ≤ y ∧ y ≤ 1000) ∧ (-1000 ≤ u ∧ u ≤ 1000 ∧ -1000 ≤ v ∧ v ≤ 1000) ∧ ¬ (x = u ∧ y = v) then wayGo (u - x) (v - y) 8 0 else (0, 0, false)
set_option maxHeartbeats 1000000 in
theorem way_far1 (x y u v : Int) (w : World) (h : ¬ (-1000 ≤ x ∧ x ≤ 1000 ∧ -1000 ≤ y ∧ y ≤ 1000)) :
    Calls Try.prog 32 #[.agg #[.int .i64 x, .int .i64 y], .agg #[.int .i64 u, .int .i64 v]] w fun e w' => e = .returned (.tuple #[.int .i64 0, .int .i64 0, .bool false]) ∧ Below w.heap.size w w' := by
  go_enter Try.func32, Try.ntmps32
  go_wp2_with fail
  refine (plane_May.calls x y false _ (may_f x y h)).mono ?_
  rintro e w2 ⟨rfl, hb2⟩
  clear h
  obtain ⟨hp, hc, hB, hz⟩ := arr_two rfl hb2
  go_wp2
  go_ret3
  exact ⟨rfl, hB⟩
set_option maxHeartbeats 1000000 in
theorem way_far2 (x y u v : Int) (w : World) (h : -1000 ≤ x ∧ x ≤ 1000 ∧ -1000 ≤ y ∧ y ≤ 1000) (h2 : ¬ (-1000 ≤ u ∧ u ≤ 1000 ∧ -1000 ≤ v ∧ v ≤ 1000)) :
    Calls Try.prog 32 #[.agg #[.int .i64 x, .int .i64 y], .agg #[.int .i64 u, .int .i64 v]] w fun e w' => e = .returned (.tuple #[.int .i64 0, .int .i64 0, .bool false]) ∧ Below w.heap.size w w' := by
  go_enter Try.func32, Try.ntmps32
  go_wp2_with fail
  refine (plane_May.calls x y true _ (may_t x y h)).mono ?_
  rintro e w2 ⟨rfl, hb2⟩
  clear h
  obtain ⟨hp, hc, hB, hz⟩ := arr_two rfl hb2
  obtain ⟨d0, d1, g0, g1⟩ := two_facts hc
  go_wp2_with fail
  refine (plane_May.calls u v false _ (may_f u v h2)).mono ?_
  rintro e w3 ⟨rfl, hb3⟩
  clear h2 d0 d1 g0 g1
  have hp := hp.below hb3 hp.lt
  have hc := hc.below hb3 hc.lt
  have hB := hB.trans (hb3.mono hB.size)
  obtain ⟨d0, d1, g0, g1⟩ := two_facts hc
  obtain ⟨p0, p1, q0, q1⟩ := two_facts hp
  go_wp2
  go_ret3
  exact ⟨rfl, hB⟩
set_option maxHeartbeats 1000000 in
theorem way_same (x y : Int) (w : World) (h : -1000 ≤ x ∧ x ≤ 1000 ∧ -1000 ≤ y ∧ y ≤ 1000) :
    Calls Try.prog 32 #[.agg #[.int .i64 x, .int .i64 y], .agg #[.int .i64 x, .int .i64 y]] w fun e w' => e = .returned (.tuple #[.int .i64 0, .int .i64 0, .bool false]) ∧ Below w.heap.size w w' := by
  have heq : ∀ W, (Op.equalIn 10000 40 (.agg #[.int .i64 x, .int .i64 y]) (.agg #[.int .i64 x, .int .i64 y])).run Try.prog W = .ok true W := fun W => (eqCell 9998 W x y x y).trans (by simp)
  have h2 := h
  go_enter Try.func32, Try.ntmps32
  go_wp2_with fail
  refine (plane_May.calls x y true _ (may_t x y h)).mono ?_
  rintro e w2 ⟨rfl, hb2⟩
  clear h
  obtain ⟨hp, hc, hB, hz⟩ := arr_two rfl hb2
  obtain ⟨d0, d1, g0, g1⟩ := two_facts hc
  go_wp2_with fail
  refine (plane_May.calls x y true _ (may_t x y h2)).mono ?_
  rintro e w3 ⟨rfl, hb3⟩
  clear h2 d0 d1 g0 g1
  have hp := hp.below hb3 hp.lt
  have hc := hc.below hb3 hc.lt
  have hB := hB.trans (hb3.mono hB.size)
  obtain ⟨d0, d1, g0, g1⟩ := two_facts hc
  obtain ⟨p0, p1, q0, q1⟩ := two_facts hp
  go_wp2
  go_ret3
  exact ⟨rfl, hB⟩
theorem ne_pair (x y u v : Int) (h : ¬ (x = u ∧ y = v)) : (x == u && (y == v)) = false := by
  by_cases h1 : x = u
  · have h2 : ¬ y = v := fun h2 => h ⟨h1, h2⟩
    simp [h1, h2]
  · simp [h1]
attribute [local go_sem ↓] Go.wp_at_zero Go.wp_at_succ
def WayR (w : World) (u0 u1 v0 v1 : Value) (w' : World) : Prop := Arr w' w.heap.size [u0, u1] 40 ∧ Arr w' (w.heap.size + 1) [v0, v1] 40 ∧ Below w.heap.size w w'
theorem WayR.keep {w W w' : World} {u0 u1 v0 v1 : Value} (hh : W.cell? ⟨w.heap.size, 0, none⟩ = some u0 ∧ W.cell? ⟨w.heap.size, 1, none⟩ = some u1 ∧ W.cell? ⟨w.heap.size + 1, 0, none⟩ = some v0 ∧ W.cell? ⟨w.heap.size + 1, 1, none⟩ = some v1 ∧ WayR w u0 u1 v0 v1 W) (hb : Below W.heap.size W w') :
    w'.cell? ⟨w.heap.size, 0, none⟩ = some u0 ∧ w'.cell? ⟨w.heap.size, 1, none⟩ = some u1 ∧ w'.cell? ⟨w.heap.size + 1, 0, none⟩ = some v0 ∧ w'.cell? ⟨w.heap.size + 1, 1, none⟩ = some v1 ∧ WayR w u0 u1 v0 v1 w' := by
  obtain ⟨_, _, _, _, h1, h2, h4⟩ := hh
  have k1 := h1.below hb h1.lt
  have k2 := h2.below hb h2.lt
  exact ⟨ctwo0 k1, ctwo1 k1, ctwo0 k2, ctwo1 k2, k1, k2, h4.trans (hb.mono h4.size)⟩
theorem ord_gt {a : Nat} {X : Int} (ha : IsF a X) : (FloatKind.f64.format.order a 0 == some .gt) = decide (0 < X) := by
  show (Ieee.double.order a 0 == some .gt) = _
  rw [forder ha f0]
  rcases Int.lt_trichotomy X 0 with h | h | h
  · rw [Int.compare_eq_lt.2 h, decide_eq_false (by omega)]; rfl
  · rw [Int.compare_eq_eq.2 h, decide_eq_false (by omega)]; rfl
  · rw [Int.compare_eq_gt.2 h, decide_eq_true h]; rfl
theorem ord_eq {a b : Nat} {X Y : Int} (ha : IsF a X) (hb : IsF b Y) : (FloatKind.f64.format.order a b == some .eq) = decide (X = Y) := by
  show (Ieee.double.order a b == some .eq) = _
  rw [forder ha hb]
  rcases Int.lt_trichotomy X Y with h | h | h
  · rw [Int.compare_eq_lt.2 h, decide_eq_false (by omega)]; rfl
  · rw [Int.compare_eq_eq.2 h, decide_eq_true h]; rfl
  · rw [Int.compare_eq_gt.2 h, decide_eq_false (by omega)]; rfl
set_option maxHeartbeats 2000000 in
theorem way_ok (x y u v : Int) (w : World) (h : -1000 ≤ x ∧ x ≤ 1000 ∧ -1000 ≤ y ∧ y ≤ 1000) (h2 : -1000 ≤ u ∧ u ≤ 1000 ∧ -1000 ≤ v ∧ v ≤ 1000) (he : ¬ (x = u ∧ y = v)) :
    Calls Try.prog 32 #[.agg #[.int .i64 x, .int .i64 y], .agg #[.int .i64 u, .int .i64 v]] w fun e w' => e = .returned (.tuple #[.int .i64 (wayGo (u - x) (v - y) 8 0).1, .int .i64 (wayGo (u - x) (v - y) 8 0).2.1, .bool (wayGo (u - x) (v - y) 8 0).2.2]) ∧ Below w.heap.size w w' := by
  obtain ⟨sa, sb, hs, hsa, hsb⟩ := cdif (fofInt u (by omega)) (fofInt v (by omega)) (fofInt x (by omega)) (fofInt y (by omega)) (by omega) (by omega)
  have hsub : ∀ W, (binOp .sub 67 (.complex .f64 (floatOfInt .f64 u) (floatOfInt .f64 v)) (.complex .f64 (floatOfInt .f64 x) (floatOfInt .f64 y))).run Try.prog W = .ok (.complex .f64 sa sb) W := fun W => run_complex_sum W _ (.inr rfl) _ _ _ _ _ _ _ _ hs
  have HS := Aside0.mk (And.intro hsa hsb)
  clear hs hsa hsb
  obtain ⟨X, HX⟩ : ∃ X, Aside0 (u - x = X) := ⟨_, ⟨rfl⟩⟩
  obtain ⟨Y, HY⟩ : ∃ Y, Aside0 (v - y = Y) := ⟨_, ⟨rfl⟩⟩
  rw [HX.out, HY.out] at HS ⊢
  have bX : -2000 ≤ X ∧ X ≤ 2000 := by rw [← HX.out]; omega
  have bY : -2000 ≤ Y ∧ Y ≤ 2000 := by rw [← HY.out]; omega
  clear HX HY
  obtain ⟨r, HR⟩ : ∃ r, Aside0 (wayGo X Y 8 0 = r) := ⟨_, ⟨rfl⟩⟩
  rw [HR.out]
  have heq : ∀ W, (Op.equalIn 10000 40 (.agg #[.int .i64 x, .int .i64 y]) (.agg #[.int .i64 u, .int .i64 v])).run Try.prog W = .ok false W := fun W => by rw [← ne_pair x y u v he]; exact eqCell 9998 W x y u v
  clear he
  go_enter Try.func32, Try.ntmps32
  go_wp2_with fail
  refine (plane_May.calls x y true _ (may_t x y h)).mono ?_
  rintro e w2 ⟨rfl, hb2⟩
  clear h
  obtain ⟨hp, hc, hB, hz⟩ := arr_two rfl hb2
  obtain ⟨d0, d1, g0, g1⟩ := two_facts hc
  go_wp2_with fail
  refine (plane_May.calls u v true _ (may_t u v h2)).mono ?_
  rintro e w3 ⟨rfl, hb3⟩
  clear h2 d0 d1 g0 g1
  have hp := hp.below hb3 hp.lt
  have hc := hc.below hb3 hc.lt
  have hB := hB.trans (hb3.mono hB.size)
  obtain ⟨d0, d1, g0, g1⟩ := two_facts hc
  obtain ⟨p0, p1, q0, q1⟩ := two_facts hp
  go_wp2_with fail
  have HH : WayR w (.int .i64 x) (.int .i64 y) (.int .i64 u) (.int .i64 v) w3 := ⟨hp, hc, hB⟩
  clear hp hc hB hz
  go_region_held3 (fun w' => w'.cell? ⟨w.heap.size, 0, none⟩ = some (.int .i64 x) ∧ w'.cell? ⟨w.heap.size, 1, none⟩ = some (.int .i64 y) ∧ w'.cell? ⟨w.heap.size + 1, 0, none⟩ = some (.int .i64 u) ∧ w'.cell? ⟨w.heap.size + 1, 1, none⟩ = some (.int .i64 v) ∧ WayR w (.int .i64 x) (.int .i64 y) (.int .i64 u) (.int .i64 v) w')
    (first | exact WayR.keep ⟨p0, p1, d0, d1, HH⟩ (below_drew (Below.refl _ _)) | exact WayR.keep (by assumption) (by assumption))
    (first | (go_at_call 55; refine (of_eq _ _ _).mono ?_; rintro e w4 ⟨rfl, hb4⟩))
  rename_i HH2
  obtain ⟨_, _, _, _, _, _, HB⟩ := HH2
  clear HH
  go_wp2
  go_loopg [30] 8 (fun g v30 wr => ∃ i : Nat, v30 = .int .i64 (i : Int) ∧ i + g = 8 ∧ Aside0 (wayGo X Y g i = r) ∧ Aside0 (Below w.heap.size w wr))
  case atStart => exact ⟨0, rfl, rfl, HR, ⟨HB⟩⟩
  case round =>
    clear HR HB
    obtain ⟨i, rfl, hi, HR, HB⟩ := hrel
    by_cases hlt : i < 8
    · obtain ⟨g, rfl⟩ : ∃ g, gk = g + 1 := ⟨gk - 1, by omega⟩
      have hcase : i = 0 ∨ i = 1 ∨ i = 2 ∨ i = 3 ∨ i = 4 ∨ i = 5 ∨ i = 6 ∨ i = 7 := by omega
      rcases hcase with rfl | rfl | rfl | rfl | rfl | rfl | rfl | rfl
      · obtain rfl : g = 7 := by omega
        have hbd := spx_bound X Y 2000 0 (by omega) (by omega)
        have HW := Aside0.mk (show wayGo X Y (7 + 1) 0 = if wayHit X Y 0 then (0, (spx X Y 0).1, true) else wayGo X Y 7 1 by rfl)
        have HV := Aside0.mk (show wayHit X Y 0 = (decide (0 < (spx X Y 0).1) && decide ((spx X Y 0).2 = 0)) by rfl)
        go_wp2_with fail
        ((with_reducible refine (spin_calls sa sb X Y 0 (by omega) (by omega) HS.out.1 HS.out.2 (by omega) (by omega) _).mono ?_); rintro e w5 ⟨⟨a, b, rfl, ha, hb⟩, hb5⟩)
        have ha : IsF a (spx X Y 0).1 := ha
        have hb : IsF b (spx X Y 0).2 := hb
        obtain ⟨U, HU⟩ : ∃ U, Aside0 ((spx X Y 0).1 = U) := ⟨_, ⟨rfl⟩⟩
        obtain ⟨V, HU2⟩ : ∃ V, Aside0 ((spx X Y 0).2 = V) := ⟨_, ⟨rfl⟩⟩
        rw [HU.out] at ha hbd HW HV
        rw [HU2.out] at hb hbd HV
        have hcv : ∀ W, (convert 70 3 (.float .f64 a)).run Try.prog W = .ok (.int .i64 U) W := fun W => run_convert_float_int W _ _ _ _ _ _ rfl (by kernel_rfl) (ftoInt ha (by omega))
        have HB6 := Aside0.mk (HB.out.trans (hb5.mono HB.out.size))
        have h1 := ord_gt ha
        have h2 := ord_eq hb f0
        clear ha hb hb5
        by_cases c1 : 0 < U
        · rw [decide_eq_true c1] at h1 HV
          by_cases c2 : V = 0
          · rw [decide_eq_true c2] at h2 HV
            clear c1 c2
            have HZ := Aside0.mk (show r = (0, U, true) by rw [← HR.out, HW.out, HV.out]; rfl)
            clear HR HW HV
            go_wp2
            go_ret3
            exact ⟨by rw [HZ.out]; rfl, HB6.out⟩
          · rw [decide_eq_false c2] at h2 HV
            clear c1 c2
            have HZ := Aside0.mk (show wayGo X Y 7 1 = r by rw [← HR.out, HW.out, HV.out]; rfl)
            clear HR HW HV
            go_wp2
            go_roundg 7
            case measure => omega
            case rel => exact ⟨1, by go_num, by omega, HZ, HB6⟩
        · rw [decide_eq_false c1] at h1 HV
          clear c1 h2
          have HZ := Aside0.mk (show wayGo X Y 7 1 = r by rw [← HR.out, HW.out, HV.out]; rfl)
          clear HR HW HV
          go_wp2
          go_roundg 7
          case measure => omega
          case rel => exact ⟨1, by go_num, by omega, HZ, HB6⟩
      · obtain rfl : g = 6 := by omega
        have hbd := spx_bound X Y 2000 0 (by omega) (by omega)
        have HW := Aside0.mk (show wayGo X Y (6 + 1) 1 = if wayHit X Y 1 then (1, (spx X Y 0).1, true) else wayGo X Y 6 2 by rfl)
        have HV := Aside0.mk (show wayHit X Y 1 = (decide (0 < (spx X Y 0).1) && decide ((spx X Y 0).2 = (spx X Y 0).1)) by rfl)
        go_wp2_with fail
        ((with_reducible refine (spin_calls sa sb X Y 0 (by omega) (by omega) HS.out.1 HS.out.2 (by omega) (by omega) _).mono ?_); rintro e w5 ⟨⟨a, b, rfl, ha, hb⟩, hb5⟩)
        have ha : IsF a (spx X Y 0).1 := ha
        have hb : IsF b (spx X Y 0).2 := hb
        obtain ⟨U, HU⟩ : ∃ U, Aside0 ((spx X Y 0).1 = U) := ⟨_, ⟨rfl⟩⟩
        obtain ⟨V, HU2⟩ : ∃ V, Aside0 ((spx X Y 0).2 = V) := ⟨_, ⟨rfl⟩⟩
        rw [HU.out] at ha hbd HW HV
        rw [HU2.out] at hb hbd HV
        have hcv : ∀ W, (convert 70 3 (.float .f64 a)).run Try.prog W = .ok (.int .i64 U) W := fun W => run_convert_float_int W _ _ _ _ _ _ rfl (by kernel_rfl) (ftoInt ha (by omega))
        have HB6 := Aside0.mk (HB.out.trans (hb5.mono HB.out.size))
        have h1 := ord_gt ha
        have h2 := ord_eq hb ha
        clear ha hb hb5
        by_cases c1 : 0 < U
        · rw [decide_eq_true c1] at h1 HV
          by_cases c2 : V = U
          · rw [decide_eq_true c2] at h2 HV
            clear c1 c2
            have HZ := Aside0.mk (show r = (1, U, true) by rw [← HR.out, HW.out, HV.out]; rfl)
            clear HR HW HV
            go_wp2
            go_ret3
            exact ⟨by rw [HZ.out]; rfl, HB6.out⟩
          · rw [decide_eq_false c2] at h2 HV
            clear c1 c2
            have HZ := Aside0.mk (show wayGo X Y 6 2 = r by rw [← HR.out, HW.out, HV.out]; rfl)
            clear HR HW HV
            go_wp2
            go_roundg 6
            case measure => omega
            case rel => exact ⟨2, by go_num, by omega, HZ, HB6⟩
        · rw [decide_eq_false c1] at h1 HV
          clear c1 h2
          have HZ := Aside0.mk (show wayGo X Y 6 2 = r by rw [← HR.out, HW.out, HV.out]; rfl)
          clear HR HW HV
          go_wp2
          go_roundg 6
          case measure => omega
          case rel => exact ⟨2, by go_num, by omega, HZ, HB6⟩
      · obtain rfl : g = 5 := by omega
        have hbd := spx_bound X Y 2000 3 (by omega) (by omega)
        have HW := Aside0.mk (show wayGo X Y (5 + 1) 2 = if wayHit X Y 2 then (2, (spx X Y 3).1, true) else wayGo X Y 5 3 by rfl)
        have HV := Aside0.mk (show wayHit X Y 2 = (decide (0 < (spx X Y 3).1) && decide ((spx X Y 3).2 = 0)) by rfl)
        go_wp2_with fail
        ((with_reducible refine (spin_calls sa sb X Y 3 (by omega) (by omega) HS.out.1 HS.out.2 (by omega) (by omega) _).mono ?_); rintro e w5 ⟨⟨a, b, rfl, ha, hb⟩, hb5⟩)
        have ha : IsF a (spx X Y 3).1 := ha
        have hb : IsF b (spx X Y 3).2 := hb
        obtain ⟨U, HU⟩ : ∃ U, Aside0 ((spx X Y 3).1 = U) := ⟨_, ⟨rfl⟩⟩
        obtain ⟨V, HU2⟩ : ∃ V, Aside0 ((spx X Y 3).2 = V) := ⟨_, ⟨rfl⟩⟩
        rw [HU.out] at ha hbd HW HV
        rw [HU2.out] at hb hbd HV
        have hcv : ∀ W, (convert 70 3 (.float .f64 a)).run Try.prog W = .ok (.int .i64 U) W := fun W => run_convert_float_int W _ _ _ _ _ _ rfl (by kernel_rfl) (ftoInt ha (by omega))
        have HB6 := Aside0.mk (HB.out.trans (hb5.mono HB.out.size))
        have h1 := ord_gt ha
        have h2 := ord_eq hb f0
        clear ha hb hb5
        by_cases c1 : 0 < U
        · rw [decide_eq_true c1] at h1 HV
          by_cases c2 : V = 0
          · rw [decide_eq_true c2] at h2 HV
            clear c1 c2
            have HZ := Aside0.mk (show r = (2, U, true) by rw [← HR.out, HW.out, HV.out]; rfl)
            clear HR HW HV
            go_wp2
            go_ret3
            exact ⟨by rw [HZ.out]; rfl, HB6.out⟩
          · rw [decide_eq_false c2] at h2 HV
            clear c1 c2
            have HZ := Aside0.mk (show wayGo X Y 5 3 = r by rw [← HR.out, HW.out, HV.out]; rfl)
            clear HR HW HV
            go_wp2
            go_roundg 5
            case measure => omega
            case rel => exact ⟨3, by go_num, by omega, HZ, HB6⟩
        · rw [decide_eq_false c1] at h1 HV
          clear c1 h2
          have HZ := Aside0.mk (show wayGo X Y 5 3 = r by rw [← HR.out, HW.out, HV.out]; rfl)
          clear HR HW HV
          go_wp2
          go_roundg 5
          case measure => omega
          case rel => exact ⟨3, by go_num, by omega, HZ, HB6⟩
      · obtain rfl : g = 4 := by omega
        have hbd := spx_bound X Y 2000 3 (by omega) (by omega)
        have HW := Aside0.mk (show wayGo X Y (4 + 1) 3 = if wayHit X Y 3 then (3, (spx X Y 3).1, true) else wayGo X Y 4 4 by rfl)
        have HV := Aside0.mk (show wayHit X Y 3 = (decide (0 < (spx X Y 3).1) && decide ((spx X Y 3).2 = (spx X Y 3).1)) by rfl)
        go_wp2_with fail
        ((with_reducible refine (spin_calls sa sb X Y 3 (by omega) (by omega) HS.out.1 HS.out.2 (by omega) (by omega) _).mono ?_); rintro e w5 ⟨⟨a, b, rfl, ha, hb⟩, hb5⟩)
        have ha : IsF a (spx X Y 3).1 := ha
        have hb : IsF b (spx X Y 3).2 := hb
        obtain ⟨U, HU⟩ : ∃ U, Aside0 ((spx X Y 3).1 = U) := ⟨_, ⟨rfl⟩⟩
        obtain ⟨V, HU2⟩ : ∃ V, Aside0 ((spx X Y 3).2 = V) := ⟨_, ⟨rfl⟩⟩
        rw [HU.out] at ha hbd HW HV
        rw [HU2.out] at hb hbd HV
        have hcv : ∀ W, (convert 70 3 (.float .f64 a)).run Try.prog W = .ok (.int .i64 U) W := fun W => run_convert_float_int W _ _ _ _ _ _ rfl (by kernel_rfl) (ftoInt ha (by omega))
        have HB6 := Aside0.mk (HB.out.trans (hb5.mono HB.out.size))
        have h1 := ord_gt ha
        have h2 := ord_eq hb ha
        clear ha hb hb5
        by_cases c1 : 0 < U
        · rw [decide_eq_true c1] at h1 HV
          by_cases c2 : V = U
          · rw [decide_eq_true c2] at h2 HV
            clear c1 c2
            have HZ := Aside0.mk (show r = (3, U, true) by rw [← HR.out, HW.out, HV.out]; rfl)
            clear HR HW HV
            go_wp2
            go_ret3
            exact ⟨by rw [HZ.out]; rfl, HB6.out⟩
          · rw [decide_eq_false c2] at h2 HV
            clear c1 c2
            have HZ := Aside0.mk (show wayGo X Y 4 4 = r by rw [← HR.out, HW.out, HV.out]; rfl)
            clear HR HW HV
            go_wp2
            go_roundg 4
            case measure => omega
            case rel => exact ⟨4, by go_num, by omega, HZ, HB6⟩
        · rw [decide_eq_false c1] at h1 HV
          clear c1 h2
          have HZ := Aside0.mk (show wayGo X Y 4 4 = r by rw [← HR.out, HW.out, HV.out]; rfl)
          clear HR HW HV
          go_wp2
          go_roundg 4
          case measure => omega
          case rel => exact ⟨4, by go_num, by omega, HZ, HB6⟩
      · obtain rfl : g = 3 := by omega
        have hbd := spx_bound X Y 2000 2 (by omega) (by omega)
        have HW := Aside0.mk (show wayGo X Y (3 + 1) 4 = if wayHit X Y 4 then (4, (spx X Y 2).1, true) else wayGo X Y 3 5 by rfl)
        have HV := Aside0.mk (show wayHit X Y 4 = (decide (0 < (spx X Y 2).1) && decide ((spx X Y 2).2 = 0)) by rfl)
        go_wp2_with fail
        ((with_reducible refine (spin_calls sa sb X Y 2 (by omega) (by omega) HS.out.1 HS.out.2 (by omega) (by omega) _).mono ?_); rintro e w5 ⟨⟨a, b, rfl, ha, hb⟩, hb5⟩)
        have ha : IsF a (spx X Y 2).1 := ha
        have hb : IsF b (spx X Y 2).2 := hb
        obtain ⟨U, HU⟩ : ∃ U, Aside0 ((spx X Y 2).1 = U) := ⟨_, ⟨rfl⟩⟩
        obtain ⟨V, HU2⟩ : ∃ V, Aside0 ((spx X Y 2).2 = V) := ⟨_, ⟨rfl⟩⟩
        rw [HU.out] at ha hbd HW HV
        rw [HU2.out] at hb hbd HV
        have hcv : ∀ W, (convert 70 3 (.float .f64 a)).run Try.prog W = .ok (.int .i64 U) W := fun W => run_convert_float_int W _ _ _ _ _ _ rfl (by kernel_rfl) (ftoInt ha (by omega))
        have HB6 := Aside0.mk (HB.out.trans (hb5.mono HB.out.size))
        have h1 := ord_gt ha
        have h2 := ord_eq hb f0
        clear ha hb hb5
        by_cases c1 : 0 < U
        · rw [decide_eq_true c1] at h1 HV
          by_cases c2 : V = 0
          · rw [decide_eq_true c2] at h2 HV
            clear c1 c2
            have HZ := Aside0.mk (show r = (4, U, true) by rw [← HR.out, HW.out, HV.out]; rfl)
            clear HR HW HV
            go_wp2
            go_ret3
            exact ⟨by rw [HZ.out]; rfl, HB6.out⟩
          · rw [decide_eq_false c2] at h2 HV
            clear c1 c2
            have HZ := Aside0.mk (show wayGo X Y 3 5 = r by rw [← HR.out, HW.out, HV.out]; rfl)
            clear HR HW HV
            go_wp2
            go_roundg 3
            case measure => omega
            case rel => exact ⟨5, by go_num, by omega, HZ, HB6⟩
        · rw [decide_eq_false c1] at h1 HV
          clear c1 h2
          have HZ := Aside0.mk (show wayGo X Y 3 5 = r by rw [← HR.out, HW.out, HV.out]; rfl)
          clear HR HW HV
          go_wp2
          go_roundg 3
          case measure => omega
          case rel => exact ⟨5, by go_num, by omega, HZ, HB6⟩
      · obtain rfl : g = 2 := by omega
        have hbd := spx_bound X Y 2000 2 (by omega) (by omega)
        have HW := Aside0.mk (show wayGo X Y (2 + 1) 5 = if wayHit X Y 5 then (5, (spx X Y 2).1, true) else wayGo X Y 2 6 by rfl)
        have HV := Aside0.mk (show wayHit X Y 5 = (decide (0 < (spx X Y 2).1) && decide ((spx X Y 2).2 = (spx X Y 2).1)) by rfl)
        go_wp2_with fail
        ((with_reducible refine (spin_calls sa sb X Y 2 (by omega) (by omega) HS.out.1 HS.out.2 (by omega) (by omega) _).mono ?_); rintro e w5 ⟨⟨a, b, rfl, ha, hb⟩, hb5⟩)
        have ha : IsF a (spx X Y 2).1 := ha
        have hb : IsF b (spx X Y 2).2 := hb
        obtain ⟨U, HU⟩ : ∃ U, Aside0 ((spx X Y 2).1 = U) := ⟨_, ⟨rfl⟩⟩
        obtain ⟨V, HU2⟩ : ∃ V, Aside0 ((spx X Y 2).2 = V) := ⟨_, ⟨rfl⟩⟩
        rw [HU.out] at ha hbd HW HV
        rw [HU2.out] at hb hbd HV
        have hcv : ∀ W, (convert 70 3 (.float .f64 a)).run Try.prog W = .ok (.int .i64 U) W := fun W => run_convert_float_int W _ _ _ _ _ _ rfl (by kernel_rfl) (ftoInt ha (by omega))
        have HB6 := Aside0.mk (HB.out.trans (hb5.mono HB.out.size))
        have h1 := ord_gt ha
        have h2 := ord_eq hb ha
        clear ha hb hb5
        by_cases c1 : 0 < U
        · rw [decide_eq_true c1] at h1 HV
          by_cases c2 : V = U
          · rw [decide_eq_true c2] at h2 HV
            clear c1 c2
            have HZ := Aside0.mk (show r = (5, U, true) by rw [← HR.out, HW.out, HV.out]; rfl)
            clear HR HW HV
            go_wp2
            go_ret3
            exact ⟨by rw [HZ.out]; rfl, HB6.out⟩
          · rw [decide_eq_false c2] at h2 HV
            clear c1 c2
            have HZ := Aside0.mk (show wayGo X Y 2 6 = r by rw [← HR.out, HW.out, HV.out]; rfl)
            clear HR HW HV
            go_wp2
            go_roundg 2
            case measure => omega
            case rel => exact ⟨6, by go_num, by omega, HZ, HB6⟩
        · rw [decide_eq_false c1] at h1 HV
          clear c1 h2
          have HZ := Aside0.mk (show wayGo X Y 2 6 = r by rw [← HR.out, HW.out, HV.out]; rfl)
          clear HR HW HV
          go_wp2
          go_roundg 2
          case measure => omega
          case rel => exact ⟨6, by go_num, by omega, HZ, HB6⟩
      · obtain rfl : g = 1 := by omega
        have hbd := spx_bound X Y 2000 1 (by omega) (by omega)
        have HW := Aside0.mk (show wayGo X Y (1 + 1) 6 = if wayHit X Y 6 then (6, (spx X Y 1).1, true) else wayGo X Y 1 7 by rfl)
        have HV := Aside0.mk (show wayHit X Y 6 = (decide (0 < (spx X Y 1).1) && decide ((spx X Y 1).2 = 0)) by rfl)
        go_wp2_with fail
        ((with_reducible refine (spin_calls sa sb X Y 1 (by omega) (by omega) HS.out.1 HS.out.2 (by omega) (by omega) _).mono ?_); rintro e w5 ⟨⟨a, b, rfl, ha, hb⟩, hb5⟩)
        have ha : IsF a (spx X Y 1).1 := ha
        have hb : IsF b (spx X Y 1).2 := hb
        obtain ⟨U, HU⟩ : ∃ U, Aside0 ((spx X Y 1).1 = U) := ⟨_, ⟨rfl⟩⟩
        obtain ⟨V, HU2⟩ : ∃ V, Aside0 ((spx X Y 1).2 = V) := ⟨_, ⟨rfl⟩⟩
        rw [HU.out] at ha hbd HW HV
        rw [HU2.out] at hb hbd HV
        have hcv : ∀ W, (convert 70 3 (.float .f64 a)).run Try.prog W = .ok (.int .i64 U) W := fun W => run_convert_float_int W _ _ _ _ _ _ rfl (by kernel_rfl) (ftoInt ha (by omega))
        have HB6 := Aside0.mk (HB.out.trans (hb5.mono HB.out.size))
        have h1 := ord_gt ha
        have h2 := ord_eq hb f0
        clear ha hb hb5
        by_cases c1 : 0 < U
        · rw [decide_eq_true c1] at h1 HV
          by_cases c2 : V = 0
          · rw [decide_eq_true c2] at h2 HV
            clear c1 c2
            have HZ := Aside0.mk (show r = (6, U, true) by rw [← HR.out, HW.out, HV.out]; rfl)
            clear HR HW HV
            go_wp2
            go_ret3
            exact ⟨by rw [HZ.out]; rfl, HB6.out⟩
          · rw [decide_eq_false c2] at h2 HV
            clear c1 c2
            have HZ := Aside0.mk (show wayGo X Y 1 7 = r by rw [← HR.out, HW.out, HV.out]; rfl)
            clear HR HW HV
            go_wp2
            go_roundg 1
            case measure => omega
            case rel => exact ⟨7, by go_num, by omega, HZ, HB6⟩
        · rw [decide_eq_false c1] at h1 HV
          clear c1 h2
          have HZ := Aside0.mk (show wayGo X Y 1 7 = r by rw [← HR.out, HW.out, HV.out]; rfl)
          clear HR HW HV
          go_wp2
          go_roundg 1
          case measure => omega
          case rel => exact ⟨7, by go_num, by omega, HZ, HB6⟩
      · obtain rfl : g = 0 := by omega
        have hbd := spx_bound X Y 2000 1 (by omega) (by omega)
        have HW := Aside0.mk (show wayGo X Y (0 + 1) 7 = if wayHit X Y 7 then (7, (spx X Y 1).1, true) else wayGo X Y 0 8 by rfl)
        have HV := Aside0.mk (show wayHit X Y 7 = (decide (0 < (spx X Y 1).1) && decide ((spx X Y 1).2 = (spx X Y 1).1)) by rfl)
        go_wp2_with fail
        ((with_reducible refine (spin_calls sa sb X Y 1 (by omega) (by omega) HS.out.1 HS.out.2 (by omega) (by omega) _).mono ?_); rintro e w5 ⟨⟨a, b, rfl, ha, hb⟩, hb5⟩)
        have ha : IsF a (spx X Y 1).1 := ha
        have hb : IsF b (spx X Y 1).2 := hb
        obtain ⟨U, HU⟩ : ∃ U, Aside0 ((spx X Y 1).1 = U) := ⟨_, ⟨rfl⟩⟩
        obtain ⟨V, HU2⟩ : ∃ V, Aside0 ((spx X Y 1).2 = V) := ⟨_, ⟨rfl⟩⟩
        rw [HU.out] at ha hbd HW HV
        rw [HU2.out] at hb hbd HV
        have hcv : ∀ W, (convert 70 3 (.float .f64 a)).run Try.prog W = .ok (.int .i64 U) W := fun W => run_convert_float_int W _ _ _ _ _ _ rfl (by kernel_rfl) (ftoInt ha (by omega))
        have HB6 := Aside0.mk (HB.out.trans (hb5.mono HB.out.size))
        have h1 := ord_gt ha
        have h2 := ord_eq hb ha
        clear ha hb hb5
        by_cases c1 : 0 < U
        · rw [decide_eq_true c1] at h1 HV
          by_cases c2 : V = U
          · rw [decide_eq_true c2] at h2 HV
            clear c1 c2
            have HZ := Aside0.mk (show r = (7, U, true) by rw [← HR.out, HW.out, HV.out]; rfl)
            clear HR HW HV
            go_wp2
            go_ret3
            exact ⟨by rw [HZ.out]; rfl, HB6.out⟩
          · rw [decide_eq_false c2] at h2 HV
            clear c1 c2
            have HZ := Aside0.mk (show wayGo X Y 0 8 = r by rw [← HR.out, HW.out, HV.out]; rfl)
            clear HR HW HV
            go_wp2
            go_roundg 0
            case measure => omega
            case rel => exact ⟨8, by go_num, by omega, HZ, HB6⟩
        · rw [decide_eq_false c1] at h1 HV
          clear c1 h2
          have HZ := Aside0.mk (show wayGo X Y 0 8 = r by rw [← HR.out, HW.out, HV.out]; rfl)
          clear HR HW HV
          go_wp2
          go_roundg 0
          case measure => omega
          case rel => exact ⟨8, by go_num, by omega, HZ, HB6⟩
    · obtain rfl : gk = 0 := by omega
      have HZ := Aside0.mk (show r = (0, 0, false) by rw [← HR.out]; rfl)
      obtain rfl : i = 8 := by omega
      go_wp2
      go_ret3
      exact ⟨by rw [HZ.out]; rfl, HB.out⟩
def plane_Way.f (x y u v : Int) : Option (Int × Int × Bool) := some (wayF x y u v)
theorem plane_Way.calls (a0_0 : Int) (a0_1 : Int) (a1_0 : Int) (a1_1 : Int) (r1 : Int) (r2 : Int) (r3 : Bool) (w : World) (h : plane_Way.f a0_0 a0_1 a1_0 a1_1 = some (r1, r2, r3)) :
    Calls Try.prog 32 #[.agg #[.int .i64 a0_0, .int .i64 a0_1], .agg #[.int .i64 a1_0, .int .i64 a1_1]] w fun e w' => e = .returned (.tuple #[.int .i64 r1, .int .i64 r2, .bool r3]) ∧ Below w.heap.size w w' := by
  have h := Option.some.inj h
  unfold wayF at h
  by_cases hm : -1000 ≤ a0_0 ∧ a0_0 ≤ 1000 ∧ -1000 ≤ a0_1 ∧ a0_1 ≤ 1000
  · by_cases hm2 : -1000 ≤ a1_0 ∧ a1_0 ≤ 1000 ∧ -1000 ≤ a1_1 ∧ a1_1 ≤ 1000
    · by_cases he : a0_0 = a1_0 ∧ a0_1 = a1_1
      · rw [if_neg (fun h => h.2.2 he)] at h
        cases h
        obtain ⟨rfl, rfl⟩ := he
        exact way_same _ _ w hm
      · rw [if_pos ⟨hm, hm2, he⟩] at h
        have := way_ok a0_0 a0_1 a1_0 a1_1 w hm hm2 he
        rw [h] at this
        exact this
    · rw [if_neg (fun h => hm2 h.2.1)] at h
      cases h
      exact way_far2 _ _ _ _ w hm hm2
  · rw [if_neg (fun h => hm h.1)] at h
    cases h
    exact way_far1 _ _ _ _ w hm
end Go.Proofs.Ytoaejpjgicnfoaa.Given
