/-
  Plain facts of the plane: turns, ways and lines of the reference; conditions: the bounds that each says.
-/
import Derived.Test.YtoaejpjgicnfoaaPP
namespace Go.Proofs.Ytoaejpjgicnfoaa.KP
open Go.RowKit Go.Proofs.YtoaejpjgicnfoaaW.PrintWords Go.Proofs.Ytoaejpjgicnfoaa.Given Go.Proofs.Ytoaejpjgicnfoaa.KP0
set_option linter.unusedVariables false

theorem spx_step (x y : Int) (n : Nat) : spx x y (n + 1) = spx (-y) x n := rfl
theorem rturn_l0 (u v : Int) (hu : -1000 ≤ u ∧ u ≤ 1000) (hv : -1000 ≤ v ∧ v ≤ 1000) (q : Int) (d : Nat) : ∀ (i x y : Int), q - i = d → 0 ≤ i → q ≤ 3 → (-2000 ≤ x ∧ x ≤ 2000) → (-2000 ≤ y ∧ y ≤ 2000) →
    Ev (fun k => plummetref05_Turn.l0 k q x y i u v) (toldF (u + (spx x y d).1) (v + (spx x y d).2)) := by
  induction d with
  | zero =>
    intro i x y hd h0 h3 hx hy
    refine Ev.step (f := fun _ => some (toldF (u + x) (v + y))) (fun k => ?_) (Ev.now _)
    simp only [plummetref05_Turn.l0]
    rw [if_neg (by omega), w64 (u + x) (by omega), w64 (v + y) (by omega), rtold]; rfl
  | succ d ih =>
    intro i x y hd h0 h3 hx hy
    refine Ev.step (fun k => ?_) (ih (i + 1) (-y) x (by omega) (by omega) h3 (by omega) hx)
    simp only [plummetref05_Turn.l0]
    rw [if_pos (by omega), w64 (-y) (by omega), w64 (i + 1) (by omega)]
theorem rturn (x y u v q : Int) : Ev (fun k => plummetref05_Turn.f k x y u v q) (turnF x y u v q) := by
  have far : Ev (fun k => plummetref05_Turn.j0 k q true x y u v) (0, 0, 3) := Ev.step (f := fun _ => some (0, 0, 3)) (fun k => by simp only [plummetref05_Turn.j0]; rw [if_pos trivial]) (Ev.now _)
  have arg : Ev (fun k => plummetref05_Turn.j1 k q true x y u v) (0, 0, 2) := Ev.step (f := fun _ => some (0, 0, 2)) (fun k => by simp only [plummetref05_Turn.j1]; rw [if_pos trivial]) (Ev.now _)
  unfold plummetref05_Turn.f turnF
  by_cases hm : -1000 ≤ x ∧ x ≤ 1000 ∧ -1000 ≤ y ∧ y ≤ 1000
  · simp only [rmay_t x y hm, Option.bind_some, if_true]
    by_cases hm2 : -1000 ≤ u ∧ u ≤ 1000 ∧ -1000 ≤ v ∧ v ≤ 1000
    · rw [if_pos ⟨hm, hm2⟩]
      simp only [rmay_t u v hm2, Option.bind_some, Bool.not_true]
      by_cases ha : q < 0 ∨ q > 3
      · rw [if_pos ha]
        refine Ev.step (fun k => ?_) arg
        simp only [plummetref05_Turn.j0]
        rw [if_neg (by simp)]
        by_cases h1 : q < 0
        · rw [if_pos h1]
        · rw [if_neg h1, decide_eq_true (by omega)]
      · rw [if_neg ha]
        refine Ev.step (f := fun k => plummetref05_Turn.j1 k q false x y u v) (fun k => ?_) (Ev.step (fun k => ?_) (rturn_l0 u v ⟨hm2.1, hm2.2.1⟩ ⟨hm2.2.2.1, hm2.2.2.2⟩ q q.toNat 0 (x - u) (y - v) (by omega) (by omega) (by omega) (by omega) (by omega)))
        · simp only [plummetref05_Turn.j0]
          rw [if_neg (by simp), if_neg (by omega), decide_eq_false (by omega)]
        · simp only [plummetref05_Turn.j1]
          rw [if_neg (by simp), w64 (x - u) (by omega), w64 (y - v) (by omega)]
    · rw [if_neg (fun h => hm2 h.2)]
      simp only [rmay_f u v hm2, Option.bind_some, Bool.not_false]
      exact far
  · rw [if_neg (fun h => hm h.1)]
    simp only [rmay_f x y hm, Option.bind_some]
    exact Ev.congr (fun k => by simp) far

/-- In which direction, told plainly. -/
def wayP (X Y : Int) : Int × Int × Bool :=
  if 0 < X ∧ Y = 0 then (0, X, true) else if 0 < X ∧ Y = X then (1, X, true) else if 0 < Y ∧ X = 0 then (2, Y, true) else if 0 < Y ∧ X = -Y then (3, Y, true) else if X < 0 ∧ Y = 0 then (4, -X, true) else if X < 0 ∧ Y = X then (5, -X, true) else if Y < 0 ∧ X = 0 then (6, -Y, true) else if Y < 0 ∧ X = -Y then (7, -Y, true) else (0, 0, false)
theorem wayGo_step (X Y : Int) (g i : Nat) (U V : Int) (p : Prop) [Decidable p] (hu : spx X Y ((4 - i / 2) % 4) = (U, V)) (hp : (0 < U ∧ (if i % 2 = 0 then V = 0 else V = U)) ↔ p) :
    wayGo X Y (g + 1) i = if p then ((i : Int), U, true) else wayGo X Y g (i + 1) := by
  have hh : wayHit X Y i = decide p := by
    unfold wayHit; rw [hu]
    rw [Bool.eq_iff_iff]
    simp only [Bool.and_eq_true, decide_eq_true_eq]
    rw [← hp]
    by_cases h2 : i % 2 = 0
    · simp [h2]
    · simp [h2]
  simp only [wayGo]
  rw [hh, hu]
  by_cases h : p <;> simp [h]
theorem wayGo_plain (X Y : Int) : wayGo X Y 8 0 = wayP X Y := by
  unfold wayP
  rw [wayGo_step X Y 7 0 X Y (0 < X ∧ Y = 0) rfl (by simp),
    wayGo_step X Y 6 1 X Y (0 < X ∧ Y = X) rfl (by simp),
    wayGo_step X Y 5 2 (- -Y) (-X) (0 < Y ∧ X = 0) rfl (by simp),
    wayGo_step X Y 4 3 (- -Y) (-X) (0 < Y ∧ X = -Y) rfl (by simp <;> omega),
    wayGo_step X Y 3 4 (-X) (-Y) (X < 0 ∧ Y = 0) rfl (by simp),
    wayGo_step X Y 2 5 (-X) (-Y) (X < 0 ∧ Y = X) rfl (by simp <;> omega),
    wayGo_step X Y 1 6 (-Y) X (Y < 0 ∧ X = 0) rfl (by simp),
    wayGo_step X Y 0 7 (-Y) X (Y < 0 ∧ X = -Y) rfl (by simp)]
  rw [Int.neg_neg]
  rfl
def most (X Y : Int) : Int := if -Y > (if Y > (if X < 0 then -X else X) then Y else (if X < 0 then -X else X)) then -Y else (if Y > (if X < 0 then -X else X) then Y else (if X < 0 then -X else X))
theorem most_eq (X Y : Int) : 0 ≤ most X Y ∧ X ≤ most X Y ∧ -X ≤ most X Y ∧ Y ≤ most X Y ∧ -Y ≤ most X Y ∧ (most X Y = X ∨ most X Y = -X ∨ most X Y = Y ∨ most X Y = -Y) := by
  unfold most
  repeat' split
  all_goals omega
theorem rway_none (X Y n i : Int) (hn : ¬ (n > 0 ∧ i < 8)) : Ev (fun k => plummetref05_Way.l0 k X Y n i) (0, 0, false) := by
  have fin : Ev (fun k => plummetref05_Way.j5 k X Y n i false) (0, 0, false) := Ev.step (f := fun _ => some (0, 0, false)) (fun k => by simp only [plummetref05_Way.j5]; rw [if_neg (by simp)]) (Ev.now _)
  refine Ev.step (fun k => ?_) fin
  simp only [plummetref05_Way.l0]
  by_cases h : i < 8
  · rw [if_pos h, decide_eq_false (by omega)]
  · rw [if_neg h]
theorem rway_step (X Y n i : Int) (r : Int × Int × Bool) (hb : 0 ≤ n ∧ n ≤ 2000) (hn : 0 < n) (h0 : 0 ≤ i) (h8 : i < 8)
    (h : (X = n * (unitF i).1 ∧ Y = n * (unitF i).2 ∧ r = (i, n, true)) ∨ (¬ (X = n * (unitF i).1 ∧ Y = n * (unitF i).2) ∧ Ev (fun k => plummetref05_Way.l0 k X Y n (i + 1)) r)) :
    Ev (fun k => plummetref05_Way.l0 k X Y n i) r := by
  have hu := umul i n (by omega)
  have e : ∀ k, plummetref05_Way.l0 (k + 1) X Y n i = plummetref05_Way.j5 k X Y n i true := fun k => by
    simp only [plummetref05_Way.l0]; rw [if_pos h8, decide_eq_true hn]
  refine Ev.step e ?_
  rcases h with ⟨h1, h2, rfl⟩ | ⟨h1, h2⟩
  · refine Ev.step (f := fun _ => some (i, n, true)) (fun k => ?_) (Ev.now _)
    simp only [plummetref05_Way.j5]
    rw [if_pos trivial, runit]
    simp only [Option.bind_some]
    rw [w64 (n * (unitF i).1) (by omega), w64 (n * (unitF i).2) (by omega), if_pos h1, if_pos h2]
  · refine Ev.step (fun k => ?_) h2
    simp only [plummetref05_Way.j5]
    rw [if_pos trivial, runit]
    simp only [Option.bind_some]
    rw [w64 (n * (unitF i).1) (by omega), w64 (n * (unitF i).2) (by omega), w64 (i + 1) (by omega)]
    by_cases g1 : X = n * (unitF i).1
    · rw [if_pos g1, if_neg (fun g2 => h1 ⟨g1, g2⟩)]
    · rw [if_neg g1]
theorem rway_all (X Y n : Int) (hb : 0 ≤ n ∧ n ≤ 2000) (hm : X ≤ n ∧ -X ≤ n ∧ Y ≤ n ∧ -Y ≤ n ∧ (n = X ∨ n = -X ∨ n = Y ∨ n = -Y)) : Ev (fun k => plummetref05_Way.l0 k X Y n 0) (wayP X Y) := by
  by_cases hn : 0 < n
  · have u0 : unitF 0 = (1, 0) := rfl
    have u1 : unitF 1 = (1, 1) := rfl
    have u2 : unitF 2 = (0, 1) := rfl
    have u3 : unitF 3 = (-1, 1) := rfl
    have u4 : unitF 4 = (-1, 0) := rfl
    have u5 : unitF 5 = (-1, -1) := rfl
    have u6 : unitF 6 = (0, -1) := rfl
    have u7 : unitF 7 = (1, -1) := rfl
    unfold wayP
    refine rway_step X Y n 0 _ hb hn (by omega) (by omega) ?_
    rw [u0]; dsimp only
    by_cases c0 : 0 < X ∧ Y = 0
    · rw [if_pos c0]; exact .inl ⟨by omega, by omega, by rw [show X = n by omega]⟩
    rw [if_neg c0]; refine .inr ⟨by omega, ?_⟩
    refine rway_step X Y n 1 _ hb hn (by omega) (by omega) ?_
    rw [u1]; dsimp only
    by_cases c1 : 0 < X ∧ Y = X
    · rw [if_pos c1]; exact .inl ⟨by omega, by omega, by rw [show X = n by omega]⟩
    rw [if_neg c1]; refine .inr ⟨by omega, ?_⟩
    refine rway_step X Y n 2 _ hb hn (by omega) (by omega) ?_
    rw [u2]; dsimp only
    by_cases c2 : 0 < Y ∧ X = 0
    · rw [if_pos c2]; exact .inl ⟨by omega, by omega, by rw [show Y = n by omega]⟩
    rw [if_neg c2]; refine .inr ⟨by omega, ?_⟩
    refine rway_step X Y n 3 _ hb hn (by omega) (by omega) ?_
    rw [u3]; dsimp only
    by_cases c3 : 0 < Y ∧ X = -Y
    · rw [if_pos c3]; exact .inl ⟨by omega, by omega, by rw [show Y = n by omega]⟩
    rw [if_neg c3]; refine .inr ⟨by omega, ?_⟩
    refine rway_step X Y n 4 _ hb hn (by omega) (by omega) ?_
    rw [u4]; dsimp only
    by_cases c4 : X < 0 ∧ Y = 0
    · rw [if_pos c4]; exact .inl ⟨by omega, by omega, by rw [show -X = n by omega]⟩
    rw [if_neg c4]; refine .inr ⟨by omega, ?_⟩
    refine rway_step X Y n 5 _ hb hn (by omega) (by omega) ?_
    rw [u5]; dsimp only
    by_cases c5 : X < 0 ∧ Y = X
    · rw [if_pos c5]; exact .inl ⟨by omega, by omega, by rw [show -X = n by omega]⟩
    rw [if_neg c5]; refine .inr ⟨by omega, ?_⟩
    refine rway_step X Y n 6 _ hb hn (by omega) (by omega) ?_
    rw [u6]; dsimp only
    by_cases c6 : Y < 0 ∧ X = 0
    · rw [if_pos c6]; exact .inl ⟨by omega, by omega, by rw [show -Y = n by omega]⟩
    rw [if_neg c6]; refine .inr ⟨by omega, ?_⟩
    refine rway_step X Y n 7 _ hb hn (by omega) (by omega) ?_
    rw [u7]; dsimp only
    by_cases c7 : Y < 0 ∧ X = -Y
    · rw [if_pos c7]; exact .inl ⟨by omega, by omega, by rw [show -Y = n by omega]⟩
    rw [if_neg c7]; refine .inr ⟨by omega, ?_⟩
    exact rway_none _ _ _ _ (by omega)
  · have hX : X = 0 := by omega
    have hY : Y = 0 := by omega
    subst hX hY
    exact rway_none _ _ _ _ (by omega)
theorem rway (x y u v : Int) : Ev (fun k => plummetref05_Way.f k x y u v) (wayF x y u v) := by
  have far : Ev (fun k => plummetref05_Way.j0 k true x y u v) (0, 0, false) := Ev.step (f := fun _ => some (0, 0, false)) (fun k => by simp only [plummetref05_Way.j0]; rw [if_pos trivial]) (Ev.now _)
  unfold plummetref05_Way.f wayF
  by_cases hm : -1000 ≤ x ∧ x ≤ 1000 ∧ -1000 ≤ y ∧ y ≤ 1000
  · simp only [rmay_t x y hm, Option.bind_some, if_true]
    by_cases hm2 : -1000 ≤ u ∧ u ≤ 1000 ∧ -1000 ≤ v ∧ v ≤ 1000
    · simp only [rmay_t u v hm2, Option.bind_some, Bool.not_true]
      have hr : (if (-1000 ≤ x ∧ x ≤ 1000 ∧ -1000 ≤ y ∧ y ≤ 1000) ∧ (-1000 ≤ u ∧ u ≤ 1000 ∧ -1000 ≤ v ∧ v ≤ 1000) ∧ ¬ (x = u ∧ y = v) then wayGo (u - x) (v - y) 8 0 else (0, 0, false)) = wayP (u - x) (v - y) := by
        by_cases he : x = u ∧ y = v
        · rw [if_neg (fun h => h.2.2 he)]
          obtain ⟨rfl, rfl⟩ := he
          rw [Int.sub_self, Int.sub_self]; rfl
        · rw [if_pos ⟨hm, hm2, he⟩, wayGo_plain]
      rw [hr]
      have hx : -2000 ≤ u - x ∧ u - x ≤ 2000 := by omega
      have hy : -2000 ≤ v - y ∧ v - y ≤ 2000 := by omega
      have hk := rway_all (u - x) (v - y) (most (u - x) (v - y)) (by have := most_eq (u - x) (v - y); omega) (by have := most_eq (u - x) (v - y); omega)
      generalize hX : u - x = X at *
      generalize hY : v - y = Y at *
      have e1 : wrap64 X = X := w64 _ (by omega)
      have e2 : wrap64 Y = Y := w64 _ (by omega)
      have e3 : wrap64 (-X) = -X := w64 _ (by omega)
      have e4 : wrap64 (-Y) = -Y := w64 _ (by omega)
      refine Ev.step (f := fun k => plummetref05_Way.j1 k X Y (if X < 0 then -X else X)) (fun k => ?_) ?_
      · simp only [plummetref05_Way.j0]
        rw [if_neg (by simp), hX, hY, e1, e2, e3]
        by_cases h : X < 0 <;> simp [h]
      refine Ev.step (f := fun k => plummetref05_Way.j2 k X Y (if Y > (if X < 0 then -X else X) then Y else (if X < 0 then -X else X))) (fun k => ?_) ?_
      · simp only [plummetref05_Way.j1]
        by_cases h : Y > (if X < 0 then -X else X)
        · rw [if_pos h, if_pos h]
        · rw [if_neg h, if_neg h]
      refine Ev.step (f := fun k => plummetref05_Way.j3 k X Y (most X Y)) (fun k => ?_) ?_
      · simp only [plummetref05_Way.j2]
        rw [e4]
        unfold most
        by_cases h : -Y > (if Y > (if X < 0 then -X else X) then Y else (if X < 0 then -X else X))
        · rw [if_pos h, if_pos h]
        · rw [if_neg h, if_neg h]
      exact Ev.step (fun k => by simp only [plummetref05_Way.j3]) hk
    · rw [if_neg (fun h => hm2 h.2.1)]
      simp only [rmay_f u v hm2, Option.bind_some, Bool.not_false]
      exact far
  · rw [if_neg (fun h => hm h.1)]
    simp only [rmay_f x y hm, Option.bind_some]
    exact Ev.congr (fun k => by simp) far
theorem stepF_some (x y d n : Int) (h0 : 0 ≤ d) (h7 : d ≤ 7) (hn : -2000 ≤ n ∧ n ≤ 2000) (hm : -1000 ≤ x ∧ x ≤ 1000 ∧ -1000 ≤ y ∧ y ≤ 1000)
    (he : -1000 ≤ x + n * (unitF d).1 ∧ x + n * (unitF d).1 ≤ 1000 ∧ -1000 ≤ y + n * (unitF d).2 ∧ y + n * (unitF d).2 ≤ 1000) : stepF x y d n = (x + n * (unitF d).1, y + n * (unitF d).2, 0) := by
  unfold stepF; rw [if_pos hm, if_neg (by omega)]; unfold toldF; rw [if_pos he]
theorem stepF_inv (x y d n a b : Int) (h : stepF x y d n = (a, b, 0)) :
    0 ≤ d ∧ d ≤ 7 ∧ (-2000 ≤ n ∧ n ≤ 2000) ∧ (-1000 ≤ x ∧ x ≤ 1000 ∧ -1000 ≤ y ∧ y ≤ 1000) ∧ a = x + n * (unitF d).1 ∧ b = y + n * (unitF d).2 ∧ (-1000 ≤ a ∧ a ≤ 1000 ∧ -1000 ≤ b ∧ b ≤ 1000) := by
  unfold stepF at h
  split at h
  · rename_i hm
    split at h
    · cases h
    · unfold toldF at h
      split at h
      · rename_i ht
        cases h
        exact ⟨by omega, by omega, by omega, hm, rfl, rfl, ht⟩
      · cases h
  · cases h
theorem tween (x u n i : Int) (hu : u = -1 ∨ u = 0 ∨ u = 1) (hx : -1000 ≤ x ∧ x ≤ 1000) (hn : -1000 ≤ x + n * u ∧ x + n * u ≤ 1000) (h0 : 0 ≤ i) (h1 : i ≤ n) : -1000 ≤ x + i * u ∧ x + i * u ≤ 1000 := by
  rcases hu with rfl | rfl | rfl <;> omega
theorem rline_l0_ok (x y d : Int) (n : Nat) (hn : n ≤ 2001) (hok : ∀ i : Nat, i < n → stepF x y d i = (x + i * (unitF d).1, y + i * (unitF d).2, 0)) (g : Nat) : ∀ i : Nat, i + g = n →
    Ev (fun k => plummetref05_Line.l0 k d n (lineL x y d i) i x y) (lineL x y d n) := by
  induction g with
  | zero =>
    intro i hi
    obtain rfl : i = n := by omega
    refine Ev.step (f := fun _ => some (lineL x y d i)) (fun k => ?_) (Ev.now _)
    simp only [plummetref05_Line.l0]; rw [if_neg (by omega)]
  | succ g ih =>
    intro i hi
    have hs := rstep x y d i
    rw [hok i (by omega)] at hs
    have hl : (lineL x y d i).length = i := by simp [lineL]
    refine Ev.step (f := fun k => (plummetref05_Step.f k x y d i).bind fun bt141 => (if bt141.2.2 = 0 then (if (lineL x y d i).length < 8796093022208 then (plummetref05_Line.l0 k d n (lineL x y d i ++ [(⟨bt141.1, bt141.2.1⟩ : S40)]) (wrap64 (i + 1)) x y) else (none)) else (some ([] : List (S40))))) (fun k => ?_) (Ev.bind hs ?_)
    · simp only [plummetref05_Line.l0]; rw [if_pos (by omega)]
    · refine Ev.congr (fun k => ?_) (ih (i + 1) (by omega))
      dsimp only
      rw [if_pos rfl, if_pos (by rw [hl]; omega), w64 ((i : Int) + 1) (by omega), lineL_succ]
      rfl
theorem rline_l0_no (x y d : Int) (n : Nat) (hn : n ≤ 2001) (g : Nat) : ∀ i : Nat, i + g + 1 = n → ¬ (stepF x y d ((n : Int) - 1)).2.2 = 0 →
    Ev (fun k => plummetref05_Line.l0 k d n (lineL x y d i) i x y) [] := by
  induction g with
  | zero =>
    intro i hi hno
    have hs := rstep x y d i
    rw [show (n : Int) - 1 = (i : Int) by omega] at hno
    obtain ⟨⟨p, q, c⟩, hc⟩ : ∃ t, stepF x y d i = t := ⟨_, rfl⟩
    rw [hc] at hs hno
    refine Ev.step (f := fun k => (plummetref05_Step.f k x y d i).bind fun bt141 => (if bt141.2.2 = 0 then (if (lineL x y d i).length < 8796093022208 then (plummetref05_Line.l0 k d n (lineL x y d i ++ [(⟨bt141.1, bt141.2.1⟩ : S40)]) (wrap64 (i + 1)) x y) else (none)) else (some ([] : List (S40))))) (fun k => ?_) (Ev.bind hs ?_)
    · simp only [plummetref05_Line.l0]; rw [if_pos (by omega)]
    · exact Ev.congr (f := fun _ => some []) (fun k => by dsimp only; rw [if_neg hno]) (Ev.now _)
  | succ g ih =>
    intro i hi hno
    have hs := rstep x y d i
    have hl : (lineL x y d i).length = i := by simp [lineL]
    obtain ⟨⟨p, q, c⟩, hc⟩ : ∃ t, stepF x y d i = t := ⟨_, rfl⟩
    rw [hc] at hs
    refine Ev.step (f := fun k => (plummetref05_Step.f k x y d i).bind fun bt141 => (if bt141.2.2 = 0 then (if (lineL x y d i).length < 8796093022208 then (plummetref05_Line.l0 k d n (lineL x y d i ++ [(⟨bt141.1, bt141.2.1⟩ : S40)]) (wrap64 (i + 1)) x y) else (none)) else (some ([] : List (S40))))) (fun k => ?_) (Ev.bind hs ?_)
    · simp only [plummetref05_Line.l0]; rw [if_pos (by omega)]
    · by_cases h0 : c = 0
      · subst h0
        obtain ⟨_, _, _, _, ea, eb, _⟩ := stepF_inv _ _ _ _ _ _ hc
        refine Ev.congr (fun k => ?_) (ih (i + 1) (by omega) hno)
        dsimp only
        rw [if_pos rfl, if_pos (by rw [hl]; omega), w64 ((i : Int) + 1) (by omega), lineL_succ, ea, eb]
        rfl
      · exact Ev.congr (f := fun _ => some []) (fun k => by dsimp only; rw [if_neg h0]) (Ev.now _)
theorem rline (x y d n : Int) : Ev (fun k => plummetref05_Line.f k x y d n) (lineF x y d n) := by
  unfold plummetref05_Line.f
  by_cases hn : n < 1 ∨ n > 2001
  · have hl : lineF x y d n = [] := by unfold lineF; rw [if_pos (by omega)]
    rw [hl]
    refine Ev.congr (f := fun k => plummetref05_Line.j0 k d n true x y) (fun k => ?_) (Ev.step (f := fun _ => some []) (fun k => by simp only [plummetref05_Line.j0]; rw [if_pos trivial]) (Ev.now _))
    by_cases h1 : n < 1
    · rw [if_pos h1]
    · rw [if_neg h1, decide_eq_true (by omega)]
  · refine Ev.congr (f := fun k => plummetref05_Line.j0 k d n false x y) (fun k => by rw [if_neg (by omega), decide_eq_false (by omega)]) (Ev.step (f := fun k => plummetref05_Line.l0 k d n [] 0 x y) (fun k => by simp only [plummetref05_Line.j0]; rw [if_neg (by simp)]) ?_)
    obtain ⟨m, rfl⟩ : ∃ m : Nat, n = (m : Int) := ⟨n.toNat, by omega⟩
    by_cases hs : (stepF x y d ((m : Int) - 1)).2.2 = 0
    · obtain ⟨⟨p, q, c⟩, hc⟩ : ∃ t, stepF x y d ((m : Int) - 1) = t := ⟨_, rfl⟩
      rw [hc] at hs
      obtain rfl : c = 0 := hs
      obtain ⟨h0, h7, hb, hm, ea, eb, hr⟩ := stepF_inv _ _ _ _ _ _ hc
      subst ea eb
      have hl : lineF x y d m = lineL x y d m := by unfold lineF; rw [if_neg (by omega), hc]; rfl
      rw [hl]
      obtain ⟨k1, k2⟩ := unit_bound d
      refine rline_l0_ok x y d m (by omega) (fun i hi => ?_) m 0 (by omega)
      have t1 := tween x (unitF d).1 (m - 1) i (by omega) ⟨hm.1, hm.2.1⟩ ⟨hr.1, hr.2.1⟩ (by omega) (by omega)
      have t2 := tween y (unitF d).2 (m - 1) i (by omega) ⟨hm.2.2.1, hm.2.2.2⟩ ⟨hr.2.2.1, hr.2.2.2⟩ (by omega) (by omega)
      exact stepF_some x y d i h0 h7 (by omega) hm ⟨t1.1, t1.2, t2.1, t2.2⟩
    · have hl : lineF x y d m = [] := by
        unfold lineF
        split
        · rfl
        · first | rfl | rw [if_neg hs]
      rw [hl]
      exact rline_l0_no x y d m (by omega) (m - 1) 0 (by omega) hs
end Go.Proofs.Ytoaejpjgicnfoaa.KP
