/-
  The plane's functions over complex numbers, walked by hand: over whole numbers of some thousands they are exact; conditions: the bounds that each says.
-/
import Derived.Test.YtbbnnjcdglplkaaBase2
import Derived.Test.YtbbnnjcdglplkaaFloat
import Derived.Test.YtbbnnjcdglplkaaKP0x
namespace Go.Proofs.Ytbbnnjcdglplkaa.Given
open Go.RowKit Go.Proofs.YtbbnnjcdglplkaaW.PrintWords Go.Proofs.Ytbbnnjcdglplkaa.Base Go.Proofs.Ytbbnnjcdglplkaa.Fl Go.Proofs.Ytbbnnjcdglplkaa.KP0
set_option linter.unusedVariables false
set_option maxRecDepth 100000

/-- A complex number whose parts are whole numbers, below `B`. -/
def CF (v : Value) (x y : Int) : Prop := ∃ a b, v = .complex .f64 a b ∧ IsF a x ∧ IsF b y
theorem back_calls (a b : Nat) (x y : Int) (ha : IsF a x) (hb : IsF b y) (hx : x.natAbs ≤ 8192) (hy : y.natAbs ≤ 8192) (w : World) :
    Calls Try.prog 93 #[.complex .f64 a b] w fun e w' => e = .returned (.agg #[.int .i64 x, .int .i64 y]) ∧ Below w.heap.size w w' := by
  have e1 : ∀ W, (convert 122 3 (.float .f64 a)).run Try.prog W = .ok (.int .i64 x) W := fun W => run_convert_float_int W _ _ _ _ _ _ rfl (by kernel_rfl) (ftoInt ha hx)
  have e2 : ∀ W, (convert 122 3 (.float .f64 b)).run Try.prog W = .ok (.int .i64 y) W := fun W => run_convert_float_int W _ _ _ _ _ _ rfl (by kernel_rfl) (ftoInt hb hy)
  go_enter Try.func93, Try.ntmps93
  go_wp2
  exact bodyPost_ret (v := .agg #[.int .i64 x, .int .i64 y]) (by simp [results, Try.results93, go_sem]) rfl ⟨rfl, ((Below.refl _ _).alloc (Nat.le_refl _) _)⟩
theorem of_calls (x y : Int) (hx : x.natAbs ≤ 8192) (hy : y.natAbs ≤ 8192) (w : World) :
    Calls Try.prog 90 #[.agg #[.int .i64 x, .int .i64 y]] w fun e w' => (∃ a b, e = .returned (.complex .f64 a b) ∧ IsF a x ∧ IsF b y) ∧ Below w.heap.size w w' := by
  have h1 := fofInt x hx
  have h2 := fofInt y hy
  go_enter Try.func90, Try.ntmps90
  go_wp2
  go_ret
  exact ⟨⟨_, _, rfl, h1, h2⟩, ((Below.refl _ _).alloc (Nat.le_refl _) _)⟩
/-- A number turned by quarters. -/
def spx (x y : Int) : Nat → Int × Int
  | 0 => (x, y)
  | n + 1 => spx (-y) x n
theorem spx_bound (x y : Int) (B : Nat) (n : Nat) : x.natAbs ≤ B → y.natAbs ≤ B → (spx x y n).1.natAbs ≤ B ∧ (spx x y n).2.natAbs ≤ B := by
  induction n generalizing x y with
  | zero => exact fun h1 h2 => ⟨h1, h2⟩
  | succ n ih => exact fun h1 h2 => ih (-y) x (by rw [Int.natAbs_neg]; exact h2) h1
set_option maxHeartbeats 1000000 in
theorem spin_calls (a b : Nat) (x y : Int) (q : Int) (h0 : 0 ≤ q) (hn : q ≤ 4) (ha : IsF a x) (hb : IsF b y) (hx : x.natAbs ≤ 4096) (hy : y.natAbs ≤ 4096) (w : World) :
    Calls Try.prog 94 #[.complex .f64 a b, .int .i64 q] w fun e w' => (∃ a b, e = .returned (.complex .f64 a b) ∧ IsF a (spx x y q.toNat).1 ∧ IsF b (spx x y q.toNat).2) ∧ Below w.heap.size w w' := by
  obtain ⟨n, rfl⟩ : ∃ n : Nat, q = (n : Int) := ⟨q.toNat, by omega⟩
  rw [Int.toNat_natCast]
  go_enter Try.func94, Try.ntmps94
  go_wp2
  go_loopg [0, 6] n (fun g v0 v6 wr => ∃ (c d : Nat) (u v : Int) (i : Nat), v0 = .complex .f64 c d ∧ v6 = .int .i64 (i : Int) ∧ i + g = n ∧ Aside0 (IsF c u ∧ IsF d v ∧ u.natAbs ≤ 4096 ∧ v.natAbs ≤ 4096 ∧ spx u v g = spx x y n) ∧ Below w.heap.size w wr)
  case atStart => exact ⟨a, b, x, y, 0, rfl, rfl, by omega, ⟨ha, hb, hx, hy, rfl⟩, Below.refl _ _⟩
  case round =>
    obtain ⟨c, d, u, v, i, rfl, rfl, hi, ⟨hc, hd, hu, hv, hs⟩, hB⟩ := hrel
    by_cases hlt : i < n
    · obtain ⟨g, rfl⟩ : ∃ g, gk = g + 1 := ⟨gk - 1, by omega⟩
      obtain ⟨c', d', hm, hc', hd'⟩ := cmul hc hd f0 f1 (by omega) (by omega) (by omega) (by omega) (by omega) (by omega)
      have hmul : ∀ W, (binOp .mul 119 (.complex .f64 c d) (.complex .f64 0 4607182418800017408)).run Try.prog W = .ok (.complex .f64 c' d') W := fun W => run_complex_mul W _ _ _ _ _ _ _ hm
      rw [show u * 0 - v * 1 = -v by omega] at hc'
      rw [show u * 1 + v * 0 = u by omega] at hd'
      have HA : Aside0 (IsF c' (-v) ∧ IsF d' u ∧ (-v).natAbs ≤ 4096 ∧ u.natAbs ≤ 4096 ∧ spx (-v) u g = spx x y n) := ⟨hc', hd', by omega, hu, hs⟩
      clear hm hc' hd' hc hd hs
      go_wp2
      go_roundg g
      case measure => omega
      case rel => exact ⟨c', d', _, _, i + 1, rfl, by go_num, by omega, HA, hB⟩
    · obtain rfl : gk = 0 := by omega
      have HA : Aside0 (IsF c (spx x y n).1 ∧ IsF d (spx x y n).2) := by rw [← hs]; exact ⟨hc, hd⟩
      clear hc hd hs
      go_wp2
      go_ret
      exact ⟨⟨_, _, rfl, HA.out⟩, hB⟩
def unitF (d : Int) : Int × Int := if d = 0 then (1, 0) else if d = 1 then (1, 1) else if d = 2 then (0, 1) else if d = 3 then (-1, 1) else if d = 4 then (-1, 0) else if d = 5 then (-1, -1) else if d = 6 then (0, -1) else (1, -1)
theorem unit_calls (d : Int) (h0 : 0 ≤ d) (h7 : d ≤ 7) (w : World) :
    Calls Try.prog 92 #[.int .i64 d] w fun e w' => (∃ a b, e = .returned (.complex .f64 a b) ∧ IsF a (unitF d).1 ∧ IsF b (unitF d).2) ∧ Below w.heap.size w w' := by
  have hd : d = 0 ∨ d = 1 ∨ d = 2 ∨ d = 3 ∨ d = 4 ∨ d = 5 ∨ d = 6 ∨ d = 7 := by omega
  rcases hd with rfl | rfl | rfl | rfl | rfl | rfl | rfl | rfl
  · go_enter Try.func92, Try.ntmps92
    go_wp2_with fail
    ((with_reducible refine (spin_calls 4607182418800017408 0 1 0 0 (by omega) (by omega) f1 f0 (by decide) (by decide) _).mono ?_); rintro e w1 ⟨⟨a, b, rfl, h1, h2⟩, hb⟩)
    have HA : Aside0 (IsF a (unitF 0).1 ∧ IsF b (unitF 0).2) := ⟨h1, h2⟩
    clear h1 h2
    go_wp2
    go_ret
    exact ⟨⟨_, _, rfl, HA.out⟩, hb⟩
  · go_enter Try.func92, Try.ntmps92
    go_wp2_with fail
    ((with_reducible refine (spin_calls 4607182418800017408 4607182418800017408 1 1 0 (by omega) (by omega) f1 f1 (by decide) (by decide) _).mono ?_); rintro e w1 ⟨⟨a, b, rfl, h1, h2⟩, hb⟩)
    have HA : Aside0 (IsF a (unitF 1).1 ∧ IsF b (unitF 1).2) := ⟨h1, h2⟩
    clear h1 h2
    go_wp2
    go_ret
    exact ⟨⟨_, _, rfl, HA.out⟩, hb⟩
  · go_enter Try.func92, Try.ntmps92
    go_wp2_with fail
    ((with_reducible refine (spin_calls 4607182418800017408 0 1 0 1 (by omega) (by omega) f1 f0 (by decide) (by decide) _).mono ?_); rintro e w1 ⟨⟨a, b, rfl, h1, h2⟩, hb⟩)
    have HA : Aside0 (IsF a (unitF 2).1 ∧ IsF b (unitF 2).2) := ⟨h1, h2⟩
    clear h1 h2
    go_wp2
    go_ret
    exact ⟨⟨_, _, rfl, HA.out⟩, hb⟩
  · go_enter Try.func92, Try.ntmps92
    go_wp2_with fail
    ((with_reducible refine (spin_calls 4607182418800017408 4607182418800017408 1 1 1 (by omega) (by omega) f1 f1 (by decide) (by decide) _).mono ?_); rintro e w1 ⟨⟨a, b, rfl, h1, h2⟩, hb⟩)
    have HA : Aside0 (IsF a (unitF 3).1 ∧ IsF b (unitF 3).2) := ⟨h1, h2⟩
    clear h1 h2
    go_wp2
    go_ret
    exact ⟨⟨_, _, rfl, HA.out⟩, hb⟩
  · go_enter Try.func92, Try.ntmps92
    go_wp2_with fail
    ((with_reducible refine (spin_calls 4607182418800017408 0 1 0 2 (by omega) (by omega) f1 f0 (by decide) (by decide) _).mono ?_); rintro e w1 ⟨⟨a, b, rfl, h1, h2⟩, hb⟩)
    have HA : Aside0 (IsF a (unitF 4).1 ∧ IsF b (unitF 4).2) := ⟨h1, h2⟩
    clear h1 h2
    go_wp2
    go_ret
    exact ⟨⟨_, _, rfl, HA.out⟩, hb⟩
  · go_enter Try.func92, Try.ntmps92
    go_wp2_with fail
    ((with_reducible refine (spin_calls 4607182418800017408 4607182418800017408 1 1 2 (by omega) (by omega) f1 f1 (by decide) (by decide) _).mono ?_); rintro e w1 ⟨⟨a, b, rfl, h1, h2⟩, hb⟩)
    have HA : Aside0 (IsF a (unitF 5).1 ∧ IsF b (unitF 5).2) := ⟨h1, h2⟩
    clear h1 h2
    go_wp2
    go_ret
    exact ⟨⟨_, _, rfl, HA.out⟩, hb⟩
  · go_enter Try.func92, Try.ntmps92
    go_wp2_with fail
    ((with_reducible refine (spin_calls 4607182418800017408 0 1 0 3 (by omega) (by omega) f1 f0 (by decide) (by decide) _).mono ?_); rintro e w1 ⟨⟨a, b, rfl, h1, h2⟩, hb⟩)
    have HA : Aside0 (IsF a (unitF 6).1 ∧ IsF b (unitF 6).2) := ⟨h1, h2⟩
    clear h1 h2
    go_wp2
    go_ret
    exact ⟨⟨_, _, rfl, HA.out⟩, hb⟩
  · go_enter Try.func92, Try.ntmps92
    go_wp2_with fail
    ((with_reducible refine (spin_calls 4607182418800017408 4607182418800017408 1 1 3 (by omega) (by omega) f1 f1 (by decide) (by decide) _).mono ?_); rintro e w1 ⟨⟨a, b, rfl, h1, h2⟩, hb⟩)
    have HA : Aside0 (IsF a (unitF 7).1 ∧ IsF b (unitF 7).2) := ⟨h1, h2⟩
    clear h1 h2
    go_wp2
    go_ret
    exact ⟨⟨_, _, rfl, HA.out⟩, hb⟩
theorem may_t (x y : Int) (h : -1000 ≤ x ∧ x ≤ 1000 ∧ -1000 ≤ y ∧ y ≤ 1000) : plane_May.f x y = some true := by
  unfold plane_May.f; rw [if_pos (by omega), if_pos (by omega), if_pos (by omega), decide_eq_true (by omega)]
theorem may_f (x y : Int) (h : ¬ (-1000 ≤ x ∧ x ≤ 1000 ∧ -1000 ≤ y ∧ y ≤ 1000)) : plane_May.f x y = some false := by
  unfold plane_May.f
  by_cases h1 : x ≥ -1000 <;> by_cases h2 : x ≤ 1000 <;> by_cases h3 : y ≥ -1000 <;> by_cases h4 : y ≤ 1000 <;> simp [h1, h2, h3, h4] <;> omega
def toldF (x y : Int) : Int × Int × Int := if -1000 ≤ x ∧ x ≤ 1000 ∧ -1000 ≤ y ∧ y ≤ 1000 then (x, y, 0) else (0, 0, 3)
theorem told_calls (a b : Nat) (x y : Int) (ha : IsF a x) (hb : IsF b y) (hx : x.natAbs ≤ 8192) (hy : y.natAbs ≤ 8192) (w : World) :
    Calls Try.prog 91 #[.complex .f64 a b] w fun e w' => e = .returned (.tuple #[.agg #[.int .i64 (toldF x y).1, .int .i64 (toldF x y).2.1], .int .i64 (toldF x y).2.2]) ∧ Below w.heap.size w w' := by
  by_cases h : -1000 ≤ x ∧ x ≤ 1000 ∧ -1000 ≤ y ∧ y ≤ 1000
  · have ht : toldF x y = (x, y, 0) := if_pos h
    rw [ht]
    clear ht
    go_enter Try.func91, Try.ntmps91
    go_wp2_with fail
    refine (back_calls a b x y ha hb hx hy _).mono ?_
    rintro e w1 ⟨rfl, hb1⟩
    go_wp2_with fail
    refine (plane_May.calls x y true _ (may_t x y h)).mono ?_
    rintro e w2 ⟨rfl, hb2⟩
    have hB0 := ((Below.refl _ w).alloc (Nat.le_refl _) _).trans (hb1.mono (by simp))
    have hB1 := hB0.trans (((Below.refl _ w1).alloc (Nat.le_refl _) _).trans (hb2.mono (by simp)) |>.mono hB0.size)
    have harr : Arr w2 w1.heap.size [.int .i64 x, .int .i64 y] 25 := (Arr.new w1 _ _).below hb2 (by simp)
    have hres : Arr w2 w.heap.size [.int .i64 0, .int .i64 0] 25 := (arr_alloc ((Arr.new w _ _).below hb1 (by simp)) _).below hb2 (by have := hb1.size; simp at this; simp; omega)
    have c0 := ctwo0 harr
    have c1 := ctwo1 harr
    have d0 := ctwo0 hres
    have d1 := ctwo1 hres
    have g0 := hres.free 0
    have g1 := hres.free 1
    have hz : w.heap.size < w1.heap.size := by have := hb1.size; simp at this; omega
    clear h
    go_wp2
    exact bodyPost_ret (v := .tuple #[.agg #[.int .i64 x, .int .i64 y], .int .i64 0]) (by simp [results, Try.results91, go_sem, d0, d1]) rfl ⟨rfl, (hB1.setCell (Nat.le_refl _) _).setCell (Nat.le_refl _) _⟩
  · have ht : toldF x y = (0, 0, 3) := if_neg h
    rw [ht]
    clear ht
    go_enter Try.func91, Try.ntmps91
    go_wp2_with fail
    refine (back_calls a b x y ha hb hx hy _).mono ?_
    rintro e w1 ⟨rfl, hb1⟩
    go_wp2_with fail
    refine (plane_May.calls x y false _ (may_f x y h)).mono ?_
    rintro e w2 ⟨rfl, hb2⟩
    have hB0 := ((Below.refl _ w).alloc (Nat.le_refl _) _).trans (hb1.mono (by simp))
    have hB1 := hB0.trans (((Below.refl _ w1).alloc (Nat.le_refl _) _).trans (hb2.mono (by simp)) |>.mono hB0.size)
    have harr : Arr w2 w1.heap.size [.int .i64 x, .int .i64 y] 25 := (Arr.new w1 _ _).below hb2 (by simp)
    have hres : Arr w2 w.heap.size [.int .i64 0, .int .i64 0] 25 := (arr_alloc ((Arr.new w _ _).below hb1 (by simp)) _).below hb2 (by have := hb1.size; simp at this; simp; omega)
    have c0 := ctwo0 harr
    have c1 := ctwo1 harr
    have d0 := ctwo0 hres
    have d1 := ctwo1 hres
    have g0 := hres.free 0
    have g1 := hres.free 1
    have hz : w.heap.size < w1.heap.size := by have := hb1.size; simp at this; omega
    clear h
    go_wp2
    exact bodyPost_ret (v := .tuple #[.agg #[.int .i64 0, .int .i64 0], .int .i64 3]) (by simp [results, Try.results91, go_sem, d0, d1]) rfl ⟨rfl, (hB1.setCell (Nat.le_refl _) _).setCell (Nat.le_refl _) _⟩
end Go.Proofs.Ytbbnnjcdglplkaa.Given
