/-
  What wide.Add and wide.Not answer, as functions of numbers of 128 bits; conditions: numbers of 64 bits.
-/
import Derived.Test.YtnenmiaeomcdpaaWide1
import Derived.Laws.DeepNot64
namespace Go.Proofs.Ytnenmiaeomcdpaa.Given
open Go.RowKit Go.Proofs.YtnenmiaeomcdpaaW.PrintWords Go.Proofs.Ytnenmiaeomcdpaa.Base
set_option linter.unusedVariables false

theorem run_add (x y c : Nat) (hx : x < M64) (hy : y < M64) (hc : c ≤ 1) (w : World) :
    (callFunc 57 #[.int .u64 (x : Int), .int .u64 (y : Int), .int .u64 (c : Int)]).run Try.prog w =
      .ok (.value (.tuple #[.int .u64 (((x + y + c) % M64 : Nat) : Int), .int .u64 (((x + y + c) / M64 : Nat) : Int)])) w := by
  unfold M64 at *
  rw [run_callFunc_extern Try.func57 (by kernel_rfl) (by kernel_rfl) (by kernel_rfl) (e := add64Entry) (by kernel_rfl), run_add64 x y c (by omega) (by omega) (by omega) (by omega)]
  simp only [Result.andThen]
  congr 5 <;> omega
set_option maxHeartbeats 1000000 in
theorem add_go (ah al bh bl c : Nat) (h1 : ah < M64) (h2 : al < M64) (h3 : bh < M64) (h4 : bl < M64) (hc : c = (al + bl + 0) / M64) (w : World) :
    Calls Try.prog 48 #[.agg #[.int .u64 (ah : Int), .int .u64 (al : Int)], .agg #[.int .u64 (bh : Int), .int .u64 (bl : Int)]] w fun e w' => e = .returned (.agg #[.int .u64 (((ah + bh + c) % M64 : Nat) : Int), .int .u64 (((al + bl + 0) % M64 : Nat) : Int)]) ∧ Below w.heap.size w w' := by
  have hc1 : c ≤ 1 := by rw [hc]; unfold M64 at *; omega
  have h1 : ∀ W, (callFunc 57 #[.int .u64 (al : Int), .int .u64 (bl : Int), .int .u64 0]).run Try.prog W = .ok (.value (.tuple #[.int .u64 (((al + bl + 0) % M64 : Nat) : Int), .int .u64 (c : Int)])) W := fun W => by
    have := run_add al bl 0 h2 h4 (by omega) W
    rw [hc]; exact this
  have h2 : ∀ W, (callFunc 57 #[.int .u64 (ah : Int), .int .u64 (bh : Int), .int .u64 (c : Int)]).run Try.prog W = .ok (.value (.tuple #[.int .u64 (((ah + bh + c) % M64 : Nat) : Int), .int .u64 (((ah + bh + c) / M64 : Nat) : Int)])) W := fun W => run_add ah bh c (by assumption) h3 hc1 W
  clear hc hc1
  generalize ((ah + bh + c) % M64 : Nat) = p at *
  generalize ((al + bl + 0) % M64 : Nat) = q at *
  generalize ((ah + bh + c) / M64 : Nat) = z at *
  go_enter Try.func48, Try.ntmps48
  go_wp2
  exact bodyPost_ret (v := .agg #[.int .u64 (p : Int), .int .u64 (q : Int)]) (by simp [results, Try.results48, go_sem]) rfl ⟨rfl, ((((Below.refl _ w).alloc (Nat.le_refl _) _).alloc (by simp) _).alloc (by simp; omega) _)⟩
/-- The sum of two numbers of 128 bits. -/
def addN (a b : Nat) : Nat := (a + b) % W128
theorem addN_lt (a b : Nat) : addN a b < W128 := Nat.mod_lt _ (by decide)
theorem add_halves (a b : Nat) (ha : a < W128) (hb : b < W128) :
    hiN (addN a b) = (((a / M64 + b / M64 + (a % M64 + b % M64 + 0) / M64) % M64 : Nat) : Int) ∧ loN (addN a b) = (((a % M64 + b % M64 + 0) % M64 : Nat) : Int) := by
  have e : W128 = 340282366920938463463374607431768211456 := by decide
  have ha2 : a < 340282366920938463463374607431768211456 := by rw [← e]; exact ha
  have hb2 : b < 340282366920938463463374607431768211456 := by rw [← e]; exact hb
  unfold addN hiN loN M64
  rw [e]
  clear ha hb e
  constructor
  · congr 1; omega
  · congr 1; rw [Nat.mod_mod_of_dvd _ (by decide)]; omega
def wide_Add.f (a b c d : Int) : Option (Int × Int) := if wfW a b ∧ wfW c d then some (hiN (addN (N2 a b) (N2 c d)), loN (addN (N2 a b) (N2 c d))) else none
theorem wide_Add.calls (a0_0 : Int) (a0_1 : Int) (a1_0 : Int) (a1_1 : Int) (r1 : Int) (r2 : Int) (w : World) (h : wide_Add.f a0_0 a0_1 a1_0 a1_1 = some (r1, r2)) :
    Calls Try.prog 48 #[.agg #[.int .u64 a0_0, .int .u64 a0_1], .agg #[.int .u64 a1_0, .int .u64 a1_1]] w fun e w' => e = .returned (.agg #[.int .u64 r1, .int .u64 r2]) ∧ Below w.heap.size w w' := by
  unfold wide_Add.f at h
  split at h
  · rename_i hw
    obtain ⟨h1, h2, h3⟩ := wfW_N2 hw.1
    obtain ⟨g1, g2, g3⟩ := wfW_N2 hw.2
    have e := Prod.mk.inj (Option.some.inj h)
    generalize N2 a0_0 a0_1 = n at *
    generalize N2 a1_0 a1_1 = m at *
    subst h2 h3 g2 g3
    obtain ⟨q1, q2⟩ := add_halves n m h1 g1
    rw [← e.1, ← e.2, q1, q2]
    exact add_go (n / M64) (n % M64) (m / M64) (m % M64) _ (by unfold W128 M64 at *; omega) (Nat.mod_lt _ (by decide)) (by unfold W128 M64 at *; omega) (Nat.mod_lt _ (by decide)) rfl w
  · cases h
/-- What a word has not. -/
def notN (a : Nat) : Nat := W128 - 1 - a
theorem notN_lt (a : Nat) : notN a < W128 := by unfold notN W128; omega
theorem notN_tb (a j : Nat) (ha : a < W128) : (notN a).testBit j = (decide (j < 128) && !(a.testBit j)) := by
  unfold notN W128 at *
  rw [show 2 ^ 128 - 1 - a = 2 ^ 128 - (a + 1) by omega, Nat.testBit_two_pow_sub_succ ha]
theorem not_halves (a : Nat) (ha : a < W128) : hiN (notN a) = 18446744073709551615 - hiN a ∧ loN (notN a) = 18446744073709551615 - loN a := by
  have e : W128 = 340282366920938463463374607431768211456 := by decide
  have ha2 : a < 340282366920938463463374607431768211456 := by rw [← e]; exact ha
  unfold notN hiN loN
  rw [e]
  clear ha e
  omega
theorem xor_max (a : Int) (ha : 0 ≤ a ∧ a ≤ 18446744073709551615) : bits .xor .u64 IntKind.u64.max a = 18446744073709551615 - a := by
  obtain ⟨m, rfl⟩ : ∃ m : Nat, a = (m : Int) := ⟨a.toNat, by omega⟩
  have hm : m < 2 ^ 64 := by omega
  have h := u64_xor_nat 18446744073709551615 m (by omega) (by omega)
  rw [show IntKind.u64.max = ((18446744073709551615 : Nat) : Int) by decide, h]
  have e : 18446744073709551615 ^^^ m = 18446744073709551615 - m := by
    apply Nat.eq_of_testBit_eq
    intro j
    rw [Nat.testBit_xor, show 18446744073709551615 - m = 2 ^ 64 - (m + 1) by omega, Nat.testBit_two_pow_sub_succ hm, show 18446744073709551615 = 2 ^ 64 - 1 by decide, Nat.testBit_two_pow_sub_one]
    by_cases hj : j < 64
    · simp [hj]
    · have := Nat.testBit_lt_two_pow (Nat.lt_of_lt_of_le hm (Nat.pow_le_pow_right (by omega) (show 64 ≤ j by omega)))
      simp [hj, this]
  rw [e]; omega
set_option maxHeartbeats 1000000 in
theorem not_go (a b : Int) (ha : 0 ≤ a ∧ a ≤ 18446744073709551615) (hb : 0 ≤ b ∧ b ≤ 18446744073709551615) (w : World) :
    Calls Try.prog 37 #[.agg #[.int .u64 a, .int .u64 b]] w fun e w' => e = .returned (.agg #[.int .u64 (18446744073709551615 - a), .int .u64 (18446744073709551615 - b)]) ∧ Below w.heap.size w w' := by
  have hsig : IntKind.u64.signed = false := rfl
  have xa := Aside0.mk (xor_max a ha)
  have xb := Aside0.mk (xor_max b hb)
  go_enter Try.func37, Try.ntmps37
  go_wp2
  refine bodyPost_ret (v := .agg #[.int .u64 (bits .xor .u64 IntKind.u64.max a), .int .u64 (bits .xor .u64 IntKind.u64.max b)]) (by simp [results, Try.results37, go_sem]) rfl ⟨by rw [xa.out, xb.out], (((Below.refl _ w).alloc (Nat.le_refl _) _).alloc (by simp) _)⟩
def wide_Not.f (a b : Int) : Option (Int × Int) := if wfW a b then some (hiN (notN (N2 a b)), loN (notN (N2 a b))) else none
theorem wide_Not.calls (a0_0 : Int) (a0_1 : Int) (r1 : Int) (r2 : Int) (w : World) (h : wide_Not.f a0_0 a0_1 = some (r1, r2)) :
    Calls Try.prog 37 #[.agg #[.int .u64 a0_0, .int .u64 a0_1]] w fun e w' => e = .returned (.agg #[.int .u64 r1, .int .u64 r2]) ∧ Below w.heap.size w w' := by
  unfold wide_Not.f at h
  split at h
  · rename_i hw
    obtain ⟨h1, h2, h3⟩ := wfW_N2 hw
    have e := Prod.mk.inj (Option.some.inj h)
    obtain ⟨q1, q2⟩ := not_halves _ h1
    rw [← e.1, ← e.2, q1, q2, h2, h3]
    unfold wfW at hw
    exact not_go a0_0 a0_1 (by omega) (by omega) w
  · cases h
end Go.Proofs.Ytnenmiaeomcdpaa.Given
