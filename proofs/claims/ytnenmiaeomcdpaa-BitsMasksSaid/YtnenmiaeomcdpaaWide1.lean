/-
  What wide.Sub answers: the difference of two words as numbers of 128 bits; conditions: numbers of 64 bits.
-/
import Derived.Test.YtnenmiaeomcdpaaRef2b
import Derived.Shelf.Spec.BitsCarry
namespace Go.Proofs.Ytnenmiaeomcdpaa.Given
open Go.RowKit Go.Proofs.YtnenmiaeomcdpaaW.PrintWords Go.Proofs.Ytnenmiaeomcdpaa.Base
set_option linter.unusedVariables false

theorem run_sub (x y b : Nat) (hb : b ≤ 1) (w : World) :
    (callFunc 56 #[.int .u64 (x : Int), .int .u64 (y : Int), .int .u64 (b : Int)]).run Try.prog w =
      .ok (.value (.tuple #[.int .u64 (((x + 18446744073709551616 - y - b) % 18446744073709551616 : Nat) : Int), .int .u64 ((if x < y + b then 1 else 0 : Nat) : Int)])) w := by
  rw [run_callFunc_extern Try.func56 (by kernel_rfl) (by kernel_rfl) (by kernel_rfl) (e := sub64Entry) (by kernel_rfl), run_sub64 x y b hb]
  rfl
def M64 : Nat := 18446744073709551616
set_option maxHeartbeats 1000000 in
theorem sub_go (ah al bh bl c : Nat) (hc : c = if al < bl then 1 else 0) (w : World) :
    Calls Try.prog 44 #[.agg #[.int .u64 (ah : Int), .int .u64 (al : Int)], .agg #[.int .u64 (bh : Int), .int .u64 (bl : Int)]] w fun e w' => e = .returned (.agg #[.int .u64 (((ah + M64 - bh - c) % M64 : Nat) : Int), .int .u64 (((al + M64 - bl - 0) % M64 : Nat) : Int)]) ∧ Below w.heap.size w w' := by
  have h1 : ∀ W, (callFunc 56 #[.int .u64 (al : Int), .int .u64 (bl : Int), .int .u64 0]).run Try.prog W = .ok (.value (.tuple #[.int .u64 (((al + M64 - bl - 0) % M64 : Nat) : Int), .int .u64 (c : Int)])) W := fun W => by
    have := run_sub al bl 0 (by omega) W
    rw [hc]; exact this
  have h2 : ∀ W, (callFunc 56 #[.int .u64 (ah : Int), .int .u64 (bh : Int), .int .u64 (c : Int)]).run Try.prog W = .ok (.value (.tuple #[.int .u64 (((ah + M64 - bh - c) % M64 : Nat) : Int), .int .u64 ((if ah < bh + c then 1 else 0 : Nat) : Int)])) W := fun W => run_sub ah bh c (by rw [hc]; split <;> omega) W
  clear hc
  generalize ((ah + M64 - bh - c) % M64 : Nat) = p at *
  generalize ((al + M64 - bl - 0) % M64 : Nat) = q at *
  generalize (if ah < bh + c then 1 else 0 : Nat) = z at *
  go_enter Try.func44, Try.ntmps44
  go_wp2
  exact bodyPost_ret (v := .agg #[.int .u64 (p : Int), .int .u64 (q : Int)]) (by simp [results, Try.results44, go_sem]) rfl ⟨rfl, ((((Below.refl _ w).alloc (Nat.le_refl _) _).alloc (by simp) _).alloc (by simp; omega) _)⟩
/-- The difference of two numbers of 128 bits. -/
def subN (a b : Nat) : Nat := (a + W128 - b) % W128
theorem subN_lt (a b : Nat) : subN a b < W128 := Nat.mod_lt _ (by decide)
theorem sub_halves (a b : Nat) (ha : a < W128) (hb : b < W128) :
    hiN (subN a b) = (((a / M64 + M64 - b / M64 - (if a % M64 < b % M64 then 1 else 0)) % M64 : Nat) : Int) ∧ loN (subN a b) = (((a % M64 + M64 - b % M64 - 0) % M64 : Nat) : Int) := by
  have e : W128 = 340282366920938463463374607431768211456 := by decide
  have ha2 : a < 340282366920938463463374607431768211456 := by rw [← e]; exact ha
  have hb2 : b < 340282366920938463463374607431768211456 := by rw [← e]; exact hb
  unfold subN hiN loN M64
  rw [e]
  clear ha hb e
  constructor
  · congr 1
    split <;> omega
  · congr 1; rw [Nat.sub_zero, Nat.mod_mod_of_dvd _ (by decide)]; omega
def wide_Sub.f (a b c d : Int) : Option (Int × Int) := if wfW a b ∧ wfW c d then some (hiN (subN (N2 a b) (N2 c d)), loN (subN (N2 a b) (N2 c d))) else none
theorem wide_Sub.calls (a0_0 : Int) (a0_1 : Int) (a1_0 : Int) (a1_1 : Int) (r1 : Int) (r2 : Int) (w : World) (h : wide_Sub.f a0_0 a0_1 a1_0 a1_1 = some (r1, r2)) :
    Calls Try.prog 44 #[.agg #[.int .u64 a0_0, .int .u64 a0_1], .agg #[.int .u64 a1_0, .int .u64 a1_1]] w fun e w' => e = .returned (.agg #[.int .u64 r1, .int .u64 r2]) ∧ Below w.heap.size w w' := by
  unfold wide_Sub.f at h
  split at h
  · rename_i hw
    obtain ⟨h1, h2, h3⟩ := wfW_N2 hw.1
    obtain ⟨g1, g2, g3⟩ := wfW_N2 hw.2
    have e := Prod.mk.inj (Option.some.inj h)
    generalize N2 a0_0 a0_1 = n at *
    generalize N2 a1_0 a1_1 = m at *
    subst h2 h3 g2 g3
    obtain ⟨q1, q2⟩ := sub_halves n m h1 g1
    rw [← e.1, ← e.2, q1, q2]
    exact sub_go (n / M64) (n % M64) (m / M64) (m % M64) _ rfl w
  · cases h
end Go.Proofs.Ytnenmiaeomcdpaa.Given
