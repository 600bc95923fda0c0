/-
  Plain facts on words of 64 and 128 bits as truth functions of their places; conditions: the bounds that each says. No program in sight.
-/
import Derived.Test.YtnenmiaeomcdpaaBase
import Derived.Laws.BitsAllLaws
import Derived.Laws.ShiftsVarLaws
namespace Go.Proofs.Ytnenmiaeomcdpaa.Given
open Go.RowKit Go.Proofs.YtnenmiaeomcdpaaW.PrintWords Go.Proofs.Ytnenmiaeomcdpaa.Base
set_option linter.unusedVariables false

/-- The number whose bits are those from a place on. -/
def nb (β : Nat → Bool) (i : Nat) : Nat → Nat
  | 0 => 0
  | k + 1 => 2 * nb β (i + 1) k + (β i).toNat
theorem nb_lt (β : Nat → Bool) (i k : Nat) : nb β i k < 2 ^ k := by
  induction k generalizing i with
  | zero => simp [nb]
  | succ k ih =>
    simp only [nb]; have h1 := ih (i + 1); have h2 := Bool.toNat_le (β i); rw [Nat.pow_succ]; omega
theorem nb_tb (β : Nat → Bool) (i k j : Nat) : (nb β i k).testBit j = (decide (j < k) && β (i + j)) := by
  induction k generalizing i j with
  | zero => simp [nb]
  | succ k ih =>
    cases j with
    | zero =>
      simp only [nb, Nat.testBit_zero, Nat.add_zero]
      cases h : β i <;> simp
    | succ j =>
      have e : nb β i (k + 1) / 2 = nb β (i + 1) k := by
        simp only [nb]; have h2 := Bool.toNat_le (β i); omega
      rw [Nat.testBit_succ, e, ih, show i + 1 + j = i + (j + 1) by omega]
      congr 1
      simp
theorem nb_congr (β γ : Nat → Bool) (i k : Nat) (h : ∀ j, j < k → β (i + j) = γ (i + j)) : nb β i k = nb γ i k := by
  apply Nat.eq_of_testBit_eq
  intro j
  rw [nb_tb, nb_tb]
  by_cases hj : j < k
  · rw [h j hj]
  · simp [hj]
theorem nb_self (n k : Nat) (h : n < 2 ^ k) : nb n.testBit 0 k = n := by
  apply Nat.eq_of_testBit_eq
  intro j
  rw [nb_tb, Nat.zero_add]
  by_cases hj : j < k
  · simp [hj]
  · simp only [hj, decide_false, Bool.false_and]
    rw [Nat.testBit_lt_two_pow (Nat.lt_of_lt_of_le h (Nat.pow_le_pow_right (by omega) (by omega)))]
/-- A word's number, and its halves. -/
def N2 (hi lo : Int) : Nat := hi.toNat * 18446744073709551616 + lo.toNat
def hiN (n : Nat) : Int := ((n / 18446744073709551616 : Nat) : Int)
def loN (n : Nat) : Int := ((n % 18446744073709551616 : Nat) : Int)
def W128 : Nat := 2 ^ 128
theorem N2_halves (n : Nat) : N2 (hiN n) (loN n) = n := by
  unfold N2 hiN loN; rw [Int.toNat_natCast, Int.toNat_natCast]; omega
theorem hiN_N2 (hi lo : Int) (h0 : 0 ≤ hi) (h1 : 0 ≤ lo) (h2 : lo ≤ 18446744073709551615) : hiN (N2 hi lo) = hi := by unfold N2 hiN; omega
theorem loN_N2 (hi lo : Int) (h0 : 0 ≤ hi) (h1 : 0 ≤ lo) (h2 : lo ≤ 18446744073709551615) : loN (N2 hi lo) = lo := by unfold N2 loN; omega
theorem N2_lt (hi lo : Int) (h0 : 0 ≤ hi) (h1 : hi ≤ 18446744073709551615) (h2 : 0 ≤ lo) (h3 : lo ≤ 18446744073709551615) : N2 hi lo < W128 := by unfold N2 W128; omega
theorem hiN_b (n : Nat) (h : n < W128) : 0 ≤ hiN n ∧ hiN n ≤ 18446744073709551615 := by unfold hiN W128 at *; omega
theorem loN_b (n : Nat) : 0 ≤ loN n ∧ loN n ≤ 18446744073709551615 := by unfold loN; omega
theorem halves_inj (n m : Nat) (h1 : hiN n = hiN m) (h2 : loN n = loN m) : n = m := by unfold hiN loN at *; omega
theorem tb_split (n i : Nat) : n.testBit i = if i < 64 then (n % 18446744073709551616).testBit i else (n / 18446744073709551616).testBit (i - 64) := by
  have e : n = 2 ^ 64 * (n / 18446744073709551616) + n % 18446744073709551616 := by omega
  conv => lhs; rw [e]
  rw [Nat.testBit_two_pow_mul_add _ (by omega)]
/-- The word whose bits a truth function tells. -/
def nb128 (β : Nat → Bool) : Nat := nb β 0 128
theorem nb128_lt (β : Nat → Bool) : nb128 β < W128 := nb_lt β 0 128
theorem nb128_tb (β : Nat → Bool) (j : Nat) : (nb128 β).testBit j = (decide (j < 128) && β j) := by unfold nb128; rw [nb_tb, Nat.zero_add]
theorem nb128_self (n : Nat) (h : n < W128) : nb128 n.testBit = n := nb_self n 128 h
theorem nb_mod (β : Nat → Bool) : nb128 β % 18446744073709551616 = nb β 0 64 := by
  have e : (18446744073709551616 : Nat) = 2 ^ 64 := by decide
  apply Nat.eq_of_testBit_eq
  intro j
  rw [e, Nat.testBit_mod_two_pow, nb128_tb, nb_tb, Nat.zero_add]
  by_cases h : j < 64
  · simp [h, show j < 128 by omega]
  · simp [h]
theorem nb_div (β : Nat → Bool) : nb128 β / 18446744073709551616 = nb β 64 64 := by
  have e : (18446744073709551616 : Nat) = 2 ^ 64 := by decide
  apply Nat.eq_of_testBit_eq
  intro j
  rw [e, Nat.testBit_div_two_pow, nb128_tb, nb_tb]
  by_cases h : j < 64
  · simp [h, show j + 64 < 128 by omega, Nat.add_comm]
  · simp [h, show ¬ j + 64 < 128 by omega]
theorem hiN_nb (β : Nat → Bool) : hiN (nb128 β) = ((nb β 64 64 : Nat) : Int) := by unfold hiN; rw [nb_div]
theorem loN_nb (β : Nat → Bool) : loN (nb128 β) = ((nb β 0 64 : Nat) : Int) := by unfold loN; rw [nb_mod]
/-- A row of 128 truth values. -/
def bl (β : Nat → Bool) : List Value := (List.range 128).map fun j => Value.bool (β j)
theorem bl_length (β : Nat → Bool) : (bl β).length = 128 := by simp [bl]
theorem bl_size (β : Nat → Bool) : (bl β).toArray.size = 128 := by simp [bl]
theorem bl_get (β : Nat → Bool) (j : Nat) (h : j < (bl β).length) : (bl β)[j] = Value.bool (β j) := by simp [bl]
theorem bl_one (β : Nat → Bool) : (bl β).toArray.all (·.oneCell') = true := by
  rw [Array.all_eq_true_iff_forall_mem]
  intro v hv
  have : v ∈ bl β := by simpa using hv
  obtain ⟨j, _, rfl⟩ := List.mem_map.1 this
  rfl
theorem bl_set (β : Nat → Bool) (i : Nat) (b : Bool) : (bl β).set i (.bool b) = bl (fun j => if j = i then b else β j) := by
  apply List.ext_getElem
  · simp [bl]
  · intro j h1 h2
    rw [List.getElem_set]
    simp only [bl, List.getElem_map, List.getElem_range]
    by_cases h : i = j
    · subst h; simp
    · rw [if_neg h, if_neg (fun e => h e.symm)]
theorem bl_congr (β γ : Nat → Bool) (h : ∀ j, j < 128 → β j = γ j) : bl β = bl γ := by
  unfold bl
  apply List.map_congr_left
  intro j hj
  rw [h j (List.mem_range.1 hj)]
theorem Arr_bl_cell {w : World} {b : Nat} {β : Nat → Bool} {t : TypeId} (h : Arr w b (bl β) t) (i : Nat) (hi : i < 128) : w.cell? ⟨b, i, none⟩ = some (.bool (β i)) := by
  rw [h.cell i (by rw [bl_length]; exact hi), bl_get]
theorem and_one (m i : Nat) (hm : m < 18446744073709551616) : (bits .and .u64 ((m : Int) / 2 ^ i) 1 == 1) = m.testBit i := by
  have h1 : m / 2 ^ i < 18446744073709551616 := Nat.lt_of_le_of_lt (Nat.div_le_self _ _) hm
  have h2 := u64_and_nat (m / 2 ^ i) 1 h1 (by omega)
  have e : ((m / 2 ^ i : Nat) : Int) = (m : Int) / 2 ^ i := by rw [Int.natCast_ediv, Int.natCast_pow]; rfl
  rw [e, show ((1 : Nat) : Int) = 1 from rfl, nat_mask1] at h2
  rw [h2, Nat.testBit_eq_decide_div_mod_eq]
  generalize m / 2 ^ i % 2 = q
  by_cases h : q = 1
  · subst h; rfl
  · rw [decide_eq_false h, beq_eq_false_iff_ne]; omega
theorem lo_bit (n i : Nat) (hi : i < 64) : (bits .and .u64 (loN n / 2 ^ i) 1 == 1) = n.testBit i := by
  unfold loN
  rw [and_one _ _ (by omega), tb_split n i, if_pos hi]
theorem hi_bit (n i : Nat) (hn : n < W128) : (bits .and .u64 (hiN n / 2 ^ i) 1 == 1) = n.testBit (64 + i) := by
  unfold hiN
  rw [and_one _ _ (by unfold W128 at hn; omega), tb_split n (64 + i), if_neg (by omega), show 64 + i - 64 = i by omega]
end Go.Proofs.Ytnenmiaeomcdpaa.Given
