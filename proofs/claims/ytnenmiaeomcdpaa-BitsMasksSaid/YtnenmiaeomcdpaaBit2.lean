/-
  Plain facts: the program's shifts, ors and ands on halves are those on words of 128 bits; conditions: the bounds that each says. No program in sight.
-/
import Derived.Test.YtnenmiaeomcdpaaRef2b
import Derived.Test.YtnenmiaeomcdpaaWMore
namespace Go.Proofs.Ytnenmiaeomcdpaa.Given
open Go.RowKit Go.Proofs.YtnenmiaeomcdpaaW.PrintWords Go.Proofs.YtnenmiaeomcdpaaW.PrintMore Go.Proofs.Ytnenmiaeomcdpaa.Base
set_option linter.unusedVariables false

def Hi (n : Nat) : Nat := n / 18446744073709551616
def Lo (n : Nat) : Nat := n % 18446744073709551616
theorem hiN_Hi (n : Nat) : hiN n = ((Hi n : Nat) : Int) := rfl
theorem loN_Lo (n : Nat) : loN n = ((Lo n : Nat) : Int) := rfl
theorem Hi_lt (n : Nat) (h : n < W128) : Hi n < 18446744073709551616 := by unfold Hi W128 at *; omega
theorem Lo_lt (n : Nat) : Lo n < 18446744073709551616 := by unfold Lo; omega
theorem e64 : (18446744073709551616 : Nat) = 2 ^ 64 := by decide
theorem Hi_tb (n j : Nat) : (Hi n).testBit j = n.testBit (j + 64) := by unfold Hi; rw [e64, Nat.testBit_div_two_pow]
theorem Lo_tb (n j : Nat) : (Lo n).testBit j = (decide (j < 64) && n.testBit j) := by unfold Lo; rw [e64, Nat.testBit_mod_two_pow]
theorem tb_big (n j : Nat) (h : n < W128) (hj : 128 ≤ j) : n.testBit j = false :=
  Nat.testBit_lt_two_pow (Nat.lt_of_lt_of_le h (Nat.pow_le_pow_right (by omega) hj))
theorem tb_big64 (n j : Nat) (h : n < 18446744073709551616) (hj : 64 ≤ j) : n.testBit j = false :=
  Nat.testBit_lt_two_pow (Nat.lt_of_lt_of_le (by rw [← e64]; exact h) (Nat.pow_le_pow_right (by omega) hj))
/-- Two halves that have a word's bits are its halves. -/
theorem halves_of (x p q : Nat) (hp : ∀ j, p.testBit j = x.testBit (j + 64)) (hq : ∀ j, q.testBit j = (decide (j < 64) && x.testBit j)) : ((p : Int), (q : Int)) = (hiN x, loN x) := by
  have e1 : p = Hi x := Nat.eq_of_testBit_eq fun j => by rw [hp, Hi_tb]
  have e2 : q = Lo x := Nat.eq_of_testBit_eq fun j => by rw [hq, Lo_tb]
  rw [e1, e2]; rfl
theorem word_ext (a b : Nat) (ha : a < W128) (hb : b < W128) (h : ∀ j, j < 128 → a.testBit j = b.testBit j) : a = b :=
  Nat.eq_of_testBit_eq fun j => by
    by_cases hj : j < 128
    · exact h j hj
    · rw [tb_big a j ha (by omega), tb_big b j hb (by omega)]
theorem or_nat (a b : Nat) (ha : a < 18446744073709551616) (hb : b < 18446744073709551616) : Go.bits .or .u64 (a : Int) (b : Int) = ((a ||| b : Nat) : Int) := u64_or_nat a b ha hb
theorem and_nat (a b : Nat) (ha : a < 18446744073709551616) (hb : b < 18446744073709551616) : Go.bits .and .u64 (a : Int) (b : Int) = ((a &&& b : Nat) : Int) := u64_and_nat a b ha hb
theorem xor_nat (a b : Nat) (ha : a < 18446744073709551616) (hb : b < 18446744073709551616) : Go.bits .xor .u64 (a : Int) (b : Int) = ((a ^^^ b : Nat) : Int) := u64_xor_nat a b ha hb
theorem shl_nat (x n : Nat) (hn : n ≤ 64) : shl .u64 (x : Int) (n : Int) = (((x <<< n) % 18446744073709551616 : Nat) : Int) := by
  unfold shl
  rw [Int.toNat_natCast, show IntKind.u64.bits = 64 from rfl, Nat.min_eq_left hn, IntKind.wrap_u64, Nat.shiftLeft_eq]
  rw [Int.natCast_emod, Int.natCast_mul, Int.natCast_pow]; rfl
theorem shr_nat (x n : Nat) (hn : n ≤ 64) : shr .u64 (x : Int) (n : Int) = ((x >>> n : Nat) : Int) := by
  unfold shr
  rw [Int.toNat_natCast, show IntKind.u64.bits = 64 from rfl, Nat.min_eq_left hn, Nat.shiftRight_eq_div_pow, Int.natCast_ediv, Int.natCast_pow]; rfl
theorem shl_lt (x n : Nat) : (x <<< n) % 18446744073709551616 < 18446744073709551616 := Nat.mod_lt _ (by decide)
theorem shr_lt (x n : Nat) (h : x < 18446744073709551616) : x >>> n < 18446744073709551616 := by
  rw [Nat.shiftRight_eq_div_pow]; exact Nat.lt_of_le_of_lt (Nat.div_le_self _ _) h
theorem shl_tb (x n j : Nat) : ((x <<< n) % 18446744073709551616).testBit j = (decide (j < 64) && (decide (n ≤ j) && x.testBit (j - n))) := by
  rw [e64, Nat.testBit_mod_two_pow, Nat.testBit_shiftLeft]
theorem shr_tb (x n j : Nat) : (x >>> n).testBit j = x.testBit (n + j) := Nat.testBit_shiftRight ..
theorem wrapu (n : Int) (h0 : 0 ≤ n) (h1 : n < 18446744073709551616) : IntKind.u64.wrap n = n := by rw [IntKind.wrap_u64]; omega
/-- A word's bits so many places higher, or lower. -/
def upN (a n : Nat) : Nat := (a <<< n) % W128
def downN (a n : Nat) : Nat := a >>> n
theorem upN_lt (a n : Nat) : upN a n < W128 := Nat.mod_lt _ (by decide)
theorem downN_lt (a n : Nat) (h : a < W128) : downN a n < W128 := by
  unfold downN; rw [Nat.shiftRight_eq_div_pow]; exact Nat.lt_of_le_of_lt (Nat.div_le_self _ _) h
theorem upN_tb (a n j : Nat) : (upN a n).testBit j = (decide (j < 128) && (decide (n ≤ j) && a.testBit (j - n))) := by
  unfold upN W128; rw [Nat.testBit_mod_two_pow, Nat.testBit_shiftLeft]
theorem downN_tb (a n j : Nat) : (downN a n).testBit j = a.testBit (n + j) := Nat.testBit_shiftRight ..
theorem or_lt (a b : Nat) (ha : a < W128) (hb : b < W128) : a ||| b < W128 := Nat.or_lt_two_pow ha hb
theorem and_lt (a b : Nat) (ha : a < W128) : a &&& b < W128 := Nat.lt_of_le_of_lt Nat.and_le_left ha
theorem xor_lt (a b : Nat) (ha : a < W128) (hb : b < W128) : a ^^^ b < W128 := Nat.xor_lt_two_pow ha hb
theorem or_halves (a b : Nat) (ha : a < W128) (hb : b < W128) : (Go.bits .or .u64 (hiN a) (hiN b), Go.bits .or .u64 (loN a) (loN b)) = (hiN (a ||| b), loN (a ||| b)) := by
  simp only [hiN_Hi a, hiN_Hi b, loN_Lo a, loN_Lo b]
  rw [or_nat _ _ (Hi_lt a ha) (Hi_lt b hb), or_nat _ _ (Lo_lt a) (Lo_lt b)]
  refine halves_of _ _ _ (fun j => ?_) (fun j => ?_)
  · rw [Nat.testBit_or, Nat.testBit_or, Hi_tb, Hi_tb]
  · rw [Nat.testBit_or, Nat.testBit_or, Lo_tb, Lo_tb]; cases decide (j < 64) <;> simp
theorem and_halves (a b : Nat) (ha : a < W128) (hb : b < W128) : (Go.bits .and .u64 (hiN a) (hiN b), Go.bits .and .u64 (loN a) (loN b)) = (hiN (a &&& b), loN (a &&& b)) := by
  simp only [hiN_Hi a, hiN_Hi b, loN_Lo a, loN_Lo b]
  rw [and_nat _ _ (Hi_lt a ha) (Hi_lt b hb), and_nat _ _ (Lo_lt a) (Lo_lt b)]
  refine halves_of _ _ _ (fun j => ?_) (fun j => ?_)
  · rw [Nat.testBit_and, Nat.testBit_and, Hi_tb, Hi_tb]
  · rw [Nat.testBit_and, Nat.testBit_and, Lo_tb, Lo_tb]; cases decide (j < 64) <;> simp
theorem xor_halves (a b : Nat) (ha : a < W128) (hb : b < W128) : (Go.bits .xor .u64 (hiN a) (hiN b), Go.bits .xor .u64 (loN a) (loN b)) = (hiN (a ^^^ b), loN (a ^^^ b)) := by
  simp only [hiN_Hi a, hiN_Hi b, loN_Lo a, loN_Lo b]
  rw [xor_nat _ _ (Hi_lt a ha) (Hi_lt b hb), xor_nat _ _ (Lo_lt a) (Lo_lt b)]
  refine halves_of _ _ _ (fun j => ?_) (fun j => ?_)
  · rw [Nat.testBit_xor, Nat.testBit_xor, Hi_tb, Hi_tb]
  · rw [Nat.testBit_xor, Nat.testBit_xor, Lo_tb, Lo_tb]; cases decide (j < 64) <;> simp
theorem up_small (a n : Nat) (h : a < W128) (h0 : 0 < n) (hn : n < 64) :
    (Go.bits .or .u64 (shl .u64 (hiN a) (n : Int)) (shr .u64 (loN a) ((64 - n : Nat) : Int)), shl .u64 (loN a) (n : Int)) = (hiN (upN a n), loN (upN a n)) := by
  rw [hiN_Hi a, loN_Lo a, shl_nat _ _ (by omega), shl_nat _ _ (by omega), shr_nat _ _ (by omega), or_nat _ _ (shl_lt _ _) (shr_lt _ _ (Lo_lt a))]
  refine halves_of _ _ _ (fun j => ?_) (fun j => ?_)
  · rw [Nat.testBit_or, shl_tb, shr_tb, upN_tb, Hi_tb, Lo_tb]
    by_cases h1 : j < 64
    · by_cases h2 : n ≤ j
      · have h3 : ¬ (64 - n + j < 64) := by omega
        simp [h1, h2, h3, show j + 64 < 128 by omega, show n ≤ j + 64 by omega, show j - n + 64 = j + 64 - n by omega]
      · have h3 : 64 - n + j < 64 := by omega
        simp [h1, h2, show j + 64 < 128 by omega, show n ≤ j + 64 by omega, show 64 - n + j = j + 64 - n by omega]; intro _; omega
    · have h3 : ¬ (64 - n + j < 64) := by omega
      simp [h1, h3, show ¬ j + 64 < 128 by omega]
  · rw [shl_tb, upN_tb, Lo_tb]
    by_cases h1 : j < 64
    · by_cases h2 : n ≤ j
      · simp [h1, h2, show j < 128 by omega, show j - n < 64 by omega]
      · simp [h1, h2]
    · simp [h1]
theorem up_great (a n : Nat) (h : a < W128) (h0 : 64 ≤ n) (hn : n ≤ 128) :
    (shl .u64 (loN a) ((n - 64 : Nat) : Int), (0 : Int)) = (hiN (upN a n), loN (upN a n)) := by
  rw [loN_Lo a, shl_nat _ _ (by omega), show (0 : Int) = ((0 : Nat) : Int) from rfl]
  refine halves_of _ _ _ (fun j => ?_) (fun j => ?_)
  · rw [shl_tb, upN_tb, Lo_tb]
    by_cases h1 : j < 64
    · by_cases h2 : n - 64 ≤ j
      · simp [h1, h2, show j + 64 < 128 by omega, show n ≤ j + 64 by omega, show j - (n - 64) = j + 64 - n by omega]; intro _; omega
      · simp [h1, h2, show ¬ n ≤ j + 64 by omega]
    · simp [h1, show ¬ j + 64 < 128 by omega]
  · rw [upN_tb, Nat.zero_testBit]
    by_cases h1 : j < 64
    · simp [h1, show ¬ n ≤ j by omega]
    · simp [h1]
theorem up_out (a n : Nat) (hn : 128 ≤ n) : upN a n = 0 := by
  refine word_ext _ _ (upN_lt _ _) (by decide) fun j hj => ?_
  rw [upN_tb, Nat.zero_testBit]; simp [show ¬ n ≤ j by omega]
theorem up_zero (a : Nat) (h : a < W128) : upN a 0 = a := by unfold upN; rw [Nat.shiftLeft_zero, Nat.mod_eq_of_lt h]
theorem down_small (a n : Nat) (h : a < W128) (h0 : 0 < n) (hn : n < 64) :
    (shr .u64 (hiN a) (n : Int), Go.bits .or .u64 (shr .u64 (loN a) (n : Int)) (shl .u64 (hiN a) ((64 - n : Nat) : Int))) = (hiN (downN a n), loN (downN a n)) := by
  rw [hiN_Hi a, loN_Lo a, shr_nat _ _ (by omega), shr_nat _ _ (by omega), shl_nat _ _ (by omega), or_nat _ _ (shr_lt _ _ (Lo_lt a)) (shl_lt _ _)]
  refine halves_of _ _ _ (fun j => ?_) (fun j => ?_)
  · rw [shr_tb, downN_tb, Hi_tb, show n + j + 64 = n + (j + 64) by omega]
  · rw [Nat.testBit_or, shl_tb, shr_tb, downN_tb, Hi_tb, Lo_tb]
    by_cases h1 : j < 64
    · by_cases h2 : 64 - n ≤ j
      · have h3 : ¬ (n + j < 64) := by omega
        simp [h1, h2, h3, show j - (64 - n) + 64 = n + j by omega]
      · have h3 : n + j < 64 := by omega
        simp [h1, h2, h3]
    · simp [h1, show ¬ n + j < 64 by omega]
theorem down_great (a n : Nat) (h : a < W128) (h0 : 64 ≤ n) (hn : n ≤ 128) :
    ((0 : Int), shr .u64 (hiN a) ((n - 64 : Nat) : Int)) = (hiN (downN a n), loN (downN a n)) := by
  rw [hiN_Hi a, shr_nat _ _ (by omega), show (0 : Int) = ((0 : Nat) : Int) from rfl]
  refine halves_of _ _ _ (fun j => ?_) (fun j => ?_)
  · rw [downN_tb, Nat.zero_testBit, tb_big a _ h (by omega)]
  · rw [shr_tb, downN_tb, Hi_tb]
    by_cases h1 : j < 64
    · simp [h1, show n - 64 + j + 64 = n + j by omega]
    · simp [h1, tb_big a (n - 64 + j + 64) h (by omega)]
theorem down_out (a n : Nat) (h : a < W128) (hn : 128 ≤ n) : downN a n = 0 := by
  refine word_ext _ _ (downN_lt _ _ h) (by decide) fun j hj => ?_
  rw [downN_tb, Nat.zero_testBit, tb_big a _ h (by omega)]
theorem down_zero (a : Nat) : downN a 0 = a := rfl
end Go.Proofs.Ytnenmiaeomcdpaa.Given
