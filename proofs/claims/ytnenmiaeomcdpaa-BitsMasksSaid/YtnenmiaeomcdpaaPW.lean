/-
  What the functions on words answer, as functions of numbers of 128 bits; conditions: numbers of 64 bits.
-/
import Derived.Test.YtnenmiaeomcdpaaKWx
import Derived.Test.YtnenmiaeomcdpaaBit2
import Derived.Test.YtnenmiaeomcdpaaRef2c
namespace Go.Proofs.Ytnenmiaeomcdpaa.KW
open Go.RowKit Go.Proofs.YtnenmiaeomcdpaaW.PrintWords Go.Proofs.YtnenmiaeomcdpaaW.PrintMore Go.Proofs.Ytnenmiaeomcdpaa.Given
set_option linter.unusedVariables false

theorem wf_u64 {x : Int} (h : (Lit.int .u64 x).wf = true) : 0 ≤ x ∧ x ≤ 18446744073709551615 := by
  have h1 : IntKind.u64.min = 0 := by decide
  have h2 : IntKind.u64.max = 18446744073709551615 := by decide
  simp [Lit.wf, h1, h2] at h
  exact h
theorem wf_pair {a b : Int} (h : (Lit.int .u64 a).wf = true) (h' : (Lit.int .u64 b).wf = true) : wfW a b := by
  have := wf_u64 h; have := wf_u64 h'; unfold wfW; omega
theorem one_tb (j : Nat) : (1 : Nat).testBit j = decide (j = 0) := by
  cases j with
  | zero => rfl
  | succ j => rw [Nat.testBit_succ]; simp
theorem some_pair {a b : Int} {x : Nat} (h : (a, b) = (hiN x, loN x)) : some (a, b) = some (hiN x, loN x) := by rw [h]
theorem wOr (a b : Nat) (ha : a < W128) (hb : b < W128) : wide_Or.f (hiN a) (loN a) (hiN b) (loN b) = some (hiN (a ||| b), loN (a ||| b)) := by
  unfold wide_Or.f; exact some_pair (or_halves a b ha hb)
theorem wAnd (a b : Nat) (ha : a < W128) (hb : b < W128) : wide_And.f (hiN a) (loN a) (hiN b) (loN b) = some (hiN (a &&& b), loN (a &&& b)) := by
  unfold wide_And.f; exact some_pair (and_halves a b ha hb)
theorem wUp (a n : Nat) (ha : a < W128) (hn : n ≤ 1000) : wide_Up.f (hiN a) (loN a) n = some (hiN (upN a n), loN (upN a n)) := by
  unfold wide_Up.f
  by_cases h0 : (n : Int) ≤ 0
  · obtain rfl : n = 0 := by omega
    rw [if_pos h0, up_zero a ha]
  · rw [if_neg h0]
    by_cases h1 : (n : Int) > 127
    · rw [if_pos h1, up_out a n (by omega)]; rfl
    · rw [if_neg h1]
      by_cases h2 : (n : Int) ≥ 64
      · have e : IntKind.u64.wrap (wrap64 ((n : Int) - 64)) = ((n - 64 : Nat) : Int) := by
          rw [show wrap64 ((n : Int) - 64) = (n : Int) - 64 by unfold wrap64; omega, wrapu _ (by omega) (by omega)]; omega
        rw [if_pos h2, e, if_pos (by omega)]; exact some_pair (up_great a n ha (by omega) (by omega))
      · have e : IntKind.u64.wrap (wrap64 (64 - (n : Int))) = ((64 - n : Nat) : Int) := by
          rw [show wrap64 (64 - (n : Int)) = 64 - (n : Int) by unfold wrap64; omega, wrapu _ (by omega) (by omega)]; omega
        rw [if_neg h2, e, wrapu _ (by omega) (by omega), if_pos (by omega), if_pos (by omega)]; exact some_pair (up_small a n ha (by omega) (by omega))
theorem wDown (a n : Nat) (ha : a < W128) (hn : n ≤ 1000) : wide_Down.f (hiN a) (loN a) n = some (hiN (downN a n), loN (downN a n)) := by
  unfold wide_Down.f
  by_cases h0 : (n : Int) ≤ 0
  · obtain rfl : n = 0 := by omega
    rw [if_pos h0, down_zero a]
  · rw [if_neg h0]
    by_cases h1 : (n : Int) > 127
    · rw [if_pos h1, down_out a n ha (by omega)]; rfl
    · rw [if_neg h1]
      by_cases h2 : (n : Int) ≥ 64
      · have e : IntKind.u64.wrap (wrap64 ((n : Int) - 64)) = ((n - 64 : Nat) : Int) := by
          rw [show wrap64 ((n : Int) - 64) = (n : Int) - 64 by unfold wrap64; omega, wrapu _ (by omega) (by omega)]; omega
        rw [if_pos h2, e, if_pos (by omega)]; exact some_pair (down_great a n ha (by omega) (by omega))
      · have e : IntKind.u64.wrap (wrap64 (64 - (n : Int))) = ((64 - n : Nat) : Int) := by
          rw [show wrap64 (64 - (n : Int)) = 64 - (n : Int) by unfold wrap64; omega, wrapu _ (by omega) (by omega)]; omega
        rw [if_neg h2, e, wrapu _ (by omega) (by omega), if_pos (by omega), if_pos (by omega)]; exact some_pair (down_small a n ha (by omega) (by omega))
theorem wSub (a b : Nat) (ha : a < W128) (hb : b < W128) : wide_Sub.f (hiN a) (loN a) (hiN b) (loN b) = some (hiN (subN a b), loN (subN a b)) := by
  unfold wide_Sub.f; rw [if_pos ⟨wfW_halves a ha, wfW_halves b hb⟩, N2_halves, N2_halves]
/-- A word with one bit more. -/
def addBit (a p : Nat) : Nat := a ||| 2 ^ p
theorem addBit_lt (a p : Nat) (h : a < W128) (hp : p < 128) : addBit a p < W128 := or_lt _ _ h (Nat.pow_lt_pow_right (by omega) hp)
theorem addBit_tb (a p j : Nat) : (addBit a p).testBit j = (a.testBit j || decide (p = j)) := by unfold addBit; rw [Nat.testBit_or, Nat.testBit_two_pow]
theorem bit_lo (a p : Nat) (ha : a < W128) (hp : p < 64) : (hiN a, Go.bits .or .u64 (loN a) (shl .u64 1 (p : Int))) = (hiN (addBit a p), loN (addBit a p)) := by
  rw [hiN_Hi a, loN_Lo a, show (1 : Int) = ((1 : Nat) : Int) from rfl, shl_nat _ _ (by omega), or_nat _ _ (Lo_lt a) (shl_lt _ _)]
  refine halves_of _ _ _ (fun j => ?_) (fun j => ?_)
  · rw [Hi_tb, addBit_tb, decide_eq_false (show ¬ p = j + 64 by omega), Bool.or_false]
  · rw [Nat.testBit_or, Lo_tb, shl_tb, addBit_tb, one_tb]
    by_cases h1 : j < 64
    · by_cases h2 : p = j
      · subst h2; simp [h1]
      · simp [h1, h2]; omega
    · simp [h1]
theorem bit_hi (a p : Nat) (ha : a < W128) (hp : p < 64) : (Go.bits .or .u64 (hiN a) (shl .u64 1 (p : Int)), loN a) = (hiN (addBit a (p + 64)), loN (addBit a (p + 64))) := by
  rw [hiN_Hi a, loN_Lo a, show (1 : Int) = ((1 : Nat) : Int) from rfl, shl_nat _ _ (by omega), or_nat _ _ (Hi_lt a ha) (shl_lt _ _)]
  refine halves_of _ _ _ (fun j => ?_) (fun j => ?_)
  · rw [Nat.testBit_or, Hi_tb, shl_tb, addBit_tb, one_tb]
    by_cases h1 : j < 64
    · by_cases h2 : p = j
      · subst h2; simp [h1]
      · simp [h1, h2]; omega
    · simp [h1]; omega
  · rw [Lo_tb, addBit_tb]
    by_cases h1 : j < 64
    · simp [h1]; omega
    · simp [h1]
/-- A word with bits at places. -/
def ofN (a : Nat) (l : List Int) : Nat := a ||| atN l
theorem atN_lt (l : List Int) : atN l < W128 := nb128_lt _
theorem ofN_cons (a : Nat) (x : Int) (l : List Int) (ha : a < W128) : ofN a (x :: l) = if 0 ≤ x ∧ x < 128 then ofN (addBit a x.toNat) l else ofN a l := by
  unfold ofN
  split
  · rename_i h
    refine word_ext _ _ (or_lt _ _ ha (atN_lt _)) (or_lt _ _ (addBit_lt _ _ ha (by omega)) (atN_lt _)) fun j hj => ?_
    rw [Nat.testBit_or, Nat.testBit_or, addBit_tb]
    unfold atN
    rw [nb128_tb, nb128_tb]
    unfold atB
    rw [List.any_cons, show decide (x = (j : Int)) = decide (x.toNat = j) by rw [decide_eq_decide]; omega]
    simp only [hj, decide_true, Bool.true_and, Bool.or_assoc]
  · rename_i h
    have e : atN (x :: l) = atN l := by
      unfold atN
      refine word_ext _ _ (nb128_lt _) (nb128_lt _) fun j hj => ?_
      rw [nb128_tb, nb128_tb]
      unfold atB
      rw [List.any_cons, decide_eq_false (show ¬ x = (j : Int) by omega), Bool.false_or]
    rw [e]
theorem ofN_nil (a : Nat) : ofN a [] = a := by
  unfold ofN
  have e : atN [] = 0 := word_ext _ _ (atN_lt _) (by decide) fun j hj => by unfold atN atB; rw [nb128_tb, Nat.zero_testBit]; simp
  rw [e, Nat.or_zero]
theorem wOf_go (l : List Int) (hl : l.length ≤ 1000000) (hw : ∀ x ∈ l, -9223372036854775808 ≤ x ∧ x ≤ 9223372036854775807) (g : Nat) : ∀ (i a : Nat), i + g = l.length → a < W128 → Ev (fun k => wide_Of.l0 k l (l.length : Int) i (hiN a) (loN a)) (hiN (ofN a (l.drop i)), loN (ofN a (l.drop i))) := by
  induction g with
  | zero =>
    intro i a hi ha
    rw [List.drop_of_length_le (by omega), ofN_nil]
    refine Ev.step (f := fun _ => some (hiN a, loN a)) (fun k => ?_) (Ev.now _)
    simp only [wide_Of.l0]; rw [if_neg (by omega)]
  | succ g ih =>
    intro i a hi ha
    have hx := hw (l[i]'(by omega)) (List.getElem_mem _)
    have hr : rd l (i : Int) = l[i]'(by omega) := by simp [rd, show i < l.length by omega]
    rw [List.drop_eq_getElem_cons (show i < l.length by omega), ofN_cons _ _ _ ha]
    generalize l[i]'(by omega) = x at *
    have e1 : wrap64 ((i : Int) + 1) = ((i + 1 : Nat) : Int) := by unfold wrap64; omega
    have H : ∀ k, wide_Of.l0 (k + 1) l (l.length : Int) i (hiN a) (loN a) = wide_Of.j1 k x l (l.length : Int) i (decide (0 ≤ x ∧ x < 64)) (hiN a) (loN a) := fun k => by
      simp only [wide_Of.l0]
      rw [if_pos (by omega), if_pos (by omega), if_pos (by omega), hr]
      by_cases h0 : x ≥ 0
      · rw [if_pos h0]; congr 1; rw [decide_eq_decide]; omega
      · rw [if_neg h0]; congr 1; rw [decide_eq_false (by omega)]
    refine Ev.step H ?_
    by_cases h1 : 0 ≤ x ∧ x < 64
    · have e2 : IntKind.u64.wrap x = ((x.toNat : Nat) : Int) := by rw [wrapu _ (by omega) (by omega)]; omega
      have hp := Prod.mk.inj (bit_lo a x.toNat ha (by omega))
      rw [if_pos (by omega)]
      refine Ev.step (fun k => ?_) (ih (i + 1) (addBit a x.toNat) (by omega) (addBit_lt _ _ ha (by omega)))
      simp only [wide_Of.j1]
      rw [decide_eq_true h1, if_pos rfl, e2, if_pos (by omega), e1, hp.2, ← hp.1]
    · by_cases h2 : 64 ≤ x ∧ x < 128
      · have e2 : IntKind.u64.wrap (wrap64 (x - 64)) = ((x.toNat - 64 : Nat) : Int) := by
          rw [show wrap64 (x - 64) = x - 64 by unfold wrap64; omega, wrapu _ (by omega) (by omega)]; omega
        have hp := Prod.mk.inj (bit_hi a (x.toNat - 64) ha (by omega))
        rw [show x.toNat - 64 + 64 = x.toNat by omega] at hp
        rw [if_pos (by omega)]
        refine Ev.step (fun k => ?_) (ih (i + 1) (addBit a x.toNat) (by omega) (addBit_lt _ _ ha (by omega)))
        simp only [wide_Of.j1]
        rw [decide_eq_false h1, if_neg (by simp), if_pos (by omega), if_pos (by omega), e2, if_pos (by omega), e1, hp.1, ← hp.2]
      · rw [if_neg (by omega)]
        refine Ev.step (fun k => ?_) (ih (i + 1) a (by omega) ha)
        simp only [wide_Of.j1]
        rw [decide_eq_false h1, if_neg (by simp), e1]
        by_cases h3 : x ≥ 64
        · rw [if_pos h3, if_neg (by omega)]
        · rw [if_neg h3]
theorem wOf (l : List Int) (hl : l.length ≤ 1000000) (hw : ∀ x ∈ l, -9223372036854775808 ≤ x ∧ x ≤ 9223372036854775807) : Ev (fun k => wide_Of.f k l) (hiN (atN l), loN (atN l)) := by
  have h := wOf_go l hl hw l.length 0 0 (by omega) (by decide)
  rw [List.drop_zero] at h
  unfold ofN at h
  rw [Nat.zero_or] at h
  exact h
end Go.Proofs.Ytnenmiaeomcdpaa.KW
