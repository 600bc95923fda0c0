/-
  Plain facts of digits: the value of digits, and that the digits of a number are those; conditions: none beyond what each says. No program in sight.
-/
import Derived.Test.YtbbnnjcdglplkaaBase
namespace Go.Proofs.Ytbbnnjcdglplkaa.Given

/-- The digits of a number, the greatest first. -/
def decN (n : Nat) : List UInt8 := if n < 10 then [UInt8.ofNat (48 + n)] else decN (n / 10) ++ [UInt8.ofNat (48 + n % 10)]
def decL (n : Int) : List UInt8 := if n < 0 then 45 :: decN n.natAbs else decN n.natAbs
/-- The value of digits. -/
def val (l : List UInt8) : Nat := l.foldl (fun a c => 10 * a + (c.toNat - 48)) 0
def Dig (c : UInt8) : Prop := 48 ≤ c.toNat ∧ c.toNat ≤ 57
theorem head_app (l0 l : List UInt8) (h : l0 ≠ []) : (l0 ++ l).head? = l0.head? := by cases l0 with | nil => exact absurd rfl h | cons a b => rfl
instance (c : UInt8) : Decidable (Dig c) := by unfold Dig; infer_instance
def Digs (l : List UInt8) : Prop := ∀ c ∈ l, Dig c
instance (l : List UInt8) : Decidable (Digs l) := by unfold Digs; infer_instance
theorem toNat_dig (m : Nat) (h : m < 10) : (UInt8.ofNat (48 + m)).toNat = 48 + m := by
  simp [UInt8.toNat_ofNat']; omega
theorem val_snoc (l : List UInt8) (c : UInt8) : val (l ++ [c]) = 10 * val l + (c.toNat - 48) := by simp [val]
theorem val_decN (n : Nat) : val (decN n) = n := by
  induction n using Nat.strongRecOn with
  | _ n ih =>
    rw [decN]
    split
    · rename_i h; simp only [val, List.foldl_cons, List.foldl_nil, toNat_dig n h]; omega
    · rw [val_snoc, ih _ (by omega), toNat_dig _ (by omega)]; omega
theorem digs_decN (n : Nat) : Digs (decN n) := by
  induction n using Nat.strongRecOn with
  | _ n ih =>
    rw [decN]
    split
    · rename_i h; intro c hc
      have : c = _ := List.mem_singleton.1 hc
      subst this; unfold Dig; rw [toNat_dig n h]; omega
    · intro c hc
      rcases List.mem_append.1 hc with hc | hc
      · exact ih _ (by omega) c hc
      · have : c = _ := List.mem_singleton.1 hc
        subst this; unfold Dig; rw [toNat_dig _ (by omega)]; omega
theorem decN_ne (n : Nat) : decN n ≠ [] := by rw [decN]; split <;> simp
theorem decN_head (n : Nat) (h : 0 < n) : ∀ c, (decN n).head? = some c → c ≠ 48 := by
  induction n using Nat.strongRecOn with
  | _ n ih =>
    rw [decN]
    split
    · rename_i h1; intro c hc
      have : UInt8.ofNat (48 + n) = c := by simpa using hc
      intro e; have h2 := toNat_dig n h1; rw [this, e] at h2; simp at h2; omega
    · intro c hc
      rw [head_app _ _ (decN_ne _)] at hc
      exact ih _ (by omega) (by omega) c hc
theorem decN_length (n d : Nat) (hd : 0 < d) : (decN n).length ≤ d ↔ n < 10 ^ d := by
  induction d generalizing n with
  | zero => omega
  | succ d ih =>
    rw [decN]
    split
    · rename_i h
      have : 10 ^ 1 ≤ 10 ^ (d + 1) := Nat.pow_le_pow_right (by omega) (by omega)
      simp; omega
    · rename_i h
      rw [List.length_append]
      rcases Nat.eq_zero_or_pos d with rfl | h0
      · have h5 : 0 < (decN (n / 10)).length := List.length_pos_iff.2 (decN_ne _)
        simp only [List.length_singleton]; omega
      · have := ih (n / 10) h0
        have e : 10 ^ (d + 1) = 10 ^ d * 10 := Nat.pow_succ ..
        simp only [List.length_singleton]
        rw [e]
        constructor
        · intro hl; have := this.1 (by omega); omega
        · intro hl; have := this.2 (by omega); omega
/-- Digits without a zero ahead are those of their value. -/
theorem decN_val (l : List UInt8) (hd : Digs l) (hne : l ≠ []) (hz : l.head? = some 48 → l.length = 1) : decN (val l) = l := by
  induction hn : l.length generalizing l with
  | zero => exact absurd (List.length_eq_zero_iff.1 hn) hne
  | succ n ih =>
    obtain ⟨l0, c, rfl⟩ : ∃ l0 c, l = l0 ++ [c] := ⟨l.dropLast, l.getLast hne, (List.dropLast_concat_getLast hne).symm⟩
    have hc : Dig c := hd c (by simp)
    have ec : UInt8.ofNat (48 + (c.toNat - 48)) = c := by
      apply UInt8.toNat_inj.1; rw [toNat_dig _ (by unfold Dig at hc; omega)]; unfold Dig at hc; omega
    by_cases h0 : l0 = []
    · subst h0
      simp only [List.nil_append, val, List.foldl_cons, List.foldl_nil]
      rw [decN, if_pos (by unfold Dig at hc; omega)]
      simp only [Nat.mul_zero, Nat.zero_add]; rw [ec]
    · have hl0 : l0.head? = some 48 → l0.length = 1 := by
        intro h
        have h1 := hz (by rw [head_app _ _ h0]; exact h)
        have h2 : 0 < l0.length := List.length_pos_iff.2 h0
        rw [List.length_append] at h1; simp only [List.length_singleton] at h1; omega
      have hi := ih l0 (fun x hx => hd x (by simp [hx])) h0 hl0 (by simpa using hn)
      have hpos : 0 < val l0 := by
        rcases Nat.eq_zero_or_pos (val l0) with h | h
        · rw [h] at hi
          have h2 : l0 = [48] := by rw [← hi, decN]; rfl
          have := hz (by rw [head_app _ _ h0, h2]; rfl)
          rw [h2] at this; simp at this
        · exact h
      rw [val_snoc, decN, if_neg (by omega)]
      have e1 : (10 * val l0 + (c.toNat - 48)) / 10 = val l0 := by unfold Dig at hc; omega
      have e2 : (10 * val l0 + (c.toNat - 48)) % 10 = c.toNat - 48 := by unfold Dig at hc; omega
      rw [e1, e2, hi, ec]
theorem val_lt (l : List UInt8) (hd : Digs l) : val l < 10 ^ l.length := by
  induction hn : l.length generalizing l with
  | zero => have := List.length_eq_zero_iff.1 hn; subst this; simp [val]
  | succ n ih =>
    have hne : l ≠ [] := by intro h; subst h; simp at hn
    obtain ⟨l0, c, rfl⟩ : ∃ l0 c, l = l0 ++ [c] := ⟨l.dropLast, l.getLast hne, (List.dropLast_concat_getLast hne).symm⟩
    have hc : Dig c := hd c (by simp)
    have := ih l0 (fun x hx => hd x (by simp [hx])) (by simpa using hn)
    rw [val_snoc, Nat.pow_succ]; unfold Dig at hc; omega
theorem decL_inj (a b : Int) (h : decL a = decL b) : a = b := by
  have hh : ∀ n : Nat, ∀ l, decN n ≠ 45 :: l := by
    intro n l e
    have := digs_decN n 45 (by rw [e]; simp)
    unfold Dig at this; simp at this
  unfold decL at h
  split at h <;> split at h
  · have h1 := congrArg val (List.cons.inj h).2
    rw [val_decN, val_decN] at h1; omega
  · exact absurd h.symm (hh _ _)
  · exact absurd h (hh _ _)
  · have h1 := congrArg val h
    rw [val_decN, val_decN] at h1; omega
end Go.Proofs.Ytbbnnjcdglplkaa.Given
