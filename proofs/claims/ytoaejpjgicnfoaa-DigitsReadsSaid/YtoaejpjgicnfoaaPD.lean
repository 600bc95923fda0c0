/-
  What the printed functions of the layer of digits answer, in words of lists of bytes; conditions: the numbers are of their kind, the texts are not too long.
-/
import Derived.Test.YtoaejpjgicnfoaaKDx4
import Derived.Test.YtoaejpjgicnfoaaDec
namespace Go.Proofs.Ytoaejpjgicnfoaa.PD
open Go.RowKit Go.Proofs.Ytoaejpjgicnfoaa.Given Go.Proofs.Ytoaejpjgicnfoaa.KD Go.Proofs.YtoaejpjgicnfoaaW.PrintWords Go.Proofs.YtoaejpjgicnfoaaW.PrintLast

def L (s : ByteArray) : List UInt8 := s.data.toList
theorem L_len (s : ByteArray) : (L s).length = s.size := by simp [L]
theorem bt_get (s : ByteArray) (i : Nat) (h : i < (L s).length) : bt s (i : Int) = ((L s)[i].toNat : Int) := by
  have h' : i < s.size := by rw [← L_len]; exact h
  simp only [bt, Int.toNat_natCast, h', dif_pos]
  rfl
def Ok64 (n : Int) : Prop := -9223372036854775808 ≤ n ∧ n ≤ 9223372036854775807
def most (neg : Bool) : Nat := if neg then 9223372036854775808 else 9223372036854775807
def fin (neg : Bool) (v : Nat) : Int × Bool := if v > most neg then (0, false) else (if neg then -(v : Int) else (v : Int), true)
theorem pow19 (l : List UInt8) (hd : Digs l) (h : l.length ≤ 19) : val l < 10000000000000000000 := by
  have h1 := val_lt l hd
  have h2 : 10 ^ l.length ≤ 10 ^ 19 := Nat.pow_le_pow_right (by omega) h
  omega
theorem take_succ' (l : List UInt8) (i : Nat) (h : i < l.length) : l.take (i + 1) = l.take i ++ [l[i]] := by
  rw [List.take_succ_eq_append_getElem h]
theorem digs_take_succ (l : List UInt8) (i : Nat) (h : i < l.length) (hd : Digs (l.take i)) (hc : Dig l[i]) : Digs (l.take (i + 1)) := by
  rw [take_succ' l i h]; intro c hc'
  rcases List.mem_append.1 hc' with h1 | h1
  · exact hd c h1
  · rw [List.mem_singleton.1 h1]; exact hc
theorem not_digs (l : List UInt8) (i : Nat) (h : i < l.length) (hc : ¬ Dig l[i]) : ¬ Digs l := fun hd => hc (hd _ (List.getElem_mem h))
theorem j4_ev (neg : Bool) (v : Nat) (hv : v < 10000000000000000000) : Ev (fun k => digits_Read.j4 k neg (v : Int) (most neg : Int)) (fin neg v) := by
  refine Ev.step (f := fun _ => some (fin neg v)) (fun k => ?_) (Ev.now _)
  simp only [digits_Read.j4, fin]
  by_cases h : v > most neg
  · rw [if_pos (by omega), if_pos h]
  · rw [if_neg (by omega), if_neg h]
    cases neg with
    | true =>
      simp only [most, if_true] at h
      simp only [if_true]
      congr 2
      have e : IntKind.u64.wrap (-(v : Int)) = if v = 0 then 0 else 18446744073709551616 - (v : Int) := by
        simp only [IntKind.wrap, IntKind.bits, IntKind.signed]; simp; split <;> omega
      rw [e]; unfold wrap64; split <;> omega
    | false =>
      simp only [most] at h
      rw [if_neg (by simp), if_neg (by simp)]
      congr 2
      unfold wrap64; simp at h; omega
theorem l0_ev (s : ByteArray) (neg : Bool) (hs : s.size ≤ 19) : ∀ (d i : Nat), s.size - i = d → i ≤ s.size → Digs ((L s).take i) →
    Ev (fun k => digits_Read.l0 k s neg (val ((L s).take i) : Int) (s.size : Int) (i : Int)) (if Digs (L s) then fin neg (val (L s)) else (0, false)) := by
  intro d
  induction d with
  | zero =>
    intro i hd hi hdg
    have : i = s.size := by omega
    subst this
    rw [← L_len, List.take_length] at *
    rw [if_pos hdg]
    refine Ev.step (f := fun k => digits_Read.j4 k neg (val (L s) : Int) (most neg : Int)) (fun k => ?_) (j4_ev neg _ (pow19 _ hdg hs))
    simp only [digits_Read.l0]
    rw [if_neg (by omega)]
    cases neg <;> rfl
  | succ d ih =>
    intro i hd hi hdg
    have hlt : i < (L s).length := by rw [L_len]; omega
    have hb := bt_get s i hlt
    by_cases hc : Dig (L s)[i]
    · have h1 := ih (i + 1) (by omega) (by omega) (digs_take_succ _ _ hlt hdg hc)
      refine Ev.step (fun k => ?_) h1
      simp only [digits_Read.l0]
      unfold Dig at hc
      have hv : val ((L s).take i) < 1000000000000000000 := by
        have h2 := val_lt _ hdg
        have h3 : 10 ^ ((L s).take i).length ≤ 10 ^ 18 := Nat.pow_le_pow_right (by omega) (by rw [List.length_take, L_len]; omega)
        omega
      rw [if_pos (by omega), if_pos (by omega), if_pos (by omega), hb, if_neg (by omega), if_neg (by omega), take_succ' _ _ hlt, val_snoc]
      congr 1
      · simp only [IntKind.wrap, IntKind.bits, IntKind.signed]; simp; omega
      · unfold wrap64; omega
    · rw [if_neg (not_digs _ _ hlt hc)]
      refine Ev.step (f := fun _ => some (0, false)) (fun k => ?_) (Ev.now _)
      simp only [digits_Read.l0]
      rw [if_pos (by omega), if_pos (by omega), if_pos (by omega), hb]
      unfold Dig at hc
      by_cases h1 : (((L s)[i].toNat : Int)) < 48
      · rw [if_pos h1]
      · rw [if_neg h1, if_pos (by omega)]
end Go.Proofs.Ytoaejpjgicnfoaa.PD
