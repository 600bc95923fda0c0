/-
  Whole numbers of some thousands as binary floating point: sums, differences, products, comparisons and the ways from and to integers are exact; conditions: the bounds that each says. No program in sight.
-/
import Derived.Laws.FloatArith
import Derived.Laws.ComplexArith
namespace Go.Proofs.Ytbbnnjcdglplkaa.Fl
set_option linter.unusedVariables false
set_option linter.unusedSimpArgs false
open Ieee

/-- A datum that is a whole number. -/
def Rep (d : Datum) (n : Int) : Prop :=
  ∃ (s : Bool) (m : Nat) (e : Int), d = .number s m e ∧ e ≤ 0 ∧ (n ≠ 0 → -1074 ≤ e) ∧ m = n.natAbs * 2 ^ (-e).toNat ∧ (n < 0 → s = true) ∧ (0 < n → s = false)
/-- The same, and no place below the format's least one. -/
def RepS (d : Datum) (n : Int) : Prop :=
  ∃ (s : Bool) (m : Nat) (e : Int), d = .number s m e ∧ e ≤ 0 ∧ -1074 ≤ e ∧ (n ≠ 0 → -52 ≤ e) ∧ m = n.natAbs * 2 ^ (-e).toNat ∧ (n < 0 → s = true) ∧ (0 < n → s = false)
def IsF (bits : Nat) (n : Int) : Prop := RepS (Ieee.double.read bits) n

theorem log2_mul (k j : Nat) (hk : 0 < k) : (k * 2 ^ j).log2 = k.log2 + j := by
  induction j with
  | zero => simp
  | succ j ih =>
    rw [Nat.pow_succ, ← Nat.mul_assoc, Nat.mul_comm _ 2, Nat.log2_two_mul (Nat.ne_of_gt (Nat.mul_pos hk (Nat.two_pow_pos j))), ih]; omega
theorem cut_zero_drop (way : Toward) (neg : Bool) (n : Nat) : way.cut neg n 0 = n := by
  have h : n % 1 = 0 := Nat.mod_one n
  cases way <;> simp [Toward.cut, h]
theorem cut_exact (way : Toward) (neg : Bool) (n d : Nat) (hn : 0 < n) : way.cut neg (n * 2 ^ d) d = n := by
  have h1 : (n * 2 ^ d).log2 = n.log2 + d := log2_mul n d hn
  have h2 : min d ((n * 2 ^ d).log2 + 2) = d := by rw [h1]; omega
  have h3 : (1 <<< d : Nat) = 2 ^ d := by rw [Nat.shiftLeft_eq, Nat.one_mul]
  have h4 : n * 2 ^ d / 2 ^ d = n := Nat.mul_div_cancel _ (Nat.two_pow_pos d)
  have h5 : n * 2 ^ d % 2 ^ d = 0 := Nat.mul_mod_left _ _
  have h6 : 0 < 2 ^ d := Nat.two_pow_pos d
  unfold Toward.cut
  simp only [h2, h3, h4, h5]
  cases way <;> simp <;> omega
/-- The word of a whole number k, 0 < k <= 8192. -/
def E (s : Bool) (k : Nat) : Nat := Ieee.double.word s ((1074 - (52 - k.log2)) * 2 ^ 52 + k * 2 ^ (52 - k.log2))
theorem log2_le (k : Nat) (hk : 0 < k) (h : k ≤ 8192) : k.log2 ≤ 13 := by
  have := Nat.log2_self_le (n := k) (by omega)
  rcases Nat.lt_or_ge 13 k.log2 with h1 | h1
  · have : 2 ^ 14 ≤ 2 ^ k.log2 := Nat.pow_le_pow_right (by omega) h1
    omega
  · exact h1
theorem mant (k : Nat) (hk : 0 < k) (h : k ≤ 8192) : 2 ^ 52 ≤ k * 2 ^ (52 - k.log2) ∧ k * 2 ^ (52 - k.log2) < 2 ^ 53 := by
  have hl := log2_le k hk h
  have h1 := Nat.log2_self_le (n := k) (by omega)
  have h2 := Nat.lt_log2_self (n := k)
  have e1 : 2 ^ k.log2 * 2 ^ (52 - k.log2) = 2 ^ 52 := by rw [← Nat.pow_add]; congr 1; omega
  have e2 : 2 ^ (k.log2 + 1) * 2 ^ (52 - k.log2) = 2 ^ 53 := by rw [← Nat.pow_add]; congr 1; omega
  constructor
  · rw [← e1]; exact Nat.mul_le_mul_right _ h1
  · rw [← e2]; exact Nat.mul_lt_mul_of_pos_right h2 (Nat.two_pow_pos _)
theorem nearest_eq (s : Bool) (k j : Nat) (hk : 0 < k) (h : k ≤ 8192) (hj : j ≤ 1074) : Ieee.double.nearest s (k * 2 ^ j) (-(j : Int)) = E s k := by
  have hl := log2_le k hk h
  obtain ⟨m1, m2⟩ := mant k hk h
  have h0 : k * 2 ^ j ≠ 0 := Nat.ne_of_gt (Nat.mul_pos hk (Nat.two_pow_pos j))
  have hp : Ieee.double.leastPlace = -1074 := by decide
  have hf : Ieee.double.fractionBits = 52 := rfl
  have hb : Ieee.double.binade = 2 ^ 52 := rfl
  have hi : Ieee.double.infRung = 2047 * 2 ^ 52 := by decide
  unfold Format.nearest
  rw [if_neg h0, log2_mul k j hk, hp, hf, hb, hi]
  have hlast : max (-(j : Int) + ((k.log2 + j : Nat) : Int) - ((52 : Nat) : Int)) (-1074) = (k.log2 : Int) - 52 := by omega
  simp only [hlast]
  have kept : Toward.even.cut s ((k * 2 ^ j) <<< (-(j : Int) - ((k.log2 : Int) - 52)).toNat) (((k.log2 : Int) - 52 - -(j : Int)).toNat) = k * 2 ^ (52 - k.log2) := by
    by_cases hjt : j ≤ 52 - k.log2
    · have e1 : (-(j : Int) - ((k.log2 : Int) - 52)).toNat = 52 - k.log2 - j := by omega
      have e2 : ((k.log2 : Int) - 52 - -(j : Int)).toNat = 0 := by omega
      rw [e1, e2, cut_zero_drop, Nat.shiftLeft_eq, Nat.mul_assoc, ← Nat.pow_add]
      congr 2; omega
    · have e1 : (-(j : Int) - ((k.log2 : Int) - 52)).toNat = 0 := by omega
      have e2 : ((k.log2 : Int) - 52 - -(j : Int)).toNat = j - (52 - k.log2) := by omega
      have e3 : k * 2 ^ j = (k * 2 ^ (52 - k.log2)) * 2 ^ (j - (52 - k.log2)) := by
        rw [Nat.mul_assoc, ← Nat.pow_add]; congr 2; omega
      rw [e1, e2, Nat.shiftLeft_eq, Nat.pow_zero, Nat.mul_one, e3, cut_exact _ _ _ _ (by omega)]
  rw [kept]
  unfold E
  have e4 : ((k.log2 : Int) - 52 - -1074).toNat = 1074 - (52 - k.log2) := by omega
  rw [e4, Nat.min_eq_left]
  generalize k * 2 ^ (52 - k.log2) = q at *
  omega
theorem read_E (s : Bool) (k : Nat) (hk : 0 < k) (h : k ≤ 8192) : Ieee.double.read (E s k) = .number s (k * 2 ^ (52 - k.log2)) (-((52 - k.log2 : Nat) : Int)) := by
  have hl := log2_le k hk h
  obtain ⟨m1, m2⟩ := mant k hk h
  have hp : Ieee.double.leastPlace = -1074 := by decide
  have hb : Ieee.double.binade = 4503599627370496 := by decide
  have hi : Ieee.double.infRung = 9218868437227405312 := by decide
  have hs : Ieee.double.signWeight = 9223372036854775808 := by decide
  have p52 : (2 : Nat) ^ 52 = 4503599627370496 := by decide
  have p53 : (2 : Nat) ^ 53 = 9007199254740992 := by decide
  unfold E
  rw [p52] at *
  rw [p53] at m2
  generalize hq : k * 2 ^ (52 - k.log2) = q at *
  generalize ht : 52 - k.log2 = t at *
  have hr : (1074 - t) * 4503599627370496 + q < 9218868437227405312 := by omega
  have hw : Ieee.double.word s ((1074 - t) * 4503599627370496 + q) = (if s then 9223372036854775808 else 0) + ((1074 - t) * 4503599627370496 + q) := by
    unfold Format.word; rw [hs]; cases s <;> simp
  rw [hw]
  unfold Format.read
  rw [hs, hb, hi, hp]
  generalize hR : (1074 - t) * 4503599627370496 + q = R at *
  have r1 : ((if s then 9223372036854775808 else 0) + R) % 9223372036854775808 = R := by cases s <;> simp <;> omega
  have r2 : (((if s then 9223372036854775808 else 0) + R) / 9223372036854775808 % 2 == 1) = s := by
    cases s
    · have : (0 + R) / 9223372036854775808 % 2 = 0 := by omega
      simp only [Bool.false_eq_true, if_false, this]; rfl
    · have : (9223372036854775808 + R) / 9223372036854775808 % 2 = 1 := by omega
      simp only [if_true, this]; rfl
  simp only [r1, r2]
  have c1 : ¬ R < 4503599627370496 := by omega
  rw [if_neg c1, if_pos hr]
  have e1 : R % 4503599627370496 = q - 4503599627370496 := by omega
  have e2 : R / 4503599627370496 = 1074 - t + 1 := by omega
  have f1 : 4503599627370496 + (q - 4503599627370496) = q := by omega
  have f2 : (-1074 : Int) + ((1074 - t + 1 - 1 : Nat) : Int) = -(t : Int) := by omega
  rw [e1, e2, f1, f2]
theorem read_zero (s : Bool) : Ieee.double.read (Ieee.double.word s 0) = .number s 0 (-1074) := by cases s <;> decide
/-- What is written of a whole number is read as that number. -/
theorem write_rep (d : Datum) (n : Int) (h : Rep d n) (hn : n.natAbs ≤ 8192) : IsF (Ieee.double.write d) n := by
  obtain ⟨s, m, e, rfl, he, hel, hm, h1, h2⟩ := h
  unfold IsF
  by_cases h0 : n = 0
  · subst h0
    have : m = 0 := by rw [hm]; simp
    subst this
    have : Ieee.double.write (.number s 0 e) = Ieee.double.word s 0 := by simp [Format.write, Format.nearest]
    rw [this, read_zero]
    exact ⟨s, 0, -1074, rfl, by omega, by omega, fun h => absurd rfl h, by rw [Int.natAbs_zero, Nat.zero_mul], by omega, by omega⟩
  · have hk : 0 < n.natAbs := by omega
    have hel := hel h0
    have : Ieee.double.write (.number s m e) = E s n.natAbs := by
      simp only [Format.write]
      have := nearest_eq s n.natAbs (-e).toNat hk hn (by omega)
      rw [hm]
      rw [show -(((-e).toNat : Nat) : Int) = e by omega] at this
      exact this
    have hl := log2_le _ hk hn
    rw [this, read_E s _ hk hn]
    exact ⟨s, _, _, rfl, by omega, by omega, fun _ => by omega, by congr 2; omega, h1, h2⟩
theorem rep_signed {s : Bool} {m : Nat} {e : Int} {n : Int} (hm : m = n.natAbs * 2 ^ (-e).toNat) (h1 : n < 0 → s = true) (h2 : 0 < n → s = false) (base : Int) (hb : base ≤ e) (he : e ≤ 0) : signed s m (e - base).toNat = n * 2 ^ (-base).toNat := by
  have e1 : (m <<< (e - base).toNat : Nat) = n.natAbs * 2 ^ (-base).toNat := by
    rw [hm, Nat.shiftLeft_eq, Nat.mul_assoc, ← Nat.pow_add]; congr 2; omega
  have e2 : ((n.natAbs * 2 ^ (-base).toNat : Nat) : Int) = (n.natAbs : Int) * 2 ^ (-base).toNat := by
    rw [Int.natCast_mul, Int.natCast_pow]; rfl
  unfold signed
  rw [e1, e2]
  generalize (2 : Int) ^ (-base).toNat = z
  rcases Int.lt_trichotomy n 0 with h | h | h
  · rw [h1 h, if_pos rfl, show ((n.natAbs : Nat) : Int) = -n by omega, Int.neg_mul, Int.neg_neg]
  · subst h; simp
  · rw [h2 h, if_neg (by simp), show ((n.natAbs : Nat) : Int) = n by omega]
theorem sum_rep (x y : Datum) (a b : Int) (hx : RepS x a) (hy : RepS y b) : ∃ d, x.sum y = some d ∧ Rep d (a + b) := by
  obtain ⟨s, m, e, rfl, he, hel, hes, hm, h1, h2⟩ := hx
  obtain ⟨t, n, f, rfl, hf, hfl, hfs, hn, g1, g2⟩ := hy
  have hb : min e f ≤ e := Int.min_le_left _ _
  have hb2 : min e f ≤ f := Int.min_le_right _ _
  have t1 := rep_signed hm h1 h2 (min e f) hb he
  have t2 := rep_signed hn g1 g2 (min e f) hb2 hf
  have tot : signed s m (e - min e f).toNat + signed t n (f - min e f).toNat = (a + b) * 2 ^ (-min e f).toNat := by rw [t1, t2, Int.add_mul]
  have hz : (0 : Int) < 2 ^ (-min e f).toNat := Int.pow_pos (by decide)
  refine ⟨_, rfl, ?_⟩
  simp only [tot]
  refine ⟨_, _, _, rfl, by omega, fun _ => by omega, ?_, ?_, ?_⟩
  · rw [Int.natAbs_mul, Int.natAbs_pow]; rfl
  · intro h
    have : (a + b) * 2 ^ (-min e f).toNat < 0 := Int.mul_neg_of_neg_of_pos h hz
    rw [if_neg (by omega)]; exact decide_eq_true this
  · intro h
    have : 0 < (a + b) * 2 ^ (-min e f).toNat := Int.mul_pos h hz
    rw [if_neg (by omega)]; exact decide_eq_false (by omega)
theorem opp_rep (y : Datum) (b : Int) (hy : RepS y b) : RepS y.opposite (-b) := by
  obtain ⟨t, n, f, rfl, hf, hfl, hfs, hn, g1, g2⟩ := hy
  refine ⟨!t, n, f, rfl, hf, hfl, fun h => hfs (by omega), by rw [Int.natAbs_neg]; exact hn, fun h => by rw [g2 (by omega)]; rfl, fun h => by rw [g1 (by omega)]; rfl⟩
theorem prod_rep (x y : Datum) (a b : Int) (hx : RepS x a) (hy : RepS y b) : ∃ d, x.product y = some d ∧ Rep d (a * b) := by
  obtain ⟨s, m, e, rfl, he, hel, hes, hm, h1, h2⟩ := hx
  obtain ⟨t, n, f, rfl, hf, hfl, hfs, hn, g1, g2⟩ := hy
  refine ⟨_, rfl, _, _, _, rfl, by omega, fun h => ?_, ?_, ?_, ?_⟩
  · have ha : a ≠ 0 := fun h0 => h (by rw [h0, Int.zero_mul])
    have hb : b ≠ 0 := fun h0 => h (by rw [h0, Int.mul_zero])
    have := hes ha; have := hfs hb; clear h; omega
  · rw [hm, hn, Int.natAbs_mul, show (-(e + f)).toNat = (-e).toNat + (-f).toNat by omega, Nat.pow_add]
    simp only [Nat.mul_assoc, Nat.mul_left_comm, Nat.mul_comm]
  · intro h
    rcases Int.lt_trichotomy a 0 with ha | ha | ha <;> rcases Int.lt_trichotomy b 0 with hb | hb | hb
    · have := Int.mul_pos_of_neg_of_neg ha hb; omega
    · subst hb; simp at h
    · rw [h1 ha, g2 hb]; rfl
    · subst ha; simp at h
    · subst ha; simp at h
    · subst ha; simp at h
    · rw [h2 ha, g1 hb]; rfl
    · subst hb; simp at h
    · have := Int.mul_pos ha hb; omega
  · intro h
    rcases Int.lt_trichotomy a 0 with ha | ha | ha <;> rcases Int.lt_trichotomy b 0 with hb | hb | hb
    · rw [h1 ha, g1 hb]; rfl
    · subst hb; simp at h
    · have := Int.mul_neg_of_neg_of_pos ha hb; omega
    · subst ha; simp at h
    · subst ha; simp at h
    · subst ha; simp at h
    · have := Int.mul_neg_of_pos_of_neg ha hb; omega
    · subst hb; simp at h
    · rw [h2 ha, g2 hb]; rfl
theorem fadd {x y : Nat} {a b : Int} (hx : IsF x a) (hy : IsF y b) (h : (a + b).natAbs ≤ 8192) : ∃ r, Go.floatBits .add .f64 x y = some r ∧ IsF r (a + b) := by
  obtain ⟨d, e, hd⟩ := sum_rep _ _ _ _ hx hy
  refine ⟨Ieee.double.write d, ?_, write_rep d _ hd h⟩
  show Ieee.double.add x y = _
  unfold Format.add; rw [e]; rfl
theorem fsub {x y : Nat} {a b : Int} (hx : IsF x a) (hy : IsF y b) (h : (a - b).natAbs ≤ 8192) : ∃ r, Go.floatBits .sub .f64 x y = some r ∧ IsF r (a - b) := by
  obtain ⟨d, e, hd⟩ := sum_rep _ _ _ _ hx (opp_rep _ _ hy)
  rw [show a + -b = a - b by omega] at hd
  refine ⟨Ieee.double.write d, ?_, write_rep d _ hd h⟩
  show Ieee.double.sub x y = _
  unfold Format.sub; rw [e]; rfl
theorem fmul {x y : Nat} {a b : Int} (hx : IsF x a) (hy : IsF y b) (h : (a * b).natAbs ≤ 8192) : ∃ r, Go.floatBits .mul .f64 x y = some r ∧ IsF r (a * b) := by
  obtain ⟨d, e, hd⟩ := prod_rep _ _ _ _ hx hy
  refine ⟨Ieee.double.write d, ?_, write_rep d _ hd h⟩
  show Ieee.double.mul x y = _
  unfold Format.mul; rw [e]; rfl
theorem fofInt (n : Int) (h : n.natAbs ≤ 8192) : IsF (Go.floatOfInt .f64 n) n := by
  refine write_rep _ n ⟨decide (n < 0), n.natAbs, 0, rfl, by omega, fun _ => by omega, by simp, fun h => by simpa using h, fun h => by simp; omega⟩ h
theorem forder {x y : Nat} {a b : Int} (hx : IsF x a) (hy : IsF y b) : Ieee.double.order x y = some (compare a b) := by
  unfold IsF at hx hy
  unfold Format.order
  generalize Ieee.double.read x = p at *; generalize Ieee.double.read y = q at *
  obtain ⟨s, m, e, rfl, he, hel, hes, hm, h1, h2⟩ := hx
  obtain ⟨t, n, f, rfl, hf, hfl, hfs, hn, g1, g2⟩ := hy
  have hb : min e f ≤ e := Int.min_le_left _ _
  have hb2 : min e f ≤ f := Int.min_le_right _ _
  have t1 := rep_signed hm h1 h2 (min e f) hb he
  have t2 := rep_signed hn g1 g2 (min e f) hb2 hf
  have hz : (0 : Int) < 2 ^ (-min e f).toNat := Int.pow_pos (by decide)
  show some (compare _ _) = _
  rw [t1, t2]
  generalize (2 : Int) ^ (-min e f).toNat = z at *
  congr 1
  rcases Int.lt_trichotomy a b with h | h | h
  · have : a * z < b * z := Int.mul_lt_mul_of_pos_right h hz
    rw [Int.compare_eq_lt.2 h, Int.compare_eq_lt.2 this]
  · subst h; simp
  · have : b * z < a * z := Int.mul_lt_mul_of_pos_right h hz
    rw [Int.compare_eq_gt.2 h, Int.compare_eq_gt.2 this]
theorem ftoInt {x : Nat} {n : Int} (hx : IsF x n) (h : n.natAbs ≤ 8192) : Go.floatToIntVal .f64 x .i64 = some n := by
  unfold IsF at hx
  unfold Go.floatToIntVal
  show (match (Ieee.double.read x).toInt .zero with | some n => _ | none => _) = _
  generalize Ieee.double.read x = p at *
  obtain ⟨s, m, e, rfl, he, hel, hes, hm, h1, h2⟩ := hx
  have e1 : Toward.zero.cut s (m <<< e.toNat) (-e).toNat = n.natAbs := by
    have e0 : e.toNat = 0 := by omega
    rw [e0, Nat.shiftLeft_eq, Nat.pow_zero, Nat.mul_one, hm]
    by_cases h0 : n = 0
    · subst h0
      simp [Toward.cut]
    · exact cut_exact _ _ _ _ (by omega)
  have e2 : (Datum.number s m e).toInt .zero = some n := by
    show some (signed s (Toward.zero.cut s (m <<< e.toNat) (-e).toNat) 0) = _
    rw [e1]; unfold signed; rw [Nat.shiftLeft_zero]; congr 1
    rcases Int.lt_trichotomy n 0 with h | h | h
    · rw [h1 h, if_pos rfl]; omega
    · subst h; simp
    · rw [h2 h, if_neg (by simp)]; omega
  rw [e2]
  show (if _ ∧ _ then some n else none) = _
  rw [if_pos]
  have k1 : Go.IntKind.i64.min = -9223372036854775808 := by decide
  have k2 : Go.IntKind.i64.max = 9223372036854775807 := by decide
  rw [k1, k2]; omega
theorem f0 : IsF 0 0 := ⟨false, 0, -1074, by decide, by decide, by decide, by decide, by rw [Int.natAbs_zero, Nat.zero_mul], by decide, by decide⟩
theorem f1 : IsF 4607182418800017408 1 := ⟨false, 4503599627370496, -52, by decide, by decide, by decide, by decide, by decide, by decide, by decide⟩
theorem csum {a b c d : Nat} {p q u v : Int} (ha : IsF a p) (hb : IsF b q) (hc : IsF c u) (hd : IsF d v) (h1 : (p + u).natAbs ≤ 8192) (h2 : (q + v).natAbs ≤ 8192) : ∃ x y, Go.cSumBits .add .f64 a b c d = some (x, y) ∧ IsF x (p + u) ∧ IsF y (q + v) := by
  obtain ⟨x, ex, hx⟩ := fadd ha hc h1
  obtain ⟨y, ey, hy⟩ := fadd hb hd h2
  exact ⟨x, y, by simp [Go.cSumBits, ex, ey], hx, hy⟩
theorem cdif {a b c d : Nat} {p q u v : Int} (ha : IsF a p) (hb : IsF b q) (hc : IsF c u) (hd : IsF d v) (h1 : (p - u).natAbs ≤ 8192) (h2 : (q - v).natAbs ≤ 8192) : ∃ x y, Go.cSumBits .sub .f64 a b c d = some (x, y) ∧ IsF x (p - u) ∧ IsF y (q - v) := by
  obtain ⟨x, ex, hx⟩ := fsub ha hc h1
  obtain ⟨y, ey, hy⟩ := fsub hb hd h2
  exact ⟨x, y, by simp [Go.cSumBits, ex, ey], hx, hy⟩
theorem cmul {a b c d : Nat} {p q u v : Int} (ha : IsF a p) (hb : IsF b q) (hc : IsF c u) (hd : IsF d v) (h1 : (p * u).natAbs ≤ 8192) (h2 : (q * v).natAbs ≤ 8192) (h3 : (p * v).natAbs ≤ 8192) (h4 : (q * u).natAbs ≤ 8192) (h5 : (p * u - q * v).natAbs ≤ 8192) (h6 : (p * v + q * u).natAbs ≤ 8192) : ∃ x y, Go.cMulBits a b c d = some (x, y) ∧ IsF x (p * u - q * v) ∧ IsF y (p * v + q * u) := by
  obtain ⟨x1, e1, g1⟩ := fmul ha hc h1
  obtain ⟨x2, e2, g2⟩ := fmul hb hd h2
  obtain ⟨x3, e3, g3⟩ := fsub g1 g2 h5
  obtain ⟨x4, e4, g4⟩ := fmul ha hd h3
  obtain ⟨x5, e5, g5⟩ := fmul hb hc h4
  obtain ⟨x6, e6, g6⟩ := fadd g4 g5 h6
  exact ⟨x3, x6, by simp [Go.cMulBits, e1, e2, e3, e4, e5, e6], g3, g6⟩
end Go.Proofs.Ytbbnnjcdglplkaa.Fl
