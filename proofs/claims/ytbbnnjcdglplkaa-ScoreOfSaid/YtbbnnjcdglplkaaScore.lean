/-
  What the reference's Plies answers, walked by hand; conditions: none beyond what is said.
-/
import Derived.Test.YtbbnnjcdglplkaaDec
import Derived.Test.YtbbnnjcdglplkaaKS0x
namespace Go.Proofs.Ytbbnnjcdglplkaa.Given
open Go.RowKit Go.Proofs.YtbbnnjcdglplkaaW.PrintWords Go.Proofs.Ytbbnnjcdglplkaa.Base Go.Proofs.Ytbbnnjcdglplkaa.KS0
set_option linter.unusedVariables false

def mayB (a b : Int) : Bool := decide (4 ≤ a ∧ a ≤ 8 ∧ 4 ≤ b ∧ b ≤ 8)
theorem refmay_f (a b : Int) : plummetref06_May.f a b = some (mayB a b) := by
  unfold plummetref06_May.f mayB
  by_cases h1 : a ≥ 4 <;> by_cases h2 : a ≤ 8 <;> by_cases h3 : b ≥ 4 <;> by_cases h4 : b ≤ 8 <;> simp [h1, h2, h3, h4] <;> omega
theorem may_bd (a b : Int) (h : mayB a b = true) : 4 ≤ a ∧ a ≤ 8 ∧ 4 ≤ b ∧ b ≤ 8 ∧ 16 ≤ a * b ∧ a * b ≤ 64 := by
  simp only [mayB, decide_eq_true_eq] at h
  have h1 : 4 * 4 ≤ a * b := Int.mul_le_mul (by omega) (by omega) (by omega) (by omega)
  have h2 : a * b ≤ 8 * 8 := Int.mul_le_mul (by omega) (by omega) (by omega) (by omega)
  omega
theorem worth_f (a b m : Int) (h : mayB a b = true) (h0 : 0 ≤ m) (h1 : m ≤ a * b) : plummetref17_worth.f a b m = some ((a * b + 1 - m) / 2) := by
  have hb := may_bd a b h
  unfold plummetref17_worth.f
  generalize a * b = c at *
  have e1 : wrap64 (wrap64 (wrap64 c + 1) - m) = c + 1 - m := by unfold wrap64; omega
  rw [e1, Int.tdiv_eq_ediv_of_nonneg (by omega)]
  congr 1; unfold wrap64; omega
theorem two0 {w : World} {b : Nat} {x y : Value} {t : TypeId} (h : Arr w b [x, y] t) : w.cell? ⟨b, 0, none⟩ = some x := h.cell 0 (by simp)
theorem two1 {w : World} {b : Nat} {x y : Value} {t : TypeId} (h : Arr w b [x, y] t) : w.cell? ⟨b, 1, none⟩ = some y := h.cell 1 (by simp)
/-- The m for which it is so, tried one by one. -/
def rHit (c st s m : Int) : Bool := decide (((m - st) % 2 = 0 ∧ s = (c + 1 - m) / 2) ∨ (¬ (m - st) % 2 = 0 ∧ s = -((c + 1 - m) / 2)))
def rGo (c st s : Int) : Nat → Int → Int × Int
  | 0, _ => (0, 18)
  | d + 1, m => if rHit c st s m then (m + 1 - st, 0) else rGo c st s d (m + 1)
def refPlies (a b st s : Int) : Int × Int :=
  if mayB a b then (if st < 0 ∨ st > a * b then (0, 3) else if s = 0 then (a * b - st, 0) else rGo (a * b) st s (a * b - st).toNat st) else (0, 10)
def plummetref17_Plies.f (a b st s : Int) : Option (Int × Int) := some (refPlies a b st s)
set_option maxHeartbeats 1000000 in
theorem plies_go (a b st s : Int) (w : World) (hp : mayB a b = true) (h0 : 0 ≤ st) (h1 : st ≤ a * b) (hs : ¬ s = 0) :
    Calls Try.prog 34 #[.agg #[.int .i64 a, .int .i64 b], .int .i64 st, .int .i64 s] w fun e w' => e = .returned (.tuple #[.int .i64 (rGo (a * b) st s (a * b - st).toNat st).1, .int .i64 (rGo (a * b) st s (a * b - st).toNat st).2]) ∧ Below w.heap.size w w' := by
  obtain ⟨b1, b2, b3, b4, b5, b6⟩ := may_bd a b hp
  have hsb : (s == 0) = false := by rw [beq_eq_false_iff_ne]; exact hs
  have q1 : decide (st < 0) = false := by simp; omega
  have hw : wrap64 (a * b) = a * b := by unfold wrap64; omega
  have q2 : decide (a * b < st) = false := by simp; omega
  go_enter Try.func34, Try.ntmps34
  go_wp2_with (first | (go_at_call 19; refine (plummetref06_May.calls a b true _ (by rw [refmay_f, hp])).mono ?_; rintro e w1 ⟨rfl, hb1⟩; have ha0 : Arr w1 w.heap.size [.int .i64 a, .int .i64 b] 23 := (Arr.new w _ _).below hb1 (by simp); have HA0 := Aside0.mk ha0; have c0 := two0 ha0; have c1 := two1 ha0; clear ha0))
  have hb0 : Below w.heap.size w w1 := ((Below.refl _ _).alloc (Nat.le_refl _) _).trans (hb1.mono (by simp))
  clear c0 c1
  go_loopg [9, 10] (a * b - st).toNat (fun d v9 _ wr => ∃ m : Int, v9 = .int .i64 m ∧ st ≤ m ∧ m ≤ a * b ∧ d = (a * b - m).toNat ∧ Aside0 (rGo (a * b) st s d m = rGo (a * b) st s (a * b - st).toNat st) ∧ Aside0 (Arr wr w.heap.size [.int .i64 a, .int .i64 b] 23) ∧ Below w.heap.size w wr)
  case atStart => exact ⟨st, rfl, by omega, h1, rfl, ⟨rfl⟩, HA0, hb0⟩
  case round =>
    obtain ⟨m, rfl, hm0, hm1, hd, HG, HA, hb⟩ := hrel
    clear hb1 hb0 HA0
    have c0 := two0 HA.out
    have c1 := two1 HA.out
    by_cases hlt : m < a * b
    · obtain ⟨d, rfl⟩ : ∃ d, gk = d + 1 := ⟨gk - 1, by omega⟩
      have HW := Aside0.mk (worth_f a b m hp (by omega) hm1)
      by_cases hpar : (m - st) % 2 = 0
      · have hpb : ((m - st) % 2 == 0) = true := by rw [beq_iff_eq]; exact hpar
        by_cases heq : s = (a * b + 1 - m) / 2
        · have HR := Aside0.mk (show rGo (a * b) st s (a * b - st).toNat st = (m + 1 - st, 0) by rw [← HG.out]; simp only [rGo]; rw [if_pos (by unfold rHit; exact decide_eq_true (by omega))])
          have hbe : (s == (a * b + 1 - m) / 2) = true := by rw [beq_iff_eq]; exact heq
          go_wp2_with (first | (go_at_call 68; refine (plummetref17_worth.calls a b m _ _ HW.out).mono ?_; rintro e w2 ⟨rfl, hb2⟩; have HA2 := Aside0.mk (HA.out.below hb2 HA.out.lt); have hb3 := hb.trans (hb2.mono hb.size); clear hb2))
          go_ret2
          exact ⟨by rw [HR.out]; rfl, hb3⟩
        · have HR := Aside0.mk (show rGo (a * b) st s d (m + 1) = rGo (a * b) st s (a * b - st).toNat st by rw [← HG.out]; simp only [rGo]; rw [if_neg (by unfold rHit; rw [decide_eq_true_eq]; omega)])
          have hbe : (s == (a * b + 1 - m) / 2) = false := by rw [beq_eq_false_iff_ne]; exact heq
          go_wp2_with (first | (go_at_call 68; refine (plummetref17_worth.calls a b m _ _ HW.out).mono ?_; rintro e w2 ⟨rfl, hb2⟩; have HA2 := Aside0.mk (HA.out.below hb2 HA.out.lt); have hb3 := hb.trans (hb2.mono hb.size); clear hb2))
          go_roundg d
          case measure => omega
          case rel => exact ⟨m + 1, rfl, by omega, by omega, by omega, HR, HA2, hb3⟩
      · have hpb : ((m - st) % 2 == 0) = false := by rw [beq_eq_false_iff_ne]; exact hpar
        by_cases heq : s = -((a * b + 1 - m) / 2)
        · have HR := Aside0.mk (show rGo (a * b) st s (a * b - st).toNat st = (m + 1 - st, 0) by rw [← HG.out]; simp only [rGo]; rw [if_pos (by unfold rHit; exact decide_eq_true (by omega))])
          have hbe : (s == -((a * b + 1 - m) / 2)) = true := by rw [beq_iff_eq]; exact heq
          go_wp2_with (first | (go_at_call 68; refine (plummetref17_worth.calls a b m _ _ HW.out).mono ?_; rintro e w2 ⟨rfl, hb2⟩; have HA2 := Aside0.mk (HA.out.below hb2 HA.out.lt); have hb3 := hb.trans (hb2.mono hb.size); clear hb2))
          go_ret2
          exact ⟨by rw [HR.out]; rfl, hb3⟩
        · have HR := Aside0.mk (show rGo (a * b) st s d (m + 1) = rGo (a * b) st s (a * b - st).toNat st by rw [← HG.out]; simp only [rGo]; rw [if_neg (by unfold rHit; rw [decide_eq_true_eq]; omega)])
          have hbe : (s == -((a * b + 1 - m) / 2)) = false := by rw [beq_eq_false_iff_ne]; exact heq
          go_wp2_with (first | (go_at_call 68; refine (plummetref17_worth.calls a b m _ _ HW.out).mono ?_; rintro e w2 ⟨rfl, hb2⟩; have HA2 := Aside0.mk (HA.out.below hb2 HA.out.lt); have hb3 := hb.trans (hb2.mono hb.size); clear hb2))
          go_roundg d
          case measure => omega
          case rel => exact ⟨m + 1, rfl, by omega, by omega, by omega, HR, HA2, hb3⟩
    · obtain rfl : gk = 0 := by omega
      have HR := Aside0.mk (show rGo (a * b) st s (a * b - st).toNat st = (0, 18) by rw [← HG.out]; rfl)
      go_wp2
      go_ret2
      exact ⟨by rw [HR.out]; rfl, hb⟩
theorem plies_lt (a b st s : Int) (w : World) (hp : mayB a b = true) (h0 : st < 0) :
    Calls Try.prog 34 #[.agg #[.int .i64 a, .int .i64 b], .int .i64 st, .int .i64 s] w fun e w' => e = .returned (.tuple #[.int .i64 0, .int .i64 3]) ∧ Below w.heap.size w w' := by
  obtain ⟨b1, b2, b3, b4, b5, b6⟩ := may_bd a b hp
  have hw : wrap64 (a * b) = a * b := by unfold wrap64; omega
  have q1 : decide (st < 0) = true := by simp; omega
  go_enter Try.func34, Try.ntmps34
  go_wp2_with (first | (go_at_call 19; refine (plummetref06_May.calls a b true _ (by rw [refmay_f, hp])).mono ?_; rintro e w1 ⟨rfl, hb1⟩; have ha0 : Arr w1 w.heap.size [.int .i64 a, .int .i64 b] 23 := (Arr.new w _ _).below hb1 (by simp); have HA0 := Aside0.mk ha0; have c0 := two0 ha0; have c1 := two1 ha0; clear ha0))
  go_ret2
  exact ⟨rfl, ((Below.refl _ _).alloc (Nat.le_refl _) _).trans (hb1.mono (by simp))⟩
theorem plies_gt (a b st s : Int) (w : World) (hp : mayB a b = true) (h0 : 0 ≤ st) (h1 : a * b < st) :
    Calls Try.prog 34 #[.agg #[.int .i64 a, .int .i64 b], .int .i64 st, .int .i64 s] w fun e w' => e = .returned (.tuple #[.int .i64 0, .int .i64 3]) ∧ Below w.heap.size w w' := by
  obtain ⟨b1, b2, b3, b4, b5, b6⟩ := may_bd a b hp
  have hw : wrap64 (a * b) = a * b := by unfold wrap64; omega
  have q1 : decide (st < 0) = false := by simp; omega
  have q2 : decide (a * b < st) = true := by simp; omega
  go_enter Try.func34, Try.ntmps34
  go_wp2_with (first | (go_at_call 19; refine (plummetref06_May.calls a b true _ (by rw [refmay_f, hp])).mono ?_; rintro e w1 ⟨rfl, hb1⟩; have ha0 : Arr w1 w.heap.size [.int .i64 a, .int .i64 b] 23 := (Arr.new w _ _).below hb1 (by simp); have HA0 := Aside0.mk ha0; have c0 := two0 ha0; have c1 := two1 ha0; clear ha0))
  go_ret2
  exact ⟨rfl, ((Below.refl _ _).alloc (Nat.le_refl _) _).trans (hb1.mono (by simp))⟩
theorem plies_zero (a b st : Int) (w : World) (hp : mayB a b = true) (h0 : 0 ≤ st) (h1 : st ≤ a * b) :
    Calls Try.prog 34 #[.agg #[.int .i64 a, .int .i64 b], .int .i64 st, .int .i64 0] w fun e w' => e = .returned (.tuple #[.int .i64 (a * b - st), .int .i64 0]) ∧ Below w.heap.size w w' := by
  obtain ⟨b1, b2, b3, b4, b5, b6⟩ := may_bd a b hp
  have hw : wrap64 (a * b) = a * b := by unfold wrap64; omega
  have q1 : decide (st < 0) = false := by simp; omega
  have q2 : decide (a * b < st) = false := by simp; omega
  go_enter Try.func34, Try.ntmps34
  go_wp2_with (first | (go_at_call 19; refine (plummetref06_May.calls a b true _ (by rw [refmay_f, hp])).mono ?_; rintro e w1 ⟨rfl, hb1⟩; have ha0 : Arr w1 w.heap.size [.int .i64 a, .int .i64 b] 23 := (Arr.new w _ _).below hb1 (by simp); have HA0 := Aside0.mk ha0; have c0 := two0 ha0; have c1 := two1 ha0; clear ha0))
  go_ret2
  exact ⟨rfl, ((Below.refl _ _).alloc (Nat.le_refl _) _).trans (hb1.mono (by simp))⟩
theorem plies_no (a b st s : Int) (w : World) (hp : mayB a b = false) :
    Calls Try.prog 34 #[.agg #[.int .i64 a, .int .i64 b], .int .i64 st, .int .i64 s] w fun e w' => e = .returned (.tuple #[.int .i64 0, .int .i64 10]) ∧ Below w.heap.size w w' := by
  go_enter Try.func34, Try.ntmps34
  go_wp2_with (first | (go_at_call 19; refine (plummetref06_May.calls a b false _ (by rw [refmay_f, hp])).mono ?_; rintro e w1 ⟨rfl, hb1⟩))
  go_ret2
  exact ⟨rfl, ((Below.refl _ _).alloc (Nat.le_refl _) _).trans (hb1.mono (by simp))⟩
theorem plummetref17_Plies.calls (a0_0 : Int) (a0_1 : Int) (a1 : Int) (a2 : Int) (r1 : Int) (r2 : Int) (w : World) (h : plummetref17_Plies.f a0_0 a0_1 a1 a2 = some (r1, r2)) :
    Calls Try.prog 34 #[.agg #[.int .i64 a0_0, .int .i64 a0_1], .int .i64 a1, .int .i64 a2] w fun e w' => e = .returned (.tuple #[.int .i64 r1, .int .i64 r2]) ∧ Below w.heap.size w w' := by
  have h := Option.some.inj h
  unfold refPlies at h
  by_cases hp : mayB a0_0 a0_1 = true
  · rw [if_pos hp] at h
    by_cases h1 : a1 < 0 ∨ a1 > a0_0 * a0_1
    · rw [if_pos h1] at h
      obtain ⟨rfl, rfl⟩ := Prod.mk.inj h
      rcases Int.lt_or_le a1 0 with h2 | h2
      · exact plies_lt _ _ _ _ _ hp h2
      · exact plies_gt _ _ _ _ _ hp h2 (by omega)
    · rw [if_neg h1] at h
      by_cases h2 : a2 = 0
      · rw [if_pos h2] at h
        obtain ⟨rfl, rfl⟩ := Prod.mk.inj h
        subst h2
        exact plies_zero _ _ _ _ hp (by omega) (by omega)
      · rw [if_neg h2] at h
        have := plies_go a0_0 a0_1 a1 a2 w hp (by omega) (by omega) h2
        rw [h] at this
        exact this
  · rw [if_neg hp] at h
    obtain ⟨rfl, rfl⟩ := Prod.mk.inj h
    exact plies_no _ _ _ _ _ (by simpa using hp)
end Go.Proofs.Ytbbnnjcdglplkaa.Given
