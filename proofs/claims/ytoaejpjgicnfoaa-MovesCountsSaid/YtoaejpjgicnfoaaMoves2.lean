/-
  What moves.Check and moves.Parse answer; conditions: lists and texts are not longer than memory.
-/
import Derived.Test.YtoaejpjgicnfoaaMoves
namespace Go.Proofs.Ytoaejpjgicnfoaa.Given
set_option linter.unusedVariables false
open Go.RowKit Go.Proofs.YtoaejpjgicnfoaaW.PrintWords Go.Proofs.Ytoaejpjgicnfoaa.Base Go.Proofs.Ytoaejpjgicnfoaa.KB

set_option maxHeartbeats 1000000 in
theorem first_no (a b : Int) (n : Int) (v : Value) (w : World) (hp : mayB a b = false) :
    Calls Try.prog 51 #[.agg #[.int .i64 a, .int .i64 b], .int .i64 n, v] w fun e w' => e = .returned (.tuple #[.int .i64 0, .int .i64 10]) ∧ Below w.heap.size w w' := by
  go_enter Try.func51, Try.ntmps51
  go_wp2
  go_step3
  go_wp2_with (first | (go_at_call 61; refine (board_May.calls a b false _ (by rw [may_f, hp])).mono ?_; rintro e w1 ⟨rfl, hb1⟩))
  rw [Exit.noGoto_ret]
  go_ret2
  exact ⟨rfl, ((Below.refl _ _).alloc (Nat.le_refl _) _).trans (hb1.mono (by simp))⟩
theorem check1_calls (i : Nat) (W : World) (p : Addr) (A : Option Addr) (c : Nat) (l : List Int) (hc : W.cell? p = some (.slice A l.length c)) (hr : Kd.C (Kd.int .i64) W A l.length l) (hi : i < l.length) :
    Calls Try.prog 52 #[.int .i64 (i : Int), .pointer (some p)] W fun e W' => e = .returned (.int .i64 (l.getD i 0)) ∧ Below W.heap.size W W' := by
  have hr' := Aside0.mk hr
  clear hr
  have h0 : (0 : Int) ≤ (i : Int) := by omega
  have h1 : (i : Int) < (l.length : Int) := by omega
  obtain ⟨ad, e, hx⟩ := Kd.at_int hr'.out (i : Int) h0 h1
  cases e
  have hy : rd l (i : Int) = l.getD i 0 := by simp [rd]
  rw [hy, Int.toNat_natCast] at hx
  go_enter Try.func52, Try.ntmps52
  go_wp2
  go_ret
  exact ⟨by simp [hi], Below.refl _ _⟩
def moves_Check.f (a b : Int) (l : List Int) : Option (Int × Int) := if l.length ≤ 140737488351232 then some (firstF a b l.length (fun i => l.getD i 0)) else none
set_option maxHeartbeats 1000000 in
theorem moves_Check.calls (a0_0 : Int) (a0_1 : Int) (A1 : Option Addr) (c1 : Nat) (l1 : List Int) (r1 : Int) (r2 : Int) (w : World) (hr1 : Kd.C (Kd.int .i64) w A1 l1.length l1) (hc1 : l1.length ≤ c1) (h : moves_Check.f a0_0 a0_1 l1 = some (r1, r2)) :
    Calls Try.prog 22 #[.agg #[.int .i64 a0_0, .int .i64 a0_1], .slice A1 l1.length c1] w fun e w' => e = .returned (.tuple #[.int .i64 r1, .int .i64 r2]) ∧ Below w.heap.size w w' := by
  unfold moves_Check.f at h
  split at h
  · rename_i hn
    have h := Aside0.mk (Option.some.inj h)
    have HR := Aside0.mk hr1
    clear hr1
    go_enter Try.func22, Try.ntmps22
    by_cases hp : mayB a0_0 a0_1 = true
    · go_wp2_with fail
      refine (first_calls a0_0 a0_1 l1.length hn _ _ (fun i => l1.getD i 0) _ ⟨fun i W hi hb => ?_⟩ hp (fun vs W => by rfl)).mono ?_
      · exact check1_calls i W _ A1 c1 l1 (by rw [hb.cell (by simp)]; simp) (Kd.C_below HR.out (((Below.refl _ _).alloc (Nat.le_refl _) _ |>.alloc (by simp) _).trans (hb.mono (by simp; omega)))) hi
      · rintro e w2 ⟨rfl, hb⟩
        rw [h.out]
        go_wp2
        go_ret2
        exact ⟨rfl, (((Below.refl _ _).alloc (Nat.le_refl _) _).alloc (by simp) _).trans (hb.mono (by simp; omega))⟩
    · have hp : mayB a0_0 a0_1 = false := by simpa using hp
      go_wp2_with fail
      refine (first_no a0_0 a0_1 _ _ _ hp).mono ?_
      rintro e w2 ⟨rfl, hb⟩
      go_wp2
      go_ret2
      have e2 := h.out
      unfold firstF at e2
      rw [hp] at e2
      have e3 := Prod.mk.inj e2
      exact ⟨by rw [← e3.1, ← e3.2]; rfl, (((Below.refl _ _).alloc (Nat.le_refl _) _).alloc (by simp) _).trans (hb.mono (by simp; omega))⟩
  · cases h
end Go.Proofs.Ytoaejpjgicnfoaa.Given
