/-
  What moves.first, moves.Check, moves.Parse and moves.Text answer; conditions: lists and texts are not longer than memory.
-/
import Derived.Test.YtoaejpjgicnfoaaBase
import Derived.Test.YtoaejpjgicnfoaaKBx
namespace Go.Proofs.Ytoaejpjgicnfoaa.Given
open Go.RowKit Go.Proofs.YtoaejpjgicnfoaaW.PrintWords Go.Proofs.Ytoaejpjgicnfoaa.Base Go.Proofs.Ytoaejpjgicnfoaa.KB

/-- The first place that may not be, from a place on, and why. -/
def firstGo (cells bw : Int) (col : Nat → Int) : Nat → Nat → Int × Int
  | 0, i => (i, 0)
  | d + 1, i => if (i : Int) ≥ cells then (i, 14) else if col i < 0 ∨ col i ≥ bw then (i, 11) else firstGo cells bw col d (i + 1)
theorem firstGo_long (c bw : Int) (col : Nat → Int) (d i : Nat) (h : (i : Int) ≥ c) : firstGo c bw col (d + 1) i = ((i : Int), 14) := by simp only [firstGo]; rw [if_pos h]
theorem firstGo_bad (c bw : Int) (col : Nat → Int) (d i : Nat) (h : ¬ (i : Int) ≥ c) (h2 : col i < 0 ∨ col i ≥ bw) : firstGo c bw col (d + 1) i = ((i : Int), 11) := by simp only [firstGo]; rw [if_neg h, if_pos h2]
theorem firstGo_next (c bw : Int) (col : Nat → Int) (d i : Nat) (h : ¬ (i : Int) ≥ c) (h2 : ¬ (col i < 0 ∨ col i ≥ bw)) : firstGo c bw col (d + 1) i = firstGo c bw col d (i + 1) := by simp only [firstGo]; rw [if_neg h, if_neg h2]
def mayB (a b : Int) : Bool := decide (4 ≤ a ∧ a ≤ 8 ∧ 4 ≤ b ∧ b ≤ 8)
def firstF (a b : Int) (n : Nat) (col : Nat → Int) : Int × Int := if mayB a b then firstGo (a * b) a col n 0 else (0, 10)
theorem may_f (a b : Int) : board_May.f a b = some (mayB a b) := by
  unfold board_May.f board_side.f mayB
  by_cases h1 : a ≥ 4 <;> by_cases h2 : a ≤ 8 <;> by_cases h3 : b ≥ 4 <;> by_cases h4 : b ≤ 8 <;> simp [h1, h2, h3, h4] <;> omega
theorem cells_f (a b : Int) (h : mayB a b = true) : board_Cells.f a b = some (a * b) := by
  unfold board_Cells.f
  rw [may_f, h]
  simp only [mayB, decide_eq_true_eq] at h
  simp only [Option.bind_some, if_true]
  have h1 : 0 ≤ a * b := Int.mul_nonneg (by omega) (by omega)
  have h2 : a * b ≤ 8 * 8 := Int.mul_le_mul (by omega) (by omega) (by omega) (by omega)
  congr 1
  unfold wrap64; omega
set_option maxHeartbeats 1000000 in
theorem first_calls (a b : Int) (n : Nat) (hn : n ≤ 140737488351232) (g : FuncId) (p : Addr) (col : Nat → Int) (w : World)
    (H : Aside0 (∀ (i : Nat) (W : World), i < n → Below w.heap.size w W → Calls Try.prog g #[.int .i64 (i : Int), .pointer (some p)] W fun e W' => e = .returned (.int .i64 (col i)) ∧ Below W.heap.size W W')) (hp : mayB a b = true)
    (hg : ∀ (vs : Array Value) (W : World), Sem.run Try.prog (callFunc g vs) W = .ok (.enter g vs) W) :
    Calls Try.prog 51 #[.agg #[.int .i64 a, .int .i64 b], .int .i64 (n : Int), .func (.func g) #[] #[.pointer (some p)]] w fun e w' => e = .returned (.tuple #[.int .i64 (firstF a b n col).1, .int .i64 (firstF a b n col).2]) ∧ Below w.heap.size w w' := by
  go_enter Try.func51, Try.ntmps51
  go_wp2
  go_step3
  go_wp2_with (first | (go_at_call 61; refine (board_May.calls a b true _ (by rw [may_f, hp])).mono ?_; rintro e w1 ⟨rfl, hb1⟩))
  go_step3
  go_wp2
  have hb0 : Below w.heap.size w w1 := ((Below.refl _ _).alloc (Nat.le_refl _) _).trans (hb1.mono (by simp))
  have ha0 : Arr w1 w.heap.size [.int .i64 a, .int .i64 b] 23 := (Arr.new w _ _).below hb1 (by simp)
  go_loopg [8, 9, 10] n (fun d v8 v9 _ wr => ∃ i : Nat, v8 = .int .i64 (i : Int) ∧ v9 = .int .i64 0 ∧ i + d = n ∧ Aside0 (firstGo (a * b) a col d i = firstGo (a * b) a col n 0) ∧ Aside0 (Arr wr w.heap.size [.int .i64 a, .int .i64 b] 23) ∧ Below w.heap.size w wr)
  case atStart => exact ⟨0, rfl, rfl, by omega, ⟨rfl⟩, ⟨ha0⟩, hb0⟩
  case round =>
    obtain ⟨i, rfl, rfl, hi, HF, HA, hb⟩ := hrel
    clear hb1 hb0 ha0
    have c0 := HA.out.cell 0 (by simp)
    have c1 := HA.out.cell 1 (by simp)
    simp only [List.getElem_cons_zero, List.getElem_cons_succ] at c0 c1
    by_cases hlt : i < n
    · obtain ⟨d, rfl⟩ : ∃ d, gk = d + 1 := ⟨gk - 1, by omega⟩
      by_cases h1 : (i : Int) ≥ a * b
      · have HR := Aside0.mk (show firstF a b n col = ((i : Int), 14) by unfold firstF; rw [if_pos hp, ← HF.out, firstGo_long _ _ _ _ _ h1])
        go_wp2_with fail
        refine (H.out i _ hlt hb).mono ?_
        rintro e w2 ⟨rfl, hb2⟩
        have HA2 := Aside0.mk (HA.out.below hb2 HA.out.lt)
        have hb3 := hb.trans (hb2.mono hb.size)
        clear c0 c1
        have c0 := HA2.out.cell 0 (by simp)
        have c1 := HA2.out.cell 1 (by simp)
        simp only [List.getElem_cons_zero, List.getElem_cons_succ] at c0 c1
        go_wp2_with (first | (go_at_call 62; refine (board_Cells.calls a b (a * b) _ (cells_f a b hp)).mono ?_; rintro e w3 ⟨rfl, hb4⟩; have d0 : w3.cell? ⟨w.heap.size, 0, none⟩ = some (.int .i64 a) := (HA2.out.below hb4 HA2.out.lt).cell 0 (by simp)))
        rw [Exit.noGoto_ret]
        go_ret2
        exact ⟨by rw [HR.out]; rfl, hb3.trans (hb4.mono hb3.size)⟩
      · by_cases h2 : col i < 0
        · have HR := Aside0.mk (show firstF a b n col = ((i : Int), 11) by unfold firstF; rw [if_pos hp, ← HF.out, firstGo_bad _ _ _ _ _ h1 (.inl h2)])
          go_wp2_with fail
          refine (H.out i _ hlt hb).mono ?_
          rintro e w2 ⟨rfl, hb2⟩
          have HA2 := Aside0.mk (HA.out.below hb2 HA.out.lt)
          have hb3 := hb.trans (hb2.mono hb.size)
          clear c0 c1
          have c0 := HA2.out.cell 0 (by simp)
          have c1 := HA2.out.cell 1 (by simp)
          simp only [List.getElem_cons_zero, List.getElem_cons_succ] at c0 c1
          go_wp2_with (first | (go_at_call 62; refine (board_Cells.calls a b (a * b) _ (cells_f a b hp)).mono ?_; rintro e w3 ⟨rfl, hb4⟩; have d0 : w3.cell? ⟨w.heap.size, 0, none⟩ = some (.int .i64 a) := (HA2.out.below hb4 HA2.out.lt).cell 0 (by simp)))
          rw [Exit.noGoto_ret]
          go_ret2
          exact ⟨by rw [HR.out]; rfl, hb3.trans (hb4.mono hb3.size)⟩
        · by_cases h3 : col i ≥ a
          · have HR := Aside0.mk (show firstF a b n col = ((i : Int), 11) by unfold firstF; rw [if_pos hp, ← HF.out, firstGo_bad _ _ _ _ _ h1 (.inr h3)])
            go_wp2_with fail
            refine (H.out i _ hlt hb).mono ?_
            rintro e w2 ⟨rfl, hb2⟩
            have HA2 := Aside0.mk (HA.out.below hb2 HA.out.lt)
            have hb3 := hb.trans (hb2.mono hb.size)
            clear c0 c1
            have c0 := HA2.out.cell 0 (by simp)
            have c1 := HA2.out.cell 1 (by simp)
            simp only [List.getElem_cons_zero, List.getElem_cons_succ] at c0 c1
            go_wp2_with (first | (go_at_call 62; refine (board_Cells.calls a b (a * b) _ (cells_f a b hp)).mono ?_; rintro e w3 ⟨rfl, hb4⟩; have d0 : w3.cell? ⟨w.heap.size, 0, none⟩ = some (.int .i64 a) := (HA2.out.below hb4 HA2.out.lt).cell 0 (by simp)))
            rw [Exit.noGoto_ret]
            go_ret2
            exact ⟨by rw [HR.out]; rfl, hb3.trans (hb4.mono hb3.size)⟩
          · have HR := Aside0.mk (show firstGo (a * b) a col d (i + 1) = firstGo (a * b) a col n 0 by rw [← HF.out, firstGo_next _ _ _ _ _ h1 (by omega)])
            go_wp2_with fail
            refine (H.out i _ hlt hb).mono ?_
            rintro e w2 ⟨rfl, hb2⟩
            have HA2 := Aside0.mk (HA.out.below hb2 HA.out.lt)
            have hb3 := hb.trans (hb2.mono hb.size)
            clear c0 c1
            have c0 := HA2.out.cell 0 (by simp)
            have c1 := HA2.out.cell 1 (by simp)
            simp only [List.getElem_cons_zero, List.getElem_cons_succ] at c0 c1
            go_wp2_with (first | (go_at_call 62; refine (board_Cells.calls a b (a * b) _ (cells_f a b hp)).mono ?_; rintro e w3 ⟨rfl, hb4⟩; have d0 : w3.cell? ⟨w.heap.size, 0, none⟩ = some (.int .i64 a) := (HA2.out.below hb4 HA2.out.lt).cell 0 (by simp)))
            go_roundg d
            case measure => omega
            case rel => exact ⟨i + 1, by go_num, rfl, by omega, HR, ⟨HA2.out.below hb4 HA2.out.lt⟩, hb3.trans (hb4.mono hb3.size)⟩
    · obtain rfl : gk = 0 := by omega
      have HR := Aside0.mk (show firstF a b n col = ((i : Int), 0) by unfold firstF; rw [if_pos hp, ← HF.out]; rfl)
      go_wp2
      rw [Exit.noGoto_ret]
      go_ret2
      exact ⟨by rw [HR.out]; rfl, hb⟩
end Go.Proofs.Ytoaejpjgicnfoaa.Given
