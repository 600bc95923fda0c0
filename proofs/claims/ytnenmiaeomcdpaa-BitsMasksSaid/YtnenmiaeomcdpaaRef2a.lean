/-
  What the reference's functions on words answer, walked by hand: place by place; conditions: numbers of 64 bits.
-/
import Derived.Test.YtnenmiaeomcdpaaBit
import Derived.Test.YtnenmiaeomcdpaaBase2
import Derived.Test.YtnenmiaeomcdpaaProg
import Derived.Deep.WholeRow
import Derived.Laws.CopyOwn
namespace Go.Proofs.Ytnenmiaeomcdpaa.Given
open Go.RowKit Go.Proofs.YtnenmiaeomcdpaaW.PrintWords Go.Proofs.Ytnenmiaeomcdpaa.Base
set_option linter.unusedVariables false

theorem info_bits : (Try.prog.info? 54).map (fun i => (i.zero, i.size)) = some (some (.agg (bl fun _ => false).toArray), 128) := by kernel_rfl
theorem size_bits : (Try.prog.info? 54).map (·.size) = some 128 := by kernel_rfl
set_option maxHeartbeats 1000000 in
theorem rof_calls (n : Nat) (hn : n < W128) (w : World) :
    Calls Try.prog 38 #[.agg #[.int .u64 (hiN n), .int .u64 (loN n)]] w fun e w' => e = .returned (.agg (bl n.testBit).toArray) ∧ Below w.heap.size w w' := by
  have hz := (zero_of_info info_bits).1
  have hh := hiN_b n hn
  have hl := loN_b n
  go_enter Try.func38, Try.ntmps38
  go_wp2
  have B0 := Arr.new w [.int .u64 (hiN n), .int .u64 (loN n)] 26
  have B1 := Arr.new (w.alloc (.cells #[.int .u64 (hiN n), .int .u64 (loN n)] 26)) (bl fun _ => false) 54
  have B2 := Arr.new ((w.alloc (.cells #[.int .u64 (hiN n), .int .u64 (loN n)] 26)).alloc (.cells (bl fun _ => false).toArray 54)) (bl fun _ => false) 54
  simp only [World.size_alloc] at B1 B2
  have A0 := arr_alloc (arr_alloc B0 (.cells (bl fun _ => false).toArray 54)) (.cells (bl fun _ => false).toArray 54)
  have A1 := arr_alloc B1 (.cells (bl fun _ => false).toArray 54)
  have A2 : Arr _ _ (bl fun j => decide (j % 64 < 0) && n.testBit j) _ := (bl_congr (fun _ => false) (fun j => decide (j % 64 < 0) && n.testBit j) (fun j _ => by simp)) ▸ B2
  have AB := (((Below.refl w.heap.size w).alloc (Nat.le_refl _) (.cells #[.int .u64 (hiN n), .int .u64 (loN n)] 26)).alloc (by simp) (.cells (bl fun _ => false).toArray 54)).alloc (by simp; omega) (.cells (bl fun _ => false).toArray 54)
  clear B0 B1 B2 hz
  go_loopg [4] 64 (fun g v4 wr => ∃ i : Nat, v4 = .int .i64 (i : Int) ∧ i + g = 64 ∧ Aside0 (Arr wr w.heap.size [.int .u64 (hiN n), .int .u64 (loN n)] 26 ∧ Arr wr (w.heap.size + 1) (bl fun _ => false) 54 ∧ Arr wr (w.heap.size + 1 + 1) (bl fun j => decide (j % 64 < i) && n.testBit j) 54 ∧ Below w.heap.size w wr))
  case atStart => exact ⟨0, rfl, rfl, ⟨A0, A1, A2, AB⟩⟩
  case round =>
    clear A0 A1 A2 AB
    obtain ⟨i, rfl, hi, HR⟩ := hrel
    by_cases hlt : i < 64
    · obtain ⟨g, rfl⟩ : ∃ g, gk = g + 1 := ⟨gk - 1, by omega⟩
      have c0 := ctwo0 HR.out.1
      have c1 := ctwo1 HR.out.1
      have d0 := Arr_bl_cell HR.out.2.2.1 i (by omega)
      have d1 := Arr_bl_cell HR.out.2.2.1 (64 + i) (by omega)
      have f0 := HR.out.2.2.1.free i
      have f1 := HR.out.2.2.1.free (64 + i)
      have e0 := Aside0.mk (lo_bit n i hlt)
      have e1 := Aside0.mk (hi_bit n i hn)
      go_wp2
      go_roundg g
      case measure => omega
      case rel => exact ⟨i + 1, by go_num, by omega, ⟨arr_far (arr_far HR.out.1 (by simp; omega) _) (by simp <;> omega) _, arr_far (arr_far HR.out.2.1 (by simp) _) (by simp) _, by
          have h := (HR.out.2.2.1.set i (.bool (n.testBit i))).set (64 + i) (.bool (n.testBit (64 + i)))
          rw [bl_set, bl_set] at h
          rw [e0.out, e1.out]
          refine (bl_congr _ _ (fun j hj => ?_)) ▸ h
          by_cases h1 : j = 64 + i
          · subst h1; simp; omega
          · by_cases h2 : j = i
            · subst h2; simp [Nat.mod_eq_of_lt hlt]
            · have : (j % 64 < i) = (j % 64 < i + 1) := by
                apply propext; omega
              simp [h1, h2, this], (HR.out.2.2.2.setCell (by simp; omega) _).setCell (by simp; omega) _⟩⟩
    · obtain rfl : gk = 0 := by omega
      obtain rfl : i = 64 := by omega
      have hres : bl (fun j => decide (j % 64 < 64) && n.testBit j) = bl n.testBit := bl_congr _ _ (fun j _ => by simp [Nat.mod_lt])
      have hA := Aside0.mk HR.out.2.2.1
      rw [hres] at hA
      clear hres
      go_wp2_with (first | ((with_reducible refine gate_dst (N := 28) rfl ?_); refine wpList_load_row rfl 54 (.tmp 3) rfl (w.heap.size + 1 + 1) rfl 54 (bl n.testBit).toArray (0, 0) _ hA.out Try.underlying54 rfl (by rw [bl_size]; exact size_bits) ?_) | (refine wpList_store_row rfl 54 (.tmp 2) (.tmp 28) rfl (w.heap.size + 1) (bl n.testBit).toArray rfl rfl 54 _ HR.out.2.1 (by rw [bl_size]; exact size_bits) (by rw [bl_size, bl_size]) (bl_one _) ?_))
      exact bodyPost_ret (v := .agg (bl n.testBit).toArray) (results_cell_row rfl _ _ (w.heap.size + 1) 54 (bl n.testBit).toArray (0, 0) _ rfl (setRow_heap _ _ _ _ _ _ HR.out.2.1) Try.underlying54 rfl (by rw [bl_size]; exact size_bits)) rfl ⟨rfl, below_setRow HR.out.2.2.2 (by omega) _⟩
theorem nb_succ (β : Nat → Bool) (i k : Nat) : nb β i (k + 1) = 2 * nb β (i + 1) k + (β i).toNat := rfl
theorem three_new (w : World) (xs ys zs : List Value) (s t u : TypeId) :
    Arr (((w.alloc (.cells xs.toArray s)).alloc (.cells ys.toArray t)).alloc (.cells zs.toArray u)) w.heap.size xs s ∧ Arr (((w.alloc (.cells xs.toArray s)).alloc (.cells ys.toArray t)).alloc (.cells zs.toArray u)) (w.heap.size + 1) ys t ∧ Arr (((w.alloc (.cells xs.toArray s)).alloc (.cells ys.toArray t)).alloc (.cells zs.toArray u)) (w.heap.size + 1 + 1) zs u ∧ Below w.heap.size w (((w.alloc (.cells xs.toArray s)).alloc (.cells ys.toArray t)).alloc (.cells zs.toArray u)) := by
  have B0 := Arr.new w xs s
  have B1 := Arr.new (w.alloc (.cells xs.toArray s)) ys t
  have B2 := Arr.new ((w.alloc (.cells xs.toArray s)).alloc (.cells ys.toArray t)) zs u
  simp only [World.size_alloc] at B1 B2
  exact ⟨arr_alloc (arr_alloc B0 _) _, arr_alloc B1 _, B2, (((Below.refl w.heap.size w).alloc (Nat.le_refl _) _).alloc (by simp) _).alloc (by simp; omega) _⟩
theorem nt1 (u : Nat) : ((2 * u + true.toNat : Nat) : Int) = 2 * (u : Int) + 1 := by simp
theorem nt0 (u : Nat) : ((2 * u + false.toNat : Nat) : Int) = 2 * (u : Int) := by simp
theorem wset0 {w : World} {b : Nat} {x y u : Value} {t : TypeId} (h : Arr w b [x, y] t) : Arr (w.setCell ⟨b, 0, none⟩ u) b [u, y] t := h.set 0 u
theorem wset1 {w : World} {b : Nat} {x y u : Value} {t : TypeId} (h : Arr w b [x, y] t) : Arr (w.setCell ⟨b, 1, none⟩ u) b [x, u] t := h.set 1 u
set_option maxHeartbeats 2000000 in
theorem word_calls (β : Nat → Bool) (w : World) :
    Calls Try.prog 54 #[.agg (bl β).toArray] w fun e w' => e = .returned (.agg #[.int .u64 (hiN (nb128 β)), .int .u64 (loN (nb128 β))]) ∧ Below w.heap.size w w' := by
  obtain ⟨A0, A1, A2, AB⟩ := three_new w (bl β) [.int .u64 0, .int .u64 0] [.int .u64 0, .int .u64 0] 54 26 26
  have H0 := Aside0.mk (And.intro A0 (And.intro A1 (And.intro A2 AB)))
  clear A0 A1 A2 AB
  go_enter Try.func54, Try.ntmps54
  go_wp2
  go_loopg [4] 64 (fun g v4 wr => v4 = .int .i64 ((g : Int) - 1) ∧ g ≤ 64 ∧ Aside0 (Arr wr w.heap.size (bl β) 54 ∧ Arr wr (w.heap.size + 1) [.int .u64 0, .int .u64 0] 26 ∧ Arr wr (w.heap.size + 1 + 1) [.int .u64 ((nb β (64 + g) (64 - g) : Nat) : Int), .int .u64 ((nb β g (64 - g) : Nat) : Int)] 26 ∧ Below w.heap.size w wr))
  case atStart => exact ⟨rfl, by omega, ⟨H0.out.1, H0.out.2.1, H0.out.2.2.1, H0.out.2.2.2⟩⟩
  case round =>
    clear H0
    obtain ⟨rfl, h64, HR⟩ := hrel
    by_cases hlt : 0 < gk
    · obtain ⟨g, rfl⟩ : ∃ g, gk = g + 1 := ⟨gk - 1, by omega⟩
      have hk : (64 - g : Nat) = 64 - (g + 1) + 1 := by omega
      have bh := nb_lt β (64 + (g + 1)) (64 - (g + 1))
      have bl1 := nb_lt β (g + 1) (64 - (g + 1))
      have hp : 2 ^ (64 - (g + 1)) ≤ 2 ^ 63 := Nat.pow_le_pow_right (by omega) (by omega)
      have e1 := nb_succ β (64 + g) (64 - (g + 1))
      have e2 := nb_succ β g (64 - (g + 1))
      rw [← hk] at e1 e2
      rw [show 64 + g + 1 = 64 + (g + 1) by omega] at e1
      have bH : nb β (64 + (g + 1)) (64 - (g + 1)) ≤ 9223372036854775807 := by omega
      have bL : nb β (g + 1) (64 - (g + 1)) ≤ 9223372036854775807 := by omega
      have c0 := ctwo0 HR.out.2.2.1
      have c1 := ctwo1 HR.out.2.2.1
      have HX := HR.out.2.2.1
      have d0 := Arr_bl_cell HR.out.1 g (by omega)
      have d1 := Arr_bl_cell HR.out.1 (64 + g) (by omega)
      have f0 := HR.out.2.2.1.free 0
      have f1 := HR.out.2.2.1.free 1
      have E := Aside0.mk (And.intro e1 e2)
      clear e1 e2 bh bl1 hp
      generalize nb β (64 + (g + 1)) (64 - (g + 1)) = U at *
      generalize nb β (g + 1) (64 - (g + 1)) = V at *
      have HX := Aside0.mk HX
      have hg : (0 : Int) ≤ (g : Int) := by omega
      have hi2 : (64 + (g : Int)).toNat = 64 + g := by omega
      generalize hb0 : β g = b0 at *
      generalize hb1 : β (64 + g) = b1 at *
      clear hb0 hb1 hk
      cases b0 with
      | true =>
        cases b1 with
        | true =>
          go_wp2
          go_roundg g
          case measure => omega
          case rel =>
            refine ⟨by first | rfl | (congr 1; omega), by omega, ⟨arr_far (arr_far (arr_far (arr_far (HR.out.1) (by simp <;> omega) _) (by simp <;> omega) _) (by simp <;> omega) _) (by simp <;> omega) _, arr_far (arr_far (arr_far (arr_far (HR.out.2.1) (by simp) _) (by simp) _) (by simp) _) (by simp) _, ?_, ((((HR.out.2.2.2).setCell (by simp <;> omega) _).setCell (by simp <;> omega) _).setCell (by simp <;> omega) _).setCell (by simp <;> omega) _⟩⟩
            rw [E.out.1, E.out.2]
            rw [nt1, nt1]
            exact wset0 (wset1 (wset0 (wset1 HX.out)))
        | false =>
          go_wp2
          go_roundg g
          case measure => omega
          case rel =>
            refine ⟨by first | rfl | (congr 1; omega), by omega, ⟨arr_far (arr_far (arr_far (HR.out.1) (by simp <;> omega) _) (by simp <;> omega) _) (by simp <;> omega) _, arr_far (arr_far (arr_far (HR.out.2.1) (by simp) _) (by simp) _) (by simp) _, ?_, (((HR.out.2.2.2).setCell (by simp <;> omega) _).setCell (by simp <;> omega) _).setCell (by simp <;> omega) _⟩⟩
            rw [E.out.1, E.out.2]
            rw [nt0, nt1]
            exact wset1 (wset0 (wset1 HX.out))
      | false =>
        cases b1 with
        | true =>
          go_wp2
          go_roundg g
          case measure => omega
          case rel =>
            refine ⟨by first | rfl | (congr 1; omega), by omega, ⟨arr_far (arr_far (arr_far (HR.out.1) (by simp <;> omega) _) (by simp <;> omega) _) (by simp <;> omega) _, arr_far (arr_far (arr_far (HR.out.2.1) (by simp) _) (by simp) _) (by simp) _, ?_, (((HR.out.2.2.2).setCell (by simp <;> omega) _).setCell (by simp <;> omega) _).setCell (by simp <;> omega) _⟩⟩
            rw [E.out.1, E.out.2]
            rw [nt1, nt0]
            exact wset0 (wset0 (wset1 HX.out))
        | false =>
          go_wp2
          go_roundg g
          case measure => omega
          case rel =>
            refine ⟨by first | rfl | (congr 1; omega), by omega, ⟨arr_far (arr_far (HR.out.1) (by simp <;> omega) _) (by simp <;> omega) _, arr_far (arr_far (HR.out.2.1) (by simp) _) (by simp) _, ?_, ((HR.out.2.2.2).setCell (by simp <;> omega) _).setCell (by simp <;> omega) _⟩⟩
            rw [E.out.1, E.out.2]
            rw [nt0, nt0]
            exact wset0 (wset1 HX.out)
    · obtain rfl : gk = 0 := by omega
      have c0 := ctwo0 HR.out.2.2.1
      have c1 := ctwo1 HR.out.2.2.1
      have d0 := ctwo0 HR.out.2.1
      have d1 := ctwo1 HR.out.2.1
      have f0 := HR.out.2.1.free 0
      have f1 := HR.out.2.1.free 1
      simp only [Nat.add_zero, Nat.sub_zero] at c0 c1
      have E := Aside0.mk (And.intro (hiN_nb β) (loN_nb β))
      go_wp2
      exact bodyPost_ret (v := .agg #[.int .u64 ((nb β 64 64 : Nat) : Int), .int .u64 ((nb β 0 64 : Nat) : Int)]) (by simp [results, Try.results54, go_sem, d0, d1]) rfl ⟨by rw [E.out.1, E.out.2], (HR.out.2.2.2.setCell (by simp) _).setCell (by simp) _⟩
end Go.Proofs.Ytnenmiaeomcdpaa.Given
