/-
  What the reference's At, Has and Places answer; conditions: numbers of 64 bits, lists that fit into memory.
-/
import Derived.Test.YtnenmiaeomcdpaaRef2a
namespace Go.Proofs.Ytnenmiaeomcdpaa.Given
open Go.RowKit Go.Proofs.YtnenmiaeomcdpaaW.PrintWords Go.Proofs.Ytnenmiaeomcdpaa.Base
set_option linter.unusedVariables false

theorem R_ints {w : World} {b base : Nat} {k : IntKind} {e : TypeId} (l : List Int) (h : Arr w b (l.map (Value.int k)) e) (hb : base ≤ b) (hl : l.length ≤ 9223372036854775807) :
    Kd.R (Kd.int k) e w base (fun _ => True) (.slice (some ⟨b, 0, none⟩) l.length l.length) l :=
  Kd.R_of_own (enc := Value.int k) (h1 := fun _ => rfl) ⟨by simp [encs], .inr ⟨b, l.length, _, rfl, hb, h, Nat.le_refl _, by simpa [maxLen] using hl, by simp, by simp [encs, List.take_of_length_le]⟩⟩ (fun _ _ => trivial)
def wfW (hi lo : Int) : Prop := 0 ≤ hi ∧ hi ≤ 18446744073709551615 ∧ 0 ≤ lo ∧ lo ≤ 18446744073709551615
instance (hi lo : Int) : Decidable (wfW hi lo) := by unfold wfW; infer_instance
theorem wfW_N2 {hi lo : Int} (h : wfW hi lo) : N2 hi lo < W128 ∧ hiN (N2 hi lo) = hi ∧ loN (N2 hi lo) = lo := by
  obtain ⟨h1, h2, h3, h4⟩ := h
  exact ⟨N2_lt _ _ h1 h2 h3 h4, hiN_N2 _ _ h1 h3 h4, loN_N2 _ _ h1 h3 h4⟩
theorem wfW_halves (n : Nat) (h : n < W128) : wfW (hiN n) (loN n) := by
  have := hiN_b n h; have := loN_b n; unfold wfW; omega
/-- Has a word a bit at a place that may be any number? -/
def hasN (n : Nat) (p : Int) : Bool := decide (0 ≤ p) && (decide (p ≤ 127) && n.testBit p.toNat)
def plummetref02_Has.f (hi lo p : Int) : Option Bool := if wfW hi lo then some (hasN (N2 hi lo) p) else none
set_option maxHeartbeats 1000000 in
theorem has_low (n : Nat) (p : Int) (w : World) (hp : p < 0) : Calls Try.prog 41 #[.agg #[.int .u64 (hiN n), .int .u64 (loN n)], .int .i64 p] w fun e w' => e = .returned (.bool false) ∧ Below w.heap.size w w' := by
  have hB := (Below.refl w.heap.size w).alloc (Nat.le_refl _) (.cells #[.int .u64 (hiN n), .int .u64 (loN n)] 26)
  go_enter Try.func41, Try.ntmps41
  go_wp2
  go_ret
  exact ⟨rfl, hB⟩
set_option maxHeartbeats 1000000 in
theorem has_high (n : Nat) (p : Int) (w : World) (h0 : 0 ≤ p) (hp : 127 < p) : Calls Try.prog 41 #[.agg #[.int .u64 (hiN n), .int .u64 (loN n)], .int .i64 p] w fun e w' => e = .returned (.bool false) ∧ Below w.heap.size w w' := by
  have hB := (Below.refl w.heap.size w).alloc (Nat.le_refl _) (.cells #[.int .u64 (hiN n), .int .u64 (loN n)] 26)
  go_enter Try.func41, Try.ntmps41
  go_wp2
  go_ret
  exact ⟨rfl, hB⟩
set_option maxHeartbeats 1000000 in
theorem has_in (n i : Nat) (w : World) (hn : n < W128) (hi : i ≤ 127) : Calls Try.prog 41 #[.agg #[.int .u64 (hiN n), .int .u64 (loN n)], .int .i64 (i : Int)] w fun e w' => e = .returned (.bool (n.testBit i)) ∧ Below w.heap.size w w' := by
  have hz := (zero_of_info info_bits).1
  have hB := (Below.refl w.heap.size w).alloc (Nat.le_refl _) (.cells #[.int .u64 (hiN n), .int .u64 (loN n)] 26)
  go_enter Try.func41, Try.ntmps41
  go_wp2_with fail
  refine (rof_calls n hn _).mono ?_
  rintro e w1 ⟨rfl, hb1⟩
  have hB1 := hB.trans (hb1.mono hB.size)
  go_wp2_with (first | (refine wpList_store_row rfl 54 (.tmp 5) (.tmp 13) rfl w1.heap.size (bl n.testBit).toArray rfl rfl 54 _ (Arr.new w1 (bl fun _ => false) _) (by rw [bl_size]; exact size_bits) (by rw [bl_size, bl_size]) (bl_one _) ?_; rw [World.setRow_alloc_new]; have hA := Arr.new w1 (bl n.testBit) 54; have d0 := Arr_bl_cell hA i (by omega)))
  go_ret
  exact ⟨rfl, hB1.alloc hB1.size _⟩
theorem plummetref02_Has.calls (a0_0 : Int) (a0_1 : Int) (a1 : Int) (r : Bool) (w : World) (h : plummetref02_Has.f a0_0 a0_1 a1 = some r) :
    Calls Try.prog 41 #[.agg #[.int .u64 a0_0, .int .u64 a0_1], .int .i64 a1] w fun e w' => e = .returned (.bool r) ∧ Below w.heap.size w w' := by
  unfold plummetref02_Has.f at h
  split at h
  · rename_i hw
    obtain ⟨h1, h2, h3⟩ := wfW_N2 hw
    obtain rfl := Option.some.inj h
    generalize N2 a0_0 a0_1 = n at *
    subst h2 h3
    unfold hasN
    by_cases c0 : a1 < 0
    · rw [decide_eq_false (by omega)]
      exact has_low n a1 w c0
    · by_cases c1 : 127 < a1
      · rw [decide_eq_false (show ¬ a1 ≤ 127 by omega), Bool.false_and, Bool.and_false]
        exact has_high n a1 w (by omega) c1
      · rw [decide_eq_true (by omega), decide_eq_true (by omega), Bool.true_and, Bool.true_and]
        have := has_in n a1.toNat w h1 (by omega)
        rw [show ((a1.toNat : Nat) : Int) = a1 by omega] at this
        exact this
  · cases h
/-- The places of a word's bits, below some place. -/
def placesTo (n k : Nat) : List Int := ((List.range k).filter n.testBit).map fun j : Nat => (j : Int)
theorem placesTo_succ (n k : Nat) : placesTo n (k + 1) = if n.testBit k then placesTo n k ++ [(k : Int)] else placesTo n k := by
  unfold placesTo
  rw [List.range_succ, List.filter_append]
  cases h : n.testBit k <;> simp [h]
theorem placesTo_le (n k : Nat) : (placesTo n k).length ≤ k := by
  unfold placesTo
  rw [List.length_map]
  exact Nat.le_trans (List.length_filter_le _ _) (by simp)
def plummetref02_Places.f (hi lo : Int) : Option (List Int) := if wfW hi lo then some (placesTo (N2 hi lo) 128) else none
theorem info_int : (Try.prog.info? 3).map (fun i => (i.zero, i.size, i.bytes)) = some (some (.int .i64 0), 1, 8) := by kernel_rfl
set_option maxRecDepth 100000 in
set_option maxHeartbeats 2000000 in
theorem places_go (n : Nat) (w : World) (hn : n < W128) : Calls Try.prog 13 #[.agg #[.int .u64 (hiN n), .int .u64 (loN n)]] w fun e w' => ∃ v0_ : Value, e = .returned (v0_) ∧ Kd.R (Kd.int .i64) 3 w' w.heap.size (fun _ => True) v0_ (placesTo n 128) ∧ Below w.heap.size w w' := by
  have hz := (zero_of_info info_bits).1
  have hB := (Below.refl w.heap.size w).alloc (Nat.le_refl _) (.cells #[.int .u64 (hiN n), .int .u64 (loN n)] 26)
  go_enter Try.func13, Try.ntmps13
  go_wp2_with fail
  refine (rof_calls n hn _).mono ?_
  rintro e w1 ⟨rfl, hb1⟩
  have hB1 := hB.trans (hb1.mono hB.size)
  have hs1 : w.heap.size < w1.heap.size := by have := hb1.size; simp only [World.size_alloc] at this; omega
  go_wp2_with (first | (refine wpList_store_row rfl 54 (.tmp 3) (.tmp 7) rfl w1.heap.size (bl n.testBit).toArray rfl rfl 54 _ (Arr.new w1 (bl fun _ => false) _) (by rw [bl_size]; exact size_bits) (by rw [bl_size, bl_size]) (bl_one _) ?_; rw [World.setRow_alloc_new]))
  have A0 := arr_alloc (Arr.new w1 (bl n.testBit) 54) (.cells #[] 3)
  have O0 := Arr.new (w1.alloc (.cells (bl n.testBit).toArray 54)) [] 3
  simp only [World.size_alloc] at O0
  have R0 : Kd.R (Kd.int .i64) 3 ((w1.alloc (.cells (bl n.testBit).toArray 54)).alloc (.cells #[] 3)) w.heap.size (fun _ => True) (.slice (some ⟨w1.heap.size + 1, 0, none⟩) 0 0) (placesTo n 0) := R_ints [] O0 (by omega) (by simp)
  have B0 := (hB1.alloc hB1.size (.cells (bl n.testBit).toArray 54)).alloc (by simp only [World.size_alloc]; omega) (.cells #[] 3)
  clear hz hB hB1 O0
  go_loopg [4, 5] 128 (fun g v4 v5 wr => ∃ i : Nat, v5 = .int .i64 (i : Int) ∧ i + g = 128 ∧ Aside0 (Arr wr w1.heap.size (bl n.testBit) 54 ∧ Kd.R (Kd.int .i64) 3 wr w.heap.size (fun _ => True) v4 (placesTo n i) ∧ Below w.heap.size w wr))
  case atStart => exact ⟨0, rfl, rfl, ⟨A0, R0, B0⟩⟩
  case round =>
    clear A0 R0 B0
    obtain ⟨i, rfl, hi, HR⟩ := hrel
    by_cases hlt : i < 128
    · obtain ⟨g, rfl⟩ : ∃ g, gk = g + 1 := ⟨gk - 1, by omega⟩
      have d0 := Arr_bl_cell HR.out.1 i hlt
      have HS := Aside0.mk (placesTo_succ n i)
      have HL := Aside0.mk (placesTo_le n i)
      cases hb : n.testBit i with
      | true =>
        rw [hb] at d0
        have HS := Aside0.mk (HS.out.trans (by rw [hb]; rfl) : placesTo n (i + 1) = placesTo n i ++ [(i : Int)])
        clear hb
        go_wp2_with (at_builtin; refine Kd.R_append (Kd.int .i64) (w0 := w) w.heap.size rfl (.tmp 16) (.tmp 18) 31 3 (.int .i64 0) 8 rfl Try.underlying31 info_int rfl (by decide) (by omega) _ (placesTo n i) (i : Int) [.int .i64 (i : Int)] (fun _ => True) (fun _ => False) rfl rfl ?aP (fun _ hk => hk.elim) ?aF ?aO ?aB ?aS ?aL ?_; (case aP => exact rfl); (case aB => exact HR.out.2.2); (case aF => exact (fun _ _ => trivial)); (case aO => exact HR.out.2.1); (case aS => exact HR.out.2.2.size); (case aL => have := HL.out; omega); intro v1 w2 ho hb1 hg hat; have HZ := Aside0.mk (And.intro (blk_grown HR.out.1 hg (Kd.R_ne HR.out.2.1 HR.out.1 (by decide))) (And.intro ho hb1)); clear ho hb1 hg hat)
        go_roundg g
        case measure => omega
        case rel => exact ⟨i + 1, by go_num, by omega, ⟨HZ.out.1, by rw [HS.out]; exact HZ.out.2.1, HZ.out.2.2⟩⟩
      | false =>
        rw [hb] at d0
        have HS := Aside0.mk (HS.out.trans (by rw [hb]; rfl) : placesTo n (i + 1) = placesTo n i)
        clear hb
        go_wp2
        go_roundg g
        case measure => omega
        case rel => exact ⟨i + 1, by go_num, by omega, ⟨HR.out.1, by rw [HS.out]; exact HR.out.2.1, HR.out.2.2⟩⟩
    · obtain rfl : gk = 0 := by omega
      obtain rfl : i = 128 := by omega
      go_wp2
      go_ret
      exact ⟨_, rfl, HR.out.2⟩
theorem plummetref02_Places.calls (a0_0 : Int) (a0_1 : Int) (r : List Int) (w : World) (h : plummetref02_Places.f a0_0 a0_1 = some r) :
    Calls Try.prog 13 #[.agg #[.int .u64 a0_0, .int .u64 a0_1]] w fun e w' => ∃ v0_ : Value, e = .returned (v0_) ∧ Kd.R (Kd.int .i64) 3 w' w.heap.size (fun _ => True) v0_ r ∧ Below w.heap.size w w' := by
  unfold plummetref02_Places.f at h
  split at h
  · rename_i hw
    obtain ⟨h1, h2, h3⟩ := wfW_N2 hw
    obtain rfl := Option.some.inj h
    generalize N2 a0_0 a0_1 = n at *
    subst h2 h3
    exact places_go n w h1
  · cases h
end Go.Proofs.Ytnenmiaeomcdpaa.Given
