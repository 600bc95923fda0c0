/-
  What the closures of bits.ways answer; conditions: the bounds that each says.
-/
import Derived.Test.YtnenmiaeomcdpaaBitsW
import Derived.Deep.RegionHeld3
import Derived.Deep.DrawnRows
namespace Go.Proofs.Ytnenmiaeomcdpaa.Given
open Go.RowKit Go.Proofs.YtnenmiaeomcdpaaW.PrintWords Go.Proofs.Ytnenmiaeomcdpaa.Base Go.Proofs.Ytnenmiaeomcdpaa.KW Go.Proofs.Ytnenmiaeomcdpaa.KB
set_option linter.unusedVariables false
set_option linter.unusedSimpArgs false

/-- The cells that a closure has captured. -/
def Cap (W : World) (p q : Nat) (x d : Nat) : Prop := W.cell? ⟨p, 0, none⟩ = some (.int .u64 (hiN x)) ∧ W.cell? ⟨p, 1, none⟩ = some (.int .u64 (loN x)) ∧ W.cell? ⟨q, 0, none⟩ = some (.int .i64 (d : Int))
theorem Cap.below {W W' : World} {p q x d : Nat} (h : Cap W p q x d) (hb : Below W.heap.size W W') : Cap W' p q x d := ⟨pw_cell_below hb h.1, pw_cell_below hb h.2.1, pw_cell_below hb h.2.2⟩
theorem Cap.alloc {W : World} {p q x d : Nat} (h : Cap W p q x d) (o : Obj) : Cap (W.alloc o) p q x d := h.below ((Below.refl _ _).alloc (Nat.le_refl _) _)
set_option maxHeartbeats 1000000 in
theorem ways1_c (x d : Nat) (s : Int) (hs : s = -3 ∨ s = -2 ∨ s = -1 ∨ s = 0 ∨ s = 1 ∨ s = 2 ∨ s = 3) (hx : x < W128) (hd : d ≤ 100) (p q : Nat) (w : World) (hc : Cap w p q x d) :
    Calls Try.prog 51 #[.int .i64 s, .pointer (some ⟨p, 0, none⟩), .pointer (some ⟨q, 0, none⟩)] w fun e w' => e = .returned (.agg #[.int .u64 (hiN (mvN x d s)), .int .u64 (loN (mvN x d s))]) ∧ Below w.heap.size w w' := by
  obtain ⟨c0, c1, c2⟩ := hc.alloc (.cells #[.int .u64 0, .int .u64 0] 26)
  have n0 := World.new_ne w _ hc.1
  have n1 := World.new_ne w _ hc.2.1
  have n2 := World.new_ne w _ hc.2.2
  obtain ⟨d0, d1, d2⟩ := hc
  rcases hs with rfl | rfl | rfl | rfl | rfl | rfl | rfl
  · have hm : mvN x d (-3) = downN x (3 * d) := by unfold mvN; simp
    rw [hm]
    clear hm
    go_enter Try.func51, Try.ntmps51
    go_wp2_with fail
    rw [show ((3 : Int) * (d : Int)) = ((3 * d : Nat) : Int) by omega]
    refine (down_c x (3 * d) hx (by omega) _).mono ?_
    rintro e w1 ⟨rfl, hb⟩
    have hB := ((Below.refl _ w).alloc (Nat.le_refl _) (.cells #[.int .u64 0, .int .u64 0] 26)).trans (hb.mono (by simp))
    have hR : Arr w1 w.heap.size [.int .u64 0, .int .u64 0] 26 := (Arr.new w _ _).below hb (by simp)
    obtain ⟨e0, e1, g0, g1⟩ := two_facts hR
    go_wp2
    exact bodyPost_ret (v := .agg #[.int .u64 (hiN (downN x (3 * d))), .int .u64 (loN (downN x (3 * d)))]) (by simp [results, Try.results51, go_sem, e0, e1]) rfl ⟨rfl, (hB.setCell (Nat.le_refl _) _).setCell (Nat.le_refl _) _⟩
  · have hm : mvN x d (-2) = downN x (2 * d) := by unfold mvN; simp
    rw [hm]
    clear hm
    go_enter Try.func51, Try.ntmps51
    go_wp2_with fail
    rw [show ((2 : Int) * (d : Int)) = ((2 * d : Nat) : Int) by omega]
    refine (down_c x (2 * d) hx (by omega) _).mono ?_
    rintro e w1 ⟨rfl, hb⟩
    have hB := ((Below.refl _ w).alloc (Nat.le_refl _) (.cells #[.int .u64 0, .int .u64 0] 26)).trans (hb.mono (by simp))
    have hR : Arr w1 w.heap.size [.int .u64 0, .int .u64 0] 26 := (Arr.new w _ _).below hb (by simp)
    obtain ⟨e0, e1, g0, g1⟩ := two_facts hR
    go_wp2
    exact bodyPost_ret (v := .agg #[.int .u64 (hiN (downN x (2 * d))), .int .u64 (loN (downN x (2 * d)))]) (by simp [results, Try.results51, go_sem, e0, e1]) rfl ⟨rfl, (hB.setCell (Nat.le_refl _) _).setCell (Nat.le_refl _) _⟩
  · have hm : mvN x d (-1) = downN x d := by unfold mvN; simp
    rw [hm]
    clear hm
    go_enter Try.func51, Try.ntmps51
    go_wp2_with fail
    refine (down_c x d hx (by omega) _).mono ?_
    rintro e w1 ⟨rfl, hb⟩
    have hB := ((Below.refl _ w).alloc (Nat.le_refl _) (.cells #[.int .u64 0, .int .u64 0] 26)).trans (hb.mono (by simp))
    have hR : Arr w1 w.heap.size [.int .u64 0, .int .u64 0] 26 := (Arr.new w _ _).below hb (by simp)
    obtain ⟨e0, e1, g0, g1⟩ := two_facts hR
    go_wp2
    exact bodyPost_ret (v := .agg #[.int .u64 (hiN (downN x d)), .int .u64 (loN (downN x d))]) (by simp [results, Try.results51, go_sem, e0, e1]) rfl ⟨rfl, (hB.setCell (Nat.le_refl _) _).setCell (Nat.le_refl _) _⟩
  · have hm : mvN x d 0 = upN x 0 := by unfold mvN; simp
    rw [hm]
    clear hm
    go_enter Try.func51, Try.ntmps51
    go_wp2_with fail
    refine (up_c x 0 hx (by omega) _).mono ?_
    rintro e w1 ⟨rfl, hb⟩
    have hB := ((Below.refl _ w).alloc (Nat.le_refl _) (.cells #[.int .u64 0, .int .u64 0] 26)).trans (hb.mono (by simp))
    have hR : Arr w1 w.heap.size [.int .u64 0, .int .u64 0] 26 := (Arr.new w _ _).below hb (by simp)
    obtain ⟨e0, e1, g0, g1⟩ := two_facts hR
    go_wp2
    exact bodyPost_ret (v := .agg #[.int .u64 (hiN (upN x 0)), .int .u64 (loN (upN x 0))]) (by simp [results, Try.results51, go_sem, e0, e1]) rfl ⟨rfl, (hB.setCell (Nat.le_refl _) _).setCell (Nat.le_refl _) _⟩
  · have hm : mvN x d 1 = upN x d := by unfold mvN; simp
    rw [hm]
    clear hm
    go_enter Try.func51, Try.ntmps51
    go_wp2_with fail
    refine (up_c x d hx (by omega) _).mono ?_
    rintro e w1 ⟨rfl, hb⟩
    have hB := ((Below.refl _ w).alloc (Nat.le_refl _) (.cells #[.int .u64 0, .int .u64 0] 26)).trans (hb.mono (by simp))
    have hR : Arr w1 w.heap.size [.int .u64 0, .int .u64 0] 26 := (Arr.new w _ _).below hb (by simp)
    obtain ⟨e0, e1, g0, g1⟩ := two_facts hR
    go_wp2
    exact bodyPost_ret (v := .agg #[.int .u64 (hiN (upN x d)), .int .u64 (loN (upN x d))]) (by simp [results, Try.results51, go_sem, e0, e1]) rfl ⟨rfl, (hB.setCell (Nat.le_refl _) _).setCell (Nat.le_refl _) _⟩
  · have hm : mvN x d 2 = upN x (2 * d) := by unfold mvN; simp
    rw [hm]
    clear hm
    go_enter Try.func51, Try.ntmps51
    go_wp2_with fail
    rw [show ((2 : Int) * (d : Int)) = ((2 * d : Nat) : Int) by omega]
    refine (up_c x (2 * d) hx (by omega) _).mono ?_
    rintro e w1 ⟨rfl, hb⟩
    have hB := ((Below.refl _ w).alloc (Nat.le_refl _) (.cells #[.int .u64 0, .int .u64 0] 26)).trans (hb.mono (by simp))
    have hR : Arr w1 w.heap.size [.int .u64 0, .int .u64 0] 26 := (Arr.new w _ _).below hb (by simp)
    obtain ⟨e0, e1, g0, g1⟩ := two_facts hR
    go_wp2
    exact bodyPost_ret (v := .agg #[.int .u64 (hiN (upN x (2 * d))), .int .u64 (loN (upN x (2 * d)))]) (by simp [results, Try.results51, go_sem, e0, e1]) rfl ⟨rfl, (hB.setCell (Nat.le_refl _) _).setCell (Nat.le_refl _) _⟩
  · have hm : mvN x d 3 = upN x (3 * d) := by unfold mvN; simp
    rw [hm]
    clear hm
    go_enter Try.func51, Try.ntmps51
    go_wp2_with fail
    rw [show ((3 : Int) * (d : Int)) = ((3 * d : Nat) : Int) by omega]
    refine (up_c x (3 * d) hx (by omega) _).mono ?_
    rintro e w1 ⟨rfl, hb⟩
    have hB := ((Below.refl _ w).alloc (Nat.le_refl _) (.cells #[.int .u64 0, .int .u64 0] 26)).trans (hb.mono (by simp))
    have hR : Arr w1 w.heap.size [.int .u64 0, .int .u64 0] 26 := (Arr.new w _ _).below hb (by simp)
    obtain ⟨e0, e1, g0, g1⟩ := two_facts hR
    go_wp2
    exact bodyPost_ret (v := .agg #[.int .u64 (hiN (upN x (3 * d))), .int .u64 (loN (upN x (3 * d)))]) (by simp [results, Try.results51, go_sem, e0, e1]) rfl ⟨rfl, (hB.setCell (Nat.le_refl _) _).setCell (Nat.le_refl _) _⟩
end Go.Proofs.Ytnenmiaeomcdpaa.Given
