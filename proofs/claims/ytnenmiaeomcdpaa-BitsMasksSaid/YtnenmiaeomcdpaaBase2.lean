/-
  Small words for walks by hand: blocks of two cells, blocks kept over new ones.
-/
import Derived.Test.YtnenmiaeomcdpaaBase
namespace Go.Proofs.Ytnenmiaeomcdpaa.Given
open Go.RowKit Go.Proofs.YtnenmiaeomcdpaaW.PrintWords Go.Proofs.Ytnenmiaeomcdpaa.Base

theorem arr_alloc {w : World} {b : Nat} {xs : List Value} {t : TypeId} (h : Arr w b xs t) (o : Obj) : Arr (w.alloc o) b xs t := blk_alloc h o
theorem arr_far {w : World} {b : Nat} {xs : List Value} {t : TypeId} (h : Arr w b xs t) {p : Addr} (hp : b ≠ p.block) (u : Value) : Arr (w.setCell p u) b xs t := blk_far h hp u
theorem ctwo0 {w : World} {b : Nat} {x y : Value} {t : TypeId} (h : Arr w b [x, y] t) : w.cell? ⟨b, 0, none⟩ = some x := h.cell 0 (by simp)
theorem ctwo1 {w : World} {b : Nat} {x y : Value} {t : TypeId} (h : Arr w b [x, y] t) : w.cell? ⟨b, 1, none⟩ = some y := h.cell 1 (by simp)
theorem two_facts {w : World} {b : Nat} {x y : Value} {t : TypeId} (h : Arr w b [x, y] t) : w.cell? ⟨b, 0, none⟩ = some x ∧ w.cell? ⟨b, 1, none⟩ = some y ∧ w.frozen? ⟨b, 0, none⟩ = false ∧ w.frozen? ⟨b, 1, none⟩ = false :=
  ⟨ctwo0 h, ctwo1 h, h.free 0, h.free 1⟩
/-- Two blocks of two cells, both kept. -/
theorem arr_two {w w1 w2 : World} {x y u v : Value} {t : TypeId} (e : w1 = (w.alloc (.cells #[x, y] t)).alloc (.cells #[u, v] t)) (hb : Below w1.heap.size w1 w2) :
    Arr w2 w.heap.size [x, y] t ∧ Arr w2 (w.heap.size + 1) [u, v] t ∧ Below w.heap.size w w2 ∧ w.heap.size + 1 < w2.heap.size := by
  subst e
  have h1 : Arr ((w.alloc (.cells #[x, y] t)).alloc (.cells #[u, v] t)) w.heap.size [x, y] t := arr_alloc (Arr.new w _ _) _
  have h2 : Arr ((w.alloc (.cells #[x, y] t)).alloc (.cells #[u, v] t)) (w.heap.size + 1) [u, v] t := by
    have := Arr.new (w.alloc (.cells #[x, y] t)) [u, v] t; simpa using this
  refine ⟨h1.below hb (by simp; omega), h2.below hb (by simp), (((Below.refl _ w).alloc (Nat.le_refl _) _).alloc (by simp) _).trans (hb.mono (by simp; omega)), ?_⟩
  have := hb.size; simp at this; omega
theorem arr_three {w w1 w2 : World} {x y u v p q : Value} {t : TypeId} (e : w1 = ((w.alloc (.cells #[x, y] t)).alloc (.cells #[u, v] t)).alloc (.cells #[p, q] t)) (hb : Below w1.heap.size w1 w2) :
    Arr w2 w.heap.size [x, y] t ∧ Arr w2 (w.heap.size + 1) [u, v] t ∧ Arr w2 (w.heap.size + 1 + 1) [p, q] t ∧ Below w.heap.size w w2 ∧ w.heap.size + 1 + 1 < w2.heap.size := by
  have h0 := arr_two (w := w) (x := x) (y := y) (u := u) (v := v) (t := t) rfl (Below.refl _ _)
  have h3 : Arr w1 (w.heap.size + 1 + 1) [p, q] t := by
    subst e
    have := Arr.new ((w.alloc (.cells #[x, y] t)).alloc (.cells #[u, v] t)) [p, q] t; simpa using this
  subst e
  have hs := hb.size
  simp at hs
  exact ⟨(arr_alloc h0.1 _).below hb (by simp; omega), (arr_alloc h0.2.1 _).below hb (by simp), h3.below hb (by simp), (h0.2.2.1.alloc (by have := h0.2.2.1.size; omega) _).trans (hb.mono (by simp; omega)), by omega⟩
end Go.Proofs.Ytnenmiaeomcdpaa.Given
