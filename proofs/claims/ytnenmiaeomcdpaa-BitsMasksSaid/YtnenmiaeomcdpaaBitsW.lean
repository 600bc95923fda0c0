/-
  What the functions on words answer where the bits' closures call them, over numbers of 128 bits; conditions: the bounds that each says.
-/
import Derived.Test.YtnenmiaeomcdpaaPW
import Derived.Test.YtnenmiaeomcdpaaKSx
import Derived.Test.YtnenmiaeomcdpaaBase2
namespace Go.Proofs.Ytnenmiaeomcdpaa.Given
open Go.RowKit Go.Proofs.YtnenmiaeomcdpaaW.PrintWords Go.Proofs.Ytnenmiaeomcdpaa.Base Go.Proofs.Ytnenmiaeomcdpaa.KW Go.Proofs.Ytnenmiaeomcdpaa.KB
set_option linter.unusedVariables false
set_option linter.unusedSimpArgs false

abbrev WS := S26
def ws (n : Nat) : WS := ⟨hiN n, loN n⟩
theorem and_c (a b : Nat) (ha : a < W128) (hb : b < W128) (w : World) : Calls Try.prog 39 #[.agg #[.int .u64 (hiN a), .int .u64 (loN a)], .agg #[.int .u64 (hiN b), .int .u64 (loN b)]] w fun e w' => e = .returned (.agg #[.int .u64 (hiN (a &&& b)), .int .u64 (loN (a &&& b))]) ∧ Below w.heap.size w w' :=
  KW.wide_And.calls _ _ _ _ _ _ w (wAnd a b ha hb)
theorem or_c (a b : Nat) (ha : a < W128) (hb : b < W128) (w : World) : Calls Try.prog 14 #[.agg #[.int .u64 (hiN a), .int .u64 (loN a)], .agg #[.int .u64 (hiN b), .int .u64 (loN b)]] w fun e w' => e = .returned (.agg #[.int .u64 (hiN (a ||| b)), .int .u64 (loN (a ||| b))]) ∧ Below w.heap.size w w' :=
  KW.wide_Or.calls _ _ _ _ _ _ w (wOr a b ha hb)
theorem up_c (a n : Nat) (ha : a < W128) (hn : n ≤ 1000) (w : World) : Calls Try.prog 45 #[.agg #[.int .u64 (hiN a), .int .u64 (loN a)], .int .i64 (n : Int)] w fun e w' => e = .returned (.agg #[.int .u64 (hiN (upN a n)), .int .u64 (loN (upN a n))]) ∧ Below w.heap.size w w' :=
  KW.wide_Up.calls _ _ _ _ _ w (wUp a n ha hn)
theorem down_c (a n : Nat) (ha : a < W128) (hn : n ≤ 1000) (w : World) : Calls Try.prog 46 #[.agg #[.int .u64 (hiN a), .int .u64 (loN a)], .int .i64 (n : Int)] w fun e w' => e = .returned (.agg #[.int .u64 (hiN (downN a n)), .int .u64 (loN (downN a n))]) ∧ Below w.heap.size w w' :=
  KW.wide_Down.calls _ _ _ _ _ w (wDown a n ha hn)
theorem C_one {w : World} {b : Nat} {t : TypeId} (x : Nat) (h : Arr w b [.int .u64 (hiN x), .int .u64 (loN x)] t) : Kd.C k26 w (some ⟨b, 0, none⟩) 1 [ws x] := by
  refine ⟨rfl, by omega, fun _ => ⟨_, rfl, fun j p hj => ?_⟩⟩
  have hj1 : j < 1 := by have := (List.getElem?_eq_some_iff.1 hj).1; simpa using this
  obtain rfl : j = 0 := by omega
  obtain rfl : ws x = p := by simpa using hj
  refine ⟨_, rfl, k26_mk _ _, fun i u hu => ?_⟩
  rw [add_plain, show Kd.sz k26 = 2 from rfl]
  have hi : i < 2 := by have := (List.getElem?_eq_some_iff.1 hu).1; simpa using this
  have e : i = 0 ∨ i = 1 := by omega
  rcases e with rfl | rfl
  · rw [h.cell _ (by simp)]; exact hu
  · rw [h.cell _ (by simp)]; exact hu
theorem C_three {w : World} {b : Nat} {t : TypeId} (x y z : Nat) (h : Arr w b [.int .u64 (hiN x), .int .u64 (loN x), .int .u64 (hiN y), .int .u64 (loN y), .int .u64 (hiN z), .int .u64 (loN z)] t) : Kd.C k26 w (some ⟨b, 0, none⟩) 3 [ws x, ws y, ws z] := by
  refine ⟨rfl, by omega, fun _ => ⟨_, rfl, fun j p hj => ?_⟩⟩
  have hj1 : j < 3 := by have := (List.getElem?_eq_some_iff.1 hj).1; simpa using this
  have ej : j = 0 ∨ j = 1 ∨ j = 2 := by omega
  rcases ej with rfl | rfl | rfl
  all_goals
    have hp := Option.some.inj hj
    subst hp
    refine ⟨_, rfl, k26_mk _ _, fun i u hu => ?_⟩
    rw [add_plain, show Kd.sz k26 = 2 from rfl]
    have hi : i < 2 := by have := (List.getElem?_eq_some_iff.1 hu).1; simpa using this
    have e : i = 0 ∨ i = 1 := by omega
    rcases e with rfl | rfl
    · rw [h.cell _ (by simp)]; exact hu
    · rw [h.cell _ (by simp)]; exact hu
theorem C_four {w : World} {b : Nat} {t : TypeId} (x y z v : Nat) (h : Arr w b [.int .u64 (hiN x), .int .u64 (loN x), .int .u64 (hiN y), .int .u64 (loN y), .int .u64 (hiN z), .int .u64 (loN z), .int .u64 (hiN v), .int .u64 (loN v)] t) : Kd.C k26 w (some ⟨b, 0, none⟩) 4 [ws x, ws y, ws z, ws v] := by
  refine ⟨rfl, by omega, fun _ => ⟨_, rfl, fun j p hj => ?_⟩⟩
  have hj1 : j < 4 := by have := (List.getElem?_eq_some_iff.1 hj).1; simpa using this
  have ej : j = 0 ∨ j = 1 ∨ j = 2 ∨ j = 3 := by omega
  rcases ej with rfl | rfl | rfl | rfl
  all_goals
    have hp := Option.some.inj hj
    subst hp
    refine ⟨_, rfl, k26_mk _ _, fun i u hu => ?_⟩
    rw [add_plain, show Kd.sz k26 = 2 from rfl]
    have hi : i < 2 := by have := (List.getElem?_eq_some_iff.1 hu).1; simpa using this
    have e : i = 0 ∨ i = 1 := by omega
    rcases e with rfl | rfl
    · rw [h.cell _ (by simp)]; exact hu
    · rw [h.cell _ (by simp)]; exact hu
/-- What is in each of some words. -/
def allN (x : Nat) (l : List Nat) : Nat := l.foldl (· &&& ·) x
theorem allN_lt (x : Nat) (l : List Nat) (h : x < W128) : allN x l < W128 := by
  induction l generalizing x with
  | nil => exact h
  | cons a l ih => exact ih (x &&& a) (and_lt _ _ h)
theorem all_go (l : List Nat) (hl : ∀ x ∈ l, x < W128) (hn : l.length ≤ 1000) (g : Nat) : ∀ (i x : Nat), i + g = l.length → x < W128 → Ev (fun k => bits_all.l0 k (l.map ws) (l.length : Int) i (hiN x) (loN x)) (hiN (allN x (l.drop i)), loN (allN x (l.drop i))) := by
  induction g with
  | zero =>
    intro i x hi hx
    rw [List.drop_of_length_le (by omega)]
    refine Ev.step (f := fun _ => some (hiN x, loN x)) (fun k => ?_) (Ev.now _)
    simp only [bits_all.l0]; rw [if_neg (by omega)]
  | succ g ih =>
    intro i x hi hx
    have hlt : i < l.length := by omega
    have hm := hl _ (List.getElem_mem hlt)
    rw [List.drop_eq_getElem_cons hlt]
    refine Ev.step (fun k => ?_) (ih (i + 1) (x &&& l[i]) (by omega) (and_lt _ _ hx))
    simp only [bits_all.l0]
    have hr : rd_T26 (l.map ws) (i : Int) = ws l[i] := by simp [rd_T26, hlt]
    rw [if_pos (by omega), if_pos (by omega), if_pos (by rw [List.length_map]; omega), hr]
    unfold ws
    dsimp only
    rw [wAnd _ _ hx hm]
    simp only [Option.bind_some]
    rw [show wrap64 ((i : Int) + 1) = ((i + 1 : Nat) : Int) by unfold wrap64; omega]
theorem all_c (x : Nat) (l : List Nat) (hx : x < W128) (hl : ∀ y ∈ l, y < W128) (hn : l.length ≤ 1000) (w : World) (b : Nat) (hC : Kd.C k26 w (some ⟨b, 0, none⟩) l.length (l.map ws)) :
    Calls Try.prog 31 #[.agg #[.int .u64 (hiN x), .int .u64 (loN x)], .slice (some ⟨b, 0, none⟩) l.length l.length] w fun e w' => e = .returned (.agg #[.int .u64 (hiN (allN x l)), .int .u64 (loN (allN x l))]) ∧ Below w.heap.size w w' := by
  have h := all_go l hl hn l.length 0 x (by omega) hx
  rw [List.drop_zero] at h
  obtain ⟨k, hk⟩ := h.rounds
  have hlen : (l.map ws).length = l.length := by simp
  have := bits_all.calls k (hiN x) (loN x) (some ⟨b, 0, none⟩) l.length (l.map ws) _ _ w (by rw [hlen]; exact hC) (by rw [hlen]; exact Nat.le_refl _) (by unfold bits_all.f; rw [hlen]; exact hk)
  rw [hlen] at this
  exact this
/-- Moved by so many steps. -/
def mvN (x d : Nat) (s : Int) : Nat := if s < 0 then downN x ((-s).toNat * d) else upN x (s.toNat * d)
theorem mvN_lt (x d : Nat) (s : Int) (h : x < W128) : mvN x d s < W128 := by
  unfold mvN; split
  · exact downN_lt _ _ h
  · exact upN_lt _ _
end Go.Proofs.Ytnenmiaeomcdpaa.Given
