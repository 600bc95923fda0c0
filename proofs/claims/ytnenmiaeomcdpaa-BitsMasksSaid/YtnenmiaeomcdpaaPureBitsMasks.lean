/-
  The pure statement of the law BitsMasks: facts of the masks and the reference's Cells and Tops; conditions: none.
-/
import Derived.Test.YtnenmiaeomcdpaaKMx
import Derived.Test.YtnenmiaeomcdpaaPQ
namespace Go.Proofs.Ytnenmiaeomcdpaa.KM
open Go.RowKit Go.Proofs.YtnenmiaeomcdpaaW.PrintWords Go.Proofs.Ytnenmiaeomcdpaa.Given Go.Proofs.Ytnenmiaeomcdpaa.KB Go.Proofs.Ytnenmiaeomcdpaa.KW Go.Proofs.Ytnenmiaeomcdpaa.KS
set_option linter.unusedVariables false
set_option linter.unusedSimpArgs false

def pickB (x y : Int) (c : C25) : Bool := (decide (x < 0) || decide (c.f0 = x)) && (decide (y < 0) || decide (c.f1 = y))
theorem rd_get (l : List C25) (i : Nat) (hi : i < l.length) : rd_T49 l (i : Int) = l[i] := by
  unfold rd_T49
  rw [Int.toNat_natCast, List.getD_eq_getElem?_getD, List.getElem?_eq_getElem hi]; rfl
theorem cells_go (w h : Nat) (hb : w ≤ 8 ∧ h ≤ 8) (x y : Int) (l : List C25) (hl : l.length ≤ 1000) (hc : ∀ c ∈ l, 0 ≤ c.f0 ∧ c.f0 ≤ 100 ∧ 0 ≤ c.f1 ∧ c.f1 ≤ 100) (d : Nat) : ∀ (i : Nat) (acc : List C25), i + d = l.length → acc.length ≤ i → acc ++ (l.drop i).filter (pickB x y) = l.filter (pickB x y) →
    Ev (fun k => plummetref09_Cells.l0 k x y acc l i w h) (hiN (atN ((l.filter (pickB x y)).map (plc h))), loN (atN ((l.filter (pickB x y)).map (plc h)))) := by
  induction d with
  | zero =>
    intro i acc hi ha he
    rw [List.drop_of_length_le (by omega), List.filter_nil, List.append_nil] at he
    subst he
    have hs := rset w h (by omega) (l.filter (pickB x y)) (by have := List.length_filter_le (pickB x y) l; omega) (fun c hcm => hc c (List.mem_filter.1 hcm).1)
    refine Ev.step (fun k => ?_) hs
    simp only [plummetref09_Cells.l0]
    rw [if_neg (by omega)]
    cases plummetref09_Set.f k w h (l.filter (pickB x y)) <;> rfl
  | succ d ih =>
    intro i acc hi ha he
    have hi' : i < l.length := by omega
    rw [List.drop_eq_getElem_cons hi', List.filter_cons] at he
    cases hB : pickB x y l[i] with
    | true =>
      rw [hB, if_pos rfl, List.append_cons] at he
      refine Ev.step (fun k => ?_) (ih (i + 1) (acc ++ [l[i]]) (by omega) (by simp; omega) he)
      simp only [plummetref09_Cells.l0]
      rw [if_pos (by omega), rd_get l i hi', wsucc i (by omega)]
      unfold pickB at hB
      simp only [Bool.and_eq_true, Bool.or_eq_true, decide_eq_true_eq] at hB
      have hL : acc.length < 8796093022208 := by omega
      have h0 : (0 : Int) ≤ (i : Int) := by omega
      generalize l[i] = c at hB ⊢
      obtain ⟨u, v⟩ := c
      simp only [] at hB ⊢
      rcases hB with ⟨h1 | h1, h2 | h2⟩
      · simp [h1, h2, hL, h0]
      · by_cases h3 : y < 0 <;> simp [h1, h2, h3, hL, h0]
      · by_cases h3 : x < 0 <;> simp [h1, h2, h3, hL, h0]
      · by_cases h3 : x < 0 <;> by_cases h4 : y < 0 <;> simp [h1, h2, h3, h4, hL, h0]
    | false =>
      rw [hB, if_neg (by simp)] at he
      refine Ev.step (fun k => ?_) (ih (i + 1) acc (by omega) (by omega) he)
      simp only [plummetref09_Cells.l0]
      rw [if_pos (by omega), rd_get l i hi', wsucc i (by omega)]
      unfold pickB at hB
      have h0 : (0 : Int) ≤ (i : Int) := by omega
      generalize l[i] = c at hB ⊢
      obtain ⟨u, v⟩ := c
      simp only [] at hB ⊢
      by_cases h1 : x < 0 <;> by_cases h2 : y < 0 <;> by_cases h3 : u = x <;> by_cases h4 : v = y <;> simp [h1, h2, h3, h4, h0] at hB ⊢
def pickW (w h : Nat) (x y : Int) : Nat := cellW w h fun X Y => (decide (x < 0) || decide ((X : Int) = x)) && (decide (y < 0) || decide ((Y : Int) = y))
theorem rcellsW (w h : Nat) (hm : mayB w h = true) (x y : Int) : Ev (fun k => plummetref09_Cells.f k w h x y) (hiN (pickW w h x y), loN (pickW w h x y)) := by
  have hb : (4 ≤ w ∧ w ≤ 8) ∧ (4 ≤ h ∧ h ≤ 8) := by simp only [mayB, decide_eq_true_eq] at hm; omega
  have hin : ∀ c ∈ cellsTo h (w * h), 0 ≤ c.f0 ∧ c.f0 ≤ 100 ∧ 0 ≤ c.f1 ∧ c.f1 ≤ 100 := by
    intro c hc
    obtain ⟨X, Y, rfl, hX, hY⟩ := (cellsTo_mem w h c (by omega)).1 hc
    simp only []
    omega
  have := cells_go w h ⟨hb.1.2, hb.2.2⟩ x y (cellsTo h (w * h)) (by rw [cellsTo_length]; have := mul_bd w h 8 8 hb.1.2 hb.2.2; omega) hin (w * h) 0 [] (by rw [cellsTo_length]; omega) (by simp) (by simp)
  rw [atN_cells w h hb.1.2 hb.2.2 _ (fun X Y => (decide (x < 0) || decide ((X : Int) = x)) && (decide (y < 0) || decide ((Y : Int) = y))) (fun c => by
    rw [List.mem_filter, cellsTo_mem w h c (by omega)]
    constructor
    · rintro ⟨⟨X, Y, rfl, hX, hY⟩, hP⟩
      exact ⟨X, Y, rfl, hX, hY, hP⟩
    · rintro ⟨X, Y, rfl, hX, hY, hP⟩
      exact ⟨⟨X, Y, rfl, hX, hY⟩, hP⟩)] at this
  unfold plummetref09_Cells.f
  exact Ev.bind (rcells w h hm) this
theorem rcellsW_no (a b x y : Int) (hm : mayB a b = false) : Ev (fun k => plummetref09_Cells.f k a b x y) (0, 0) := by
  unfold plummetref09_Cells.f
  refine Ev.bind (rcells_no a b hm) ?_
  refine Ev.step (fun k => ?_) (rset_nil a b)
  simp only [plummetref09_Cells.l0]
  rw [if_neg (by simp)]
  cases plummetref09_Set.f k a b [] <;> rfl
theorem pickW_full (w h : Nat) : pickW w h (-1) (-1) = fullN w h := by rw [full_cellW]; unfold pickW; simp
theorem pickW_far (w h : Nat) (x : Int) (hx : (w : Int) ≤ x) : pickW w h x (-1) = 0 := by
  refine word_ext _ _ (cellW_lt _ _ _) (by decide) fun j hj => ?_
  unfold pickW
  rw [cellW_tb, Nat.zero_testBit]
  by_cases h1 : j / (h + 1) < w ∧ j % (h + 1) < h
  · rw [decide_eq_false (show ¬ x < 0 by omega), decide_eq_false (show ¬ ((j / (h + 1) : Nat) : Int) = x by have := h1.1; generalize j / (h + 1) = q at *; omega)]
    simp
  · rw [decide_eq_false h1]; simp
theorem pickW_high (w h : Nat) (y : Int) (hy : (h : Int) ≤ y) : pickW w h (-1) y = 0 := by
  refine word_ext _ _ (cellW_lt _ _ _) (by decide) fun j hj => ?_
  unfold pickW
  rw [cellW_tb, Nat.zero_testBit]
  by_cases h1 : j / (h + 1) < w ∧ j % (h + 1) < h
  · rw [decide_eq_false (show ¬ y < 0 by omega), decide_eq_false (show ¬ ((j % (h + 1) : Nat) : Int) = y by have := h1.2; generalize j % (h + 1) = q at *; omega)]
    simp
  · rw [decide_eq_false h1]; simp
/-! ### All boards, computed -/
def topW (w h : Nat) : Nat := nb128 fun j => decide (j / (h + 1) < w ∧ j % (h + 1) = h)
abbrev i4 (n : Fin 5) : Int := ((n.val + 4 : Nat) : Int)
set_option maxRecDepth 100000 in
theorem tops_all : ∀ w h : Fin 5, bits_Tops.f 100 (i4 w) (i4 h) = some (hiN (topW (w.val + 4) (h.val + 4)), loN (topW (w.val + 4) (h.val + 4))) ∧ plummetref09_Tops.f 100 (i4 w) (i4 h) = some (hiN (topW (w.val + 4) (h.val + 4)), loN (topW (w.val + 4) (h.val + 4))) ∧ bits_Bottom.f 100 (i4 w) (i4 h) = some (hiN (pickW (w.val + 4) (h.val + 4) (-1) 0), loN (pickW (w.val + 4) (h.val + 4) (-1) 0)) := by decide +kernel
set_option maxRecDepth 100000 in
theorem col_all : ∀ w h : Fin 5, ∀ x : Fin 8, x.val < w.val + 4 → bits_Column.f 100 (i4 w) (i4 h) (x.val : Int) = some (hiN (pickW (w.val + 4) (h.val + 4) (x.val : Int) (-1)), loN (pickW (w.val + 4) (h.val + 4) (x.val : Int) (-1))) := by decide +kernel
set_option maxRecDepth 100000 in
theorem row_all : ∀ w h : Fin 5, ∀ y : Fin 9, y.val ≤ h.val + 4 → bits_Row.f 100 (i4 w) (i4 h) (y.val : Int) = some (hiN (pickW (w.val + 4) (h.val + 4) (-1) (y.val : Int)), loN (pickW (w.val + 4) (h.val + 4) (-1) (y.val : Int))) := by decide +kernel
theorem fin_may (w h : Nat) (hm : mayB w h = true) : ∃ x y : Fin 5, w = x.val + 4 ∧ h = y.val + 4 := by
  have hb : (4 ≤ w ∧ w ≤ 8) ∧ (4 ≤ h ∧ h ≤ 8) := by simp only [mayB, decide_eq_true_eq] at hm; omega
  exact ⟨⟨w - 4, by omega⟩, ⟨h - 4, by omega⟩, by simp; omega, by simp; omega⟩
theorem tops_ev (w h : Nat) (hm : mayB w h = true) : Ev (fun k => bits_Tops.f k w h) (hiN (topW w h), loN (topW w h)) ∧ Ev (fun k => plummetref09_Tops.f k w h) (hiN (topW w h), loN (topW w h)) ∧ Ev (fun k => bits_Bottom.f k w h) (hiN (pickW w h (-1) 0), loN (pickW w h (-1) 0)) := by
  obtain ⟨x, y, rfl, rfl⟩ := fin_may w h hm
  have := tops_all x y
  exact ⟨Ev.of (bits_Tops.mono _ _) this.1, Ev.of (plummetref09_Tops.mono _ _) this.2.1, Ev.of (bits_Bottom.mono _ _) this.2.2⟩
theorem full_ev (w h : Nat) (hm : mayB w h = true) : Ev (fun k => bits_Full.f k w h) (hiN (fullN w h), loN (fullN w h)) := by
  have hb : (4 ≤ w ∧ w ≤ 8) ∧ (4 ≤ h ∧ h ≤ 8) := by simp only [mayB, decide_eq_true_eq] at hm; omega
  exact Ev.of (bits_Full.mono _ _) (full_f w h hb.1 hb.2)
theorem z0 : hiN 0 = 0 ∧ loN 0 = 0 := by decide
def colF (w h : Nat) (x : Int) : Nat := if 0 ≤ x then pickW w h x (-1) else 0
def rowF (w h : Nat) (y : Int) : Nat := if 0 ≤ y then pickW w h (-1) y else 0
theorem col_ev (w h : Nat) (hm : mayB w h = true) (x : Int) : Ev (fun k => bits_Column.f k w h x) (hiN (colF w h x), loN (colF w h x)) := by
  have hb : (4 ≤ w ∧ w ≤ 8) ∧ (4 ≤ h ∧ h ≤ 8) := by simp only [mayB, decide_eq_true_eq] at hm; omega
  by_cases h1 : 0 ≤ x ∧ x < w
  · obtain ⟨a, b, rfl, rfl⟩ := fin_may w h hm
    have := col_all a b ⟨x.toNat, by omega⟩ (by simp only []; omega)
    simp only [show ((x.toNat : Nat) : Int) = x by omega] at this
    unfold colF
    rw [if_pos h1.1]
    exact Ev.of (bits_Column.mono _ _ _) this
  · have e : colF w h x = 0 := by
      unfold colF
      split
      · exact pickW_far w h x (by omega)
      · rfl
    rw [e, z0.1, z0.2]
    refine Ev.congr (f := fun _ => some (0, 0)) (fun k => ?_) (Ev.now _)
    unfold bits_Column.f board_Top.f
    rw [bmay_f, hm]
    by_cases h2 : x < 0
    · simp [h2]
    · have h3 : x ≥ (w : Int) := by omega
      simp [h2, h3]
theorem each_far (w h : Nat) (hm : mayB w h = true) (y : Int) (hy : y < 0 ∨ (h : Int) < y) : bits_each.f 100 w h y = some (0, 0) := by
  unfold bits_each.f
  rw [bmay_f, hm]
  rcases hy with h1 | h1
  · simp [h1, bits_each.j0]
  · have h2 : ¬ y < 0 := by omega
    have h3 : y > (h : Int) := h1
    simp [h2, h3, bits_each.j0]
theorem row_ev (w h : Nat) (hm : mayB w h = true) (y : Int) : Ev (fun k => bits_Row.f k w h y) (hiN (rowF w h y), loN (rowF w h y)) := by
  have hb : (4 ≤ w ∧ w ≤ 8) ∧ (4 ≤ h ∧ h ≤ 8) := by simp only [mayB, decide_eq_true_eq] at hm; omega
  by_cases h1 : 0 ≤ y ∧ y ≤ h
  · obtain ⟨a, b, rfl, rfl⟩ := fin_may w h hm
    have := row_all a b ⟨y.toNat, by omega⟩ (by simp only []; omega)
    simp only [show ((y.toNat : Nat) : Int) = y by omega] at this
    unfold rowF
    rw [if_pos h1.1]
    exact Ev.of (bits_Row.mono _ _ _) this
  · have e : rowF w h y = 0 := by
      unfold rowF
      split
      · exact pickW_high w h y (by omega)
      · rfl
    rw [e, z0.1, z0.2]
    have h0 : (0 : Nat) < W128 := by decide
    have ha := wAnd 0 (fullN w h) h0 (fullN_lt w h)
    rw [Nat.zero_and, z0.1, z0.2] at ha
    refine Ev.of (bits_Row.mono _ _ _) (k := 100) ?_
    unfold bits_Row.f
    rw [each_far w h hm y (by omega), full_f w h hb.1 hb.2]
    simp only [Option.bind_some, ha]
theorem live_ev : Ev (fun k => plummetlaw09_live.f k) true := Ev.of plummetlaw09_live.mono (k := 100) (by decide +kernel)
theorem masks_j1 (a b x y c0 c1 r0 r1 : Int) (fu bo tt : Int × Int) (h1 : Ev (fun k => bits_Full.f k a b) fu) (h2 : Ev (fun k => plummetref09_Cells.f k a b (-1) (-1)) fu) (h3 : Ev (fun k => bits_Bottom.f k a b) bo) (h4 : Ev (fun k => plummetref09_Cells.f k a b (-1) 0) bo)
    (h5 : Ev (fun k => bits_Tops.f k a b) tt) (h6 : Ev (fun k => plummetref09_Tops.f k a b) tt) (h7 : Ev (fun k => bits_Column.f k a b x) (c0, c1)) (h8 : Ev (fun k => bits_Row.f k a b y) (r0, r1)) :
    Ev (fun k => plummetlaw09_BitsMasks.j1 k x y a b c0 c1 r0 r1) true := by
  refine Ev.step (fun k => by rw [plummetlaw09_BitsMasks.j1]) ?_
  refine Ev.bind live_ev ?_
  simp only [if_true]
  refine Ev.bind h1 ?_
  refine Ev.bind h2 ?_
  simp only [BEq.rfl, Bool.and_self, if_true]
  refine Ev.bind h3 ?_
  refine Ev.bind h4 ?_
  simp only [BEq.rfl, Bool.and_self, if_true]
  refine Ev.bind h5 ?_
  refine Ev.bind h6 ?_
  simp only [BEq.rfl, Bool.and_self, if_true]
  refine Ev.bind h7 ?_
  simp only [BEq.rfl, Bool.and_self, if_true]
  refine Ev.bind h8 ?_
  simp only [BEq.rfl, Bool.and_self]
  exact Ev.now _
theorem masks_j0 (a b x y c0 c1 : Int) (r : Int × Int) (hr : (¬ y ≥ 0 → r = (0, 0)) ∧ (y ≥ 0 → Ev (fun k => plummetref09_Cells.f k a b (-1) y) r)) (H : Ev (fun k => plummetlaw09_BitsMasks.j1 k x y a b c0 c1 r.1 r.2) true) : Ev (fun k => plummetlaw09_BitsMasks.j0 k x y a b c0 c1 0 0) true := by
  refine Ev.step (fun k => by rw [plummetlaw09_BitsMasks.j0]) ?_
  by_cases h : y ≥ 0
  · simp only [if_pos h]
    exact Ev.bind (hr.2 h) H
  · simp only [if_neg h]
    have := hr.1 h
    subst this
    exact H
theorem masks_f (a b x y : Int) (c r : Int × Int) (hc : (¬ x ≥ 0 → c = (0, 0)) ∧ (x ≥ 0 → Ev (fun k => plummetref09_Cells.f k a b x (-1)) c)) (H : Ev (fun k => plummetlaw09_BitsMasks.j0 k x y a b c.1 c.2 0 0) true) : Ev (fun k => plummetlaw09_BitsMasks.f k a b x y) true := by
  unfold plummetlaw09_BitsMasks.f
  by_cases h : x ≥ 0
  · simp only [if_pos h]
    exact Ev.bind (hc.2 h) H
  · simp only [if_neg h]
    have := hc.1 h
    subst this
    exact H
theorem masks_law (a b x y : Int) : Ev (fun k => plummetlaw09_BitsMasks.f k a b x y) true := by
  cases hm : mayB a b with
  | true =>
    obtain ⟨w, h, rfl, rfl, h1, h2⟩ := may_or a b hm
    refine masks_f _ _ x y (hiN (colF w h x), loN (colF w h x)) (0, 0) ⟨fun h => ?_, fun h' => ?_⟩ (masks_j0 _ _ x y _ _ (hiN (rowF w h y), loN (rowF w h y)) ⟨fun h => ?_, fun h' => ?_⟩ (masks_j1 _ _ x y _ _ _ _ _ _ _ (full_ev w h hm) ?_ (tops_ev w h hm).2.2 (rcellsW w h hm (-1) 0) (tops_ev w h hm).1 (tops_ev w h hm).2.1 (col_ev w h hm x) (row_ev w h hm y)))
    · unfold colF; rw [if_neg h, z0.1, z0.2]
    · unfold colF; rw [if_pos h']; exact rcellsW w h hm x (-1)
    · unfold rowF; rw [if_neg h, z0.1, z0.2]
    · unfold rowF; rw [if_pos h']; exact rcellsW w h hm (-1) y
    · have := rcellsW w h hm (-1) (-1)
      rw [pickW_full] at this
      exact this
  | false =>
    have hc := fun x y => rcellsW_no a b x y hm
    have e1 : Ev (fun k => bits_Full.f k a b) (0, 0) := Ev.of (bits_Full.mono _ _) (full_no a b hm)
    have e2 : Ev (fun k => bits_Bottom.f k a b) (0, 0) := Ev.of (bits_Bottom.mono _ _) (k := 100) (by unfold bits_Bottom.f; rw [each_no _ _ _ 99 hm]; rfl)
    have e3 : Ev (fun k => bits_Tops.f k a b) (0, 0) := Ev.of (bits_Tops.mono _ _) (k := 100) (by unfold bits_Tops.f; rw [each_no _ _ _ 99 hm]; rfl)
    have e4 : Ev (fun k => plummetref09_Tops.f k a b) (0, 0) := by
      refine Ev.step (f := fun _ => some (0, 0)) (fun k => ?_) (Ev.now _)
      have e : atN [] = 0 := by have := ofN_nil 0; unfold ofN at this; rwa [Nat.zero_or] at this
      have hA : plummetref02_At.f [] = some (0, 0) := by unfold plummetref02_At.f; rw [if_pos (by simp), e]; rfl
      unfold plummetref09_Tops.f
      rw [plummetref09_Tops.l0, rmay_f, hm]
      simp only [Option.bind_some, Bool.false_eq_true, if_false, hA, ite_self]
    have e5 : Ev (fun k => bits_Column.f k a b x) (0, 0) := by
      refine Ev.congr (f := fun _ => some (0, 0)) (fun k => ?_) (Ev.now _)
      unfold bits_Column.f board_Top.f
      rw [bmay_f, hm]
      simp
    have e6 : Ev (fun k => bits_Row.f k a b y) (0, 0) := by
      have h0 : (0 : Nat) < W128 := by decide
      have ha := wAnd 0 0 h0 h0
      rw [Nat.zero_and, z0.1, z0.2] at ha
      refine Ev.of (bits_Row.mono _ _ _) (k := 100) ?_
      unfold bits_Row.f
      rw [each_no _ _ _ 99 hm, full_no a b hm]
      simp only [Option.bind_some, ha]
    exact masks_f _ _ x y (0, 0) (0, 0) ⟨fun _ => rfl, fun _ => hc _ _⟩ (masks_j0 _ _ x y _ _ (0, 0) ⟨fun _ => rfl, fun _ => hc _ _⟩ (masks_j1 _ _ x y _ _ _ _ _ _ _ e1 (hc _ _) e2 (hc _ _) e3 e4 e5 e6))
end Go.Proofs.Ytnenmiaeomcdpaa.KM
namespace Go.Proofs.Ytnenmiaeomcdpaa.Pure
open Go.RowKit
theorem BitsMasks (a0_0 : Int) (a0_1 : Int) (a1 : Int) (a2 : Int) (_h0 : (Lit.int .i64 a0_0).wf = true) (_h1 : (Lit.int .i64 a0_1).wf = true) (_h2 : (Lit.int .i64 a1).wf = true) (_h3 : (Lit.int .i64 a2).wf = true) : ∃ k, KM.plummetlaw09_BitsMasks.f k a0_0 a0_1 a1 a2 = some true := (KM.masks_law a0_0 a0_1 a1 a2).rounds
end Go.Proofs.Ytnenmiaeomcdpaa.Pure
