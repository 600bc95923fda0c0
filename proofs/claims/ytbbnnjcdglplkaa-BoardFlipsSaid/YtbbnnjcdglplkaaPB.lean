/-
  Plain facts of boards: which may be, their cells and places, the reference's and the program's; conditions: none beyond what each says.
-/
import Derived.Test.YtbbnnjcdglplkaaKBx
namespace Go.Proofs.Ytbbnnjcdglplkaa.KB
open Go.RowKit Go.Proofs.YtbbnnjcdglplkaaW.PrintWords Go.Proofs.Ytbbnnjcdglplkaa.Given
set_option linter.unusedVariables false

def mayB (a b : Int) : Bool := decide (4 ≤ a ∧ a ≤ 8 ∧ 4 ≤ b ∧ b ≤ 8)
theorem bmay_f (a b : Int) : board_May.f a b = some (mayB a b) := by
  unfold board_May.f board_side.f mayB
  by_cases h1 : a ≥ 4 <;> by_cases h2 : a ≤ 8 <;> by_cases h3 : b ≥ 4 <;> by_cases h4 : b ≤ 8 <;> simp [h1, h2, h3, h4] <;> omega
theorem rmay_f (a b : Int) : plummetref06_May.f a b = some (mayB a b) := by
  unfold plummetref06_May.f mayB
  by_cases h1 : a ≥ 4 <;> by_cases h2 : a ≤ 8 <;> by_cases h3 : b ≥ 4 <;> by_cases h4 : b ≤ 8 <;> simp [h1, h2, h3, h4] <;> omega
theorem may_nat (a b : Int) (h : mayB a b = true) : ∃ w h : Nat, a = w ∧ b = h ∧ 4 ≤ w ∧ w ≤ 8 ∧ 4 ≤ h ∧ h ≤ 8 := by
  simp only [mayB, decide_eq_true_eq] at h
  exact ⟨a.toNat, b.toNat, by omega, by omega, by omega, by omega, by omega, by omega⟩
theorem mul_bd (a b m n : Nat) (ha : a ≤ m) (hb : b ≤ n) : a * b ≤ m * n := Nat.mul_le_mul ha hb
def inB (a b x y : Int) : Bool := mayB a b && decide (0 ≤ x ∧ x < a ∧ 0 ≤ y ∧ y < b)
theorem in_f (a b x y : Int) : board_In.f a b x y = some (inB a b x y) := by
  unfold board_In.f inB
  rw [bmay_f]
  cases mayB a b
  · simp
  · by_cases h1 : x ≥ 0 <;> by_cases h2 : x < a <;> by_cases h3 : y ≥ 0 <;> by_cases h4 : y < b <;> simp [h1, h2, h3, h4] <;> omega
/-- A number of 64 bits that a bounded product is. -/
theorem wp (x y : Nat) (hx : x ≤ 1000) (hy : y ≤ 1000) : wrap64 ((x : Int) * (y : Int)) = ((x * y : Nat) : Int) := by
  have := mul_bd x y 1000 1000 hx hy
  rw [← Int.natCast_mul]; unfold wrap64; omega
theorem w64n (n : Nat) (h : n ≤ 1000000) : wrap64 (n : Int) = (n : Int) := by unfold wrap64; omega
theorem wsucc (n : Nat) (h : n ≤ 1000000) : wrap64 ((n : Int) + 1) = ((n + 1 : Nat) : Int) := by unfold wrap64; omega
abbrev C25 := S25
def cellAt (h i : Nat) : C25 := ⟨((i / h : Nat) : Int), ((i % h : Nat) : Int)⟩
/-- The first cells, column by column. -/
def cellsTo (h n : Nat) : List C25 := (List.range n).map (cellAt h)
theorem cellsTo_length (h n : Nat) : (cellsTo h n).length = n := by simp [cellsTo]
theorem cellsTo_succ (h n : Nat) : cellsTo h (n + 1) = cellsTo h n ++ [cellAt h n] := by unfold cellsTo; rw [List.range_succ, List.map_append]; rfl
theorem cellsTo_rd (h n i : Nat) (hi : i < n) : rd_T25 (cellsTo h n) (i : Int) = cellAt h i := by
  unfold rd_T25
  rw [Int.toNat_natCast, List.getD_eq_getElem?_getD, List.getElem?_eq_getElem (by rw [cellsTo_length]; exact hi)]
  simp [cellsTo]
theorem cellAt_xy (h x y : Nat) (hy : y < h) : cellAt h (x * h + y) = ⟨(x : Int), (y : Int)⟩ := by
  unfold cellAt
  rw [show (x * h + y) / h = x by rw [Nat.add_comm, Nat.add_mul_div_right _ _ (by omega), Nat.div_eq_of_lt hy, Nat.zero_add], show (x * h + y) % h = y by rw [Nat.add_comm, Nat.add_mul_mod_self_right, Nat.mod_eq_of_lt hy]]
theorem rcells_l0 (w h : Nat) (hw : w ≤ 8) (hh : h ≤ 8) (d : Nat) : ∀ x : Nat, x + d = w → Ev (fun k => plummetref06_Cells.l0 k (cellsTo h (x * h)) x w h) (cellsTo h (w * h)) := by
  induction d with
  | zero =>
    intro x hx
    obtain rfl : x = w := by omega
    refine Ev.step (f := fun _ => some (cellsTo h (x * h))) (fun k => ?_) (Ev.now _)
    simp only [plummetref06_Cells.l0]; rw [if_neg (by omega)]
  | succ d ih =>
    intro x hx
    have inner : ∀ e y : Nat, y + e = h → Ev (fun k => plummetref06_Cells.l1 k (cellsTo h (x * h + y)) x y w h) (cellsTo h (w * h)) := by
      intro e
      induction e with
      | zero =>
        intro y hy
        obtain rfl : y = h := by omega
        have := ih (x + 1) (by omega)
        rw [Nat.add_mul, Nat.one_mul] at this
        refine Ev.step (fun k => ?_) this
        simp only [plummetref06_Cells.l1]; rw [if_neg (by omega), wsucc x (by omega)]
      | succ e ie =>
        intro y hy
        have hb := mul_bd x h 8 8 (by omega) hh
        refine Ev.step (fun k => ?_) (ie (y + 1) (by omega))
        simp only [plummetref06_Cells.l1]
        rw [if_pos (by omega), if_pos (by rw [cellsTo_length]; omega), wsucc y (by omega), ← Nat.add_assoc, cellsTo_succ, cellAt_xy h x y (by omega)]
    have := inner h 0 (by omega)
    refine Ev.step (fun k => ?_) this
    simp only [plummetref06_Cells.l0]; rw [if_pos (by omega)]; rfl
theorem rcells (w h : Nat) (hm : mayB w h = true) : Ev (fun k => plummetref06_Cells.f k w h) (cellsTo h (w * h)) := by
  have hb : w ≤ 8 ∧ h ≤ 8 := by simp only [mayB, decide_eq_true_eq] at hm; omega
  have := rcells_l0 w h hb.1 hb.2 w 0 (by omega)
  rw [Nat.zero_mul] at this
  refine Ev.congr (fun k => ?_) this
  unfold plummetref06_Cells.f
  simp only [Option.bind_some, rmay_f, hm, if_true]
  rfl
theorem rcells_no (a b : Int) (hm : mayB a b = false) : Ev (fun k => plummetref06_Cells.f k a b) [] := by
  refine Ev.congr (f := fun _ => some []) (fun k => ?_) (Ev.now _)
  unfold plummetref06_Cells.f
  simp [rmay_f, hm]
theorem bcells (w h : Nat) (hm : mayB w h = true) : board_Cells.f w h = some ((w * h : Nat) : Int) := by
  have hb : w ≤ 8 ∧ h ≤ 8 := by simp only [mayB, decide_eq_true_eq] at hm; omega
  unfold board_Cells.f
  rw [bmay_f, hm]
  simp only [Option.bind_some, if_true]
  rw [wp w h (by omega) (by omega)]
theorem bcells_no (a b : Int) (hm : mayB a b = false) : board_Cells.f a b = some 0 := by unfold board_Cells.f; rw [bmay_f, hm]; rfl
/-- A cell's place. -/
def pl (h x y : Nat) : Nat := x * (h + 1) + y
theorem bplace (w h x y : Nat) (hh : h ≤ 100) (hx : x ≤ 100) (hy : y ≤ 100) : board_place.f w h x y = some ((pl h x y : Nat) : Int) := by
  have hb := mul_bd x (h + 1) 100 101 hx (by omega)
  unfold board_place.f pl
  rw [wsucc h (by omega), wp x (h + 1) (by omega) (by omega)]
  congr 1; unfold wrap64; omega
theorem rplace (w h x y : Nat) (hh : h ≤ 100) (hx : x ≤ 100) (hy : y ≤ 100) : plummetref06_Place.f w h x y = some ((pl h x y : Nat) : Int) := bplace w h x y hh hx hy
theorem bPlace (w h : Nat) (hm : mayB w h = true) (x y : Int) : board_Place.f w h x y = some (if 0 ≤ x ∧ x < w ∧ 0 ≤ y ∧ y < h then (((pl h x.toNat y.toNat : Nat) : Int), 0) else (0, 3)) := by
  have hb : w ≤ 8 ∧ h ≤ 8 := by simp only [mayB, decide_eq_true_eq] at hm; omega
  unfold board_Place.f
  rw [bmay_f, hm]
  simp only [Option.bind_some, if_true, in_f]
  unfold inB
  rw [hm, Bool.true_and]
  by_cases hc : 0 ≤ x ∧ x < w ∧ 0 ≤ y ∧ y < h
  · have := bplace w h x.toNat y.toNat (by omega) (by omega) (by omega)
    rw [show ((x.toNat : Nat) : Int) = x by omega, show ((y.toNat : Nat) : Int) = y by omega] at this
    rw [if_pos hc, decide_eq_true hc, if_pos rfl, this]; rfl
  · rw [if_neg hc, decide_eq_false hc, if_neg (by simp)]
theorem bPlace_no (a b x y : Int) (hm : mayB a b = false) : board_Place.f a b x y = some (0, 10) := by unfold board_Place.f; rw [bmay_f, hm]; rfl
/-- A place's cell. -/
def cellP (w h : Nat) (p : Int) : Int × Int × Bool :=
  if 0 ≤ p ∧ p < ((w * (h + 1) : Nat) : Int) ∧ ¬ p.toNat % (h + 1) = h then (((p.toNat / (h + 1) : Nat) : Int), ((p.toNat % (h + 1) : Nat) : Int), true) else (0, 0, false)
theorem bCell (w h : Nat) (hm : mayB w h = true) (p : Int) : board_Cell.f w h p = some ((cellP w h p).1, (cellP w h p).2.1, if (cellP w h p).2.2 then 0 else 3) := by
  have hb : w ≤ 8 ∧ h ≤ 8 := by simp only [mayB, decide_eq_true_eq] at hm; omega
  have hq := mul_bd w (h + 1) 8 9 hb.1 (by omega)
  unfold board_Cell.f
  rw [bmay_f, hm]
  simp only [Option.bind_some, if_true]
  rw [wsucc h (by omega), wp w (h + 1) (by omega) (by omega)]
  by_cases h0 : p < 0
  · rw [if_pos h0]; unfold cellP; rw [if_neg (by omega)]; rfl
  · rw [if_neg h0]
    by_cases h1 : p ≥ ((w * (h + 1) : Nat) : Int)
    · rw [if_pos h1]; unfold cellP; rw [if_neg (by omega)]; rfl
    · rw [if_neg h1, if_neg (by omega)]
      have e1 : Int.tmod p ((h + 1 : Nat) : Int) = ((p.toNat % (h + 1) : Nat) : Int) := by
        rw [Int.tmod_eq_emod_of_nonneg (by omega), Int.natCast_emod, show ((p.toNat : Nat) : Int) = p by omega]
      have e2 : Int.tdiv p ((h + 1 : Nat) : Int) = ((p.toNat / (h + 1) : Nat) : Int) := by
        rw [Int.tdiv_eq_ediv_of_nonneg (by omega), Int.natCast_ediv, show ((p.toNat : Nat) : Int) = p by omega]
      have e3 : p.toNat / (h + 1) ≤ 1000 := Nat.le_trans (Nat.div_le_self _ _) (by omega)
      rw [e1, e2]
      generalize hX : p.toNat / (h + 1) = X at *
      generalize hY : p.toNat % (h + 1) = Y at *
      unfold cellP
      rw [hX, hY]
      by_cases h2 : Y = h
      · rw [if_pos (by omega), if_neg (by omega)]; rfl
      · rw [if_neg (by omega), if_pos (by omega), w64n X (by omega)]; rfl
theorem bCell_no (a b p : Int) (hm : mayB a b = false) : board_Cell.f a b p = some (0, 0, 10) := by unfold board_Cell.f; rw [bmay_f, hm]; rfl
theorem search_hit (w h n : Nat) (p : Int) (hh : h ≤ 8) (hn : n ≤ 64) (j : Nat) (hj : j < n) (hp : ((pl h (j / h) (j % h) : Nat) : Int) = p) (d : Nat) : ∀ i : Nat, i + d = j → (∀ m, i ≤ m → m < j → ¬ ((pl h (m / h) (m % h) : Nat) : Int) = p) →
    Ev (fun k => plummetref06_Cell.l0 k p (cellsTo h n) i w h) (((j / h : Nat) : Int), ((j % h : Nat) : Int), true) := by
  induction d with
  | zero =>
    intro i hi _
    obtain rfl : i = j := by omega
    have b1 : i / h ≤ 100 := Nat.le_trans (Nat.div_le_self _ _) (by omega)
    have b2 : i % h ≤ 100 := Nat.le_trans (Nat.mod_le _ _) (by omega)
    refine Ev.step (f := fun _ => some (((i / h : Nat) : Int), ((i % h : Nat) : Int), true)) (fun k => ?_) (Ev.now _)
    simp only [plummetref06_Cell.l0]
    rw [cellsTo_length, if_pos (by omega), if_pos (by omega), cellsTo_rd h n i hj]
    unfold cellAt
    dsimp only
    rw [rplace w h (i / h) (i % h) (by omega) b1 b2]
    simp only [Option.bind_some]
    rw [if_pos hp]
  | succ d ih =>
    intro i hi hm
    have b1 : i / h ≤ 100 := Nat.le_trans (Nat.div_le_self _ _) (by omega)
    have b2 : i % h ≤ 100 := Nat.le_trans (Nat.mod_le _ _) (by omega)
    refine Ev.step (fun k => ?_) (ih (i + 1) (by omega) (fun m h1 h2 => hm m (by omega) h2))
    simp only [plummetref06_Cell.l0]
    rw [cellsTo_length, if_pos (by omega), if_pos (by omega), cellsTo_rd h n i (by omega)]
    unfold cellAt
    dsimp only
    rw [rplace w h (i / h) (i % h) (by omega) b1 b2]
    simp only [Option.bind_some]
    rw [if_neg (hm i (Nat.le_refl _) (by omega)), wsucc i (by omega)]
theorem search_miss (w h n : Nat) (p : Int) (hh : h ≤ 8) (hn : n ≤ 64) (d : Nat) : ∀ i : Nat, i + d = n → (∀ m, m < n → ¬ ((pl h (m / h) (m % h) : Nat) : Int) = p) →
    Ev (fun k => plummetref06_Cell.l0 k p (cellsTo h n) i w h) (0, 0, false) := by
  induction d with
  | zero =>
    intro i hi _
    refine Ev.step (f := fun _ => some (0, 0, false)) (fun k => ?_) (Ev.now _)
    simp only [plummetref06_Cell.l0]
    rw [cellsTo_length, if_neg (by omega)]
  | succ d ih =>
    intro i hi hm
    have b1 : i / h ≤ 100 := Nat.le_trans (Nat.div_le_self _ _) (by omega)
    have b2 : i % h ≤ 100 := Nat.le_trans (Nat.mod_le _ _) (by omega)
    refine Ev.step (fun k => ?_) (ih (i + 1) (by omega) hm)
    simp only [plummetref06_Cell.l0]
    rw [cellsTo_length, if_pos (by omega), if_pos (by omega), cellsTo_rd h n i (by omega)]
    unfold cellAt
    dsimp only
    rw [rplace w h (i / h) (i % h) (by omega) b1 b2]
    simp only [Option.bind_some]
    rw [if_neg (hm i (by omega)), wsucc i (by omega)]
theorem pl_lt (h m j : Nat) (hh : 4 ≤ h ∧ h ≤ 8) (hm : m < j) : pl h (m / h) (m % h) < pl h (j / h) (j % h) := by
  have e : h = 4 ∨ h = 5 ∨ h = 6 ∨ h = 7 ∨ h = 8 := by omega
  unfold pl
  rcases e with rfl | rfl | rfl | rfl | rfl <;> omega
theorem pl_cell (w h q : Nat) (hh : 4 ≤ h ∧ h ≤ 8) (hw : 4 ≤ w ∧ w ≤ 8) (hq : q < w * (h + 1)) (hn : ¬ q % (h + 1) = h) :
    q / (h + 1) * h + q % (h + 1) < w * h ∧ (q / (h + 1) * h + q % (h + 1)) / h = q / (h + 1) ∧ (q / (h + 1) * h + q % (h + 1)) % h = q % (h + 1) ∧ pl h (q / (h + 1)) (q % (h + 1)) = q := by
  have e : h = 4 ∨ h = 5 ∨ h = 6 ∨ h = 7 ∨ h = 8 := by omega
  unfold pl
  rcases e with rfl | rfl | rfl | rfl | rfl <;> omega
theorem pl_inv (w h m : Nat) (hh : 4 ≤ h ∧ h ≤ 8) (hw : 4 ≤ w ∧ w ≤ 8) (hm : m < w * h) : pl h (m / h) (m % h) < w * (h + 1) ∧ ¬ pl h (m / h) (m % h) % (h + 1) = h := by
  have e : h = 4 ∨ h = 5 ∨ h = 6 ∨ h = 7 ∨ h = 8 := by omega
  unfold pl
  rcases e with rfl | rfl | rfl | rfl | rfl <;> omega
theorem rCell (w h : Nat) (hm : mayB w h = true) (p : Int) : Ev (fun k => plummetref06_Cell.f k w h p) (cellP w h p) := by
  have hb : (4 ≤ h ∧ h ≤ 8) ∧ (4 ≤ w ∧ w ≤ 8) := by simp only [mayB, decide_eq_true_eq] at hm; omega
  have hc := rcells w h hm
  have hq := mul_bd w h 8 8 (by omega) (by omega)
  unfold plummetref06_Cell.f
  refine Ev.bind hc ?_
  unfold cellP
  by_cases hk : 0 ≤ p ∧ p < ((w * (h + 1) : Nat) : Int) ∧ ¬ p.toNat % (h + 1) = h
  · rw [if_pos hk]
    obtain ⟨k1, k2, k3, k4⟩ := pl_cell w h p.toNat hb.1 hb.2 (by omega) hk.2.2
    have := search_hit w h (w * h) p (by omega) (by omega) _ k1 (by rw [k2, k3, k4]; omega) _ 0 (Nat.zero_add _) (fun m _ h2 he => by
      have := pl_lt h m _ hb.1 h2
      rw [k2, k3, k4] at this; omega)
    rw [k2, k3] at this
    exact this
  · rw [if_neg hk]
    exact search_miss w h (w * h) p (by omega) (by omega) (w * h) 0 (by omega) (fun m hm2 he => by
      have := pl_inv w h m hb.1 hb.2 hm2
      refine hk ⟨by omega, by omega, ?_⟩
      rw [show p.toNat = pl h (m / h) (m % h) by omega]; exact this.2)
theorem rCell_no (a b p : Int) (hm : mayB a b = false) : Ev (fun k => plummetref06_Cell.f k a b p) (0, 0, false) := by
  unfold plummetref06_Cell.f
  refine Ev.bind (rcells_no a b hm) ?_
  refine Ev.step (f := fun _ => some (0, 0, false)) (fun k => ?_) (Ev.now _)
  simp only [plummetref06_Cell.l0]; rw [if_neg (by simp)]
theorem live_ev : Ev (fun k => plummetlaw06_live.f k) true := Ev.of plummetlaw06_live.mono (k := 100) (by decide +kernel)
end Go.Proofs.Ytbbnnjcdglplkaa.KB
