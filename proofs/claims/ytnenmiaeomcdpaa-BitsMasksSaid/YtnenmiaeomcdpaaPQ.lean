/-
  Plain facts of the reference of the rows of four: cells, places, what a word has, the word of a list; conditions: boards that may be.
-/
import Derived.Test.YtnenmiaeomcdpaaKSx
import Derived.Test.YtnenmiaeomcdpaaPW
import Derived.Test.YtnenmiaeomcdpaaBitsH
namespace Go.Proofs.Ytnenmiaeomcdpaa.KS
open Go.RowKit Go.Proofs.YtnenmiaeomcdpaaW.PrintWords Go.Proofs.Ytnenmiaeomcdpaa.Given Go.Proofs.Ytnenmiaeomcdpaa.KW
set_option linter.unusedVariables false
set_option linter.unusedSimpArgs false

theorem rmay_f (a b : Int) : plummetref06_May.f a b = some (mayB a b) := by
  unfold plummetref06_May.f mayB
  by_cases h1 : a ≥ 4 <;> by_cases h2 : a ≤ 8 <;> by_cases h3 : b ≥ 4 <;> by_cases h4 : b ≤ 8 <;> simp [h1, h2, h3, h4] <;> omega
theorem mul_bd (a b m n : Nat) (ha : a ≤ m) (hb : b ≤ n) : a * b ≤ m * n := Nat.mul_le_mul ha hb
def inB (a b x y : Int) : Bool := mayB a b && decide (0 ≤ x ∧ x < a ∧ 0 ≤ y ∧ y < b)
theorem rin_f (a b x y : Int) : plummetref06_In.f a b x y = some (inB a b x y) := by
  unfold plummetref06_In.f inB
  rw [rmay_f]
  cases mayB a b
  · simp
  · by_cases h1 : x ≥ 0 <;> by_cases h2 : x < a <;> by_cases h3 : y ≥ 0 <;> by_cases h4 : y < b <;> simp [h1, h2, h3, h4] <;> omega
/-- A number of 64 bits that a bounded product is. -/
theorem wp (x y : Nat) (hx : x ≤ 1000) (hy : y ≤ 1000) : wrap64 ((x : Int) * (y : Int)) = ((x * y : Nat) : Int) := by
  have := mul_bd x y 1000 1000 hx hy
  rw [← Int.natCast_mul]; unfold wrap64; omega
theorem w64n (n : Nat) (h : n ≤ 1000000) : wrap64 (n : Int) = (n : Int) := by unfold wrap64; omega
theorem wsucc (n : Nat) (h : n ≤ 1000000) : wrap64 ((n : Int) + 1) = ((n + 1 : Nat) : Int) := by unfold wrap64; omega
abbrev C25 := S49
def cellAt (h i : Nat) : C25 := ⟨((i / h : Nat) : Int), ((i % h : Nat) : Int)⟩
/-- The first cells, column by column. -/
def cellsTo (h n : Nat) : List C25 := (List.range n).map (cellAt h)
theorem cellsTo_length (h n : Nat) : (cellsTo h n).length = n := by simp [cellsTo]
theorem cellsTo_succ (h n : Nat) : cellsTo h (n + 1) = cellsTo h n ++ [cellAt h n] := by unfold cellsTo; rw [List.range_succ, List.map_append]; rfl
theorem cellsTo_rd (h n i : Nat) (hi : i < n) : rd_T49 (cellsTo h n) (i : Int) = cellAt h i := by
  unfold rd_T49
  rw [Int.toNat_natCast, List.getD_eq_getElem?_getD, List.getElem?_eq_getElem (by rw [cellsTo_length]; exact hi)]
  simp [cellsTo]
theorem cellAt_xy (h x y : Nat) (hy : y < h) : cellAt h (x * h + y) = ⟨(x : Int), (y : Int)⟩ := by
  unfold cellAt
  rw [show (x * h + y) / h = x by rw [Nat.add_comm, Nat.add_mul_div_right _ _ (by omega), Nat.div_eq_of_lt hy, Nat.zero_add], show (x * h + y) % h = y by rw [Nat.add_comm, Nat.add_mul_mod_self_right, Nat.mod_eq_of_lt hy]]
theorem rcells_l0 (w h : Nat) (hw : w ≤ 8) (hh : h ≤ 8) (d : Nat) : ∀ x : Nat, x + d = w → Ev (fun k => plummetref06_Cells.l0 k (cellsTo h (x * h)) x w h) (cellsTo h (w * h)) := by
  induction d with
  | zero =>
    intro x hx
    obtain rfl : x = w := by omega
    refine Ev.step (f := fun _ => some (cellsTo h (x * h))) (fun k => ?_) (Ev.now _)
    simp only [plummetref06_Cells.l0]; rw [if_neg (by omega)]
  | succ d ih =>
    intro x hx
    have inner : ∀ e y : Nat, y + e = h → Ev (fun k => plummetref06_Cells.l1 k (cellsTo h (x * h + y)) x y w h) (cellsTo h (w * h)) := by
      intro e
      induction e with
      | zero =>
        intro y hy
        obtain rfl : y = h := by omega
        have := ih (x + 1) (by omega)
        rw [Nat.add_mul, Nat.one_mul] at this
        refine Ev.step (fun k => ?_) this
        simp only [plummetref06_Cells.l1]; rw [if_neg (by omega), wsucc x (by omega)]
      | succ e ie =>
        intro y hy
        have hb := mul_bd x h 8 8 (by omega) hh
        refine Ev.step (fun k => ?_) (ie (y + 1) (by omega))
        simp only [plummetref06_Cells.l1]
        rw [if_pos (by omega), if_pos (by rw [cellsTo_length]; omega), wsucc y (by omega), ← Nat.add_assoc, cellsTo_succ, cellAt_xy h x y (by omega)]
    have := inner h 0 (by omega)
    refine Ev.step (fun k => ?_) this
    simp only [plummetref06_Cells.l0]; rw [if_pos (by omega)]; rfl
theorem rcells (w h : Nat) (hm : mayB w h = true) : Ev (fun k => plummetref06_Cells.f k w h) (cellsTo h (w * h)) := by
  have hb : w ≤ 8 ∧ h ≤ 8 := by simp only [mayB, decide_eq_true_eq] at hm; omega
  have := rcells_l0 w h hb.1 hb.2 w 0 (by omega)
  rw [Nat.zero_mul] at this
  refine Ev.congr (fun k => ?_) this
  unfold plummetref06_Cells.f
  simp only [Option.bind_some, rmay_f, hm, if_true]
  rfl
theorem rcells_no (a b : Int) (hm : mayB a b = false) : Ev (fun k => plummetref06_Cells.f k a b) [] := by
  refine Ev.congr (f := fun _ => some []) (fun k => ?_) (Ev.now _)
  unfold plummetref06_Cells.f
  simp [rmay_f, hm]
/-- A cell's place. -/
def pl (h x y : Nat) : Nat := x * (h + 1) + y
theorem rplace (w h x y : Nat) (hh : h ≤ 100) (hx : x ≤ 100) (hy : y ≤ 100) : plummetref06_Place.f w h x y = some ((pl h x y : Nat) : Int) := by
  have hb := mul_bd x (h + 1) 100 101 hx (by omega)
  unfold plummetref06_Place.f pl
  rw [wsucc h (by omega), wp x (h + 1) (by omega) (by omega)]
  congr 1; unfold wrap64; omega
/-- Has a word the cell? -/
def hasC (w h X : Nat) (x y : Int) : Bool := decide (0 ≤ x ∧ x < w ∧ 0 ≤ y ∧ y < h) && X.testBit (pl h x.toNat y.toNat)
theorem pl_lt (w h x y : Nat) (hw : w ≤ 8) (hh : h ≤ 8) (hx : x < w) (hy : y < h) : pl h x y < 72 := by
  have : x * (h + 1) ≤ 7 * 9 := mul_bd x (h + 1) 7 9 (by omega) (by omega)
  unfold pl; omega
theorem rhas (w h X : Nat) (hm : mayB w h = true) (hX : X < W128) (x y : Int) : plummetref09_Has.f w h (hiN X) (loN X) x y = some (hasC w h X x y) := by
  have hb : w ≤ 8 ∧ h ≤ 8 := by simp only [mayB, decide_eq_true_eq] at hm; omega
  have h1 := hiN_b X hX
  have h2 := loN_b X
  unfold plummetref09_Has.f
  rw [rin_f]
  unfold inB hasC
  rw [hm, Bool.true_and]
  by_cases hc : 0 ≤ x ∧ x < w ∧ 0 ≤ y ∧ y < h
  · have hp := rplace w h x.toNat y.toNat (by omega) (by omega) (by omega)
    rw [show ((x.toNat : Nat) : Int) = x by omega, show ((y.toNat : Nat) : Int) = y by omega] at hp
    have hl := pl_lt w h x.toNat y.toNat hb.1 hb.2 (by omega) (by omega)
    rw [decide_eq_true hc]
    simp only [Option.bind_some, if_true, hp]
    unfold plummetref02_Has.f
    rw [if_pos ⟨h1.1, h1.2, h2.1, h2.2⟩, N2_halves]
    unfold hasN
    rw [decide_eq_true (show (0 : Int) ≤ ((pl h x.toNat y.toNat : Nat) : Int) by omega), decide_eq_true (show ((pl h x.toNat y.toNat : Nat) : Int) ≤ 127 by omega), Int.toNat_natCast]
    simp
  · rw [decide_eq_false hc]; simp
/-- The places of cells. -/
def plc (h : Nat) (c : C25) : Int := ((pl h c.f0.toNat c.f1.toNat : Nat) : Int)
theorem rset_l0 (w h : Nat) (hh : h ≤ 100) (l : List C25) (hl : l.length ≤ 1000000) (hb : ∀ c ∈ l, 0 ≤ c.f0 ∧ c.f0 ≤ 100 ∧ 0 ≤ c.f1 ∧ c.f1 ≤ 100) (d : Nat) : ∀ i : Nat, i + d = l.length → Ev (fun k => plummetref09_Set.l0 k l ((l.take i).map (plc h)) i w h) (hiN (atN (l.map (plc h))), loN (atN (l.map (plc h)))) := by
  induction d with
  | zero =>
    intro i hi
    refine Ev.step (f := fun _ => some (hiN (atN (l.map (plc h))), loN (atN (l.map (plc h))))) (fun k => ?_) (Ev.now _)
    simp only [plummetref09_Set.l0]
    rw [if_neg (by omega), List.take_of_length_le (by omega)]
    unfold plummetref02_At.f
    rw [if_pos (by simp; omega)]
    rfl
  | succ d ih =>
    intro i hi
    have hi' : i < l.length := by omega
    refine Ev.step (fun k => ?_) (ih (i + 1) (by omega))
    simp only [plummetref09_Set.l0]
    have hr : rd_T49 l (i : Int) = l[i] := by
      unfold rd_T49
      rw [Int.toNat_natCast, List.getD_eq_getElem?_getD, List.getElem?_eq_getElem hi']; rfl
    have hc := hb l[i] (List.getElem_mem hi')
    have hp := rplace w h (l[i]).f0.toNat (l[i]).f1.toNat hh (by omega) (by omega)
    rw [show (((l[i]).f0.toNat : Nat) : Int) = (l[i]).f0 by omega, show (((l[i]).f1.toNat : Nat) : Int) = (l[i]).f1 by omega] at hp
    rw [if_pos (by omega), if_pos (by omega), hr, hp, Option.bind_some, if_pos (by simp; omega), wsucc i (by omega), List.take_succ_eq_append_getElem hi', List.map_append]
    rfl
theorem rset (w h : Nat) (hh : h ≤ 100) (l : List C25) (hl : l.length ≤ 1000000) (hb : ∀ c ∈ l, 0 ≤ c.f0 ∧ c.f0 ≤ 100 ∧ 0 ≤ c.f1 ∧ c.f1 ≤ 100) : Ev (fun k => plummetref09_Set.f k w h l) (hiN (atN (l.map (plc h))), loN (atN (l.map (plc h)))) := by
  have := rset_l0 w h hh l hl hb l.length 0 (by omega)
  rw [List.take_zero] at this
  exact this
theorem rset_nil (a b : Int) : Ev (fun k => plummetref09_Set.f k a b []) (0, 0) := by
  refine Ev.step (f := fun _ => some (0, 0)) (fun k => ?_) (Ev.now _)
  simp only [plummetref09_Set.f, plummetref09_Set.l0]
  rw [if_neg (by simp)]
  have e : atN [] = 0 := by have := ofN_nil 0; unfold ofN at this; rwa [Nat.zero_or] at this
  unfold plummetref02_At.f
  rw [if_pos (by simp), e]
  rfl
/-- A word of cells of the board that a condition lets in. -/
def cellW (w h : Nat) (P : Nat → Nat → Bool) : Nat := nb128 fun j => decide (j / (h + 1) < w ∧ j % (h + 1) < h) && P (j / (h + 1)) (j % (h + 1))
theorem cellW_lt (w h : Nat) (P : Nat → Nat → Bool) : cellW w h P < W128 := nb128_lt _
theorem cellW_tb (w h : Nat) (P : Nat → Nat → Bool) (j : Nat) : (cellW w h P).testBit j = (decide (j < 128) && (decide (j / (h + 1) < w ∧ j % (h + 1) < h) && P (j / (h + 1)) (j % (h + 1)))) := nb128_tb _ _
theorem pl_div (h x y : Nat) (hy : y ≤ h) : pl h x y / (h + 1) = x := by unfold pl; rw [Nat.add_comm, Nat.add_mul_div_right _ _ (by omega), Nat.div_eq_of_lt (by omega), Nat.zero_add]
theorem pl_mod (h x y : Nat) (hy : y ≤ h) : pl h x y % (h + 1) = y := by unfold pl; rw [Nat.add_comm, Nat.add_mul_mod_self_right, Nat.mod_eq_of_lt (by omega)]
theorem div_pl (h j : Nat) : pl h (j / (h + 1)) (j % (h + 1)) = j := by unfold pl; have := Nat.div_add_mod j (h + 1); rw [Nat.mul_comm] at this; exact this
/-- A list of cells whose members are those that a condition lets in. -/
theorem atN_cells (w h : Nat) (hw : w ≤ 8) (hh : h ≤ 8) (l : List C25) (P : Nat → Nat → Bool) (hl : ∀ c : C25, c ∈ l ↔ ∃ x y : Nat, c = ⟨(x : Int), (y : Int)⟩ ∧ x < w ∧ y < h ∧ P x y = true) : atN (l.map (plc h)) = cellW w h P := by
  refine word_ext _ _ (atN_lt _) (cellW_lt _ _ _) fun j hj => ?_
  unfold atN
  rw [cellW_tb, nb128_tb, decide_eq_true hj, Bool.true_and, Bool.true_and]
  rw [Bool.eq_iff_iff]
  unfold atB
  rw [List.any_eq_true, Bool.and_eq_true, decide_eq_true_eq]
  constructor
  · rintro ⟨p, hp, he⟩
    obtain ⟨c, hc, rfl⟩ := List.mem_map.1 hp
    obtain ⟨x, y, rfl, hx, hy, hP⟩ := (hl c).1 hc
    have he : j = pl h x y := by
      have := of_decide_eq_true he
      unfold plc at this
      simp only [Int.toNat_natCast] at this
      omega
    subst he
    rw [pl_div h x y (by omega), pl_mod h x y (by omega)]
    exact ⟨⟨hx, hy⟩, hP⟩
  · rintro ⟨⟨hx, hy⟩, hP⟩
    refine ⟨_, List.mem_map.2 ⟨⟨((j / (h + 1) : Nat) : Int), ((j % (h + 1) : Nat) : Int)⟩, (hl _).2 ⟨_, _, rfl, hx, hy, hP⟩, rfl⟩, ?_⟩
    unfold plc
    simp only [Int.toNat_natCast, div_pl, decide_true]
theorem cellsTo_mem (w h : Nat) (c : C25) (hh : 0 < h) : c ∈ cellsTo h (w * h) ↔ ∃ x y : Nat, c = ⟨(x : Int), (y : Int)⟩ ∧ x < w ∧ y < h := by
  unfold cellsTo
  rw [List.mem_map]
  constructor
  · rintro ⟨i, hi, rfl⟩
    have hi := List.mem_range.1 hi
    exact ⟨i / h, i % h, rfl, (Nat.div_lt_iff_lt_mul hh).2 hi, Nat.mod_lt _ hh⟩
  · rintro ⟨x, y, rfl, hx, hy⟩
    refine ⟨x * h + y, List.mem_range.2 ?_, cellAt_xy h x y hy⟩
    have : (x + 1) * h ≤ w * h := Nat.mul_le_mul_right _ hx
    rw [Nat.add_mul, Nat.one_mul] at this
    omega
theorem full_cellW (w h : Nat) : fullN w h = cellW w h (fun _ _ => true) := by
  unfold fullN cellW
  congr 1
  funext j
  rw [Bool.and_true]
end Go.Proofs.Ytnenmiaeomcdpaa.KS
