/-
  The pure statement of the law BitsNext: facts of bits.Next and the reference's Heaped and Next; conditions: boards that may be.
-/
import Derived.Test.YtnenmiaeomcdpaaKXx
import Derived.Test.YtnenmiaeomcdpaaPQ
namespace Go.Proofs.Ytnenmiaeomcdpaa.KX
open Go.RowKit Go.Proofs.YtnenmiaeomcdpaaW.PrintWords Go.Proofs.Ytnenmiaeomcdpaa.Given Go.Proofs.Ytnenmiaeomcdpaa.KB Go.Proofs.Ytnenmiaeomcdpaa.KW Go.Proofs.Ytnenmiaeomcdpaa.KS
set_option linter.unusedVariables false
set_option linter.unusedSimpArgs false

/-! ### Numbers by columns -/
def val (s : Nat) (c : Nat → Nat) : Nat → Nat
  | 0 => 0
  | n + 1 => 2 ^ (n * s) * c n + val s c n
theorem val_lt (s : Nat) (c : Nat → Nat) (hc : ∀ x, c x < 2 ^ s) : ∀ n, val s c n < 2 ^ (n * s)
  | 0 => by simp [val]
  | n + 1 => by
    have h1 := val_lt s c hc n
    have h2 : 2 ^ (n * s) * (c n + 1) ≤ 2 ^ (n * s) * 2 ^ s := Nat.mul_le_mul_left _ (hc n)
    rw [← Nat.pow_add, ← Nat.succ_mul] at h2
    rw [Nat.mul_add, Nat.mul_one] at h2
    unfold val
    have : 2 ^ ((n + 1) * s) = 2 ^ (n.succ * s) := rfl
    omega
theorem val_tb (s : Nat) (hs : 0 < s) (c : Nat → Nat) (hc : ∀ x, c x < 2 ^ s) (j : Nat) : ∀ n, (val s c n).testBit j = (decide (j / s < n) && (c (j / s)).testBit (j % s))
  | 0 => by simp [val]
  | n + 1 => by
    unfold val
    rw [Nat.testBit_two_pow_mul_add _ (val_lt s c hc n)]
    have hd := Nat.div_add_mod j s
    have hm := Nat.mod_lt j hs
    by_cases h : j < n * s
    · rw [if_pos h, val_tb s hs c hc j n]
      have : j / s < n := (Nat.div_lt_iff_lt_mul hs).2 h
      rw [decide_eq_true this, decide_eq_true (show j / s < n + 1 by omega)]
    · rw [if_neg h]
      have h1 : n ≤ j / s := (Nat.le_div_iff_mul_le hs).2 (by omega)
      by_cases h2 : j / s = n
      · rw [h2, decide_eq_true (show n < n + 1 by omega), Bool.true_and]
        congr 1
        rw [h2, Nat.mul_comm] at hd
        omega
      · rw [decide_eq_false (show ¬ j / s < n + 1 by omega), Bool.false_and]
        refine Nat.testBit_lt_two_pow (Nat.lt_of_lt_of_le (hc n) (Nat.pow_le_pow_right (by omega) ?_))
        have h3 : (n + 1) * s ≤ j := (Nat.le_div_iff_mul_le hs).1 (by omega)
        rw [Nat.add_mul, Nat.one_mul] at h3
        omega
theorem val_add (s : Nat) (c d : Nat → Nat) : ∀ n, val s c n + val s d n = val s (fun x => c x + d x) n
  | 0 => rfl
  | n + 1 => by
    have := val_add s c d n
    unfold val
    rw [Nat.mul_add]
    omega
/-- Heaped without a gap: the least free one. -/
theorem heap_ex (p : Nat → Bool) : ∀ h : Nat, (∀ y, y + 1 < h → p (y + 1) = true → p y = true) → ∃ k, k ≤ h ∧ ∀ y, y < h → p y = decide (y < k)
  | 0, _ => ⟨0, Nat.le_refl _, fun y hy => absurd hy (by omega)⟩
  | h + 1, H => by
    obtain ⟨k, hk, e⟩ := heap_ex p h (fun y hy => H y (by omega))
    by_cases ht : p h = true
    · refine ⟨h + 1, Nat.le_refl _, fun y hy => ?_⟩
      rw [decide_eq_true hy]
      have : ∀ d y, y + d = h → p y = true := by
        intro d
        induction d with
        | zero => intro y hy; (obtain rfl : y = h := (by omega)); exact ht
        | succ d ih => intro y hy; exact H y (by omega) (ih (y + 1) (by omega))
      exact this (h - y) y (by omega)
    · refine ⟨k, by omega, fun y hy => ?_⟩
      by_cases hy2 : y < h
      · exact e y hy2
      · obtain rfl : y = h := by omega
        rw [decide_eq_false (by omega)]
        simpa using ht
theorem mul72 (w h : Nat) (hw : w ≤ 8) (hh : h ≤ 8) : w * (h + 1) ≤ 72 := mul_bd w (h + 1) 8 9 hw (by omega)
/-- What stones fall onto, as numbers. -/
theorem next_num (w h X : Nat) (hw : w ≤ 8) (hh : h ≤ 8) (hX : X < W128) (H : ∀ x y, x < w → y + 1 < h → X.testBit (pl h x (y + 1)) = true → X.testBit (pl h x y) = true) :
    addN (X &&& fullN w h) (cellW w h fun _ y => decide (y = 0)) &&& fullN w h = cellW w h fun x y => !X.testBit (pl h x y) && (decide (y = 0) || X.testBit (pl h x (y - 1))) := by
  have hb := mul72 w h hw hh
  by_cases h0 : h = 0
  · subst h0
    refine word_ext _ _ (and_lt _ _ (addN_lt _ _)) (cellW_lt _ _ _) fun j hj => ?_
    rw [Nat.testBit_and, full_cellW, cellW_tb, cellW_tb]
    simp
  have hk : ∀ x, ∃ k, k ≤ h ∧ (x < w → ∀ y, y < h → X.testBit (pl h x y) = decide (y < k)) := by
    intro x
    by_cases hx : x < w
    · obtain ⟨k, k1, k2⟩ := heap_ex (fun y => X.testBit (pl h x y)) h (fun y hy hp => H x y hx hy hp)
      exact ⟨k, k1, fun _ => k2⟩
    · exact ⟨0, Nat.zero_le _, fun h => absurd h hx⟩
  obtain ⟨k, hk⟩ := Classical.axiomOfChoice hk
  have c1 : ∀ x, 2 ^ k x - 1 < 2 ^ (h + 1) := fun x => by
    have := Nat.pow_lt_pow_right (a := 2) (by omega) (show k x < h + 1 by have := (hk x).1; omega)
    have h2 := Nat.two_pow_pos h
    omega
  have c2 : ∀ x, 2 ^ k x < 2 ^ (h + 1) := fun x => Nat.pow_lt_pow_right (by omega) (by have := (hk x).1; omega)
  have c3 : ∀ x : Nat, (fun _ : Nat => 1) x < 2 ^ (h + 1) := fun _ => Nat.one_lt_two_pow (by omega)
  have w128 : ∀ c : Nat → Nat, (∀ x, c x < 2 ^ (h + 1)) → val (h + 1) c w < W128 := fun c hc => by
    have h1 := val_lt (h + 1) c hc w
    have h2 : 2 ^ (w * (h + 1)) ≤ 2 ^ 72 := Nat.pow_le_pow_right (by omega) hb
    have h3 : (2 : Nat) ^ 72 < W128 := by decide
    omega
  have e1 : X &&& fullN w h = val (h + 1) (fun x => 2 ^ k x - 1) w := by
    refine word_ext _ _ (and_lt _ _ hX) (w128 _ c1) fun j hj => ?_
    rw [Nat.testBit_and, full_cellW, cellW_tb, val_tb _ (by omega) _ c1, decide_eq_true hj, Nat.testBit_two_pow_sub_one, Bool.true_and, Bool.and_true]
    by_cases hx : j / (h + 1) < w
    · by_cases hy : j % (h + 1) < h
      · have := (hk (j / (h + 1))).2 hx (j % (h + 1)) hy
        rw [div_pl] at this
        rw [this, decide_eq_true (show j / (h + 1) < w ∧ j % (h + 1) < h from ⟨hx, hy⟩), decide_eq_true hx, Bool.and_true, Bool.true_and]
      · have := (hk (j / (h + 1))).1
        rw [decide_eq_false (show ¬ (j / (h + 1) < w ∧ j % (h + 1) < h) by omega), decide_eq_false (show ¬ j % (h + 1) < k (j / (h + 1)) by omega), Bool.and_false, Bool.and_false]
    · rw [decide_eq_false (show ¬ (j / (h + 1) < w ∧ j % (h + 1) < h) by omega), decide_eq_false hx, Bool.and_false, Bool.false_and]
  have e2 : cellW w h (fun _ y => decide (y = 0)) = val (h + 1) (fun _ => 1) w := by
    refine word_ext _ _ (cellW_lt _ _ _) (w128 _ c3) fun j hj => ?_
    rw [cellW_tb, val_tb _ (by omega) _ c3, decide_eq_true hj, Bool.true_and]
    show _ = (_ && Nat.testBit 1 _)
    rw [show Nat.testBit 1 (j % (h + 1)) = decide (0 = j % (h + 1)) from Nat.testBit_two_pow (n := 0)]
    by_cases hx : j / (h + 1) < w
    · by_cases hy : j % (h + 1) = 0
      · simp [hx, hy]; omega
      · have : ¬ 0 = j % (h + 1) := fun e => hy e.symm
        simp [hx, hy, this]
    · simp [hx]
  have e3 : addN (X &&& fullN w h) (cellW w h fun _ y => decide (y = 0)) = val (h + 1) (fun x => 2 ^ k x) w := by
    unfold addN
    rw [e1, e2, val_add, show (fun x => 2 ^ k x - 1 + 1) = (fun x => 2 ^ k x) from funext fun x => by have := Nat.two_pow_pos (k x); omega]
    exact Nat.mod_eq_of_lt (w128 _ c2)
  rw [e3]
  refine word_ext _ _ (and_lt _ _ (w128 _ c2)) (cellW_lt _ _ _) fun j hj => ?_
  rw [Nat.testBit_and, full_cellW, cellW_tb, cellW_tb, val_tb _ (by omega) _ c2, Nat.testBit_two_pow, decide_eq_true hj, Bool.true_and, Bool.true_and, Bool.and_true]
  by_cases hx : j / (h + 1) < w
  · by_cases hy : j % (h + 1) < h
    · rw [decide_eq_true (show j / (h + 1) < w ∧ j % (h + 1) < h from ⟨hx, hy⟩), decide_eq_true hx, Bool.and_true, Bool.true_and, Bool.true_and]
      have k1 := (hk (j / (h + 1))).2 hx (j % (h + 1)) hy
      rw [k1]
      by_cases hz : j % (h + 1) = 0
      · rw [hz, decide_eq_true (show (0 : Nat) = 0 from rfl), Bool.true_or, Bool.and_true]
        by_cases hkz : k (j / (h + 1)) = 0
        · simp [hkz]
        · have : ¬ k (j / (h + 1)) = 0 := hkz
          have : 0 < k (j / (h + 1)) := by omega
          simp [hkz, this]
      · have k2 := (hk (j / (h + 1))).2 hx (j % (h + 1) - 1) (by omega)
        rw [k2, decide_eq_false hz, Bool.false_or]
        rw [Bool.eq_iff_iff]
        simp only [decide_eq_true_eq, Bool.and_eq_true, Bool.not_eq_true', decide_eq_false_iff_not]
        omega
    · rw [decide_eq_false (show ¬ (j / (h + 1) < w ∧ j % (h + 1) < h) by omega), Bool.and_false, Bool.false_and]
  · rw [decide_eq_false (show ¬ (j / (h + 1) < w ∧ j % (h + 1) < h) by omega), Bool.and_false, Bool.false_and]
/-! ### The reference's loops -/
def heapB (w h X : Nat) (c : C25) : Bool := !(decide (c.f1 > 0) && hasC w h X c.f0 c.f1) || hasC w h X c.f0 (c.f1 - 1)
def nextB (w h X : Nat) (c : C25) : Bool := !hasC w h X c.f0 c.f1 && (decide (c.f1 = 0) || hasC w h X c.f0 (c.f1 - 1))
def inC (w h : Nat) (c : C25) : Prop := 0 ≤ c.f0 ∧ c.f0 < w ∧ 0 ≤ c.f1 ∧ c.f1 < h
theorem rd_get (l : List C25) (i : Nat) (hi : i < l.length) : rd_T49 l (i : Int) = l[i] := by
  unfold rd_T49
  rw [Int.toNat_natCast, List.getD_eq_getElem?_getD, List.getElem?_eq_getElem hi]; rfl
theorem heaped_go (w h X : Nat) (hm : mayB w h = true) (hX : X < W128) (l : List C25) (hl : l.length ≤ 1000) (hc : ∀ c ∈ l, inC w h c) (d : Nat) : ∀ i : Nat, i + d = l.length → Ev (fun k => plummetref09_Heaped.l0 k l i w h (hiN X) (loN X)) ((l.drop i).all (heapB w h X)) := by
  have hb : w ≤ 8 ∧ h ≤ 8 := by simp only [mayB, decide_eq_true_eq] at hm; omega
  induction d with
  | zero =>
    intro i hi
    rw [List.drop_of_length_le (by omega)]
    refine Ev.step (f := fun _ => some true) (fun k => ?_) (Ev.now _)
    simp only [plummetref09_Heaped.l0]
    rw [if_neg (by omega)]
  | succ d ih =>
    intro i hi
    have hi' : i < l.length := by omega
    have hin := hc _ (List.getElem_mem hi')
    unfold inC at hin
    have e1 : wrap64 ((l[i]).f1 - 1) = (l[i]).f1 - 1 := by unfold wrap64; omega
    rw [List.drop_eq_getElem_cons hi', List.all_cons]
    cases hB : heapB w h X l[i] with
    | true =>
      rw [Bool.true_and]
      refine Ev.step (fun k => ?_) (ih (i + 1) (by omega))
      simp only [plummetref09_Heaped.l0]
      rw [if_pos (by omega), if_pos (by omega), rd_get l i hi', rhas w h X hm hX, rhas w h X hm hX, e1, wsucc i (by omega)]
      unfold heapB at hB
      by_cases h1 : (l[i]).f1 > 0
      · rw [if_pos h1]
        cases h2 : hasC w h X (l[i]).f0 (l[i]).f1
        · simp
        · rw [decide_eq_true h1, h2] at hB
          simp only [Bool.true_and, Bool.not_true, Bool.false_or] at hB
          simp [hB]
      · rw [if_neg h1]
    | false =>
      rw [Bool.false_and]
      refine Ev.step (f := fun _ => some false) (fun k => ?_) (Ev.now _)
      simp only [plummetref09_Heaped.l0]
      rw [if_pos (by omega), if_pos (by omega), rd_get l i hi', rhas w h X hm hX, rhas w h X hm hX, e1]
      unfold heapB at hB
      rw [Bool.or_eq_false_iff, Bool.not_eq_false', Bool.and_eq_true, decide_eq_true_eq] at hB
      rw [if_pos hB.1.1, hB.1.2, hB.2]
      simp
theorem next_go (w h X : Nat) (hm : mayB w h = true) (hX : X < W128) (l : List C25) (hl : l.length ≤ 1000) (hc : ∀ c ∈ l, inC w h c) (d : Nat) : ∀ (i : Nat) (acc : List C25), i + d = l.length → acc.length ≤ i → acc ++ (l.drop i).filter (nextB w h X) = l.filter (nextB w h X) →
    Ev (fun k => plummetref09_Next.l0 k acc l i w h (hiN X) (loN X)) (hiN (atN ((l.filter (nextB w h X)).map (plc h))), loN (atN ((l.filter (nextB w h X)).map (plc h)))) := by
  have hb : w ≤ 8 ∧ h ≤ 8 := by simp only [mayB, decide_eq_true_eq] at hm; omega
  induction d with
  | zero =>
    intro i acc hi ha he
    rw [List.drop_of_length_le (by omega), List.filter_nil, List.append_nil] at he
    subst he
    have hs := rset w h (by omega) (l.filter (nextB w h X)) (by have := List.length_filter_le (nextB w h X) l; omega) (fun c hcm => by have := hc c (List.mem_filter.1 hcm).1; unfold inC at this; omega)
    refine Ev.step (fun k => ?_) hs
    simp only [plummetref09_Next.l0]
    rw [if_neg (by omega)]
    cases plummetref09_Set.f k w h (l.filter (nextB w h X)) <;> rfl
  | succ d ih =>
    intro i acc hi ha he
    have hi' : i < l.length := by omega
    have hin := hc _ (List.getElem_mem hi')
    unfold inC at hin
    have e1 : wrap64 ((l[i]).f1 - 1) = (l[i]).f1 - 1 := by unfold wrap64; omega
    rw [List.drop_eq_getElem_cons hi', List.filter_cons] at he
    cases hB : nextB w h X l[i] with
    | true =>
      rw [hB, if_pos rfl, List.append_cons] at he
      refine Ev.step (fun k => ?_) (ih (i + 1) (acc ++ [l[i]]) (by omega) (by simp; omega) he)
      simp only [plummetref09_Next.l0]
      rw [if_pos (by omega), if_pos (by omega), rd_get l i hi', rhas w h X hm hX, rhas w h X hm hX, e1, wsucc i (by omega)]
      unfold nextB at hB
      rw [Bool.and_eq_true, Bool.not_eq_true'] at hB
      rw [hB.1]
      simp only [Option.bind_some, Bool.false_eq_true, if_false]
      by_cases h1 : (l[i]).f1 = 0
      · rw [if_pos h1, if_pos (by omega)]
      · rw [decide_eq_false h1, Bool.false_or] at hB
        rw [if_neg h1, hB.2, if_pos rfl, if_pos (by omega)]
    | false =>
      rw [hB, if_neg (by simp)] at he
      refine Ev.step (fun k => ?_) (ih (i + 1) acc (by omega) (by omega) he)
      simp only [plummetref09_Next.l0]
      rw [if_pos (by omega), if_pos (by omega), rd_get l i hi', rhas w h X hm hX, rhas w h X hm hX, e1, wsucc i (by omega)]
      unfold nextB at hB
      cases h2 : hasC w h X (l[i]).f0 (l[i]).f1
      · rw [h2] at hB
        simp only [Bool.not_false, Bool.true_and, Bool.or_eq_false_iff, decide_eq_false_iff_not] at hB
        simp only [Option.bind_some, Bool.false_eq_true, if_false]
        rw [if_neg hB.1, hB.2]
        simp
      · simp
theorem cells_in (w h : Nat) (hh : 0 < h) : ∀ c ∈ cellsTo h (w * h), inC w h c := by
  intro c hc
  obtain ⟨x, y, rfl, hx, hy⟩ := (cellsTo_mem w h c hh).1 hc
  unfold inC
  simp only []
  omega
theorem hasC_nat (w h X x y : Nat) (hx : x < w) (hy : y < h) : hasC w h X (x : Int) (y : Int) = X.testBit (pl h x y) := by
  unfold hasC
  rw [decide_eq_true (by omega), Bool.true_and, Int.toNat_natCast, Int.toNat_natCast]
theorem hasC_low (w h X x y : Nat) (hx : x < w) (hy : y < h) (h0 : 0 < y) : hasC w h X (x : Int) ((y : Int) - 1) = X.testBit (pl h x (y - 1)) := by
  rw [show (y : Int) - 1 = ((y - 1 : Nat) : Int) by omega]
  exact hasC_nat w h X x (y - 1) hx (by omega)
def heapA (w h X : Nat) : Bool := (cellsTo h (w * h)).all (heapB w h X)
theorem heapA_spec (w h X : Nat) (hh : 0 < h) (hA : heapA w h X = true) : ∀ x y, x < w → y + 1 < h → X.testBit (pl h x (y + 1)) = true → X.testBit (pl h x y) = true := by
  intro x y hx hy hp
  have := List.all_eq_true.1 hA ⟨(x : Int), ((y + 1 : Nat) : Int)⟩ ((cellsTo_mem w h _ hh).2 ⟨x, y + 1, rfl, hx, hy⟩)
  unfold heapB at this
  simp only [] at this
  rw [hasC_nat w h X x (y + 1) hx hy, hasC_low w h X x (y + 1) hx hy (by omega), hp, decide_eq_true (by omega)] at this
  simpa using this
def nextW (w h X : Nat) : Nat := cellW w h fun x y => !X.testBit (pl h x y) && (decide (y = 0) || X.testBit (pl h x (y - 1)))
theorem next_word (w h X : Nat) (hw : w ≤ 8) (hh : 0 < h ∧ h ≤ 8) : atN (((cellsTo h (w * h)).filter (nextB w h X)).map (plc h)) = nextW w h X := by
  refine atN_cells w h hw hh.2 _ _ fun c => ?_
  rw [List.mem_filter, cellsTo_mem w h c hh.1]
  have key : ∀ x y : Nat, x < w → y < h → nextB w h X ⟨(x : Int), (y : Int)⟩ = (!X.testBit (pl h x y) && (decide (y = 0) || X.testBit (pl h x (y - 1)))) := by
    intro x y hx hy
    unfold nextB
    simp only []
    rw [hasC_nat w h X x y hx hy]
    by_cases h0 : y = 0
    · subst h0; simp
    · rw [hasC_low w h X x y hx hy (by omega), decide_eq_false h0, decide_eq_false (show ¬ (y : Int) = 0 by omega)]
  constructor
  · rintro ⟨⟨x, y, rfl, hx, hy⟩, hP⟩
    exact ⟨x, y, rfl, hx, hy, by rw [← key x y hx hy]; exact hP⟩
  · rintro ⟨x, y, rfl, hx, hy, hP⟩
    exact ⟨⟨x, y, rfl, hx, hy⟩, by rw [key x y hx hy]; exact hP⟩
theorem rheaped (w h X : Nat) (hm : mayB w h = true) (hX : X < W128) : Ev (fun k => plummetref09_Heaped.f k w h (hiN X) (loN X)) (heapA w h X) := by
  have hb : (4 ≤ w ∧ w ≤ 8) ∧ (4 ≤ h ∧ h ≤ 8) := by simp only [mayB, decide_eq_true_eq] at hm; omega
  have := heaped_go w h X hm hX (cellsTo h (w * h)) (by rw [cellsTo_length]; have := mul_bd w h 8 8 hb.1.2 hb.2.2; omega) (cells_in w h (by omega)) (w * h) 0 (by rw [cellsTo_length]; omega)
  rw [List.drop_zero] at this
  unfold plummetref09_Heaped.f
  exact Ev.bind (rcells w h hm) this
theorem rnext (w h X : Nat) (hm : mayB w h = true) (hX : X < W128) : Ev (fun k => plummetref09_Next.f k w h (hiN X) (loN X)) (hiN (nextW w h X), loN (nextW w h X)) := by
  have hb : (4 ≤ w ∧ w ≤ 8) ∧ (4 ≤ h ∧ h ≤ 8) := by simp only [mayB, decide_eq_true_eq] at hm; omega
  have := next_go w h X hm hX (cellsTo h (w * h)) (by rw [cellsTo_length]; have := mul_bd w h 8 8 hb.1.2 hb.2.2; omega) (cells_in w h (by omega)) (w * h) 0 [] (by rw [cellsTo_length]; omega) (by simp) (by simp)
  rw [next_word w h X hb.1.2 ⟨by omega, hb.2.2⟩] at this
  unfold plummetref09_Next.f
  exact Ev.bind (rcells w h hm) this
/-! ### What the program answers -/
def lowW (w h : Nat) : Nat := cellW w h fun _ y => decide (y = 0)
set_option maxRecDepth 100000 in
theorem low_all : ∀ w : Fin 5, ∀ h : Fin 5, bits_Bottom.f 100 ((w.val + 4 : Nat) : Int) ((h.val + 4 : Nat) : Int) = some (hiN (lowW (w.val + 4) (h.val + 4)), loN (lowW (w.val + 4) (h.val + 4))) := by decide +kernel
theorem low_ev (w h : Nat) (hm : mayB w h = true) : Ev (fun k => bits_Bottom.f k w h) (hiN (lowW w h), loN (lowW w h)) := by
  have hb : (4 ≤ w ∧ w ≤ 8) ∧ (4 ≤ h ∧ h ≤ 8) := by simp only [mayB, decide_eq_true_eq] at hm; omega
  have := low_all ⟨w - 4, by omega⟩ ⟨h - 4, by omega⟩
  simp only [show w - 4 + 4 = w by omega, show h - 4 + 4 = h by omega] at this
  exact Ev.of (bits_Bottom.mono _ _) this
theorem full_ev (w h : Nat) (hm : mayB w h = true) : Ev (fun k => bits_Full.f k w h) (hiN (fullN w h), loN (fullN w h)) := by
  have hb : (4 ≤ w ∧ w ≤ 8) ∧ (4 ≤ h ∧ h ≤ 8) := by simp only [mayB, decide_eq_true_eq] at hm; omega
  exact Ev.of (bits_Full.mono _ _) (full_f w h hb.1 hb.2)
theorem wAdd (a b : Nat) (ha : a < W128) (hb : b < W128) : wide_Add.f (hiN a) (loN a) (hiN b) (loN b) = some (hiN (addN a b), loN (addN a b)) := by
  have h1 := hiN_b a ha
  have h2 := loN_b a
  have h3 := hiN_b b hb
  have h4 := loN_b b
  unfold wide_Add.f
  rw [if_pos ⟨⟨h1.1, h1.2, h2.1, h2.2⟩, ⟨h3.1, h3.2, h4.1, h4.2⟩⟩, N2_halves, N2_halves]
theorem bnext (w h X : Nat) (hm : mayB w h = true) (hX : X < W128) : Ev (fun k => bits_Next.f k w h (hiN X) (loN X)) (hiN (addN (X &&& fullN w h) (lowW w h) &&& fullN w h), loN (addN (X &&& fullN w h) (lowW w h) &&& fullN w h)) := by
  unfold bits_Next.f
  refine Ev.bind (full_ev w h hm) ?_
  simp only [wAnd X (fullN w h) hX (fullN_lt w h), Option.bind_some]
  refine Ev.bind (low_ev w h hm) ?_
  simp only [wAdd _ (lowW w h) (and_lt _ _ hX) (cellW_lt _ _ _), Option.bind_some, wAnd _ (fullN w h) (addN_lt _ _) (fullN_lt w h)]
  exact Ev.now _
theorem live_ev : Ev (fun k => plummetlaw09_live.f k) true := Ev.of plummetlaw09_live.mono (k := 100) (by decide +kernel)
theorem bnext_no (a b p q : Int) (hw : wfW p q) (hm : mayB a b = false) : Ev (fun k => bits_Next.f k a b p q) (0, 0) := by
  obtain ⟨X, hX, rfl, rfl⟩ : ∃ X, X < W128 ∧ p = hiN X ∧ q = loN X := ⟨N2 p q, N2_lt' hw, (hiN_N2 _ _ hw.1 hw.2.2.1 hw.2.2.2).symm, (loN_N2 _ _ hw.1 hw.2.2.1 hw.2.2.2).symm⟩
  have z : hiN 0 = 0 ∧ loN 0 = 0 := by decide
  have h0 : (0 : Nat) < W128 := by decide
  have hf : Ev (fun k => bits_Full.f k a b) (0, 0) := Ev.of (bits_Full.mono _ _) (full_no a b hm)
  have hl : Ev (fun k => bits_Bottom.f k a b) (0, 0) := Ev.of (bits_Bottom.mono _ _) (k := 100) (by unfold bits_Bottom.f; rw [each_no _ _ _ 99 hm]; rfl)
  have a1 := wAnd X 0 hX h0
  have a2 := wAdd 0 0 h0 h0
  have a3 := wAnd 0 0 h0 h0
  rw [Nat.and_zero, z.1, z.2] at a1
  rw [show addN 0 0 = 0 from rfl, z.1, z.2] at a2
  rw [Nat.and_zero, z.1, z.2] at a3
  unfold bits_Next.f
  refine Ev.bind hf ?_
  simp only [a1, Option.bind_some]
  refine Ev.bind hl ?_
  simp only [a2, a3, Option.bind_some]
  exact Ev.now _
theorem next_law (a b p q : Int) (hw : wfW p q) : Ev (fun k => plummetlaw09_BitsNext.f k a b p q) true := by
  obtain ⟨X, hX, rfl, rfl⟩ : ∃ X, X < W128 ∧ p = hiN X ∧ q = loN X := ⟨N2 p q, N2_lt' hw, (hiN_N2 _ _ hw.1 hw.2.2.1 hw.2.2.2).symm, (loN_N2 _ _ hw.1 hw.2.2.1 hw.2.2.2).symm⟩
  unfold plummetlaw09_BitsNext.f
  cases hm : mayB a b with
  | true =>
    obtain ⟨w, h, rfl, rfl, h1, h2⟩ := may_or a b hm
    refine Ev.bind (rheaped w h X hm hX) ?_
    cases hA : heapA w h X with
    | true =>
      simp only [if_true]
      refine Ev.bind live_ev ?_
      simp only [if_true]
      refine Ev.bind (bnext w h X hm hX) ?_
      refine Ev.bind (rnext w h X hm hX) ?_
      rw [show lowW w h = cellW w h fun _ y => decide (y = 0) from rfl, next_num w h X h1.2 h2.2 hX (heapA_spec w h X (by omega) hA)]
      refine Ev.congr (fun k => ?_) (Ev.now true)
      unfold nextW
      simp
    | false =>
      simp only [Bool.false_eq_true, if_false]
      refine Ev.bind live_ev ?_
      exact Ev.now _
  | false =>
    have e1 : Ev (fun k => plummetref09_Heaped.f k a b (hiN X) (loN X)) true := by
      unfold plummetref09_Heaped.f
      refine Ev.bind (rcells_no a b hm) ?_
      refine Ev.step (f := fun _ => some true) (fun k => ?_) (Ev.now _)
      simp [plummetref09_Heaped.l0]
    have e2 : Ev (fun k => plummetref09_Next.f k a b (hiN X) (loN X)) (0, 0) := by
      unfold plummetref09_Next.f
      refine Ev.bind (rcells_no a b hm) ?_
      refine Ev.step (fun k => ?_) (rset_nil a b)
      simp only [plummetref09_Next.l0]
      rw [if_neg (by simp)]
      cases plummetref09_Set.f k a b [] <;> rfl
    refine Ev.bind e1 ?_
    simp only [if_true]
    refine Ev.bind live_ev ?_
    simp only [if_true]
    refine Ev.bind (bnext_no a b _ _ hw hm) ?_
    refine Ev.bind e2 ?_
    exact Ev.now _
end Go.Proofs.Ytnenmiaeomcdpaa.KX
namespace Go.Proofs.Ytnenmiaeomcdpaa.Pure
open Go.RowKit
theorem BitsNext (a0_0 : Int) (a0_1 : Int) (a1_0 : Int) (a1_1 : Int) (_h0 : (Lit.int .i64 a0_0).wf = true) (_h1 : (Lit.int .i64 a0_1).wf = true) (h2 : (Lit.int .u64 a1_0).wf = true) (h3 : (Lit.int .u64 a1_1).wf = true) : ∃ k, KX.plummetlaw09_BitsNext.f k a0_0 a0_1 a1_0 a1_1 = some true := (KX.next_law a0_0 a0_1 a1_0 a1_1 (KW.wf_pair h2 h3)).rounds
end Go.Proofs.Ytnenmiaeomcdpaa.Pure
