/-
  How often each column is played: the statement of MovesCounts, as a pure one; conditions: none beyond the statement's own.
-/
import Derived.Test.YtoaejpjgicnfoaaPM2
namespace Go.Proofs.Ytoaejpjgicnfoaa.PM
set_option linter.unusedVariables false
open Go.RowKit Go.Proofs.Ytoaejpjgicnfoaa.Given Go.Proofs.Ytoaejpjgicnfoaa.KM Go.Proofs.YtoaejpjgicnfoaaW.PrintWords Go.Proofs.YtoaejpjgicnfoaaW.PrintLast

def cnt (x : Int) : List Int → Int
  | [] => 0
  | y :: t => (if y = x then 1 else 0) + cnt x t
theorem cnt_app (x : Int) (l t : List Int) : cnt x (l ++ t) = cnt x l + cnt x t := by
  induction l with
  | nil => simp [cnt]
  | cons y l ih => simp only [List.cons_append, cnt, ih]; omega
theorem cnt_bd (x : Int) (l : List Int) : 0 ≤ cnt x l ∧ cnt x l ≤ l.length := by
  induction l with
  | nil => simp [cnt]
  | cons y l ih => simp only [cnt, List.length_cons]; split <;> omega
def counts (n : Nat) (l : List Int) : List Int := (List.range n).map fun x : Nat => cnt (x : Int) l
theorem counts_len (n : Nat) (l : List Int) : (counts n l).length = n := by simp [counts]
theorem counts_get (n : Nat) (l : List Int) (i : Nat) (h : i < (counts n l).length) : (counts n l)[i] = cnt (i : Int) l := by simp [counts]
theorem counts_snoc (n : Nat) (l : List Int) (y : Nat) (hy : y < n) : counts n (l ++ [(y : Int)]) = (counts n l).set y (cnt (y : Int) l + 1) := by
  apply List.ext_getElem
  · simp [counts_len]
  · intro i h1 h2
    rw [counts_get, List.getElem_set, cnt_app]
    by_cases e : y = i
    · subst e; rw [if_pos rfl]; simp [cnt]
    · rw [if_neg e, counts_get]; simp only [cnt]; rw [if_neg (by omega)]; omega
theorem sum_set (xs : List Int) : ∀ (i : Nat) (v : Int) (h : i < xs.length), (xs.set i v).sum = xs.sum - xs[i] + v := by
  induction xs with
  | nil => intro i v h; simp at h
  | cons x t ih =>
    intro i v h
    cases i with
    | zero => simp; omega
    | succ i => simp [ih i v (by simpa using h)]; omega
theorem counts_nil (n : Nat) : counts n [] = List.replicate n 0 := by
  apply List.ext_getElem
  · simp [counts_len]
  · intro i h1 h2; rw [counts_get]; simp [cnt]
theorem counts_sum (n : Nat) (l : List Int) (hc : ∀ x ∈ l, 0 ≤ x ∧ x < n) : (counts n l).sum = l.length := by
  have key : ∀ i, i ≤ l.length → (counts n (l.take i)).sum = i := by
    intro i
    induction i with
    | zero =>
      intro _
      rw [List.take_zero, counts_nil]
      have : ∀ m : Nat, (List.replicate m (0 : Int)).sum = 0 := by
        intro m; induction m with
        | zero => rfl
        | succ m ih => rw [List.replicate_succ, List.sum_cons, ih]; rfl
      rw [this]; rfl
    | succ i ih =>
      intro hi
      have h1 : i < l.length := by omega
      have hx := hc _ (List.getElem_mem h1)
      rw [List.take_succ_eq_append_getElem h1]
      obtain ⟨y, hy⟩ : ∃ y : Nat, l[i] = (y : Int) := ⟨l[i].toNat, by omega⟩
      rw [hy, counts_snoc n _ y (by omega), sum_set _ _ _ (by rw [counts_len]; omega), ih (by omega), counts_get]
      omega
  have := key l.length (Nat.le_refl _)
  rwa [List.take_length] at this
theorem counts_loop (a : Int) (l : List Int) (hl : l.length ≤ 1000000) (ha : 4 ≤ a ∧ a ≤ 8) (hc : ∀ j, j < l.length → 0 ≤ colOf l j ∧ colOf l j < a) :
    ∀ d i, l.length - i = d → i ≤ l.length → Ev (fun k => moves_Counts.l0 k (counts a.toNat (l.take i)) l (l.length : Int) (i : Int)) (counts a.toNat l, 0) := by
  intro d
  induction d with
  | zero =>
    intro i hd hi
    have e : i = l.length := by omega
    subst e
    rw [List.take_length]
    refine Ev.step (f := fun _ => some (counts a.toNat l, 0)) (fun k => ?_) (Ev.now _)
    simp only [moves_Counts.l0]; rw [if_neg (by omega)]
  | succ d ih =>
    intro i hd hi
    have h1 : i < l.length := by omega
    have hci := hc i h1
    rw [colOf_get l i h1] at hci
    have h2 := ih (i + 1) (by omega) (by omega)
    obtain ⟨y, hy⟩ : ∃ y : Nat, l[i] = (y : Int) := ⟨l[i].toNat, by omega⟩
    rw [List.take_succ_eq_append_getElem h1, hy, counts_snoc _ _ y (by omega)] at h2
    have q1 : (i : Int) < (l.length : Int) := by omega
    have q2 : 0 ≤ (i : Int) := by omega
    have q3 : 0 ≤ (y : Int) := by omega
    have q4 : (y : Int) < ((counts a.toNat (l.take i)).length : Int) := by rewrite [counts_len]; omega
    have hw1 : wrap64 ((i : Int) + 1) = ((i + 1 : Nat) : Int) := by unfold wrap64; omega
    refine Ev.step (fun k => ?_) h2
    simp only [moves_Counts.l0]
    have hr : rd (counts a.toNat (l.take i)) (y : Int) = cnt (y : Int) (l.take i) := by
      rw [rd_get _ _ (by rw [counts_len]; omega), counts_get]
    have hb := cnt_bd (y : Int) (l.take i)
    have hbl : (l.take i).length ≤ 1000000 := by rewrite [List.length_take]; have := Nat.min_le_left i l.length; omega
    have hw : wrap64 (cnt (y : Int) (l.take i) + 1) = cnt (y : Int) (l.take i) + 1 := by unfold wrap64; omega
    rw [if_pos q1, if_pos q2, if_pos q1, rd_get _ _ h1, hy, if_pos q3, if_pos q4, hr, hw, hw1, Int.toNat_natCast]
theorem counts_ev (a b : Int) (l : List Int) (hl : l.length ≤ 1000000) : Ev (fun k => moves_Counts.f k a b l) (if (firstF a b l.length (colOf l)).2 = 0 then (counts a.toNat l, 0) else ([], (firstF a b l.length (colOf l)).2)) := by
  unfold moves_Counts.f
  rw [check_f a b l hl]
  simp only [Option.bind_some]
  by_cases he : (firstF a b l.length (colOf l)).2 = 0
  · obtain ⟨hp, _, hc⟩ := first_cols _ _ _ _ he
    obtain ⟨h4, h8, _, _⟩ := may_bd a b hp
    rw [if_pos he]
    have h := counts_loop a l hl ⟨h4, h8⟩ hc _ 0 rfl (by omega)
    rw [List.take_zero, counts_nil] at h
    refine Ev.congr (fun k => ?_) h
    rw [if_pos he, if_pos (by omega), if_pos (by omega)]; rfl
  · rw [if_neg he]
    refine Ev.congr (fun k => ?_) (Ev.now _)
    rw [if_neg he]
theorem refcounts_ev (a b : Int) (l : List Int) (hl : l.length ≤ 1000000) (ha : 4 ≤ a ∧ a ≤ 8) : Ev (fun k => plummetref07_Counts.f k a b l) (counts a.toNat l) := by
  have key : ∀ d x, a.toNat - x = d → x ≤ a.toNat → Ev (fun k => plummetref07_Counts.l0 k l ((counts a.toNat l).take x) (x : Int) a b) (counts a.toNat l) := by
    intro d
    induction d with
    | zero =>
      intro x hd hx
      have e : x = a.toNat := by omega
      subst e
      rw [List.take_of_length_le (by rw [counts_len]; exact Nat.le_refl _)]
      refine Ev.step (f := fun _ => some (counts a.toNat l)) (fun k => ?_) (Ev.now _)
      simp only [plummetref07_Counts.l0]; rw [if_neg (by omega)]
    | succ d ih =>
      intro x hd hx
      have h2 := ih (x + 1) (by omega) (by omega)
      rw [List.take_succ_eq_append_getElem (by rw [counts_len]; omega), counts_get] at h2
      have inner : ∀ e i, l.length - i = e → i ≤ l.length → Ev (fun k => plummetref07_Counts.l1 k l ((counts a.toNat l).take x) (x : Int) (cnt (x : Int) (l.take i)) (i : Int) a b) (counts a.toNat l) := by
        intro e
        induction e with
        | zero =>
          intro i he hi
          have e : i = l.length := by omega
          subst e
          rw [List.take_length]
          refine Ev.step (fun k => ?_) h2
          simp only [plummetref07_Counts.l1]
          have hw1 : wrap64 ((x : Int) + 1) = ((x + 1 : Nat) : Int) := by unfold wrap64; omega
          have hln : ((counts a.toNat l).take x).length < 17592186044416 := by rewrite [List.length_take]; have := Nat.min_le_left x (counts a.toNat l).length; omega
          rw [if_neg (by omega), if_pos hln, hw1]
        | succ e ih2 =>
          intro i he hi
          have h1 : i < l.length := by omega
          have h3 := ih2 (i + 1) (by omega) (by omega)
          rw [List.take_succ_eq_append_getElem h1, cnt_app] at h3
          have q1 : (i : Int) < (l.length : Int) := by omega
          have q2 : 0 ≤ (i : Int) := by omega
          have hw1 : wrap64 ((i : Int) + 1) = ((i + 1 : Nat) : Int) := by unfold wrap64; omega
          have hb := cnt_bd (x : Int) (l.take i)
          have hbl : (l.take i).length ≤ 1000000 := by rewrite [List.length_take]; have := Nat.min_le_left i l.length; omega
          have hw : wrap64 (cnt (x : Int) (l.take i) + 1) = cnt (x : Int) (l.take i) + 1 := by unfold wrap64; omega
          refine Ev.step (fun k => ?_) h3
          simp only [plummetref07_Counts.l1, cnt]
          rw [if_pos q1, if_pos q2, rd_get _ _ h1, hw, hw1]
          split <;> simp
      refine Ev.step (fun k => ?_) (inner _ 0 rfl (by omega))
      simp only [plummetref07_Counts.l0]
      rw [if_pos (by omega)]; rfl
  exact Ev.congr (fun k => by unfold plummetref07_Counts.f; rfl) (key _ 0 rfl (by omega))
theorem countss (a b : Int) (l : List Int) (_h2 : l.length ≤ maxLen) : ∃ k, plummetlaw07_MovesCounts.f k a b l = some true := by
  refine Ev.rounds (g := fun k => plummetlaw07_MovesCounts.f k a b l) ?_
  unfold plummetlaw07_MovesCounts.f
  by_cases h : (l.length : Int) > 200
  · simp only [if_pos h]; exact Ev.bind live_ev (Ev.now _)
  · simp only [if_neg h]
    refine Ev.bind (counts_ev a b l (by omega)) (Ev.bind (refcheck_ev a b l (by omega)) ?_)
    by_cases he : (firstF a b l.length (colOf l)).2 = 0
    · simp only [if_pos he, if_pos he.symm]
      obtain ⟨hp, _, hc⟩ := first_cols _ _ _ _ he
      obtain ⟨h4, h8, _, _⟩ := may_bd a b hp
      have hcl : ∀ x ∈ l, 0 ≤ x ∧ x < (a.toNat : Int) := by
        intro x hx
        obtain ⟨i, hi, rfl⟩ := List.getElem_of_mem hx
        have := hc i hi
        rw [colOf_get l i hi] at this; omega
      have hsum := counts_sum a.toNat l hcl
      have hbt : ∀ i (hi : i < (counts a.toNat l).length), 0 ≤ (counts a.toNat l)[i] ∧ (counts a.toNat l)[i] ≤ 200 := by
        intro i hi; rw [counts_get]; have := cnt_bd (i : Int) l; omega
      have hps : ∀ i, i ≤ a.toNat → 0 ≤ ((counts a.toNat l).take i).sum ∧ ((counts a.toNat l).take i).sum ≤ 200 * i := by
        intro i
        induction i with
        | zero => intro _; simp
        | succ i ih =>
          intro hi
          have h1 : i < (counts a.toNat l).length := by rw [counts_len]; omega
          have := ih (by omega)
          have := hbt i h1
          rw [List.take_succ_eq_append_getElem h1, List.sum_append]; simp; omega
      have key : ∀ d i, a.toNat - i = d → i ≤ a.toNat → Ev (fun k => plummetlaw07_MovesCounts.l0 k l (counts a.toNat l) ((counts a.toNat l).take i).sum (i : Int) a b) true := by
        intro d
        induction d with
        | zero =>
          intro i hd hi
          have e : i = a.toNat := by omega
          subst e
          rw [List.take_of_length_le (by rw [counts_len]; exact Nat.le_refl _), hsum]
          refine Ev.step (fun k => ?_) (Ev.bind live_ev (f := fun k t => if t = true then ((plummetref07_Counts.f k a b l).bind fun t238 => ((plummetref01_Same.f k (counts a.toNat l) t238).bind fun t241 => (if t241 = true then (some ((l.length : Int) == (l.length : Int))) else (some false)))) else some false) ?_)
          · simp only [plummetlaw07_MovesCounts.l0]
            rw [if_neg (by rw [counts_len]; omega)]
          · simp only [if_true]
            refine Ev.bind (refcounts_ev a b l (by omega) ⟨h4, h8⟩) (Ev.bind (same_refl _ (by rw [counts_len]; omega)) ?_)
            exact Ev.congr (fun k => by simp) (Ev.now _)
        | succ d ih =>
          intro i hd hi
          have h1 : i < (counts a.toNat l).length := by rw [counts_len]; omega
          have h2 := ih (i + 1) (by omega) (by omega)
          have hs1 := hps i (by omega)
          have hs2 := hbt i h1
          rw [List.take_succ_eq_append_getElem h1, List.sum_append, List.sum_singleton] at h2
          have q1 : (i : Int) < ((counts a.toNat l).length : Int) := by omega
          have q2 : 0 ≤ (i : Int) := by omega
          have hw : wrap64 (((counts a.toNat l).take i).sum + (counts a.toNat l)[i]) = ((counts a.toNat l).take i).sum + (counts a.toNat l)[i] := by unfold wrap64; omega
          have hw1 : wrap64 ((i : Int) + 1) = ((i + 1 : Nat) : Int) := by clear hw hs1 hs2 hps hbt hsum; unfold wrap64; omega
          refine Ev.step (fun k => ?_) h2
          simp only [plummetlaw07_MovesCounts.l0]
          rw [if_pos q1, if_pos q2, rd_get _ _ h1, hw, hw1]
      exact key _ 0 rfl (by omega)
    · simp only [if_neg he, if_true]
      refine Ev.bind live_ev ?_
      exact Ev.congr (fun k => by simp) (Ev.now _)
end Go.Proofs.Ytoaejpjgicnfoaa.PM
