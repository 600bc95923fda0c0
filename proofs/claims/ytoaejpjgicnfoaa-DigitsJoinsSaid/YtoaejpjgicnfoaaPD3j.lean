/-
  What both joinings and the comparing of lists answer; conditions: the numbers are of their kind, lists and texts are not too long.
-/
import Derived.Test.YtoaejpjgicnfoaaPD3
namespace Go.Proofs.Ytoaejpjgicnfoaa.PD
open Go.RowKit Go.Proofs.Ytoaejpjgicnfoaa.Given Go.Proofs.Ytoaejpjgicnfoaa.KD Go.Proofs.YtoaejpjgicnfoaaW.PrintWords Go.Proofs.YtoaejpjgicnfoaaW.PrintLast

/-! ### lists -/
theorem rd_get (l : List Int) (i : Nat) (h : i < l.length) : rd l (i : Int) = l[i] := by
  simp [rd, h]
theorem same_ev (a b : List Int) (hl : a.length ≤ 9223372036854775807) : Ev (fun k => plummetref01_Same.f k a b) (decide (a = b)) := by
  by_cases he : a.length = b.length
  · have h : ∀ d i, a.length - i = d → i ≤ a.length → a.take i = b.take i → Ev (fun k => plummetref01_Same.l0 k a b (i : Int)) (decide (a = b)) := by
      intro d
      induction d with
      | zero =>
        intro i hd hi ht
        have : i = a.length := by omega
        subst this
        rw [List.take_length, he, List.take_length] at ht
        rw [decide_eq_true ht]
        refine Ev.step (f := fun _ => some true) (fun k => ?_) (Ev.now _)
        simp only [plummetref01_Same.l0]
        rw [if_neg (by omega)]
      | succ d ih =>
        intro i hd hi ht
        have h1 : i < a.length := by omega
        have h2 : i < b.length := by omega
        by_cases hx : a[i] = b[i]
        · refine Ev.step (fun k => ?_) (ih (i + 1) (by omega) (by omega) (by rw [List.take_succ_eq_append_getElem h1, List.take_succ_eq_append_getElem h2, ht, hx]))
          simp only [plummetref01_Same.l0]
          rw [if_pos (by omega), if_pos (by omega), if_pos (by omega), rd_get _ _ h1, rd_get _ _ h2, if_pos hx, show wrap64 ((i : Int) + 1) = ((i + 1 : Nat) : Int) by unfold wrap64; omega]
        · rw [decide_eq_false (by intro e; subst e; exact hx rfl)]
          refine Ev.step (f := fun _ => some false) (fun k => ?_) (Ev.now _)
          simp only [plummetref01_Same.l0]
          rw [if_pos (by omega), if_pos (by omega), if_pos (by omega), rd_get _ _ h1, rd_get _ _ h2, if_neg hx]
    refine Ev.congr (fun k => ?_) (h _ 0 rfl (by omega) rfl)
    unfold plummetref01_Same.f
    rw [if_pos (by omega)]; rfl
  · rw [decide_eq_false (by intro e; subst e; exact he rfl)]
    refine Ev.congr (f := fun _ => some false) (fun k => ?_) (Ev.now _)
    unfold plummetref01_Same.f
    rw [if_neg (by omega)]
def joinL (sep : List UInt8) : List Int → List UInt8
  | [] => []
  | a :: t => decL a ++ t.flatMap fun b => sep ++ decL b
theorem joinL_snoc (sep : List UInt8) (l : List Int) (b : Int) : joinL sep (l ++ [b]) = joinL sep l ++ ((if l = [] then [] else sep) ++ decL b) := by
  cases l with
  | nil => simp [joinL]
  | cons a t => simp [joinL]
theorem joinL_len (sep : List UInt8) (l : List Int) (hl : ∀ x ∈ l, Ok64 x) : (joinL sep l).length ≤ l.length * (sep.length + 20) := by
  cases l with
  | nil => simp [joinL]
  | cons a t =>
    have h : ∀ t : List Int, (∀ x ∈ t, Ok64 x) → (t.flatMap fun b => sep ++ decL b).length ≤ t.length * (sep.length + 20) := by
      intro t
      induction t with
      | nil => intro _; simp
      | cons b t ih =>
        intro ht
        have h1 := ih (fun x hx => ht x (by simp [hx]))
        have h2 := (decL_len b (ht b (by simp))).2
        have e : (t.length + 1) * (sep.length + 20) = t.length * (sep.length + 20) + (sep.length + 20) := by rw [Nat.add_mul, Nat.one_mul]
        simp only [List.flatMap_cons, List.length_append, List.length_cons]; omega
    have h1 := h t (fun x hx => hl x (by simp [hx]))
    have h2 := (decL_len a (hl a (by simp))).2
    have e : (t.length + 1) * (sep.length + 20) = t.length * (sep.length + 20) + (sep.length + 20) := by rw [Nat.add_mul, Nat.one_mul]
    simp only [joinL, List.length_append, List.length_cons]; omega
def nat8 (l : List UInt8) : List Int := l.map fun c => (c.toNat : Int)
theorem bytesOf_L (s : ByteArray) : bytesOf s = nat8 (L s) := rfl
theorem strOf_nat8 (l : List UInt8) : strOfNums (nat8 l) = B l := by
  apply ByteArray.ext; apply Array.toList_inj.1
  rw [strOfNums_data]
  show List.map _ (List.map _ l) = l
  rw [List.map_map]
  conv => rhs; rw [← List.map_id l]
  apply List.map_congr_left
  intro x _; simp
theorem nat8_app (a b : List UInt8) : nat8 a ++ nat8 b = nat8 (a ++ b) := by simp [nat8]
theorem nat8_len (a : List UInt8) : (nat8 a).length = a.length := by simp [nat8]
theorem bytesOf_B (l : List UInt8) : bytesOf (B l) = nat8 l := by rw [bytesOf_L, L_B]
theorem take_ne (l : List Int) (i : Nat) (hi : i ≤ l.length) (h0 : ¬ i = 0) : l.take i ≠ [] := by
  intro e; have h9 := congrArg List.length e; rw [List.length_take, Nat.min_eq_left hi, List.length_nil] at h9; exact h0 h9
theorem join_ev (sep : ByteArray) (l : List Int) (hl : ∀ x ∈ l, Ok64 x) (hn : l.length * (sep.size + 20) + 20 < 140737488355328) (hl2 : l.length ≤ 1000000) : Ev (fun k => digits_Join.f k sep l) (B (joinL (L sep) l)) := by
  have h : ∀ d i, l.length - i = d → i ≤ l.length → Ev (fun k => digits_Join.l0 k sep (nat8 (joinL (L sep) (l.take i))) l (l.length : Int) (i : Int)) (B (joinL (L sep) l)) := by
    intro d
    induction d with
    | zero =>
      intro i hd hi
      have : i = l.length := by omega
      subst this
      rw [List.take_length]
      refine Ev.step (f := fun _ => some (B (joinL (L sep) l))) (fun k => ?_) (Ev.now _)
      simp only [digits_Join.l0]
      rw [if_neg (by omega), strOf_nat8]
    | succ d ih =>
      intro i hd hi
      have h1 : i < l.length := by omega
      have h2 := ih (i + 1) (by omega) (by omega)
      rw [List.take_succ_eq_append_getElem h1, joinL_snoc] at h2
      have hx : Ok64 l[i] := hl _ (List.getElem_mem h1)
      have hx2 := decL_len _ hx
      have hlen := joinL_len (L sep) (l.take i) (fun x hx => hl x (List.mem_of_mem_take hx))
      rw [L_len, List.length_take, Nat.min_eq_left hi] at hlen
      have hm : (i + 1) * (sep.size + 20) ≤ l.length * (sep.size + 20) := Nat.mul_le_mul_right _ h1
      have hm2 : (i + 1) * (sep.size + 20) = i * (sep.size + 20) + (sep.size + 20) := by rw [Nat.add_mul, Nat.one_mul]
      have hcap : (joinL (L sep) (l.take i)).length + sep.size + 20 < 140737488355328 := by omega
      clear hlen hm hm2
      have hw : wrap64 ((i : Int) + 1) = ((i + 1 : Nat) : Int) := by unfold wrap64; omega
      by_cases h0 : i = 0
      · subst h0
        have ej : joinL (L sep) [] = [] := rfl
        rw [List.take_zero, if_pos rfl, ej, List.nil_append, List.nil_append] at h2
        rw [List.take_zero, ej]
        refine Ev.step (fun k => ?_) h2
        simp only [digits_Join.l0]
        rw [if_pos (by omega), if_pos (by omega), if_pos (by omega), if_neg (by omega), rd_get _ _ h1, text_ev _ hx]
        simp only [Option.bind_some]
        rw [B_size, bytesOf_B, nat8_app, if_pos (by rewrite [nat8_len, List.length_nil]; omega), hw, List.nil_append]
      · rw [if_neg (take_ne l i hi h0)] at h2
        generalize joinL (L sep) (l.take i) = J at *
        have c1 : (nat8 J).length + sep.size < 140737488355328 := by rewrite [nat8_len]; omega
        have c2 : (nat8 (J ++ L sep)).length + (decL l[i]).length < 140737488355328 := by rewrite [nat8_len, List.length_append, L_len]; omega
        refine Ev.step (fun k => ?_) h2
        simp only [digits_Join.l0]
        rw [if_pos (by omega), if_pos (by omega), if_pos (by omega), if_pos (by omega), if_pos c1, rd_get _ _ h1, text_ev _ hx]
        simp only [Option.bind_some, B_size, bytesOf_L, nat8_app]
        rw [if_pos c2, L_B, hw, List.append_assoc]
  refine Ev.congr (fun k => ?_) (h _ 0 rfl (by omega))
  unfold digits_Join.f; rfl
theorem refjoin_ev (sep : ByteArray) (l : List Int) (hl : ∀ x ∈ l, Ok64 x) (hn : l.length * (sep.size + 20) + 20 < 140737488355328) (hl2 : l.length ≤ 1000000) : Ev (fun k => plummetref01_Join.f k sep l) (B (joinL (L sep) l)) := by
  have h : ∀ d i, l.length - i = d → i ≤ l.length → Ev (fun k => plummetref01_Join.l0 k sep l (B (joinL (L sep) (l.take i))) (i : Int)) (B (joinL (L sep) l)) := by
    intro d
    induction d with
    | zero =>
      intro i hd hi
      have : i = l.length := by omega
      subst this
      rw [List.take_length]
      refine Ev.step (f := fun _ => some (B (joinL (L sep) l))) (fun k => ?_) (Ev.now _)
      simp only [plummetref01_Join.l0]
      rw [if_neg (by omega)]
    | succ d ih =>
      intro i hd hi
      have h1 : i < l.length := by omega
      have h2 := ih (i + 1) (by omega) (by omega)
      rw [List.take_succ_eq_append_getElem h1, joinL_snoc] at h2
      have hx : Ok64 l[i] := hl _ (List.getElem_mem h1)
      have hx2 := decL_len _ hx
      have hlen := joinL_len (L sep) (l.take i) (fun x hx => hl x (List.mem_of_mem_take hx))
      rw [L_len, List.length_take, Nat.min_eq_left hi] at hlen
      have hm : (i + 1) * (sep.size + 20) ≤ l.length * (sep.size + 20) := Nat.mul_le_mul_right _ h1
      have hm2 : (i + 1) * (sep.size + 20) = i * (sep.size + 20) + (sep.size + 20) := by rw [Nat.add_mul, Nat.one_mul]
      have hcap : (joinL (L sep) (l.take i)).length + sep.size + 20 < 140737488355328 := by omega
      clear hlen hm hm2
      have hw : wrap64 ((i : Int) + 1) = ((i + 1 : Nat) : Int) := by unfold wrap64; omega
      have ht := ref_text l[i] hx
      by_cases h0 : i = 0
      · subst h0
        have ej : joinL (L sep) [] = [] := rfl
        rw [List.take_zero, if_pos rfl, ej, List.nil_append, List.nil_append] at h2
        rw [List.take_zero, ej]
        refine Ev.step (fun k => ?_) (Ev.bind ht (f := fun k t => if (B []).size + t.size ≤ 9223372036854775807 then plummetref01_Join.l0 k sep l (B [] ++ t) (wrap64 (((0 : Nat) : Int) + 1)) else none) (Ev.congr (fun k => ?_) h2))
        · simp only [plummetref01_Join.l0]
          rw [if_pos (by omega), if_neg (by omega), if_pos (by omega), rd_get _ _ h1]
        · have c1 : ([] : List UInt8).length + (decL l[0]).length ≤ 9223372036854775807 := by rewrite [List.length_nil]; omega
          simp only [B_size, B_app, hw]
          rw [if_pos c1, List.nil_append]
      · refine Ev.step (fun k => ?_) (Ev.bind ht (f := fun k t => if (B (joinL (L sep) (l.take i)) ++ sep).size + t.size ≤ 9223372036854775807 then plummetref01_Join.l0 k sep l ((B (joinL (L sep) (l.take i)) ++ sep) ++ t) (wrap64 ((i : Int) + 1)) else none) (Ev.congr (fun k => ?_) h2))
        · simp only [plummetref01_Join.l0]
          rw [if_pos (by omega), if_pos (by omega), if_pos (by rewrite [B_size]; omega), if_pos (by omega), rd_get _ _ h1]
        · have e : B (joinL (L sep) (l.take i)) ++ sep = B (joinL (L sep) (l.take i) ++ L sep) := by rw [← B_app, B_L]
          have c2 : (joinL (L sep) (l.take i) ++ L sep).length + (decL l[i]).length ≤ 9223372036854775807 := by rewrite [List.length_append, L_len]; omega
          simp only [e, B_size, B_app, hw]
          rw [if_pos c2, if_neg (take_ne l i hi h0), List.append_assoc]
  refine Ev.congr (fun k => ?_) (h _ 0 rfl (by omega))
  unfold plummetref01_Join.f; rfl
end Go.Proofs.Ytoaejpjgicnfoaa.PD
