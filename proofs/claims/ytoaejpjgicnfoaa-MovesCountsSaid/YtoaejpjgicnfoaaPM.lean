/-
  What the printed functions of the layer of moves answer; conditions: lists and texts up to a million.
-/
import Derived.Test.YtoaejpjgicnfoaaKMx
namespace Go.Proofs.Ytoaejpjgicnfoaa.PM
open Go.RowKit Go.Proofs.Ytoaejpjgicnfoaa.Given Go.Proofs.Ytoaejpjgicnfoaa.KM Go.Proofs.YtoaejpjgicnfoaaW.PrintWords Go.Proofs.YtoaejpjgicnfoaaW.PrintLast

def L (s : ByteArray) : List UInt8 := s.data.toList
theorem L_len (s : ByteArray) : (L s).length = s.size := by simp [L]
def B (l : List UInt8) : ByteArray := ⟨l.toArray⟩
theorem L_B (l : List UInt8) : L (B l) = l := by simp [L, B]
theorem B_size (l : List UInt8) : (B l).size = l.length := by rw [← L_len, L_B]
theorem B_L (s : ByteArray) : B (L s) = s := by apply ByteArray.ext; simp [B, L]
theorem bt_get (s : ByteArray) (i : Nat) (h : i < (L s).length) : bt s (i : Int) = ((L s)[i].toNat : Int) := by
  have h' : i < s.size := by rw [← L_len]; exact h
  simp only [bt, Int.toNat_natCast, h', dif_pos]
  rfl
theorem rd_get (l : List Int) (i : Nat) (h : i < l.length) : rd l (i : Int) = l[i] := by
  simp [rd, h]
theorem toList_L (s : ByteArray) : s.toList = L s := by rw [L]; exact ByteArray.toList_eq s
theorem same_ev (a b : List Int) (hl : a.length ≤ 9223372036854775807) : Ev (fun k => plummetref01_Same.f k a b) (decide (a = b)) := by
  by_cases he : a.length = b.length
  · have h : ∀ d i, a.length - i = d → i ≤ a.length → a.take i = b.take i → Ev (fun k => plummetref01_Same.l0 k a b (i : Int)) (decide (a = b)) := by
      intro d
      induction d with
      | zero =>
        intro i hd hi ht
        have : i = a.length := by omega
        subst this
        rw [List.take_length, he, List.take_length] at ht
        rw [decide_eq_true ht]
        refine Ev.step (f := fun _ => some true) (fun k => ?_) (Ev.now _)
        simp only [plummetref01_Same.l0]
        rw [if_neg (by omega)]
      | succ d ih =>
        intro i hd hi ht
        have h1 : i < a.length := by omega
        have h2 : i < b.length := by omega
        by_cases hx : a[i] = b[i]
        · refine Ev.step (fun k => ?_) (ih (i + 1) (by omega) (by omega) (by rw [List.take_succ_eq_append_getElem h1, List.take_succ_eq_append_getElem h2, ht, hx]))
          simp only [plummetref01_Same.l0]
          rw [if_pos (by omega), if_pos (by omega), if_pos (by omega), rd_get _ _ h1, rd_get _ _ h2, if_pos hx, show wrap64 ((i : Int) + 1) = ((i + 1 : Nat) : Int) by unfold wrap64; omega]
        · rw [decide_eq_false (by intro e; subst e; exact hx rfl)]
          refine Ev.step (f := fun _ => some false) (fun k => ?_) (Ev.now _)
          simp only [plummetref01_Same.l0]
          rw [if_pos (by omega), if_pos (by omega), if_pos (by omega), rd_get _ _ h1, rd_get _ _ h2, if_neg hx]
    refine Ev.congr (fun k => ?_) (h _ 0 rfl (by omega) rfl)
    unfold plummetref01_Same.f
    rw [if_pos (by omega)]; rfl
  · rw [decide_eq_false (by intro e; subst e; exact he rfl)]
    refine Ev.congr (f := fun _ => some false) (fun k => ?_) (Ev.now _)
    unfold plummetref01_Same.f
    rw [if_neg (by omega)]
theorem same_refl (a : List Int) (hl : a.length ≤ 9223372036854775807) : Ev (fun k => plummetref01_Same.f k a a) true := by
  have := same_ev a a hl
  rwa [decide_eq_true rfl] at this
def colOf (l : List Int) (i : Nat) : Int := l.getD i 0
theorem colOf_get (l : List Int) (i : Nat) (h : i < l.length) : colOf l i = l[i] := by simp [colOf, h]
theorem check_f (a b : Int) (l : List Int) (h : l.length ≤ 1000000) : moves_Check.f a b l = some (firstF a b l.length (colOf l)) := by
  unfold moves_Check.f; rw [if_pos (by omega)]; rfl
theorem refmay (a b : Int) : plummetref06_May.f a b = some (mayB a b) := by
  unfold plummetref06_May.f mayB
  by_cases h1 : a ≥ 4 <;> by_cases h2 : a ≤ 8 <;> by_cases h3 : b ≥ 4 <;> by_cases h4 : b ≤ 8 <;> simp [h1, h2, h3, h4] <;> omega
theorem may_bd (a b : Int) (h : mayB a b = true) : 4 ≤ a ∧ a ≤ 8 ∧ 0 ≤ a * b ∧ a * b ≤ 64 := by
  simp only [mayB, decide_eq_true_eq] at h
  have h1 : 0 ≤ a * b := Int.mul_nonneg (by omega) (by omega)
  have h2 : a * b ≤ 8 * 8 := Int.mul_le_mul (by omega) (by omega) (by omega) (by omega)
  omega
theorem refcheck_ev (a b : Int) (l : List Int) (hl : l.length ≤ 1000000) : Ev (fun k => plummetref07_Check.f k a b l) (firstF a b l.length (colOf l)) := by
  by_cases hp : mayB a b = true
  · obtain ⟨h4, h8, hc0, hc64⟩ := may_bd a b hp
    have hw : wrap64 (a * b) = a * b := by unfold wrap64; omega
    generalize hc : a * b = c at *
    have h : ∀ d i, l.length - i = d → i ≤ l.length → (i : Int) ≤ c → Ev (fun k => plummetref07_Check.l0 k l (i : Int) a b) (firstGo c a (colOf l) d i) := by
      intro d
      induction d with
      | zero =>
        intro i hd hi hic
        have e : i = l.length := by omega
        refine Ev.step (f := fun k => plummetref07_Check.j1 k l (i : Int) false a b) (fun k => ?_) (Ev.step (f := fun _ => some ((i : Int), 0)) (fun k => ?_) (Ev.now _))
        · simp only [plummetref07_Check.l0]; rw [if_neg (by omega)]
        · simp only [plummetref07_Check.j1, hc, hw]
          rw [if_neg (by simp), if_neg (by omega), e]
      | succ d ih =>
        intro i hd hi hic
        have h1 : i < l.length := by omega
        have hw1 : wrap64 ((i : Int) + 1) = ((i + 1 : Nat) : Int) := by unfold wrap64; omega
        by_cases h2 : (i : Int) ≥ c
        · rw [firstGo_long _ _ _ _ _ h2]
          refine Ev.step (f := fun k => plummetref07_Check.j1 k l (i : Int) false a b) (fun k => ?_) (Ev.step (f := fun _ => some ((i : Int), 14)) (fun k => ?_) (Ev.now _))
          · simp only [plummetref07_Check.l0, hc, hw]; rw [if_pos (by omega), decide_eq_false (by omega)]
          · simp only [plummetref07_Check.j1, hc, hw]
            rw [if_neg (by simp), if_pos (by omega), show c = (i : Int) by omega]
        · have s1 : ∀ k, plummetref07_Check.l0 (k + 1) l (i : Int) a b = plummetref07_Check.j1 k l (i : Int) true a b := fun k => by
            simp only [plummetref07_Check.l0, hc, hw]; rw [if_pos (by omega), decide_eq_true (by omega)]
          have hx := colOf_get l i h1
          by_cases h3 : colOf l i < 0 ∨ colOf l i ≥ a
          · rw [firstGo_bad _ _ _ _ _ h2 h3]
            refine Ev.step s1 (Ev.step (f := fun _ => some ((i : Int), 11)) (fun k => ?_) (Ev.now _))
            simp only [plummetref07_Check.j1]
            rw [if_pos trivial, if_pos (by omega), if_pos (by omega), rd_get _ _ h1, ← hx]
            by_cases h5 : colOf l i < 0
            · rw [if_pos h5]
            · rw [if_neg h5, if_pos (by omega)]
          · rw [firstGo_next _ _ _ _ _ h2 h3]
            refine Ev.step s1 (Ev.step (fun k => ?_) (ih (i + 1) (by omega) (by omega) (by omega)))
            simp only [plummetref07_Check.j1]
            rw [if_pos trivial, if_pos (by omega), if_pos (by omega), rd_get _ _ h1, ← hx, if_neg (by omega), if_neg (by omega), hw1]
    unfold firstF plummetref07_Check.f
    rw [refmay, if_pos hp, hc]
    simp only [Option.bind_some]
    refine Ev.congr (fun k => ?_) (h _ 0 rfl (by omega) (by omega))
    rw [if_pos hp]; rfl
  · have hp : mayB a b = false := by simpa using hp
    unfold firstF plummetref07_Check.f
    rw [refmay, hp]
    exact Ev.congr (f := fun _ => some (0, 10)) (fun k => by simp) (Ev.now _)
/-- Where nothing is wrong: each column is one of the board's. -/
theorem go_cols (c bw : Int) (col : Nat → Int) : ∀ (d i : Nat), (firstGo c bw col d i).2 = 0 → ∀ j, i ≤ j → j < i + d → 0 ≤ col j ∧ col j < bw := by
  intro d
  induction d with
  | zero => intro i _ j h1 h2; omega
  | succ d ih =>
    intro i h j h1 h2
    by_cases h3 : (i : Int) ≥ c
    · rw [firstGo_long _ _ _ _ _ h3] at h; cases h
    · by_cases h4 : col i < 0 ∨ col i ≥ bw
      · rw [firstGo_bad _ _ _ _ _ h3 h4] at h; cases h
      · rw [firstGo_next _ _ _ _ _ h3 h4] at h
        rcases Nat.lt_or_ge i j with h5 | h5
        · exact ih _ h j h5 (by omega)
        · have : j = i := by omega
          subst this; omega
theorem first_cols (a b : Int) (n : Nat) (col : Nat → Int) (h : (firstF a b n col).2 = 0) : mayB a b = true ∧ firstF a b n col = ((n : Int), 0) ∧ ∀ j, j < n → 0 ≤ col j ∧ col j < a := by
  unfold firstF at h ⊢
  by_cases hp : mayB a b = true
  · rw [if_pos hp] at h ⊢
    exact ⟨hp, by rw [firstGo_ok _ _ _ _ _ h, Nat.zero_add], fun j hj => go_cols _ _ _ _ _ h j (by omega) (by omega)⟩
  · rw [if_neg hp] at h; cases h
theorem firstGo_congr (c bw : Int) (f g : Nat → Int) : ∀ (d i : Nat), (∀ j, i ≤ j → j < i + d → f j = g j) → firstGo c bw f d i = firstGo c bw g d i := by
  intro d
  induction d with
  | zero => intro i _; rfl
  | succ d ih =>
    intro i h
    simp only [firstGo]
    rw [h i (by omega) (by omega), ih (i + 1) (fun j h1 h2 => h j (by omega) (by omega))]
theorem firstF_congr (a b : Int) (n : Nat) (f g : Nat → Int) (h : ∀ j, j < n → f j = g j) : firstF a b n f = firstF a b n g := by
  unfold firstF; rw [firstGo_congr _ _ f g n 0 (fun j _ hj => h j (by omega))]

/-! ### texts -/
def OkT (l : List Int) : Prop := ∀ x ∈ l, 0 ≤ x ∧ x < 8
instance (l : List Int) : Decidable (OkT l) := by unfold OkT; infer_instance
def txt (l : List Int) : List UInt8 := l.map fun x => UInt8.ofNat (49 + x).toNat
theorem strOf_txt (l : List Int) : strOfNums (l.map (49 + ·)) = B (txt l) := by
  apply ByteArray.ext; apply Array.toList_inj.1
  rw [strOfNums_data]
  show List.map _ (List.map _ l) = txt l
  rw [List.map_map]; rfl
theorem textGo_ok (l : List Int) (h : OkT l) : ∀ out, textGo l out = (strOfNums (out ++ l.map (49 + ·)), 0) := by
  induction l with
  | nil => intro out; simp [textGo]
  | cons x t ih =>
    intro out
    have hx := h x (by simp)
    simp only [textGo]
    rw [if_neg (by omega), ih (fun y hy => h y (by simp [hy]))]
    simp
theorem textGo_bad (l : List Int) (h : ¬ OkT l) : ∀ out, textGo l out = (⟨#[]⟩, 11) := by
  induction l with
  | nil => exact absurd (fun x hx => by simp at hx) h
  | cons x t ih =>
    intro out
    simp only [textGo]
    by_cases hx : x < 0 ∨ x ≥ 8
    · rw [if_pos hx]
    · rw [if_neg hx, ih (fun ht => h (fun y hy => by rcases List.mem_cons.1 hy with rfl | hy; omega; exact ht y hy))]
theorem text_ok (l : List Int) (hl : l.length ≤ 1000000) (h : OkT l) : moves_Text.f l = some (B (txt l), 0) := by
  unfold moves_Text.f; rw [if_pos (by omega), textGo_ok l h, List.nil_append, strOf_txt]
theorem text_bad (l : List Int) (hl : l.length ≤ 1000000) (h : ¬ OkT l) : moves_Text.f l = some (⟨#[]⟩, 11) := by
  unfold moves_Text.f; rw [if_pos (by omega), textGo_bad l h]
theorem dig_ext (n : Nat) (h : n < 8) : (⟨#[49, 50, 51, 52, 53, 54, 55, 56]⟩ : ByteArray).extract n (n + 1) = B [UInt8.ofNat (49 + n)] := by
  have : n = 0 ∨ n = 1 ∨ n = 2 ∨ n = 3 ∨ n = 4 ∨ n = 5 ∨ n = 6 ∨ n = 7 := by omega
  rcases this with rfl | rfl | rfl | rfl | rfl | rfl | rfl | rfl <;> rfl
theorem B_app (a b : List UInt8) : B a ++ B b = B (a ++ b) := by
  apply ByteArray.ext; simp [B]
theorem reftext_ev (l : List Int) (hl : l.length ≤ 1000000) : ∃ r, moves_Text.f l = some r ∧ Ev (fun k => plummetref07_Text.f k l) r := by
  have key : ∀ d i, l.length - i = d → i ≤ l.length → OkT (l.take i) → Ev (fun k => plummetref07_Text.l0 k l (B (txt (l.take i))) (i : Int)) (if OkT l then (B (txt l), 0) else (⟨#[]⟩, 11)) := by
    intro d
    induction d with
    | zero =>
      intro i hd hi ho
      have : i = l.length := by omega
      subst this
      rw [List.take_length] at *
      rw [if_pos ho]
      refine Ev.step (f := fun _ => some (B (txt l), 0)) (fun k => ?_) (Ev.now _)
      simp only [plummetref07_Text.l0]; rw [if_neg (by omega)]
    | succ d ih =>
      intro i hd hi ho
      have h1 : i < l.length := by omega
      have hg := rd_get l i h1
      by_cases hx : 0 ≤ l[i] ∧ l[i] < 8
      · have ho2 : OkT (l.take (i + 1)) := by
          rw [List.take_succ_eq_append_getElem h1]; intro x hx'
          rcases List.mem_append.1 hx' with h | h
          · exact ho x h
          · rw [List.mem_singleton.1 h]; exact hx
        have h2 := ih (i + 1) (by omega) (by omega) ho2
        have e2 : txt (l.take (i + 1)) = txt (l.take i) ++ [UInt8.ofNat (49 + l[i].toNat)] := by
          rw [List.take_succ_eq_append_getElem h1]; simp only [txt, List.map_append, List.map_cons, List.map_nil]
          congr 3; omega
        rw [e2] at h2
        have hsz : (txt (l.take i)).length = i := by simp [txt]; omega
        refine Ev.step (fun k => ?_) h2
        simp only [plummetref07_Text.l0, hg]
        have hw : wrap64 (l[i] + 1) = l[i] + 1 := by unfold wrap64; omega
        have hw1 : wrap64 ((i : Int) + 1) = ((i + 1 : Nat) : Int) := by unfold wrap64; omega
        have hex : (⟨#[49, 50, 51, 52, 53, 54, 55, 56]⟩ : ByteArray).extract (l[i]).toNat (l[i] + 1).toNat = B [UInt8.ofNat (49 + l[i].toNat)] := by
          rw [← dig_ext _ (by omega), show (l[i] + 1).toNat = l[i].toNat + 1 by omega]
        have hc : (B (txt (l.take i))).size + (B [UInt8.ofNat (49 + l[i].toNat)]).size ≤ 9223372036854775807 := by rewrite [B_size, B_size, hsz]; simp only [List.length_singleton]; omega
        rw [hw, hex, if_pos (by omega), if_pos (by omega), if_neg (by omega), if_neg (by omega), if_pos (by omega), if_pos (by omega), if_pos (by omega), if_pos hc, B_app, hw1]
      · have hno : ¬ OkT l := fun h => hx (h _ (List.getElem_mem h1))
        rw [if_neg hno]
        refine Ev.step (f := fun _ => some (⟨#[]⟩, 11)) (fun k => ?_) (Ev.now _)
        simp only [plummetref07_Text.l0, hg]
        rw [if_pos (by omega), if_pos (by omega)]
        by_cases h5 : l[i] < 0
        · rw [if_pos h5]
        · rw [if_neg h5, if_pos (by omega)]
  have h0 := key l.length 0 rfl (by omega) (fun x hx => by simp at hx)
  have h0' : Ev (fun k => plummetref07_Text.f k l) (if OkT l then (B (txt l), 0) else (⟨#[]⟩, 11)) := Ev.congr (fun k => by unfold plummetref07_Text.f; rfl) h0
  by_cases ho : OkT l
  · exact ⟨_, text_ok l hl ho, by rwa [if_pos ho] at h0'⟩
  · exact ⟨_, text_bad l hl ho, by rwa [if_neg ho] at h0'⟩
end Go.Proofs.Ytoaejpjgicnfoaa.PM
