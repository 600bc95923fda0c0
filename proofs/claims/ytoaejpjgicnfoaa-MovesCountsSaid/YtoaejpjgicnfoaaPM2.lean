/-
  The four statements of the layer of moves, as pure ones; conditions: none beyond the statements' own.
-/
import Derived.Test.YtoaejpjgicnfoaaPM
namespace Go.Proofs.Ytoaejpjgicnfoaa.PM
open Go.RowKit Go.Proofs.Ytoaejpjgicnfoaa.Given Go.Proofs.Ytoaejpjgicnfoaa.KM Go.Proofs.YtoaejpjgicnfoaaW.PrintWords Go.Proofs.YtoaejpjgicnfoaaW.PrintLast

/-! ### reading a text -/
def colS (s : ByteArray) (i : Nat) : Int := bt s (i : Int) - 49
def colsS (s : ByteArray) : List Int := (List.range s.size).map (colS s)
theorem colsS_len (s : ByteArray) : (colsS s).length = s.size := by simp [colsS]
theorem colsS_of (s : ByteArray) (i : Nat) (h : i < s.size) : colOf (colsS s) i = colS s i := by
  rw [colOf_get _ _ (by rw [colsS_len]; exact h)]; simp [colsS]
theorem parse_f (a b : Int) (s : ByteArray) (h : s.size ≤ 1000000) : moves_Parse.f a b s = some (if (firstF a b s.size (colS s)).2 = 0 then (colsS s, (s.size : Int), 0) else ([], firstF a b s.size (colS s))) := by
  unfold moves_Parse.f; rw [if_pos (by omega)]; rfl
theorem refparse_ev (a b : Int) (s : ByteArray) (h : s.size ≤ 1000000) : ∃ r, moves_Parse.f a b s = some r ∧ Ev (fun k => plummetref07_Parse.f k a b s) r := by
  refine ⟨_, parse_f a b s h, ?_⟩
  have key : ∀ d i, s.size - i = d → i ≤ s.size → Ev (fun k => plummetref07_Parse.l0 k s ((colsS s).take i) (i : Int) a b) (if (firstF a b s.size (colS s)).2 = 0 then (colsS s, (s.size : Int), 0) else ([], firstF a b s.size (colS s))) := by
    intro d
    induction d with
    | zero =>
      intro i hd hi
      have e : i = s.size := by omega
      subst e
      have hc := refcheck_ev a b (colsS s) (by rw [colsS_len]; exact h)
      rw [colsS_len, firstF_congr a b s.size (colOf (colsS s)) (colS s) (fun j hj => colsS_of s j hj)] at hc
      rw [List.take_of_length_le (by rw [colsS_len]; exact Nat.le_refl _)]
      refine Ev.step (fun k => ?_) (Ev.bind hc (f := fun _ (bt : Int × Int) => if bt.2 = 0 then some (colsS s, bt.1, 0) else some ([], bt.1, bt.2)) (Ev.congr (fun k => ?_) (Ev.now _)))
      · simp only [plummetref07_Parse.l0]; rw [if_neg (by omega)]
      · split
        · rename_i he
          rw [(first_cols _ _ _ _ he).2.1]
        · rfl
    | succ d ih =>
      intro i hd hi
      have h1 : i < (colsS s).length := by rw [colsS_len]; omega
      have h2 := ih (i + 1) (by omega) (by omega)
      have hb := bt_range s i
      rw [List.take_succ_eq_append_getElem h1] at h2
      have hx : (colsS s)[i] = bt s (i : Int) - 49 := by simp [colsS, colS]
      rw [hx] at h2
      refine Ev.step (fun k => ?_) h2
      simp only [plummetref07_Parse.l0]
      have hw : wrap64 (wrap64 (bt s (i : Int)) - 49) = bt s (i : Int) - 49 := by unfold wrap64; omega
      have hw1 : wrap64 ((i : Int) + 1) = ((i + 1 : Nat) : Int) := by unfold wrap64; omega
      have hln : ((colsS s).take i).length < 17592186044416 := by rewrite [List.length_take]; have := Nat.min_le_left i (colsS s).length; omega
      rw [if_pos (by omega), if_pos (by omega), if_pos hln, hw, hw1]
  have h0 := key s.size 0 rfl (by omega)
  exact Ev.congr (fun k => by unfold plummetref07_Parse.f; rfl) h0
theorem parse_txt (a b : Int) (l : List Int) (hl : l.length ≤ 1000000) (ho : OkT l) (he : (firstF a b l.length (colOf l)).2 = 0) : moves_Parse.f a b (B (txt l)) = some (l, (l.length : Int), 0) := by
  have hs : (B (txt l)).size = l.length := by rw [B_size]; simp [txt]
  have hcol : ∀ j, j < l.length → colS (B (txt l)) j = colOf l j := by
    intro j hj
    have hj2 : j < (L (B (txt l))).length := by rw [L_len, hs]; exact hj
    have hx := ho _ (List.getElem_mem hj)
    unfold colS
    rw [bt_get _ j hj2, colOf_get l j hj]
    have e : (L (B (txt l)))[j] = UInt8.ofNat (49 + l[j]).toNat := by simp only [L_B]; simp [txt]
    rw [e, UInt8.toNat_ofNat']; omega
  have hf : firstF a b (B (txt l)).size (colS (B (txt l))) = firstF a b l.length (colOf l) := by
    rw [hs]; exact firstF_congr _ _ _ _ _ hcol
  rw [parse_f a b _ (by omega), hf, if_pos he, hs]
  have : colsS (B (txt l)) = l := by
    apply List.ext_getElem
    · rw [colsS_len, hs]
    · intro i h1 h2
      rw [← colOf_get l i h2, ← hcol i h2]; simp [colsS]
  rw [this]

/-! ### mirrored -/
def mir (a : Int) (l : List Int) : List Int := l.map fun x => a - 1 - x
theorem mir_len (a : Int) (l : List Int) : (mir a l).length = l.length := by simp [mir]
theorem mirror_loop (a b : Int) (l : List Int) (hl : l.length ≤ 1000000) (ha : 4 ≤ a ∧ a ≤ 8) (hc : ∀ j, j < l.length → 0 ≤ colOf l j ∧ colOf l j < a) :
    ∀ d i xs, l.length - i = d → i ≤ l.length → xs.length = l.length → xs.take i = (mir a l).take i → Ev (fun k => moves_Mirror.l0 k xs l (l.length : Int) (i : Int) a b) (mir a l, 0) := by
  intro d
  induction d with
  | zero =>
    intro i xs hd hi hx ht
    have e : i = l.length := by omega
    subst e
    rw [← hx, List.take_length, hx, ← mir_len a l, List.take_length] at ht
    subst ht
    refine Ev.step (f := fun _ => some (mir a l, 0)) (fun k => ?_) (Ev.now _)
    simp only [moves_Mirror.l0]; rw [if_neg (by omega)]
  | succ d ih =>
    intro i xs hd hi hx ht
    have h1 : i < l.length := by omega
    have hci := hc i h1
    rw [colOf_get l i h1] at hci
    have h2 := ih (i + 1) (xs.set i (a - 1 - l[i])) (by omega) (by omega) (by rw [List.length_set]; exact hx) (by
      rw [List.take_succ_eq_append_getElem (by rw [List.length_set]; omega), List.take_succ_eq_append_getElem (by rw [mir_len]; exact h1), List.take_set, List.set_eq_of_length_le (by rw [List.length_take]; exact Nat.min_le_left _ _), ht]
      simp [mir])
    refine Ev.step (fun k => ?_) h2
    simp only [moves_Mirror.l0]
    have hw : wrap64 (wrap64 (a - 1) - l[i]) = a - 1 - l[i] := by unfold wrap64; omega
    have hw1 : wrap64 ((i : Int) + 1) = ((i + 1 : Nat) : Int) := by unfold wrap64; omega
    rw [if_pos (by omega), if_pos (by omega), if_pos (by omega), if_pos (by omega), rd_get _ _ h1, hw, hw1, Int.toNat_natCast]
theorem mirror_ev (a b : Int) (l : List Int) (hl : l.length ≤ 1000000) : Ev (fun k => moves_Mirror.f k a b l) (if (firstF a b l.length (colOf l)).2 = 0 then (mir a l, 0) else ([], (firstF a b l.length (colOf l)).2)) := by
  unfold moves_Mirror.f
  rw [check_f a b l hl]
  simp only [Option.bind_some]
  by_cases he : (firstF a b l.length (colOf l)).2 = 0
  · obtain ⟨hp, _, hc⟩ := first_cols _ _ _ _ he
    obtain ⟨h4, h8, _, _⟩ := may_bd a b hp
    rw [if_pos he]
    refine Ev.congr (fun k => ?_) (mirror_loop a b l hl ⟨h4, h8⟩ hc _ 0 (List.replicate l.length 0) rfl (by omega) (by simp) rfl)
    simp only [Int.toNat_natCast]
    rw [if_pos he, if_pos (by omega), if_pos (by omega)]; rfl
  · rw [if_neg he]
    refine Ev.congr (fun k => ?_) (Ev.now _)
    rw [if_neg he]
theorem refmirror_ev (a b : Int) (l : List Int) (hl : l.length ≤ 1000000) (ha : 4 ≤ a ∧ a ≤ 8) (hc : ∀ j, j < l.length → 0 ≤ colOf l j ∧ colOf l j < a) : Ev (fun k => plummetref07_Mirror.f k a b l) (mir a l) := by
  have key : ∀ d i, l.length - i = d → i ≤ l.length → Ev (fun k => plummetref07_Mirror.l0 k l ((mir a l).take i) (i : Int) a b) (mir a l) := by
    intro d
    induction d with
    | zero =>
      intro i hd hi
      have e : i = l.length := by omega
      subst e
      rw [List.take_of_length_le (by rw [mir_len]; exact Nat.le_refl _)]
      refine Ev.step (f := fun _ => some (mir a l)) (fun k => ?_) (Ev.now _)
      simp only [plummetref07_Mirror.l0]; rw [if_neg (by omega)]
    | succ d ih =>
      intro i hd hi
      have h1 : i < l.length := by omega
      have hci := hc i h1
      rw [colOf_get l i h1] at hci
      have h2 := ih (i + 1) (by omega) (by omega)
      rw [List.take_succ_eq_append_getElem (by rw [mir_len]; exact h1), show (mir a l)[i]'(by rw [mir_len]; exact h1) = a - 1 - l[i] by simp [mir]] at h2
      refine Ev.step (fun k => ?_) h2
      simp only [plummetref07_Mirror.l0]
      have hw : wrap64 (wrap64 (a - 1) - l[i]) = a - 1 - l[i] := by unfold wrap64; omega
      have hw1 : wrap64 ((i : Int) + 1) = ((i + 1 : Nat) : Int) := by unfold wrap64; omega
      have hln : ((mir a l).take i).length < 17592186044416 := by rewrite [List.length_take]; have := Nat.min_le_left i (mir a l).length; omega
      rw [if_pos (by omega), if_pos (by omega), if_pos hln, rd_get _ _ h1, hw, hw1]
  exact Ev.congr (fun k => by unfold plummetref07_Mirror.f; rfl) (key _ 0 rfl (by omega))
theorem mir_mir (a : Int) (l : List Int) : mir a (mir a l) = l := by
  simp only [mir, List.map_map]
  conv => rhs; rw [← List.map_id l]
  apply List.map_congr_left
  intro x _; simp only [Function.comp, id]; omega
theorem mir_first (a b : Int) (l : List Int) (he : (firstF a b l.length (colOf l)).2 = 0) : (firstF a b (mir a l).length (colOf (mir a l))).2 = 0 := by
  obtain ⟨hp, hf, hc⟩ := first_cols _ _ _ _ he
  have hn := first_small _ _ _ _ hp he
  unfold firstF at he ⊢
  rw [if_pos hp] at he ⊢
  rw [mir_len]
  have key : ∀ d i, i + d = l.length → (firstGo (a * b) a (colOf l) d i).2 = 0 → (firstGo (a * b) a (colOf (mir a l)) d i).2 = 0 := by
    intro d
    induction d with
    | zero => intro i _ _; rfl
    | succ d ih =>
      intro i hi h
      by_cases h3 : (i : Int) ≥ a * b
      · rw [firstGo_long _ _ _ _ _ h3] at h; cases h
      · have h1 : i < l.length := by omega
        have h5 := hc i h1
        rw [colOf_get l i h1] at h5
        have h6 : colOf (mir a l) i = a - 1 - l[i] := by rw [colOf_get _ _ (by rw [mir_len]; exact h1)]; simp [mir]
        by_cases h4 : colOf l i < 0 ∨ colOf l i ≥ a
        · rw [firstGo_bad _ _ _ _ _ h3 h4] at h; cases h
        · rw [firstGo_next _ _ _ _ _ h3 h4] at h
          rw [firstGo_next _ _ _ _ _ h3 (by omega)]
          exact ih (i + 1) (by omega) h
  exact key _ _ (by omega) he

/-! ### live -/
theorem live_ev : Ev (fun k => plummetlaw07_live.f k) true := by
  have hF : ∀ s : ByteArray, s = B [52, 52, 53, 51] → firstF 7 6 s.size (colS s) = (4, 0) ∧ colsS s = [3, 3, 4, 2] := by
    intro s e; subst e; decide
  have h1 : moves_Parse.f 7 6 (⟨#[52, 52, 53, 51]⟩ : ByteArray) = some ([3, 3, 4, 2], 4, 0) := by
    have h := hF ⟨#[52, 52, 53, 51]⟩ rfl
    rw [parse_f 7 6 _ (by decide), h.1, h.2]; rfl
  have h2 : moves_Text.f [3, 3, 4, 2] = some (B [52, 52, 53, 51], 0) := by
    rw [text_ok _ (by decide) (by decide)]; rfl
  have h3 : Ev (fun k => moves_Mirror.f k 7 6 [3, 3, 4, 2]) ([3, 3, 2, 4], 0) := by
    have h := mirror_ev 7 6 [3, 3, 4, 2] (by decide)
    have e : (if (firstF 7 6 ([3, 3, 4, 2] : List Int).length (colOf [3, 3, 4, 2])).2 = 0 then (mir 7 [3, 3, 4, 2], 0) else ([], (firstF 7 6 ([3, 3, 4, 2] : List Int).length (colOf [3, 3, 4, 2])).2)) = (([3, 3, 2, 4], 0) : List Int × Int) := by decide
    rwa [e] at h
  unfold plummetlaw07_live.f
  rw [h1]
  simp only [Option.bind_some]
  rw [h2]
  simp only [Option.bind_some]
  refine Ev.bind h3 (Ev.bind (same_refl [3, 3, 4, 2] (by decide)) ?_)
  simp only [toList_L, L_B, if_true]
  refine Ev.bind (same_refl [3, 3, 2, 4] (by decide)) ?_
  exact Ev.congr (fun k => by simp) (Ev.now _)
/-! ### the laws -/
theorem okT_of_cols (a b : Int) (l : List Int) (he : (firstF a b l.length (colOf l)).2 = 0) : OkT l := by
  obtain ⟨hp, _, hc⟩ := first_cols _ _ _ _ he
  obtain ⟨h4, h8, _, _⟩ := may_bd a b hp
  intro x hx
  obtain ⟨i, hi, rfl⟩ := List.getElem_of_mem hx
  have := hc i hi
  rw [colOf_get l i hi] at this; omega
theorem texts (a b : Int) (l : List Int) (_h2 : l.length ≤ maxLen) : ∃ k, plummetlaw07_MovesTexts.f k a b l = some true := by
  refine Ev.rounds (g := fun k => plummetlaw07_MovesTexts.f k a b l) ?_
  unfold plummetlaw07_MovesTexts.f
  by_cases h : (l.length : Int) > 200
  · simp only [if_pos h]; exact Ev.bind live_ev (Ev.now _)
  · simp only [if_neg h]
    obtain ⟨r, h1, h2⟩ := reftext_ev l (by omega)
    rw [h1]
    simp only [Option.bind_some]
    refine Ev.bind h2 ?_
    simp only [if_true]
    have hb : (r.2 != r.2) = false := by simp
    rw [hb]
    refine Ev.step (fun k => ?_) (Ev.bind (refcheck_ev a b l (by omega)) (f := fun k (bt145 : Int × Int) => (if bt145.2 = 0 then ((moves_Parse.f a b r.1).bind fun bt147 => ((plummetlaw07_live.f k).bind fun t152 => (if t152 = true then (if r.2 = 0 then ((plummetref01_Same.f k bt147.1 l).bind fun t153 => (if t153 = true then (if bt147.2.1 = (l.length : Int) then (some (bt147.2.2 == 0)) else (some false)) else (some false))) else (some false)) else (some false)))) else ((plummetlaw07_live.f k).bind fun t154 => (some t154)))) ?_)
    · simp only [plummetlaw07_MovesTexts.j0]; rw [if_neg (by simp)]
    · by_cases he : (firstF a b l.length (colOf l)).2 = 0
      · simp only [if_pos he]
        have ho := okT_of_cols a b l he
        rw [text_ok l (by omega) ho] at h1
        obtain rfl := Option.some.inj h1
        simp only
        rw [parse_txt a b l (by omega) ho he]
        simp only [Option.bind_some]
        refine Ev.bind live_ev ?_
        simp only [if_true]
        refine Ev.bind (same_refl l (by omega)) ?_
        exact Ev.congr (fun k => by simp) (Ev.now _)
      · simp only [if_neg he]; exact Ev.bind live_ev (Ev.now _)
theorem parses (a b : Int) (s : ByteArray) (_h2 : s.size ≤ 140737488351232) : ∃ k, plummetlaw07_MovesParse.f k a b s = some true := by
  refine Ev.rounds (g := fun k => plummetlaw07_MovesParse.f k a b s) ?_
  unfold plummetlaw07_MovesParse.f
  by_cases h : (s.size : Int) > 200
  · simp only [if_pos h]; exact Ev.bind live_ev (Ev.now _)
  · simp only [if_neg h]
    obtain ⟨r, h1, h2⟩ := refparse_ev a b s (by omega)
    have h1' := h1
    rw [h1]
    simp only [Option.bind_some]
    refine Ev.bind h2 ?_
    have hl : r.1.length ≤ 200 := by
      rw [parse_f a b s (by omega)] at h1
      obtain rfl := Option.some.inj h1
      split
      · simp only [colsS_len]; omega
      · simp
    refine Ev.bind (same_refl r.1 (by omega)) ?_
    simp only [if_true]
    have hb : (r.2.2 != r.2.2) = false := by simp
    rw [hb]
    rw [parse_f a b s (by omega)] at h1
    obtain rfl := Option.some.inj h1
    by_cases he : (firstF a b s.size (colS s)).2 = 0
    · simp only [if_pos he]
      have he2 : (firstF a b (colsS s).length (colOf (colsS s))).2 = 0 := by
        rw [colsS_len, firstF_congr a b s.size (colOf (colsS s)) (colS s) (fun j hj => colsS_of s j hj)]; exact he
      have ho := okT_of_cols a b (colsS s) he2
      have ht : txt (colsS s) = L s := by
        apply List.ext_getElem
        · simp [txt, colsS_len, L_len]
        · intro i h1 h2
          have hb := bt_get s i h2
          have hx : (txt (colsS s))[i] = UInt8.ofNat (49 + (bt s (i : Int) - 49)).toNat := by simp [txt, colsS, colS]
          rw [hx, hb]
          apply UInt8.toNat_inj.1
          have := (L s)[i].toNat_lt
          rw [UInt8.toNat_ofNat']; omega
      refine Ev.step (f := fun k => (plummetlaw07_live.f k).bind fun t => if t = true then some true else some false) (fun k => ?_) (Ev.bind live_ev (Ev.now _))
      simp only [plummetlaw07_MovesParse.j0]
      rw [if_neg (by simp), if_pos trivial, text_ok (colsS s) (by rw [colsS_len]; omega) ho]
      simp only [Option.bind_some, toList_L, L_B, ht, if_true, beq_self_eq_true]
    · simp only [if_neg he]
      refine Ev.step (f := fun k => (plummetlaw07_live.f k).bind fun t => some t) (fun k => ?_) (Ev.bind live_ev (Ev.now _))
      simp only [plummetlaw07_MovesParse.j0]
      rw [if_neg (by simp), if_neg he]
theorem mirrors (a b : Int) (l : List Int) (_h2 : l.length ≤ maxLen) : ∃ k, plummetlaw07_MovesMirror.f k a b l = some true := by
  refine Ev.rounds (g := fun k => plummetlaw07_MovesMirror.f k a b l) ?_
  unfold plummetlaw07_MovesMirror.f
  by_cases h : (l.length : Int) > 200
  · simp only [if_pos h]; exact Ev.bind live_ev (Ev.now _)
  · simp only [if_neg h]
    rw [check_f a b l (by omega)]
    simp only [Option.bind_some]
    refine Ev.bind (refcheck_ev a b l (by omega)) (Ev.bind (mirror_ev a b l (by omega)) ?_)
    simp only [if_true]
    by_cases he : (firstF a b l.length (colOf l)).2 = 0
    · simp only [if_pos he]
      have he2 := mir_first a b l he
      have hm := mirror_ev a b (mir a l) (by rw [mir_len]; omega)
      rw [if_pos he2, mir_mir] at hm
      obtain ⟨hp, _, hc⟩ := first_cols _ _ _ _ he
      obtain ⟨h4, h8, _, _⟩ := may_bd a b hp
      refine Ev.step (fun k => ?_) (Ev.bind hm (f := fun k (bt200 : List Int × Int) => ((plummetlaw07_live.f k).bind fun t204 => (if t204 = true then ((plummetref07_Mirror.f k a b l).bind fun t205 => ((plummetref01_Same.f k (mir a l) t205).bind fun t208 => (if t208 = true then ((plummetref01_Same.f k bt200.1 l).bind fun t209 => (if t209 = true then (some (bt200.2 == 0)) else (some false))) else (some false)))) else (some false)))) (Ev.bind live_ev ?_))
      · simp only [plummetlaw07_MovesMirror.j0, he]; rw [if_neg (by simp), if_pos trivial]
      · simp only [if_true]
        refine Ev.bind (refmirror_ev a b l (by omega) ⟨h4, h8⟩ hc) (Ev.bind (same_refl (mir a l) (by rw [mir_len]; omega)) ?_)
        simp only [if_true]
        refine Ev.bind (same_refl l (by omega)) ?_
        exact Ev.congr (fun k => by simp) (Ev.now _)
    · simp only [if_neg he]
      refine Ev.step (f := fun k => (plummetlaw07_live.f k).bind fun t => if t = true then some true else some false) (fun k => ?_) (Ev.bind live_ev (Ev.now _))
      simp only [plummetlaw07_MovesMirror.j0]
      rw [if_neg (by simp), if_neg he]; rfl
end Go.Proofs.Ytoaejpjgicnfoaa.PM
