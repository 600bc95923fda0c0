/-
  A word's places mirrored: the program's way and the reference's come to the same, and twice is once none; conditions: boards that may be.
-/
import Derived.Test.YtbbnnjcdglplkaaKFx
import Derived.Test.YtbbnnjcdglplkaaPB
import Derived.Test.YtbbnnjcdglplkaaPW
namespace Go.Proofs.Ytbbnnjcdglplkaa.KF
open Go.RowKit Go.Proofs.YtbbnnjcdglplkaaW.PrintWords Go.Proofs.YtbbnnjcdglplkaaW.PrintMore Go.Proofs.Ytbbnnjcdglplkaa.Given Go.Proofs.Ytbbnnjcdglplkaa.KB Go.Proofs.Ytbbnnjcdglplkaa.KW
set_option linter.unusedVariables false
set_option linter.unusedSimpArgs false

/-- The mirrored place, of some columns of s places. -/
def gpl (w s m : Nat) : Nat := (w - 1 - m / s) * s + m % s
theorem s_cases {s : Nat} (hs : 5 ≤ s ∧ s ≤ 9) : s = 5 ∨ s = 6 ∨ s = 7 ∨ s = 8 ∨ s = 9 := by omega
theorem gpl_lt (w s m : Nat) (hs : 5 ≤ s ∧ s ≤ 9) (hm : m < w * s) : gpl w s m < w * s := by
  unfold gpl
  rcases s_cases hs with rfl | rfl | rfl | rfl | rfl <;> omega
theorem gpl_gpl (w s m : Nat) (hs : 5 ≤ s ∧ s ≤ 9) (hm : m < w * s) : gpl w s (gpl w s m) = m := by
  unfold gpl
  rcases s_cases hs with rfl | rfl | rfl | rfl | rfl <;> omega
/-- A word's first columns, mirrored. -/
def fl (s w x : Nat) : Nat := nb128 fun j => decide (j < w * s) && x.testBit (gpl w s j)
theorem fl_lt (s w x : Nat) : fl s w x < W128 := nb128_lt _
theorem fl_tb (s w x j : Nat) : (fl s w x).testBit j = (decide (j < 128) && (decide (j < w * s) && x.testBit (gpl w s j))) := nb128_tb _ _
theorem fl_fl (s w x : Nat) (hs : 5 ≤ s ∧ s ≤ 9) (hw : w ≤ 8) : fl s w (fl s w (fl s w x)) = fl s w x := by
  have hb := mul_bd w s 8 9 hw hs.2
  refine word_ext _ _ (fl_lt _ _ _) (fl_lt _ _ _) fun j hj => ?_
  rw [fl_tb, fl_tb, fl_tb, fl_tb]
  by_cases h1 : j < w * s
  · have h2 := gpl_lt w s j hs h1
    have h3 := gpl_gpl w s j hs h1
    simp [hj, h1, h2, h3, show gpl w s j < 128 by omega]
  · simp [h1]
theorem mask_tb (n j : Nat) (hn : n ≤ 100) : (subN (addBit 0 n) (addBit 0 0)).testBit j = decide (j < n) := by
  have e1 : addBit 0 n = 2 ^ n := by unfold addBit; rw [Nat.zero_or]
  have e2 : addBit 0 0 = 1 := by decide
  have h1 : 2 ^ n < W128 := Nat.pow_lt_pow_right (by omega) (by omega)
  have h2 : 0 < 2 ^ n := Nat.two_pow_pos n
  rw [e1, e2]
  unfold subN
  rw [show 2 ^ n + W128 - 1 = (2 ^ n - 1) + W128 by omega, Nat.add_mod_right, Nat.mod_eq_of_lt (by omega), Nat.testBit_two_pow_sub_one]
theorem fl_step (s i x : Nat) (hs : 5 ≤ s ∧ s ≤ 9) (hi : i < 8) (hx : x < W128) : upN (fl s i x) s ||| (downN x (i * s) &&& subN (addBit 0 s) (addBit 0 0)) = fl s (i + 1) x := by
  have hb := mul_bd i s 7 9 (by omega) hs.2
  refine word_ext _ _ (or_lt _ _ (upN_lt _ _) (and_lt _ _ (downN_lt _ _ hx))) (fl_lt _ _ _) fun j hj => ?_
  rw [Nat.testBit_or, Nat.testBit_and, upN_tb, downN_tb, fl_tb, fl_tb, mask_tb s j (by omega), Nat.add_mul, Nat.one_mul]
  by_cases h1 : j < s
  · have e : gpl (i + 1) s j = i * s + j := by
      unfold gpl; rw [Nat.div_eq_of_lt h1, Nat.mod_eq_of_lt h1]; simp
    simp [hj, h1, show ¬ s ≤ j by omega, e, show j < i * s + s by omega]
  · have e : j - s < i * s → gpl (i + 1) s j = gpl i s (j - s) := by
      intro h
      unfold gpl
      rcases s_cases hs with rfl | rfl | rfl | rfl | rfl <;> omega
    by_cases h2 : j - s < i * s
    · simp [hj, h1, show s ≤ j by omega, e h2, h2, show j < i * s + s by omega, show j - s < 128 by omega]
    · simp [hj, h1, h2, show ¬ j < i * s + s by omega]
theorem flip_go (w h x : Nat) (hw : w ≤ 8) (hh : 4 ≤ h ∧ h ≤ 8) (hx : x < W128) (d : Nat) : ∀ i : Nat, i + d = w →
    Ev (fun k => board_Flip.l0 k w i w h (hiN (downN x (i * (h + 1)))) (loN (downN x (i * (h + 1)))) (hiN (fl (h + 1) i x)) (loN (fl (h + 1) i x)) (hiN (subN (addBit 0 (h + 1)) (addBit 0 0))) (loN (subN (addBit 0 (h + 1)) (addBit 0 0)))) (hiN (fl (h + 1) w x), loN (fl (h + 1) w x)) := by
  induction d with
  | zero =>
    intro i hi
    obtain rfl : i = w := by omega
    refine Ev.step (f := fun _ => some (hiN (fl (h + 1) i x), loN (fl (h + 1) i x))) (fun k => ?_) (Ev.now _)
    simp only [board_Flip.l0]; rw [if_neg (by omega)]
  | succ d ih =>
    intro i hi
    have h1 := downN_lt x (i * (h + 1)) hx
    have h2 := fl_lt (h + 1) i x
    have h3 := subN_lt (addBit 0 (h + 1)) (addBit 0 0)
    have e : downN (downN x (i * (h + 1))) (h + 1) = downN x ((i + 1) * (h + 1)) := by
      unfold downN; rw [← Nat.shiftRight_add, Nat.add_mul, Nat.one_mul]
    refine Ev.step (fun k => ?_) (ih (i + 1) (by omega))
    simp only [board_Flip.l0]
    rw [if_pos (by omega), wsucc h (by omega), wUp _ _ h2 (by omega)]
    simp only [Option.bind_some]
    rw [wAnd _ _ h1 h3]
    simp only [Option.bind_some]
    rw [wOr _ _ (upN_lt _ _) (and_lt _ _ h1)]
    simp only [Option.bind_some]
    rw [wDown _ _ h1 (by omega)]
    simp only [Option.bind_some]
    rw [fl_step (h + 1) i x (by omega) (by omega) hx, e, wsucc i (by omega)]
theorem atN_one (p : Nat) (hp : p < 128) : atN [(p : Int)] = addBit 0 p := by
  have := ofN_cons 0 (p : Int) [] (by decide)
  rw [if_pos (by omega), ofN_nil] at this
  unfold ofN at this
  rw [Nat.zero_or, Int.toNat_natCast] at this
  exact this
theorem bFlip (w h x : Nat) (hm : mayB w h = true) (hx : x < W128) : Ev (fun k => board_Flip.f k w h (hiN x) (loN x)) (hiN (fl (h + 1) w x), loN (fl (h + 1) w x)) := by
  have hb : (4 ≤ h ∧ h ≤ 8) ∧ (4 ≤ w ∧ w ≤ 8) := by simp only [mayB, decide_eq_true_eq] at hm; omega
  have o1 := wOf [((h + 1 : Nat) : Int)] (by simp) (by intro y hy; obtain rfl := List.mem_singleton.1 hy; omega)
  have o2 := wOf [(0 : Int)] (by simp) (by intro y hy; obtain rfl := List.mem_singleton.1 hy; omega)
  rw [atN_one (h + 1) (by omega)] at o1
  rw [show (0 : Int) = ((0 : Nat) : Int) from rfl, atN_one 0 (by omega)] at o2
  have g := flip_go w h x (by omega) hb.1 hx w 0 (by omega)
  rw [Nat.zero_mul, down_zero, show fl (h + 1) 0 x = 0 from word_ext _ _ (fl_lt _ _ _) (by decide) fun j hj => by rw [fl_tb, Nat.zero_testBit]; simp] at g
  unfold board_Flip.f
  simp only [bmay_f, hm, Option.bind_some, if_true, wsucc h (show h ≤ 1000000 by omega)]
  refine Ev.bind o1 (Ev.bind o2 ?_)
  rw [show (0 : Int) = ((0 : Nat) : Int) from rfl] at *
  simp only [wSub _ _ (addBit_lt 0 (h + 1) (by decide) (by omega)) (addBit_lt 0 0 (by decide) (by omega)), Option.bind_some]
  exact g
theorem bFlip_no (a b x y : Int) (hm : mayB a b = false) : Ev (fun k => board_Flip.f k a b x y) (0, 0) := by
  refine Ev.congr (f := fun _ => some (0, 0)) (fun k => ?_) (Ev.now _)
  unfold board_Flip.f
  simp [bmay_f, hm]
def PL (w s x m : Nat) (l : List Int) : Prop := l.length ≤ m ∧ ∀ j, j < 128 → atB l j = (List.range m).any fun p => x.testBit p && decide (gpl w s p = j)
theorem PL_next (w s x m : Nat) (l : List Int) (h : PL w s x m l) (hx : x.testBit m = false) : PL w s x (m + 1) l := by
  refine ⟨by have := h.1; omega, fun j hj => ?_⟩
  rw [h.2 j hj, List.range_succ, List.any_append]; simp [hx]
theorem PL_add (w s x m : Nat) (l : List Int) (h : PL w s x m l) (hx : x.testBit m = true) : PL w s x (m + 1) (l ++ [((gpl w s m : Nat) : Int)]) := by
  refine ⟨by have := h.1; simp; omega, fun j hj => ?_⟩
  have := h.2 j hj
  have e : decide (((gpl w s m : Nat) : Int) = (j : Int)) = decide (gpl w s m = j) := by rw [decide_eq_decide]; omega
  unfold atB at *
  rw [List.any_append, this, List.range_succ, List.any_append]
  simp [hx, e]
theorem PL_all (w s x : Nat) (l : List Int) (hs : 5 ≤ s ∧ s ≤ 9) (hw : w ≤ 8) (h : PL w s x (w * s) l) : atN l = fl s w x := by
  have hb := mul_bd w s 8 9 hw hs.2
  unfold atN
  refine word_ext _ _ (nb128_lt _) (fl_lt _ _ _) fun j hj => ?_
  rw [nb128_tb, fl_tb, h.2 j hj]
  simp only [hj, decide_true, Bool.true_and]
  rw [Bool.eq_iff_iff]
  simp only [List.any_eq_true, List.mem_range, Bool.and_eq_true, decide_eq_true_eq]
  constructor
  · rintro ⟨p, hp, hxp, rfl⟩
    exact ⟨gpl_lt w s p hs hp, by rw [gpl_gpl w s p hs hp]; exact hxp⟩
  · rintro ⟨h1, h2⟩
    exact ⟨gpl w s j, gpl_lt w s j hs h1, h2, gpl_gpl w s j hs h1⟩
theorem rf_e1 (c y h : Nat) (hc : c ≤ 8) (hy : y ≤ 8) (hh : h ≤ 8) : wrap64 (wrap64 ((c : Int) * wrap64 ((h : Int) + 1)) + (y : Int)) = ((c * (h + 1) + y : Nat) : Int) := by
  have hb := mul_bd c (h + 1) 8 9 hc (by omega)
  rw [wsucc h (by omega), wp c (h + 1) (by omega) (by omega)]
  generalize c * (h + 1) = z at *
  unfold wrap64; omega
theorem rf_e3 (w c y h : Nat) (hw : w ≤ 8) (hc : c < w) (hy : y ≤ h) (hh : h ≤ 8) : wrap64 (wrap64 (wrap64 (wrap64 ((w : Int) - 1) - (c : Int)) * wrap64 ((h : Int) + 1)) + (y : Int)) = ((gpl w (h + 1) (c * (h + 1) + y) : Nat) : Int) := by
  have hg : gpl w (h + 1) (c * (h + 1) + y) = (w - 1 - c) * (h + 1) + y := by
    unfold gpl
    rw [show (c * (h + 1) + y) / (h + 1) = c by rw [Nat.add_comm, Nat.add_mul_div_right _ _ (by omega), Nat.div_eq_of_lt (by omega), Nat.zero_add], show (c * (h + 1) + y) % (h + 1) = y by rw [Nat.add_comm, Nat.add_mul_mod_self_right, Nat.mod_eq_of_lt (by omega)]]
  have hb2 := mul_bd (w - 1 - c) (h + 1) 8 9 (by omega) (by omega)
  rw [hg, wsucc h (by omega), show wrap64 (wrap64 ((w : Int) - 1) - (c : Int)) = ((w - 1 - c : Nat) : Int) by unfold wrap64; omega, wp (w - 1 - c) (h + 1) (by omega) (by omega)]
  generalize (w - 1 - c) * (h + 1) = z at *
  clear hg
  unfold wrap64; omega
theorem rf_has (p x : Nat) (hx : wfW (hiN x) (loN x)) (hp : p ≤ 127) : plummetref02_Has.f (hiN x) (loN x) (p : Int) = some (x.testBit p) := by
  unfold plummetref02_Has.f
  rw [if_pos hx, N2_halves]
  unfold hasN
  rw [decide_eq_true (by omega), decide_eq_true (by omega), Int.toNat_natCast]; rfl
theorem rflip_l0 (w h x : Nat) (hw : 4 ≤ w ∧ w ≤ 8) (hh : 4 ≤ h ∧ h ≤ 8) (hx : x < W128) (d : Nat) : ∀ (c : Nat) (l : List Int), c + d = w → PL w (h + 1) x (c * (h + 1)) l →
    Ev (fun k => plummetref06_Flip.l0 k l c w h (hiN x) (loN x)) (hiN (fl (h + 1) w x), loN (fl (h + 1) w x)) := by
  have hwf := wfW_halves x hx
  induction d with
  | zero =>
    intro c l hc hP
    obtain rfl : c = w := by omega
    have hb := mul_bd c (h + 1) 8 9 (by omega) (by omega)
    have e := PL_all c (h + 1) x l (by omega) (by omega) hP
    refine Ev.step (f := fun _ => some (hiN (fl (h + 1) c x), loN (fl (h + 1) c x))) (fun k => ?_) (Ev.now _)
    simp only [plummetref06_Flip.l0]; rw [if_neg (by omega)]
    unfold plummetref02_At.f
    rw [if_pos (by have := hP.1; omega), e]; rfl
  | succ d ih =>
    intro c l hc hP
    have inner : ∀ (e y : Nat) (l : List Int), y + e = h + 1 → PL w (h + 1) x (c * (h + 1) + y) l → Ev (fun k => plummetref06_Flip.l1 k l c y w h (hiN x) (loN x)) (hiN (fl (h + 1) w x), loN (fl (h + 1) w x)) := by
      intro e
      induction e with
      | zero =>
        intro y l hy hP
        obtain rfl : y = h + 1 := by omega
        have := ih (c + 1) l (by omega) (by rw [Nat.add_mul, Nat.one_mul]; exact hP)
        refine Ev.step (fun k => ?_) this
        simp only [plummetref06_Flip.l1]; rw [if_neg (by omega), wsucc c (by omega)]
      | succ e ie =>
        intro y l hy hP
        have hb := mul_bd c (h + 1) 7 9 (by omega) (by omega)
        have hl := hP.1
        have hc9 : c ≤ 8 := by omega
        have hc8 : c < w := by omega
        have e2 := rf_has (c * (h + 1) + y) x hwf (by omega)
        cases hb3 : x.testBit (c * (h + 1) + y) with
        | true =>
          refine Ev.step (fun k => ?_) (ie (y + 1) _ (by omega) (PL_add _ _ _ _ _ hP hb3))
          simp only [plummetref06_Flip.l1]
          rw [if_pos (by omega), rf_e1 c y h hc9 (by omega) hh.2, e2, hb3]
          simp only [Option.bind_some, if_true]
          rw [if_pos (by omega), rf_e3 w c y h hw.2 hc8 (by omega) hh.2, wsucc y (by omega)]
          rfl
        | false =>
          refine Ev.step (fun k => ?_) (ie (y + 1) _ (by omega) (PL_next _ _ _ _ _ hP hb3))
          simp only [plummetref06_Flip.l1]
          rw [if_pos (by omega), rf_e1 c y h hc9 (by omega) hh.2, e2, hb3]
          simp only [Option.bind_some, Bool.false_eq_true, if_false]
          rw [wsucc y (by omega)]
    have := inner (h + 1) 0 l (by omega) hP
    refine Ev.step (fun k => ?_) this
    simp only [plummetref06_Flip.l0]; rw [if_pos (by omega)]; rfl
theorem rFlip (w h x : Nat) (hm : mayB w h = true) (hx : x < W128) : Ev (fun k => plummetref06_Flip.f k w h (hiN x) (loN x)) (hiN (fl (h + 1) w x), loN (fl (h + 1) w x)) := by
  have hb : (4 ≤ h ∧ h ≤ 8) ∧ (4 ≤ w ∧ w ≤ 8) := by simp only [mayB, decide_eq_true_eq] at hm; omega
  have := rflip_l0 w h x hb.2 hb.1 hx w 0 [] (by omega) ⟨by simp, fun j _ => by simp [atB]⟩
  refine Ev.congr (fun k => ?_) this
  unfold plummetref06_Flip.f
  simp only [rmay_f, hm, Option.bind_some, if_true]
  rfl
theorem rFlip_no (a b x y : Int) (hm : mayB a b = false) : Ev (fun k => plummetref06_Flip.f k a b x y) (0, 0) := by
  refine Ev.congr (f := fun _ => some (0, 0)) (fun k => ?_) (Ev.now _)
  unfold plummetref06_Flip.f
  simp [rmay_f, hm]
end Go.Proofs.Ytbbnnjcdglplkaa.KF
