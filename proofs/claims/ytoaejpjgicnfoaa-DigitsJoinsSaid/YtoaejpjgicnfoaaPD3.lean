/-
  What the reference's reading, both joinings, both splittings and the comparing of lists answer; conditions: the numbers are of their kind, lists and texts are not too long.
-/
import Derived.Test.YtoaejpjgicnfoaaPD2
namespace Go.Proofs.Ytoaejpjgicnfoaa.PD
open Go.RowKit Go.Proofs.Ytoaejpjgicnfoaa.Given Go.Proofs.Ytoaejpjgicnfoaa.KD Go.Proofs.YtoaejpjgicnfoaaW.PrintWords Go.Proofs.YtoaejpjgicnfoaaW.PrintLast

/-! ### the reference's reading -/
theorem decL_len (n : Int) (h : Ok64 n) : 0 < (decL n).length ∧ (decL n).length ≤ 20 := by
  obtain ⟨h1, h2⟩ := h
  have l1 := decN_len19 n.natAbs (by omega)
  have l2 : 0 < (decN n.natAbs).length := List.length_pos_iff.2 (decN_ne _)
  unfold decL; split
  · simp; omega
  · omega
theorem val_take_le (l : List UInt8) : ∀ (m : Nat), val (l.take m) ≤ val l := by
  intro m
  have h : ∀ (a b : List UInt8) (x : Nat), x ≤ a.foldl (fun a c => 10 * a + (c.toNat - 48)) x := by
    intro a
    induction a with
    | nil => intro b x; exact Nat.le_refl _
    | cons c t ih => intro b x; exact Nat.le_trans (show x ≤ 10 * x + (c.toNat - 48) by omega) (ih b _)
  have e : val l = (l.drop m).foldl (fun a c => 10 * a + (c.toNat - 48)) (val (l.take m)) := by
    rw [val, val, ← List.foldl_append, List.take_append_drop]
  rw [e]; exact h _ [] _
/-- Of what a number's text says. -/
theorem num_val (l : List UInt8) (neg : Bool) (ds : List UInt8) (hL : l = sgn neg ds) (hs : neg = false → ds.head? ≠ some 45) (n : Int) (hn : IsNum l n) : Digs ds ∧ val ds ≤ most neg ∧ n = (if neg then -(val ds : Int) else (val ds : Int)) := by
  have h1 := read1_res neg ds hs
  rw [← hL] at h1
  rcases h1 with ⟨m, hm, hr⟩ | ⟨hm, _⟩
  · have e : n = m := decL_inj _ _ (hn.2.symm.trans hm.2)
    subst e
    unfold read1 at hr
    by_cases hb : bad neg ds
    · rw [if_pos hb] at hr; exact absurd (Prod.mk.inj hr).2 (by decide)
    · rw [if_neg hb] at hr
      by_cases hd : Digs ds
      · rw [if_pos hd] at hr
        unfold fin at hr
        by_cases hv : val ds > most neg
        · rw [if_pos hv] at hr; exact absurd (Prod.mk.inj hr).2 (by decide)
        · rw [if_neg hv] at hr; exact ⟨hd, Nat.le_of_not_lt hv, (Prod.mk.inj hr).1.symm⟩
      · rw [if_neg hd] at hr; exact absurd (Prod.mk.inj hr).2 (by decide)
  · exact absurd hn (hm n)
theorem most_le (neg : Bool) : most neg ≤ 9223372036854775808 := by cases neg <;> simp [most]
def sv (neg : Bool) (v : Nat) : Int := if neg then -(v : Int) else (v : Int)
/-- The reference's end: the text of what was read is held against the text. -/
theorem refend_ev (s : ByteArray) (neg : Bool) (ds : List UInt8) (i : Int) (hi : (s.size : Int) ≤ i) (hL : L s = sgn neg ds) (hs : neg = false → ds.head? ≠ some 45) (hv : val ds ≤ 9223372036854775808) :
    ∃ r, Ev (fun k => plummetref01_Read.l0 k s (if neg then -1 else 1) (-(val ds : Int)) i) r ∧ Res (L s) r := by
  by_cases hm : neg = false ∧ val ds = 9223372036854775808
  · obtain ⟨rfl, hm⟩ := hm
    refine ⟨(0, false), Ev.step (f := fun _ => some (0, false)) (fun k => ?_) (Ev.now _), .inr ⟨fun n hn => ?_, rfl⟩⟩
    · simp only [plummetref01_Read.l0]
      rw [if_neg (by omega), show (if false = true then (-1 : Int) else 1) = 1 from rfl, if_pos rfl, if_pos (by omega)]
    · have := (num_val _ _ _ hL hs n hn).2.1
      simp only [most] at this; rw [if_neg (by simp)] at this; omega
  · have hok : Ok64 (sv neg (val ds)) := by
      cases neg
      · have : ¬ val ds = 9223372036854775808 := fun h => hm ⟨rfl, h⟩
        unfold Ok64 sv; rw [if_neg (by simp)]; omega
      · unfold Ok64 sv; rw [if_pos rfl]; omega
    have ht := ref_text (sv neg (val ds)) hok
    refine ⟨if decL (sv neg (val ds)) = L s then (sv neg (val ds), true) else (0, false), Ev.step (fun k => ?_) (Ev.bind ht (f := fun _ t => if t.toList = s.toList then some (sv neg (val ds), true) else some (0, false)) (Ev.congr (fun k => ?_) (Ev.now _))), ?_⟩
    · simp only [plummetref01_Read.l0]
      rw [if_neg (by omega)]
      cases neg
      · have h9 : ¬ val ds = 9223372036854775808 := fun h => hm ⟨rfl, h⟩
        have e : wrap64 (-(-(val ds : Int))) = sv false (val ds) := by unfold wrap64 sv; rw [if_neg (by simp)]; omega
        rw [show (if false = true then (-1 : Int) else 1) = 1 from rfl, if_pos rfl, if_neg (by omega), e]
      · rw [show (if true = true then (-1 : Int) else 1) = -1 from rfl, if_neg (by omega)]; rfl
    · simp only [toList_L, L_B]; split <;> rfl
    · by_cases he : decL (sv neg (val ds)) = L s
      · rw [if_pos he]; exact .inl ⟨_, ⟨hok, he.symm⟩, rfl⟩
      · rw [if_neg he]
        refine .inr ⟨fun n hn => ?_, rfl⟩
        have := (num_val _ _ _ hL hs n hn).2.2
        exact he (by rw [show sv neg (val ds) = n from this.symm]; exact hn.2.symm)
/-- What the reference's loop comes to: the digits behind the sign. -/
theorem refl0_ev (s : ByteArray) (neg : Bool) (sg : Nat) (ds : List UInt8) (hsz : s.size ≤ 1000000) (hlen : s.size = ds.length + sg) (hget : ∀ (i : Nat) (h : i < ds.length) (h2 : i + sg < (L s).length), (L s)[i + sg] = ds[i]) (hL : L s = sgn neg ds) (hs : neg = false → ds.head? ≠ some 45) :
    ∀ (d i : Nat), ds.length - i = d → i ≤ ds.length → Digs (ds.take i) → val (ds.take i) ≤ 9223372036854775808 →
    ∃ r, Ev (fun k => plummetref01_Read.l0 k s (if neg then -1 else 1) (-(val (ds.take i) : Int)) ((i + sg : Nat) : Int)) r ∧ Res (L s) r := by
  intro d
  induction d with
  | zero =>
    intro i hd hi hdg hv
    have hi' : i = ds.length := by omega
    rw [hi', List.take_length] at hv ⊢
    exact refend_ev s neg ds _ (by omega) hL hs hv
  | succ d ih =>
    intro i hd hi hdg hv
    have hlt : i < ds.length := by omega
    have hltL : i + sg < (L s).length := by rw [L_len]; omega
    have hb := bt_get s (i + sg) hltL
    rw [hget i hlt hltL] at hb
    generalize hx : val (ds.take i) = x at *
    by_cases hc : Dig ds[i]
    · have hdt := digs_take_succ _ _ hlt hdg hc
      have hvt : val (ds.take (i + 1)) = 10 * x + (ds[i].toNat - 48) := by rw [take_succ' _ _ hlt, val_snoc, hx]
      unfold Dig at hc
      generalize hy : ds[i].toNat = y at *
      have hw : (((y : Int) - 48) % 256) = ((y - 48 : Nat) : Int) := by omega
      have s1 : ∀ k, plummetref01_Read.l0 (k + 1) s (if neg then -1 else 1) (-(x : Int)) ((i + sg : Nat) : Int) = plummetref01_Read.j3 k s (if neg then -1 else 1) (-(x : Int)) ((i + sg : Nat) : Int) false := fun k => by
        simp only [plummetref01_Read.l0]
        rw [if_pos (by omega), if_pos (by omega), hb, if_neg (by omega), decide_eq_false (by omega)]
      have e0 : Int.tdiv (-9223372036854775808 + ((y - 48 : Nat) : Int)) 10 = -(((9223372036854775808 - (y - 48)) / 10 : Nat) : Int) := by
        rw [show (-9223372036854775808 + ((y - 48 : Nat) : Int)) = -((9223372036854775808 - (y - 48) : Nat) : Int) by omega, Int.neg_tdiv, Int.tdiv_eq_ediv_of_nonneg (by omega)]; omega
      by_cases hov : 10 * x + (y - 48) ≤ 9223372036854775808
      · obtain ⟨r, hr, hres⟩ := ih (i + 1) (by omega) (by omega) hdt (by rw [hvt]; exact hov)
        rw [hvt] at hr
        refine ⟨r, Ev.step s1 (Ev.step (fun k => ?_) hr), hres⟩
        simp only [plummetref01_Read.j3]
        rw [if_neg (by simp), if_pos (by omega), if_pos (by omega), hb, hw, e0, if_neg (by omega)]
        have e3 : wrap64 (10 * -(x : Int)) = -(10 * (x : Int)) := by unfold wrap64; omega
        have e1 : wrap64 (wrap64 (10 * -(x : Int)) - ((y - 48 : Nat) : Int)) = -((10 * x + (y - 48) : Nat) : Int) := by rw [e3]; unfold wrap64; omega
        have e2 : wrap64 (((i + sg : Nat) : Int) + 1) = ((i + 1 + sg : Nat) : Int) := by unfold wrap64; omega
        rw [e1, e2]
      · refine ⟨(0, false), Ev.step s1 (Ev.step (f := fun _ => some (0, false)) (fun k => ?_) (Ev.now _)), .inr ⟨fun n hn => ?_, rfl⟩⟩
        · simp only [plummetref01_Read.j3]
          rw [if_neg (by simp), if_pos (by omega), if_pos (by omega), hb, hw, e0, if_pos (by omega)]
        · have h1 := (num_val _ _ _ hL hs n hn).2.1
          have h2 := val_take_le ds (i + 1)
          have h3 := most_le neg
          omega
    · refine ⟨(0, false), ?_, .inr ⟨fun n hn => not_digs _ _ hlt hc (num_val _ _ _ hL hs n hn).1, rfl⟩⟩
      unfold Dig at hc
      generalize hy : ds[i].toNat = y at *
      refine Ev.step (f := fun k => plummetref01_Read.j3 k s (if neg then -1 else 1) (-(x : Int)) ((i + sg : Nat) : Int) true) (fun k => ?_) (Ev.step (f := fun _ => some (0, false)) (fun k => ?_) (Ev.now _))
      · simp only [plummetref01_Read.l0]
        rw [if_pos (by omega), if_pos (by omega), hb]
        by_cases h1 : (y : Int) < 48
        · rw [if_pos h1]
        · rw [if_neg h1, decide_eq_true (by omega)]
      · simp only [plummetref01_Read.j3]; rw [if_pos trivial]
theorem refread_res (s : ByteArray) : ∃ r, Ev (fun k => plummetref01_Read.f k s) r ∧ Res (L s) r := by
  by_cases hb : (L s).length = 0 ∨ (L s).length > 20
  · refine ⟨(0, false), Ev.congr (f := fun k => plummetref01_Read.j0 k s true) (fun k => ?_) (Ev.step (f := fun _ => some (0, false)) (fun k => ?_) (Ev.now _)), .inr ⟨fun n hn => ?_, rfl⟩⟩
    · unfold plummetref01_Read.f
      rw [L_len] at hb
      rcases hb with h | h
      · rw [if_pos (by omega)]
      · rw [if_neg (by omega), decide_eq_true (by omega)]
    · simp only [plummetref01_Read.j0]; rw [if_pos trivial]
    · have := decL_len n hn.1
      rw [← hn.2] at this; omega
  · have hp : 0 < (L s).length := by omega
    have hb0 := bt_get s 0 hp
    have hf : ∀ k, plummetref01_Read.f k s = plummetref01_Read.j0 k s false := fun k => by
      unfold plummetref01_Read.f
      rw [L_len] at hb
      rw [if_neg (by omega), decide_eq_false (by omega)]
    have hhd := head_get (L s) hp
    by_cases h45 : (L s)[0] = 45
    · have e : L s = sgn true ((L s).drop 1) := by
        simp only [sgn, if_true]; rw [← h45, ← List.drop_eq_getElem_cons hp]; rfl
      have h1 := refl0_ev s true 1 ((L s).drop 1) (by rw [L_len] at hb; omega) (by rw [List.length_drop, L_len]; rw [L_len] at hp; omega) (by intro i h h2; rw [List.getElem_drop]; congr 1; omega) e (by simp) _ 0 rfl (by omega) (by intro c hc; simp at hc) (by simp [val])
      obtain ⟨r, hr, hres⟩ := h1
      refine ⟨r, Ev.congr hf (Ev.step (f := fun k => plummetref01_Read.j1 k s (-1) 1) (fun k => ?_) (Ev.step (fun k => ?_) hr)), hres⟩
      · simp only [plummetref01_Read.j0]
        rw [L_len] at hp
        rw [if_neg (by simp), if_pos (by omega), if_pos (by have := hb0; rw [h45] at this; exact this)]
      · simp only [plummetref01_Read.j1]; rfl
    · have h1 := refl0_ev s false 0 (L s) (by rw [L_len] at hb; omega) (by rw [L_len]; omega) (fun i h h2 => rfl) rfl (fun _ h => h45 (by rw [hhd] at h; exact Option.some.inj h)) _ 0 rfl (by omega) (by intro c hc; simp at hc) (by simp [val])
      obtain ⟨r, hr, hres⟩ := h1
      refine ⟨r, Ev.congr hf (Ev.step (f := fun k => plummetref01_Read.j1 k s 1 0) (fun k => ?_) (Ev.step (fun k => ?_) hr)), hres⟩
      · simp only [plummetref01_Read.j0]
        have : ¬ bt s 0 = 45 := by
          intro h
          have h2 : ((L s)[0].toNat : Int) = 45 := by rw [← hb0]; exact h
          exact h45 (UInt8.toNat_inj.1 (by have : (45 : UInt8).toNat = 45 := rfl; omega))
        rw [L_len] at hp
        rw [if_neg (by simp), if_pos (by omega), if_neg this]
      · simp only [plummetref01_Read.j1]; rfl
/-- What both readings answer. -/
theorem reads_one (s : ByteArray) : ∃ r, Ev (fun k => digits_Read.f k s) r ∧ Ev (fun k => plummetref01_Read.f k s) r ∧ Res (L s) r := by
  obtain ⟨r, h1, h2⟩ := read_res s
  obtain ⟨r', h1', h2'⟩ := refread_res s
  rw [Res.unique h2' h2] at h1'
  exact ⟨r, h1, h1', h2⟩
theorem read_num (n : Int) (h : Ok64 n) : Ev (fun k => digits_Read.f k (B (decL n))) (n, true) := by
  obtain ⟨r, h1, h2⟩ := read_res (B (decL n))
  rw [Res.unique h2 (.inl ⟨n, ⟨h, L_B _⟩, rfl⟩)] at h1
  exact h1
theorem text_ev (n : Int) (h : Ok64 n) : digits_Text.f n = some (B (decL n)) := by
  unfold digits_Text.f; rw [if_pos (show -9223372036854775808 ≤ n ∧ n ≤ 9223372036854775807 from h)]; rfl

end Go.Proofs.Ytoaejpjgicnfoaa.PD
