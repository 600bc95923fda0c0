/-
  What reading and writing numbers answers: the two programs' readings of a text are one, the reference's text of a number is its digits; conditions: the numbers are of their kind.
-/
import Derived.Test.YtoaejpjgicnfoaaPD
namespace Go.Proofs.Ytoaejpjgicnfoaa.PD
open Go.RowKit Go.Proofs.Ytoaejpjgicnfoaa.Given Go.Proofs.Ytoaejpjgicnfoaa.KD Go.Proofs.YtoaejpjgicnfoaaW.PrintWords Go.Proofs.YtoaejpjgicnfoaaW.PrintLast

/-! ### reading -/
def IsNum (l : List UInt8) (n : Int) : Prop := Ok64 n ∧ l = decL n
/-- What a reading must answer. -/
def Res (l : List UInt8) (r : Int × Bool) : Prop := (∃ n, IsNum l n ∧ r = (n, true)) ∨ ((∀ n, ¬ IsNum l n) ∧ r = (0, false))
theorem Res.unique {l : List UInt8} {r r' : Int × Bool} (h : Res l r) (h' : Res l r') : r = r' := by
  rcases h with ⟨n, hn, rfl⟩ | ⟨hn, rfl⟩ <;> rcases h' with ⟨m, hm, rfl⟩ | ⟨hm, rfl⟩
  · rw [decL_inj n m (hn.2.symm.trans hm.2)]
  · exact absurd hn (hm n)
  · exact absurd hm (hn m)
  · rfl
/-- Digits, with a sign ahead or not, that are no number's. -/
def bad (neg : Bool) (ds : List UInt8) : Prop := ds = [] ∨ ds.length > 19 ∨ (ds.head? = some 48 ∧ (ds.length > 1 ∨ neg = true))
instance (neg : Bool) (ds : List UInt8) : Decidable (bad neg ds) := by unfold bad; infer_instance
def read1 (neg : Bool) (ds : List UInt8) : Int × Bool := if bad neg ds then (0, false) else if Digs ds then fin neg (val ds) else (0, false)
def sgn (neg : Bool) (ds : List UInt8) : List UInt8 := if neg then 45 :: ds else ds
theorem decN_no45 (n : Nat) (l : List UInt8) : decN n ≠ 45 :: l := by
  intro e
  have h := digs_decN n 45 (by rw [e]; simp)
  unfold Dig at h; simp at h
theorem decN_len19 (n : Nat) (h : n < 10000000000000000000) : (decN n).length ≤ 19 := (decN_length n 19 (by omega)).2 h
theorem read1_res (neg : Bool) (ds : List UInt8) (hs : neg = false → ds.head? ≠ some 45) : Res (sgn neg ds) (read1 neg ds) := by
  have key : ∀ n, IsNum (sgn neg ds) n → ¬ bad neg ds ∧ Digs ds ∧ ¬ val ds > most neg ∧ n = (if neg then -(val ds : Int) else (val ds : Int)) := by
    intro n ⟨⟨h1, h2⟩, h3⟩
    unfold decL at h3
    cases neg with
    | true =>
      simp only [sgn, if_true] at h3 ⊢
      split at h3
      · rename_i hn
        obtain rfl : ds = decN n.natAbs := (List.cons.inj h3).2
        refine ⟨?_, digs_decN _, ?_, ?_⟩
        · rintro (h | h | h)
          · exact decN_ne _ h
          · have := decN_len19 n.natAbs (by omega); omega
          · exact decN_head n.natAbs (by omega) 48 h.1 rfl
        · rw [val_decN]; simp only [most, if_true]; omega
        · rw [val_decN]; omega
      · exact absurd h3.symm (decN_no45 _ _)
    | false =>
      simp only [sgn] at h3 ⊢
      rw [if_neg (by simp)] at h3
      split at h3
      · exact absurd (by rw [h3]; rfl) (hs rfl)
      · rename_i hn
        subst h3
        refine ⟨?_, digs_decN _, ?_, ?_⟩
        · rintro (h | h | h)
          · exact decN_ne _ h
          · have := decN_len19 n.natAbs (by omega); omega
          · rcases Nat.eq_zero_or_pos n.natAbs with h0 | h0
            · rw [h0] at h
              have e : decN 0 = [48] := by rw [decN]; rfl
              rw [e] at h; simp at h
            · exact decN_head n.natAbs h0 48 h.1 rfl
        · rw [val_decN]; simp only [most]; simp; omega
        · rw [val_decN, if_neg (by simp)]; omega
  by_cases hb : bad neg ds
  · exact .inr ⟨fun n hn => (key n hn).1 hb, by rw [read1, if_pos hb]⟩
  by_cases hd : Digs ds
  · by_cases hm : val ds > most neg
    · exact .inr ⟨fun n hn => (key n hn).2.2.1 hm, by rw [read1, if_neg hb, if_pos hd, fin, if_pos hm]⟩
    · have hne : ds ≠ [] := fun h => hb (.inl h)
      have hz : ds.head? = some 48 → ds.length = 1 := by
        intro h
        have h1 : ¬ ds.length > 1 := fun h2 => hb (.inr (.inr ⟨h, .inl h2⟩))
        have h2 : 0 < ds.length := List.length_pos_iff.2 hne
        omega
      have hv := decN_val ds hd hne hz
      refine .inl ⟨if neg then -(val ds : Int) else (val ds : Int), ⟨?_, ?_⟩, by rw [read1, if_neg hb, if_pos hd, fin, if_neg hm]⟩
      · cases neg <;> simp [most] at hm ⊢ <;> unfold Ok64 <;> omega
      · cases neg with
        | true =>
          have hp : 0 < val ds := by
            rcases Nat.eq_zero_or_pos (val ds) with h0 | h0
            · rw [h0] at hv
              have e : decN 0 = [48] := by rw [decN]; rfl
              exact absurd (.inr (.inr ⟨by rw [← hv, e]; rfl, .inr rfl⟩)) hb
            · exact h0
          simp only [sgn, if_true]
          rw [decL, if_pos (by omega), show (-(val ds : Int)).natAbs = val ds by omega, hv]
        | false =>
          simp only [sgn]; rw [if_neg (by simp), if_neg (by simp)]
          rw [decL, if_neg (by omega), show ((val ds : Int)).natAbs = val ds by omega, hv]
  · exact .inr ⟨fun n hn => hd (key n hn).2.1, by rw [read1, if_neg hb, if_neg hd]⟩
theorem toList_L (s : ByteArray) : s.toList = L s := by rw [L]; exact ByteArray.toList_eq s
theorem head_get (l : List UInt8) (h : 0 < l.length) : l.head? = some l[0] := by
  cases l with
  | nil => simp at h
  | cons a b => rfl
theorem j2_ev (s : ByteArray) (neg : Bool) (hs : s.size ≤ 19) : Ev (fun k => digits_Read.j2 k s neg false) (if Digs (L s) then fin neg (val (L s)) else (0, false)) := by
  refine Ev.step (fun k => ?_) (l0_ev s neg hs s.size 0 (by omega) (by omega) (by intro c hc; simp at hc))
  simp only [digits_Read.j2]
  rw [if_neg (by simp)]
  rfl
theorem j2_no (s : ByteArray) (neg : Bool) : Ev (fun k => digits_Read.j2 k s neg true) (0, false) := by
  refine Ev.step (f := fun _ => some (0, false)) (fun k => ?_) (Ev.now _)
  simp only [digits_Read.j2]
  rw [if_pos trivial]
theorem j1_ev (s : ByteArray) (neg : Bool) : Ev (fun k => digits_Read.j1 k s neg) (read1 neg (L s)) := by
  by_cases h0 : L s = []
  · rw [read1, if_pos (.inl h0)]
    refine Ev.step (fun k => ?_) (j2_no s neg)
    simp only [digits_Read.j1]
    rw [toList_L, if_pos h0]
  have hp : 0 < (L s).length := List.length_pos_iff.2 h0
  by_cases h19 : (L s).length > 19
  · rw [read1, if_pos (.inr (.inl h19))]
    refine Ev.step (fun k => ?_) (j2_no s neg)
    simp only [digits_Read.j1]
    rw [L_len] at h19
    rw [toList_L, if_neg h0, if_pos (by omega)]
  have hb := bt_get s 0 hp
  have hhd := head_get (L s) hp
  by_cases hz : (L s)[0] = 48
  · have hb2 : bt s 0 = 48 := by have := hb; rw [hz] at this; exact this
    by_cases h1 : (L s).length > 1
    · rw [read1, if_pos (.inr (.inr ⟨by rw [hhd, hz], .inl h1⟩))]
      refine Ev.step (fun k => ?_) (j2_no s neg)
      simp only [digits_Read.j1]
      rw [L_len] at h19 h1 hp
      rw [toList_L, if_neg h0, if_neg (by omega), if_pos (by omega), if_pos hb2, if_pos (by omega)]
    · cases neg with
      | true =>
        rw [read1, if_pos (.inr (.inr ⟨by rw [hhd, hz], .inr rfl⟩))]
        refine Ev.step (fun k => ?_) (j2_no s true)
        simp only [digits_Read.j1]
        rw [L_len] at h19 h1 hp
        rw [toList_L, if_neg h0, if_neg (by omega), if_pos (by omega), if_pos hb2, if_neg (by omega)]
      | false =>
        rw [read1, if_neg (by rintro (h | h | ⟨_, h | h⟩); exact h0 h; exact h19 h; exact h1 h; simp at h)]
        refine Ev.step (fun k => ?_) (j2_ev s false (by rw [← L_len]; omega))
        simp only [digits_Read.j1]
        rw [L_len] at h19 h1 hp
        rw [toList_L, if_neg h0, if_neg (by omega), if_pos (by omega), if_pos hb2, if_neg (by omega)]
  · rw [read1, if_neg (by rintro (h | h | ⟨h, _⟩); exact h0 h; exact h19 h; rw [hhd] at h; exact hz (Option.some.inj h))]
    refine Ev.step (fun k => ?_) (j2_ev s neg (by rw [← L_len]; omega))
    simp only [digits_Read.j1]
    have hb2 : ¬ bt s 0 = 48 := by
      intro h
      have h2 : ((L s)[0].toNat : Int) = 48 := by rw [← hb]; exact h
      exact hz (UInt8.toNat_inj.1 (by have : (48 : UInt8).toNat = 48 := rfl; omega))
    rw [L_len] at h19 hp
    rw [toList_L, if_neg h0, if_neg (by omega), if_pos (by omega), if_neg hb2]
theorem L_extract (s : ByteArray) (a b : Nat) : L (s.extract a b) = ((L s).drop a).take (b - a) := Lib.extract_data s a b
theorem read_res (s : ByteArray) : ∃ r, Ev (fun k => digits_Read.f k s) r ∧ Res (L s) r := by
  by_cases h0 : L s = []
  · refine ⟨_, Ev.congr (f := fun k => digits_Read.j0 k s false false) (fun k => ?_) (Ev.step (f := fun k => digits_Read.j1 k s false) (fun k => ?_) (j1_ev s false)), read1_res false (L s) (by rw [h0]; simp)⟩
    · unfold digits_Read.f
      rw [if_neg (by have hz : s.size = 0 := by { rw [← L_len, h0]; rfl }
                     omega)]
    · simp only [digits_Read.j0]; rw [if_neg (by simp)]
  have hp : 0 < (L s).length := List.length_pos_iff.2 h0
  have hb := bt_get s 0 hp
  have hhd := head_get (L s) hp
  have hf : ∀ k, digits_Read.f k s = digits_Read.j0 k s false (bt s 0 == 45) := fun k => by
    unfold digits_Read.f
    rw [L_len] at hp
    rw [if_pos (by omega), if_pos (by omega)]
  by_cases h45 : (L s)[0] = 45
  · have hb2 : (bt s 0 == 45) = true := by rw [beq_iff_eq]; have := hb; rw [h45] at this; exact this
    have e : L s = sgn true (L (s.extract 1 s.size)) := by
      rw [L_extract, List.take_of_length_le (by rw [List.length_drop, L_len]; omega)]
      simp only [sgn, if_true]
      rw [← h45, ← List.drop_eq_getElem_cons hp]; rfl
    refine ⟨_, Ev.congr hf (Ev.step (f := fun k => digits_Read.j1 k (s.extract 1 s.size) true) (fun k => ?_) (j1_ev _ true)), ?_⟩
    · simp only [digits_Read.j0]
      rw [L_len] at hp
      rw [hb2, if_pos rfl, if_pos (by omega)]
    · rw [e]; exact read1_res true _ (by simp)
  · have hb2 : (bt s 0 == 45) = false := by
      rw [beq_eq_false_iff_ne]; intro h
      have h2 : ((L s)[0].toNat : Int) = 45 := by rw [← hb]; exact h
      exact h45 (UInt8.toNat_inj.1 (by have : (45 : UInt8).toNat = 45 := rfl; omega))
    refine ⟨_, Ev.congr hf (Ev.step (f := fun k => digits_Read.j1 k s false) (fun k => ?_) (j1_ev _ false)), ?_⟩
    · simp only [digits_Read.j0]
      rw [hb2, if_neg (by simp)]
    · exact read1_res false (L s) (fun _ h => h45 (by rw [hhd] at h; exact Option.some.inj h))

/-! ### the reference's text -/
def B (l : List UInt8) : ByteArray := ⟨l.toArray⟩
theorem L_B (l : List UInt8) : L (B l) = l := by simp [L, B]
theorem B_size (l : List UInt8) : (B l).size = l.length := by rw [← L_len, L_B]
theorem B_app (a b : List UInt8) : B a ++ B b = B (a ++ b) := by
  apply ByteArray.ext; simp [B]
theorem B_L (s : ByteArray) : B (L s) = s := by apply ByteArray.ext; simp [B, L]
theorem decN_small (n : Nat) (h : n < 10) : decN n = [UInt8.ofNat (48 + n)] := by rw [decN, if_pos h]
theorem text_small (n : Nat) (h : n < 10) : (⟨#[48, 49, 50, 51, 52, 53, 54, 55, 56, 57]⟩ : ByteArray).extract n (n + 1) = B (decN n) := by
  rw [decN_small n h]
  have : n = 0 ∨ n = 1 ∨ n = 2 ∨ n = 3 ∨ n = 4 ∨ n = 5 ∨ n = 6 ∨ n = 7 ∨ n = 8 ∨ n = 9 := by omega
  rcases this with rfl | rfl | rfl | rfl | rfl | rfl | rfl | rfl | rfl | rfl <;> rfl
theorem ref_nat (n : Nat) : n < 10000000000000000000 → (n : Int) ≤ 9223372036854775807 → Ev (fun k => plummetref01_Text.f k (n : Int)) (B (decN n)) := by
  induction n using Nat.strongRecOn with
  | _ n ih =>
    intro hn hn2
    by_cases h : n < 10
    · refine Ev.step (f := fun _ => some (B (decN n))) (fun k => ?_) (Ev.now _)
      simp only [plummetref01_Text.f]
      have hw : wrap64 ((n : Int) + 1) = (n : Int) + 1 := by unfold wrap64; omega
      rw [if_neg (by omega), if_neg (by omega), if_pos (by omega), hw, if_pos (by omega), if_pos (by omega), if_pos (by omega), ← text_small n h]
      congr 2
    · have h1 := ih (n / 10) (by omega) (by omega) (by omega)
      have h2 := ih (n % 10) (by omega) (by omega) (by omega)
      have l1 := decN_len19 (n / 10) (by omega)
      have l2 := decN_len19 (n % 10) (by omega)
      refine Ev.step (fun k => ?_) (Ev.bind h1 (f := fun k t => (plummetref01_Text.f k ((n % 10 : Nat) : Int)).bind fun t' => if t.size + t'.size ≤ 9223372036854775807 then some (t ++ t') else none) (Ev.bind h2 (f := fun _ t => if (B (decN (n / 10))).size + t.size ≤ 9223372036854775807 then some (B (decN (n / 10)) ++ t) else none) (Ev.congr (f := fun _ => some (B (decN n))) (fun k => ?_) (Ev.now _))))
      · simp only [plummetref01_Text.f]
        have e1 : wrap64 (Int.tdiv (n : Int) 10) = ((n / 10 : Nat) : Int) := by
          rw [Int.tdiv_eq_ediv_of_nonneg (by omega)]; unfold wrap64; omega
        have e2 : Int.tmod (n : Int) 10 = ((n % 10 : Nat) : Int) := by
          rw [Int.tmod_eq_emod_of_nonneg (by omega)]; omega
        rw [if_neg (by omega), if_neg (by omega), if_neg (by omega), e1, e2]
      · rw [B_size, B_size, if_pos (by omega), B_app]
        congr 2
        rw [decN_small (n % 10) (by omega)]
        exact (by rw [decN, if_neg h] : decN n = _).symm
theorem ref_text (a : Int) (h : Ok64 a) : Ev (fun k => plummetref01_Text.f k a) (B (decL a)) := by
  obtain ⟨h1, h2⟩ := h
  by_cases hm : a = -9223372036854775808
  · subst hm
    refine Ev.step (f := fun _ => some (B (decL (-9223372036854775808)))) (fun k => ?_) (Ev.now _)
    simp only [plummetref01_Text.f]
    rw [if_pos trivial]
    congr 1
    have : decL (-9223372036854775808) = [45, 57, 50, 50, 51, 51, 55, 50, 48, 51, 54, 56, 53, 52, 55, 55, 53, 56, 48, 56] := by
      rw [decL, if_pos (by omega)]
      congr 1
      have := decN_val [57, 50, 50, 51, 51, 55, 50, 48, 51, 54, 56, 53, 52, 55, 55, 53, 56, 48, 56] (by decide) (by simp) (by simp)
      rw [← this]
      congr 1
    rw [this]; rfl
  · by_cases hn : a < 0
    · have h3 := ref_nat a.natAbs (by omega) (by omega)
      have l1 := decN_len19 a.natAbs (by omega)
      refine Ev.step (fun k => ?_) (Ev.bind h3 (f := fun _ t => if 1 + t.size ≤ 9223372036854775807 then some ((⟨#[45]⟩ : ByteArray) ++ t) else none) (Ev.congr (f := fun _ => some (B (decL a))) (fun k => ?_) (Ev.now _)))
      · simp only [plummetref01_Text.f]
        rw [if_neg hm, if_pos hn, show wrap64 (-a) = (a.natAbs : Int) by unfold wrap64; omega]
      · rw [B_size, if_pos (by omega), decL, if_pos hn]
        exact congrArg some (B_app [45] _)
    · have h3 := ref_nat a.natAbs (by omega) (by omega)
      rw [show ((a.natAbs : Nat) : Int) = a by omega] at h3
      rw [decL, if_neg hn]; exact h3
end Go.Proofs.Ytoaejpjgicnfoaa.PD
