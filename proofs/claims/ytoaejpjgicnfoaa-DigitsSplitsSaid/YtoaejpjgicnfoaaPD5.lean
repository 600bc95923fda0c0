/-
  The four pure statements of the layer of digits; conditions: none beyond the statements' own.
-/
import Derived.Test.YtoaejpjgicnfoaaPD4
namespace Go.Proofs.Ytoaejpjgicnfoaa.PD
open Go.RowKit Go.Proofs.Ytoaejpjgicnfoaa.Given Go.Proofs.Ytoaejpjgicnfoaa.KD Go.Proofs.YtoaejpjgicnfoaaW.PrintWords Go.Proofs.YtoaejpjgicnfoaaW.PrintLast

theorem ok64_of_wf (a : Int) (h : (Lit.int .i64 a).wf = true) : Ok64 a := by
  simp [Lit.wf, IntKind.min, IntKind.max, IntKind.bits, IntKind.signed] at h
  unfold Ok64; omega
theorem all_ok (l : List Int) (h : ∀ x ∈ l, (Lit.int .i64 x).wf = true) : ∀ x ∈ l, Ok64 x := fun x hx => ok64_of_wf x (h x hx)
theorem texts_pure : plummetlaw01_DigitsTexts.Pure := by
  intro a hw
  have h := ok64_of_wf a hw
  refine Ev.rounds (g := fun k => plummetlaw01_DigitsTexts.f k a) ?_
  unfold plummetlaw01_DigitsTexts.f
  rw [text_ev a h]
  simp only [Option.bind_some]
  refine Ev.bind (read_num a h) (Ev.bind live_ev ?_)
  simp only [if_true]
  refine Ev.bind (ref_text a h) ?_
  simp only [if_true]
  exact Ev.congr (fun k => by simp) (Ev.now _)
theorem reads_pure : plummetlaw01_DigitsReads.Pure := by
  intro s hs
  refine Ev.rounds (g := fun k => plummetlaw01_DigitsReads.f k s) ?_
  unfold plummetlaw01_DigitsReads.f
  by_cases h : (s.size : Int) > 200
  · simp only [if_pos h]
    exact Ev.bind live_ev (Ev.now _)
  · simp only [if_neg h]
    refine Ev.bind (rd_ev s) (Ev.bind (refrd_ev s) (Ev.bind live_ev ?_))
    simp only [if_true, beq_self_eq_true]
    by_cases hn : (rdL (L s)).2 = true
    · obtain ⟨h1, h2⟩ := rdL_true _ hn
      simp only [hn, if_true]
      rw [text_ev _ h1]
      simp only [Option.bind_some]
      refine Ev.congr (fun k => ?_) (Ev.now _)
      rw [toList_L, toList_L, L_B, ← h2]; simp
    · simp only [hn]
      exact Ev.congr (fun k => by simp) (Ev.now _)
theorem joins_pure : plummetlaw01_DigitsJoins.Pure := by
  intro s l hs _ _ hw
  have hok := all_ok l hw
  refine Ev.rounds (g := fun k => plummetlaw01_DigitsJoins.f k s l) ?_
  by_cases hb : l.length > 200 ∨ s.size > 200
  · refine Ev.congr (f := fun k => plummetlaw01_DigitsJoins.j0 k s l true) (fun k => ?_) (Ev.step (f := fun k => (plummetlaw01_live.f k).bind fun t => some t) (fun k => ?_) (Ev.bind live_ev (Ev.now _)))
    · unfold plummetlaw01_DigitsJoins.f
      by_cases h1 : l.length > 200
      · rw [if_pos (by omega)]
      · rw [if_neg (by omega), decide_eq_true (by omega)]
    · simp only [plummetlaw01_DigitsJoins.j0, if_true]
  · have hm : l.length * (s.size + 20) ≤ 200 * 220 := Nat.mul_le_mul (by omega) (by omega)
    have hm2 : l.length * (1 + 20) ≤ 200 * 21 := Nat.mul_le_mul (by omega) (by omega)
    have e32 : L ⟨#[32]⟩ = [32] := rfl
    have hj := join_ev ⟨#[32]⟩ l hok (by have : (⟨#[32]⟩ : ByteArray).size = 1 := rfl; rw [this]; omega) (by omega)
    rw [e32] at hj
    have hlen := joinL_len [32] l hok
    have hsp := split_ev (B (joinL [32] l)) (by rw [B_size]; have : ([32] : List UInt8).length = 1 := rfl; rw [this] at hlen; omega)
    rw [L_B, split_join l hok] at hsp
    refine Ev.congr (f := fun k => plummetlaw01_DigitsJoins.j0 k s l false) (fun k => ?_) (Ev.step (fun k => ?_) (Ev.bind hj (f := fun k t163 => ((digits_Split.f k t163).bind fun bt164 => ((plummetlaw01_live.f k).bind fun t168 => (if t168 = true then ((digits_Join.f k s l).bind fun t169 => ((plummetref01_Join.f k s l).bind fun t170 => (if t169.toList = t170.toList then (if bt164.2 = 0 then ((plummetref01_Same.f k l bt164.1).bind fun t171 => (some t171)) else (some false)) else (some false)))) else (some false))))) (Ev.bind hsp (Ev.bind live_ev ?_))))
    · unfold plummetlaw01_DigitsJoins.f
      rw [if_neg (by omega), decide_eq_false (by omega)]
    · simp only [plummetlaw01_DigitsJoins.j0]; rw [if_neg (by simp)]
    · simp only [if_true]
      refine Ev.bind (join_ev s l hok (by omega) (by omega)) (Ev.bind (refjoin_ev s l hok (by omega) (by omega)) ?_)
      simp only [if_true]
      have hs := same_ev l l (by omega)
      rw [decide_eq_true rfl] at hs
      exact Ev.bind hs (Ev.now _)
theorem splits_pure : plummetlaw01_DigitsSplits.Pure := by
  intro s hs
  refine Ev.rounds (g := fun k => plummetlaw01_DigitsSplits.f k s) ?_
  unfold plummetlaw01_DigitsSplits.f
  by_cases h : (s.size : Int) > 1000
  · simp only [if_pos h]
    exact Ev.bind live_ev (Ev.now _)
  · simp only [if_neg h]
    refine Ev.bind (split_ev s (by omega)) (Ev.bind (refsplit_ev s (by omega)) (Ev.bind live_ev ?_))
    simp only [if_true]
    have hlen := split_len (L s)
    rw [L_len] at hlen
    have hsame := same_ev (splitL (L s)).1 (splitL (L s)).1 (by omega)
    rw [decide_eq_true rfl] at hsame
    refine Ev.bind hsame ?_
    simp only [if_true]
    rcases split_two (L s) with h0 | h0
    · simp only [h0, if_true]
      obtain ⟨hj, hok⟩ := join_split (L s) (splitL (L s)).1 (by rw [← h0])
      have hm2 : (splitL (L s)).1.length * (1 + 20) ≤ 1001 * 21 := Nat.mul_le_mul (by omega) (by omega)
      have e32 : L ⟨#[32]⟩ = [32] := rfl
      have hje := join_ev ⟨#[32]⟩ (splitL (L s)).1 hok (by have : (⟨#[32]⟩ : ByteArray).size = 1 := rfl; rw [this]; omega) (by omega)
      rw [e32, hj] at hje
      refine Ev.bind hje (Ev.congr (fun k => ?_) (Ev.now _))
      rw [toList_L, toList_L, L_B]; simp
    · rw [h0]
      exact Ev.congr (fun k => by simp) (Ev.now _)
end Go.Proofs.Ytoaejpjgicnfoaa.PD
