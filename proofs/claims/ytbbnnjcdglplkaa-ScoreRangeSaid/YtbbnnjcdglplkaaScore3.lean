/-
  What score.Text answers; conditions: numbers of 64 bits.
-/
import Derived.Test.YtbbnnjcdglplkaaScore2
import Derived.Test.YtbbnnjcdglplkaaDigits
namespace Go.Proofs.Ytbbnnjcdglplkaa.Given
open Go.RowKit Go.Proofs.YtbbnnjcdglplkaaW.PrintWords Go.Proofs.Ytbbnnjcdglplkaa.Base Go.Proofs.Ytbbnnjcdglplkaa.KS0
set_option linter.unusedVariables false

def wordOf (s : Int) : ByteArray := if s > 0 then ⟨#[119, 105, 110, 32, 105, 110, 32]⟩ else if s < 0 then ⟨#[108, 111, 115, 115, 32, 105, 110, 32]⟩ else ⟨#[100, 114, 97, 119, 32, 105, 110, 32]⟩
def score_Text.f (a b st s : Int) : Option (ByteArray × Int) :=
  if (refPlies a b st s).2 = 0 then (digits_Text.f (refPlies a b st s).1).bind fun t => if t.size ≤ 1000 then some (wordOf s ++ t, 0) else none else some (⟨#[]⟩, (refPlies a b st s).2)
set_option maxHeartbeats 1000000 in
theorem score_Text.calls (a0_0 : Int) (a0_1 : Int) (a1 : Int) (a2 : Int) (r1 : ByteArray) (r2 : Int) (w : World) (h : score_Text.f a0_0 a0_1 a1 a2 = some (r1, r2)) :
    Calls Try.prog 35 #[.agg #[.int .i64 a0_0, .int .i64 a0_1], .int .i64 a1, .int .i64 a2] w fun e w' => e = .returned (.tuple #[.string r1, .int .i64 r2]) ∧ Below w.heap.size w w' := by
  unfold score_Text.f at h
  generalize hq : refPlies a0_0 a0_1 a1 a2 = q at *
  have HQ := Aside0.mk (show Given.score_Plies.f a0_0 a0_1 a1 a2 = some (q.1, q.2) by unfold Given.score_Plies.f; rw [hq])
  clear hq
  by_cases he : q.2 = 0
  · rw [if_pos he] at h
    obtain ⟨t, ht, h⟩ := Option.bind_eq_some_iff.1 h
    split at h
    · rename_i hts
      have HT := Aside0.mk ht
      have HE := Aside0.mk (Option.some.inj h)
      have heb : (q.2 != 0) = false := by rw [bne_eq_false_iff_eq]; exact he
      clear ht h he
      by_cases h1 : a2 > 0
      · have hwd : wordOf a2 = (⟨#[119, 105, 110]⟩ : ByteArray) ++ ⟨#[32, 105, 110, 32]⟩ := by unfold wordOf; rw [if_pos h1]; rfl
        go_enter Try.func35, Try.ntmps35
        go_wp2_with (first | (go_at_call 33; refine (Given.score_Plies.calls a0_0 a0_1 a1 a2 q.1 q.2 _ HQ.out).mono ?_; rintro e w1 ⟨rfl, hb1⟩; have HB1 := Aside0.mk (((Below.refl _ _).alloc (Nat.le_refl _) _).trans (hb1.mono (by simp))); clear hb1) | (go_at_call 69; refine (digits_Text.calls q.1 t _ HT.out).mono ?_; rintro e w2 ⟨rfl, hb2⟩))
        go_ret2
        have e := Prod.mk.inj HE.out
        exact ⟨by rw [← e.1, ← e.2, hwd]; rfl, HB1.out.trans (hb2.mono HB1.out.size)⟩
      · by_cases h2 : a2 < 0
        · have hwd : wordOf a2 = (⟨#[108, 111, 115, 115]⟩ : ByteArray) ++ ⟨#[32, 105, 110, 32]⟩ := by unfold wordOf; rw [if_neg h1, if_pos h2]; rfl
          go_enter Try.func35, Try.ntmps35
          go_wp2_with (first | (go_at_call 33; refine (Given.score_Plies.calls a0_0 a0_1 a1 a2 q.1 q.2 _ HQ.out).mono ?_; rintro e w1 ⟨rfl, hb1⟩; have HB1 := Aside0.mk (((Below.refl _ _).alloc (Nat.le_refl _) _).trans (hb1.mono (by simp))); clear hb1) | (go_at_call 69; refine (digits_Text.calls q.1 t _ HT.out).mono ?_; rintro e w2 ⟨rfl, hb2⟩))
          go_ret2
          have e := Prod.mk.inj HE.out
          exact ⟨by rw [← e.1, ← e.2, hwd]; rfl, HB1.out.trans (hb2.mono HB1.out.size)⟩
        · have hwd : wordOf a2 = (⟨#[100, 114, 97, 119]⟩ : ByteArray) ++ ⟨#[32, 105, 110, 32]⟩ := by unfold wordOf; rw [if_neg h1, if_neg h2]; rfl
          go_enter Try.func35, Try.ntmps35
          go_wp2_with (first | (go_at_call 33; refine (Given.score_Plies.calls a0_0 a0_1 a1 a2 q.1 q.2 _ HQ.out).mono ?_; rintro e w1 ⟨rfl, hb1⟩; have HB1 := Aside0.mk (((Below.refl _ _).alloc (Nat.le_refl _) _).trans (hb1.mono (by simp))); clear hb1) | (go_at_call 69; refine (digits_Text.calls q.1 t _ HT.out).mono ?_; rintro e w2 ⟨rfl, hb2⟩))
          go_ret2
          have e := Prod.mk.inj HE.out
          exact ⟨by rw [← e.1, ← e.2, hwd]; rfl, HB1.out.trans (hb2.mono HB1.out.size)⟩
    · cases h
  · rw [if_neg he] at h
    have HE := Aside0.mk (Option.some.inj h)
    have heb : (q.2 != 0) = true := by rw [bne_iff_ne]; exact he
    clear h he
    go_enter Try.func35, Try.ntmps35
    go_wp2_with (first | (go_at_call 33; refine (Given.score_Plies.calls a0_0 a0_1 a1 a2 q.1 q.2 _ HQ.out).mono ?_; rintro e w1 ⟨rfl, hb1⟩; have HB1 := Aside0.mk (((Below.refl _ _).alloc (Nat.le_refl _) _).trans (hb1.mono (by simp))); clear hb1))
    go_ret2
    have e := Prod.mk.inj HE.out
    exact ⟨by rw [← e.1, ← e.2]; rfl, HB1.out⟩
end Go.Proofs.Ytbbnnjcdglplkaa.Given
