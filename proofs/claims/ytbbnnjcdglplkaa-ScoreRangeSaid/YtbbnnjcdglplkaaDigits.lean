/-
  What digits.Text answers: the digits of a whole number, with a sign ahead of those below 0; condition: the number is of its kind (64 bits).
-/
import Derived.Test.YtbbnnjcdglplkaaDec
import Derived.Test.YtbbnnjcdglplkaaProg
namespace Go.Proofs.Ytbbnnjcdglplkaa.Given
open Go.RowKit Go.Proofs.YtbbnnjcdglplkaaW.PrintWords Go.Proofs.Ytbbnnjcdglplkaa.Base

theorem decN_step (left : Nat) (ds : List UInt8) (h : ¬ left < 10) : decN left ++ ds = decN (left / 10) ++ (UInt8.ofNat (48 + left % 10) :: ds) := by
  rw [decN, if_neg h]; simp
theorem wrap_neg (m : Nat) (h2 : m ≤ 9223372036854775808) : IntKind.u64.wrap (-IntKind.u64.wrap (-(m : Int))) = (m : Int) := by
  simp only [IntKind.wrap, IntKind.bits, IntKind.signed]; simp; omega

set_option maxHeartbeats 1000000 in
theorem text_pos (m : Nat) (w : World) (h2 : m ≤ 9223372036854775807) : Calls Try.prog 69 #[.int .i64 (m : Int)] w fun e w' => e = .returned (.string ⟨(decN m).toArray⟩) ∧ Below w.heap.size w w' := by
  have hn0 : decide ((m : Int) < 0) = false := by simp
  go_enter Try.func69, Try.ntmps69
  go_wp2
  go_loopg [4, 5] 20 (fun g v4 v5 wr => ∃ (left : Nat) (xs : List Value) (ds : List UInt8), v4 = .int .i64 (g:Int) ∧ v5 = .int .u64 (left : Int) ∧ g ≤ 20 ∧ (0 < left ∨ g = 20) ∧ left < 10 ^ (g - 1) ∧ left ≤ 9223372036854775808 ∧ (xs.length = 20 ∧ xs.drop g = ds.map u8v ∧ decN m = decN left ++ ds ∧ Arr wr w.heap.size xs 113) ∧ Below w.heap.size w wr)
  case atStart => exact ⟨m, List.replicate 20 (.int .u8 0), [], rfl, rfl, by omega, .inr rfl, by omega, by omega, ⟨rfl, rfl, by simp, Arr.new _ _ _⟩, (Below.refl _ _).alloc (Nat.le_refl _) _⟩
  case round =>
    obtain ⟨left, xs, ds, rfl, rfl, h20, h0, hl, hm, ⟨hlen, hdr, hdec, harr⟩, hb⟩ := hrel
    have hg2 : 2 ≤ gk := by
      rcases Nat.lt_or_ge gk 2 with h | h
      · have : gk - 1 = 0 := by omega
        rw [this] at hl; omega
      · exact h
    have HD := Aside0.mk hdec
    have HX := Aside0.mk hdr
    have HL := Aside0.mk hlen
    have HLL := Aside0.mk hl
    have HA := Aside0.mk harr
    obtain ⟨v0, hc⟩ : ∃ v, wr.cell? ⟨w.heap.size, gk - 1, none⟩ = some v := ⟨_, harr.cell (gk - 1) (by omega)⟩
    obtain ⟨v1, hc1⟩ : ∃ v, wr.cell? ⟨w.heap.size, gk - 1 - 1, none⟩ = some v := ⟨_, harr.cell (gk - 1 - 1) (by omega)⟩
    have hf := harr.free (gk - 1)
    have hf1 := harr.free (gk - 1 - 1)
    have H2 := Aside0.mk (harr.set (gk - 1) (.int .u8 (48 + (left : Int) % 10)))
    have HE := Aside0.mk (show (xs.set (gk - 1) (.int .u8 (48 + (left : Int) % 10))).drop (gk - 1) = (UInt8.ofNat (48 + left % 10) :: ds).map u8v by
      rw [drop_set _ _ _ (by omega), show gk - 1 + 1 = gk by omega, hdr, List.map_cons, u8v_ofNat _ (by omega)]; congr 2)
    have HF := Aside0.mk (show (xs.set (gk - 1) (.int .u8 (48 + (left : Int) % 10))).length = 20 by rw [List.length_set]; exact hlen)
    clear hdec hdr harr hlen hl
    by_cases h10 : left < 10
    · have ht : ((left : Int) / 10 == 0) = true := by rw [beq_iff_eq]; omega
      have HN := Aside0.mk (show decN m = UInt8.ofNat (48 + left % 10) :: ds by rw [HD.out, decN, if_pos h10, Nat.mod_eq_of_lt h10]; rfl)
      have hsl := fun W => run_sliceAt_low (P := Try.prog) W 113 5 20 (by kernel_rfl) (by kernel_rfl) w.heap.size (gk - 1) .i64 ((gk : Int) - 1) (by omega) (by omega)
      have hcv := run_convert_arr (P := Try.prog) H2.out 114 5 9 (by kernel_rfl) (by kernel_rfl) (by kernel_rfl) (gk - 1) (decN m) (by rw [HE.out, HN.out]) (20 - (gk - 1)) (20 - (gk - 1)) (by have := congrArg List.length HE.out; rw [List.length_drop, HF.out, List.length_map, ← HN.out] at this; exact this)
      go_wp2
      go_ret
      exact ⟨rfl, hb.setCell (Nat.le_refl _) _⟩
    · have ht : ((left : Int) / 10 == 0) = false := by rw [beq_eq_false_iff_ne]; omega
      go_wp2
      go_roundg (gk - 1)
      case measure => omega
      case rel => exact ⟨left / 10, _, UInt8.ofNat (48 + left % 10) :: ds, by congr 1; omega, by congr 1, by omega, .inl (by omega), by
          have e : 10 ^ (gk - 1) = 10 ^ (gk - 1 - 1) * 10 := by rw [← Nat.pow_succ]; congr 1; omega
          have := HLL.out; omega, by omega, ⟨HF.out, HE.out, by rw [HD.out]; exact decN_step left ds h10, H2.out⟩, hb.setCell (Nat.le_refl _) _⟩

set_option maxHeartbeats 1000000 in
theorem text_neg (m : Nat) (w : World) (hp : 0 < m) (h2 : m ≤ 9223372036854775808) : Calls Try.prog 69 #[.int .i64 (-(m : Int))] w fun e w' => e = .returned (.string ⟨(45 :: decN m).toArray⟩) ∧ Below w.heap.size w w' := by
  have hn0 : decide (-(m : Int) < 0) = true := by simp; omega
  go_enter Try.func69, Try.ntmps69
  go_wp2
  go_loopg [4, 5] 20 (fun g v4 v5 wr => ∃ (left : Nat) (xs : List Value) (ds : List UInt8), v4 = .int .i64 (g:Int) ∧ v5 = .int .u64 (left : Int) ∧ g ≤ 20 ∧ (0 < left ∨ g = 20) ∧ left < 10 ^ (g - 1) ∧ left ≤ 9223372036854775808 ∧ (xs.length = 20 ∧ xs.drop g = ds.map u8v ∧ decN m = decN left ++ ds ∧ Arr wr w.heap.size xs 113) ∧ Below w.heap.size w wr)
  case atStart => exact ⟨m, List.replicate 20 (.int .u8 0), [], rfl, by rw [wrap_neg m h2], by omega, .inr rfl, by omega, by omega, ⟨rfl, rfl, by simp, Arr.new _ _ _⟩, (Below.refl _ _).alloc (Nat.le_refl _) _⟩
  case round =>
    obtain ⟨left, xs, ds, rfl, rfl, h20, h0, hl, hm, ⟨hlen, hdr, hdec, harr⟩, hb⟩ := hrel
    have hg2 : 2 ≤ gk := by
      rcases Nat.lt_or_ge gk 2 with h | h
      · have : gk - 1 = 0 := by omega
        rw [this] at hl; omega
      · exact h
    have HD := Aside0.mk hdec
    have HX := Aside0.mk hdr
    have HL := Aside0.mk hlen
    have HLL := Aside0.mk hl
    have HA := Aside0.mk harr
    obtain ⟨v0, hc⟩ : ∃ v, wr.cell? ⟨w.heap.size, gk - 1, none⟩ = some v := ⟨_, harr.cell (gk - 1) (by omega)⟩
    obtain ⟨v1, hc1⟩ : ∃ v, wr.cell? ⟨w.heap.size, gk - 1 - 1, none⟩ = some v := ⟨_, harr.cell (gk - 1 - 1) (by omega)⟩
    have hf := harr.free (gk - 1)
    have hf1 := harr.free (gk - 1 - 1)
    have H2 := Aside0.mk (harr.set (gk - 1) (.int .u8 (48 + (left : Int) % 10)))
    have HE := Aside0.mk (show (xs.set (gk - 1) (.int .u8 (48 + (left : Int) % 10))).drop (gk - 1) = (UInt8.ofNat (48 + left % 10) :: ds).map u8v by
      rw [drop_set _ _ _ (by omega), show gk - 1 + 1 = gk by omega, hdr, List.map_cons, u8v_ofNat _ (by omega)]; congr 2)
    have HF := Aside0.mk (show (xs.set (gk - 1) (.int .u8 (48 + (left : Int) % 10))).length = 20 by rw [List.length_set]; exact hlen)
    clear hdec hdr harr hlen hl
    by_cases h10 : left < 10
    · have ht : ((left : Int) / 10 == 0) = true := by rw [beq_iff_eq]; omega
      have HN := Aside0.mk (show decN m = UInt8.ofNat (48 + left % 10) :: ds by rw [HD.out, decN, if_pos h10, Nat.mod_eq_of_lt h10]; rfl)
      have hsl := fun W => run_sliceAt_low (P := Try.prog) W 113 5 20 (by kernel_rfl) (by kernel_rfl) w.heap.size (gk - 1 - 1) .i64 ((gk : Int) - 1 - 1) (by omega) (by omega)
      have HG := Aside0.mk (show ((xs.set (gk - 1) (.int .u8 (48 + (left : Int) % 10))).set (gk - 1 - 1) (.int .u8 45)).drop (gk - 1 - 1) = ((45 : UInt8) :: decN m).map u8v by
        rw [drop_set _ _ _ (by rw [HF.out]; omega), show gk - 1 - 1 + 1 = gk - 1 by omega, HE.out, HN.out]; rfl)
      have hcv := run_convert_arr (P := Try.prog) (H2.out.set (gk - 1 - 1) (.int .u8 45)) 114 5 9 (by kernel_rfl) (by kernel_rfl) (by kernel_rfl) (gk - 1 - 1) (45 :: decN m) HG.out (20 - (gk - 1 - 1)) (20 - (gk - 1 - 1)) (by have := congrArg List.length HG.out; rw [List.length_drop, List.length_set, HF.out, List.length_map] at this; exact this)
      go_wp2
      go_ret
      exact ⟨rfl, (hb.setCell (Nat.le_refl _) _).setCell (Nat.le_refl _) _⟩
    · have ht : ((left : Int) / 10 == 0) = false := by rw [beq_eq_false_iff_ne]; omega
      go_wp2
      go_roundg (gk - 1)
      case measure => omega
      case rel => exact ⟨left / 10, _, UInt8.ofNat (48 + left % 10) :: ds, by congr 1; omega, by congr 1, by omega, .inl (by omega), by
          have e : 10 ^ (gk - 1) = 10 ^ (gk - 1 - 1) * 10 := by rw [← Nat.pow_succ]; congr 1; omega
          have := HLL.out; omega, by omega, ⟨HF.out, HE.out, by rw [HD.out]; exact decN_step left ds h10, H2.out⟩, hb.setCell (Nat.le_refl _) _⟩

def digits_Text.f (a0 : Int) : Option ByteArray := if -9223372036854775808 ≤ a0 ∧ a0 ≤ 9223372036854775807 then some ⟨(decL a0).toArray⟩ else none
theorem digits_Text.calls (a0 : Int) (r : ByteArray) (w : World) (h : digits_Text.f a0 = some r) :
    Calls Try.prog 69 #[.int .i64 a0] w fun e w' => e = .returned (.string r) ∧ Below w.heap.size w w' := by
  unfold digits_Text.f at h
  split at h
  · rename_i hb
    obtain rfl := Option.some.inj h
    by_cases hn : a0 < 0
    · have := text_neg a0.natAbs w (by omega) (by omega)
      rw [show (-(a0.natAbs : Int)) = a0 by omega] at this
      simpa [decL, hn] using this
    · have := text_pos a0.natAbs w (by omega)
      rw [show ((a0.natAbs : Int)) = a0 by omega] at this
      simpa [decL, hn] using this
  · cases h

end Go.Proofs.Ytbbnnjcdglplkaa.Given
