/-
  What moves.Text answers; conditions: the list is not longer than memory.
-/
import Derived.Test.YtoaejpjgicnfoaaMoves3
namespace Go.Proofs.Ytoaejpjgicnfoaa.Given
open Go.RowKit Go.Proofs.YtoaejpjgicnfoaaW.PrintWords Go.Proofs.Ytoaejpjgicnfoaa.Base Go.Proofs.Ytoaejpjgicnfoaa.KB
set_option linter.unusedVariables false

def textGo : List Int → List Int → ByteArray × Int
  | [], out => (strOfNums out, 0)
  | x :: t, out => if x < 0 ∨ x ≥ 8 then (⟨#[]⟩, 11) else textGo t (out ++ [49 + x])
def moves_Text.f (l : List Int) : Option (ByteArray × Int) := if l.length * 8 ≤ 140737488351232 then some (textGo l []) else none
theorem info_u8 : (Try.prog.info? 5).map (fun i => (i.zero, i.size, i.bytes)) = some (some (.int .u8 0), 1, 1) := by kernel_rfl
set_option maxHeartbeats 1000000 in
theorem moves_Text.calls (A0 : Option Addr) (c0 : Nat) (l0 : List Int) (r1 : ByteArray) (r2 : Int) (w : World) (hr0 : Kd.C (Kd.int .i64) w A0 l0.length l0) (hc0 : l0.length ≤ c0) (h : moves_Text.f l0 = some (r1, r2)) :
    Calls Try.prog 16 #[.slice A0 l0.length c0] w fun e w' => e = .returned (.tuple #[.string r1, .int .i64 r2]) ∧ Below w.heap.size w w' := by
  unfold moves_Text.f at h
  split at h
  · rename_i hn
    have HQ := Aside0.mk (Option.some.inj h)
    have HR0 := Aside0.mk hr0
    clear hr0 h
    have hmk : ∀ W : World, (Instr.makeSlice 62 (.int .i64 0) (.int .i64 (l0.length : Int))).run Try.prog W = .ok (.slice (some ⟨W.heap.size, 0, none⟩) 0 l0.length) (W.alloc (.cells (madeCells #[.int .u8 0] l0.length) 5)) := by
      intro W
      obtain ⟨i0, hi, hz0, hz1, hz2⟩ := info_parts info_u8
      have := run_make (P := Try.prog) W 62 5 i0 (.int .u8 0) Try.underlying62 hi hz0 .i64 .i64 0 (l0.length : Int) (by omega) (by omega) (by rw [hz2]; omega) (by omega)
      rw [hz1] at this
      have e : (Value.int .u8 0).cells = #[.int .u8 0] := rfl
      rw [e] at this
      simpa using this
    go_enter Try.func16, Try.ntmps16
    go_wp2
    have hown : Kd.R (Kd.int .u8) 5 (w.alloc (.cells (madeCells #[.int .u8 0] l0.length) 5)) w.heap.size (fun _ => True) (.slice (some ⟨w.heap.size, 0, none⟩) 0 l0.length) [] :=
      Kd.R_of_own (enc := Value.int .u8) (h1 := fun _ => rfl) (World.ownsRow_made w _ l0.length (Nat.le_refl _) (by simp [maxLen]; omega) (by simp [size_madeCells])) (fun _ _ => trivial)
    clear hmk
    go_loopg [4, 6, 12] l0.length (fun d v4 _ v12 wr => ∃ (i : Nat) (out : List Int), v12 = .int .i64 (i : Int) ∧ i + d = l0.length ∧ Aside0 (out.length = i ∧ textGo (l0.drop i) out = textGo l0 [] ∧ Kd.R (Kd.int .u8) 5 wr w.heap.size (fun _ => True) v4 out) ∧ Aside0 (Below w.heap.size w wr))
    case atStart => exact ⟨0, [], rfl, by omega, ⟨rfl, rfl, hown⟩, ⟨(Below.refl _ _).alloc (Nat.le_refl _) _⟩⟩
    case round =>
      obtain ⟨i, out, rfl, hi, HX, HB⟩ := hrel
      clear hown
      by_cases hl : i < l0.length
      · have h0 : (0 : Int) ≤ (i : Int) := by omega
        have h1 : (i : Int) < (l0.length : Int) := by omega
        obtain ⟨ad, e, hx⟩ := Kd.at_int (Kd.C_below HR0.out HB.out) (i : Int) h0 h1
        cases e
        rw [Int.toNat_natCast] at hx
        have hgo : textGo (l0.drop i) out = if rd l0 (i : Int) < 0 ∨ rd l0 (i : Int) ≥ 8 then (⟨#[]⟩, 11) else textGo (l0.drop (i + 1)) (out ++ [49 + rd l0 (i : Int)]) := by
          rw [List.drop_eq_getElem_cons hl, show rd l0 (i : Int) = l0[i] by simp [rd, hl]]; rfl
        rw [HX.out.2.1] at hgo
        have HG := Aside0.mk hgo
        clear hgo
        generalize hv : rd l0 (i : Int) = x at *
        have HV := Aside0.mk hv
        clear hv
        by_cases hx1 : x < 0
        · go_wp2
          go_ret2
          have e := HG.out
          rw [if_pos (.inl hx1), HQ.out] at e
          have e3 := Prod.mk.inj e
          exact ⟨by rw [e3.1, e3.2]; rfl, HB.out⟩
        · by_cases hx2 : x ≥ 8
          · go_wp2
            go_ret2
            have e := HG.out
            rw [if_pos (.inr hx2), HQ.out] at e
            have e3 := Prod.mk.inj e
            exact ⟨by rw [e3.1, e3.2]; rfl, HB.out⟩
          · go_wp2_with (first | (at_builtin; refine Kd.R_append (Kd.int .u8) (w0 := w) w.heap.size rfl (.tmp 22) (.tmp 26) 62 5 (.int .u8 0) 1 rfl Try.underlying62 info_u8 rfl (by decide) (by omega) _ out (49 + x) [.int .u8 (49 + x)] (fun _ => True) (fun _ => False) rfl rfl ?aP (fun _ hk => hk.elim) ?aF ?aO ?aB ?aS ?aL ?_; (case aP => exact rfl); (case aB => exact HB.out); (case aF => exact (fun _ _ => trivial)); (case aO => exact HX.out.2.2); (case aS => exact HB.out.size); (case aL => have := HX.out.1; omega); intro v1 w1 ho hb1 hg hat; have HO := Aside0.mk ho; have HB1 := Aside0.mk hb1; clear ho hb1 hg hat))
            go_roundg (gk - 1)
            case measure => omega
            case rel => exact ⟨i + 1, _, by go_num, by omega, ⟨by rw [List.length_append, HX.out.1]; rfl, by rw [HG.out, if_neg (by omega)], HO.out⟩, HB1⟩
      · obtain rfl : i = l0.length := by omega
        have e := HX.out.2.1
        rw [List.drop_length] at e
        have hcv := own_string (P := Try.prog) (src := 62) (e := 5) (dst := 9) (by kernel_rfl) (by kernel_rfl) (by kernel_rfl) (Kd.own_of_R HX.out.2.2)
        have HE := Aside0.mk e
        clear e
        go_wp2
        go_ret2
        have e := HE.out
        rw [HQ.out] at e
        have e3 := Prod.mk.inj e
        exact ⟨by rw [← e3.1, ← e3.2]; rfl, HB.out⟩
  · cases h
end Go.Proofs.Ytoaejpjgicnfoaa.Given
