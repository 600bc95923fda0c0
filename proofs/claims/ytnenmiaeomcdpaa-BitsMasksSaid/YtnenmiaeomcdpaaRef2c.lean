/-
  What the reference's At answers; conditions: lists that fit into memory.
-/
import Derived.Test.YtnenmiaeomcdpaaRef2b
namespace Go.Proofs.Ytnenmiaeomcdpaa.Given
open Go.RowKit Go.Proofs.YtnenmiaeomcdpaaW.PrintWords Go.Proofs.Ytnenmiaeomcdpaa.Base
set_option linter.unusedVariables false

/-- The word with bits at places. -/
def atB (l : List Int) (j : Nat) : Bool := l.any fun x => decide (x = (j : Int))
def atN (l : List Int) : Nat := nb128 (atB l)
def plummetref02_At.f (l : List Int) : Option (Int × Int) := if l.length ≤ 140737488351232 then some (hiN (atN l), loN (atN l)) else none
theorem atB_take (l : List Int) (i : Nat) (h : i < l.length) (j : Nat) : atB (l.take (i + 1)) j = (decide (rd l (i : Int) = (j : Int)) || atB (l.take i) j) := by
  have e : l.take (i + 1) = l.take i ++ [rd l (i : Int)] := by
    rw [List.take_succ_eq_append_getElem h]; simp [rd, h]
  unfold atB
  rw [e, List.any_append]
  simp [Bool.or_comm]
set_option maxRecDepth 100000 in
set_option maxHeartbeats 2000000 in
theorem plummetref02_At.calls (A0 : Option Addr) (c0 : Nat) (l0 : List Int) (r1 : Int) (r2 : Int) (w : World) (hr0 : Kd.C (Kd.int .i64) w A0 l0.length l0) (hc0 : l0.length ≤ c0) (h : plummetref02_At.f l0 = some (r1, r2)) :
    Calls Try.prog 42 #[.slice A0 l0.length c0] w fun e w' => e = .returned (.agg #[.int .u64 r1, .int .u64 r2]) ∧ Below w.heap.size w w' := by
  unfold plummetref02_At.f at h
  split at h
  · rename_i hn
    have HQ := Aside0.mk (Option.some.inj h)
    have HR0 := Aside0.mk hr0
    clear hr0 h
    have hz := (zero_of_info info_bits).1
    have X0 := Arr.new w [.int .u64 0, .int .u64 0] 26
    have A1 := Arr.new (w.alloc (.cells #[.int .u64 0, .int .u64 0] 26)) (bl fun _ => false) 54
    simp only [World.size_alloc] at A1
    have A0' := arr_alloc X0 (.cells (bl fun _ => false).toArray 54)
    have AB := ((Below.refl w.heap.size w).alloc (Nat.le_refl _) (.cells #[.int .u64 0, .int .u64 0] 26)).alloc (by simp) (.cells (bl fun _ => false).toArray 54)
    have H0 := Aside0.mk (And.intro A0' (And.intro A1 AB))
    clear X0 A1 A0' AB
    go_enter Try.func42, Try.ntmps42
    go_wp2
    clear hz
    go_loopg [4] l0.length (fun g v4 wr => ∃ i : Nat, v4 = .int .i64 (i : Int) ∧ i + g = l0.length ∧ Aside0 (Arr wr w.heap.size [.int .u64 0, .int .u64 0] 26 ∧ Arr wr (w.heap.size + 1) (bl (atB (l0.take i))) 54 ∧ Below w.heap.size w wr))
    case atStart => exact ⟨0, rfl, by omega, ⟨H0.out.1, H0.out.2.1, H0.out.2.2⟩⟩
    case round =>
      clear H0
      obtain ⟨i, rfl, hi, HR⟩ := hrel
      by_cases hl : i < l0.length
      · obtain ⟨g, rfl⟩ : ∃ g, gk = g + 1 := ⟨gk - 1, by omega⟩
        have h0 : (0 : Int) ≤ (i : Int) := by omega
        have h1 : (i : Int) < (l0.length : Int) := by omega
        obtain ⟨ad, e, hx⟩ := Kd.at_int (Kd.C_below HR0.out HR.out.2.2) (i : Int) h0 h1
        cases e
        rw [Int.toNat_natCast] at hx
        have HT := Aside0.mk (atB_take l0 i hl)
        generalize hv : rd l0 (i : Int) = x at *
        have HV := Aside0.mk hv
        clear hv
        by_cases hx1 : x < 0
        · have hs : bl (atB (l0.take (i + 1))) = bl (atB (l0.take i)) := bl_congr _ _ (fun j _ => by rw [HT.out, decide_eq_false (by omega), Bool.false_or])
          have HS := Aside0.mk hs
          clear hs
          go_wp2
          go_roundg g
          case measure => omega
          case rel => exact ⟨i + 1, by go_num, by omega, ⟨HR.out.1, by rw [HS.out]; exact HR.out.2.1, HR.out.2.2⟩⟩
        · by_cases hx2 : 128 ≤ x
          · have hs : bl (atB (l0.take (i + 1))) = bl (atB (l0.take i)) := bl_congr _ _ (fun j _ => by rw [HT.out, decide_eq_false (by omega), Bool.false_or])
            have HS := Aside0.mk hs
            clear hs
            go_wp2
            go_roundg g
            case measure => omega
            case rel => exact ⟨i + 1, by go_num, by omega, ⟨HR.out.1, by rw [HS.out]; exact HR.out.2.1, HR.out.2.2⟩⟩
          · have hp : (0 : Int) ≤ x := by omega
            have hq : x < 128 := by omega
            have d0 := Arr_bl_cell HR.out.2.1 x.toNat (by omega)
            have f0 := HR.out.2.1.free x.toNat
            have hs : bl (atB (l0.take (i + 1))) = bl (fun j => if j = x.toNat then true else atB (l0.take i) j) := bl_congr _ _ (fun j _ => by
              rw [HT.out]
              by_cases hj : j = x.toNat
              · rw [if_pos hj, decide_eq_true (by omega), Bool.true_or]
              · rw [if_neg hj, decide_eq_false (by omega), Bool.false_or])
            have HS := Aside0.mk hs
            clear hs
            go_wp2
            go_roundg g
            case measure => omega
            case rel => exact ⟨i + 1, by go_num, by omega, ⟨arr_far HR.out.1 (by simp) _, by rw [HS.out, ← bl_set]; exact HR.out.2.1.set _ _, HR.out.2.2.setCell (by simp) _⟩⟩
      · obtain rfl : gk = 0 := by omega
        have hA := HR.out.2.1
        rw [List.take_of_length_le (by omega)] at hA
        have hA := Aside0.mk hA
        go_wp2_with ((with_reducible refine gate_dst (N := 28) rfl ?_); refine wpList_load_row rfl 54 (.tmp 3) rfl (w.heap.size + 1) rfl 54 (bl (atB l0)).toArray (0, 0) _ hA.out Try.underlying54 rfl (by rw [bl_size]; exact size_bits) ?_)
        refine (word_calls (atB l0) _).mono ?_
        rintro e w2 ⟨rfl, hb2⟩
        have hX := HR.out.1.below hb2 HR.out.1.lt
        obtain ⟨d0, d1, g0, g1⟩ := two_facts hX
        have HB := HR.out.2.2.trans (hb2.mono HR.out.2.2.size)
        go_wp2
        exact bodyPost_ret (v := .agg #[.int .u64 (hiN (nb128 (atB l0))), .int .u64 (loN (nb128 (atB l0)))]) (by simp [results, Try.results42, go_sem, d0, d1]) rfl ⟨by have e := Prod.mk.inj HQ.out; rw [← e.1, ← e.2]; rfl, (HB.setCell (by simp) _).setCell (by simp) _⟩
  · cases h
end Go.Proofs.Ytnenmiaeomcdpaa.Given
