/-
  What moves.Parse answers; conditions: the text is not longer than memory.
-/
import Derived.Test.YtoaejpjgicnfoaaMoves2
namespace Go.Proofs.Ytoaejpjgicnfoaa.Given
open Go.RowKit Go.Proofs.YtoaejpjgicnfoaaW.PrintWords Go.Proofs.Ytoaejpjgicnfoaa.Base Go.Proofs.Ytoaejpjgicnfoaa.KB

theorem madeCells_rep (z : Value) (m : Nat) : madeCells #[z] m = (List.replicate m z).toArray := by
  apply Array.ext
  · simp [madeCells]
  · intro i h1 h2
    simp [madeCells, Nat.mod_one]
theorem R_ints {w : World} {b base : Nat} {k : IntKind} {e : TypeId} (l : List Int) (h : Arr w b (l.map (Value.int k)) e) (hb : base ≤ b) (hl : l.length ≤ 9223372036854775807) :
    Kd.R (Kd.int k) e w base (fun _ => True) (.slice (some ⟨b, 0, none⟩) l.length l.length) l :=
  Kd.R_of_own (enc := Value.int k) (h1 := fun _ => rfl) ⟨by simp [encs], .inr ⟨b, l.length, _, rfl, hb, h, Nat.le_refl _, by simpa [maxLen] using hl, by simp, by simp [encs, List.take_of_length_le]⟩⟩ (fun _ _ => trivial)
theorem firstGo_ok (c bw : Int) (col : Nat → Int) : ∀ (d i : Nat), (firstGo c bw col d i).2 = 0 → firstGo c bw col d i = (((i + d : Nat) : Int), 0) := by
  intro d
  induction d with
  | zero => intro i _; rfl
  | succ d ih =>
    intro i h
    by_cases h1 : (i : Int) ≥ c
    · rw [firstGo_long _ _ _ _ _ h1] at h; cases h
    · by_cases h2 : col i < 0 ∨ col i ≥ bw
      · rw [firstGo_bad _ _ _ _ _ h1 h2] at h; cases h
      · rw [firstGo_next _ _ _ _ _ h1 h2] at h ⊢
        rw [ih _ h, show i + 1 + d = i + (d + 1) by omega]
theorem firstGo_le (c bw : Int) (col : Nat → Int) : ∀ (d i : Nat), (firstGo c bw col d i).2 = 0 → 0 < d → ((i + d : Nat) : Int) ≤ c := by
  intro d
  induction d with
  | zero => intro i _ h; omega
  | succ d ih =>
    intro i h _
    by_cases h1 : (i : Int) ≥ c
    · rw [firstGo_long _ _ _ _ _ h1] at h; cases h
    · by_cases h2 : col i < 0 ∨ col i ≥ bw
      · rw [firstGo_bad _ _ _ _ _ h1 h2] at h; cases h
      · rw [firstGo_next _ _ _ _ _ h1 h2] at h
        rcases Nat.eq_zero_or_pos d with rfl | h0
        · omega
        · have := ih _ h h0; omega
theorem first_small (a b : Int) (n : Nat) (col : Nat → Int) (hp : mayB a b = true) (h : (firstF a b n col).2 = 0) : n ≤ 64 := by
  unfold firstF at h
  rw [if_pos hp] at h
  rcases Nat.eq_zero_or_pos n with rfl | h0
  · omega
  · have h1 := firstGo_le _ _ _ _ _ h h0
    simp only [mayB, decide_eq_true_eq] at hp
    have h2 : a * b ≤ 8 * 8 := Int.mul_le_mul (by omega) (by omega) (by omega) (by omega)
    omega
theorem parse1_calls (i : Nat) (W : World) (p : Addr) (s : ByteArray) (hc : W.cell? p = some (.string s)) (hi : i < s.size) :
    Calls Try.prog 50 #[.int .i64 (i : Int), .pointer (some p)] W fun e W' => e = .returned (.int .i64 (bt s i - 49)) ∧ W = W' := by
  have hb := bt_range s i
  have h0 : (0 : Int) ≤ (i : Int) := by omega
  have h1 : (i : Int) < (s.size : Int) := by omega
  go_enter Try.func50, Try.ntmps50
  go_wp2
  go_ret
  have e0 : bt s (i : Int) = (s[i].toNat : Int) := by simp [bt, hi]
  have e1 : wrap64 (wrap64 (s[i].toNat : Int) - 49) = bt s (i : Int) - 49 := by rw [e0] at hb ⊢; unfold wrap64; omega
  exact ⟨by rw [← e1]; rfl, rfl⟩
def moves_Parse.f (a b : Int) (s : ByteArray) : Option (List Int × Int × Int) :=
  if s.size ≤ 140737488351232 then some (if (firstF a b s.size (fun i => bt s (i : Int) - 49)).2 = 0 then ((List.range s.size).map (fun i : Nat => bt s (i : Int) - 49), (s.size : Int), 0) else ([], firstF a b s.size (fun i => bt s (i : Int) - 49))) else none
set_option maxHeartbeats 1000000 in
theorem moves_Parse.calls (a0_0 : Int) (a0_1 : Int) (a1 : ByteArray) (r1 : List Int) (r2 : Int) (r3 : Int) (w : World) (h : moves_Parse.f a0_0 a0_1 a1 = some (r1, r2, r3)) :
    Calls Try.prog 19 #[.agg #[.int .i64 a0_0, .int .i64 a0_1], .string a1] w fun e w' => ∃ v0_ : Value, e = .returned (.tuple #[v0_, .int .i64 r2, .int .i64 r3]) ∧ Kd.R (Kd.int .i64) 3 w' w.heap.size (fun _ => True) v0_ r1 ∧ Below w.heap.size w w' := by
  unfold moves_Parse.f at h
  split at h
  · rename_i hn
    have h := Option.some.inj h
    go_enter Try.func19, Try.ntmps19
    by_cases hp : mayB a0_0 a0_1 = true
    · by_cases he : (firstF a0_0 a0_1 a1.size (fun i => bt a1 (i : Int) - 49)).2 = 0
      · rw [if_pos he] at h
        have HQ := Aside0.mk h
        have HN := Aside0.mk hn
        have hF : firstF a0_0 a0_1 a1.size (fun i => bt a1 (i : Int) - 49) = ((a1.size : Int), 0) := by
          unfold firstF at he ⊢
          rw [if_pos hp] at he ⊢
          rw [firstGo_ok _ _ _ _ _ he, Nat.zero_add]
        have h64 := first_small _ _ _ _ hp he
        have HF := Aside0.mk hF
        clear h hF hn he
        have hmk := print_make_of (P := Try.prog) 24 3 (.int .i64 0) 8 Try.underlying24 (by kernel_rfl) rfl (by omega) a1.size (by omega)
        simp only [madeCells_rep] at hmk
        go_wp2_with fail
        refine (first_calls a0_0 a0_1 a1.size HN.out _ _ (fun i => bt a1 (i : Int) - 49) _ ⟨fun i W hi hb => ?_⟩ hp (fun vs W => by rfl)).mono ?_
        · exact (parse1_calls i W _ a1 (by rw [hb.cell (by simp)]; simp) hi).mono fun e W' h => ⟨h.1, h.2 ▸ Below.refl _ _⟩
        · rintro e w2 ⟨rfl, hb⟩
          rw [HF.out]
          go_wp2
          have hb0 := (((Below.refl _ _).alloc (Nat.le_refl _) _).alloc (by simp) _).trans (hb.mono (by simp; omega))
          have hlt : w.heap.size + 1 < w2.heap.size := by have := hb.size; simp at this; omega
          have hcs : w2.cell? ⟨w.heap.size + 1, 0, none⟩ = some (.string a1) := by rw [hb.cell (by simp)]; simp
          go_loopg [11, 29] a1.size (fun d _ v29 wr => ∃ (i : Nat) (xs : List Value), v29 = .int .i64 (i : Int) ∧ i + d = a1.size ∧ Aside0 (xs.length = a1.size ∧ xs.take i = (List.range i).map (fun j : Nat => Value.int .i64 (bt a1 (j : Int) - 49)) ∧ Arr wr w2.heap.size xs 3) ∧ wr.cell? ⟨w.heap.size + 1, 0, none⟩ = some (.string a1) ∧ Below w.heap.size w wr)
          case atStart => exact ⟨0, List.replicate a1.size (.int .i64 0), rfl, by omega, ⟨by simp, by simp, by simpa using Arr.new w2 (List.replicate a1.size (.int .i64 0)) 3⟩, by rw [← hcs]; exact Below.cell ((Below.refl w2.heap.size w2).alloc (Nat.le_refl _) _) hlt, hb0.alloc (by omega) _⟩
          case round =>
            obtain ⟨i, xs, rfl, hi, HX, hc, hbb⟩ := hrel
            clear hb hcs hmk hb0
            by_cases hl : i < a1.size
            · obtain ⟨v0, hc0⟩ : ∃ v, wr.cell? ⟨w2.heap.size, i, none⟩ = some v := ⟨_, HX.out.2.2.cell i (by rw [HX.out.1]; exact hl)⟩
              have hf0 := HX.out.2.2.free i
              go_wp2_with fail
              refine (parse1_calls i _ _ a1 hc hl).mono ?_
              rintro e w3 ⟨rfl, rfl⟩
              go_wp2
              go_roundg (gk - 1)
              case measure => omega
              case rel =>
                refine ⟨i + 1, _, by go_num, by omega, ⟨?_, ?_, HX.out.2.2.set i _⟩, by rw [← hc]; exact World.cell?_of_block (Below.heap_setCell _ _ _ _ (by show w.heap.size + 1 ≠ w2.heap.size; omega)), hbb.setCell (by show w.heap.size ≤ w2.heap.size; omega) _⟩
                · rw [List.length_set]; exact HX.out.1
                · rw [List.range_succ, List.map_append, ← HX.out.2.1, List.take_succ_eq_append_getElem (by rw [List.length_set, HX.out.1]; exact hl)]
                  rw [List.take_set, List.set_eq_of_length_le (by rw [List.length_take]; exact Nat.min_le_left _ _)]
                  simp
            · obtain rfl : i = a1.size := by omega
              go_wp2
              go_ret3
              have e3 := Prod.mk.inj HQ.out
              have e4 := Prod.mk.inj e3.2
              have hx : xs = r1.map (Value.int .i64) := by
                rw [← List.take_of_length_le (Nat.le_of_eq HX.out.1), HX.out.2.1, ← e3.1, List.map_map]; rfl
              have hR := R_ints (base := w.heap.size) r1 (by rw [← hx]; exact HX.out.2.2) (by omega) (by rw [← e3.1]; simp; omega)
              have hl1 : r1.length = a1.size := by rw [← e3.1]; simp
              rw [hl1] at hR
              exact ⟨_, by rw [← e4.1, ← e4.2]; rfl, hR, hbb⟩
      · rw [if_neg he] at h
        have HQ := Aside0.mk h
        have HN := Aside0.mk hn
        generalize hF : firstF a0_0 a0_1 a1.size (fun i => bt a1 (i : Int) - 49) = F at *
        have HF := Aside0.mk hF
        clear h hF hn
        have he2 : (F.2 != 0) = true := by rw [bne_iff_ne]; exact he
        go_wp2_with fail
        refine (first_calls a0_0 a0_1 a1.size HN.out _ _ (fun i => bt a1 (i : Int) - 49) _ ⟨fun i W hi hb => ?_⟩ hp (fun vs W => by rfl)).mono ?_
        · exact (parse1_calls i W _ a1 (by rw [hb.cell (by simp)]; simp) hi).mono fun e W' h => ⟨h.1, h.2 ▸ Below.refl _ _⟩
        · rintro e w2 ⟨rfl, hb⟩
          rw [HF.out]
          go_wp2
          go_ret3
          have e3 := Prod.mk.inj HQ.out
          have e4 := Prod.mk.inj e3.2
          exact ⟨.slice none 0 0, by rw [← e4.1, ← e4.2]; rfl, by rw [← e3.1]; exact Kd.R_nil _ _ _ _ _, (((Below.refl _ _).alloc (Nat.le_refl _) _).alloc (by simp) _).trans (hb.mono (by simp; omega))⟩
    · have hp : mayB a0_0 a0_1 = false := by simpa using hp
      have e2 := h
      unfold firstF at e2
      rw [hp] at e2
      have HQ := Aside0.mk e2
      clear h e2
      go_wp2_with fail
      refine (first_no a0_0 a0_1 _ _ _ hp).mono ?_
      rintro e w2 ⟨rfl, hb⟩
      go_wp2
      go_ret3
      have e3 := Prod.mk.inj HQ.out
      have e4 := Prod.mk.inj e3.2
      exact ⟨.slice none 0 0, by rw [← e4.1, ← e4.2]; rfl, by rw [← e3.1]; exact Kd.R_nil _ _ _ _ _, (((Below.refl _ _).alloc (Nat.le_refl _) _).alloc (by simp) _).trans (hb.mono (by simp; omega))⟩
  · cases h
end Go.Proofs.Ytoaejpjgicnfoaa.Given
