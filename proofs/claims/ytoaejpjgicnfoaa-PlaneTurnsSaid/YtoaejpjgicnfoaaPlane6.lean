/-
  What plane.Line answers; conditions: numbers of 64 bits.
-/
import Derived.Test.YtoaejpjgicnfoaaPlane5
namespace Go.Proofs.Ytoaejpjgicnfoaa.Given
open Go.RowKit Go.Proofs.YtoaejpjgicnfoaaW.PrintWords Go.Proofs.Ytoaejpjgicnfoaa.Base Go.Proofs.Ytoaejpjgicnfoaa.Fl Go.Proofs.Ytoaejpjgicnfoaa.KP0
set_option linter.unusedVariables false
set_option linter.unnecessarySimpa false

/-- A slice just made, with room. -/
theorem R_made0 {α : Type} (d : Kd α) {w : World} {b base e : Nat} {zs : List Value} (cap : Nat) (h : Arr w b zs e) (hb : base ≤ b) (hl : zs.length = cap * d.sz) (hc : cap ≤ 9223372036854775807) :
    Kd.R d e w base (fun _ => True) (.slice (some ⟨b, 0, none⟩) 0 cap) [] := by
  refine ⟨fun _ _ => trivial, [], ⟨by simp, .inr ⟨b, cap, _, rfl, hb, h, Nat.zero_le _, ?_, ?_, ?_⟩⟩, Reps.none _ _⟩
  all_goals first | simpa [maxLen] using hc | simp [hl] | (simp [hl]; omega)
def lineL (x y d : Int) (n : Nat) : List S40 := (List.range n).map (fun i : Nat => (⟨x + i * (unitF d).1, y + i * (unitF d).2⟩ : S40))
def lineF (x y d n : Int) : List S40 :=
  if n < 1 ∨ n > 2001 ∨ d < 0 ∨ d > 7 ∨ ¬ (-1000 ≤ x ∧ x ≤ 1000 ∧ -1000 ≤ y ∧ y ≤ 1000) then [] else if (stepF x y d (n - 1)).2.2 = 0 then lineL x y d n.toNat else []
set_option maxHeartbeats 1000000 in
theorem line_n1 (x y d n : Int) (w : World) (hn : n < 1) :
    Calls Try.prog 34 #[.agg #[.int .i64 x, .int .i64 y], .int .i64 d, .int .i64 n] w fun e w' => e = .returned (.slice none 0 0) ∧ Below w.heap.size w w' := by
  go_enter Try.func34, Try.ntmps34
  have hB := (Below.refl _ w).alloc (Nat.le_refl _) (.cells #[.int .i64 x, .int .i64 y] 40)
  go_wp2
  go_ret
  exact ⟨rfl, hB⟩
set_option maxHeartbeats 1000000 in
theorem line_n2 (x y d n : Int) (w : World) (hn : 2001 < n) :
    Calls Try.prog 34 #[.agg #[.int .i64 x, .int .i64 y], .int .i64 d, .int .i64 n] w fun e w' => e = .returned (.slice none 0 0) ∧ Below w.heap.size w w' := by
  go_enter Try.func34, Try.ntmps34
  have hB := (Below.refl _ w).alloc (Nat.le_refl _) (.cells #[.int .i64 x, .int .i64 y] 40)
  go_wp2
  go_ret
  exact ⟨rfl, hB⟩
set_option maxHeartbeats 1000000 in
theorem line_d1 (x y d n : Int) (w : World) (h1 : 1 ≤ n) (h2 : n ≤ 2001) (hd : d < 0) :
    Calls Try.prog 34 #[.agg #[.int .i64 x, .int .i64 y], .int .i64 d, .int .i64 n] w fun e w' => e = .returned (.slice none 0 0) ∧ Below w.heap.size w w' := by
  go_enter Try.func34, Try.ntmps34
  have hB := (Below.refl _ w).alloc (Nat.le_refl _) (.cells #[.int .i64 x, .int .i64 y] 40)
  go_wp2
  go_ret
  exact ⟨rfl, hB⟩
set_option maxHeartbeats 1000000 in
theorem line_d2 (x y d n : Int) (w : World) (h1 : 1 ≤ n) (h2 : n ≤ 2001) (h0 : 0 ≤ d) (hd : 7 < d) :
    Calls Try.prog 34 #[.agg #[.int .i64 x, .int .i64 y], .int .i64 d, .int .i64 n] w fun e w' => e = .returned (.slice none 0 0) ∧ Below w.heap.size w w' := by
  go_enter Try.func34, Try.ntmps34
  have hB := (Below.refl _ w).alloc (Nat.le_refl _) (.cells #[.int .i64 x, .int .i64 y] 40)
  go_wp2
  go_ret
  exact ⟨rfl, hB⟩
set_option maxHeartbeats 1000000 in
theorem line_far (x y d n : Int) (w : World) (h1 : 1 ≤ n) (h2 : n ≤ 2001) (h0 : 0 ≤ d) (h7 : d ≤ 7) (h : ¬ (-1000 ≤ x ∧ x ≤ 1000 ∧ -1000 ≤ y ∧ y ≤ 1000)) :
    Calls Try.prog 34 #[.agg #[.int .i64 x, .int .i64 y], .int .i64 d, .int .i64 n] w fun e w' => e = .returned (.slice none 0 0) ∧ Below w.heap.size w w' := by
  go_enter Try.func34, Try.ntmps34
  have hB := (Below.refl _ w).alloc (Nat.le_refl _) (.cells #[.int .i64 x, .int .i64 y] 40)
  go_wp2_with fail
  refine (plane_May.calls x y false _ (may_f x y h)).mono ?_
  rintro e w2 ⟨rfl, hb2⟩
  clear h
  have hp : Arr w2 w.heap.size [.int .i64 x, .int .i64 y] 40 := (Arr.new w _ _).below hb2 (by simp)
  have hB := hB.trans (hb2.mono hB.size)
  obtain ⟨d0, d1, g0, g1⟩ := two_facts hp
  go_wp2
  go_ret
  exact ⟨rfl, hB⟩
set_option maxHeartbeats 1000000 in
theorem line_out (x y d n : Int) (w : World) (h1 : 1 ≤ n) (h2 : n ≤ 2001) (h0 : 0 ≤ d) (h7 : d ≤ 7) (h : -1000 ≤ x ∧ x ≤ 1000 ∧ -1000 ≤ y ∧ y ≤ 1000) (a b c : Int) (hs : stepF x y d (n - 1) = (a, b, c)) (hc : ¬ c = 0) :
    Calls Try.prog 34 #[.agg #[.int .i64 x, .int .i64 y], .int .i64 d, .int .i64 n] w fun e w' => e = .returned (.slice none 0 0) ∧ Below w.heap.size w w' := by
  go_enter Try.func34, Try.ntmps34
  have hB := (Below.refl _ w).alloc (Nat.le_refl _) (.cells #[.int .i64 x, .int .i64 y] 40)
  have hcb : (c != 0) = true := by rw [bne_iff_ne]; exact hc
  clear hc
  have HS := Aside0.mk hs
  clear hs
  go_wp2_with fail
  refine (plane_May.calls x y true _ (may_t x y h)).mono ?_
  rintro e w2 ⟨rfl, hb2⟩
  clear h
  have hp : Arr w2 w.heap.size [.int .i64 x, .int .i64 y] 40 := (Arr.new w _ _).below hb2 (by simp)
  have hB := hB.trans (hb2.mono hB.size)
  obtain ⟨d0, d1, g0, g1⟩ := two_facts hp
  go_wp2_with fail
  refine (plane_Step.calls x y d (n - 1) a b c _ (by unfold plane_Step.f; rw [HS.out])).mono ?_
  rintro e w3 ⟨rfl, hb3⟩
  have hB := hB.trans (hb3.mono hB.size)
  go_wp2
  go_ret
  exact ⟨rfl, hB.alloc hB.size _⟩
theorem lineL_succ (x y d : Int) (n : Nat) : lineL x y d (n + 1) = lineL x y d n ++ [⟨x + n * (unitF d).1, y + n * (unitF d).2⟩] := by
  unfold lineL; rw [List.range_succ, List.map_append]; rfl
theorem stepF_ok (x y d n a b : Int) (h0 : 0 ≤ d) (h7 : d ≤ 7) (hn : 0 ≤ n ∧ n ≤ 2000) (hm : -1000 ≤ x ∧ x ≤ 1000 ∧ -1000 ≤ y ∧ y ≤ 1000) (h : stepF x y d n = (a, b, 0)) :
    -1000 ≤ x + n * (unitF d).1 ∧ x + n * (unitF d).1 ≤ 1000 ∧ -1000 ≤ y + n * (unitF d).2 ∧ y + n * (unitF d).2 ≤ 1000 := by
  unfold stepF at h
  rw [if_pos hm, if_neg (by omega)] at h
  unfold toldF at h
  split at h
  · assumption
  · cases h
theorem between (x u n i : Int) (hu : u = -1 ∨ u = 0 ∨ u = 1) (hx : -1000 ≤ x ∧ x ≤ 1000) (hn : -1000 ≤ x + n * u ∧ x + n * u ≤ 1000) (h0 : 0 ≤ i) (h1 : i ≤ n + 1) : -1001 ≤ x + i * u ∧ x + i * u ≤ 1001 := by
  rcases hu with rfl | rfl | rfl <;> omega
theorem info_cell : (Try.prog.info? 40).map (fun i => (i.zero, i.size, i.bytes)) = some (some (.agg #[.int .i64 0, .int .i64 0]), 2, 16) := by kernel_rfl
set_option maxHeartbeats 2000000 in
theorem line_ok (x y d : Int) (n : Nat) (w : World) (h1 : 1 ≤ n) (h2 : n ≤ 2001) (h0 : 0 ≤ d) (h7 : d ≤ 7) (h : -1000 ≤ x ∧ x ≤ 1000 ∧ -1000 ≤ y ∧ y ≤ 1000) (a b : Int) (hs : stepF x y d (n - 1) = (a, b, 0)) :
    Calls Try.prog 34 #[.agg #[.int .i64 x, .int .i64 y], .int .i64 d, .int .i64 (n : Int)] w fun e w' => ∃ v0_ : Value, e = .returned (v0_) ∧ Kd.R k40 40 w' w.heap.size (fun _ => True) v0_ (lineL x y d n) ∧ Below w.heap.size w w' := by
  have hend := stepF_ok _ _ _ _ _ _ h0 h7 ⟨by omega, by omega⟩ h hs
  have hud : ((unitF d).1 = -1 ∨ (unitF d).1 = 0 ∨ (unitF d).1 = 1) ∧ ((unitF d).2 = -1 ∨ (unitF d).2 = 0 ∨ (unitF d).2 = 1) := by
    obtain ⟨k1, k2⟩ := unit_bound d
    exact ⟨by omega, by omega⟩
  have HE : Aside0 (∀ i : Nat, i ≤ n → (-1001 ≤ x + i * (unitF d).1 ∧ x + i * (unitF d).1 ≤ 1001) ∧ (-1001 ≤ y + i * (unitF d).2 ∧ y + i * (unitF d).2 ≤ 1001)) :=
    ⟨fun i hi => ⟨between _ _ _ _ hud.1 ⟨h.1, h.2.1⟩ ⟨hend.1, hend.2.1⟩ (by omega) (by omega), between _ _ _ _ hud.2 ⟨h.2.2.1, h.2.2.2⟩ ⟨hend.2.2.1, hend.2.2.2⟩ (by omega) (by omega)⟩⟩
  clear hend hud
  have HF := Aside0.mk (And.intro (fofInt x (by omega)) (fofInt y (by omega)))
  have HS := Aside0.mk hs
  clear hs
  have hmk : ∀ W : World, (Instr.makeSlice 48 (.int .i64 0) (.int .i64 (n : Int))).run Try.prog W = .ok (.slice (some ⟨W.heap.size, 0, none⟩) 0 n) (W.alloc (.cells (madeCells #[.int .i64 0, .int .i64 0] (n * 2)) 40)) := by
    intro W
    obtain ⟨i0, hi, hz0, hz1, hz2⟩ := info_parts info_cell
    have := run_make (P := Try.prog) W 48 40 i0 (.agg #[.int .i64 0, .int .i64 0]) Try.underlying48 hi hz0 .i64 .i64 0 (n : Int) (by omega) (by omega) (by rw [hz2]; omega) (by omega)
    rw [hz1] at this
    have e : (Value.agg #[.int .i64 0, .int .i64 0]).cells = #[.int .i64 0, .int .i64 0] := rfl
    rw [e] at this
    simpa using this
  go_enter Try.func34, Try.ntmps34
  have hB := (Below.refl _ w).alloc (Nat.le_refl _) (.cells #[.int .i64 x, .int .i64 y] 40)
  go_wp2_with fail
  refine (plane_May.calls x y true _ (may_t x y h)).mono ?_
  rintro e w2 ⟨rfl, hb2⟩
  clear h
  have hp : Arr w2 w.heap.size [.int .i64 x, .int .i64 y] 40 := (Arr.new w _ _).below hb2 (by simp)
  have hB := hB.trans (hb2.mono hB.size)
  obtain ⟨d0, d1, g0, g1⟩ := two_facts hp
  go_wp2_with fail
  refine (plane_Step.calls x y d (n - 1) a b 0 _ (by unfold plane_Step.f; rw [HS.out])).mono ?_
  rintro e w3 ⟨rfl, hb3⟩
  have hp := hp.below hb3 hp.lt
  have hB := hB.trans (hb3.mono hB.size)
  clear d0 d1 g0 g1
  obtain ⟨d0, d1, g0, g1⟩ := two_facts hp
  have hz : w.heap.size < w3.heap.size := hp.lt
  go_wp2_with fail
  refine (of_eq _ _ _).mono ?_
  rintro e w4 ⟨rfl, hb4⟩
  have hmade : Arr w4 (w3.heap.size + 1) (madeCells #[.int .i64 0, .int .i64 0] (n * 2)).toList 40 := by
    have := Arr.new (w3.alloc (.cells #[.int .i64 a, .int .i64 b] 40)) (madeCells #[.int .i64 0, .int .i64 0] (n * 2)).toList 40
    rw [Array.toArray_toList] at this
    exact (by simpa using this : Arr _ _ _ _).below hb4 (by simp)
  have hsz : w.heap.size ≤ w3.heap.size + 1 := by omega
  have hB4 : Below w.heap.size w w4 := ((hB.alloc hB.size _).alloc (by simp; omega) _).trans (hb4.mono (by simp; omega))
  have hown : Kd.R k40 40 w4 w.heap.size (fun _ => True) (.slice (some ⟨w3.heap.size + 1, 0, none⟩) 0 n) [] := R_made0 _ _ hmade hsz (by simp [size_madeCells]; rfl) (by omega)
  clear hmk hmade d0 d1 g0 g1 hp
  go_wp2_with fail
  have HD := Aside0.mk (And.intro h0 h7)
  go_loopg [9, 10, 45] n (fun g v9 v10 v45 wr => ∃ (i : Nat) (za zb : Nat), v10 = .complex .f64 za zb ∧ v45 = .int .i64 (i : Int) ∧ i + g = n ∧ Aside0 (IsF za (x + i * (unitF d).1) ∧ IsF zb (y + i * (unitF d).2) ∧ Kd.R k40 40 wr w.heap.size (fun _ => True) v9 (lineL x y d i)) ∧ Aside0 (Below w.heap.size w wr))
  case atStart => exact ⟨0, _, _, rfl, rfl, by omega, ⟨by simpa using HF.out.1, by simpa using HF.out.2, hown⟩, ⟨hB4⟩⟩
  case round =>
    clear hown hB4 hz hsz h0 h7 h1
    obtain ⟨i, za, zb, rfl, rfl, hi, HX, HB⟩ := hrel
    by_cases hl : i < n
    · obtain ⟨g, rfl⟩ : ∃ g, gk = g + 1 := ⟨gk - 1, by omega⟩
      have hbi := HE.out i (by omega)
      have hbj := HE.out (i + 1) (by omega)
      have s1 : x + ((i + 1 : Nat) : Int) * (unitF d).1 = x + (i : Int) * (unitF d).1 + (unitF d).1 := by rw [Int.natCast_add, Int.add_mul]; omega
      have s2 : y + ((i + 1 : Nat) : Int) * (unitF d).2 = y + (i : Int) * (unitF d).2 + (unitF d).2 := by rw [Int.natCast_add, Int.add_mul]; omega
      have s3 := lineL_succ x y d i
      rw [s1, s2] at hbj
      have HT := Aside0.mk (And.intro s1 (And.intro s2 s3))
      clear s1 s2 s3
      generalize hpx : x + (i : Int) * (unitF d).1 = px at *
      generalize hpy : y + (i : Int) * (unitF d).2 = py at *
      clear hpx hpy
      have hlen : (lineL x y d i).length = i := by simp [lineL]
      have HLEN := Aside0.mk hlen
      clear hlen
      go_wp2_with fail
      refine (back_calls za zb px py HX.out.1 HX.out.2.1 (by omega) (by omega) _).mono ?_
      rintro e w5 ⟨rfl, hb5⟩
      have HO5 := Aside0.mk (Kd.R_below HX.out.2.2 hb5)
      have HB5 := Aside0.mk (HB.out.trans (hb5.mono HB.out.size))
      clear hb5
      go_wp2_with (at_builtin; refine Kd.R_append k40 (w0 := w) w.heap.size rfl (.tmp 47) (.tmp 50) 48 40 (.agg #[(.int .i64 0), (.int .i64 0)]) 16 rfl Try.underlying48 info_cell rfl (by decide) (by omega) _ (lineL x y d i) (⟨px, py⟩ : S40) [.int .i64 px, .int .i64 py] (fun _ => True) (fun _ => False) rfl rfl ?aP (fun _ hk => hk.elim) ?aF ?aO ?aB ?aS ?aL ?_; (case aP => exact k40_mkM _ _ _ (⟨px, py⟩ : S40)); (case aB => exact HB5.out); (case aF => exact (fun _ _ => trivial)); (case aO => exact HO5.out); (case aS => exact HB5.out.size); (case aL => have := HLEN.out; omega); intro v1 w1 ho hb1 hg hat; have HO := Aside0.mk ho; have HB1 := Aside0.mk hb1; clear ho hb1 hg hat)
      refine (unit_calls d HD.out.1 HD.out.2 _).mono ?_
      rintro e w6 ⟨⟨ua, ub, rfl, hua, hub⟩, hb6⟩
      obtain ⟨ta, tb, ht, hta, htb⟩ := csum HX.out.1 HX.out.2.1 hua hub (by omega) (by omega)
      have hadd : ∀ W, (binOp .add 67 (.complex .f64 za zb) (.complex .f64 ua ub)).run Try.prog W = .ok (.complex .f64 ta tb) W := fun W => run_complex_sum W _ (.inl rfl) _ _ _ _ _ _ _ _ ht
      have HZ : Aside0 (IsF ta (x + ((i + 1 : Nat) : Int) * (unitF d).1) ∧ IsF tb (y + ((i + 1 : Nat) : Int) * (unitF d).2) ∧ Kd.R k40 40 w6 w.heap.size (fun _ => True) v1 (lineL x y d (i + 1))) := by
        rw [HT.out.1, HT.out.2.1, HT.out.2.2]
        exact ⟨hta, htb, Kd.R_below HO.out hb6⟩
      have HB6 := Aside0.mk (HB1.out.trans (hb6.mono HB1.out.size))
      clear hua hub ht hta htb hb6 HO HX
      go_wp2
      go_roundg g
      case measure => omega
      case rel => exact ⟨i + 1, ta, tb, rfl, by go_num, by omega, HZ, HB6⟩
    · obtain rfl : gk = 0 := by omega
      obtain rfl : i = n := by omega
      go_wp2
      go_ret
      exact ⟨_, rfl, HX.out.2.2, HB.out⟩
def plane_Line.f (x y d n : Int) : Option (List S40) := some (lineF x y d n)
theorem plane_Line.calls (a0_0 : Int) (a0_1 : Int) (a1 : Int) (a2 : Int) (r : List S40) (w : World) (h : plane_Line.f a0_0 a0_1 a1 a2 = some r) :
    Calls Try.prog 34 #[.agg #[.int .i64 a0_0, .int .i64 a0_1], .int .i64 a1, .int .i64 a2] w fun e w' => ∃ v0_ : Value, e = .returned (v0_) ∧ Kd.R k40 40 w' w.heap.size (fun _ => True) v0_ r ∧ Below w.heap.size w w' := by
  have h := Option.some.inj h
  have nilc : (Calls Try.prog 34 #[.agg #[.int .i64 a0_0, .int .i64 a0_1], .int .i64 a1, .int .i64 a2] w fun e w' => e = .returned (.slice none 0 0) ∧ Below w.heap.size w w') → r = [] → Calls Try.prog 34 #[.agg #[.int .i64 a0_0, .int .i64 a0_1], .int .i64 a1, .int .i64 a2] w fun e w' => ∃ v0_ : Value, e = .returned (v0_) ∧ Kd.R k40 40 w' w.heap.size (fun _ => True) v0_ r ∧ Below w.heap.size w w' := by
    intro hc hr
    subst hr
    exact hc.mono fun e w' he => ⟨_, he.1, Kd.R_nil _ _ _ _ _, he.2⟩
  unfold lineF at h
  by_cases hb : a2 < 1 ∨ a2 > 2001 ∨ a1 < 0 ∨ a1 > 7 ∨ ¬ (-1000 ≤ a0_0 ∧ a0_0 ≤ 1000 ∧ -1000 ≤ a0_1 ∧ a0_1 ≤ 1000)
  · rw [if_pos hb] at h
    refine nilc ?_ h.symm
    by_cases h1 : a2 < 1
    · exact line_n1 _ _ _ _ w h1
    · by_cases h2 : 2001 < a2
      · exact line_n2 _ _ _ _ w h2
      · by_cases h3 : a1 < 0
        · exact line_d1 _ _ _ _ w (by omega) (by omega) h3
        · by_cases h4 : 7 < a1
          · exact line_d2 _ _ _ _ w (by omega) (by omega) (by omega) h4
          · exact line_far _ _ _ _ w (by omega) (by omega) (by omega) (by omega) (by omega)
  · rw [if_neg hb] at h
    have hm : -1000 ≤ a0_0 ∧ a0_0 ≤ 1000 ∧ -1000 ≤ a0_1 ∧ a0_1 ≤ 1000 := by omega
    obtain ⟨⟨p, q, c⟩, hs⟩ : ∃ t, stepF a0_0 a0_1 a1 (a2 - 1) = t := ⟨_, rfl⟩
    rw [hs] at h
    by_cases hc : c = 0
    · subst hc
      rw [if_pos rfl] at h
      subst h
      have := line_ok a0_0 a0_1 a1 a2.toNat w (by omega) (by omega) (by omega) (by omega) hm p q (by rw [show ((a2.toNat : Nat) : Int) = a2 by omega]; exact hs)
      rw [show ((a2.toNat : Nat) : Int) = a2 by omega] at this
      exact this
    · rw [if_neg hc] at h
      exact nilc (line_out _ _ _ _ w (by omega) (by omega) (by omega) (by omega) hm p q c hs hc) h.symm
end Go.Proofs.Ytoaejpjgicnfoaa.Given
