/-
  What bits.Fours, Four and Fourths answer, in the print's form; conditions: words of 128 bits.
-/
import Derived.Test.YtnenmiaeomcdpaaBitsG
namespace Go.Proofs.Ytnenmiaeomcdpaa.Given
open Go.RowKit Go.Proofs.YtnenmiaeomcdpaaW.PrintWords Go.Proofs.Ytnenmiaeomcdpaa.Base Go.Proofs.Ytnenmiaeomcdpaa.KW Go.Proofs.Ytnenmiaeomcdpaa.KB
set_option linter.unusedVariables false
set_option linter.unusedSimpArgs false

/-- All cells of a board. -/
def fullN (w h : Nat) : Nat := nb128 fun j => decide (j / (h + 1) < w ∧ j % (h + 1) < h)
theorem fullN_lt (w h : Nat) : fullN w h < W128 := nb_lt _ _ _
set_option maxRecDepth 100000 in
theorem full_all : ∀ w : Fin 5, ∀ h : Fin 5, bits_Full.f 100 ((w.val + 4 : Nat) : Int) ((h.val + 4 : Nat) : Int) = some (hiN (fullN (w.val + 4) (h.val + 4)), loN (fullN (w.val + 4) (h.val + 4))) := by decide +kernel
theorem full_f (w h : Nat) (hw : 4 ≤ w ∧ w ≤ 8) (hh : 4 ≤ h ∧ h ≤ 8) : bits_Full.f 100 (w : Int) (h : Int) = some (hiN (fullN w h), loN (fullN w h)) := by
  have := full_all ⟨w - 4, by omega⟩ ⟨h - 4, by omega⟩
  simp only [show w - 4 + 4 = w by omega, show h - 4 + 4 = h by omega] at this
  exact this
theorem each_no (a b y : Int) (k : Nat) (hm : mayB a b = false) : bits_each.f (k + 1) a b y = some (0, 0) := by
  unfold bits_each.f
  rw [bmay_f, hm]
  simp [bits_each.j0]
theorem full_no (a b : Int) (hm : mayB a b = false) : bits_Full.f 100 a b = some (0, 0) := by
  unfold bits_Full.f bits_Tops.f bits_Bottom.f
  rw [each_no _ _ _ 99 hm, each_no _ _ _ 99 hm]
  decide +kernel
theorem N2_lt' {a b : Int} (h : wfW a b) : N2 a b < W128 := N2_lt _ _ h.1 h.2.1 h.2.2.1 h.2.2.2
theorem not_c (a : Nat) (ha : a < W128) (w : World) : Calls Try.prog 37 #[.agg #[.int .u64 (hiN a), .int .u64 (loN a)]] w fun e w' => e = .returned (.agg #[.int .u64 (hiN (notN a)), .int .u64 (loN (notN a))]) ∧ Below w.heap.size w w' :=
  wide_Not.calls _ _ _ _ w (by
    unfold wide_Not.f
    have h := hiN_b a ha
    have h2 := loN_b a
    rw [if_pos ⟨h.1, h.2, h2.1, h2.2⟩, N2_halves])
theorem C_two {w : World} {b : Nat} {t : TypeId} (x y : Nat) (h : Arr w b [.int .u64 (hiN x), .int .u64 (loN x), .int .u64 (hiN y), .int .u64 (loN y)] t) : Kd.C k26 w (some ⟨b, 0, none⟩) 2 [ws x, ws y] := by
  refine ⟨rfl, by omega, fun _ => ⟨_, rfl, fun j p hj => ?_⟩⟩
  have hj1 : j < 2 := by have := (List.getElem?_eq_some_iff.1 hj).1; simpa using this
  have ej : j = 0 ∨ j = 1 := by omega
  rcases ej with rfl | rfl
  all_goals
    have hp := Option.some.inj hj
    subst hp
    refine ⟨_, rfl, k26_mk _ _, fun i u hu => ?_⟩
    rw [add_plain, show Kd.sz k26 = 2 from rfl]
    have hi : i < 2 := by have := (List.getElem?_eq_some_iff.1 hu).1; simpa using this
    have e : i = 0 ∨ i = 1 := by omega
    rcases e with rfl | rfl
    · rw [h.cell _ (by simp)]; exact hu
    · rw [h.cell _ (by simp)]; exact hu
def foursW (w h x : Nat) : Nat := waysN (fun d => foursN (x &&& fullN w h) d 4) h 4
def fourW (w h x : Nat) : Nat := waysN (fun d => fourM (x &&& fullN w h) d) h 4
def lackW (w h x : Nat) : Nat := waysN (fun d => fourthN (x &&& fullN w h) d) h 4
def fourthsW (w h x : Nat) : Nat := allN (lackW w h x) [fullN w h, notN x]
theorem may_or (a b : Int) (hm : mayB a b = true) : ∃ w h : Nat, a = w ∧ b = h ∧ (4 ≤ w ∧ w ≤ 8) ∧ (4 ≤ h ∧ h ≤ 8) := by
  simp only [mayB, decide_eq_true_eq] at hm
  exact ⟨a.toNat, b.toNat, by omega, by omega, by omega, by omega⟩
def bits_Fours.f (a b u v : Int) : Option (Int × Int) := if wfW u v then (if mayB a b then some (hiN (foursW a.toNat b.toNat (N2 u v)), loN (foursW a.toNat b.toNat (N2 u v))) else some (0, 0)) else none
def bits_Four.f (a b u v : Int) : Option Bool := if wfW u v then (if mayB a b then some (decide (fourW a.toNat b.toNat (N2 u v) ≠ 0)) else some false) else none
def bits_Fourths.f (a b u v : Int) : Option (Int × Int) := if wfW u v then (if mayB a b then some (hiN (fourthsW a.toNat b.toNat (N2 u v)), loN (fourthsW a.toNat b.toNat (N2 u v))) else some (0, 0)) else none
theorem fours_ways (w h x : Nat) (hw : 4 ≤ w ∧ w ≤ 8) (hh : 4 ≤ h ∧ h ≤ 8) (hx : x < W128) (W : World) :
    Calls Try.prog 29 #[.agg #[.int .i64 (w : Int), .int .i64 (h : Int)], .agg #[.int .u64 (hiN x), .int .u64 (loN x)], .func (.func 30) #[] #[]] W fun e w' => e = .returned (.agg #[.int .u64 (hiN (foursW w h x)), .int .u64 (loN (foursW w h x))]) ∧ Below W.heap.size W w' :=
  ways_c w h x _ 100 hw hh hx (fullN_lt w h) (full_f w h hw hh) 30 _ W (fun d _ => foursN_lt _ _ (and_lt _ _ hx) _) (fun vs W => Go.Proofs.YtnenmiaeomcdpaaW.PrintLast.enters_ Try.func30 rfl rfl vs W) (fun d hd p q W hc => fours1_c _ d (and_lt _ _ hx) hd p q W hc)
theorem four_ways (w h x : Nat) (hw : 4 ≤ w ∧ w ≤ 8) (hh : 4 ≤ h ∧ h ≤ 8) (hx : x < W128) (W : World) :
    Calls Try.prog 29 #[.agg #[.int .i64 (w : Int), .int .i64 (h : Int)], .agg #[.int .u64 (hiN x), .int .u64 (loN x)], .func (.func 35) #[] #[]] W fun e w' => e = .returned (.agg #[.int .u64 (hiN (fourW w h x)), .int .u64 (loN (fourW w h x))]) ∧ Below W.heap.size W w' :=
  ways_c w h x _ 100 hw hh hx (fullN_lt w h) (full_f w h hw hh) 35 _ W (fun d _ => allN_lt _ _ (mvN_lt _ _ _ (and_lt _ _ hx))) (fun vs W => Go.Proofs.YtnenmiaeomcdpaaW.PrintLast.enters_ Try.func35 rfl rfl vs W) (fun d hd p q W hc => four1_c _ d (and_lt _ _ hx) hd p q W hc)
theorem fourths_ways (w h x : Nat) (hw : 4 ≤ w ∧ w ≤ 8) (hh : 4 ≤ h ∧ h ≤ 8) (hx : x < W128) (W : World) :
    Calls Try.prog 29 #[.agg #[.int .i64 (w : Int), .int .i64 (h : Int)], .agg #[.int .u64 (hiN x), .int .u64 (loN x)], .func (.func 36) #[] #[]] W fun e w' => e = .returned (.agg #[.int .u64 (hiN (lackW w h x)), .int .u64 (loN (lackW w h x))]) ∧ Below W.heap.size W w' :=
  ways_c w h x _ 100 hw hh hx (fullN_lt w h) (full_f w h hw hh) 36 _ W (fun d _ => fourthN_lt _ _ (and_lt _ _ hx)) (fun vs W => Go.Proofs.YtnenmiaeomcdpaaW.PrintLast.enters_ Try.func36 rfl rfl vs W) (fun d hd p q W hc => fourths1_c _ d (and_lt _ _ hx) hd p q W hc)
set_option maxHeartbeats 1000000 in
theorem fours_of (a b u v r s : Int) (w : World) (hW : ∀ W : World, Calls Try.prog 29 #[.agg #[.int .i64 a, .int .i64 b], .agg #[.int .u64 u, .int .u64 v], .func (.func 30) #[] #[]] W fun e w' => e = .returned (.agg #[.int .u64 r, .int .u64 s]) ∧ Below W.heap.size W w') :
    Calls Try.prog 8 #[.agg #[.int .i64 a, .int .i64 b], .agg #[.int .u64 u, .int .u64 v]] w fun e w' => e = .returned (.agg #[.int .u64 r, .int .u64 s]) ∧ Below w.heap.size w w' := by
  obtain ⟨A0, A1, A2, AB⟩ := three_new w [.int .i64 a, .int .i64 b] [.int .u64 u, .int .u64 v] [.int .u64 0, .int .u64 0] 23 26 26
  have HH := Aside0.mk (And.intro A2 AB)
  have HL := Aside0.mk hW
  clear A0 A1 A2 AB hW
  go_enter Try.func8, Try.ntmps8
  go_wp2_with fail
  refine (HL.out _).mono ?_
  rintro e w1 ⟨rfl, hb⟩
  have A2 := HH.out.1.below hb HH.out.1.lt
  have AB := HH.out.2.trans (hb.mono HH.out.2.size)
  clear hb HH
  obtain ⟨r0, r1, f0, f1⟩ := two_facts A2
  go_wp2
  exact bodyPost_ret (v := .agg #[.int .u64 r, .int .u64 s]) (by simp [results, Try.results8, go_sem, r0, r1]) rfl ⟨rfl, (AB.setCell (by show w.heap.size ≤ w.heap.size + 1 + 1; omega) _).setCell (by show w.heap.size ≤ w.heap.size + 1 + 1; omega) _⟩
set_option maxHeartbeats 1000000 in
theorem four_of (a b u v r s : Int) (z : Bool) (hz : decide (¬ (r = 0 ∧ s = 0)) = z) (w : World) (hW : ∀ W : World, Calls Try.prog 29 #[.agg #[.int .i64 a, .int .i64 b], .agg #[.int .u64 u, .int .u64 v], .func (.func 35) #[] #[]] W fun e w' => e = .returned (.agg #[.int .u64 r, .int .u64 s]) ∧ Below W.heap.size W w') :
    Calls Try.prog 11 #[.agg #[.int .i64 a, .int .i64 b], .agg #[.int .u64 u, .int .u64 v]] w fun e w' => e = .returned (.bool z) ∧ Below w.heap.size w w' := by
  have AB := ((Below.refl w.heap.size w).alloc (Nat.le_refl _) (.cells #[.int .i64 a, .int .i64 b] 23)).alloc (by simp) (.cells #[.int .u64 u, .int .u64 v] 26)
  have HH := Aside0.mk AB
  have HL := Aside0.mk hW
  have HZ := Aside0.mk hz
  clear AB hW hz
  go_enter Try.func11, Try.ntmps11
  go_wp2_with fail
  refine (HL.out _).mono ?_
  rintro e w1 ⟨rfl, hb⟩
  have AB := HH.out.trans (hb.mono HH.out.size)
  clear hb HH
  go_wp2
  · rename_i h1 h2
    exact bodyPost_ret (v := .bool false) (by simp [results, Try.results11, go_sem]) rfl ⟨by rw [← HZ.out]; simp [h1, h2], AB⟩
  · rename_i h1 h2
    exact bodyPost_ret (v := .bool true) (by simp [results, Try.results11, go_sem]) rfl ⟨by rw [← HZ.out]; simp [h1, h2], AB⟩
  · rename_i h1
    exact bodyPost_ret (v := .bool true) (by simp [results, Try.results11, go_sem]) rfl ⟨by rw [← HZ.out]; simp [h1], AB⟩
theorem hl_zero (n : Nat) : (hiN n = 0 ∧ loN n = 0) ↔ n = 0 := by unfold hiN loN; omega
theorem bits_Fours.calls (a0_0 : Int) (a0_1 : Int) (a1_0 : Int) (a1_1 : Int) (r1 : Int) (r2 : Int) (w : World) (h : bits_Fours.f a0_0 a0_1 a1_0 a1_1 = some (r1, r2)) :
    Calls Try.prog 8 #[.agg #[.int .i64 a0_0, .int .i64 a0_1], .agg #[.int .u64 a1_0, .int .u64 a1_1]] w fun e w' => e = .returned (.agg #[.int .u64 r1, .int .u64 r2]) ∧ Below w.heap.size w w' := by
  unfold bits_Fours.f at h
  by_cases hw : wfW a1_0 a1_1
  · rw [if_pos hw] at h
    refine fours_of _ _ _ _ _ _ w (fun W => ?_)
    cases hm : mayB a0_0 a0_1 with
    | true =>
      rw [hm, if_pos rfl] at h
      obtain ⟨x, y, rfl, rfl, hx, hy⟩ := may_or _ _ hm
      simp only [Int.toNat_natCast, Option.some.injEq, Prod.mk.injEq] at h
      obtain ⟨rfl, rfl⟩ := h
      have hc := fours_ways x y (N2 a1_0 a1_1) hx hy (N2_lt' hw) W
      rw [hiN_N2 _ _ hw.1 hw.2.2.1 hw.2.2.2, loN_N2 _ _ hw.1 hw.2.2.1 hw.2.2.2] at hc
      exact hc
    | false =>
      rw [hm] at h
      simp only [Bool.false_eq_true, if_false, Option.some.injEq, Prod.mk.injEq] at h
      obtain ⟨rfl, rfl⟩ := h
      exact ways_no _ _ _ _ hm _ W
  · rw [if_neg hw] at h; cases h
theorem bits_Four.calls (a0_0 : Int) (a0_1 : Int) (a1_0 : Int) (a1_1 : Int) (r : Bool) (w : World) (h : bits_Four.f a0_0 a0_1 a1_0 a1_1 = some r) :
    Calls Try.prog 11 #[.agg #[.int .i64 a0_0, .int .i64 a0_1], .agg #[.int .u64 a1_0, .int .u64 a1_1]] w fun e w' => e = .returned (.bool r) ∧ Below w.heap.size w w' := by
  unfold bits_Four.f at h
  by_cases hw : wfW a1_0 a1_1
  · rw [if_pos hw] at h
    cases hm : mayB a0_0 a0_1 with
    | true =>
      rw [hm, if_pos rfl] at h
      obtain ⟨x, y, rfl, rfl, hx, hy⟩ := may_or _ _ hm
      simp only [Int.toNat_natCast, Option.some.injEq] at h
      refine four_of _ _ _ _ (hiN (fourW x y (N2 a1_0 a1_1))) (loN (fourW x y (N2 a1_0 a1_1))) r ?_ w (fun W => ?_)
      · rw [← h]; simp only [hl_zero]
      have hc := four_ways x y (N2 a1_0 a1_1) hx hy (N2_lt' hw) W
      rw [hiN_N2 _ _ hw.1 hw.2.2.1 hw.2.2.2, loN_N2 _ _ hw.1 hw.2.2.1 hw.2.2.2] at hc
      exact hc
    | false =>
      rw [hm] at h
      simp only [Bool.false_eq_true, if_false, Option.some.injEq] at h
      exact four_of _ _ _ _ 0 0 r (by rw [← h]; rfl) w (fun W => ways_no _ _ _ _ hm _ W)
  · rw [if_neg hw] at h; cases h
structure FthsW (w : World) (a b u v r s : Int) (wr : World) : Prop where
  P : Arr wr w.heap.size [.int .i64 a, .int .i64 b] 23
  X : Arr wr (w.heap.size + 1) [.int .u64 u, .int .u64 v] 26
  R : Arr wr (w.heap.size + 1 + 1) [.int .u64 0, .int .u64 0] 26
  B : Below w.heap.size w wr
theorem FthsW.below {w wr w' : World} {a b u v r s : Int} (h : FthsW w a b u v r s wr) (hb : Below wr.heap.size wr w') : FthsW w a b u v r s w' :=
  ⟨h.P.below hb h.P.lt, h.X.below hb h.X.lt, h.R.below hb h.R.lt, h.B.trans (hb.mono h.B.size)⟩
set_option maxHeartbeats 1000000 in
theorem fourths_of (a b u v : Int) (l f n : Nat) (hl : l < W128) (hf : f < W128) (hn : n < W128) (w : World) (hW : ∀ W : World, Calls Try.prog 29 #[.agg #[.int .i64 a, .int .i64 b], .agg #[.int .u64 u, .int .u64 v], .func (.func 36) #[] #[]] W fun e w' => e = .returned (.agg #[.int .u64 (hiN l), .int .u64 (loN l)]) ∧ Below W.heap.size W w')
    (hF : ∀ W : World, Calls Try.prog 23 #[.agg #[.int .i64 a, .int .i64 b]] W fun e w' => e = .returned (.agg #[.int .u64 (hiN f), .int .u64 (loN f)]) ∧ Below W.heap.size W w')
    (hN : ∀ W : World, Calls Try.prog 37 #[.agg #[.int .u64 u, .int .u64 v]] W fun e w' => e = .returned (.agg #[.int .u64 (hiN n), .int .u64 (loN n)]) ∧ Below W.heap.size W w') :
    Calls Try.prog 12 #[.agg #[.int .i64 a, .int .i64 b], .agg #[.int .u64 u, .int .u64 v]] w fun e w' => e = .returned (.agg #[.int .u64 (hiN (allN l [f, n])), .int .u64 (loN (allN l [f, n]))]) ∧ Below w.heap.size w w' := by
  obtain ⟨A0, A1, A2, AB⟩ := three_new w [.int .i64 a, .int .i64 b] [.int .u64 u, .int .u64 v] [.int .u64 0, .int .u64 0] 23 26 26
  have HR : Aside0 (FthsW w a b u v 0 0 _) := ⟨⟨A0, A1, A2, AB⟩⟩
  have HL := Aside0.mk hW
  have HF := Aside0.mk hF
  have HN := Aside0.mk hN
  clear A0 A1 A2 AB hW hF hN
  go_enter Try.func12, Try.ntmps12
  go_wp2_with fail
  refine (HL.out _).mono ?_
  rintro e w1 ⟨rfl, hb⟩
  have HR := Aside0.mk (HR.out.below hb)
  clear hb
  go_wp2_with fail
  have hA : Aside0 _ := Aside0.mk (Arr.new w1 [.int .u64 (hiN l), .int .u64 (loN l)] 26)
  have HR := Aside0.mk (HR.out.below ((Below.refl _ w1).alloc (Nat.le_refl _) (.cells #[.int .u64 (hiN l), .int .u64 (loN l)] 26)))
  refine Go.Proofs.YtnenmiaeomcdpaaW.PrintLast.start_ (n := 8) (S := (fun w' => w'.cell? ⟨w.heap.size, 0, none⟩ = some (.int .i64 a) ∧ w'.cell? ⟨w.heap.size, 1, none⟩ = some (.int .i64 b) ∧ w'.cell? ⟨w.heap.size + 1, 0, none⟩ = some (.int .u64 u) ∧ w'.cell? ⟨w.heap.size + 1, 1, none⟩ = some (.int .u64 v) ∧ w'.cell? ⟨w1.heap.size, 0, none⟩ = some (.int .u64 (hiN l)) ∧ w'.cell? ⟨w1.heap.size, 1, none⟩ = some (.int .u64 (loN l)))) (ds := [7]) #[false, false, false, false, false, false, false, false] (by kernel_rfl) rfl rfl ⟨ctwo0 HR.out.P, ctwo1 HR.out.P, ctwo0 HR.out.X, ctwo1 HR.out.X, ctwo0 hA.out, ctwo1 hA.out⟩ (fun hHeld => ?_)
  refine Go.Proofs.YtnenmiaeomcdpaaW.PrintLast.take_ (i := 0) (N := some 9) (v := ?_) (a' := ?_) #[true, false, false, false, false, false, false, false] rfl rfl (by kernel_rfl) (fun _ _ _ h => h) (Or.inl ⟨by rfl, ?_⟩) hHeld ?_ ?_
  rotate_left
  · rintro w' ⟨s0, s1, s2, s3, s4, s5⟩
    go_simp
    try with_reducible rfl
  rotate_left
  · simp only [Act.put, List.setIfInBounds_toArray, List.set_cons_zero, List.set_cons_succ]
    rfl
  refine Go.Proofs.YtnenmiaeomcdpaaW.PrintLast.take_ (i := 1) (N := some 10) (v := ?_) (a' := ?_) #[true, true, false, false, false, false, false, false] rfl rfl (by kernel_rfl) (fun _ _ _ h => h) (Or.inl ⟨by rfl, ?_⟩) hHeld ?_ ?_
  rotate_left
  · rintro w' ⟨s0, s1, s2, s3, s4, s5⟩
    go_simp
    try with_reducible rfl
  rotate_left
  · simp only [Act.put, List.setIfInBounds_toArray, List.set_cons_zero, List.set_cons_succ]
    rfl
  refine Go.Proofs.YtnenmiaeomcdpaaW.PrintLast.take_ (i := 3) (N := some 12) (v := ?_) (a' := ?_) #[true, true, false, true, false, false, false, false] rfl rfl (by kernel_rfl) (fun _ _ _ h => h) (Or.inl ⟨by rfl, ?_⟩) hHeld ?_ ?_
  rotate_left
  · rintro w' ⟨s0, s1, s2, s3, s4, s5⟩
    go_simp
    try with_reducible rfl
  rotate_left
  · simp only [Act.put, List.setIfInBounds_toArray, List.set_cons_zero, List.set_cons_succ]
    rfl
  have hA := Aside0.mk (hA.out.below (below_drew (Below.refl _ _)) hA.out.lt)
  have HR := Aside0.mk (HR.out.below (below_drew (Below.refl _ _)))
  refine Go.Proofs.YtnenmiaeomcdpaaW.PrintLast.one_ (i := 2) (N := some 11) #[true, true, true, true, false, false, false, false] rfl rfl (by kernel_rfl) (by decide) (fun K hK => ?_)
  refine Go.Proofs.YtnenmiaeomcdpaaW.PrintLast.call_ 23 #[.agg #[.int .i64 a, .int .i64 b]] (by rfl) rfl ?_ ?_
  · go_simp
  refine (HF.out _).mono ?_
  rintro e wz2 ⟨rfl, hb⟩
  refine ⟨_, rfl, ?_⟩
  have HR := Aside0.mk (HR.out.below hb)
  have hA := Aside0.mk (hA.out.below hb hA.out.lt)
  clear hb
  refine hK.out _ _ ⟨ctwo0 HR.out.P, ctwo1 HR.out.P, ctwo0 HR.out.X, ctwo1 HR.out.X, ctwo0 hA.out, ctwo1 hA.out⟩ (fun hHeld => ?_)
  clear hK K
  refine Go.Proofs.YtnenmiaeomcdpaaW.PrintLast.norm_ (a' := ?_) ?_ ?_
  rotate_left
  · simp only [Act.put, List.setIfInBounds_toArray, List.set_cons_zero, List.set_cons_succ]
    rfl
  refine Go.Proofs.YtnenmiaeomcdpaaW.PrintLast.one_ (i := 4) (N := some 13) #[true, true, true, true, true, false, false, false] rfl rfl (by kernel_rfl) (by decide) (fun K hK => ?_)
  refine Go.Proofs.YtnenmiaeomcdpaaW.PrintLast.call_ 37 #[.agg #[.int .u64 u, .int .u64 v]] (by rfl) rfl ?_ ?_
  · go_simp
  refine (HN.out _).mono ?_
  rintro e wz4 ⟨rfl, hb⟩
  refine ⟨_, rfl, ?_⟩
  have HR := Aside0.mk (HR.out.below hb)
  have hA := Aside0.mk (hA.out.below hb hA.out.lt)
  clear hb
  refine hK.out _ _ ⟨ctwo0 HR.out.P, ctwo1 HR.out.P, ctwo0 HR.out.X, ctwo1 HR.out.X, ctwo0 hA.out, ctwo1 hA.out⟩ (fun hHeld => ?_)
  clear hK K
  refine Go.Proofs.YtnenmiaeomcdpaaW.PrintLast.norm_ (a' := ?_) ?_ ?_
  rotate_left
  · simp only [Act.put, List.setIfInBounds_toArray, List.set_cons_zero, List.set_cons_succ]
    rfl
  refine Go.Proofs.YtnenmiaeomcdpaaW.PrintLast.one_ (i := 5) (N := some 14) #[true, true, true, true, true, true, false, false] rfl rfl (by kernel_rfl) (by decide) (fun K hK => ?_)
  refine Go.Proofs.YtnenmiaeomcdpaaW.PrintLast.value_ (w1 := wz4.alloc (.cells #[.int .u64 (hiN (f)), .int .u64 (loN (f)), .int .u64 (hiN (n)), .int .u64 (loN (n))] 26)) (v := .slice (some ⟨wz4.heap.size, 0, none⟩) 2 2) (by rfl) rfl ?_ ?_
  · go_simp
  have hC := C_two (t := 26) f n (Arr.new wz4 _ _)
  have hb := (Below.refl _ wz4).alloc (Nat.le_refl _) (.cells #[.int .u64 (hiN (f)), .int .u64 (loN (f)), .int .u64 (hiN (n)), .int .u64 (loN (n))] 26)
  have HR := Aside0.mk (HR.out.below hb)
  have hA := Aside0.mk (hA.out.below hb hA.out.lt)
  clear hb
  refine hK.out _ _ ⟨ctwo0 HR.out.P, ctwo1 HR.out.P, ctwo0 HR.out.X, ctwo1 HR.out.X, ctwo0 hA.out, ctwo1 hA.out⟩ (fun hHeld => ?_)
  clear hK K
  refine Go.Proofs.YtnenmiaeomcdpaaW.PrintLast.norm_ (a' := ?_) ?_ ?_
  rotate_left
  · simp only [Act.put, List.setIfInBounds_toArray, List.set_cons_zero, List.set_cons_succ]
    rfl
  refine Go.Proofs.YtnenmiaeomcdpaaW.PrintLast.one_ (i := 6) (N := some 15) #[true, true, true, true, true, true, true, false] rfl rfl (by kernel_rfl) (by decide) (fun K hK => ?_)
  refine Go.Proofs.YtnenmiaeomcdpaaW.PrintLast.call_ 31 #[.agg #[.int .u64 (hiN (l)), .int .u64 (loN (l))], .slice (some ⟨wz4.heap.size, 0, none⟩) 2 2] (by rfl) rfl ?_ ?_
  · go_simp
  refine (all_c l [f, n] hl (by intro y hy; simp at hy; rcases hy with rfl | rfl <;> assumption) (by simp) _ _ hC).mono ?_
  rintro e wz6 ⟨rfl, hb⟩
  refine ⟨_, rfl, ?_⟩
  have HR := Aside0.mk (HR.out.below hb)
  have hA := Aside0.mk (hA.out.below hb hA.out.lt)
  clear hb
  refine hK.out _ _ ⟨ctwo0 HR.out.P, ctwo1 HR.out.P, ctwo0 HR.out.X, ctwo1 HR.out.X, ctwo0 hA.out, ctwo1 hA.out⟩ (fun hHeld => ?_)
  clear hK K
  refine Go.Proofs.YtnenmiaeomcdpaaW.PrintLast.norm_ (a' := ?_) ?_ ?_
  rotate_left
  · simp only [Act.put, List.setIfInBounds_toArray, List.set_cons_zero, List.set_cons_succ]
    rfl
  refine Go.Proofs.YtnenmiaeomcdpaaW.PrintLast.last_ (i := 7) (N := none) #[true, true, true, true, true, true, true, true] rfl rfl (by kernel_rfl) (by decide) (fun K hK => ?_)
  obtain ⟨e0, e1, g0, g1⟩ := two_facts HR.out.R
  refine Go.Proofs.YtnenmiaeomcdpaaW.PrintLast.skip_ (w1 := ?_) (by rfl) rfl ?_ ?_
  rotate_left
  · go_simp
    try rfl
  refine hK.out _ _ ?_
  clear hK K
  refine Go.Proofs.YtnenmiaeomcdpaaW.PrintLast.done_ (by kernel_rfl) ?_
  have HB := HR.out.B
  go_wp2
  exact bodyPost_ret (v := .agg #[.int .u64 (hiN (allN l [f, n])), .int .u64 (loN (allN l [f, n]))]) (by simp [results, Try.results12, go_sem, e0, e1]) rfl ⟨rfl, (HB.setCell (by show w.heap.size ≤ w.heap.size + 1 + 1; omega) _).setCell (by show w.heap.size ≤ w.heap.size + 1 + 1; omega) _⟩
theorem lackW_lt (w h x : Nat) (hh : h ≤ 8) (hx : x < W128) : lackW w h x < W128 := by
  unfold lackW
  exact waysN_lt _ h hh (fun d _ => fourthN_lt _ _ (and_lt _ _ hx)) _
theorem fourths_no (a b u v : Int) (n : Nat) (hn : n < W128) (hm : mayB a b = false) (w : World)
    (hN : ∀ W : World, Calls Try.prog 37 #[.agg #[.int .u64 u, .int .u64 v]] W fun e w' => e = .returned (.agg #[.int .u64 (hiN n), .int .u64 (loN n)]) ∧ Below W.heap.size W w') :
    Calls Try.prog 12 #[.agg #[.int .i64 a, .int .i64 b], .agg #[.int .u64 u, .int .u64 v]] w fun e w' => e = .returned (.agg #[.int .u64 0, .int .u64 0]) ∧ Below w.heap.size w w' := by
  have z : hiN 0 = 0 ∧ loN 0 = 0 := by decide
  have h0 : (0 : Nat) < W128 := by decide
  have hl := fun W => ways_no a b u v hm 36 W
  have hf := fun W => bits_Full.calls 100 a b 0 0 W (full_no _ _ hm)
  have := fourths_of a b u v 0 0 n h0 h0 hn w (by rw [z.1, z.2]; exact hl) (by rw [z.1, z.2]; exact hf) hN
  rw [show allN 0 [0, n] = 0 by simp [allN], z.1, z.2] at this
  exact this
theorem bits_Fourths.calls (a0_0 : Int) (a0_1 : Int) (a1_0 : Int) (a1_1 : Int) (r1 : Int) (r2 : Int) (w : World) (h : bits_Fourths.f a0_0 a0_1 a1_0 a1_1 = some (r1, r2)) :
    Calls Try.prog 12 #[.agg #[.int .i64 a0_0, .int .i64 a0_1], .agg #[.int .u64 a1_0, .int .u64 a1_1]] w fun e w' => e = .returned (.agg #[.int .u64 r1, .int .u64 r2]) ∧ Below w.heap.size w w' := by
  unfold bits_Fourths.f at h
  by_cases hw : wfW a1_0 a1_1
  · rw [if_pos hw] at h
    have hlt := N2_lt' hw
    have hn := fun W => not_c (N2 a1_0 a1_1) hlt W
    rw [hiN_N2 _ _ hw.1 hw.2.2.1 hw.2.2.2, loN_N2 _ _ hw.1 hw.2.2.1 hw.2.2.2] at hn
    cases hm : mayB a0_0 a0_1 with
    | true =>
      rw [hm, if_pos rfl] at h
      obtain ⟨x, y, rfl, rfl, hx, hy⟩ := may_or _ _ hm
      simp only [Int.toNat_natCast, Option.some.injEq, Prod.mk.injEq] at h
      obtain ⟨rfl, rfl⟩ := h
      have hc := fun W => fourths_ways x y (N2 a1_0 a1_1) hx hy hlt W
      rw [hiN_N2 _ _ hw.1 hw.2.2.1 hw.2.2.2, loN_N2 _ _ hw.1 hw.2.2.1 hw.2.2.2] at hc
      have := fourths_of (x : Int) (y : Int) a1_0 a1_1 (lackW x y (N2 a1_0 a1_1)) (fullN x y) (notN (N2 a1_0 a1_1)) (lackW_lt x y _ hy.2 hlt) (fullN_lt x y) (notN_lt _) w hc (fun W => bits_Full.calls 100 _ _ _ _ W (full_f x y hx hy)) hn
      unfold fourthsW
      exact this
    | false =>
      rw [hm] at h
      simp only [Bool.false_eq_true, if_false, Option.some.injEq, Prod.mk.injEq] at h
      obtain ⟨rfl, rfl⟩ := h
      exact fourths_no _ _ _ _ _ (notN_lt _) hm w hn
  · rw [if_neg hw] at h; cases h
end Go.Proofs.Ytnenmiaeomcdpaa.Given
