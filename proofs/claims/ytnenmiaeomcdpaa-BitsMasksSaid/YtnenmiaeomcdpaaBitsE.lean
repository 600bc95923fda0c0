/-
  What the closure of bits.Fours answers; conditions: the bounds that it says.
-/
import Derived.Test.YtnenmiaeomcdpaaBitsD
namespace Go.Proofs.Ytnenmiaeomcdpaa.Given
open Go.RowKit Go.Proofs.YtnenmiaeomcdpaaW.PrintWords Go.Proofs.Ytnenmiaeomcdpaa.Base Go.Proofs.Ytnenmiaeomcdpaa.KW Go.Proofs.Ytnenmiaeomcdpaa.KB
set_option linter.unusedVariables false
set_option linter.unusedSimpArgs false

/-- Cells of rows of four that begin so many steps before. -/
def foursN (x d : Nat) : Nat → Nat
  | 0 => 0
  | i + 1 => foursN x d i ||| allN (mvN x d 0) [mvN x d ((i : Int) - 3), mvN x d ((i : Int) - 3 + 1), mvN x d ((i : Int) - 3 + 2), mvN x d ((i : Int) - 3 + 3)]
theorem foursN_lt (x d : Nat) (hx : x < W128) : ∀ i, foursN x d i < W128
  | 0 => by show 0 < W128; decide
  | i + 1 => Nat.or_lt_two_pow (n := 128) (foursN_lt x d hx i) (allN_lt _ _ (mvN_lt _ _ _ hx))
theorem wrap_small (n : Int) (h : -1000 ≤ n ∧ n ≤ 1000) : IntKind.i64.wrap n = n := by rw [IntKind.wrap_i64]; omega
/-- What the loop leaves as it is. -/
structure FourW (w w1 : World) (p q x d n : Nat) (wr : World) : Prop where
  C : Cap wr p q x d
  R : Arr wr w.heap.size [.int .u64 0, .int .u64 0] 26
  N : Arr wr w1.heap.size [.int .u64 (hiN (mvN x d 0)), .int .u64 (loN (mvN x d 0))] 26
  O : Arr wr (w1.heap.size + 1) [.int .u64 (hiN n), .int .u64 (loN n)] 26
  B : Below w.heap.size w wr
theorem FourW.below {w w1 wr w' : World} {p q x d n : Nat} (h : FourW w w1 p q x d n wr) (hb : Below wr.heap.size wr w') : FourW w w1 p q x d n w' :=
  ⟨h.C.below hb, h.R.below hb h.R.lt, h.N.below hb h.N.lt, h.O.below hb h.O.lt, h.B.trans (hb.mono h.B.size)⟩
theorem FourW.start {w w1 : World} {p q x d m : Nat} (hc : Cap w1 p q x d) (hr : Arr w1 w.heap.size [.int .u64 0, .int .u64 0] 26) (hb : Below w.heap.size w w1) (hm : mvN x d 0 = m) :
    FourW w w1 p q x d (foursN x d 0) ((w1.alloc (.cells #[.int .u64 (hiN (mvN x d 0)), .int .u64 (loN (mvN x d 0))] 26)).alloc (.cells #[.int .u64 0, .int .u64 0] 26)) := by
  have B1 := Arr.new w1 [.int .u64 (hiN (mvN x d 0)), .int .u64 (loN (mvN x d 0))] 26
  have B2 := Arr.new (w1.alloc (.cells #[.int .u64 (hiN (mvN x d 0)), .int .u64 (loN (mvN x d 0))] 26)) [.int .u64 0, .int .u64 0] 26
  simp only [World.size_alloc] at B2
  have h0 : hiN (foursN x d 0) = 0 ∧ loN (foursN x d 0) = 0 := by show hiN 0 = 0 ∧ loN 0 = 0; decide
  exact ⟨(hc.alloc _).alloc _, arr_alloc (arr_alloc hr _) _, arr_alloc B1 _, by rw [h0.1, h0.2]; exact B2, (hb.alloc hb.size _).alloc (by have := hb.size; simp; omega) _⟩
theorem Cap.ne {w : World} {p q x d : Nat} (h : Cap w p q x d) : p < w.heap.size ∧ q < w.heap.size := ⟨World.block_lt_of_cell? w _ h.1, World.block_lt_of_cell? w _ h.2.2⟩
theorem Cap.set {W : World} {p q x d b : Nat} (h : Cap W p q x d) (hp : p ≠ b) (hq : q ≠ b) (o : Nat) (v : Value) : Cap (W.setCell ⟨b, o, none⟩ v) p q x d :=
  ⟨(World.cell?_setCell_far _ _ _ _ (Ne.symm hp)).trans h.1, (World.cell?_setCell_far _ _ _ _ (Ne.symm hp)).trans h.2.1, (World.cell?_setCell_far _ _ _ _ (Ne.symm hq)).trans h.2.2⟩
theorem FourW.set {w w1 wr : World} {p q x d n m : Nat} (h : FourW w w1 p q x d n wr) (hl : w.heap.size < w1.heap.size) (hc : Cap w1 p q x d) :
    FourW w w1 p q x d m ((wr.setCell ⟨w1.heap.size + 1, 0, none⟩ (.int .u64 (hiN m))).setCell ⟨w1.heap.size + 1, 1, none⟩ (.int .u64 (loN m))) := by
  have := hc.ne
  exact ⟨(h.C.set (by omega) (by omega) _ _).set (by omega) (by omega) _ _, arr_far (arr_far h.R (by simp; omega) _) (by simp; omega) _, arr_far (arr_far h.N (by simp) _) (by simp) _, (h.O.set 0 _).set 1 _, (h.B.setCell (by show w.heap.size ≤ w1.heap.size + 1; omega) _).setCell (by show w.heap.size ≤ w1.heap.size + 1; omega) _⟩
set_option maxHeartbeats 4000000 in
theorem fours1_c (x d : Nat) (hx : x < W128) (hd : d ≤ 100) (p q : Nat) (w : World) (hc : Cap w p q x d) :
    Calls Try.prog 30 #[.func (.func 51) #[] #[.pointer (some ⟨p, 0, none⟩), .pointer (some ⟨q, 0, none⟩)]] w fun e w' => e = .returned (.agg #[.int .u64 (hiN (foursN x d 4)), .int .u64 (loN (foursN x d 4))]) ∧ Below w.heap.size w w' := by
  have HC := Aside0.mk (hc.alloc (.cells #[.int .u64 0, .int .u64 0] 26))
  have HR := Aside0.mk (Arr.new w [.int .u64 0, .int .u64 0] 26)
  have HB := Aside0.mk ((Below.refl _ w).alloc (Nat.le_refl _) (.cells #[.int .u64 0, .int .u64 0] 26))
  clear hc
  go_enter Try.func30, Try.ntmps30
  go_wp2_with fail
  refine (ways1_c x d 0 (by decide) hx hd p q _ HC.out).mono ?_
  rintro e w1 ⟨rfl, hb⟩
  have HC := Aside0.mk (HC.out.below hb)
  have HR := Aside0.mk (HR.out.below hb HR.out.lt)
  have HB := Aside0.mk (HB.out.trans (hb.mono HB.out.size))
  clear hb
  have hl := HR.out.lt
  go_wp2_with fail
  go_loopg [5] 4 (fun g v5 wr => ∃ i : Nat, v5 = .int .i64 ((i : Int) - 3) ∧ i + g = 4 ∧ Aside0 (FourW w w1 p q x d (foursN x d i) wr))
  case atStart => exact ⟨0, rfl, by omega, ⟨FourW.start HC.out HR.out HB.out rfl⟩⟩
  case round =>
    obtain ⟨i, rfl, hi, HR⟩ := hrel
    have hn := HR.out.R.lt
    by_cases hlt : 0 < gk
    · have hs : (-3 : Int) ≤ (i : Int) - 3 ∧ (i : Int) - 3 ≤ 0 := by omega
      obtain ⟨s, hS⟩ : ∃ s : Int, s = (i : Int) - 3 := ⟨_, rfl⟩
      have HS := Aside0.mk hS
      rw [← hS] at hs ⊢
      have hle : s ≤ 0 := hs.2
      have k1 := wrap_small (s + 1) (by omega)
      have k2 := wrap_small (s + 2) (by omega)
      have k3 := wrap_small (s + 3) (by omega)
      clear hS
      go_wp2_with fail
      refine Go.Proofs.YtnenmiaeomcdpaaW.PrintLast.start_ (n := 21) (S := (fun w' => w'.cell? ⟨w1.heap.size + 1, 0, none⟩ = some (.int .u64 (hiN (foursN x d i))) ∧ w'.cell? ⟨w1.heap.size + 1, 1, none⟩ = some (.int .u64 (loN (foursN x d i))) ∧ w'.cell? ⟨w1.heap.size, 0, none⟩ = some (.int .u64 (hiN (mvN x d 0))) ∧ w'.cell? ⟨w1.heap.size, 1, none⟩ = some (.int .u64 (loN (mvN x d 0))))) (ds := [20]) #[false, false, false, false, false, false, false, false, false, false, false, false, false, false, false, false, false, false, false, false, false] (by kernel_rfl) rfl rfl ⟨ctwo0 HR.out.O, ctwo1 HR.out.O, ctwo0 HR.out.N, ctwo1 HR.out.N⟩ (fun hHeld => ?_)
      refine Go.Proofs.YtnenmiaeomcdpaaW.PrintLast.pure_ (i := 2) (N := some 15) (v := ?_) (a' := ?_) #[false, false, true, false, false, false, false, false, false, false, false, false, false, false, false, false, false, false, false, false, false] rfl rfl (by kernel_rfl) (fun _ _ _ h => h) (Or.inl ⟨by rfl, ?_⟩) ?_ ?_
      rotate_left
      · intro w'
        go_simp
        try with_reducible rfl
      rotate_left
      · simp only [Act.put, List.setIfInBounds_toArray, List.set_cons_zero, List.set_cons_succ]
        rfl
      refine Go.Proofs.YtnenmiaeomcdpaaW.PrintLast.pure_ (i := 3) (N := some 16) (v := ?_) (a' := ?_) #[false, false, true, true, false, false, false, false, false, false, false, false, false, false, false, false, false, false, false, false, false] rfl rfl (by kernel_rfl) (fun _ _ _ h => h) (Or.inl ⟨by rfl, ?_⟩) ?_ ?_
      rotate_left
      · intro w'
        go_simp
        try with_reducible rfl
      rotate_left
      · simp only [Act.put, List.setIfInBounds_toArray, List.set_cons_zero, List.set_cons_succ]
        rfl
      refine Go.Proofs.YtnenmiaeomcdpaaW.PrintLast.pure_ (i := 5) (N := some 18) (v := ?_) (a' := ?_) #[false, false, true, true, false, true, false, false, false, false, false, false, false, false, false, false, false, false, false, false, false] rfl rfl (by kernel_rfl) (fun _ _ _ h => h) (Or.inl ⟨by rfl, ?_⟩) ?_ ?_
      rotate_left
      · intro w'
        go_simp
        try with_reducible rfl
      rotate_left
      · simp only [Act.put, List.setIfInBounds_toArray, List.set_cons_zero, List.set_cons_succ]
        rfl
      refine Go.Proofs.YtnenmiaeomcdpaaW.PrintLast.pure_ (i := 6) (N := some 19) (v := ?_) (a' := ?_) #[false, false, true, true, false, true, true, false, false, false, false, false, false, false, false, false, false, false, false, false, false] rfl rfl (by kernel_rfl) (fun _ _ _ h => h) (Or.inl ⟨by rfl, ?_⟩) ?_ ?_
      rotate_left
      · intro w'
        go_simp
        try with_reducible rfl
      rotate_left
      · simp only [Act.put, List.setIfInBounds_toArray, List.set_cons_zero, List.set_cons_succ]
        rfl
      refine Go.Proofs.YtnenmiaeomcdpaaW.PrintLast.pure_ (i := 9) (N := some 22) (v := ?_) (a' := ?_) #[false, false, true, true, false, true, true, false, false, true, false, false, false, false, false, false, false, false, false, false, false] rfl rfl (by kernel_rfl) (fun _ _ _ h => h) (Or.inl ⟨by rfl, ?_⟩) ?_ ?_
      rotate_left
      · intro w'
        go_simp
        try with_reducible rfl
      rotate_left
      · simp only [Act.put, List.setIfInBounds_toArray, List.set_cons_zero, List.set_cons_succ]
        rfl
      refine Go.Proofs.YtnenmiaeomcdpaaW.PrintLast.pure_ (i := 10) (N := some 23) (v := ?_) (a' := ?_) #[false, false, true, true, false, true, true, false, false, true, true, false, false, false, false, false, false, false, false, false, false] rfl rfl (by kernel_rfl) (fun _ _ _ h => h) (Or.inl ⟨by rfl, ?_⟩) ?_ ?_
      rotate_left
      · intro w'
        go_simp
        try with_reducible rfl
      rotate_left
      · simp only [Act.put, List.setIfInBounds_toArray, List.set_cons_zero, List.set_cons_succ]
        rfl
      refine Go.Proofs.YtnenmiaeomcdpaaW.PrintLast.pure_ (i := 13) (N := some 26) (v := ?_) (a' := ?_) #[false, false, true, true, false, true, true, false, false, true, true, false, false, true, false, false, false, false, false, false, false] rfl rfl (by kernel_rfl) (fun _ _ _ h => h) (Or.inl ⟨by rfl, ?_⟩) ?_ ?_
      rotate_left
      · intro w'
        go_simp
        try with_reducible rfl
      rotate_left
      · simp only [Act.put, List.setIfInBounds_toArray, List.set_cons_zero, List.set_cons_succ]
        rfl
      refine Go.Proofs.YtnenmiaeomcdpaaW.PrintLast.pure_ (i := 14) (N := some 27) (v := ?_) (a' := ?_) #[false, false, true, true, false, true, true, false, false, true, true, false, false, true, true, false, false, false, false, false, false] rfl rfl (by kernel_rfl) (fun _ _ _ h => h) (Or.inl ⟨by rfl, ?_⟩) ?_ ?_
      rotate_left
      · intro w'
        go_simp
        try with_reducible rfl
      rotate_left
      · simp only [Act.put, List.setIfInBounds_toArray, List.set_cons_zero, List.set_cons_succ]
        rfl
      refine Go.Proofs.YtnenmiaeomcdpaaW.PrintLast.pure_ (i := 7) (N := some 20) (v := ?_) (a' := ?_) #[false, false, true, true, false, true, true, true, false, true, true, false, false, true, true, false, false, false, false, false, false] rfl rfl (by kernel_rfl) (fun _ _ _ h => h) (Or.inl ⟨by rfl, ?_⟩) ?_ ?_
      rotate_left
      · intro w'
        go_simp
        try with_reducible rfl
      rotate_left
      · simp only [Act.put, List.setIfInBounds_toArray, List.set_cons_zero, List.set_cons_succ]
        rfl
      refine Go.Proofs.YtnenmiaeomcdpaaW.PrintLast.pure_ (i := 11) (N := some 24) (v := ?_) (a' := ?_) #[false, false, true, true, false, true, true, true, false, true, true, true, false, true, true, false, false, false, false, false, false] rfl rfl (by kernel_rfl) (fun _ _ _ h => h) (Or.inl ⟨by rfl, ?_⟩) ?_ ?_
      rotate_left
      · intro w'
        go_simp
        try with_reducible rfl
      rotate_left
      · simp only [Act.put, List.setIfInBounds_toArray, List.set_cons_zero, List.set_cons_succ]
        rfl
      refine Go.Proofs.YtnenmiaeomcdpaaW.PrintLast.pure_ (i := 15) (N := some 28) (v := ?_) (a' := ?_) #[false, false, true, true, false, true, true, true, false, true, true, true, false, true, true, true, false, false, false, false, false] rfl rfl (by kernel_rfl) (fun _ _ _ h => h) (Or.inl ⟨by rfl, ?_⟩) ?_ ?_
      rotate_left
      · intro w'
        go_simp
        try with_reducible rfl
      rotate_left
      · simp only [Act.put, List.setIfInBounds_toArray, List.set_cons_zero, List.set_cons_succ]
        rfl
      refine Go.Proofs.YtnenmiaeomcdpaaW.PrintLast.take_ (i := 0) (N := some 13) (v := ?_) (a' := ?_) #[true, false, true, true, false, true, true, true, false, true, true, true, false, true, true, true, false, false, false, false, false] rfl rfl (by kernel_rfl) (fun _ _ _ h => h) (Or.inl ⟨by rfl, ?_⟩) hHeld ?_ ?_
      rotate_left
      · rintro w' ⟨s0, s1, s2, s3⟩
        go_simp
        try with_reducible rfl
      rotate_left
      · simp only [Act.put, List.setIfInBounds_toArray, List.set_cons_zero, List.set_cons_succ]
        rfl
      refine Go.Proofs.YtnenmiaeomcdpaaW.PrintLast.take_ (i := 1) (N := some 14) (v := ?_) (a' := ?_) #[true, true, true, true, false, true, true, true, false, true, true, true, false, true, true, true, false, false, false, false, false] rfl rfl (by kernel_rfl) (fun _ _ _ h => h) (Or.inl ⟨by rfl, ?_⟩) hHeld ?_ ?_
      rotate_left
      · rintro w' ⟨s0, s1, s2, s3⟩
        go_simp
        try with_reducible rfl
      rotate_left
      · simp only [Act.put, List.setIfInBounds_toArray, List.set_cons_zero, List.set_cons_succ]
        rfl
      have HR := Aside0.mk (HR.out.below (below_drew (Below.refl _ wr)))
      refine Go.Proofs.YtnenmiaeomcdpaaW.PrintLast.one_ (i := 4) (N := some 17) #[true, true, true, true, true, true, true, true, false, true, true, true, false, true, true, true, false, false, false, false, false] rfl rfl (by kernel_rfl) (by decide) (fun K hK => ?_)
      refine Go.Proofs.YtnenmiaeomcdpaaW.PrintLast.call_ 51 #[.int .i64 (s), .pointer (some ⟨p, 0, none⟩), .pointer (some ⟨q, 0, none⟩)] (by rfl) rfl ?_ ?_
      · go_simp
      refine (ways1_c x d (s) (by omega) hx hd p q _ HR.out.C).mono ?_
      rintro e wz4 ⟨rfl, hb⟩
      refine ⟨_, rfl, ?_⟩
      have HR := Aside0.mk (HR.out.below hb)
      clear hb
      refine hK.out _ _ ⟨ctwo0 HR.out.O, ctwo1 HR.out.O, ctwo0 HR.out.N, ctwo1 HR.out.N⟩ (fun hHeld => ?_)
      clear hK K
      refine Go.Proofs.YtnenmiaeomcdpaaW.PrintLast.norm_ (a' := ?_) ?_ ?_
      rotate_left
      · simp only [Act.put, List.setIfInBounds_toArray, List.set_cons_zero, List.set_cons_succ]
        rfl
      refine Go.Proofs.YtnenmiaeomcdpaaW.PrintLast.one_ (i := 8) (N := some 21) #[true, true, true, true, true, true, true, true, true, true, true, true, false, true, true, true, false, false, false, false, false] rfl rfl (by kernel_rfl) (by decide) (fun K hK => ?_)
      refine Go.Proofs.YtnenmiaeomcdpaaW.PrintLast.call_ 51 #[.int .i64 (s + 1), .pointer (some ⟨p, 0, none⟩), .pointer (some ⟨q, 0, none⟩)] (by rfl) rfl ?_ ?_
      · go_simp
      refine (ways1_c x d (s + 1) (by omega) hx hd p q _ HR.out.C).mono ?_
      rintro e wz8 ⟨rfl, hb⟩
      refine ⟨_, rfl, ?_⟩
      have HR := Aside0.mk (HR.out.below hb)
      clear hb
      refine hK.out _ _ ⟨ctwo0 HR.out.O, ctwo1 HR.out.O, ctwo0 HR.out.N, ctwo1 HR.out.N⟩ (fun hHeld => ?_)
      clear hK K
      refine Go.Proofs.YtnenmiaeomcdpaaW.PrintLast.norm_ (a' := ?_) ?_ ?_
      rotate_left
      · simp only [Act.put, List.setIfInBounds_toArray, List.set_cons_zero, List.set_cons_succ]
        rfl
      refine Go.Proofs.YtnenmiaeomcdpaaW.PrintLast.one_ (i := 12) (N := some 25) #[true, true, true, true, true, true, true, true, true, true, true, true, true, true, true, true, false, false, false, false, false] rfl rfl (by kernel_rfl) (by decide) (fun K hK => ?_)
      refine Go.Proofs.YtnenmiaeomcdpaaW.PrintLast.call_ 51 #[.int .i64 (s + 2), .pointer (some ⟨p, 0, none⟩), .pointer (some ⟨q, 0, none⟩)] (by rfl) rfl ?_ ?_
      · go_simp
      refine (ways1_c x d (s + 2) (by omega) hx hd p q _ HR.out.C).mono ?_
      rintro e wz12 ⟨rfl, hb⟩
      refine ⟨_, rfl, ?_⟩
      have HR := Aside0.mk (HR.out.below hb)
      clear hb
      refine hK.out _ _ ⟨ctwo0 HR.out.O, ctwo1 HR.out.O, ctwo0 HR.out.N, ctwo1 HR.out.N⟩ (fun hHeld => ?_)
      clear hK K
      refine Go.Proofs.YtnenmiaeomcdpaaW.PrintLast.norm_ (a' := ?_) ?_ ?_
      rotate_left
      · simp only [Act.put, List.setIfInBounds_toArray, List.set_cons_zero, List.set_cons_succ]
        rfl
      refine Go.Proofs.YtnenmiaeomcdpaaW.PrintLast.one_ (i := 16) (N := some 29) #[true, true, true, true, true, true, true, true, true, true, true, true, true, true, true, true, true, false, false, false, false] rfl rfl (by kernel_rfl) (by decide) (fun K hK => ?_)
      refine Go.Proofs.YtnenmiaeomcdpaaW.PrintLast.call_ 51 #[.int .i64 (s + 3), .pointer (some ⟨p, 0, none⟩), .pointer (some ⟨q, 0, none⟩)] (by rfl) rfl ?_ ?_
      · go_simp
      refine (ways1_c x d (s + 3) (by omega) hx hd p q _ HR.out.C).mono ?_
      rintro e wz16 ⟨rfl, hb⟩
      refine ⟨_, rfl, ?_⟩
      have HR := Aside0.mk (HR.out.below hb)
      clear hb
      refine hK.out _ _ ⟨ctwo0 HR.out.O, ctwo1 HR.out.O, ctwo0 HR.out.N, ctwo1 HR.out.N⟩ (fun hHeld => ?_)
      clear hK K
      refine Go.Proofs.YtnenmiaeomcdpaaW.PrintLast.norm_ (a' := ?_) ?_ ?_
      rotate_left
      · simp only [Act.put, List.setIfInBounds_toArray, List.set_cons_zero, List.set_cons_succ]
        rfl
      refine Go.Proofs.YtnenmiaeomcdpaaW.PrintLast.one_ (i := 17) (N := some 30) #[true, true, true, true, true, true, true, true, true, true, true, true, true, true, true, true, true, true, false, false, false] rfl rfl (by kernel_rfl) (by decide) (fun K hK => ?_)
      refine Go.Proofs.YtnenmiaeomcdpaaW.PrintLast.value_ (w1 := wz16.alloc (.cells #[.int .u64 (hiN (mvN x d (s))), .int .u64 (loN (mvN x d (s))), .int .u64 (hiN (mvN x d (s + 1))), .int .u64 (loN (mvN x d (s + 1))), .int .u64 (hiN (mvN x d (s + 2))), .int .u64 (loN (mvN x d (s + 2))), .int .u64 (hiN (mvN x d (s + 3))), .int .u64 (loN (mvN x d (s + 3)))] 26)) (v := .slice (some ⟨wz16.heap.size, 0, none⟩) 4 4) (by rfl) rfl ?_ ?_
      · go_simp
      have hC := C_four (t := 26) (mvN x d s) (mvN x d (s + 1)) (mvN x d (s + 2)) (mvN x d (s + 3)) (Arr.new wz16 _ _)
      have HR := Aside0.mk (HR.out.below ((Below.refl _ wz16).alloc (Nat.le_refl _) (.cells #[.int .u64 (hiN (mvN x d (s))), .int .u64 (loN (mvN x d (s))), .int .u64 (hiN (mvN x d (s + 1))), .int .u64 (loN (mvN x d (s + 1))), .int .u64 (hiN (mvN x d (s + 2))), .int .u64 (loN (mvN x d (s + 2))), .int .u64 (hiN (mvN x d (s + 3))), .int .u64 (loN (mvN x d (s + 3)))] 26)))
      refine hK.out _ _ ⟨ctwo0 HR.out.O, ctwo1 HR.out.O, ctwo0 HR.out.N, ctwo1 HR.out.N⟩ (fun hHeld => ?_)
      clear hK K
      refine Go.Proofs.YtnenmiaeomcdpaaW.PrintLast.norm_ (a' := ?_) ?_ ?_
      rotate_left
      · simp only [Act.put, List.setIfInBounds_toArray, List.set_cons_zero, List.set_cons_succ]
        rfl
      refine Go.Proofs.YtnenmiaeomcdpaaW.PrintLast.one_ (i := 18) (N := some 31) #[true, true, true, true, true, true, true, true, true, true, true, true, true, true, true, true, true, true, true, false, false] rfl rfl (by kernel_rfl) (by decide) (fun K hK => ?_)
      refine Go.Proofs.YtnenmiaeomcdpaaW.PrintLast.call_ 31 #[.agg #[.int .u64 (hiN (mvN x d 0)), .int .u64 (loN (mvN x d 0))], .slice (some ⟨wz16.heap.size, 0, none⟩) 4 4] (by rfl) rfl ?_ ?_
      · go_simp
      refine (all_c (mvN x d 0) [mvN x d s, mvN x d (s + 1), mvN x d (s + 2), mvN x d (s + 3)] (mvN_lt _ _ _ hx) (by intro y hy; simp at hy; rcases hy with rfl | rfl | rfl | rfl <;> exact mvN_lt _ _ _ hx) (by simp) _ _ hC).mono ?_
      rintro e wz18 ⟨rfl, hb⟩
      refine ⟨_, rfl, ?_⟩
      have HR := Aside0.mk (HR.out.below hb)
      clear hb
      refine hK.out _ _ ⟨ctwo0 HR.out.O, ctwo1 HR.out.O, ctwo0 HR.out.N, ctwo1 HR.out.N⟩ (fun hHeld => ?_)
      clear hK K
      refine Go.Proofs.YtnenmiaeomcdpaaW.PrintLast.norm_ (a' := ?_) ?_ ?_
      rotate_left
      · simp only [Act.put, List.setIfInBounds_toArray, List.set_cons_zero, List.set_cons_succ]
        rfl
      refine Go.Proofs.YtnenmiaeomcdpaaW.PrintLast.one_ (i := 19) (N := some 32) #[true, true, true, true, true, true, true, true, true, true, true, true, true, true, true, true, true, true, true, true, false] rfl rfl (by kernel_rfl) (by decide) (fun K hK => ?_)
      refine Go.Proofs.YtnenmiaeomcdpaaW.PrintLast.call_ 14 #[.agg #[.int .u64 (hiN (foursN x d i)), .int .u64 (loN (foursN x d i))], .agg #[.int .u64 (hiN (allN (mvN x d 0) [mvN x d s, mvN x d (s + 1), mvN x d (s + 2), mvN x d (s + 3)])), .int .u64 (loN (allN (mvN x d 0) [mvN x d s, mvN x d (s + 1), mvN x d (s + 2), mvN x d (s + 3)]))]] (by rfl) rfl ?_ ?_
      · go_simp
      refine (or_c (foursN x d i) _ (foursN_lt x d hx i) (allN_lt _ _ (mvN_lt _ _ _ hx)) _).mono ?_
      rintro e wz19 ⟨rfl, hb⟩
      refine ⟨_, rfl, ?_⟩
      have HR := Aside0.mk (HR.out.below hb)
      clear hb
      refine hK.out _ _ ⟨ctwo0 HR.out.O, ctwo1 HR.out.O, ctwo0 HR.out.N, ctwo1 HR.out.N⟩ (fun hHeld => ?_)
      clear hK K
      refine Go.Proofs.YtnenmiaeomcdpaaW.PrintLast.norm_ (a' := ?_) ?_ ?_
      rotate_left
      · simp only [Act.put, List.setIfInBounds_toArray, List.set_cons_zero, List.set_cons_succ]
        rfl
      refine Go.Proofs.YtnenmiaeomcdpaaW.PrintLast.last_ (i := 20) (N := none) #[true, true, true, true, true, true, true, true, true, true, true, true, true, true, true, true, true, true, true, true, true] rfl rfl (by kernel_rfl) (by decide) (fun K hK => ?_)
      obtain ⟨e0, e1, g0, g1⟩ := two_facts HR.out.O
      refine Go.Proofs.YtnenmiaeomcdpaaW.PrintLast.skip_ (w1 := ?_) (by rfl) rfl ?_ ?_
      rotate_left
      · go_simp
        try rfl
      refine hK.out _ _ ?_
      clear hK K
      refine Go.Proofs.YtnenmiaeomcdpaaW.PrintLast.done_ (by kernel_rfl) ?_
      try go_wp2
      go_roundg (gk - 1)
      case measure => omega
      case rel =>
        have hf : foursN x d (i + 1) = foursN x d i ||| allN (mvN x d 0) [mvN x d s, mvN x d (s + 1), mvN x d (s + 2), mvN x d (s + 3)] := by rw [HS.out]; rfl
        have h1 := HR.out.set (m := foursN x d (i + 1)) hl HC.out
        exact ⟨i + 1, by rw [HS.out]; simp; omega, by omega, ⟨by rw [hf] at h1 ⊢; exact h1⟩⟩
    · obtain rfl : i = 4 := by omega
      obtain ⟨e0, e1, g0, g1⟩ := two_facts HR.out.O
      obtain ⟨r0, r1, f0, f1⟩ := two_facts HR.out.R
      go_wp2
      exact bodyPost_ret (v := .agg #[.int .u64 (hiN (foursN x d 4)), .int .u64 (loN (foursN x d 4))]) (by simp [results, Try.results30, go_sem, r0, r1]) rfl ⟨rfl, (HR.out.B.setCell (Nat.le_refl _) _).setCell (Nat.le_refl _) _⟩
end Go.Proofs.Ytnenmiaeomcdpaa.Given
