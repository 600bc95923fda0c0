/-
  What the closure of bits.Fourths answers; conditions: the bounds that it says.
-/
import Derived.Test.YtnenmiaeomcdpaaBitsE
namespace Go.Proofs.Ytnenmiaeomcdpaa.Given
open Go.RowKit Go.Proofs.YtnenmiaeomcdpaaW.PrintWords Go.Proofs.Ytnenmiaeomcdpaa.Base Go.Proofs.Ytnenmiaeomcdpaa.KW Go.Proofs.Ytnenmiaeomcdpaa.KB
set_option linter.unusedVariables false
set_option linter.unusedSimpArgs false

def fourthN (x d : Nat) : Nat := (allN (allN (mvN x d (1)) [mvN x d (2)]) [mvN x d (3)] ||| allN (allN (mvN x d (1)) [mvN x d (2)]) [mvN x d (-1)]) ||| (allN (allN (mvN x d (-1)) [mvN x d (-2)]) [mvN x d (1)] ||| allN (allN (mvN x d (-1)) [mvN x d (-2)]) [mvN x d (-3)])
theorem orlt {a b : Nat} (ha : a < W128) (hb : b < W128) : a ||| b < W128 := Nat.or_lt_two_pow (n := 128) ha hb
theorem fourthN_lt (x d : Nat) (hx : x < W128) : fourthN x d < W128 := by
  unfold fourthN
  exact orlt (orlt (allN_lt _ _ (allN_lt _ _ (mvN_lt _ _ _ hx))) (allN_lt _ _ (allN_lt _ _ (mvN_lt _ _ _ hx)))) (orlt (allN_lt _ _ (allN_lt _ _ (mvN_lt _ _ _ hx))) (allN_lt _ _ (allN_lt _ _ (mvN_lt _ _ _ hx))))
structure FthW (w : World) (b p q x d u v : Nat) (wr : World) : Prop where
  C : Cap wr p q x d
  R : Arr wr w.heap.size [.int .u64 0, .int .u64 0] 26
  U : Arr wr b [.int .u64 (hiN u), .int .u64 (loN u)] 26
  D : Arr wr (b + 1) [.int .u64 (hiN v), .int .u64 (loN v)] 26
  B : Below w.heap.size w wr
theorem FthW.below {w wr w' : World} {b p q x d u v : Nat} (h : FthW w b p q x d u v wr) (hb : Below wr.heap.size wr w') : FthW w b p q x d u v w' :=
  ⟨h.C.below hb, h.R.below hb h.R.lt, h.U.below hb h.U.lt, h.D.below hb h.D.lt, h.B.trans (hb.mono h.B.size)⟩
theorem FthW.start {w w1 : World} {p q x d u v : Nat} (hc : Cap w1 p q x d) (hr : Arr w1 w.heap.size [.int .u64 0, .int .u64 0] 26) (hb : Below w.heap.size w w1) :
    FthW w w1.heap.size p q x d u v ((w1.alloc (.cells #[.int .u64 (hiN u), .int .u64 (loN u)] 26)).alloc (.cells #[.int .u64 (hiN v), .int .u64 (loN v)] 26)) := by
  have B1 := Arr.new w1 [.int .u64 (hiN u), .int .u64 (loN u)] 26
  have B2 := Arr.new (w1.alloc (.cells #[.int .u64 (hiN u), .int .u64 (loN u)] 26)) [.int .u64 (hiN v), .int .u64 (loN v)] 26
  simp only [World.size_alloc] at B2
  exact ⟨(hc.alloc _).alloc _, arr_alloc (arr_alloc hr _) _, arr_alloc B1 _, B2, (hb.alloc hb.size _).alloc (by have := hb.size; simp; omega) _⟩
set_option maxHeartbeats 4000000 in
theorem fourths1_c (x d : Nat) (hx : x < W128) (hd : d ≤ 100) (p q : Nat) (w : World) (hc : Cap w p q x d) :
    Calls Try.prog 36 #[.func (.func 51) #[] #[.pointer (some ⟨p, 0, none⟩), .pointer (some ⟨q, 0, none⟩)]] w fun e w' => e = .returned (.agg #[.int .u64 (hiN (fourthN x d)), .int .u64 (loN (fourthN x d))]) ∧ Below w.heap.size w w' := by
  have HC := Aside0.mk (hc.alloc (.cells #[.int .u64 0, .int .u64 0] 26))
  have HR := Aside0.mk (Arr.new w [.int .u64 0, .int .u64 0] 26)
  have HB := Aside0.mk ((Below.refl _ w).alloc (Nat.le_refl _) (.cells #[.int .u64 0, .int .u64 0] 26))
  clear hc
  go_enter Try.func36, Try.ntmps36
  go_wp2_with fail
  refine (ways1_c x d (1) (by decide) hx hd p q _ HC.out).mono ?_
  rintro e w1 ⟨rfl, hb⟩
  have HC := Aside0.mk (HC.out.below hb)
  have HR := Aside0.mk (HR.out.below hb HR.out.lt)
  have HB := Aside0.mk (HB.out.trans (hb.mono HB.out.size))
  clear hb
  go_wp2_with fail
  refine (ways1_c x d (2) (by decide) hx hd p q _ HC.out).mono ?_
  rintro e w2 ⟨rfl, hb⟩
  have HC := Aside0.mk (HC.out.below hb)
  have HR := Aside0.mk (HR.out.below hb HR.out.lt)
  have HB := Aside0.mk (HB.out.trans (hb.mono HB.out.size))
  clear hb
  go_wp2_with fail
  have hC := C_one (t := 26) (mvN x d (2)) (Arr.new w2 _ _)
  refine (all_c (mvN x d (1)) [mvN x d (2)] (mvN_lt _ _ _ hx) (by intro y hy; simp at hy; subst hy; exact mvN_lt _ _ _ hx) (by simp) _ _ hC).mono ?_
  rintro e w3 ⟨rfl, hb⟩
  have hb := ((Below.refl _ w2).alloc (Nat.le_refl _) (.cells #[.int .u64 (hiN (mvN x d (2))), .int .u64 (loN (mvN x d (2)))] 26)).trans (hb.mono (by simp))
  have HC := Aside0.mk (HC.out.below hb)
  have HR := Aside0.mk (HR.out.below hb HR.out.lt)
  have HB := Aside0.mk (HB.out.trans (hb.mono HB.out.size))
  clear hb hC
  go_wp2_with fail
  refine (ways1_c x d (-1) (by decide) hx hd p q _ HC.out).mono ?_
  rintro e w4 ⟨rfl, hb⟩
  have HC := Aside0.mk (HC.out.below hb)
  have HR := Aside0.mk (HR.out.below hb HR.out.lt)
  have HB := Aside0.mk (HB.out.trans (hb.mono HB.out.size))
  clear hb
  go_wp2_with fail
  refine (ways1_c x d (-2) (by decide) hx hd p q _ HC.out).mono ?_
  rintro e w5 ⟨rfl, hb⟩
  have HC := Aside0.mk (HC.out.below hb)
  have HR := Aside0.mk (HR.out.below hb HR.out.lt)
  have HB := Aside0.mk (HB.out.trans (hb.mono HB.out.size))
  clear hb
  go_wp2_with fail
  have hC := C_one (t := 26) (mvN x d (-2)) (Arr.new w5 _ _)
  refine (all_c (mvN x d (-1)) [mvN x d (-2)] (mvN_lt _ _ _ hx) (by intro y hy; simp at hy; subst hy; exact mvN_lt _ _ _ hx) (by simp) _ _ hC).mono ?_
  rintro e w6 ⟨rfl, hb⟩
  have hb := ((Below.refl _ w5).alloc (Nat.le_refl _) (.cells #[.int .u64 (hiN (mvN x d (-2))), .int .u64 (loN (mvN x d (-2)))] 26)).trans (hb.mono (by simp))
  have HC := Aside0.mk (HC.out.below hb)
  have HR := Aside0.mk (HR.out.below hb HR.out.lt)
  have HB := Aside0.mk (HB.out.trans (hb.mono HB.out.size))
  clear hb hC
  go_wp2_with fail
  have HR := Aside0.mk (FthW.start (u := allN (mvN x d (1)) [mvN x d (2)]) (v := allN (mvN x d (-1)) [mvN x d (-2)]) HC.out HR.out HB.out)
  clear HC HB
  obtain ⟨b, hb⟩ : ∃ b, b = w6.heap.size := ⟨_, rfl⟩
  rw [← hb] at HR ⊢
  clear hb
  refine Go.Proofs.YtnenmiaeomcdpaaW.PrintLast.start_ (n := 24) (S := (fun w' => w'.cell? ⟨b, 0, none⟩ = some (.int .u64 (hiN (allN (mvN x d (1)) [mvN x d (2)]))) ∧ w'.cell? ⟨b, 1, none⟩ = some (.int .u64 (loN (allN (mvN x d (1)) [mvN x d (2)]))) ∧ w'.cell? ⟨b + 1, 0, none⟩ = some (.int .u64 (hiN (allN (mvN x d (-1)) [mvN x d (-2)]))) ∧ w'.cell? ⟨b + 1, 1, none⟩ = some (.int .u64 (loN (allN (mvN x d (-1)) [mvN x d (-2)]))))) (ds := [23]) #[false, false, false, false, false, false, false, false, false, false, false, false, false, false, false, false, false, false, false, false, false, false, false, false] (by kernel_rfl) rfl rfl ⟨ctwo0 HR.out.U, ctwo1 HR.out.U, ctwo0 HR.out.D, ctwo1 HR.out.D⟩ (fun hHeld => ?_)
  refine Go.Proofs.YtnenmiaeomcdpaaW.PrintLast.pure_ (i := 1) (N := some 18) (v := ?_) (a' := ?_) #[false, true, false, false, false, false, false, false, false, false, false, false, false, false, false, false, false, false, false, false, false, false, false, false] rfl rfl (by kernel_rfl) (fun _ _ _ h => h) (Or.inl ⟨by rfl, ?_⟩) ?_ ?_
  rotate_left
  · intro w'
    go_simp
    try with_reducible rfl
  rotate_left
  · simp only [Act.put, List.setIfInBounds_toArray, List.set_cons_zero, List.set_cons_succ]
    rfl
  refine Go.Proofs.YtnenmiaeomcdpaaW.PrintLast.pure_ (i := 6) (N := some 23) (v := ?_) (a' := ?_) #[false, true, false, false, false, false, true, false, false, false, false, false, false, false, false, false, false, false, false, false, false, false, false, false] rfl rfl (by kernel_rfl) (fun _ _ _ h => h) (Or.inl ⟨by rfl, ?_⟩) ?_ ?_
  rotate_left
  · intro w'
    go_simp
    try with_reducible rfl
  rotate_left
  · simp only [Act.put, List.setIfInBounds_toArray, List.set_cons_zero, List.set_cons_succ]
    rfl
  refine Go.Proofs.YtnenmiaeomcdpaaW.PrintLast.pure_ (i := 12) (N := some 29) (v := ?_) (a' := ?_) #[false, true, false, false, false, false, true, false, false, false, false, false, true, false, false, false, false, false, false, false, false, false, false, false] rfl rfl (by kernel_rfl) (fun _ _ _ h => h) (Or.inl ⟨by rfl, ?_⟩) ?_ ?_
  rotate_left
  · intro w'
    go_simp
    try with_reducible rfl
  rotate_left
  · simp only [Act.put, List.setIfInBounds_toArray, List.set_cons_zero, List.set_cons_succ]
    rfl
  refine Go.Proofs.YtnenmiaeomcdpaaW.PrintLast.pure_ (i := 17) (N := some 34) (v := ?_) (a' := ?_) #[false, true, false, false, false, false, true, false, false, false, false, false, true, false, false, false, false, true, false, false, false, false, false, false] rfl rfl (by kernel_rfl) (fun _ _ _ h => h) (Or.inl ⟨by rfl, ?_⟩) ?_ ?_
  rotate_left
  · intro w'
    go_simp
    try with_reducible rfl
  rotate_left
  · simp only [Act.put, List.setIfInBounds_toArray, List.set_cons_zero, List.set_cons_succ]
    rfl
  refine Go.Proofs.YtnenmiaeomcdpaaW.PrintLast.take_ (i := 0) (N := some 17) (v := ?_) (a' := ?_) #[true, true, false, false, false, false, true, false, false, false, false, false, true, false, false, false, false, true, false, false, false, false, false, false] rfl rfl (by kernel_rfl) (fun _ _ _ h => h) (Or.inl ⟨by rfl, ?_⟩) hHeld ?_ ?_
  rotate_left
  · rintro w' ⟨s0, s1, s2, s3⟩
    go_simp
    try with_reducible rfl
  rotate_left
  · simp only [Act.put, List.setIfInBounds_toArray, List.set_cons_zero, List.set_cons_succ]
    rfl
  refine Go.Proofs.YtnenmiaeomcdpaaW.PrintLast.take_ (i := 5) (N := some 22) (v := ?_) (a' := ?_) #[true, true, false, false, false, true, true, false, false, false, false, false, true, false, false, false, false, true, false, false, false, false, false, false] rfl rfl (by kernel_rfl) (fun _ _ _ h => h) (Or.inl ⟨by rfl, ?_⟩) hHeld ?_ ?_
  rotate_left
  · rintro w' ⟨s0, s1, s2, s3⟩
    go_simp
    try with_reducible rfl
  rotate_left
  · simp only [Act.put, List.setIfInBounds_toArray, List.set_cons_zero, List.set_cons_succ]
    rfl
  refine Go.Proofs.YtnenmiaeomcdpaaW.PrintLast.take_ (i := 11) (N := some 28) (v := ?_) (a' := ?_) #[true, true, false, false, false, true, true, false, false, false, false, true, true, false, false, false, false, true, false, false, false, false, false, false] rfl rfl (by kernel_rfl) (fun _ _ _ h => h) (Or.inl ⟨by rfl, ?_⟩) hHeld ?_ ?_
  rotate_left
  · rintro w' ⟨s0, s1, s2, s3⟩
    go_simp
    try with_reducible rfl
  rotate_left
  · simp only [Act.put, List.setIfInBounds_toArray, List.set_cons_zero, List.set_cons_succ]
    rfl
  refine Go.Proofs.YtnenmiaeomcdpaaW.PrintLast.take_ (i := 16) (N := some 33) (v := ?_) (a' := ?_) #[true, true, false, false, false, true, true, false, false, false, false, true, true, false, false, false, true, true, false, false, false, false, false, false] rfl rfl (by kernel_rfl) (fun _ _ _ h => h) (Or.inl ⟨by rfl, ?_⟩) hHeld ?_ ?_
  rotate_left
  · rintro w' ⟨s0, s1, s2, s3⟩
    go_simp
    try with_reducible rfl
  rotate_left
  · simp only [Act.put, List.setIfInBounds_toArray, List.set_cons_zero, List.set_cons_succ]
    rfl
  have HR := Aside0.mk (HR.out.below (below_drew (Below.refl _ _)))
  refine Go.Proofs.YtnenmiaeomcdpaaW.PrintLast.one_ (i := 2) (N := some 19) #[true, true, true, false, false, true, true, false, false, false, false, true, true, false, false, false, true, true, false, false, false, false, false, false] rfl rfl (by kernel_rfl) (by decide) (fun K hK => ?_)
  refine Go.Proofs.YtnenmiaeomcdpaaW.PrintLast.call_ 51 #[.int .i64 (3), .pointer (some ⟨p, 0, none⟩), .pointer (some ⟨q, 0, none⟩)] (by rfl) rfl ?_ ?_
  · go_simp
  refine (ways1_c x d (3) (by decide) hx hd p q _ HR.out.C).mono ?_
  rintro e wz2 ⟨rfl, hb⟩
  refine ⟨_, rfl, ?_⟩
  have HR := Aside0.mk (HR.out.below hb)
  clear hb
  refine hK.out _ _ ⟨ctwo0 HR.out.U, ctwo1 HR.out.U, ctwo0 HR.out.D, ctwo1 HR.out.D⟩ (fun hHeld => ?_)
  clear hK K
  refine Go.Proofs.YtnenmiaeomcdpaaW.PrintLast.norm_ (a' := ?_) ?_ ?_
  rotate_left
  · simp only [Act.put, List.setIfInBounds_toArray, List.set_cons_zero, List.set_cons_succ]
    rfl
  refine Go.Proofs.YtnenmiaeomcdpaaW.PrintLast.one_ (i := 3) (N := some 20) #[true, true, true, true, false, true, true, false, false, false, false, true, true, false, false, false, true, true, false, false, false, false, false, false] rfl rfl (by kernel_rfl) (by decide) (fun K hK => ?_)
  refine Go.Proofs.YtnenmiaeomcdpaaW.PrintLast.value_ (w1 := wz2.alloc (.cells #[.int .u64 (hiN (mvN x d (3))), .int .u64 (loN (mvN x d (3)))] 26)) (v := .slice (some ⟨wz2.heap.size, 0, none⟩) 1 1) (by rfl) rfl ?_ ?_
  · go_simp
  have hC := C_one (t := 26) (mvN x d (3)) (Arr.new wz2 _ _)
  have HR := Aside0.mk (HR.out.below ((Below.refl _ wz2).alloc (Nat.le_refl _) (.cells #[.int .u64 (hiN (mvN x d (3))), .int .u64 (loN (mvN x d (3)))] 26)))
  refine hK.out _ _ ⟨ctwo0 HR.out.U, ctwo1 HR.out.U, ctwo0 HR.out.D, ctwo1 HR.out.D⟩ (fun hHeld => ?_)
  clear hK K
  refine Go.Proofs.YtnenmiaeomcdpaaW.PrintLast.norm_ (a' := ?_) ?_ ?_
  rotate_left
  · simp only [Act.put, List.setIfInBounds_toArray, List.set_cons_zero, List.set_cons_succ]
    rfl
  refine Go.Proofs.YtnenmiaeomcdpaaW.PrintLast.one_ (i := 4) (N := some 21) #[true, true, true, true, true, true, true, false, false, false, false, true, true, false, false, false, true, true, false, false, false, false, false, false] rfl rfl (by kernel_rfl) (by decide) (fun K hK => ?_)
  refine Go.Proofs.YtnenmiaeomcdpaaW.PrintLast.call_ 31 #[.agg #[.int .u64 (hiN (allN (mvN x d (1)) [mvN x d (2)])), .int .u64 (loN (allN (mvN x d (1)) [mvN x d (2)]))], .slice (some ⟨wz2.heap.size, 0, none⟩) 1 1] (by rfl) rfl ?_ ?_
  · go_simp
  refine (all_c (allN (mvN x d (1)) [mvN x d (2)]) [mvN x d (3)] (allN_lt _ _ (mvN_lt _ _ _ hx)) (by intro y hy; simp at hy; subst hy; exact mvN_lt _ _ _ hx) (by simp) _ _ hC).mono ?_
  rintro e wz4 ⟨rfl, hb⟩
  refine ⟨_, rfl, ?_⟩
  have HR := Aside0.mk (HR.out.below hb)
  clear hb hC
  refine hK.out _ _ ⟨ctwo0 HR.out.U, ctwo1 HR.out.U, ctwo0 HR.out.D, ctwo1 HR.out.D⟩ (fun hHeld => ?_)
  clear hK K
  refine Go.Proofs.YtnenmiaeomcdpaaW.PrintLast.norm_ (a' := ?_) ?_ ?_
  rotate_left
  · simp only [Act.put, List.setIfInBounds_toArray, List.set_cons_zero, List.set_cons_succ]
    rfl
  refine Go.Proofs.YtnenmiaeomcdpaaW.PrintLast.one_ (i := 7) (N := some 24) #[true, true, true, true, true, true, true, true, false, false, false, true, true, false, false, false, true, true, false, false, false, false, false, false] rfl rfl (by kernel_rfl) (by decide) (fun K hK => ?_)
  refine Go.Proofs.YtnenmiaeomcdpaaW.PrintLast.call_ 51 #[.int .i64 (-1), .pointer (some ⟨p, 0, none⟩), .pointer (some ⟨q, 0, none⟩)] (by rfl) rfl ?_ ?_
  · go_simp
  refine (ways1_c x d (-1) (by decide) hx hd p q _ HR.out.C).mono ?_
  rintro e wz7 ⟨rfl, hb⟩
  refine ⟨_, rfl, ?_⟩
  have HR := Aside0.mk (HR.out.below hb)
  clear hb
  refine hK.out _ _ ⟨ctwo0 HR.out.U, ctwo1 HR.out.U, ctwo0 HR.out.D, ctwo1 HR.out.D⟩ (fun hHeld => ?_)
  clear hK K
  refine Go.Proofs.YtnenmiaeomcdpaaW.PrintLast.norm_ (a' := ?_) ?_ ?_
  rotate_left
  · simp only [Act.put, List.setIfInBounds_toArray, List.set_cons_zero, List.set_cons_succ]
    rfl
  refine Go.Proofs.YtnenmiaeomcdpaaW.PrintLast.one_ (i := 8) (N := some 25) #[true, true, true, true, true, true, true, true, true, false, false, true, true, false, false, false, true, true, false, false, false, false, false, false] rfl rfl (by kernel_rfl) (by decide) (fun K hK => ?_)
  refine Go.Proofs.YtnenmiaeomcdpaaW.PrintLast.value_ (w1 := wz7.alloc (.cells #[.int .u64 (hiN (mvN x d (-1))), .int .u64 (loN (mvN x d (-1)))] 26)) (v := .slice (some ⟨wz7.heap.size, 0, none⟩) 1 1) (by rfl) rfl ?_ ?_
  · go_simp
  have hC := C_one (t := 26) (mvN x d (-1)) (Arr.new wz7 _ _)
  have HR := Aside0.mk (HR.out.below ((Below.refl _ wz7).alloc (Nat.le_refl _) (.cells #[.int .u64 (hiN (mvN x d (-1))), .int .u64 (loN (mvN x d (-1)))] 26)))
  refine hK.out _ _ ⟨ctwo0 HR.out.U, ctwo1 HR.out.U, ctwo0 HR.out.D, ctwo1 HR.out.D⟩ (fun hHeld => ?_)
  clear hK K
  refine Go.Proofs.YtnenmiaeomcdpaaW.PrintLast.norm_ (a' := ?_) ?_ ?_
  rotate_left
  · simp only [Act.put, List.setIfInBounds_toArray, List.set_cons_zero, List.set_cons_succ]
    rfl
  refine Go.Proofs.YtnenmiaeomcdpaaW.PrintLast.one_ (i := 9) (N := some 26) #[true, true, true, true, true, true, true, true, true, true, false, true, true, false, false, false, true, true, false, false, false, false, false, false] rfl rfl (by kernel_rfl) (by decide) (fun K hK => ?_)
  refine Go.Proofs.YtnenmiaeomcdpaaW.PrintLast.call_ 31 #[.agg #[.int .u64 (hiN (allN (mvN x d (1)) [mvN x d (2)])), .int .u64 (loN (allN (mvN x d (1)) [mvN x d (2)]))], .slice (some ⟨wz7.heap.size, 0, none⟩) 1 1] (by rfl) rfl ?_ ?_
  · go_simp
  refine (all_c (allN (mvN x d (1)) [mvN x d (2)]) [mvN x d (-1)] (allN_lt _ _ (mvN_lt _ _ _ hx)) (by intro y hy; simp at hy; subst hy; exact mvN_lt _ _ _ hx) (by simp) _ _ hC).mono ?_
  rintro e wz9 ⟨rfl, hb⟩
  refine ⟨_, rfl, ?_⟩
  have HR := Aside0.mk (HR.out.below hb)
  clear hb hC
  refine hK.out _ _ ⟨ctwo0 HR.out.U, ctwo1 HR.out.U, ctwo0 HR.out.D, ctwo1 HR.out.D⟩ (fun hHeld => ?_)
  clear hK K
  refine Go.Proofs.YtnenmiaeomcdpaaW.PrintLast.norm_ (a' := ?_) ?_ ?_
  rotate_left
  · simp only [Act.put, List.setIfInBounds_toArray, List.set_cons_zero, List.set_cons_succ]
    rfl
  refine Go.Proofs.YtnenmiaeomcdpaaW.PrintLast.one_ (i := 10) (N := some 27) #[true, true, true, true, true, true, true, true, true, true, true, true, true, false, false, false, true, true, false, false, false, false, false, false] rfl rfl (by kernel_rfl) (by decide) (fun K hK => ?_)
  refine Go.Proofs.YtnenmiaeomcdpaaW.PrintLast.call_ 14 #[.agg #[.int .u64 (hiN (allN (allN (mvN x d (1)) [mvN x d (2)]) [mvN x d (3)])), .int .u64 (loN (allN (allN (mvN x d (1)) [mvN x d (2)]) [mvN x d (3)]))], .agg #[.int .u64 (hiN (allN (allN (mvN x d (1)) [mvN x d (2)]) [mvN x d (-1)])), .int .u64 (loN (allN (allN (mvN x d (1)) [mvN x d (2)]) [mvN x d (-1)]))]] (by rfl) rfl ?_ ?_
  · go_simp
  refine (or_c (allN (allN (mvN x d (1)) [mvN x d (2)]) [mvN x d (3)]) (allN (allN (mvN x d (1)) [mvN x d (2)]) [mvN x d (-1)]) (allN_lt _ _ (allN_lt _ _ (mvN_lt _ _ _ hx))) (allN_lt _ _ (allN_lt _ _ (mvN_lt _ _ _ hx))) _).mono ?_
  rintro e wz10 ⟨rfl, hb⟩
  refine ⟨_, rfl, ?_⟩
  have HR := Aside0.mk (HR.out.below hb)
  clear hb
  refine hK.out _ _ ⟨ctwo0 HR.out.U, ctwo1 HR.out.U, ctwo0 HR.out.D, ctwo1 HR.out.D⟩ (fun hHeld => ?_)
  clear hK K
  refine Go.Proofs.YtnenmiaeomcdpaaW.PrintLast.norm_ (a' := ?_) ?_ ?_
  rotate_left
  · simp only [Act.put, List.setIfInBounds_toArray, List.set_cons_zero, List.set_cons_succ]
    rfl
  refine Go.Proofs.YtnenmiaeomcdpaaW.PrintLast.one_ (i := 13) (N := some 30) #[true, true, true, true, true, true, true, true, true, true, true, true, true, true, false, false, true, true, false, false, false, false, false, false] rfl rfl (by kernel_rfl) (by decide) (fun K hK => ?_)
  refine Go.Proofs.YtnenmiaeomcdpaaW.PrintLast.call_ 51 #[.int .i64 (1), .pointer (some ⟨p, 0, none⟩), .pointer (some ⟨q, 0, none⟩)] (by rfl) rfl ?_ ?_
  · go_simp
  refine (ways1_c x d (1) (by decide) hx hd p q _ HR.out.C).mono ?_
  rintro e wz13 ⟨rfl, hb⟩
  refine ⟨_, rfl, ?_⟩
  have HR := Aside0.mk (HR.out.below hb)
  clear hb
  refine hK.out _ _ ⟨ctwo0 HR.out.U, ctwo1 HR.out.U, ctwo0 HR.out.D, ctwo1 HR.out.D⟩ (fun hHeld => ?_)
  clear hK K
  refine Go.Proofs.YtnenmiaeomcdpaaW.PrintLast.norm_ (a' := ?_) ?_ ?_
  rotate_left
  · simp only [Act.put, List.setIfInBounds_toArray, List.set_cons_zero, List.set_cons_succ]
    rfl
  refine Go.Proofs.YtnenmiaeomcdpaaW.PrintLast.one_ (i := 14) (N := some 31) #[true, true, true, true, true, true, true, true, true, true, true, true, true, true, true, false, true, true, false, false, false, false, false, false] rfl rfl (by kernel_rfl) (by decide) (fun K hK => ?_)
  refine Go.Proofs.YtnenmiaeomcdpaaW.PrintLast.value_ (w1 := wz13.alloc (.cells #[.int .u64 (hiN (mvN x d (1))), .int .u64 (loN (mvN x d (1)))] 26)) (v := .slice (some ⟨wz13.heap.size, 0, none⟩) 1 1) (by rfl) rfl ?_ ?_
  · go_simp
  have hC := C_one (t := 26) (mvN x d (1)) (Arr.new wz13 _ _)
  have HR := Aside0.mk (HR.out.below ((Below.refl _ wz13).alloc (Nat.le_refl _) (.cells #[.int .u64 (hiN (mvN x d (1))), .int .u64 (loN (mvN x d (1)))] 26)))
  refine hK.out _ _ ⟨ctwo0 HR.out.U, ctwo1 HR.out.U, ctwo0 HR.out.D, ctwo1 HR.out.D⟩ (fun hHeld => ?_)
  clear hK K
  refine Go.Proofs.YtnenmiaeomcdpaaW.PrintLast.norm_ (a' := ?_) ?_ ?_
  rotate_left
  · simp only [Act.put, List.setIfInBounds_toArray, List.set_cons_zero, List.set_cons_succ]
    rfl
  refine Go.Proofs.YtnenmiaeomcdpaaW.PrintLast.one_ (i := 15) (N := some 32) #[true, true, true, true, true, true, true, true, true, true, true, true, true, true, true, true, true, true, false, false, false, false, false, false] rfl rfl (by kernel_rfl) (by decide) (fun K hK => ?_)
  refine Go.Proofs.YtnenmiaeomcdpaaW.PrintLast.call_ 31 #[.agg #[.int .u64 (hiN (allN (mvN x d (-1)) [mvN x d (-2)])), .int .u64 (loN (allN (mvN x d (-1)) [mvN x d (-2)]))], .slice (some ⟨wz13.heap.size, 0, none⟩) 1 1] (by rfl) rfl ?_ ?_
  · go_simp
  refine (all_c (allN (mvN x d (-1)) [mvN x d (-2)]) [mvN x d (1)] (allN_lt _ _ (mvN_lt _ _ _ hx)) (by intro y hy; simp at hy; subst hy; exact mvN_lt _ _ _ hx) (by simp) _ _ hC).mono ?_
  rintro e wz15 ⟨rfl, hb⟩
  refine ⟨_, rfl, ?_⟩
  have HR := Aside0.mk (HR.out.below hb)
  clear hb hC
  refine hK.out _ _ ⟨ctwo0 HR.out.U, ctwo1 HR.out.U, ctwo0 HR.out.D, ctwo1 HR.out.D⟩ (fun hHeld => ?_)
  clear hK K
  refine Go.Proofs.YtnenmiaeomcdpaaW.PrintLast.norm_ (a' := ?_) ?_ ?_
  rotate_left
  · simp only [Act.put, List.setIfInBounds_toArray, List.set_cons_zero, List.set_cons_succ]
    rfl
  refine Go.Proofs.YtnenmiaeomcdpaaW.PrintLast.one_ (i := 18) (N := some 35) #[true, true, true, true, true, true, true, true, true, true, true, true, true, true, true, true, true, true, true, false, false, false, false, false] rfl rfl (by kernel_rfl) (by decide) (fun K hK => ?_)
  refine Go.Proofs.YtnenmiaeomcdpaaW.PrintLast.call_ 51 #[.int .i64 (-3), .pointer (some ⟨p, 0, none⟩), .pointer (some ⟨q, 0, none⟩)] (by rfl) rfl ?_ ?_
  · go_simp
  refine (ways1_c x d (-3) (by decide) hx hd p q _ HR.out.C).mono ?_
  rintro e wz18 ⟨rfl, hb⟩
  refine ⟨_, rfl, ?_⟩
  have HR := Aside0.mk (HR.out.below hb)
  clear hb
  refine hK.out _ _ ⟨ctwo0 HR.out.U, ctwo1 HR.out.U, ctwo0 HR.out.D, ctwo1 HR.out.D⟩ (fun hHeld => ?_)
  clear hK K
  refine Go.Proofs.YtnenmiaeomcdpaaW.PrintLast.norm_ (a' := ?_) ?_ ?_
  rotate_left
  · simp only [Act.put, List.setIfInBounds_toArray, List.set_cons_zero, List.set_cons_succ]
    rfl
  refine Go.Proofs.YtnenmiaeomcdpaaW.PrintLast.one_ (i := 19) (N := some 36) #[true, true, true, true, true, true, true, true, true, true, true, true, true, true, true, true, true, true, true, true, false, false, false, false] rfl rfl (by kernel_rfl) (by decide) (fun K hK => ?_)
  refine Go.Proofs.YtnenmiaeomcdpaaW.PrintLast.value_ (w1 := wz18.alloc (.cells #[.int .u64 (hiN (mvN x d (-3))), .int .u64 (loN (mvN x d (-3)))] 26)) (v := .slice (some ⟨wz18.heap.size, 0, none⟩) 1 1) (by rfl) rfl ?_ ?_
  · go_simp
  have hC := C_one (t := 26) (mvN x d (-3)) (Arr.new wz18 _ _)
  have HR := Aside0.mk (HR.out.below ((Below.refl _ wz18).alloc (Nat.le_refl _) (.cells #[.int .u64 (hiN (mvN x d (-3))), .int .u64 (loN (mvN x d (-3)))] 26)))
  refine hK.out _ _ ⟨ctwo0 HR.out.U, ctwo1 HR.out.U, ctwo0 HR.out.D, ctwo1 HR.out.D⟩ (fun hHeld => ?_)
  clear hK K
  refine Go.Proofs.YtnenmiaeomcdpaaW.PrintLast.norm_ (a' := ?_) ?_ ?_
  rotate_left
  · simp only [Act.put, List.setIfInBounds_toArray, List.set_cons_zero, List.set_cons_succ]
    rfl
  refine Go.Proofs.YtnenmiaeomcdpaaW.PrintLast.one_ (i := 20) (N := some 37) #[true, true, true, true, true, true, true, true, true, true, true, true, true, true, true, true, true, true, true, true, true, false, false, false] rfl rfl (by kernel_rfl) (by decide) (fun K hK => ?_)
  refine Go.Proofs.YtnenmiaeomcdpaaW.PrintLast.call_ 31 #[.agg #[.int .u64 (hiN (allN (mvN x d (-1)) [mvN x d (-2)])), .int .u64 (loN (allN (mvN x d (-1)) [mvN x d (-2)]))], .slice (some ⟨wz18.heap.size, 0, none⟩) 1 1] (by rfl) rfl ?_ ?_
  · go_simp
  refine (all_c (allN (mvN x d (-1)) [mvN x d (-2)]) [mvN x d (-3)] (allN_lt _ _ (mvN_lt _ _ _ hx)) (by intro y hy; simp at hy; subst hy; exact mvN_lt _ _ _ hx) (by simp) _ _ hC).mono ?_
  rintro e wz20 ⟨rfl, hb⟩
  refine ⟨_, rfl, ?_⟩
  have HR := Aside0.mk (HR.out.below hb)
  clear hb hC
  refine hK.out _ _ ⟨ctwo0 HR.out.U, ctwo1 HR.out.U, ctwo0 HR.out.D, ctwo1 HR.out.D⟩ (fun hHeld => ?_)
  clear hK K
  refine Go.Proofs.YtnenmiaeomcdpaaW.PrintLast.norm_ (a' := ?_) ?_ ?_
  rotate_left
  · simp only [Act.put, List.setIfInBounds_toArray, List.set_cons_zero, List.set_cons_succ]
    rfl
  refine Go.Proofs.YtnenmiaeomcdpaaW.PrintLast.one_ (i := 21) (N := some 38) #[true, true, true, true, true, true, true, true, true, true, true, true, true, true, true, true, true, true, true, true, true, true, false, false] rfl rfl (by kernel_rfl) (by decide) (fun K hK => ?_)
  refine Go.Proofs.YtnenmiaeomcdpaaW.PrintLast.call_ 14 #[.agg #[.int .u64 (hiN (allN (allN (mvN x d (-1)) [mvN x d (-2)]) [mvN x d (1)])), .int .u64 (loN (allN (allN (mvN x d (-1)) [mvN x d (-2)]) [mvN x d (1)]))], .agg #[.int .u64 (hiN (allN (allN (mvN x d (-1)) [mvN x d (-2)]) [mvN x d (-3)])), .int .u64 (loN (allN (allN (mvN x d (-1)) [mvN x d (-2)]) [mvN x d (-3)]))]] (by rfl) rfl ?_ ?_
  · go_simp
  refine (or_c (allN (allN (mvN x d (-1)) [mvN x d (-2)]) [mvN x d (1)]) (allN (allN (mvN x d (-1)) [mvN x d (-2)]) [mvN x d (-3)]) (allN_lt _ _ (allN_lt _ _ (mvN_lt _ _ _ hx))) (allN_lt _ _ (allN_lt _ _ (mvN_lt _ _ _ hx))) _).mono ?_
  rintro e wz21 ⟨rfl, hb⟩
  refine ⟨_, rfl, ?_⟩
  have HR := Aside0.mk (HR.out.below hb)
  clear hb
  refine hK.out _ _ ⟨ctwo0 HR.out.U, ctwo1 HR.out.U, ctwo0 HR.out.D, ctwo1 HR.out.D⟩ (fun hHeld => ?_)
  clear hK K
  refine Go.Proofs.YtnenmiaeomcdpaaW.PrintLast.norm_ (a' := ?_) ?_ ?_
  rotate_left
  · simp only [Act.put, List.setIfInBounds_toArray, List.set_cons_zero, List.set_cons_succ]
    rfl
  refine Go.Proofs.YtnenmiaeomcdpaaW.PrintLast.one_ (i := 22) (N := some 39) #[true, true, true, true, true, true, true, true, true, true, true, true, true, true, true, true, true, true, true, true, true, true, true, false] rfl rfl (by kernel_rfl) (by decide) (fun K hK => ?_)
  refine Go.Proofs.YtnenmiaeomcdpaaW.PrintLast.call_ 14 #[.agg #[.int .u64 (hiN (allN (allN (mvN x d (1)) [mvN x d (2)]) [mvN x d (3)] ||| allN (allN (mvN x d (1)) [mvN x d (2)]) [mvN x d (-1)])), .int .u64 (loN (allN (allN (mvN x d (1)) [mvN x d (2)]) [mvN x d (3)] ||| allN (allN (mvN x d (1)) [mvN x d (2)]) [mvN x d (-1)]))], .agg #[.int .u64 (hiN (allN (allN (mvN x d (-1)) [mvN x d (-2)]) [mvN x d (1)] ||| allN (allN (mvN x d (-1)) [mvN x d (-2)]) [mvN x d (-3)])), .int .u64 (loN (allN (allN (mvN x d (-1)) [mvN x d (-2)]) [mvN x d (1)] ||| allN (allN (mvN x d (-1)) [mvN x d (-2)]) [mvN x d (-3)]))]] (by rfl) rfl ?_ ?_
  · go_simp
  refine (or_c (allN (allN (mvN x d (1)) [mvN x d (2)]) [mvN x d (3)] ||| allN (allN (mvN x d (1)) [mvN x d (2)]) [mvN x d (-1)]) (allN (allN (mvN x d (-1)) [mvN x d (-2)]) [mvN x d (1)] ||| allN (allN (mvN x d (-1)) [mvN x d (-2)]) [mvN x d (-3)]) (orlt (allN_lt _ _ (allN_lt _ _ (mvN_lt _ _ _ hx))) (allN_lt _ _ (allN_lt _ _ (mvN_lt _ _ _ hx)))) (orlt (allN_lt _ _ (allN_lt _ _ (mvN_lt _ _ _ hx))) (allN_lt _ _ (allN_lt _ _ (mvN_lt _ _ _ hx)))) _).mono ?_
  rintro e wz22 ⟨rfl, hb⟩
  refine ⟨_, rfl, ?_⟩
  have HR := Aside0.mk (HR.out.below hb)
  clear hb
  refine hK.out _ _ ⟨ctwo0 HR.out.U, ctwo1 HR.out.U, ctwo0 HR.out.D, ctwo1 HR.out.D⟩ (fun hHeld => ?_)
  clear hK K
  refine Go.Proofs.YtnenmiaeomcdpaaW.PrintLast.norm_ (a' := ?_) ?_ ?_
  rotate_left
  · simp only [Act.put, List.setIfInBounds_toArray, List.set_cons_zero, List.set_cons_succ]
    rfl
  refine Go.Proofs.YtnenmiaeomcdpaaW.PrintLast.last_ (i := 23) (N := none) #[true, true, true, true, true, true, true, true, true, true, true, true, true, true, true, true, true, true, true, true, true, true, true, true] rfl rfl (by kernel_rfl) (by decide) (fun K hK => ?_)
  obtain ⟨e0, e1, g0, g1⟩ := two_facts HR.out.R
  refine Go.Proofs.YtnenmiaeomcdpaaW.PrintLast.skip_ (w1 := ?_) (by rfl) rfl ?_ ?_
  rotate_left
  · go_simp
    try rfl
  refine hK.out _ _ ?_
  clear hK K
  refine Go.Proofs.YtnenmiaeomcdpaaW.PrintLast.done_ (by kernel_rfl) ?_
  have HB := HR.out.B
  go_wp2
  exact bodyPost_ret (v := .agg #[.int .u64 (hiN (fourthN x d)), .int .u64 (loN (fourthN x d))]) (by simp [results, Try.results36, go_sem, e0, e1, fourthN]) rfl ⟨rfl, (HB.setCell (Nat.le_refl _) _).setCell (Nat.le_refl _) _⟩
end Go.Proofs.Ytnenmiaeomcdpaa.Given
