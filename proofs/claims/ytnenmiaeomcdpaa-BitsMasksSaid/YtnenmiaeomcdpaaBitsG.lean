/-
  What bits.ways answers; conditions: what the closure that it is handed answers.
-/
import Derived.Test.YtnenmiaeomcdpaaBitsF
namespace Go.Proofs.Ytnenmiaeomcdpaa.Given
open Go.RowKit Go.Proofs.YtnenmiaeomcdpaaW.PrintWords Go.Proofs.Ytnenmiaeomcdpaa.Base Go.Proofs.Ytnenmiaeomcdpaa.KW Go.Proofs.Ytnenmiaeomcdpaa.KB
set_option linter.unusedVariables false
set_option linter.unusedSimpArgs false

def mayB (a b : Int) : Bool := decide (4 ≤ a ∧ a ≤ 8 ∧ 4 ≤ b ∧ b ≤ 8)
theorem bmay_f (a b : Int) : board_May.f a b = some (mayB a b) := by
  unfold board_May.f board_side.f mayB
  by_cases h1 : a ≥ 4 <;> by_cases h2 : a ≤ 8 <;> by_cases h3 : b ≥ 4 <;> by_cases h4 : b ≤ 8 <;> simp [h1, h2, h3, h4] <;> omega
def dirN (b : Nat) : Nat → Nat
  | 0 => 1
  | 1 => b
  | 2 => b + 1
  | _ => b + 2
def waysN (F : Nat → Nat) (b : Nat) : Nat → Nat
  | 0 => 0
  | i + 1 => waysN F b i ||| F (dirN b i)
theorem waysN_lt (F : Nat → Nat) (b : Nat) (hb : b ≤ 8) (hF : ∀ d ≤ 100, F d < W128) : ∀ i, waysN F b i < W128
  | 0 => by show 0 < W128; decide
  | i + 1 => orlt (waysN_lt F b hb hF i) (hF _ (by unfold dirN; split <;> omega))
structure WaysW (w : World) (a b x o : Nat) (wr : World) : Prop where
  P : Arr wr w.heap.size [.int .i64 (a : Int), .int .i64 (b : Int)] 23
  X : Arr wr (w.heap.size + 1) [.int .u64 (hiN x), .int .u64 (loN x)] 26
  R : Arr wr (w.heap.size + 1 + 1) [.int .u64 0, .int .u64 0] 26
  O : Arr wr (w.heap.size + 1 + 1 + 1) [.int .u64 (hiN o), .int .u64 (loN o)] 26
  B : Below w.heap.size w wr
theorem WaysW.below {w wr w' : World} {a b x o : Nat} (h : WaysW w a b x o wr) (hb : Below wr.heap.size wr w') : WaysW w a b x o w' :=
  ⟨h.P.below hb h.P.lt, h.X.below hb h.X.lt, h.R.below hb h.R.lt, h.O.below hb h.O.lt, h.B.trans (hb.mono h.B.size)⟩
theorem WaysW.start (w : World) (a b x : Nat) :
    WaysW w a b x 0 ((((w.alloc (.cells #[.int .i64 (a : Int), .int .i64 (b : Int)] 23)).alloc (.cells #[.int .u64 (hiN x), .int .u64 (loN x)] 26)).alloc (.cells #[.int .u64 0, .int .u64 0] 26)).alloc (.cells #[.int .u64 0, .int .u64 0] 26)) := by
  obtain ⟨A0, A1, A2, AB⟩ := three_new w [.int .i64 (a : Int), .int .i64 (b : Int)] [.int .u64 (hiN x), .int .u64 (loN x)] [.int .u64 0, .int .u64 0] 23 26 26
  have B2 := Arr.new (((w.alloc (.cells #[.int .i64 (a : Int), .int .i64 (b : Int)] 23)).alloc (.cells #[.int .u64 (hiN x), .int .u64 (loN x)] 26)).alloc (.cells #[.int .u64 0, .int .u64 0] 26)) [.int .u64 0, .int .u64 0] 26
  simp only [World.size_alloc] at B2
  have h0 : hiN 0 = 0 ∧ loN 0 = 0 := by decide
  exact ⟨arr_alloc A0 _, arr_alloc A1 _, arr_alloc A2 _, by rw [h0.1, h0.2]; exact B2, AB.alloc AB.size _⟩
theorem WaysW.setX {w wr : World} {a b x o : Nat} (h : WaysW w a b x o wr) (m : Nat) :
    WaysW w a b m o ((wr.setCell ⟨w.heap.size + 1, 0, none⟩ (.int .u64 (hiN m))).setCell ⟨w.heap.size + 1, 1, none⟩ (.int .u64 (loN m))) :=
  ⟨arr_far (arr_far h.P (by show w.heap.size ≠ w.heap.size + 1; omega) _) (by show w.heap.size ≠ w.heap.size + 1; omega) _, (h.X.set 0 _).set 1 _, arr_far (arr_far h.R (by show w.heap.size + 1 + 1 ≠ w.heap.size + 1; omega) _) (by show w.heap.size + 1 + 1 ≠ w.heap.size + 1; omega) _, arr_far (arr_far h.O (by show w.heap.size + 1 + 1 + 1 ≠ w.heap.size + 1; omega) _) (by show w.heap.size + 1 + 1 + 1 ≠ w.heap.size + 1; omega) _, (h.B.setCell (by show w.heap.size ≤ w.heap.size + 1; omega) _).setCell (by show w.heap.size ≤ w.heap.size + 1; omega) _⟩
theorem WaysW.setO {w wr : World} {a b x o : Nat} (h : WaysW w a b x o wr) (m : Nat) :
    WaysW w a b x m ((wr.setCell ⟨w.heap.size + 1 + 1 + 1, 0, none⟩ (.int .u64 (hiN m))).setCell ⟨w.heap.size + 1 + 1 + 1, 1, none⟩ (.int .u64 (loN m))) :=
  ⟨arr_far (arr_far h.P (by show w.heap.size ≠ w.heap.size + 1 + 1 + 1; omega) _) (by show w.heap.size ≠ w.heap.size + 1 + 1 + 1; omega) _, arr_far (arr_far h.X (by show w.heap.size + 1 ≠ w.heap.size + 1 + 1 + 1; omega) _) (by show w.heap.size + 1 ≠ w.heap.size + 1 + 1 + 1; omega) _, arr_far (arr_far h.R (by show w.heap.size + 1 + 1 ≠ w.heap.size + 1 + 1 + 1; omega) _) (by show w.heap.size + 1 + 1 ≠ w.heap.size + 1 + 1 + 1; omega) _, (h.O.set 0 _).set 1 _, (h.B.setCell (by show w.heap.size ≤ w.heap.size + 1 + 1 + 1; omega) _).setCell (by show w.heap.size ≤ w.heap.size + 1 + 1 + 1; omega) _⟩
theorem WaysW.cap {w wr : World} {a b x o : Nat} (h : WaysW w a b x o wr) {D : Nat} : Cap (wr.alloc (.cells #[.int .i64 (D : Int)] 3)) (w.heap.size + 1) wr.heap.size x D :=
  ⟨ctwo0 (arr_alloc h.X _), ctwo1 (arr_alloc h.X _), (Arr.new wr [.int .i64 (D : Int)] 3).cell 0 (by simp)⟩
set_option maxHeartbeats 4000000 in
theorem ways_c (a b x f kf : Nat) (ha : 4 ≤ a ∧ a ≤ 8) (hbb : 4 ≤ b ∧ b ≤ 8) (hx : x < W128) (hf : f < W128) (hfull : bits_Full.f kf (a : Int) (b : Int) = some (hiN f, loN f)) (g : FuncId) (F : Nat → Nat) (w : World)
    (hF : ∀ d ≤ 100, F d < W128) (hg : ∀ (vs : Array Value) (W : World), Sem.run Try.prog (callFunc g vs) W = .ok (.enter g vs) W)
    (hcall : ∀ (d : Nat), d ≤ 100 → ∀ (p q : Nat) (W : World), Cap W p q (x &&& f) d → Calls Try.prog g #[.func (.func 51) #[] #[.pointer (some ⟨p, 0, none⟩), .pointer (some ⟨q, 0, none⟩)]] W fun e w' => e = .returned (.agg #[.int .u64 (hiN (F d)), .int .u64 (loN (F d))]) ∧ Below W.heap.size W w') :
    Calls Try.prog 29 #[.agg #[.int .i64 (a : Int), .int .i64 (b : Int)], .agg #[.int .u64 (hiN x), .int .u64 (loN x)], .func (.func g) #[] #[]] w fun e w' => e = .returned (.agg #[.int .u64 (hiN (waysN F b 4)), .int .u64 (loN (waysN F b 4))]) ∧ Below w.heap.size w w' := by
  have HR := Aside0.mk (WaysW.start w a b x)
  have HG := Aside0.mk hg
  have HL := Aside0.mk hcall
  clear hg hcall
  have hb8 : b ≤ 8 := hbb.2
  have hm : mayB a b = true := by simp only [mayB, decide_eq_true_eq]; omega
  go_enter Try.func29, Try.ntmps29
  go_wp2_with fail
  refine (board_May.calls a b true _ (by rw [bmay_f, hm])).mono ?_
  rintro e w1 ⟨rfl, hb⟩
  have HR := Aside0.mk (HR.out.below hb)
  clear hb
  go_wp2_with fail
  refine Go.Proofs.YtnenmiaeomcdpaaW.PrintLast.start_ (n := 5) (S := (fun w' => w'.cell? ⟨w.heap.size + 1, 0, none⟩ = some (.int .u64 (hiN (x))) ∧ w'.cell? ⟨w.heap.size + 1, 1, none⟩ = some (.int .u64 (loN (x))) ∧ w'.cell? ⟨w.heap.size, 0, none⟩ = some (.int .i64 (a : Int)) ∧ w'.cell? ⟨w.heap.size, 1, none⟩ = some (.int .i64 (b : Int)))) (ds := [4]) #[false, false, false, false, false] (by kernel_rfl) rfl rfl ⟨ctwo0 HR.out.X, ctwo1 HR.out.X, ctwo0 HR.out.P, ctwo1 HR.out.P⟩ (fun hHeld => ?_)
  refine Go.Proofs.YtnenmiaeomcdpaaW.PrintLast.take_ (i := 0) (N := some 15) (v := ?_) (a' := ?_) #[true, false, false, false, false] rfl rfl (by kernel_rfl) (fun _ _ _ h => h) (Or.inl ⟨by rfl, ?_⟩) hHeld ?_ ?_
  rotate_left
  · rintro w' ⟨s0, s1, s2, s3⟩
    go_simp
    try with_reducible rfl
  rotate_left
  · simp only [Act.put, List.setIfInBounds_toArray, List.set_cons_zero, List.set_cons_succ]
    rfl
  refine Go.Proofs.YtnenmiaeomcdpaaW.PrintLast.take_ (i := 1) (N := some 16) (v := ?_) (a' := ?_) #[true, true, false, false, false] rfl rfl (by kernel_rfl) (fun _ _ _ h => h) (Or.inl ⟨by rfl, ?_⟩) hHeld ?_ ?_
  rotate_left
  · rintro w' ⟨s0, s1, s2, s3⟩
    go_simp
    try with_reducible rfl
  rotate_left
  · simp only [Act.put, List.setIfInBounds_toArray, List.set_cons_zero, List.set_cons_succ]
    rfl
  have HR := Aside0.mk (HR.out.below (below_drew (Below.refl _ _)))
  refine Go.Proofs.YtnenmiaeomcdpaaW.PrintLast.one_ (i := 2) (N := some 17) #[true, true, true, false, false] rfl rfl (by kernel_rfl) (by decide) (fun K hK => ?_)
  refine Go.Proofs.YtnenmiaeomcdpaaW.PrintLast.call_ 23 #[.agg #[.int .i64 (a : Int), .int .i64 (b : Int)]] (by rfl) rfl ?_ ?_
  · go_simp
  refine (bits_Full.calls kf (a : Int) (b : Int) _ _ _ hfull).mono ?_
  rintro e wz2 ⟨rfl, hb⟩
  refine ⟨_, rfl, ?_⟩
  have HR := Aside0.mk (HR.out.below hb)
  clear hb
  refine hK.out _ _ ⟨ctwo0 HR.out.X, ctwo1 HR.out.X, ctwo0 HR.out.P, ctwo1 HR.out.P⟩ (fun hHeld => ?_)
  clear hK K
  refine Go.Proofs.YtnenmiaeomcdpaaW.PrintLast.norm_ (a' := ?_) ?_ ?_
  rotate_left
  · simp only [Act.put, List.setIfInBounds_toArray, List.set_cons_zero, List.set_cons_succ]
    rfl
  refine Go.Proofs.YtnenmiaeomcdpaaW.PrintLast.one_ (i := 3) (N := some 18) #[true, true, true, true, false] rfl rfl (by kernel_rfl) (by decide) (fun K hK => ?_)
  refine Go.Proofs.YtnenmiaeomcdpaaW.PrintLast.call_ 39 #[.agg #[.int .u64 (hiN (x)), .int .u64 (loN (x))], .agg #[.int .u64 (hiN (f)), .int .u64 (loN (f))]] (by rfl) rfl ?_ ?_
  · go_simp
  refine (and_c x f hx hf _).mono ?_
  rintro e wz3 ⟨rfl, hb⟩
  refine ⟨_, rfl, ?_⟩
  have HR := Aside0.mk (HR.out.below hb)
  clear hb
  refine hK.out _ _ ⟨ctwo0 HR.out.X, ctwo1 HR.out.X, ctwo0 HR.out.P, ctwo1 HR.out.P⟩ (fun hHeld => ?_)
  clear hK K
  refine Go.Proofs.YtnenmiaeomcdpaaW.PrintLast.norm_ (a' := ?_) ?_ ?_
  rotate_left
  · simp only [Act.put, List.setIfInBounds_toArray, List.set_cons_zero, List.set_cons_succ]
    rfl
  refine Go.Proofs.YtnenmiaeomcdpaaW.PrintLast.last_ (i := 4) (N := none) #[true, true, true, true, true] rfl rfl (by kernel_rfl) (by decide) (fun K hK => ?_)
  obtain ⟨e0, e1, g0, g1⟩ := two_facts HR.out.X
  refine Go.Proofs.YtnenmiaeomcdpaaW.PrintLast.skip_ (w1 := ?_) (by rfl) rfl ?_ ?_
  rotate_left
  · go_simp
    try rfl
  refine hK.out _ _ ?_
  clear hK K
  have HR := Aside0.mk (HR.out.setX (x &&& f))
  refine Go.Proofs.YtnenmiaeomcdpaaW.PrintLast.done_ (by kernel_rfl) ?_
  obtain ⟨p0, p1, f0, f1⟩ := two_facts HR.out.P
  have k1 := wrap_small ((b : Int) + 1) (by omega)
  have k2 := wrap_small ((b : Int) + 2) (by omega)
  have hg := HG.out
  have hcall := HL.out
  go_wp2_with fail
  go_loopg [28] 4 (fun g' v28 wr => ∃ i : Nat, v28 = .int .i64 (i : Int) ∧ i + g' = 4 ∧ Aside0 (WaysW w a b (x &&& f) (waysN F b i) wr))
  case atStart => exact ⟨0, rfl, by omega, ⟨HR.out⟩⟩
  case round =>
    clear HR
    obtain ⟨i, hv, hi, HR⟩ := hrel
    by_cases hlt : 0 < gk
    · have h4 : i = 0 ∨ i = 1 ∨ i = 2 ∨ i = 3 := by omega
      rcases h4 with rfl | rfl | rfl | rfl
      · replace hv := hv.trans (show Value.int .i64 (((0 : Nat)) : Int) = .int .i64 0 from rfl)
        subst hv
        have hix : ∀ W : World, Sem.run Try.prog (Instr.index 64 (.agg #[.int .i64 1, .int .i64 (b : Int), .int .i64 ((b : Int) + 1), .int .i64 ((b : Int) + 2)]) (.int .i64 0)) W = .ok (.int .i64 ((1 : Nat) : Int)) W := by
          intro W
          simp [Instr.index, run_underlying Try.underlying64, asIntOf, go_sem]
        go_wp2_with fail
        have HC := Aside0.mk (HR.out.cap (D := 1))
        have HR := Aside0.mk (HR.out.below ((Below.refl _ wr).alloc (Nat.le_refl _) (.cells #[.int .i64 ((1 : Nat) : Int)] 3)))
        refine Go.Proofs.YtnenmiaeomcdpaaW.PrintLast.start_ (n := 6) (S := (fun w' => w'.cell? ⟨w.heap.size + 1 + 1 + 1, 0, none⟩ = some (.int .u64 (hiN (waysN F b 0))) ∧ w'.cell? ⟨w.heap.size + 1 + 1 + 1, 1, none⟩ = some (.int .u64 (loN (waysN F b 0))))) (ds := [5]) #[false, false, false, false, false, false] (by kernel_rfl) rfl rfl ⟨ctwo0 HR.out.O, ctwo1 HR.out.O⟩ (fun hHeld => ?_)
        refine Go.Proofs.YtnenmiaeomcdpaaW.PrintLast.pure_ (i := 1) (N := some 32) (v := ?_) (a' := ?_) #[false, true, false, false, false, false] rfl rfl (by kernel_rfl) (fun _ _ _ h => h) (Or.inl ⟨by rfl, ?_⟩) ?_ ?_
        rotate_left
        · intro w'
          go_simp
          try with_reducible rfl
        rotate_left
        · simp only [Act.put, List.setIfInBounds_toArray, List.set_cons_zero, List.set_cons_succ]
          rfl
        refine Go.Proofs.YtnenmiaeomcdpaaW.PrintLast.pure_ (i := 2) (N := some 33) (v := ?_) (a' := ?_) #[false, true, true, false, false, false] rfl rfl (by kernel_rfl) (fun _ _ _ h => h) (Or.inl ⟨by rfl, ?_⟩) ?_ ?_
        rotate_left
        · intro w'
          go_simp
          try with_reducible rfl
        rotate_left
        · simp only [Act.put, List.setIfInBounds_toArray, List.set_cons_zero, List.set_cons_succ]
          rfl
        refine Go.Proofs.YtnenmiaeomcdpaaW.PrintLast.take_ (i := 0) (N := some 31) (v := ?_) (a' := ?_) #[true, true, true, false, false, false] rfl rfl (by kernel_rfl) (fun _ _ _ h => h) (Or.inl ⟨by rfl, ?_⟩) hHeld ?_ ?_
        rotate_left
        · rintro w' ⟨s0, s1⟩
          go_simp
          try with_reducible rfl
        rotate_left
        · simp only [Act.put, List.setIfInBounds_toArray, List.set_cons_zero, List.set_cons_succ]
          rfl
        have HR := Aside0.mk (HR.out.below (below_drew (Below.refl _ _)))
        have HC := Aside0.mk (HC.out.below (below_drew (Below.refl _ _)))
        refine Go.Proofs.YtnenmiaeomcdpaaW.PrintLast.one_ (i := 3) (N := some 34) #[true, true, true, true, false, false] rfl rfl (by kernel_rfl) (by decide) (fun K hK => ?_)
        refine Go.Proofs.YtnenmiaeomcdpaaW.PrintLast.call_ g #[.func (.func 51) #[] #[.pointer (some ⟨w.heap.size + 1, 0, none⟩), .pointer (some ⟨wr.heap.size, 0, none⟩)]] (by rfl) rfl ?_ ?_
        · go_simp
        refine (hcall (1) (by omega) _ _ _ HC.out).mono ?_
        rintro e wz3 ⟨rfl, hb⟩
        refine ⟨_, rfl, ?_⟩
        have HR := Aside0.mk (HR.out.below hb)
        clear hb
        refine hK.out _ _ ⟨ctwo0 HR.out.O, ctwo1 HR.out.O⟩ (fun hHeld => ?_)
        clear hK K
        refine Go.Proofs.YtnenmiaeomcdpaaW.PrintLast.norm_ (a' := ?_) ?_ ?_
        rotate_left
        · simp only [Act.put, List.setIfInBounds_toArray, List.set_cons_zero, List.set_cons_succ]
          rfl
        refine Go.Proofs.YtnenmiaeomcdpaaW.PrintLast.one_ (i := 4) (N := some 35) #[true, true, true, true, true, false] rfl rfl (by kernel_rfl) (by decide) (fun K hK => ?_)
        refine Go.Proofs.YtnenmiaeomcdpaaW.PrintLast.call_ 14 #[.agg #[.int .u64 (hiN (waysN F b 0)), .int .u64 (loN (waysN F b 0))], .agg #[.int .u64 (hiN (F (1))), .int .u64 (loN (F (1)))]] (by rfl) rfl ?_ ?_
        · go_simp
        refine (or_c (waysN F b 0) (F (1)) (waysN_lt F b hb8 hF 0) (hF _ (by omega)) _).mono ?_
        rintro e wz4 ⟨rfl, hb⟩
        refine ⟨_, rfl, ?_⟩
        have HR := Aside0.mk (HR.out.below hb)
        clear hb
        refine hK.out _ _ ⟨ctwo0 HR.out.O, ctwo1 HR.out.O⟩ (fun hHeld => ?_)
        clear hK K
        refine Go.Proofs.YtnenmiaeomcdpaaW.PrintLast.norm_ (a' := ?_) ?_ ?_
        rotate_left
        · simp only [Act.put, List.setIfInBounds_toArray, List.set_cons_zero, List.set_cons_succ]
          rfl
        refine Go.Proofs.YtnenmiaeomcdpaaW.PrintLast.last_ (i := 5) (N := none) #[true, true, true, true, true, true] rfl rfl (by kernel_rfl) (by decide) (fun K hK => ?_)
        obtain ⟨e0, e1, g0, g1⟩ := two_facts HR.out.O
        refine Go.Proofs.YtnenmiaeomcdpaaW.PrintLast.skip_ (w1 := ?_) (by rfl) rfl ?_ ?_
        rotate_left
        · go_simp
          try rfl
        refine hK.out _ _ ?_
        clear hK K
        refine Go.Proofs.YtnenmiaeomcdpaaW.PrintLast.done_ (by kernel_rfl) ?_
        go_wp2
        go_roundg (gk - 1)
        case measure => omega
        case rel => exact ⟨0 + 1, rfl, by omega, ⟨HR.out.setO (waysN F b (0 + 1))⟩⟩
      · replace hv := hv.trans (show Value.int .i64 (((1 : Nat)) : Int) = .int .i64 1 from rfl)
        subst hv
        have hix : ∀ W : World, Sem.run Try.prog (Instr.index 64 (.agg #[.int .i64 1, .int .i64 (b : Int), .int .i64 ((b : Int) + 1), .int .i64 ((b : Int) + 2)]) (.int .i64 1)) W = .ok (.int .i64 ((b : Nat) : Int)) W := by
          intro W
          simp [Instr.index, run_underlying Try.underlying64, asIntOf, go_sem]
        go_wp2_with fail
        have HC := Aside0.mk (HR.out.cap (D := b))
        have HR := Aside0.mk (HR.out.below ((Below.refl _ wr).alloc (Nat.le_refl _) (.cells #[.int .i64 ((b : Nat) : Int)] 3)))
        refine Go.Proofs.YtnenmiaeomcdpaaW.PrintLast.start_ (n := 6) (S := (fun w' => w'.cell? ⟨w.heap.size + 1 + 1 + 1, 0, none⟩ = some (.int .u64 (hiN (waysN F b 1))) ∧ w'.cell? ⟨w.heap.size + 1 + 1 + 1, 1, none⟩ = some (.int .u64 (loN (waysN F b 1))))) (ds := [5]) #[false, false, false, false, false, false] (by kernel_rfl) rfl rfl ⟨ctwo0 HR.out.O, ctwo1 HR.out.O⟩ (fun hHeld => ?_)
        refine Go.Proofs.YtnenmiaeomcdpaaW.PrintLast.pure_ (i := 1) (N := some 32) (v := ?_) (a' := ?_) #[false, true, false, false, false, false] rfl rfl (by kernel_rfl) (fun _ _ _ h => h) (Or.inl ⟨by rfl, ?_⟩) ?_ ?_
        rotate_left
        · intro w'
          go_simp
          try with_reducible rfl
        rotate_left
        · simp only [Act.put, List.setIfInBounds_toArray, List.set_cons_zero, List.set_cons_succ]
          rfl
        refine Go.Proofs.YtnenmiaeomcdpaaW.PrintLast.pure_ (i := 2) (N := some 33) (v := ?_) (a' := ?_) #[false, true, true, false, false, false] rfl rfl (by kernel_rfl) (fun _ _ _ h => h) (Or.inl ⟨by rfl, ?_⟩) ?_ ?_
        rotate_left
        · intro w'
          go_simp
          try with_reducible rfl
        rotate_left
        · simp only [Act.put, List.setIfInBounds_toArray, List.set_cons_zero, List.set_cons_succ]
          rfl
        refine Go.Proofs.YtnenmiaeomcdpaaW.PrintLast.take_ (i := 0) (N := some 31) (v := ?_) (a' := ?_) #[true, true, true, false, false, false] rfl rfl (by kernel_rfl) (fun _ _ _ h => h) (Or.inl ⟨by rfl, ?_⟩) hHeld ?_ ?_
        rotate_left
        · rintro w' ⟨s0, s1⟩
          go_simp
          try with_reducible rfl
        rotate_left
        · simp only [Act.put, List.setIfInBounds_toArray, List.set_cons_zero, List.set_cons_succ]
          rfl
        have HR := Aside0.mk (HR.out.below (below_drew (Below.refl _ _)))
        have HC := Aside0.mk (HC.out.below (below_drew (Below.refl _ _)))
        refine Go.Proofs.YtnenmiaeomcdpaaW.PrintLast.one_ (i := 3) (N := some 34) #[true, true, true, true, false, false] rfl rfl (by kernel_rfl) (by decide) (fun K hK => ?_)
        refine Go.Proofs.YtnenmiaeomcdpaaW.PrintLast.call_ g #[.func (.func 51) #[] #[.pointer (some ⟨w.heap.size + 1, 0, none⟩), .pointer (some ⟨wr.heap.size, 0, none⟩)]] (by rfl) rfl ?_ ?_
        · go_simp
        refine (hcall (b) (by omega) _ _ _ HC.out).mono ?_
        rintro e wz3 ⟨rfl, hb⟩
        refine ⟨_, rfl, ?_⟩
        have HR := Aside0.mk (HR.out.below hb)
        clear hb
        refine hK.out _ _ ⟨ctwo0 HR.out.O, ctwo1 HR.out.O⟩ (fun hHeld => ?_)
        clear hK K
        refine Go.Proofs.YtnenmiaeomcdpaaW.PrintLast.norm_ (a' := ?_) ?_ ?_
        rotate_left
        · simp only [Act.put, List.setIfInBounds_toArray, List.set_cons_zero, List.set_cons_succ]
          rfl
        refine Go.Proofs.YtnenmiaeomcdpaaW.PrintLast.one_ (i := 4) (N := some 35) #[true, true, true, true, true, false] rfl rfl (by kernel_rfl) (by decide) (fun K hK => ?_)
        refine Go.Proofs.YtnenmiaeomcdpaaW.PrintLast.call_ 14 #[.agg #[.int .u64 (hiN (waysN F b 1)), .int .u64 (loN (waysN F b 1))], .agg #[.int .u64 (hiN (F (b))), .int .u64 (loN (F (b)))]] (by rfl) rfl ?_ ?_
        · go_simp
        refine (or_c (waysN F b 1) (F (b)) (waysN_lt F b hb8 hF 1) (hF _ (by omega)) _).mono ?_
        rintro e wz4 ⟨rfl, hb⟩
        refine ⟨_, rfl, ?_⟩
        have HR := Aside0.mk (HR.out.below hb)
        clear hb
        refine hK.out _ _ ⟨ctwo0 HR.out.O, ctwo1 HR.out.O⟩ (fun hHeld => ?_)
        clear hK K
        refine Go.Proofs.YtnenmiaeomcdpaaW.PrintLast.norm_ (a' := ?_) ?_ ?_
        rotate_left
        · simp only [Act.put, List.setIfInBounds_toArray, List.set_cons_zero, List.set_cons_succ]
          rfl
        refine Go.Proofs.YtnenmiaeomcdpaaW.PrintLast.last_ (i := 5) (N := none) #[true, true, true, true, true, true] rfl rfl (by kernel_rfl) (by decide) (fun K hK => ?_)
        obtain ⟨e0, e1, g0, g1⟩ := two_facts HR.out.O
        refine Go.Proofs.YtnenmiaeomcdpaaW.PrintLast.skip_ (w1 := ?_) (by rfl) rfl ?_ ?_
        rotate_left
        · go_simp
          try rfl
        refine hK.out _ _ ?_
        clear hK K
        refine Go.Proofs.YtnenmiaeomcdpaaW.PrintLast.done_ (by kernel_rfl) ?_
        go_wp2
        go_roundg (gk - 1)
        case measure => omega
        case rel => exact ⟨1 + 1, rfl, by omega, ⟨HR.out.setO (waysN F b (1 + 1))⟩⟩
      · replace hv := hv.trans (show Value.int .i64 (((2 : Nat)) : Int) = .int .i64 2 from rfl)
        subst hv
        have hix : ∀ W : World, Sem.run Try.prog (Instr.index 64 (.agg #[.int .i64 1, .int .i64 (b : Int), .int .i64 ((b : Int) + 1), .int .i64 ((b : Int) + 2)]) (.int .i64 2)) W = .ok (.int .i64 ((b + 1 : Nat) : Int)) W := by
          intro W
          simp [Instr.index, run_underlying Try.underlying64, asIntOf, go_sem]
        go_wp2_with fail
        have HC := Aside0.mk (HR.out.cap (D := b + 1))
        have HR := Aside0.mk (HR.out.below ((Below.refl _ wr).alloc (Nat.le_refl _) (.cells #[.int .i64 ((b + 1 : Nat) : Int)] 3)))
        refine Go.Proofs.YtnenmiaeomcdpaaW.PrintLast.start_ (n := 6) (S := (fun w' => w'.cell? ⟨w.heap.size + 1 + 1 + 1, 0, none⟩ = some (.int .u64 (hiN (waysN F b 2))) ∧ w'.cell? ⟨w.heap.size + 1 + 1 + 1, 1, none⟩ = some (.int .u64 (loN (waysN F b 2))))) (ds := [5]) #[false, false, false, false, false, false] (by kernel_rfl) rfl rfl ⟨ctwo0 HR.out.O, ctwo1 HR.out.O⟩ (fun hHeld => ?_)
        refine Go.Proofs.YtnenmiaeomcdpaaW.PrintLast.pure_ (i := 1) (N := some 32) (v := ?_) (a' := ?_) #[false, true, false, false, false, false] rfl rfl (by kernel_rfl) (fun _ _ _ h => h) (Or.inl ⟨by rfl, ?_⟩) ?_ ?_
        rotate_left
        · intro w'
          go_simp
          try with_reducible rfl
        rotate_left
        · simp only [Act.put, List.setIfInBounds_toArray, List.set_cons_zero, List.set_cons_succ]
          rfl
        refine Go.Proofs.YtnenmiaeomcdpaaW.PrintLast.pure_ (i := 2) (N := some 33) (v := ?_) (a' := ?_) #[false, true, true, false, false, false] rfl rfl (by kernel_rfl) (fun _ _ _ h => h) (Or.inl ⟨by rfl, ?_⟩) ?_ ?_
        rotate_left
        · intro w'
          go_simp
          try with_reducible rfl
        rotate_left
        · simp only [Act.put, List.setIfInBounds_toArray, List.set_cons_zero, List.set_cons_succ]
          rfl
        refine Go.Proofs.YtnenmiaeomcdpaaW.PrintLast.take_ (i := 0) (N := some 31) (v := ?_) (a' := ?_) #[true, true, true, false, false, false] rfl rfl (by kernel_rfl) (fun _ _ _ h => h) (Or.inl ⟨by rfl, ?_⟩) hHeld ?_ ?_
        rotate_left
        · rintro w' ⟨s0, s1⟩
          go_simp
          try with_reducible rfl
        rotate_left
        · simp only [Act.put, List.setIfInBounds_toArray, List.set_cons_zero, List.set_cons_succ]
          rfl
        have HR := Aside0.mk (HR.out.below (below_drew (Below.refl _ _)))
        have HC := Aside0.mk (HC.out.below (below_drew (Below.refl _ _)))
        refine Go.Proofs.YtnenmiaeomcdpaaW.PrintLast.one_ (i := 3) (N := some 34) #[true, true, true, true, false, false] rfl rfl (by kernel_rfl) (by decide) (fun K hK => ?_)
        refine Go.Proofs.YtnenmiaeomcdpaaW.PrintLast.call_ g #[.func (.func 51) #[] #[.pointer (some ⟨w.heap.size + 1, 0, none⟩), .pointer (some ⟨wr.heap.size, 0, none⟩)]] (by rfl) rfl ?_ ?_
        · go_simp
        refine (hcall (b + 1) (by omega) _ _ _ HC.out).mono ?_
        rintro e wz3 ⟨rfl, hb⟩
        refine ⟨_, rfl, ?_⟩
        have HR := Aside0.mk (HR.out.below hb)
        clear hb
        refine hK.out _ _ ⟨ctwo0 HR.out.O, ctwo1 HR.out.O⟩ (fun hHeld => ?_)
        clear hK K
        refine Go.Proofs.YtnenmiaeomcdpaaW.PrintLast.norm_ (a' := ?_) ?_ ?_
        rotate_left
        · simp only [Act.put, List.setIfInBounds_toArray, List.set_cons_zero, List.set_cons_succ]
          rfl
        refine Go.Proofs.YtnenmiaeomcdpaaW.PrintLast.one_ (i := 4) (N := some 35) #[true, true, true, true, true, false] rfl rfl (by kernel_rfl) (by decide) (fun K hK => ?_)
        refine Go.Proofs.YtnenmiaeomcdpaaW.PrintLast.call_ 14 #[.agg #[.int .u64 (hiN (waysN F b 2)), .int .u64 (loN (waysN F b 2))], .agg #[.int .u64 (hiN (F (b + 1))), .int .u64 (loN (F (b + 1)))]] (by rfl) rfl ?_ ?_
        · go_simp
        refine (or_c (waysN F b 2) (F (b + 1)) (waysN_lt F b hb8 hF 2) (hF _ (by omega)) _).mono ?_
        rintro e wz4 ⟨rfl, hb⟩
        refine ⟨_, rfl, ?_⟩
        have HR := Aside0.mk (HR.out.below hb)
        clear hb
        refine hK.out _ _ ⟨ctwo0 HR.out.O, ctwo1 HR.out.O⟩ (fun hHeld => ?_)
        clear hK K
        refine Go.Proofs.YtnenmiaeomcdpaaW.PrintLast.norm_ (a' := ?_) ?_ ?_
        rotate_left
        · simp only [Act.put, List.setIfInBounds_toArray, List.set_cons_zero, List.set_cons_succ]
          rfl
        refine Go.Proofs.YtnenmiaeomcdpaaW.PrintLast.last_ (i := 5) (N := none) #[true, true, true, true, true, true] rfl rfl (by kernel_rfl) (by decide) (fun K hK => ?_)
        obtain ⟨e0, e1, g0, g1⟩ := two_facts HR.out.O
        refine Go.Proofs.YtnenmiaeomcdpaaW.PrintLast.skip_ (w1 := ?_) (by rfl) rfl ?_ ?_
        rotate_left
        · go_simp
          try rfl
        refine hK.out _ _ ?_
        clear hK K
        refine Go.Proofs.YtnenmiaeomcdpaaW.PrintLast.done_ (by kernel_rfl) ?_
        go_wp2
        go_roundg (gk - 1)
        case measure => omega
        case rel => exact ⟨2 + 1, rfl, by omega, ⟨HR.out.setO (waysN F b (2 + 1))⟩⟩
      · replace hv := hv.trans (show Value.int .i64 (((3 : Nat)) : Int) = .int .i64 3 from rfl)
        subst hv
        have hix : ∀ W : World, Sem.run Try.prog (Instr.index 64 (.agg #[.int .i64 1, .int .i64 (b : Int), .int .i64 ((b : Int) + 1), .int .i64 ((b : Int) + 2)]) (.int .i64 3)) W = .ok (.int .i64 ((b + 2 : Nat) : Int)) W := by
          intro W
          simp [Instr.index, run_underlying Try.underlying64, asIntOf, go_sem]
        go_wp2_with fail
        have HC := Aside0.mk (HR.out.cap (D := b + 2))
        have HR := Aside0.mk (HR.out.below ((Below.refl _ wr).alloc (Nat.le_refl _) (.cells #[.int .i64 ((b + 2 : Nat) : Int)] 3)))
        refine Go.Proofs.YtnenmiaeomcdpaaW.PrintLast.start_ (n := 6) (S := (fun w' => w'.cell? ⟨w.heap.size + 1 + 1 + 1, 0, none⟩ = some (.int .u64 (hiN (waysN F b 3))) ∧ w'.cell? ⟨w.heap.size + 1 + 1 + 1, 1, none⟩ = some (.int .u64 (loN (waysN F b 3))))) (ds := [5]) #[false, false, false, false, false, false] (by kernel_rfl) rfl rfl ⟨ctwo0 HR.out.O, ctwo1 HR.out.O⟩ (fun hHeld => ?_)
        refine Go.Proofs.YtnenmiaeomcdpaaW.PrintLast.pure_ (i := 1) (N := some 32) (v := ?_) (a' := ?_) #[false, true, false, false, false, false] rfl rfl (by kernel_rfl) (fun _ _ _ h => h) (Or.inl ⟨by rfl, ?_⟩) ?_ ?_
        rotate_left
        · intro w'
          go_simp
          try with_reducible rfl
        rotate_left
        · simp only [Act.put, List.setIfInBounds_toArray, List.set_cons_zero, List.set_cons_succ]
          rfl
        refine Go.Proofs.YtnenmiaeomcdpaaW.PrintLast.pure_ (i := 2) (N := some 33) (v := ?_) (a' := ?_) #[false, true, true, false, false, false] rfl rfl (by kernel_rfl) (fun _ _ _ h => h) (Or.inl ⟨by rfl, ?_⟩) ?_ ?_
        rotate_left
        · intro w'
          go_simp
          try with_reducible rfl
        rotate_left
        · simp only [Act.put, List.setIfInBounds_toArray, List.set_cons_zero, List.set_cons_succ]
          rfl
        refine Go.Proofs.YtnenmiaeomcdpaaW.PrintLast.take_ (i := 0) (N := some 31) (v := ?_) (a' := ?_) #[true, true, true, false, false, false] rfl rfl (by kernel_rfl) (fun _ _ _ h => h) (Or.inl ⟨by rfl, ?_⟩) hHeld ?_ ?_
        rotate_left
        · rintro w' ⟨s0, s1⟩
          go_simp
          try with_reducible rfl
        rotate_left
        · simp only [Act.put, List.setIfInBounds_toArray, List.set_cons_zero, List.set_cons_succ]
          rfl
        have HR := Aside0.mk (HR.out.below (below_drew (Below.refl _ _)))
        have HC := Aside0.mk (HC.out.below (below_drew (Below.refl _ _)))
        refine Go.Proofs.YtnenmiaeomcdpaaW.PrintLast.one_ (i := 3) (N := some 34) #[true, true, true, true, false, false] rfl rfl (by kernel_rfl) (by decide) (fun K hK => ?_)
        refine Go.Proofs.YtnenmiaeomcdpaaW.PrintLast.call_ g #[.func (.func 51) #[] #[.pointer (some ⟨w.heap.size + 1, 0, none⟩), .pointer (some ⟨wr.heap.size, 0, none⟩)]] (by rfl) rfl ?_ ?_
        · go_simp
        refine (hcall (b + 2) (by omega) _ _ _ HC.out).mono ?_
        rintro e wz3 ⟨rfl, hb⟩
        refine ⟨_, rfl, ?_⟩
        have HR := Aside0.mk (HR.out.below hb)
        clear hb
        refine hK.out _ _ ⟨ctwo0 HR.out.O, ctwo1 HR.out.O⟩ (fun hHeld => ?_)
        clear hK K
        refine Go.Proofs.YtnenmiaeomcdpaaW.PrintLast.norm_ (a' := ?_) ?_ ?_
        rotate_left
        · simp only [Act.put, List.setIfInBounds_toArray, List.set_cons_zero, List.set_cons_succ]
          rfl
        refine Go.Proofs.YtnenmiaeomcdpaaW.PrintLast.one_ (i := 4) (N := some 35) #[true, true, true, true, true, false] rfl rfl (by kernel_rfl) (by decide) (fun K hK => ?_)
        refine Go.Proofs.YtnenmiaeomcdpaaW.PrintLast.call_ 14 #[.agg #[.int .u64 (hiN (waysN F b 3)), .int .u64 (loN (waysN F b 3))], .agg #[.int .u64 (hiN (F (b + 2))), .int .u64 (loN (F (b + 2)))]] (by rfl) rfl ?_ ?_
        · go_simp
        refine (or_c (waysN F b 3) (F (b + 2)) (waysN_lt F b hb8 hF 3) (hF _ (by omega)) _).mono ?_
        rintro e wz4 ⟨rfl, hb⟩
        refine ⟨_, rfl, ?_⟩
        have HR := Aside0.mk (HR.out.below hb)
        clear hb
        refine hK.out _ _ ⟨ctwo0 HR.out.O, ctwo1 HR.out.O⟩ (fun hHeld => ?_)
        clear hK K
        refine Go.Proofs.YtnenmiaeomcdpaaW.PrintLast.norm_ (a' := ?_) ?_ ?_
        rotate_left
        · simp only [Act.put, List.setIfInBounds_toArray, List.set_cons_zero, List.set_cons_succ]
          rfl
        refine Go.Proofs.YtnenmiaeomcdpaaW.PrintLast.last_ (i := 5) (N := none) #[true, true, true, true, true, true] rfl rfl (by kernel_rfl) (by decide) (fun K hK => ?_)
        obtain ⟨e0, e1, g0, g1⟩ := two_facts HR.out.O
        refine Go.Proofs.YtnenmiaeomcdpaaW.PrintLast.skip_ (w1 := ?_) (by rfl) rfl ?_ ?_
        rotate_left
        · go_simp
          try rfl
        refine hK.out _ _ ?_
        clear hK K
        refine Go.Proofs.YtnenmiaeomcdpaaW.PrintLast.done_ (by kernel_rfl) ?_
        go_wp2
        go_roundg (gk - 1)
        case measure => omega
        case rel => exact ⟨3 + 1, rfl, by omega, ⟨HR.out.setO (waysN F b (3 + 1))⟩⟩
    · obtain rfl : i = 4 := by omega
      replace hv := hv.trans (show Value.int .i64 (((4 : Nat)) : Int) = .int .i64 4 from rfl)
      subst hv
      obtain ⟨e0, e1, g0, g1⟩ := two_facts HR.out.O
      obtain ⟨r0, r1, f0, f1⟩ := two_facts HR.out.R
      go_wp2
      exact bodyPost_ret (v := .agg #[.int .u64 (hiN (waysN F b 4)), .int .u64 (loN (waysN F b 4))]) (by simp [results, Try.results29, go_sem, r0, r1]) rfl ⟨rfl, (HR.out.B.setCell (by show w.heap.size ≤ w.heap.size + 1 + 1; omega) _).setCell (by show w.heap.size ≤ w.heap.size + 1 + 1; omega) _⟩
set_option maxHeartbeats 1000000 in
theorem ways_no (a b u v : Int) (hm : mayB a b = false) (g : FuncId) (w : World) :
    Calls Try.prog 29 #[.agg #[.int .i64 a, .int .i64 b], .agg #[.int .u64 u, .int .u64 v], .func (.func g) #[] #[]] w fun e w' => e = .returned (.agg #[.int .u64 0, .int .u64 0]) ∧ Below w.heap.size w w' := by
  have A2 := Arr.new ((w.alloc (.cells #[.int .i64 a, .int .i64 b] 23)).alloc (.cells #[.int .u64 u, .int .u64 v] 26)) [.int .u64 0, .int .u64 0] 26
  have AB := ((((Below.refl w.heap.size w).alloc (Nat.le_refl _) (.cells #[.int .i64 a, .int .i64 b] 23)).alloc (by simp) (.cells #[.int .u64 u, .int .u64 v] 26)).alloc (by simp; omega) (.cells #[.int .u64 0, .int .u64 0] 26)).alloc (by simp; omega) (.cells #[.int .u64 0, .int .u64 0] 26)
  have A3 := Arr.new (((w.alloc (.cells #[.int .i64 a, .int .i64 b] 23)).alloc (.cells #[.int .u64 u, .int .u64 v] 26)).alloc (.cells #[.int .u64 0, .int .u64 0] 26)) [.int .u64 0, .int .u64 0] 26
  have HH := Aside0.mk (And.intro (arr_alloc A2 (.cells #[.int .u64 0, .int .u64 0] 26)) (And.intro A3 AB))
  clear A2 A3 AB
  go_enter Try.func29, Try.ntmps29
  go_wp2_with fail
  refine (board_May.calls a b false _ (by rw [bmay_f, hm])).mono ?_
  rintro e w1 ⟨rfl, hb⟩
  have A2 := HH.out.1.below hb HH.out.1.lt
  have A3 := HH.out.2.1.below hb HH.out.2.1.lt
  have AB := HH.out.2.2.trans (hb.mono HH.out.2.2.size)
  simp only [World.size_alloc] at A2 A3
  clear hb HH
  obtain ⟨e0, e1, g0, g1⟩ := two_facts A3
  obtain ⟨r0, r1, f0, f1⟩ := two_facts A2
  go_wp2
  exact bodyPost_ret (v := .agg #[.int .u64 0, .int .u64 0]) (by simp [results, Try.results29, go_sem, r0, r1]) rfl ⟨rfl, (AB.setCell (by show w.heap.size ≤ w.heap.size + 1 + 1; omega) _).setCell (by show w.heap.size ≤ w.heap.size + 1 + 1; omega) _⟩
end Go.Proofs.Ytnenmiaeomcdpaa.Given
