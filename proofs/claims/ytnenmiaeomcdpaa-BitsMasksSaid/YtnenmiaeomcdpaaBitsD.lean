/-
  What the closures of bits.Four answers; conditions: the bounds that each says.
-/
import Derived.Test.YtnenmiaeomcdpaaBitsC
namespace Go.Proofs.Ytnenmiaeomcdpaa.Given
open Go.RowKit Go.Proofs.YtnenmiaeomcdpaaW.PrintWords Go.Proofs.Ytnenmiaeomcdpaa.Base Go.Proofs.Ytnenmiaeomcdpaa.KW Go.Proofs.Ytnenmiaeomcdpaa.KB
set_option linter.unusedVariables false
set_option linter.unusedSimpArgs false

def fourM (x d : Nat) : Nat := allN (mvN x d 0) [mvN x d 1, mvN x d 2, mvN x d 3]
set_option maxHeartbeats 2000000 in
theorem four1_c (x d : Nat) (hx : x < W128) (hd : d ≤ 100) (p q : Nat) (w : World) (hc : Cap w p q x d) :
    Calls Try.prog 35 #[.func (.func 51) #[] #[.pointer (some ⟨p, 0, none⟩), .pointer (some ⟨q, 0, none⟩)]] w fun e w' => e = .returned (.agg #[.int .u64 (hiN (fourM x d)), .int .u64 (loN (fourM x d))]) ∧ Below w.heap.size w w' := by
  have HC := Aside0.mk (hc.alloc (.cells #[.int .u64 0, .int .u64 0] 26))
  have HR := Aside0.mk (Arr.new w [.int .u64 0, .int .u64 0] 26)
  have HB := Aside0.mk ((Below.refl _ w).alloc (Nat.le_refl _) (.cells #[.int .u64 0, .int .u64 0] 26))
  clear hc
  go_enter Try.func35, Try.ntmps35
  go_wp2_with fail
  refine (ways1_c x d 0 (by decide) hx hd p q _ HC.out).mono ?_
  rintro e w1 ⟨rfl, hb⟩
  have HC := Aside0.mk (HC.out.below hb)
  have HR := Aside0.mk (HR.out.below hb HR.out.lt)
  have HB := Aside0.mk (HB.out.trans (hb.mono HB.out.size))
  clear hb
  go_wp2_with fail
  refine (ways1_c x d 1 (by decide) hx hd p q _ HC.out).mono ?_
  rintro e w2 ⟨rfl, hb⟩
  have HC := Aside0.mk (HC.out.below hb)
  have HR := Aside0.mk (HR.out.below hb HR.out.lt)
  have HB := Aside0.mk (HB.out.trans (hb.mono HB.out.size))
  clear hb
  go_wp2_with fail
  refine (ways1_c x d 2 (by decide) hx hd p q _ HC.out).mono ?_
  rintro e w3 ⟨rfl, hb⟩
  have HC := Aside0.mk (HC.out.below hb)
  have HR := Aside0.mk (HR.out.below hb HR.out.lt)
  have HB := Aside0.mk (HB.out.trans (hb.mono HB.out.size))
  clear hb
  go_wp2_with fail
  refine (ways1_c x d 3 (by decide) hx hd p q _ HC.out).mono ?_
  rintro e w4 ⟨rfl, hb⟩
  have HC := Aside0.mk (HC.out.below hb)
  have HR := Aside0.mk (HR.out.below hb HR.out.lt)
  have HB := Aside0.mk (HB.out.trans (hb.mono HB.out.size))
  clear hb
  go_wp2_with fail
  have hC := C_three (t := 26) (mvN x d 1) (mvN x d 2) (mvN x d 3) (Arr.new w4 _ _)
  refine (all_c (mvN x d 0) [mvN x d 1, mvN x d 2, mvN x d 3] (mvN_lt _ _ _ hx) (by intro y hy; simp at hy; rcases hy with rfl | rfl | rfl <;> exact mvN_lt _ _ _ hx) (by simp) _ _ hC).mono ?_
  rintro e w5 ⟨rfl, hb⟩
  have HR := (arr_alloc HR.out (.cells #[.int .u64 (hiN (mvN x d 1)), .int .u64 (loN (mvN x d 1)), .int .u64 (hiN (mvN x d 2)), .int .u64 (loN (mvN x d 2)), .int .u64 (hiN (mvN x d 3)), .int .u64 (loN (mvN x d 3))] 26)).below hb (by have := HR.out.lt; simp; omega)
  have HB := (HB.out.alloc HB.out.size (.cells #[.int .u64 (hiN (mvN x d 1)), .int .u64 (loN (mvN x d 1)), .int .u64 (hiN (mvN x d 2)), .int .u64 (loN (mvN x d 2)), .int .u64 (hiN (mvN x d 3)), .int .u64 (loN (mvN x d 3))] 26)).trans (hb.mono (by have := HB.out.size; simp; omega))
  obtain ⟨e0, e1, g0, g1⟩ := two_facts HR
  clear hC
  go_wp2
  exact bodyPost_ret (v := .agg #[.int .u64 (hiN (fourM x d)), .int .u64 (loN (fourM x d))]) (by simp [results, Try.results35, go_sem, e0, e1, fourM]) rfl ⟨rfl, (HB.setCell (Nat.le_refl _) _).setCell (Nat.le_refl _) _⟩
end Go.Proofs.Ytnenmiaeomcdpaa.Given
