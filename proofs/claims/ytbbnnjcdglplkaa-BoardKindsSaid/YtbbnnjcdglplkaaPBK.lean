/-
  The pure statement of the law BoardKinds: every number is tried; conditions: none.
-/
import Derived.Test.YtbbnnjcdglplkaaKKx
namespace Go.Proofs.Ytbbnnjcdglplkaa.KK
open Go.RowKit Go.Proofs.YtbbnnjcdglplkaaW.PrintWords Go.Proofs.Ytbbnnjcdglplkaa.Given Go.Proofs.Ytbbnnjcdglplkaa.KB
set_option linter.unusedVariables false

def boardsL : List S23 := (board_Boards.f 200).getD []
theorem b_ev : Ev (fun k => board_Boards.f k) boardsL := Ev.of board_Boards.mono (k := 200) (by kernel_rfl)
theorem r_ev : Ev (fun k => plummetref06_Boards.f k) boardsL := Ev.of plummetref06_Boards.mono (k := 200) (by kernel_rfl)
theorem b_len : boardsL.length = 25 := by decide +kernel
theorem base : ∀ j : Fin 25, plummetlaw06_BoardKinds.l0 500 (j.val : Int) boardsL boardsL 25 = some true := by decide +kernel
theorem same_a (a b : Int) (h : Int.tmod (wrap64 a) 25 = Int.tmod (wrap64 b) 25) (k : Nat) : plummetlaw06_BoardKinds.l0 (k + 1) a boardsL boardsL 25 = plummetlaw06_BoardKinds.l0 (k + 1) b boardsL boardsL 25 := by
  have hl : (boardsL.length : Int) = 25 := by rw [b_len]; rfl
  simp only [plummetlaw06_BoardKinds.l0, hl, Int.lt_irrefl, if_false, h]
theorem bnot_refl (x y : Int) : (!(x == x) || !(y == y)) = false := by simp
theorem l0_go (a : Int) (hk : Ev (fun k => plummetlaw06_BoardKinds.l0 k a boardsL boardsL 25) true) (d : Nat) : ∀ i : Nat, i + d = 25 → Ev (fun k => plummetlaw06_BoardKinds.l0 k a boardsL boardsL i) true := by
  induction d with
  | zero => intro i hi; obtain rfl : i = 25 := by omega
            exact hk
  | succ d ih =>
    intro i hi
    refine Ev.step (fun k => ?_) (ih (i + 1) (by omega))
    simp only [plummetlaw06_BoardKinds.l0]
    rw [b_len, if_pos (by omega), if_pos (by omega), if_pos (by omega), bnot_refl, if_neg (by simp), show wrap64 ((i : Int) + 1) = ((i + 1 : Nat) : Int) by unfold wrap64; omega]
theorem kindsLaw (a : Int) (h : (Lit.int .u8 a).wf = true) : ∃ k, plummetlaw06_BoardKinds.f k a = some true := by
  have h1 : IntKind.u8.min = 0 := by decide
  have h2 : IntKind.u8.max = 255 := by decide
  simp [Lit.wf, h1, h2] at h
  have hb := base ⟨a.toNat % 25, by omega⟩
  have he : Int.tmod (wrap64 ((a.toNat % 25 : Nat) : Int)) 25 = Int.tmod (wrap64 a) 25 := by
    rw [show wrap64 ((a.toNat % 25 : Nat) : Int) = ((a.toNat % 25 : Nat) : Int) by unfold wrap64; omega, show wrap64 a = a by unfold wrap64; omega, Int.tmod_eq_emod_of_nonneg (by omega), Int.tmod_eq_emod_of_nonneg (by omega)]
    omega
  have hk : Ev (fun k => plummetlaw06_BoardKinds.l0 k a boardsL boardsL 25) true := by
    refine Ev.of (k := 500) (fun k => ?_) ?_
    · exact (plummetlaw06_BoardKinds.mono_l k).1 _ _ _ _
    · rw [← same_a _ _ he 499]; exact hb
  refine Ev.rounds ?_
  unfold plummetlaw06_BoardKinds.f
  refine Ev.bind b_ev (Ev.bind r_ev ?_)
  simp only [if_true]
  exact l0_go a hk 25 0 (by omega)
end Go.Proofs.Ytbbnnjcdglplkaa.KK
