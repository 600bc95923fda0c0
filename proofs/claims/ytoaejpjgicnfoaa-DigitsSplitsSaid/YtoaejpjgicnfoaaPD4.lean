/-
  What both splittings answer, and that joining and splitting undo each other; conditions: the numbers are of their kind, texts are not too long.
-/
import Derived.Test.YtoaejpjgicnfoaaPD3j
namespace Go.Proofs.Ytoaejpjgicnfoaa.PD
open Go.RowKit Go.Proofs.Ytoaejpjgicnfoaa.Given Go.Proofs.Ytoaejpjgicnfoaa.KD Go.Proofs.YtoaejpjgicnfoaaW.PrintWords Go.Proofs.YtoaejpjgicnfoaaW.PrintLast

open Classical in
/-- What a reading must answer, as a function. -/
noncomputable def rdL (l : List UInt8) : Int × Bool := if h : ∃ n, IsNum l n then (h.choose, true) else (0, false)
theorem rdL_res (l : List UInt8) : Res l (rdL l) := by
  unfold rdL; split
  · rename_i h; exact .inl ⟨_, h.choose_spec, rfl⟩
  · rename_i h; exact .inr ⟨fun n hn => h ⟨n, hn⟩, rfl⟩
theorem rd_ev (s : ByteArray) : Ev (fun k => digits_Read.f k s) (rdL (L s)) := by
  obtain ⟨r, h1, h2⟩ := read_res s
  rw [Res.unique h2 (rdL_res _)] at h1; exact h1
theorem refrd_ev (s : ByteArray) : Ev (fun k => plummetref01_Read.f k s) (rdL (L s)) := by
  obtain ⟨r, h1, h2⟩ := refread_res s
  rw [Res.unique h2 (rdL_res _)] at h1; exact h1
theorem rdL_num (n : Int) (h : Ok64 n) : rdL (decL n) = (n, true) := Res.unique (rdL_res _) (.inl ⟨n, ⟨h, rfl⟩, rfl⟩)
theorem rdL_true (l : List UInt8) (h : (rdL l).2 = true) : Ok64 (rdL l).1 ∧ l = decL (rdL l).1 := by
  rcases rdL_res l with ⟨n, hn, e⟩ | ⟨_, e⟩
  · rw [e]; exact hn
  · rw [e] at h; cases h
noncomputable def splitGo : List UInt8 → List UInt8 → List Int → List Int × Int
  | part, [], out => if (rdL part).2 = true then (out ++ [(rdL part).1], 0) else ([], 4)
  | part, c :: t, out => if c = 32 then (if (rdL part).2 = true then splitGo [] t (out ++ [(rdL part).1]) else ([], 4)) else splitGo (part ++ [c]) t out
noncomputable def splitL (l : List UInt8) : List Int × Int := if l = [] then ([], 0) else splitGo [] l []
theorem mid_snoc (l : List UInt8) (a b : Nat) (hab : a ≤ b) (hb : b < l.length) : (l.drop a).take (b + 1 - a) = (l.drop a).take (b - a) ++ [l[b]] := by
  rw [show b + 1 - a = (b - a) + 1 by omega, List.take_succ_eq_append_getElem (by rewrite [List.length_drop]; omega)]
  congr 2
  rw [List.getElem_drop]; congr 1; omega
theorem split1_ev (s : ByteArray) (hs : s.size ≤ 1000000) : ∀ (d : Nat), ∀ (a b : Nat) (out : List Int), s.size - b = d → a ≤ b → b ≤ s.size → out.length ≤ a →
    Ev (fun k => digits_Split.l1 k s out (a : Int) (b : Int)) (splitGo (((L s).drop a).take (b - a)) ((L s).drop b) out) := by
  intro d
  induction d with
  | zero =>
    intro a b out hd hab hb ho
    have : b = s.size := by omega
    subst this
    rw [show (L s).drop s.size = [] from List.drop_of_length_le (by rewrite [L_len]; omega)]
    refine Ev.step (f := fun k => digits_Split.j2 k s out (a : Int) (s.size : Int)) (fun k => ?_) ?_
    · simp only [digits_Split.l1]; rw [if_neg (by omega)]
    · have hr := rd_ev (s.extract a s.size)
      rw [L_extract] at hr
      refine Ev.step (fun k => ?_) (Ev.bind hr (f := fun k (bt : Int × Bool) => if bt.2 = true then (if out.length < 17592186044416 then ((some (out ++ [bt.1] : List Int)).bind fun y => (if (s.size : Int) = (s.size : Int) then (some (y, 0)) else (digits_Split.l0 k s y (wrap64 ((s.size : Int) + 1))))) else none) else (some (([] : List Int), 4))) (Ev.congr (fun k => ?_) (Ev.now _)))
      · simp only [digits_Split.j2]
        rw [if_pos (by omega), if_pos (by omega), if_pos (by omega)]
        simp only [Int.toNat_natCast]
      · simp only [splitGo]
        rw [if_pos (show out.length < 17592186044416 by omega)]
        simp only [Option.bind_some, if_true]
        split <;> rfl
  | succ d ih =>
    intro a b out hd hab hb ho
    have hlt : b < (L s).length := by rewrite [L_len]; omega
    have hbt := bt_get s b hlt
    have hsz : (b : Int) < (s.size : Int) := by omega
    rw [List.drop_eq_getElem_cons hlt]
    simp only [splitGo]
    have hw : wrap64 ((b : Int) + 1) = ((b + 1 : Nat) : Int) := by unfold wrap64; omega
    by_cases hc : (L s)[b] = 32
    · rw [if_pos hc]
      refine Ev.step (f := fun k => digits_Split.j2 k s out (a : Int) (b : Int)) (fun k => ?_) ?_
      · simp only [digits_Split.l1]
        rw [if_pos hsz, if_pos (by omega), if_pos (by rw [hbt, hc]; rfl)]
      · have hr := rd_ev (s.extract a b)
        rw [L_extract] at hr
        by_cases hn : (rdL (((L s).drop a).take (b - a))).2 = true
        · rw [if_pos hn]
          have h1 := ih (b + 1) (b + 1) (out ++ [(rdL (((L s).drop a).take (b - a))).1]) (by omega) (Nat.le_refl _) (by omega) (by simp; omega)
          rw [Nat.sub_self, List.take_zero] at h1
          have h2 : Ev (fun k => digits_Split.l0 k s (out ++ [(rdL (((L s).drop a).take (b - a))).1]) ((b + 1 : Nat) : Int)) (splitGo [] ((L s).drop (b + 1)) (out ++ [(rdL (((L s).drop a).take (b - a))).1])) := by
            refine Ev.step (fun k => ?_) h1
            simp only [digits_Split.l0]; rw [if_pos (by omega)]
          refine Ev.step (fun k => ?_) (Ev.bind hr (f := fun k (bt : Int × Bool) => if bt.2 = true then (if out.length < 17592186044416 then ((some (out ++ [bt.1] : List Int)).bind fun y => (if (b : Int) = (s.size : Int) then (some (y, 0)) else (digits_Split.l0 k s y (wrap64 ((b : Int) + 1))))) else none) else (some (([] : List Int), 4))) (Ev.congr (fun k => ?_) h2))
          · simp only [digits_Split.j2]
            rw [if_pos (by omega), if_pos (by omega), if_pos (by omega)]
            simp only [Int.toNat_natCast]
          · rw [if_pos hn, if_pos (by omega)]
            simp only [Option.bind_some]
            rw [if_neg (by omega), hw]
        · rw [if_neg hn]
          refine Ev.step (fun k => ?_) (Ev.bind hr (f := fun k (bt : Int × Bool) => if bt.2 = true then (if out.length < 17592186044416 then ((some (out ++ [bt.1] : List Int)).bind fun y => (if (b : Int) = (s.size : Int) then (some (y, 0)) else (digits_Split.l0 k s y (wrap64 ((b : Int) + 1))))) else none) else (some (([] : List Int), 4))) (Ev.congr (f := fun _ => some ([], 4)) (fun k => ?_) (Ev.now _)))
          · simp only [digits_Split.j2]
            rw [if_pos (by omega), if_pos (by omega), if_pos (by omega)]
            simp only [Int.toNat_natCast]
          · rw [if_neg hn]
    · rw [if_neg hc]
      have h1 := ih a (b + 1) out (by omega) (by omega) (by omega) ho
      rw [mid_snoc _ _ _ hab hlt] at h1
      refine Ev.step (fun k => ?_) h1
      simp only [digits_Split.l1]
      have : ¬ bt s (b : Int) = 32 := by
        rw [hbt]; intro h
        exact hc (UInt8.toNat_inj.1 (by have : (32 : UInt8).toNat = 32 := rfl; omega))
      rw [if_pos hsz, if_pos (by omega), if_neg this, hw]
theorem split_ev (s : ByteArray) (hs : s.size ≤ 1000000) : Ev (fun k => digits_Split.f k s) (splitL (L s)) := by
  unfold splitL
  by_cases h0 : L s = []
  · rw [if_pos h0]
    refine Ev.congr (f := fun k => digits_Split.l0 k s [] 0) (fun k => rfl) (Ev.step (f := fun _ => some ([], 0)) (fun k => ?_) (Ev.now _))
    simp only [digits_Split.l0]
    rw [if_neg (by have hz : s.size = 0 := by { rw [← L_len, h0]; rfl }
                   omega)]
  · rw [if_neg h0]
    have h1 := split1_ev s hs s.size 0 0 [] (by omega) (by omega) (by omega) (by simp)
    refine Ev.congr (f := fun k => digits_Split.l0 k s [] 0) (fun k => rfl) (Ev.step (fun k => ?_) h1)
    simp only [digits_Split.l0]
    have : 0 < (L s).length := List.length_pos_iff.2 h0
    rw [L_len] at this
    rw [if_pos (by omega)]; rfl
theorem refsplit1_ev (s : ByteArray) (hs : s.size ≤ 1000000) : ∀ (d : Nat), ∀ (b : Nat) (part : List UInt8) (out : List Int), s.size - b = d → b ≤ s.size → out.length + part.length ≤ b →
    Ev (fun k => plummetref01_Split.l0 k s out (B part) (b : Int)) (splitGo part ((L s).drop b) out) := by
  intro d
  induction d with
  | zero =>
    intro b part out hd hb ho
    have : b = s.size := by omega
    subst this
    rw [List.drop_of_length_le (by rewrite [L_len]; omega)]
    have hr := refrd_ev (B part)
    rw [L_B] at hr
    refine Ev.step (f := fun k => plummetref01_Split.j1 k s out (B part) (s.size : Int) false) (fun k => ?_) ?_
    · simp only [plummetref01_Split.l0]; rw [if_pos (by omega), if_neg (by omega)]
    · simp only [splitGo]
      have hw : wrap64 ((s.size : Int) + 1) = ((s.size + 1 : Nat) : Int) := by unfold wrap64; omega
      by_cases hn : (rdL part).2 = true
      · rw [if_pos hn]
        refine Ev.step (fun k => ?_) (Ev.bind hr (f := fun k (bt : Int × Bool) => if bt.2 = true then (if out.length < 17592186044416 then (plummetref01_Split.l0 k s (out ++ [bt.1]) (⟨#[]⟩ : ByteArray) (wrap64 ((s.size : Int) + 1))) else (none)) else (some (([] : List Int), 4))) (Ev.step (f := fun _ => some (out ++ [(rdL part).1], 0)) (fun k => ?_) (Ev.now _)))
        · simp only [plummetref01_Split.j1]
          rw [if_neg (by simp)]
        · rw [if_pos hn, if_pos (by omega), hw]
          simp only [plummetref01_Split.l0]
          rw [if_neg (by omega)]
      · rw [if_neg hn]
        refine Ev.step (fun k => ?_) (Ev.bind hr (f := fun k (bt : Int × Bool) => if bt.2 = true then (if out.length < 17592186044416 then (plummetref01_Split.l0 k s (out ++ [bt.1]) (⟨#[]⟩ : ByteArray) (wrap64 ((s.size : Int) + 1))) else (none)) else (some (([] : List Int), 4))) (Ev.congr (f := fun _ => some ([], 4)) (fun k => ?_) (Ev.now _)))
        · simp only [plummetref01_Split.j1]
          rw [if_neg (by simp)]
        · rw [if_neg hn]
  | succ d ih =>
    intro b part out hd hb ho
    have hlt : b < (L s).length := by rewrite [L_len]; omega
    have hbt := bt_get s b hlt
    have hsz : (b : Int) < (s.size : Int) := by omega
    rw [List.drop_eq_getElem_cons hlt]
    simp only [splitGo]
    have hw : wrap64 ((b : Int) + 1) = ((b + 1 : Nat) : Int) := by unfold wrap64; omega
    by_cases hc : (L s)[b] = 32
    · rw [if_pos hc]
      have hr := refrd_ev (B part)
      rw [L_B] at hr
      refine Ev.step (f := fun k => plummetref01_Split.j1 k s out (B part) (b : Int) false) (fun k => ?_) ?_
      · simp only [plummetref01_Split.l0]
        rw [if_pos (by omega), if_pos hsz, if_pos (by omega), hbt, hc]; rfl
      · by_cases hn : (rdL part).2 = true
        · rw [if_pos hn]
          have h1 := ih (b + 1) [] (out ++ [(rdL part).1]) (by omega) (by omega) (by simp; omega)
          refine Ev.step (fun k => ?_) (Ev.bind hr (f := fun k (bt : Int × Bool) => if bt.2 = true then (if out.length < 17592186044416 then (plummetref01_Split.l0 k s (out ++ [bt.1]) (⟨#[]⟩ : ByteArray) (wrap64 ((b : Int) + 1))) else (none)) else (some (([] : List Int), 4))) (Ev.congr (fun k => ?_) h1))
          · simp only [plummetref01_Split.j1]
            rw [if_neg (by simp)]
          · rw [if_pos hn, if_pos (by omega), hw]; rfl
        · rw [if_neg hn]
          refine Ev.step (fun k => ?_) (Ev.bind hr (f := fun k (bt : Int × Bool) => if bt.2 = true then (if out.length < 17592186044416 then (plummetref01_Split.l0 k s (out ++ [bt.1]) (⟨#[]⟩ : ByteArray) (wrap64 ((b : Int) + 1))) else (none)) else (some (([] : List Int), 4))) (Ev.congr (f := fun _ => some ([], 4)) (fun k => ?_) (Ev.now _)))
          · simp only [plummetref01_Split.j1]
            rw [if_neg (by simp)]
          · rw [if_neg hn]
    · rw [if_neg hc]
      have h1 := ih (b + 1) (part ++ [(L s)[b]]) out (by omega) (by omega) (by simp; omega)
      have hne : ((((L s)[b].toNat : Int)) != 32) = true := by
        rw [bne_iff_ne]; intro h
        exact hc (UInt8.toNat_inj.1 (by have : (32 : UInt8).toNat = 32 := rfl; omega))
      have hx : s.extract b (b + 1) = B [(L s)[b]] := by
        rw [← B_L (s.extract b (b + 1)), L_extract]
        congr 1
        rw [List.drop_eq_getElem_cons hlt, show b + 1 - b = 1 by omega]; rfl
      refine Ev.step (f := fun k => plummetref01_Split.j1 k s out (B part) (b : Int) true) (fun k => ?_) (Ev.step (fun k => ?_) h1)
      · simp only [plummetref01_Split.l0]
        rw [if_pos (by omega), if_pos hsz, if_pos (by omega), hbt, hne]
      · simp only [plummetref01_Split.j1]
        rw [hw]
        simp only [Int.toNat_natCast]
        rw [if_pos trivial, if_pos (by omega), if_pos (by omega), if_pos (by omega), hx, B_size, B_size, if_pos (by simp; omega), B_app]
theorem refsplit_ev (s : ByteArray) (hs : s.size ≤ 1000000) : Ev (fun k => plummetref01_Split.f k s) (splitL (L s)) := by
  unfold splitL
  by_cases h0 : L s = []
  · rw [if_pos h0]
    refine Ev.congr (f := fun _ => some ([], 0)) (fun k => ?_) (Ev.now _)
    unfold plummetref01_Split.f
    rw [toList_L, if_pos h0]
  · rw [if_neg h0]
    refine Ev.congr (fun k => ?_) (refsplit1_ev s hs s.size 0 [] [] (by omega) (by omega) (by simp))
    unfold plummetref01_Split.f
    rw [toList_L, if_neg h0]; rfl

/-! ### there and back -/
theorem decL_no32 (n : Int) : ∀ c ∈ decL n, c ≠ 32 := by
  intro c hc e
  subst e
  have h : ∀ m, (32 : UInt8) ∉ decN m := fun m hm => by
    have := digs_decN m 32 hm
    unfold Dig at this; simp at this
  unfold decL at hc; split at hc
  · rcases List.mem_cons.1 hc with h1 | h1
    · cases h1
    · exact h _ h1
  · exact h _ hc
theorem go_app (p : List UInt8) (hp : ∀ c ∈ p, c ≠ 32) : ∀ (part t : List UInt8) (out : List Int), splitGo part (p ++ t) out = splitGo (part ++ p) t out := by
  induction p with
  | nil => intro part t out; simp
  | cons c p ih =>
    intro part t out
    rw [List.cons_append]
    simp only [splitGo]
    rw [if_neg (hp c (by simp)), ih (fun x hx => hp x (by simp [hx])), List.append_assoc]; rfl
theorem go_join (l : List Int) : ∀ (a : Int) (out : List Int), Ok64 a → (∀ x ∈ l, Ok64 x) → splitGo [] (joinL [32] (a :: l)) out = (out ++ a :: l, 0) := by
  induction l with
  | nil =>
    intro a out ha _
    simp only [joinL, List.flatMap_nil]
    rw [go_app _ (decL_no32 a)]
    simp [splitGo, rdL_num a ha]
  | cons b l ih =>
    intro a out ha hl
    have e : joinL [32] (a :: b :: l) = decL a ++ (32 :: joinL [32] (b :: l)) := by simp [joinL]
    rw [e, go_app _ (decL_no32 a)]
    simp only [splitGo, List.nil_append, rdL_num a ha, if_true]
    rw [ih b _ (hl b (by simp)) (fun x hx => hl x (by simp [hx]))]
    simp
theorem split_join (l : List Int) (hl : ∀ x ∈ l, Ok64 x) : splitL (joinL [32] l) = (l, 0) := by
  unfold splitL
  cases l with
  | nil => rw [if_pos (show joinL [32] [] = [] from rfl)]
  | cons a t =>
    have h := go_join t a [] (hl a (by simp)) (fun x hx => hl x (by simp [hx]))
    rw [if_neg (by intro e; have := (decL_len a (hl a (by simp))).1; simp [joinL] at e; rw [e.1] at this; simp at this), h]; rfl
theorem go_back (t : List UInt8) : ∀ (part : List UInt8) (out : List Int) (r : List Int), splitGo part t out = (r, 0) → ∃ a ns, r = out ++ a :: ns ∧ joinL [32] (a :: ns) = part ++ t ∧ ∀ x ∈ a :: ns, Ok64 x := by
  induction t with
  | nil =>
    intro part out r h
    simp only [splitGo] at h
    split at h
    · rename_i hn
      obtain ⟨h1, h2⟩ := rdL_true _ hn
      refine ⟨(rdL part).1, [], (Prod.mk.inj h).1.symm, ?_, by simpa using h1⟩
      simp [joinL]; exact h2.symm
    · have := (Prod.mk.inj h).2; omega
  | cons c t ih =>
    intro part out r h
    simp only [splitGo] at h
    split at h
    · rename_i hc
      split at h
      · rename_i hn
        obtain ⟨h1, h2⟩ := rdL_true _ hn
        obtain ⟨a, ns, hr, hj, ho⟩ := ih _ _ _ h
        refine ⟨(rdL part).1, a :: ns, by rw [hr]; simp, ?_, ?_⟩
        · have e : joinL [32] ((rdL part).1 :: a :: ns) = decL (rdL part).1 ++ (32 :: joinL [32] (a :: ns)) := by simp [joinL]
          rw [e, hj, ← h2, hc]; rfl
        · intro x hx
          rcases List.mem_cons.1 hx with rfl | hx
          · exact h1
          · exact ho x hx
      · have := (Prod.mk.inj h).2; omega
    · obtain ⟨a, ns, hr, hj, ho⟩ := ih _ _ _ h
      exact ⟨a, ns, hr, by rw [hj]; simp, ho⟩
theorem join_split (l : List UInt8) (r : List Int) (h : splitL l = (r, 0)) : joinL [32] r = l ∧ ∀ x ∈ r, Ok64 x := by
  unfold splitL at h
  split at h
  · rename_i h0
    have := (Prod.mk.inj h).1; subst this; rw [h0]; simp [joinL]
  · obtain ⟨a, ns, hr, hj, ho⟩ := go_back _ _ _ _ h
    rw [hr]; exact ⟨by simpa using hj, by simpa using ho⟩
theorem go_len (t : List UInt8) : ∀ (part : List UInt8) (out : List Int), (splitGo part t out).1.length ≤ out.length + 1 + t.length := by
  induction t with
  | nil => intro part out; simp only [splitGo]; split <;> simp
  | cons c t ih =>
    intro part out
    simp only [splitGo]
    split
    · split
      · have := ih [] (out ++ [(rdL part).1]); simp at this ⊢; omega
      · simp
    · have := ih (part ++ [c]) out; simp at this ⊢; omega
theorem split_len (l : List UInt8) : (splitL l).1.length ≤ l.length + 1 := by
  unfold splitL; split
  · simp
  · have := go_len l [] []; simp at this; omega
theorem split_two (l : List UInt8) : (splitL l).2 = 0 ∨ (splitL l) = ([], 4) := by
  have h : ∀ (t : List UInt8) (part : List UInt8) (out : List Int), (splitGo part t out).2 = 0 ∨ splitGo part t out = ([], 4) := by
    intro t
    induction t with
    | nil => intro part out; simp only [splitGo]; split <;> simp
    | cons c t ih =>
      intro part out
      simp only [splitGo]
      split
      · split
        · exact ih _ _
        · exact .inr rfl
      · exact ih _ _
  unfold splitL; split
  · exact .inl rfl
  · exact h _ _ _
/-! ### live -/
theorem live_ev : Ev (fun k => plummetlaw01_live.f k) true := by
  have d1 : decL (-42) = [45, 52, 50] := by rw [decL, if_pos (by omega), show (-42 : Int).natAbs = 42 from rfl, decN, if_neg (by omega), decN, if_pos (by omega)]; rfl
  have d2 : decL (-12) = [45, 49, 50] := by rw [decL, if_pos (by omega), show (-12 : Int).natAbs = 12 from rfl, decN, if_neg (by omega), decN, if_pos (by omega)]; rfl
  have d3 : decL 3 = [51] := by rw [decL, if_neg (by omega), show (3 : Int).natAbs = 3 from rfl, decN, if_pos (by omega)]; rfl
  have d4 : decL (-4) = [45, 52] := by rw [decL, if_pos (by omega), show (-4 : Int).natAbs = 4 from rfl, decN, if_pos (by omega)]; rfl
  have d5 : decL 1 = [49] := by rw [decL, if_neg (by omega), show (1 : Int).natAbs = 1 from rfl, decN, if_pos (by omega)]; rfl
  have d6 : decL 2 = [50] := by rw [decL, if_neg (by omega), show (2 : Int).natAbs = 2 from rfl, decN, if_pos (by omega)]; rfl
  have h1 : Ev (fun k => digits_Read.f k (⟨#[45, 52, 50]⟩ : ByteArray)) (-42, true) := by
    have := read_num (-42) ⟨by omega, by omega⟩; rw [d1] at this; exact this
  have h2 : Ev (fun k => digits_Split.f k (⟨#[51, 32, 45, 52]⟩ : ByteArray)) ([3, -4], 0) := by
    have h := split_ev (B (joinL [32] [3, -4])) (by simp [joinL, d3, d4, B_size])
    rw [L_B, split_join [3, -4] (by intro x hx; rcases List.mem_cons.1 hx with rfl | hx; exact ⟨by omega, by omega⟩; have := List.mem_singleton.1 hx; subst this; exact ⟨by omega, by omega⟩)] at h
    have e : B (joinL [32] [3, -4]) = ⟨#[51, 32, 45, 52]⟩ := by simp [joinL, d3, d4, B]
    rw [e] at h; exact h
  have h3 : Ev (fun k => digits_Join.f k (⟨#[44]⟩ : ByteArray) ([1, 2] : List Int)) (B [49, 44, 50]) := by
    have h := join_ev ⟨#[44]⟩ [1, 2] (by intro x hx; rcases List.mem_cons.1 hx with rfl | hx; exact ⟨by omega, by omega⟩; have := List.mem_singleton.1 hx; subst this; exact ⟨by omega, by omega⟩) (by simp [ByteArray.size]) (by simp)
    have e : joinL (L ⟨#[44]⟩) [1, 2] = [49, 44, 50] := by simp [joinL, d5, d6, L]
    rw [e] at h; exact h
  have h4 := same_ev [3, -4] [3, -4] (by simp)
  unfold plummetlaw01_live.f
  refine Ev.bind h1 (Ev.bind h2 ?_)
  rw [text_ev (-12) ⟨by omega, by omega⟩]
  simp only [Option.bind_some, toList_L, L_B, d2, if_true]
  refine Ev.bind h3 ?_
  simp only [L_B, if_true]
  exact Ev.bind h4 (Ev.now _)
end Go.Proofs.Ytoaejpjgicnfoaa.PD
