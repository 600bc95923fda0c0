/-
  Small words for walks by hand: a block that is an array of cells; a slice cut from an array; bytes of such an array as a string.
-/
import Derived.Test.YtnenmiaeomcdpaaWMore
import Derived.Lib.SlBytesRow
namespace Go.Proofs.Ytnenmiaeomcdpaa.Base
open Go.RowKit Go.Proofs.YtnenmiaeomcdpaaW.PrintWords

/-- block b is an array of cells -/
def Arr (w : World) (b : Nat) (xs : List Value) (t : TypeId) : Prop := w.heap[b]? = some (.cells xs.toArray t (0, 0))
theorem Arr.cell {w : World} {b : Nat} {xs : List Value} {t : TypeId} (h : Arr w b xs t) (i : Nat) (hi : i < xs.length) : w.cell? ⟨b, i, none⟩ = some xs[i] := by
  unfold Arr at h; simp [World.cell?, h, hi]
theorem Arr.free {w : World} {b : Nat} {xs : List Value} {t : TypeId} (h : Arr w b xs t) (i : Nat) : w.frozen? ⟨b, i, none⟩ = false := by
  unfold Arr at h; simp [World.frozen?, h]
theorem Arr.set {w : World} {b : Nat} {xs : List Value} {t : TypeId} (h : Arr w b xs t) (i : Nat) (v : Value) : Arr (w.setCell ⟨b, i, none⟩ v) b (xs.set i v) t := by
  unfold Arr at *; simp [World.setCell, Array.getElem?_modify, h]
theorem Arr.new (w : World) (xs : List Value) (t : TypeId) : Arr (w.alloc (.cells xs.toArray t (0, 0))) w.heap.size xs t := by
  unfold Arr; show (w.heap.push _)[w.heap.size]? = _; simp
theorem Arr.lt {w : World} {b : Nat} {xs : List Value} {t : TypeId} (h : Arr w b xs t) : b < w.heap.size := by
  unfold Arr at h; exact (Array.getElem?_eq_some_iff.1 h).1
theorem Arr.below {w w' : World} {b B : Nat} {xs : List Value} {t : TypeId} (h : Arr w b xs t) (hb : Below B w w') (hB : b < B) : Arr w' b xs t := by
  unfold Arr at *; rw [hb.block b hB]; exact h
theorem drop_set (xs : List Value) (i : Nat) (v : Value) (h : i < xs.length) : (xs.set i v).drop i = v :: xs.drop (i + 1) := by
  rw [List.drop_eq_getElem_cons (by simpa using h)]
  simp [List.drop_set]
def u8v (c : UInt8) : Value := .int .u8 (c.toNat : Int)
theorem u8v_ofNat (m : Nat) (h : m < 256) : u8v (UInt8.ofNat m) = .int .u8 (m : Int) := by
  have h1 : m % 256 = m := by omega
  simp [u8v, UInt8.toNat_ofNat', h1]
theorem run_sliceAt_low {P : Program} (w : World) (T e : TypeId) (N : Nat) (hT : P.underlying T = some (.array N e)) (hz : (sizeOf e).run P w = .ok 1 w) (b l : Nat) (k : IntKind) (i : Int) (hi : i = (l : Int)) (hl : l < N) :
    (Instr.sliceAt T (.pointer (some ⟨b, 0, none⟩)) (some (.int k i)) none none).run P w = .ok (.slice (some ⟨b, l, none⟩) (N - l) (N - l)) w := by
  subst hi
  have h1 : P.arrayLen T = N := by simp [Program.arrayLen, hT]
  have h2 : P.elem T = e := by simp [Program.elem, hT]
  rw [run_sliceAt_array_l w T ⟨b, 0, none⟩ (by rw [h1, h2]; exact hT) k l (by omega) (by omega), h1, h2, hz]
  simp only [Result.andThen, slicedAt, Int.toNat_natCast]
  rw [if_neg (by omega)]
  simp [Addr.add]
  intro h; exact h.symm
theorem bytes_of_arr {w : World} {b : Nat} {xs : List Value} {t : TypeId} (h : Arr w b xs t) (o : Nat) (ds : List UInt8) (hd : xs.drop o = ds.map u8v) : Lib.Bytes w b o ⟨ds.toArray⟩ := by
  intro i hi
  have hi' : i < ds.length := by simpa [ByteArray.size] using hi
  have hl : xs.length - o = ds.length := by have := congrArg List.length hd; simpa using this
  rw [h.cell (o + i) (by omega)]
  have h2 : (xs.drop o)[i]? = some (u8v ds[i]) := by rw [hd]; simp [hi']
  rw [List.getElem?_drop, List.getElem?_eq_getElem (by omega)] at h2
  rw [Option.some.inj h2]
  rfl
theorem run_convert_arr {P : Program} {w : World} {b : Nat} {xs : List Value} {t : TypeId} (h : Arr w b xs t) (src e dst : TypeId) (hs : P.underlying src = some (.slice e)) (he : P.underlying e = some (.int .u8)) (hd : P.underlying dst = some .string)
    (o : Nat) (ds : List UInt8) (hx : xs.drop o = ds.map u8v) (n cap : Nat) (hn : n = ds.length) : (convert src dst (.slice (some ⟨b, o, none⟩) n cap)).run P w = .ok (.string ⟨ds.toArray⟩) w := by
  subst hn
  have := Lib.run_convert_whole (P := P) w src e dst hs he hd b o ⟨ds.toArray⟩ (bytes_of_arr h o ds hx) cap
  simpa [ByteArray.size] using this

end Go.Proofs.Ytnenmiaeomcdpaa.Base
