/- What the laws of package dialtonelaw03 share: sizes, contracts with their results named. -/
import Derived.Test.YtdjnkaeggnkgeaaGreatDoorISane
namespace Ig
/-- a number of at most k digits -/
def Sz (k : Nat) (z : Int) : Prop := z.natAbs < 10 ^ k
theorem Sz.mono {j k : Nat} {z : Int} (h : Sz j z) (hk : j ≤ k) : Sz k z := Nat.lt_of_lt_of_le h (Nat.pow_le_pow_right (by decide) hk)
theorem Sz.fits {k : Nat} {z : Int} (h : Sz k z) (hk : k ≤ 200) : Ig.fits z := h.mono hk
theorem Sz.add {k : Nat} {x y : Int} (hx : Sz k x) (hy : Sz k y) : Sz (k + 1) (x + y) := by
  unfold Sz at *
  rw [Nat.pow_succ]
  omega
theorem Sz.neg {k : Nat} {x : Int} (hx : Sz k x) : Sz k (-x) := by unfold Sz at *; omega
theorem Sz.sub {k : Nat} {x y : Int} (hx : Sz k x) (hy : Sz k y) : Sz (k + 1) (x - y) := by
  rw [Int.sub_eq_add_neg]; exact hx.add hy.neg
theorem Sz.mul {j k : Nat} {x y : Int} (hx : Sz j x) (hy : Sz k y) : Sz (j + k) (x * y) := by
  unfold Sz at *
  rw [Int.natAbs_mul, Nat.pow_add]
  exact Nat.mul_lt_mul'' hx hy
theorem sz_zero (k : Nat) : Sz k 0 := Nat.pow_pos (by decide)
theorem sz_one : Sz 1 1 := by unfold Sz; decide
theorem sz_abs {k : Nat} {z : Int} (h : Sz k z) : Sz k (z.natAbs : Int) := by unfold Sz at *; rw [Int.natAbs_natCast]; exact h
end Ig
namespace Go.Proofs.YtdjnkaeggnkgeaaGreatDoor
set_option linter.unusedVariables false
set_option linter.unusedSimpArgs false
open Go.RowKit Go.Shelf
theorem itoa_one : Lib.itoa 1 = [49] := by decide +kernel
theorem made_sz (s : List UInt8) (m : Nat) : Ig.Sz m (sgn (Dx.madeB s) (Dx.madeN s m)) := by
  unfold Ig.Sz
  rw [sgn_abs]
  exact Dx.madeN_lt s m
section
variable (w : World)
theorem Add_ok (x y z : Int) (h : x + y = z) {j k l : Nat} (hx : Ig.Sz j x) (hy : Ig.Sz k y) (hz : Ig.Sz l z) (hj : j ≤ 200) (hk : k ≤ 200) (hl : l ≤ 200) (hE : Env w) :
    Calls Tryz.prog 14 #[.string ⟨(Lib.itoa x).toArray⟩, .string ⟨(Lib.itoa y).toArray⟩] w fun e w' => e = .returned (.tuple #[.string ⟨(Lib.itoa z).toArray⟩, .int .i64 0]) ∧ Below w.heap.size w w' := by
  have h1 := Add_any x y w (hx.fits hj) (hy.fits hk) hE
  rw [h, Ig.resS_fits (hz.fits hl), Ig.resE_fits (hz.fits hl)] at h1
  exact h1
theorem Sub_ok (x y z : Int) (h : x - y = z) {j k l : Nat} (hx : Ig.Sz j x) (hy : Ig.Sz k y) (hz : Ig.Sz l z) (hj : j ≤ 200) (hk : k ≤ 200) (hl : l ≤ 200) (hE : Env w) :
    Calls Tryz.prog 16 #[.string ⟨(Lib.itoa x).toArray⟩, .string ⟨(Lib.itoa y).toArray⟩] w fun e w' => e = .returned (.tuple #[.string ⟨(Lib.itoa z).toArray⟩, .int .i64 0]) ∧ Below w.heap.size w w' := by
  have h1 := Sub_any x y w (hx.fits hj) (hy.fits hk) hE
  rw [h, Ig.resS_fits (hz.fits hl), Ig.resE_fits (hz.fits hl)] at h1
  exact h1
theorem Mul_ok (x y z : Int) (h : x * y = z) {j k l : Nat} (hx : Ig.Sz j x) (hy : Ig.Sz k y) (hz : Ig.Sz l z) (hj : j ≤ 200) (hk : k ≤ 200) (hl : l ≤ 200) (hE : Env w) :
    Calls Tryz.prog 15 #[.string ⟨(Lib.itoa x).toArray⟩, .string ⟨(Lib.itoa y).toArray⟩] w fun e w' => e = .returned (.tuple #[.string ⟨(Lib.itoa z).toArray⟩, .int .i64 0]) ∧ Below w.heap.size w w' := by
  have h1 := Mul_any x y w (hx.fits hj) (hy.fits hk) hE
  rw [h, Ig.resS_fits (hz.fits hl), Ig.resE_fits (hz.fits hl)] at h1
  exact h1
theorem Cmp_ok (x y c : Int) (h : cmpZ x y = c) {j k : Nat} (hx : Ig.Sz j x) (hy : Ig.Sz k y) (hj : j ≤ 200) (hk : k ≤ 200) :
    Calls Tryz.prog 18 #[.string ⟨(Lib.itoa x).toArray⟩, .string ⟨(Lib.itoa y).toArray⟩] w fun e w' => e = .returned (.int .i64 c) ∧ Below w.heap.size w w' := by
  rw [← h]
  exact Compare_any x y w (hx.fits hj) (hy.fits hk)
end
end Go.Proofs.YtdjnkaeggnkgeaaGreatDoor
