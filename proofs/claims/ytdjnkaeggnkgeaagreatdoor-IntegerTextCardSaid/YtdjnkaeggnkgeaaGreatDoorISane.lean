/- sane of dialtonelaw03. -/
import Derived.Test.YtdjnkaeggnkgeaaGreatDoorIMade
import Derived.Test.YtdjnkaeggnkgeaaGreatDoorIDiv
import Derived.Test.YtdjnkaeggnkgeaaGreatDoorIRoot
import Derived.Test.YtdjnkaeggnkgeaaGreatDoorICompare
namespace Go.Proofs.YtdjnkaeggnkgeaaGreatDoor
set_option linter.unusedVariables false
set_option linter.unusedSimpArgs false
open Go.RowKit Go.Shelf
theorem fits_of {z : Int} (h : Lib.nDigits z.natAbs ≤ 200) : Ig.fits z := (Ig.fits_iff z).2 h
section
variable (w : World)
theorem sane1 (hE : Env w) : Calls Tryz.prog 14 #[.string ⟨#[57, 57, 57]⟩, .string ⟨#[49]⟩] w fun e w' => e = .returned (.tuple #[.string ⟨#[49, 48, 48, 48]⟩, .int .i64 0]) ∧ Below w.heap.size w w' := by
  have h := Add_any 999 1 w (fits_of (by decide +kernel)) (fits_of (by decide +kernel)) hE
  rw [show Lib.itoa 999 = [57, 57, 57] by decide +kernel, show Lib.itoa 1 = [49] by decide +kernel, show Ig.resS (999 + 1) = [49, 48, 48, 48] by decide +kernel, show Ig.resE (999 + 1) = 0 by decide +kernel] at h
  exact h
theorem sane2 (hE : Env w) : Calls Tryz.prog 16 #[.string ⟨#[49]⟩, .string ⟨#[49, 48, 48, 48]⟩] w fun e w' => e = .returned (.tuple #[.string ⟨#[45, 57, 57, 57]⟩, .int .i64 0]) ∧ Below w.heap.size w w' := by
  have h := Sub_any 1 1000 w (fits_of (by decide +kernel)) (fits_of (by decide +kernel)) hE
  rw [show Lib.itoa 1000 = [49, 48, 48, 48] by decide +kernel, show Lib.itoa 1 = [49] by decide +kernel, show Ig.resS (1 - 1000) = [45, 57, 57, 57] by decide +kernel, show Ig.resE (1 - 1000) = 0 by decide +kernel] at h
  exact h
theorem sane3 (hE : Env w) : Calls Tryz.prog 15 #[.string ⟨#[45, 49, 50]⟩, .string ⟨#[49, 50]⟩] w fun e w' => e = .returned (.tuple #[.string ⟨#[45, 49, 52, 52]⟩, .int .i64 0]) ∧ Below w.heap.size w w' := by
  have h := Mul_any (-12) 12 w (fits_of (by decide +kernel)) (fits_of (by decide +kernel)) hE
  rw [show Lib.itoa (-12) = [45, 49, 50] by decide +kernel, show Lib.itoa 12 = [49, 50] by decide +kernel, show Ig.resS (-12 * 12) = [45, 49, 52, 52] by decide +kernel, show Ig.resE (-12 * 12) = 0 by decide +kernel] at h
  exact h
theorem sane4 (hE : Env w) : Calls Tryz.prog 17 #[.string ⟨#[45, 55]⟩, .string ⟨#[50]⟩] w fun e w' => e = .returned (.tuple #[.string ⟨#[45, 52]⟩, .string ⟨#[49]⟩, .int .i64 0]) ∧ Below w.heap.size w w' := by
  have h := Div_any (-7) 2 w (fits_of (by decide +kernel)) (fits_of (by decide +kernel)) (by decide) hE
  rw [show Lib.itoa (-7) = [45, 55] by decide +kernel, show Lib.itoa 2 = [50] by decide +kernel, show Lib.itoa (-7 / 2) = [45, 52] by decide +kernel, show Lib.itoa (-7 % 2) = [49] by decide +kernel] at h
  exact h
theorem sane5 (hE : Env w) : Calls Tryz.prog 17 #[.string ⟨#[45, 55]⟩, .string ⟨#[45, 50]⟩] w fun e w' => e = .returned (.tuple #[.string ⟨#[52]⟩, .string ⟨#[49]⟩, .int .i64 0]) ∧ Below w.heap.size w w' := by
  have h := Div_any (-7) (-2) w (fits_of (by decide +kernel)) (fits_of (by decide +kernel)) (by decide) hE
  rw [show Lib.itoa (-7) = [45, 55] by decide +kernel, show Lib.itoa (-2) = [45, 50] by decide +kernel, show Lib.itoa (-7 / -2) = [52] by decide +kernel, show Lib.itoa (-7 % -2) = [49] by decide +kernel] at h
  exact h
theorem sane6 (hE : Env w) : Calls Tryz.prog 20 #[.string ⟨#[49, 50]⟩, .string ⟨#[45, 49, 56]⟩] w fun e w' => e = .returned (.tuple #[.string ⟨#[54]⟩, .int .i64 0]) ∧ Below w.heap.size w w' := by
  have h := Gcd_any 12 (-18) w (fits_of (by decide +kernel)) (fits_of (by decide +kernel)) hE
  rw [show Lib.itoa 12 = [49, 50] by decide +kernel, show Lib.itoa (-18) = [45, 49, 56] by decide +kernel, show Lib.itoa ((Nat.gcd (12 : Int).natAbs (-18 : Int).natAbs : Nat) : Int) = [54] by decide +kernel] at h
  exact h
theorem root_99 {s : Nat} (h1 : s * s ≤ 99) (h2 : 99 < (s + 1) * (s + 1)) : s = 9 := by
  rcases Nat.lt_or_ge s 10 with h | h
  · rcases Nat.lt_or_ge s 9 with h' | h'
    · have := Nat.mul_le_mul (show s + 1 ≤ 9 by omega) (show s + 1 ≤ 9 by omega)
      omega
    · omega
  · have := Nat.mul_le_mul h h
    omega
theorem sane7 (hE : Env w) : Calls Tryz.prog 21 #[.string ⟨#[57, 57]⟩] w fun e w' => e = .returned (.tuple #[.string ⟨#[57]⟩, .int .i64 0]) ∧ Below w.heap.size w w' := by
  have h := Root_any 99 w (fits_of (by decide +kernel)) (by decide) hE
  rw [show Lib.itoa 99 = [57, 57] by decide +kernel] at h
  refine h.mono ?_
  rintro e w' ⟨s, rfl, h1, h2, hb⟩
  obtain rfl := root_99 h1 h2
  exact ⟨by rw [show Lib.itoa ((9 : Nat) : Int) = [57] by decide +kernel], hb⟩
theorem sane8 : Calls Tryz.prog 21 #[.string ⟨#[45, 49]⟩] w fun e w' => e = .returned (.tuple #[.string ⟨#[]⟩, .int .i64 30]) ∧ Below w.heap.size w w' := by
  have h := Root_neg (-1) w (fits_of (by decide +kernel)) (by decide)
  rw [show Lib.itoa (-1) = [45, 49] by decide +kernel] at h
  exact h
theorem sane9 : Calls Tryz.prog 14 #[.string ⟨#[48, 48, 55]⟩, .string ⟨#[49]⟩] w fun e w' => e = .returned (.tuple #[.string ⟨#[]⟩, .int .i64 30]) ∧ Below w.heap.size w w' :=
  Add_not [48, 48, 55] [49] w (by decide) (by decide) (.inl (by decide +kernel))
theorem sane10 : Calls Tryz.prog 19 #[.string ⟨#[45, 55]⟩] w fun e w' => e = .returned (.bool true) ∧ Below w.heap.size w w' := by
  have h := Valid_any [45, 55] (by decide) w
  rw [show Ig.validS [45, 55] = true by decide +kernel] at h
  exact h
theorem sane11 : Calls Tryz.prog 19 #[.string ⟨#[45, 48]⟩] w fun e w' => e = .returned (.bool false) ∧ Below w.heap.size w w' := by
  have h := Valid_any [45, 48] (by decide) w
  rw [show Ig.validS [45, 48] = false by decide +kernel] at h
  exact h
theorem sane12 : Calls Tryz.prog 19 #[.string ⟨#[]⟩] w fun e w' => e = .returned (.bool false) ∧ Below w.heap.size w w' := by
  have h := Valid_any [] (by decide) w
  rw [show Ig.validS [] = false by decide +kernel] at h
  exact h
theorem sane13 : Calls Tryz.prog 18 #[.string ⟨#[45, 56]⟩, .string ⟨#[45, 55]⟩] w fun e w' => e = .returned (.int .i64 (-1)) ∧ Below w.heap.size w w' := by
  have h := Compare_any (-8) (-7) w (fits_of (by decide +kernel)) (fits_of (by decide +kernel))
  rw [show Lib.itoa (-8) = [45, 56] by decide +kernel, show Lib.itoa (-7) = [45, 55] by decide +kernel, show cmpZ (-8) (-7) = -1 by decide +kernel] at h
  exact h
end
set_option maxRecDepth 100000 in
set_option maxHeartbeats 8000000 in
theorem sane_any (w : World) (hE : Env w) : Calls Tryz.prog 12 #[] w fun e w' => e = .returned (.bool true) ∧ Below w.heap.size w w' := by
  go_enter Tryz.func12, Tryz.ntmps12
  go_wp2_with fail
  refine (sane1 _ hE).mono ?_
  rintro _ w1 ⟨rfl, hb⟩
  replace hE := hE.below hb
  go_wp2_with fail
  refine (sane2 _ hE).mono ?_
  rintro _ w2 ⟨rfl, hb1⟩
  replace hE := hE.below hb1
  replace hb := bCall hb hb1
  go_wp2_with fail
  refine (sane3 _ hE).mono ?_
  rintro _ w3 ⟨rfl, hb1⟩
  replace hE := hE.below hb1
  replace hb := bCall hb hb1
  go_wp2_with fail
  refine (sane4 _ hE).mono ?_
  rintro _ w4 ⟨rfl, hb1⟩
  replace hE := hE.below hb1
  replace hb := bCall hb hb1
  go_wp2_with fail
  refine (sane5 _ hE).mono ?_
  rintro _ w5 ⟨rfl, hb1⟩
  replace hE := hE.below hb1
  replace hb := bCall hb hb1
  go_wp2_with fail
  refine (sane6 _ hE).mono ?_
  rintro _ w6 ⟨rfl, hb1⟩
  replace hE := hE.below hb1
  replace hb := bCall hb hb1
  go_wp2_with fail
  refine (sane7 _ hE).mono ?_
  rintro _ w7 ⟨rfl, hb1⟩
  replace hE := hE.below hb1
  replace hb := bCall hb hb1
  go_wp2_with fail
  refine (sane8 _).mono ?_
  rintro _ w8 ⟨rfl, hb1⟩
  replace hb := bCall hb hb1
  go_wp2_with fail
  refine (sane9 _).mono ?_
  rintro _ w9 ⟨rfl, hb1⟩
  replace hb := bCall hb hb1
  go_wp2_with fail
  refine (sane10 _).mono ?_
  rintro _ w10 ⟨rfl, hb1⟩
  replace hb := bCall hb hb1
  go_wp2_with fail
  refine (sane11 _).mono ?_
  rintro _ w11 ⟨rfl, hb1⟩
  replace hb := bCall hb hb1
  go_wp2_with fail
  refine (sane12 _).mono ?_
  rintro _ w12 ⟨rfl, hb1⟩
  replace hb := bCall hb hb1
  go_wp2_with fail
  refine (sane13 _).mono ?_
  rintro _ w13 ⟨rfl, hb1⟩
  replace hb := bCall hb hb1
  go_wp2
  go_ret
  exact ⟨rfl, hb⟩
end Go.Proofs.YtdjnkaeggnkgeaaGreatDoor
