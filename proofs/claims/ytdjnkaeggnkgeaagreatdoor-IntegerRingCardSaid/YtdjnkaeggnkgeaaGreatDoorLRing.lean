/- IntegerRing: the walk. -/
import Derived.Test.YtdjnkaeggnkgeaaGreatDoorILaw
namespace Go.Proofs.YtdjnkaeggnkgeaaGreatDoor
set_option linter.unusedVariables false
set_option linter.unusedSimpArgs false
open Go.RowKit Go.Shelf
set_option maxRecDepth 100000 in
set_option maxHeartbeats 8000000 in
theorem integerRing_any (a : List UInt8) (b : List UInt8) (c : List UInt8) (w : World) (la : a.length ≤ 9223372036854775807) (lb : b.length ≤ 9223372036854775807) (lc : c.length ≤ 9223372036854775807) (hE : Env w) :
    Calls Tryz.prog 3 #[.string ⟨a.toArray⟩, .string ⟨b.toArray⟩, .string ⟨c.toArray⟩] w fun e w' => e = .returned (.bool true) ∧ Below w.heap.size w w' := by
  have hb := Below.refl w.heap.size w
  have mX := fun w0 => Made_any a 60 w0 la (by decide)
  have hX := made_sz a 60
  generalize sgn (Dx.madeB a) (Dx.madeN a 60) = X at *
  have mY := fun w0 => Made_any b 60 w0 lb (by decide)
  have hY := made_sz b 60
  generalize sgn (Dx.madeB b) (Dx.madeN b 60) = Y at *
  have mZ := fun w0 => Made_any c 60 w0 lc (by decide)
  have hZ := made_sz c 60
  generalize sgn (Dx.madeB c) (Dx.madeN c 60) = Z at *
  have sXY := hX.add hY
  have sXYZ := sXY.add (hZ.mono (show 60 ≤ 61 by decide))
  have sYZ := hY.add hZ
  have pXY := hX.mul hY
  have pXYZ := pXY.mul hZ
  have pYZ := hY.mul hZ
  have pXZ := hX.mul hZ
  have sub := hX.sub hY
  have one := itoa_one
  go_enter Tryz.func3, Tryz.ntmps3
  go_wp2_with fail
  refine (sane_any _ hE).mono ?_
  rintro _ w1 ⟨rfl, hb1⟩
  replace hE := hE.below hb1
  replace hb := bCall hb hb1
  clear hb1
  go_wp2_with fail
  refine (mX _).mono ?_
  rintro _ w2 ⟨rfl, hb1⟩
  replace hE := hE.below hb1
  replace hb := bCall hb hb1
  clear hb1
  go_wp2_with fail
  refine (mY _).mono ?_
  rintro _ w3 ⟨rfl, hb1⟩
  replace hE := hE.below hb1
  replace hb := bCall hb hb1
  clear hb1
  go_wp2_with fail
  refine (mZ _).mono ?_
  rintro _ w4 ⟨rfl, hb1⟩
  replace hE := hE.below hb1
  replace hb := bCall hb hb1
  clear hb1
  go_wp2_with fail
  refine (Add_ok _ X Y (X + Y) rfl hX hY sXY (by decide) (by decide) (by decide) hE).mono ?_
  rintro _ w5 ⟨rfl, hb1⟩
  replace hE := hE.below hb1
  replace hb := bCall hb hb1
  clear hb1
  go_wp2_with fail
  refine (Add_ok _ Y X (X + Y) (Int.add_comm Y X) hY hX sXY (by decide) (by decide) (by decide) hE).mono ?_
  rintro _ w6 ⟨rfl, hb1⟩
  replace hE := hE.below hb1
  replace hb := bCall hb hb1
  clear hb1
  go_wp2_with fail
  refine (Add_ok _ (X + Y) Z (X + Y + Z) rfl sXY hZ sXYZ (by decide) (by decide) (by decide) hE).mono ?_
  rintro _ w7 ⟨rfl, hb1⟩
  replace hE := hE.below hb1
  replace hb := bCall hb hb1
  clear hb1
  go_wp2_with fail
  refine (Add_ok _ Y Z (Y + Z) rfl hY hZ sYZ (by decide) (by decide) (by decide) hE).mono ?_
  rintro _ w8 ⟨rfl, hb1⟩
  replace hE := hE.below hb1
  replace hb := bCall hb hb1
  clear hb1
  go_wp2_with fail
  refine (Add_ok _ X (Y + Z) (X + Y + Z) (Int.add_assoc X Y Z).symm hX sYZ sXYZ (by decide) (by decide) (by decide) hE).mono ?_
  rintro _ w9 ⟨rfl, hb1⟩
  replace hE := hE.below hb1
  replace hb := bCall hb hb1
  clear hb1
  go_wp2_with fail
  refine (Mul_ok _ X Y (X * Y) rfl hX hY pXY (by decide) (by decide) (by decide) hE).mono ?_
  rintro _ w10 ⟨rfl, hb1⟩
  replace hE := hE.below hb1
  replace hb := bCall hb hb1
  clear hb1
  go_wp2_with fail
  refine (Mul_ok _ Y X (X * Y) (Int.mul_comm Y X) hY hX pXY (by decide) (by decide) (by decide) hE).mono ?_
  rintro _ w11 ⟨rfl, hb1⟩
  replace hE := hE.below hb1
  replace hb := bCall hb hb1
  clear hb1
  go_wp2_with fail
  refine (Mul_ok _ (X * Y) Z (X * Y * Z) rfl pXY hZ pXYZ (by decide) (by decide) (by decide) hE).mono ?_
  rintro _ w12 ⟨rfl, hb1⟩
  replace hE := hE.below hb1
  replace hb := bCall hb hb1
  clear hb1
  go_wp2_with fail
  refine (Mul_ok _ Y Z (Y * Z) rfl hY hZ pYZ (by decide) (by decide) (by decide) hE).mono ?_
  rintro _ w13 ⟨rfl, hb1⟩
  replace hE := hE.below hb1
  replace hb := bCall hb hb1
  clear hb1
  go_wp2_with fail
  refine (Mul_ok _ X (Y * Z) (X * Y * Z) (Int.mul_assoc X Y Z).symm hX pYZ pXYZ (by decide) (by decide) (by decide) hE).mono ?_
  rintro _ w14 ⟨rfl, hb1⟩
  replace hE := hE.below hb1
  replace hb := bCall hb hb1
  clear hb1
  go_wp2_with fail
  refine (Mul_ok _ (X + Y) Z ((X + Y) * Z) rfl sXY hZ (sXY.mul hZ) (by decide) (by decide) (by decide) hE).mono ?_
  rintro _ w15 ⟨rfl, hb1⟩
  replace hE := hE.below hb1
  replace hb := bCall hb hb1
  clear hb1
  go_wp2_with fail
  refine (Mul_ok _ X Z (X * Z) rfl hX hZ pXZ (by decide) (by decide) (by decide) hE).mono ?_
  rintro _ w16 ⟨rfl, hb1⟩
  replace hE := hE.below hb1
  replace hb := bCall hb hb1
  clear hb1
  go_wp2_with fail
  refine (Add_ok _ (X * Z) (Y * Z) ((X + Y) * Z) (Int.add_mul X Y Z).symm pXZ pYZ (sXY.mul hZ) (by decide) (by decide) (by decide) hE).mono ?_
  rintro _ w17 ⟨rfl, hb1⟩
  replace hE := hE.below hb1
  replace hb := bCall hb hb1
  clear hb1
  go_wp2_with fail
  refine (Sub_ok _ X Y (X - Y) rfl hX hY sub (by decide) (by decide) (by decide) hE).mono ?_
  rintro _ w18 ⟨rfl, hb1⟩
  replace hE := hE.below hb1
  replace hb := bCall hb hb1
  clear hb1
  go_wp2_with fail
  refine (Add_ok _ (X - Y) Y X (Int.sub_add_cancel X Y) sub hY hX (by decide) (by decide) (by decide) hE).mono ?_
  rintro _ w19 ⟨rfl, hb1⟩
  replace hE := hE.below hb1
  replace hb := bCall hb hb1
  clear hb1
  go_wp2_with fail
  have hc := Mul_ok _ X 1 X (Int.mul_one X) hX Ig.sz_one hX (by decide) (by decide) (by decide) hE
  rw [itoa_one] at hc
  refine hc.mono ?_
  clear hc
  rintro _ w20 ⟨rfl, hb1⟩
  replace hE := hE.below hb1
  replace hb := bCall hb hb1
  clear hb1
  go_wp2_with fail
  have hc := Mul_ok _ X 0 0 (Int.mul_zero X) hX (Ig.sz_zero 1) (Ig.sz_zero 1) (by decide) (by decide) (by decide) hE
  rw [itoa_zero] at hc
  refine hc.mono ?_
  clear hc
  rintro _ w21 ⟨rfl, hb1⟩
  replace hE := hE.below hb1
  replace hb := bCall hb hb1
  clear hb1
  clear mX mY mZ
  go_wp2
  go_ret
  exact ⟨rfl, hb⟩
end Go.Proofs.YtdjnkaeggnkgeaaGreatDoor
