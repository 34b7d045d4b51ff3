/- IntegerDivided: the walk. -/
import Derived.Test.YtdjnkaeggnkgeaaGreatDoorILaw
namespace Go.Proofs.YtdjnkaeggnkgeaaGreatDoor
set_option linter.unusedVariables false
set_option linter.unusedSimpArgs false
open Go.RowKit Go.Shelf
set_option maxRecDepth 100000 in
set_option maxHeartbeats 8000000 in
theorem integerDivided_any (a : List UInt8) (b : List UInt8) (w : World) (la : a.length ≤ 9223372036854775807) (lb : b.length ≤ 9223372036854775807) (hE : Env w) :
    Calls Tryz.prog 4 #[.string ⟨a.toArray⟩, .string ⟨b.toArray⟩] w fun e w' => e = .returned (.bool true) ∧ Below w.heap.size w w' := by
  have hb := Below.refl w.heap.size w
  have mX := fun w0 => Made_any a 90 w0 la (by decide)
  have hX := made_sz a 90
  generalize sgn (Dx.madeB a) (Dx.madeN a 90) = X at *
  have mY := fun w0 => Made_any b 60 w0 lb (by decide)
  have hY := made_sz b 60
  generalize sgn (Dx.madeB b) (Dx.madeN b 60) = Y at *
  by_cases hY0 : Y = 0
  · subst hY0
    rw [itoa_zero] at mY
    have hD := fun w0 => Div_zero X w0 (hX.fits (by decide))
    rw [itoa_zero] at hD
    go_enter Tryz.func4, Tryz.ntmps4
    go_wp2_with fail
    refine (sane_any _ hE).mono ?_
    rintro _ w1 ⟨rfl, hb1⟩
    replace hE := hE.below hb1
    replace hb := bCall hb hb1
    clear hb1
    go_wp2_with fail
    refine (mX _).mono ?_
    rintro _ w2 ⟨rfl, hb1⟩
    replace hE := hE.below hb1
    replace hb := bCall hb hb1
    clear hb1
    go_wp2_with fail
    refine (mY _).mono ?_
    rintro _ w3 ⟨rfl, hb1⟩
    replace hE := hE.below hb1
    replace hb := bCall hb hb1
    clear hb1
    go_wp2_with fail
    refine (hD _).mono ?_
    rintro _ w4 ⟨rfl, hb1⟩
    replace hE := hE.below hb1
    replace hb := bCall hb hb1
    clear hb1
    clear mX mY hD
    go_wp2
    go_ret
    exact ⟨rfl, hb⟩
  · have hne : ¬ (Lib.itoa Y = [48]) := fun h => hY0 (Ig.itoa_inj (h.trans itoa_zero.symm))
    have hbq : (Lib.itoa Y == [48]) = false := by simpa using hne
    have hQ : Ig.Sz 90 (X / Y) := Nat.lt_of_le_of_lt (Int.natAbs_ediv_le_natAbs X Y) hX
    have hR : Ig.Sz 60 (X % Y) := by
      have h1 := Int.emod_nonneg X hY0
      have h2 := Int.emod_lt X hY0
      unfold Ig.Sz at *
      omega
    have hQR : X / Y * Y + X % Y = X := by rw [Int.mul_comm]; exact Int.mul_ediv_add_emod X Y
    have hR0 := Int.emod_nonneg X hY0
    have hRl := Int.emod_lt X hY0
    have hD := fun w0 hE => Div_any X Y w0 (hX.fits (by decide)) (hY.fits (by decide)) hY0 hE
    have hXY := hX.mul hY
    have hD2 := fun w0 hE => Div_any (X * Y) Y w0 (hXY.fits (by decide)) (hY.fits (by decide)) hY0 hE
    rw [Int.mul_ediv_cancel X hY0, Int.mul_emod_left, itoa_zero] at hD2
    have hV := fun w0 => Valid_any (Lib.itoa (X % Y)) (fits_small (hR.fits (by decide))) w0
    rw [Ig.valid_itoa (hR.fits (by decide))] at hV
    generalize X / Y = Q at *
    generalize X % Y = R at *
    have hQY := hQ.mul hY
    have hc0 : decide (cmpZ R 0 ≥ 0) = true := by unfold cmpZ; split <;> (try split) <;> first | rfl | omega
    have hC0 := fun w0 => Cmp_ok w0 R 0 _ rfl hR (Ig.sz_zero 1) (by decide) (by decide)
    rw [itoa_zero] at hC0
    generalize cmpZ R 0 = c0 at *
    rcases (show Y < 0 ∨ 0 < Y by omega) with hs | hs
    · have hC1 := fun w0 => Cmp_ok w0 Y 0 (-1) (by unfold cmpZ; rw [if_pos hs]) hY (Ig.sz_zero 1) (by decide) (by decide)
      rw [itoa_zero] at hC1
      have hC2 := fun w0 => Cmp_ok w0 R (-Y) (-1) (by unfold cmpZ; rw [if_pos (by omega)]) hR hY.neg (by decide) (by decide)
      go_enter Tryz.func4, Tryz.ntmps4
      go_wp2_with fail
      refine (sane_any _ hE).mono ?_
      rintro _ w1 ⟨rfl, hb1⟩
      replace hE := hE.below hb1
      replace hb := bCall hb hb1
      clear hb1
      go_wp2_with fail
      refine (mX _).mono ?_
      rintro _ w2 ⟨rfl, hb1⟩
      replace hE := hE.below hb1
      replace hb := bCall hb hb1
      clear hb1
      go_wp2_with fail
      refine (mY _).mono ?_
      rintro _ w3 ⟨rfl, hb1⟩
      replace hE := hE.below hb1
      replace hb := bCall hb hb1
      clear hb1
      go_wp2_with fail
      refine (hD _ hE).mono ?_
      rintro _ w4 ⟨rfl, hb1⟩
      replace hE := hE.below hb1
      replace hb := bCall hb hb1
      clear hb1
      go_wp2_with fail
      refine (Mul_ok _ Q Y (Q * Y) rfl hQ hY hQY (by decide) (by decide) (by decide) hE).mono ?_
      rintro _ w5 ⟨rfl, hb1⟩
      replace hE := hE.below hb1
      replace hb := bCall hb hb1
      clear hb1
      go_wp2_with fail
      refine (Add_ok _ (Q * Y) R X hQR hQY (hR.mono (show 60 ≤ 150 by decide)) hX (by decide) (by decide) (by decide) hE).mono ?_
      rintro _ w6 ⟨rfl, hb1⟩
      replace hE := hE.below hb1
      replace hb := bCall hb hb1
      clear hb1
      go_wp2_with fail
      have hc := Mul_ok _ Y 1 Y (Int.mul_one Y) hY Ig.sz_one hY (by decide) (by decide) (by decide) hE
      rw [itoa_one] at hc
      refine hc.mono ?_
      clear hc
      rintro _ w7 ⟨rfl, hb1⟩
      replace hE := hE.below hb1
      replace hb := bCall hb hb1
      clear hb1
      go_wp2_with fail
      refine (hC1 _).mono ?_
      rintro _ w8 ⟨rfl, hb1⟩
      replace hE := hE.below hb1
      replace hb := bCall hb hb1
      clear hb1
      go_wp2_with fail
      have hc := Sub_ok _ 0 Y (-Y) (Int.zero_sub Y) (Ig.sz_zero 1) hY hY.neg (by decide) (by decide) (by decide) hE
      rw [itoa_zero] at hc
      refine hc.mono ?_
      clear hc
      rintro _ w9 ⟨rfl, hb1⟩
      replace hE := hE.below hb1
      replace hb := bCall hb hb1
      clear hb1
      go_wp2_with fail
      refine (Mul_ok _ X Y (X * Y) rfl hX hY hXY (by decide) (by decide) (by decide) hE).mono ?_
      rintro _ w10 ⟨rfl, hb1⟩
      replace hE := hE.below hb1
      replace hb := bCall hb hb1
      clear hb1
      go_wp2_with fail
      refine (hD2 _ hE).mono ?_
      rintro _ w11 ⟨rfl, hb1⟩
      replace hE := hE.below hb1
      replace hb := bCall hb hb1
      clear hb1
      go_wp2_with fail
      refine (hC0 _).mono ?_
      rintro _ w12 ⟨rfl, hb1⟩
      replace hE := hE.below hb1
      replace hb := bCall hb hb1
      clear hb1
      go_wp2_with fail
      refine (hC2 _).mono ?_
      rintro _ w13 ⟨rfl, hb1⟩
      replace hE := hE.below hb1
      replace hb := bCall hb hb1
      clear hb1
      go_wp2_with fail
      refine (hV _).mono ?_
      rintro _ w14 ⟨rfl, hb1⟩
      replace hE := hE.below hb1
      replace hb := bCall hb hb1
      clear hb1
      clear mX mY hD hD2 hC0 hC1 hC2 hV
      go_wp2
      go_ret
      exact ⟨rfl, hb⟩
    · have hC1 := fun w0 => Cmp_ok w0 Y 0 1 (by unfold cmpZ; rw [if_neg (by omega), if_pos hs]) hY (Ig.sz_zero 1) (by decide) (by decide)
      rw [itoa_zero] at hC1
      have hC2 := fun w0 => Cmp_ok w0 R Y (-1) (by unfold cmpZ; rw [if_pos (by omega)]) hR hY (by decide) (by decide)
      go_enter Tryz.func4, Tryz.ntmps4
      go_wp2_with fail
      refine (sane_any _ hE).mono ?_
      rintro _ w1 ⟨rfl, hb1⟩
      replace hE := hE.below hb1
      replace hb := bCall hb hb1
      clear hb1
      go_wp2_with fail
      refine (mX _).mono ?_
      rintro _ w2 ⟨rfl, hb1⟩
      replace hE := hE.below hb1
      replace hb := bCall hb hb1
      clear hb1
      go_wp2_with fail
      refine (mY _).mono ?_
      rintro _ w3 ⟨rfl, hb1⟩
      replace hE := hE.below hb1
      replace hb := bCall hb hb1
      clear hb1
      go_wp2_with fail
      refine (hD _ hE).mono ?_
      rintro _ w4 ⟨rfl, hb1⟩
      replace hE := hE.below hb1
      replace hb := bCall hb hb1
      clear hb1
      go_wp2_with fail
      refine (Mul_ok _ Q Y (Q * Y) rfl hQ hY hQY (by decide) (by decide) (by decide) hE).mono ?_
      rintro _ w5 ⟨rfl, hb1⟩
      replace hE := hE.below hb1
      replace hb := bCall hb hb1
      clear hb1
      go_wp2_with fail
      refine (Add_ok _ (Q * Y) R X hQR hQY (hR.mono (show 60 ≤ 150 by decide)) hX (by decide) (by decide) (by decide) hE).mono ?_
      rintro _ w6 ⟨rfl, hb1⟩
      replace hE := hE.below hb1
      replace hb := bCall hb hb1
      clear hb1
      go_wp2_with fail
      have hc := Mul_ok _ Y 1 Y (Int.mul_one Y) hY Ig.sz_one hY (by decide) (by decide) (by decide) hE
      rw [itoa_one] at hc
      refine hc.mono ?_
      clear hc
      rintro _ w7 ⟨rfl, hb1⟩
      replace hE := hE.below hb1
      replace hb := bCall hb hb1
      clear hb1
      go_wp2_with fail
      refine (hC1 _).mono ?_
      rintro _ w8 ⟨rfl, hb1⟩
      replace hE := hE.below hb1
      replace hb := bCall hb hb1
      clear hb1
      go_wp2_with fail
      refine (Mul_ok _ X Y (X * Y) rfl hX hY hXY (by decide) (by decide) (by decide) hE).mono ?_
      rintro _ w9 ⟨rfl, hb1⟩
      replace hE := hE.below hb1
      replace hb := bCall hb hb1
      clear hb1
      go_wp2_with fail
      refine (hD2 _ hE).mono ?_
      rintro _ w10 ⟨rfl, hb1⟩
      replace hE := hE.below hb1
      replace hb := bCall hb hb1
      clear hb1
      go_wp2_with fail
      refine (hC0 _).mono ?_
      rintro _ w11 ⟨rfl, hb1⟩
      replace hE := hE.below hb1
      replace hb := bCall hb hb1
      clear hb1
      go_wp2_with fail
      refine (hC2 _).mono ?_
      rintro _ w12 ⟨rfl, hb1⟩
      replace hE := hE.below hb1
      replace hb := bCall hb hb1
      clear hb1
      go_wp2_with fail
      refine (hV _).mono ?_
      rintro _ w13 ⟨rfl, hb1⟩
      replace hE := hE.below hb1
      replace hb := bCall hb hb1
      clear hb1
      clear mX mY hD hD2 hC0 hC1 hC2 hV
      go_wp2
      go_ret
      exact ⟨rfl, hb⟩
end Go.Proofs.YtdjnkaeggnkgeaaGreatDoor
